/-
  What the law VerdictEnds stands on, part 4.
-/
import Derived.Test.YtamidpfdiijjgaaW28c
namespace Go.AM
open Go Go.Proofs Go.RowKit
set_option linter.unusedVariables false
set_option linter.unusedSimpArgs false
set_option maxRecDepth 100000
section
abbrev stpS (s : AskS) : TS := stepT s.T s.ends
structure SideAt (h : Heap) (xb lb cb sb : Nat) (lv nv : AV) (BB : AB) (al : List AskH) (sl : List AskS) (ct : List (Nat × Nat)) (pl : List Txt) (nc : List Bool) (w : Txt) (tab : Nat → Nat → Nat) (fl ob : Nat → Nat) (ou : Nat → List Int) : Prop where
 r : RulesAt h xb lb (scPtr sb) (bufSl cb ct.length (ctC (al.map askP) ct)) w.length al sl
 c : ct.length ≠ 0 → h[cb]? = some (.cells (ctC (al.map askP) ct) 168 true)
 s : ScanX h sb lv nv BB pl nc w tab fl ob ou
 ok : ∀ x ∈ ct, ∃ s, sl[x.1]? = some s ∧ x.2 < s.ends.length
 cl : ct.length = pl.length
 ap : ∀ c, scFoot sb lv nv BB (begs (pl.map fold)).length ob ou c → c < h.length ∧ c ≠ xb ∧ ¬ askF al c ∧ ∀ (k : Nat) (a : AskH), al[k]? = some a → c ≠ a.eb
def sideF (xb sb : Nat) (al : List AskH) (c : Nat) : Prop := c = xb ∨ c = sb ∨ askF al c ∨ ∃ (k : Nat) (a : AskH), al[k]? = some a ∧ c = a.eb
theorem call1_83 {args : List AV} {h : Heap} {R : AV → Heap → Prop} (hn : args.length ≤ 76) (hw : Wt Try.prog (D cfg1) c83 ⟨argsEnv 0 args, h⟩ (Ends Try.prog [.tmp 4, .tmp 5] R)) : ∃ r h', D cfg1 83 args h = some (r, h') ∧ R r h' :=
 let ⟨_, hb, hk⟩ := c83_eq
 W.calls (c := cfg1) rfl c83_fn hb hk c83_rs (by rw [c83_nt]; exact hn) hw
theorem setsTo_len {b : Bool} {ct : List (Nat × Nat)} : ∀ {zs : List Int} {sl : List AskS}, (setsTo b ct sl zs).length = sl.length
 | [], sl => rfl
 | z :: zs, sl => by
  show (setsTo b ct (setOne b ct sl z) zs).length = _
  rw [setsTo_len]
  unfold setOne
  split
  · split <;> simp
  · rfl
theorem setOne_T {b : Bool} {ct : List (Nat × Nat)} {sl : List AskS} {z : Int} {s : AskS} (h : s ∈ setOne b ct sl z) : ∃ t ∈ sl, s.T = t.T := by
 unfold setOne at h
 split at h
 · split at h
   · rename_i t ht
     rcases List.mem_or_eq_of_mem_set h with h | h
     · exact ⟨s, h, rfl⟩
     · exact ⟨t, List.mem_of_getElem? ht, by rw [h]; rfl⟩
   · exact ⟨s, h, rfl⟩
 · exact ⟨s, h, rfl⟩
theorem setsTo_T {b : Bool} {ct : List (Nat × Nat)} : ∀ {zs : List Int} {sl : List AskS} {s : AskS}, s ∈ setsTo b ct sl zs → ∃ t ∈ sl, s.T = t.T
 | [], sl, s, h => ⟨s, h, rfl⟩
 | z :: zs, sl, s, h => by
  obtain ⟨t, h1, h2⟩ := setsTo_T (sl := setOne b ct sl z) (zs := zs) h
  obtain ⟨u, h3, h4⟩ := setOne_T h1
  exact ⟨u, h3, h2.trans h4⟩
theorem toldS_ends {stp : AskS → TS} {s : AskS} : (stepS stp s).ends = s.ends := by
 unfold stepS toldS
 split
 · rfl
 · split <;> rfl
def stepSl (ct : List (Nat × Nat)) (sl : List AskS) (zs : List Int) : List AskS := setsTo false ct ((setsTo true ct sl zs).map (stepS stpS)) zs
section
variable {h : Heap} {xb lb cb sb : Nat} {lv nv : AV} {BB : AB} {al : List AskH} {sl : List AskS} {ct : List (Nat × Nat)} {pl : List Txt} {nc : List Bool} {w : Txt} {tab : Nat → Nat → Nat} {fl ob : Nat → Nat} {ou : Nat → List Int}
theorem step_side (H : SideAt h xb lb cb sb lv nv BB al sl ct pl nc w tab fl ob ou) (hsl : sl.length ≤ 1000) (hat : ∀ s ∈ sl, s.T.at_ ≤ 900000) (hw : w.length ≤ 100000) {b : UInt8} {zs : List Int} (hzs : zs = scHits nc (w ++ [b]) pl 0) {ns : List Note} (hns : ns = toldNotes stpS (w.length + 1) (setsTo true ct sl zs)) :
  ∃ v al' h', D cfg1 83 [xPtr xb, .int .u8 b.toNat] h = some (.tup [v, .int .i64 (worstM ns)], h') ∧ NotesAt h' v ns ∧ v.notTup = true ∧ SideAt h' xb lb cb sb lv nv BB al' (stepSl ct sl zs) ct pl nc (w ++ [b]) tab fl ob ou ∧
   Only (fun c => sideF xb sb al c ∨ h.length ≤ c) h h' ∧ (∀ c, sideF xb sb al' c → sideF xb sb al c ∨ h.length ≤ c) := by
 obtain ⟨h1, hh1⟩ : ∃ h1, h.set xb (.cells (xC (scPtr sb) (bufSl cb ct.length (ctC (al.map askP) ct)) (bufSl lb al.length (al.map askP)) (w.length + 1)) 163 false) = h1 := ⟨_, rfl⟩
 obtain ⟨R1, o1⟩ := H.r.next hh1
 have S1 := H.s.keep o1 fun c hc => (H.ap c hc).2.1
 obtain ⟨ring, hring, hsb⟩ := S1.sc.hdr
 obtain ⟨bl, h2, e2, S2, o2, hz2⟩ := scan_step S1 (by omega) (b := b)
 rw [← hzs] at e2 hz2
 have R2 := R1.other hsb o2 (by decide)
 have hcx : ct.length ≠ 0 → cb ≠ xb := fun hne e => by
  have := H.r.kx
  rw [← e, H.c hne] at this; simp at this
 have c1 : ct.length ≠ 0 → h1[cb]? = some (.cells (ctC (al.map askP) ct) 168 true) := fun hne => o1.at (H.c hne) (hcx hne)
 have c2 : ct.length ≠ 0 → h2[cb]? = some (.cells (ctC (al.map askP) ct) 168 true) := fun hne => o2.at (c1 hne) fun e => by
  have := c1 hne
  rw [e, hsb] at this; simp at this
 have I2 : EI h2 h2 xb lb cb bl (w.length + 1) (scPtr sb) al sl ct zs := ⟨R2, c2, fun hne => (hz2 hne).2, H.ok, .refl⟩
 have hz : ∀ z ∈ zs, ∃ k : Nat, k < ct.length ∧ z = k := fun z hm => by
  rw [hzs] at hm
  obtain ⟨k, q1, q2⟩ := scHits_mem hm
  exact ⟨k, by rw [H.cl]; exact q1, by rw [q2]; simp⟩
 have hzl : zs.length ≤ 1000000 := by
  have := scHits_len (nc := nc) (w := w ++ [b]) (l := pl) (i := 0)
  have := H.s.few
  rw [hzs]; omega
 have q3 := cell_load H.r.kx (n := 4) rfl (t := 3) (by simp) (off := 3) rfl
 have w1 : IntKind.wrap .i64 ((w.length : Int) + 1) = w.length + 1 := wrap_i64 (by omega) (by omega)
 have st := cell_store H.r.kx (n := 4) rfl (t := 3) (by simp) (off := 3) (v := .int .i64 ((w.length : Int) + 1)) rfl (by omega)
 have hh1' : h.set xb (.cells [scPtr sb, bufSl cb ct.length (ctC (al.map askP) ct), bufSl lb al.length (al.map askP), .int .i64 ((w.length : Int) + 1)] 163 false) = h1 := by rw [← hh1]; simp [xC]
 have q0 := cell_load R1.kx (n := 4) rfl (t := 69) (by simp) (off := 0) rfl
 have e2' := lift e2
 have hzlen : ∀ L, alen Try.prog L 30 (intSl bl zs) = some (.int .i64 zs.length) := fun L => by
  have := (intSl_sl I2.z).len (t := 30) (e := 3) (by simp) (L := L)
  rwa [show (intCells zs).length = zs.length by simp [intCells]] at this
 obtain ⟨hv, hhv⟩ : ∃ hv, hv = intSl bl zs := ⟨_, rfl⟩
 have key : ∃ r h', D cfg1 83 [xPtr xb, .int .u8 b.toNat] h = some (r, h') ∧ ∃ v al', r = .tup [v, .int .i64 (worstM ns)] ∧ NotesAt h' v ns ∧ v.notTup = true ∧ SideAt h' xb lb cb sb lv nv BB al' (stepSl ct sl zs) ct pl nc (w ++ [b]) tab fl ob ou ∧
   Only (fun c => sideF xb sb al c ∨ h.length ≤ c) h h' ∧ (∀ c, sideF xb sb al' c → sideF xb sb al c ∨ h.length ≤ c) := by
  refine call1_83 (args := [xPtr xb, .int .u8 b.toNat]) (h := h) (by simp) ?_
  simp [-AV.cells, -AV.one, -AV.notTup, c83, c83_r0, c83_r1, c83_r2, c83_r3, fieldA, q3, w1, st, hh1', q0, e2', len1, hzlen]
  refine ends_loopa (u := .nilf) hz hzl I2 fun h3 I3 => ?_
  have hpre : ∀ s ∈ setsTo true ct sl zs, s.T.at_ ≤ 900000 := fun s hs => by
   obtain ⟨t, q1, q2⟩ := setsTo_T hs
   rw [q2]; exact hat t q1
  obtain ⟨nk, al', h4, e4, R4, o4, f4, m4, me4, k4⟩ := told_run done116 hpre (by rw [setsTo_len]; exact hsl) I3.r
  rw [← hns] at e4 k4
  obtain ⟨sl1, hsl1⟩ : ∃ sl1, sl1 = setsTo true ct sl zs := ⟨_, rfl⟩
  rw [← hsl1] at R4 I3
  have out3 : ∀ {c : Nat} {cs : List AV} {t : TypeId}, h3[c]? = some (.cells cs t true) → ¬ (askF al c ∨ h3.length ≤ c) := fun hc e => by
   rcases e with ⟨k, a, ha, e⟩ | e
   · obtain ⟨q1, q2⟩ := I3.r.ak.apart ha hc (.inl rfl)
     rcases e with e | e
     · exact q1 e.symm
     · exact q2 e
   · have := lt_of_at hc; omega
  have ok4 : ∀ x ∈ ct, ∃ s, (sl1.map (stepS stpS))[x.1]? = some s ∧ x.2 < s.ends.length := fun x hx => by
   obtain ⟨s, q1, q2⟩ := I3.ok x hx
   exact ⟨stepS stpS s, by simp [q1], by rw [toldS_ends]; exact q2⟩
  have I4 : EI h4 h4 xb lb cb bl (w.length + 1) (scPtr sb) al' (sl1.map (stepS stpS)) ct zs := by
   refine ⟨by rw [m4]; exact R4, fun hne => ?_, fun hne => ?_, ok4, .refl⟩
   · rw [m4]; exact o4.at (I3.c hne) (out3 (I3.c hne))
   · exact o4.at (I3.z hne) (out3 (I3.z hne))
  have hzlen4 : ∀ L, alen Try.prog L 30 (intSl bl zs) = some (.int .i64 zs.length) := hzlen
  have hnt : (notesSl nk ns).notTup = true := notesSl_nt
  obtain ⟨nv', hnv⟩ : ∃ nv', nv' = notesSl nk ns := ⟨_, rfl⟩
  rw [← hnv] at e4 hnt
  simp [-AV.cells, -AV.one, -AV.notTup, c83_r9, c83_r10, e4, len1, hzlen, evalA]
  refine ends_loopb (u := nv') hz hzl I4 fun h5 I5 => ?_
  have hnl : ns.length ≤ 1000000 := by
   have := toldNotes_len (stp := stpS) (n := w.length + 1) (sl := setsTo true ct sl zs)
   rw [setsTo_len] at this
   rw [hns]; omega
  have N5 : NotesAt h5 nv' ns := ⟨nk, hnv, fun hne => I5.o.at (k4 hne).2 fun e => by
   rcases e with ⟨k, a, ha, e⟩ | e
   · obtain ⟨s, _, A⟩ := R4.ak.get ha
     have := A.ends
     rw [← e, (k4 hne).2] at this
     simp at this
   · have := lt_of_at (k4 hne).2; omega⟩
  obtain ⟨h6, e6, o6⟩ := worst_run N5 hnl
  have e6' := lift e6
  simp [-AV.cells, -AV.one, -AV.notTup, c83_r16, e6', hnt, notTup_int]
  have hebs : ∀ (k : Nat) (a : AskH), al'[k]? = some a → ∃ a0, al[k]? = some a0 ∧ a.eb = a0.eb := fun k a ha => by
   have h1 : (al'.map (fun a => a.eb))[k]? = some a.eb := by simp [ha]
   rw [me4, List.getElem?_map] at h1
   cases h2 : al[k]? with
   | none => rw [h2] at h1; simp at h1
   | some a0 => rw [h2] at h1; simp at h1; exact ⟨a0, rfl, h1.symm⟩
  have L1 : h.length ≤ h1.length := o1.1
  have L2 : h1.length ≤ h2.length := o2.1
  have L3 : h2.length ≤ h3.length := I3.o.1
  have L4 : h3.length ≤ h4.length := o4.1
  have L5 : h4.length ≤ h5.length := I5.o.1
  have S5 : ScanX h6 sb lv nv BB pl nc (w ++ [b]) tab fl ob ou := by
   have S3 := S2.keep I3.o fun c hc e => by
    obtain ⟨p1, p2, p3, p4⟩ := H.ap c hc
    rcases e with ⟨k, a, ha, e⟩ | e
    · exact p4 k a ha e
    · omega
   have S4 := S3.keep o4 fun c hc e => by
    obtain ⟨p1, p2, p3, p4⟩ := H.ap c hc
    rcases e with e | e
    · exact p3 e
    · omega
   have S5 := S4.keep I5.o fun c hc e => by
    obtain ⟨p1, p2, p3, p4⟩ := H.ap c hc
    rcases e with ⟨k, a, ha, e⟩ | e
    · obtain ⟨a0, q1, q2⟩ := hebs k a ha
      exact p4 k a0 q1 (by rw [← q2]; exact e)
    · omega
   exact S5.same o6
  refine ⟨N5.same o6, al', ⟨?_, fun hne => o6.at (I5.c hne) id, S5, fun x hx => ?_, H.cl, fun c hc => ?_⟩, ?_, fun c hc => ?_⟩
  · have := I5.r.same o6
    rw [show (w ++ [b]).length = w.length + 1 by simp, stepSl, ← hsl1]
    exact this
  · rw [stepSl, ← hsl1]; exact I5.ok x hx
  · obtain ⟨p1, p2, p3, p4⟩ := H.ap c hc
    refine ⟨by have := o6.1; omega, p2, fun e => ?_, fun k a ha e => ?_⟩
    · rcases f4 c e with e | e
      · exact p3 e
      · omega
    · obtain ⟨a0, q1, q2⟩ := hebs k a ha
      exact p4 k a0 q1 (by rw [← q2]; exact e)
  · refine ((((o1.mono fun c _ e => .inl (.inl e)).trans (o2.mono fun c _ e => .inl (.inr (.inl e)))).trans (I3.o.mono fun c hc e => ?_)).trans (o4.mono fun c hc e => ?_)).trans ((I5.o.mono fun c hc e => ?_).trans (o6.mono fun _ _ e => e.elim))
    · rcases e with e | e
      · exact .inl (.inr (.inr (.inr e)))
      · omega
    · rcases e with e | e
      · exact .inl (.inr (.inr (.inl e)))
      · omega
    · rcases e with ⟨k, a, ha, e⟩ | e
      · obtain ⟨a0, q1, q2⟩ := hebs k a ha
        exact .inl (.inr (.inr (.inr ⟨k, a0, q1, by rw [← q2]; exact e⟩)))
      · omega
  · rcases hc with e | e | e | ⟨k, a, ha, e⟩
    · exact .inl (.inl e)
    · exact .inl (.inr (.inl e))
    · rcases f4 c e with e | e
      · exact .inl (.inr (.inr (.inl e)))
      · exact .inr (by omega)
    · obtain ⟨a0, q1, q2⟩ := hebs k a ha
      exact .inl (.inr (.inr (.inr ⟨k, a0, q1, by rw [← q2]; exact e⟩)))
 obtain ⟨r, h', e, v, al', rfl, rest⟩ := key
 exact ⟨v, al', h', e, rest⟩
end
end
section
structure RuleV where
 rc : List AV
 action : Int
 sid : Int
 cv : AV
 conts : List Cont
structure RuleV.ok (r : RuleV) : Prop where
 len : r.rc.length = 15
 act : r.rc[0]? = some (.int .i64 r.action)
 sid : r.rc[13]? = some (.int .i64 r.sid)
 cv : r.rc[12]? = some r.cv
 few : r.conts.length ≤ 1000
 small : ∀ c ∈ r.conts, c.small
 plain : ∀ x ∈ r.rc, x.plain = true
def rulesC (rs : List RuleV) : List AV := rs.flatMap fun r => r.rc
abbrev rulesSl (rb : Nat) (rs : List RuleV) : AV := bufSl rb rs.length (rulesC rs)
structure RulesIn (h : Heap) (rb : Nat) (rs : List RuleV) : Prop where
 sl : rs.length ≠ 0 → h[rb]? = some (.cells (rulesC rs) 107 true)
 ok : ∀ r ∈ rs, r.ok
 cs : ∀ r ∈ rs, SlC h r.cv r.conts
 cq : ∀ r ∈ rs, ∀ b, slB r.cv = some b → ∃ cs, h[b]? = some (.cells cs 52 true) ∧ ∀ x ∈ cs, x.plain = true
theorem rulesC_len : ∀ {rs : List RuleV}, (∀ r ∈ rs, r.ok) → (rulesC rs).length = rs.length * 15
 | [], _ => rfl
 | r :: rs, h => by
  have := rulesC_len (rs := rs) fun x hx => h x (List.mem_cons_of_mem _ hx)
  have h1 := (h r (List.mem_cons_self ..)).len
  simp only [rulesC, List.flatMap_cons, List.length_append, List.length_cons] at this ⊢
  rw [this, h1]; omega
theorem rulesC_drop : ∀ {rs : List RuleV} {i : Nat} (_ : ∀ r ∈ rs, r.ok) (h : i < rs.length), ((rulesC rs).drop (i * 15)).take 15 = rs[i].rc
 | [], i, _, h => by simp at h
 | r :: rs, 0, hk, h => by
  have h1 := (hk r (List.mem_cons_self ..)).len
  show (r.rc ++ rulesC rs).take 15 = _
  rw [List.take_append_of_le_length (by omega), List.take_of_length_le (by omega)]
  rfl
 | r :: rs, i + 1, hk, h => by
  have h1 := (hk r (List.mem_cons_self ..)).len
  have ih := rulesC_drop (rs := rs) (i := i) (fun x hx => hk x (List.mem_cons_of_mem _ hx)) (by simpa using h)
  show ((r.rc ++ rulesC rs).drop ((i + 1) * 15)).take 15 = _
  rw [show (i + 1) * 15 = r.rc.length + i * 15 by omega, ← List.drop_drop, List.drop_left]
  simpa using ih
section
variable {h h' : Heap} {rb : Nat} {rs : List RuleV}
theorem RulesIn.len (H : RulesIn h rb rs) {L : Look} : alen Try.prog L 89 (rulesSl rb rs) = some (.int .i64 rs.length) := by
 unfold rulesSl bufSl
 by_cases hl : rs.length = 0
 · rw [if_pos hl]; simp [alen, hl]
 · rw [if_neg hl]; simp [alen]
theorem RulesIn.at (H : RulesIn h rb rs) {i : Nat} (hi : i < rs.length) : aindexAddr Try.prog 89 (rulesSl rb rs) (.int .i64 i) = some (.ptr (some ⟨rb, i * 15, (rulesC rs).length⟩)) ∧
  aload Try.prog (look h) 107 (.ptr (some ⟨rb, i * 15, (rulesC rs).length⟩)) = some (.agg rs[i].rc) ∧ aload Try.prog (look h) 42 (.ptr (some ⟨rb, i * 15 + 12, (rulesC rs).length⟩)) = some rs[i].cv := by
 have hl : rs.length ≠ 0 := by omega
 have hb := H.sl hl
 have hi' : (i : Int) < rs.length := by omega
 have hd := rulesC_drop H.ok hi
 have hlen : i * 15 + 15 ≤ (rulesC rs).length := by rw [rulesC_len H.ok]; omega
 have ok := H.ok _ (List.getElem_mem hi)
 refine ⟨?_, ?_, ?_⟩
 · unfold rulesSl bufSl
   rw [if_neg hl]
   simp [aindexAddr, hi']
 · simp [aload, row, hb, agk, hlen, hd]
 · have h12 : (rulesC rs)[i * 15 + 12]? = some rs[i].cv := by
    have := ok.cv
    rw [← hd, List.getElem?_take, if_pos (by omega), List.getElem?_drop] at this
    exact this
   simp [aload, row, hb, agk, h12]
theorem RulesIn.same (H : RulesIn h rb rs) (ho : Only (fun _ => False) h h') : RulesIn h' rb rs :=
 ⟨fun hne => ho.at (H.sl hne) id, H.ok, fun r hr => (H.cs r hr).same ho, fun r hr b hb => by
  obtain ⟨o, h1, h2⟩ := H.cq r hr b hb
  exact ⟨o, ho.at h1 id, h2⟩⟩
theorem plain_one {x : AV} (h : x.plain = true) : x.one = true := by cases x <;> simp [AV.plain, AV.one] at h ⊢
theorem oAA_refl {a : Option AA} : oAA a a = true := by cases a <;> simp [oAA, AA.beq]
theorem plain_beq {x : AV} (h : x.plain = true) : x.beq x = true := by cases x <;> simp [AV.plain, AV.beq, AV.beqP, oAA_refl] at h ⊢
theorem beqL_plain : ∀ {l : List AV}, (∀ x ∈ l, x.plain = true) → beqL AV.beq l l = true
 | [], _ => rfl
 | x :: l, h => by
  simp only [beqL, plain_beq (h x (List.mem_cons_self ..)), beqL_plain fun y hy => h y (List.mem_cons_of_mem _ hy), Bool.and_self]
theorem beq_cells {l : List AV} (h : ∀ x ∈ l, x.plain = true) {t : TypeId} {g : Bool} : AObj.beq (.cells l t g) (.cells l t g) = true := by
 simp [AObj.beq, beqL_plain h]
theorem RulesIn.beq (H : RulesIn h rb rs) : AObj.beq (.cells (rulesC rs) 107 true) (.cells (rulesC rs) 107 true) = true := by
 refine beq_cells fun x hx => ?_
 obtain ⟨r, hr, hx⟩ := List.mem_flatMap.1 hx
 exact (H.ok r hr).plain x hx
end
end
section
section
variable {h : Heap} {al : List AskH} {sl : List AskS} {a : AskH} {s : AskS}
theorem AsksAt.snoc (H : AsksAt h al sl) (A : AskAt h a s) (hf : ∀ (k : Nat) (b : AskH), al[k]? = some b → b.ab ≠ a.ab ∧ b.eb ≠ a.eb ∧ ∀ c, trF b.tb b.fl c → ¬ trF a.tb a.fl c) : AsksAt h (al ++ [a]) (sl ++ [s]) := by
 have at2 : ∀ {k : Nat} {b : AskH}, (al ++ [a])[k]? = some b → al[k]? = some b ∨ (k = al.length ∧ b = a) := fun {k b} hb => by
  by_cases hk : k < al.length
  · rw [List.getElem?_append_left hk] at hb; exact .inl hb
  · rw [List.getElem?_append_right (by omega)] at hb
    have : k - al.length = 0 := by
     by_cases e : k - al.length = 0
     · exact e
     · rw [List.getElem?_eq_none (by simp; omega)] at hb; simp at hb
    rw [this] at hb
    simp at hb
    exact .inr ⟨by omega, hb.symm⟩
 refine ⟨by simp [H.len], fun k b t hb ht => ?_, fun i j b c hij hb hc => ?_⟩
 · rcases at2 hb with q | ⟨rfl, rfl⟩
   · rw [List.getElem?_append_left (by rw [← H.len]; exact (List.getElem?_eq_some_iff.1 q).1)] at ht
     exact H.at_ k b t q ht
   · rw [H.len, List.getElem?_append_right (Nat.le_refl _)] at ht
     simp at ht
     subst ht
     exact A
 · rcases at2 hb with q | ⟨rfl, rfl⟩
   · rcases at2 hc with p | ⟨rfl, rfl⟩
     · exact H.sep i j b c hij q p
     · exact hf i b q
   · rcases at2 hc with p | ⟨rfl, rfl⟩
     · obtain ⟨q1, q2, q3⟩ := hf j c p
       exact ⟨Ne.symm q1, Ne.symm q2, fun x h1 h2 => q3 x h2 h1⟩
     · exact absurd rfl hij
theorem AsksAt.fresh {h₀ : Heap} (H : AsksAt h₀ al sl) (h1 : h₀.length ≤ a.ab) (h2 : h₀.length ≤ a.eb) (h3 : ∀ c, trF a.tb a.fl c → h₀.length ≤ c) : ∀ (k : Nat) (b : AskH), al[k]? = some b → b.ab ≠ a.ab ∧ b.eb ≠ a.eb ∧ ∀ c, trF b.tb b.fl c → ¬ trF a.tb a.fl c := by
 intro k b hb
 obtain ⟨t, _, B⟩ := H.get hb
 have q1 := lt_of_at B.hdr
 have q2 := lt_of_at B.ends
 refine ⟨by omega, by omega, fun c hc hc2 => ?_⟩
 obtain ⟨cs, ty, q3, _⟩ := B.trk.typ hc
 have := lt_of_at q3
 have := h3 c hc2
 omega
theorem AsksAt.nil : AsksAt h [] [] := ⟨rfl, fun k a s ha => by simp at ha, fun i j a b _ ha => by simp at ha⟩
end
end
theorem bufSl_nt {b n : Nat} {xs : List AV} : AV.notTup (bufSl b n xs) = true := by
 unfold bufSl
 split <;> rfl
theorem LL.sl {h₀ h : Heap} {B : Nat} {bs : List Nat} {ls : List (List Int)} (H : LL h₀ h B bs ls) : Sl1 h (llSl B bs ls) (List.zipWith intSl bs ls) := by
 have hz : (List.zipWith intSl bs ls).length = ls.length := by simp [H.len]
 have := Sl1.buf (h := h) (b := B) (e := 30) (s := true) (xs := List.zipWith intSl bs ls) (fun hn => (H.top (by omega)).1)
 rw [hz] at this
 exact this
theorem LL.get {h₀ h : Heap} {B : Nat} {bs : List Nat} {ls : List (List Int)} (H : LL h₀ h B bs ls) {i : Nat} (hi : i < ls.length) :
  ∃ b, aindexAddr Try.prog 44 (llSl B bs ls) (.int .i64 i) = some (elp (llSl B bs ls) i) ∧ aload Try.prog (look h) 30 (elp (llSl B bs ls) i) = some (intSl b ls[i]) ∧ (ls[i] ≠ [] → h[b]? = some (.cells (intCells ls[i]) 3 true)) := by
 have hz : (List.zipWith intSl bs ls).length = ls.length := by simp [H.len]
 have hb : i < bs.length := by rw [H.len]; exact hi
 have a1 := H.sl.at (t := 44) (e := 30) (by simp) (by simp) (i := i) (by omega)
 have b1 := H.sl.load (e := 30) (by simp) (i := i) (by omega)
 rw [List.getElem_zipWith] at b1
 exact ⟨bs[i], a1, b1, fun hne => (H.each i ls[i] bs[i] (List.getElem?_eq_getElem hi) (List.getElem?_eq_getElem hb) hne).1⟩
theorem SlC.fields {h : Heap} {v : AV} {l : List Cont} (H : SlC h v l) {i : Nat} (hi : i < l.length) :
  ∃ p2 p5, fieldA Try.prog 52 2 (elC v i) = some (p2, .no) ∧ fieldA Try.prog 52 5 (elC v i) = some (p5, .no) ∧
   ∀ h', Only (fun _ => False) h h' → aload Try.prog (look h') 4 p2 = some (.bool l[i].not) ∧ aload Try.prog (look h') 4 p5 = some (.bool l[i].rel) := by
 rcases H with ⟨rfl, rfl⟩ | ⟨b, g, c, cs, rfl, h1, h2⟩
 · simp at hi
 · have h3 := h2 i l[i] (List.getElem?_eq_getElem hi)
   have at' : ∀ k, k < 8 → cs[i * 8 + k]? = (contCell l[i])[k]? := by
    intro k hk
    rw [← h3, List.getElem?_take, if_pos hk, List.getElem?_drop]
   refine ⟨.ptr (some ⟨b, i * 8 + 2, g⟩), .ptr (some ⟨b, i * 8 + 5, g⟩), by simp [fieldA, elC], by simp [fieldA, elC], fun h' ho => ?_⟩
   have h4 : ∀ k, AM.row (look h') { b := b, off := i * 8 + k, gen := g } = some cs := fun k => row_only ho h1 id
   constructor
   · simp only [aload, h4]
     simp [at' 2 (by omega)]
   · simp only [aload, h4]
     simp [at' 5 (by omega)]
theorem SlC.cells {h : Heap} {b : Nat} {e : TypeId} {g : Bool} {l : List Cont} (hl : l ≠ []) (hb : h[b]? = some (.cells (l.flatMap contCell) e g)) : SlC h (.sl (some ⟨b, 0, l.length * 8⟩) l.length l.length) l := by
 have hlen : ∀ l : List Cont, (l.flatMap contCell).length = l.length * 8 := by
  intro l
  induction l with
  | nil => rfl
  | cons c r ih => simp only [List.flatMap_cons, List.length_append, ih, List.length_cons]; simp [contCell]; omega
 refine .inr ⟨b, l.length * 8, l.length, l.flatMap contCell, rfl, by simp only [AM.row, look_at, hb]; rw [if_pos (hlen l)], ?_⟩
 have key : ∀ (l : List Cont) i c, l[i]? = some c → ((l.flatMap contCell).drop (i * 8)).take 8 = contCell c := by
  intro l
  induction l with
  | nil => intro i c h; simp at h
  | cons d r ih =>
   intro i c h
   cases i with
   | zero => simp at h; subst h; rfl
   | succ i =>
    have := ih i c (by simpa using h)
    rw [← this, show (i + 1) * 8 = 8 + i * 8 by omega, ← List.drop_drop]
    rfl
 exact key l
theorem slB_lt {h : Heap} {v : AV} {xs : List AV} (H : Sl1 h v xs) : ∀ b, slB v = some b → b < h.length := by
 intro b hb
 rcases H with ⟨rfl, _⟩ | ⟨b', o, g, c, cs, rfl, hr, _⟩
 · simp [slB] at hb
 · simp [slB] at hb
   subst hb
   rcases Nat.lt_or_ge b' h.length with h5 | h5
   · exact h5
   · simp [row, look_at, List.getElem?_eq_none h5] at hr
section
def hitCells (l : List (Int × Int)) : List AV := l.flatMap fun p => [.int .i64 p.1, .int .i64 p.2]
theorem hitCells_len {l : List (Int × Int)} : (hitCells l).length = l.length * 2 := by
 induction l with
 | nil => rfl
 | cons x r ih => simp only [hitCells, List.flatMap_cons, List.length_append, List.length_cons, List.length_nil] at ih ⊢; omega
theorem hitCells_app {a b : List (Int × Int)} : hitCells (a ++ b) = hitCells a ++ hitCells b := by simp [hitCells]
def hitSl (b : Nat) (l : List (Int × Int)) : AV := bufSl b l.length (hitCells l)
structure HitH (h₀ : Heap) (l : List (Int × Int)) (b : Nat) (h : Heap) : Prop where
 at_ : l.length ≠ 0 → h[b]? = some (.cells (hitCells l) 75 true) ∧ h₀.length ≤ b
theorem HitH.step {h₀ h : Heap} {l : List (Int × Int)} {b : Nat} (H : HitH h₀ l b h) (hh : h₀.length ≤ h.length) (hn : l.length ≤ 1000000) {p : Int × Int} :
  ∃ δ h' b', b' = (if l.length = 0 then h.length + 1 else b) ∧ append2 Try.prog (look (h ++ [AObj.cells [.int .i64 p.1, .int .i64 p.2] 75 true])) (h.length + 1) 71 71 [hitSl b l, .sl (some ⟨h.length, 0, 2⟩) 1 1] = some (hitSl b' (l ++ [p]), δ) ∧ Heap.apply (h ++ [AObj.cells [.int .i64 p.1, .int .i64 p.2] 75 true]) δ = h' ∧
   HitH h₀ (l ++ [p]) b' h' ∧ Only (fun c => c = b ∧ l.length ≠ 0) h h' := by
 obtain ⟨δ, h', e1, e2, e3, e4⟩ := append_buf (t := 71) (e := 75) (k := 2) (by simp) (by simp) (by decide) (by simp) (by simp) (h := h) (b := b) (n := l.length) (xs := hitCells l) (ys := [.int .i64 p.1, .int .i64 p.2]) (by simp) (by rw [hitCells_len]) (fun hne => (H.at_ hne).1) hn
 have e : hitCells l ++ [AV.int .i64 p.1, AV.int .i64 p.2] = hitCells (l ++ [p]) := by rw [hitCells_app]; rfl
 rw [e] at e1 e3
 refine ⟨δ, h', if l.length = 0 then h.length + 1 else b, rfl, ?_, e2, ⟨fun _ => ⟨e3, ?_⟩⟩, e4⟩
 · simp only [hitSl, List.length_append, List.length_cons, List.length_nil]
   exact e1
 · split
   · omega
   · rename_i hne; exact (H.at_ hne).2
theorem HitH.keep {h₀ h h' : Heap} {l : List (Int × Int)} {b : Nat} {fp : Nat → Prop} (H : HitH h₀ l b h) (ho : Only fp h h') (hf : l.length ≠ 0 → ¬ fp b) : HitH h₀ l b h' :=
 ⟨fun hne => ⟨ho.at (H.at_ hne).1 (hf hne), (H.at_ hne).2⟩⟩
section
variable {h₀ : Heap} {sb : Nat} {lv nv : AV} {B : AB} {l : List Txt} {nc : List Bool} {t : Txt} {tab : Nat → Nat → Nat} {fl ob : Nat → Nat} {ou : Nat → List Int}
structure AllI (h₁ : Heap) (sb : Nat) (lv nv : AV) (B : AB) (l : List Txt) (nc : List Bool) (w : Txt) (tab : Nat → Nat → Nat) (fl ob : Nat → Nat) (ou : Nat → List Int) (hs : List (Int × Int)) (b : Nat) (h : Heap) : Prop where
 sc : ScanX h sb lv nv B l nc w tab fl ob ou
 hit : HitH h₁ hs b h
 only : Only (fun c => c = sb) h₁ h
theorem AllI.more {h₁ h : Heap} {w : Txt} {hs : List (Int × Int)} {b : Nat} (H : AllI h₁ sb lv nv B l nc w tab fl ob ou hs b h) (hlt : ∀ c, scFoot sb lv nv B (begs (l.map fold)).length ob ou c → c < h₁.length) (hn : hs.length ≤ 1000000) {p : Int × Int} :
  ∃ δ h' b', b' = (if hs.length = 0 then h.length + 1 else b) ∧ append2 Try.prog (look (h ++ [AObj.cells [.int .i64 p.1, .int .i64 p.2] 75 true])) (h.length + 1) 71 71 [hitSl b hs, .sl (some ⟨h.length, 0, 2⟩) 1 1] = some (hitSl b' (hs ++ [p]), δ) ∧ Heap.apply (h ++ [AObj.cells [.int .i64 p.1, .int .i64 p.2] 75 true]) δ = h' ∧
   AllI h₁ sb lv nv B l nc w tab fl ob ou (hs ++ [p]) b' h' ∧ Only (fun c => c = b ∧ hs.length ≠ 0) h h' := by
 obtain ⟨δ, h2, b2, e0, e2, e3, H2, o2⟩ := H.hit.step H.only.1 hn (p := p)
 refine ⟨δ, h2, b2, e0, e2, e3, ⟨H.sc.keep o2 fun c hc hb => ?_, H2, ⟨Nat.le_trans H.only.1 o2.1, fun c hc hne => ?_⟩⟩, o2⟩
 · have h1 := hlt c hc
   have h2 := (H.hit.at_ hb.2).2
   have := hb.1
   omega
 · rw [o2.2 c (Nat.lt_of_lt_of_le hc H.only.1) (fun hb => by have h2 := (H.hit.at_ hb.2).2; have := hb.1; omega), H.only.2 c hc hne]
end
end
section
section
variable {h : Heap} {v u : AV} {l : List Txt} {nc : List Bool} {t : Txt}
theorem begs_fold_le (hg : bgood l = true) (hl : l.length ≤ 200) : (begs (l.map fold)).length ≤ 4096 := by
 have := bgood_begs (l := l.map fold) (by rw [bgood_fold]; exact hg)
 simp at this
 omega
theorem PatH.slB {h₀ h : Heap} {l : List Txt} {b : Nat} (H : PatH h₀ l b h) : ∀ c, slB (txtSl b l) = some c → c < h.length := fun c hc => by
 simp only [txtSl] at hc
 obtain ⟨rfl, hne⟩ := slB_buf hc
 exact lt_of_at (H.at_ hne).1
end
end
def hd (b : Nat) (all : List (Int × Int)) (k : Nat) : AV := if all.length = 0 then .sl none 0 0 else .sl (some ⟨b, k * 2, all.length * 2⟩) (all.length - k) (all.length - k)
structure R7 (h₀ h : Heap) (tb pa nb : Nat) (T : TS) (fl : FL) (b1 b2 : Nat) (ps : List Txt) (ns : List Bool) : Prop where
 tr : TrackAt h tb pa nb T fl
 only : Only (fun _ => False) h₀ h
 fresh : ∀ c, trF tb fl c → h₀.length ≤ c
 p1 : ps.length ≠ 0 → h[b1]? = some (.cells (strCells ps) 9 true) ∧ h₀.length ≤ b1
 p2 : ns.length ≠ 0 → h[b2]? = some (.cells (boolCells ns) 4 true) ∧ h₀.length ≤ b2
theorem append_buf3 {t e k : Nat} (ht : tk Try.prog t = .slice e) (hk : tsz Try.prog e = k) (hk0 : 0 < k) (hz : zeroOK Try.prog e = true) (hby : Try.prog.bytesOf e ≤ 100) {h : Heap} {b n : Nat} {xs ys : List AV} (hys : ys.length = k) (hxs : xs.length = n * k)
  (hb : n ≠ 0 → h[b]? = some (.cells xs e true)) (hn : n ≤ 1000000) :
  ∃ δ h', append2 Try.prog (look (h ++ [AObj.cells ys e true])) (h.length + 1) t t [bufSl b n xs, .sl (some ⟨h.length, 0, k⟩) 1 1] = some (bufSl (if n = 0 then h.length + 1 else b) (n + 1) (xs ++ ys), δ) ∧ Heap.apply (h ++ [AObj.cells ys e true]) δ = h' ∧
   h'[if n = 0 then h.length + 1 else b]? = some (.cells (xs ++ ys) e true) ∧ Only (fun c => c = b ∧ n ≠ 0) h h' ∧ ((n = 0 ∧ ∃ o, δ = .new o) ∨ (n ≠ 0 ∧ ∃ o, δ = .set b o)) := by
 have hsrc : srcCells Try.prog (look (h ++ [AObj.cells ys e true])) e (.sl (some ⟨h.length, 0, k⟩) 1 1) = some (1, ys) := by
  simp [srcCells, slCells, row, hk, hys]
  exact List.take_of_length_le (by omega)
 have hroom : ∀ m, m ≤ 1000001 → m * Try.prog.bytesOf e ≤ roomMax := fun m hm => by
  have := Nat.mul_le_mul hm hby
  simp only [roomMax]
  omega
 by_cases hn0 : n = 0
 · subst hn0
   have hxs0 : xs = [] := List.length_eq_zero_iff.1 (by simpa using hxs)
   subst hxs0
   refine ⟨.new (.cells ys e true), h ++ [AObj.cells ys e true] ++ [AObj.cells ys e true], ?_, rfl, ?_, ?_, .inl ⟨rfl, _, rfl⟩⟩
   · have h1 := hroom 1 (by omega)
     simp only [append2, aappend, ht, hk, hsrc, hk0, if_true, bufSl, aappendE]
     simp at h1
     simp [h1, hz]
   · simp
   · rw [List.append_assoc]; exact .app
 · have hb1 := hb hn0
   have hlt := lt_of_at hb1
   have hb2 : (h ++ [AObj.cells ys e true])[b]? = some (.cells xs e true) := by rw [List.getElem?_append_left hlt]; exact hb1
   rw [if_neg hn0]
   refine ⟨.set b (.cells (xs ++ ys) e true), (h ++ [AObj.cells ys e true]).set b (.cells (xs ++ ys) e true), ?_, rfl, ?_, ?_, .inr ⟨hn0, _, rfl⟩⟩
   · have h1 := hroom (n + 1) (by omega)
     have h2 : ¬ (n + 1 ≤ n) := by omega
     have h3 : n + 1 ≤ 9223372036854775807 := by omega
     have h4 : xs.take (n * k) = xs := List.take_of_length_le (by omega)
     simp only [append2, aappend, ht, hk, hsrc, hk0, if_true, bufSl, hn0, if_false, aappendE, look_at, hb2]
     simp [h1, hz, h2, h3, hxs, h4]
   · rw [List.getElem?_set_self (by simp; omega)]
   · exact Only.app.trans (.set ⟨rfl, hn0⟩)
theorem boolSl_nt {b : Nat} {l : List Bool} : (boolSl b l).notTup = true := bufSl_notTup
theorem txtSl_nt {b : Nat} {l : List Txt} : (txtSl b l).notTup = true := bufSl_notTup
def In50 (h₀ : Heap) (v : AV) (n : Nat) (m : Nat) (st : St) : Prop := ∃ (i : Nat) (s : Txt) (b : Nat) (h : Heap), m = n - i ∧ i ≤ n ∧ s.length = i ∧ st = ⟨[(0, v), (1, .int .i64 n), (5, bufSl b s.length (byteCells s)), (6, .int .i64 i)], h⟩ ∧
 (s.length ≠ 0 → h[b]? = some (.cells (byteCells s) 5 true) ∧ h₀.length ≤ b) ∧ Only (fun _ => False) h₀ h
theorem tmod_nat {a b : Nat} : ((a : Int)).tmod b = ((a % b : Nat) : Int) := by
 rw [Int.tmod_eq_emod_of_nonneg (by omega)]; omega
theorem end50 {P : Txt → Prop} {h₀ h : Heap} {v : AV} {n i : Nat} {s : Txt} {b : Nat} (hb : s.length ≠ 0 → h[b]? = some (.cells (byteCells s) 5 true) ∧ h₀.length ≤ b) (ho : Only (fun _ => False) h₀ h) (hs : P s) {ρ : Env} (h5 : ρ.get 5 = some (bufSl b s.length (byteCells s))) :
  Wt Try.prog (D cfg) (.seq (.reg c50_r6 none (some [4])) .ret) ⟨ρ, h⟩ (Ends Try.prog [.tmp 4] fun r h' => ∃ s : Txt, r = .str s ∧ P s ∧ Only (fun _ => False) h₀ h') := by
 by_cases h0 : s.length = 0
 · have : s = [] := List.length_eq_zero_iff.1 h0
   subst this
   rw [List.length_nil, bufSl_zero] at h5
   have hfin : ∃ s : Txt, (.str [] : AV) = .str s ∧ P s ∧ Only (fun _ => False) h₀ h := ⟨[], rfl, hs, ho⟩
   simp [c50_r6, h5, aconv]
   simpa using hfin
 · obtain ⟨hb1, _⟩ := hb h0
   have ht : List.take s.length (byteCells s) = byteCells s := List.take_of_length_le (by rw [byteCells_len]; omega)
   have h0' : 0 < s.length := by omega
   have hfin : ∃ s' : Txt, (.str s : AV) = .str s' ∧ P s' ∧ Only (fun _ => False) h₀ h := ⟨s, rfl, hs, ho⟩
   simp only [bufSl, if_neg h0, byteCells_len] at h5
   simp [c50_r6, h5, aconv, slCells, AM.row, hb1, byteCells_len, ht, cellBytes_all]
   simpa using hfin
theorem letters2 {h : Heap} {v : AV} {l : List Int} (hv : Sl1 h v (intCells l)) {n : Nat} (hn : n ≤ 1000) (hl : l.length ≤ 9223372036854775807) :
  ∃ (s : Txt) (h' : Heap), D cfg 50 [v, .int .i64 n] h = some (.str s, h') ∧ (s.length ≤ n ∧ (l.length ≠ 0 → s.length = n)) ∧ Only (fun _ => False) h h' := by
 have key : ∃ r h', D cfg 50 [v, .int .i64 n] h = some (r, h') ∧ (∃ s : Txt, r = .str s ∧ (s.length ≤ n ∧ (l.length ≠ 0 → s.length = n)) ∧ Only (fun _ => False) h h') := by
  refine call50 (R := fun r h' => ∃ s : Txt, r = .str s ∧ (s.length ≤ n ∧ (l.length ≠ 0 → s.length = n)) ∧ Only (fun _ => False) h h') (args := [v, .int .i64 n]) (h := h) (by simp) ?_
  have hlen := fun L => hv.len (t := 30) (e := 3) (by simp) (L := L)
  simp only [intCells_len] at hlen
  simp [c50, c50_r0, c50_r1, c50_r2]
  refine Wt.loop (In50 h v n) (m := n) ⟨0, [], 0, h, rfl, Nat.zero_le _, rfl, by simp [bufSl], by simp, .refl⟩ ?_
  rintro m st ⟨i, s, b, h1, rfl, hi, hsi, rfl, hb, ho⟩
  have hcut : cut (some [0, 1, 5, 6]) [(0, v), (1, .int .i64 (n : Int)), (5, bufSl b s.length (byteCells s)), (6, .int .i64 (i : Nat))] = [(0, v), (1, .int .i64 n), (5, bufSl b s.length (byteCells s)), (6, .int .i64 (i : Nat))] := by simp
  simp only [hcut]
  have hend := fun (hP : s.length ≤ n ∧ (l.length ≠ 0 → s.length = n)) ρ h5 => end50 (P := fun s => s.length ≤ n ∧ (l.length ≠ 0 → s.length = n)) (v := v) (n := n) (i := i) hb ho hP (ρ := ρ) h5
  by_cases hin : i < n
  · have hin' : (i : Int) < n := by omega
    by_cases hl0 : l.length = 0
    · simp only [hl0] at hlen
      simp [c50_l3, c50_r3, hin, hin', len1, hlen]
      have := hend ⟨by omega, fun e => absurd hl0 e⟩ [(0, v), (1, .int .i64 n), (5, bufSl b s.length (byteCells s)), (6, .int .i64 i), (14, .bool false)] (by simp)
      simpa using this
    · have hlp : 0 < l.length := by omega
      have hlp' : (0 : Int) < l.length := by omega
      have hne : (l.length : Int) ≠ 0 := by omega
      have hwr : IntKind.wrap .i64 ((i : Int) + 1) = i + 1 := wrap_i64 (by omega) (by omega)
      have hmod := tmod_nat (a := i) (b := l.length)
      have hml : i % l.length < l.length := Nat.mod_lt _ hlp
      obtain ⟨k, hk⟩ : ∃ k, k = i % l.length := ⟨_, rfl⟩
      rw [← hk] at hmod hml
      have a1 := hv.at (t := 30) (e := 3) (by simp) (by simp) (i := k) (by rw [intCells_len]; exact hml)
      have b1 := (hv.same ho).load (e := 3) (by simp) (i := k) (by rw [intCells_len]; exact hml)
      rw [intCells_get] at b1
      obtain ⟨x, hx⟩ : ∃ x, x = l[k] := ⟨_, rfl⟩
      rw [← hx] at b1
      have p1 := place_run (h := h1) (v := x) (n := 1073741824) (by decide) (by decide)
      obtain ⟨y, hy⟩ : ∃ y, y = x % 1073741824 := ⟨_, rfl⟩
      rw [← hy] at p1
      have hy0 : 0 ≤ y ∧ y < 1073741824 := by omega
      have hii : (i : Int) * i ≤ 1000 * 1000 := Int.mul_le_mul (by omega) (by omega) (by omega) (by omega)
      have hii0 : (0 : Int) ≤ (i : Int) * i := Int.mul_nonneg (by omega) (by omega)
      have hw1 : IntKind.wrap .i64 ((i : Int) * i) = (i : Int) * i := wrap_i64 (by omega) (by omega)
      obtain ⟨q, hq⟩ : ∃ q, q = ((i : Int) * i).tdiv 3 := ⟨_, rfl⟩
      have hq0 : 0 ≤ q ∧ q ≤ 1000000 := by
       rw [hq, Int.tdiv_eq_ediv_of_nonneg hii0]
       omega
      have hw2 : IntKind.wrap .i64 q = q := wrap_i64 (by omega) (by omega)
      have hw3 : IntKind.wrap .i64 (y + q) = y + q := wrap_i64 (by omega) (by omega)
      have p2 := place_run (h := h1) (v := y + q) (n := 4) (by decide) (by decide)
      obtain ⟨z, hz⟩ : ∃ z : Nat, (y + q) % 4 = z := ⟨((y + q) % 4).toNat, by omega⟩
      have hz4 : z < 4 := by omega
      rw [hz] at p2
      obtain ⟨c, hc⟩ : ∃ c : UInt8, ([97, 98, 99, 65] : List UInt8)[z]? = some c := ⟨_, List.getElem?_eq_getElem (by simpa using hz4)⟩
      obtain ⟨δ, h2, e2, e3, e4, o4⟩ := append_byte (h := h1) (b := b) (l := s) (x := c) (fun hne => (hb hne).1) (by omega)
      have hnext : In50 h v n (n - (i + 1)) ⟨[(0, v), (1, .int .i64 n), (5, bufSl (if s.length = 0 then h1.length + 1 else b) (s ++ [c]).length (byteCells (s ++ [c]))), (6, .int .i64 (i + 1 : Nat))], h2⟩ := by
       refine ⟨i + 1, s ++ [c], _, h2, rfl, hin, by simp [hsi], rfl, fun _ => ⟨e4, ?_⟩, ho.fresh o4 fun d e => by rw [e.1]; exact (hb e.2).2⟩
       have := ho.1
       split
       · omega
       · rename_i hne; exact (hb hne).2
      have h3n : (3 : Int) ≠ 0 := by decide
      simp only [List.length_append, List.length_singleton] at e2 hnext
      simp [c50_l3, c50_r3, c50_r4, c50_r5, hin, hin', len1, hlen, hlp, hlp', abin_rem, hne, hl0, hmod, a1, b1, p1, hw1, abin_quo, ← hq, hw2, hw3, p2, aindex, hc, abuildSlice, afill, zeros, e2, e3, hwr]
      exact ⟨n - (i + 1), by omega, by simpa using hnext⟩
  · have hin' : ¬ ((i : Int) < n) := by omega
    simp [c50_l3, c50_r3, hin, hin']
    have := hend ⟨by omega, fun _ => by omega⟩ [(0, v), (1, .int .i64 n), (5, bufSl b s.length (byteCells s)), (6, .int .i64 i), (14, .bool false)] (by simp)
    simpa using this
 obtain ⟨r, h', h1, s, rfl, h2⟩ := key
 exact ⟨s, h', h1, h2⟩
theorem letters {h : Heap} {v : AV} {l : List Int} (hv : Sl1 h v (intCells l)) {n : Nat} (hn : n ≤ 1000) (hl : l.length ≤ 9223372036854775807) :
  ∃ (s : Txt) (h' : Heap), D cfg 50 [v, .int .i64 n] h = some (.str s, h') ∧ s.length ≤ n ∧ Only (fun _ => False) h h' := by
 obtain ⟨s, h', h1, h2, h3⟩ := letters2 hv hn hl
 exact ⟨s, h', h1, h2.1, h3⟩
def c49_sw : SC := (.block 4 (.seq (.reg c49_r13 none (some [0, 3, 4, 5, 6, 7, 9, 59])) (.cond (.tmp 59) (.reg c49_r14 none (some [0, 3, 4, 6])) (.seq (.reg c49_r15 none (some [0, 3, 4, 5, 6, 9, 63])) (.cond (.tmp 63) (.seq (.reg c49_r16 none (some [0, 3, 4, 5, 6])) (.seq (.reg c49_r17 none (some [0, 3, 4, 5, 6])) (.seq (.reg c49_r18 none (some [0, 3, 4, 5, 6, 78])) (.cond (.tmp 78) (.reg c49_r19 none (some [0, 3, 4, 6])) .skip (some [0, 3, 4, 6]))))) (.seq (.reg c49_r20 none (some [0, 3, 4, 5, 6, 9, 87])) (.cond (.tmp 87) (.reg c49_r21 none (some [0, 3, 4, 6])) (.seq (.reg c49_r22 none (some [0, 3, 4, 5, 6, 94])) (.cond (.tmp 94) (.reg c49_r23 none (some [0, 3, 4, 6])) .skip (some [0, 3, 4, 6]))) (some [0, 3, 4, 6]))) (some [0, 3, 4, 6]))) (some [0, 3, 4, 6]))))
theorem c49_l3_eq : c49_l3 = (.seq (.seq (.reg c49_r3 none (some [0, 3, 4, 17])) (.cond (.tmp 17) .skip (.exit 0) (some [0, 3, 4]))) (.seq (.block 1 (.seq (.reg c49_r5 none (some [0, 3, 4, 5])) (.seq (.reg c49_r6 none (some [0, 3, 4, 5, 6])) (.seq (.reg c49_r7 none (some [0, 3, 4, 5, 6, 7])) (.seq (.seq (.reg c49_r8 none (some [0, 3, 4, 5, 6, 7, 8])) (.block 2 (.loop c49_l9 (some [0, 3, 4, 5, 6, 7, 8])))) (.seq (.seq (.reg c49_r12 none (some [0, 3, 4, 5, 6, 7, 9])) c49_sw) (.reg c49_r24 none (some [0, 3, 4])))))))) (.reg c49_r4 none (some [0, 3, 4])))) := rfl
theorem div_fact {a n : Int} (ha : 0 ≤ a) (hn : 0 < n) : 0 ≤ a.tdiv n ∧ a.tdiv n ≤ a := by
 rw [Int.tdiv_eq_ediv_of_nonneg ha]
 exact ⟨Int.ediv_nonneg ha (by omega), Int.ediv_le_self _ ha⟩
theorem mod_fact {a n : Int} (ha : 0 ≤ a) (hn : 0 < n) : 0 ≤ a.tmod n ∧ a.tmod n < n := by
 rw [Int.tmod_eq_emod_of_nonneg ha]
 exact ⟨Int.emod_nonneg _ (by omega), Int.emod_lt_of_pos _ hn⟩
abbrev baseC (s : Txt) (nc : Bool) : Cont := ⟨s, nc, false, 0, 0, false, 0, 0⟩
theorem switch49 {h : Heap} {v m : AV} {i bc : Nat} {x w : Int} {plain nc : Bool} {s : Txt} (hb : h[bc]? = some (.cells (contCell (baseC s nc)) 52 false)) (hx : 0 ≤ x ∧ x < 16777216) (hw : 0 ≤ w ∧ w < 8) (hs : s.length ≤ 3) {Q : AExit → St → Prop}
  (hq : ∀ c' : Cont, c'.small → c'.bytes = s → ∀ h', h'[bc]? = some (.cells (contCell c') 52 false) → Only (fun b => b = bc) h h' → Q .normal ⟨[(0, v), (3, m), (4, .int .i64 i), (6, .ptr (some ⟨bc, 0, 8⟩))], h'⟩) :
  Wt Try.prog (D cfg) c49_sw ⟨[(0, v), (3, m), (4, .int .i64 i), (5, .int .i64 x), (6, .ptr (some ⟨bc, 0, 8⟩)), (7, .bool plain), (9, .int .i64 w)], h⟩ Q := by
 have hl := lt_of_at hb
 have g72 := div_fact hx.1 (n := 72) (by decide)
 have g576 := div_fact hx.1 (n := 576) (by decide)
 have g1152 := div_fact hx.1 (n := 1152) (by decide)
 obtain ⟨d72, e72⟩ : ∃ d, d = x.tdiv 72 := ⟨_, rfl⟩
 obtain ⟨d576, e576⟩ : ∃ d, d = x.tdiv 576 := ⟨_, rfl⟩
 obtain ⟨d1152, e1152⟩ : ∃ d, d = x.tdiv 1152 := ⟨_, rfl⟩
 rw [← e72] at g72
 rw [← e576] at g576
 rw [← e1152] at g1152
 have w72 : IntKind.wrap .i64 d72 = d72 := wrap_i64 (by omega) (by omega)
 have w576 : IntKind.wrap .i64 d576 = d576 := wrap_i64 (by omega) (by omega)
 have w1152 : IntKind.wrap .i64 d1152 = d1152 := wrap_i64 (by omega) (by omega)
 have m8 := mod_fact g72.1 (n := 8) (by decide)
 have m5 := mod_fact g72.1 (n := 5) (by decide)
 have m9 := mod_fact g72.1 (n := 9) (by decide)
 have m6 := mod_fact g1152.1 (n := 6) (by decide)
 have wm8 : IntKind.wrap .i64 (d72.tmod 8 - 3) = d72.tmod 8 - 3 := wrap_i64 (by omega) (by omega)
 have wm9 : IntKind.wrap .i64 ((s.length : Int) + d72.tmod 9) = s.length + d72.tmod 9 := wrap_i64 (by omega) (by omega)
 have wm6 : IntKind.wrap .i64 ((s.length : Int) + d1152.tmod 6) = s.length + d1152.tmod 6 := wrap_i64 (by omega) (by omega)
 have put : ∀ c' : Cont, c'.small → c'.bytes = s → Q .normal ⟨[(0, v), (3, m), (4, .int .i64 i), (6, .ptr (some ⟨bc, 0, 8⟩))], h.set bc (.cells (contCell c') 52 false)⟩   := fun c' hc' hcb =>
  hq c' hc' hcb _ (List.getElem?_set_self hl) (.set rfl)
 have keep : Q .normal ⟨[(0, v), (3, m), (4, .int .i64 i), (6, .ptr (some ⟨bc, 0, 8⟩))], h⟩ := hq (baseC s nc) ⟨by simp; omega, by simp, by simp, by simp, by simp⟩ rfl h hb .refl
 by_cases h0 : w = 0
 · have := put ⟨s, nc, true, 0, 0, false, 0, 0⟩ ⟨by simp; omega, by simp, by simp, by simp, by simp⟩
   simp [c49_sw, c49_r13, c49_r14, h0, fieldA, astore, hb]
   simpa using this
 · have tail : w < 4 → plain = true → Wt Try.prog (D cfg) c49_sw ⟨[(0, v), (3, m), (4, .int .i64 i), (5, .int .i64 x), (6, .ptr (some ⟨bc, 0, 8⟩)), (7, .bool plain), (9, .int .i64 w)], h⟩ Q := by
    intro h4 hp
    by_cases h2 : d576.tmod 2 = 0
    · have := put ⟨s, nc, false, 0, 0, true, d72.tmod 8 - 3, s.length + d1152.tmod 6⟩ ⟨by simp; omega, by simp, by simp, by simp; omega, by simp; omega⟩
      simp [c49_sw, c49_r13, c49_r14, c49_r15, c49_r16, c49_r17, c49_r18, c49_r19, h0, h4, hp, fieldA, astore, aload, AM.row, hb, at_put, abin_quo, abin_rem, ← e72, ← e576, ← e1152, w72, w576, w1152, wm8, wm6, h2, len1, alenS]
      simpa using this
    · have := put ⟨s, nc, false, 0, 0, true, d72.tmod 8 - 3, 0⟩ ⟨by simp; omega, by simp, by simp, by simp; omega, by simp⟩
      simp [c49_sw, c49_r13, c49_r14, c49_r15, c49_r16, c49_r17, c49_r18, c49_r19, h0, h4, hp, fieldA, astore, aload, AM.row, hb, at_put, abin_quo, abin_rem, ← e72, ← e576, ← e1152, w72, w576, w1152, wm8, wm6, h2, len1, alenS]
      simpa using this
   have rest : ¬ (w < 4 ∧ plain = true) → Wt Try.prog (D cfg) c49_sw ⟨[(0, v), (3, m), (4, .int .i64 i), (5, .int .i64 x), (6, .ptr (some ⟨bc, 0, 8⟩)), (7, .bool plain), (9, .int .i64 w)], h⟩ Q := by
    intro hno
    by_cases h4 : w < 4
    · cases plain with
      | true => exact absurd ⟨h4, rfl⟩ hno
      | false =>
       have n4 : ¬ (w = 4) := by omega
       have n5 : ¬ (w = 5) := by omega
       simp [c49_sw, c49_r13, c49_r14, c49_r15, c49_r20, c49_r21, c49_r22, c49_r23, h0, fieldA, astore, aload, AM.row, hb, at_put, abin_quo, abin_rem, ← e72, w72, wm9, len1, alenS, h4, n4, n5]
       simpa using keep
    · by_cases h44 : w = 4
      · have := put ⟨s, nc, false, d72.tmod 5, 0, false, 0, 0⟩ ⟨by simp; omega, by simp; omega, by simp, by simp, by simp⟩
        simp [c49_sw, c49_r13, c49_r14, c49_r15, c49_r20, c49_r21, c49_r22, c49_r23, h0, fieldA, astore, aload, AM.row, hb, at_put, abin_quo, abin_rem, ← e72, w72, wm9, len1, alenS, h44]
        simpa using this
      · by_cases h5 : w = 5
        · have := put ⟨s, nc, false, 0, s.length + d72.tmod 9, false, 0, 0⟩ ⟨by simp; omega, by simp, by simp; omega, by simp, by simp⟩
          simp [c49_sw, c49_r13, c49_r14, c49_r15, c49_r20, c49_r21, c49_r22, c49_r23, h0, fieldA, astore, aload, AM.row, hb, at_put, abin_quo, abin_rem, ← e72, w72, wm9, len1, alenS, h5]
          simpa using this
        · simp [c49_sw, c49_r13, c49_r14, c49_r15, c49_r20, c49_r21, c49_r22, c49_r23, h0, fieldA, astore, aload, AM.row, hb, at_put, abin_quo, abin_rem, ← e72, w72, wm9, len1, alenS, h4, h44, h5]
          simpa using keep
   by_cases hc : w < 4 ∧ plain = true
   · exact tail hc.1 hc.2
   · exact rest hc
abbrev contSl (b : Nat) (zs : List Cont) : AV := bufSl b zs.length (zs.flatMap contCell)
theorem flat_len {l : List Cont} : (l.flatMap contCell).length = l.length * 8 := by
 induction l with
 | nil => rfl
 | cons c r ih => simp only [List.flatMap_cons, List.length_append, ih, List.length_cons]; simp [contCell]; omega
theorem SlC.buf {h : Heap} {b : Nat} {zs : List Cont} (hb : zs.length ≠ 0 → h[b]? = some (.cells (zs.flatMap contCell) 52 true)) : SlC h (contSl b zs) zs := by
 by_cases hz : zs.length = 0
 · have : zs = [] := List.length_eq_zero_iff.1 hz
   subst this
   exact .inl ⟨by simp [bufSl], rfl⟩
 · have hne : zs ≠ [] := fun e => hz (by rw [e]; rfl)
   have := SlC.cells hne (hb hz)
   simp only [bufSl, if_neg hz, flat_len]
   exact this
theorem build_cont {n : Nat} {c : Cont} : abuildSlice Try.prog n 42 1 [(0, c.av)] = some (.sl (some ⟨n, 0, 8⟩) 1 1, .new (.cells (contCell c) 52 true)) := by
 simp [abuildSlice, afill, zeros, splice]
theorem append_cont {h : Heap} {b : Nat} {zs : List Cont} {c : Cont} (hb : zs.length ≠ 0 → h[b]? = some (.cells (zs.flatMap contCell) 52 true)) (hn : zs.length ≤ 1000000) :
  ∃ δ h', append2 Try.prog (look (h ++ [AObj.cells (contCell c) 52 true])) (h.length + 1) 42 42 [contSl b zs, .sl (some ⟨h.length, 0, 8⟩) 1 1] = some (contSl (if zs.length = 0 then h.length + 1 else b) (zs ++ [c]), δ) ∧ Heap.apply (h ++ [AObj.cells (contCell c) 52 true]) δ = h' ∧
   h'[if zs.length = 0 then h.length + 1 else b]? = some (.cells ((zs ++ [c]).flatMap contCell) 52 true) ∧ Only (fun x => x = b ∧ zs.length ≠ 0) h h' := by
 obtain ⟨δ, h', h1, h2, h3, h4⟩ := append_buf (t := 42) (e := 52) (k := 8) (by simp) (by simp) (by decide) (by simp) (by simp) (h := h) (b := b) (n := zs.length) (xs := zs.flatMap contCell) (ys := contCell c) (by simp [contCell]) flat_len hb hn
 have e : zs.flatMap contCell ++ contCell c = (zs ++ [c]).flatMap contCell := by simp
 rw [e] at h1 h3
 refine ⟨δ, h', ?_, h2, h3, h4⟩
 rw [h1]
 simp [contSl]
abbrev env49 (v m : AV) (i : Nat) (x : Int) (bc : Nat) (p : Bool) (k : Nat) : Env := [(0, v), (3, m), (4, .int .i64 i), (5, .int .i64 x), (6, .ptr (some ⟨bc, 0, 8⟩)), (7, .bool p), (8, .int .i64 k)]
def In49 (v m : AV) (i : Nat) (x : Int) (bc : Nat) (zs : List Cont) (h : Heap) (mm : Nat) (st : St) : Prop := ∃ (k : Nat) (p : Bool), mm = zs.length - k ∧ k ≤ zs.length ∧ st = ⟨env49 v m i x bc p k, h⟩
theorem plain_loop {h : Heap} {v m : AV} {i bc : Nat} {x : Int} {zs : List Cont} (hm : SlC h m zs) (hz : zs.length ≤ 1000) {Q : AExit → St → Prop} (hq : ∀ (p : Bool) (k : Nat), Q (.exit 2) ⟨env49 v m i x bc p k ++ [(44, .bool false)], h⟩) :
  Wt Try.prog (D cfg) (.loop c49_l9 (some [0, 3, 4, 5, 6, 7, 8])) ⟨env49 v m i x bc false 0, h⟩ Q := by
 have hlen := fun L => hm.len (L := L)
 refine Wt.loop (In49 v m i x bc zs h) (m := zs.length) ⟨0, false, rfl, Nat.zero_le _, rfl⟩ ?_
 rintro mm st ⟨k, p, rfl, hk, rfl⟩
 have hcut : cut (some [0, 3, 4, 5, 6, 7, 8]) (env49 v m i x bc p k) = env49 v m i x bc p k := by simp
 simp only [hcut]
 by_cases hkz : k < zs.length
 · have hkz' : (k : Int) < zs.length := by omega
   have hwr : IntKind.wrap .i64 ((k : Int) + 1) = k + 1 := wrap_i64 (by omega) (by omega)
   cases p with
   | true =>
    have hnext : In49 v m i x bc zs h (zs.length - (k + 1)) ⟨env49 v m i x bc true (k + 1), h⟩ := ⟨k + 1, true, rfl, hkz, rfl⟩
    simp only [env49] at hnext
    simp [c49_l9, c49_r9, c49_r10, c49_r11, len1, hlen, hkz, hkz', hwr]
    exact ⟨zs.length - (k + 1), by omega, by simpa using hnext⟩
   | false =>
    have a1 := hm.at hkz
    obtain ⟨p2, p5, f2, _, ff⟩ := hm.fields hkz
    have f6 := (ff h .refl).1
    have hnext : In49 v m i x bc zs h (zs.length - (k + 1)) ⟨env49 v m i x bc (!zs[k].not) (k + 1), h⟩ := ⟨k + 1, _, rfl, hkz, rfl⟩
    simp only [env49] at hnext
    simp [c49_l9, c49_r9, c49_r10, c49_r11, len1, hlen, hkz, hkz', hwr, a1, f2, f6]
    exact ⟨zs.length - (k + 1), by omega, by simpa using hnext⟩
 · have hkz' : ¬ ((k : Int) < zs.length) := by omega
   have hn := hq p k
   simp only [env49] at hn
   simp [c49_l9, c49_r9, len1, hlen, hkz, hkz']
   simpa using hn
def Cont.few (c : Cont) : Prop := c.small ∧ 1 ≤ c.bytes.length ∧ c.bytes.length ≤ 3
def Out49 (h₀ : Heap) (v : AV) (l : List Int) (mm : Nat) (st : St) : Prop := ∃ (zs : List Cont) (bm : Nat) (h : Heap), mm = l.length - zs.length ∧ zs.length ≤ l.length ∧ zs.length ≤ 3 ∧ (∀ c ∈ zs, c.few) ∧
 st = ⟨[(0, v), (3, contSl bm zs), (4, .int .i64 (zs.length : Nat))], h⟩ ∧ (zs.length ≠ 0 → h[bm]? = some (.cells (zs.flatMap contCell) 52 true) ∧ h₀.length ≤ bm) ∧ Only (fun _ => False) h₀ h
theorem round49 {h₀ h : Heap} {v : AV} {l : List Int} {zs : List Cont} {bm : Nat} (hv : Sl1 h₀ v (intCells l)) (hi : zs.length < l.length) (h3 : zs.length < 3) (hsm : ∀ c ∈ zs, c.few) (hb : zs.length ≠ 0 → h[bm]? = some (.cells (zs.flatMap contCell) 52 true) ∧ h₀.length ≤ bm) (ho : Only (fun _ => False) h₀ h)
  {Q : AExit → St → Prop} (hq : ∀ st, Out49 h₀ v l (l.length - (zs.length + 1)) st → Q .normal st) :
  Wt Try.prog (D cfg) c49_l3 ⟨[(0, v), (3, contSl bm zs), (4, .int .i64 (zs.length : Nat))], h⟩ Q := by
 obtain ⟨i, hii⟩ : ∃ i, i = zs.length := ⟨_, rfl⟩
 have hlen := fun L => hv.len (t := 30) (e := 3) (by simp) (L := L)
 simp only [intCells_len] at hlen
 have hil : (i : Int) < l.length := by omega
 have hi' : i < l.length := by omega
 have hi3 : (i : Int) < 3 := by omega
 have hi3' : i < 3 := by omega
 have hwr : IntKind.wrap .i64 ((i : Int) + 1) = i + 1 := wrap_i64 (by omega) (by omega)
 have a1 := hv.at (t := 30) (e := 3) (by simp) (by simp) (i := i) (by rw [intCells_len]; exact hi')
 have b1 := (hv.same ho).load (e := 3) (by simp) (i := i) (by rw [intCells_len]; exact hi')
 rw [intCells_get] at b1
 have p1 := place_run (h := h) (v := l[i]) (n := 16777216) (by decide) (by decide)
 obtain ⟨x, hx⟩ : ∃ x, x = l[i] % 16777216 := ⟨_, rfl⟩
 rw [← hx] at p1
 have hx0 : 0 ≤ x ∧ x < 16777216 := by omega
 have g7 := div_fact hx0.1 (n := 7) (by decide)
 have g31 := div_fact hx0.1 (n := 31) (by decide)
 have g101 := div_fact hx0.1 (n := 101) (by decide)
 have g3 := div_fact hx0.1 (n := 3) (by decide)
 have g9 := div_fact hx0.1 (n := 9) (by decide)
 have m3 := mod_fact hx0.1 (n := 3) (by decide)
 have m8 := mod_fact g9.1 (n := 8) (by decide)
 have w7 : IntKind.wrap .i64 (x.tdiv 7) = x.tdiv 7 := wrap_i64 (by omega) (by omega)
 have w31 : IntKind.wrap .i64 (x.tdiv 31) = x.tdiv 31 := wrap_i64 (by omega) (by omega)
 have w101 : IntKind.wrap .i64 (x.tdiv 101) = x.tdiv 101 := wrap_i64 (by omega) (by omega)
 have w3 : IntKind.wrap .i64 (x.tdiv 3) = x.tdiv 3 := wrap_i64 (by omega) (by omega)
 have w9 : IntKind.wrap .i64 (x.tdiv 9) = x.tdiv 9 := wrap_i64 (by omega) (by omega)
 have wm : IntKind.wrap .i64 (1 + x.tmod 3) = 1 + x.tmod 3 := wrap_i64 (by omega) (by omega)
 obtain ⟨nn, hnn⟩ : ∃ nn : Nat, 1 + x.tmod 3 = nn := ⟨(1 + x.tmod 3).toNat, by omega⟩
 have hnn3 : nn ≤ 3 := by omega
 rw [hnn] at wm
 obtain ⟨h2, hh2⟩ : ∃ h2, h2 = h ++ [.cells [.int .i64 (x.tdiv 7), .int .i64 (x.tdiv 31), .int .i64 (x.tdiv 101)] 3 true] := ⟨_, rfl⟩
 have o2 : Only (fun _ => False) h h2 := by rw [hh2]; exact .app
 have sl : Sl1 h2 (.sl (some ⟨h.length, 0, 3⟩) 3 3) (intCells [x.tdiv 7, x.tdiv 31, x.tdiv 101]) := Sl1.cells (xs := intCells [x.tdiv 7, x.tdiv 31, x.tdiv 101]) (e := 3) (s := true) (by rw [hh2]; simp [intCells])
 obtain ⟨s, h4, e4, hs, o4⟩ := letters2 sl (n := nn) (by omega) (by simp)
 obtain ⟨nc, hnc⟩ : ∃ nc, nc = decide ((x.tdiv 3).tmod 3 = 0) := ⟨_, rfl⟩
 obtain ⟨h5, hh5⟩ : ∃ h5, h5 = h4 ++ [.cells (contCell (baseC s nc)) 52 false] := ⟨_, rfl⟩
 have o5 : Only (fun _ => False) h4 h5 := by rw [hh5]; exact .app
 have hb5 : h5[h4.length]? = some (.cells (contCell (baseC s nc)) 52 false) := by rw [hh5]; simp
 have oh5 := (o2.trans o4).trans o5
 have hm5 : SlC h5 (contSl bm zs) zs := SlC.buf fun hne => oh5.at (hb hne).1 id
 have hpl := fun Q hq => plain_loop (Q := Q) (v := v) (i := i) (bc := h4.length) (x := x) hm5 (by omega) hq
 have hsw := fun (p : Bool) Q hq => switch49 (Q := Q) (v := v) (m := contSl bm zs) (i := i) (bc := h4.length) (x := x) (w := (x.tdiv 9).tmod 8) (plain := p) (nc := nc) (s := s) hb5 hx0 m8 (by omega) hq
 have hl4 : h.length + 1 ≤ h4.length := by have := (o4).1; rw [hh2] at this; simp at this; omega
 rw [c49_l3_eq]
 rw [← hii]
 simp only [env49, List.cons_append, List.nil_append] at hpl
 rw [show ((0 : Nat) : Int) = 0 from rfl] at hpl
 have hnc' : contCell (baseC s nc) = [.str s, .bool nc, .bool false, .int .i64 0, .int .i64 0, .bool false, .int .i64 0, .int .i64 0] := rfl
 rw [hnc', hnc] at hh5
 simp [c49_r3, c49_r5, c49_r6, c49_r7, c49_r8, len1, hlen, hil, hi', hi3, hi3', a1, b1, p1, abin_quo, abin_rem, w7, w31, w101, w3, hnn, wm, abuildSlice, afill, zeros, splice, ← hh2, e4, abuild, astore, ← hh5]
 refine hpl _ fun p k => ?_
 simp [c49_r12, abin_quo, abin_rem, w9]
 refine hsw p _ fun c' hc' hcb h6 hb6 o6 => ?_
 have cl := contLoads hb6
 have hne6 : zs.length ≠ 0 → h6[bm]? = some (.cells (zs.flatMap contCell) 52 true) := fun hne => o6.at (oh5.at (hb hne).1 id) (by have := lt_of_at (hb hne).1; omega)
 obtain ⟨δ, h7, e7, e8, e9, o7⟩ := append_cont (h := h6) (b := bm) (zs := zs) (c := c') hne6 (by omega)
 have hln : (zs ++ [c']).length = zs.length + 1 := by simp
 have oh6 : Only (fun _ => False) h₀ h6 := (ho.trans oh5).fresh o6 fun b hbc => by have := ho.1; omega
 have hnext : Out49 h₀ v l (l.length - (zs.length + 1)) ⟨[(0, v), (3, contSl (if zs.length = 0 then h6.length + 1 else bm) (zs ++ [c'])), (4, .int .i64 ((zs ++ [c']).length : Nat))], h7⟩ := by
  refine ⟨zs ++ [c'], _, h7, by rw [hln], by rw [hln]; omega, by rw [hln]; omega, fun d hd => ?_, rfl, fun _ => ⟨e9, ?_⟩, oh6.fresh o7 fun b e => by rw [e.1]; exact (hb e.2).2⟩
  · simp at hd
    rcases hd with hd | rfl
    · exact hsm d hd
    · exact ⟨hc', by rw [hcb]; have := hs.2 (by simp); omega⟩
  · have := oh6.1
    split
    · omega
    · rename_i hne; exact (hb hne).2
 have hfin := hq _ hnext
 rw [hln, ← hii] at hfin
 rw [← hii] at e7
 simp [c49_r24, c49_r4, cl, build_cont, e7, e8, hwr]
 simpa using hfin
theorem contents2 {h : Heap} {v : AV} {l : List Int} (hv : Sl1 h v (intCells l)) (hl : l.length ≤ 1000000) :
  ∃ (zs : List Cont) (v' : AV) (h' : Heap), D cfg 49 [v] h = some (v', h') ∧ SlC h' v' zs ∧ (∀ c ∈ zs, c.few) ∧ zs.length ≤ 3 ∧ Only (fun _ => False) h h' := by
 have key : ∃ r h', D cfg 49 [v] h = some (r, h') ∧ (∃ zs : List Cont, SlC h' r zs ∧ (∀ c ∈ zs, c.few) ∧ zs.length ≤ 3 ∧ Only (fun _ => False) h h') := by
  refine call49 (R := fun r h' => ∃ zs : List Cont, SlC h' r zs ∧ (∀ c ∈ zs, c.few) ∧ zs.length ≤ 3 ∧ Only (fun _ => False) h h') (args := [v]) (h := h) (by simp) ?_
  have hlen := fun L => hv.len (t := 30) (e := 3) (by simp) (L := L)
  simp only [intCells_len] at hlen
  simp [c49, c49_r0, c49_r1, c49_r2]
  refine Wt.loop (Out49 h v l) (m := l.length) ⟨[], 0, h, rfl, Nat.zero_le _, by simp, by simp, by simp [bufSl], by simp, .refl⟩ ?_
  rintro mm st ⟨zs, bm, h1, rfl, hzl, hz3, hsm, rfl, hb, ho⟩
  have hcut : cut (some [0, 3, 4]) [(0, v), (3, contSl bm zs), (4, .int .i64 (zs.length : Nat))] = [(0, v), (3, contSl bm zs), (4, .int .i64 (zs.length : Nat))] := by simp
  simp only [hcut]
  by_cases hgo : zs.length < l.length ∧ zs.length < 3
  · refine round49 hv hgo.1 hgo.2 hsm hb ho fun st hst => ⟨_, ?_, hst⟩
    omega
  · have hsl : SlC h1 (contSl bm zs) zs := SlC.buf fun hne => (hb hne).1
    have hfin : ∃ zs' : List Cont, SlC h1 (contSl bm zs) zs' ∧ (∀ c ∈ zs', c.few) ∧ zs'.length ≤ 3 ∧ Only (fun _ => False) h h1 := ⟨zs, hsl, hsm, hz3, ho⟩
    obtain ⟨out, hout⟩ : ∃ out, out = contSl bm zs := ⟨_, rfl⟩
    have hnt : AV.notTup out = true := by rw [hout]; exact bufSl_nt
    rw [← hout] at hfin ⊢
    by_cases hil : zs.length < l.length
    · have hil' : (zs.length : Int) < l.length := by omega
      have h3 : ¬ (zs.length < 3) := fun h => hgo ⟨hil, h⟩
      have h3' : ¬ ((zs.length : Int) < 3) := by omega
      simp [c49_l3, c49_r3, c49_r25, len1, hlen, hil, hil', h3, h3']
      exact ⟨hnt, hfin⟩
    · have hil' : ¬ ((zs.length : Int) < l.length) := by omega
      simp [c49_l3, c49_r3, c49_r25, len1, hlen, hil, hil']
      exact ⟨hnt, hfin⟩
 obtain ⟨r, h', h1, zs, h2, h3, h4, h5⟩ := key
 exact ⟨zs, r, h', h1, h2, h3, h4, h5⟩
theorem contents {h : Heap} {v : AV} {l : List Int} (hv : Sl1 h v (intCells l)) (hl : l.length ≤ 1000000) :
  ∃ (zs : List Cont) (v' : AV) (h' : Heap), D cfg 49 [v] h = some (v', h') ∧ SlC h' v' zs ∧ (∀ c ∈ zs, c.small) ∧ zs.length ≤ 3 ∧ Only (fun _ => False) h h' := by
 obtain ⟨zs, v', h', h1, h2, h3, h4⟩ := contents2 hv hl
 exact ⟨zs, v', h', h1, h2, fun c hc => (h3 c hc).1, h4⟩
section
abbrev Itm := (Nat × Nat) × Cont
def ctI (it : List Itm) : List (Nat × Nat) := it.map fun x => x.1
def plI (it : List Itm) : List Txt := it.map fun x => x.2.bytes
def ncI (it : List Itm) : List Bool := it.map fun x => x.2.nocase
theorem ctI_len {it : List Itm} : (ctI it).length = it.length := by simp [ctI]
theorem plI_len {it : List Itm} : (plI it).length = it.length := by simp [plI]
theorem ncI_len {it : List Itm} : (ncI it).length = it.length := by simp [ncI]
theorem ctC_grow {P Q : List AV} : ∀ {ct : List (Nat × Nat)}, (∀ x ∈ ct, x.1 < P.length) → ctC (P ++ Q) ct = ctC P ct
 | [], _ => rfl
 | x :: ct, h => by
  have ih := ctC_grow (P := P) (Q := Q) (ct := ct) fun y hy => h y (List.mem_cons_of_mem _ hy)
  have hx := h x (List.mem_cons_self ..)
  simp only [ctC, List.flatMap_cons] at ih ⊢
  rw [ih]
  simp [List.getD_eq_getElem?_getD, List.getElem?_append_left hx]
structure NewI (h₀ h : Heap) (xb lb cb b8 b9 b10 : Nat) (al : List AskH) (sl : List AskS) (it : List Itm) : Prop where
 r : RulesAt h xb lb (.ptr none) (bufSl cb it.length (ctC (al.map askP) (ctI it))) 0 al sl
 c : it.length ≠ 0 → h[cb]? = some (.cells (ctC (al.map askP) (ctI it)) 168 true)
 k8 : it.length ≠ 0 → h[b8]? = some (.cells (strCells (plI it)) 9 true)
 k9 : it.length ≠ 0 → h[b9]? = some (.cells (strCells ((plI it).map fold)) 9 true)
 k10 : it.length ≠ 0 → h[b10]? = some (.cells (boolCells (ncI it)) 4 true)
 n89 : it.length ≠ 0 → b8 ≠ b9
 n10 : it.length ≠ 0 → ∀ (k : Nat) (a : AskH), al[k]? = some a → a.eb ≠ b10
 o : Only (fun _ => False) h₀ h
 fx : h₀.length ≤ xb
 fl : al.length ≠ 0 → h₀.length ≤ lb
 fc : it.length ≠ 0 → h₀.length ≤ cb ∧ h₀.length ≤ b8 ∧ h₀.length ≤ b9 ∧ h₀.length ≤ b10
 fa : ∀ c, askF al c → h₀.length ≤ c
 fe : ∀ (k : Nat) (a : AskH), al[k]? = some a → h₀.length ≤ a.eb
 ok : ∀ x ∈ ctI it, ∃ s, sl[x.1]? = some s ∧ x.2 < s.ends.length
section
variable {h h' : Heap} {xb lb n : Nat} {sp cv : AV} {al : List AskH} {sl : List AskS}
theorem RulesAt.hdr (H : RulesAt h xb lb sp cv n al sl) {m : Nat} {sp' cv' : AV} (e : h.set xb (.cells (xC sp' cv' (bufSl lb al.length (al.map askP)) m) 163 false) = h') : RulesAt h' xb lb sp' cv' m al sl ∧ Only (fun c => c = xb) h h' := by
 have hlt := lt_of_at H.kx
 have ho : Only (fun c => c = xb) h h' := by rw [← e]; exact .set rfl
 have out : ∀ {c : Nat} {cs' : List AV} {t : TypeId} {g : Bool}, h[c]? = some (.cells cs' t g) → t ≠ 163 → ¬ c = xb := fun hc ht e => by
  have := H.kx
  rw [← e, hc] at this
  simp only [Option.some.injEq, AObj.cells.injEq] at this
  exact ht this.2.1
 refine ⟨⟨by rw [← e]; exact at_same hlt, fun hne => ho.at (H.kl hne) (out (H.kl hne) (by decide)), H.ak.keep ho (fun k a ha => ?_) fun c cs t ht hc => out hc (by rcases ht with rfl | rfl <;> decide)⟩, ho⟩
 obtain ⟨s, _, A⟩ := H.ak.get ha
 refine ⟨out A.hdr (by decide), out A.ends (by decide), fun c hc => ?_⟩
 obtain ⟨cs, t, q1, q2⟩ := A.trk.typ hc
 exact out q1 (by rcases q2 with e | e | e <;> rw [e] <;> decide)
theorem RulesAt.app (H : RulesAt h xb lb sp cv n al sl) {b k : Nat} {cs : List AV} {t0 : TypeId} {g : Bool} (hb : k ≠ 0 → h[b]? = some (.cells cs t0 g)) (ho : Only (fun c => c = b ∧ k ≠ 0) h h')
  (ht : t0 ≠ 144 ∧ t0 ≠ 147 ∧ t0 ≠ 181 ∧ t0 ≠ 166 ∧ t0 ≠ 4 ∧ t0 ≠ 148 ∧ t0 ≠ 164 ∧ t0 ≠ 163) : RulesAt h' xb lb sp cv n al sl := by
 by_cases hk : k = 0
 · exact H.same (ho.mono fun c _ e => e.2 hk)
 · exact H.other (hb hk) (ho.mono fun c _ e => e.1) ht
theorem RulesAt.app4 (H : RulesAt h xb lb sp cv n al sl) {b k : Nat} {cs : List AV} (hb : k ≠ 0 → h[b]? = some (.cells cs 4 true)) (ho : Only (fun c => c = b ∧ k ≠ 0) h h')
  (hn : k ≠ 0 → ∀ (j : Nat) (a : AskH), al[j]? = some a → a.eb ≠ b) : RulesAt h' xb lb sp cv n al sl := by
 by_cases hk : k = 0
 · exact H.same (ho.mono fun c _ e => e.2 hk)
 · have hb := hb hk
   have out : ∀ {c : Nat} {cs' : List AV} {t : TypeId} {g : Bool}, h[c]? = some (.cells cs' t g) → t ≠ 4 ∨ g = false → ¬ (c = b ∧ k ≠ 0) := fun hc ht e => by
    rw [e.1, hb] at hc
    simp only [Option.some.injEq, AObj.cells.injEq] at hc
    rcases ht with ht | ht
    · exact ht hc.2.1.symm
    · rw [ht] at hc; simp at hc
   refine H.keep ho (out H.kx (.inl (by decide))) (fun hne => out (H.kl hne) (.inl (by decide))) (fun j a ha => ?_) fun c cs t ht hc => out hc (.inl (by rcases ht with rfl | rfl <;> decide))
   obtain ⟨s, _, A⟩ := H.ak.get ha
   refine ⟨out A.hdr (.inr rfl), fun e => hn hk j a ha e.1, fun c hc => ?_⟩
   obtain ⟨cs, t, q1, q2⟩ := A.trk.typ hc
   exact out q1 (.inr rfl)
end
section
variable {h₀ h : Heap} {xb lb cb b8 b9 b10 : Nat} {al : List AskH} {sl : List AskS} {it : List Itm}
theorem NewI.same {h' : Heap} (I : NewI h₀ h xb lb cb b8 b9 b10 al sl it) (ho : Only (fun _ => False) h h') : NewI h₀ h' xb lb cb b8 b9 b10 al sl it :=
 ⟨I.r.same ho, fun hn => ho.at (I.c hn) id, fun hn => ho.at (I.k8 hn) id, fun hn => ho.at (I.k9 hn) id, fun hn => ho.at (I.k10 hn) id, I.n89, I.n10, I.o.trans ho, I.fx, I.fl, I.fc, I.fa, I.fe, I.ok⟩
theorem app_at {h h' : Heap} {b k c : Nat} {cs cs' : List AV} {t t' : TypeId} {g g' : Bool} (ho : Only (fun c => c = b ∧ k ≠ 0) h h') (hb : k ≠ 0 → h[b]? = some (.cells cs t g)) (hc : h[c]? = some (.cells cs' t' g')) (ht : t' ≠ t ∨ g' ≠ g) : h'[c]? = some (.cells cs' t' g') := by
 refine ho.at hc fun e => ?_
 have := hb e.2
 rw [← e.1, hc] at this
 simp only [Option.some.injEq, AObj.cells.injEq] at this
 rcases ht with ht | ht
 · exact ht this.2.1
 · exact ht this.2.2
theorem app_at' {h h' : Heap} {b k c : Nat} {o : AObj} (ho : Only (fun c => c = b ∧ k ≠ 0) h h') (hc : h[c]? = some o) (hn : k ≠ 0 → c ≠ b) : h'[c]? = some o :=
 ho.at hc fun e => hn e.2 e.1
theorem NewI.item (I : NewI h₀ h xb lb cb b8 b9 b10 al sl it) {q i c0 : Nat} {a : AskH} {s : AskS} {c : Cont} (ha : al[q]? = some a) (hs : sl[q]? = some s) (hi : i < s.ends.length) (hn : it.length ≤ 100000) (hbx : h[c0]? = some (.cells (contCell c) 52 false)) (hc : c.small) :
  ∃ cv' δ1 h1 h2 δ3 h3 h4 δ5 h5 δ6 h6 cb' b8' b9' b10',
   append2 Try.prog (look (h ++ [AObj.cells [askP a, .int .i64 i] 168 true])) (h.length + 1) 160 160 [bufSl cb it.length (ctC (al.map askP) (ctI it)), .sl (some ⟨h.length, 0, 2⟩) 1 1] = some (cv', δ1) ∧ Heap.apply (h ++ [AObj.cells [askP a, .int .i64 i] 168 true]) δ1 = h1 ∧
   astore Try.prog (look h1) 160 (.ptr (some ⟨xb, 1, 4⟩)) cv' = some (.set xb (.cells (xC (.ptr none) cv' (bufSl lb al.length (al.map askP)) 0) 163 false)) ∧ h1.set xb (.cells (xC (.ptr none) cv' (bufSl lb al.length (al.map askP)) 0) 163 false) = h2 ∧
   cv'.notTup = true ∧ h2[c0]? = some (.cells (contCell c) 52 false) ∧
   append2 Try.prog (look (h2 ++ [AObj.cells [.str c.bytes] 9 true])) (h2.length + 1) 38 38 [txtSl b8 (plI it), .sl (some ⟨h2.length, 0, 1⟩) 1 1] = some (txtSl b8' (plI (it ++ [((q, i), c)])), δ3) ∧ Heap.apply (h2 ++ [AObj.cells [.str c.bytes] 9 true]) δ3 = h3 ∧
   (∀ n, (touchD n δ3).same c0 = true ∨ n = c0) ∧ c0 < h2.length ∧ h3[c0]? = some (.cells (contCell c) 52 false) ∧ h2.length < h3.length ∧
   D cfg 59 [.str c.bytes] h3 = some (.str (fold c.bytes), h4) ∧ sameAt h3 h4 c0 = true ∧ h4[c0]? = some (.cells (contCell c) 52 false) ∧ h3.length ≤ h4.length ∧
   append2 Try.prog (look (h4 ++ [AObj.cells [.str (fold c.bytes)] 9 true])) (h4.length + 1) 38 38 [txtSl b9 ((plI it).map fold), .sl (some ⟨h4.length, 0, 1⟩) 1 1] = some (txtSl b9' ((plI (it ++ [((q, i), c)])).map fold), δ5) ∧ Heap.apply (h4 ++ [AObj.cells [.str (fold c.bytes)] 9 true]) δ5 = h5 ∧
   (∀ n, (touchD n δ5).same c0 = true ∨ n = c0) ∧ h5[c0]? = some (.cells (contCell c) 52 false) ∧
   append2 Try.prog (look (h5 ++ [AObj.cells [.bool c.nocase] 4 true])) (h5.length + 1) 68 68 [boolSl b10 (ncI it), .sl (some ⟨h5.length, 0, 1⟩) 1 1] = some (boolSl b10' (ncI (it ++ [((q, i), c)])), δ6) ∧ Heap.apply (h5 ++ [AObj.cells [.bool c.nocase] 4 true]) δ6 = h6 ∧
   NewI h₀ h6 xb lb cb' b8' b9' b10' al sl (it ++ [((q, i), c)]) := by
 have hPl : ∀ x ∈ ctI it, x.1 < (al.map askP).length := fun x hx => by
  obtain ⟨t, h1, _⟩ := I.ok x hx
  have := (List.getElem?_eq_some_iff.1 h1).1
  simp [I.r.ak.len, this]
 have hlt0 := lt_of_at hbx
 have hne0 : it.length ≠ 0 → True := fun _ => trivial
 obtain ⟨δ1, h1, e1, e2, d1, o1⟩ := append_buf (t := 160) (e := 168) (k := 2) (by simp) (by simp) (by decide) (by simp) (by simp) (h := h) (b := cb) (n := it.length) (xs := ctC (al.map askP) (ctI it)) (ys := [askP a, .int .i64 i]) (by simp) (by rw [ctC_len, ctI_len]) I.c (by omega)
 have hct : ctC (al.map askP) (ctI it) ++ [askP a, .int .i64 i] = ctC (al.map askP) (ctI (it ++ [((q, i), c)])) := by
  simp [ctC, ctI, List.getD_eq_getElem?_getD, ha]
 have hl1 : it.length + 1 = (it ++ [((q, i), c)]).length := by simp
 rw [hct, hl1] at e1
 rw [hct] at d1
 obtain ⟨cb', hcb'⟩ : ∃ cb', (if it.length = 0 then h.length + 1 else cb) = cb' := ⟨_, rfl⟩
 rw [hcb'] at e1 d1
 have fcb : h₀.length ≤ cb' := by
  rw [← hcb']
  have := I.o.1
  split
  · omega
  · rename_i hz; exact (I.fc hz).1
 have R1 := I.r.app I.c o1 ⟨by decide, by decide, by decide, by decide, by decide, by decide, by decide, by decide⟩
 obtain ⟨cv', hcv'⟩ : ∃ cv', bufSl cb' (it ++ [((q, i), c)]).length (ctC (al.map askP) (ctI (it ++ [((q, i), c)]))) = cv' := ⟨_, rfl⟩
 rw [hcv'] at e1
 have one' : cv'.one = true := by rw [← hcv']; exact bufSl_one
 have nt' : cv'.notTup = true := by rw [← hcv']; exact bufSl_notTup
 have st := cell_store R1.kx (n := 4) rfl (t := 160) (by simp) (off := 1) (v := cv') one' (by omega)
 obtain ⟨h2, hh2⟩ : ∃ h2, h1.set xb (.cells (xC (.ptr none) cv' (bufSl lb al.length (al.map askP)) 0) 163 false) = h2 := ⟨_, rfl⟩
 obtain ⟨R2, o2⟩ := R1.hdr hh2
 have atx : ∀ {b : Nat} {cs : List AV} {t : TypeId} {g : Bool}, h1[b]? = some (.cells cs t g) → (t ≠ 163 ∨ g = true) → h2[b]? = some (.cells cs t g) := fun hb ht => o2.at hb fun e => by
  rw [e, R1.kx] at hb
  simp only [Option.some.injEq, AObj.cells.injEq] at hb
  rcases ht with ht | ht
  · exact ht hb.2.1.symm
  · rw [ht] at hb; simp at hb
 have bx1 := app_at o1 I.c hbx (.inl (by decide))
 have bx2 := atx bx1 (.inl (by decide))
 have c2 := atx d1 (.inr rfl)
 have k82 : it.length ≠ 0 → h2[b8]? = some (.cells (strCells (plI it)) 9 true) := fun hz => atx (app_at o1 I.c (I.k8 hz) (.inl (by decide))) (.inr rfl)
 have k92 : it.length ≠ 0 → h2[b9]? = some (.cells (strCells ((plI it).map fold)) 9 true) := fun hz => atx (app_at o1 I.c (I.k9 hz) (.inl (by decide))) (.inr rfl)
 have k102 : it.length ≠ 0 → h2[b10]? = some (.cells (boolCells (ncI it)) 4 true) := fun hz => atx (app_at o1 I.c (I.k10 hz) (.inl (by decide))) (.inr rfl)
 have o02 : Only (fun _ => False) h₀ h2 := (I.o.fresh o1 fun x hx => by rw [hx.1]; exact (I.fc hx.2).1).fresh o2 fun x hx => by rw [hx]; exact I.fx
 obtain ⟨δ3, h3, e3, e4, d3, o3, t3⟩ := append_buf3 (t := 38) (e := 9) (k := 1) (by simp) (by simp) (by decide) (by simp) (by simp) (h := h2) (b := b8) (n := it.length) (xs := strCells (plI it)) (ys := [.str c.bytes]) (by simp) (by rw [strCells_len, plI_len]; omega) k82 (by omega)
 have hp3 : strCells (plI it) ++ [AV.str c.bytes] = strCells (plI (it ++ [((q, i), c)])) := by simp [strCells, plI]
 obtain ⟨b8', hb8'⟩ : ∃ b8', (if it.length = 0 then h2.length + 1 else b8) = b8' := ⟨_, rfl⟩
 rw [hb8', hp3] at d3
 rw [hb8', hp3, hl1] at e3
 have fb8 : h₀.length ≤ b8' := by
  rw [← hb8']
  have := o02.1
  split
  · omega
  · rename_i hz; exact (I.fc hz).2.1
 have cne : ∀ {b : Nat} {cs : List AV} {t : TypeId} {h' : Heap}, h'[b]? = some (.cells cs t true) → h'[c0]? = some (.cells (contCell c) 52 false) → c0 ≠ b := fun hb hc e => by
  rw [← e, hc] at hb; simp at hb
 have tch : ∀ {δ : Delta} {b : Nat}, ((it.length = 0 ∧ ∃ o, δ = .new o) ∨ (it.length ≠ 0 ∧ ∃ o, δ = .set b o)) → (it.length ≠ 0 → c0 ≠ b) → ∀ n, (touchD n δ).same c0 = true ∨ n = c0 := fun ht hb n => by
  rcases ht with ⟨_, o, rfl⟩ | ⟨hz, o, rfl⟩
  · by_cases hn : n = c0
    · exact .inr hn
    · left; simp [touchD, Touch.same]; exact fun e => hn e.symm
  · left; simp [touchD, Touch.same]; exact hb hz
 have bx3 := app_at o3 k82 bx2 (.inl (by decide))
 have R3 := R2.app k82 o3 ⟨by decide, by decide, by decide, by decide, by decide, by decide, by decide, by decide⟩
 have c3 := app_at o3 k82 c2 (.inl (by decide))
 have n98 : it.length ≠ 0 → b9 ≠ b8 := fun hz => (I.n89 hz).symm
 have k93 : it.length ≠ 0 → h3[b9]? = some (.cells (strCells ((plI it).map fold)) 9 true) := fun hz => app_at' o3 (k92 hz) n98
 have k103 : it.length ≠ 0 → h3[b10]? = some (.cells (boolCells (ncI it)) 4 true) := fun hz => app_at o3 k82 (k102 hz) (.inl (by decide))
 have o03 : Only (fun _ => False) h₀ h3 := o02.fresh o3 fun x hx => by rw [hx.1]; exact (I.fc hx.2).2.1
 have l23 : h2.length < h3.length := by
  rw [← e4]
  rcases t3 with ⟨_, o, rfl⟩ | ⟨_, o, rfl⟩ <;> simp [Heap.apply] <;> omega
 have hcb := hc.b
 obtain ⟨h4, e5, o4⟩ := fold_auto (h := h3) (s := c.bytes) (by omega)
 have sm : sameAt h3 h4 c0 = true := sameAt_of bx3 (o4.at bx3 id) (by simp [contCell, AObj.beq, beqL, AV.beq, AV.beqP])
 have bx4 := o4.at bx3 id
 have R4 := R3.same o4
 have o04 := o03.trans o4
 obtain ⟨δ5, h5, e6, e7, d5, o5, t5⟩ := append_buf3 (t := 38) (e := 9) (k := 1) (by simp) (by simp) (by decide) (by simp) (by simp) (h := h4) (b := b9) (n := it.length) (xs := strCells ((plI it).map fold)) (ys := [.str (fold c.bytes)]) (by simp) (by rw [strCells_len, List.length_map, plI_len]; omega) (fun hz => o4.at (k93 hz) id) (by omega)
 have hp5 : strCells ((plI it).map fold) ++ [AV.str (fold c.bytes)] = strCells ((plI (it ++ [((q, i), c)])).map fold) := by simp [strCells, plI]
 obtain ⟨b9', hb9'⟩ : ∃ b9', (if it.length = 0 then h4.length + 1 else b9) = b9' := ⟨_, rfl⟩
 rw [hb9', hp5] at d5
 rw [hb9', hp5, hl1] at e6
 have fb9 : h₀.length ≤ b9' := by
  rw [← hb9']
  have := o04.1
  split
  · omega
  · rename_i hz; exact (I.fc hz).2.2.1
 have k94 : it.length ≠ 0 → h4[b9]? = some (.cells (strCells ((plI it).map fold)) 9 true) := fun hz => o4.at (k93 hz) id
 have d4 := o4.at d3 id
 have n89' : b8' ≠ b9' := by
  have := lt_of_at d4
  rw [← hb8', ← hb9'] at *
  by_cases hz : it.length = 0
  · simp only [if_pos hz] at *; omega
  · simp only [if_neg hz] at *; exact I.n89 hz
 have bx5 := app_at o5 k94 bx4 (.inl (by decide))
 have R5 := R4.app k94 o5 ⟨by decide, by decide, by decide, by decide, by decide, by decide, by decide, by decide⟩
 have c5 := app_at o5 k94 (o4.at c3 id) (.inl (by decide))
 have n8b : it.length ≠ 0 → b8' ≠ b9 := fun hz => by rw [← hb8', if_neg hz]; exact I.n89 hz
 have k85 := app_at' o5 d4 n8b
 have k105 : it.length ≠ 0 → h5[b10]? = some (.cells (boolCells (ncI it)) 4 true) := fun hz => app_at o5 k94 (o4.at (k103 hz) id) (.inl (by decide))
 have o05 : Only (fun _ => False) h₀ h5 := o04.fresh o5 fun x hx => by rw [hx.1]; exact (I.fc hx.2).2.2.1
 obtain ⟨δ6, h6, e8, e9, d6, o6⟩ := append_buf (t := 68) (e := 4) (k := 1) (by simp) (by simp) (by decide) (by simp) (by simp) (h := h5) (b := b10) (n := it.length) (xs := boolCells (ncI it)) (ys := [.bool c.nocase]) (by simp) (by rw [boolCells_len, ncI_len]; omega) k105 (by omega)
 have hp6 : boolCells (ncI it) ++ [AV.bool c.nocase] = boolCells (ncI (it ++ [((q, i), c)])) := by simp [boolCells, ncI]
 obtain ⟨b10', hb10'⟩ : ∃ b10', (if it.length = 0 then h5.length + 1 else b10) = b10' := ⟨_, rfl⟩
 rw [hb10', hp6] at d6
 rw [hb10', hp6, hl1] at e8
 have fb10 : h₀.length ≤ b10' := by
  rw [← hb10']
  have := o05.1
  split
  · omega
  · rename_i hz; exact (I.fc hz).2.2.2
 have R6 := R5.app4 k105 o6 I.n10
 have o06 : Only (fun _ => False) h₀ h6 := o05.fresh o6 fun x hx => by rw [hx.1]; exact (I.fc hx.2).2.2.2
 refine ⟨cv', δ1, h1, h2, δ3, h3, h4, δ5, h5, δ6, h6, cb', b8', b9', b10', e1, e2, ?_, hh2, nt', bx2, ?_, e4, tch t3 fun hz => cne (k82 hz) bx2, lt_of_at bx2, bx3, l23, e5, sm, bx4, o4.1, ?_, e7, tch t5 fun hz => cne (k94 hz) bx4, bx5, ?_, e9, ?_⟩
 · simpa [xC] using st
 ·
  simp only [txtSl, plI_len]
  exact e3
 · simp only [txtSl, List.length_map, plI_len]
   exact e6
 · simp only [boolSl, ncI_len]
   exact e8
 · refine ⟨by rw [hcv']; exact R6, fun _ => app_at o6 k105 c5 (.inl (by decide)), fun _ => app_at o6 k105 k85 (.inl (by decide)), fun _ => app_at o6 k105 d5 (.inl (by decide)), fun _ => d6, fun _ => n89', fun _ k b hb e => ?_, o06, I.fx, I.fl, fun _ => ⟨fcb, fb8, fb9, fb10⟩, I.fa, I.fe, fun x hx => ?_⟩
   · obtain ⟨t, _, A⟩ := R5.ak.get hb
     rw [← hb10'] at e
     by_cases hz : it.length = 0
     · rw [if_pos hz] at e
       have := lt_of_at A.ends
       omega
     · rw [if_neg hz] at e
       exact I.n10 hz k b hb e
   · simp only [ctI, List.map_append, List.map_cons, List.map_nil, List.mem_append, List.mem_singleton] at hx
     rcases hx with hx | rfl
     · exact I.ok x hx
     · exact ⟨s, hs, hi⟩
end
end
theorem tdNo {n : Nat} : touchD n .no = .no := rfl
theorem tdNew {n : Nat} {o : AObj} : touchD n (.new o) = .blk n := rfl
theorem tdSet {n b : Nat} {o : AObj} : touchD n (.set b o) = .blk b := rfl
theorem tsNo {b : Nat} : Touch.same .no b = true := rfl
theorem tsBlk {b c : Nat} : Touch.same (.blk c) b = (b != c) := rfl
theorem tsHeaps {b : Nat} {h h' : Heap} : Touch.same (.heaps h h') b = sameAt h h' b := rfl
theorem store_box0 {h : Heap} {s : Txt} {a b k : Bool} {i j m n : Int} : astore Try.prog (look (h ++ [AObj.cells [.str [], .bool false, .bool false, .int .i64 0, .int .i64 0, .bool false, .int .i64 0, .int .i64 0] 52 false])) 52 (.ptr (some ⟨h.length, 0, 8⟩)) (.agg [.str s, .bool a, .bool b, .int .i64 i, .int .i64 j, .bool k, .int .i64 m, .int .i64 n]) = some (.set h.length (.cells [.str s, .bool a, .bool b, .int .i64 i, .int .i64 j, .bool k, .int .i64 m, .int .i64 n] 52 false)) := by
 simp [astore, splice]
def soughtB (c : Cont) : Bool := decide (c.bytes.length ≠ 0) && decide (c.bytes.length ≤ 16)
def itR (q : Nat) (cs : List Cont) : Nat → List Itm
 | 0 => []
 | k + 1 => itR q cs k ++ match cs[k]? with
  | some c => if soughtB c then [((q, k), c)] else []
  | none => []
theorem itR_len {q : Nat} {cs : List Cont} : ∀ {k : Nat}, (itR q cs k).length ≤ k
 | 0 => Nat.le_refl _
 | k + 1 => by
  have := itR_len (q := q) (cs := cs) (k := k)
  simp only [itR, List.length_append]
  split
  · split <;> simp <;> omega
  · simp; omega
abbrev env11 (rv : AV) (most : Int) (xb : Nat) (w8 w9 w10 : AV) (a : AskH) (pv : AV) (N k : Nat) (cv : AV) (M i : Nat) : Env :=
 [(0, rv), (2, .int .i64 most), (7, xPtr xb), (8, w8), (9, w9), (10, w10), (13, askP a), (21, pv), (22, .int .i64 N), (23, .int .i64 k), (69, cv), (70, .int .i64 M), (71, .int .i64 i)]
def In11 (h₀ : Heap) (rv : AV) (most : Int) (xb lb : Nat) (al : List AskH) (sl : List AskS) (it0 : List Itm) (a : AskH) (pv : AV) (N k q : Nat) (cv : AV) (l : List Cont) (m : Nat) (σ : St) : Prop :=
 ∃ i cb b8 b9 b10 h, m = l.length - i ∧ i ≤ l.length ∧ σ = ⟨env11 rv most xb (txtSl b8 (plI (it0 ++ itR q l i))) (txtSl b9 ((plI (it0 ++ itR q l i)).map fold)) (boolSl b10 (ncI (it0 ++ itR q l i))) a pv N k cv l.length i, h⟩ ∧
  NewI h₀ h xb lb cb b8 b9 b10 al sl (it0 ++ itR q l i)
theorem item_round {h₀ h : Heap} {rv pv cv : AV} {most : Int} {xb lb cb b8 b9 b10 : Nat} {al : List AskH} {sl : List AskS} {it0 : List Itm} {a : AskH} {s : AskS} {N k q : Nat} {l : List Cont} (hv : SlC h₀ cv l) (hrv : rv.notTup = true) (hpv : pv.notTup = true)
  (hsm : ∀ c ∈ l, c.small) (hll : l.length ≤ 1000) (hi0 : it0.length ≤ 90000) (ha : al[q]? = some a) (hs : sl[q]? = some s) (hse : s.ends.length = l.length) {i : Nat} (hi : i < l.length) (I : NewI h₀ h xb lb cb b8 b9 b10 al sl (it0 ++ itR q l i)) {Q : AExit → St → Prop}
  (hq : ∀ st, In11 h₀ rv most xb lb al sl it0 a pv N k q cv l (l.length - (i + 1)) st → Q .normal st) :
  Wt Try.prog (D cfg) c81_l11 ⟨env11 rv most xb (txtSl b8 (plI (it0 ++ itR q l i))) (txtSl b9 ((plI (it0 ++ itR q l i)).map fold)) (boolSl b10 (ncI (it0 ++ itR q l i))) a pv N k cv l.length i, h⟩ Q := by
 have hvt : cv.notTup = true := by rcases hv with ⟨rfl, _⟩ | ⟨_, _, _, _, rfl, _, _⟩ <;> rfl
 have hil : (i : Int) < l.length := by omega
 have hwr : IntKind.wrap .i64 ((i : Int) + 1) = i + 1 := wrap_i64 (by omega) (by omega)
 obtain ⟨c, hc⟩ : ∃ c, c = l[i] := ⟨_, rfl⟩
 have hcm : c ∈ l := by rw [hc]; exact List.getElem_mem hi
 have hcs := hsm c hcm
 have a1 := hv.at hi
 have l1 := (hv.same I.o).load hi
 rw [← hc] at l1
 obtain ⟨h1, hh1⟩ : ∃ h1, h ++ [.cells (contCell c) 52 false] = h1 := ⟨_, rfl⟩
 have o1 : Only (fun _ => False) h h1 := by rw [← hh1]; exact .app
 have bx1 : h1[h.length]? = some (.cells (contCell c) 52 false) := by rw [← hh1]; simp
 have I1 := I.same o1
 obtain ⟨c0, _⟩ := contLoads bx1
 obtain ⟨it, hit⟩ : ∃ it, it0 ++ itR q l i = it := ⟨_, rfl⟩
 have hitl : it.length ≤ 100000 := by
  have := itR_len (q := q) (cs := l) (k := i)
  rw [← hit, List.length_append]; omega
 rw [hit] at I1 ⊢
 have hcb := hcs.b
 have n1 : (txtSl b8 (plI it)).notTup = true := txtSl_nt
 have n2 : (txtSl b9 ((plI it).map fold)).notTup = true := txtSl_nt
 have n3 : (boolSl b10 (ncI it)).notTup = true := boolSl_nt
 simp only [contCell, Cont.av] at l1 hh1
 by_cases hsb : soughtB c = true
 · have hb := hsb
   simp only [soughtB, Bool.and_eq_true, decide_eq_true_eq] at hb
   obtain ⟨z1, z2⟩ := hb
   have z1' : ¬ ((c.bytes.length : Int) = 0) := by omega
   have z2' : ¬ ((16 : Int) < c.bytes.length) := by omega
   have z2'' : ¬ (16 < c.bytes.length) := by omega
   have hnx : it0 ++ itR q l (i + 1) = it ++ [((q, i), c)] := by
    rw [← hit]
    simp [itR, List.getElem?_eq_getElem hi, ← hc, hsb]
   obtain ⟨cv', δ1, h2, h3, δ3, h4, h5, δ5, h6, δ6, h7, cb', b8', b9', b10', e1, e2, st, hh3, nt', bx3, e3, e4, t3, hl0, bx4, hl34, e5, sm, bx5, hl45, e6, e7, t5, bx6, e8, e9, J⟩ := I1.item (c := c) ha hs (by rw [hse]; exact hi) hitl bx1 hcs
   obtain ⟨d0, _⟩ := contLoads bx3
   obtain ⟨d1, _⟩ := contLoads bx4
   obtain ⟨_, d2, _⟩ := contLoads bx6
   have hlt := lt_of_at bx1
   have m1 : (h.length != h3.length) = true := by simp; omega
   have t3' : (touchD (h3.length + 1) δ3).same h.length = true := (t3 _).resolve_right (by omega)
   have m2 : (h.length != h5.length) = true := by simp; omega
   have t5' : (touchD (h5.length + 1) δ5).same h.length = true := (t5 _).resolve_right (by omega)
   have q1 := cell_load I1.r.kx (n := 4) rfl (t := 160) (by simp) (off := 1) rfl
   have hnext : In11 h₀ rv most xb lb al sl it0 a pv N k q cv l (l.length - (i + 1)) ⟨env11 rv most xb (txtSl b8' (plI (it ++ [((q, i), c)]))) (txtSl b9' ((plI (it ++ [((q, i), c)])).map fold)) (boolSl b10' (ncI (it ++ [((q, i), c)]))) a pv N k cv l.length (i + 1), h7⟩ :=
    ⟨i + 1, cb', b8', b9', b10', h7, rfl, hi, by rw [hnx], by rw [hnx]; exact J⟩
   have n4 : (txtSl b8' (plI (it ++ [((q, i), c)]))).notTup = true := txtSl_nt
   have n5 : (txtSl b9' ((plI (it ++ [((q, i), c)])).map fold)).notTup = true := txtSl_nt
   have n6 : (boolSl b10' (ncI (it ++ [((q, i), c)]))).notTup = true := boolSl_nt
   have hfin := hq _ hnext
   have n7 : (bufSl cb it.length (ctC (al.map askP) (ctI it))).notTup = true := bufSl_notTup
   obtain ⟨x1, hx1⟩ : ∃ x, txtSl b8 (plI it) = x := ⟨_, rfl⟩
   obtain ⟨x2, hx2⟩ : ∃ x, txtSl b9 ((plI it).map fold) = x := ⟨_, rfl⟩
   obtain ⟨x3, hx3⟩ : ∃ x, boolSl b10 (ncI it) = x := ⟨_, rfl⟩
   obtain ⟨x4, hx4⟩ : ∃ x, txtSl b8' (plI (it ++ [((q, i), c)])) = x := ⟨_, rfl⟩
   obtain ⟨x5, hx5⟩ : ∃ x, txtSl b9' ((plI (it ++ [((q, i), c)])).map fold) = x := ⟨_, rfl⟩
   obtain ⟨x6, hx6⟩ : ∃ x, boolSl b10' (ncI (it ++ [((q, i), c)])) = x := ⟨_, rfl⟩
   obtain ⟨x7, hx7⟩ : ∃ x, bufSl cb it.length (ctC (al.map askP) (ctI it)) = x := ⟨_, rfl⟩
   obtain ⟨x8, hx8⟩ : ∃ x, bufSl lb al.length (al.map askP) = x := ⟨_, rfl⟩
   rw [hx7] at e1 n7 q1
   rw [hx8] at st hh3
   rw [hx1] at e3 n1 ⊢
   rw [hx2] at e6 n2 ⊢
   rw [hx3] at e8 n3 ⊢
   rw [hx4] at e3 n4 hfin
   rw [hx5] at e6 n5 hfin
   rw [hx6] at e8 n6 hfin
   simp only [env11] at hfin
   simp [-AV.notTup, -Touch.same, -touchD, tdNo, tdNew, tdSet, tsNo, tsBlk, tsHeaps, hrv, hpv, hvt, n1, n2, n3, n4, n5, n6, n7, nt', notTup_ptr, c81_l11, c81_r11, c81_r12, c81_r13, c81_r14, c81_r15, c81_r16, c81_r17, hil, hi, a1, l1, zeros, store_box0, splice, hh1, fieldA, c0, len1, alenS, z1, z1', z2', z2'',
    q1, abuild, abuildSlice, afill, e1, e2, st, hh3, d0, e3, e4, d1, m1, t3', e5, e6, e7, d2, sm, m2, t5', e8, e9, hwr]
   simpa using hfin
 · have hnx : it0 ++ itR q l (i + 1) = it := by
    rw [← hit]
    simp [itR, List.getElem?_eq_getElem hi, ← hc, hsb]
   have hnext : In11 h₀ rv most xb lb al sl it0 a pv N k q cv l (l.length - (i + 1)) ⟨env11 rv most xb (txtSl b8 (plI it)) (txtSl b9 ((plI it).map fold)) (boolSl b10 (ncI it)) a pv N k cv l.length (i + 1), h1⟩ :=
    ⟨i + 1, cb, b8, b9, b10, h1, rfl, hi, by rw [hnx], by rw [hnx]; exact I1⟩
   have hfin := hq _ hnext
   simp only [env11] at hfin
   generalize txtSl b8 (plI it) = x1 at *
   generalize txtSl b9 ((plI it).map fold) = x2 at *
   generalize boolSl b10 (ncI it) = x3 at *
   by_cases z1 : c.bytes.length = 0
   · have z1' : (c.bytes.length : Int) = 0 := by omega
     have z0 : c.bytes = [] := List.length_eq_zero_iff.1 z1
     rw [z0] at c0 l1 hh1
     simp [-AV.notTup, hrv, hpv, hvt, n1, n2, n3, notTup_ptr, c81_l11, c81_r11, c81_r12, c81_r13, c81_r14, c81_r17, hil, hi, a1, l1, zeros, store_box0, splice, hh1, fieldA, c0, len1, alenS, hwr]
     simpa using hfin
   · have z2 : 16 < c.bytes.length := by
      simp only [soughtB, Bool.and_eq_true, decide_eq_true_eq] at hsb
      omega
     have z1' : ¬ ((c.bytes.length : Int) = 0) := by omega
     have z2' : (16 : Int) < c.bytes.length := by omega
     simp [-AV.notTup, hrv, hpv, hvt, n1, n2, n3, notTup_ptr, c81_l11, c81_r11, c81_r12, c81_r13, c81_r14, c81_r17, hil, hi, a1, l1, zeros, store_box0, splice, hh1, fieldA, c0, len1, alenS, z1, z1', z2, z2', hwr]
     simpa using hfin
theorem items_loop {h₀ h : Heap} {rv pv cv : AV} {most : Int} {xb lb cb b8 b9 b10 : Nat} {al : List AskH} {sl : List AskS} {it0 : List Itm} {a : AskH} {s : AskS} {N k q : Nat} {l : List Cont} (hv : SlC h₀ cv l) (hrv : rv.notTup = true) (hpv : pv.notTup = true)
  (hsm : ∀ c ∈ l, c.small) (hll : l.length ≤ 1000) (hi0 : it0.length ≤ 90000) (ha : al[q]? = some a) (hs : sl[q]? = some s) (hse : s.ends.length = l.length) (I : NewI h₀ h xb lb cb b8 b9 b10 al sl it0) {Q : AExit → St → Prop}
  (hq : ∀ h' cb' b8' b9' b10', NewI h₀ h' xb lb cb' b8' b9' b10' al sl (it0 ++ itR q l l.length) →
   Q (.exit 2) ⟨env11 rv most xb (txtSl b8' (plI (it0 ++ itR q l l.length))) (txtSl b9' ((plI (it0 ++ itR q l l.length)).map fold)) (boolSl b10' (ncI (it0 ++ itR q l l.length))) a pv N k cv l.length l.length ++ [(72, .bool false)], h'⟩) :
  Wt Try.prog (D cfg) (.loop c81_l11 (some [0, 2, 7, 8, 9, 10, 13, 21, 22, 23, 69, 70, 71])) ⟨env11 rv most xb (txtSl b8 (plI it0)) (txtSl b9 ((plI it0).map fold)) (boolSl b10 (ncI it0)) a pv N k cv l.length 0, h⟩ Q := by
 have hvt : cv.notTup = true := by rcases hv with ⟨rfl, _⟩ | ⟨_, _, _, _, rfl, _, _⟩ <;> rfl
 refine Wt.loop (In11 h₀ rv most xb lb al sl it0 a pv N k q cv l) (m := l.length) ⟨0, cb, b8, b9, b10, h, rfl, Nat.zero_le _, by simp [itR], by simpa [itR] using I⟩ ?_
 rintro m σ ⟨i, cb1, b81, b91, b101, h1, rfl, hi, rfl, I1⟩
 have hcut : ∀ w8 w9 w10, cut (some [0, 2, 7, 8, 9, 10, 13, 21, 22, 23, 69, 70, 71]) (env11 rv most xb w8 w9 w10 a pv N k cv l.length i) = env11 rv most xb w8 w9 w10 a pv N k cv l.length i := fun _ _ _ => by simp
 simp only [hcut]
 by_cases hil : i < l.length
 · refine item_round hv hrv hpv hsm hll hi0 ha hs hse hil I1 fun st hst => ?_
   exact ⟨_, by omega, hst⟩
 · have hi2 : i = l.length := by omega
   subst hi2
   have hfin := hq h1 cb1 b81 b91 b101 I1
   have n1 : (txtSl b81 (plI (it0 ++ itR q l l.length))).notTup = true := txtSl_nt
   have n2 : (txtSl b91 ((plI (it0 ++ itR q l l.length)).map fold)).notTup = true := txtSl_nt
   have n3 : (boolSl b101 (ncI (it0 ++ itR q l l.length))).notTup = true := boolSl_nt
   simp only [env11] at hfin
   generalize txtSl b81 (plI (it0 ++ itR q l l.length)) = x1 at *
   generalize txtSl b91 ((plI (it0 ++ itR q l l.length)).map fold) = x2 at *
   generalize boolSl b101 (ncI (it0 ++ itR q l l.length)) = x3 at *
   simp [-AV.notTup, hrv, hpv, hvt, n1, n2, n3, notTup_ptr, c81_l11, c81_r11]
   simpa using hfin
section
def askOf (most : Nat) (r : RuleV) : AskS := ⟨r.rc, r.sid, r.action, newTo r.conts most r.conts.length, List.replicate r.conts.length false, false⟩
theorem askOf_ok {most : Nat} {r : RuleV} (h : r.ok) : (askOf most r).ok :=
 ⟨h.len, h.act, h.sid, newTo_ok h.small, Nat.le_trans newTo_len h.few⟩
section
variable {h h' : Heap} {al : List AskH} {sl : List AskS}
theorem AsksAt.other (H : AsksAt h al sl) {c0 : Nat} {cs : List AV} {t0 : TypeId} {g : Bool} (hb : h[c0]? = some (.cells cs t0 g)) (ho : Only (fun c => c = c0) h h')
  (ht : t0 ≠ 144 ∧ t0 ≠ 147 ∧ t0 ≠ 181 ∧ t0 ≠ 166 ∧ t0 ≠ 4 ∧ t0 ≠ 148) : AsksAt h' al sl := by
 have out : ∀ {c : Nat} {cs' : List AV} {t : TypeId} {g : Bool}, h[c]? = some (.cells cs' t g) → t ≠ t0 → ¬ c = c0 := fun hc ht e => by
  rw [e, hb] at hc
  simp only [Option.some.injEq, AObj.cells.injEq] at hc
  exact ht hc.2.1.symm
 obtain ⟨t1, t2, t3, t4, t5, t6⟩ := ht
 refine H.keep ho (fun k a ha => ?_) fun c cs t ht hc => out hc (by
  rcases ht with rfl | rfl
  · exact t6.symm
  · exact t2.symm)
 obtain ⟨s, _, A⟩ := H.get ha
 refine ⟨out A.hdr t4.symm, out A.ends t5.symm, fun c hc => ?_⟩
 obtain ⟨cs, t, q1, q2⟩ := A.trk.typ hc
 rcases q2 with rfl | rfl | rfl
 · exact out q1 t1.symm
 · exact out q1 t2.symm
 · exact out q1 t3.symm
theorem AsksAt.app (H : AsksAt h al sl) {b k : Nat} {cs : List AV} {t0 : TypeId} {g : Bool} (hb : k ≠ 0 → h[b]? = some (.cells cs t0 g)) (ho : Only (fun c => c = b ∧ k ≠ 0) h h')
  (ht : t0 ≠ 144 ∧ t0 ≠ 147 ∧ t0 ≠ 181 ∧ t0 ≠ 166 ∧ t0 ≠ 4 ∧ t0 ≠ 148) : AsksAt h' al sl := by
 by_cases hk : k = 0
 · exact H.same (ho.mono fun c _ e => e.2 hk)
 · exact H.other (hb hk) (ho.mono fun c _ e => e.1) ht
end
theorem zeros_bool {n : Nat} : zeros [.bool false] n = boolCells (List.replicate n false) := by
 induction n with
 | zero => rfl
 | succ n ih => simp only [zeros, ih]; simp [boolCells, List.replicate_succ]
theorem askF_snoc {al : List AskH} {a : AskH} {c : Nat} (h : askF (al ++ [a]) c) : askF al c ∨ c = a.ab ∨ trF a.tb a.fl c := by
 obtain ⟨k, b, hb, hc⟩ := h
 by_cases hk : k < al.length
 · rw [List.getElem?_append_left hk] at hb
   exact .inl ⟨k, b, hb, hc⟩
 · rw [List.getElem?_append_right (by omega)] at hb
   have h0 : k - al.length = 0 := by
    by_cases e : k - al.length = 0
    · exact e
    · rw [List.getElem?_eq_none (by simp; omega)] at hb; simp at hb
   rw [h0] at hb
   simp at hb
   subst hb
   exact .inr hc
theorem eb_snoc {al : List AskH} {a : AskH} {k : Nat} {b : AskH} (hb : (al ++ [a])[k]? = some b) : al[k]? = some b ∨ b = a := by
 by_cases hk : k < al.length
 · rw [List.getElem?_append_left hk] at hb
   exact .inl hb
 · rw [List.getElem?_append_right (by omega)] at hb
   have h0 : k - al.length = 0 := by
    by_cases e : k - al.length = 0
    · exact e
    · rw [List.getElem?_eq_none (by simp; omega)] at hb; simp at hb
   rw [h0] at hb
   simp at hb
   exact .inr hb.symm
section
variable {h₀ h : Heap} {xb lb cb b8 b9 b10 rb : Nat} {al : List AskH} {sl : List AskS} {it : List Itm} {rs : List RuleV}
theorem NewI.rule (I : NewI h₀ h xb lb cb b8 b9 b10 al sl it) (RI : RulesIn h₀ rb rs) {j : Nat} (hj : j < rs.length) {m : Int} {most : Nat} (hm : (most : Int) = max 1 (min m 32)) (hal : al.length ≤ 100000) :
  ∃ a lv' δ h1 h2 h3 h4 h5 lb',
   D cfg 72 [rs[j].cv, .int .i64 m] h = some (tPtr a.tb, h1) ∧ Only (fun _ => False) h h1 ∧ h1 ++ [.cells (zeros [.bool false] rs[j].conts.length) 4 true] = h2 ∧ h2 ++ [.cells (rs[j].rc ++ [tPtr a.tb, endSl h1.length rs[j].conts.length, .bool false]) 166 false] = h3 ∧ a.ab = h2.length ∧
   append2 Try.prog (look (h3 ++ [AObj.cells [askP a] 164 true])) (h3.length + 1) 161 161 [bufSl lb al.length (al.map askP), .sl (some ⟨h3.length, 0, 1⟩) 1 1] = some (lv', δ) ∧ Heap.apply (h3 ++ [AObj.cells [askP a] 164 true]) δ = h4 ∧
   h3[xb]? = some (.cells (xC (.ptr none) (bufSl cb it.length (ctC (al.map askP) (ctI it))) (bufSl lb al.length (al.map askP)) 0) 163 false) ∧
   astore Try.prog (look h4) 161 (.ptr (some ⟨xb, 2, 4⟩)) lv' = some (.set xb (.cells (xC (.ptr none) (bufSl cb it.length (ctC (al.map askP) (ctI it))) lv' 0) 163 false)) ∧ h4.set xb (.cells (xC (.ptr none) (bufSl cb it.length (ctC (al.map askP) (ctI it))) lv' 0) 163 false) = h5 ∧ lv'.notTup = true ∧
   NewI h₀ h5 xb lb' cb b8 b9 b10 (al ++ [a]) (sl ++ [askOf most rs[j]]) it := by
 have RI1 := RI.same I.o
 have ok := RI1.ok _ (List.getElem_mem hj)
 obtain ⟨r, hr⟩ : ∃ r, r = rs[j] := ⟨_, rfl⟩
 rw [← hr] at ok ⊢
 have hv : SlC h r.cv r.conts := by rw [hr]; exact RI1.cs _ (List.getElem_mem hj)
 obtain ⟨tb, pa, nb, fl, h1, e1, T1, o1, f1⟩ := new_run (m := m) (most := most) hv ok.small ok.few hm
 obtain ⟨h2, hh2⟩ : ∃ h2, h1 ++ [.cells (zeros [.bool false] r.conts.length) 4 true] = h2 := ⟨_, rfl⟩
 obtain ⟨h3, hh3⟩ : ∃ h3, h2 ++ [.cells (r.rc ++ [tPtr tb, endSl h1.length r.conts.length, .bool false]) 166 false] = h3 := ⟨_, rfl⟩
 have o2 : Only (fun _ => False) h1 h2 := by rw [← hh2]; exact .app
 have o3 : Only (fun _ => False) h2 h3 := by rw [← hh3]; exact .app
 have o13 := o2.trans o3
 have o03 := o1.trans o13
 have I3 := I.same o03
 obtain ⟨a, ha⟩ : ∃ a : AskH, a = ⟨h2.length, tb, pa, nb, h1.length, fl⟩ := ⟨_, rfl⟩
 have e2 : h2[h1.length]? = some (.cells (boolCells (List.replicate r.conts.length false)) 4 true) := by rw [← hh2, ← zeros_bool]; simp
 have A3 : AskAt h3 a (askOf most r) := by
  refine ⟨?_, ?_, ?_, askOf_ok ok⟩
  · rw [ha, ← hh3]
    simp [askOf, askC]
  · rw [ha]; exact T1.same o13
  · rw [ha]; exact o3.at e2 id
 have L1 := o1.1
 have L2 := o2.1
 have L3 := o3.1
 have L0 := I.o.1
 have hfr := I.r.ak.fresh (a := a) (by rw [ha]; exact Nat.le_trans L1 L2) (by rw [ha]; exact L1) (by rw [ha]; exact f1)
 have K3 := I3.r.ak.snoc A3 hfr
 obtain ⟨δ, h4, e4, e5, d4, o4⟩ := append_buf (t := 161) (e := 164) (k := 1) (by simp) (by simp) (by decide) (by simp) (by simp) (h := h3) (b := lb) (n := al.length) (xs := al.map askP) (ys := [askP a]) (by simp) (by simp) I3.r.kl (by omega)
 obtain ⟨lb', hlb'⟩ : ∃ lb', (if al.length = 0 then h3.length + 1 else lb) = lb' := ⟨_, rfl⟩
 have hm1 : al.map askP ++ [askP a] = (al ++ [a]).map askP := by simp
 have hl1 : al.length + 1 = (al ++ [a]).length := by simp
 rw [hlb', hm1, hl1] at e4
 rw [hlb', hm1] at d4
 have K4 := K3.app I3.r.kl o4 ⟨by decide, by decide, by decide, by decide, by decide, by decide⟩
 have x4 := app_at o4 I3.r.kl I3.r.kx (.inl (by decide))
 obtain ⟨lv', hlv'⟩ : ∃ lv', bufSl lb' (al ++ [a]).length ((al ++ [a]).map askP) = lv' := ⟨_, rfl⟩
 rw [hlv'] at e4
 have one' : lv'.one = true := by rw [← hlv']; exact bufSl_one
 have st := cell_store x4 (n := 4) rfl (t := 161) (by simp) (off := 2) (v := lv') one' (by omega)
 obtain ⟨h5, hh5⟩ : ∃ h5, h4.set xb (.cells (xC (.ptr none) (bufSl cb it.length (ctC (al.map askP) (ctI it))) lv' 0) 163 false) = h5 := ⟨_, rfl⟩
 have o5 : Only (fun c => c = xb) h4 h5 := by rw [← hh5]; exact .set rfl
 have K5 := K4.other x4 o5 ⟨by decide, by decide, by decide, by decide, by decide, by decide⟩
 have atx : ∀ {b : Nat} {cs : List AV} {t : TypeId} {g : Bool}, h4[b]? = some (.cells cs t g) → (t ≠ 163 ∨ g = true) → h5[b]? = some (.cells cs t g) := fun hb ht => o5.at hb fun e => by
  rw [e, x4] at hb
  simp only [Option.some.injEq, AObj.cells.injEq] at hb
  rcases ht with ht | ht
  · exact ht hb.2.1.symm
  · rw [ht] at hb; simp at hb
 have hPl : ∀ x ∈ ctI it, x.1 < (al.map askP).length := fun x hx => by
  obtain ⟨t, h1, _⟩ := I.ok x hx
  have := (List.getElem?_eq_some_iff.1 h1).1
  simp [I.r.ak.len, this]
 have hg : ctC ((al ++ [a]).map askP) (ctI it) = ctC (al.map askP) (ctI it) := by rw [← hm1]; exact ctC_grow hPl
 have o05 : Only (fun _ => False) h₀ h5 := (I3.o.fresh o4 fun x hx => by rw [hx.1]; exact I.fl hx.2).fresh o5 fun x hx => by rw [hx]; exact I.fx
 refine ⟨a, lv', δ, h1, h2, h3, h4, h5, lb', by rw [ha]; exact e1, o1, hh2, by rw [ha]; exact hh3, by rw [ha], e4, e5, I3.r.kx, by simpa [xC] using st, hh5, by rw [← hlv']; exact bufSl_notTup, ?_⟩
 have x5 : h5[xb]? = some (.cells (xC (.ptr none) (bufSl cb it.length (ctC (al.map askP) (ctI it))) lv' 0) 163 false) := by rw [← hh5]; exact at_same (lt_of_at x4)
 refine ⟨⟨by rw [hg, hlv']; exact x5, fun _ => atx d4 (.inr rfl), K5⟩, fun hz => ?_, fun hz => atx (app_at o4 I3.r.kl (I3.k8 hz) (.inl (by decide))) (.inr rfl), fun hz => atx (app_at o4 I3.r.kl (I3.k9 hz) (.inl (by decide))) (.inr rfl),
  fun hz => atx (app_at o4 I3.r.kl (I3.k10 hz) (.inl (by decide))) (.inr rfl), I.n89, fun hz k b hb => ?_, o05, I.fx, fun _ => ?_, I.fc, fun c hc => ?_, fun k b hb => ?_, fun x hx => ?_⟩
 · rw [hg]; exact atx (app_at o4 I3.r.kl (I3.c hz) (.inl (by decide))) (.inr rfl)
 · rcases eb_snoc hb with hb | rfl
   · exact I.n10 hz k b hb
   · rw [ha]
     have := lt_of_at (I.k10 hz)
     intro e
     have e' : h1.length = b10 := e
     omega
 · rw [← hlb']
   split
   · omega
   · rename_i hz; exact I.fl hz
 · rcases askF_snoc hc with hc | hc | hc
   · exact I.fa c hc
   · rw [hc, ha]; show h₀.length ≤ h2.length; omega
   · rw [ha] at hc
     have := f1 c hc; omega
 · rcases eb_snoc hb with hb | rfl
   · exact I.fe k b hb
   · rw [ha]; show h₀.length ≤ h1.length; omega
 · obtain ⟨t, q1, q2⟩ := I.ok x hx
   exact ⟨t, by rw [List.getElem?_append_left (List.getElem?_eq_some_iff.1 q1).1]; exact q1, q2⟩
end
end
def selOne (rs : List RuleV) (k : Int) : Option RuleV := if k < 0 then none else rs[k.toNat]?
def selL (rs : List RuleV) (ks : List Int) : List RuleV := ks.filterMap (selOne rs)
def itF : Nat → List RuleV → List Itm
 | _, [] => []
 | q, r :: rs => itR q r.conts r.conts.length ++ itF (q + 1) rs
theorem itF_snoc {r : RuleV} : ∀ {rs : List RuleV} {q : Nat}, itF q (rs ++ [r]) = itF q rs ++ itR (q + rs.length) r.conts r.conts.length
 | [], q => by simp [itF]
 | x :: rs, q => by
  simp only [List.cons_append, itF, itF_snoc (rs := rs) (q := q + 1), List.length_cons, List.append_assoc]
  rw [show q + 1 + rs.length = q + (rs.length + 1) by omega]
theorem itF_len {B : Nat} : ∀ {rs : List RuleV} {q : Nat}, (∀ r ∈ rs, r.conts.length ≤ B) → (itF q rs).length ≤ B * rs.length
 | [], q, _ => by simp [itF]
 | r :: rs, q, h => by
  have h1 := itR_len (q := q) (cs := r.conts) (k := r.conts.length)
  have h2 := itF_len (rs := rs) (q := q + 1) fun x hx => h x (List.mem_cons_of_mem _ hx)
  have h3 := h r (List.mem_cons_self ..)
  simp only [itF, List.length_append, List.length_cons, Nat.mul_add, Nat.mul_one]
  omega
theorem selL_succ {rs : List RuleV} {ks : List Int} {i : Nat} (hi : i < ks.length) : selL rs (ks.take (i + 1)) = selL rs (ks.take i) ++ (selOne rs ks[i]).toList := by
 simp only [selL]
 rw [List.take_succ_eq_append_getElem hi, List.filterMap_append]
 cases hx : selOne rs ks[i] <;> simp [hx]
theorem selL_len {rs : List RuleV} {ks : List Int} : (selL rs ks).length ≤ ks.length := List.length_filterMap_le ..
theorem selL_mem {rs : List RuleV} {ks : List Int} {r : RuleV} (h : r ∈ selL rs ks) : r ∈ rs := by
 obtain ⟨k, _, h⟩ := List.mem_filterMap.1 h
 unfold selOne at h
 split at h
 · simp at h
 · exact List.mem_of_getElem? h
theorem ask_one {a : AskH} : (askP a).one = true := rfl
theorem build_166 {rc : List AV} {p : AA} {q : AA} {n : Nat} (hl : rc.length = 15) (ho : ∀ x ∈ rc, x.one = true) : abuild Try.prog 166 [(0, .agg rc), (1, .ptr (some p)), (2, .sl (some q) n n)] = some (.agg (rc ++ [.ptr (some p), .sl (some q) n n, .bool false])) := by
 match rc, hl, ho with
 | [c0, c1, c2, c3, c4, c5, c6, c7, c8, c9, c10, c11, c12, c13, c14], _, ho =>
  have h0 := ho c0 (by simp)
  have h1 := ho c1 (by simp)
  have h2 := ho c2 (by simp)
  have h3 := ho c3 (by simp)
  have h4 := ho c4 (by simp)
  have h5 := ho c5 (by simp)
  have h6 := ho c6 (by simp)
  have h7 := ho c7 (by simp)
  have h8 := ho c8 (by simp)
  have h9 := ho c9 (by simp)
  have h10 := ho c10 (by simp)
  have h11 := ho c11 (by simp)
  have h12 := ho c12 (by simp)
  have h13 := ho c13 (by simp)
  have h14 := ho c14 (by simp)
  simp [-AV.one, one_ptr, one_sl, one_int, one_agg, abuild, afill, zeros, splice, h0, h1, h2, h3, h4, h5, h6, h7, h8, h9, h10, h11, h12, h13, h14]
abbrev env5 (rv : AV) (most : Int) (xb : Nat) (w8 w9 w10 : AV) (pv : AV) (N k : Nat) : Env :=
 [(0, rv), (2, .int .i64 most), (7, xPtr xb), (8, w8), (9, w9), (10, w10), (21, pv), (22, .int .i64 N), (23, .int .i64 k)]
def In5 (h₀ : Heap) (rv : AV) (m0 : Int) (xb : Nat) (pv : AV) (rs : List RuleV) (ks : List Int) (most : Nat) (m : Nat) (σ : St) : Prop :=
 ∃ k lb cb b8 b9 b10 al h, m = ks.length - k ∧ k ≤ ks.length ∧ σ = ⟨env5 rv m0 xb (txtSl b8 (plI (itF 0 (selL rs (ks.take k))))) (txtSl b9 ((plI (itF 0 (selL rs (ks.take k)))).map fold)) (boolSl b10 (ncI (itF 0 (selL rs (ks.take k))))) pv ks.length k, h⟩ ∧
  NewI h₀ h xb lb cb b8 b9 b10 al ((selL rs (ks.take k)).map (askOf most)) (itF 0 (selL rs (ks.take k)))
theorem pick_round {h₀ h : Heap} {pv : AV} {m0 : Int} {most : Nat} {xb lb cb b8 b9 b10 rb : Nat} {al : List AskH} {rs : List RuleV} {ks : List Int} (hm : (most : Int) = max 1 (min m0 32)) (RI : RulesIn h₀ rb rs) (hp : Sl1 h₀ pv (intCells ks)) (hks : ks.length ≤ 1000) (hfew : ∀ r ∈ rs, r.conts.length ≤ 80)
  {k : Nat} (hk : k < ks.length) (I : NewI h₀ h xb lb cb b8 b9 b10 al ((selL rs (ks.take k)).map (askOf most)) (itF 0 (selL rs (ks.take k)))) {Q : AExit → St → Prop}
  (hq : ∀ st, In5 h₀ (rulesSl rb rs) m0 xb pv rs ks most (ks.length - (k + 1)) st → Q .normal st) :
  Wt Try.prog (D cfg) c81_l5 ⟨env5 (rulesSl rb rs) m0 xb (txtSl b8 (plI (itF 0 (selL rs (ks.take k))))) (txtSl b9 ((plI (itF 0 (selL rs (ks.take k)))).map fold)) (boolSl b10 (ncI (itF 0 (selL rs (ks.take k))))) pv ks.length k, h⟩ Q := by
 have hpv : pv.notTup = true := by rcases hp with ⟨rfl, _⟩ | ⟨_, _, _, _, _, rfl, _, _⟩ <;> rfl
 have hrv : (rulesSl rb rs).notTup = true := bufSl_notTup
 have hil : (k : Int) < ks.length := by omega
 have hwr : IntKind.wrap .i64 ((k : Int) + 1) = k + 1 := wrap_i64 (by omega) (by omega)
 obtain ⟨z, hz⟩ : ∃ z, z = ks[k] := ⟨_, rfl⟩
 have hkc : k < (intCells ks).length := by simp [intCells]; omega
 have a1 := hp.at (t := 30) (e := 3) (by simp) (by simp) hkc
 have l1 := (hp.same I.o).load (e := 3) (by simp) hkc
 have hzc : (intCells ks)[k] = .int .i64 z := by simp [intCells, hz]
 rw [hzc] at l1
 have hsucc := selL_succ (rs := rs) hk
 rw [← hz] at hsucc
 have hrl := fun L => RI.len (L := L)
 have n1 : (txtSl b8 (plI (itF 0 (selL rs (ks.take k))))).notTup = true := txtSl_nt
 have n2 : (txtSl b9 ((plI (itF 0 (selL rs (ks.take k)))).map fold)).notTup = true := txtSl_nt
 have n3 : (boolSl b10 (ncI (itF 0 (selL rs (ks.take k))))).notTup = true := boolSl_nt
 have hsl : (selL rs (ks.take k)).length ≤ k := by
  have := selL_len (rs := rs) (ks := ks.take k)
  rw [List.length_take] at this; omega
 cases hsel : selOne rs z with
 | none =>
  rw [hsel] at hsucc
  simp only [Option.toList, List.append_nil] at hsucc
  have hnext : In5 h₀ (rulesSl rb rs) m0 xb pv rs ks most (ks.length - (k + 1)) ⟨env5 (rulesSl rb rs) m0 xb (txtSl b8 (plI (itF 0 (selL rs (ks.take k))))) (txtSl b9 ((plI (itF 0 (selL rs (ks.take k)))).map fold)) (boolSl b10 (ncI (itF 0 (selL rs (ks.take k))))) pv ks.length (k + 1), h⟩ :=
   ⟨k + 1, lb, cb, b8, b9, b10, al, h, rfl, hk, by rw [hsucc], by rw [hsucc]; exact I⟩
  have hfin := hq _ hnext
  simp only [env5] at hfin
  generalize txtSl b8 (plI (itF 0 (selL rs (ks.take k)))) = x1 at *
  generalize txtSl b9 ((plI (itF 0 (selL rs (ks.take k)))).map fold) = x2 at *
  generalize boolSl b10 (ncI (itF 0 (selL rs (ks.take k)))) = x3 at *
  generalize rulesSl rb rs = rv at *
  unfold selOne at hsel
  by_cases z1 : z < 0
  · simp [-AV.notTup, hrv, hpv, n1, n2, n3, notTup_ptr, c81_l5, c81_r5, c81_r6, c81_r7, c81_r18, hil, hk, a1, l1, z1, hwr]
    simpa using hfin
  · rw [if_neg z1] at hsel
    have hge := List.getElem?_eq_none_iff.1 hsel
    have z2 : (rs.length : Int) ≤ z := by omega
    simp [-AV.notTup, hrv, hpv, n1, n2, n3, notTup_ptr, c81_l5, c81_r5, c81_r6, c81_r7, c81_r18, hil, hk, a1, l1, z1, z2, len1, hrl, hwr]
    simpa using hfin
 | some r =>
  rw [hsel] at hsucc
  simp only [Option.toList] at hsucc
  unfold selOne at hsel
  have z1 : ¬ z < 0 := fun h => by rw [if_pos h] at hsel; simp at hsel
  rw [if_neg z1] at hsel
  obtain ⟨j, rfl⟩ : ∃ j : Nat, z = j := ⟨z.toNat, by omega⟩
  simp only [Int.toNat_natCast] at hsel
  obtain ⟨hj, hrj⟩ := List.getElem?_eq_some_iff.1 hsel
  have z2 : ¬ ((rs.length : Int) ≤ j) := by omega
  have z2' : ¬ (rs.length ≤ j) := by omega
  have hall : al.length = (selL rs (ks.take k)).length := by rw [I.r.ak.len]; simp
  obtain ⟨a, lv', δ, h1, h2, h3, h4, h5, lb', e1, o1, hh2, hh3, hab, e4, e5, x3, st, hh5, nt', J⟩ := I.rule RI hj hm (by omega)
  have RI0 := RI.same I.o
  have RI1 := RI0.same o1
  have o5 : Only (fun _ => False) h₀ h5 := J.o
  have RI5 := RI.same o5
  obtain ⟨b1, b2, b3⟩ := RI0.at hj
  obtain ⟨_, _, b4⟩ := RI1.at hj
  obtain ⟨_, _, b5⟩ := RI5.at hj
  have okr := RI.ok _ (List.getElem_mem hj)
  have hvr := RI.cs _ (List.getElem_mem hj)
  have hcq := RI0.cq _ (List.getElem_mem hj)
  have fr := hfew _ (List.getElem_mem hj)
  have hrb : rs.length ≠ 0 := by omega
  have s1 : sameAt h h1 rb = true := sameAt_of (RI0.sl hrb) (o1.at (RI0.sl hrb) id) RI.beq
  have s2 : ∀ b, slB rs[j].cv = some b → sameAt h h1 b = true := fun b hb => by
   obtain ⟨o, q1, q2⟩ := hcq b hb
   exact sameAt_of q1 (o1.at q1 id) (beq_cells q2)
  rw [hrj] at *
  have bld := build_166 (rc := r.rc) (p := ⟨a.tb, 0, 6⟩) (q := ⟨h1.length, 0, r.conts.length⟩) (n := r.conts.length) okr.len fun x hx => plain_one (okr.plain x hx)
  have hb1 : (r.conts.length : Int) ≤ 281474976710656 := by omega
  have hb2 : (r.conts.length : Int) ≤ 9223372036854775807 := by omega
  obtain ⟨w4, hw4⟩ : ∃ w4, r.rc ++ [tPtr a.tb, endSl h1.length r.conts.length, .bool false] = w4 := ⟨_, rfl⟩
  have hw18 : w4.length = 18 := by rw [← hw4]; simp [okr.len]
  have hone : (∀ x, x ∈ w4 → x.one = true) = True := by
   rw [← hw4]
   refine eq_true fun x hx => ?_
   simp only [List.mem_append, List.mem_cons, List.not_mem_nil, or_false] at hx
   rcases hx with hx | rfl | rfl | rfl
   · exact plain_one (okr.plain x hx)
   · rfl
   · rfl
   · rfl
  rw [hw4] at hh3 bld
  have q1 := cell_load x3 (n := 4) rfl (t := 161) (by simp) (off := 2) rfl
  obtain ⟨cvv, hcvv⟩ : ∃ x, bufSl cb (itF 0 (selL rs (ks.take k))).length (ctC (al.map askP) (ctI (itF 0 (selL rs (ks.take k))))) = x := ⟨_, rfl⟩
  obtain ⟨lvv, hlvv⟩ : ∃ x, bufSl lb al.length (al.map askP) = x := ⟨_, rfl⟩
  rw [hcvv] at st hh5
  rw [hlvv] at e4 q1
  have nl : lvv.notTup = true := by rw [← hlvv]; exact bufSl_notTup
  have hrl' : al.length = (selL rs (ks.take k)).length := hall
  have hlast : (al ++ [a])[(selL rs (ks.take k)).length]? = some a := by rw [← hall]; simp
  have hslast : ((selL rs (ks.take k)).map (askOf most) ++ [askOf most r])[(selL rs (ks.take k)).length]? = some (askOf most r) := by simp
  have hse : (askOf most r).ends.length = r.conts.length := by simp [askOf]
  have hit0 : (itF 0 (selL rs (ks.take k))).length ≤ 90000 := by
   have := itF_len (B := 80) (rs := selL rs (ks.take k)) (q := 0) fun x hx => hfew x (selL_mem hx)
   have : 80 * (selL rs (ks.take k)).length ≤ 80 * 1000 := Nat.mul_le_mul_left _ (by omega)
   omega
  have hsl' : selL rs (ks.take (k + 1)) = selL rs (ks.take k) ++ [r] := hsucc
  have hitn : itF 0 (selL rs (ks.take (k + 1))) = itF 0 (selL rs (ks.take k)) ++ itR (selL rs (ks.take k)).length r.conts r.conts.length := by
   rw [hsl', itF_snoc, Nat.zero_add]
  have hloop := fun Q hq => items_loop (h₀ := h₀) (h := h5) (rv := rulesSl rb rs) (pv := pv) (cv := r.cv) (most := m0) (xb := xb) (N := ks.length) (k := k) (Q := Q) hvr hrv hpv okr.small okr.few hit0 hlast hslast hse J hq
  have hlen := fun L => hvr.len (L := L)
  have hnx : ∀ h' cb' b8' b9' b10', NewI h₀ h' xb lb' cb' b8' b9' b10' (al ++ [a]) ((selL rs (ks.take k)).map (askOf most) ++ [askOf most r]) (itF 0 (selL rs (ks.take k)) ++ itR (selL rs (ks.take k)).length r.conts r.conts.length) →
    Q .normal ⟨env5 (rulesSl rb rs) m0 xb (txtSl b8' (plI (itF 0 (selL rs (ks.take k)) ++ itR (selL rs (ks.take k)).length r.conts r.conts.length))) (txtSl b9' ((plI (itF 0 (selL rs (ks.take k)) ++ itR (selL rs (ks.take k)).length r.conts r.conts.length)).map fold)) (boolSl b10' (ncI (itF 0 (selL rs (ks.take k)) ++ itR (selL rs (ks.take k)).length r.conts r.conts.length))) pv ks.length (k + 1), h'⟩ :=
   fun h' cb' b8' b9' b10' J' => hq _ ⟨k + 1, lb', cb', b8', b9', b10', al ++ [a], h', rfl, hk, by rw [hitn], by rw [hitn, hsl']; simpa using J'⟩
  obtain ⟨it1, hit1⟩ : ∃ x, itF 0 (selL rs (ks.take k)) ++ itR (selL rs (ks.take k)).length r.conts r.conts.length = x := ⟨_, rfl⟩
  rw [hit1] at hloop hnx
  simp only [env5] at hnx
  simp only [env11] at hloop
  generalize txtSl b8 (plI (itF 0 (selL rs (ks.take k)))) = x1 at *
  generalize txtSl b9 ((plI (itF 0 (selL rs (ks.take k)))).map fold) = x2 at *
  generalize boolSl b10 (ncI (itF 0 (selL rs (ks.take k)))) = x3 at *
  have okl := okr.len
  obtain ⟨rv, hrvE⟩ : ∃ rv, rulesSl rb rs = rv := ⟨_, rfl⟩
  rw [hrvE] at hrv b1 hloop hnx hrl ⊢
  obtain ⟨cv, hcv⟩ : ∃ cv, r.cv = cv := ⟨_, rfl⟩
  rw [hcv] at e1 b3 b4 b5 hloop hlen s2 hvr
  obtain ⟨lm, hlm⟩ : ∃ lm, (rulesC rs).length = lm := ⟨_, rfl⟩
  rw [hlm] at b1 b2 b3 b4 b5
  obtain ⟨n, hn⟩ : ∃ n, r.conts.length = n := ⟨_, rfl⟩
  rw [hn] at hb1 hb2 hh2 bld hlen hloop
  rw [show ((0 : Nat) : Int) = 0 from rfl] at hloop
  rcases hvr with ⟨rfl, _⟩ | ⟨cb0, g0, c0, cs0, rfl, _, _⟩
  · simp [-AV.notTup, -AV.one, hone, hw18, hrv, hpv, n1, n2, n3, nt', nl, notTup_ptr, c81_l5, c81_r5, c81_r6, c81_r7, c81_r8, c81_r9, c81_r10, hil, hk, a1, l1, z1, z2, z2', len1, hrl, b1, b2, b3, b4, b5, fieldA, e1, s1, hlen,
     amakeSlice, hb1, hb2, hh2, bld, hh3, q1, abuildSlice, afill, zeros, splice, ask_one, e4, e5, st, hh5, ← hab]
    refine hloop _ fun h' cb' b8' b9' b10' J' => ?_
    have hfin := hnx h' cb' b8' b9' b10' J'
    have m1 : (txtSl b8' (plI it1)).notTup = true := txtSl_nt
    have m2 : (txtSl b9' ((plI it1).map fold)).notTup = true := txtSl_nt
    have m3 : (boolSl b10' (ncI it1)).notTup = true := boolSl_nt
    generalize txtSl b8' (plI it1) = y1 at *
    generalize txtSl b9' ((plI it1).map fold) = y2 at *
    generalize boolSl b10' (ncI it1) = y3 at *
    simp [-AV.notTup, hrv, hpv, m1, m2, m3, notTup_ptr, c81_r18, hwr]
    simpa using hfin
  · have s3 := s2 cb0 rfl
    simp [-AV.notTup, -AV.one, hone, hw18, hrv, hpv, n1, n2, n3, nt', nl, notTup_ptr, c81_l5, c81_r5, c81_r6, c81_r7, c81_r8, c81_r9, c81_r10, hil, hk, a1, l1, z1, z2, z2', len1, hrl, b1, b2, b3, b4, b5, fieldA, e1, s1, s3, hlen,
     amakeSlice, hb1, hb2, hh2, bld, hh3, q1, abuildSlice, afill, zeros, splice, ask_one, e4, e5, st, hh5, ← hab]
    refine hloop _ fun h' cb' b8' b9' b10' J' => ?_
    have hfin := hnx h' cb' b8' b9' b10' J'
    have m1 : (txtSl b8' (plI it1)).notTup = true := txtSl_nt
    have m2 : (txtSl b9' ((plI it1).map fold)).notTup = true := txtSl_nt
    have m3 : (boolSl b10' (ncI it1)).notTup = true := boolSl_nt
    generalize txtSl b8' (plI it1) = y1 at *
    generalize txtSl b9' ((plI it1).map fold) = y2 at *
    generalize boolSl b10' (ncI it1) = y3 at *
    simp [-AV.notTup, hrv, hpv, m1, m2, m3, notTup_ptr, c81_r18, hwr]
    simpa using hfin
theorem picks_loop {h₀ h : Heap} {pv : AV} {m0 : Int} {most : Nat} {xb rb : Nat} {rs : List RuleV} {ks : List Int} (hm : (most : Int) = max 1 (min m0 32)) (RI : RulesIn h₀ rb rs) (hp : Sl1 h₀ pv (intCells ks)) (hks : ks.length ≤ 1000) (hfew : ∀ r ∈ rs, r.conts.length ≤ 80)
  (I : NewI h₀ h xb 0 0 0 0 0 [] [] []) {Q : AExit → St → Prop}
  (hq : ∀ h' lb cb b8 b9 b10 al, NewI h₀ h' xb lb cb b8 b9 b10 al ((selL rs ks).map (askOf most)) (itF 0 (selL rs ks)) →
   Q (.exit 0) ⟨env5 (rulesSl rb rs) m0 xb (txtSl b8 (plI (itF 0 (selL rs ks)))) (txtSl b9 ((plI (itF 0 (selL rs ks))).map fold)) (boolSl b10 (ncI (itF 0 (selL rs ks)))) pv ks.length ks.length ++ [(24, .bool false)], h'⟩) :
  Wt Try.prog (D cfg) (.loop c81_l5 (some [0, 2, 7, 8, 9, 10, 21, 22, 23])) ⟨env5 (rulesSl rb rs) m0 xb (.sl none 0 0) (.sl none 0 0) (.sl none 0 0) pv ks.length 0, h⟩ Q := by
 have hpv : pv.notTup = true := by rcases hp with ⟨rfl, _⟩ | ⟨_, _, _, _, _, rfl, _, _⟩ <;> rfl
 have hrv : (rulesSl rb rs).notTup = true := bufSl_notTup
 refine Wt.loop (In5 h₀ (rulesSl rb rs) m0 xb pv rs ks most) (m := ks.length) ⟨0, 0, 0, 0, 0, 0, [], h, rfl, Nat.zero_le _, ?_, ?_⟩ ?_
 · simp [selL, itF, plI, ncI, txtSl, boolSl, bufSl]
 · simpa [selL, itF] using I
 rintro m σ ⟨k, lb, cb, b8, b9, b10, al, h1, rfl, hk, rfl, I1⟩
 have hcut : ∀ w8 w9 w10, cut (some [0, 2, 7, 8, 9, 10, 21, 22, 23]) (env5 (rulesSl rb rs) m0 xb w8 w9 w10 pv ks.length k) = env5 (rulesSl rb rs) m0 xb w8 w9 w10 pv ks.length k := fun _ _ _ => by
  generalize rulesSl rb rs = rv
  simp
 simp only [hcut]
 by_cases hkl : k < ks.length
 · refine pick_round hm RI hp hks hfew hkl I1 fun st hst => ?_
   exact ⟨_, by omega, hst⟩
 · have hk2 : k = ks.length := by omega
   subst hk2
   rw [List.take_length] at I1 ⊢
   have hfin := hq h1 lb cb b8 b9 b10 al I1
   have n1 : (txtSl b8 (plI (itF 0 (selL rs ks)))).notTup = true := txtSl_nt
   have n2 : (txtSl b9 ((plI (itF 0 (selL rs ks))).map fold)).notTup = true := txtSl_nt
   have n3 : (boolSl b10 (ncI (itF 0 (selL rs ks)))).notTup = true := boolSl_nt
   simp only [env5] at hfin
   generalize txtSl b8 (plI (itF 0 (selL rs ks))) = x1 at *
   generalize txtSl b9 ((plI (itF 0 (selL rs ks))).map fold) = x2 at *
   generalize boolSl b10 (ncI (itF 0 (selL rs ks))) = x3 at *
   generalize rulesSl rb rs = rv at *
   simp [-AV.notTup, hrv, hpv, n1, n2, n3, notTup_ptr, c81_l5, c81_r5]
   simpa using hfin
theorem itR_sought {q : Nat} {cs : List Cont} : ∀ {k : Nat}, ∀ x ∈ itR q cs k, soughtB x.2 = true
 | 0, x, h => by simp [itR] at h
 | k + 1, x, h => by
  simp only [itR, List.mem_append] at h
  rcases h with h | h
  · exact itR_sought x h
  · split at h
    · split at h
      · rename_i c _ hs
        simp at h
        rw [h]; exact hs
      · simp at h
    · simp at h
theorem itF_sought : ∀ {rs : List RuleV} {q : Nat}, ∀ x ∈ itF q rs, soughtB x.2 = true
 | [], q, x, h => by simp [itF] at h
 | r :: rs, q, x, h => by
  simp only [itF, List.mem_append] at h
  rcases h with h | h
  · exact itR_sought x h
  · exact itF_sought x h
theorem plI_good {it : List Itm} (h : ∀ x ∈ it, soughtB x.2 = true) : bgood (plI it) = true := by
 simp only [bgood, plI, List.all_map, List.all_eq_true]
 intro x hx
 have := h x hx
 simp only [soughtB, Bool.and_eq_true, decide_eq_true_eq] at this
 simp only [Function.comp, decide_eq_true_eq]
 omega
theorem askF_lt {h : Heap} {al : List AskH} {sl : List AskS} (H : AsksAt h al sl) {c : Nat} (hc : askF al c) : c < h.length := by
 obtain ⟨k, a, ha, hc⟩ := hc
 obtain ⟨s, _, A⟩ := H.get ha
 rcases hc with rfl | hc
 · exact lt_of_at A.hdr
 · obtain ⟨cs, t, h1, _⟩ := A.trk.typ hc
   exact lt_of_at h1
theorem new_side {h : Heap} {pv : AV} {m0 : Int} {most : Nat} {rb : Nat} {rs : List RuleV} {ks : List Int} (hm : (most : Int) = max 1 (min m0 32)) (RI : RulesIn h rb rs) (hp : Sl1 h pv (intCells ks)) (hks : ks.length ≤ 1000) (hfew : ∀ r ∈ rs, r.conts.length ≤ 80) (hit : (itF 0 (selL rs ks)).length ≤ 200) :
  ∃ xb lb cb sb lv nv BB al tab fl ob ou h', D cfg 81 [rulesSl rb rs, pv, .int .i64 m0] h = some (xPtr xb, h') ∧
   SideAt h' xb lb cb sb lv nv BB al ((selL rs ks).map (askOf most)) (ctI (itF 0 (selL rs ks))) (plI (itF 0 (selL rs ks))) (ncI (itF 0 (selL rs ks))) [] tab fl ob ou ∧ Only (fun _ => False) h h' ∧
   (∀ c, sideF xb sb al c → h.length ≤ c) ∧ (∀ c, scFoot sb lv nv BB (begs ((plI (itF 0 (selL rs ks))).map fold)).length ob ou c → h.length ≤ c) := by
 have hpv : pv.notTup = true := by rcases hp with ⟨rfl, _⟩ | ⟨_, _, _, _, _, rfl, _, _⟩ <;> rfl
 have hpl : ∀ L, alen Try.prog L 30 pv = some (.int .i64 ks.length) := fun L => by
  have := hp.len (t := 30) (e := 3) (by simp) (L := L)
  rwa [show (intCells ks).length = ks.length by simp [intCells]] at this
 have hrv : (rulesSl rb rs).notTup = true := bufSl_notTup
 obtain ⟨sl, hsl⟩ : ∃ sl, (selL rs ks).map (askOf most) = sl := ⟨_, rfl⟩
 have key : ∃ r h', D cfg 81 [rulesSl rb rs, pv, .int .i64 m0] h = some (r, h') ∧ ∃ xb lb cb sb lv nv BB al tab fl ob ou, r = xPtr xb ∧
   SideAt h' xb lb cb sb lv nv BB al sl (ctI (itF 0 (selL rs ks))) (plI (itF 0 (selL rs ks))) (ncI (itF 0 (selL rs ks))) [] tab fl ob ou ∧ Only (fun _ => False) h h' ∧
   (∀ c, sideF xb sb al c → h.length ≤ c) ∧ (∀ c, scFoot sb lv nv BB (begs ((plI (itF 0 (selL rs ks))).map fold)).length ob ou c → h.length ≤ c) := by
  refine call81 (args := [rulesSl rb rs, pv, .int .i64 m0]) (h := h) (by simp) ?_
  obtain ⟨h1, hh1⟩ : ∃ h1, h ++ [AObj.cells [.ptr none, .sl none 0 0, .sl none 0 0, .int .i64 0] 163 false] = h1 := ⟨_, rfl⟩
  have o1 : Only (fun _ => False) h h1 := by rw [← hh1]; exact .app
  have I0 : NewI h h1 h.length 0 0 0 0 0 [] [] [] := by
   refine ⟨⟨by rw [← hh1]; simp [bufSl], fun e => absurd rfl e, .nil⟩, fun e => absurd rfl e, fun e => absurd rfl e, fun e => absurd rfl e, fun e => absurd rfl e, fun e => absurd rfl e, fun e => absurd rfl e, o1, Nat.le_refl _, fun e => absurd rfl e, fun e => absurd rfl e, ?_, ?_, ?_⟩
   · rintro c ⟨k, a, ha, _⟩; simp at ha
   · intro k a ha; simp at ha
   · intro x hx; simp [ctI] at hx
  have hloop := fun Q hq => picks_loop (Q := Q) hm RI hp hks hfew I0 hq
  rw [hsl] at hloop
  obtain ⟨rv, hrvE⟩ : ∃ rv, rulesSl rb rs = rv := ⟨_, rfl⟩
  rw [hrvE] at hrv hloop ⊢
  simp only [env5] at hloop
  simp [-AV.notTup, hrv, hpv, notTup_ptr, c81, c81_r0, c81_r1, c81_r2, c81_r3, c81_r4, abuild, afill, zeros, splice, hh1, len1, hpl]
  try simp [AV.notTup] at hh1 ⊢
  try rw [hh1]
  refine hloop _ fun h2 lb cb b8 b9 b10 al I => ?_
  obtain ⟨it, hitE⟩ : ∃ it, itF 0 (selL rs ks) = it := ⟨_, rfl⟩
  have hsg : ∀ x ∈ it, soughtB x.2 = true := by rw [← hitE]; exact itF_sought
  rw [hitE] at hit I ⊢
  have hg := plI_good hsg
  have n1 : (txtSl b8 (plI it)).notTup = true := txtSl_nt
  have n2 : (txtSl b9 ((plI it).map fold)).notTup = true := txtSl_nt
  have n3 : (boolSl b10 (ncI it)).notTup = true := boolSl_nt
  have v8 : Sl1 h2 (txtSl b8 (plI it)) (strCells (plI it)) := Sl1.txt (s := true) fun hne => I.k8 (by rwa [plI_len] at hne)
  have v9 : Sl1 h2 (txtSl b9 ((plI it).map fold)) (strCells ((plI it).map fold)) := Sl1.txt (s := true) fun hne => I.k9 (by rwa [List.length_map, plI_len] at hne)
  have v10 : Sl1 h2 (boolSl b10 (ncI it)) (boolCells (ncI it)) := by
   have := Sl1.buf (h := h2) (b := b10) (e := 4) (s := true) (xs := boolCells (ncI it)) fun hne => I.k10 (by rwa [boolCells_len, ncI_len] at hne)
   rwa [boolCells_len] at this
  have hb := begs_fold_le hg (by rw [plI_len]; exact hit)
  obtain ⟨B, tab, fl, ob, ou, h3, e3, o3, A, fA⟩ := build_ok (bud := 4096) v9 (slB_lt v9) (by rw [List.length_map, plI_len]; omega) (by rw [bgood_fold]; exact hg) (by omega) hb
  obtain ⟨sb, lv, nv, h4, e4, S4, o4, f4, fsb⟩ := scan_new A (v8.same o3) (v10.same o3) hg (by rw [plI_len]; exact hit) (by rw [ncI_len]; omega)
  have R4 := (I.r.same o3).same o4
  obtain ⟨cvv, hcvv⟩ : ∃ x, bufSl cb it.length (ctC (al.map askP) (ctI it)) = x := ⟨_, rfl⟩
  have st := cell_store R4.kx (n := 4) rfl (t := 69) (by simp) (off := 0) (v := scPtr sb) rfl (by omega)
  obtain ⟨h5, hh5⟩ : ∃ h5, h4.set h.length (.cells (xC (scPtr sb) (bufSl cb it.length (ctC (al.map askP) (ctI it))) (bufSl lb al.length (al.map askP)) 0) 163 false) = h5 := ⟨_, rfl⟩
  obtain ⟨R5, o5⟩ := R4.hdr hh5
  have hf : ∀ c, scFoot sb lv nv B (begs ((plI it).map fold)).length ob ou c → h2.length ≤ c ∧ c < h5.length := fun c hc => by
   have L3 := o3.1
   have L5 := o5.1
   refine ⟨?_, ?_⟩
   · rcases f4 c hc with h6 | h6
     · exact fA c h6
     · omega
   · rcases hc with rfl | hc | hc | hc
     · obtain ⟨_, _, h6⟩ := S4.sc.hdr
       have := lt_of_at h6; omega
     · have := slB_lt S4.l_ c hc; omega
     · have := slB_lt S4.n_ c hc; omega
     · have := S4.auto.at_.foot_lt hc; omega
  have hx2 := lt_of_at I.r.kx
  have heb : ∀ (k : Nat) (a : AskH), al[k]? = some a → a.eb < h2.length := fun k a ha => by
   obtain ⟨s, _, A⟩ := I.r.ak.get ha
   exact lt_of_at A.ends
  have S5 : ScanX h5 sb lv nv B (plI it) (ncI it) [] tab fl ob ou := S4.keep o5 fun c hc e => by
   have := (hf c hc).1; omega
  have o02 : Only (fun _ => False) h h5 := ((I.o.trans o3).trans o4).fresh o5 fun c e => by omega
  have c5 : it.length ≠ 0 → h5[cb]? = some (.cells (ctC (al.map askP) (ctI it)) 168 true) := fun hne => o5.at (o4.at (o3.at (I.c hne) id) id) fun e => by
   have := I.c hne
   rw [e, I.r.kx] at this; simp at this
  have hside : SideAt h5 h.length lb cb sb lv nv B al sl (ctI it) (plI it) (ncI it) [] tab fl ob ou := by
   refine ⟨by rw [ctI_len]; exact R5, fun hne => c5 (by rwa [ctI_len] at hne), S5, I.ok, by rw [ctI_len, plI_len], fun c hc => ?_⟩
   obtain ⟨q1, q2⟩ := hf c hc
   refine ⟨q2, by omega, fun e => ?_, fun k a ha e => ?_⟩
   · have := askF_lt I.r.ak e; omega
   · have := heb k a ha; omega
  have hfin : ∃ xb lb cb sb lv nv BB al tab fl ob ou, xPtr h.length = xPtr xb ∧
    SideAt h5 xb lb cb sb lv nv BB al sl (ctI it) (plI it) (ncI it) [] tab fl ob ou ∧ Only (fun _ => False) h h5 ∧
    (∀ c, sideF xb sb al c → h.length ≤ c) ∧ (∀ c, scFoot sb lv nv BB (begs ((plI it).map fold)).length ob ou c → h.length ≤ c) := by
   have L2 := I.o.1
   refine ⟨h.length, lb, cb, sb, lv, nv, B, al, tab, fl, ob, ou, rfl, hside, o02, fun c hc => ?_, fun c hc => ?_⟩
   · rcases hc with rfl | rfl | hc | ⟨k, a, ha, rfl⟩
     · exact Nat.le_refl _
     · have := o3.1; omega
     · exact I.fa c hc
     · exact I.fe k a ha
   · have := (hf c hc).1; omega
  generalize txtSl b8 (plI it) = x1 at *
  generalize txtSl b9 ((plI it).map fold) = x2 at *
  generalize boolSl b10 (ncI it) = x3 at *
  have hh5' : h4.set h.length (.cells [scPtr sb, bufSl cb it.length (ctC (al.map askP) (ctI it)), bufSl lb al.length (al.map askP), .int .i64 0] 163 false) = h5 := hh5
  simp [-AV.cells, -AV.one, -AV.notTup, hrv, hpv, n1, n2, n3, notTup_ptr, c81_r19, c81_r20, c81_r21, extractV, e3, e4, fieldA, st, hh5']
  simpa using hfin
 obtain ⟨r, h', e, xb, lb, cb, sb, lv, nv, BB, al, tab, fl, ob, ou, rfl, rest⟩ := key
 rw [hsl]
 exact ⟨xb, lb, cb, sb, lv, nv, BB, al, tab, fl, ob, ou, h', e, rest⟩
section
section
variable {h : Heap} {xb lb cb sb : Nat} {lv nv : AV} {BB : AB} {al : List AskH} {sl : List AskS} {ct : List (Nat × Nat)} {pl : List Txt} {nc : List Bool} {w : Txt} {tab : Nat → Nat → Nat} {fl ob : Nat → Nat} {ou : Nat → List Int}
theorem SideAt.typ (H : SideAt h xb lb cb sb lv nv BB al sl ct pl nc w tab fl ob ou) {c : Nat} (hc : sideF xb sb al c) : ∃ cs t g, h[c]? = some (.cells cs t g) ∧ (t = 163 ∨ t = 136 ∨ t = 166 ∨ t = 144 ∨ t = 147 ∨ t = 181 ∨ t = 4) ∧ (g = true → t = 4) := by
 rcases hc with rfl | rfl | ⟨k, a, ha, hc⟩ | ⟨k, a, ha, rfl⟩
 · exact ⟨_, _, _, H.r.kx, .inl rfl, fun e => by simp at e⟩
 · obtain ⟨ring, _, h1⟩ := H.s.sc.hdr
   exact ⟨_, _, _, h1, .inr (.inl rfl), fun e => by simp at e⟩
 · obtain ⟨s, _, A⟩ := H.r.ak.get ha
   rcases hc with rfl | hc
   · exact ⟨_, _, _, A.hdr, .inr (.inr (.inl rfl)), fun e => by simp at e⟩
   · obtain ⟨cs, t, h1, h2⟩ := A.trk.typ hc
     exact ⟨cs, t, false, h1, by rcases h2 with e | e | e <;> simp [e], fun e => by simp at e⟩
 · obtain ⟨s, _, A⟩ := H.r.ak.get ha
   exact ⟨_, _, _, A.ends, by simp, fun _ => rfl⟩
theorem SideAt.lt (H : SideAt h xb lb cb sb lv nv BB al sl ct pl nc w tab fl ob ou) {c : Nat} (hc : sideF xb sb al c) : c < h.length := by
 obtain ⟨cs, t, g, h1, _⟩ := H.typ hc
 exact lt_of_at h1
theorem NotesAt.side (H : SideAt h xb lb cb sb lv nv BB al sl ct pl nc w tab fl ob ou) {h' : Heap} {v : AV} {ns : List Note} (hn : NotesAt h v ns) (ho : Only (fun c => sideF xb sb al c ∨ h.length ≤ c) h h') : NotesAt h' v ns := by
 obtain ⟨nk, h1, h2⟩ := hn
 refine ⟨nk, h1, fun hne => ho.at (h2 hne) fun e => ?_⟩
 rcases e with e | e
 · obtain ⟨cs, t, g, h3, h4, _⟩ := H.typ e
   rw [h2 hne] at h3
   simp only [Option.some.injEq, AObj.cells.injEq] at h3
   obtain ⟨_, e1, _⟩ := h3
   rw [← e1] at h4
   revert h4
   decide
 · have := lt_of_at (h2 hne); omega
theorem begin_side (H : SideAt h xb lb cb sb lv nv BB al sl ct pl nc w tab fl ob ou) (hsl : sl.length ≤ 1000) {ns : List Note} (hns : ns = toldNotes (fun s => s.T) w.length sl) :
  ∃ v al' h', D cfg1 82 [xPtr xb] h = some (.tup [v, .int .i64 (worstM ns)], h') ∧ NotesAt h' v ns ∧ v.notTup = true ∧ SideAt h' xb lb cb sb lv nv BB al' (sl.map (stepS fun s => s.T)) ct pl nc w tab fl ob ou ∧
   Only (fun c => sideF xb sb al c ∨ h.length ≤ c) h h' ∧ (∀ c, sideF xb sb al' c → sideF xb sb al c ∨ h.length ≤ c) := by
 obtain ⟨v, al', h', e, N, hv, R, o, f, m1, m2⟩ := begin_run hsl H.r
 rw [← hns] at e N
 have hebs : ∀ (k : Nat) (a : AskH), al'[k]? = some a → ∃ a0, al[k]? = some a0 ∧ a.eb = a0.eb := fun k a ha => by
  have h1 : (al'.map (fun a => a.eb))[k]? = some a.eb := by simp [ha]
  rw [m2, List.getElem?_map] at h1
  cases h2 : al[k]? with
  | none => rw [h2] at h1; simp at h1
  | some a0 => rw [h2] at h1; simp at h1; exact ⟨a0, rfl, h1.symm⟩
 have out : ∀ {c : Nat} {cs : List AV} {t : TypeId}, h[c]? = some (.cells cs t true) → ¬ (askF al c ∨ h.length ≤ c) := fun hc e => by
  rcases e with ⟨k, a, ha, e⟩ | e
  · obtain ⟨q1, q2⟩ := H.r.ak.apart ha hc (.inl rfl)
    rcases e with e | e
    · exact q1 e.symm
    · exact q2 e
  · have := lt_of_at hc; omega
 refine ⟨v, al', h', e, N, hv, ⟨?_, fun hne => ?_, ?_, fun x hx => ?_, H.cl, fun c hc => ?_⟩, o.mono fun c _ e => e.imp (fun e => .inr (.inr (.inl e))) id, fun c hc => ?_⟩
 · rw [m1]; exact R
 · rw [m1]; exact o.at (H.c hne) (out (H.c hne))
 · refine H.s.keep o fun c hc e => ?_
   obtain ⟨p1, p2, p3, p4⟩ := H.ap c hc
   rcases e with e | e
   · exact p3 e
   · omega
 · obtain ⟨s, q1, q2⟩ := H.ok x hx
   exact ⟨stepS (fun s => s.T) s, by simp [q1], by rw [toldS_ends]; exact q2⟩
 · obtain ⟨p1, p2, p3, p4⟩ := H.ap c hc
   refine ⟨by have := o.1; omega, p2, fun e => ?_, fun k a ha e => ?_⟩
   · rcases f c e with e | e
     · exact p3 e
     · omega
   · obtain ⟨a0, q1, q2⟩ := hebs k a ha
     exact p4 k a0 q1 (by rw [← q2]; exact e)
 · rcases hc with e | e | e | ⟨k, a, ha, e⟩
   · exact .inl (.inl e)
   · exact .inl (.inr (.inl e))
   · rcases f c e with e | e
     · exact .inl (.inr (.inr (.inl e)))
     · exact .inr e
   · obtain ⟨a0, q1, q2⟩ := hebs k a ha
     exact .inl (.inr (.inr (.inr ⟨k, a0, q1, by rw [← q2]; exact e⟩)))
end
def rc0 : List AV := [.int .i64 2, .int .i64 0, .bool false, .sl none 0 0, .bool false, .sl none 0 0, .bool false, .sl none 0 0, .bool false, .sl none 0 0, .bool false, .int .i64 0, .sl none 0 0, .int .i64 7, .int .i64 1]
def rule0 : RuleV := ⟨rc0, 2, 7, .sl none 0 0, []⟩
theorem rule0_ok : rule0.ok := ⟨rfl, rfl, rfl, rfl, by simp [rule0], fun c hc => by simp [rule0] at hc, fun x hx => by
 simp [rule0, rc0] at hx
 rcases hx with rfl | rfl | rfl | rfl | rfl | rfl | rfl | rfl | rfl | rfl | rfl | rfl | rfl | rfl | rfl <;> rfl⟩
theorem call1_79 {h : Heap} {R : AV → Heap → Prop} (hw : Wt Try.prog (D cfg1) c79 ⟨[], h⟩ (Ends Try.prog [.tmp 0] R)) : ∃ r h', D cfg1 79 [] h = some (r, h') ∧ R r h' :=
 let ⟨_, hb, hk⟩ := c79_eq
 W.calls (c := cfg1) (args := []) rfl c79_fn hb hk c79_rs (by rw [c79_nt]; simp) hw
theorem awake24w : ∃ h', D cfg1 79 [] [] = some (.bool true, h') := by
 have key : ∃ r h', D cfg1 79 [] [] = some (r, h') ∧ r = .bool true := by
  refine call1_79 (R := fun r h' => r = .bool true) ?_
  have RI : RulesIn [.cells rc0 107 true, .cells [.int .i64 0] 3 true] 0 [rule0] := by
   refine ⟨fun _ => by simp [rulesC, rule0], fun r hr => ?_, fun r hr => ?_, fun r hr b hb => ?_⟩
   · simp at hr; rw [hr]; exact rule0_ok
   · simp at hr; rw [hr]; exact .inl ⟨rfl, rfl⟩
   · simp at hr; rw [hr] at hb; simp [rule0, slB] at hb
  have hp : Sl1 [.cells rc0 107 true, .cells [.int .i64 0] 3 true] (.sl (some ⟨1, 0, 1⟩) 1 1) (intCells [0]) := Sl1.cells (b := 1) (e := 3) (s := true) (xs := intCells [0]) rfl
  have hsel : selL [rule0] [0] = [rule0] := by simp [selL, selOne]
  have hit : itF 0 (selL [rule0] [0]) = [] := by rw [hsel]; simp [itF, itR, rule0]
  obtain ⟨xb, lb, cb, sb, lv, nv, BB, al, tab, fl, ob, ou, h1, e1, S1, o1, f1, _⟩ := new_side (most := 4) (m0 := 4) (by decide) RI hp (by simp) (fun r hr => by simp at hr; rw [hr]; simp [rule0]) (by rw [hit]; simp)
  rw [hit, hsel] at S1
  simp only [List.map_cons, List.map_nil] at S1
  have hT : (askOf 4 rule0).T = ⟨4, 0, [], [], false, false⟩ := rfl
  have hns : ([⟨7, 0, 2⟩] : List Note) = toldNotes (fun s => s.T) ([] : Txt).length [askOf 4 rule0] := by
   simp [toldNotes, stepN, toldN, stepO, askOf, hT, TS.holds, rule0, newTo]
  obtain ⟨v, al2, h2, e2, N2, v2, S2, o2, f2⟩ := begin_side S1 (by simp) hns
  have hw2 : worstM [⟨7, 0, 2⟩] = 2 := rfl
  rw [hw2] at e2
  have hsl2 : [askOf 4 rule0].map (stepS fun s => s.T) = [{ askOf 4 rule0 with over := true }] := by
   simp [stepS, toldS, askOf, TS.holds, rule0, newTo]
  rw [hsl2] at S2
  have hzs : ([] : List Int) = scHits (ncI []) (([] : Txt) ++ [97]) (plI []) 0 := rfl
  have hns3 : ([] : List Note) = toldNotes stpS (([] : Txt).length + 1) (setsTo true (ctI []) [{ askOf 4 rule0 with over := true }] []) := by
   simp [toldNotes, stepN, stepO, setsTo]
  obtain ⟨v3, al3, h3, e3, N3, nt3, S3, o3, f3⟩ := step_side S2 (by simp) (fun s hs => by simp at hs; rw [hs]; simp [askOf, rule0, newTo]) (by simp) (b := 97) hzs hns3
  have hw3 : worstM [] = 0 := rfl
  rw [hw3] at e3
  have N2' := N2.side S2 o3
  have l2 := fun L => N2'.len (L := L)
  have l3 := fun L => N3.len (L := L)
  obtain ⟨q, a2, _, nk, rfl, g2⟩ := N2'.at (i := 0) (by simp)
  have hnc : notesC [⟨7, 0, 2⟩] = [.int .i64 7, .int .i64 0, .int .i64 0, .int .i64 2] := rfl
  rw [hnc] at g2 a2
  have c0 := cell_load g2 (n := 4) rfl (t := 3) (by simp) (off := 0) rfl
  have c2 := cell_load g2 (n := 4) rfl (t := 3) (by simp) (off := 2) rfl
  have e1' : D cfg1 81 [.sl (some ⟨0, 0, 15⟩) 1 1, .sl (some ⟨1, 0, 1⟩) 1 1, .int .i64 4] [.cells rc0 107 true, .cells [.int .i64 0] 3 true] = some (xPtr xb, h1) := lift e1
  have w78 := fun h => lift (worse78 (a := 4) (b := 3) (h := h))
  simp only [rc0] at e1'
  simp at a2 l2 l3
  have e3' : D cfg1 83 [xPtr xb, .int .u8 97] h2 = some (.tup [v3, .int .i64 0], h3) := e3
  simp [-AV.notTup, v2, nt3, notTup_ptr, c79, c79_r0, c79_r1, c79_r2, c79_r4, c79_r5, c79_r6, abuild, abuildSlice, afill, zeros, splice, extractV, e1', e2, e3', len1, l2, l3, a2, fieldA, c0, c2, w78]
  rfl
 obtain ⟨r, h', h1, rfl⟩ := key
 exact ⟨h', h1⟩
theorem awake24 {fs : List FuncId} (hf : fs.contains 79 = true) {h : Heap} : mixed fs (D cfg1) 79 [] h = some (.bool true, h) := by
 obtain ⟨h', hx⟩ := awake24w
 simp only [mixed, hf, if_true, forget, hx, plainArgs]
 simp
end
section
section
variable {P : Program} {F : CallF}
def Unr (P : Program) (F : CallF) (k : SC) (keep : Option (List Nat)) (Q : AExit → St → Prop) : Nat → St → Prop
 | 0, s => Wt P F k ⟨cut keep s.ρ, s.h⟩ (andThen (fun _ => False) Q)
 | m + 1, s => Wt P F k ⟨cut keep s.ρ, s.h⟩ (andThen (Unr P F k keep Q m) Q)
theorem Wt.unr {k : SC} {keep : Option (List Nat)} {Q : AExit → St → Prop} (m : Nat) {s : St} (h : Unr P F k keep Q m s) : Wt P F (.loop k keep) s Q := by
 refine Wt.loop (fun m s => Unr P F k keep Q m s) (m := m) h ?_
 intro m s hs
 cases m with
 | zero =>
  refine W.mono hs fun e s' hx => ?_
  cases e with
  | normal => exact hx.elim
  | exit id => exact hx
  | ret => exact hx
 | succ m =>
  refine W.mono hs fun e s' hx => ?_
  cases e with
  | normal => exact ⟨m, Nat.lt_succ_self _, hx⟩
  | exit id => exact hx
  | ret => exact hx
end
def netMask (b : Int) : Int := if b = 30 then 4294967292 else if b = 31 then 4294967294 else 4294967295
theorem mask_run {h : Heap} {b : Int} (hb : b = 30 ∨ b = 31 ∨ b = 32) : D cfg 125 [.int .i64 b] h = some (.int .u32 (netMask b), h) := by
 refine D_eq (call125 (R := fun r h' => r = _ ∧ h' = _) (by simp) ?_)
 rcases hb with rfl | rfl | rfl <;>
 · simp [c125, c125_r0, c125_r1, c125_r2, c125_r3, aconv, abin_shl, netMask, IntKind.wrap, IntKind.bits, IntKind.signed]
theorem in_run {h : Heap} {b : Int} (hb : b = 30 ∨ b = 31 ∨ b = 32) : ∃ h', D cfg 130 [.agg [.int .u32 167772161, .int .i64 b], .int .u32 167772161] h = some (.bool true, h') ∧ Only (fun _ => False) h h' := by
 refine ⟨h ++ [.cells [.int .u32 167772161, .int .i64 b] 158 false], D_eq (call130 (R := fun r h' => r = _ ∧ h' = _) (by simp) ?_), .app⟩
 have m := fun h => mask_run (h := h) hb
 have hm : IntKind.wrap .u32 ((BitVec.ofInt 32 (IntKind.wrap .u32 0) &&& BitVec.ofInt 32 (netMask b)).toNat : Int) = 0 := by rcases hb with rfl | rfl | rfl <;> decide
 have hx : IntKind.wrap .u32 ((BitVec.ofInt 32 167772161 ^^^ BitVec.ofInt 32 167772161).toNat : Int) = 0 := by decide
 have hs : ∀ h : Heap, sameAt (h ++ [AObj.cells [AV.int .u32 167772161, .int .i64 b] 158 false]) (h ++ [AObj.cells [AV.int .u32 167772161, .int .i64 b] 158 false]) h.length = true := fun h =>
  sameAt_of (o := .cells [AV.int .u32 167772161, .int .i64 b] 158 false) (by simp) (by simp) (by simp [AObj.beq, beqL, AV.beq, AV.beqP])
 simp [c130, c130_r0, c130_r1, m, hx, hs, IntKind.bits, aload, AM.row, fieldA]
 exact hm
theorem covers_run {h : Heap} {b : Int} (hb : b = 30 ∨ b = 31 ∨ b = 32) : ∃ h', D cfg 124 [.agg [.int .u32 167772161, .int .i64 b], .agg [.int .u32 167772161, .int .i64 b]] h = some (.bool true, h') ∧ Only (fun _ => False) h h' := by
 obtain ⟨h', e, o⟩ := in_run (h := h ++ [.cells [.int .u32 167772161, .int .i64 b] 158 false, .cells [.int .u32 167772161, .int .i64 b] 158 false]) hb
 refine ⟨h', D_eq (call124 (R := fun r h'' => r = _ ∧ h'' = h') (by simp) ?_), Only.app.trans o⟩
 have g0 : (h ++ [AObj.cells [AV.int .u32 167772161, .int .i64 b] 158 false, .cells [.int .u32 167772161, .int .i64 b] 158 false])[h.length]? = some (.cells [.int .u32 167772161, .int .i64 b] 158 false) := by simp
 have g1 : (h ++ [AObj.cells [AV.int .u32 167772161, .int .i64 b] 158 false, .cells [.int .u32 167772161, .int .i64 b] 158 false])[h.length + 1]? = some (.cells [.int .u32 167772161, .int .i64 b] 158 false) := at_new
 obtain ⟨hh, hhh⟩ : ∃ hh, h ++ [AObj.cells [AV.int .u32 167772161, .int .i64 b] 158 false, .cells [.int .u32 167772161, .int .i64 b] 158 false] = hh := ⟨_, rfl⟩
 rw [hhh] at e g0 g1
 simp [c124, c124_r0, c124_r1, hhh, aload, AM.row, g0, g1, fieldA, e]
inductive NetAt (h : Heap) : AV → Prop where
 | none : NetAt h (.sl none 0 0)
 | one (nb : Nat) (b : Int) (hb : b = 30 ∨ b = 31 ∨ b = 32) (hn : h[nb]? = some (.cells [.int .u32 167772161, .int .i64 b] 158 true)) : NetAt h (.sl (some ⟨nb, 0, 2⟩) 1 1)
theorem NetAt.same {h h' : Heap} {v : AV} (H : NetAt h v) (ho : Only (fun _ => False) h h') : NetAt h' v := by
 cases H with
 | none => exact .none
 | one nb b hb hn => exact .one nb b hb (ho.at hn id)
theorem check_run {h : Heap} {b0 : Bool} {v : AV} (H : NetAt h v) : ∃ h', D cfg 123 [.agg [.bool b0, v]] h = some (.bool true, h') ∧ Only (fun _ => False) h h' := by
 refine ⟨h ++ [.cells [.bool b0, v] 102 false], D_eq (call123 (R := fun r h' => r = _ ∧ h' = _) (by simp) ?_), .app⟩
 cases H with
 | none =>
  simp [c123, c123_r0, c123_r1]
  refine Wt.unr 0 ?_
  simp [Unr, c123_l2, c123_r2, aload, AM.row, fieldA, len1, alen, c123_r6]
 | one nb b hb hn =>
  have hlt := lt_of_at hn
  have g : (h ++ [AObj.cells [AV.bool b0, .sl (some ⟨nb, 0, 2⟩) 1 1] 102 false])[nb]? = some (.cells [.int .u32 167772161, .int .i64 b] 158 true) := by rw [List.getElem?_append_left hlt]; exact hn
  have hb1 : ¬ b < 0 := by omega
  have hb2 : ¬ 32 < b := by omega
  have w1 : IntKind.wrap .i64 1 = 1 := rfl
  simp [c123, c123_r0, c123_r1]
  refine Wt.unr 1 ?_
  simp [Unr, c123_l2, c123_r2, c123_r3, c123_r4, aload, AM.row, fieldA, len1, alen, c123_r6, aindexAddr, g, hb1, hb2, w1]
end
theorem rulesC_snoc {rs : List RuleV} {r : RuleV} : rulesC rs ++ r.rc = rulesC (rs ++ [r]) := by simp [rulesC]
theorem append_rule {h : Heap} {b : Nat} {rs : List RuleV} {r : RuleV} (hok : ∀ x ∈ rs, x.ok) (hr : r.ok) (hb : rs.length ≠ 0 → h[b]? = some (.cells (rulesC rs) 107 true)) (hn : rs.length ≤ 1000000) :
  ∃ δ h', append2 Try.prog (look (h ++ [AObj.cells r.rc 107 true])) (h.length + 1) 89 89 [rulesSl b rs, .sl (some ⟨h.length, 0, 15⟩) 1 1] = some (rulesSl (if rs.length = 0 then h.length + 1 else b) (rs ++ [r]), δ) ∧ Heap.apply (h ++ [AObj.cells r.rc 107 true]) δ = h' ∧
   h'[if rs.length = 0 then h.length + 1 else b]? = some (.cells (rulesC (rs ++ [r])) 107 true) ∧ Only (fun x => x = b ∧ rs.length ≠ 0) h h' := by
 obtain ⟨δ, h', h1, h2, h3, h4⟩ := append_buf2 (t := 89) (e := 107) (k := 15) (by simp) (by simp) (by decide) (by simp) (by simp) (h := h) (b := b) (n := rs.length) (xs := rulesC rs) (ys := r.rc) hr.len (rulesC_len hok) hb hn
 rw [rulesC_snoc] at h1 h3
 refine ⟨δ, h', ?_, h2, h3, h4⟩
 rw [show rs.length + 1 = (rs ++ [r]).length by simp] at h1
 exact h1
theorem rulesSl_nt {b : Nat} {rs : List RuleV} : (rulesSl b rs).notTup = true := bufSl_notTup
theorem result_cell {P : Program} {s : St} {a : Nat} {t : TypeId} {rs : List ResultVar} : aresultL P s (.cell a t :: rs) = bindO (s.ρ.get a) fun p => bindO (aload P (look s.h) t p) fun v => bindO (aresultL P s rs) fun vs => some (v :: vs) := by
 simp only [aresultL, aresult]
 cases s.ρ.get a with
 | none => rfl
 | some p =>
  show (match aload P (look s.h) t p, aresultL P s rs with
   | some v, some vs => some (v :: vs)
   | _, _ => none) = bindO (aload P (look s.h) t p) fun v => bindO (aresultL P s rs) fun vs => some (v :: vs)
  generalize aload P (look s.h) t p = X
  generalize aresultL P s rs = Y
  cases X <;> cases Y <;> rfl
theorem store_set {h : Heap} {b : Bool} {w : AV} (hw : w.one = true) : astore Try.prog (look (h ++ [AObj.cells [.bool false, .sl none 0 0] 102 false])) 102 (.ptr (some ⟨h.length, 0, 2⟩)) (.agg [.bool b, w]) = some (.set h.length (.cells [.bool b, w] 102 false)) := by
 simp [-AV.one, one_agg, one_bool', astore, splice, hw]
where
 one_bool' : ∀ {b : Bool}, (AV.bool b).one = true := rfl
theorem clean_none {h : Heap} {b0 : Bool} : ∃ h', D cfg 112 [.agg [.bool b0, .sl none 0 0]] h = some (.agg [.bool b0, .sl none 0 0], h') ∧ Only (fun _ => False) h h' := by
 have key : ∃ r h', D cfg 112 [.agg [.bool b0, .sl none 0 0]] h = some (r, h') ∧ (r = .agg [.bool b0, .sl none 0 0] ∧ Only (fun _ => False) h h') := by
  refine call112 (R := fun r h' => r = .agg [.bool b0, .sl none 0 0] ∧ Only (fun _ => False) h h') (args := [.agg [.bool b0, .sl none 0 0]]) (h := h) (by simp) ?_
  obtain ⟨h2, hh2⟩ : ∃ h2, h ++ [.cells [.bool b0, .sl none 0 0] 102 false, .cells [.bool false, .sl none 0 0] 102 false] = h2 := ⟨_, rfl⟩
  have o2 : Only (fun _ => False) h h2 := by rw [← hh2]; exact .app
  have g1 : h2[h.length]? = some (.cells [.bool b0, .sl none 0 0] 102 false) := by rw [← hh2]; simp
  have g2 : h2[h.length + 1]? = some (.cells [.bool false, .sl none 0 0] 102 false) := by rw [← hh2]; exact at_new
  obtain ⟨h3, e3, o3⟩ := check_run (h := h2) (b0 := b0) .none
  have k1 := o3.at g1 id
  have k2 := o3.at g2 id
  obtain ⟨h4, hh4⟩ : ∃ h4, h3 ++ [.cells [.bool b0, .sl none 0 0] 102 false] = h4 := ⟨_, rfl⟩
  have o4 : Only (fun _ => False) h3 h4 := by rw [← hh4]; exact .app
  have m1 := o4.at k1 id
  have m2 := o4.at k2 id
  have m3 : h4[h3.length]? = some (.cells [.bool b0, .sl none 0 0] 102 false) := by rw [← hh4]; simp
  have q1 : aload Try.prog (look h2) 102 (.ptr (some ⟨h.length, 0, 2⟩)) = some (.agg [.bool b0, .sl none 0 0]) := by simp [aload, AM.row, g1]
  have q2 := cell_load k1 (n := 2) rfl (t := 4) (by simp) (off := 0) rfl
  have q3 := cell_load m1 (n := 2) rfl (t := 100) (by simp) (off := 1) rfl
  have q4 : aload Try.prog (look h4) 102 (.ptr (some ⟨h3.length, 0, 2⟩)) = some (.agg [.bool b0, .sl none 0 0]) := by simp [aload, AM.row, m3]
  have hl2 := lt_of_at m2
  have q5 : astore Try.prog (look h4) 102 (.ptr (some ⟨h.length + 1, 0, 2⟩)) (.agg [.bool b0, .sl none 0 0]) = some (.set (h.length + 1) (.cells [.bool b0, .sl none 0 0] 102 false)) := by simp [astore, m2, splice]
  obtain ⟨h5, hh5⟩ : ∃ h5, h4.set (h.length + 1) (.cells [.bool b0, .sl none 0 0] 102 false) = h5 := ⟨_, rfl⟩
  have o5 : Only (fun c => c = h.length + 1) h4 h5 := by rw [← hh5]; exact .set rfl
  have n2 : h5[h.length + 1]? = some (.cells [.bool b0, .sl none 0 0] 102 false) := by rw [← hh5]; exact at_same hl2
  have q6 : aload Try.prog (look h5) 102 (.ptr (some ⟨h.length + 1, 0, 2⟩)) = some (.agg [.bool b0, .sl none 0 0]) := by simp [aload, AM.row, n2]
  have oo : Only (fun _ => False) h h5 := ((o2.trans o3).trans o4).fresh o5 fun c hc => by omega
  have s3 := fun h b => store_set (h := h) (b := b) (w := .sl none 0 0) rfl
  simp [c112, c112_r0, c112_r1, c112_r3, c112_r4, hh2, q1, e3, q2, fieldA, abuild, afill, zeros, splice, s3, hh4]
  refine Wt.unr 0 ?_
  simp [Unr, c112_l5, c112_r5, q3, fieldA, len1, alen, c112_r15, q4, q5, hh5, result_cell, q6]
  exact oo
 obtain ⟨r, h', e, rfl, o⟩ := key
 exact ⟨h', e, o⟩
theorem contCells_plain {zs : List Cont} : ∀ x ∈ zs.flatMap contCell, x.plain = true := by
 intro x hx
 obtain ⟨c, _, hx⟩ := List.mem_flatMap.1 hx
 simp [contCell] at hx
 rcases hx with rfl | rfl | rfl | rfl | rfl | rfl | rfl | rfl <;> rfl
theorem contents3 {h : Heap} {v : AV} {l : List Int} (hv : Sl1 h v (intCells l)) (hl : l.length ≤ 1000000) :
  ∃ (zs : List Cont) (bm : Nat) (h' : Heap), D cfg 49 [v] h = some (contSl bm zs, h') ∧ (zs.length ≠ 0 → h'[bm]? = some (.cells (zs.flatMap contCell) 52 true) ∧ h.length ≤ bm) ∧ (∀ c ∈ zs, c.few) ∧ zs.length ≤ 3 ∧ Only (fun _ => False) h h' := by
 have key : ∃ r h', D cfg 49 [v] h = some (r, h') ∧ (∃ (zs : List Cont) (bm : Nat), r = contSl bm zs ∧ (zs.length ≠ 0 → h'[bm]? = some (.cells (zs.flatMap contCell) 52 true) ∧ h.length ≤ bm) ∧ (∀ c ∈ zs, c.few) ∧ zs.length ≤ 3 ∧ Only (fun _ => False) h h') := by
  refine call49 (R := fun r h' => ∃ (zs : List Cont) (bm : Nat), r = contSl bm zs ∧ (zs.length ≠ 0 → h'[bm]? = some (.cells (zs.flatMap contCell) 52 true) ∧ h.length ≤ bm) ∧ (∀ c ∈ zs, c.few) ∧ zs.length ≤ 3 ∧ Only (fun _ => False) h h') (args := [v]) (h := h) (by simp) ?_
  have hlen := fun L => hv.len (t := 30) (e := 3) (by simp) (L := L)
  simp only [intCells_len] at hlen
  simp [c49, c49_r0, c49_r1, c49_r2]
  refine Wt.loop (Out49 h v l) (m := l.length) ⟨[], 0, h, rfl, Nat.zero_le _, by simp, by simp, by simp [bufSl], by simp, .refl⟩ ?_
  rintro mm st ⟨zs, bm, h1, rfl, hzl, hz3, hsm, rfl, hb, ho⟩
  have hcut : cut (some [0, 3, 4]) [(0, v), (3, contSl bm zs), (4, .int .i64 (zs.length : Nat))] = [(0, v), (3, contSl bm zs), (4, .int .i64 (zs.length : Nat))] := by simp
  simp only [hcut]
  by_cases hgo : zs.length < l.length ∧ zs.length < 3
  · refine round49 hv hgo.1 hgo.2 hsm hb ho fun st hst => ⟨_, ?_, hst⟩
    omega
  · obtain ⟨out, hout⟩ : ∃ out, out = contSl bm zs := ⟨_, rfl⟩
    have hfin : ∃ (zs' : List Cont) (bm' : Nat), out = contSl bm' zs' ∧ (zs'.length ≠ 0 → h1[bm']? = some (.cells (zs'.flatMap contCell) 52 true) ∧ h.length ≤ bm') ∧ (∀ c ∈ zs', c.few) ∧ zs'.length ≤ 3 ∧ Only (fun _ => False) h h1 := ⟨zs, bm, hout, hb, hsm, hz3, ho⟩
    have hnt : AV.notTup out = true := by rw [hout]; exact bufSl_nt
    rw [← hout]
    by_cases hil : zs.length < l.length
    · have hil' : (zs.length : Int) < l.length := by omega
      have h3 : ¬ (zs.length < 3) := fun h => hgo ⟨hil, h⟩
      have h3' : ¬ ((zs.length : Int) < 3) := by omega
      simp [c49_l3, c49_r3, c49_r25, len1, hlen, hil, hil', h3, h3']
      exact ⟨hnt, by simpa using hfin⟩
    · have hil' : ¬ ((zs.length : Int) < l.length) := by omega
      simp [c49_l3, c49_r3, c49_r25, len1, hlen, hil, hil']
      exact ⟨hnt, by simpa using hfin⟩
 obtain ⟨r, h', h1, zs, bm, rfl, h2, h3, h4, h5⟩ := key
 exact ⟨zs, bm, h', h1, h2, h3, h4, h5⟩
theorem idx8 {x : Int} (h : 0 ≤ x ∧ x < 8) : ∃ a : Int, 1 ≤ a ∧ a ≤ 4 ∧ aindex Try.prog 152 (.agg [.int .i64 1, .int .i64 1, .int .i64 1, .int .i64 1, .int .i64 2, .int .i64 3, .int .i64 4, .int .i64 1]) (.int .i64 x) = some (.int .i64 a) := by
 have hx : x = 0 ∨ x = 1 ∨ x = 2 ∨ x = 3 ∨ x = 4 ∨ x = 5 ∨ x = 6 ∨ x = 7 := by omega
 rcases hx with rfl | rfl | rfl | rfl | rfl | rfl | rfl | rfl
 · exact ⟨1, by decide, by decide, by simp [aindex, apart]⟩
 · exact ⟨1, by decide, by decide, by simp [aindex, apart]⟩
 · exact ⟨1, by decide, by decide, by simp [aindex, apart]⟩
 · exact ⟨1, by decide, by decide, by simp [aindex, apart]⟩
 · exact ⟨2, by decide, by decide, by simp [aindex, apart]⟩
 · exact ⟨3, by decide, by decide, by simp [aindex, apart]⟩
 · exact ⟨4, by decide, by decide, by simp [aindex, apart]⟩
 · exact ⟨1, by decide, by decide, by simp [aindex, apart]⟩
theorem idx4 {x p q r s : Int} (h : 0 ≤ x ∧ x < 4) : ∃ a : Int, aindex Try.prog 153 (.agg [.int .i64 p, .int .i64 q, .int .i64 r, .int .i64 s]) (.int .i64 x) = some (.int .i64 a) := by
 have hx : x = 0 ∨ x = 1 ∨ x = 2 ∨ x = 3 := by omega
 rcases hx with rfl | rfl | rfl | rfl
 · exact ⟨p, by simp [aindex, apart]⟩
 · exact ⟨q, by simp [aindex, apart]⟩
 · exact ⟨r, by simp [aindex, apart]⟩
 · exact ⟨s, by simp [aindex, apart]⟩
theorem clean_one {h : Heap} {b0 : Bool} {nb : Nat} {b : Int} (hb : b = 30 ∨ b = 31 ∨ b = 32) (hn : h[nb]? = some (.cells [.int .u32 167772161, .int .i64 b] 158 true)) :
  ∃ a h', D cfg 112 [.agg [.bool b0, .sl (some ⟨nb, 0, 2⟩) 1 1]] h = some (.agg [.bool b0, .sl (some a) 1 1], h') ∧ Only (fun _ => False) h h' := by
 have key : ∃ r h', D cfg 112 [.agg [.bool b0, .sl (some ⟨nb, 0, 2⟩) 1 1]] h = some (r, h') ∧ (∃ a, r = .agg [.bool b0, .sl (some a) 1 1] ∧ Only (fun _ => False) h h') := by
  refine call112 (R := fun r h' => ∃ a, r = .agg [.bool b0, .sl (some a) 1 1] ∧ Only (fun _ => False) h h') (args := [.agg [.bool b0, .sl (some ⟨nb, 0, 2⟩) 1 1]]) (h := h) (by simp) ?_
  obtain ⟨v, hv⟩ : ∃ v, AV.sl (some ⟨nb, 0, 2⟩) 1 1 = v := ⟨_, rfl⟩
  have vone : v.one = true := by rw [← hv]; rfl
  obtain ⟨h2, hh2⟩ : ∃ h2, h ++ [.cells [.bool b0, v] 102 false, .cells [.bool false, .sl none 0 0] 102 false] = h2 := ⟨_, rfl⟩
  have o2 : Only (fun _ => False) h h2 := by rw [← hh2]; exact .app
  have g1 : h2[h.length]? = some (.cells [.bool b0, v] 102 false) := by rw [← hh2]; simp
  have g2 : h2[h.length + 1]? = some (.cells [.bool false, .sl none 0 0] 102 false) := by rw [← hh2]; exact at_new
  have NA : NetAt h2 v := by rw [← hv]; exact .one nb b hb (o2.at hn id)
  obtain ⟨h3, e3, o3⟩ := check_run (h := h2) (b0 := b0) NA
  obtain ⟨h4, hh4⟩ : ∃ h4, h3 ++ [.cells [.bool b0, .sl none 0 0] 102 false] = h4 := ⟨_, rfl⟩
  have o4 : Only (fun _ => False) h3 h4 := by rw [← hh4]; exact .app
  obtain ⟨h5, e5, o5⟩ := covers_run (h := h4) hb
  obtain ⟨h6, e6, o6⟩ := covers_run (h := h5) hb
  have o46 := o5.trans o6
  have o26 := (o3.trans o4).trans o46
  have k1 := o3.at g1 id
  have m1 := o4.at k1 id
  have m3 : h4[h3.length]? = some (.cells [.bool b0, .sl none 0 0] 102 false) := by rw [← hh4]; simp
  have mn := o4.at (o3.at (o2.at hn id) id) id
  have r1 := o5.at m1 id
  have rn := o5.at mn id
  have t1 := o6.at r1 id
  have tn := o6.at rn id
  have t3 := o46.at m3 id
  have t2 := o26.at g2 id
  have hq1 : aload Try.prog (look h2) 102 (.ptr (some ⟨h.length, 0, 2⟩)) = some (.agg [.bool b0, v]) := by simp [aload, AM.row, g1]
  have q2 := cell_load k1 (n := 2) rfl (t := 4) (by simp) (off := 0) rfl
  have q3 := cell_load m1 (n := 2) rfl (t := 100) (by simp) (off := 1) rfl
  have q5 := cell_load r1 (n := 2) rfl (t := 100) (by simp) (off := 1) rfl
  have q6 := cell_load t1 (n := 2) rfl (t := 100) (by simp) (off := 1) rfl
  have ln4 : aload Try.prog (look h4) 158 (.ptr (some ⟨nb, 0, 2⟩)) = some (.agg [.int .u32 167772161, .int .i64 b]) := by simp [aload, AM.row, mn]
  have ln5 : aload Try.prog (look h5) 158 (.ptr (some ⟨nb, 0, 2⟩)) = some (.agg [.int .u32 167772161, .int .i64 b]) := by simp [aload, AM.row, rn]
  have ln6 : aload Try.prog (look h6) 158 (.ptr (some ⟨nb, 0, 2⟩)) = some (.agg [.int .u32 167772161, .int .i64 b]) := by simp [aload, AM.row, tn]
  have lb0 := cell_load tn (n := 2) rfl (t := 156) (by simp) (off := 0) rfl
  have lb1 := cell_load tn (n := 2) rfl (t := 3) (by simp) (off := 1) rfl
  have l3 := cell_load t3 (n := 2) rfl (t := 100) (by simp) (off := 1) rfl
  have vl : ∀ L, alen Try.prog L 100 v = some (.int .i64 1) := fun L => by rw [← hv]; simp [alen]
  have va : aindexAddr Try.prog 100 v (.int .i64 0) = some (.ptr (some ⟨nb, 0, 2⟩)) := by rw [← hv]; simp [aindexAddr]
  have w1 : IntKind.wrap .i64 1 = 1 := rfl
  have s3 := fun h b => store_set (h := h) (b := b) (w := .sl none 0 0) rfl
  have mk := mask_run (h := h6) hb
  have sb1 : sameAt h6 h6 h.length = true := sameAt_of t1 t1 (by rw [← hv]; simp [AObj.beq, beqL, AV.beq, AV.beqP, oAA, AA.beq])
  have sb3 : sameAt h6 h6 h3.length = true := sameAt_of t3 t3 (by simp [AObj.beq, beqL, AV.beq, AV.beqP, oAA])
  have sbn : sameAt h6 h6 nb = true := sameAt_of tn tn (by simp [AObj.beq, beqL, AV.beq, AV.beqP])
  obtain ⟨ad, had⟩ : ∃ ad, IntKind.wrap .u32 ((167772161 % 2 ^ IntKind.bits .u32 &&& (netMask b % 2 ^ IntKind.bits .u32).toNat : Nat) : Int) = ad := ⟨_, rfl⟩
  obtain ⟨δ, h7, e7, e8, d7, o7⟩ := append_buf (t := 100) (e := 158) (k := 2) (by simp) (by simp) (by decide) (by simp) (by simp) (h := h6) (b := 0) (n := 0) (xs := []) (ys := [.int .u32 ad, .int .i64 b]) (by simp) (by simp) (fun e => absurd rfl e) (by omega)
  rw [bufSl_zero] at e7
  have o7' : Only (fun _ => False) h6 h7 := o7.mono fun c _ e => e.2 rfl
  have u3 := o7'.at t3 id
  have u2 := o7'.at t2 id
  have u1 := o7'.at t1 id
  obtain ⟨wv, hwv⟩ : ∃ wv, bufSl (if 0 = 0 then h6.length + 1 else 0) (0 + 1) ([] ++ [AV.int .u32 ad, .int .i64 b]) = wv := ⟨_, rfl⟩
  have hwv' : wv = .sl (some ⟨h6.length + 1, 0, 2⟩) 1 1 := by rw [← hwv]; simp [bufSl]
  rw [hwv] at e7
  have wone : wv.one = true := by rw [hwv']; rfl
  have st := cell_store u3 (n := 2) rfl (t := 100) (by simp) (v := wv) wone (off := 1) (by decide)
  obtain ⟨h8, hh8⟩ : ∃ h8, h7.set h3.length (.cells [.bool b0, wv] 102 false) = h8 := ⟨_, rfl⟩
  have st' : astore Try.prog (look h7) 100 (.ptr (some ⟨h3.length, 1, 2⟩)) wv = some (.set h3.length (.cells [.bool b0, wv] 102 false)) := st
  have o8 : Only (fun c => c = h3.length) h7 h8 := by rw [← hh8]; exact .set rfl
  have L2 := o2.1
  have L3 := o3.1
  have hl1 := lt_of_at g1
  have hl2 := lt_of_at g2
  have x1 := o8.at u1 (by omega)
  have x2 := o8.at u2 (by omega)
  have x3 : h8[h3.length]? = some (.cells [.bool b0, wv] 102 false) := by rw [← hh8]; exact at_same (lt_of_at u3)
  have q8 := cell_load x1 (n := 2) rfl (t := 100) (by simp) (off := 1) rfl
  have q9 : aload Try.prog (look h8) 102 (.ptr (some ⟨h3.length, 0, 2⟩)) = some (.agg [.bool b0, wv]) := by simp [aload, AM.row, x3]
  have sw : astore Try.prog (look h8) 102 (.ptr (some ⟨h.length + 1, 0, 2⟩)) (.agg [.bool b0, wv]) = some (.set (h.length + 1) (.cells [.bool b0, wv] 102 false)) := by
   rw [hwv']; simp [astore, x2, splice]
  obtain ⟨h9, hh9⟩ : ∃ h9, h8.set (h.length + 1) (.cells [.bool b0, wv] 102 false) = h9 := ⟨_, rfl⟩
  have o9 : Only (fun c => c = h.length + 1) h8 h9 := by rw [← hh9]; exact .set rfl
  have y2 : h9[h.length + 1]? = some (.cells [.bool b0, wv] 102 false) := by rw [← hh9]; exact at_same (lt_of_at x2)
  have q10 : aload Try.prog (look h9) 102 (.ptr (some ⟨h.length + 1, 0, 2⟩)) = some (.agg [.bool b0, wv]) := by simp [aload, AM.row, y2]
  have oo : Only (fun _ => False) h h9 := ((o2.trans (o26.trans o7')).fresh o8 fun c hc => by omega).fresh o9 fun c hc => by omega
  have wvt : wv.notTup = true := by rw [hwv']; rfl
  have vt : v.notTup = true := by rw [← hv]; rfl
  have vc : v.cells = [v] := by rw [← hv]; rfl
  clear hwv
  subst hwv'
  subst hv
  simp [c112, c112_r0, c112_r1, c112_r3, c112_r4, hh2, hq1, e3, q2, fieldA, abuild, afill, zeros, splice, s3, hh4]
  refine Wt.unr 1 ?_
  simp [Unr, c112_l5, c112_r5, c112_r7, c112_r8, q3, len1, vl, fieldA]
  refine Wt.unr 1 ?_
  simp [Unr, c112_l9, c112_r9, c112_r10, c112_r11, c112_r12, q3, q5, q6, len1, vl, va, fieldA, ln4, ln5, ln6, e5, e6, w1]
  simp [c112_r13, c112_r14, c112_r6, c112_l5, c112_r5, c112_r15, fieldA, l3, q6, va, lb0, lb1, mk, sb1, sb3, sbn, had, abuild, abuildSlice, afill, zeros, splice, e7, e8, st', hh8, w1, q8, len1, vl, q9, sw, hh9, result_cell, q10]
  exact oo
 obtain ⟨r, h', e, a, rfl, o⟩ := key
 exact ⟨a, h', e, o⟩
structure RuleN (k : Nat) (r : RuleV) : Prop where
 sid : r.sid = 100 + 4 * k
 act : 1 ≤ r.action ∧ r.action ≤ 4
 len : r.conts.length ≤ 3
 few : ∀ c ∈ r.conts, c.few
def RulesN (rs : List RuleV) : Prop := rs.length ≤ 6 ∧ ∀ k r, rs[k]? = some r → RuleN k r
def box80 (ac pr : Int) (f1 : Bool) (fs : AV) (t1 : Bool) (ts : AV) (bo : Bool) (fl : Int) (cv : AV) (si re : Int) : List AV :=
 [.int .i64 ac, .int .i64 pr, .bool f1, fs, .bool false, .sl none 0 0, .bool false, .sl none 0 0, .bool t1, ts, .bool bo, .int .i64 fl, cv, .int .i64 si, .int .i64 re]
def c80_t : SC := (.seq (.reg c80_r11 none (some [0, 3, 4, 5, 6])) (.seq (.reg c80_r12 none (some [0, 3, 4, 6])) (.reg c80_r13 none (some [0, 3, 4]))))
def c80_m : SC := (.seq (.seq (.reg c80_r7 none (some [0, 3, 4, 5, 6, 51])) (.cond (.tmp 51) (.reg c80_r8 none (some [0, 3, 4, 5, 6])) .skip (some [0, 3, 4, 5, 6]))) (.seq (.seq (.reg c80_r9 none (some [0, 3, 4, 5, 6, 63])) (.cond (.tmp 63) (.reg c80_r10 none (some [0, 3, 4, 5, 6])) .skip (some [0, 3, 4, 5, 6]))) c80_t))
theorem c80_l3_eq : c80_l3 = (.seq (.seq (.reg c80_r3 none (some [0, 3, 4, 15])) (.cond (.tmp 15) .skip (.exit 0) (some [0, 3, 4]))) (.seq (.block 1 (.seq (.reg c80_r5 none (some [0, 3, 4, 5])) (.seq (.reg c80_r6 none (some [0, 3, 4, 5, 6])) c80_m))) (.reg c80_r4 none (some [0, 3, 4])))) := rfl
abbrev env80 (v rv : AV) (i : Nat) : Env := [(0, v), (3, rv), (4, .int .i64 i)]
def slOK (v : AV) : Prop := match v with
 | .sl _ n c => n ≤ c
 | _ => True
theorem Sl1.sub {h : Heap} {v : AV} {l : List Int} (hv : Sl1 h v (intCells l)) (hc : slOK v) {i j : Nat} (hij : i ≤ j) (hj : j ≤ l.length) : ∃ w, aslice Try.prog 30 v (some (.int .i64 i)) (some (.int .i64 j)) none = some w ∧ Sl1 h w (intCells ((l.drop i).take (j - i))) ∧ w.notTup = true := by
 rcases hv with ⟨rfl, h0⟩ | ⟨b, o, g, c, cs, rfl, h1, h2⟩
 · have hl : l = [] := by simpa [intCells] using h0
   subst hl
   have hi0 : i = 0 := by simp at hj; omega
   have hj0 : j = 0 := by simp at hj; omega
   subst hi0 hj0
   exact ⟨.sl none 0 0, by simp [aslice, bound], .inl ⟨rfl, by simp [intCells]⟩, rfl⟩
 · have hlen : (intCells l).length = l.length := by simp [intCells]
   rw [hlen] at h2 hc ⊢
   have hc' : l.length ≤ c := hc
   have b1 : bound (some (.int .i64 (j : Int))) l.length c = some j := by
    have : (0 : Int) ≤ j ∧ (j : Int) ≤ c := by omega
    simp only [bound, this, and_self, if_true, Int.toNat_natCast]
   have b2 : bound (some (.int .i64 (i : Int))) 0 j = some i := by
    have : (0 : Int) ≤ i ∧ (i : Int) ≤ j := by omega
    simp only [bound, this, and_self, if_true, Int.toNat_natCast]
   have hlw : (intCells ((l.drop i).take (j - i))).length = j - i := by simp [intCells]; omega
   refine ⟨.sl (some ⟨b, o + i, g⟩) (j - i) (c - i), by simp [aslice, b1, b2], .inr ⟨b, o + i, g, c - i, cs, by rw [hlw], ?_, ?_⟩, rfl⟩
   · have h3 : AM.row (look h) ⟨b, o + i, g⟩ = some cs := h1
     exact h3
   · rw [hlw]
     have h4 : ((cs.drop o).take l.length).drop i = (intCells l).drop i := by rw [h2]
     rw [List.drop_take, List.drop_drop] at h4
     have h5 : ((cs.drop (o + i)).take (l.length - i)).take (j - i) = ((intCells l).drop i).take (j - i) := by rw [h4]
     rw [List.take_take, Nat.min_eq_left (by omega)] at h5
     rw [h5]
     simp [intCells, List.map_take, List.map_drop]
theorem tail80 {h₀ h hR : Heap} {v : AV} {l : List Int} {rb bc i : Nat} {x : Int} {rs : List RuleV} {ac pr fl si re : Int} {f1 t1 bo : Bool} {fs ts : AV} (hv : Sl1 h₀ v (intCells l)) (hok : slOK v) (hil : i + 4 ≤ l.length) (hi : i ≤ 100) (hx : 0 ≤ x ∧ x < 16777216)
  (RI : RulesIn hR rb rs) (hrl : rs.length ≤ 100) (hrb : rs.length ≠ 0 → h₀.length ≤ rb) (o0 : Only (fun _ => False) h₀ hR) (oR : Only (fun _ => False) hR h) (hbc : hR.length ≤ bc)
  (hb : h[bc]? = some (.cells (box80 ac pr f1 fs t1 ts bo fl (.sl none 0 0) si re) 107 false)) (hf : NetAt h fs) (ht : ts.plain = true) {Q : AExit → St → Prop}
  (hq : ∀ h' rb' cv zs rc, (⟨rc, ac, si, cv, zs⟩ : RuleV).ok → (∀ c ∈ zs, c.few) → zs.length ≤ 3 → RulesIn h' rb' (rs ++ [⟨rc, ac, si, cv, zs⟩]) → h₀.length ≤ rb' → Only (fun _ => False) h₀ h' → Q .normal ⟨env80 v (rulesSl rb' (rs ++ [⟨rc, ac, si, cv, zs⟩])) i, h'⟩) :
  Wt Try.prog (D cfg) c80_t ⟨[(0, v), (3, rulesSl rb rs), (4, .int .i64 i), (5, .int .i64 x), (6, .ptr (some ⟨bc, 0, 15⟩))], h⟩ Q := by
 have hvt : v.notTup = true := by rcases hv with ⟨rfl, _⟩ | ⟨_, _, _, _, _, rfl, _, _⟩ <;> rfl
 have n1 : (rulesSl rb rs).notTup = true := rulesSl_nt
 have hfs : ∃ a n c, fs = .sl a n c := by cases hf <;> exact ⟨_, _, _, rfl⟩
 have hcl : ∃ fs' h1, D cfg 112 [.agg [.bool f1, fs]] h = some (.agg [.bool f1, fs'], h1) ∧ fs'.plain = true ∧ Only (fun _ => False) h h1 := by
  cases hf with
  | none => obtain ⟨h1, e, o⟩ := clean_none (h := h) (b0 := f1); exact ⟨.sl none 0 0, h1, e, rfl, o⟩
  | one nb b hbn hn => obtain ⟨a, h1, e, o⟩ := clean_one (h := h) (b0 := f1) hbn hn; exact ⟨.sl (some a) 1 1, h1, e, rfl, o⟩
 obtain ⟨fs', h1, e1, pf, o1⟩ := hcl
 have b1 := o1.at hb id
 have l1 : aload Try.prog (look h) 102 (.ptr (some ⟨bc, 2, 15⟩)) = some (.agg [.bool f1, fs]) := by simp [aload, AM.row, hb, box80]
 have fone := plain_one pf
 have st1 : astore Try.prog (look h1) 102 (.ptr (some ⟨bc, 2, 15⟩)) (.agg [.bool f1, fs']) = some (.set bc (.cells (box80 ac pr f1 fs' t1 ts bo fl (.sl none 0 0) si re) 107 false)) := by
  have hbo : ∀ {b : Bool}, (AV.bool b).one = true := rfl
  simp [-AV.one, one_agg, hbo, astore, b1, box80, splice, fone]
 obtain ⟨h2, hh2⟩ : ∃ h2, h1.set bc (.cells (box80 ac pr f1 fs' t1 ts bo fl (.sl none 0 0) si re) 107 false) = h2 := ⟨_, rfl⟩
 have o2 : Only (fun c => c = bc) h1 h2 := by rw [← hh2]; exact .set rfl
 have b2 : h2[bc]? = some (.cells (box80 ac pr f1 fs' t1 ts bo fl (.sl none 0 0) si re) 107 false) := by rw [← hh2]; exact at_same (lt_of_at b1)
 have oR2 : Only (fun _ => False) hR h2 := (oR.trans o1).fresh o2 fun c hc => by omega
 have o02 := o0.trans oR2
 have g := div_fact hx.1 (n := 221184) (by decide)
 have m := mod_fact g.1 (n := 4) (by decide)
 have wq : IntKind.wrap .i64 (x.tdiv 221184) = x.tdiv 221184 := wrap_i64 (by omega) (by omega)
 obtain ⟨M, hM⟩ : ∃ M : Nat, (x.tdiv 221184).tmod 4 = M := ⟨((x.tdiv 221184).tmod 4).toNat, by omega⟩
 have hM3 : M ≤ 3 := by omega
 have wi : IntKind.wrap .i64 ((i : Int) + 1) = i + 1 := wrap_i64 (by omega) (by omega)
 have wj : IntKind.wrap .i64 ((i : Int) + 1 + M) = i + 1 + M := wrap_i64 (by omega) (by omega)
 obtain ⟨w, es, hw, wt⟩ := hv.sub hok (i := i + 1) (j := i + 1 + M) (by omega) (by omega)
 have es' : aslice Try.prog 30 v (some (.int .i64 ((i : Int) + 1))) (some (.int .i64 ((i : Int) + 1 + M))) none = some w := by
  have e1 : (((i + 1 : Nat) : Int)) = (i : Int) + 1 := by omega
  have e2 : (((i + 1 + M : Nat) : Int)) = (i : Int) + 1 + M := by omega
  rw [e1, e2] at es
  exact es
 obtain ⟨zs, bm, h3, e3, hz, zf, z3, o3⟩ := contents3 (hw.same o02) (by simp; omega)
 have b3 := o3.at b2 id
 obtain ⟨cv, hcv⟩ : ∃ cv, contSl bm zs = cv := ⟨_, rfl⟩
 rw [hcv] at e3
 have cpl : cv.plain = true := by rw [← hcv]; unfold contSl bufSl; split <;> rfl
 have cone := plain_one cpl
 have cnt : cv.notTup = true := by rw [← hcv]; exact bufSl_notTup
 have st3 := cell_store b3 (n := 15) rfl (t := 42) (by simp) (off := 12) (v := cv) cone (by omega)
 have hset : (box80 ac pr f1 fs' t1 ts bo fl (.sl none 0 0) si re).set 12 cv = box80 ac pr f1 fs' t1 ts bo fl cv si re := rfl
 rw [hset] at st3
 obtain ⟨h4, hh4⟩ : ∃ h4, h3.set bc (.cells (box80 ac pr f1 fs' t1 ts bo fl cv si re) 107 false) = h4 := ⟨_, rfl⟩
 have o4 : Only (fun c => c = bc) h3 h4 := by rw [← hh4]; exact .set rfl
 have b4 : h4[bc]? = some (.cells (box80 ac pr f1 fs' t1 ts bo fl cv si re) 107 false) := by rw [← hh4]; exact at_same (lt_of_at b3)
 have oR4 : Only (fun _ => False) hR h4 := (oR2.trans o3).fresh o4 fun c hc => by omega
 have l4 : aload Try.prog (look h4) 107 (.ptr (some ⟨bc, 0, 15⟩)) = some (.agg (box80 ac pr f1 fs' t1 ts bo fl cv si re)) := by simp [aload, AM.row, b4, box80]
 obtain ⟨rc, hrc⟩ : ∃ rc, box80 ac pr f1 fs' t1 ts bo fl cv si re = rc := ⟨_, rfl⟩
 have rok : (⟨rc, ac, si, cv, zs⟩ : RuleV).ok := by
  refine ⟨by rw [← hrc]; rfl, by rw [← hrc]; rfl, by rw [← hrc]; rfl, by rw [← hrc]; rfl, by show zs.length ≤ 1000; omega, fun c hc => (zf c hc).1, ?_⟩
  intro y hy
  rw [show (⟨rc, ac, si, cv, zs⟩ : RuleV).rc = rc from rfl, ← hrc] at hy
  simp [box80] at hy
  rcases hy with rfl | rfl | rfl | rfl | rfl | rfl | rfl | rfl | rfl | rfl | rfl | rfl | rfl | rfl | rfl <;> first | rfl | assumption
 have RI4 := RI.same oR4
 obtain ⟨δ, h5, e5, e6, d5, o5⟩ := append_rule (h := h4) (b := rb) (rs := rs) (r := ⟨rc, ac, si, cv, zs⟩) RI.ok rok RI4.sl (by omega)
 obtain ⟨rb', hrb'⟩ : ∃ y, (if rs.length = 0 then h4.length + 1 else rb) = y := ⟨_, rfl⟩
 rw [hrb'] at e5 d5
 have L0 := o0.1
 have L4 := oR4.1
 have hrb2 : h₀.length ≤ rb' := by
  rw [← hrb']
  split
  · omega
  · rename_i hz; exact hrb hz
 have zb : ∀ b, slB cv = some b → h4[b]? = some (.cells (zs.flatMap contCell) 52 true) := fun b hb => by
  rw [← hcv] at hb
  obtain ⟨rfl, hne⟩ := slB_buf hb
  exact o4.at (hz hne).1 fun e => by
   have := (hz hne).1
   rw [e, b3] at this
   simp at this
 have old : ∀ {b : Nat} {cs : List AV}, h4[b]? = some (.cells cs 52 true) → h5[b]? = some (.cells cs 52 true) := fun hb => app_at o5 RI4.sl hb (.inl (by decide))
 have J : RulesIn h5 rb' (rs ++ [⟨rc, ac, si, cv, zs⟩]) := by
  refine ⟨fun _ => d5, fun r hr => ?_, fun r hr => ?_, fun r hr b hb => ?_⟩
  · rcases List.mem_append.1 hr with hr | hr
    · exact RI.ok r hr
    · simp at hr; rw [hr]; exact rok
  · rcases List.mem_append.1 hr with hr | hr
    · refine (RI4.cs r hr).keep o5 fun b hb e => ?_
      obtain ⟨cs, q1, _⟩ := RI4.cq r hr b hb
      have := RI4.sl e.2
      rw [e.1, this] at q1
      simp only [Option.some.injEq, AObj.cells.injEq] at q1
      exact absurd q1.2.1 (by decide)
    · simp at hr
      subst hr
      show SlC h5 cv zs
      rw [← hcv]
      exact SlC.buf fun hne => old (zb bm (by rw [← hcv]; simp [bufSl, hne, slB]))
  · rcases List.mem_append.1 hr with hr | hr
    · obtain ⟨cs, q1, q2⟩ := RI4.cq r hr b hb
      exact ⟨cs, old q1, q2⟩
    · simp at hr
      subst hr
      exact ⟨_, old (zb b hb), contCells_plain⟩
 have o05 : Only (fun _ => False) h₀ h5 := (o0.trans oR4).fresh o5 fun c hc => by rw [hc.1]; exact hrb hc.2
 have hfin := hq h5 rb' cv zs rc rok zf z3 J hrb2 o05
 have n2 : (rulesSl rb' (rs ++ [⟨rc, ac, si, cv, zs⟩])).notTup = true := rulesSl_nt
 simp only [env80] at hfin
 rw [hrc] at hh4 st3 l4
 have rl : rc.length = 15 := rok.len
 have rone : (∀ y, y ∈ rc → y.one = true) = True := eq_true fun y hy => plain_one (rok.plain y hy)
 have e5' : append2 Try.prog (look (h4 ++ [AObj.cells rc 107 true])) (h4.length + 1) 89 89 [rulesSl rb rs, .sl (some ⟨h4.length, 0, 15⟩) 1 1] = some (rulesSl rb' (rs ++ [⟨rc, ac, si, cv, zs⟩]), δ) := e5
 have e6' : Heap.apply (h4 ++ [AObj.cells rc 107 true]) δ = h5 := e6
 generalize rulesSl rb rs = x1 at *
 generalize rulesSl rb' (rs ++ [⟨rc, ac, si, cv, zs⟩]) = x2 at *
 have bs : abuildSlice Try.prog h4.length 89 1 [(0, .agg rc)] = some (.sl (some ⟨h4.length, 0, 15⟩) 1 1, .new (.cells rc 107 true)) := by
  match rc, rl, rone with
  | [c0, c1, c2, c3, c4, c5, c6, c7, c8, c9, c10, c11, c12, c13, c14], _, ro =>
   have ro' := of_eq_true ro
   have q0 := ro' c0 (by simp)
   have q1 := ro' c1 (by simp)
   have q2 := ro' c2 (by simp)
   have q3 := ro' c3 (by simp)
   have q4 := ro' c4 (by simp)
   have q5 := ro' c5 (by simp)
   have q6 := ro' c6 (by simp)
   have q7 := ro' c7 (by simp)
   have q8 := ro' c8 (by simp)
   have q9 := ro' c9 (by simp)
   have q10 := ro' c10 (by simp)
   have q11 := ro' c11 (by simp)
   have q12 := ro' c12 (by simp)
   have q13 := ro' c13 (by simp)
   have q14 := ro' c14 (by simp)
   simp [-AV.one, one_agg, abuildSlice, afill, zeros, splice, q0, q1, q2, q3, q4, q5, q6, q7, q8, q9, q10, q11, q12, q13, q14]
 simp [-AV.notTup, -AV.one, -AV.cells, one_agg, fone, cone, cnt, wt, hvt, n1, n2, notTup_ptr, c80_t, c80_r11, c80_r12, c80_r13, fieldA, l1, e1, st1, hh2, abin_quo, abin_rem, wq, hM, wi, wj, es', e3, st3, hh4, l4, bs, e5', e6']
 simpa using hfin
end Go.AM
