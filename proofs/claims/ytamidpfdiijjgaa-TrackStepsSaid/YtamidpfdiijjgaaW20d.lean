/-
  What the law TrackSteps stands on, part 4.
-/
import Derived.Test.YtamidpfdiijjgaaW20c
import Derived.Test.YtamidpfdiijjgaaL20
namespace Go.AM
open Go Go.Proofs Go.RowKit
set_option linter.unusedVariables false
set_option linter.unusedSimpArgs false
set_option maxRecDepth 100000
theorem copy_conts2 {h : Heap} {v : AV} {l : List Cont} (H : SlC h v l) (hl : l.length ≤ 1000) : ∃ v' δ h', append2 Try.prog (look h) h.length 42 42 [.sl none 0 0, v] = some (v', δ) ∧ h.apply δ = h' ∧ SlC h' v' l ∧ Only (fun _ => False) h h' := by
  rcases H with ⟨rfl, rfl⟩ | ⟨b, g, c, cs, rfl, h1, h2⟩
  · exact ⟨.sl none 0 0, .no, h, by simp [append2, aappend, srcCells, aappendE], rfl, .inl ⟨rfl, rfl⟩, .refl⟩
  · by_cases hl0 : l.length = 0
    · have : l = [] := List.length_eq_zero_iff.1 hl0
      subst this
      exact ⟨.sl none 0 0, .no, h, by simp [append2, aappend, srcCells, aappendE], rfl, .inl ⟨rfl, rfl⟩, .refl⟩
    · have hge : l.length * 8 ≤ cs.length := by
        have h3 := h2 (l.length - 1) _ (List.getElem?_eq_getElem (by omega))
        have := congrArg List.length h3
        rw [List.length_take, List.length_drop] at this
        simp [contCell] at this
        omega
      have hlen : (cs.take (l.length * 8)).length = l.length * 8 := by simp; omega
      have hby : Try.prog.bytesOf 52 ≤ 100 := by simp
      have hroom : l.length * Try.prog.bytesOf 52 ≤ roomMax := by
        have := Nat.mul_le_mul hl hby
        simp only [roomMax]
        omega
      have hsrc : srcCells Try.prog (look h) 52 (.sl (some ⟨b, 0, g⟩) l.length c) = some (l.length, cs.take (l.length * 8)) := by
        simp [srcCells, hl0, slCells, h1, hge]
      refine ⟨.sl (some ⟨h.length, 0, l.length * 8⟩) l.length l.length, .new (.cells (cs.take (l.length * 8)) 52 true), h ++ [.cells (cs.take (l.length * 8)) 52 true], ?_, rfl, ?_, .app⟩
      · have h9 : l.length ≤ 9223372036854775807 := by omega
        have hz : zeroOK Try.prog 52 = true := by simp
        have hpos : 0 < tsz Try.prog 52 := by simp
        have ht : tk Try.prog 42 = .slice 52 := by simp
        simp only [append2, aappend, ht, hsrc, hpos, if_true, aappendE, hl0, if_false]
        simp only [hroom, h9, hz, and_self, if_true, hlen]
      · refine .inr ⟨h.length, l.length * 8, l.length, cs.take (l.length * 8), rfl, ?_, fun i c hc => ?_⟩
        · simp only [AM.row, look_at, at_app, if_true]
          rw [if_pos hlen]
        · have hi := (List.getElem?_eq_some_iff.1 hc).1
          rw [List.drop_take, List.take_take, Nat.min_eq_left (by omega)]
          exact h2 i c hc
def In106 (h : Heap) (w : AV) (most : Nat) (K : List Int) (m : Nat) (σ : St) : Prop := ∃ i, m = K.length - i ∧ i ≤ K.length ∧ (K.any (fun k => decide ((most : Int) < k)) = (K.drop i).any fun k => decide ((most : Int) < k)) ∧ σ = ⟨[(1, .int .i64 most), (7, w), (8, .int .i64 i)], h⟩
theorem over_doc {h : Heap} {v : AV} {l : List Cont} {t : Txt} {most : Nat} (hv : SlC h v l) (hsm : ∀ c ∈ l, c.small) (hll : l.length ≤ 1000) (htl : t.length ≤ 100000) :
    ∃ h', D cfg 106 [v, .int .i64 most, .str t] h = some (.bool ((keptDoc l t).any fun k => decide ((most : Int) < k)), h') ∧ Only (fun _ => False) h h' := by
  have key : ∃ r h', D cfg 106 [v, .int .i64 most, .str t] h = some (r, h') ∧ (r = .bool ((keptDoc l t).any fun k => decide ((most : Int) < k)) ∧ Only (fun _ => False) h h') := by
    refine call106 (R := fun r h' => r = .bool ((keptDoc l t).any fun k => decide ((most : Int) < k)) ∧ Only (fun _ => False) h h') (args := [v, .int .i64 most, .str t]) (h := h) (by simp) ?_
    have hvt : v.notTup = true := by rcases hv with ⟨rfl, _⟩ | ⟨_, _, _, _, rfl, _, _⟩ <;> rfl
    obtain ⟨w, h1, e1, hw, o1⟩ := kept_doc hv hsm hll htl
    have hwt : w.notTup = true := by rcases hw with ⟨rfl, _⟩ | ⟨_, _, _, _, _, rfl, _, _⟩ <;> rfl
    obtain ⟨K, hK⟩ : ∃ K, keptDoc l t = K := ⟨_, rfl⟩
    have hKl : K.length ≤ 1000 := by
      rw [← hK]
      have : (posA l).length ≤ l.length := posTo_len_le
      simp only [keptDoc, List.length_map, List.length_range]
      omega
    rw [hK] at hw ⊢
    have hlen := fun L => hw.len (L := L) (t := 30) (e := 3) (by simp)
    rw [intCells_len] at hlen
    simp [-AV.notTup, hvt, hwt, c106, c106_r0, c106_r1, c106_r2, e1]
    refine Wt.loop (In106 h1 w most K) (m := K.length) ⟨0, rfl, Nat.zero_le _, rfl, rfl⟩ ?_
    rintro m σ ⟨i, rfl, hi, hany, rfl⟩
    have hcut : cut (some [1, 7, 8]) [(1, .int .i64 (most : Int)), (7, w), (8, .int .i64 (i : Int))] = [(1, .int .i64 (most : Int)), (7, w), (8, .int .i64 (i : Int))] := by simp
    simp only [hcut]
    by_cases hil : i < K.length
    · have hil' : (i : Int) < K.length := by omega
      have hwr : IntKind.wrap .i64 ((i : Int) + 1) = i + 1 := wrap_i64 (by omega) (by omega)
      have hic : i < (intCells K).length := by rw [intCells_len]; exact hil
      have a1 := hw.at (t := 30) (e := 3) (by simp) (by simp) hic
      have l1 := hw.load (e := 3) (by simp) hic
      have hcell : (intCells K)[i] = .int .i64 K[i] := by simp [intCells]
      rw [hcell] at l1
      have pe : (elp w i).notTup = true := by unfold elp; split <;> rfl
      have hdr : K.drop i = K[i] :: K.drop (i + 1) := List.drop_eq_getElem_cons hil
      rw [hdr, List.any_cons] at hany
      obtain ⟨a, ha⟩ : ∃ a, K[i] = a := ⟨_, rfl⟩
      rw [ha] at l1 hany
      by_cases hc : (most : Int) < a
      · rw [decide_eq_true hc, Bool.true_or] at hany
        simp [-AV.notTup, hwt, pe, c106_l3, c106_r3, c106_r5, c106_r6, len1, hlen, hil, hil', a1, l1, hc]
        try simp [AV.notTup]
        refine ⟨?_, o1⟩
        simpa using hany
      · rw [decide_eq_false hc, Bool.false_or] at hany
        have hnext : In106 h1 w most K (K.length - (i + 1)) ⟨[(1, .int .i64 most), (7, w), (8, .int .i64 (i + 1 : Nat))], h1⟩ := ⟨i + 1, rfl, hil, hany, rfl⟩
        simp [-AV.notTup, hwt, pe, c106_l3, c106_r3, c106_r4, c106_r5, len1, hlen, hil, hil', a1, l1, hc, hwr]
        exact ⟨K.length - (i + 1), by omega, by simpa using hnext⟩
    · have hi2 : i = K.length := by omega
      subst hi2
      rw [List.drop_length] at hany
      simp [-AV.notTup, hwt, c106_l3, c106_r3, c106_r7, len1, hlen]
      try simp [AV.notTup]
      refine ⟨?_, o1⟩
      simpa using hany
  obtain ⟨r, h', h1, rfl, h2⟩ := key
  exact ⟨h', h1, h2⟩
def In105 (h₀ : Heap) (v : AV) (s : Txt) (n : Nat) (l : List Cont) (m : Nat) (σ : St) : Prop := ∃ i b h, m = l.length - i ∧ i ≤ l.length ∧ σ = ⟨[(0, v), (1, .str s), (2, .int .i64 n), (7, boolSl b (stepsOf (l.take i) s n)), (8, .int .i64 i)], h⟩ ∧
  ((stepsOf (l.take i) s n).length ≠ 0 → h[b]? = some (.cells (boolCells (stepsOf (l.take i) s n)) 4 true) ∧ h₀.length ≤ b) ∧ Only (fun _ => False) h₀ h
theorem step_law {h : Heap} {v : AV} {l : List Cont} {s : Txt} {n : Nat} (hv : SlC h v l) (hsm : ∀ c ∈ l, c.small) (hll : l.length ≤ 1000) (hsl : s.length ≤ 100000) :
    ∃ r h', D cfg 105 [v, .str s, .int .i64 n] h = some (r, h') ∧ Sl1 h' r (boolCells (stepsOf l s n)) ∧ (∀ b, slB r = some b → h.length ≤ b) ∧ Only (fun _ => False) h h' := by
  have key : ∃ r h', D cfg 105 [v, .str s, .int .i64 n] h = some (r, h') ∧ (Sl1 h' r (boolCells (stepsOf l s n)) ∧ (∀ b, slB r = some b → h.length ≤ b) ∧ Only (fun _ => False) h h') := by
    refine call105 (R := fun r h' => Sl1 h' r (boolCells (stepsOf l s n)) ∧ (∀ b, slB r = some b → h.length ≤ b) ∧ Only (fun _ => False) h h') (args := [v, .str s, .int .i64 n]) (h := h) (by simp) ?_
    have hvt : v.notTup = true := by rcases hv with ⟨rfl, _⟩ | ⟨_, _, _, _, rfl, _, _⟩ <;> rfl
    have hlen := fun L => hv.len (L := L)
    simp [-AV.notTup, hvt, c105, c105_r0, c105_r1, c105_r2]
    refine Wt.loop (In105 h v s n l) (m := l.length) ⟨0, 0, h, rfl, Nat.zero_le _, by simp [stepsOf, boolSl, bufSl], fun e => absurd rfl e, .refl⟩ ?_
    rintro m σ ⟨i, b, h1, rfl, hi, rfl, hb, o1⟩
    have hcut : cut (some [0, 1, 2, 7, 8]) [(0, v), (1, .str s), (2, .int .i64 (n : Int)), (7, boolSl b (stepsOf (l.take i) s n)), (8, .int .i64 (i : Int))] = [(0, v), (1, .str s), (2, .int .i64 (n : Int)), (7, boolSl b (stepsOf (l.take i) s n)), (8, .int .i64 (i : Int))] := by simp
    simp only [hcut]
    have n1 : (boolSl b (stepsOf (l.take i) s n)).notTup = true := bufSl_notTup
    by_cases hil : i < l.length
    · have hil' : (i : Int) < l.length := by omega
      have hwr : IntKind.wrap .i64 ((i : Int) + 1) = i + 1 := wrap_i64 (by omega) (by omega)
      have hv1 := hv.same o1
      have a1 := hv.at hil
      obtain ⟨p, pf, pl⟩ := hv1.flds hil
      have f0 := pf 0 (by omega)
      have f1 := pf 1 (by omega)
      obtain ⟨l0, l1, _⟩ := pl h1 .refl
      have pe : (elC v i).notTup = true := by unfold elC; split <;> rfl
      have hc := hsm l[i] (List.getElem_mem hil)
      obtain ⟨h2, e2, o2⟩ := at_ref (h := h1) (p := l[i].bytes) (s := s) (nc := l[i].nocase) (e := n) hc.b (by omega)
      have hst : stepsOf (l.take (i + 1)) s n = stepsOf (l.take i) s n ++ [patAt l[i].bytes l[i].nocase s n] := by
        rw [List.take_succ_eq_append_getElem hil]; simp only [stepsOf, List.map_append, List.map_cons, List.map_nil]
      have hsl2 : (stepsOf (l.take i) s n).length = i := by simp [stepsOf]; omega
      obtain ⟨pb, hpb⟩ : ∃ pb, patAt l[i].bytes l[i].nocase s n = pb := ⟨_, rfl⟩
      rw [hpb] at e2 hst
      obtain ⟨δ, h3, g1, g2, g3, g4⟩ := append_buf (t := 68) (e := 4) (k := 1) (by simp) (by simp) (by decide) (by simp) (by simp) (h := h2) (b := b) (n := (stepsOf (l.take i) s n).length) (xs := boolCells (stepsOf (l.take i) s n)) (ys := [.bool pb]) (by simp) (by simp [boolCells_len]) (fun hne => o2.at (hb hne).1 id) (by omega)
      have hbc : boolCells (stepsOf (l.take i) s n) ++ [AV.bool pb] = boolCells (stepsOf (l.take (i + 1)) s n) := by rw [hst]; simp [boolCells]
      have hsl3 : (stepsOf (l.take i) s n).length + 1 = (stepsOf (l.take (i + 1)) s n).length := by rw [hst]; simp
      obtain ⟨b2, hb2⟩ : ∃ b2, (if (stepsOf (l.take i) s n).length = 0 then h2.length + 1 else b) = b2 := ⟨_, rfl⟩
      rw [hbc, hsl3, hb2] at g1
      rw [hbc, hb2] at g3
      have o13 : Only (fun _ => False) h h3 := (o1.trans o2).fresh g4 fun x hx => by rw [hx.1]; exact (hb hx.2).2
      have hnext : In105 h v s n l (l.length - (i + 1)) ⟨[(0, v), (1, .str s), (2, .int .i64 n), (7, boolSl b2 (stepsOf (l.take (i + 1)) s n)), (8, .int .i64 (i + 1 : Nat))], h3⟩ := by
        refine ⟨i + 1, b2, h3, rfl, hil, rfl, fun _ => ⟨g3, ?_⟩, o13⟩
        have q1 := o1.1
        have q2 := o2.1
        rw [← hb2]
        split
        · omega
        · rename_i hne; exact (hb hne).2
      have g1' : append2 Try.prog (look (h2 ++ [AObj.cells [.bool pb] 4 true])) (h2.length + 1) 68 68 [boolSl b (stepsOf (l.take i) s n), .sl (some ⟨h2.length, 0, 1⟩) 1 1] = some (boolSl b2 (stepsOf (l.take (i + 1)) s n), δ) := g1
      have n2 : (boolSl b2 (stepsOf (l.take (i + 1)) s n)).notTup = true := bufSl_notTup
      obtain ⟨w1, hw1⟩ : ∃ w, boolSl b (stepsOf (l.take i) s n) = w := ⟨_, rfl⟩
      obtain ⟨w2, hw2⟩ : ∃ w, boolSl b2 (stepsOf (l.take (i + 1)) s n) = w := ⟨_, rfl⟩
      rw [hw1] at n1 g1' ⊢
      rw [hw2] at n2 g1' hnext
      simp [-AV.notTup, hvt, n1, n2, pe, c105_l3, c105_r3, c105_r4, c105_r5, len1, hlen, hil, hil', a1, f0, f1, l0, l1, e2, abuildSlice, afill, zeros, g1', g2, hwr]
      exact ⟨l.length - (i + 1), by omega, by simpa using hnext⟩
    · have hi2 : i = l.length := by omega
      subst hi2
      rw [List.take_length] at hb n1 ⊢
      have hfin : Sl1 h1 (boolSl b (stepsOf l s n)) (boolCells (stepsOf l s n)) := by
        have := Sl1.buf (h := h1) (b := b) (e := 4) (s := true) (xs := boolCells (stepsOf l s n)) (fun hne => (hb (by rwa [boolCells_len] at hne)).1)
        rwa [boolCells_len] at this
      have hfr : ∀ c, slB (boolSl b (stepsOf l s n)) = some c → h.length ≤ c := fun c hc => by
        obtain ⟨rfl, hne⟩ := slB_buf hc
        exact (hb hne).2
      obtain ⟨w1, hw1⟩ : ∃ w, boolSl b (stepsOf l s n) = w := ⟨_, rfl⟩
      rw [hw1] at n1 hfin hfr ⊢
      simp [-AV.notTup, hvt, n1, c105_l3, c105_r3, c105_r6, len1, hlen]
      exact ⟨hfin, hfr, o1⟩
  obtain ⟨r, h', h1, h2, h3, h4⟩ := key
  exact ⟨r, h', h1, h2, h3, h4⟩
structure I69 (h₀ h : Heap) (tb pa nb : Nat) (T : TS) (fl : FL) (l : List Cont) (s : Txt) (k n : Nat) : Prop where
  tr : TrackAt h tb pa nb T fl
  ok : T.ok
  inv : InvT T l s k n
  lens : T.parts.length + T.nots.length ≤ 1000
  only : Only (fun _ => False) h₀ h
  fresh : ∀ c, trF tb fl c → h₀.length ≤ c
abbrev env69 (v : AV) (s : Txt) (tb k n : Nat) : Env := [(0, v), (2, .str s), (7, tPtr tb), (8, .int .i64 k), (9, .int .i64 n)]
def In69 (h₀ : Heap) (v : AV) (l : List Cont) (s : Txt) (tb pa nb k : Nat) (m : Nat) (σ : St) : Prop := ∃ n fl T h, m = s.length - n ∧ n ≤ s.length ∧ σ = ⟨env69 v s tb k (n + 1), h⟩ ∧ I69 h₀ h tb pa nb T fl l s k n
theorem same_run {h : Heap} {v : AV} {l : List Cont} {s : Txt} {m : Int} (hv : SlC h v l) (hsm : ∀ c ∈ l, c.small) (hbn : ∀ c ∈ l, c.bytes ≠ []) (hll : l.length ≤ 100) (hsl : s.length ≤ 1000) :
    ∃ h', D cfg 69 [v, .int .i64 m, .str s] h = some (.bool true, h') ∧ Only (fun _ => False) h h' := by
  have key : ∃ r h', D cfg 69 [v, .int .i64 m, .str s] h = some (r, h') ∧ (r = .bool true ∧ Only (fun _ => False) h h') := by
    refine call69 (R := fun r h' => r = .bool true ∧ Only (fun _ => False) h h') (args := [v, .int .i64 m, .str s]) (h := h) (by simp) ?_
    have hvt : v.notTup = true := by rcases hv with ⟨rfl, _⟩ | ⟨_, _, _, _, rfl, _, _⟩ <;> rfl
    obtain ⟨v', δ, h1, x1, x2, hv1, o1⟩ := copy_conts2 hv (by omega)
    have hvt' : v'.notTup = true := by rcases hv1 with ⟨rfl, _⟩ | ⟨_, _, _, _, rfl, _, _⟩ <;> rfl
    obtain ⟨k, hk⟩ : ∃ k : Nat, (k : Int) = max 1 (min m 32) := ⟨(max 1 (min m 32)).toNat, by omega⟩
    obtain ⟨tb, pa, nb, fl, h2, e2, T2, o2, f2⟩ := new_run hv1 hsm (by omega) hk
    have hok := newTo_ok (l := l) (most := k) hsm (k := l.length)
    have hln := newTo_len (l := l) (most := k) (k := l.length)
    have hinv := init_inv (s := s) (most := k) hbn
    obtain ⟨T, hT⟩ : ∃ T, newTo l k l.length = T := ⟨_, rfl⟩
    rw [hT] at T2 hok hln hinv
    have e3 := holds_run T2 (by omega)
    obtain ⟨g1, _⟩ := holds_inv hinv (Nat.zero_le _)
    have hv2 := (hv.same o1).same o2
    obtain ⟨h3, e4, o3⟩ := holds_doc hv2 (s := []) hsm (by simp) (by omega)
    rw [show s.take 0 = [] from rfl] at g1
    rw [g1] at e3
    have T3 := T2.same o3
    have e5 := over_run T3
    rw [hinv.over] at e5
    obtain ⟨hb0, hhb0⟩ : ∃ b, holdsC l [] = b := ⟨_, rfl⟩
    rw [hhb0] at e3 e4
    have m1 : amax [.int .i64 m, .int .i64 1] = some (.int .i64 (max m 1)) := by
      simp only [amax, List.foldl, amax1, if_true]
      congr 2
      split <;> omega
    have m2 : amin [.int .i64 (max m 1), .int .i64 32] = some (.int .i64 k) := by
      simp only [amin, List.foldl, amin1, if_true]
      congr 2
      split <;> omega
    have o03 : Only (fun _ => False) h h3 := (o1.trans o2).trans o3
    have hl1 := o1.1
    have I0 : I69 h h3 tb pa nb T fl l s k 0 := ⟨T3, hok, hinv, by omega, o03, fun c hc => by have := f2 c hc; omega⟩
    have hloop : Wt Try.prog (D cfg) (.loop c69_l6 (some [0, 2, 7, 8, 9])) ⟨env69 v s tb k 1, h3⟩ (inBlock 0 (andThen (fun s' => Wt Try.prog (D cfg) (.seq (.reg c69_r15 none (some [6])) .ret) s' (Ends Try.prog [.tmp 6] fun r h' => r = .bool true ∧ Only (fun _ => False) h h')) (Ends Try.prog [.tmp 6] fun r h' => r = .bool true ∧ Only (fun _ => False) h h'))) := by
      refine Wt.loop (In69 h v l s tb pa nb k) (m := s.length) ⟨0, fl, T, h3, rfl, Nat.zero_le _, rfl, I0⟩ ?_
      rintro mm σ ⟨n, fl4, T4, h4, rfl, hn, rfl, I⟩
      have hcut : cut (some [0, 2, 7, 8, 9]) (env69 v s tb k (n + 1)) = env69 v s tb k (n + 1) := by simp
      simp only [hcut]
      by_cases hns : n < s.length
      · obtain ⟨n1, hn1⟩ : ∃ n1, n + 1 = n1 := ⟨_, rfl⟩
        have hle : (n1 : Int) ≤ s.length := by omega
        have hle2 : n1 ≤ s.length := by omega
        have hv4 := hv.same I.only
        obtain ⟨w, h5, e6, hw5, fr5, o5⟩ := step_law (n := n1) hv4 hsm (by omega) (by omega) (s := s)
        have hwt : w.notTup = true := by rcases hw5 with ⟨rfl, _⟩ | ⟨_, _, _, _, _, rfl, _, _⟩ <;> rfl
        have T5 := I.tr.same o5
        have hlt4 : ∀ c, trF tb fl4 c → c < h4.length := fun c hc => by
          rcases hc with rfl | hc
          · exact lt_of_at I.tr.hdr
          · exact I.tr.ps.lt hc
        obtain ⟨fl6, h6, e7, T6, o6, s6⟩ := step_ok T5 hw5 (fun b hb hf => by have := fr5 b hb; have := hlt4 b hf; omega) I.ok (by rw [I.inv.at_]; omega) I.lens
        obtain ⟨g2, g3⟩ := step_inv I.inv (by omega)
        rw [hn1] at g2 g3
        obtain ⟨T', hT'⟩ : ∃ T', stepT T4 (stepsOf l s n1) = T' := ⟨_, rfl⟩
        have hok' : T'.ok := by rw [← hT']; exact I.ok.step
        have hl' : T'.parts.length + T'.nots.length ≤ 1000 := by
          have := stepT_len (T := T4) (ends := stepsOf l s n1)
          have := I.lens
          rw [hT'] at *
          omega
        rw [hT'] at e7 T6 g2 g3
        rw [g2] at e7
        have e8 := over_run T6
        rw [g2] at e8
        have o46 : Only (fun _ => False) h h6 := ((I.only.trans o5).fresh o6 fun c hc => I.fresh c hc)
        have hv6 := hv.same o46
        have htl : (s.take n1).length ≤ 100000 := by simp; omega
        obtain ⟨h7, e9, o7⟩ := over_doc (t := s.take n1) (most := k) hv6 hsm (by omega) htl
        rw [keptDoc_take hle2] at e9
        have e9' : D cfg 106 [v, .int .i64 k, .str (s.take n1)] h6 = some (.bool (overD l k s n1), h7) := e9
        have asl : aslice Try.prog 9 (.str s) none (some (.int .i64 n1)) none = some (.str (s.take n1)) := by
          simp [aslice, bound, hle, hle2]
        have o07 := o46.trans o7
        obtain ⟨tk, htk⟩ : ∃ tk, s.take n1 = tk := ⟨_, rfl⟩
        rw [htk] at e9' asl
        rw [hn1]
        cases hov : overD l k s n1 with
        | true =>
          rw [hov] at e7 e8 e9'
          simp [-AV.notTup, hvt, hwt, notTup_ptr, c69_l6, c69_r6, c69_r8, c69_r9, c69_r11, c69_r12, len1, alen9, hle, hle2, e6, e7, e8, asl, e9']
          exact ⟨rfl, o07⟩
        | false =>
          rw [hov] at e7 e8 e9' g2
          have I7 := g3 hov
          obtain ⟨q1, q2⟩ := holds_inv I7 hle2
          have T7 := T6.same o7
          have e10 := holds_run T7 (by omega)
          rw [q1, htk] at e10
          have hv7 := hv.same o07
          obtain ⟨h8, e11, o8⟩ := holds_doc hv7 (s := tk) hsm (by rw [← htk]; exact htl) (by omega)
          obtain ⟨hb, hhb⟩ : ∃ b, holdsC l tk = b := ⟨_, rfl⟩
          rw [hhb] at e10 e11
          have T8 := T7.same o8
          obtain ⟨w1, h9, e12, hw9, o9⟩ := kept_run T8 (by omega)
          have hv9 := ((hv7.same o8).same o9)
          obtain ⟨w2, h10, e13, hw10, o10⟩ := kept_doc (t := tk) hv9 hsm (by omega) (by rw [← htk]; exact htl)
          rw [← htk, keptDoc_take hle2] at hw10
          rw [q2] at hw9
          have hKl : (keptD l s n1).length ≤ 1000000000 := by
            have : (posA l).length ≤ l.length := posTo_len_le
            simp only [keptD, List.length_map, List.length_range]
            omega
          have e14 := same_ints (hw9.same o10) hw10 hKl
          rw [decide_eq_true rfl] at e14
          have wt1 : w1.notTup = true := by rcases hw9 with ⟨rfl, _⟩ | ⟨_, _, _, _, _, rfl, _, _⟩ <;> rfl
          have wt2 : w2.notTup = true := by rcases hw10 with ⟨rfl, _⟩ | ⟨_, _, _, _, _, rfl, _, _⟩ <;> rfl
          have hwr : IntKind.wrap .i64 ((n1 : Int) + 1) = n1 + 1 := wrap_i64 (by omega) (by omega)
          have o710 := (o8.trans o9).trans o10
          have hnext : In69 h v l s tb pa nb k (s.length - n1) ⟨env69 v s tb k (n1 + 1), h10⟩ := by
            refine ⟨n1, fl6, T', h10, rfl, hle2, rfl, ⟨T7.same o710, hok', I7, hl', o07.trans o710, ?_⟩⟩
            rintro c (e | e)
            · exact I.fresh c (.inl e)
            · rcases s6 c e with h12 | h12
              · exact I.fresh c (.inr h12)
              · have := I.only.1
                have := o5.1
                omega
          simp only [env69] at hnext
          cases hb <;>
          · simp [-AV.notTup, hvt, hwt, wt1, wt2, notTup_ptr, c69_l6, c69_r6, c69_r7, c69_r8, c69_r9, c69_r11, c69_r13, len1, alen9, hle, hle2, e6, e7, e8, asl, e9', e10, e11, e12, e13, e14, hwr]
            exact ⟨s.length - n1, by omega, by simpa using hnext⟩
      · have hn2 : n = s.length := by omega
        subst hn2
        have hnl : ¬ ((s.length : Int) + 1 ≤ s.length) := by omega
        simp [-AV.notTup, hvt, notTup_ptr, c69_l6, c69_r6, c69_r15, len1, alen9, hnl]
        try simp [AV.notTup]
        exact I.only
    simp only [env69] at hloop
    cases hb0 <;>
    · simp [-AV.notTup, hvt, hvt', notTup_ptr, c69, c69_r0, c69_r1, c69_r2, c69_r4, c69_r5, x1, x2, e2, e3, e4, e5, m1, m2]
      simpa using hloop
  obtain ⟨r, h', h1, rfl, h2⟩ := key
  exact ⟨h', h1, h2⟩
def hitCells (l : List (Int × Int)) : List AV := l.flatMap fun p => [.int .i64 p.1, .int .i64 p.2]
theorem hitCells_len {l : List (Int × Int)} : (hitCells l).length = l.length * 2 := by
  induction l with
  | nil => rfl
  | cons x r ih => simp only [hitCells, List.flatMap_cons, List.length_append, List.length_cons, List.length_nil] at ih ⊢; omega
theorem hitCells_app {a b : List (Int × Int)} : hitCells (a ++ b) = hitCells a ++ hitCells b := by simp [hitCells]
def hitSl (b : Nat) (l : List (Int × Int)) : AV := bufSl b l.length (hitCells l)
def hitsTo (nc : List Bool) (t : Txt) (l : List Txt) : Nat → List (Int × Int)
  | 0 => []
  | n + 1 => hitsTo nc t l n ++ (scHits nc (t.take (n + 1)) l 0).map fun z => (z, ((n + 1 : Nat) : Int))
theorem hitsTo_len {nc : List Bool} {t : Txt} {l : List Txt} : ∀ {n : Nat}, (hitsTo nc t l n).length ≤ n * l.length
  | 0 => by simp [hitsTo]
  | n + 1 => by
    have h1 := hitsTo_len (nc := nc) (t := t) (l := l) (n := n)
    have h2 := scHits_len (nc := nc) (w := t.take (n + 1)) (l := l) (i := 0)
    simp only [hitsTo, List.length_append, List.length_map, Nat.add_mul]
    omega
structure HitH (h₀ : Heap) (l : List (Int × Int)) (b : Nat) (h : Heap) : Prop where
  at_ : l.length ≠ 0 → h[b]? = some (.cells (hitCells l) 75 true) ∧ h₀.length ≤ b
theorem HitH.step {h₀ h : Heap} {l : List (Int × Int)} {b : Nat} (H : HitH h₀ l b h) (hh : h₀.length ≤ h.length) (hn : l.length ≤ 1000000) {p : Int × Int} :
    ∃ δ h' b', b' = (if l.length = 0 then h.length + 1 else b) ∧ append2 Try.prog (look (h ++ [AObj.cells [.int .i64 p.1, .int .i64 p.2] 75 true])) (h.length + 1) 71 71 [hitSl b l, .sl (some ⟨h.length, 0, 2⟩) 1 1] = some (hitSl b' (l ++ [p]), δ) ∧ Heap.apply (h ++ [AObj.cells [.int .i64 p.1, .int .i64 p.2] 75 true]) δ = h' ∧
      HitH h₀ (l ++ [p]) b' h' ∧ Only (fun c => c = b ∧ l.length ≠ 0) h h' := by
  obtain ⟨δ, h', e1, e2, e3, e4⟩ := append_buf (t := 71) (e := 75) (k := 2) (by simp) (by simp) (by decide) (by simp) (by simp) (h := h) (b := b) (n := l.length) (xs := hitCells l) (ys := [.int .i64 p.1, .int .i64 p.2]) (by simp) (by rw [hitCells_len]) (fun hne => (H.at_ hne).1) hn
  have e : hitCells l ++ [AV.int .i64 p.1, AV.int .i64 p.2] = hitCells (l ++ [p]) := by rw [hitCells_app]; rfl
  rw [e] at e1 e3
  refine ⟨δ, h', if l.length = 0 then h.length + 1 else b, rfl, ?_, e2, ⟨fun _ => ⟨e3, ?_⟩⟩, e4⟩
  · simp only [hitSl, List.length_append, List.length_cons, List.length_nil]
    exact e1
  · split
    · omega
    · rename_i hne; exact (H.at_ hne).2
theorem HitH.keep {h₀ h h' : Heap} {l : List (Int × Int)} {b : Nat} {fp : Nat → Prop} (H : HitH h₀ l b h) (ho : Only fp h h') (hf : l.length ≠ 0 → ¬ fp b) : HitH h₀ l b h' :=
  ⟨fun hne => ⟨ho.at (H.at_ hne).1 (hf hne), (H.at_ hne).2⟩⟩
theorem take_map {l : List Txt} {i : Nat} (hi : i < l.length) : (l.map fold).take (i + 1) = (l.map fold).take i ++ [fold (txt l i)] := by
  rw [List.take_succ_eq_append_getElem (by simpa using hi)]
  simp [txt_eq hi]
def Fo64 (h₀ : Heap) (v u : AV) (l : List Txt) (t : Txt) (m : Nat) (σ : St) : Prop :=
  ∃ i b h, m = l.length - i ∧ i ≤ l.length ∧ σ = ⟨[(0, v), (1, u), (2, .str t), (7, txtSl b ((l.map fold).take i)), (18, v), (19, .int .i64 l.length), (20, .int .i64 i)], h⟩ ∧ PatH h₀ ((l.map fold).take i) b h
theorem folds_loop {h₀ : Heap} {v u : AV} {l : List Txt} {t : Txt} (hv : Sl1 h₀ v (strCells l)) (hl : l.length ≤ 200) (hp : ∀ p ∈ l, p.length ≤ 9223372036854775800) {Q : AExit → St → Prop}
    (hq : ∀ b h, PatH h₀ (l.map fold) b h → Q (.exit 0) ⟨[(0, v), (1, u), (2, .str t), (7, txtSl b (l.map fold)), (18, v), (19, .int .i64 l.length), (20, .int .i64 l.length), (21, .bool false)], h⟩) :
    Wt Try.prog (D cfg) (.loop c64_l3 (some [0, 1, 2, 7, 18, 19, 20])) ⟨[(0, v), (1, u), (2, .str t), (7, .sl none 0 0), (18, v), (19, .int .i64 l.length), (20, .int .i64 0)], h₀⟩ Q := by
  refine Wt.loop (Fo64 h₀ v u l t) (m := l.length) ⟨0, 0, h₀, rfl, Nat.zero_le _, rfl, fun h => absurd rfl h, .refl⟩ ?_
  rintro m σ ⟨i, b, h, rfl, hi, rfl, H⟩
  have hcut : cut (some [0, 1, 2, 7, 18, 19, 20]) [(0, v), (1, u), (2, .str t), (7, txtSl b ((l.map fold).take i)), (18, v), (19, .int .i64 l.length), (20, .int .i64 (i : Int))] = [(0, v), (1, u), (2, .str t), (7, txtSl b ((l.map fold).take i)), (18, v), (19, .int .i64 l.length), (20, .int .i64 i)] := by simp
  simp only [hcut]
  by_cases hil : i < l.length
  · have hil' : (i : Int) < l.length := by omega
    have hwr : IntKind.wrap .i64 ((i : Int) + 1) = i + 1 := wrap_i64 (by omega) (by omega)
    have a1 := hv.at (t := 38) (e := 9) (by simp) (by simp) (i := i) (by rw [strCells_len]; exact hil)
    have b1 := (hv.same H.only).load (e := 9) (by simp) (i := i) (by rw [strCells_len]; exact hil)
    rw [strCells_get, txt_eq] at b1
    obtain ⟨h1, e1, o1⟩ := fold_auto (h := h) (s := txt l i) (hp _ (by rw [← txt_eq hil]; exact List.getElem_mem hil))
    have H1 : PatH h₀ ((l.map fold).take i) b h1 := ⟨fun hne => ⟨o1.at (H.at_ hne).1 id, (H.at_ hne).2⟩, H.only.trans o1⟩
    obtain ⟨δ, h2, b2, e2, e3, H2⟩ := H1.step (by simp; omega) (p := fold (txt l i))
    rw [← take_map hil] at e2 H2
    have hnext : Fo64 h₀ v u l t (l.length - (i + 1)) ⟨[(0, v), (1, u), (2, .str t), (7, txtSl b2 ((l.map fold).take (i + 1))), (18, v), (19, .int .i64 l.length), (20, .int .i64 (i + 1 : Nat))], h2⟩ := ⟨i + 1, b2, h2, rfl, hil, rfl, H2⟩
    simp [-List.map_take, c64_l3, c64_r3, c64_r4, c64_r5, c64_r6, hil, hil', a1, b1, e1, abuildSlice, afill, zeros, e2, e3, hwr]
    exact ⟨l.length - (i + 1), by omega, by simpa [-List.map_take] using hnext⟩
  · have : i = l.length := by omega
    subst this
    rw [show (l.map fold).take l.length = l.map fold by rw [← List.length_map (f := fold), List.take_length]] at H ⊢
    have := hq b h H
    simp [c64_l3, c64_r3]
    simpa using this
section
variable {h₀ : Heap} {sb : Nat} {lv nv : AV} {B : AB} {l : List Txt} {nc : List Bool} {t : Txt} {tab : Nat → Nat → Nat} {fl ob : Nat → Nat} {ou : Nat → List Int}
structure AllI (h₁ : Heap) (sb : Nat) (lv nv : AV) (B : AB) (l : List Txt) (nc : List Bool) (w : Txt) (tab : Nat → Nat → Nat) (fl ob : Nat → Nat) (ou : Nat → List Int) (hs : List (Int × Int)) (b : Nat) (h : Heap) : Prop where
  sc : ScanX h sb lv nv B l nc w tab fl ob ou
  hit : HitH h₁ hs b h
  only : Only (fun c => c = sb) h₁ h
theorem AllI.more {h₁ h : Heap} {w : Txt} {hs : List (Int × Int)} {b : Nat} (H : AllI h₁ sb lv nv B l nc w tab fl ob ou hs b h) (hlt : ∀ c, scFoot sb lv nv B (begs (l.map fold)).length ob ou c → c < h₁.length) (hn : hs.length ≤ 1000000) {p : Int × Int} :
    ∃ δ h' b', b' = (if hs.length = 0 then h.length + 1 else b) ∧ append2 Try.prog (look (h ++ [AObj.cells [.int .i64 p.1, .int .i64 p.2] 75 true])) (h.length + 1) 71 71 [hitSl b hs, .sl (some ⟨h.length, 0, 2⟩) 1 1] = some (hitSl b' (hs ++ [p]), δ) ∧ Heap.apply (h ++ [AObj.cells [.int .i64 p.1, .int .i64 p.2] 75 true]) δ = h' ∧
      AllI h₁ sb lv nv B l nc w tab fl ob ou (hs ++ [p]) b' h' ∧ Only (fun c => c = b ∧ hs.length ≠ 0) h h' := by
  obtain ⟨δ, h2, b2, e0, e2, e3, H2, o2⟩ := H.hit.step H.only.1 hn (p := p)
  refine ⟨δ, h2, b2, e0, e2, e3, ⟨H.sc.keep o2 fun c hc hb => ?_, H2, ⟨Nat.le_trans H.only.1 o2.1, fun c hc hne => ?_⟩⟩, o2⟩
  · have h1 := hlt c hc
    have h2 := (H.hit.at_ hb.2).2
    have := hb.1
    omega
  · rw [o2.2 c (Nat.lt_of_lt_of_le hc H.only.1) (fun hb => by have h2 := (H.hit.at_ hb.2).2; have := hb.1; omega), H.only.2 c hc hne]
abbrev inEnv64 (hv : AV) (sb tb n i : Nat) (ov : AV) (m k : Nat) : Env := [(12, hv), (13, scPtr sb), (42, byteSl tb n), (43, .int .i64 n), (44, .int .i64 i), (50, ov), (51, .int .i64 m), (52, .int .i64 k)]
def mk64 (n : Nat) (O : List Int) : List (Int × Int) := O.map fun z => (z, (n : Int))
theorem mk64_len {n : Nat} {O : List Int} : (mk64 n O).length = O.length := by simp [mk64]
theorem mk64_snoc {n : Nat} {O : List Int} {z : Int} : mk64 n (O ++ [z]) = mk64 n O ++ [(z, (n : Int))] := by simp [mk64]
def In64 (h₁ : Heap) (sb : Nat) (lv nv : AV) (B : AB) (l : List Txt) (nc : List Bool) (w : Txt) (tab : Nat → Nat → Nat) (fl ob : Nat → Nat) (ou : Nat → List Int) (hs : List (Int × Int)) (tb n i : Nat) (ov : AV) (O : List Int) (m : Nat) (σ : St) : Prop :=
  ∃ k b h, m = O.length - k ∧ k ≤ O.length ∧ σ = ⟨inEnv64 (hitSl b (hs ++ mk64 w.length (O.take k))) sb tb n i ov O.length k, h⟩ ∧ AllI h₁ sb lv nv B l nc w tab fl ob ou (hs ++ mk64 w.length (O.take k)) b h ∧ Sl1 h ov (intCells O) ∧
    ((hs ++ mk64 w.length (O.take k)).length ≠ 0 → slB ov ≠ some b) ∧ (∀ c, slB ov = some c → c < h.length)
theorem in64_loop {h₁ h : Heap} {w : Txt} {hs : List (Int × Int)} {b tb n i : Nat} {ov : AV} {O : List Int} (hlt : ∀ c, scFoot sb lv nv B (begs (l.map fold)).length ob ou c → c < h₁.length) (H : AllI h₁ sb lv nv B l nc w tab fl ob ou hs b h) (hov : Sl1 h ov (intCells O)) (hb : hs.length ≠ 0 → slB ov ≠ some b) (hn : hs.length + O.length ≤ 1000000) (hovl : ∀ c, slB ov = some c → c < h.length) {Q : AExit → St → Prop}
    (hq : ∀ b' h', AllI h₁ sb lv nv B l nc w tab fl ob ou (hs ++ mk64 w.length O) b' h' → Q (.exit 4) ⟨inEnv64 (hitSl b' (hs ++ mk64 w.length O)) sb tb n i ov O.length O.length ++ [(53, .bool false)], h'⟩) :
    Wt Try.prog (D cfg) (.loop c64_l16 (some [12, 13, 42, 43, 44, 50, 51, 52])) ⟨inEnv64 (hitSl b hs) sb tb n i ov O.length 0, h⟩ Q := by
  have h00 : hs ++ mk64 w.length (O.take 0) = hs := by simp [mk64]
  refine Wt.loop (In64 h₁ sb lv nv B l nc w tab fl ob ou hs tb n i ov O) (m := O.length) ⟨0, b, h, rfl, Nat.zero_le _, by rw [h00], by rw [h00]; exact H, hov, by rw [h00]; exact hb, hovl⟩ ?_
  rintro m σ ⟨k, b1, h1, rfl, hk, rfl, H1, hov1, hb1, hl1⟩
  have hcut : cut (some [12, 13, 42, 43, 44, 50, 51, 52]) (inEnv64 (hitSl b1 (hs ++ mk64 w.length (O.take k))) sb tb n i ov O.length k) = inEnv64 (hitSl b1 (hs ++ mk64 w.length (O.take k))) sb tb n i ov O.length k := by simp
  simp only [hcut]
  by_cases hkO : k < O.length
  · have hkO' : (k : Int) < O.length := by omega
    have hwr : IntKind.wrap .i64 ((k : Int) + 1) = k + 1 := wrap_i64 (by omega) (by omega)
    have a1 := hov1.at (t := 30) (e := 3) (by simp) (by simp) (i := k) (by rw [intCells_len]; exact hkO)
    have c1 := hov1.load (e := 3) (by simp) (i := k) (by rw [intCells_len]; exact hkO)
    rw [intCells_get] at c1
    have e1 := scan_at H1.sc.sc
    have htk : mk64 w.length (O.take (k + 1)) = mk64 w.length (O.take k) ++ [(O[k], (w.length : Int))] := by
      rw [List.take_succ_eq_append_getElem hkO, mk64_snoc]
    obtain ⟨hs1, hhs1⟩ : ∃ x, hs ++ mk64 w.length (O.take k) = x := ⟨_, rfl⟩
    have hs2 : hs ++ mk64 w.length (O.take (k + 1)) = hs1 ++ [(O[k], (w.length : Int))] := by rw [htk, ← hhs1, List.append_assoc]
    have hsl : hs1.length ≤ 1000000 := by rw [← hhs1]; simp [mk64_len]; omega
    rw [hhs1] at H1 hb1 ⊢
    obtain ⟨δ, h2, b2, e0, e2, e3, H2, o2⟩ := H1.more hlt hsl (p := (O[k], (w.length : Int)))
    have hov2 := hov1.keep o2 fun c hc hb => hb1 hb.2 (by rw [hc, hb.1])
    have hnext : In64 h₁ sb lv nv B l nc w tab fl ob ou hs tb n i ov O (O.length - (k + 1)) ⟨inEnv64 (hitSl b2 (hs1 ++ [(O[k], (w.length : Int))])) sb tb n i ov O.length (k + 1), h2⟩ := by
      refine ⟨k + 1, b2, h2, rfl, hkO, by rw [hs2], by rw [hs2]; exact H2, hov2, fun _ hc => ?_, fun c hc => Nat.lt_of_lt_of_le (hl1 c hc) o2.1⟩
      have h5 := hl1 _ hc
      rw [e0] at hc h5
      split at hc
      · rename_i h6
        rw [if_pos h6] at h5
        omega
      · rename_i h6; exact hb1 h6 hc
    simp only [inEnv64] at hnext
    simp [c64_l16, c64_r16, c64_r17, c64_r18, c64_r19, hkO, hkO', a1, c1, e1, abuild, abuildSlice, afill, zeros, splice, e2, e3, hwr]
    exact ⟨O.length - (k + 1), by omega, by simpa using hnext⟩
  · have : k = O.length := by omega
    subst this
    rw [List.take_length] at H1 ⊢
    have := hq b1 h1 H1
    simp only [inEnv64] at this
    simp [c64_l16, c64_r16]
    simpa using this
abbrev outEnv64 (hv : AV) (sb tb n i : Nat) : Env := [(12, hv), (13, scPtr sb), (42, byteSl tb n), (43, .int .i64 n), (44, .int .i64 i)]
def Ot64 (h₁ : Heap) (sb : Nat) (lv nv : AV) (B : AB) (l : List Txt) (nc : List Bool) (t : Txt) (tab : Nat → Nat → Nat) (fl ob : Nat → Nat) (ou : Nat → List Int) (tb : Nat) (m : Nat) (σ : St) : Prop :=
  ∃ i b h, m = t.length - i ∧ i ≤ t.length ∧ σ = ⟨outEnv64 (hitSl b (hitsTo nc t l i)) sb tb t.length i, h⟩ ∧ AllI h₁ sb lv nv B l nc (t.take i) tab fl ob ou (hitsTo nc t l i) b h
theorem hitsTo_succ {i : Nat} : hitsTo nc t l (i + 1) = hitsTo nc t l i ++ mk64 (i + 1) (scHits nc (t.take (i + 1)) l 0) := rfl
theorem out64_loop {h₁ : Heap} {tb : Nat} (hlt : ∀ c, scFoot sb lv nv B (begs (l.map fold)).length ob ou c → c < h₁.length) (H : ScanX h₁ sb lv nv B l nc [] tab fl ob ou) (htb : h₁[tb]? = some (.cells (byteCells t) 5 true)) (hts : tb ≠ sb) (hn : t.length * l.length ≤ 1000000) (hn2 : t.length ≤ 1000000) {Q : AExit → St → Prop}
    (hq : ∀ b' h', AllI h₁ sb lv nv B l nc t tab fl ob ou (hitsTo nc t l t.length) b' h' → Q (.exit 2) ⟨outEnv64 (hitSl b' (hitsTo nc t l t.length)) sb tb t.length t.length ++ [(45, .bool false)], h'⟩) :
    Wt Try.prog (D cfg) (.loop c64_l13 (some [12, 13, 42, 43, 44])) ⟨outEnv64 (.sl none 0 0) sb tb t.length 0, h₁⟩ Q := by
  refine Wt.loop (Ot64 h₁ sb lv nv B l nc t tab fl ob ou tb) (m := t.length) ⟨0, 0, h₁, rfl, Nat.zero_le _, rfl, ⟨H, ⟨fun h => absurd rfl h⟩, .refl⟩⟩ ?_
  rintro m σ ⟨i, b, h, rfl, hi, rfl, HI⟩
  have hcut : cut (some [12, 13, 42, 43, 44]) (outEnv64 (hitSl b (hitsTo nc t l i)) sb tb t.length i) = outEnv64 (hitSl b (hitsTo nc t l i)) sb tb t.length i := by simp
  simp only [hcut]
  by_cases hit : i < t.length
  · have hit' : (i : Int) < t.length := by omega
    have hwr : IntKind.wrap .i64 ((i : Int) + 1) = i + 1 := wrap_i64 (by omega) (by omega)
    have g1 : h[tb]? = some (.cells (byteCells t) 5 true) := HI.only.at htb hts
    have hcl : (byteCells t).length = t.length := byteCells_len
    have hb : (byteCells t)[i]? = some (.int .u8 t[i].toNat) := by simp [byteCells, hit]
    have q1 := cell_load g1 hcl (t := 5) (by simp) hb
    have hwl : (t.take i).length = i := by simp; omega
    obtain ⟨bo, h2, e1, H2, o2, d2⟩ := scan_step HI.sc (by omega) (b := t[i])
    have htk : t.take i ++ [t[i]] = t.take (i + 1) := (List.take_succ_eq_append_getElem hit).symm
    rw [htk] at e1 H2 d2
    obtain ⟨O, hO⟩ : ∃ O, scHits nc (t.take (i + 1)) l 0 = O := ⟨_, rfl⟩
    have hOl : O.length ≤ l.length := by rw [← hO]; exact scHits_len
    rw [hO] at e1 d2
    have hsb : h₁.length ≤ h.length := HI.only.1
    have hsb1 : sb < h₁.length := hlt sb (.inl rfl)
    have A2 : AllI h₁ sb lv nv B l nc (t.take (i + 1)) tab fl ob ou (hitsTo nc t l i) b h2 := ⟨H2, HI.hit.keep o2 fun hne => by have := (HI.hit.at_ hne).2; omega, HI.only.trans o2⟩
    have hov : Sl1 h2 (intSl bo O) (intCells O) := Sl1.ints fun hne => (d2 hne).2
    have hov2 : ∀ c, slB (intSl bo O) = some c → h.length ≤ c ∧ c < h2.length := fun c hc => by
      by_cases h0 : O = []
      · rw [h0, intSl_nil] at hc; simp [slB] at hc
      · rw [intSl_ne h0] at hc
        simp [slB] at hc
        subst hc
        exact ⟨(d2 h0).1, lt_of_at (d2 h0).2⟩
    have hlen := hitsTo_len (nc := nc) (t := t) (l := l) (n := i)
    have hmul : (i + 1) * l.length ≤ t.length * l.length := Nat.mul_le_mul_right _ hit
    rw [Nat.add_mul] at hmul
    have hin := fun Q hq => in64_loop (tb := tb) (n := t.length) (i := i) (Q := Q) hlt A2 hov (fun hne hc => by
      have h5 := lt_of_at (HI.hit.at_ hne).1
      have := (hov2 _ hc).1
      omega) (by omega) (fun c hc => (hov2 c hc).2) hq
    have hwl1 : (t.take (i + 1)).length = i + 1 := by simp; omega
    rw [hwl1] at hin
    have hlO := fun L => intSl_lenA (L := L) (b := bo) (l := O)
    simp only [inEnv64, byteSl] at hin
    simp [c64_l13, c64_r13, c64_r14, c64_r15, hit, hit', aindexAddr, q1, e1, len1, hlO]
    refine hin _ fun b' h' A3 => ?_
    rw [← hO, ← hitsTo_succ] at A3
    have hnext : Ot64 h₁ sb lv nv B l nc t tab fl ob ou tb (t.length - (i + 1)) ⟨outEnv64 (hitSl b' (hitsTo nc t l (i + 1))) sb tb t.length (i + 1), h'⟩ := ⟨i + 1, b', h', rfl, hit, rfl, A3⟩
    rw [← hO, ← hitsTo_succ]
    simp only [outEnv64, byteSl] at hnext
    simp [c64_r20, hwr]
    exact ⟨t.length - (i + 1), by omega, by simpa using hnext⟩
  · have : i = t.length := by omega
    subst this
    rw [List.take_length] at HI
    have := hq b h HI
    simp only [outEnv64] at this
    simp [c64_l13, c64_r13]
    simpa using this
end
section
variable {h : Heap} {v u : AV} {l : List Txt} {nc : List Bool} {t : Txt}
theorem begs_fold_le (hg : bgood l = true) (hl : l.length ≤ 200) : (begs (l.map fold)).length ≤ 4096 := by
  have := bgood_begs (l := l.map fold) (by rw [bgood_fold]; exact hg)
  simp at this
  omega
theorem PatH.slB {h₀ h : Heap} {l : List Txt} {b : Nat} (H : PatH h₀ l b h) : ∀ c, slB (txtSl b l) = some c → c < h.length := fun c hc => by
  simp only [txtSl] at hc
  obtain ⟨rfl, hne⟩ := slB_buf hc
  exact lt_of_at (H.at_ hne).1
theorem scan_all_bad (hv : Sl1 h v (strCells l)) (hp : ∀ p ∈ l, p.length ≤ 9223372036854775800) (hl : l.length ≤ 200) (hg : bgood l = false) :
    ∃ h', D cfg 64 [v, u, .str t] h = some (.sl none 0 0, h') ∧ Only (fun _ => False) h h' := by
  have key : ∃ r h', D cfg 64 [v, u, .str t] h = some (r, h') ∧ (r = .sl none 0 0 ∧ Only (fun _ => False) h h') := by
    refine call64 (R := fun r h' => r = .sl none 0 0 ∧ Only (fun _ => False) h h') (args := [v, u, .str t]) (h := h) (by simp) ?_
    have hlen := fun L => hv.len (t := 38) (e := 9) (by simp) (L := L)
    simp only [strCells_len] at hlen
    have hf := fun Q hq => folds_loop (u := u) (t := t) (Q := Q) hv hl hp hq
    simp [c64, c64_r0, c64_r1, c64_r2, len1, hlen]
    refine hf _ fun b h1 H1 => ?_
    obtain ⟨h2, e2, o2⟩ := build_bad (bud := 4096) (Sl1.txt (s := true) fun hne => (H1.at_ hne).1) H1.slB (by simp; omega) (by rw [bgood_fold]; exact hg)
    simp [c64_r7, c64_r8, c64_r9, e2, extractV]
    exact H1.only.trans o2
  obtain ⟨r, h', h1, rfl, h2⟩ := key
  exact ⟨h', h1, h2⟩
theorem scan_all (hv : Sl1 h v (strCells l)) (hu : Sl1 h u (boolCells nc)) (hl : l.length ≤ 200) (hg : bgood l = true) (hn : nc.length ≤ 1000000000) (ht : t.length * l.length ≤ 1000000) (ht2 : t.length ≤ 1000000) :
    ∃ b h', D cfg 64 [v, u, .str t] h = some (hitSl b (hitsTo nc t l t.length), h') ∧ Only (fun _ => False) h h' ∧ ((hitsTo nc t l t.length).length ≠ 0 → h'[b]? = some (.cells (hitCells (hitsTo nc t l t.length)) 75 true)) := by
  have key : ∃ r h', D cfg 64 [v, u, .str t] h = some (r, h') ∧ (∃ b, r = hitSl b (hitsTo nc t l t.length) ∧ Only (fun _ => False) h h' ∧ ((hitsTo nc t l t.length).length ≠ 0 → h'[b]? = some (.cells (hitCells (hitsTo nc t l t.length)) 75 true))) := by
    refine call64 (R := fun r h' => ∃ b, r = hitSl b (hitsTo nc t l t.length) ∧ Only (fun _ => False) h h' ∧ ((hitsTo nc t l t.length).length ≠ 0 → h'[b]? = some (.cells (hitCells (hitsTo nc t l t.length)) 75 true))) (args := [v, u, .str t]) (h := h) (by simp) ?_
    have hlen := fun L => hv.len (t := 38) (e := 9) (by simp) (L := L)
    simp only [strCells_len] at hlen
    have hf := fun Q hq => folds_loop (u := u) (t := t) (Q := Q) hv hl (fun p hp => by have := (bgood_at hg hp).2; omega) hq
    simp [c64, c64_r0, c64_r1, c64_r2, len1, hlen]
    refine hf _ fun b h1 H1 => ?_
    have hb := begs_fold_le hg hl
    obtain ⟨B, tab, fl, ob, ou, h2, e2, o2, A, fA⟩ := build_ok (bud := 4096) (Sl1.txt (s := true) fun hne => (H1.at_ hne).1) H1.slB (by simp; omega) (by rw [bgood_fold]; exact hg) (by omega) hb
    have o02 := H1.only.trans o2
    obtain ⟨sb, lv, nv, h3, e3, X3, o3, f3, n3⟩ := scan_new A (hv.same o02) (hu.same o02) hg hl hn
    have o4 : Only (fun _ => False) h3 (h3 ++ [.cells (byteCells t) 5 true]) := .app
    have hlt : ∀ c, scFoot sb lv nv B (begs (l.map fold)).length ob ou c → c < (h3 ++ [AObj.cells (byteCells t) 5 true]).length := by
      intro c hc
      have : c < h3.length := by
        rcases hc with rfl | hc | hc | hc
        · obtain ⟨ring, _, g⟩ := X3.sc.hdr; exact lt_of_at g
        · rcases X3.l_ with ⟨rfl, _⟩ | ⟨b', o', g', c', cs', rfl, hr, _⟩
          · simp [AM.slB] at hc
          · simp [AM.slB] at hc; subst hc
            rcases Nat.lt_or_ge b' h3.length with h5 | h5
            · exact h5
            · simp [row, look_at, List.getElem?_eq_none h5] at hr
        · rcases X3.n_ with ⟨rfl, _⟩ | ⟨b', o', g', c', cs', rfl, hr, _⟩
          · simp [AM.slB] at hc
          · simp [AM.slB] at hc; subst hc
            rcases Nat.lt_or_ge b' h3.length with h5 | h5
            · exact h5
            · simp [row, look_at, List.getElem?_eq_none h5] at hr
        · exact X3.auto.at_.foot_lt hc
      simp; omega
    have hsb : h.length ≤ sb := by have := o02.1; omega
    have hsl : sb < h3.length := by obtain ⟨ring, _, g⟩ := X3.sc.hdr; exact lt_of_at g
    have hout := fun Q hq => out64_loop (tb := h3.length) (Q := Q) hlt (X3.same o4) (by simp) (by omega) ht ht2 hq
    simp only [outEnv64] at hout
    simp [c64_r7, c64_r8, c64_r10, c64_r11, c64_r12, e2, extractV, e3, aconv, len1, alen]
    refine hout _ fun b' h5 H5 => ?_
    have o05 : Only (fun _ => False) h h5 := ((o02.trans o3).trans o4).fresh H5.only fun c hc => by rw [hc]; exact hsb
    have hnt : (hitSl b' (hitsTo nc t l t.length)).notTup = true := bufSl_notTup
    simp [c64_r21, -AV.notTup, hnt]
    exact ⟨b', rfl, o05, fun hne => (H5.hit.at_ (fun e => hne (List.length_eq_zero_iff.1 e))).1⟩
  obtain ⟨r, h', h1, b, rfl, h2, h3⟩ := key
  exact ⟨b, h', h1, h2, h3⟩
end
theorem hitCells_at : ∀ {l : List (Int × Int)} {i : Nat} {p : Int × Int}, l[i]? = some p → (hitCells l)[i * 2]? = some (.int .i64 p.1) ∧ (hitCells l)[i * 2 + 1]? = some (.int .i64 p.2)
  | [], i, p, h => by simp at h
  | x :: r, 0, p, h => by simp at h; subst h; simp [hitCells]
  | x :: r, i + 1, p, h => by
    have ih := hitCells_at (l := r) (i := i) (p := p) (by simpa using h)
    have e : hitCells (x :: r) = .int .i64 x.1 :: .int .i64 x.2 :: hitCells r := rfl
    rw [e, show (i + 1) * 2 = i * 2 + 2 by omega, show i * 2 + 2 + 1 = i * 2 + 1 + 2 by omega]
    simpa using ih
section
variable {h : Heap} {b : Nat} {l : List (Int × Int)}
theorem hit_load (hb : l.length ≠ 0 → h[b]? = some (.cells (hitCells l) 75 true)) {i : Nat} {p : Int × Int} (hp : l[i]? = some p) :
    aload Try.prog (look h) 3 (.ptr (some ⟨b, i * 2, l.length * 2⟩)) = some (.int .i64 p.1) ∧ aload Try.prog (look h) 3 (.ptr (some ⟨b, i * 2 + 1, l.length * 2⟩)) = some (.int .i64 p.2) := by
  have hi := (List.getElem?_eq_some_iff.1 hp).1
  have h1 := hb (by omega)
  obtain ⟨h2, h3⟩ := hitCells_at hp
  exact ⟨cell_load h1 hitCells_len (by simp) h2, cell_load h1 hitCells_len (by simp) h3⟩
end
def hd (b : Nat) (all : List (Int × Int)) (k : Nat) : AV := if all.length = 0 then .sl none 0 0 else .sl (some ⟨b, k * 2, all.length * 2⟩) (all.length - k) (all.length - k)
theorem hd_zero {b : Nat} {all : List (Int × Int)} : hitSl b all = hd b all 0 := by
  unfold hitSl bufSl hd
  split <;> simp [hitCells_len]
theorem hd_nt {b : Nat} {all : List (Int × Int)} {k : Nat} : (hd b all k).notTup = true := by unfold hd; split <;> rfl
theorem hd_len {b : Nat} {all : List (Int × Int)} {k : Nat} {L : Look} : alen Try.prog L 71 (hd b all k) = some (.int .i64 (all.length - k : Nat)) := by
  unfold hd
  split
  · rename_i h; simp [alen, h]
  · simp [alen]
theorem hd_at {b : Nat} {all : List (Int × Int)} {k : Nat} (hk : k < all.length) : aindexAddr Try.prog 71 (hd b all k) (.int .i64 0) = some (.ptr (some ⟨b, k * 2, all.length * 2⟩)) := by
  have h0 : ¬ (all.length = 0) := by omega
  have h1 : (0 : Int) < ((all.length - k : Nat) : Int) := by omega
  unfold hd
  rw [if_neg h0]
  simp only [aindexAddr, tk_71, tsz_75]
  rw [if_pos ⟨by omega, h1, by decide⟩]
  rfl
theorem hd_next {b : Nat} {all : List (Int × Int)} {k : Nat} (hk : k < all.length) : aslice Try.prog 71 (hd b all k) (some (.int .i64 1)) none none = some (hd b all (k + 1)) := by
  have h0 : ¬ (all.length = 0) := by omega
  have h1 : (0 : Int) ≤ 1 ∧ (1 : Int) ≤ ((all.length - k : Nat) : Int) := by omega
  unfold hd
  rw [if_neg h0, if_neg h0]
  simp only [aslice, tk_71, tsz_75, bound]
  rw [if_pos h1]
  simp
  omega
abbrev env16 (v : AV) (s : Txt) (tb : Nat) (w : AV) (n hb N : Nat) : Env := [(0, v), (2, .str s), (8, .int .i64 0), (9, tPtr tb), (14, w), (15, .int .i64 n), (16, .sl (some ⟨hb, 0, N⟩) N N)]
def In16 (hA : Heap) (v : AV) (s : Txt) (tb b : Nat) (hs : Nat → List Int) (n N : Nat) (m : Nat) (σ : St) : Prop := ∃ t h, m = (hs (n + 1)).length - t ∧ t ≤ (hs (n + 1)).length ∧ σ = ⟨env16 v s tb (hd b (allTo hs s.length) ((allTo hs n).length + t)) (n + 1) hA.length N, h⟩ ∧ Only (fun _ => False) hA h ∧ h[hA.length]? = some (.cells (boolCells (endsOf N ((hs (n + 1)).take t))) 4 true)
theorem ends_loop {hA h : Heap} {v : AV} {s : Txt} {tb b n N : Nat} {hs : Nat → List Int} (hn : n < s.length) (hz : ∀ z ∈ hs (n + 1), 0 ≤ z ∧ z < N) (hb : (allTo hs s.length).length ≠ 0 → hA[b]? = some (.cells (hitCells (allTo hs s.length)) 75 true)) (ho : Only (fun _ => False) hA h)
    (hg : h[hA.length]? = some (.cells (boolCells (endsOf N [])) 4 true)) {Q : AExit → St → Prop}
    (hq : ∀ h', Only (fun _ => False) hA h' → h'[hA.length]? = some (.cells (boolCells (endsOf N (hs (n + 1)))) 4 true) → Q (.exit 4) ⟨env16 v s tb (hd b (allTo hs s.length) (allTo hs (n + 1)).length) (n + 1) hA.length N ++ [(62, .bool false)], h'⟩) (hvt : v.notTup = true) :
    Wt Try.prog (D cfg) (.loop c70_l16 (some [0, 2, 8, 9, 14, 15, 16])) ⟨env16 v s tb (hd b (allTo hs s.length) (allTo hs n).length) (n + 1) hA.length N, h⟩ Q := by
  refine Wt.loop (In16 hA v s tb b hs n N) (m := (hs (n + 1)).length) ⟨0, h, rfl, Nat.zero_le _, rfl, ho, hg⟩ ?_
  rintro m σ ⟨t, h1, rfl, ht, rfl, o1, g1⟩
  obtain ⟨all, hall⟩ : ∃ all, allTo hs s.length = all := ⟨_, rfl⟩
  obtain ⟨K, hK⟩ : ∃ K, (allTo hs n).length + t = K := ⟨_, rfl⟩
  rw [hall] at hb hq
  rw [hall, hK]
  have hcut : cut (some [0, 2, 8, 9, 14, 15, 16]) (env16 v s tb (hd b all K) (n + 1) hA.length N) = env16 v s tb (hd b all K) (n + 1) hA.length N := by simp
  simp only [hcut]
  have v1 : (hd b all K).notTup = true := hd_nt
  have v2 : (hd b all (K + 1)).notTup = true := hd_nt
  have hl := fun L => hd_len (L := L) (b := b) (all := all) (k := K)
  by_cases htl : t < (hs (n + 1)).length
  · obtain ⟨z, hz1⟩ : ∃ z, (hs (n + 1))[t]? = some z := ⟨_, List.getElem?_eq_getElem htl⟩
    have hzb := hz z (List.mem_of_getElem? hz1)
    obtain ⟨i, rfl⟩ : ∃ i : Nat, z = i := ⟨z.toNat, by omega⟩
    have hiN : i < N := by omega
    have hiN' : (i : Int) < N := by omega
    have hp := allTo_at (m := s.length) hn hz1
    rw [hall, hK] at hp
    have hKl : K < all.length := (List.getElem?_eq_some_iff.1 hp).1
    have a1 := hd_at (b := b) hKl
    have b1 := hd_next (b := b) hKl
    obtain ⟨l0, l1⟩ := hit_load (fun hne => o1.at (hb hne) id) hp
    have hlen : (boolCells (endsOf N ((hs (n + 1)).take t))).length = N := by rw [boolCells_len, endsOf_len]
    have s1 := cell_store g1 hlen (t := 4) (by simp) (v := .bool true) rfl (off := i) hiN
    rw [endsOf_set hz1 hiN] at s1
    obtain ⟨h2, hh2⟩ : ∃ h2, h1.set hA.length (.cells (boolCells (endsOf N ((hs (n + 1)).take (t + 1)))) 4 true) = h2 := ⟨_, rfl⟩
    have g2 : h2[hA.length]? = some (.cells (boolCells (endsOf N ((hs (n + 1)).take (t + 1)))) 4 true) := by rw [← hh2, List.getElem?_set_self (lt_of_at g1)]
    have o2 : Only (fun c => c = hA.length) h1 h2 := by rw [← hh2]; exact .set rfl
    have hpos : 0 < all.length - K := by omega
    have hpos' : (0 : Int) < ((all.length - K : Nat) : Int) := by omega
    have a2 : aindexAddr Try.prog 68 (.sl (some ⟨hA.length, 0, N⟩) N N) (.int .i64 i) = some (.ptr (some ⟨hA.length, i, N⟩)) := by simp [aindexAddr, hiN, hiN']
    obtain ⟨n1, hn1⟩ : ∃ n1, n + 1 = n1 := ⟨_, rfl⟩
    obtain ⟨r, hr⟩ : ∃ r, all.length - K = r := ⟨_, rfl⟩
    rw [hn1] at l1
    rw [hr] at hl hpos hpos'
    obtain ⟨w, hw⟩ : ∃ w, hd b all K = w := ⟨_, rfl⟩
    obtain ⟨w', hw'⟩ : ∃ w', hd b all (K + 1) = w' := ⟨_, rfl⟩
    rw [hw] at v1 hl a1 b1 ⊢
    rw [hw'] at v2 b1
    have hnext : In16 hA v s tb b hs n N ((hs (n + 1)).length - (t + 1)) ⟨env16 v s tb w' n1 hA.length N, h2⟩ := ⟨t + 1, h2, rfl, htl, by rw [← hw', ← hn1, ← hK, hall, Nat.add_assoc], o1.fresh o2 fun c e => by omega, g2⟩
    simp only [env16] at hnext
    rw [hn1]
    simp [-AV.notTup, hvt, v1, v2, notTup_ptr, c70_l16, c70_r16, c70_r17, c70_r18, len1, hl, hpos, hpos', a1, fieldA, l0, l1, a2, s1, hh2, b1]
    exact ⟨(hs (n + 1)).length - (t + 1), by rw [← hn1]; omega, by simpa using hnext⟩
  · have ht2 : t = (hs (n + 1)).length := by omega
    subst ht2
    rw [List.take_length] at g1
    have hKe : (allTo hs (n + 1)).length = K := by rw [← hK]; simp [allTo]
    have hfin := hq h1 o1 g1
    rw [hKe] at hfin
    simp only [env16] at hfin
    by_cases hKl : K < all.length
    · obtain ⟨p, hp⟩ : ∃ p, all[K]? = some p := ⟨_, List.getElem?_eq_getElem hKl⟩
      have hp2 := allTo_after (hs := hs) (n := n + 1) (m := s.length) hn (p := p) (by rw [hall, hKe]; exact hp)
      obtain ⟨l0, l1⟩ := hit_load (fun hne => o1.at (hb hne) id) hp
      have a1 := hd_at (b := b) hKl
      have hpos : 0 < all.length - K := by omega
      have hpos' : (0 : Int) < ((all.length - K : Nat) : Int) := by omega
      obtain ⟨n1, hn1⟩ : ∃ n1, n + 1 = n1 := ⟨_, rfl⟩
      have hne : ¬ (p.2 = (n1 : Int)) := by rw [← hn1]; omega
      obtain ⟨r, hr⟩ : ∃ r, all.length - K = r := ⟨_, rfl⟩
      rw [hr] at hl hpos hpos'
      obtain ⟨w, hw⟩ : ∃ w, hd b all K = w := ⟨_, rfl⟩
      rw [hw] at v1 hl a1 hfin ⊢
      rw [hn1] at hfin ⊢
      simp [-AV.notTup, hvt, v1, notTup_ptr, c70_l16, c70_r16, len1, hl, hpos, hpos', a1, fieldA, l1, hne]
      simpa using hfin
    · have hpos : all.length - K = 0 := by omega
      rw [hpos] at hl
      obtain ⟨n1, hn1⟩ : ∃ n1, n + 1 = n1 := ⟨_, rfl⟩
      obtain ⟨w, hw⟩ : ∃ w, hd b all K = w := ⟨_, rfl⟩
      rw [hw] at v1 hl hfin ⊢
      rw [hn1] at hfin ⊢
      have hl' : ∀ L, alen Try.prog L 71 w = some (.int .i64 0) := hl
      simp [-AV.notTup, hvt, v1, notTup_ptr, c70_l16, c70_r16, len1, hl']
      simpa using hfin
def patsOf (l : List Cont) : List Txt := l.map fun c => c.bytes
def ncOf (l : List Cont) : List Bool := l.map fun c => c.nocase
def hsOf (l : List Cont) (s : Txt) (n : Nat) : List Int := if bgood (patsOf l) then scHits (ncOf l) (s.take n) (patsOf l) 0 else []
theorem allTo_hsOf {l : List Cont} {s : Txt} : ∀ {n : Nat}, allTo (hsOf l s) n = if bgood (patsOf l) then hitsTo (ncOf l) s (patsOf l) n else []
  | 0 => by simp [allTo, hitsTo]
  | n + 1 => by
    simp only [allTo, allTo_hsOf (n := n), hsOf, hitsTo]
    split <;> rfl
theorem scHits_range {nc : List Bool} {w : Txt} : ∀ {l : List Txt} {i : Nat}, ∀ z ∈ scHits nc w l i, (i : Int) ≤ z ∧ z < i + l.length
  | [], i, z, h => by simp [scHits] at h
  | p :: r, i, z, h => by
    simp only [scHits] at h
    have ih : z ∈ scHits nc w r (i + 1) → (i : Int) ≤ z ∧ z < i + (p :: r).length := fun h => by
      have := scHits_range (i := i + 1) z h
      simp only [List.length_cons]
      omega
    split at h
    · rcases List.mem_cons.1 h with rfl | h
      · simp only [List.length_cons]; omega
      · exact ih h
    · exact ih h
structure R13 (h₀ h : Heap) (tb pa nb b : Nat) (T : TS) (fl : FL) (all : List (Int × Int)) : Prop where
  tr : TrackAt h tb pa nb T fl
  only : Only (fun _ => False) h₀ h
  fresh : ∀ c, trF tb fl c → h₀.length ≤ c
  hit : all.length ≠ 0 → h[b]? = some (.cells (hitCells all) 75 true)
abbrev env13 (v : AV) (s : Txt) (tb : Nat) (w : AV) (n : Nat) : Env := [(0, v), (2, .str s), (8, .int .i64 0), (9, tPtr tb), (14, w), (15, .int .i64 n)]
def In13 (h₀ : Heap) (v : AV) (s : Txt) (tb pa nb b : Nat) (f : Nat → TS) (hs : Nat → List Int) (m : Nat) (σ : St) : Prop := ∃ n fl h, m = s.length - n ∧ n ≤ s.length ∧ σ = ⟨env13 v s tb (hd b (allTo hs s.length) (allTo hs n).length) (n + 1), h⟩ ∧ R13 h₀ h tb pa nb b (f n) fl (allTo hs s.length) ∧ runT f s.length = runR f (n + 1) (s.length - n)
theorem run_loop {h₀ h : Heap} {v : AV} {l : List Cont} {s : Txt} {tb pa nb b : Nat} {fl : FL} {hs : Nat → List Int} {T0 : TS} {f : Nat → TS} (hf : f = stS T0 hs l.length) (hv : SlC h₀ v l) (hll : l.length ≤ 100) (hsl : s.length ≤ 1000) (hz : ∀ n, ∀ z ∈ hs n, 0 ≤ z ∧ z < l.length) (hok : T0.ok) (hat : T0.at_ = 0) (hpl : T0.parts.length + T0.nots.length ≤ 1000) (h0 : T0.holds = false)
    (H : R13 h₀ h tb pa nb b T0 fl (allTo hs s.length)) {Q : AExit → St → Prop}
    (hret : ∀ h' (a c : Int) (k : Bool), (a, k, c) = runT f s.length → Only (fun _ => False) h₀ h' → Q .ret ⟨[(6, .int .i64 a), (7, .bool k), (8, .int .i64 c)], h'⟩)
    (hq : ∀ h' n w, (0, false, 0) = runT f s.length → Only (fun _ => False) h₀ h' → w.notTup = true → Q (.exit 2) ⟨env13 v s tb w n ++ [(46, .bool false)], h'⟩) :
    Wt Try.prog (D cfg) (.loop c70_l13 (some [0, 2, 8, 9, 14, 15])) ⟨env13 v s tb (hd b (allTo hs s.length) 0) 1, h⟩ Q := by
  have hvt : v.notTup = true := by rcases hv with ⟨rfl, _⟩ | ⟨_, _, _, _, rfl, _, _⟩ <;> rfl
  have hlen := fun L => hv.len (L := L)
  refine Wt.loop (In13 h₀ v s tb pa nb b f hs) (m := s.length) ⟨0, fl, h, rfl, Nat.zero_le _, rfl, ?_, ?_⟩ ?_
  · rw [hf]; exact H
  · have : (f 0).holds = false := by rw [hf]; exact h0
    simp only [runT, this]; rfl
  rintro m σ ⟨n, fl1, h1, rfl, hn, rfl, R, hrun⟩
  have hcut : cut (some [0, 2, 8, 9, 14, 15]) (env13 v s tb (hd b (allTo hs s.length) (allTo hs n).length) (n + 1)) = env13 v s tb (hd b (allTo hs s.length) (allTo hs n).length) (n + 1) := by simp
  simp only [hcut]
  have v1 : (hd b (allTo hs s.length) (allTo hs n).length).notTup = true := hd_nt
  by_cases hns : n < s.length
  · have hle : ((n + 1 : Nat) : Int) ≤ s.length := by omega
    have hle' : (n : Int) + 1 ≤ s.length := by omega
    have hle2 : n + 1 ≤ s.length := hns
    obtain ⟨h2, hh2⟩ : ∃ h2, h1 ++ [AObj.cells (zeros [.bool false] l.length) 4 true] = h2 := ⟨_, rfl⟩
    have o12 : Only (fun _ => False) h1 h2 := by rw [← hh2]; exact .app
    have g2 : h2[h1.length]? = some (.cells (boolCells (endsOf l.length [])) 4 true) := by
      rw [← hh2]
      simp only [List.getElem?_concat_length]
      rw [fillC_zero (f := fun _ => .bool false), fillC]
      congr 2
      simp [boolCells, endsOf]
    have hb1 : (l.length : Int) ≤ 281474976710656 := by omega
    have hb2 : (l.length : Int) ≤ 9223372036854775807 := by omega
    have hloop := fun Q hq => ends_loop (Q := Q) (v := v) (tb := tb) (b := b) (N := l.length) hns (hz (n + 1)) R.hit o12 g2 hq hvt
    simp only [env16] at hloop
    obtain ⟨w, hw⟩ : ∃ w, hd b (allTo hs s.length) (allTo hs n).length = w := ⟨_, rfl⟩
    obtain ⟨n1, hn1⟩ : ∃ n1, n + 1 = n1 := ⟨_, rfl⟩
    rw [hw] at v1
    rw [hw, hn1] at hloop
    rw [hw]
    simp only [hn1] at hle hle2 ⊢
    simp [-AV.notTup, hvt, v1, notTup_ptr, c70_l13, c70_r13, c70_r15, len1, alen9, hle, hle2, hlen, amakeSlice, hb1, hb2, hh2]
    refine hloop _ fun h3 o3 g3 => ?_
    have hT1 : f n1 = stepT (f n) (endsOf l.length (hs n1)) := by rw [← hn1, hf]; rfl
    have hfl : (f n).ok := by rw [hf]; exact stS_ok hok
    have hfn := stS_len (T0 := T0) (hs := hs) (N := l.length) (n := n)
    rw [← hf] at hfn
    have R3 := R.tr.same o3
    have hbv := Sl1.cells g3
    rw [boolCells_len, endsOf_len] at hbv
    obtain ⟨fl4, h4, e4, T4, o4, s4⟩ := step_ok (ends := endsOf l.length (hs n1)) R3 hbv (fun c hc => by
      simp only [slB] at hc
      cases hc
      rintro (e | e)
      · rw [e, R3.hdr] at g3; injection g3 with h5; injection h5 with _ _ h5; exact absurd h5 (by simp)
      · exact R3.ps.not g3 (.inl rfl) e) hfl (by omega) (by omega)
    rw [← hT1] at e4 T4
    have hp4 : (f n1).parts.length ≤ 1000000 := by
      have := stS_len (T0 := T0) (hs := hs) (N := l.length) (n := n1)
      rw [← hf] at this
      omega
    have e5 := holds_run T4 hp4
    have o04 : Only (fun _ => False) h₀ h4 := (R.only.trans o3).fresh o4 fun c hc => R.fresh c hc
    have hrun2 : runT f s.length = if (f n1).holds then ((n1 : Int), true, if (f n1).over then (n1 : Int) else 0) else if (f n1).over then (0, false, (n1 : Int)) else runR f (n1 + 1) (s.length - n1) := by
      rw [hrun, hn1, show s.length - n = (s.length - n1) + 1 by omega]; rfl
    obtain ⟨w3, hw3⟩ : ∃ w3, hd b (allTo hs s.length) (allTo hs (n + 1)).length = w3 := ⟨_, rfl⟩
    have v3 : w3.notTup = true := by rw [← hw3]; exact hd_nt
    rw [← hn1, hw3, hn1]
    cases hov : (f n1).over with
    | true =>
      rw [hov] at e4 hrun2
      cases hho : (f n1).holds with
      | true =>
        rw [hho] at e5 hrun2
        have := hret h4 n1 n1 true (by rw [hrun2]; rfl) o04
        simp [-AV.notTup, hvt, v3, notTup_ptr, c70_r19, c70_r20, c70_r21, c70_r22, e4, e5]
        simpa using this
      | false =>
        rw [hho] at e5 hrun2
        have := hret h4 0 n1 false (by rw [hrun2]; rfl) o04
        have hpos : 0 < n1 := by omega
        have hpos' : (0 : Int) < n1 := by omega
        simp [-AV.notTup, hvt, v3, notTup_ptr, c70_r19, c70_r20, c70_r21, c70_r23, c70_r24, e4, e5, hpos, hpos']
        simpa using this
    | false =>
      rw [hov] at e4 hrun2
      cases hho : (f n1).holds with
      | true =>
        rw [hho] at e5 hrun2
        have := hret h4 n1 0 true (by rw [hrun2]; rfl) o04
        simp [-AV.notTup, hvt, v3, notTup_ptr, c70_r19, c70_r20, c70_r21, c70_r22, e4, e5]
        simpa using this
      | false =>
        rw [hho] at e5 hrun2
        have hwr : IntKind.wrap .i64 ((n1 : Int) + 1) = n1 + 1 := wrap_i64 (by omega) (by omega)
        have hl3 := o3.1
        have hnext : In13 h₀ v s tb pa nb b f hs (s.length - n1) ⟨env13 v s tb w3 (n1 + 1), h4⟩ := by
          refine ⟨n1, fl4, h4, rfl, by omega, by rw [← hw3, hn1], ⟨T4, o04, ?_, fun hne => ?_⟩, by rw [hrun2]; rfl⟩
          · rintro c (e | e)
            · exact R.fresh c (.inl e)
            · rcases s4 c e with h6 | h6
              · exact R.fresh c (.inr h6)
              · have := R.only.1; omega
          · have h5 := o3.at (R.hit hne) id
            refine o4.at h5 ?_
            rintro (e | e)
            · rw [e, R3.hdr] at h5; injection h5 with h5; injection h5 with _ _ h5; exact absurd h5 (by simp)
            · exact R3.ps.not h5 (.inl rfl) e
        simp only [env13] at hnext
        simp [-AV.notTup, hvt, v3, notTup_ptr, c70_r14, c70_r19, c70_r20, c70_r21, c70_r23, e4, e5, hwr]
        exact ⟨s.length - n1, by omega, by simpa using hnext⟩
  · have hns2 : n = s.length := by omega
    subst hns2
    have := hq h1 (s.length + 1) (hd b (allTo hs s.length) (allTo hs s.length).length) (by rw [hrun]; simp [runR]) R.only hd_nt
    simp only [env13] at this
    have hnl : ¬ ((s.length : Int) + 1 ≤ s.length) := by omega
    obtain ⟨w, hw⟩ : ∃ w, hd b (allTo hs s.length) (allTo hs s.length).length = w := ⟨_, rfl⟩
    rw [hw] at v1 this ⊢
    simp [-AV.notTup, hvt, v1, notTup_ptr, c70_l13, c70_r13, len1, alen9, hnl]
    simpa using this
structure R7 (h₀ h : Heap) (tb pa nb : Nat) (T : TS) (fl : FL) (b1 b2 : Nat) (ps : List Txt) (ns : List Bool) : Prop where
  tr : TrackAt h tb pa nb T fl
  only : Only (fun _ => False) h₀ h
  fresh : ∀ c, trF tb fl c → h₀.length ≤ c
  p1 : ps.length ≠ 0 → h[b1]? = some (.cells (strCells ps) 9 true) ∧ h₀.length ≤ b1
  p2 : ns.length ≠ 0 → h[b2]? = some (.cells (boolCells ns) 4 true) ∧ h₀.length ≤ b2
abbrev env70 (v : AV) (s : Txt) (tb : Nat) (w1 w2 : AV) (N i : Nat) : Env := [(0, v), (2, .str s), (8, .int .i64 0), (9, tPtr tb), (10, w1), (11, w2), (22, v), (23, .int .i64 N), (24, .int .i64 i)]
def In70 (h₀ : Heap) (v : AV) (s : Txt) (tb pa nb : Nat) (T : TS) (fl : FL) (l : List Cont) (m : Nat) (σ : St) : Prop := ∃ i b1 b2 h, m = l.length - i ∧ i ≤ l.length ∧ σ = ⟨env70 v s tb (txtSl b1 (patsOf (l.take i))) (boolSl b2 (ncOf (l.take i))) l.length i, h⟩ ∧ R7 h₀ h tb pa nb T fl b1 b2 (patsOf (l.take i)) (ncOf (l.take i))
theorem append_buf3 {t e k : Nat} (ht : tk Try.prog t = .slice e) (hk : tsz Try.prog e = k) (hk0 : 0 < k) (hz : zeroOK Try.prog e = true) (hby : Try.prog.bytesOf e ≤ 100) {h : Heap} {b n : Nat} {xs ys : List AV} (hys : ys.length = k) (hxs : xs.length = n * k)
    (hb : n ≠ 0 → h[b]? = some (.cells xs e true)) (hn : n ≤ 1000000) :
    ∃ δ h', append2 Try.prog (look (h ++ [AObj.cells ys e true])) (h.length + 1) t t [bufSl b n xs, .sl (some ⟨h.length, 0, k⟩) 1 1] = some (bufSl (if n = 0 then h.length + 1 else b) (n + 1) (xs ++ ys), δ) ∧ Heap.apply (h ++ [AObj.cells ys e true]) δ = h' ∧
      h'[if n = 0 then h.length + 1 else b]? = some (.cells (xs ++ ys) e true) ∧ Only (fun c => c = b ∧ n ≠ 0) h h' ∧ ((n = 0 ∧ ∃ o, δ = .new o) ∨ (n ≠ 0 ∧ ∃ o, δ = .set b o)) := by
  have hsrc : srcCells Try.prog (look (h ++ [AObj.cells ys e true])) e (.sl (some ⟨h.length, 0, k⟩) 1 1) = some (1, ys) := by
    simp [srcCells, slCells, row, hk, hys]
    exact List.take_of_length_le (by omega)
  have hroom : ∀ m, m ≤ 1000001 → m * Try.prog.bytesOf e ≤ roomMax := fun m hm => by
    have := Nat.mul_le_mul hm hby
    simp only [roomMax]
    omega
  by_cases hn0 : n = 0
  · subst hn0
    have hxs0 : xs = [] := List.length_eq_zero_iff.1 (by simpa using hxs)
    subst hxs0
    refine ⟨.new (.cells ys e true), h ++ [AObj.cells ys e true] ++ [AObj.cells ys e true], ?_, rfl, ?_, ?_, .inl ⟨rfl, _, rfl⟩⟩
    · have h1 := hroom 1 (by omega)
      simp only [append2, aappend, ht, hk, hsrc, hk0, if_true, bufSl, aappendE]
      simp at h1
      simp [h1, hz]
    · simp
    · rw [List.append_assoc]; exact .app
  · have hb1 := hb hn0
    have hlt := lt_of_at hb1
    have hb2 : (h ++ [AObj.cells ys e true])[b]? = some (.cells xs e true) := by rw [List.getElem?_append_left hlt]; exact hb1
    rw [if_neg hn0]
    refine ⟨.set b (.cells (xs ++ ys) e true), (h ++ [AObj.cells ys e true]).set b (.cells (xs ++ ys) e true), ?_, rfl, ?_, ?_, .inr ⟨hn0, _, rfl⟩⟩
    · have h1 := hroom (n + 1) (by omega)
      have h2 : ¬ (n + 1 ≤ n) := by omega
      have h3 : n + 1 ≤ 9223372036854775807 := by omega
      have h4 : xs.take (n * k) = xs := List.take_of_length_le (by omega)
      simp only [append2, aappend, ht, hk, hsrc, hk0, if_true, bufSl, hn0, if_false, aappendE, look_at, hb2]
      simp [h1, hz, h2, h3, hxs, h4]
    · rw [List.getElem?_set_self (by simp; omega)]
    · exact Only.app.trans (.set ⟨rfl, hn0⟩)
theorem boolSl_nt {b : Nat} {l : List Bool} : (boolSl b l).notTup = true := bufSl_notTup
theorem txtSl_nt {b : Nat} {l : List Txt} : (txtSl b l).notTup = true := bufSl_notTup
theorem collect_loop {h₀ h : Heap} {v : AV} {l : List Cont} {s : Txt} {tb pa nb : Nat} {fl : FL} {T : TS} (hv : SlC h₀ v l) (hll : l.length ≤ 100) (H : R7 h₀ h tb pa nb T fl 0 0 [] []) {Q : AExit → St → Prop}
    (hq : ∀ h' b1 b2, R7 h₀ h' tb pa nb T fl b1 b2 (patsOf l) (ncOf l) → Q (.exit 0) ⟨env70 v s tb (txtSl b1 (patsOf l)) (boolSl b2 (ncOf l)) l.length l.length ++ [(25, .bool false)], h'⟩) :
    Wt Try.prog (D cfg) (.loop c70_l7 (some [0, 2, 8, 9, 10, 11, 22, 23, 24])) ⟨env70 v s tb (.sl none 0 0) (.sl none 0 0) l.length 0, h⟩ Q := by
  have hvt : v.notTup = true := by rcases hv with ⟨rfl, _⟩ | ⟨_, _, _, _, rfl, _, _⟩ <;> rfl
  refine Wt.loop (In70 h₀ v s tb pa nb T fl l) (m := l.length) ⟨0, 0, 0, h, rfl, Nat.zero_le _, rfl, H⟩ ?_
  rintro m σ ⟨i, b1, b2, h1, rfl, hi, rfl, R⟩
  have hcut : cut (some [0, 2, 8, 9, 10, 11, 22, 23, 24]) (env70 v s tb (txtSl b1 (patsOf (l.take i))) (boolSl b2 (ncOf (l.take i))) l.length i) = env70 v s tb (txtSl b1 (patsOf (l.take i))) (boolSl b2 (ncOf (l.take i))) l.length i := by simp
  simp only [hcut]
  by_cases hil : i < l.length
  · have hil' : (i : Int) < l.length := by omega
    have hwr : IntKind.wrap .i64 ((i : Int) + 1) = i + 1 := wrap_i64 (by omega) (by omega)
    obtain ⟨c, hc⟩ : ∃ c, c = l[i] := ⟨_, rfl⟩
    have a1 := hv.at hil
    have l1 := (hv.same R.only).load hil
    rw [← hc] at l1
    have htk : l.take (i + 1) = l.take i ++ [c] := by rw [List.take_succ_eq_append_getElem hil, hc]
    have hp' : patsOf (l.take (i + 1)) = patsOf (l.take i) ++ [c.bytes] := by rw [htk]; simp [patsOf]
    have hn' : ncOf (l.take (i + 1)) = ncOf (l.take i) ++ [c.nocase] := by rw [htk]; simp [ncOf]
    have hpl : (patsOf (l.take i)).length = i := by simp [patsOf]; omega
    have hnl : (ncOf (l.take i)).length = i := by simp [ncOf]; omega
    obtain ⟨h2, hh2⟩ : ∃ h2, h1 ++ [.cells (contCell c) 52 false] = h2 := ⟨_, rfl⟩
    have o2 : Only (fun _ => False) h1 h2 := by rw [← hh2]; exact .app
    have bx2 : h2[h1.length]? = some (.cells (contCell c) 52 false) := by rw [← hh2]; simp
    obtain ⟨c0, _⟩ := contLoads bx2
    obtain ⟨δ, h3, e1, e2, d3, o3, hδ⟩ := append_buf3 (t := 38) (e := 9) (k := 1) (by simp) (by simp) (by decide) (by simp) (by simp) (h := h2) (b := b1) (n := (patsOf (l.take i)).length) (xs := strCells (patsOf (l.take i))) (ys := [.str c.bytes]) (by simp) (by simp [strCells]) (fun hne => o2.at (R.p1 hne).1 id) (by omega)
    have hsc : strCells (patsOf (l.take i)) ++ [AV.str c.bytes] = strCells (patsOf (l.take (i + 1))) := by rw [hp']; simp [strCells]
    have hpl' : (patsOf (l.take i)).length + 1 = (patsOf (l.take (i + 1))).length := by rw [hp']; simp
    rw [hsc, hpl'] at e1
    rw [hsc] at d3
    have hne1 : (patsOf (l.take i)).length ≠ 0 → b1 ≠ h1.length := fun hne e => by have := lt_of_at (R.p1 hne).1; omega
    have bx3 := o3.at bx2 fun e => hne1 e.2 e.1.symm
    obtain ⟨_, c1, _⟩ := contLoads bx3
    obtain ⟨w1, hw1⟩ : ∃ w1, (if (patsOf (l.take i)).length = 0 then h2.length + 1 else b1) = w1 := ⟨_, rfl⟩
    rw [hw1] at e1 d3
    have hl2 : h2.length = h1.length + 1 := by rw [← hh2]; simp
    have hw1c : w1 = b1 ∧ (patsOf (l.take i)).length ≠ 0 ∨ w1 = h2.length + 1 := by
      rw [← hw1]
      by_cases h0 : (patsOf (l.take i)).length = 0
      · exact .inr (by rw [if_pos h0])
      · exact .inl ⟨by rw [if_neg h0], h0⟩
    have hb12 : (ncOf (l.take i)).length ≠ 0 → ¬ (b2 = b1 ∧ (patsOf (l.take i)).length ≠ 0) := fun hne e => by
      have h5 := (R.p1 e.2).1
      have h6 := (R.p2 hne).1
      rw [e.1, h5] at h6
      injection h6 with h6; injection h6 with _ h6 _; exact absurd h6 (by decide)
    have p23 : (ncOf (l.take i)).length ≠ 0 → h3[b2]? = some (.cells (boolCells (ncOf (l.take i))) 4 true) := fun hne => o3.at (o2.at (R.p2 hne).1 id) (hb12 hne)
    obtain ⟨δ2, h4, f1, f2, d4, o4⟩ := append_buf (t := 68) (e := 4) (k := 1) (by simp) (by simp) (by decide) (by simp) (by simp) (h := h3) (b := b2) (n := (ncOf (l.take i)).length) (xs := boolCells (ncOf (l.take i))) (ys := [.bool c.nocase]) (by simp) (by simp [boolCells_len]) p23 (by omega)
    have hbc : boolCells (ncOf (l.take i)) ++ [AV.bool c.nocase] = boolCells (ncOf (l.take (i + 1))) := by rw [hn']; simp [boolCells]
    obtain ⟨w2, hw2⟩ : ∃ w2, (if (ncOf (l.take i)).length = 0 then h3.length + 1 else b2) = w2 := ⟨_, rfl⟩
    have hnl' : (ncOf (l.take i)).length + 1 = (ncOf (l.take (i + 1))).length := by rw [hn']; simp
    rw [hw2, hbc, hnl'] at f1
    rw [hw2, hbc] at d4
    have hw2c : w2 = b2 ∧ (ncOf (l.take i)).length ≠ 0 ∨ w2 = h3.length + 1 := by
      rw [← hw2]
      by_cases h0 : (ncOf (l.take i)).length = 0
      · exact .inr (by rw [if_pos h0])
      · exact .inl ⟨by rw [if_neg h0], h0⟩
    have o04 : Only (fun _ => False) h₀ h4 := ((R.only.trans o2).fresh o3 fun x hx => by rw [hx.1]; exact (R.p1 hx.2).2).fresh o4 fun x hx => by rw [hx.1]; exact (R.p2 hx.2).2
    have l01 := R.only.1
    have l23 := o3.1
    have T2 := R.tr.same o2
    have hTno : ∀ {h' : Heap} {T : TS} {fl : FL} {x : Nat} {cs : List AV} {t : TypeId}, TrackAt h' tb pa nb T fl → h'[x]? = some (.cells cs t true) → (t = 9 ∨ t = 4) → tb ≠ x ∧ (fl.length ≠ 0 → pa ≠ x) ∧ (T.nots.length ≠ 0 → nb ≠ x) ∧ ∀ c, flF fl c → c ≠ x := by
      intro h' T fl x cs t HT hx ht
      refine ⟨fun e => ?_, fun hne e => ?_, fun hne e => ?_, fun c hc e => HT.ps.not hx (.inl rfl) (e ▸ hc)⟩
      · have := HT.hdr; rw [e, hx] at this; injection this with this; injection this with _ _ this; exact absurd this (by simp)
      · have := HT.pv hne; rw [e, hx] at this; injection this with this; injection this with _ this _; rcases ht with ht | ht <;> rw [ht] at this <;> exact absurd this (by decide)
      · have := HT.nv hne; rw [e, hx] at this; injection this with this; injection this with _ this _; rcases ht with ht | ht <;> rw [ht] at this <;> exact absurd this (by decide)
    have T3 : TrackAt h3 tb pa nb T fl := by
      by_cases hne : (patsOf (l.take i)).length = 0
      · exact T2.keep o3 (fun e => e.2 hne) (fun _ e => e.2 hne) (fun _ e => e.2 hne) fun c _ e => e.2 hne
      · obtain ⟨x1, x2, x3, x4⟩ := hTno T2 (o2.at (R.p1 hne).1 id) (.inl rfl)
        exact T2.keep o3 (fun e => x1 e.1) (fun h e => x2 h e.1) (fun h e => x3 h e.1) fun c hc e => x4 c hc e.1
    have T4 : TrackAt h4 tb pa nb T fl := by
      by_cases hne : (ncOf (l.take i)).length = 0
      · exact T3.keep o4 (fun e => e.2 hne) (fun _ e => e.2 hne) (fun _ e => e.2 hne) fun c _ e => e.2 hne
      · obtain ⟨x1, x2, x3, x4⟩ := hTno T3 (p23 hne) (.inr rfl)
        exact T3.keep o4 (fun e => x1 e.1) (fun h e => x2 h e.1) (fun h e => x3 h e.1) fun c hc e => x4 c hc e.1
    have hd3l := lt_of_at d3
    have hw12 : ¬ (w1 = b2 ∧ (ncOf (l.take i)).length ≠ 0) := fun e => by
      have h6 := p23 e.2
      rw [← e.1, d3] at h6
      injection h6 with h6; injection h6 with _ h6 _; exact absurd h6 (by decide)
    have hnext : In70 h₀ v s tb pa nb T fl l (l.length - (i + 1)) ⟨env70 v s tb (txtSl w1 (patsOf (l.take (i + 1)))) (boolSl w2 (ncOf (l.take (i + 1)))) l.length (i + 1), h4⟩ := by
      refine ⟨i + 1, w1, w2, h4, rfl, hil, rfl, ⟨T4, o04, R.fresh, fun _ => ⟨o4.at d3 hw12, ?_⟩, fun _ => ⟨d4, ?_⟩⟩⟩
      · rcases hw1c with ⟨e, hne⟩ | e
        · rw [e]; exact (R.p1 hne).2
        · omega
      · rcases hw2c with ⟨e, hne⟩ | e
        · rw [e]; exact (R.p2 hne).2
        · omega
    have h9 : (h1.length != h2.length) = true := by simp [hl2]
    replace e1 : append2 Try.prog (look (h2 ++ [AObj.cells [.str c.bytes] 9 true])) (h2.length + 1) 38 38 [txtSl b1 (patsOf (l.take i)), .sl (some ⟨h2.length, 0, 1⟩) 1 1] = some (txtSl w1 (patsOf (l.take (i + 1))), δ) := e1
    have n1 : (txtSl b1 (patsOf (l.take i))).notTup = true := txtSl_nt
    have n2 : (boolSl b2 (ncOf (l.take i))).notTup = true := boolSl_nt
    have n3 : (txtSl w1 (patsOf (l.take (i + 1)))).notTup = true := txtSl_nt
    have n4 : (boolSl w2 (ncOf (l.take (i + 1)))).notTup = true := boolSl_nt
    have f1' : append2 Try.prog (look (h3 ++ [AObj.cells [.bool c.nocase] 4 true])) (h3.length + 1) 68 68 [boolSl b2 (ncOf (l.take i)), .sl (some ⟨h3.length, 0, 1⟩) 1 1] = some (boolSl w2 (ncOf (l.take (i + 1))), δ2) := f1
    obtain ⟨x1, hx1⟩ : ∃ x, txtSl b1 (patsOf (l.take i)) = x := ⟨_, rfl⟩
    obtain ⟨x2, hx2⟩ : ∃ x, boolSl b2 (ncOf (l.take i)) = x := ⟨_, rfl⟩
    obtain ⟨x3, hx3⟩ : ∃ x, txtSl w1 (patsOf (l.take (i + 1))) = x := ⟨_, rfl⟩
    obtain ⟨x4, hx4⟩ : ∃ x, boolSl w2 (ncOf (l.take (i + 1))) = x := ⟨_, rfl⟩
    rw [hx3, hx4] at hnext
    rw [hx1] at e1 n1 ⊢
    rw [hx2] at f1' n2 ⊢
    rw [hx3] at e1 n3
    rw [hx4] at f1' n4
    simp only [contCell, Cont.av] at l1 hh2
    simp only [env70] at hnext
    rcases hδ with ⟨_, o, rfl⟩ | ⟨hne, o, rfl⟩
    · have h8 : (h1.length != h2.length + 1) = true := by simp; omega
      simp [-AV.notTup, hvt, n1, n2, n3, n4, notTup_ptr, c70_l7, c70_r7, c70_r8, c70_r9, c70_r10, hil, hil', a1, l1, zeros, store_box, splice, hh2, fieldA, c0, abuildSlice, afill, e1, e2, c1, h8, h9, f1', f2, hwr]
      exact ⟨l.length - (i + 1), by omega, by simpa using hnext⟩
    · have := hne1 hne
      have h8 : (h1.length != b1) = true := by simp; omega
      simp [-AV.notTup, hvt, n1, n2, n3, n4, notTup_ptr, c70_l7, c70_r7, c70_r8, c70_r9, c70_r10, hil, hil', a1, l1, zeros, store_box, splice, hh2, fieldA, c0, abuildSlice, afill, e1, e2, c1, h8, h9, f1', f2, hwr]
      exact ⟨l.length - (i + 1), by omega, by simpa using hnext⟩
  · have hi2 : i = l.length := by omega
    subst hi2
    rw [List.take_length] at R ⊢
    have := hq h1 b1 b2 R
    have n1 : (txtSl b1 (patsOf l)).notTup = true := txtSl_nt
    have n2 : (boolSl b2 (ncOf l)).notTup = true := boolSl_nt
    obtain ⟨x1, hx1⟩ : ∃ x, txtSl b1 (patsOf l) = x := ⟨_, rfl⟩
    obtain ⟨x2, hx2⟩ : ∃ x, boolSl b2 (ncOf l) = x := ⟨_, rfl⟩
    rw [hx1] at n1 this ⊢
    rw [hx2] at n2 this ⊢
    simp only [env70] at this
    simp [-AV.notTup, hvt, n1, n2, notTup_ptr, c70_l7, c70_r7]
    simpa using this
def runOf (l : List Cont) (most : Nat) (s : Txt) : Int × Bool × Int := runT (stS (newTo l most l.length) (hsOf l s) l.length) s.length
theorem run_track {h : Heap} {v : AV} {l : List Cont} {s : Txt} {m : Int} {most : Nat} (hv : SlC h v l) (hsm : ∀ c ∈ l, c.small) (hll : l.length ≤ 100) (hsl : s.length ≤ 1000) (hm : (most : Int) = max 1 (min m 32)) :
    ∃ h', D cfg 70 [v, .int .i64 m, .str s] h = some (.tup [.int .i64 (runOf l most s).1, .bool (runOf l most s).2.1, .int .i64 (runOf l most s).2.2], h') ∧ Only (fun _ => False) h h' := by
  have key : ∃ r h', D cfg 70 [v, .int .i64 m, .str s] h = some (r, h') ∧ (r = .tup [.int .i64 (runOf l most s).1, .bool (runOf l most s).2.1, .int .i64 (runOf l most s).2.2] ∧ Only (fun _ => False) h h') := by
    refine call70 (R := fun r h' => r = .tup [.int .i64 (runOf l most s).1, .bool (runOf l most s).2.1, .int .i64 (runOf l most s).2.2] ∧ Only (fun _ => False) h h') (args := [v, .int .i64 m, .str s]) (h := h) (by simp) ?_
    have hvt : v.notTup = true := by rcases hv with ⟨rfl, _⟩ | ⟨_, _, _, _, rfl, _, _⟩ <;> rfl
    obtain ⟨tb, pa, nb, fl, h1, e1, T1, o1, f1⟩ := new_run hv hsm (by omega) hm
    have hok : (newTo l most l.length).ok := newTo_ok hsm
    have hln := newTo_len (l := l) (most := most) (k := l.length)
    obtain ⟨_, hat, _⟩ := newTo_most (l := l) (most := most) (k := l.length)
    have e2 := holds_run T1 (by omega)
    have hlen := fun L => hv.len (L := L)
    obtain ⟨T, hT⟩ : ∃ T, newTo l most l.length = T := ⟨_, rfl⟩
    have hrun : runOf l most s = runT (stS T (hsOf l s) l.length) s.length := by rw [runOf, hT]
    rw [hT] at T1 hok hln hat e2
    cases hho : T.holds with
    | true =>
      rw [hho] at e2
      have hr : runOf l most s = (0, true, 0) := by
        rw [hrun]
        simp only [runT]
        rw [if_pos (show (stS T (hsOf l s) l.length 0).holds = true from hho)]
      rw [hr]
      simp [-AV.notTup, hvt, notTup_ptr, c70, c70_r0, c70_r1, c70_r2, c70_r3, e1, e2]
      simp [AV.notTup]
      exact o1
    | false =>
      rw [hho] at e2
      have R0 : R7 h h1 tb pa nb T fl 0 0 [] [] := ⟨T1, o1, f1, fun e => absurd rfl e, fun e => absurd rfl e⟩
      have hcol := fun Q hq => collect_loop (s := s) (Q := Q) hv hll R0 hq
      simp only [env70] at hcol
      simp [-AV.notTup, hvt, notTup_ptr, c70, c70_r0, c70_r1, c70_r2, c70_r4, c70_r5, c70_r6, e1, e2, len1, hlen]
      refine hcol _ fun h2 b1 b2 R => ?_
      have hpl : (patsOf l).length = l.length := by simp [patsOf]
      have hnl : (ncOf l).length = l.length := by simp [ncOf]
      have hsx : Sl1 h2 (txtSl b1 (patsOf l)) (strCells (patsOf l)) := Sl1.txt (s := true) fun hne => (R.p1 hne).1
      have hbx : Sl1 h2 (boolSl b2 (ncOf l)) (boolCells (ncOf l)) := by
        have := Sl1.buf (h := h2) (b := b2) (e := 4) (s := true) (xs := boolCells (ncOf l)) (fun hne => (R.p2 (by rwa [boolCells_len] at hne)).1)
        rwa [boolCells_len] at this
      have hscan : ∃ b h3, D cfg 64 [txtSl b1 (patsOf l), boolSl b2 (ncOf l), .str s] h2 = some (hd b (allTo (hsOf l s) s.length) 0, h3) ∧ Only (fun _ => False) h2 h3 ∧ ((allTo (hsOf l s) s.length).length ≠ 0 → h3[b]? = some (.cells (hitCells (allTo (hsOf l s) s.length)) 75 true)) := by
        rw [allTo_hsOf]
        cases hg : bgood (patsOf l) with
        | true =>
          obtain ⟨b, h3, e3, o3, d3⟩ := scan_all (t := s) hsx hbx (by omega) hg (by omega) (by rw [hpl]; exact Nat.le_trans (Nat.mul_le_mul hsl hll) (by decide)) (by omega)
          rw [hd_zero] at e3
          exact ⟨b, h3, e3, o3, d3⟩
        | false =>
          obtain ⟨h3, e3, o3⟩ := scan_all_bad (u := boolSl b2 (ncOf l)) (t := s) hsx (fun p hp => by
            simp only [patsOf, List.mem_map] at hp
            obtain ⟨c, hc, rfl⟩ := hp
            have := (hsm c hc).b
            omega) (by omega) hg
          exact ⟨0, h3, e3, o3, fun e => absurd rfl e⟩
      obtain ⟨b, h3, e3, o3, d3⟩ := hscan
      have hz : ∀ n, ∀ z ∈ hsOf l s n, 0 ≤ z ∧ z < l.length := by
        intro n z hz
        simp only [hsOf] at hz
        split at hz
        · have := scHits_range z hz
          rw [hpl] at this
          omega
        · simp at hz
      have n1 : (txtSl b1 (patsOf l)).notTup = true := txtSl_nt
      have n2 : (boolSl b2 (ncOf l)).notTup = true := boolSl_nt
      have n3 : (hd b (allTo (hsOf l s) s.length) 0).notTup = true := hd_nt
      have RR : R13 h h3 tb pa nb b T fl (allTo (hsOf l s) s.length) := ⟨R.tr.same o3, R.only.trans o3, R.fresh, d3⟩
      have hlp := fun Q hret hq => run_loop (Q := Q) (f := stS T (hsOf l s) l.length) rfl hv hll hsl hz hok hat (by omega) hho RR hret hq
      rw [← hrun] at hlp
      simp only [env13] at hlp
      obtain ⟨x1, hx1⟩ : ∃ x, txtSl b1 (patsOf l) = x := ⟨_, rfl⟩
      obtain ⟨x2, hx2⟩ : ∃ x, boolSl b2 (ncOf l) = x := ⟨_, rfl⟩
      obtain ⟨x3, hx3⟩ : ∃ x, hd b (allTo (hsOf l s) s.length) 0 = x := ⟨_, rfl⟩
      rw [hx1] at n1 e3 ⊢
      rw [hx2] at n2 e3 ⊢
      rw [hx3] at n3 e3 hlp
      simp [-AV.notTup, hvt, n1, n2, n3, notTup_ptr, c70_r11, c70_r12, e3]
      refine hlp _ (fun h' a c k hr ho => ?_) fun h' n w hr ho hw => ?_
      · rw [← hr]
        simp [AV.notTup]
        exact ho
      · rw [← hr]
        simp [-AV.notTup, hvt, hw, notTup_ptr, c70_r25]
        simp [AV.notTup]
        exact ho
  obtain ⟨r, h', h1, rfl, h2⟩ := key
  exact ⟨h', h1, h2⟩


abbrev contSl (b : Nat) (zs : List Cont) : AV := bufSl b zs.length (zs.flatMap contCell)
theorem flat_len {l : List Cont} : (l.flatMap contCell).length = l.length * 8 := by
  induction l with
  | nil => rfl
  | cons c r ih => simp only [List.flatMap_cons, List.length_append, ih, List.length_cons]; simp [contCell]; omega
theorem SlC.buf {h : Heap} {b : Nat} {zs : List Cont} (hb : zs.length ≠ 0 → h[b]? = some (.cells (zs.flatMap contCell) 52 true)) : SlC h (contSl b zs) zs := by
  by_cases hz : zs.length = 0
  · have : zs = [] := List.length_eq_zero_iff.1 hz
    subst this
    exact .inl ⟨by simp [bufSl], rfl⟩
  · have hne : zs ≠ [] := fun e => hz (by rw [e]; rfl)
    have := SlC.cells hne (hb hz)
    simp only [bufSl, if_neg hz, flat_len]
    exact this
def contOf (t : Txt) : Cont := ⟨t, false, false, 0, 0, false, 0, 0⟩
theorem contOf_small {t : Txt} (ht : t.length ≤ 1000000) : (contOf t).small := ⟨ht, by simp [contOf], by simp [contOf], by simp [contOf], by simp [contOf]⟩
theorem awake16w : ∃ h', D cfg 68 [] [] = some (.bool true, h') := by
  have key : ∃ r h', D cfg 68 [] [] = some (r, h') ∧ (r = .bool true) := by
    refine call68 (R := fun r h' => r = .bool true) (args := []) (h := []) (by simp) ?_
    have hv : SlC [.cells ([contOf [97]].flatMap contCell) 52 true] (contSl 0 [contOf [97]]) [contOf [97]] := SlC.buf fun _ => rfl
    obtain ⟨h1, e1, _⟩ := run_track (s := [98, 97]) (m := 4) (most := 4) hv (by simp; exact contOf_small (by simp)) (by simp) (by simp) (by decide)
    have hr : runOf [contOf [97]] 4 [98, 97] = (2, true, 0) := by decide
    rw [hr] at e1
    have e1' : D cfg 70 [.sl (some ⟨0, 0, 8⟩) 1 1, .int .i64 4, .str [98, 97]] [.cells [.str [97], .bool false, .bool false, .int .i64 0, .int .i64 0, .bool false, .int .i64 0, .int .i64 0] 52 true] = some (.tup [.int .i64 2, .bool true, .int .i64 0], h1) := e1
    simp [c68, c68_r0, c68_r1, c68_r2, abuild, abuildSlice, afill, zeros, splice, e1', extractV]
  obtain ⟨r, h', h1, rfl⟩ := key
  exact ⟨h', h1⟩
theorem awake16c {fs : List FuncId} (hf : fs.contains 68 = true) {h : Heap} : mixed fs (D cfg) 68 [] h = some (.bool true, h) := by
  obtain ⟨h', hx⟩ := awake16w
  exact awake_ofD hx hf
def badC (c : Cont) (a : Bool) : Bool := decide (c.bytes.length < 1) || (decide (16 < c.bytes.length) || (decide (c.offset < 0) || (decide (65535 < c.offset) || (decide (c.depth < 0) || (decide (65535 < c.depth) || (decide (c.within < 0) || (decide (65535 < c.within) || (decide (c.distance < -65535) || (decide (65535 < c.distance) || (c.rel && (c.not || !a)))))))))))
def goodL : List Cont → Bool → Bool
  | [], _ => true
  | c :: r, a => !badC c a && goodL r (a || !c.not)
def goodB (l : List Cont) : Bool := goodL l false && decide (l.length ≤ 4)
theorem goodL_small : ∀ {l : List Cont} {a : Bool}, goodL l a = true → ∀ c ∈ l, c.small ∧ c.bytes.length ≤ 16
  | [], _, _, c, hc => by simp at hc
  | d :: r, a, h, c, hc => by
    simp only [goodL, Bool.and_eq_true] at h
    obtain ⟨h1, h2⟩ := h
    rcases List.mem_cons.1 hc with rfl | hc
    · simp [badC] at h1
      obtain ⟨g1, g2, g3, g4, g5, g6, g7, g8, g9, g10, _⟩ := h1
      exact ⟨⟨by omega, by omega, by omega, by omega, by omega⟩, by omega⟩
    · exact goodL_small h2 c hc
theorem good_round {hs : Heap} {l : List Cont} {v : AV} {i : Nat} {a : Bool} {c : Cont} {h : Heap} (hv : SlC hs v l) (ho : Only (fun _ => False) hs h) (hi : i < l.length) (hc : c = l[i]) (hll : l.length ≤ 9223372036854775807) {Q : AExit → St → Prop}
    (hbad : badC c a = true → ∀ h', Only (fun _ => False) hs h' → Q .ret ⟨[(2, .bool false)], h'⟩)
    (hgood : badC c a = false → ∀ h', Only (fun _ => False) hs h' → Q .normal ⟨[(0, v), (3, .bool (a || !c.not)), (4, .int .i64 (i + 1 : Nat))], h'⟩) :
    Wt Try.prog (D cfg) c41_l3 ⟨[(0, v), (3, .bool a), (4, .int .i64 i)], h⟩ Q := by
  have hlen := fun L => hv.len (L := L)
  have a1 := hv.at hi
  have b0 := (hv.same ho).load hi
  rw [← hc] at b0
  have hil : (i : Int) < l.length := by omega
  have hwr : IntKind.wrap .i64 ((i : Int) + 1) = i + 1 := wrap_i64 (by omega) (by omega)
  obtain ⟨h1, hh1⟩ : ∃ h1, h1 = h ++ [.cells (contCell c) 52 false] := ⟨_, rfl⟩
  have hb1 : h1[h.length]? = some (.cells (contCell c) 52 false) := by rw [hh1]; simp
  have o1 : Only (fun _ => False) hs h1 := by rw [hh1]; exact ho.trans .app
  have cl := contLoads hb1
  by_cases b1 : c.bytes.length < 1
  · have hx := hbad (by simp [badC, b1]) h1 o1
    have b1i : ((c.bytes.length : Nat) : Int) < 1 := by omega
    simp [c41_l3, c41_r3, c41_r5, c41_r6, c41_r7, c41_r8, c41_r4, len1, hlen, hi, hil, a1, b0, zeros, astore, splice, ← hh1, fieldA, cl, alenS, hwr, b1, b1i]
    simpa using hx
  have b1i : ¬ (((c.bytes.length : Nat) : Int) < 1) := by omega
  have b1e : c.bytes ≠ [] := fun e => b1 (by rw [e]; decide)
  by_cases b2 : 16 < c.bytes.length
  · have hx := hbad (by simp [badC, b1, b1i, b1e, b2]) h1 o1
    have b2i : (16 : Int) < ((c.bytes.length : Nat) : Int) := by omega
    simp [c41_l3, c41_r3, c41_r5, c41_r6, c41_r7, c41_r8, c41_r4, len1, hlen, hi, hil, a1, b0, zeros, astore, splice, ← hh1, fieldA, cl, alenS, hwr, b1, b1i, b1e, b2, b2i]
    simpa using hx
  have b2i : ¬ ((16 : Int) < ((c.bytes.length : Nat) : Int)) := by omega
  by_cases b3 : c.offset < 0
  · have hx := hbad (by simp [badC, b1, b1i, b1e, b2, b2i, b3]) h1 o1
    simp [c41_l3, c41_r3, c41_r5, c41_r6, c41_r7, c41_r8, c41_r4, len1, hlen, hi, hil, a1, b0, zeros, astore, splice, ← hh1, fieldA, cl, alenS, hwr, b1, b1i, b1e, b2, b2i, b3]
    simpa using hx
  by_cases b4 : 65535 < c.offset
  · have hx := hbad (by simp [badC, b1, b1i, b1e, b2, b2i, b3, b4]) h1 o1
    simp [c41_l3, c41_r3, c41_r5, c41_r6, c41_r7, c41_r8, c41_r4, len1, hlen, hi, hil, a1, b0, zeros, astore, splice, ← hh1, fieldA, cl, alenS, hwr, b1, b1i, b1e, b2, b2i, b3, b4]
    simpa using hx
  by_cases b5 : c.depth < 0
  · have hx := hbad (by simp [badC, b1, b1i, b1e, b2, b2i, b3, b4, b5]) h1 o1
    simp [c41_l3, c41_r3, c41_r5, c41_r6, c41_r7, c41_r8, c41_r4, len1, hlen, hi, hil, a1, b0, zeros, astore, splice, ← hh1, fieldA, cl, alenS, hwr, b1, b1i, b1e, b2, b2i, b3, b4, b5]
    simpa using hx
  by_cases b6 : 65535 < c.depth
  · have hx := hbad (by simp [badC, b1, b1i, b1e, b2, b2i, b3, b4, b5, b6]) h1 o1
    simp [c41_l3, c41_r3, c41_r5, c41_r6, c41_r7, c41_r8, c41_r4, len1, hlen, hi, hil, a1, b0, zeros, astore, splice, ← hh1, fieldA, cl, alenS, hwr, b1, b1i, b1e, b2, b2i, b3, b4, b5, b6]
    simpa using hx
  by_cases b7 : c.within < 0
  · have hx := hbad (by simp [badC, b1, b1i, b1e, b2, b2i, b3, b4, b5, b6, b7]) h1 o1
    simp [c41_l3, c41_r3, c41_r5, c41_r6, c41_r7, c41_r8, c41_r4, len1, hlen, hi, hil, a1, b0, zeros, astore, splice, ← hh1, fieldA, cl, alenS, hwr, b1, b1i, b1e, b2, b2i, b3, b4, b5, b6, b7]
    simpa using hx
  by_cases b8 : 65535 < c.within
  · have hx := hbad (by simp [badC, b1, b1i, b1e, b2, b2i, b3, b4, b5, b6, b7, b8]) h1 o1
    simp [c41_l3, c41_r3, c41_r5, c41_r6, c41_r7, c41_r8, c41_r4, len1, hlen, hi, hil, a1, b0, zeros, astore, splice, ← hh1, fieldA, cl, alenS, hwr, b1, b1i, b1e, b2, b2i, b3, b4, b5, b6, b7, b8]
    simpa using hx
  by_cases b9 : c.distance < -65535
  · have hx := hbad (by simp [badC, b1, b1i, b1e, b2, b2i, b3, b4, b5, b6, b7, b8, b9]) h1 o1
    simp [c41_l3, c41_r3, c41_r5, c41_r6, c41_r7, c41_r8, c41_r4, len1, hlen, hi, hil, a1, b0, zeros, astore, splice, ← hh1, fieldA, cl, alenS, hwr, b1, b1i, b1e, b2, b2i, b3, b4, b5, b6, b7, b8, b9]
    simpa using hx
  by_cases b10 : 65535 < c.distance
  · have hx := hbad (by simp [badC, b1, b1i, b1e, b2, b2i, b3, b4, b5, b6, b7, b8, b9, b10]) h1 o1
    simp [c41_l3, c41_r3, c41_r5, c41_r6, c41_r7, c41_r8, c41_r4, len1, hlen, hi, hil, a1, b0, zeros, astore, splice, ← hh1, fieldA, cl, alenS, hwr, b1, b1i, b1e, b2, b2i, b3, b4, b5, b6, b7, b8, b9, b10]
    simpa using hx
  cases hr : c.rel with
  | false =>
    have hx := hgood (by simp [badC, hr, b1, b1i, b1e, b2, b2i, b3, b4, b5, b6, b7, b8, b9, b10]) h1 o1
    cases a with
    | true =>
      simp [c41_l3, c41_r3, c41_r5, c41_r6, c41_r7, c41_r8, c41_r4, len1, hlen, hi, hil, a1, b0, zeros, astore, splice, ← hh1, fieldA, cl, alenS, hwr, b1, b1i, b1e, b2, b2i, b3, b4, b5, b6, b7, b8, b9, b10, hr]
      simpa using hx
    | false =>
      cases hn : c.not with
      | true =>
        rw [hn] at hx
        simp [c41_l3, c41_r3, c41_r5, c41_r6, c41_r7, c41_r8, c41_r4, len1, hlen, hi, hil, a1, b0, zeros, astore, splice, ← hh1, fieldA, cl, alenS, hwr, b1, b1i, b1e, b2, b2i, b3, b4, b5, b6, b7, b8, b9, b10, hr, hn]
        simpa using hx
      | false =>
        rw [hn] at hx
        simp [c41_l3, c41_r3, c41_r5, c41_r6, c41_r7, c41_r8, c41_r4, len1, hlen, hi, hil, a1, b0, zeros, astore, splice, ← hh1, fieldA, cl, alenS, hwr, b1, b1i, b1e, b2, b2i, b3, b4, b5, b6, b7, b8, b9, b10, hr, hn]
        simpa using hx
  | true =>
    cases hn : c.not with
    | true =>
      have hx := hbad (by simp [badC, hr, hn]) h1 o1
      simp [c41_l3, c41_r3, c41_r5, c41_r6, c41_r7, c41_r8, c41_r4, len1, hlen, hi, hil, a1, b0, zeros, astore, splice, ← hh1, fieldA, cl, alenS, hwr, b1, b1i, b1e, b2, b2i, b3, b4, b5, b6, b7, b8, b9, b10, hr, hn]
      simpa using hx
    | false =>
      cases a with
      | false =>
        have hx := hbad (by simp [badC, hr, hn]) h1 o1
        simp [c41_l3, c41_r3, c41_r5, c41_r6, c41_r7, c41_r8, c41_r4, len1, hlen, hi, hil, a1, b0, zeros, astore, splice, ← hh1, fieldA, cl, alenS, hwr, b1, b1i, b1e, b2, b2i, b3, b4, b5, b6, b7, b8, b9, b10, hr, hn]
        simpa using hx
      | true =>
        have hx := hgood (by simp [badC, hr, hn, b1, b1i, b1e, b2, b2i, b3, b4, b5, b6, b7, b8, b9, b10]) h1 o1
        simp [c41_l3, c41_r3, c41_r5, c41_r6, c41_r7, c41_r8, c41_r4, len1, hlen, hi, hil, a1, b0, zeros, astore, splice, ← hh1, fieldA, cl, alenS, hwr, b1, b1i, b1e, b2, b2i, b3, b4, b5, b6, b7, b8, b9, b10, hr, hn]
        simpa using hx
def In41 (hs : Heap) (v : AV) (l : List Cont) (m : Nat) (st : St) : Prop := ∃ i a h, m = l.length - i ∧ i ≤ l.length ∧ goodL l false = goodL (l.drop i) a ∧ st = ⟨[(0, v), (3, .bool a), (4, .int .i64 (i : Nat))], h⟩ ∧ Only (fun _ => False) hs h
theorem good_doc {h : Heap} {l : List Cont} {v : AV} (hv : SlC h v l) (hll : l.length ≤ 9223372036854775807) : ∃ h', D cfg 41 [v] h = some (.bool (goodB l), h') ∧ Only (fun _ => False) h h' := by
  have key : ∃ r h', D cfg 41 [v] h = some (r, h') ∧ (r = .bool (goodB l) ∧ Only (fun _ => False) h h') := by
    refine call41 (R := fun r h' => r = .bool (goodB l) ∧ Only (fun _ => False) h h') (args := [v]) (h := h) (by simp) ?_
    have hlen := fun L => hv.len (L := L)
    simp [c41, c41_r0, c41_r1, c41_r2]
    refine Wt.loop (In41 h v l) (m := l.length) ⟨0, false, h, rfl, Nat.zero_le _, rfl, rfl, .refl⟩ ?_
    rintro m st ⟨i, a, h1, rfl, hi, hg, rfl, ho⟩
    have hcut : cut (some [0, 3, 4]) [(0, v), (3, .bool a), (4, .int .i64 (i : Nat))] = [(0, v), (3, .bool a), (4, .int .i64 (i : Nat))] := by simp
    simp only [hcut]
    by_cases hil : i < l.length
    · rw [List.drop_eq_getElem_cons hil] at hg
      simp only [goodL] at hg
      refine good_round hv ho hil rfl hll (fun hb h2 o2 => ?_) (fun hb h2 o2 => ?_)
      · have hgb : goodB l = false := by simp only [goodB, hg, hb]; rfl
        simp [hgb]
        exact o2
      · refine ⟨l.length - (i + 1), by omega, i + 1, a || !l[i].not, h2, rfl, hil, ?_, rfl, o2⟩
        rw [hg, hb]
        rfl
    · have : i = l.length := by omega
      subst this
      rw [List.drop_length] at hg
      by_cases h4 : l.length ≤ 4
      · have h4' : (l.length : Int) ≤ 4 := by omega
        simp [c41_l3, c41_r3, c41_r9, len1, hlen, goodB, hg, goodL, h4, h4']
        exact ho
      · have h4' : ¬ ((l.length : Int) ≤ 4) := by omega
        simp [c41_l3, c41_r3, c41_r9, len1, hlen, goodB, hg, goodL, h4, h4']
        exact ho
  obtain ⟨r, h', h1, rfl, h2⟩ := key
  exact ⟨h', h1, h2⟩
noncomputable abbrev F20 : CallF := mixed [68] (D cfg)
theorem awake20 {h : Heap} : F20 68 [] h = some (.bool true, h) := awake16c rfl
theorem F20_D {f : FuncId} (hf : f ≠ 68) {args : List AV} {h : Heap} : F20 f args h = D cfg f args h := mixed_D (by simp [hf])
theorem goodL_ne : ∀ {l : List Cont} {a : Bool}, goodL l a = true → ∀ c ∈ l, c.bytes ≠ []
  | [], _, _, c, hc => by simp at hc
  | x :: r, a, h, c, hc => by
    simp only [goodL, Bool.and_eq_true, Bool.not_eq_true'] at h
    rcases List.mem_cons.1 hc with rfl | hc
    · intro e
      have := h.1
      simp [badC, e] at this
    · exact goodL_ne h.2 c hc
theorem steps_walk {h₀ : Heap} {v : AV} {l : List Cont} {m : Int} {s : Txt} (hv : SlC h₀ v l) (hll : l.length ≤ 9223372036854775807) (hs : s.length ≤ 9223372036854775807) :
    Wt Try.prog F20 c20 ⟨argsEnv 0 [v, .int .i64 m, .str s], h₀⟩ (Ends Try.prog [.tmp 6] fun r _ => r = .bool true) := by
  have hvt : v.notTup = true := by rcases hv with ⟨rfl, _⟩ | ⟨_, _, _, _, rfl, _, _⟩ <;> rfl
  obtain ⟨h1, e1, o1⟩ := good_doc hv hll
  cases hg : goodB l with
  | false =>
    rw [hg] at e1
    simp [-AV.notTup, hvt, c20, c20_r0, c20_r1, c20_r2, F20_D, e1, awake20]
    try simp [AV.notTup]
  | true =>
    rw [hg] at e1
    simp only [goodB, Bool.and_eq_true, decide_eq_true_eq] at hg
    obtain ⟨hgl, hl4⟩ := hg
    by_cases h50 : 50 < s.length
    · have h50' : (50 : Int) < s.length := by omega
      simp [-AV.notTup, hvt, c20, c20_r0, c20_r1, c20_r2, F20_D, e1, len1, alen9, h50, h50', awake20]
      try simp [AV.notTup]
    · have h50' : ¬ ((50 : Int) < s.length) := by omega
      obtain ⟨h2, e2, o2⟩ := same_run (m := m) (hv.same o1) (fun c hc => (goodL_small hgl c hc).1) (goodL_ne hgl) (s := s) (by omega) (by omega)
      simp [-AV.notTup, hvt, c20, c20_r0, c20_r1, c20_r3, F20_D, e1, e2, len1, alen9, h50, h50', awake20]
      try simp [AV.notTup]
end Go.AM
