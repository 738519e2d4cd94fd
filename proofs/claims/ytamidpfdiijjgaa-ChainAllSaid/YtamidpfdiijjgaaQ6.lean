/-
  The law ChainAll returns true.
-/
import Derived.Test.YtamidpfdiijjgaaS14
import Derived.Test.YtamidpfdiijjgaaL6
namespace Go.AM
open Go Go.Proofs
set_option linter.unusedVariables false
set_option linter.unusedSimpArgs false
set_option maxRecDepth 100000

theorem awake16b : saysTrue (acall cfg 60 42 [] []) = true := by kernel_rfl
noncomputable abbrev F16b : CallF := mixed [42] (D cfg)
theorem awake16c {h : Heap} : F16b 42 [] h = some (.bool true, h) := awake_of awake16b rfl
theorem F16b_D {f : FuncId} (hf : f ≠ 42) {args : List AV} {h : Heap} : F16b f args h = D cfg f args h := mixed_D (by simp [hf])

/-- Contents, copied. -/
theorem copy_conts {h : Heap} {v : AV} {l : List Cont} (H : SlC h v l) (hl : l.length ≤ 1000) : ∃ v' δ h', append2 Try.prog (look h) h.length 42 42 [.sl none 0 0, v] = some (v', δ) ∧ h.apply δ = h' ∧ SlC h' v' l ∧ Only (fun _ => False) h h' := by
  rcases H with ⟨rfl, rfl⟩ | ⟨b, g, c, cs, rfl, h1, h2⟩
  · exact ⟨.sl none 0 0, .no, h, by simp [append2, aappend, srcCells, aappendE], rfl, .inl ⟨rfl, rfl⟩, .refl⟩
  · by_cases hl0 : l.length = 0
    · have : l = [] := List.length_eq_zero_iff.1 hl0
      subst this
      exact ⟨.sl none 0 0, .no, h, by simp [append2, aappend, srcCells, aappendE], rfl, .inl ⟨rfl, rfl⟩, .refl⟩
    · have hge : l.length * 8 ≤ cs.length := by
        have h3 := h2 (l.length - 1) _ (List.getElem?_eq_getElem (by omega))
        have := congrArg List.length h3
        rw [List.length_take, List.length_drop] at this
        simp [contCell] at this
        omega
      have hlen : (cs.take (l.length * 8)).length = l.length * 8 := by simp; omega
      have hby : Try.prog.bytesOf 52 ≤ 100 := by simp
      have hroom : l.length * Try.prog.bytesOf 52 ≤ roomMax := by
        have := Nat.mul_le_mul hl hby
        simp only [roomMax]
        omega
      have hsrc : srcCells Try.prog (look h) 52 (.sl (some ⟨b, 0, g⟩) l.length c) = some (l.length, cs.take (l.length * 8)) := by
        simp [srcCells, hl0, slCells, h1, hge]
      refine ⟨.sl (some ⟨h.length, 0, l.length * 8⟩) l.length l.length, .new (.cells (cs.take (l.length * 8)) 52 true), h ++ [.cells (cs.take (l.length * 8)) 52 true], ?_, rfl, ?_, .app⟩
      · have h9 : l.length ≤ 9223372036854775807 := by omega
        have hz : zeroOK Try.prog 52 = true := by simp
        have hpos : 0 < tsz Try.prog 52 := by simp
        have ht : tk Try.prog 42 = .slice 52 := by simp
        simp only [append2, aappend, ht, hsrc, hpos, if_true, aappendE, hl0, if_false]
        simp only [hroom, h9, hz, and_self, if_true, hlen]
      · refine .inr ⟨h.length, l.length * 8, l.length, cs.take (l.length * 8), rfl, ?_, fun i c hc => ?_⟩
        · simp only [AM.row, look_at, at_app, if_true]
          rw [if_pos hlen]
        · have hi := (List.getElem?_eq_some_iff.1 hc).1
          rw [List.drop_take, List.take_take, Nat.min_eq_left (by omega)]
          exact h2 i c hc

def In6 (v : AV) (s : Txt) (a b : AV) (ls : List (List Int)) (h : Heap) (m : Nat) (st : St) : Prop := ∃ i : Nat, m = ls.length - i ∧ i ≤ ls.length ∧ st = ⟨[(0, v), (1, .str s), (5, a), (6, b), (7, .int .i64 i)], h⟩

theorem all_walk {h₀ : Heap} {v : AV} {l : List Cont} {s : Txt} (hv : SlC h₀ v l) (hll : l.length ≤ 9223372036854775807) (hs : s.length ≤ 9223372036854775807) :
    Wt Try.prog F16b c6 ⟨argsEnv 0 [v, .str s], h₀⟩ (Ends Try.prog [.tmp 4] fun r _ => r = .bool true) := by
  obtain ⟨h1, e1, o1⟩ := good_doc hv hll
  cases hg : goodB l with
  | false =>
    rw [hg] at e1
    simp [c6, c6_r0, c6_r1, c6_r2, F16b_D, e1, awake16c]
  | true =>
    rw [hg] at e1
    by_cases hs60 : 60 < s.length
    · have hs60' : (60 : Int) < s.length := by omega
      simp [c6, c6_r0, c6_r1, c6_r2, F16b_D, e1, len1, alenS, hs60, hs60', awake16c]
    · have hs60' : ¬ ((60 : Int) < s.length) := by omega
      simp only [goodB, Bool.and_eq_true, decide_eq_true_eq] at hg
      have hsm : ∀ c ∈ l, c.small := fun c hc => (goodL_small hg.1 c hc).1
      have hl4 : l.length ≤ 1000 := by omega
      have hsl : s.length ≤ 100000 := by omega
      obtain ⟨v', δ, h2, e2, e3, hv2, o2⟩ := copy_conts (hv.same o1) hl4
      have o12 := o1.trans o2
      obtain ⟨h3, B, bs, e4, H4, o4⟩ := ends_chain hv2 (s := s) hsm hsl hl4
      have o13 := o12.trans o4
      obtain ⟨h4, B2, bs2, e5, H5, o5⟩ := ends_doc (hv.same o13) (s := s) hsm hsl hl4
      have o14 := o13.trans o5
      have H4' := H4.same o5
      obtain ⟨ls, hls⟩ : ∃ ls, ls = (endsAll l s).1 := ⟨_, rfl⟩
      obtain ⟨_, _, ok3, ok4⟩ := endsAll_ok (l := l) (s := s)
      rw [← hls] at e4 e5 H4' H5 ok3 ok4
      obtain ⟨h5, e6, o6⟩ := first_chain (hv.same o14) (s := s) hsm hsl hl4
      have o15 := o14.trans o6
      obtain ⟨h6, e7, o7⟩ := first_doc (hv.same o15) (s := s) hsm hsl hl4
      rw [first_eq] at e7
      have o16 := o15.trans o7
      obtain ⟨h7, e8, o8⟩ := holds_chain (hv.same o16) (s := s) hsm hsl hl4
      have o17 := o16.trans o8
      obtain ⟨h8, e9, o9⟩ := holds_doc (hv.same o17) (s := s) hsm hsl hl4
      have la := fun L => H4'.sl.len (t := 44) (e := 30) (by simp) (L := L)
      have lb := fun L => H5.sl.len (t := 44) (e := 30) (by simp) (L := L)
      have za : (List.zipWith intSl bs ls).length = ls.length := by simp [H4'.len]
      have zb : (List.zipWith intSl bs2 ls).length = ls.length := by simp [H5.len]
      rw [za] at la
      rw [zb] at lb
      obtain ⟨a, ha⟩ : ∃ a, a = llSl B bs ls := ⟨_, rfl⟩
      obtain ⟨b, hb⟩ : ∃ b, b = llSl B2 bs2 ls := ⟨_, rfl⟩
      have ga := fun i hi => H4'.get (i := i) hi
      have gb := fun i hi => H5.get (i := i) hi
      rw [← ha] at e4 la ga
      rw [← hb] at e5 lb gb
      simp [c6, c6_r0, c6_r1, c6_r2, c6_r3, c6_r4, c6_r5, c6_r6, F16b_D, e1, len1, alenS, hs60, hs60', e2, e3, e4, e5, la, lb]
      refine Wt.loop (In6 v s a b ls h4) (m := ls.length) ⟨0, rfl, Nat.zero_le _, rfl⟩ ?_
      rintro m st ⟨i, rfl, hi, rfl⟩
      have hcut : cut (some [0, 1, 5, 6, 7]) [(0, v), (1, .str s), (5, a), (6, b), (7, .int .i64 (i : Nat))] = [(0, v), (1, .str s), (5, a), (6, b), (7, .int .i64 (i : Nat))] := by simp
      simp only [hcut]
      by_cases hil : i < ls.length
      · have hil' : (i : Int) < ls.length := by omega
        have hwr : IntKind.wrap .i64 ((i : Int) + 1) = i + 1 := wrap_i64 (by omega) (by omega)
        obtain ⟨b1, x1, x2, x3⟩ := ga i hil
        obtain ⟨b2, y1, y2, y3⟩ := gb i hil
        have hq := ok4 ls[i] (List.getElem_mem hil)
        have e10 := same_ints (Sl1.ints x3) (Sl1.ints y3) (by omega)
        have hnext : In6 v s a b ls h4 (ls.length - (i + 1)) ⟨[(0, v), (1, .str s), (5, a), (6, b), (7, .int .i64 (i + 1 : Nat))], h4⟩ := ⟨i + 1, rfl, hil, rfl⟩
        simp [c6_l7, c6_r7, c6_r8, c6_r9, c6_r10, F16b_D, len1, lb, hil, hil', x1, x2, y1, y2, e10, hwr]
        exact ⟨ls.length - (i + 1), by omega, by simpa using hnext⟩
      · have : i = ls.length := by omega
        subst this
        simp [c6_l7, c6_r7, c6_r11, c6_r12, c6_r13, F16b_D, len1, lb, e6, e7, e8, e9, extractV, awake16c]

end Go.AM
