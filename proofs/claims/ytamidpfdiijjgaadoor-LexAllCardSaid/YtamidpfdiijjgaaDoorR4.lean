/-
  The document's lexer: all tokens (9).
-/
import Derived.Test.YtamidpfdiijjgaaDoorR3
namespace Go.AM
open Go Go.Proofs
set_option linter.unusedVariables false
set_option linter.unusedSimpArgs false
set_option maxRecDepth 100000

/-- The slice of tokens that came out. -/
def Out9 (h h' : Heap) (x : Option (List Tok)) (v : AV) : Prop := match x with
  | none => v = .sl none 0 0
  | some l => ∃ B, v = toksSl B l ∧ (l.length ≠ 0 → h.length ≤ B ∧ h'[B]? = some (.cells (toksC l) 31 true))

def In9 (h₀ : Heap) (s : Txt) (res : Option (List Tok) × Int) (m : Nat) (st : St) : Prop := ∃ (j : Nat) (h : Heap) (B : Nat) (line : Int) (l : List Tok), m = s.length - j ∧ j ≤ s.length ∧
  st = ⟨[(0, .str s), (5, toksSl B l), (6, .int .i64 line), (7, .int .i64 j)], h⟩ ∧ (l.length ≠ 0 → h₀.length ≤ B ∧ h[B]? = some (.cells (toksC l) 31 true)) ∧ Only (fun _ => False) h₀ h ∧
  l.length ≤ j ∧ 1 ≤ line ∧ line ≤ (j : Int) + 1 ∧ allM (s.length - j + 1) ⟨s.drop j, line, l⟩ = res

def In9b (s : Txt) (h : Heap) (v : AV) (line : Int) (j : Nat) (m : Nat) (st : St) : Prop := ∃ (q : Nat) (ex : Env), (ex = [] ∨ ex = [(50, .bool true)]) ∧ m = s.length - q ∧ j ≤ q ∧ q ≤ s.length ∧
  st = ⟨[(0, .str s), (5, v), (6, .int .i64 line), (7, .int .i64 q)] ++ ex, h⟩ ∧ q + ((s.drop q).takeWhile bN).length = j + ((s.drop j).takeWhile bN).length

theorem set_last {h : Heap} {o o' : AObj} : (h ++ [o]).set h.length o' = h ++ [o'] := by simp
theorem toksSl_tup0 : toksSl 0 [] = .sl none 0 0 := rfl

theorem all9 {h : Heap} {s : Txt} : ∃ v h', D cfg 9 [.str s] h = some (.tup [v, .int .i64 (lexM s).2.1, .int .i64 (lexM s).2.2], h') ∧ Out9 h h' (lexM s).1 v ∧ Only (fun _ => False) h h' := by
  have key : ∃ r h', D cfg 9 [.str s] h = some (r, h') ∧ ∃ v, r = .tup [v, .int .i64 (lexM s).2.1, .int .i64 (lexM s).2.2] ∧ Out9 h h' (lexM s).1 v ∧ Only (fun _ => False) h h' := by
    refine call9 (R := fun r h' => ∃ v, r = .tup [v, .int .i64 (lexM s).2.1, .int .i64 (lexM s).2.2] ∧ Out9 h h' (lexM s).1 v ∧ Only (fun _ => False) h h') (args := [.str s]) (h := h) (by simp) ?_
    by_cases hbig : 8192 < s.length
    · have hb' : (8192 : Int) < s.length := by omega
      simp [c9, c9_r0, c9_r1, c9_r2, len1, alen, hb', lexM, hbig, Out9]
      exact .refl
    · have hb' : ¬ (8192 : Int) < s.length := by omega
      obtain ⟨res, hres⟩ : ∃ res, res = allM (s.length + 1) ⟨s, 1, []⟩ := ⟨_, rfl⟩
      have hlex : lexM s = lexOf res := by rw [lexM, if_neg hbig, hres]
      rw [hlex]
      simp [c9, c9_r0, c9_r1, c9_r3, c9_r4, c9_r5, len1, alen, hb']
      refine Wt.loop (In9 h s res) (m := s.length) ⟨0, h, 0, 1, [], rfl, Nat.zero_le _, by rw [toksSl_tup0]; rfl, fun hl => (hl rfl).elim, .refl, Nat.le_refl _, by omega, by omega, by rw [hres]; rfl⟩ ?_
      rintro m st ⟨j, h1, B, line, l, rfl, hj, rfl, Hl, ho, hlen, hlo, hhi, he⟩
      have hcut : cut (some [0, 5, 6, 7]) [(0, AV.str s), (5, toksSl B l), (6, .int .i64 line), (7, .int .i64 (j : Int))] = [(0, AV.str s), (5, toksSl B l), (6, .int .i64 line), (7, .int .i64 (j : Int))] := by simp
      simp only [hcut]
      by_cases hjl : j < s.length
      · obtain ⟨c, hc, hd⟩ := dropC hjl
        have hne : ¬ (s.drop j = []) := by rw [hd]; simp
        have w1 : IntKind.wrap .i64 ((j : Int) + 1) = j + 1 := wrap_i64 (by omega) (by omega)
        have w2 : IntKind.wrap .i64 (line + 1) = line + 1 := wrap_i64 (by omega) (by omega)
        obtain ⟨r, hr⟩ : ∃ r, r = (c.toNat : Int) := ⟨_, rfl⟩
        have hidx : aindex Tryd.prog 9 (.str s) (.int .i64 j) = some (.int .u8 r) := by simp [aindex, hc, hr]
        unfold allM at he
        rw [if_neg hne] at he
        -- on from here
        have go : ∀ (h' : Heap) (j' B' : Nat) (line' : Int) (l' : List Tok), j < j' → j' ≤ s.length → (l'.length ≠ 0 → h.length ≤ B' ∧ h'[B']? = some (.cells (toksC l') 31 true)) → Only (fun _ => False) h h' → l'.length ≤ l.length + 1 → line ≤ line' → line' ≤ line + 1 →
            nextM ⟨s.drop j, line, l⟩ = some ⟨s.drop j', line', l'⟩ → ∃ m', m' < s.length - j ∧ In9 h s res m' ⟨[(0, .str s), (5, toksSl B' l'), (6, .int .i64 line'), (7, .int .i64 (j' : Int))], h'⟩ := by
          intro h' j' B' line' l' q1 q2 q3 q4 q5 q6 q7 q8
          rw [q8] at he
          refine ⟨s.length - j', by omega, j', h', B', line', l', rfl, q2, rfl, q3, q4, by omega, by omega, by omega, ?_⟩
          rw [← he]
          exact allM_fuel _ _ _ (by simp) (by simp; omega)
        have hnx : nextM ⟨s.drop j, line, l⟩ = nextM ⟨c :: s.drop (j + 1), line, l⟩ := by rw [hd]
        rw [nextM_cons] at hnx
        by_cases h10 : c.toNat = 10
        · have r10 : r = 10 := by omega
          have hB : isB c.toNat = false := by rw [h10]; rfl
          subst r10
          rw [hB, if_neg (by simp), if_pos h10] at hnx
          have y := go h1 (j + 1) B (line + 1) l (by omega) hjl Hl ho (by omega) (by omega) (by omega) hnx
          simp [-AV.cells, -AV.one, -AV.notTup, c9_l6, c9_r6, c9_r7, c9_r14, c9_r15, c9_r16, len1, alenS, hjl, hidx, w1, w2]
          simpa using y
        · have q10 : ¬ r = 10 := by omega
          by_cases hB : isB c.toNat = true
          · rw [if_pos hB] at hnx
            have y := go h1 (j + 1) B line l (by omega) hjl Hl ho (by omega) (by omega) (by omega) hnx
            have y' : ∃ m', m' < s.length - j ∧ In9 h s res m' ⟨[(0, .str s), (5, toksSl B l), (6, .int .i64 line), (7, .int .i64 ((j : Int) + 1))], h1⟩ := by simpa using y
            rw [← hr] at hB
            have hB2 : r = 32 ∨ r = 9 ∨ r = 13 := by simp [isB] at hB; omega
            rcases hB2 with e | e | e
            all_goals subst e
            all_goals simp [-AV.cells, -AV.one, -AV.notTup, c9_l6, c9_r6, c9_r7, c9_r14, c9_r17, c9_r18, c9_r19, c9_r20, len1, alenS, hjl, hidx, w1]
            all_goals exact y'
          · have hB' : isB c.toNat = false := by simpa using hB
            rw [hB', if_neg (by simp), if_neg h10] at hnx
            have qB := hB'
            rw [← hr] at qB
            simp [isB] at qB
            obtain ⟨⟨q32, q9⟩, q13⟩ := qB
            by_cases h35 : c.toNat = 35
            · have r35 : r = 35 := by omega
              subst r35
              rw [if_pos h35, ← hd] at hnx
              have hbN : bN c = true := by simp [bN]; intro e; subst e; exact h10 rfl
              have htw : ((s.drop j).takeWhile bN).length = ((s.drop (j + 1)).takeWhile bN).length + 1 := by rw [hd, List.takeWhile_cons, if_pos hbN]; rfl
              have hle := tw_le (q := bN) (s := s.drop (j + 1))
              rw [List.length_drop] at hle
              obtain ⟨J, hJ⟩ : ∃ J, J = j + ((s.drop j).takeWhile bN).length := ⟨_, rfl⟩
              rw [List.drop_drop, ← hJ] at hnx
              have y := go h1 J B line l (by omega) (by omega) Hl ho (by omega) (by omega) (by omega) hnx
              simp [-AV.cells, -AV.one, -AV.notTup, c9_l6, c9_r6, c9_r7, c9_r14, c9_r17, c9_r18, c9_r19, c9_r21, len1, alenS, hjl, hidx, w1]
              refine Wt.loop (In9b s h1 (toksSl B l) line j) (m := s.length - j) ⟨j, _, .inr rfl, rfl, Nat.le_refl _, Nat.le_of_lt hjl, rfl, rfl⟩ ?_
              rintro m st ⟨q, ex, hex, rfl, hjq, hq, rfl, hn⟩
              have hcut2 : cut (some [0, 5, 6, 7]) ([(0, AV.str s), (5, toksSl B l), (6, .int .i64 line), (7, .int .i64 (q : Int))] ++ ex) = [(0, AV.str s), (5, toksSl B l), (6, .int .i64 line), (7, .int .i64 (q : Int))] := by rcases hex with rfl | rfl <;> simp
              simp only [hcut2]
              rw [← hJ] at hn
              have w3 : IntKind.wrap .i64 ((q : Int) + 1) = q + 1 := wrap_i64 (by omega) (by omega)
              by_cases hql : q < s.length
              · obtain ⟨d, hdq, hdd⟩ := dropC hql
                obtain ⟨x, hx⟩ : ∃ x, x = (d.toNat : Int) := ⟨_, rfl⟩
                have hidx2 : aindex Tryd.prog 9 (.str s) (.int .i64 q) = some (.int .u8 x) := by simp [aindex, hdq, hx]
                rw [hdd, List.takeWhile_cons] at hn
                by_cases hdn : d.toNat = 10
                · have x10 : x = 10 := by omega
                  subst x10
                  have : bN d = false := by simp [bN, ← UInt8.toNat_inj, hdn]
                  rw [this] at hn
                  have : q = J := by simpa using hn
                  subst this
                  simp [-AV.cells, -AV.one, -AV.notTup, c9_l22, c9_r22, len1, alenS, hql, hidx2, pickV]
                  exact y
                · have x10 : ¬ x = 10 := by omega
                  have : bN d = true := by simp [bN, ← UInt8.toNat_inj, hdn]
                  rw [this] at hn
                  have hnext : In9b s h1 (toksSl B l) line j (s.length - (q + 1)) ⟨[(0, .str s), (5, toksSl B l), (6, .int .i64 line), (7, .int .i64 ((q : Int) + 1))], h1⟩ :=
                    ⟨q + 1, [], .inl rfl, rfl, by omega, hql, by simp, by rw [← hJ, ← hn]; simp; omega⟩
                  simp [-AV.cells, -AV.one, -AV.notTup, c9_l22, c9_r22, c9_r23, len1, alenS, hql, hidx2, pickV, x10, w3]
                  exact ⟨_, by omega, hnext⟩
              · have : q = s.length := by omega
                subst this
                rw [List.drop_length] at hn
                have : s.length = J := by simpa using hn
                simp [-AV.cells, -AV.one, -AV.notTup, c9_l22, c9_r22, len1, alenS, pickV]
                rw [← this] at y
                exact y
            · have q35 : ¬ r = 35 := by omega
              obtain ⟨v, h2, e2, R2, o2⟩ := one14 (line := line) (l := l) hjl hc (by omega) hB' h10 h35 (h := h1)
              obtain ⟨k, w, n, y, ok, rfl, R2⟩ := R2
              have ho2 := ho.trans o2
              obtain ⟨h3, hh3⟩ : ∃ h3, h2 ++ [AObj.cells [.int .i64 k, .str w, .int .i64 n, .int .i64 line] 31 false] = h3 := ⟨_, rfl⟩
              have hb0 : (h2 ++ [AObj.cells [.int .i64 0, .str [], .int .i64 0, .int .i64 0] 31 false])[h2.length]? = some (AObj.cells [.int .i64 0, .str [], .int .i64 0, .int .i64 0] 31 false) := by simp
              have hb1 : (h2 ++ [AObj.cells [.int .i64 k, .str w, .int .i64 n, .int .i64 0] 31 false])[h2.length]? = some (AObj.cells [.int .i64 k, .str w, .int .i64 n, .int .i64 0] 31 false) := by simp
              have hb3 : h3[h2.length]? = some (AObj.cells [.int .i64 k, .str w, .int .i64 n, .int .i64 line] 31 false) := by rw [← hh3]; simp
              cases ok with
              | false =>
                cases hn : nextM ⟨s.drop j, line, l⟩ with
                | some t => rw [hn] at R2; simp at R2
                | none =>
                  rw [hn] at he
                  simp [-AV.cells, -AV.one, -AV.notTup, c9_l6, c9_r6, c9_r7, c9_r14, c9_r17, c9_r18, c9_r19, c9_r21, c9_r8, c9_r9, c9_r10, len1, alenS, hjl, hidx, q10, q32, q9, q13, q35, e2, extractV, cells_int, cells_str, cells_agg, one_int, one_str, one_agg, astore, look_at, hb0, set_last, splice, tup_int, tup_sl]
                  rw [← he]
                  exact ⟨_, ⟨rfl, rfl, rfl⟩, rfl, ho2.trans .app⟩
              | true =>
                cases hn : nextM ⟨s.drop j, line, l⟩ with
                | none => rw [hn] at R2; simp at R2
                | some t =>
                  rw [hn] at R2
                  obtain ⟨_, j', rfl, hj', rfl⟩ := R2
                  have hjj : j < j' := by
                    have g := (nextM_goes hn).s
                    simp at g
                    omega
                  have Hl3 : l.length ≠ 0 → h3[B]? = some (.cells (toksC l) 31 true) := fun hl => by
                    rw [← hh3]
                    exact (Only.app (fp := fun _ => False)).at (o2.at (Hl hl).2 id) id
                  obtain ⟨δ, h4, a1, a2, a3, a4⟩ := append_buf (t := 26) (e := 31) (k := 4) (by simp) (by simp) (by decide) (by simp) (by simp) (h := h3) (b := B) (n := l.length) (xs := toksC l) (ys := tokC ⟨k, w, n, line⟩) (by simp [tokC]) toksC_len Hl3 (by omega)
                  obtain ⟨B', hB2⟩ : ∃ B', B' = if l.length = 0 then h3.length + 1 else B := ⟨_, rfl⟩
                  rw [← hB2] at a1 a3
                  have a1' : append2 Tryd.prog (look (h3 ++ [AObj.cells [AV.int IntKind.i64 k, AV.str w, AV.int IntKind.i64 n, AV.int IntKind.i64 line] 31 true])) (h3.length + 1) 26 26 [toksSl B l, AV.sl (some { b := h3.length, off := 0, gen := 4 }) 1 1] =
                      some (toksSl B' (l ++ [⟨k, w, n, line⟩]), δ) := by
                    rw [← toksC_snoc] at a1
                    simpa [toksSl, tokC] using a1
                  have a2' : (h3 ++ [AObj.cells [AV.int IntKind.i64 k, AV.str w, AV.int IntKind.i64 n, AV.int IntKind.i64 line] 31 true]).apply δ = h4 := a2
                  have ho3 : Only (fun _ => False) h h3 := ho2.trans (by rw [← hh3]; exact .app)
                  have y := go h4 j' B' line (l ++ [⟨k, w, n, line⟩]) hjj hj' (fun _ => ⟨by
                    by_cases hl0 : l.length = 0
                    · rw [hB2, if_pos hl0]; have := ho3.1; omega
                    · rw [hB2, if_neg hl0]; exact (Hl hl0).1, by rw [a3, toksC_snoc]⟩) (ho3.fresh a4 fun c e => by rw [e.1]; exact (Hl e.2).1) (by simp) (by omega) (by omega) hn
                  simp [-AV.cells, -AV.one, -AV.notTup, c9_l6, c9_r6, c9_r7, c9_r14, c9_r17, c9_r18, c9_r19, c9_r21, c9_r8, c9_r9, c9_r11, c9_r12, c9_r13, len1, alenS, hjl, hidx, q10, q32, q9, q13, q35, e2, extractV, fieldA, cells_int, cells_str, cells_agg, one_int, one_str, one_agg, astore, aload, row, look_at, hb0, hb1, set_last, hh3, hb3, abuildSlice, afill, zeros, splice, a1', a2']
                  exact y
      · have : j = s.length := by omega
        subst this
        unfold allM at he
        rw [List.drop_length, if_pos rfl] at he
        simp [-AV.cells, -AV.one, -AV.notTup, c9_l6, c9_r6, c9_r24, len1, alenS, toksSl_tup, tup_int]
        rw [← he]
        exact ⟨_, ⟨rfl, rfl, rfl⟩, ⟨B, rfl, Hl⟩, ho⟩
  obtain ⟨r, h', h1, v, rfl, h2, h3⟩ := key
  exact ⟨v, h', h1, h2, h3⟩

theorem Out9.toks {h h' : Heap} {x : Option (List Tok)} {v : AV} (H : Out9 h h' x v) : TokSl 31 h' v (x.getD []) := by
  cases x with
  | none => exact ⟨0, H, fun hl => (hl rfl).elim⟩
  | some l =>
    obtain ⟨B, h1, h2⟩ := H
    exact ⟨B, h1, fun hl => (h2 hl).2⟩

end Go.AM
