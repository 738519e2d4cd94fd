/-
  The walk of LexSigns.
-/
import Derived.Test.YtamidpfdiijjgaaDoorF2
import Derived.Test.YtamidpfdiijjgaaDoorE11
import Derived.Test.YtamidpfdiijjgaaDoorL6
namespace Go.AM
open Go Go.Proofs
set_option linter.unusedVariables false
set_option linter.unusedSimpArgs false
set_option maxRecDepth 100000

def strCells (l : List Txt) : List AV := l.map .str
theorem strCells_len {l : List Txt} : (strCells l).length = l.length := by simp [strCells]
def txtSl (b : Nat) (l : List Txt) : AV := bufSl b l.length (strCells l)
theorem txtSl_one {B : Nat} {l : List Txt} : AV.one (txtSl B l) = true := by unfold txtSl bufSl; split <;> rfl

theorem append_txt {h : Heap} {b : Nat} {l : List Txt} {p : Txt} (hb : l.length ≠ 0 → h[b]? = some (.cells (strCells l) 9 true)) (hn : l.length ≤ 1000000) :
    ∃ δ h', append2 Tryd.prog (look (h ++ [AObj.cells [.str p] 9 true])) (h.length + 1) 41 41 [txtSl b l, .sl (some ⟨h.length, 0, 1⟩) 1 1] = some (txtSl (if l.length = 0 then h.length + 1 else b) (l ++ [p]), δ) ∧ Heap.apply (h ++ [AObj.cells [.str p] 9 true]) δ = h' ∧
      h'[if l.length = 0 then h.length + 1 else b]? = some (.cells (strCells (l ++ [p])) 9 true) ∧ Only (fun c => c = b ∧ l.length ≠ 0) h h' := by
  obtain ⟨δ, h', h1, h2, h3, h4⟩ := append_buf (t := 41) (e := 9) (k := 1) (by simp) (by simp) (by decide) (by simp) (by simp) (h := h) (b := b) (n := l.length) (xs := strCells l) (ys := [.str p]) (by simp) (by simp [strCells]) hb hn
  have e : strCells l ++ [AV.str p] = strCells (l ++ [p]) := by simp [strCells]
  rw [e] at h1 h3
  refine ⟨δ, h', ?_, h2, h3, h4⟩
  rw [txtSl, h1, txtSl]
  simp

/-- The sign of a number. -/
def signOf (n : Int) : Txt := all14.getD (n % 14).toNat []
theorem signOf_mem {n : Int} : signOf n ∈ all14 := by
  have : ∀ k, k < 14 → all14.getD k [] ∈ all14 := by decide
  exact this _ (by omega)
theorem signs_mem {l : List Int} : ∀ w ∈ l.map signOf, w ∈ all14 := fun w hw => by
  obtain ⟨n, _, rfl⟩ := List.mem_map.1 hw
  exact signOf_mem

theorem pieces_snoc {blank : Bool} {ws : List Txt} {w : Txt} : pieces blank (ws ++ [w]) = pieces blank ws ++ piece blank w := by simp [pieces]

def In6 (h₀ : Heap) (blank : Bool) (v : AV) (xs : List Int) (m : Nat) (st : St) : Prop := ∃ i h b ws, m = min xs.length 40 - i ∧ i ≤ min xs.length 40 ∧ ws = (xs.take i).map signOf ∧
  st = ⟨[(0, v), (1, .bool blank), (5, .ptr (some ⟨h₀.length, 0, 14⟩)), (6, .str (pieces blank ws)), (7, txtSl b ws), (8, .int .i64 (i : Int))], h⟩ ∧
  h[h₀.length]? = some (.cells (strCells all14) 40 false) ∧ (ws.length ≠ 0 → h₀.length < b ∧ h[b]? = some (.cells (strCells ws) 9 true)) ∧ Only (fun _ => False) h₀ h

def In6b (h : Heap) (v w : AV) (n : Nat) (m : Nat) (st : St) : Prop := ∃ i, m = n - i ∧ i ≤ n ∧ st = ⟨[(7, v), (10, w), (13, .int .i64 (i : Int))], h⟩

theorem arr_load {h : Heap} {B : Nat} (hb : h[B]? = some (.cells (strCells all14) 40 false)) {n : Int} : aload Tryd.prog (look h) 9 (.ptr (some ⟨B, (n % 14).toNat, 14⟩)) = some (.str (signOf n)) := by
  have hl : (strCells all14).length = 14 := by simp [strCells, all14]
  have hk : (n % 14).toNat < 14 := by omega
  have hk' : (n % 14).toNat < all14.length := hk
  simp only [aload, row, look_at, hb, hl, if_true, tk_9, agk]
  simp only [strCells, List.getElem?_map, List.getElem?_eq_getElem hk', Option.map_some, signOf, List.getD_eq_getElem?_getD, Option.getD_some]

theorem signs_walk {h : Heap} {v : AV} {xs : List Int} {blank : Bool} (hv : Sl1 h v (xs.map (.int .i64))) (hl : xs.length ≤ 9223372036854775807) :
    Wt Tryd.prog (D cfg) c6 ⟨argsEnv 0 [v, .bool blank], h⟩ (Ends Tryd.prog [.tmp 4] fun r _ => r = .bool true) := by
  simp [-AV.cells, -AV.one, -AV.notTup, c6, c6_r0, c6_r1, c6_r2, c6_r3, c6_r4, abuild, afill, splice, cells_agg, cells_str, one_str, one_agg, astore, look_at]
  obtain ⟨h1, hh1⟩ : ∃ h1, h1 = h ++ [AObj.cells (strCells all14) 40 false] := ⟨_, rfl⟩
  have hh1' : h ++ [AObj.cells [AV.str [40], AV.str [41], AV.str [59], AV.str [58], AV.str [44], AV.str [47], AV.str [91], AV.str [93], AV.str [33], AV.str [45], AV.str [46], AV.str [61], AV.str [45, 62], AV.str [60, 62]] 40 false] = h1 := by rw [hh1]; rfl
  rw [hh1']
  have hb1 : h1[h.length]? = some (.cells (strCells all14) 40 false) := by rw [hh1]; simp
  have o1 : Only (fun _ => False) h h1 := by rw [hh1]; exact .app
  refine Wt.loop (In6 h blank v xs) (m := min xs.length 40) ⟨0, h1, 0, [], rfl, Nat.zero_le _, rfl, rfl, hb1, fun h => (h rfl).elim, o1⟩ ?_
  rintro m st ⟨i, h2, b, ws, rfl, hi, hws, rfl, hb2, hw2, o2⟩
  have hcut : ∀ w : AV, cut (some [0, 1, 5, 6, 7, 8]) [(0, v), (1, AV.bool blank), (5, .ptr (some ⟨h.length, 0, 14⟩)), (6, .str (pieces blank ws)), (7, w), (8, .int .i64 (i : Int))] = [(0, v), (1, AV.bool blank), (5, .ptr (some ⟨h.length, 0, 14⟩)), (6, .str (pieces blank ws)), (7, w), (8, .int .i64 (i : Int))] := fun w => by simp
  simp only [hcut]
  have hlen := fun L => hv.len (t := 38) (e := 3) (by simp) (L := L)
  simp only [List.length_map] at hlen
  have hwl : ws.length = i := by rw [hws]; simp; omega
  have hmem : ∀ w ∈ ws, w ∈ all14 := by rw [hws]; exact signs_mem
  have hpl := pieces_len (blank := blank) hmem
  by_cases hlt : i < min xs.length 40
  · have hx : i < xs.length := by omega
    have hx40 : i < 40 := by omega
    have hx' : (i : Int) < xs.length := by omega
    have hx40' : (i : Int) < 40 := by omega
    have w1 : IntKind.wrap .i64 ((i : Int) + 1) = i + 1 := wrap_i64 (by omega) (by omega)
    have hv2 := hv.same o2
    have a1 := hv2.at (t := 38) (e := 3) (by simp) (by simp) (i := i) (by simpa using hx)
    have a2 := hv2.load (e := 3) (by simp) (i := i) (by simpa using hx)
    simp only [List.getElem_map] at a2
    have p1 := place_run (h := h2) (v := xs[i]) (n := 14) (by omega) (by omega)
    have q1 : 0 ≤ xs[i] % 14 := by omega
    have q2 : xs[i] % 14 < 14 := by omega
    have l1 := arr_load hb2 (n := xs[i])
    have a3 : aindexAddr Tryd.prog 40 (.ptr (some ⟨h.length, 0, 14⟩)) (.int .i64 (xs[i] % 14)) = some (.ptr (some ⟨h.length, (xs[i] % 14).toNat, 14⟩)) := by simp [aindexAddr, q1, q2]
    obtain ⟨w, hw⟩ : ∃ w, w = signOf xs[i] := ⟨_, rfl⟩
    rw [← hw] at l1
    have hwm : w ∈ all14 := by rw [hw]; exact signOf_mem
    have hw14 := all14_len hwm
    have s1 : abin .str .add (.str (pieces blank ws)) (.str w) = some (.str (pieces blank ws ++ w)) := abin_addS (by omega)
    have s2 : abin .str .add (.str (pieces blank ws ++ w)) (.str [32]) = some (.str (pieces blank ws ++ (w ++ [32]))) := by rw [abin_addS (by simp; omega)]; simp
    obtain ⟨δ, h3, e1, e2, e3, e4⟩ := append_txt (h := h2) (b := b) (l := ws) (p := w) (fun hne => (hw2 hne).2) (by omega)
    have hnot : ∀ c, c < h.length + 1 → ¬ (c = b ∧ ws.length ≠ 0) := fun c hc e => by have := (hw2 e.2).1; omega
    have o3 : Only (fun _ => False) h h3 := o2.fresh e4 fun c e => by have := (hw2 e.2).1; omega
    have hb3 : h3[h.length]? = some (.cells (strCells all14) 40 false) := e4.at hb2 (hnot _ (by omega))
    have hl2 := lt_of_at hb2
    have hnext : In6 h blank v xs (min xs.length 40 - (i + 1)) ⟨[(0, v), (1, .bool blank), (5, .ptr (some ⟨h.length, 0, 14⟩)), (6, .str (pieces blank (ws ++ [w]))), (7, txtSl (if ws.length = 0 then h2.length + 1 else b) (ws ++ [w])), (8, .int .i64 (i + 1 : Nat))], h3⟩ := by
      refine ⟨i + 1, h3, _, ws ++ [w], rfl, hlt, ?_, rfl, hb3, fun _ => ⟨?_, e3⟩, o3⟩
      · rw [hws, hw, List.take_succ_eq_append_getElem hx, List.map_append]; rfl
      · split
        · omega
        · rename_i hne; exact (hw2 hne).1
    rw [pieces_snoc] at hnext
    unfold piece at hnext
    obtain ⟨B', hB'⟩ : ∃ B', B' = if ws.length = 0 then h2.length + 1 else b := ⟨_, rfl⟩
    rw [← hB'] at hnext e1
    by_cases hbl : blank = true
    · subst hbl
      simp only [Bool.true_or, if_true] at hnext
      simp [-AV.cells, -AV.one, -AV.notTup, c6_l5, c6_r5, c6_r6, c6_r7, c6_r8, c6_r9, c6_r10, c6_r11, len1, hlen, hx', hx40', pickV, a1, a2, p1, a3, l1, s1, s2, abuildSlice, afill, zeros, splice, cells_str, one_str, e1, e2, w1]
      exact ⟨min xs.length 40 - (i + 1), by omega, by simpa using hnext⟩
    · have hbl' : blank = false := by simpa using hbl
      subst hbl'
      by_cases h45 : w = [45]
      · have hd : (false || decide (w = [45])) = true := by simp [h45]
        simp only [hd, if_true] at hnext
        subst h45
        simp [-AV.cells, -AV.one, -AV.notTup, c6_l5, c6_r5, c6_r6, c6_r7, c6_r8, c6_r9, c6_r10, c6_r11, len1, hlen, hx', hx40', pickV, a1, a2, p1, a3, l1, s1, s2, abuildSlice, afill, zeros, splice, cells_str, one_str, e1, e2, w1]
        exact ⟨min xs.length 40 - (i + 1), by omega, by simpa using hnext⟩
      · have hd : (false || decide (w = [45])) = false := by simp [h45]
        simp only [hd, if_false] at hnext
        simp [-AV.cells, -AV.one, -AV.notTup, c6_l5, c6_r5, c6_r6, c6_r7, c6_r8, c6_r9, c6_r10, c6_r11, len1, hlen, hx', hx40', pickV, a1, a2, p1, a3, l1, s1, abuildSlice, afill, zeros, splice, cells_str, one_str, e1, e2, w1, h45]
        exact ⟨min xs.length 40 - (i + 1), by omega, by simpa using hnext⟩
  · have hge : ¬ ((i : Int) < xs.length ∧ (i : Int) < 40) := by omega
    obtain ⟨u, h3, e3, O3, o3⟩ := all8 (h := h2) (s := pieces blank ws)
    rw [signs_lex hmem (by omega)] at e3 O3
    simp only at e3
    have T := O3.tok
    have hb3 : ws.length ≠ 0 → h3[b]? = some (.cells (strCells ws) 9 true) := fun hne => o3.at (hw2 hne).2 id
    have hS : Sl1 h3 (txtSl b ws) (strCells ws) := by
      have := Sl1.buf (h := h3) (b := b) (e := 9) (s := true) (xs := strCells ws) (by rw [strCells_len]; exact hb3)
      rw [strCells_len] at this
      exact this
    have tl := fun L => T.len (t := 22) (by simp) (L := L)
    have sl := fun L => hS.len (t := 41) (e := 9) (by simp) (L := L)
    simp only [List.length_map] at tl
    simp only [strCells_len] at sl
    have fin : ∀ i : Nat, i ≤ ws.length → Wt Tryd.prog (D cfg) (.block 2 (.loop c6_l16 (some [7, 10, 13]))) ⟨[(7, txtSl b ws), (10, u), (13, .int .i64 i)], h3⟩ (andThen (fun s' => Wt Tryd.prog (D cfg) ((SC.reg c6_r20 none (some [4])).seq SC.ret) s' (Ends Tryd.prog [ResultVar.tmp 4] fun r x => r = AV.bool true)) (Ends Tryd.prog [ResultVar.tmp 4] fun r x => r = AV.bool true)) := by
      intro i hi
      simp only [Wt_block]
      refine Wt.loop (In6b h3 (txtSl b ws) u ws.length) (m := ws.length - i) ⟨i, rfl, hi, rfl⟩ ?_
      rintro m st ⟨j, rfl, hj, rfl⟩
      have hcut : cut (some [7, 10, 13]) [(7, txtSl b ws), (10, u), (13, AV.int .i64 (j : Int))] = [(7, txtSl b ws), (10, u), (13, AV.int .i64 (j : Int))] := by simp
      simp only [hcut]
      by_cases hjl : j < ws.length
      · have hjl' : (j : Int) < ws.length := by omega
        obtain ⟨B, o, g, t0, t1, t2, _, _⟩ := T.at (t := 22) (by simp) (by simp) (i := j) (by simpa using hjl)
        simp only [List.getElem_map] at t1 t2
        have b1 := hS.at (t := 41) (e := 9) (by simp) (by simp) (i := j) (by rw [strCells_len]; exact hjl)
        have b2 := hS.load (e := 9) (by simp) (i := j) (by rw [strCells_len]; exact hjl)
        simp only [strCells, List.getElem_map] at b2
        have w1 : IntKind.wrap .i64 ((j : Int) + 1) = j + 1 := wrap_i64 (by omega) (by omega)
        have hnext : In6b h3 (txtSl b ws) u ws.length (ws.length - (j + 1)) ⟨[(7, txtSl b ws), (10, u), (13, .int .i64 (j + 1 : Nat))], h3⟩ := ⟨j + 1, rfl, hjl, rfl⟩
        simp [-AV.cells, -AV.one, -AV.notTup, c6_l16, c6_r16, c6_r17, c6_r18, len1, tl, hjl', t0, t1, t2, b1, b2, pickV, fieldA, w1]
        exact ⟨ws.length - (j + 1), by omega, by simpa using hnext⟩
      · have hjl' : ¬ (j : Int) < ws.length := by omega
        obtain ⟨h4, e4⟩ := awake10 (h := h3)
        simp [-AV.cells, -AV.one, -AV.notTup, c6_l16, c6_r16, c6_r20, len1, tl, hjl', e4, tup_bool]
    have fin0 := fin 0 (Nat.zero_le _)
    by_cases hx : i < xs.length
    · have hx' : (i : Int) < xs.length := by omega
      have hx40' : ¬ (i : Int) < 40 := by omega
      simp [-AV.cells, -AV.one, -AV.notTup, c6_l5, c6_r5, c6_r12, c6_r13, c6_r15, len1, hlen, hx', hx40', pickV, e3, extractV, tl, sl]
      simpa using fin0
    · have hx' : ¬ (i : Int) < xs.length := by omega
      simp [-AV.cells, -AV.one, -AV.notTup, c6_l5, c6_r5, c6_r12, c6_r13, c6_r15, len1, hlen, hx', pickV, e3, extractV, tl, sl]
      simpa using fin0

end Go.AM
