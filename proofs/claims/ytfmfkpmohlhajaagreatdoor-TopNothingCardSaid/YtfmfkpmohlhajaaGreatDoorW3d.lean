/-
  What the law TopNothing stands on, part 4.
-/
import Derived.Test.YtfmfkpmohlhajaaGreatDoorW3c
import Derived.Test.YtfmfkpmohlhajaaGreatDoorL3
namespace Go.AM
open Go Go.Proofs Go.RowKit
set_option linter.unusedVariables false
set_option linter.unusedSimpArgs false
set_option maxRecDepth 100000
section
def srvD (n : Nat) : List DOp := (List.range n).map fun k => ⟨1, k, k + 1⟩
theorem srvD_succ {n : Nat} : srvD (n + 1) = srvD n ++ [⟨1, n, n + 1⟩] := by simp [srvD, List.range_succ]
theorem srvD_len {n : Nat} : (srvD n).length = n := by simp [srvD]
def clD (ds : List (Nat × Nat)) : List DOp := ds.map fun d => ⟨0, d.1, d.2⟩
theorem clD_len {ds : List (Nat × Nat)} : (clD ds).length = ds.length := by simp [clD]
theorem clD_prO {s u : Txt} {ds : List (Nat × Nat)} : (clD ds).map (dopF 24 s u) = prO s ds := by simp [clD, prO, dopF]
def allO (s u : Txt) (ds : List (Nat × Nat)) (k : Nat) : List (Nat × Txt) := helloO ++ (clD ds ++ srvD k).map (dopF 24 s u)
theorem allO_len {s u : Txt} {ds : List (Nat × Nat)} {k : Nat} : (allO s u ds k).length = 3 + (ds.length + k) := by simp [allO, helloO, clD_len, srvD_len]; omega
theorem allO_succ {s u : Txt} {ds : List (Nat × Nat)} {k : Nat} : opsC (allO s u ds (k + 1)) = opsC (allO s u ds k) ++ opC 1 (dfr1 u k (k + 1)) := by
 simp only [allO, srvD_succ, List.map_append, ← List.append_assoc]
 rw [opsC_app]
 simp [dopF, opsC]
theorem allO_zero {s u : Txt} {ds : List (Nat × Nat)} : opsC (allO s u ds 0) = opsC helloO ++ opsC (prO s ds) := by
 simp only [allO, srvD, List.range_zero, List.map_nil, List.append_nil, clD_prO]
 rw [opsC_app]
def c3_loop : SC := (.block 0 (.loop c3_l6 (some [9, 10, 11, 12])))
def c3_end : SC := (.seq (.reg c3_r9 none (some [9, 10, 13, 14, 15])) (.seq (.reg c3_r10 none (some [9, 10, 13, 14, 15, 16])) (.seq (.reg c3_r11 none (some [9, 10, 13, 14, 15, 16, 17])) (.seq (.reg c3_r12 none (some [8])) .ret))))
def c3_main : SC := (.seq (.reg c3_r3 none (some [2, 9, 10])) (.seq (.reg c3_r4 none (some [9, 10, 11])) (.seq (.seq (.reg c3_r5 none (some [9, 10, 11, 12])) c3_loop) c3_end)))
theorem c3_split : c3 = (.seq (.reg c3_r0 none (some [0, 1, 2, 3])) (.seq (.seq (.reg c3_r1 none (some [0, 1, 2, 3, 30])) (.cond (.tmp 30) (.seq (.reg c3_r2 none (some [8])) .ret) .skip (some [0, 1, 2, 3]))) c3_main)) := rfl
theorem srv_run {h0 : Heap} {s u : Txt} {ds : List (Nat × Nat)} {b : Nat} (hu : u.length ≤ 60) (hds : ds.length ≤ 200) (hb : h0[b]? = some (.cells (opsC (allO s u ds 0)) 32 true)) :
  Wt Tryz.prog (D cfg1) c3_loop ⟨[(9, .str s), (10, .str u), (11, bufSl b (3 + ds.length) (opsC (allO s u ds 0))), (12, .int .i64 0)], h0⟩
   (fun e σ' => e = .normal ∧ ∃ h, σ' = ⟨[(9, .str s), (10, .str u), (11, bufSl b (3 + ds.length + u.length) (opsC (allO s u ds u.length))), (12, .int .i64 (u.length : Nat)), (49, .bool false)], h⟩ ∧ h[b]? = some (.cells (opsC (allO s u ds u.length)) 32 true)) := by
 simp only [c3_loop, Wt_block]
 refine Wt.forP (fun i => [(9, .str s), (10, .str u), (11, bufSl b (3 + ds.length + i) (opsC (allO s u ds i))), (12, .int .i64 (i : Nat))]) (fun i h => h[b]? = some (.cells (opsC (allO s u ds i)) 32 true)) u.length ?_ ?_ ?_
 · intro i h1 hi hb1
   have cv : ∀ {L : Look} {m : Nat}, aconv Tryz.prog L m 3 28 (.int .i64 (i : Int)) = some (.int .u32 (i : Int), .no) := conv328 (by omega)
   have wu : IntKind.wrap .u32 (5001 + (i : Int)) = ((5001 + i : Nat) : Int) := by rw [wu32]; omega
   have w1 : IntKind.wrap .i64 ((i : Int) + 1) = ((i + 1 : Nat) : Int) := by rw [wrap_i64 (by omega) (by omega)]; omega
   obtain ⟨body, hbody⟩ : ∃ body, body = (u.drop i).take (i + 1 - i) := ⟨_, rfl⟩
   have hbl : body.length ≤ 1000 := by rw [hbody]; simp; omega
   have hmod : (5001 + i) % 4294967296 = 5001 + i := Nat.mod_eq_of_lt (by omega)
   have e1 := seg_run (h := h1) (x := 1) (fl := 16) (seq := 5001 + i) (ack := 101) (body := body) (by omega) (by omega) (by omega) (by omega) (by omega)
   obtain ⟨h2, hh2, O2⟩ := gro (f := 11) (args := [.int .i64 (1 : Nat), .int .i64 0, .int .i64 (16 : Nat), .int .u32 (5001 + i : Nat), .int .u32 (101 : Nat), .str body]) (h := h1)
   rw [← hh2] at e1
   have hsl : ∀ L, aslice Tryz.prog L 9 (.str u) (some (.int .i64 (i : Int))) (some (.int .i64 ((i + 1 : Nat) : Int))) none = some (.str body) := fun L => by
    rw [sliceS2, guardQ, if_pos ⟨by omega, by omega, by omega⟩, hbody]; rfl
   obtain ⟨fr, hfr⟩ : ∃ fr, fr = frB 1 16 (5001 + i) 101 body := ⟨_, rfl⟩
   rw [← hfr] at e1
   have hd0 : opC 1 (dfr1 u i (i + 1)) = opC 1 fr := by rw [hfr, hbody]; unfold dfr1; rw [hmod]
   replace e1 := lift e1
   replace e1 : D cfg1 11 [.int .i64 1, .int .i64 0, .int .i64 16, .int .u32 (5001 + i : Nat), .int .u32 101, .str body] h1 = some (.str fr, h2) := e1
   have hbo : abuild Tryz.prog 32 [(0, .int .i64 1), (1, .int .i64 1), (2, .str fr)] = some (.agg (opC 1 fr)) := by simp [abuild, afill, zeros, opC]
   have hsl3 : ∀ m, abuildSlice Tryz.prog m 26 1 [(0, .agg (opC 1 fr))] = some (.sl (some ⟨m, 0, 3⟩) 1 1, .new (.cells (opC 1 fr) 32 true)) := fun m => by simp [abuildSlice, afill, zeros, opC, splice]
   have hl : (opsC (allO s u ds i)).length = (3 + ds.length + i) * 3 := by rw [opsC_len, allO_len]; omega
   obtain ⟨δ, h3, g1, g2, g3, O3⟩ := append_buf (t := 26) (e := 32) (k := 3) (by simp) (by simp) (by omega) (by simp) (by simp) (h := h2) (b := b) (n := 3 + ds.length + i) (xs := opsC (allO s u ds i)) (ys := opC 1 fr) rfl hl (fun _ => O2.at hb1 not_false) (by omega)
   rw [if_neg (by omega), ← hd0, ← allO_succ] at g1 g3
   rw [hd0] at g1
   simp [c3_l6, c3_r6, alen9, hi, c3_r8, cv, wu, w1, hsl, e1, hbo, hsl3, g1, g2, bufSl_one, bufSl_notTup, bufSl_cells, c3_r7, -Int.natCast_add]
   exact ⟨by rw [Nat.add_assoc], g3⟩
 · intro h1 hb1
   simp [c3_l6, c3_r6, alen9]
   exact hb1
 · exact ⟨by simp, hb⟩
theorem end_run {h0 : Heap} {s u : Txt} {ds : List (Nat × Nat)} {b : Nat} {x y : AV} (hs : s.length ≤ 60) (hu : u.length ≤ 60) (hds : ds.length ≤ 200) (hd1 : ∀ d ∈ ds, d.1 < d.2 ∧ d.2 ≤ s.length) (hd2 : ∀ k, k < s.length → ∃ d ∈ ds, d.1 ≤ k ∧ k < d.2)
  (hb : h0[b]? = some (.cells (opsC (allO s u ds u.length)) 32 true)) :
  Wt Tryz.prog (D cfg1) c3_end ⟨[(9, .str s), (10, .str u), (11, bufSl b (3 + ds.length + u.length) (opsC (allO s u ds u.length))), (12, x), (49, y)], h0⟩ (Ends Tryz.prog [.tmp 8] fun r _ => r = .bool true) := by
 obtain ⟨N, hN⟩ : ∃ N, N = 3 + ds.length + u.length := ⟨_, rfl⟩
 have hbs : bufSl b (3 + ds.length + u.length) (opsC (allO s u ds u.length)) = .sl (some ⟨b, 0, 3 * N⟩) N N := by
  unfold bufSl
  rw [if_neg (by omega), opsC_len, allO_len, ← hN]
  have : 3 + (ds.length + u.length) = N := by omega
  rw [this]
 rw [hbs]
 have e1 := lift (wide_run (h := h0))
 obtain ⟨h1, hh1, O1⟩ := gro (f := 13) (args := []) (h := h0)
 rw [← hh1] at e1
 have hlen : (clD ds ++ srvD u.length).length = ds.length + u.length := by rw [List.length_append, clD_len, srvD_len]
 obtain ⟨h2, bo, ks, ems, cc, cd, e2, hNe, C2⟩ := script_run (h := h1) (fl0 := 24) (s := s) (u := u) (dops := clD ds ++ srvD u.length) (ob := b) (N := N) (by omega) (.inr rfl) (by omega) (by omega) (by omega) (fun o ho => by
  rcases List.mem_append.1 ho with ho | ho
  · simp [clD] at ho
    obtain ⟨x, y, hxy, rfl⟩ := ho
    have := hd1 _ hxy
    exact ⟨by simp, this.1, fun _ => this.2, fun h => by simp at h⟩
  · simp [srvD] at ho
    obtain ⟨k, hk, rfl⟩ := ho
    exact ⟨by simp, by simp, fun h => by simp at h, fun _ => hk⟩) (fun k hk => by
  obtain ⟨d, g1, g2, g3⟩ := hd2 k hk
  exact ⟨⟨0, d.1, d.2⟩, List.mem_append.2 (.inl (List.mem_map.2 ⟨d, g1, rfl⟩)), rfl, g2, g3⟩) (fun k hk => ⟨⟨1, k, k + 1⟩, List.mem_append.2 (.inr (List.mem_map.2 ⟨k, List.mem_range.2 hk, rfl⟩)), rfl, Nat.le_refl k, Nat.lt_succ_self k⟩) (O1.at hb not_false)
 obtain ⟨cb, hcb⟩ : ∃ cb, cb = cntS ems := ⟨_, rfl⟩
 rw [← hcb] at e2
 obtain ⟨h3, h3', hh3, hh3', s3, q3, n3, O3⟩ := fresh (h := h2) (List.replicate 14 (.int .i64 0)) (cntC N cb cc cd) 35 14 rfl rfl rfl (by omega) (by simp) (by simp)
 have e4 := lift (tuple_run (h := h3'))
 obtain ⟨h4, hh4, O4⟩ := gro (f := 14) (args := [.int .i64 0]) (h := h3')
 rw [← hh4] at e4
 obtain ⟨h5, h5', hh5, hh5', s5, q5, n5, O5⟩ := fresh (h := h4) tup0 (tupC 0) 43 5 rfl rfl rfl (by omega) (by simp) (by simp)
 have t0 : aload Tryz.prog (look h5') 3 (.ptr (some ⟨h4.length, 0, 5⟩)) = some (.int .i64 6) := cell_load n5 rfl (by simp) rfl
 have t1 : aload Tryz.prog (look h5') 28 (.ptr (some ⟨h4.length, 1, 5⟩)) = some (.int .u32 (srcA 0)) := cell_load n5 rfl (by simp) rfl
 have t2 : aload Tryz.prog (look h5') 28 (.ptr (some ⟨h4.length, 2, 5⟩)) = some (.int .u32 (dstA 0)) := cell_load n5 rfl (by simp) rfl
 have t3 : aload Tryz.prog (look h5') 3 (.ptr (some ⟨h4.length, 3, 5⟩)) = some (.int .i64 (srcP 0)) := cell_load n5 rfl (by simp) rfl
 have t4 : aload Tryz.prog (look h5') 3 (.ptr (some ⟨h4.length, 4, 5⟩)) = some (.int .i64 (dstP 0)) := cell_load n5 rfl (by simp) rfl
 have hbu : abuild Tryz.prog 43 [(0, .int .i64 6), (1, .int .u32 (dstA 0)), (2, .int .u32 (srcA 0)), (3, .int .i64 (dstP 0)), (4, .int .i64 (srcP 0))] = some (.agg (tupC 1)) := by simp [abuild, afill, zeros, tupC]; decide
 obtain ⟨h6, h6', hh6, hh6', s6, q6, n6, O6⟩ := fresh (h := h5') tup0 (tupC 1) 43 5 rfl rfl rfl (by omega) (by simp) (by simp)
 have l5 : aload Tryz.prog (look h6') 43 (.ptr (some ⟨h4.length, 0, 5⟩)) = some (.agg (tupC 0)) := ld_all (O6.at n5 not_false) rfl (by simp) (by simp)
 obtain ⟨h7, e7, O7⟩ := payload0 (.inr rfl) (by omega) (by omega) hNe (by omega) (C2.keep (((O3.trans O4).trans O5).trans O6))
 have l6 : aload Tryz.prog (look h7) 43 (.ptr (some ⟨h5'.length, 0, 5⟩)) = some (.agg (tupC 1)) := ld_all (O7.at n6 not_false) rfl (by simp) (by simp)
 obtain ⟨h8, e8, O8⟩ := payload1 (.inr rfl) (by omega) (by omega) hNe (by omega) (C2.keep ((((O3.trans O4).trans O5).trans O6).trans O7))
 have n3' := ((((O4.trans O5).trans O6).trans O7).trans O8).at n3 not_false
 have c4 : aload Tryz.prog (look h8) 3 (.ptr (some ⟨h2.length, 4, 14⟩)) = some (.int .i64 0) := cell_load n3' rfl (by simp) rfl
 have c5 : aload Tryz.prog (look h8) 3 (.ptr (some ⟨h2.length, 5, 14⟩)) = some (.int .i64 0) := cell_load n3' rfl (by simp) rfl
 have c2 : aload Tryz.prog (look h8) 3 (.ptr (some ⟨h2.length, 2, 14⟩)) = some (.int .i64 0) := cell_load n3' rfl (by simp) rfl
 have c8 : aload Tryz.prog (look h8) 3 (.ptr (some ⟨h2.length, 8, 14⟩)) = some (.int .i64 0) := cell_load n3' rfl (by simp) rfl
 have e9 := lift (notes_run hNe (by omega) (C2.keep (((((O3.trans O4).trans O5).trans O6).trans O7).trans O8)))
 obtain ⟨h9, hh9, O9⟩ := gro (f := 16) (args := [.sl (some ⟨bo, 0, 4 * N⟩) N N]) (h := h8)
 rw [← hh9] at e9
 obtain ⟨h10, e10⟩ := awake_run (h := h9)
 simp only [List.replicate] at hh3
 simp only [tup0] at hh5 hh6
 simp [c3_end, c3_r9, e1, e2, zeros, ← hh3, s3, ← hh3', c3_r10, e4, ← hh5, s5, ← hh5', c3_r11, t0, t1, t2, t3, t4, hbu, ← hh6, s6, ← hh6', c3_r12, l5, e7, l6, e8, c4, c5, c2, c8, e9, alen, e10]
section
variable {h : Heap} {tv cv ov : AV} {tl cl ol : List Int} {n : Int}
theorem main_run (ho : ov.one = true) (Ht : Sl1 h tv (intCells tl)) (Hc : Sl1 h cv (intCells cl)) (Ho : Sl1 h ov (intCells ol)) (ht1 : tv.one = true) (hc1 : cv.one = true)
  (bt : ∀ x ∈ tl, -9223372036854775808 ≤ x ∧ x ≤ 9223372036854775807) (bc : ∀ x ∈ cl, -9223372036854775808 ≤ x ∧ x ≤ 9223372036854775807) (bo : ∀ x ∈ ol, -9223372036854775808 ≤ x ∧ x ≤ 9223372036854775807)
  (hn1 : -9223372036854775808 ≤ n) (hn2 : n ≤ 9223372036854775807) (lt : tl.length ≤ 60) (lc : cl.length ≤ 60) (lo : ol.length ≤ 60) :
  Wt Tryz.prog (D cfg1) c3_main ⟨[(0, tv), (1, .int .i64 n), (2, cv), (3, ov)], h⟩ (Ends Tryz.prog [.tmp 8] fun r _ => r = .bool true) := by
 obtain ⟨r, hr, p8⟩ := place8_run (v := n) (n := 50) hn1 hn2 (by omega) (by omega)
 replace p8 : ∀ h, D cfg1 8 [.int .i64 n, .int .i64 50] h = some (.int .i64 r, h) := fun h => lift (p8 h)
 obtain ⟨s, h1, hs, e1, O1⟩ := letters_run (n := r) ht1 Ht bt (by omega) (by omega)
 replace e1 := lift e1
 have Ho1 := Ho.grow (O1.grow fun c hc => hc.elim)
 have al : alen Tryz.prog (look h1) 22 ov = some (.int .i64 (ol.length : Nat)) := by rw [Ho1.len (e := 3) (by simp), intCells_len]
 obtain ⟨m, hm⟩ : ∃ m, m = ol.length / 2 := ⟨_, rfl⟩
 have q2 : abin (.int .i64) .quo (.int .i64 (ol.length : Nat)) (.int .i64 2) = some (.int .i64 (m : Nat)) := by rw [hm]; exact a_quoN (b := 2) (by omega) (by omega)
 obtain ⟨u, h2, hu, e2, O2⟩ := letters_run (n := m) ho Ho1 bo (by omega) (by omega)
 replace e2 := lift e2
 obtain ⟨h3, b, e3, hb3, hlb, O3⟩ := hello_run (h := h2)
 replace e3 := lift e3
 have Hc3 := Hc.grow (((O1.trans O2).trans O3).grow fun c hc => hc.elim)
 obtain ⟨h4, b4, ds, e4, hds, hd1, hd2, B4, O4⟩ := stream_run (s := s) hc1 Hc3 bc (by omega) (by omega)
 replace e4 := lift e4
 have hb4 := O4.at hb3 not_false
 have hlen : (opsC (prO s ds)).length = ds.length * 3 := by rw [opsC_len, prO_len, Nat.mul_comm]
 obtain ⟨δ, h5, g1, g2, g3, O5⟩ := append_more (t := 26) (e := 32) (k := 3) (by simp) (by simp) (by omega) (by simp) (by simp) (h := h4) (b := b) (n := 3) (m := ds.length) (nx := h4.length) (xs := opsC helloO) (ys := opsC (prO s ds)) (v := bufSl b4 ds.length (opsC (prO s ds)))
  (src_buf (by simp) hlen fun hne => (B4.at_ hne).1) rfl hlen (by omega) hb4 (by omega) (by omega)
 rw [← allO_zero (u := u)] at g1 g3
 replace g1 : append2 Tryz.prog (look h4) h4.length 26 26 [.sl (some ⟨b, 0, 9⟩) 3 3, bufSl b4 ds.length (opsC (prO s ds))] = some (bufSl b (3 + ds.length) (opsC (allO s u ds 0)), δ) := g1
 simp [c3_main, c3_r3, p8, e1, al, q2, e2, ho, c3_r4, e3, e4, g1, g2, bufSl_one, bufSl_notTup, bufSl_cells, c3_r5]
 refine (srv_run (by omega) (by omega) g3).mono ?_
 rintro e σ' ⟨rfl, h6, rfl, hb6⟩
 exact end_run (by omega) (by omega) (by omega) hd1 hd2 hb6
theorem nothing_walk (ho : ov.one = true) (Ht : Sl1 h tv (intCells tl)) (Hc : Sl1 h cv (intCells cl)) (Ho : Sl1 h ov (intCells ol)) (ht1 : tv.one = true) (hc1 : cv.one = true)
  (bt : ∀ x ∈ tl, -9223372036854775808 ≤ x ∧ x ≤ 9223372036854775807) (bc : ∀ x ∈ cl, -9223372036854775808 ≤ x ∧ x ≤ 9223372036854775807) (bo : ∀ x ∈ ol, -9223372036854775808 ≤ x ∧ x ≤ 9223372036854775807)
  (hn1 : -9223372036854775808 ≤ n) (hn2 : n ≤ 9223372036854775807) :
  Wt Tryz.prog (D cfg1) c3 ⟨argsEnv 0 [tv, .int .i64 n, cv, ov], h⟩ (Ends Tryz.prog [.tmp 8] fun r _ => r = .bool true) := by
 have a1 : ∀ {L : Look}, alen Tryz.prog L 22 tv = some (.int .i64 (tl.length : Nat)) := by intro L; rw [Ht.len (e := 3) (by simp), intCells_len]
 have a2 : ∀ {L : Look}, alen Tryz.prog L 22 cv = some (.int .i64 (cl.length : Nat)) := by intro L; rw [Hc.len (e := 3) (by simp), intCells_len]
 have a3 : ∀ {L : Look}, alen Tryz.prog L 22 ov = some (.int .i64 (ol.length : Nat)) := by intro L; rw [Ho.len (e := 3) (by simp), intCells_len]
 obtain ⟨ha, e6⟩ := awake_run (h := h)
 rw [c3_split]
 by_cases lt : 60 < tl.length
 · have lt' : (60 : Int) < (tl.length : Nat) := by omega
   simp [c3_r0, c3_r1, a1, a2, a3, lt, lt', c3_r2, e6]
 have lt' : ¬ (60 : Int) < (tl.length : Nat) := by omega
 by_cases lc : 60 < cl.length
 · have lc' : (60 : Int) < (cl.length : Nat) := by omega
   simp [c3_r0, c3_r1, a1, a2, a3, lt, lc, lt', lc', c3_r2, e6]
 have lc' : ¬ (60 : Int) < (cl.length : Nat) := by omega
 by_cases lo : 60 < ol.length
 · have lo' : (60 : Int) < (ol.length : Nat) := by omega
   simp [c3_r0, c3_r1, a1, a2, a3, lt, lc, lo, lt', lc', lo', c3_r2, e6]
 have lo' : ¬ (60 : Int) < (ol.length : Nat) := by omega
 simp [c3_r0, c3_r1, a1, a2, a3, lt, lc, lo, lt', lc', lo']
 exact main_run ho Ht Hc Ho ht1 hc1 bt bc bo hn1 hn2 (by omega) (by omega) (by omega)
end
theorem i64_wf {n : Int} (h : (Lit.int .i64 n).wf = true) : -9223372036854775808 ≤ n ∧ n ≤ 9223372036854775807 := by
 simp [Lit.wf, IntKind.min, IntKind.max, IntKind.signed, IntKind.bits] at h
 omega
theorem inSl_one {b : Nat} {a : Option Addr} {len cap : Nat} {xs : List AV} : (inSl b a len cap xs).one = true := by
 unfold inSl; split <;> rfl
end
end Go.AM
