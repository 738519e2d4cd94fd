/-
  What the law TopNothing stands on, part 2.
-/
import Derived.Test.YtfmfkpmohlhajaaGreatDoorW3a
namespace Go.AM
open Go Go.Proofs Go.RowKit
set_option linter.unusedVariables false
set_option linter.unusedSimpArgs false
set_option maxRecDepth 100000
section
section
variable {h : Heap} {sp dp seq ack fl win src dst x : Nat} {body : Txt}
theorem hsize_run : D cfg 271 [.agg (headC sp dp seq ack fl win src dst)] h = some (.int .i64 20, G 271 [.agg (headC sp dp seq ack fl win src dst)] h) := by
 refine G_of (call271 (by simp) ?_)
 simp [c271, c271_r0, c271_r1, headC, segC, aload, row, alen9, wrap_i64]
theorem in_run {v m : Nat} (hv : v ≤ m) : D cfg 301 [.int .i64 v, .int .i64 m] h = some (.bool true, h) := by
 refine D_eq (call301 (by simp) ?_)
 simp [c301, c301_r0, c301_r1, hv]
theorem ipin_run {v m : Nat} (hv : v ≤ m) : D cfg 234 [.int .i64 v, .int .i64 m] h = some (.bool true, h) := by
 refine D_eq (call234 (by simp) ?_)
 simp [c234, c234_r0, c234_r1, hv]
theorem check_run (h1 : sp < 65536) (h2 : dp < 65536) (h3 : fl < 64) (h4 : win < 65536) : D cfg 272 [.agg (segC sp dp seq ack fl win)] h = some (.bool true, G 272 [.agg (segC sp dp seq ack fl win)] h) := by
 refine G_of (call272 (by simp) ?_)
 have e1 := fun h' => in_run (h := h') (v := sp) (m := 65535) (by omega)
 have e2 := fun h' => in_run (h := h') (v := dp) (m := 65535) (by omega)
 have e3 := fun h' => in_run (h := h') (v := fl) (m := 63) (by omega)
 have e4 := fun h' => in_run (h := h') (v := win) (m := 65535) (by omega)
 simp at e1 e2 e3 e4
 simp [c272, c272_r0, c272_r1, segC, aload, row, e1, e2, e3, e4, alen9, abin_rem]
theorem tcpput_run (h1 : sp < 65536) (h2 : dp < 65536) (h3 : fl < 64) (h4 : win < 65536) (h5 : seq < 4294967296) (h6 : ack < 4294967296) (h7 : src < 4294967296) (h8 : dst < 4294967296) (hb : body.length ≤ 1900) :
  D cfg 241 [.int .u32 src, .int .u32 dst, .agg (segC sp dp seq ack fl win), .str body] h = some (.tup [.str (tcpB src dst (tcpHd sp dp seq ack fl win) body), .int .i64 0], G 241 [.int .u32 src, .int .u32 dst, .agg (segC sp dp seq ack fl win), .str body] h) := by
 refine G_of (call241 (by simp) ?_)
 have e0 := fun h' => check_run (h := h') (seq := seq) (ack := ack) h1 h2 h3 h4
 have s0 := fun h' => hsize_run (h := h') (sp := sp) (dp := dp) (seq := seq) (ack := ack) (fl := fl) (win := win) (src := src) (dst := dst)
 have p0 := fun h' => pseudo_run (h := h') (sp := sp) (dp := dp) (seq := seq) (ack := ack) (fl := fl) (win := win) (n := 20 + body.length) h7 h8 (by omega)
 have e2 := fun h' v hv => big_run (h := h') (v := v) (n := 2) (by omega) (by omega) hv
 have e4 := fun h' v hv => big_run (h := h') (v := v) (n := 4) (by omega) (by omega) hv
 have e1 := fun h' v hv => big_run (h := h') (v := v) (n := 1) (by omega) (by omega) hv
 obtain ⟨c, hc⟩ : ∃ c, c = csum (pseudoB src dst (20 + body.length) ++ (tcpHd sp dp seq ack fl win ++ (0 :: 0 :: 0 :: 0 :: body))) := ⟨_, rfl⟩
 obtain ⟨p, hp⟩ : ∃ p, p = pseudoB src dst (20 + body.length) := ⟨_, rfl⟩
 obtain ⟨t, ht⟩ : ∃ t, t = tcpHd sp dp seq ack fl win := ⟨_, rfl⟩
 have hpl : p.length = 12 := by rw [hp]; exact pseudoB_len ..
 have htl : t.length = 16 := by rw [ht]; exact tcpHd_len ..
 rw [← hp] at p0 hc
 rw [← ht] at hc
 have e5 := fun (h' : Heap) => of_run (h := h' ++ [AObj.cells [.str p, .str t, .str [0, 0], .str (0 :: 0 :: body)] 9 true]) (v := .sl (some ⟨h'.length, 0, 4⟩) 4 4) (l := [p, t, [0, 0], 0 :: 0 :: body]) (Sl1.cells (xs := [.str p, .str t, .str [0, 0], .str (0 :: 0 :: body)]) (e := 9) (s := true) (by simp)) (by simp [hpl, htl]; omega) (by simp)
 simp only [List.flatten_cons, List.flatten_nil, List.append_nil, List.cons_append, List.nil_append, ← hc] at e5
 have f1 := fun h' => e2 h' sp (by omega)
 have f2 := fun h' => e2 h' dp (by omega)
 have f3 := fun h' => e2 h' win (by omega)
 have f4 := fun h' => e4 h' seq (by omega)
 have f5 := fun h' => e4 h' ack (by omega)
 have f6 := fun h' => e1 h' 80 (by omega)
 have f7 := fun h' => e1 h' fl (by omega)
 have f8 := fun h' => e2 h' c (by rw [hc]; unfold csum; omega)
 have k1 : IntKind.wrap .i64 (20 + (body.length : Int)) = ((20 + body.length : Nat) : Int) := by rw [wrap_i64 (by omega) (by omega)]; omega
 have k2 : ¬ (2000 : Int) < ((20 + body.length : Nat) : Int) := by omega
 have k3 : ∀ t, abin t .shl (.int .i64 5) (.int .u64 4) = some (.int .i64 80) := fun t => by rw [abin_shl (by omega)]; rfl
 simp only [headC, segC] at e0 s0 p0
 rw [tcpB, ← hp, ← ht, ← hc]
 simp at e0 s0 f1 f2 f3 f4 f5 f6 f7 f8
 simp [-Int.natCast_add] at p0
 have ht' : big sp 2 ++ (big dp 2 ++ (big seq 4 ++ (big ack 4 ++ (big 80 1 ++ (big fl 1 ++ big win 2))))) = t := ht.symm
 simp (maxDischargeDepth := 20) [c241, c241_r0, c241_r1, c241_r2, c241_r3, c241_r5, c241_r7, c241_r8, c241_r9, segC, abuild, afill, splice, astore, aload, row, alen9, conv283 h5, conv283 h6, wrap_i64, abin_quo, e0, s0, p0, f1, f2, f3, f4, f5, f6, f7, f8, k1, k2, k3, ht', abuildSlice, zeros, e5, htl, -Int.natCast_add]
 omega
theorem ipcheck_run : D cfg 192 [.agg (ipC src dst)] h = some (.bool true, G 192 [.agg (ipC src dst)] h) := by
 refine G_of (call192 (by simp) ?_)
 have e := fun h' v m hv => ipin_run (h := h') (v := v) (m := m) hv
 have e1 := fun h' => e h' 0 255 (by omega)
 have e2 := fun h' => e h' 64 255 (by omega)
 have e3 := fun h' => e h' 6 255 (by omega)
 have e4 := fun h' => e h' 0 65535 (by omega)
 have e5 := fun h' => e h' 0 65528 (by omega)
 simp at e1 e2 e3 e4 e5
 simp [c192, c192_r0, c192_r1, ipC, aload, row, e1, e2, e3, e4, e5, alen9, abin_rem]
theorem cut_run : D cfg 193 [.agg (ipC src dst)] h = some (.int .i64 0, G 193 [.agg (ipC src dst)] h) := by
 refine G_of (call193 (by simp) ?_)
 simp [c193, c193_r0, c193_r1, c193_r2, c193_r4, c193_r6, ipC, aload, row, abin_quo, wrap_i64]
theorem ipput_run (h1 : src < 4294967296) (h2 : dst < 4294967296) (hb : body.length ≤ 2000) : D cfg 135 [.agg (ipC src dst), .str body] h = some (.tup [.str (ipB src dst body), .int .i64 0], G 135 [.agg (ipC src dst), .str body] h) := by
 refine G_of (call135 (by simp) ?_)
 have e0 := fun h' => ipcheck_run (h := h') (src := src) (dst := dst)
 have ec := fun h' => cut_run (h := h') (src := src) (dst := dst)
 have e1 := fun h' => big_run (h := h') (v := src) (n := 4) (by omega) (by omega) (by omega)
 have e2 := fun h' => big_run (h := h') (v := dst) (n := 4) (by omega) (by omega) (by omega)
 have e3 := fun h' v hv => big_run (h := h') (v := v) (n := 2) (by omega) (by omega) hv
 have e4 := fun h' v hv => big_run (h := h') (v := v) (n := 1) (by omega) (by omega) hv
 obtain ⟨a, ha⟩ : ∃ a, a = ipA (20 + body.length) := ⟨_, rfl⟩
 obtain ⟨z, hz⟩ : ∃ z, z = ipZ src dst := ⟨_, rfl⟩
 have hal : a.length = 10 := by rw [ha]; exact ipA_len ..
 have hzl : z.length = 8 := by rw [hz]; exact ipZ_len ..
 obtain ⟨c, hc⟩ : ∃ c, c = csum (a ++ (0 :: 0 :: z)) := ⟨_, rfl⟩
 have e5 := fun (h' : Heap) => of_run (h := h' ++ [AObj.cells [.str a, .str [0, 0], .str z] 9 true]) (v := .sl (some ⟨h'.length, 0, 3⟩) 3 3) (l := [a, [0, 0], z]) (Sl1.cells (xs := [.str a, .str [0, 0], .str z]) (e := 9) (s := true) (by simp)) (by simp [hal, hzl]) (by simp)
 simp only [List.flatten_cons, List.flatten_nil, List.append_nil, List.cons_append, List.nil_append, ← hc] at e5
 have f2 := fun h' => e3 h' (20 + body.length) (by omega)
 have f3 := fun h' => e3 h' 0 (by omega)
 have f4 := fun h' => e3 h' c (by rw [hc]; unfold csum; omega)
 have g1 := fun h' => e4 h' 69 (by omega)
 have g2 := fun h' => e4 h' 0 (by omega)
 have g3 := fun h' => e4 h' 64 (by omega)
 have g4 := fun h' => e4 h' 6 (by omega)
 have k1 : IntKind.wrap .i64 (20 + (body.length : Int)) = ((20 + body.length : Nat) : Int) := by rw [wrap_i64 (by omega) (by omega)]; omega
 have k2 : ¬ (2000 : Int) < body.length := by omega
 have k3 : ∀ t, abin t .or (.int .i64 64) (.int .i64 5) = some (.int .i64 69) := fun t => by rw [abin_or]; rfl
 simp only [ipC] at e0 ec
 simp [-Int.natCast_add] at e0 ec e1 e2 f2 f3 f4 g1 g2 g3 g4
 have ha' : big 69 1 ++ (big 0 1 ++ (big (20 + body.length) 2 ++ (big 0 2 ++ (big 0 2 ++ (big 64 1 ++ big 6 1))))) = a := ha.symm
 have hz' : big src 4 ++ big dst 4 = z := hz.symm
 rw [ipB, ← ha, ← hz, ← hc]
 simp (maxDischargeDepth := 20) [c135, c135_r0, c135_r1, c135_r3, c135_r5, c135_r6, c135_r7, c135_r8, ipC, aload, row, alen9, conv283 h1, conv283 h2, wrap_i64, abin_quo, e0, ec, e1, e2, f2, f3, f4, g1, g2, g3, g4, k1, k2, k3, ha', hz', abuildSlice, afill, zeros, e5, hal, hzl, -Int.natCast_add]
 omega
theorem ethput_run (hx : x < 2) (hb : body.length ≤ 10000) : D cfg 136 [.agg (ethC (ethD x) (ethS x)), .str body] h = some (.str (ethB (ethD x) (ethS x) body), G 136 [.agg (ethC (ethD x) (ethS x)), .str body] h) := by
 refine G_of (call136 (by simp) ?_)
 have e3 := fun h' => big_run (h := h') (v := 2048) (n := 2) (by omega) (by omega) (by omega)
 simp at e3
 obtain rfl | rfl : x = 0 ∨ x = 1 := by omega
 all_goals
  simp (maxDischargeDepth := 9) [c136, c136_r0, c136_r1, ethC, ethD, ethS, byteCells, asliceA, aconv, slCells, row, cellBytes, aload, e3, ethB]
  omega
theorem dgram_run (hx : x < 2) (h1 : src < 4294967296) (h2 : dst < 4294967296) (hb : body.length ≤ 2000) : D cfg 90 [.agg (ethC (ethD x) (ethS x)), .agg (ipC src dst), .str body] h = some (.str (ethB (ethD x) (ethS x) (ipB src dst body)), G 90 [.agg (ethC (ethD x) (ethS x)), .agg (ipC src dst), .str body] h) := by
 refine G_of (call90 (by simp) ?_)
 have e0 := fun h' => ipput_run (h := h') h1 h2 hb
 have e1 := fun h' => ethput_run (h := h') (x := x) (body := ipB src dst body) hx (by rw [ipB_len]; omega)
 simp only [ipC] at e0 ⊢
 obtain rfl | rfl : x = 0 ∨ x = 1 := by omega
 all_goals
  simp [ethC, ethD, ethS, byteCells] at e1
  simp (maxDischargeDepth := 9) [ethC, ethD, ethS, byteCells, c90, c90_r0, c90_r1, c90_r2, c90_r4, aload, row, e0, e1]
theorem cseg_run (hx : x < 2) (h1 : sp < 65536) (h2 : dp < 65536) (h3 : fl < 64) (h4 : win < 65536) (h5 : seq < 4294967296) (h6 : ack < 4294967296) (h7 : src < 4294967296) (h8 : dst < 4294967296) (hb : body.length ≤ 1900) :
  D cfg 210 [.agg (ethC (ethD x) (ethS x)), .agg (ipC src dst), .agg (segC sp dp seq ack fl win), .str body] h = some (.str (ethB (ethD x) (ethS x) (ipB src dst (tcpB src dst (tcpHd sp dp seq ack fl win) body))), G 210 [.agg (ethC (ethD x) (ethS x)), .agg (ipC src dst), .agg (segC sp dp seq ack fl win), .str body] h) := by
 refine G_of (call210 (by simp) ?_)
 have e0 := fun h' => tcpput_run (h := h') h1 h2 h3 h4 h5 h6 h7 h8 hb
 have e1 := fun h' => dgram_run (h := h') (body := tcpB src dst (tcpHd sp dp seq ack fl win) body) hx h7 h8 (by rw [tcpB_len _ _ _ _ (tcpHd_len ..)]; omega)
 simp only [segC] at e0 ⊢
 simp only [ipC] at e1 ⊢
 obtain rfl | rfl : x = 0 ∨ x = 1 := by omega
 all_goals
  simp [ethC, ethD, ethS, byteCells] at e1
  simp (maxDischargeDepth := 9) [ethC, ethD, ethS, byteCells, c210, c210_r0, c210_r1, c210_r2, c210_r4, aload, row, e0, e1]
end
end
section
theorem wu32 (n : Int) : IntKind.wrap .u32 n = n % 4294967296 := by simp [IntKind.wrap, IntKind.signed, IntKind.bits]
theorem wi32 (n : Int) : IntKind.wrap .i32 n = if n % 4294967296 ≥ 2147483648 then n % 4294967296 - 4294967296 else n % 4294967296 := by simp [IntKind.wrap, IntKind.signed, IntKind.bits]
section
variable {h : Heap} {start near : Nat} {off : Int}
theorem plus_run (n : Int) : D cfg 45 [.int .u32 start, .int .i64 n] h = some (.int .u32 ((start + n) % 4294967296), h) := by
 refine D_eq (call45 (by simp) ?_)
 have e : ∀ h', D cfg 81 [.int .i64 n] h' = some (.int .u32 (n % 4294967296), h') := fun h' => by
  refine D_eq (call81 (by simp) ?_)
  simp [c81, c81_r0, c81_r1, aconv, wu32]
 simp [c45, c45_r0, c45_r1, e, wu32]
theorem diff_run (a b : Int) {d : Int} (hd : (a - b) % 4294967296 = d % 4294967296) (h1 : -2147483648 ≤ d) (h2 : d < 2147483648) : D cfg 44 [.int .u32 a, .int .u32 b] h = some (.int .i64 d, h) := by
 refine D_eq (call44 (by simp) ?_)
 have e1 : IntKind.wrap .i32 ((a - b) % 4294967296) = d := by rw [wi32, hd]; split <;> omega
 have e2 : IntKind.wrap .i64 d = d := wrap_i64 (by omega) (by omega)
 have c80 : ∀ h', D cfg 80 [.int .u32 ((a - b) % 4294967296)] h' = some (.int .i32 d, h') := fun h' => by
  refine D_eq (call80 (by simp) ?_)
  simp [c80, c80_r0, c80_r1, aconv, e1]
 have c79 : ∀ h', D cfg 79 [.int .i32 d] h' = some (.int .i64 d, h') := fun h' => by
  refine D_eq (call79 (by simp) ?_)
  simp [c79, c79_r0, c79_r1, aconv, e2]
 simp [c44, c44_r0, c44_r1, wu32, c80, c79]
theorem place_run (hn : near ≤ 2000) (h1 : -1 ≤ off) (h2 : off ≤ 2000) : D cfg 25 [.int .u32 start, .int .u32 ((start + off) % 4294967296), .int .i64 near] h = some (.int .i64 off, h) := by
 refine D_eq (call25 (by simp) ?_)
 have e1 : ¬ (1099511627776 : Int) < near := by omega
 have e2 := fun h' => plus_run (h := h') (start := start) (near : Int)
 have e3 := fun h' => diff_run (h := h') ((start + off) % 4294967296) ((start + near) % 4294967296) (d := off - near) (by omega) (by omega) (by omega)
 have e4 : IntKind.wrap .i64 ((near : Int) + (off - near)) = off := by rw [wrap_i64 (by omega) (by omega)]; omega
 have e5 : (if 0 < near then (near : Int) else 0) = near := by split <;> omega
 simp [c25, c25_r0, c25_r1, c25_r2, amin, amin1, amax, amax1, e1, e2, e3, e4, e5]
end
def byteAt (s : Txt) (k : Nat) : AV := .int .u8 ((s.getD k 0).toNat : Int)
def heldE (s : Txt) (L : List (Nat × Nat)) : List (AV × AV × Nat) := L.map fun kc => (.int .i64 (kc.1 : Int), byteAt s kc.1, kc.2)
def keys (L : List (Nat × Nat)) : List Nat := L.map (·.1)
theorem keq_int {a b : Nat} : keq (.int .i64 (a : Int)) (.int .i64 (b : Int)) = some (decide (a = b)) := by
 simp only [keq, ikey, if_true]
 congr 1
 by_cases h : a = b
 · simp [h]
 · have : ¬ (a : Int) = b := by omega
   simp [h, this]
theorem find_held {s : Txt} {k : Nat} : ∀ {L : List (Nat × Nat)}, mfind (.int .i64 (k : Int)) (heldE s L) = if k ∈ keys L then some (byteAt s k) else none
 | [] => rfl
 | kc :: L => by
  simp only [heldE, List.map_cons, mfind, keq_int, keys]
  by_cases h : k = kc.1
  · simp [h]
  · have := find_held (s := s) (k := k) (L := L)
    simp only [heldE, keys] at this
    simp only [h, decide_false, Option.some.injEq, Bool.false_eq_true, if_false, this, List.mem_cons, false_or]
    by_cases hk : k ∈ List.map (fun x => x.fst) L <;> simp only [hk, if_true, if_false]
theorem put_held {s : Txt} {k c : Nat} : ∀ {L : List (Nat × Nat)}, k ∉ keys L → mput (.int .i64 (k : Int)) (byteAt s k) c (heldE s L) = heldE s (L ++ [(k, c)])
 | [], _ => rfl
 | kc :: L, hk => by
  simp only [keys, List.map_cons, List.mem_cons, not_or] at hk
  have := put_held (s := s) (k := k) (c := c) (L := L) hk.2
  simp only [heldE, List.map_cons, List.cons_append, mput, keq_int] at this ⊢
  simp [hk.1, this]
def eraseK (k : Nat) (L : List (Nat × Nat)) : List (Nat × Nat) := L.eraseP fun kc => k = kc.1
theorem erase_held {s : Txt} {k : Nat} : ∀ {L : List (Nat × Nat)}, merase (.int .i64 (k : Int)) (heldE s L) = heldE s (eraseK k L)
 | [] => rfl
 | kc :: L => by
  have := erase_held (s := s) (k := k) (L := L)
  simp only [heldE, List.map_cons, merase, keq_int, eraseK] at this ⊢
  by_cases h : k = kc.1
  · simp [h]
  · simp [h, this]
theorem erase_keys {k j : Nat} : ∀ {L : List (Nat × Nat)}, j ∈ keys L → j ≠ k → j ∈ keys (eraseK k L)
 | kc :: L, hj, hne => by
  simp only [keys, List.map_cons, List.mem_cons, eraseK] at hj ⊢
  by_cases h : k = kc.1
  · have : j ≠ kc.1 := by omega
    simp [h]
    simpa [this] using hj
  · rcases hj with rfl | hj
    · simp [h]
    · have := erase_keys (k := k) (L := L) hj hne
      simp only [keys, eraseK] at this
      simp [h]
      exact .inr (by simpa using this)
theorem erase_sub {k j : Nat} {L : List (Nat × Nat)} (h : j ∈ keys (eraseK k L)) : j ∈ keys L := by
 simp only [keys, eraseK, List.mem_map] at h ⊢
 obtain ⟨x, h1, h2⟩ := h
 exact ⟨x, List.mem_of_mem_eraseP h1, h2⟩
theorem erase_len {k : Nat} : ∀ {L : List (Nat × Nat)}, k ∈ keys L → (eraseK k L).length + 1 = L.length
 | kc :: L, hk => by
  simp only [keys, List.map_cons, List.mem_cons, eraseK] at hk ⊢
  by_cases h : k = kc.1
  · simp [h]
  · have := erase_len (k := k) (L := L) (by simpa [keys, h] using hk)
    simp only [eraseK] at this
    simp [h, this]
end
section
def dirC (start n m : Nat) (last : Txt) : List AV := [.int .u32 start, .int .i64 1000, .int .i64 1000, .int .i64 n, .map (some m), .str last, .int .i64 (-1), .bool false]
abbrev dPtr (d : Nat) : AV := .ptr (some ⟨d, 0, 8⟩)
structure DirU (h : Heap) (d m start : Nat) (s : Txt) (n r : Nat) (L : List (Nat × Nat)) : Prop where
 dir : h[d]? = some (.cells (dirC start n m (s.take r)) 329 false)
 held : ∃ c, h[m]? = some (.map 73 (heldE s L) c)
 keys : ∀ k ∈ keys L, k < s.length
 ne : d ≠ m
 le : n ≤ s.length
 short : s.length ≤ 1000
theorem DirU.keep {h h' : Heap} {d m start : Nat} {s : Txt} {n r : Nat} {L : List (Nat × Nat)} {fp : Nat → Prop} (H : DirU h d m start s n r L) (g : Only fp h h') (hd : ¬ fp d) (hm : ¬ fp m) : DirU h' d m start s n r L :=
 ⟨g.at H.dir hd, let ⟨c, hc⟩ := H.held; ⟨c, g.at hc hm⟩, H.keys, H.ne, H.le, H.short⟩
section
variable {h : Heap} {d m start n : Nat} {s : Txt} {L : List (Nat × Nat)}
structure Rel (s : Txt) (n n' : Nat) (L L' : List (Nat × Nat)) : Prop where
 le : n ≤ n'
 sub : ∀ k ∈ keys L', k ∈ keys L
 all : ∀ k ∈ keys L, k < n' ∨ k ∈ keys L'
 was : ∀ k, n ≤ k → k < n' → k ∈ keys L
theorem dload {h : Heap} {d n m : Nat} {last : Txt} (hd : h[d]? = some (.cells (dirC start n m last) 329 false)) : row (look h) ⟨d, 0, 8⟩ = some (dirC start n m last) := by simp [row, hd, dirC]
theorem dirLd {h : Heap} {d n m : Nat} {last : Txt} (hd : h[d]? = some (.cells (dirC start n m last) 329 false)) :
  aload Tryz.prog (look h) 28 (.ptr (some ⟨d, 0, 8⟩)) = some (.int .u32 start) ∧ aload Tryz.prog (look h) 3 (.ptr (some ⟨d, 1, 8⟩)) = some (.int .i64 1000) ∧ aload Tryz.prog (look h) 3 (.ptr (some ⟨d, 2, 8⟩)) = some (.int .i64 1000) ∧
  aload Tryz.prog (look h) 3 (.ptr (some ⟨d, 3, 8⟩)) = some (.int .i64 n) ∧ aload Tryz.prog (look h) 73 (.ptr (some ⟨d, 4, 8⟩)) = some (.map (some m)) ∧ aload Tryz.prog (look h) 9 (.ptr (some ⟨d, 5, 8⟩)) = some (.str last) ∧
  aload Tryz.prog (look h) 3 (.ptr (some ⟨d, 6, 8⟩)) = some (.int .i64 (-1)) ∧ aload Tryz.prog (look h) 4 (.ptr (some ⟨d, 7, 8⟩)) = some (.bool false) := by
 have hl : (dirC start n m last).length = 8 := rfl
 refine ⟨?_, ?_, ?_, ?_, ?_, ?_, ?_, ?_⟩ <;> exact cell_load hd hl (by simp) rfl
theorem dirSt {h : Heap} {d n m off : Nat} {last : Txt} {v : AV} {t : TypeId} (hd : h[d]? = some (.cells (dirC start n m last) 329 false)) (ht : tsz Tryz.prog t = 1) (hv : v.one = true) (ho : off < 8) :
  astore Tryz.prog (look h) t (.ptr (some ⟨d, off, 8⟩)) v = some (.set d (.cells ((dirC start n m last).set off v) 329 false)) := cell_store hd rfl ht hv ho
def Inv213 (h : Heap) (d m start : Nat) (s : Txt) (n : Nat) (L : List (Nat × Nat)) (M : Nat) (σ : St) : Prop :=
 ∃ h1 n1 L1 b, M = L1.length ∧ σ = ⟨[(0, dPtr d), (3, bufSl b (n1 - n) (byteCells ((s.drop n).take (n1 - n))))], h1⟩ ∧ Buf 5 1 h.length (byteCells ((s.drop n).take (n1 - n))) (n1 - n) b h1 ∧ DirU h1 d m start s n1 n L1 ∧ Rel s n n1 L L1 ∧ Only (fun c => c = d ∨ c = m) h h1
theorem release_run (H : DirU h d m start s n n L) : ∃ h' n' L', D cfg 213 [dPtr d] h = some (.str ((s.drop n).take (n' - n)), h') ∧ DirU h' d m start s n' n' L' ∧ Rel s n n' L L' ∧ n' ∉ keys L' ∧ Only (fun c => c = d ∨ c = m) h h' := by
 obtain ⟨r, h', h1, h2⟩ : ∃ r h', D cfg 213 [dPtr d] h = some (r, h') ∧ ∃ n' L', r = .str ((s.drop n).take (n' - n)) ∧ DirU h' d m start s n' n' L' ∧ Rel s n n' L L' ∧ n' ∉ keys L' ∧ Only (fun c => c = d ∨ c = m) h h' := by
  refine call213 (by simp) ?_
  have hdlt := lt_of_at H.dir
  obtain ⟨c0, hm0⟩ := H.held
  have hmlt := lt_of_at hm0
  simp [c213, c213_r0, c213_r1]
  refine Wt.loop (Inv213 h d m start s n L)
   (m := L.length) ⟨h, n, L, 0, rfl, by simp [bufSl], by simp; exact .zero, H, ⟨Nat.le_refl _, fun _ h => h, fun _ h => .inr h, fun k h1 h2 => by omega⟩, .refl⟩ ?_
  rintro M σ ⟨h1, n1, L1, b, rfl, rfl, B, H1, R, O⟩
  obtain ⟨c1, hm1⟩ := H1.held
  have hr := dload H1.dir
  have hne := H.ne
  have hd1 := lt_of_at H1.dir
  have hmm1 := lt_of_at hm1
  have hle := R.le
  have hsh := H.short
  have hle1 := H1.le
  have hrow : ∀ off, row (look h1) ⟨d, off, 8⟩ = some (dirC start n1 m (s.take n)) := fun off => hr
  by_cases hk : n1 ∈ keys L1
  · have hlk : alookup Tryz.prog (look h1) 73 (.map (some m)) (.int .i64 n1) true = some (.tup [byteAt s n1, .bool true]) := by
     simp [alookup, hm1, shapeOf, kkOfV, find_held, hk]
    have hdel : adelete Tryz.prog (look h1) 73 (.map (some m)) (.int .i64 n1) = some (.set m (.map 73 (heldE s (eraseK n1 L1)) c1)) := by
     simp [adelete, hm1, shapeOf, kkOfV, erase_held]
    have hn1 := H1.keys n1 hk
    obtain ⟨h2, hh2⟩ : ∃ h2, h2 = h1.set m (.map 73 (heldE s (eraseK n1 L1)) c1) := ⟨_, rfl⟩
    have O2 : Only (fun c => c = m) h1 h2 := by rw [hh2]; exact .set rfl
    have hd2 := O2.at H1.dir H.ne
    have hm2 : h2[m]? = some (.map 73 (heldE s (eraseK n1 L1)) c1) := by rw [hh2, List.getElem?_set_self hmm1]
    have B2 := B.more O2 fun c hc => by omega
    have hl2 : h.length ≤ h2.length := Nat.le_trans O.1 O2.1
    obtain ⟨δ, h3, b', q1, q2, B3, O3⟩ := B2.step (t := 54) (by simp) (by simp) (by omega) (by simp) (by simp) hl2 (by omega) (ys := [byteAt s n1]) rfl
    have hd3 := O3.at hd2 (by omega)
    have hm3 := O3.at hm2 (by omega)
    have st := dirSt (off := 3) (t := 3) (v := .int .i64 (n1 + 1 : Nat)) hd3 (by simp) rfl (by omega)
    obtain ⟨h4, hh4⟩ : ∃ h4, h4 = h3.set d (.cells (dirC start (n1 + 1) m (s.take n)) 329 false) := ⟨_, rfl⟩
    have hd4 : h4[d]? = some (.cells (dirC start (n1 + 1) m (s.take n)) 329 false) := by rw [hh4, List.getElem?_set_self (lt_of_at hd3)]
    have O4 : Only (fun c => c = d) h3 h4 := by rw [hh4]; exact .set rfl
    have hm4 := O4.at hm3 (fun e => hne e.symm)
    obtain ⟨_, _, _, f3, f4, _, f6, _⟩ := dirLd H1.dir
    obtain ⟨_, _, _, g3, g4, _, _, _⟩ := dirLd hd3
    have w1 := i64s (n := n1) (by omega)
    have e5 : (s.drop n).take (n1 + 1 - n) = (s.drop n).take (n1 - n) ++ [s.getD n1 0] := by
     have hq : n1 + 1 - n = (n1 - n) + 1 := by omega
     rw [hq, List.take_succ_eq_append_getElem (by simp; omega), List.getElem_drop]
     congr 2
     have : n + (n1 - n) = n1 := by omega
     simp only [this, List.getD_eq_getElem?_getD, List.getElem?_eq_getElem hn1, Option.getD_some]
    have e6 : byteCells ((s.drop n).take (n1 - n)) ++ [byteAt s n1] = byteCells ((s.drop n).take (n1 + 1 - n)) := by rw [e5, byteCells_app]; rfl
    have e7 : n1 - n + 1 = n1 + 1 - n := by omega
    rw [e6, e7] at B3 q1
    have hst : (dirC start n1 m (s.take n)).set 3 (.int .i64 (n1 + 1 : Nat)) = dirC start (n1 + 1) m (s.take n) := rfl
    rw [hst, ] at st
    have hnext : Inv213 h d m start s n L (eraseK n1 L1).length ⟨[(0, dPtr d), (3, bufSl b' (n1 + 1 - n) (byteCells ((s.drop n).take (n1 + 1 - n))))], h4⟩ := by
     refine ⟨h4, n1 + 1, eraseK n1 L1, b', rfl, rfl, B3.more O4 fun c hc => by omega, ⟨hd4, ⟨c1, hm4⟩, fun k hk => H1.keys k (erase_sub hk), hne, by omega, hsh⟩, ⟨by omega, fun k hk => R.sub k (erase_sub hk), fun k hk => ?_, fun k h1 h2 => ?_⟩, ?_⟩
     · rcases R.all k hk with h | h
       · exact .inl (by omega)
       · by_cases e : k = n1
         · exact .inl (by omega)
         · exact .inr (erase_keys h e)
     · by_cases e : k = n1
       · subst e; exact R.sub _ hk
       · exact R.was k h1 (by omega)
     · exact ((O.next O2 fun c _ hc => .inr hc).next O3 fun c h1 h2 => by omega).next O4 fun c _ hc => .inl hc
    obtain ⟨x, hx⟩ : ∃ x : Int, byteAt s n1 = .int .u8 x := ⟨_, rfl⟩
    rw [hx] at hlk q1 q2
    simp at st
    simp [c213_l2, c213_r2, c213_r3, c213_r4, c213_r5, c213_r6, f3, f4, f6, hlk, hdel, ← hh2, abuildSlice, afill, zeros, q1, q2, g3, w1, st, ← hh4]
    have hel := erase_len hk
    exact ⟨_, by omega, hnext⟩
  · have hlk : alookup Tryz.prog (look h1) 73 (.map (some m)) (.int .i64 n1) true = some (.tup [.int .u8 0, .bool false]) := by
     simp [alookup, hm1, shapeOf, kkOfV, find_held, hk]
    obtain ⟨_, _, f2, f3, f4, f5, f6, _⟩ := dirLd H1.dir
    have e1 : s.take n ++ (s.drop n).take (n1 - n) = s.take n1 := by
     have : n1 = n + (n1 - n) := by omega
     conv => rhs; rw [this, List.take_add]
    have hcv := B.bytes
    obtain ⟨v, hv⟩ : ∃ v, v = bufSl b (n1 - n) (byteCells ((s.drop n).take (n1 - n))) := ⟨_, rfl⟩
    rw [← hv] at hcv ⊢
    have st := dirSt (off := 5) (t := 9) (v := .str (s.take n1)) H1.dir (by simp) rfl (by omega)
    obtain ⟨h2, hh2⟩ : ∃ h2, h2 = h1.set d (.cells (dirC start n1 m (s.take n1)) 329 false) := ⟨_, rfl⟩
    have hd2 : h2[d]? = some (.cells (dirC start n1 m (s.take n1)) 329 false) := by rw [hh2, List.getElem?_set_self hd1]
    have O2 : Only (fun c => c = d) h1 h2 := by rw [hh2]; exact .set rfl
    have hm2 := O2.at hm1 (fun e => hne e.symm)
    obtain ⟨_, _, g2, g3, g4, g5, g6, _⟩ := dirLd hd2
    have st2 := dirSt (off := 5) (t := 9) (v := .str (s.take n1)) hd2 (by simp) rfl (by omega)
    have hs1 : (dirC start n1 m (s.take n)).set 5 (.str (s.take n1)) = dirC start n1 m (s.take n1) := rfl
    have hs2 : (dirC start n1 m (s.take n1)).set 5 (.str (s.take n1)) = dirC start n1 m (s.take n1) := rfl
    rw [hs1] at st
    rw [hs2] at st2
    have hh3 : h2.set d (.cells (dirC start n1 m (s.take n1)) 329 false) = h2 := by rw [hh2, List.set_set]
    have B2 := B.more O2 fun c hc => by omega
    have hcv2 := B2.bytes
    rw [← hv] at hcv2
    have l1 : ¬ (1000 : Int) < (s.take n1).length := by rw [List.length_take]; omega
    have w1 : IntKind.wrap .i64 (((s.take n1).length : Int) - 1000) = ((s.take n1).length : Int) - 1000 := wrap_i64 (by omega) (by rw [List.length_take]; omega)
    obtain ⟨u, hu⟩ : ∃ u, u = s.take n1 := ⟨_, rfl⟩
    rw [← hu] at e1 st st2 g5 l1 w1 hh2 hh3 hd2
    simp [c213_l2, c213_r2, c213_r3, f3, f4, hlk, c213_r7, f5, hcv, e1, st, ← hh2, c213_r8, g5, g2, alen9, w1, amax, amax1, l1, st2, hh3, c213_r9, hcv2]
    exact ⟨by omega, n1, rfl, L1, ⟨by rw [← hu]; exact hd2, ⟨c1, hm2⟩, H1.keys, hne, hle1, hsh⟩, R, hk, O.next O2 fun c _ hc => .inl hc⟩
 obtain ⟨n', L', rfl, h3⟩ := h2
 exact ⟨h', n', L', h1, h3⟩
end
end
section
section
variable {h : Heap} {d m start n : Nat} {s : Txt} {L : List (Nat × Nat)}
theorem dirstart_run (hs : start < 4294967296) : D cfg 158 [.int .u32 start, .int .i64 1000, .int .i64 1000] h = some (dPtr (h.length + 1), h ++ [.map 73 [] 0, .cells (dirC start 0 h.length []) 329 false]) := by
 refine D_eq (call158 (by simp) ?_)
 simp [c158, c158_r0, c158_r1, amin, amin1, amax, amax1, op_makeMap (P := Tryz.prog) (t := 73) (kt := 3) (et := 5) (by simp) (by simp), abuild, afill, dirC]
theorem dirseq_run {h : Heap} {d n m : Nat} {last : Txt} (hd : h[d]? = some (.cells (dirC start n m last) 329 false)) (k : Int) : D cfg 161 [dPtr d, .int .i64 k] h = some (.int .u32 ((start + k) % 4294967296), h) := by
 refine D_eq (call161 (by simp) ?_)
 obtain ⟨f0, _⟩ := dirLd hd
 simp [c161, c161_r0, c161_r1, f0, plus_run]
theorem done_run {h : Heap} {d n m : Nat} {last : Txt} (hd : h[d]? = some (.cells (dirC start n m last) 329 false)) : D cfg 215 [dPtr d] h = some (.bool false, h) := by
 refine D_eq (call215 (by simp) ?_)
 obtain ⟨_, _, _, _, _, _, _, f7⟩ := dirLd hd
 simp [c215, c215_r0, c215_r1, f7]
def gotC (k : Nat) (f : Nat) (data : Txt) : List AV := [.int .i64 k, .int .i64 f, .str data, .bool false]
theorem push_pure {a : Nat} (H : DirU h d m start s n n L) (ha : a ≤ s.length) : D cfg 164 [dPtr d, .int .u32 ((start + a) % 4294967296), .str [], .bool false] h = some (.agg (gotC 0 0 []), G 164 [dPtr d, .int .u32 ((start + a) % 4294967296), .str [], .bool false] h) := by
 refine G_of (call164 (by simp) ?_)
 obtain ⟨h1, hh1⟩ : ∃ h1, h1 = h ++ [AObj.cells [.int .i64 0, .int .i64 0, .str [], .bool false] 273 false] := ⟨_, rfl⟩
 have O1 : Only (fun _ => False) h h1 := by rw [hh1]; exact .app
 have hx1 : h1[h.length]? = some (.cells [.int .i64 0, .int .i64 0, .str [], .bool false] 273 false) := by rw [hh1]; simp
 have hxl := lt_of_at hx1
 obtain ⟨f0, _, _, f3, _⟩ := dirLd (O1.at H.dir id)
 have hsh := H.short
 have hle := H.le
 have e1 := fun h' => place_run (h := h') (start := start) (near := n) (off := a) (by omega) (by omega) (by omega)
 have s1 := st_all (n := 4) (t := 273) (vs := [.int .i64 0, .int .i64 0, .str [], .bool false]) hx1 rfl rfl rfl (by omega) (by simp)
 have hg : Grow h h1 := O1.grow fun c hc => hc.elim
 simp [c164, c164_r0, ← hh1, c164_r1, f0, f3, e1, c164_r2, alen9, c164_r3, i64 (n := a) (by omega), c164_r4, abuild, afill, s1, ld_set, hxl, gotC, hg]
structure Psh (s : Txt) (n n' a b : Nat) (L L' : List (Nat × Nat)) : Prop where
 le : n ≤ n'
 all : ∀ k, (k ∈ keys L ∨ (a ≤ k ∧ k < b)) → k < n' ∨ k ∈ keys L'
 out : n' ∉ keys L'
def Ins (h1 : Heap) (d m start : Nat) (s : Txt) (n a : Nat) (L : List (Nat × Nat)) (i : Nat) (h2 : Heap) : Prop :=
 ∃ L1, DirU h2 d m start s n n L1 ∧ (∀ k ∈ keys L, k ∈ keys L1) ∧ (∀ k, a ≤ k → k < a + i → n ≤ k → k ∈ keys L1) ∧ Only (fun c => c = m) h1 h2
theorem keys_snoc {L : List (Nat × Nat)} {k c j : Nat} : j ∈ keys (L ++ [(k, c)]) ↔ j ∈ keys L ∨ j = k := by simp [keys]
def gotOf (s : Txt) (n n' a b : Nat) : List AV := if n < n' then gotC 1 n ((s.drop n).take (n' - n)) else if n < b then gotC 4 0 [] else gotC 2 a ((s.drop a).take (b - a))
theorem push_run {a b : Nat} (H : DirU h d m start s n n L) (hab : a < b) (hb : b ≤ s.length) :
  ∃ h' n' L', D cfg 164 [dPtr d, .int .u32 ((start + a) % 4294967296), .str ((s.drop a).take (b - a)), .bool false] h = some (.agg (gotOf s n n' a b), h') ∧ DirU h' d m start s n' n' L' ∧ Psh s n n' a b L L' ∧ Only (fun c => c = d ∨ c = m) h h' := by
 obtain ⟨r, h', h1, h2⟩ : ∃ r h', D cfg 164 [dPtr d, .int .u32 ((start + a) % 4294967296), .str ((s.drop a).take (b - a)), .bool false] h = some (r, h') ∧ ∃ n' L', r = .agg (gotOf s n n' a b) ∧ DirU h' d m start s n' n' L' ∧ Psh s n n' a b L L' ∧ Only (fun c => c = d ∨ c = m) h h' := by
  refine call164 (by simp) ?_
  obtain ⟨data, hdata⟩ : ∃ data, data = (s.drop a).take (b - a) := ⟨_, rfl⟩
  have hdl : data.length = b - a := by rw [hdata]; simp; omega
  have hdne : data ≠ [] := fun e => by rw [e] at hdl; simp at hdl; omega
  have hdlt := lt_of_at H.dir
  obtain ⟨c0, hm0⟩ := H.held
  have hmlt := lt_of_at hm0
  obtain ⟨h1, hh1⟩ : ∃ h1, h1 = h ++ [AObj.cells [.int .i64 0, .int .i64 0, .str [], .bool false] 273 false] := ⟨_, rfl⟩
  have O1 : Only (fun _ => False) h h1 := by rw [hh1]; exact .app
  have H1 := H.keep O1 id id
  have hx1 : h1[h.length]? = some (.cells [.int .i64 0, .int .i64 0, .str [], .bool false] 273 false) := by rw [hh1]; simp
  obtain ⟨f0, f1, f2, f3, f4, f5, f6, f7⟩ := dirLd H1.dir
  have hsh := H.short
  have hle := H.le
  have e1 := fun h' => place_run (h := h') (start := start) (near := n) (off := a) (by omega) (by omega) (by omega)
  have w1 : IntKind.wrap .i64 ((a : Int) + ((b - a : Nat) : Int)) = b := by rw [wrap_i64 (by omega) (by omega)]; omega
  have w2 : IntKind.wrap .i64 ((n : Int) + 1000) = (n : Int) + 1000 := wrap_i64 (by omega) (by omega)
  have l1 : ¬ (n : Int) + 1000 < b := by omega
  rw [← hdata]
  simp [c164, c164_r0, ← hh1, c164_r1, f0, f1, f3, f6, e1, c164_r2, alen9, c164_r3, hdl, hdne, w1, c164_r5, c164_r10, w2, l1, c164_r12, c164_r14]
  refine Wt.forP (fun i => [(0, dPtr d), (2, .str data), (3, .bool false), (8, .ptr (some ⟨h.length, 0, 4⟩)), (9, .int .i64 a), (10, .int .i64 b), (109, .int .i64 (b - a : Nat)), (110, .int .i64 (i : Nat))]) (Ins h1 d m start s n a L) (b - a) ?_ ?_ ?_
  · intro i h2 hi hI
    obtain ⟨L1, H2, K1, K2, O2⟩ := hI
    obtain ⟨c2, hm2⟩ := H2.held
    obtain ⟨_, _, _, g3, g4, _, _, _⟩ := dirLd H2.dir
    obtain ⟨k, hk⟩ : ∃ k, k = a + i := ⟨_, rfl⟩
    have hks : k < s.length := by omega
    have v1 : IntKind.wrap .i64 ((a : Int) + (i : Int)) = k := by rw [wrap_i64 (by omega) (by omega)]; omega
    have v2 := i64s (n := i) (by omega)
    have hdi : data[i]? = some (s.getD k 0) := by
     rw [hdata, List.getElem?_take, if_pos hi, List.getElem?_drop, ← hk, List.getD_eq_getElem?_getD, List.getElem?_eq_getElem hks]; rfl
    have hidx : aindex Tryz.prog 9 (.str data) (.int .i64 (i : Int)) = some (byteAt s k) := by rw [at9 (by omega) (c := s.getD k 0) (by simpa using hdi)]; rfl
    have hlk : alookup Tryz.prog (look h2) 73 (.map (some m)) (.int .i64 k) true = some (.tup [if k ∈ keys L1 then byteAt s k else .int .u8 0, .bool (decide (k ∈ keys L1))]) := by
     by_cases hin : k ∈ keys L1 <;> simp [alookup, hm2, shapeOf, kkOfV, find_held, hin]
    obtain ⟨x, hx⟩ : ∃ x : Int, (if k ∈ keys L1 then byteAt s k else .int .u8 0) = .int .u8 x := by split; exact ⟨_, rfl⟩; exact ⟨_, rfl⟩
    rw [hx] at hlk
    by_cases hput : k ∉ keys L1 ∧ n ≤ k
    · obtain ⟨h3, hh3⟩ : ∃ h3, h3 = h2.set m (.map 73 (heldE s (L1 ++ [(k, c2)])) (c2 + 1)) := ⟨_, rfl⟩
      have hm3 : h3[m]? = some (.map 73 (heldE s (L1 ++ [(k, c2)])) (c2 + 1)) := by rw [hh3, List.getElem?_set_self (lt_of_at hm2)]
      have O3 : Only (fun c => c = m) h2 h3 := by rw [hh3]; exact .set rfl
      have hup : amapUpdate Tryz.prog (look h2) 73 (.map (some m)) (.int .i64 k) (byteAt s k) = some (.set m (.map 73 (heldE s (L1 ++ [(k, c2)])) (c2 + 1))) := by
       simp [amapUpdate, hm2, shapeOf, kkOfV, find_held, hput.1, put_held]
      obtain ⟨y, hy⟩ : ∃ y : Int, byteAt s k = .int .u8 y := ⟨_, rfl⟩
      rw [hy] at hidx hup
      have hnext : Ins h1 d m start s n a L (i + 1) h3 := by
       refine ⟨L1 ++ [(k, c2)], ⟨O3.at H2.dir H.ne, ⟨_, hm3⟩, fun j hj => ?_, H.ne, hle, hsh⟩, fun j hj => keys_snoc.2 (.inl (K1 j hj)), fun j h1 h2 h3 => ?_, O2.next O3 fun _ _ h => h⟩
       · rcases keys_snoc.1 hj with h | rfl
         · exact H2.keys j h
         · exact hks
       · by_cases e : j = k
         · exact keys_snoc.2 (.inr e)
         · exact keys_snoc.2 (.inl (K2 j h1 (by omega) h3))
      simp [c164_l15, c164_r15, hi, c164_r16, c164_r17, g4, v1, hlk, c164_r18, hput.1, g3, hput.2, c164_r19, hidx, hup, ← hh3, c164_r20, v2]
      exact hnext
    · have hnext : Ins h1 d m start s n a L (i + 1) h2 := by
       refine ⟨L1, H2, K1, fun j h1 h2 h3 => ?_, O2⟩
       by_cases e : j = k
       · subst e
         exact Classical.byContradiction fun hc => hput ⟨hc, h3⟩
       · exact K2 j h1 (by omega) h3
      by_cases hin : k ∈ keys L1
      · simp [c164_l15, c164_r15, hi, c164_r16, c164_r17, g4, v1, hlk, c164_r18, hin, c164_r20, v2]
        exact hnext
      · have hnk : ¬ n ≤ k := fun h => hput ⟨hin, h⟩
        simp [c164_l15, c164_r15, hi, c164_r16, c164_r17, g4, v1, hlk, c164_r18, hin, g3, hnk, c164_r20, v2]
        exact hnext
  · intro h2 hI
    obtain ⟨L1, H2, K1, K2, O2⟩ := hI
    obtain ⟨_, _, _, g3, _, _, g6, _⟩ := dirLd H2.dir
    obtain ⟨h3, n', L', q1, H3, R3, q2, O3⟩ := release_run H2
    obtain ⟨_, _, i2, i3, _, i5, i6, i7⟩ := dirLd H3.dir
    obtain ⟨out, hout⟩ : ∃ out, out = (s.drop n).take (n' - n) := ⟨_, rfl⟩
    rw [← hout] at q1
    have hn' := H3.le
    have hRle := R3.le
    have st := dirSt (off := 7) (t := 4) (v := .bool false) H3.dir (by simp) rfl (by omega)
    have hs7 : (dirC start n' m (s.take n')).set 7 (.bool false) = dirC start n' m (s.take n') := rfl
    rw [hs7] at st
    obtain ⟨h4, hh4⟩ : ∃ h4, h4 = h3.set d (.cells (dirC start n' m (s.take n')) 329 false) := ⟨_, rfl⟩
    have hd4 : h4[d]? = some (.cells (dirC start n' m (s.take n')) 329 false) := by rw [hh4, List.getElem?_set_self (lt_of_at H3.dir)]
    have O4 : Only (fun c => c = d) h3 h4 := by rw [hh4]; exact .set rfl
    obtain ⟨c3, hm3⟩ := H3.held
    have hm4 := O4.at hm3 (fun e => H.ne e.symm)
    obtain ⟨_, _, j2, j3, _, j5, j6, j7⟩ := dirLd hd4
    have hx4 := O4.at (O3.at (O2.at hx1 (by omega)) (by omega)) (by omega)
    have hxl := lt_of_at hx4
    have H4 : DirU h4 d m start s n' n' L' := ⟨hd4, ⟨c3, hm4⟩, H3.keys, H.ne, hn', hsh⟩
    have hP : Psh s n n' a b L L' := by
     refine ⟨hRle, fun k hk => ?_, q2⟩
     rcases hk with hk | ⟨h1, h2⟩
     · exact R3.all k (K1 k hk)
     · by_cases e : n ≤ k
       · exact R3.all k (K2 k h1 (by omega) e)
       · exact .inl (by omega)
    have hO : Only (fun c => c = d ∨ c = m) h h4 := (((O1.mono fun _ _ h => h.elim).next O2 fun _ _ h => .inr h).next O3 fun _ _ h => h).next O4 fun _ _ h => .inl h
    have hfin : ∀ vs, vs = gotOf s n n' a b → ∃ n'', vs = gotOf s n n'' a b ∧ ∃ L'', DirU (h4.set h.length (.cells vs 273 false)) d m start s n'' n'' L'' ∧ Psh s n n'' a b L L'' ∧ Only (fun c => c = d ∨ c = m) h (h4.set h.length (.cells vs 273 false)) := fun vs hv => by
     have O5 : Only (fun c => c = h.length) h4 (h4.set h.length (.cells vs 273 false)) := .set rfl
     exact ⟨n', hv, L', H4.keep O5 (by omega) (by omega), hP, hO.next O5 fun c h1 h2 => by omega⟩
    have hl0 : ¬ (n' : Int) = -1 := by omega
    have s1 := fun vs hv h1 => st_all (n := 4) (t := 273) (vs := vs) hx4 rfl hv h1 (by omega) (by simp)
    by_cases hnn : n < n'
    · have hone : out ≠ [] := fun e => by
       have := congrArg List.length (hout.symm.trans e)
       simp at this; omega
      have := hfin (gotC 1 n out) (by unfold gotOf; rw [if_pos hnn, hout])
      simp [c164_l15, c164_r15, c164_r21, g3, c164_r22, q1, c164_r23, i3, i6, hl0, c164_r24, i7, st, ← hh4, c164_r25, hone, c164_r26, abuild, afill, s1, ld_set, hxl]
      exact this
    · have hn0 : n' = n := by omega
      have hone : out = [] := by rw [hout, hn0]; simp
      by_cases hb4 : n < b
      · have hb5 : n' < b := by omega
        have := hfin (gotC 4 0 []) (by unfold gotOf; rw [if_neg hnn, if_pos hb4])
        simp [c164_l15, c164_r15, c164_r21, g3, c164_r22, q1, c164_r23, i3, i6, hl0, c164_r24, i7, st, ← hh4, c164_r25, hone, c164_r27, j3, hb5, c164_r28, abuild, afill, s1, ld_set, hxl]
        exact this
      · have hb5 : ¬ n' < b := by omega
        have := hfin (gotC 2 a data) (by unfold gotOf; rw [if_neg hnn, if_neg hb4, hdata])
        have hpl : (s.take n').length = n' := by simp; omega
        have x3 : IntKind.wrap .i64 ((n' : Int) - 1000) ≤ a := by rw [wrap_i64 (by omega) (by omega)]; omega
        have x4 : ((s.take n').drop a).take (b - a) = data := by rw [hdata, List.drop_take, List.take_take]; congr 1; omega
        have x5 : ¬ (b : Int) = -1 := by omega
        have x1 : IntKind.wrap .i64 0 = 0 := rfl
        simp [c164_l15, c164_r15, c164_r21, g3, c164_r22, q1, c164_r23, i3, i6, hl0, c164_r24, i7, st, ← hh4, c164_r25, hone, c164_r27, j3, hb5, c164_r29, j2, j5, j6, alen9, x1, x3, hpl, c164_r30, c164_r31, i64 (n := a) (by omega), i64 (n := b) (by omega), x4, x5, j7, abuild, afill, s1, ld_set, hxl, -List.length_take]
        refine ⟨by omega, ?_⟩
        exact this
  · exact ⟨by simp, L, H1, fun _ h => h, fun k h1 h2 => by omega, .refl⟩
 obtain ⟨n', L', rfl, h3⟩ := h2
 exact ⟨h', n', L', h1, h3⟩
end
end
section
def tupC (x : Nat) : List AV := [.int .i64 6, .int .u32 (srcA x), .int .u32 (dstA x), .int .i64 (srcP x), .int .i64 (dstP x)]
@[simp] theorem bin43 {a a' d d' e e' : Int} {b b' c c' : Int} : bin Tryz.prog .eql 43 (.agg [.int .i64 a, .int .u32 b, .int .u32 c, .int .i64 d, .int .i64 e]) (.agg [.int .i64 a', .int .u32 b', .int .u32 c', .int .i64 d', .int .i64 e']) = some (.bool (decide (a = a') && (decide (b = b') && (decide (c = c') && (decide (d = d') && decide (e = e'))))), .no) := by
 simp [bin, kshape_43, shapeOf, kks, kkOfV, keq, ikeys, ikey]
def nodeG (t : List AV) (id : Nat) (p n : AV) : List AV := t ++ [.int .i64 id, .int .i64 0, p, n]
@[simp] theorem tupC_all {x : Nat} : (tupC x).all AV.one = true := by simp [tupC]
@[simp] theorem nodeG_all {x : Nat} : (nodeG (tupC x) 1 (.ptr none) (.ptr none)).all AV.one = true := by simp [nodeG, tupC]
@[simp] theorem nodeG_len {x : Nat} {p n : AV} : (nodeG (tupC x) 1 p n).length = 9 := rfl
@[simp] theorem tupC_len {x : Nat} : (tupC x).length = 5 := rfl
section
variable {h : Heap} {x y : Nat}
theorem turn_run (hx : x < 2) : D cfg 195 [.agg (tupC x)] h = some (.agg (tupC (1 - x)), G 195 [.agg (tupC x)] h) := by
 refine G_of (call195 (by simp) ?_)
 obtain rfl | rfl : x = 0 ∨ x = 1 := by omega
 all_goals simp [c195, c195_r0, c195_r1, tupC, srcA, dstA, srcP, dstP, abuild, afill, aload, row, astore, splice, zeros]
theorem same_run (hx : x < 2) (hy : y < 2) : D cfg 142 [.agg (tupC x), .agg (tupC y)] h = some (.tup [.int .i64 (if x = y then 0 else 1), .bool true], G 142 [.agg (tupC x), .agg (tupC y)] h) := by
 refine G_of (call142 (by simp) ?_)
 have e1 := fun h' => turn_run (h := h') (x := y) hy
 obtain rfl | rfl : x = 0 ∨ x = 1 := by omega
 all_goals obtain rfl | rfl : y = 0 ∨ y = 1 := by omega
 all_goals
  simp [tupC, srcA, dstA, srcP, dstP] at e1
  simp [c142, c142_r0, c142_r1, c142_r2, c142_r3, c142_r4, c142_r5, tupC, srcA, dstA, srcP, dstP, abuild, afill, aload, row, astore, splice, zeros, e1]
theorem cut53_run (v : Nat) (m : Nat) (hv : 1 ≤ v) (hm : v ≤ m) : D cfg 53 [.int .i64 v, .int .i64 m] h = some (.int .i64 v, h) := by
 refine D_eq (call53 (by simp) ?_)
 have h1 : ¬ (m : Int) < v := by omega
 simp [c53, c53_r0, c53_r1, amin, amin1, amax, amax1]
 omega
def tabC (r m last : Nat) : List AV := [.int .i64 60, .int .i64 100000, .int .i64 0, .int .i64 last, .ptr (some ⟨r, 0, 9⟩), .map (some m)]
abbrev nodeC (t : List AV) (id p n : Nat) : List AV := nodeG t id (.ptr (some ⟨p, 0, 9⟩)) (.ptr (some ⟨n, 0, 9⟩))
def tup0 : List AV := [.int .i64 0, .int .u32 0, .int .u32 0, .int .i64 0, .int .i64 0]
abbrev tPtr (t : Nat) : AV := .ptr (some ⟨t, 0, 6⟩)
abbrev nPtr (t : Nat) : AV := .ptr (some ⟨t, 0, 9⟩)
structure Tab0 (h : Heap) (t r m : Nat) : Prop where
 tab : h[t]? = some (.cells (tabC r m 0) 120 false)
 ring : h[r]? = some (.cells (nodeC tup0 0 r r) 117 false)
 by_ : h[m]? = some (.map 118 [] 0)
 tr : t ≠ r
structure Tab1 (h : Heap) (t r m f : Nat) : Prop where
 tab : h[t]? = some (.cells (tabC r m 1) 120 false)
 ring : h[r]? = some (.cells (nodeC tup0 0 f f) 117 false)
 flow : h[f]? = some (.cells (nodeC (tupC 0) 1 r r) 117 false)
 by_ : h[m]? = some (.map 118 [(.agg (tupC 0), nPtr f, 0)] 1)
 tr : t ≠ r
 tf : t ≠ f
 rf : r ≠ f
theorem Tab0.keep {h h' : Heap} {t r m : Nat} {fp : Nat → Prop} (H : Tab0 h t r m) (g : Only fp h h') (h1 : ¬ fp t) (h2 : ¬ fp r) (h3 : ¬ fp m) : Tab0 h' t r m := ⟨g.at H.tab h1, g.at H.ring h2, g.at H.by_ h3, H.tr⟩
theorem Tab1.keep {h h' : Heap} {t r m f : Nat} {fp : Nat → Prop} (H : Tab1 h t r m f) (g : Only fp h h') (h1 : ¬ fp t) (h2 : ¬ fp r) (h3 : ¬ fp m) (h4 : ¬ fp f) : Tab1 h' t r m f := ⟨g.at H.tab h1, g.at H.ring h2, g.at H.flow h4, g.at H.by_ h3, H.tr, H.tf, H.rf⟩
theorem tnew_run : ∃ h', D cfg 31 [.int .i64 60, .int .i64 100000] h = some (tPtr (h.length + 2), h') ∧ Tab0 h' (h.length + 2) h.length (h.length + 1) ∧ Grow h h' := by
 obtain ⟨r, h', h1, h2⟩ : ∃ r h', D cfg 31 [.int .i64 60, .int .i64 100000] h = some (r, h') ∧ (r = tPtr (h.length + 2) ∧ Tab0 h' (h.length + 2) h.length (h.length + 1) ∧ Grow h h') := by
  refine call31 (by simp) ?_
  have e1 := fun h' => cut53_run (h := h') 60 64 (by omega) (by omega)
  have e2 := fun h' => cut53_run (h := h') 100000 100000 (by omega) (by omega)
  simp at e1 e2
  simp [c31, c31_r0, c31_r1, c31_r2, c31_r3, e1, e2, op_makeMap (P := Tryz.prog) (t := 118) (kt := 43) (et := 115) (by simp) (by simp), abuild, afill, zeros, astore, splice]
  refine ⟨by simp [tabC], by simp [nodeG, tup0], by simp, by omega⟩
 exact ⟨h', h2.1 ▸ h1, h2.2⟩
theorem get0_run {t r m : Nat} (hx : x < 2) (H : Tab0 h t r m) : D cfg 139 [tPtr t, .agg (tupC x)] h = some (.ptr none, G 139 [tPtr t, .agg (tupC x)] h) := by
 refine G_of (call139 (by simp) ?_)
 have e1 := fun h' => turn_run (h := h') (x := x) hx
 obtain ⟨h1, hh1⟩ : ∃ h1, h1 = h ++ [AObj.cells (tupC x) 43 false] := ⟨_, rfl⟩
 have O1 : Only (fun _ => False) h h1 := by rw [hh1]; exact .app
 have ht := O1.at H.tab id
 have hm := O1.at H.by_ id
 have hk := lt_of_at ht
 have hk2 : h.length < h1.length := by rw [hh1]; simp
 have hg : Grow h h1 := O1.grow fun c hc => hc.elim
 have hl : ∀ hh, hh[m]? = some (.map 118 [] 0) → ∀ y, y < 2 → alookup Tryz.prog (look hh) 118 (.map (some m)) (.agg (tupC y)) false = some (.ptr none) := fun hh hm y _ => by
  simp [alookup, hm, shapeOf, kks, kkOfV, mfind, tupC, zeros]
 have q1 : aload Tryz.prog (look h1) 118 (.ptr (some ⟨t, 5, 6⟩)) = some (.map (some m)) := cell_load ht rfl (by simp) rfl
 have q2 : aload Tryz.prog (look h1) 43 (.ptr (some ⟨h.length, 0, 5⟩)) = some (.agg (tupC x)) := ld_all (e := 43) (g := false) (by rw [hh1]; simp) rfl (by simp) (by simp)
 have q3 := hl h1 hm x hx
 have q4 := hl (G 195 [.agg (tupC x)] h1) (G_get hm) (1 - x) (by omega)
 simp [c139, c139_r0, c139_r1, c139_r2, c139_r4, ← hh1, q1, q2, q3, e1, hk, hk2, q4, hg]
theorem get1_run {t r m f : Nat} (hx : x < 2) (H : Tab1 h t r m f) : D cfg 139 [tPtr t, .agg (tupC x)] h = some (nPtr f, G 139 [tPtr t, .agg (tupC x)] h) := by
 refine G_of (call139 (by simp) ?_)
 have e1 := fun h' => turn_run (h := h') (x := x) hx
 obtain ⟨h1, hh1⟩ : ∃ h1, h1 = h ++ [AObj.cells (tupC x) 43 false] := ⟨_, rfl⟩
 have O1 : Only (fun _ => False) h h1 := by rw [hh1]; exact .app
 have ht := O1.at H.tab id
 have hm := O1.at H.by_ id
 have hk := lt_of_at ht
 have hk2 : h.length < h1.length := by rw [hh1]; simp
 have hg : Grow h h1 := O1.grow fun c hc => hc.elim
 have hl : ∀ hh, hh[m]? = some (.map 118 [(.agg (tupC 0), nPtr f, 0)] 1) → ∀ y, y < 2 → alookup Tryz.prog (look hh) 118 (.map (some m)) (.agg (tupC y)) false = some (if y = 0 then nPtr f else .ptr none) := fun hh hm y hy => by
  obtain rfl | rfl : y = 0 ∨ y = 1 := by omega
  all_goals simp [alookup, hm, shapeOf, kks, kkOfV, mfind, tupC, zeros, keq, ikeys, ikey, srcA, dstA, srcP, dstP]
 have q1 : aload Tryz.prog (look h1) 118 (.ptr (some ⟨t, 5, 6⟩)) = some (.map (some m)) := cell_load ht rfl (by simp) rfl
 have q2 : aload Tryz.prog (look h1) 43 (.ptr (some ⟨h.length, 0, 5⟩)) = some (.agg (tupC x)) := ld_all (e := 43) (g := false) (by rw [hh1]; simp) rfl (by simp) (by simp)
 have q3 := hl h1 hm x hx
 have q4 := hl (G 195 [.agg (tupC x)] h1) (G_get hm) (1 - x) (by omega)
 obtain rfl | rfl : x = 0 ∨ x = 1 := by omega
 all_goals
  simp at q3 q4 e1
  simp [c139, c139_r0, c139_r1, c139_r2, c139_r3, c139_r4, ← hh1, q1, q2, q3, e1, hk, hk2, q4, hg]
section
variable {c : List AV} {id f q : Nat} {p n : AV}
theorem nodeLen (hc : c.length = 5) : (nodeG c id p n).length = 9 := by simp [nodeG, hc]
theorem nodePut7 (hc : c.length = 5) (hf : h[f]? = some (.cells (nodeG c id p n) 117 false)) : astore Tryz.prog (look h) 115 (.ptr (some ⟨f, 7, 9⟩)) (nPtr q) = some (.set f (.cells (nodeG c id (nPtr q) n) 117 false)) := by
 rw [cell_store hf (nodeLen hc) (by simp) rfl (by omega)]; simp [nodeG, List.set_append, hc]
theorem nodePut8 (hc : c.length = 5) (hf : h[f]? = some (.cells (nodeG c id p n) 117 false)) : astore Tryz.prog (look h) 115 (.ptr (some ⟨f, 8, 9⟩)) (nPtr q) = some (.set f (.cells (nodeG c id p (nPtr q)) 117 false)) := by
 rw [cell_store hf (nodeLen hc) (by simp) rfl (by omega)]; simp [nodeG, List.set_append, hc]
theorem nodePut6 (hc : c.length = 5) (hf : h[f]? = some (.cells (nodeG c id p n) 117 false)) : astore Tryz.prog (look h) 3 (.ptr (some ⟨f, 6, 9⟩)) (.int .i64 0) = some (.set f (.cells (nodeG c id p n) 117 false)) := by
 rw [cell_store hf (nodeLen hc) (by simp) rfl (by omega)]; simp [nodeG, List.set_append, hc]
end
theorem nodeLd {f : Nat} {c : List AV} {id p n : Nat} (hc : c.length = 5) (hf : h[f]? = some (.cells (nodeC c id p n) 117 false)) :
  aload Tryz.prog (look h) 3 (.ptr (some ⟨f, 5, 9⟩)) = some (.int .i64 id) ∧ aload Tryz.prog (look h) 115 (.ptr (some ⟨f, 7, 9⟩)) = some (nPtr p) ∧ aload Tryz.prog (look h) 115 (.ptr (some ⟨f, 8, 9⟩)) = some (nPtr n) := by
 have hl := nodeLen (id := id) (p := nPtr p) (n := nPtr n) hc
 refine ⟨?_, ?_, ?_⟩ <;> exact cell_load hf hl (by simp) (by simp [nodeG, List.getElem?_append, hc])
theorem tabLd {t r m last : Nat} (ht : h[t]? = some (.cells (tabC r m last) 120 false)) :
  aload Tryz.prog (look h) 3 (.ptr (some ⟨t, 0, 6⟩)) = some (.int .i64 60) ∧ aload Tryz.prog (look h) 3 (.ptr (some ⟨t, 2, 6⟩)) = some (.int .i64 0) ∧ aload Tryz.prog (look h) 3 (.ptr (some ⟨t, 3, 6⟩)) = some (.int .i64 last) ∧ aload Tryz.prog (look h) 115 (.ptr (some ⟨t, 4, 6⟩)) = some (nPtr r) ∧ aload Tryz.prog (look h) 118 (.ptr (some ⟨t, 5, 6⟩)) = some (.map (some m)) := by
 refine ⟨?_, ?_, ?_, ?_, ?_⟩ <;> exact cell_load ht rfl (by simp) rfl
theorem out_run {t r m f : Nat} (H : Tab1 h t r m f) : ∃ h', D cfg 140 [nPtr f] h = some (.tup [], h') ∧ h'[r]? = some (.cells (nodeC tup0 0 r r) 117 false) ∧ Only (fun c => c = r) h h' := by
 obtain ⟨ho, h', h1, h2⟩ : ∃ ho h', D cfg 140 [nPtr f] h = some (ho, h') ∧ (ho = .tup [] ∧ h'[r]? = some (.cells (nodeC tup0 0 r r) 117 false) ∧ Only (fun c => c = r) h h') := by
  refine call140 (by simp) ?_
  have hc0 : tup0.length = 5 := rfl
  have hc1 : (tupC 0).length = 5 := rfl
  obtain ⟨_, f7, f8⟩ := nodeLd hc1 H.flow
  obtain ⟨h1, hh1⟩ : ∃ h1, h1 = h.set r (.cells (nodeC tup0 0 f r) 117 false) := ⟨_, rfl⟩
  have hr1 : h1[r]? = some (.cells (nodeC tup0 0 f r) 117 false) := by rw [hh1, List.getElem?_set_self (lt_of_at H.ring)]
  obtain ⟨h2, hh2⟩ : ∃ h2, h2 = h1.set r (.cells (nodeC tup0 0 r r) 117 false) := ⟨_, rfl⟩
  have hr2 : h2[r]? = some (.cells (nodeC tup0 0 r r) 117 false) := by rw [hh2, List.getElem?_set_self (lt_of_at hr1)]
  have O1 : Only (fun c => c = r) h h1 := by rw [hh1]; exact .set rfl
  have O2 : Only (fun c => c = r) h1 h2 := by rw [hh2]; exact .set rfl
  simp [c140, c140_r0, f7, f8, nodePut8 hc0 H.ring, nodePut7 hc0 hr1, ← hh1, ← hh2, hr2, O1.trans O2]
 obtain ⟨rfl, h2⟩ := h2
 exact ⟨h', h1, h2⟩
theorem touch_run {t r m f last id : Nat} {p n : AV} {c : List AV} (hc : c.length = 5) (ht : h[t]? = some (.cells (tabC r m last) 120 false)) (hr : h[r]? = some (.cells (nodeC tup0 0 r r) 117 false)) (hf : h[f]? = some (.cells (nodeG c id p n) 117 false)) (htr : t ≠ r) (htf : t ≠ f) (hrf : r ≠ f) :
  ∃ h', D cfg 141 [tPtr t, nPtr f] h = some (.tup [], h') ∧ h'[r]? = some (.cells (nodeC tup0 0 f f) 117 false) ∧ h'[f]? = some (.cells (nodeC c id r r) 117 false) ∧ Only (fun c => c = r ∨ c = f) h h' := by
 obtain ⟨ho, h', h1, h2⟩ : ∃ ho h', D cfg 141 [tPtr t, nPtr f] h = some (ho, h') ∧ (ho = .tup [] ∧ h'[r]? = some (.cells (nodeC tup0 0 f f) 117 false) ∧ h'[f]? = some (.cells (nodeC c id r r) 117 false) ∧ Only (fun c => c = r ∨ c = f) h h') := by
  refine call141 (by simp) ?_
  have hc0 : tup0.length = 5 := rfl
  have O : ∀ {h h' : Heap} {o}, h' = h.set f o → Only (fun c => c = f) h h' := fun e => by rw [e]; exact .set rfl
  have Or : ∀ {h h' : Heap} {o}, h' = h.set r o → Only (fun c => c = r) h h' := fun e => by rw [e]; exact .set rfl
  obtain ⟨_, t2, _, t4, _⟩ := tabLd ht
  obtain ⟨h1, hh1⟩ : ∃ h1, h1 = h.set f (.cells (nodeG c id p n) 117 false) := ⟨_, rfl⟩
  have hf1 : h1[f]? = some (.cells (nodeG c id p n) 117 false) := by rw [hh1, List.getElem?_set_self (lt_of_at hf)]
  have ht1 := (O hh1).at ht htf
  have hr1 := (O hh1).at hr hrf
  obtain ⟨_, _, _, u4, _⟩ := tabLd ht1
  obtain ⟨_, r7, _⟩ := nodeLd hc0 hr1
  obtain ⟨h2, hh2⟩ : ∃ h2, h2 = h1.set f (.cells (nodeG c id (nPtr r) n) 117 false) := ⟨_, rfl⟩
  have hf2 : h2[f]? = some (.cells (nodeG c id (nPtr r) n) 117 false) := by rw [hh2, List.getElem?_set_self (lt_of_at hf1)]
  obtain ⟨h3, hh3⟩ : ∃ h3, h3 = h2.set f (.cells (nodeC c id r r) 117 false) := ⟨_, rfl⟩
  have hf3 : h3[f]? = some (.cells (nodeC c id r r) 117 false) := by rw [hh3, List.getElem?_set_self (lt_of_at hf2)]
  have hr3 := (O hh3).at ((O hh2).at hr1 hrf) hrf
  obtain ⟨_, v7, v8⟩ := nodeLd hc hf3
  obtain ⟨h4, hh4⟩ : ∃ h4, h4 = h3.set r (.cells (nodeC tup0 0 r f) 117 false) := ⟨_, rfl⟩
  have hr4 : h4[r]? = some (.cells (nodeC tup0 0 r f) 117 false) := by rw [hh4, List.getElem?_set_self (lt_of_at hr3)]
  obtain ⟨h5, hh5⟩ : ∃ h5, h5 = h4.set r (.cells (nodeC tup0 0 f f) 117 false) := ⟨_, rfl⟩
  have hr5 : h5[r]? = some (.cells (nodeC tup0 0 f f) 117 false) := by rw [hh5, List.getElem?_set_self (lt_of_at hr4)]
  have hf5 := (Or hh5).at ((Or hh4).at hf3 hrf.symm) hrf.symm
  have m1 : ∀ c b, b < h.length → c = f → c = r ∨ c = f := fun _ _ _ e => .inr e
  have hO : Only (fun c => c = r ∨ c = f) h h5 := (((((O hh1).mono fun _ _ e => .inr e).next (O hh2) fun _ _ e => .inr e).next (O hh3) fun _ _ e => .inr e).next (Or hh4) fun _ _ e => .inl e).next (Or hh5) fun _ _ e => .inl e
  simp [c141, c141_r0, c141_r1, c141_r2, t2, nodePut6 hc hf, ← hh1, u4, r7, nodePut7 hc hf1, ← hh2, nodePut8 hc hf2, ← hh3, v7, v8, nodePut8 hc0 hr3, ← hh4, nodePut7 hc0 hr4, ← hh5, hr5, hf5, hO]
 obtain ⟨rfl, h2⟩ := h2
 exact ⟨h', h1, h2⟩
theorem find0_run {t r m : Nat} (hx : x < 2) (H : Tab0 h t r m) : D cfg 92 [tPtr t, .agg (tupC x)] h = some (.tup [.int .i64 0, .int .i64 0, .bool false], G 92 [tPtr t, .agg (tupC x)] h) := by
 refine G_of (call92 (by simp) ?_)
 obtain ⟨h1, hh1⟩ : ∃ h1, h1 = h ++ [AObj.cells (tupC x) 43 false] := ⟨_, rfl⟩
 have O1 : Only (fun _ => False) h h1 := by rw [hh1]; exact .app
 have H1 := H.keep O1 id id id
 have hg : Grow h h1 := O1.grow fun c hc => hc.elim
 have q2 : aload Tryz.prog (look h1) 43 (.ptr (some ⟨h.length, 0, 5⟩)) = some (.agg (tupC x)) := ld_all (e := 43) (g := false) (by rw [hh1]; simp) rfl (by simp) (by simp)
 simp [c92, c92_r0, c92_r1, c92_r2, c92_r3, ← hh1, q2, get0_run hx H1, hg]
theorem find1_run {t r m f : Nat} (hx : x < 2) (H : Tab1 h t r m f) : ∃ h', D cfg 92 [tPtr t, .agg (tupC x)] h = some (.tup [.int .i64 1, .int .i64 x, .bool true], h') ∧ Tab1 h' t r m f ∧ Only (fun c => c = r ∨ c = f) h h' := by
 obtain ⟨ho, h', h1, h2⟩ : ∃ ho h', D cfg 92 [tPtr t, .agg (tupC x)] h = some (ho, h') ∧ (ho = .tup [.int .i64 1, .int .i64 x, .bool true] ∧ Tab1 h' t r m f ∧ Only (fun c => c = r ∨ c = f) h h') := by
  refine call92 (by simp) ?_
  obtain ⟨h1, hh1⟩ : ∃ h1, h1 = h ++ [AObj.cells (tupC x) 43 false] := ⟨_, rfl⟩
  have O1 : Only (fun _ => False) h h1 := by rw [hh1]; exact .app
  have hx1 : h1[h.length]? = some (.cells (tupC x) 43 false) := by rw [hh1]; simp
  have H1 := H.keep O1 id id id id
  obtain ⟨h2, hh2⟩ : ∃ h2, h2 = G 139 [tPtr t, .agg (tupC x)] h1 := ⟨_, rfl⟩
  have G2 : Grow h1 h2 := by rw [hh2]; exact G_grow
  have O2 : Only (fun _ => False) h1 h2 := G2.only
  have H2 := H1.keep O2 id id id id
  obtain ⟨h3, e3, r3, O3⟩ := out_run H2
  have lr := lt_of_at H.ring
  have lf := lt_of_at H.flow
  obtain ⟨h4, e4, r4, f4, O4⟩ := touch_run rfl (O3.at H2.tab H.tr) r3 (O3.at H2.flow H.rf.symm) H.tr H.tf H.rf
  have t4 := O4.at (O3.at H2.tab H.tr) (by have := H.tr; have := H.tf; omega)
  have hmr : m ≠ r := fun e => by have := H.by_; rw [e, H.ring] at this; simp at this
  have hmf : m ≠ f := fun e => by have := H.by_; rw [e, H.flow] at this; simp at this
  have m4 := O4.at (O3.at H2.by_ hmr) (by omega)
  have x4 := O4.at (O3.at (O2.at hx1 id) (by omega)) (by omega)
  have q1 : aload Tryz.prog (look h1) 43 (.ptr (some ⟨h.length, 0, 5⟩)) = some (.agg (tupC x)) := ld_all hx1 rfl (by simp) (by simp)
  have q4 : aload Tryz.prog (look h4) 43 (.ptr (some ⟨h.length, 0, 5⟩)) = some (.agg (tupC x)) := ld_all x4 rfl (by simp) (by simp)
  have q5 : aload Tryz.prog (look h4) 43 (.ptr (some ⟨f, 0, 9⟩)) = some (.agg (tupC 0)) := by
   simp [aload, row, f4, nodeG, tupC]
  have e5 := same_run (h := h4) hx (y := 0) (by omega)
  obtain ⟨h5, hh5⟩ : ∃ h5, h5 = G 142 [.agg (tupC x), .agg (tupC 0)] h4 := ⟨_, rfl⟩
  have O5 : Only (fun _ => False) h4 h5 := by rw [hh5]; exact G_grow.only
  obtain ⟨q6, _⟩ := nodeLd rfl (O5.at f4 id)
  have T5 : Tab1 h4 t r m f := ⟨t4, r4, f4, m4, H.tr, H.tf, H.rf⟩
  have T6 := T5.keep O5 id id id id
  have hO : Only (fun c => c = r ∨ c = f) h h5 := ((((O1.mono fun _ _ e => e.elim).next O2 fun _ _ e => e.elim).next O3 fun _ _ e => .inl e).next O4 fun _ _ e => e).next O5 fun _ _ e => e.elim
  rw [← hh5] at e5
  have hw : (if x = 0 then (0 : Int) else 1) = x := by split <;> omega
  rw [hw] at e5
  have e2 := get1_run hx H1
  rw [← hh2] at e2
  simp [c92, c92_r0, c92_r1, c92_r2, c92_r4, c92_r5, c92_r6, c92_r7, ← hh1, q1, e2, e3, e4, q4, q5, e5, q6, T6, hO]
 obtain ⟨rfl, h2⟩ := h2
 exact ⟨h', h1, h2⟩
theorem put_run {t r m : Nat} (H : Tab0 h t r m) : ∃ h', D cfg 93 [tPtr t, .agg (tupC 0)] h = some (.tup [.int .i64 1, .int .i64 0], h') ∧ (∃ f, h.length ≤ f ∧ Tab1 h' t r m f) ∧ Only (fun c => c = t ∨ c = r ∨ c = m) h h' := by
 obtain ⟨ho, h', h1, h2⟩ : ∃ ho h', D cfg 93 [tPtr t, .agg (tupC 0)] h = some (ho, h') ∧ (ho = .tup [.int .i64 1, .int .i64 0] ∧ (∃ f, h.length ≤ f ∧ Tab1 h' t r m f) ∧ Only (fun c => c = t ∨ c = r ∨ c = m) h h') := by
  refine call93 (by simp) ?_
  obtain ⟨h1, hh1⟩ : ∃ h1, h1 = h ++ [AObj.cells (tupC 0) 43 false] := ⟨_, rfl⟩
  have O1 : Only (fun _ => False) h h1 := by rw [hh1]; exact .app
  have hx1 : h1[h.length]? = some (.cells (tupC 0) 43 false) := by rw [hh1]; simp
  have H1 := H.keep O1 id id id
  have q1 : aload Tryz.prog (look h1) 43 (.ptr (some ⟨h.length, 0, 5⟩)) = some (.agg (tupC 0)) := ld_all hx1 rfl (by simp) (by simp)
  have e2 := find0_run (x := 0) (by omega) H1
  obtain ⟨h2, hh2⟩ : ∃ h2, h2 = G 92 [tPtr t, .agg (tupC 0)] h1 := ⟨_, rfl⟩
  rw [← hh2] at e2
  have O2 : Only (fun _ => False) h1 h2 := by rw [hh2]; exact G_grow.only
  have H2 := H1.keep O2 id id id
  have hx2 := O2.at hx1 id
  obtain ⟨a0, a2, a3, a4, a5⟩ := tabLd H2.tab
  have lt := lt_of_at H.tab
  have lr := lt_of_at H.ring
  have lm := lt_of_at H.by_
  have htr := H.tr
  have hmr : m ≠ r := fun e => by have := H.by_; rw [e, H.ring] at this; simp at this
  have hmt : m ≠ t := fun e => by have := H.by_; rw [e, H.tab] at this; simp at this
  obtain ⟨h3, hh3⟩ : ∃ h3, h3 = h2.set t (.cells (tabC r m 1) 120 false) := ⟨_, rfl⟩
  have s3 : astore Tryz.prog (look h2) 3 (.ptr (some ⟨t, 3, 6⟩)) (.int .i64 1) = some (.set t (.cells (tabC r m 1) 120 false)) := cell_store H2.tab rfl (by simp) rfl (show 3 < 6 by omega)
  have w1 : IntKind.wrap .i64 1 = 1 := rfl
  have O3 : Only (fun c => c = t) h2 h3 := by rw [hh3]; exact .set rfl
  have t3 : h3[t]? = some (.cells (tabC r m 1) 120 false) := by rw [hh3, List.getElem?_set_self (lt_of_at H2.tab)]
  have r3 := O3.at H2.ring htr.symm
  have m3 := O3.at H2.by_ hmt
  have x3 := O3.at hx2 (by omega)
  obtain ⟨b0, b2, b3, b4, b5⟩ := tabLd t3
  have q3 : aload Tryz.prog (look h3) 43 (.ptr (some ⟨h.length, 0, 5⟩)) = some (.agg (tupC 0)) := ld_all x3 rfl (by simp) (by simp)
  obtain ⟨f, hf⟩ : ∃ f, f = h3.length := ⟨_, rfl⟩
  have hle : h.length < f := by rw [hf]; have := O3.1; have := O2.1; have := lt_of_at hx2; omega
  obtain ⟨h4, hh4⟩ : ∃ h4, h4 = h3 ++ [AObj.cells (nodeG (tupC 0) 1 (.ptr none) (.ptr none)) 117 false] := ⟨_, rfl⟩
  have O4 : Only (fun _ => False) h3 h4 := by rw [hh4]; exact .app
  have f4 : h4[f]? = some (AObj.cells (nodeG (tupC 0) 1 (.ptr none) (.ptr none)) 117 false) := by rw [hh4, hf]; simp
  have t4 := O4.at t3 id
  have r4 := O4.at r3 id
  have m4 := O4.at m3 id
  have x4 := O4.at x3 id
  obtain ⟨c0, c2, c3, c4, c5⟩ := tabLd t4
  obtain ⟨h5, hh5⟩ : ∃ h5, h5 = h4.set m (.map 118 [(.agg (tupC 0), nPtr f, 0)] 1) := ⟨_, rfl⟩
  have q4 : aload Tryz.prog (look h4) 43 (.ptr (some ⟨h.length, 0, 5⟩)) = some (.agg (tupC 0)) := ld_all x4 rfl (by simp) (by simp)
  have hup : amapUpdate Tryz.prog (look h4) 118 (.map (some m)) (.agg (tupC 0)) (nPtr f) = some (.set m (.map 118 [(.agg (tupC 0), nPtr f, 0)] 1)) := by
   simp [amapUpdate, m4, shapeOf, kks, kkOfV, tupC, mput, mfind]
  have O5 : Only (fun c => c = m) h4 h5 := by rw [hh5]; exact .set rfl
  have f5 := O5.at f4 (by omega)
  have t5 := O5.at t4 (Ne.symm hmt)
  have r5 := O5.at r4 (Ne.symm hmr)
  have m5 : h5[m]? = some (.map 118 [(.agg (tupC 0), nPtr f, 0)] 1) := by rw [hh5, List.getElem?_set_self (lt_of_at m4)]
  have htf : t ≠ f := by omega
  have hrf : r ≠ f := by omega
  obtain ⟨h6, e6, r6, f6, O6⟩ := touch_run rfl t5 r5 f5 htr htf hrf
  have t6 := O6.at t5 (by omega)
  have m6 := O6.at m5 (by omega)
  obtain ⟨g5, _⟩ := nodeLd rfl f6
  have T6 : Tab1 h6 t r m f := ⟨t6, r6, f6, m6, htr, htf, hrf⟩
  have hl3 := O3.1
  have hO : Only (fun c => c = t ∨ c = r ∨ c = m) h h6 := (((((O1.mono fun _ _ e => e.elim).next O2 fun _ _ e => e.elim).next O3 fun _ _ e => .inl e).next O4 fun _ _ e => e.elim).next O5 fun _ _ e => .inr (.inr e)).next O6 fun _ h1 e => by omega
  have hb : abuild Tryz.prog 117 [(0, .agg (tupC 0)), (1, .int .i64 1)] = some (.agg (nodeG (tupC 0) 1 (.ptr none) (.ptr none))) := by simp [abuild, afill, zeros, splice, tupC, nodeG]
  simp [c93, c93_r0, c93_r1, c93_r2, c93_r4, ← hh1, q1, e2, a0, a5, alen, H2.by_, c93_r8, a3, w1, s3, ← hh3, c93_r9, q3, b3, hb, ← hh4, ← hf, c93_r10, c93_r11, c93_r12, c5, q4, hup, ← hh5, e6, g5, hO]
  exact ⟨f, by omega, T6⟩
 obtain ⟨rfl, h2⟩ := h2
 exact ⟨h', h1, h2⟩
end
end
section
section
variable {h : Heap} {x y : Nat}
theorem cut52_run (v : Nat) (m : Nat) (hv : 1 ≤ v) (hm : v ≤ m) : D cfg 52 [.int .i64 v, .int .i64 m] h = some (.int .i64 v, h) := by
 refine D_eq (call52 (by simp) ?_)
 simp [c52, c52_r0, c52_r1, amin, amin1, amax, amax1]
 omega
theorem fnew_run : D cfg 30 [.int .i64 30, .int .i64 100000] h = some (.ptr (some ⟨h.length + 1, 0, 3⟩), G 30 [.int .i64 30, .int .i64 100000] h) := by
 refine G_of (call30 (by simp) ?_)
 have e1 := fun h' => cut52_run (h := h') 30 32 (by omega) (by omega)
 have e2 := fun h' => cut52_run (h := h') 100000 100000 (by omega) (by omega)
 simp at e1 e2
 simp [c30, c30_r0, c30_r1, e1, e2, op_makeMap (P := Tryz.prog) (t := 112) (kt := 204) (et := 205) tk_112 (by simp), abuild, afill, zeros, astore, splice]
def BlkAt (h : Heap) (b : Nat) : Prop := ∃ f, h[b]? = some (.cells [.int .i64 0, f, .sl none 0 0] 124 false)
theorem bnew_run : ∃ h', D cfg 32 [.int .i64 100000] h = some (.ptr (some ⟨h.length + 1, 0, 3⟩), h') ∧ BlkAt h' (h.length + 1) ∧ Grow h h' := by
 obtain ⟨r, h', h1, h2⟩ : ∃ r h', D cfg 32 [.int .i64 100000] h = some (r, h') ∧ (r = .ptr (some ⟨h.length + 1, 0, 3⟩) ∧ BlkAt h' (h.length + 1) ∧ Grow h h') := by
  refine call32 (by simp) ?_
  obtain ⟨h1, hh1⟩ : ∃ h1, h1 = h ++ [AObj.cells [.int .i64 100000] 3 false] := ⟨_, rfl⟩
  have hl1 : h1.length = h.length + 1 := by rw [hh1]; simp
  obtain ⟨h2, hh2⟩ : ∃ h2, h2 = h1 ++ [AObj.cells [AV.int IntKind.i64 0, AV.nilf, AV.sl none 0 0] 124 false, AObj.cells [AV.ptr (some { b := h.length + 1, off := 0, gen := 3 })] 89 false] := ⟨_, rfl⟩
  have q1 : h2[h.length + 1]? = some (AObj.cells [AV.int IntKind.i64 0, AV.nilf, AV.sl none 0 0] 124 false) := by rw [hh2, ← hl1]; simp
  have q2 : h2[h.length + 2]? = some (AObj.cells [AV.ptr (some { b := h.length + 1, off := 0, gen := 3 })] 89 false) := by rw [hh2, show h.length + 2 = h1.length + 1 by omega]; simp
  have hg : Grow h h2 := by rw [hh2, hh1]; simp
  obtain ⟨h3, hh3⟩ : ∃ h3, h3 = h2.set (h.length + 1) (.cells [.int .i64 0, .fn (.func 54) [.ptr (some ⟨h.length + 2, 0, 1⟩), .ptr (some ⟨h.length, 0, 1⟩)], .sl none 0 0] 124 false) := ⟨_, rfl⟩
  have O3 : Only (fun c => c = h.length + 1) h2 h3 := by rw [hh3]; exact .set rfl
  have l3 : aload Tryz.prog (look h3) 89 (.ptr (some ⟨h.length + 2, 0, 1⟩)) = some (.ptr (some ⟨h.length + 1, 0, 3⟩)) := cell_load (O3.at q2 (by omega)) rfl (by simp) rfl
  have q3 : BlkAt h3 (h.length + 1) := ⟨_, by rw [hh3, List.getElem?_set_self (lt_of_at q1)]⟩
  have hg3 : Grow h h3 := by rw [hh3]; simp [hg]
  have l2 : aload Tryz.prog (look h2) 89 (.ptr (some ⟨h.length + 2, 0, 1⟩)) = some (.ptr (some ⟨h.length + 1, 0, 3⟩)) := cell_load q2 rfl (by simp) rfl
  simp [c32, c32_r0, c32_r1, c32_r2, c32_r3, c32_r4, abuild, afill, zeros, astore, splice, amin, amin1, amax, amax1, ← hh1, hl1, ← hh2, l2, q1, ← hh3, l3, q3, hg3]
 exact ⟨h', h2.1 ▸ h1, h2.2⟩
theorem pick_run (k : Int) : D cfg 94 [.sl none 0 0, .agg (tupC x), .int .i64 k] h = some (.sl none 0 0, G 94 [.sl none 0 0, .agg (tupC x), .int .i64 k] h) := by
 refine G_of (call94 (by simp) ?_)
 simp [c94, c94_r0, c94_r1, c94_r2, alen]
 refine Wt.unr 1 ?_
 simp [Unr, c94_l3, c94_r3, c94_r8]
end
end
section
section
variable {h : Heap}
def row0 : List AV := List.replicate 256 (.int .u16 0)
theorem mk220 {n : Nat} : amakeSlice Tryz.prog n 220 (.int .i64 1) (.int .i64 1) = some (.sl (some ⟨n, 0, 256⟩) 1 1, .new (.cells row0 298 true)) := by
 have hz : tzero Tryz.prog 298 = some (.agg row0) := by kernel_rfl
 have hl : row0.length = 256 := by simp [row0]
 have h1 : zeros row0 1 = row0 := by simp [zeros]
 simp only [amakeSlice, tk_220, hz, tsz_298, bytesOf_298, AV.cells, hl]
 simp [h1]
structure TrieAt (h : Heap) (t : Nat) : Prop where
 m : h[t - 4]? = some (.map 291 [] 0)
 ends : h[t - 2]? = some (.cells [.sl none 0 0] 22 true)
 trie : h[t]? = some (.cells [.map (some (t - 4)), .sl (some ⟨t - 3, 0, 2⟩) 1 1, .sl (some ⟨t - 2, 0, 1⟩) 1 1, .sl (some ⟨t - 1, 0, 1⟩) 1 1, .int .i64 0] 294 false)
theorem TrieAt.keep {h h' : Heap} {t : Nat} (H : TrieAt h t) (g : Grow h h') : TrieAt h' t := ⟨g.at H.m, g.at H.ends, g.at H.trie⟩
def P115 (h h' : Heap) : Prop := TrieAt h' (h.length + 4) ∧ h'.length = h.length + 5 ∧ Grow h h'
theorem trie_run : ∃ h', D cfg 115 [] h = some (.ptr (some ⟨h.length + 4, 0, 5⟩), h') ∧ TrieAt h' (h.length + 4) ∧ h'.length = h.length + 5 ∧ Grow h h' := by
 obtain ⟨r, h', h1, h2⟩ : ∃ r h', D cfg 115 [] h = some (r, h') ∧ (r = .ptr (some ⟨h.length + 4, 0, 5⟩) ∧ P115 h h') := by
  refine call115 (by simp) ?_
  simp [c115, c115_r0, c115_r1, op_makeMap (P := Tryz.prog) (t := 291) (kt := 296) (et := 3) (by simp) (by simp), abuild, afill, zeros, astore, splice, amakeSlice]
  refine ⟨⟨?_, ?_, ?_⟩, ?_, ?_⟩ <;> simp [Nat.add_assoc]
 exact ⟨h', h2.1 ▸ h1, h2.2⟩
abbrev trPtr (t : Nat) : AV := .ptr (some ⟨t, 0, 5⟩)
theorem states_run {t : Nat} (H : TrieAt h t) : D cfg 117 [trPtr t] h = some (.int .i64 1, h) := by
 refine D_eq (call117 (by simp) ?_)
 have q := cell_load (n := 5) (off := 1) (t := 292) H.trie rfl (by simp) rfl
 simp [c117, c117_r0, c117_r1, q, alen]
theorem none_run {t : Nat} (H : TrieAt h t) : D cfg 233 [trPtr t, .int .i64 0] h = some (.bool false, h) := by
 refine D_eq (call233 (by simp) ?_)
 have q := cell_load (n := 5) (off := 1) (t := 292) H.trie rfl (by simp) rfl
 simp [c233, c233_r0, c233_r1, q, alen]
theorem clone_nil : D cfg 178 [.sl none 0 0] h = some (.sl none 0 0, h) := by
 refine D_eq (call178 (by simp) ?_)
 simp [c178, c178_r0, c178_r1, c178_r2]
theorem ends_run {t : Nat} (H : TrieAt h t) : D cfg 179 [trPtr t, .int .i64 0] h = some (.sl none 0 0, h) := by
 refine D_eq (call179 (by simp) ?_)
 have q := cell_load (n := 5) (off := 2) (t := 221) H.trie rfl (by simp) rfl
 have q2 := cell_load (n := 1) (off := 0) (t := 22) H.ends rfl (by simp) rfl
 simp [c179, c179_r0, c179_r1, c179_r3, none_run H, q, q2, aindexAddr, clone_nil]
theorem child_run {t c : Nat} (H : TrieAt h t) : D cfg 180 [trPtr t, .int .i64 0, .int .u8 c] h = some (.tup [.int .i64 0, .bool false], h) := by
 refine D_eq (call180 (by simp) ?_)
 have q := cell_load (n := 5) (off := 0) (t := 291) H.trie rfl (by simp) rfl
 simp [c180, c180_r0, c180_r1, c180_r2, q, alookup, H.m, shapeOf, kks, kkOfV, mfind, zeros, abuild, afill]
structure AutoAt (h : Heap) (a : Nat) : Prop where
 next : h[a - 3]? = some (.cells row0 298 true)
 fail : h[a - 2]? = some (.cells [.int .i64 0] 3 true)
 out : h[a - 1]? = some (.cells [.sl none 0 0] 22 true)
 auto : h[a]? = some (.cells [.sl (some ⟨a - 3, 0, 256⟩) 1 1, .sl (some ⟨a - 2, 0, 1⟩) 1 1, .sl (some ⟨a - 1, 0, 1⟩) 1 1] 223 false)
theorem AutoAt.keep {h h' : Heap} {a : Nat} (H : AutoAt h a) (g : Grow h h') : AutoAt h' a := ⟨g.at H.next, g.at H.fail, g.at H.out, g.at H.auto⟩
abbrev auPtr (t : Nat) : AV := .ptr (some ⟨t, 0, 3⟩)
theorem row_run {t a : Nat} (H : TrieAt h t) (A : AutoAt h a) (hta : t ≠ a - 1) (hma : t - 4 ≠ a - 1) (hea : t - 2 ≠ a - 1) (ha : 3 ≤ a) : D cfg 118 [auPtr a, trPtr t, .int .i64 0] h = some (.sl none 0 0, h) := by
 refine D_eq (call118 (by simp) ?_)
 have q1 := cell_load (n := 3) (off := 1) (t := 22) A.auto rfl (by simp) rfl
 have q2 := cell_load (n := 3) (off := 2) (t := 221) A.auto rfl (by simp) rfl
 have q3 := cell_load (n := 1) (off := 0) (t := 3) A.fail rfl (by simp) rfl
 have q4 : astore Tryz.prog (look h) 22 (.ptr (some ⟨a - 1, 0, 1⟩)) (.sl none 0 0) = some (.set (a - 1) (.cells [.sl none 0 0] 22 true)) := cell_store A.out rfl (by simp) rfl (show 0 < 1 by omega)
 have q5 : h.set (a - 1) (.cells [.sl none 0 0] 22 true) = h := by
  obtain ⟨hl, he⟩ := List.getElem?_eq_some_iff.1 A.out
  rw [← he]; exact List.set_getElem_self hl
 simp [c118, c118_r0, c118_r1, c118_r2, c118_r6, q1, q2, q3, aindexAddr, ends_run H, lt_of_at A.auto, q4, q5, c118_r7, c118_r8]
 refine Wt.for (fun i => ⟨[(0, auPtr a), (1, trPtr t), (2, .int .i64 0), (7, .int .i64 0), (8, .sl none 0 0), (69, .int .i64 (i : Nat))], h⟩) 256 (fun i hi => ?_) ?_ (by simp)
 · have v1 := i64s (n := i) (by omega)
   have cv : aconv Tryz.prog (look h) h.length 3 5 (.int .i64 (i : Int)) = some (.int .u8 (i : Nat), .no) := by simp [aconv, wrap_u8 (n := i) (by omega) (by omega)]
   have hlt : (i : Int) < 256 := by omega
   simp [c118_l9, c118_r9, c118_r10, c118_r11, c118_r12, c118_r17, hlt, cv, child_run H, v1]
 · simp [c118_l9, c118_r9, c118_r18]
theorem mk22 {n : Nat} : amakeSlice Tryz.prog n 22 (.int .i64 1) (.int .i64 1) = some (.sl (some ⟨n, 0, 1⟩) 1 1, .new (.cells [.int .i64 0] 3 true)) := by simp [amakeSlice, zeros]
theorem mk221 {n : Nat} : amakeSlice Tryz.prog n 221 (.int .i64 1) (.int .i64 1) = some (.sl (some ⟨n, 0, 1⟩) 1 1, .new (.cells [.sl none 0 0] 22 true)) := by simp [amakeSlice, zeros]
theorem build_run {B : Nat} (hB : 1 ≤ B) : ∃ h', D cfg 71 [.sl none 0 0, .int .i64 (B : Nat)] h = some (.tup [auPtr (h.length + 8), .int .i64 0], h') ∧ AutoAt h' (h.length + 8) ∧ Grow h h' := by
 obtain ⟨r, h', h1, h2⟩ : ∃ r h', D cfg 71 [.sl none 0 0, .int .i64 (B : Nat)] h = some (r, h') ∧ (r = .tup [auPtr (h.length + 8), .int .i64 0] ∧ AutoAt h' (h.length + 8) ∧ Grow h h') := by
  refine call71 (by simp) ?_
  have hB1 : ¬ (B : Int) < 1 := by omega
  obtain ⟨h1, e1, H1, hl1, g1⟩ := trie_run (h := h)
  simp [c71, c71_r0, c71_r1, e1, c71_r2, alen]
  refine Wt.unr 1 ?_
  simp [Unr, c71_l3, c71_r3, c71_r8, alen]
  refine Wt.unr 1 ?_
  simp [Unr, c71_l9, c71_r9, c71_r15, states_run H1, c71_r16, hB1, c71_r18, mk220, mk22, mk221, abuild, afill, zeros, hl1, c71_r19, abuildSlice]
  simp only [Nat.add_assoc, Nat.reduceAdd]
  obtain ⟨h2, hh2⟩ : ∃ h2, h2 = h1 ++ [AObj.cells row0 298 true, .cells [.int .i64 0] 3 true, .cells [.sl none 0 0] 22 true, .cells [.sl (some ⟨h.length + 5, 0, 256⟩) 1 1, .sl (some ⟨h.length + 6, 0, 1⟩) 1 1, .sl (some ⟨h.length + 7, 0, 1⟩) 1 1] 223 false, .cells [.int .i64 0] 3 true] := ⟨_, rfl⟩
  have g2 : Grow h h2 := by rw [hh2]; simp [g1]
  have H2 : TrieAt h2 (h.length + 4) := H1.keep (by rw [hh2]; simp)
  have hat : ∀ k, h2[h.length + 5 + k]? = [AObj.cells row0 298 true, .cells [.int .i64 0] 3 true, .cells [.sl none 0 0] 22 true, .cells [.sl (some ⟨h.length + 5, 0, 256⟩) 1 1, .sl (some ⟨h.length + 6, 0, 1⟩) 1 1, .sl (some ⟨h.length + 7, 0, 1⟩) 1 1] 223 false, .cells [.int .i64 0] 3 true][k]? := fun k => by
   rw [hh2, ← hl1, List.getElem?_append_right (by omega)]; congr 1; omega
  have A2 : AutoAt h2 (h.length + 8) := ⟨hat 0, hat 1, hat 2, hat 3⟩
  have q0 : aload Tryz.prog (look h2) 3 (.ptr (some ⟨h.length + 9, 0, 1⟩)) = some (.int .i64 0) := cell_load (n := 1) (off := 0) (hat 4) rfl (by simp) rfl
  have e3 := row_run H2 A2 (by omega) (by omega) (by omega) (by omega)
  rw [← hh2]
  refine Wt.unr 2 ?_
  simp [Unr, c71_l20, c71_r20, alen, c71_r21, aindexAddr, q0, c71_r22, e3, aslice, bound, append2, aappend, aappendE, srcCells, c71_r23, A2, g2]
 exact ⟨h', h2.1 ▸ h1, h2.2⟩
end
end
section
section
variable {h : Heap} {a c k : Nat}
theorem fold201_run {b : Nat} (hb : b < 256) : ∃ y : Nat, y < 256 ∧ D cfg 201 [.int .u8 b] h = some (.int .u8 y, h) := by
 by_cases h1 : 65 ≤ b ∧ b ≤ 90
 · refine ⟨b + 32, by omega, D_eq (call201 (by simp) ?_)⟩
   have h2 : (65 : Int) ≤ b := by omega
   have h3 : (b : Int) ≤ 90 := by omega
   have w1 : IntKind.wrap .u8 ((b : Int) - 65) = (b - 65 : Nat) := by rw [wrap_u8 (by omega) (by omega)]; omega
   have w2 : IntKind.wrap .u8 (((b - 65 : Nat) : Int) + 97) = (b + 32 : Nat) := by rw [wrap_u8 (by omega) (by omega)]; omega
   simp [c201, c201_r0, c201_r1, c201_r2, h2, h3, w1, w2, -Int.natCast_add]
 · refine ⟨b, hb, D_eq (call201 (by simp) ?_)⟩
   by_cases h2 : (65 : Int) ≤ b
   · have h3 : ¬ (b : Int) ≤ 90 := by omega
     simp [c201, c201_r0, c201_r1, c201_r3, h2, h3]
   · simp [c201, c201_r0, c201_r1, c201_r3, h2]
theorem anone_run (A : AutoAt h a) : D cfg 238 [auPtr a, .int .i64 0] h = some (.bool false, h) := by
 refine D_eq (call238 (by simp) ?_)
 have q := cell_load (n := 3) (off := 0) (t := 220) A.auto rfl (by simp) rfl
 simp [c238, c238_r0, c238_r1, q, alen]
theorem next_run (A : AutoAt h a) {y : Nat} (hy : y < 256) : D cfg 200 [auPtr a, .int .i64 0, .int .u8 y] h = some (.int .i64 0, h) := by
 refine D_eq (call200 (by simp) ?_)
 have q := cell_load (n := 3) (off := 0) (t := 220) A.auto rfl (by simp) rfl
 have q2 : aload Tryz.prog (look h) 297 (.ptr (some ⟨a - 3, y, 256⟩)) = some (.int .u16 0) := cell_load (off := y) A.next (by simp [row0]) (by simp) (by rw [row0, List.getElem?_replicate, if_pos hy])
 have cv : aconv Tryz.prog (look h) h.length 297 3 (.int .u16 0) = some (.int .i64 0, .no) := by simp [aconv]; rfl
 have hlt : (y : Int) < 256 := by omega
 simp [c200, c200_r0, c200_r1, c200_r3, anone_run A, q, aindexAddr, hlt, q2, cv]
theorem out202_run (A : AutoAt h a) : D cfg 202 [auPtr a, .int .i64 0] h = some (.sl none 0 0, h) := by
 refine D_eq (call202 (by simp) ?_)
 have q := cell_load (n := 3) (off := 2) (t := 221) A.auto rfl (by simp) rfl
 have q2 := cell_load (n := 1) (off := 0) (t := 22) A.out rfl (by simp) rfl
 simp [c202, c202_r0, c202_r1, c202_r3, anone_run A, q, aindexAddr, q2, clone_nil]
def scC (a k : Nat) (bs : List AV) : List AV := [auPtr a, .sl none 0 0, .sl none 0 0, .int .i64 0, .int .i64 k] ++ bs
abbrev scPtr (c : Nat) : AV := .ptr (some ⟨c, 0, 21⟩)
def ScanAt (h : Heap) (c a k : Nat) : Prop := ∃ bs, bs.length = 16 ∧ h[c]? = some (.cells (scC a k bs) 317 false)
theorem snew_run : ∃ h', D cfg 146 [auPtr a, .sl none 0 0, .sl none 0 0] h = some (scPtr h.length, h') ∧ ScanAt h' h.length a 0 ∧ h'.length = h.length + 1 ∧ Grow h h' := by
 obtain ⟨r, h', h1, h2⟩ : ∃ r h', D cfg 146 [auPtr a, .sl none 0 0, .sl none 0 0] h = some (r, h') ∧ (r = scPtr h.length ∧ ScanAt h' h.length a 0 ∧ h'.length = h.length + 1 ∧ Grow h h') := by
  refine call146 (by simp) ?_
  simp [c146, c146_r0, c146_r1, append2, aappend, aappendE, srcCells, abuild, afill, zeros]
  exact ⟨List.replicate 16 (.int .u8 0), by simp, by simp [scC]⟩
 exact ⟨h', h2.1 ▸ h1, h2.2⟩
theorem sstep_run {b : Nat} (hb : b < 256) (hk : k < 100000) (A : AutoAt h a) (S : ScanAt h c a k) (h1 : c ≠ a) (h2 : c ≠ a - 1) (h3 : c ≠ a - 2) (h4 : c ≠ a - 3) : ∃ h', D cfg 151 [scPtr c, .int .u8 b] h = some (.sl none 0 0, h') ∧ ScanAt h' c a (k + 1) ∧ Only (fun x => x = c) h h' := by
 obtain ⟨r, h', h1, h2⟩ : ∃ r h', D cfg 151 [scPtr c, .int .u8 b] h = some (r, h') ∧ (r = .sl none 0 0 ∧ ScanAt h' c a (k + 1) ∧ Only (fun x => x = c) h h') := by
  obtain ⟨bs, hl, hc⟩ := S
  refine call151 (by simp) ?_
  have hlen : ∀ k bs, bs.length = 16 → (scC a k bs).length = 21 := fun k bs h => by simp [scC, h]
  have l4 := cell_load (n := 21) (off := 4) (t := 3) hc (hlen _ _ hl) (by simp) rfl
  have hm : ((k : Int) % 16) = (k % 16 : Nat) := by omega
  have hm2 : k % 16 < 16 := by omega
  obtain ⟨bs1, hbs1⟩ : ∃ bs1, bs1 = bs.set (k % 16) (.int .u8 b) := ⟨_, rfl⟩
  have hl1 : bs1.length = 16 := by rw [hbs1]; simp [hl]
  have s1 : astore Tryz.prog (look h) 5 (.ptr (some ⟨c, 5 + k % 16, 21⟩)) (.int .u8 b) = some (.set c (.cells (scC a k bs1) 317 false)) := by
   rw [cell_store hc (hlen _ _ hl) (by simp) rfl (by omega), hbs1]; unfold scC; rw [List.set_append_right _ _ (by simp)]; simp
  obtain ⟨g1, hg1⟩ : ∃ g1, g1 = h.set c (.cells (scC a k bs1) 317 false) := ⟨_, rfl⟩
  have O1 : Only (fun x => x = c) h g1 := by rw [hg1]; exact .set rfl
  have c1 : g1[c]? = some (.cells (scC a k bs1) 317 false) := by rw [hg1, List.getElem?_set_self (lt_of_at hc)]
  have l4' := cell_load (n := 21) (off := 4) (t := 3) c1 (hlen _ _ hl1) (by simp) rfl
  have s2 : astore Tryz.prog (look g1) 3 (.ptr (some ⟨c, 4, 21⟩)) (.int .i64 (k + 1 : Nat)) = some (.set c (.cells (scC a (k + 1) bs1) 317 false)) := by
   rw [cell_store c1 (hlen _ _ hl1) (by simp) rfl (by omega)]; rfl
  obtain ⟨g2, hg2⟩ : ∃ g2, g2 = g1.set c (.cells (scC a (k + 1) bs1) 317 false) := ⟨_, rfl⟩
  have O2 : Only (fun x => x = c) g1 g2 := by rw [hg2]; exact .set rfl
  have c2 : g2[c]? = some (.cells (scC a (k + 1) bs1) 317 false) := by rw [hg2, List.getElem?_set_self (lt_of_at c1)]
  have O12 := O1.trans O2
  have A2 : AutoAt g2 a := ⟨O12.at A.next (by omega), O12.at A.fail (by omega), O12.at A.out (by omega), O12.at A.auto (by omega)⟩
  have l0 := cell_load (n := 21) (off := 0) (t := 151) c2 (hlen _ _ hl1) (by simp) rfl
  have l3 := cell_load (n := 21) (off := 3) (t := 3) c2 (hlen _ _ hl1) (by simp) rfl
  obtain ⟨y, hy, ey⟩ := fold201_run (h := g2) hb
  have e3 := next_run A2 hy
  have s3 : astore Tryz.prog (look g2) 3 (.ptr (some ⟨c, 3, 21⟩)) (.int .i64 0) = some (.set c (.cells (scC a (k + 1) bs1) 317 false)) := by
   rw [cell_store c2 (hlen _ _ hl1) (by simp) rfl (by omega)]; rfl
  have hs : g2.set c (.cells (scC a (k + 1) bs1) 317 false) = g2 := by
   obtain ⟨hq, he⟩ := List.getElem?_eq_some_iff.1 c2
   rw [← he]; exact List.set_getElem_self hq
  have hci := lt_of_at c2
  have hS : ScanAt g2 c a (k + 1) := ⟨bs1, hl1, c2⟩
  have w1 : IntKind.wrap .i64 ((k : Int) + 1) = (k + 1 : Nat) := by rw [wrap_i64 (by omega) (by omega)]; omega
  have hrm : abin (.int .i64) .rem (.int .i64 (k : Int)) (.int .i64 16) = some (.int .i64 (k % 16 : Nat)) := by
   have ht : (k : Int).tmod 16 = (k % 16 : Nat) := by rw [Int.tmod_eq_emod_of_nonneg (by omega)]; omega
   have hw : IntKind.wrap .i64 ((k % 16 : Nat) : Int) = (k % 16 : Nat) := wrap_i64 (by omega) (by omega)
   simp [abin, ht, hw, -Int.natCast_emod]
  have hi : aindexAddr Tryz.prog 315 (.ptr (some ⟨c, 5, 21⟩)) (.int .i64 (k % 16 : Nat)) = some (.ptr (some ⟨c, 5 + k % 16, 21⟩)) := by
   have h1 : ((k % 16 : Nat) : Int) < 16 := by omega
   have h2 : (0 : Int) ≤ (k % 16 : Nat) := by omega
   simp only [aindexAddr, tk_315, tsz_5, h1, h2]; simp; omega
  simp [c151, c151_r0, c151_r1, l4, hrm, hi, s1, ← hg1, c151_r2, l4', w1, s2, ← hg2, c151_r3, l0, c151_r5, l3, ey, e3, hci, s3, hs, c151_r6, c151_r7, out202_run A2, alen, -Int.natCast_emod, -Int.natCast_add]
  refine Wt.unr 1 ?_
  simp [Unr, c151_l8, c151_r8, c151_r13, hS, O12]
 exact ⟨h', h2.1 ▸ h1, h2.2⟩
end
end
section
section
variable {h : Heap} {x c a k : Nat}
def sideC (c k : Nat) : List AV := [scPtr c, .sl none 0 0, .sl none 0 0, .int .i64 k]
abbrev siPtr (x : Nat) : AV := .ptr (some ⟨x, 0, 4⟩)
structure SideAt (h : Heap) (x c a k : Nat) : Prop where
 side : h[x]? = some (.cells (sideC c k) 249 false)
 scan : ScanAt h c a k
 auto : AutoAt h a
 xa : x + 3 < a
 ac : a < c
theorem SideAt.keep {h' : Heap} {fp : Nat → Prop} (H : SideAt h x c a k) (g : Only fp h h') (hf : ∀ b, x ≤ b → b ≤ c → ¬ fp b) : SideAt h' x c a k := by
 have h1 := H.xa
 have h2 := H.ac
 obtain ⟨bs, hl, hc⟩ := H.scan
 exact ⟨g.at H.side (hf _ (by omega) (by omega)), ⟨bs, hl, g.at hc (hf _ (by omega) (by omega))⟩, ⟨g.at H.auto.next (hf _ (by omega) (by omega)), g.at H.auto.fail (hf _ (by omega) (by omega)), g.at H.auto.out (hf _ (by omega) (by omega)), g.at H.auto.auto (hf _ (by omega) (by omega))⟩, h1, h2⟩
theorem vnew_run : ∃ h' c a, D cfg 95 [.sl none 0 0, .sl none 0 0, .int .i64 32] h = some (siPtr h.length, h') ∧ SideAt h' h.length c a 0 ∧ Grow h h' := by
 obtain ⟨r, h', h1, h2⟩ : ∃ r h', D cfg 95 [.sl none 0 0, .sl none 0 0, .int .i64 32] h = some (r, h') ∧ (r = siPtr h.length ∧ ∃ c a, SideAt h' h.length c a 0 ∧ Grow h h') := by
  refine call95 (by simp) ?_
  obtain ⟨h1, hh1⟩ : ∃ h1, h1 = h ++ [AObj.cells [.ptr none, .sl none 0 0, .sl none 0 0, .int .i64 0] 249 false] := ⟨_, rfl⟩
  have g1 : Grow h h1 := by rw [hh1]; simp
  have x1 : h1[h.length]? = some (.cells [.ptr none, .sl none 0 0, .sl none 0 0, .int .i64 0] 249 false) := by rw [hh1]; simp
  have hl1 : h1.length = h.length + 1 := by rw [hh1]; simp
  obtain ⟨h2, e2, A2, g2⟩ := build_run (h := h1) (B := 4096) (by omega)
  rw [hl1] at e2 A2
  obtain ⟨h3, e3, S3, l3, g3⟩ := snew_run (h := h2) (a := h.length + 1 + 8)
  have hal := lt_of_at A2.auto
  have x3 := g3.at (g2.at x1)
  have s4 : astore Tryz.prog (look h3) 245 (.ptr (some ⟨h.length, 0, 4⟩)) (scPtr h2.length) = some (.set h.length (.cells (sideC h2.length 0) 249 false)) := cell_store x3 rfl (by simp) rfl (show 0 < 4 by omega)
  obtain ⟨h4, hh4⟩ : ∃ h4, h4 = h3.set h.length (.cells (sideC h2.length 0) 249 false) := ⟨_, rfl⟩
  have O4 : Only (fun b => b = h.length) h3 h4 := by rw [hh4]; exact .set rfl
  have x4 : h4[h.length]? = some (.cells (sideC h2.length 0) 249 false) := by rw [hh4, List.getElem?_set_self (lt_of_at x3)]
  obtain ⟨bs, hbl, hbc⟩ := S3
  have A3 := A2.keep g3
  have S : SideAt h4 h.length h2.length (h.length + 9) 0 := ⟨x4, ⟨bs, hbl, O4.at hbc (by omega)⟩, ⟨O4.at A3.next (by omega), O4.at A3.fail (by omega), O4.at A3.out (by omega), O4.at A3.auto (by omega)⟩, by omega, by omega⟩
  have g4 : Grow h h4 := by rw [hh4]; exact Grow_set (Nat.le_refl _) ((g1.trans g2).trans g3)
  simp at e2
  simp [c95, c95_r0, c95_r1, abuild, afill, zeros, ← hh1, c95_r2, c95_r3, c95_r4, alen]
  refine Wt.unr 1 ?_
  simp [Unr, c95_l5, c95_r5, c95_r19, e2, c95_r20, e3, s4, ← hh4, c95_r21]
  exact ⟨⟨_, _, S⟩, g4⟩
 obtain ⟨rfl, c, a, h3, h4⟩ := h2
 exact ⟨h', c, a, h1, h3, h4⟩
theorem live_run : D cfg 198 [siPtr x] h = some (.fn (.func 237) [.ptr (some ⟨h.length, 0, 1⟩)], h ++ [.cells [siPtr x] 187 false]) := by
 refine D_eq (call198 (by simp) ?_)
 simp [c198, c198_r0, c198_r1]
theorem worst_run : D cfg 150 [.sl none 0 0] h = some (.int .i64 0, h) := by
 refine D_eq (call150 (by simp) ?_)
 simp [c150, c150_r0, c150_r1, c150_r2, alen]
 refine Wt.unr 1 ?_
 simp [Unr, c150_l3, c150_r3, c150_r8]
theorem worse_run : D cfg 98 [.int .i64 0, .int .i64 1] h = some (.bool false, h) := by
 refine D_eq (call98 (by simp) ?_)
 simp [c98, c98_r0, c98_r1]
theorem note_run {e p : AV} : D cfg 97 [e, p, .sl none 0 0] h = some (.tup [], h) := by
 refine D_eq (call97 (by simp) ?_)
 simp [c97, c97_r0, alen]
 refine Wt.unr 1 ?_
 simp [Unr, c97_l1, c97_r1]
theorem told_run {g : Nat} (H : SideAt h x c a k) : ∃ h', D cfg1 147 [siPtr x, .fn (.func g) []] h = some (.sl none 0 0, h') ∧ Grow h h' := by
 obtain ⟨h1, hh1⟩ : ∃ h1, h1 = h ++ [AObj.cells [siPtr x] 187 false, .cells [AV.fn (.func g) []] 260 false] := ⟨_, rfl⟩
 obtain ⟨h2, hh2⟩ : ∃ h2, h2 = h1 ++ [AObj.cells [.sl none 0 0] 46 false] := ⟨_, rfl⟩
 obtain ⟨h3, hh3⟩ : ∃ h3, h3 = h2 ++ [AObj.cells [.bool false] 4 false] := ⟨_, rfl⟩
 obtain ⟨h4, hh4⟩ : ∃ h4, h4 = h3 ++ [AObj.cells [siPtr x] 187 false] := ⟨_, rfl⟩
 have g1 : Grow h h1 := by rw [hh1]; simp
 have g2 : Grow h1 h2 := by rw [hh2]; simp
 have g3 : Grow h2 h3 := by rw [hh3]; simp
 have g4 : Grow h3 h4 := by rw [hh4]; simp
 have gg : Grow h h4 := ((g1.trans g2).trans g3).trans g4
 have k2 : h1[h.length]? = some (.cells [siPtr x] 187 false) := by rw [hh1]; simp
 have k5 : h2[h1.length]? = some (.cells [.sl none 0 0] 46 false) := by rw [hh2]; simp
 have k6 : h3[h2.length]? = some (.cells [.bool false] 4 false) := by rw [hh3]; simp
 have k9 : h4[h3.length]? = some (.cells [siPtr x] 187 false) := by rw [hh4]; simp
 have hx := gg.at H.side
 have l2 : aload Tryz.prog (look h3) 187 (.ptr (some ⟨h.length, 0, 1⟩)) = some (siPtr x) := cell_load (g3.at (g2.at k2)) rfl (by simp) rfl
 have l5 : aload Tryz.prog (look h4) 46 (.ptr (some ⟨h1.length, 0, 1⟩)) = some (.sl none 0 0) := cell_load (g4.at (g3.at k5)) rfl (by simp) rfl
 have l6 : aload Tryz.prog (look h4) 4 (.ptr (some ⟨h2.length, 0, 1⟩)) = some (.bool false) := cell_load (g4.at k6) rfl (by simp) rfl
 have l9 : aload Tryz.prog (look h4) 187 (.ptr (some ⟨h3.length, 0, 1⟩)) = some (siPtr x) := cell_load k9 rfl (by simp) rfl
 have lx : aload Tryz.prog (look h4) 247 (.ptr (some ⟨x, 2, 4⟩)) = some (.sl none 0 0) := cell_load hx rfl (by simp) rfl
 have st6 : astore Tryz.prog (look h3) 4 (.ptr (some ⟨h2.length, 0, 1⟩)) (.bool false) = some (.set h2.length (.cells [.bool false] 4 false)) := cell_store k6 rfl (by simp) rfl (show 0 < 1 by omega)
 have sid : h3.set h2.length (.cells [.bool false] 4 false) = h3 := by
  obtain ⟨hq, he⟩ := List.getElem?_eq_some_iff.1 k6
  rw [← he]; exact List.set_getElem_self hq
 obtain ⟨e, s', a0, rfl, rfl⟩ := Aw_W (P := Tryz.prog) (F := D cfg) (k := c147_p0) (s := ⟨argsEnv 0 [siPtr x, .fn (.func g) []], h⟩) (Q := fun e s' => e = .normal ∧ s' = ⟨[(2, .ptr (some ⟨h.length, 0, 1⟩)), (3, .ptr (some ⟨h.length + 1, 0, 1⟩))], h1⟩) (by
  show Wt _ _ _ _ _
  simp [c147_p0, c147_r0, ← hh1])
 obtain ⟨e, s', a1, rfl, rfl⟩ := Aw_W (P := Tryz.prog) (F := D cfg) (k := c147_p1) (s := ⟨[(2, .ptr (some ⟨h.length, 0, 1⟩)), (3, .ptr (some ⟨h.length + 1, 0, 1⟩))], h1⟩) (Q := fun e s' => e = .normal ∧ s' = ⟨[(2, .ptr (some ⟨h.length, 0, 1⟩)), (3, .ptr (some ⟨h.length + 1, 0, 1⟩)), (5, .ptr (some ⟨h1.length, 0, 1⟩))], h2⟩) (by
  show Wt _ _ _ _ _
  simp [c147_p1, c147_r1, zeros, ← hh2])
 obtain ⟨e, s', a2, rfl, rfl⟩ := Aw_W (P := Tryz.prog) (F := D cfg) (k := c147_p2) (s := ⟨[(2, .ptr (some ⟨h.length, 0, 1⟩)), (3, .ptr (some ⟨h.length + 1, 0, 1⟩)), (5, .ptr (some ⟨h1.length, 0, 1⟩))], h2⟩) (Q := fun e s' => e = .normal ∧ s' = ⟨[(2, .ptr (some ⟨h.length, 0, 1⟩)), (3, .ptr (some ⟨h.length + 1, 0, 1⟩)), (5, .ptr (some ⟨h1.length, 0, 1⟩)), (6, .ptr (some ⟨h2.length, 0, 1⟩))], h3⟩) (by
  show Wt _ _ _ _ _
  simp [c147_p2, c147_r2, zeros, ← hh3, st6, sid])
 obtain ⟨e, s', a3, rfl, rfl⟩ := Aw_W (P := Tryz.prog) (F := D cfg) (k := c147_p3) (s := ⟨[(2, .ptr (some ⟨h.length, 0, 1⟩)), (3, .ptr (some ⟨h.length + 1, 0, 1⟩)), (5, .ptr (some ⟨h1.length, 0, 1⟩)), (6, .ptr (some ⟨h2.length, 0, 1⟩))], h3⟩) (Q := fun e s' => e = .normal ∧ s' = ⟨[(2, .ptr (some ⟨h.length, 0, 1⟩)), (3, .ptr (some ⟨h.length + 1, 0, 1⟩)), (5, .ptr (some ⟨h1.length, 0, 1⟩)), (6, .ptr (some ⟨h2.length, 0, 1⟩)), (9, .fn (.func 237) [.ptr (some ⟨h3.length, 0, 1⟩)])], h4⟩) (by
  show Wt _ _ _ _ _
  simp [c147_p3, c147_r3, l2, live_run, ← hh4])
 have hpr : preRun Tryz.prog (D cfg) [c147_p0, c147_p1, c147_p2, c147_p3] ⟨argsEnv 0 [siPtr x, .fn (.func g) []], h⟩ = some ⟨[(2, .ptr (some ⟨h.length, 0, 1⟩)), (3, .ptr (some ⟨h.length + 1, 0, 1⟩)), (5, .ptr (some ⟨h1.length, 0, 1⟩)), (6, .ptr (some ⟨h2.length, 0, 1⟩)), (9, .fn (.func 237) [.ptr (some ⟨h3.length, 0, 1⟩)])], h4⟩ := by
  simp only [preRun, a0, a1, a2, a3]
 have hrun : ∀ l, rangeRun Tryz.prog (D cfg) 237 26 c237 c147_ca c147_cb 9 10 l ⟨[(2, .ptr (some ⟨h.length, 0, 1⟩)), (3, .ptr (some ⟨h.length + 1, 0, 1⟩)), (5, .ptr (some ⟨h1.length, 0, 1⟩)), (6, .ptr (some ⟨h2.length, 0, 1⟩)), (9, .fn (.func 237) [.ptr (some ⟨h3.length, 0, 1⟩)])], h4⟩ = some h4 := by
  intro l
  obtain ⟨e, s', ar, hr⟩ := Aw_W (P := Tryz.prog) (F := yF (D cfg) (bodyY Tryz.prog (D cfg) c147_ca c147_cb [(2, .ptr (some ⟨h.length, 0, 1⟩)), (3, .ptr (some ⟨h.length + 1, 0, 1⟩)), (5, .ptr (some ⟨h1.length, 0, 1⟩)), (6, .ptr (some ⟨h2.length, 0, 1⟩)), (9, .fn (.func 237) [.ptr (some ⟨h3.length, 0, 1⟩)])] 10) l) (k := c237) (s := ⟨argsEnv 0 [.fn (.yield l) [], .ptr (some ⟨h3.length, 0, 1⟩)], h4⟩) (Q := fun e s' => e = .normal ∧ s'.h = h4) (by
   show Wt _ _ _ _ _
   simp [c237, c237_r0, l9, lx, alen]
   refine Wt.unr 1 ?_
   simp [Unr, c237_l1, c237_r1])
  obtain ⟨rfl, hs⟩ := hr
  simp at ar
  simp [rangeRun, Env.get, ar, hs]
 obtain ⟨e, s', a4, hq⟩ := Aw_W (P := Tryz.prog) (F := D cfg) (k := c147_s0) (s := ⟨[(2, .ptr (some ⟨h.length, 0, 1⟩)), (3, .ptr (some ⟨h.length + 1, 0, 1⟩)), (5, .ptr (some ⟨h1.length, 0, 1⟩)), (6, .ptr (some ⟨h2.length, 0, 1⟩)), (9, .fn (.func 237) [.ptr (some ⟨h3.length, 0, 1⟩)])], h4⟩) (Q := fun e s' => e = .ret ∧ s' = ⟨[(4, .sl none 0 0)], h4⟩) (by
  show Wt _ _ _ _ _
  simp [c147_s0, c147_r10, l6, c147_r12, l5])
 obtain ⟨rfl, rfl⟩ := hq
 refine ⟨h4, call147 (rfExt_of (by rw [c147_nt]; simp) hpr hrun ?_), gg⟩
 rw [a4]
 simp [afinish, c147_rs, aresultL, Env.get, pack]
end
end
theorem call1_96 {args : List AV} {h : Heap} {R : AV → Heap → Prop} (hn : args.length ≤ 10) (hw : Wt Tryz.prog (D cfg1) c96 ⟨argsEnv 0 args, h⟩ (Ends Tryz.prog [.tmp 2, .tmp 3] R)) : ∃ r h', D cfg1 96 args h = some (r, h') ∧ R r h' :=
 let ⟨_, hb, hk⟩ := c96_eq
 W.calls (c := cfg1) rfl c96_fn hb hk c96_rs (by rw [c96_nt]; exact hn) hw
theorem call1_99 {args : List AV} {h : Heap} {R : AV → Heap → Prop} (hn : args.length ≤ 76) (hw : Wt Tryz.prog (D cfg1) c99 ⟨argsEnv 0 args, h⟩ (Ends Tryz.prog [.tmp 4, .tmp 5] R)) : ∃ r h', D cfg1 99 args h = some (r, h') ∧ R r h' :=
 let ⟨_, hb, hk⟩ := c99_eq
 W.calls (c := cfg1) rfl c99_fn hb hk c99_rs (by rw [c99_nt]; exact hn) hw
theorem call1_103 {args : List AV} {h : Heap} {R : AV → Heap → Prop} (hn : args.length ≤ 91) (hw : Wt Tryz.prog (D cfg1) c103 ⟨argsEnv 0 args, h⟩ (Ends Tryz.prog [.tmp 4] R)) : ∃ r h', D cfg1 103 args h = some (r, h') ∧ R r h' :=
 let ⟨_, hb, hk⟩ := c103_eq
 W.calls (c := cfg1) rfl c103_fn hb hk c103_rs (by rw [c103_nt]; exact hn) hw
theorem call1_106 {args : List AV} {h : Heap} {R : AV → Heap → Prop} (hn : args.length ≤ 96) (hw : Wt Tryz.prog (D cfg1) c106 ⟨argsEnv 0 args, h⟩ (Ends Tryz.prog [.tmp 4] R)) : ∃ r h', D cfg1 106 args h = some (r, h') ∧ R r h' :=
 let ⟨_, hb, hk⟩ := c106_eq
 W.calls (c := cfg1) rfl c106_fn hb hk c106_rs (by rw [c106_nt]; exact hn) hw
theorem call1_107 {args : List AV} {h : Heap} {R : AV → Heap → Prop} (hn : args.length ≤ 108) (hw : Wt Tryz.prog (D cfg1) c107 ⟨argsEnv 0 args, h⟩ (Ends Tryz.prog [.tmp 4] R)) : ∃ r h', D cfg1 107 args h = some (r, h') ∧ R r h' :=
 let ⟨_, hb, hk⟩ := c107_eq
 W.calls (c := cfg1) rfl c107_fn hb hk c107_rs (by rw [c107_nt]; exact hn) hw
theorem call1_166 {args : List AV} {h : Heap} {R : AV → Heap → Prop} (hn : args.length ≤ 86) (hw : Wt Tryz.prog (D cfg1) c166 ⟨argsEnv 0 args, h⟩ (Ends Tryz.prog [.tmp 6] R)) : ∃ r h', D cfg1 166 args h = some (r, h') ∧ R r h' :=
 let ⟨_, hb, hk⟩ := c166_eq
 W.calls (c := cfg1) rfl c166_fn hb hk c166_rs (by rw [c166_nt]; exact hn) hw
theorem call1_35 {args : List AV} {h : Heap} {R : AV → Heap → Prop} (hn : args.length ≤ 58) (hw : Wt Tryz.prog (D cfg1) c35 ⟨argsEnv 0 args, h⟩ (Ends Tryz.prog [.cell 6 70] R)) : ∃ r h', D cfg1 35 args h = some (r, h') ∧ R r h' :=
 let ⟨_, hb, hk⟩ := c35_eq
 W.calls (c := cfg1) rfl c35_fn hb hk c35_rs (by rw [c35_nt]; exact hn) hw
theorem call1_34 {args : List AV} {h : Heap} {R : AV → Heap → Prop} (hn : args.length ≤ 9) (hw : Wt Tryz.prog (D cfg1) c34 ⟨argsEnv 0 args, h⟩ (Ends Tryz.prog [.cell 2 70] R)) : ∃ r h', D cfg1 34 args h = some (r, h') ∧ R r h' :=
 let ⟨_, hb, hk⟩ := c34_eq
 W.calls (c := cfg1) rfl c34_fn hb hk c34_rs (by rw [c34_nt]; exact hn) hw
theorem call1_22 {args : List AV} {h : Heap} {R : AV → Heap → Prop} (hn : args.length ≤ 28) (hw : Wt Tryz.prog (D cfg1) c22 ⟨argsEnv 0 args, h⟩ (Ends Tryz.prog [.cell 4 70] R)) : ∃ r h', D cfg1 22 args h = some (r, h') ∧ R r h' :=
 let ⟨_, hb, hk⟩ := c22_eq
 W.calls (c := cfg1) rfl c22_fn hb hk c22_rs (by rw [c22_nt]; exact hn) hw
theorem call1_12 {args : List AV} {h : Heap} {R : AV → Heap → Prop} (hn : args.length ≤ 41) (hw : Wt Tryz.prog (D cfg1) c12 ⟨argsEnv 0 args, h⟩ (Ends Tryz.prog [.tmp 4, .cell 5 35, .tmp 6] R)) : ∃ r h', D cfg1 12 args h = some (r, h') ∧ R r h' :=
 let ⟨_, hb, hk⟩ := c12_eq
 W.calls (c := cfg1) rfl c12_fn hb hk c12_rs (by rw [c12_nt]; exact hn) hw
theorem call1_6 {args : List AV} {h : Heap} {R : AV → Heap → Prop} (hn : args.length ≤ 35) (hw : Wt Tryz.prog (D cfg1) c6 ⟨argsEnv 0 args, h⟩ (Ends Tryz.prog [.tmp 0] R)) : ∃ r h', D cfg1 6 args h = some (r, h') ∧ R r h' :=
 let ⟨_, hb, hk⟩ := c6_eq
 W.calls (c := cfg1) rfl c6_fn hb hk c6_rs (by rw [c6_nt]; exact hn) hw
theorem call1_64 {args : List AV} {h : Heap} {R : AV → Heap → Prop} (hn : args.length ≤ 28) (hw : Wt Tryz.prog (D cfg1) c64 ⟨argsEnv 0 args, h⟩ (Ends Tryz.prog [.tmp 4] R)) : ∃ r h', D cfg1 64 args h = some (r, h') ∧ R r h' :=
 let ⟨_, hb, hk⟩ := c64_eq
 W.calls (c := cfg1) rfl c64_fn hb hk c64_rs (by rw [c64_nt]; exact hn) hw
section
section
variable {h : Heap} {x c a k : Nat}
theorem begin_run (H : SideAt h x c a k) : ∃ h', D cfg1 96 [siPtr x] h = some (.tup [.sl none 0 0, .int .i64 0], h') ∧ Grow h h' := by
 obtain ⟨h1, e1, g1⟩ := told_run (g := 148) H
 obtain ⟨r, h', h2, h3⟩ : ∃ r h', D cfg1 96 [siPtr x] h = some (r, h') ∧ (r = .tup [.sl none 0 0, .int .i64 0] ∧ h' = h1) := by
  refine call1_96 (by simp) ?_
  simp [c96, c96_r0, c96_r1, c96_r2, e1, lift worst_run]
 obtain ⟨rfl, rfl⟩ := h3
 exact ⟨_, h2, g1⟩
theorem vstep_run {b : Nat} (hb : b < 256) (hk : k < 100000) (H : SideAt h x c a k) : ∃ h', D cfg1 99 [siPtr x, .int .u8 b] h = some (.tup [.sl none 0 0, .int .i64 0], h') ∧ SideAt h' x c a (k + 1) ∧ Only (fun b => b = x ∨ b = c) h h' := by
 have hxa := H.xa
 have hac := H.ac
 have w1 : IntKind.wrap .i64 ((k : Int) + 1) = (k + 1 : Nat) := by rw [wrap_i64 (by omega) (by omega)]; omega
 have l3 : aload Tryz.prog (look h) 3 (.ptr (some ⟨x, 3, 4⟩)) = some (.int .i64 k) := cell_load H.side rfl (by simp) rfl
 have s1 : astore Tryz.prog (look h) 3 (.ptr (some ⟨x, 3, 4⟩)) (.int .i64 (k + 1 : Nat)) = some (.set x (.cells (sideC c (k + 1)) 249 false)) := cell_store H.side rfl (by simp) rfl (show 3 < 4 by omega)
 obtain ⟨h1, hh1⟩ : ∃ h1, h1 = h.set x (.cells (sideC c (k + 1)) 249 false) := ⟨_, rfl⟩
 have O1 : Only (fun b => b = x) h h1 := by rw [hh1]; exact .set rfl
 have x1 : h1[x]? = some (.cells (sideC c (k + 1)) 249 false) := by rw [hh1, List.getElem?_set_self (lt_of_at H.side)]
 obtain ⟨bs, hbl, hbc⟩ := H.scan
 have A1 : AutoAt h1 a := ⟨O1.at H.auto.next (by omega), O1.at H.auto.fail (by omega), O1.at H.auto.out (by omega), O1.at H.auto.auto (by omega)⟩
 have S1 : ScanAt h1 c a k := ⟨bs, hbl, O1.at hbc (by omega)⟩
 have l0 : aload Tryz.prog (look h1) 245 (.ptr (some ⟨x, 0, 4⟩)) = some (scPtr c) := cell_load x1 rfl (by simp) rfl
 obtain ⟨h2, e2, S2, O2⟩ := sstep_run hb hk A1 S1 (by omega) (by omega) (by omega) (by omega)
 have H2 : SideAt h2 x c a (k + 1) := ⟨O2.at x1 (by omega), S2, ⟨O2.at A1.next (by omega), O2.at A1.fail (by omega), O2.at A1.out (by omega), O2.at A1.auto (by omega)⟩, hxa, hac⟩
 obtain ⟨h3, e3, g3⟩ := told_run (g := 152) H2
 have O3 : Only (fun _ => False) h2 h3 := g3.only
 have H3 := H2.keep O3 fun _ _ _ => id
 have hO : Only (fun b => b = x ∨ b = c) h h3 := ((O1.mono fun _ _ e => .inl e).next O2 fun _ _ e => .inr e).next O3 fun _ _ e => e.elim
 obtain ⟨r, h', q1, q2⟩ : ∃ r h', D cfg1 99 [siPtr x, .int .u8 b] h = some (r, h') ∧ (r = .tup [.sl none 0 0, .int .i64 0] ∧ h' = h3) := by
  refine call1_99 (by simp) ?_
  simp [c99, c99_r0, c99_r1, l3, w1, s1, ← hh1, c99_r2, l0, lift e2, c99_r3, alen, -Int.natCast_add]
  refine Wt.unr 1 ?_
  simp [Unr, c99_l4, c99_r4, c99_r9, e3, c99_r10, alen]
  refine Wt.unr 1 ?_
  simp [Unr, c99_l11, c99_r11, c99_r16, lift worst_run]
 obtain ⟨rfl, rfl⟩ := q2
 exact ⟨_, q1, H3, hO⟩
end
end
section
theorem ld_sub {h : Heap} {b n off k : Nat} {cs vs : List AV} {e t : TypeId} {g : Bool} (hb : h[b]? = some (.cells cs e g)) (hl : cs.length = n) (ht : agk (tk Tryz.prog t) = some true) (hz : tsz Tryz.prog t = k) (ho : off + k ≤ n) (hv : (cs.drop off).take k = vs) : aload Tryz.prog (look h) t (.ptr (some ⟨b, off, n⟩)) = some (.agg vs) := by
 have hr : row (look h) ⟨b, off, n⟩ = some cs := by simp [row, hb, hl]
 simp only [aload, hr, ht, hz, hl, ho, if_true, hv]
theorem st_sub {h : Heap} {b n off k : Nat} {cs vs us : List AV} {e t : TypeId} {g : Bool} (hb : h[b]? = some (.cells cs e g)) (hl : cs.length = n) (hz : tsz Tryz.prog t = k) (hv : vs.length = k) (h1 : vs.all AV.one = true) (hp : 0 < k) (ho : off + k ≤ n) (hu : splice cs off vs = us) : astore Tryz.prog (look h) t (.ptr (some ⟨b, off, n⟩)) (.agg vs) = some (.set b (.cells us e g)) := by
 simp only [astore, look_at, hb, hz, hl, AV.cells, hv, h1, AV.one, hu, hp, ho]
 simp
theorem st1 {h : Heap} {b off : Nat} {cs us : List AV} {e : TypeId} {g : Bool} {v : AV} (H : h[b]? = some (.cells cs e g)) (t : TypeId) (n : Nat) (hl : cs.length = n) (hz : tsz Tryz.prog t = 1) (hv : v.one = true) (ho : off < n) (hu : cs.set off v = us) :
  ∃ h', h' = h.set b (.cells us e g) ∧ astore Tryz.prog (look h) t (.ptr (some ⟨b, off, n⟩)) v = some (.set b (.cells us e g)) ∧ h'[b]? = some (.cells us e g) ∧ Only (fun c => c = b) h h' :=
 ⟨_, rfl, by rw [cell_store H hl hz hv ho, hu], List.getElem?_set_self (lt_of_at H), .set rfl⟩
theorem stN {h : Heap} {b off : Nat} {cs us vs : List AV} {e : TypeId} {g : Bool} (H : h[b]? = some (.cells cs e g)) (t : TypeId) (n k : Nat) (hl : cs.length = n) (hz : tsz Tryz.prog t = k) (hv : vs.length = k) (h1 : vs.all AV.one = true) (hp : 0 < k) (ho : off + k ≤ n) (hu : splice cs off vs = us) :
  ∃ h', h' = h.set b (.cells us e g) ∧ astore Tryz.prog (look h) t (.ptr (some ⟨b, off, n⟩)) (.agg vs) = some (.set b (.cells us e g)) ∧ h'[b]? = some (.cells us e g) ∧ Only (fun c => c = b) h h' :=
 ⟨_, rfl, st_sub H hl hz hv h1 hp ho hu, List.getElem?_set_self (lt_of_at H), .set rfl⟩
theorem app1 {h : Heap} (o : AObj) : ∃ h', h' = h ++ [o] ∧ h'[h.length]? = some o ∧ h'.length = h.length + 1 ∧ Only (fun _ => False) h h' := ⟨_, rfl, by simp, by simp, .app⟩
theorem gro {f : FuncId} {args : List AV} {h : Heap} : ∃ h', h' = G f args h ∧ Only (fun _ => False) h h' := ⟨_, rfl, G_grow.only⟩
def et0 : List AV := [.int .u8 0, .int .u8 0, .int .u8 0, .int .u8 0, .int .u8 0, .int .u8 0, .int .u8 0, .int .u8 0, .int .u8 0, .int .u8 0, .int .u8 0, .int .u8 0, .int .i64 0]
def ip0 : List AV := [.int .i64 0, .int .i64 0, .bool false, .bool false, .int .i64 0, .int .i64 0, .int .i64 0, .int .u32 0, .int .u32 0, .str []]
def sg0 : List AV := [.int .i64 0, .int .i64 0, .int .u32 0, .int .u32 0, .int .i64 0, .int .i64 0, .str []]
def pkC (x : Nat) (data : Txt) (et ip : List AV) (load : Txt) (sg : List AV) (body : Txt) (tp : List AV) (id dir : Nat) (new : Bool) (f fr : AV) : List AV :=
 .int .i64 x :: .str data :: (et ++ (ip ++ (.str load :: (sg ++ (.str body :: (tp ++ [.int .i64 id, .int .i64 dir, .bool new, f, fr, .sl none 0 0, .int .i64 0, .int .i64 0]))))))
abbrev pPtr (p : Nat) : AV := .ptr (some ⟨p, 0, 47⟩)
abbrev ePtr (e : Nat) : AV := .ptr (some ⟨e, 0, 29⟩)
abbrev ethX (x : Nat) : List AV := ethC (ethD x) (ethS x)
abbrev ipX (x : Nat) : List AV := ipC (srcA x) (dstA x)
abbrev sgX (x fl seq ack : Nat) : List AV := segC (srcP x) (dstP x) seq ack fl 1000
def PkAt (h : Heap) (p : Nat) (cs : List AV) : Prop := h[p]? = some (.cells cs 130 false)
theorem PkAt.set {h : Heap} {p : Nat} {cs us : List AV} (H : PkAt h p cs) : PkAt (h.set p (.cells us 130 false)) p us := List.getElem?_set_self (lt_of_at H)
theorem PkAt.keep {h h' : Heap} {p : Nat} {cs : List AV} {fp : Nat → Prop} (H : PkAt h p cs) (g : Only fp h h') (hp : ¬ fp p) : PkAt h' p cs := g.at H hp
section
variable {h : Heap} {x e p : Nat}
theorem st55_run {b : Txt} (hx : x < 2) (hb : b.length ≤ 2900) (H : PkAt h p (pkC x (ethB (ethD x) (ethS x) b) et0 ip0 [] sg0 [] tup0 0 0 false (.ptr none) (.sl none 0 0))) :
  ∃ h', D cfg 55 [ePtr e, pPtr p] h = some (.bool true, h') ∧ PkAt h' p (pkC x (ethB (ethD x) (ethS x) b) (ethX x) ip0 b sg0 [] tup0 0 0 false (.ptr none) (.sl none 0 0)) ∧ Only (fun c => c = p) h h' := by
 obtain ⟨fr, hfr⟩ : ∃ fr, fr = ethB (ethD x) (ethS x) b := ⟨_, rfl⟩
 have e1 := fun h' => ethget_run (h := h') hx hb
 rw [← hfr] at H e1 ⊢
 have lt := lt_of_at H
 have l0 : aload Tryz.prog (look h) 3 (.ptr (some ⟨p, 0, 47⟩)) = some (.int .i64 x) := cell_load H rfl (by simp) rfl
 have l1 : aload Tryz.prog (look h) 9 (.ptr (some ⟨p, 1, 47⟩)) = some (.str fr) := cell_load H rfl (by simp) rfl
 obtain ⟨h1, hh1, O1⟩ := gro (f := 76) (args := [.str fr]) (h := h)
 have H1 := H.keep O1 id
 obtain ⟨h2, hh2, n2, l2, O2⟩ := app1 (h := h1) (.cells et0 60 false)
 have lt1 := lt_of_at H1
 obtain ⟨h2', hh2', s2', n2', O2'⟩ := stN (off := 0) (vs := ethX x) (us := ethX x) n2 60 13 13 rfl (by simp) rfl (by simp [ethC, byteCells]) (by omega) (by omega) rfl
 have H2 := (H1.keep O2 id).keep O2' (by omega)
 have q2 : aload Tryz.prog (look h2') 60 (.ptr (some ⟨h1.length, 0, 13⟩)) = some (.agg (ethX x)) := ld_all n2' rfl (by simp) (by simp)
 simp only [et0] at hh2
 obtain ⟨h3, hh3, s3, H3, O3⟩ := stN (off := 2) (vs := ethX x) (us := pkC x fr (ethX x) ip0 [] sg0 [] tup0 0 0 false (.ptr none) (.sl none 0 0)) H2 60 47 13 rfl (by simp) rfl (by simp [ethC, byteCells]) (by omega) (by omega) rfl
 obtain ⟨h4, hh4, s4, H4, O4⟩ := st1 (off := 25) (v := .str b) (us := pkC x fr (ethX x) ip0 b sg0 [] tup0 0 0 false (.ptr none) (.sl none 0 0)) H3 9 47 rfl (by simp) rfl (by omega) rfl
 have hO : Only (fun c => c = p) h h4 := ((((O1.mono fun _ _ e => e.elim).next O2 fun _ _ e => e.elim).next O2' fun c h1 e => by have := O1.1; omega).next O3 fun _ _ e => e).next O4 fun _ _ e => e
 obtain ⟨r, h', q1, q3⟩ : ∃ r h', D cfg 55 [ePtr e, pPtr p] h = some (r, h') ∧ (r = .bool true ∧ h' = h4) := by
  refine call55 (by simp) ?_
  obtain rfl | rfl : x = 0 ∨ x = 1 := by omega
  all_goals
   simp at l0
   simp [c55, c55_r0, c55_r1, l0, c55_r3, l1, e1, ← hh1, zeros, ← hh2, s2', ← hh2', c55_r4, c55_r6, q2, s3, ← hh3, s4, ← hh4, c55_r7]
 obtain ⟨rfl, rfl⟩ := q3
 exact ⟨_, q1, H4, hO⟩
theorem fresh {h : Heap} (zc vs : List AV) (e : TypeId) (n : Nat) (hl : zc.length = n) (hv : vs.length = n) (h0 : vs.all AV.one = true) (hp : 0 < n) (hz : tsz Tryz.prog e = n) (ht : agk (tk Tryz.prog e) = some true) :
  ∃ h1 h2, h1 = h ++ [.cells zc e false] ∧ h2 = h1.set h.length (.cells vs e false) ∧ astore Tryz.prog (look h1) e (.ptr (some ⟨h.length, 0, n⟩)) (.agg vs) = some (.set h.length (.cells vs e false)) ∧ aload Tryz.prog (look h2) e (.ptr (some ⟨h.length, 0, n⟩)) = some (.agg vs) ∧ h2[h.length]? = some (.cells vs e false) ∧ Only (fun _ => False) h h2 := by
 obtain ⟨h1, hh1, n1, l1, O1⟩ := app1 (h := h) (.cells zc e false)
 have sp : splice zc 0 vs = vs := by simp [splice, hl, hv, List.drop_of_length_le]
 obtain ⟨h2, hh2, s2, n2, O2⟩ := stN (off := 0) (vs := vs) (us := vs) n1 e n n hl hz hv h0 hp (by omega) sp
 exact ⟨h1, h2, hh1, hh2, s2, ld_all n2 hv ht hz, n2, O1.next O2 fun c hc e => by omega⟩
theorem st56_run {b data : Txt} (H : PkAt h p (pkC x data (ethX x) ip0 b sg0 [] tup0 0 0 false (.ptr none) (.sl none 0 0))) : D cfg 56 [ePtr e, pPtr p] h = some (.bool true, h) := by
 refine D_eq (call56 (by simp) ?_)
 have l := cell_load (n := 47) (off := 14) (t := 3) H rfl (by simp) rfl
 simp [c56, c56_r0, c56_r1, l, c56_r3]
theorem st57_run {data s body : Txt} (hx : x < 2) (hb : body.length ≤ 2000) (I : IpS s (srcA x) (dstA x) body) (H : PkAt h p (pkC x data (ethX x) ip0 s sg0 [] tup0 0 0 false (.ptr none) (.sl none 0 0))) :
  ∃ h', D cfg 57 [ePtr e, pPtr p] h = some (.bool true, h') ∧ PkAt h' p (pkC x data (ethX x) (ipX x) body sg0 [] tup0 0 0 false (.ptr none) (.sl none 0 0)) ∧ Only (fun c => c = p) h h' := by
 have ha : srcA x < 4294967296 := by unfold srcA; split <;> omega
 have hd : dstA x < 4294967296 := by unfold dstA; split <;> omega
 have e1 := fun h' => ipget_run (h := h') I ha hd hb
 have lt := lt_of_at H
 have l1 : aload Tryz.prog (look h) 9 (.ptr (some ⟨p, 25, 47⟩)) = some (.str s) := cell_load H rfl (by simp) rfl
 obtain ⟨h1, hh1, O1⟩ := gro (f := 77) (args := [.str s]) (h := h)
 have H1 := H.keep O1 id
 have lt1 := lt_of_at H1
 obtain ⟨h2, h2', hh2, hh2', s2', q2, n2, O2⟩ := fresh (h := h1) ip0 (ipX x) 63 10 rfl rfl rfl (by omega) (by simp) (by simp)
 have H2 := H1.keep O2 id
 simp only [ip0] at hh2
 obtain ⟨h3, hh3, s3, H3, O3⟩ := stN (off := 15) (vs := ipX x) (us := pkC x data (ethX x) (ipX x) s sg0 [] tup0 0 0 false (.ptr none) (.sl none 0 0)) H2 63 47 10 rfl (by simp) rfl rfl (by omega) (by omega) rfl
 obtain ⟨h4, hh4, s4, H4, O4⟩ := st1 (off := 25) (v := .str body) (us := pkC x data (ethX x) (ipX x) body sg0 [] tup0 0 0 false (.ptr none) (.sl none 0 0)) H3 9 47 rfl (by simp) rfl (by omega) rfl
 have hO : Only (fun c => c = p) h h4 := (((O1.mono fun _ _ e => e.elim).next O2 fun _ _ e => e.elim).next O3 fun _ _ e => e).next O4 fun _ _ e => e
 obtain ⟨r, h', q1, q3⟩ : ∃ r h', D cfg 57 [ePtr e, pPtr p] h = some (r, h') ∧ (r = .bool true ∧ h' = h4) := by
  refine call57 (by simp) ?_
  simp [c57, c57_r0, c57_r1, l1, e1, ← hh1, zeros, ← hh2, s2', ← hh2', c57_r2, c57_r4, q2, s3, ← hh3, s4, ← hh4, c57_r5]
 obtain ⟨rfl, rfl⟩ := q3
 exact ⟨_, q1, H4, hO⟩
theorem st58_run {b data : Txt} (H : PkAt h p (pkC x data (ethX x) (ipX x) b sg0 [] tup0 0 0 false (.ptr none) (.sl none 0 0))) : D cfg 58 [ePtr e, pPtr p] h = some (.bool true, h) := by
 refine D_eq (call58 (by simp) ?_)
 have l := cell_load (n := 47) (off := 17) (t := 4) H rfl (by simp) rfl
 have l2 := cell_load (n := 47) (off := 19) (t := 3) H rfl (by simp) rfl
 simp [c58, c58_r0, c58_r1, l, l2, c58_r2]
theorem st59_run {data s body : Txt} {fl seq ack : Nat} (hx : x < 2) (hfl : fl < 64) (hs : seq < 4294967296) (ha : ack < 4294967296) (hb : body.length ≤ 1900) (T : TcpS s (srcA x) (dstA x) (srcP x) (dstP x) seq ack fl 1000 body) (H : PkAt h p (pkC x data (ethX x) (ipX x) s sg0 [] tup0 0 0 false (.ptr none) (.sl none 0 0))) :
  ∃ h', D cfg 59 [ePtr e, pPtr p] h = some (.bool true, h') ∧ PkAt h' p (pkC x data (ethX x) (ipX x) s (sgX x fl seq ack) body (tupC x) 0 0 false (.ptr none) (.sl none 0 0)) ∧ Only (fun c => c = p) h h' := by
 have hsa : srcA x < 4294967296 := by unfold srcA; split <;> omega
 have hda : dstA x < 4294967296 := by unfold dstA; split <;> omega
 have e1 := fun h' => tcpget_run (h := h') T hsa hda hfl hs ha hb
 have lt := lt_of_at H
 have l21 : aload Tryz.prog (look h) 3 (.ptr (some ⟨p, 21, 47⟩)) = some (.int .i64 6) := cell_load H rfl (by simp) rfl
 have l22 : aload Tryz.prog (look h) 28 (.ptr (some ⟨p, 22, 47⟩)) = some (.int .u32 (srcA x)) := cell_load H rfl (by simp) rfl
 have l23 : aload Tryz.prog (look h) 28 (.ptr (some ⟨p, 23, 47⟩)) = some (.int .u32 (dstA x)) := cell_load H rfl (by simp) rfl
 obtain ⟨h1, hh1, s1, H1, O1⟩ := stN (off := 34) (vs := [.int .i64 6, .int .u32 (srcA x), .int .u32 (dstA x), .int .i64 0, .int .i64 0]) (us := pkC x data (ethX x) (ipX x) s sg0 [] [.int .i64 6, .int .u32 (srcA x), .int .u32 (dstA x), .int .i64 0, .int .i64 0] 0 0 false (.ptr none) (.sl none 0 0)) H 43 47 5 rfl (by simp) rfl rfl (by omega) (by omega) rfl
 obtain ⟨h2, hh2, n2, k2, O2⟩ := app1 (h := h1) (.cells [.int .i64 0, .int .i64 0, .int .i64 0, .int .i64 0, .int .u32 0] 175 false)
 have H2 : PkAt h2 p _ := O2.at H1 id
 have m21 : aload Tryz.prog (look h2) 3 (.ptr (some ⟨p, 21, 47⟩)) = some (.int .i64 6) := cell_load H2 rfl (by simp) rfl
 have m22 : aload Tryz.prog (look h2) 28 (.ptr (some ⟨p, 22, 47⟩)) = some (.int .u32 (srcA x)) := cell_load H2 rfl (by simp) rfl
 have m23 : aload Tryz.prog (look h2) 28 (.ptr (some ⟨p, 23, 47⟩)) = some (.int .u32 (dstA x)) := cell_load H2 rfl (by simp) rfl
 have m25 : aload Tryz.prog (look h2) 9 (.ptr (some ⟨p, 25, 47⟩)) = some (.str s) := cell_load H2 rfl (by simp) rfl
 obtain ⟨h3, hh3, O3⟩ := gro (f := 78) (args := [.int .u32 (srcA x), .int .u32 (dstA x), .str s]) (h := h2)
 have H3 : PkAt h3 p _ := O3.at H2 id
 obtain ⟨h4, hh4, s4, H4, O4⟩ := stN (off := 26) (vs := sgX x fl seq ack) (us := pkC x data (ethX x) (ipX x) s (sgX x fl seq ack) [] [.int .i64 6, .int .u32 (srcA x), .int .u32 (dstA x), .int .i64 0, .int .i64 0] 0 0 false (.ptr none) (.sl none 0 0)) H3 56 47 7 rfl (by simp) rfl rfl (by omega) (by omega) rfl
 obtain ⟨h5, hh5, s5, H5, O5⟩ := st1 (off := 33) (v := .str body) (us := pkC x data (ethX x) (ipX x) s (sgX x fl seq ack) body [.int .i64 6, .int .u32 (srcA x), .int .u32 (dstA x), .int .i64 0, .int .i64 0] 0 0 false (.ptr none) (.sl none 0 0)) H4 9 47 rfl (by simp) rfl (by omega) rfl
 have r26 : aload Tryz.prog (look h5) 3 (.ptr (some ⟨p, 26, 47⟩)) = some (.int .i64 (srcP x)) := cell_load H5 rfl (by simp) rfl
 have r27 : aload Tryz.prog (look h5) 3 (.ptr (some ⟨p, 27, 47⟩)) = some (.int .i64 (dstP x)) := cell_load H5 rfl (by simp) rfl
 obtain ⟨h6, hh6, s6, H6, O6⟩ := st1 (off := 37) (v := .int .i64 (srcP x)) (us := pkC x data (ethX x) (ipX x) s (sgX x fl seq ack) body [.int .i64 6, .int .u32 (srcA x), .int .u32 (dstA x), .int .i64 (srcP x), .int .i64 0] 0 0 false (.ptr none) (.sl none 0 0)) H5 3 47 rfl (by simp) rfl (by omega) rfl
 obtain ⟨h7, hh7, s7, H7, O7⟩ := st1 (off := 38) (v := .int .i64 (dstP x)) (us := pkC x data (ethX x) (ipX x) s (sgX x fl seq ack) body (tupC x) 0 0 false (.ptr none) (.sl none 0 0)) H6 3 47 rfl (by simp) rfl (by omega) rfl
 have hO : Only (fun c => c = p) h h7 := (((((O1.next O2 fun _ _ e => e.elim).next O3 fun _ _ e => e.elim).trans O4).trans O5).trans O6).trans O7
 obtain ⟨r, h', q1, q3⟩ : ∃ r h', D cfg 59 [ePtr e, pPtr p] h = some (r, h') ∧ (r = .bool true ∧ h' = h7) := by
  refine call59 (by simp) ?_
  simp [c59, c59_r0, c59_r1, l21, l22, l23, abuild, afill, zeros, s1, ← hh1, c59_r2, ← hh2, c59_r3, c59_r4, m21, c59_r6, c59_r7, m22, m23, m25, e1, ← hh3, s4, ← hh4, s5, ← hh5, c59_r8, r26, r27, s6, ← hh6, s7, ← hh7, c59_r14, c59_r16]
 obtain ⟨rfl, rfl⟩ := q3
 exact ⟨_, q1, H7, hO⟩
theorem has_run {bk : Nat} (B : BlkAt h bk) : D cfg 91 [.ptr (some ⟨bk, 0, 3⟩), .agg (tupC x)] h = some (.bool false, G 91 [.ptr (some ⟨bk, 0, 3⟩), .agg (tupC x)] h) := by
 refine G_of (call91 (by simp) ?_)
 obtain ⟨f, hb⟩ := B
 obtain ⟨h1, hh1, n1, k1, O1⟩ := app1 (h := h) (.cells (tupC x) 43 false)
 have hb1 := O1.at hb id
 have l1 : aload Tryz.prog (look h1) 122 (.ptr (some ⟨bk, 2, 3⟩)) = some (.sl none 0 0) := cell_load hb1 rfl (by simp) rfl
 have l2 : aload Tryz.prog (look h1) 43 (.ptr (some ⟨h.length, 0, 5⟩)) = some (.agg (tupC x)) := ld_all n1 rfl (by simp) (by simp)
 have lt := lt_of_at hb1
 have g1 : Grow h h1 := O1.grow fun c hc => hc.elim
 have e138 : D cfg 138 [.agg (tupC x)] h1 = some (.fn (.func 194) [.ptr (some ⟨h1.length, 0, 5⟩)], h1 ++ [.cells (tupC x) 43 false]) := by
  refine D_eq (call138 (by simp) ?_)
  simp [c138, c138_r0, c138_r1]
 have e156 : ∀ h' v, D cfg 156 [.sl none 0 0, .fn (.func 194) [v]] h' = some (.int .i64 (-1), h') := fun h' v => by
  refine D_eq (call156 (by simp) ?_)
  simp [c156, c156_r0, c156_r1, alen]
  refine Wt.unr 1 ?_
  simp [Unr, c156_l2, c156_r2, c156_r7]
 have e137 : ∀ h' v, D cfg 137 [.sl none 0 0, .fn (.func 194) [v]] h' = some (.bool false, h') := fun h' v => by
  refine D_eq (call137 (by simp) ?_)
  simp [c137, c137_r0, c137_r1, e156]
 have sm : sameAt h1 (h1 ++ [.cells (tupC x) 43 false]) bk = true := sameAt_of lt (List.getElem?_append_left lt)
 simp [c91, c91_r0, c91_r1, ← hh1, l1, l2, e138, lt, e137, g1, sm]
end
end
section
def confC : List AV := [.int .i64 60, .int .i64 30, .int .i64 1000, .int .i64 1000, .int .i64 32, .int .i64 4000, .int .i64 100000, .int .i64 100000, .int .i64 100000]
def cntC (a b c d : Nat) : List AV := [.int .i64 a, .int .i64 b, .int .i64 0, .int .i64 0, .int .i64 0, .int .i64 0, .int .i64 c, .int .i64 d, .int .i64 0, .int .i64 0, .int .i64 0, .int .i64 0, .int .i64 0, .int .i64 0]
def engC (fg tb bk fm : Nat) (cn : List AV) : List AV := confC ++ (.sl none 0 0 :: .int .i64 1 :: .ptr (some ⟨fg, 0, 3⟩) :: tPtr tb :: .ptr (some ⟨bk, 0, 3⟩) :: .map (some fm) :: cn)
def flC (d0 d1 s0 s1 : AV) : List AV := tupC 0 ++ [.sl none 0 0, .sl none 0 0, .sl none 0 0, d0, d1, s0, s1, .bool false]
abbrev fPtr (f : Nat) : AV := .ptr (some ⟨f, 0, 13⟩)
abbrev EnAt (h : Heap) (e fg tb bk fm a b c d : Nat) : Prop := h[e]? = some (.cells (engC fg tb bk fm (cntC a b c d)) 94 false)
abbrev FlAt (h : Heap) (f : Nat) (d0 d1 s0 s1 : AV) : Prop := h[f]? = some (.cells (flC d0 d1 s0 s1) 190 false)
section
variable {h : Heap} {x e p fg tb bk fm a b c d : Nat}
theorem one_run {cs us : List AV} {off v : Nat} {et : TypeId} {g : Bool} (H : h[e]? = some (.cells cs et g)) (hl : cs.length = 29) (ho : off < 29) (hv : cs[off]? = some (.int .i64 v)) (hlt : v < 1000000) (hu : cs.set off (.int .i64 (v + 1 : Nat)) = us) :
  D cfg 85 [.ptr (some ⟨e, off, 29⟩)] h = some (.bool false, h.set e (.cells us et g)) := by
 refine D_eq (call85 (by simp) ?_)
 have l := cell_load H hl (t := 3) (by simp) hv
 have w : IntKind.wrap .i64 ((v : Int) + 1) = (v + 1 : Nat) := by rw [wrap_i64 (by omega) (by omega)]; omega
 obtain ⟨h1, hh1, s1, n1, O1⟩ := st1 (off := off) (v := .int .i64 (v + 1 : Nat)) H 3 29 hl (by simp) rfl ho hu
 simp [c85, c85_r0, c85_r1, l, w, s1, c85_r2, -Int.natCast_add]
theorem pass1_run (H : EnAt h e fg tb bk fm a b c d) (hb : b < 1000000) : D cfg 85 [.ptr (some ⟨e, 16, 29⟩)] h = some (.bool false, h.set e (.cells (engC fg tb bk fm (cntC a (b + 1) c d)) 94 false)) :=
 one_run H rfl (by omega) rfl hb rfl
theorem st60_run {cs : List AV} (hl : cs.length = 47) (H : EnAt h e fg tb bk fm a b c d) (B : BlkAt h bk) (K : PkAt h p cs) (hv : (cs.drop 34).take 5 = tupC x) : ∃ h', D cfg 60 [ePtr e, pPtr p] h = some (.bool true, h') ∧ Grow h h' := by
 have l1 : aload Tryz.prog (look h) 89 (.ptr (some ⟨e, 13, 29⟩)) = some (.ptr (some ⟨bk, 0, 3⟩)) := cell_load H rfl (by simp) rfl
 have l2 : aload Tryz.prog (look h) 43 (.ptr (some ⟨p, 34, 47⟩)) = some (.agg (tupC x)) := ld_sub K hl (by simp) (k := 5) (by simp) (by omega) hv
 obtain ⟨r, h', q1, q3⟩ : ∃ r h', D cfg 60 [ePtr e, pPtr p] h = some (r, h') ∧ (r = .bool true ∧ Grow h h') := by
  refine call60 (by simp) ?_
  simp [c60, c60_r0, c60_r1, l1, l2, has_run B, c60_r3]
 obtain ⟨rfl, q3⟩ := q3
 exact ⟨_, q1, q3⟩
theorem st62_run {cs fc : List AV} {f : Nat} (hl : cs.length = 47) (K : PkAt h p cs) (hf : cs[42]? = some (fPtr f)) (F : h[f]? = some (.cells fc 190 false)) (hfl : fc.length = 13) (h12 : fc[12]? = some (.bool false)) : D cfg 62 [ePtr e, pPtr p] h = some (.bool true, h) := by
 refine D_eq (call62 (by simp) ?_)
 have l1 : aload Tryz.prog (look h) 128 (.ptr (some ⟨p, 42, 47⟩)) = some (fPtr f) := cell_load K hl (by simp) hf
 have l2 : aload Tryz.prog (look h) 4 (.ptr (some ⟨f, 12, 13⟩)) = some (.bool false) := cell_load F hfl (by simp) h12
 simp [c62, c62_r0, c62_r1, l1, l2, c62_r3]
theorem st63_run {cs : List AV} (hl : cs.length = 47) (K : PkAt h p cs) (hf : cs[34]? = some (.int .i64 6)) : D cfg 63 [ePtr e, pPtr p] h = some (.bool true, h) := by
 refine D_eq (call63 (by simp) ?_)
 have l1 : aload Tryz.prog (look h) 3 (.ptr (some ⟨p, 34, 47⟩)) = some (.int .i64 6) := cell_load K hl (by simp) hf
 simp [c63, c63_r0, c63_r1, l1, c63_r2]
theorem flags_run {cs : List AV} {fl m r : Nat} (hl : cs.length = 47) (K : PkAt h p cs) (hf : cs[30]? = some (.int .i64 fl)) (hr : abin (.int .i64) .and (.int .i64 fl) (.int .i64 m) = some (.int .i64 r)) : D cfg 104 [pPtr p, .int .i64 m] h = some (.bool (decide (r ≠ 0)), h) := by
 refine D_eq (call104 (by simp) ?_)
 have l1 : aload Tryz.prog (look h) 3 (.ptr (some ⟨p, 30, 47⟩)) = some (.int .i64 fl) := cell_load K hl (by simp) hf
 simp [c104, c104_r0, c104_r1, l1, hr]
 try omega
end
end
section
abbrev Fr1 (h : Heap) (k y : Nat) (frame : Txt) : Prop := h[k]? = some (.cells [.int .i64 y, .str frame] 102 true)
abbrev frS (k : Nat) : AV := .sl (some ⟨k, 0, 2⟩) 1 1
section
variable {h : Heap} {x e p fg tb bk fm a b c d : Nat}
theorem emit_run {cs : List AV} {y : Nat} {frame : Txt} (hl : cs.length = 47) (K : PkAt h p cs) (hf : cs[43]? = some (.sl none 0 0)) :
  ∃ h' k, D cfg 100 [pPtr p, .int .i64 y, .str frame] h = some (.tup [], h') ∧ PkAt h' p (cs.set 43 (frS k)) ∧ Fr1 h' k y frame ∧ h.length ≤ k ∧ Only (fun c => c = p) h h' := by
 have l1 : aload Tryz.prog (look h) 68 (.ptr (some ⟨p, 43, 47⟩)) = some (.sl none 0 0) := cell_load K hl (by simp) hf
 have lt := lt_of_at K
 obtain ⟨h1, hh1, n1, k1, O1⟩ := app1 (h := h) (.cells [.int .i64 y, .str frame] 102 true)
 have K1 : PkAt h1 p cs := O1.at K id
 obtain ⟨h2, hh2, n2, k2, O2⟩ := app1 (h := h1) (.cells [.int .i64 y, .str frame] 102 true)
 have K2 : PkAt h2 p cs := O2.at K1 id
 obtain ⟨h3, hh3, s3, n3, O3⟩ := st1 (off := 43) (v := frS h1.length) K2 68 47 hl (by simp) rfl (by omega) rfl
 obtain ⟨r, h', q1, q3⟩ : ∃ r h', D cfg 100 [pPtr p, .int .i64 y, .str frame] h = some (r, h') ∧ (r = .tup [] ∧ h' = h3) := by
  refine call100 (by simp) ?_
  simp [c100, c100_r0, l1, abuild, afill, zeros, abuildSlice, splice, ← hh1, append2, aappend, aappendE, srcCells, slCells, row, n1, roomMax, ← k1, ← hh2, s3, ← hh3]
 obtain ⟨rfl, rfl⟩ := q3
 exact ⟨_, _, q1, n3, O3.at n2 (by omega), by omega, (O1.mono fun _ _ e => e.elim).next O2 (fun _ _ e => e.elim) |>.next O3 fun _ _ e => e⟩
theorem pass_run {cs : List AV} {frame : Txt} (hx : x < 2) (hl : cs.length = 47) (E : EnAt h e fg tb bk fm a b c d) (hb : b < 1000000) (hep : e ≠ p) (K : PkAt h p cs) (h0 : cs[0]? = some (.int .i64 x)) (hf : cs[43]? = some (.sl none 0 0)) :
  ∃ h' k, D cfg 86 [ePtr e, pPtr p, .str frame] h = some (.bool false, h') ∧ EnAt h' e fg tb bk fm a (b + 1) c d ∧ PkAt h' p (cs.set 43 (frS k)) ∧ Fr1 h' k (1 - x) frame ∧ h.length ≤ k ∧ Only (fun c => c = e ∨ c = p) h h' := by
 have l0 : aload Tryz.prog (look h) 3 (.ptr (some ⟨p, 0, 47⟩)) = some (.int .i64 x) := cell_load K hl (by simp) h0
 obtain ⟨h1, k, e1, K1, F1, hk, O1⟩ := emit_run (y := 1 - x) (frame := frame) hl K hf
 have E1 : EnAt h1 e fg tb bk fm a b c d := O1.at E hep
 have e2 := pass1_run E1 hb
 obtain ⟨h2, hh2⟩ : ∃ h2, h2 = h1.set e (.cells (engC fg tb bk fm (cntC a (b + 1) c d)) 94 false) := ⟨_, rfl⟩
 have O2 : Only (fun c => c = e) h1 h2 := by rw [hh2]; exact .set rfl
 rw [← hh2] at e2
 have w : IntKind.wrap .i64 (1 - (x : Int)) = (1 - x : Nat) := by rw [wrap_i64 (by omega) (by omega)]; omega
 have le := lt_of_at E
 obtain ⟨r, h', q1, q3⟩ : ∃ r h', D cfg 86 [ePtr e, pPtr p, .str frame] h = some (r, h') ∧ (r = .bool false ∧ h' = h2) := by
  refine call86 (by simp) ?_
  simp [c86, c86_r0, c86_r1, l0, w, e1, c86_r2, e2]
 obtain ⟨rfl, rfl⟩ := q3
 exact ⟨_, k, q1, by rw [hh2]; exact List.getElem?_set_self (lt_of_at E1), O2.at K1 (Ne.symm hep), O2.at F1 (by omega), hk, (O1.mono fun _ _ e => .inr e).next O2 fun _ _ e => .inl e⟩
section
variable {fr body : Txt} {fl seq ack id dir : Nat} {new : Bool} {f : AV} {s : Txt}
abbrev pkM (x : Nat) (fr s : Txt) (fl seq ack : Nat) (body : Txt) (id dir : Nat) (new : Bool) (f out : AV) : List AV := pkC x fr (ethX x) (ipX x) s (sgX x fl seq ack) body (tupC x) id dir new f out
theorem portsX (x : Nat) : srcP x < 65536 ∧ dstP x < 65536 ∧ srcA x < 4294967296 ∧ dstA x < 4294967296 := by
 unfold srcP dstP srcA dstA; refine ⟨?_, ?_, ?_, ?_⟩ <;> split <;> omega
theorem craft_run (hx : x < 2) (hfl : fl < 64) (hs : seq < 4294967296) (ha : ack < 4294967296) (hb : body.length ≤ 1900) :
  D cfg 210 [.agg (ethX x), .agg (ipX x), .agg (sgX x fl seq ack), .str body] h = some (.str (frB x fl seq ack body), G 210 [.agg (ethX x), .agg (ipX x), .agg (sgX x fl seq ack), .str body] h) := by
 obtain ⟨p1, p2, p3, p4⟩ := portsX x
 exact cseg_run hx p1 p2 hfl (by omega) hs ha p3 p4 hb
theorem same160_run (hx : x < 2) (hfl : fl < 64) (hs : seq < 4294967296) (ha : ack < 4294967296) (hb : body.length ≤ 1900) (E : EnAt h e fg tb bk fm a b c d) (hbb : b < 1000000) (hep : e ≠ p) (K : PkAt h p (pkM x fr s fl seq ack body id dir new f (.sl none 0 0))) :
  ∃ h' k, D cfg 160 [ePtr e, pPtr p] h = some (.bool false, h') ∧ EnAt h' e fg tb bk fm a (b + 1) c d ∧ PkAt h' p (pkM x fr s fl seq ack body id dir new f (frS k)) ∧ Fr1 h' k (1 - x) (frB x fl seq ack body) ∧ h.length ≤ k ∧ Only (fun c => c = e ∨ c = p) h h' := by
 have l1 : aload Tryz.prog (look h) 60 (.ptr (some ⟨p, 2, 47⟩)) = some (.agg (ethX x)) := ld_sub K rfl (by simp) (k := 13) (by simp) (by omega) rfl
 have l2 : aload Tryz.prog (look h) 63 (.ptr (some ⟨p, 15, 47⟩)) = some (.agg (ipX x)) := ld_sub K rfl (by simp) (k := 10) (by simp) (by omega) rfl
 have l3 : aload Tryz.prog (look h) 56 (.ptr (some ⟨p, 26, 47⟩)) = some (.agg (sgX x fl seq ack)) := ld_sub K rfl (by simp) (k := 7) (by simp) (by omega) rfl
 have l4 : aload Tryz.prog (look h) 9 (.ptr (some ⟨p, 33, 47⟩)) = some (.str body) := cell_load K rfl (by simp) rfl
 have e1 := craft_run (h := h) hx hfl hs ha hb
 obtain ⟨h1, hh1, O1⟩ := gro (f := 210) (args := [.agg (ethX x), .agg (ipX x), .agg (sgX x fl seq ack), .str body]) (h := h)
 rw [← hh1] at e1
 obtain ⟨h2, k, e2, E2, K2, F2, hk, O2⟩ := pass_run (frame := frB x fl seq ack body) hx rfl (O1.at E not_false) hbb hep (O1.at K not_false : PkAt h1 p _) rfl rfl
 obtain ⟨r, h', q1, q3⟩ : ∃ r h', D cfg 160 [ePtr e, pPtr p] h = some (r, h') ∧ (r = .bool false ∧ h' = h2) := by
  refine call160 (by simp) ?_
  simp [c160, c160_r0, c160_r1, l1, l2, l3, l4, e1, e2]
 obtain ⟨rfl, rfl⟩ := q3
 exact ⟨_, k, q1, E2, K2, F2, Nat.le_trans O1.1 hk, (O1.mono fun _ _ e => e.elim).next O2 fun _ _ e => e⟩
theorem data_run {fb d d' n m start frm : Nat} {fc : List AV} {last data : Txt} (hx : x < 2) (hfl : fl < 64) (ha : ack < 4294967296) (hb : data.length ≤ 1900) (E : EnAt h e fg tb bk fm a b c d') (hbb : b < 1000000) (hep : e ≠ p) (K : PkAt h p (pkM x fr s fl seq ack body id x new (fPtr fb) (.sl none 0 0)))
  (F : h[fb]? = some (.cells fc 190 false)) (hl : fc.length = 13) (hd : fc[8 + x]? = some (dPtr d)) (D0 : h[d]? = some (.cells (dirC start n m last) 329 false)) (hmsk : abin (.int .i64) .andNot (.int .i64 fl) (.int .i64 1) = some (.int .i64 fl)) :
  ∃ h' k, D cfg 165 [ePtr e, pPtr p, .int .i64 frm, .str data, .bool false] h = some (.bool false, h') ∧ EnAt h' e fg tb bk fm a (b + 1) c d' ∧ PkAt h' p (pkM x fr s fl seq ack body id x new (fPtr fb) (frS k)) ∧ Fr1 h' k (1 - x) (frB x fl ((start + frm) % 4294967296) ack data) ∧ h.length ≤ k ∧ Only (fun c => c = e ∨ c = p) h h' := by
 have l3 : aload Tryz.prog (look h) 56 (.ptr (some ⟨p, 26, 47⟩)) = some (.agg (sgX x fl seq ack)) := ld_sub K rfl (by simp) (k := 7) (by simp) (by omega) rfl
 have ltp := lt_of_at K
 have lte := lt_of_at E
 have ltf := lt_of_at F
 have ltd := lt_of_at D0
 obtain ⟨h1, h1', hh1, hh1', s1', q1', n1, O1⟩ := fresh (h := h) sg0 (sgX x fl seq ack) 56 7 rfl rfl rfl (by omega) (by simp) (by simp)
 simp only [sg0] at hh1
 have K1 : PkAt h1' p _ := O1.at K not_false
 have F1 := O1.at F not_false
 have D1 := O1.at D0 not_false
 have m42 : aload Tryz.prog (look h1') 128 (.ptr (some ⟨p, 42, 47⟩)) = some (fPtr fb) := cell_load K1 rfl (by simp) rfl
 have m40 : aload Tryz.prog (look h1') 3 (.ptr (some ⟨p, 40, 47⟩)) = some (.int .i64 x) := cell_load K1 rfl (by simp) rfl
 have mf : aload Tryz.prog (look h1') 185 (.ptr (some ⟨fb, 8 + x, 13⟩)) = some (dPtr d) := cell_load F1 hl (by simp) hd
 have hi : aindexAddr Tryz.prog 186 (.ptr (some ⟨fb, 8, 13⟩)) (.int .i64 x) = some (.ptr (some ⟨fb, 8 + x, 13⟩)) := by
  have q1 : (x : Int) < 2 := by omega
  simp [aindexAddr]; omega
 have e2 := dirseq_run D1 frm
 have hseq : ((start : Int) + frm) % 4294967296 = ((start + frm) % 4294967296 : Nat) := by omega
 rw [hseq] at e2
 obtain ⟨h2, hh2, s2, n2, O2⟩ := st1 (off := 2) (v := .int .u32 ((start + frm) % 4294967296 : Nat)) (us := sgX x fl ((start + frm) % 4294967296) ack) n1 28 7 rfl (by simp) rfl (by omega) rfl
 have m2 : aload Tryz.prog (look h2) 3 (.ptr (some ⟨h.length, 4, 7⟩)) = some (.int .i64 fl) := cell_load n2 rfl (by simp) rfl
 obtain ⟨h3, hh3, s3, n3, O3⟩ := st1 (off := 4) (v := .int .i64 fl) (us := sgX x fl ((start + frm) % 4294967296) ack) n2 3 7 rfl (by simp) rfl (by omega) rfl
 have O123 : Only (fun _ => False) h h3 := (O1.next O2 fun c hc e => by omega).next O3 fun c hc e => by omega
 have K3 : PkAt h3 p _ := O123.at K not_false
 have l1 : aload Tryz.prog (look h3) 60 (.ptr (some ⟨p, 2, 47⟩)) = some (.agg (ethX x)) := ld_sub K3 rfl (by simp) (k := 13) (by simp) (by omega) rfl
 have l2 : aload Tryz.prog (look h3) 63 (.ptr (some ⟨p, 15, 47⟩)) = some (.agg (ipX x)) := ld_sub K3 rfl (by simp) (k := 10) (by simp) (by omega) rfl
 have l4 : aload Tryz.prog (look h3) 56 (.ptr (some ⟨h.length, 0, 7⟩)) = some (.agg (sgX x fl ((start + frm) % 4294967296) ack)) := ld_all n3 rfl (by simp) (by simp)
 have e4 := craft_run (h := h3) (seq := (start + frm) % 4294967296) hx hfl (by omega) ha hb
 obtain ⟨h4, hh4, O4⟩ := gro (f := 210) (args := [.agg (ethX x), .agg (ipX x), .agg (sgX x fl ((start + frm) % 4294967296) ack), .str data]) (h := h3)
 rw [← hh4] at e4
 have O14 := O123.trans O4
 obtain ⟨h5, k, e5, E5, K5, F5, hk, O5⟩ := pass_run (frame := frB x fl ((start + frm) % 4294967296) ack data) hx rfl (O14.at E not_false) hbb hep (O14.at K not_false : PkAt h4 p _) rfl rfl
 obtain ⟨r, h', q1, q3⟩ : ∃ r h', D cfg 165 [ePtr e, pPtr p, .int .i64 frm, .str data, .bool false] h = some (r, h') ∧ (r = .bool false ∧ h' = h5) := by
  refine call165 (by simp) ?_
  simp [c165, c165_r0, c165_r1, l3, zeros, ← hh1, s1', ← hh1', c165_r2, m42, m40, hi, mf, e2, s2, ← hh2, c165_r3, m2, hmsk, s3, ← hh3, c165_r4, c165_r6, l1, l2, l4, e4, e5, -Int.natCast_add, -Int.natCast_emod]
 obtain ⟨rfl, rfl⟩ := q3
 exact ⟨_, k, q1, E5, K5, F5, Nat.le_trans O14.1 hk, (O14.mono fun _ _ e => e.elim).next O5 fun _ _ e => e⟩
end
end
end
section
structure Ad where
 (r m tb bk fm e fg nf fb : Nat)
structure Ord (A : Ad) : Prop where
 (o1 : A.r < A.m) (o2 : A.m < A.tb) (o3 : A.tb < A.bk) (o4 : A.bk < A.fm) (o5 : A.fm < A.e)
structure Eng0 (h : Heap) (A : Ad) (a b c d : Nat) : Prop where
 en : EnAt h A.e A.fg A.tb A.bk A.fm a b c d
 bl : BlkAt h A.bk
 tab : Tab0 h A.tb A.r A.m
 fm : h[A.fm]? = some (.map 91 [] 0)
 o : Ord A
structure Eng1 (h : Heap) (A : Ad) (a b c d : Nat) (d0 d1 s0 s1 : AV) : Prop where
 en : EnAt h A.e A.fg A.tb A.bk A.fm a b c d
 bl : BlkAt h A.bk
 tab : Tab1 h A.tb A.r A.m A.nf
 fm : h[A.fm]? = some (.map 91 [(.int .i64 1, fPtr A.fb, 0)] 1)
 fl : FlAt h A.fb d0 d1 s0 s1
 o : Ord A
 o6 : A.e < A.nf
 o7 : A.nf < A.fb
section
variable {h h' : Heap} {A : Ad} {x p a b c d : Nat} {d0 d1 s0 s1 : AV}
theorem BlkAt.keep {bk : Nat} {fp : Nat → Prop} (B : BlkAt h bk) (g : Only fp h h') (hn : ¬ fp bk) : BlkAt h' bk := let ⟨f, hf⟩ := B; ⟨f, g.at hf hn⟩
theorem Eng0.keep {fp : Nat → Prop} (H : Eng0 h A a b c d) (g : Only fp h h') (hn : ∀ c, c ≤ A.e → ¬ fp c) : Eng0 h' A a b c d := by
 obtain ⟨o1, o2, o3, o4, o5⟩ := H.o
 exact ⟨g.at H.en (hn _ (by omega)), H.bl.keep g (hn _ (by omega)), H.tab.keep g (hn _ (by omega)) (hn _ (by omega)) (hn _ (by omega)), g.at H.fm (hn _ (by omega)), H.o⟩
theorem Eng1.keep {fp : Nat → Prop} (H : Eng1 h A a b c d d0 d1 s0 s1) (g : Only fp h h') (hn : ∀ c, c ≤ A.fb → ¬ fp c) : Eng1 h' A a b c d d0 d1 s0 s1 := by
 obtain ⟨o1, o2, o3, o4, o5⟩ := H.o
 have o6 := H.o6
 have o7 := H.o7
 exact ⟨g.at H.en (hn _ (by omega)), H.bl.keep g (hn _ (by omega)), H.tab.keep g (hn _ (by omega)) (hn _ (by omega)) (hn _ (by omega)) (hn _ (by omega)), g.at H.fm (hn _ (by omega)), g.at H.fl (hn _ (by omega)), H.o, H.o6, H.o7⟩
theorem Eng1.count {a' b' c' d' : Nat} {fp : Nat → Prop} (H : Eng1 h A a b c d d0 d1 s0 s1) (g : Only fp h h') (hn : ∀ c, c ≤ A.fb → c ≠ A.e → ¬ fp c) (E : EnAt h' A.e A.fg A.tb A.bk A.fm a' b' c' d') : Eng1 h' A a' b' c' d' d0 d1 s0 s1 := by
 obtain ⟨o1, o2, o3, o4, o5⟩ := H.o
 have o6 := H.o6
 have o7 := H.o7
 exact ⟨E, H.bl.keep g (hn _ (by omega) (by omega)), H.tab.keep g (hn _ (by omega) (by omega)) (hn _ (by omega) (by omega)) (hn _ (by omega) (by omega)) (hn _ (by omega) (by omega)), g.at H.fm (hn _ (by omega) (by omega)), g.at H.fl (hn _ (by omega) (by omega)), H.o, H.o6, H.o7⟩
theorem Eng0.count {a' b' c' d' : Nat} {fp : Nat → Prop} (H : Eng0 h A a b c d) (g : Only fp h h') (hn : ∀ c, c ≤ A.e → c ≠ A.e → ¬ fp c) (E : EnAt h' A.e A.fg A.tb A.bk A.fm a' b' c' d') : Eng0 h' A a' b' c' d' := by
 obtain ⟨o1, o2, o3, o4, o5⟩ := H.o
 exact ⟨E, H.bl.keep g (hn _ (by omega) (by omega)), H.tab.keep g (hn _ (by omega) (by omega)) (hn _ (by omega) (by omega)) (hn _ (by omega) (by omega)), g.at H.fm (hn _ (by omega) (by omega)), H.o⟩
section
variable {fr s body : Txt} {fl seq ack : Nat}
theorem known1_run (hx : x < 2) (H : Eng1 h A a b c d d0 d1 s0 s1) (hp : A.fb < p) (K : PkAt h p (pkM x fr s fl seq ack body 0 0 false (.ptr none) (.sl none 0 0))) :
  ∃ h', D cfg 61 [ePtr A.e, pPtr p] h = some (.bool true, h') ∧ Eng1 h' A a b c d d0 d1 s0 s1 ∧ PkAt h' p (pkM x fr s fl seq ack body 1 x false (fPtr A.fb) (.sl none 0 0)) ∧ Only (fun c => c = A.r ∨ c = A.nf ∨ c = p) h h' := by
 obtain ⟨o1, o2, o3, o4, o5⟩ := H.o
 have o6 := H.o6
 have o7 := H.o7
 have l1 : aload Tryz.prog (look h) 87 (.ptr (some ⟨A.e, 12, 29⟩)) = some (tPtr A.tb) := cell_load H.en rfl (by simp) rfl
 have l2 : aload Tryz.prog (look h) 43 (.ptr (some ⟨p, 34, 47⟩)) = some (.agg (tupC x)) := ld_sub K rfl (by simp) (k := 5) (by simp) (by omega) rfl
 obtain ⟨h1, e1, T1, O1⟩ := find1_run hx H.tab
 have K1 : PkAt h1 p _ := O1.at K (by omega)
 have E1 : EnAt h1 A.e A.fg A.tb A.bk A.fm a b c d := O1.at H.en (by omega)
 have M1 := O1.at H.fm (by omega)
 have l3 : aload Tryz.prog (look h1) 91 (.ptr (some ⟨A.e, 14, 29⟩)) = some (.map (some A.fm)) := cell_load E1 rfl (by simp) rfl
 have l4 : alookup Tryz.prog (look h1) 91 (.map (some A.fm)) (.int .i64 1) false = some (fPtr A.fb) := by simp [alookup, M1, shapeOf, kkOfV, mfind, keq, ikey]
 obtain ⟨h2, hh2, s2, K2, O2⟩ := st1 (off := 39) (v := .int .i64 1) (us := pkM x fr s fl seq ack body 1 0 false (.ptr none) (.sl none 0 0)) K1 3 47 rfl (by simp) rfl (by omega) rfl
 obtain ⟨h3, hh3, s3, K3, O3⟩ := st1 (off := 40) (v := .int .i64 x) (us := pkM x fr s fl seq ack body 1 x false (.ptr none) (.sl none 0 0)) K2 3 47 rfl (by simp) rfl (by omega) rfl
 obtain ⟨h4, hh4, s4, K4, O4⟩ := st1 (off := 42) (v := fPtr A.fb) (us := pkM x fr s fl seq ack body 1 x false (fPtr A.fb) (.sl none 0 0)) K3 128 47 rfl (by simp) rfl (by omega) rfl
 have l5 : aload Tryz.prog (look h4) 128 (.ptr (some ⟨p, 42, 47⟩)) = some (fPtr A.fb) := cell_load K4 rfl (by simp) rfl
 have O24 := (O2.trans O3).trans O4
 have hO : Only (fun c => c = A.r ∨ c = A.nf ∨ c = p) h h4 := (O1.mono fun _ _ e => by omega).next O24 fun _ _ e => by omega
 have T4 := T1.keep O24 (by omega) (by omega) (by omega) (by omega)
 have H4 : Eng1 h4 A a b c d d0 d1 s0 s1 := ⟨hO.at H.en (by omega), H.bl.keep hO (by omega), T4, hO.at H.fm (by omega), hO.at H.fl (by omega), H.o, o6, o7⟩
 obtain ⟨r, h', q1, q3⟩ : ∃ r h', D cfg 61 [ePtr A.e, pPtr p] h = some (r, h') ∧ (r = .bool true ∧ h' = h4) := by
  refine call61 (by simp) ?_
  simp [c61, c61_r0, c61_r1, l1, l2, e1, c61_r2, c61_r3, l3, l4, s2, ← hh2, s3, ← hh3, s4, ← hh4, c61_r4, l5]
 obtain ⟨rfl, rfl⟩ := q3
 exact ⟨_, q1, H4, K4, hO⟩
end
end
end
section
@[simp] theorem flC_all : (flC (.ptr none) (.ptr none) (.ptr none) (.ptr none)).all AV.one = true := by simp [flC, tupC]
@[simp] theorem flC_len {d0 d1 s0 s1 : AV} : (flC d0 d1 s0 s1).length = 13 := rfl
section
variable {h h' : Heap} {A : Ad} {p a b c d : Nat}
variable {fr s : Txt} {seq ack : Nat}
theorem known0_run (H : Eng0 h A a b c d) (hp : A.e < p) (K : PkAt h p (pkM 0 fr s 2 seq ack [] 0 0 false (.ptr none) (.sl none 0 0))) :
  ∃ h' nf fb, D cfg 61 [ePtr A.e, pPtr p] h = some (.bool true, h') ∧ Eng1 h' ⟨A.r, A.m, A.tb, A.bk, A.fm, A.e, A.fg, nf, fb⟩ a b c d (.ptr none) (.ptr none) (.ptr none) (.ptr none) ∧ h.length ≤ nf ∧ PkAt h' p (pkM 0 fr s 2 seq ack [] 1 0 true (fPtr fb) (.sl none 0 0)) ∧ Only (fun c => c = A.r ∨ c = A.tb ∨ c = A.m ∨ c = A.fm ∨ c = p) h h' := by
 obtain ⟨o1, o2, o3, o4, o5⟩ := H.o
 have le := lt_of_at H.en
 have ltp := lt_of_at K
 have l1 : aload Tryz.prog (look h) 87 (.ptr (some ⟨A.e, 12, 29⟩)) = some (tPtr A.tb) := cell_load H.en rfl (by simp) rfl
 have l2 : aload Tryz.prog (look h) 43 (.ptr (some ⟨p, 34, 47⟩)) = some (.agg (tupC 0)) := ld_sub K rfl (by simp) (k := 5) (by simp) (by omega) rfl
 have e1 := find0_run (x := 0) (by omega) H.tab
 obtain ⟨h1, hh1, O1⟩ := gro (f := 92) (args := [tPtr A.tb, .agg (tupC 0)]) (h := h)
 rw [← hh1] at e1
 have K1 : PkAt h1 p _ := O1.at K not_false
 have H1 := H.keep O1 fun _ _ => not_false
 have m34 : aload Tryz.prog (look h1) 3 (.ptr (some ⟨p, 34, 47⟩)) = some (.int .i64 6) := cell_load K1 rfl (by simp) rfl
 have m30 : aload Tryz.prog (look h1) 3 (.ptr (some ⟨p, 30, 47⟩)) = some (.int .i64 2) := cell_load K1 rfl (by simp) rfl
 have m33 : aload Tryz.prog (look h1) 9 (.ptr (some ⟨p, 33, 47⟩)) = some (.str []) := cell_load K1 rfl (by simp) rfl
 have han : abin (.int .i64) .andNot (.int .i64 2) (.int .i64 8) = some (.int .i64 2) := by simp [abin]; rfl
 have m12 : aload Tryz.prog (look h1) 87 (.ptr (some ⟨A.e, 12, 29⟩)) = some (tPtr A.tb) := cell_load H1.en rfl (by simp) rfl
 have mt : aload Tryz.prog (look h1) 43 (.ptr (some ⟨p, 34, 47⟩)) = some (.agg (tupC 0)) := ld_sub K1 rfl (by simp) (k := 5) (by simp) (by omega) rfl
 obtain ⟨h2, e2, ⟨nf, hnf, T2⟩, O2⟩ := put_run H1.tab
 have K2 : PkAt h2 p _ := O2.at K1 (by omega)
 have E2 : EnAt h2 A.e A.fg A.tb A.bk A.fm a b c d := O2.at H1.en (by omega)
 have n9 : aload Tryz.prog (look h2) 92 (.ptr (some ⟨A.e, 9, 29⟩)) = some (.sl none 0 0) := cell_load E2 rfl (by simp) rfl
 have nt : aload Tryz.prog (look h2) 43 (.ptr (some ⟨p, 34, 47⟩)) = some (.agg (tupC 0)) := ld_sub K2 rfl (by simp) (k := 5) (by simp) (by omega) rfl
 obtain ⟨h3, hh3, F3, k3, O3⟩ := app1 (h := h2) (.cells (flC (.ptr none) (.ptr none) (.ptr none) (.ptr none)) 190 false)
 obtain ⟨fb, hfb⟩ : ∃ fb, fb = h2.length := ⟨_, rfl⟩
 rw [← hfb] at F3 k3
 have hbu : abuild Tryz.prog 190 [(0, .agg (tupC 0)), (1, .sl none 0 0)] = some (.agg (flC (.ptr none) (.ptr none) (.ptr none) (.ptr none))) := by simp [abuild, afill, zeros, splice, tupC, flC]
 have hnfl := lt_of_at T2.flow
 have hl1 := O1.1
 have hl2 := O2.1
 have F3' : FlAt h3 fb (.ptr none) (.ptr none) (.ptr none) (.ptr none) := F3
 have lf : ∀ {hh : Heap}, FlAt hh fb (.ptr none) (.ptr none) (.ptr none) (.ptr none) → aload Tryz.prog (look hh) 92 (.ptr (some ⟨fb, 5, 13⟩)) = some (.sl none 0 0) := fun F => cell_load F rfl (by simp) rfl
 have lt : ∀ {hh : Heap}, FlAt hh fb (.ptr none) (.ptr none) (.ptr none) (.ptr none) → aload Tryz.prog (look hh) 43 (.ptr (some ⟨fb, 0, 13⟩)) = some (.agg (tupC 0)) := fun F => ld_sub F rfl (by simp) (k := 5) (by simp) (by omega) rfl
 have sf6 : ∀ {hh : Heap}, FlAt hh fb (.ptr none) (.ptr none) (.ptr none) (.ptr none) → astore Tryz.prog (look hh) 22 (.ptr (some ⟨fb, 6, 13⟩)) (.sl none 0 0) = some (.set fb (.cells (flC (.ptr none) (.ptr none) (.ptr none) (.ptr none)) 190 false)) := fun F => cell_store F rfl (by simp) rfl (show 6 < 13 by omega)
 have sf7 : ∀ {hh : Heap}, FlAt hh fb (.ptr none) (.ptr none) (.ptr none) (.ptr none) → astore Tryz.prog (look hh) 22 (.ptr (some ⟨fb, 7, 13⟩)) (.sl none 0 0) = some (.set fb (.cells (flC (.ptr none) (.ptr none) (.ptr none) (.ptr none)) 190 false)) := fun F => cell_store F rfl (by simp) rfl (show 7 < 13 by omega)
 have sid : ∀ {hh : Heap}, FlAt hh fb (.ptr none) (.ptr none) (.ptr none) (.ptr none) → hh.set fb (.cells (flC (.ptr none) (.ptr none) (.ptr none) (.ptr none)) 190 false) = hh := fun F => by
  obtain ⟨hq, he⟩ := List.getElem?_eq_some_iff.1 F
  rw [← he]; exact List.set_getElem_self hq
 have p0 := pick_run (h := h3) (x := 0) 0
 obtain ⟨h4, hh4, O4⟩ := gro (f := 94) (args := [.sl none 0 0, .agg (tupC 0), .int .i64 0]) (h := h3)
 rw [← hh4] at p0
 have F4 : FlAt h4 fb _ _ _ _ := O4.at F3' not_false
 have p1 := pick_run (h := h4) (x := 0) 1
 obtain ⟨h5, hh5, O5⟩ := gro (f := 94) (args := [.sl none 0 0, .agg (tupC 0), .int .i64 1]) (h := h4)
 rw [← hh5] at p1
 have F5 : FlAt h5 fb _ _ _ _ := O5.at F4 not_false
 have O35 := (O3.trans O4).trans O5
 have M5 := O35.at (O2.at H1.fm (by omega)) not_false
 have E5 : EnAt h5 A.e A.fg A.tb A.bk A.fm a b c d := O35.at E2 not_false
 have K5 : PkAt h5 p _ := O35.at K2 not_false
 have r14 : aload Tryz.prog (look h5) 91 (.ptr (some ⟨A.e, 14, 29⟩)) = some (.map (some A.fm)) := cell_load E5 rfl (by simp) rfl
 have hup : amapUpdate Tryz.prog (look h5) 91 (.map (some A.fm)) (.int .i64 1) (fPtr fb) = some (.set A.fm (.map 91 [(.int .i64 1, fPtr fb, 0)] 1)) := by
  simp [amapUpdate, M5, shapeOf, kkOfV, mput, mfind]
 obtain ⟨h6, hh6⟩ : ∃ h6, h6 = h5.set A.fm (.map 91 [(.int .i64 1, fPtr fb, 0)] 1) := ⟨_, rfl⟩
 have M6 : h6[A.fm]? = some (.map 91 [(.int .i64 1, fPtr fb, 0)] 1) := by rw [hh6, List.getElem?_set_self (lt_of_at M5)]
 have O6 : Only (fun c => c = A.fm) h5 h6 := by rw [hh6]; exact .set rfl
 have K6 : PkAt h6 p _ := O6.at K5 (by omega)
 obtain ⟨h7, hh7, s7, K7, O7⟩ := st1 (off := 39) (v := .int .i64 1) (us := pkM 0 fr s 2 seq ack [] 1 0 false (.ptr none) (.sl none 0 0)) K6 3 47 rfl (by simp) rfl (by omega) rfl
 obtain ⟨h8, hh8, s8, K8, O8⟩ := st1 (off := 40) (v := .int .i64 0) (us := pkM 0 fr s 2 seq ack [] 1 0 false (.ptr none) (.sl none 0 0)) K7 3 47 rfl (by simp) rfl (by omega) rfl
 obtain ⟨h9, hh9, s9, K9, O9⟩ := st1 (off := 42) (v := fPtr fb) (us := pkM 0 fr s 2 seq ack [] 1 0 false (fPtr fb) (.sl none 0 0)) K8 128 47 rfl (by simp) rfl (by omega) rfl
 obtain ⟨g, hg, sg, Kg, Og⟩ := st1 (off := 41) (v := .bool true) (us := pkM 0 fr s 2 seq ack [] 1 0 true (fPtr fb) (.sl none 0 0)) K9 4 47 rfl (by simp) rfl (by omega) rfl
 have O7g := ((O7.trans O8).trans O9).trans Og
 have hO25 : Only (fun c => c = A.fm ∨ c = p) h2 g := ((O35.mono fun _ _ e => e.elim).next O6 fun _ _ e => .inl e).next O7g fun _ _ e => .inr e
 have hO : Only (fun c => c = A.r ∨ c = A.tb ∨ c = A.m ∨ c = A.fm ∨ c = p) h g := ((O1.mono fun _ _ e => e.elim).next O2 fun _ _ e => by omega).next hO25 fun _ _ e => by omega
 have Tg := T2.keep hO25 (by omega) (by omega) (by omega) (by omega)
 have E9 : EnAt g A.e A.fg A.tb A.bk A.fm a b c d := hO.at H.en (by omega)
 have B9 : BlkAt g A.bk := H.bl.keep hO (by omega)
 have M9 : g[A.fm]? = some (.map 91 [(.int .i64 1, fPtr fb, 0)] 1) := O7g.at M6 (by omega)
 have F9 : FlAt g fb (.ptr none) (.ptr none) (.ptr none) (.ptr none) := O7g.at (O6.at F5 (by omega)) (by omega)
 have Hg : Eng1 g ⟨A.r, A.m, A.tb, A.bk, A.fm, A.e, A.fg, nf, fb⟩ a b c d (.ptr none) (.ptr none) (.ptr none) (.ptr none) :=
  ⟨E9, B9, Tg, M9, F9, ⟨o1, o2, o3, o4, o5⟩, by show A.e < nf; omega, by show nf < fb; omega⟩
 obtain ⟨r, h', q1, q3⟩ : ∃ r h', D cfg 61 [ePtr A.e, pPtr p] h = some (r, h') ∧ (r = .bool true ∧ h' = g) := by
  refine call61 (by simp) ?_
  simp [c61, c61_r0, c61_r1, l1, l2, e1, c61_r2, c61_r5, m34, m30, m33, han, c61_r7, m12, mt, e2, c61_r8, c61_r11, nt, n9, hbu, ← hh3, ← hfb, c61_r12]
  refine Wt.unr 3 ?_
  have w1 : IntKind.wrap .i64 1 = 1 := rfl
  have w2 : IntKind.wrap .i64 2 = 2 := rfl
  simp [Unr, c61_l13, c61_r13, c61_r14, c61_r15, lf F3', lt F3', p0, aindexAddr, sf6 F4, sid F4, c61_r16, w1, w2, lf F4, lt F4, p1, sf7 F5, sid F5, c61_r17, r14, hup, ← hh6, c61_r18, s7, ← hh7, s8, ← hh8, s9, ← hh9, sg, ← hg, c61_r19]
 obtain ⟨rfl, rfl⟩ := q3
 exact ⟨_, nf, fb, q1, Hg, by omega, Kg, hO⟩
end
end
section
@[simp] theorem sameAt_app {h l : Heap} {b : Nat} (hb : b < h.length) : sameAt h (h ++ l) b = true := sameAt_of hb (List.getElem?_append_left hb)
theorem Only.same {h h' : Heap} {b : Nat} (g : Only (fun _ => False) h h') (hb : b < h.length) : sameAt h h' b = true := sameAt_of hb (g.2 b hb not_false)
section
variable {h h' : Heap} {x p e fb fg tb bk fm a b c d : Nat} {fr s : Txt} {fl seq ack : Nat} {new : Bool} {fc : List AV}
theorem idx2 {t e' : TypeId} (ht : tk Tryz.prog t = .arr 2 e') (hz : tsz Tryz.prog e' = 1) (hx : x < 2) {off n : Nat} : aindexAddr Tryz.prog t (.ptr (some ⟨fb, off, n⟩)) (.int .i64 x) = some (.ptr (some ⟨fb, off + x, n⟩)) := by
 have q1 : (x : Int) < 2 := by omega
 simp [aindexAddr, ht, hz]; omega
theorem start_run (hx : x < 2) (hfl : fl < 64) (hs : seq + 1 < 4294967296) (ha : ack < 4294967296) (E : EnAt h e fg tb bk fm a b c d) (hbb : b < 1000000) (hep : e ≠ p) (hef : e ≠ fb) (hpf : p ≠ fb)
  (K : PkAt h p (pkM x fr s fl seq ack [] 1 x new (fPtr fb) (.sl none 0 0))) (F : h[fb]? = some (.cells fc 190 false)) (hl : fc.length = 13) (f5 : fc[5]? = some (.sl none 0 0)) (f6 : fc[6 + x]? = some (.sl none 0 0)) :
  ∃ h' k x0 c0 a0, D cfg1 103 [ePtr e, pPtr p] h = some (.bool false, h') ∧ EnAt h' e fg tb bk fm a (b + 1) c d ∧ PkAt h' p (pkM x fr s fl seq ack [] 1 x new (fPtr fb) (frS k)) ∧ Fr1 h' k (1 - x) (frB x fl seq ack []) ∧
   h'[fb]? = some (.cells ((fc.set (8 + x) (dPtr (h.length + 1))).set (10 + x) (siPtr x0)) 190 false) ∧ h'[h.length]? = some (.map 73 [] 0) ∧ h'[h.length + 1]? = some (.cells (dirC (seq + 1) 0 h.length []) 329 false) ∧ SideAt h' x0 c0 a0 0 ∧ x0 = h.length + 2 ∧ c0 < k ∧ Only (fun c => c = e ∨ c = fb ∨ c = p) h h' := by
 have le := lt_of_at E
 have lp := lt_of_at K
 have lf := lt_of_at F
 have l42 : aload Tryz.prog (look h) 128 (.ptr (some ⟨p, 42, 47⟩)) = some (fPtr fb) := cell_load K rfl (by simp) rfl
 have l40 : aload Tryz.prog (look h) 3 (.ptr (some ⟨p, 40, 47⟩)) = some (.int .i64 x) := cell_load K rfl (by simp) rfl
 have l28 : aload Tryz.prog (look h) 28 (.ptr (some ⟨p, 28, 47⟩)) = some (.int .u32 seq) := cell_load K rfl (by simp) rfl
 have le2 : aload Tryz.prog (look h) 3 (.ptr (some ⟨e, 2, 29⟩)) = some (.int .i64 1000) := cell_load E rfl (by simp) rfl
 have le3 : aload Tryz.prog (look h) 3 (.ptr (some ⟨e, 3, 29⟩)) = some (.int .i64 1000) := cell_load E rfl (by simp) rfl
 have w : IntKind.wrap .u32 ((seq : Int) + 1) = (seq + 1 : Nat) := by rw [wu32]; omega
 have e1 := dirstart_run (h := h) hs
 obtain ⟨h1, hh1⟩ : ∃ h1, h1 = h ++ [.map 73 [] 0, .cells (dirC (seq + 1) 0 h.length []) 329 false] := ⟨_, rfl⟩
 have O1 : Only (fun _ => False) h h1 := by rw [hh1]; exact .app
 have m1 : h1[h.length]? = some (.map 73 [] 0) := by rw [hh1]; simp
 have d1 : h1[h.length + 1]? = some (.cells (dirC (seq + 1) 0 h.length []) 329 false) := by rw [hh1]; simp
 have k1 : h1.length = h.length + 2 := by rw [hh1]; simp
 rw [← hh1] at e1
 have F1 := O1.at F not_false
 obtain ⟨h2, hh2, s2, F2, O2⟩ := st1 (off := 8 + x) (v := dPtr (h.length + 1)) F1 185 13 hl (by simp) rfl (by omega) rfl
 have k2 : h2.length = h.length + 2 := by rw [hh2]; simp [k1]
 have K2 : PkAt h2 p _ := O2.at (O1.at K not_false) hpf
 have E2 : EnAt h2 e fg tb bk fm a b c d := O2.at (O1.at E not_false) hef
 have n40 : aload Tryz.prog (look h2) 3 (.ptr (some ⟨p, 40, 47⟩)) = some (.int .i64 x) := cell_load K2 rfl (by simp) rfl
 have n4 : aload Tryz.prog (look h2) 3 (.ptr (some ⟨e, 4, 29⟩)) = some (.int .i64 32) := cell_load E2 rfl (by simp) rfl
 have n5 : aload Tryz.prog (look h2) 92 (.ptr (some ⟨fb, 5, 13⟩)) = some (.sl none 0 0) := cell_load F2 (by simp [hl]) (by simp) (by rw [List.getElem?_set_ne (by omega)]; exact f5)
 have n6 : aload Tryz.prog (look h2) 22 (.ptr (some ⟨fb, 6 + x, 13⟩)) = some (.sl none 0 0) := cell_load F2 (by simp [hl]) (by simp) (by rw [List.getElem?_set_ne (by omega)]; exact f6)
 obtain ⟨h3, c0, a0, e3, S3, g3⟩ := vnew_run (h := h2)
 have O3 : Only (fun _ => False) h2 h3 := g3.only
 have lp2 := lt_of_at K2
 have F3 := O3.at F2 not_false
 obtain ⟨h4, hh4, s4, F4, O4⟩ := st1 (off := 10 + x) (v := siPtr h2.length) F3 187 13 (by simp [hl]) (by simp) rfl (by omega) rfl
 have S4 := S3.keep O4 fun b h1 h2 => by omega
 have O14 : Only (fun c => c = fb) h h4 := (((O1.mono fun _ _ e => e.elim).next O2 fun _ _ e => e).next O3 fun _ _ e => e.elim).next O4 fun _ _ e => e
 have K4 : PkAt h4 p _ := O14.at K hpf
 have E4 : EnAt h4 e fg tb bk fm a b c d := O14.at E hef
 have p42 : aload Tryz.prog (look h4) 128 (.ptr (some ⟨p, 42, 47⟩)) = some (fPtr fb) := cell_load K4 rfl (by simp) rfl
 have p40 : aload Tryz.prog (look h4) 3 (.ptr (some ⟨p, 40, 47⟩)) = some (.int .i64 x) := cell_load K4 rfl (by simp) rfl
 have ps : aload Tryz.prog (look h4) 187 (.ptr (some ⟨fb, 10 + x, 13⟩)) = some (siPtr h2.length) := cell_load F4 (by simp [hl]) (by simp) (by rw [List.getElem?_set_self (by simp [hl]; omega)])
 obtain ⟨h5, e5, g5⟩ := begin_run S4
 have O5 : Only (fun _ => False) h4 h5 := g5.only
 obtain ⟨h6, k, e6, E6, K6, F6, hk, O6⟩ := same160_run hx hfl (by omega) ha (by simp) (O5.at E4 not_false : EnAt h5 e fg tb bk fm a b c d) hbb hep (O5.at K4 not_false)
 have hc4 := lt_of_at S4.scan.choose_spec.2
 have l24 := O3.1
 have l45 := O5.1
 have O56 : Only (fun c => c = e ∨ c = p) h4 h6 := (O5.mono fun _ _ e => e.elim).next O6 fun _ _ e => e
 have hxa := S4.xa
 have hac := S4.ac
 have S6 := S4.keep O56 fun b h1 h2 => by omega
 have hO : Only (fun c => c = e ∨ c = fb ∨ c = p) h h6 := (O14.mono fun _ _ e => .inr (.inl e)).next O56 fun _ _ e => by omega
 have F6' := O56.at F4 (by omega)
 have M6 := O56.at (O4.at (O3.at (O2.at m1 (by omega)) not_false) (by omega)) (by omega)
 have D6 := O56.at (O4.at (O3.at (O2.at d1 (by omega)) not_false) (by omega)) (by omega)
 have sm1 : sameAt h h1 p = true := O1.same lp
 have sm2 : sameAt h2 h3 p = true := O3.same lp2
 have i1 : aindexAddr Tryz.prog 186 (.ptr (some ⟨fb, 8, 13⟩)) (.int .i64 x) = some (.ptr (some ⟨fb, 8 + x, 13⟩)) := idx2 tk_186 (by simp) hx
 have i2 : aindexAddr Tryz.prog 184 (.ptr (some ⟨fb, 6, 13⟩)) (.int .i64 x) = some (.ptr (some ⟨fb, 6 + x, 13⟩)) := idx2 tk_184 (by simp) hx
 have i3 : aindexAddr Tryz.prog 188 (.ptr (some ⟨fb, 10, 13⟩)) (.int .i64 x) = some (.ptr (some ⟨fb, 10 + x, 13⟩)) := idx2 tk_188 (by simp) hx
 obtain ⟨r, h', q1, q3⟩ : ∃ r h', D cfg1 103 [ePtr e, pPtr p] h = some (r, h') ∧ (r = .bool false ∧ h' = h6) := by
  refine call1_103 (by simp) ?_
  simp [c103, c103_r0, c103_r1, l42, c103_r2, l40, l28, w, le2, le3, lift e1, sm1, i1, s2, ← hh2, c103_r3, n40, n5, i2, n6, n4, lift e3, sm2, i3, s4, ← hh4, c103_r4, p40, ps, e5, c103_r5, lift note_run, c103_r6, lift worse_run, c103_r9, lift e6, -Int.natCast_add]
 obtain ⟨rfl, rfl⟩ := q3
 exact ⟨_, k, _, c0, a0, q1, E6, K6, F6, F6', M6, D6, S6, k2, by omega, hO⟩
end
end
section
section
variable {h h' : Heap} {x p e fb fg tb bk fm a b c d : Nat} {fr s : Txt} {fl seq ack : Nat} {new : Bool} {fc : List AV}
def Opened (h h' : Heap) (x e fb fg tb bk fm a b c d p : Nat) (fr s : Txt) (fl seq ack : Nat) (new : Bool) (fc : List AV) : Prop :=
 ∃ k x0 c0 a0, EnAt h' e fg tb bk fm a (b + 1) c d ∧ PkAt h' p (pkM x fr s fl seq ack [] 1 x new (fPtr fb) (frS k)) ∧ Fr1 h' k (1 - x) (frB x fl seq ack []) ∧
   h'[fb]? = some (.cells ((fc.set (8 + x) (dPtr (h.length + 1))).set (10 + x) (siPtr x0)) 190 false) ∧ h'[h.length]? = some (.map 73 [] 0) ∧ h'[h.length + 1]? = some (.cells (dirC (seq + 1) 0 h.length []) 329 false) ∧ SideAt h' x0 c0 a0 0 ∧ x0 = h.length + 2 ∧ c0 < k ∧ Only (fun c => c = e ∨ c = fb ∨ c = p) h h'
theorem seg_new (hx : x < 2) (hfl : fl < 64) (hs : seq + 1 < 4294967296) (ha : ack < 4294967296) (E : EnAt h e fg tb bk fm a b c d) (hbb : b < 1000000) (hep : e ≠ p) (hef : e ≠ fb) (hpf : p ≠ fb)
  (K : PkAt h p (pkM x fr s fl seq ack [] 1 x true (fPtr fb) (.sl none 0 0))) (F : h[fb]? = some (.cells fc 190 false)) (hl : fc.length = 13) (f5 : fc[5]? = some (.sl none 0 0)) (f6 : fc[6 + x]? = some (.sl none 0 0)) :
  ∃ h', D cfg1 64 [ePtr e, pPtr p] h = some (.bool false, h') ∧ Opened h h' x e fb fg tb bk fm a b c d p fr s fl seq ack true fc := by
 obtain ⟨h1, k, x0, c0, a0, e1, P⟩ := start_run hx hfl hs ha E hbb hep hef hpf K F hl f5 f6
 have l41 : aload Tryz.prog (look h) 4 (.ptr (some ⟨p, 41, 47⟩)) = some (.bool true) := cell_load K rfl (by simp) rfl
 obtain ⟨r, h', q1, q3⟩ : ∃ r h', D cfg1 64 [ePtr e, pPtr p] h = some (r, h') ∧ (r = .bool false ∧ h' = h1) := by
  refine call1_64 (by simp) ?_
  simp [c64, c64_r0, c64_r1, l41, c64_r2, e1]
 obtain ⟨rfl, rfl⟩ := q3
 exact ⟨_, q1, k, x0, c0, a0, P⟩
theorem seg_syn {d0 m n : Nat} {last : Txt} (hs : seq + 1 < 4294967296) (ha : ack < 4294967296) (E : EnAt h e fg tb bk fm a b c d) (hbb : b < 1000000) (hep : e ≠ p) (hef : e ≠ fb) (hpf : p ≠ fb)
  (K : PkAt h p (pkM 1 fr s 18 seq ack [] 1 1 false (fPtr fb) (.sl none 0 0))) (F : h[fb]? = some (.cells fc 190 false)) (hl : fc.length = 13) (f5 : fc[5]? = some (.sl none 0 0)) (f6 : fc[7]? = some (.sl none 0 0)) (f8 : fc[8]? = some (dPtr d0)) (f9 : fc[9]? = some (.ptr none))
  (D0 : h[d0]? = some (.cells (dirC ack n m last) 329 false)) :
  ∃ h', D cfg1 64 [ePtr e, pPtr p] h = some (.bool false, h') ∧ Opened h h' 1 e fb fg tb bk fm a b c d p fr s 18 seq ack false fc := by
 obtain ⟨h1, k, x0, c0, a0, e1, P⟩ := start_run (x := 1) (by omega) (by omega) hs ha E hbb hep hef hpf K F hl f5 f6
 have l41 : aload Tryz.prog (look h) 4 (.ptr (some ⟨p, 41, 47⟩)) = some (.bool false) := cell_load K rfl (by simp) rfl
 have l42 : aload Tryz.prog (look h) 128 (.ptr (some ⟨p, 42, 47⟩)) = some (fPtr fb) := cell_load K rfl (by simp) rfl
 have l40 : aload Tryz.prog (look h) 3 (.ptr (some ⟨p, 40, 47⟩)) = some (.int .i64 1) := cell_load K rfl (by simp) rfl
 have l33 : aload Tryz.prog (look h) 9 (.ptr (some ⟨p, 33, 47⟩)) = some (.str []) := cell_load K rfl (by simp) rfl
 have l29 : aload Tryz.prog (look h) 28 (.ptr (some ⟨p, 29, 47⟩)) = some (.int .u32 ack) := cell_load K rfl (by simp) rfl
 have g8 : aload Tryz.prog (look h) 185 (.ptr (some ⟨fb, 8, 13⟩)) = some (dPtr d0) := cell_load F hl (by simp) f8
 have g9 : aload Tryz.prog (look h) 185 (.ptr (some ⟨fb, 9, 13⟩)) = some (.ptr none) := cell_load F hl (by simp) f9
 have v4 := flags_run (fl := 18) (m := 4) (r := 0) rfl K rfl (by rw [abin_and]; rfl)
 have v2 := flags_run (fl := 18) (m := 2) (r := 2) rfl K rfl (by rw [abin_and]; rfl)
 have v16 := flags_run (fl := 18) (m := 16) (r := 16) rfl K rfl (by rw [abin_and]; rfl)
 have v1 := flags_run (fl := 18) (m := 1) (r := 0) rfl K rfl (by rw [abin_and]; rfl)
 have sq := dirseq_run D0 0
 have hq : ((ack : Int) + 0) % 4294967296 = ack := by omega
 rw [hq] at sq
 have lp := lt_of_at K
 have lf := lt_of_at F
 simp at v4 v2 v16 v1
 have e106 : D cfg1 106 [ePtr e, pPtr p] h = some (.bool false, h1) := by
  obtain ⟨r, h', q1, q3⟩ : ∃ r h', D cfg1 106 [ePtr e, pPtr p] h = some (r, h') ∧ (r = .bool false ∧ h' = h1) := by
   refine call1_106 (by simp) ?_
   have w0 : IntKind.wrap .i64 0 = 0 := rfl
   simp [c106, c106_r0, c106_r1, l42, l40, g8, g9, aindexAddr, w0, c106_r2, lift v16, c106_r3, l33, lift v1, c106_r4, l29, lift sq, sameAt_refl lp, c106_r5, e1]
  obtain ⟨rfl, rfl⟩ := q3
  exact q1
 obtain ⟨r, h', q1, q3⟩ : ∃ r h', D cfg1 64 [ePtr e, pPtr p] h = some (r, h') ∧ (r = .bool false ∧ h' = h1) := by
  refine call1_64 (by simp) ?_
  simp [c64, c64_r0, c64_r1, l41, c64_r3, lift v4, c64_r5, lift v2, c64_r6, e106]
 obtain ⟨rfl, rfl⟩ := q3
 exact ⟨_, q1, k, x0, c0, a0, P⟩
end
end
section
section
variable {h h' : Heap} {x p e fb fg tb bk fm a b c d : Nat} {fr s body : Txt} {fl seq ack : Nat} {fc : List AV}
def Inv166 (h₀ : Heap) (x0 c0 a0 k : Nat) (i : Nat) (h : Heap) : Prop := SideAt h x0 c0 a0 (k + i) ∧ Only (fun c => c = x0 ∨ c = c0) h₀ h
theorem rel166_run {x0 c0 a0 k da dd n start nd md na ma sa : Nat} {data lastd lasta : Txt} (hx : x < 2) (hfl : fl < 64) (ha : ack < 4294967296) (hb : data.length ≤ 1000) (E : EnAt h e fg tb bk fm a b c d) (hbb : b < 1000000)
  (K : PkAt h p (pkM x fr s fl seq ack body 1 x false (fPtr fb) (.sl none 0 0))) (F : h[fb]? = some (.cells fc 190 false)) (hl : fc.length = 13) (f8 : fc[8]? = some (dPtr da)) (fx : fc[8 + x]? = some (dPtr dd)) (fs : fc[10 + x]? = some (siPtr x0))
  (DA : h[da]? = some (.cells (dirC sa na ma lasta) 329 false)) (DD : h[dd]? = some (.cells (dirC start nd md lastd) 329 false)) (S : SideAt h x0 c0 a0 k) (hk : k + data.length ≤ 10000)
  (q1 : e < x0) (q2 : fb < x0) (q3 : da < x0) (q4 : dd < x0) (q5 : c0 < p) (q6 : e < fb) (q7 : e < da) (hmsk : abin (.int .i64) .andNot (.int .i64 fl) (.int .i64 1) = some (.int .i64 fl)) :
  ∃ h' k', D cfg1 166 [ePtr e, pPtr p, .agg (gotC 1 n data)] h = some (.bool false, h') ∧ EnAt h' e fg tb bk fm a (b + 1) c d ∧ PkAt h' p (pkM x fr s fl seq ack body 1 x false (fPtr fb) (frS k')) ∧ Fr1 h' k' (1 - x) (frB x fl ((start + n) % 4294967296) ack data) ∧
   SideAt h' x0 c0 a0 (k + data.length) ∧ h.length ≤ k' ∧ Only (fun c => c = e ∨ c = p ∨ c = x0 ∨ c = c0) h h' := by
 have hxa := S.xa
 have hac := S.ac
 have le := lt_of_at E
 have lp := lt_of_at K
 have lf := lt_of_at F
 obtain ⟨h1, hh1, n1, k1, O1⟩ := app1 (h := h) (.cells (gotC 1 n data) 273 false)
 have K1 : PkAt h1 p _ := O1.at K not_false
 replace hh1 : h1 = h ++ [.cells [.int .i64 1, .int .i64 n, .str data, .bool false] 273 false] := hh1
 have l42 : aload Tryz.prog (look h1) 128 (.ptr (some ⟨p, 42, 47⟩)) = some (fPtr fb) := cell_load K1 rfl (by simp) rfl
 have l2 : aload Tryz.prog (look h1) 9 (.ptr (some ⟨h.length, 2, 4⟩)) = some (.str data) := cell_load n1 rfl (by simp) rfl
 have cv : aconv Tryz.prog (look h1) h1.length 9 54 (.str data) = some (.sl (some ⟨h1.length, 0, data.length⟩) data.length data.length, .new (.cells (byteCells data) 5 true)) := by simp [aconv]
 obtain ⟨h2, hh2, n2, k2, O2⟩ := app1 (h := h1) (.cells (byteCells data) 5 true)
 have O12 := O1.trans O2
 have S2 := S.keep O12 fun _ _ _ => not_false
 have goal : ∃ r h', D cfg1 166 [ePtr e, pPtr p, .agg (gotC 1 n data)] h = some (r, h') ∧ (r = .bool false ∧ ∃ k', EnAt h' e fg tb bk fm a (b + 1) c d ∧ PkAt h' p (pkM x fr s fl seq ack body 1 x false (fPtr fb) (frS k')) ∧ Fr1 h' k' (1 - x) (frB x fl ((start + n) % 4294967296) ack data) ∧
   SideAt h' x0 c0 a0 (k + data.length) ∧ h.length ≤ k' ∧ Only (fun c => c = e ∨ c = p ∨ c = x0 ∨ c = c0) h h') := by
  refine call1_166 (by simp) ?_
  simp [c166, c166_r0, ← hh1, c166_r1, l42, c166_r2, l2, cv, ← hh2, gotC, alen]
  have lp1 : h.length < h1.length := by omega
  refine Wt.forP (fun i => [(0, ePtr e), (1, pPtr p), (5, .ptr (some ⟨h.length, 0, 4⟩)), (7, fPtr fb), (18, .sl (some ⟨h1.length, 0, data.length⟩) data.length data.length), (19, .int .i64 (data.length : Nat)), (20, .int .i64 (i : Nat))]) (Inv166 h2 x0 c0 a0 k) data.length ?_ ?_ ?_
  · rintro i h3 hi ⟨S3, O3⟩
    have hc0 := lt_of_at S.scan.choose_spec.2
    have nb : h3[h1.length]? = some (.cells (byteCells data) 5 true) := O3.at n2 (by omega)
    have K3 : PkAt h3 p _ := O3.at (O12.at K not_false) (by omega)
    have F3 := O3.at (O12.at F not_false) (by omega)
    have hix : aindexAddr Tryz.prog 54 (.sl (some ⟨h1.length, 0, data.length⟩) data.length data.length) (.int .i64 (i : Nat)) = some (.ptr (some ⟨h1.length, i, data.length⟩)) := by
     have q : (i : Int) < (data.length : Nat) := by omega
     simp [aindexAddr]; omega
    have lb : aload Tryz.prog (look h3) 5 (.ptr (some ⟨h1.length, i, data.length⟩)) = some (.int .u8 (data[i].toNat : Nat)) := cell_load nb (byteCells_len) (by simp) (by simp [byteCells, hi])
    have m40 : aload Tryz.prog (look h3) 3 (.ptr (some ⟨p, 40, 47⟩)) = some (.int .i64 x) := cell_load K3 rfl (by simp) rfl
    have ms : aload Tryz.prog (look h3) 187 (.ptr (some ⟨fb, 10 + x, 13⟩)) = some (siPtr x0) := cell_load F3 hl (by simp) fs
    have i3 : aindexAddr Tryz.prog 188 (.ptr (some ⟨fb, 10, 13⟩)) (.int .i64 x) = some (.ptr (some ⟨fb, 10 + x, 13⟩)) := idx2 tk_188 (by simp) hx
    obtain ⟨h4, e4, S4, O4⟩ := vstep_run (b := data[i].toNat) (UInt8.toNat_lt _) (by omega) S3
    have v := i64s (n := i) (by omega)
    have hlt : (i : Int) < (data.length : Nat) := by omega
    have hI : Inv166 h2 x0 c0 a0 k (i + 1) h4 := ⟨S4, O3.trans O4⟩
    simp [c166_l3, c166_r3, hi, c166_r4, hix, lb, c166_r5, m40, i3, ms, e4, c166_r6, lift note_run, c166_r7, lift worse_run, c166_r10, v]
    exact hI
  · rintro h3 ⟨S3, O3⟩
    have hc0 := lt_of_at S.scan.choose_spec.2
    have O03 : Only (fun c => c = x0 ∨ c = c0) h h3 := (O12.mono fun _ _ e => e.elim).next O3 fun _ _ e => e
    have nb : h3[h.length]? = some (.cells (gotC 1 n data) 273 false) := O3.at (O2.at n1 not_false) (by omega)
    have K3 : PkAt h3 p _ := O03.at K (by omega)
    have E3 : EnAt h3 e fg tb bk fm a b c d := O03.at E (by omega)
    have F3 := O03.at F (by omega)
    have g1 : aload Tryz.prog (look h3) 3 (.ptr (some ⟨h.length, 1, 4⟩)) = some (.int .i64 n) := cell_load nb rfl (by simp) rfl
    have g2 : aload Tryz.prog (look h3) 9 (.ptr (some ⟨h.length, 2, 4⟩)) = some (.str data) := cell_load nb rfl (by simp) rfl
    have g3 : aload Tryz.prog (look h3) 4 (.ptr (some ⟨h.length, 3, 4⟩)) = some (.bool false) := cell_load nb rfl (by simp) rfl
    obtain ⟨h4, k', e4, E4, K4, Fr4, hk4, O4⟩ := data_run (frm := n) (data := data) hx hfl ha (by omega) E3 hbb (by omega) K3 F3 hl fx (O03.at DD (by omega)) hmsk
    have F4 := O4.at F3 (by omega)
    have DA4 := O4.at (O03.at DA (by omega)) (by omega)
    have gd : aload Tryz.prog (look h4) 185 (.ptr (some ⟨fb, 8, 13⟩)) = some (dPtr da) := cell_load F4 hl (by simp) f8
    have hlt : ¬ ((data.length : Nat) : Int) < (data.length : Nat) := by omega
    have S4 := S3.keep O4 fun b h1 h2 => by omega
    have hO : Only (fun c => c = e ∨ c = p ∨ c = x0 ∨ c = c0) h h4 := (O03.mono fun _ _ e => by omega).next O4 fun _ _ e => by omega
    have hk5 : h.length ≤ k' := Nat.le_trans O03.1 hk4
    simp [c166_l3, c166_r3, c166_r11, g1, g2, g3, lift e4, c166_r12, gd, aindexAddr, lift (done_run DA4), c166_r14]
    exact ⟨E4, k', K4, Fr4, S4, hk5, hO⟩
  · exact ⟨by simp, S2, .refl⟩
 obtain ⟨r, h', e1, rfl, k', P⟩ := goal
 exact ⟨h', k', e1, P⟩
end
end
section
def emOf (n n' a b : Nat) : Option (Nat × Nat) := if n < n' then some (n, n') else if n < b then none else some (a, b)
def OutAt (h : Heap) (p x fl start ack : Nat) (s : Txt) (base : AV → List AV) (lo : Nat) : Option (Nat × Nat) → Prop
 | none => PkAt h p (base (.sl none 0 0))
 | some ft => ∃ k, lo ≤ k ∧ PkAt h p (base (frS k)) ∧ Fr1 h k (1 - x) (frB x fl ((start + ft.1) % 4294967296) ack ((s.drop ft.1).take (ft.2 - ft.1)))
section
variable {h h' : Heap} {x p e fb fg tb bk fm ca cb cc cd : Nat} {fr ps body s : Txt} {fl seq ack : Nat} {fc : List AV}
theorem fl16 {fl : Nat} (h : fl = 16 ∨ fl = 24) : abin (.int .i64) .and (.int .i64 fl) (.int .i64 (16 : Nat)) = some (.int .i64 (16 : Nat)) := by rcases h with rfl | rfl <;> (rw [abin_and]; rfl)
theorem fl1 {fl : Nat} (h : fl = 16 ∨ fl = 24) : abin (.int .i64) .and (.int .i64 fl) (.int .i64 (1 : Nat)) = some (.int .i64 (0 : Nat)) := by rcases h with rfl | rfl <;> (rw [abin_and]; rfl)
theorem fl2 {fl : Nat} (h : fl = 16 ∨ fl = 24) : abin (.int .i64) .and (.int .i64 fl) (.int .i64 (2 : Nat)) = some (.int .i64 (0 : Nat)) := by rcases h with rfl | rfl <;> (rw [abin_and]; rfl)
theorem fl4 {fl : Nat} (h : fl = 16 ∨ fl = 24) : abin (.int .i64) .and (.int .i64 fl) (.int .i64 (4 : Nat)) = some (.int .i64 (0 : Nat)) := by rcases h with rfl | rfl <;> (rw [abin_and]; rfl)
theorem flN {fl : Nat} (h : fl = 16 ∨ fl = 24) : abin (.int .i64) .andNot (.int .i64 fl) (.int .i64 1) = some (.int .i64 fl) := by rcases h with rfl | rfl <;> (simp [abin]; rfl)
theorem seg_push {R : AV → Heap → Prop} (hfl : fl = 16 ∨ fl = 24) (K : PkAt h p (pkM x fr ps fl seq ack body 1 x false (fPtr fb) (.sl none 0 0))) (e1 : D cfg1 107 [ePtr e, pPtr p] h = some (.bool false, h')) : D cfg1 64 [ePtr e, pPtr p] h = some (.bool false, h') := by
 have l41 : aload Tryz.prog (look h) 4 (.ptr (some ⟨p, 41, 47⟩)) = some (.bool false) := cell_load K rfl (by simp) rfl
 have v4 := flags_run rfl K rfl (fl4 hfl)
 have v2 := flags_run rfl K rfl (fl2 hfl)
 simp at v4 v2
 obtain ⟨r, h1, q1, q3⟩ : ∃ r h1, D cfg1 64 [ePtr e, pPtr p] h = some (r, h1) ∧ (r = .bool false ∧ h1 = h') := by
  refine call1_64 (by simp) ?_
  simp [c64, c64_r0, c64_r1, l41, c64_r3, lift v4, c64_r5, lift v2, c64_r7, e1]
 obtain ⟨rfl, rfl⟩ := q3
 exact q1
theorem push_none {start dd md n a : Nat} {L : List (Nat × Nat)} {d0 d1 : Nat} (hx : x < 2) (hfl : fl = 16 ∨ fl = 24) (ha : ack < 4294967296) (E : EnAt h e fg tb bk fm ca cb cc cd) (hbb : cb < 1000000) (hep : e ≠ p)
  (K : PkAt h p (pkM x fr ps fl ((start + a) % 4294967296) ack [] 1 x false (fPtr fb) (.sl none 0 0))) (F : h[fb]? = some (.cells fc 190 false)) (hl : fc.length = 13) (f8 : fc[8]? = some (dPtr d0)) (f9 : fc[9]? = some (dPtr d1)) (fx : fc[8 + x]? = some (dPtr dd))
  (U : DirU h dd md start s n n L) (hal : a ≤ s.length) :
  ∃ h' k, D cfg1 107 [ePtr e, pPtr p] h = some (.bool false, h') ∧ EnAt h' e fg tb bk fm ca (cb + 1) cc cd ∧ PkAt h' p (pkM x fr ps fl ((start + a) % 4294967296) ack [] 1 x false (fPtr fb) (frS k)) ∧ Fr1 h' k (1 - x) (frB x fl ((start + a) % 4294967296) ack []) ∧ h.length ≤ k ∧ Only (fun c => c = e ∨ c = p) h h' := by
 have le := lt_of_at E
 have lp := lt_of_at K
 have lf := lt_of_at F
 have l42 : aload Tryz.prog (look h) 128 (.ptr (some ⟨p, 42, 47⟩)) = some (fPtr fb) := cell_load K rfl (by simp) rfl
 have l40 : aload Tryz.prog (look h) 3 (.ptr (some ⟨p, 40, 47⟩)) = some (.int .i64 x) := cell_load K rfl (by simp) rfl
 have l28 : aload Tryz.prog (look h) 28 (.ptr (some ⟨p, 28, 47⟩)) = some (.int .u32 ((start + a) % 4294967296 : Nat)) := cell_load K rfl (by simp) rfl
 have l33 : aload Tryz.prog (look h) 9 (.ptr (some ⟨p, 33, 47⟩)) = some (.str []) := cell_load K rfl (by simp) rfl
 have g8 : aload Tryz.prog (look h) 185 (.ptr (some ⟨fb, 8, 13⟩)) = some (dPtr d0) := cell_load F hl (by simp) f8
 have g9 : aload Tryz.prog (look h) 185 (.ptr (some ⟨fb, 9, 13⟩)) = some (dPtr d1) := cell_load F hl (by simp) f9
 have gx : aload Tryz.prog (look h) 185 (.ptr (some ⟨fb, 8 + x, 13⟩)) = some (dPtr dd) := cell_load F hl (by simp) fx
 have i80 : aindexAddr Tryz.prog 186 (.ptr (some ⟨fb, 8, 13⟩)) (.int .i64 0) = some (.ptr (some ⟨fb, 8, 13⟩)) := idx2 (x := 0) tk_186 (by simp) (by omega)
 have i81 : aindexAddr Tryz.prog 186 (.ptr (some ⟨fb, 8, 13⟩)) (.int .i64 1) = some (.ptr (some ⟨fb, 9, 13⟩)) := idx2 (x := 1) tk_186 (by simp) (by omega)
 have i1 : aindexAddr Tryz.prog 186 (.ptr (some ⟨fb, 8, 13⟩)) (.int .i64 x) = some (.ptr (some ⟨fb, 8 + x, 13⟩)) := idx2 tk_186 (by simp) hx
 have v16 := flags_run rfl K rfl (fl16 hfl)
 have v1 := flags_run rfl K rfl (fl1 hfl)
 simp at v16 v1
 have e1 := push_pure U hal
 obtain ⟨h1, hh1, O1⟩ := gro (f := 164) (args := [dPtr dd, .int .u32 ((start + a) % 4294967296), .str [], .bool false]) (h := h)
 rw [← hh1] at e1
 obtain ⟨h2, h2', hh2, hh2', s2, q2, n2, O2⟩ := fresh (h := h1) [.int .i64 0, .int .i64 0, .str [], .bool false] (gotC 0 0 []) 273 4 rfl rfl rfl (by omega) (by simp) (by simp)
 have O12 := O1.trans O2
 have z0 : aload Tryz.prog (look h2') 3 (.ptr (some ⟨h1.length, 0, 4⟩)) = some (.int .i64 (0 : Nat)) := cell_load n2 rfl (by simp) rfl
 obtain ⟨h3, k, e3, E3, K3, F3, hk, O3⟩ := same160_run hx (by omega) (by omega) ha (by simp) (O12.at E not_false : EnAt h2' e fg tb bk fm ca cb cc cd) hbb hep (O12.at K not_false)
 have sm1 := sameAt_refl lp
 have sm2 := sameAt_refl lf
 have hcast : (((start + a) % 4294967296 : Nat) : Int) = ((start : Int) + a) % 4294967296 := by omega
 rw [hcast] at l28
 obtain ⟨r, h', q1, q3⟩ : ∃ r h', D cfg1 107 [ePtr e, pPtr p] h = some (r, h') ∧ (r = .bool false ∧ h' = h3) := by
  refine call1_107 (by simp) ?_
  simp [c107, c107_r0, c107_r1, l42, c107_r2, lift v16, i80, i81, g8, g9, c107_r4, l40, i1, gx, l28, l33, lift v1, sm1, sm2, lift e1, zeros, ← hh2, s2, ← hh2', c107_r5, z0, c107_r6, c107_r8, c107_r10, c107_r12, c107_r15, c107_r17, lift e3]
 obtain ⟨rfl, rfl⟩ := q3
 exact ⟨_, k, q1, E3, K3, F3, Nat.le_trans O12.1 hk, (O12.mono fun _ _ e => e.elim).next O3 fun _ _ e => e⟩
theorem push_data {start dd md n a b d0 d1 x0 c0 a0 : Nat} {L : List (Nat × Nat)} (hx : x < 2) (hfl : fl = 16 ∨ fl = 24) (ha : ack < 4294967296) (E : EnAt h e fg tb bk fm ca cb cc cd) (hbb : cb < 1000000) (hbc : cc < 1000000) (hbd : cd < 1000000)
  (K : PkAt h p (pkM x fr ps fl ((start + a) % 4294967296) ack ((s.drop a).take (b - a)) 1 x false (fPtr fb) (.sl none 0 0))) (F : h[fb]? = some (.cells fc 190 false)) (hl : fc.length = 13) (f8 : fc[8]? = some (dPtr d0)) (f9 : fc[9]? = some (dPtr d1)) (fx : fc[8 + x]? = some (dPtr dd)) (fs : fc[10 + x]? = some (siPtr x0))
  (U : DirU h dd md start s n n L) (DA : d0 = dd ∨ d0 ≠ dd ∧ d0 ≠ md ∧ ∃ sA nA mA lA, h[d0]? = some (.cells (dirC sA nA mA lA) 329 false)) (S : SideAt h x0 c0 a0 n) (hab : a < b) (hb : b ≤ s.length)
  (q1 : e < fb) (q2 : fb < md) (q3 : md < dd) (q4 : dd < x0) (q5 : c0 < p) (q6 : e < d0) (q7 : d0 < x0) :
  ∃ h' n' L', D cfg1 107 [ePtr e, pPtr p] h = some (.bool false, h') ∧ DirU h' dd md start s n' n' L' ∧ SideAt h' x0 c0 a0 n' ∧ Psh s n n' a b L L' ∧ (∃ cb' cc' cd', EnAt h' e fg tb bk fm ca cb' cc' cd' ∧ cb' = cb + (if (emOf n n' a b).isSome then 1 else 0) ∧ cc' ≤ cc + 1 ∧ cd' ≤ cd + 1) ∧
   OutAt h' p x fl start ack s (fun v => pkM x fr ps fl ((start + a) % 4294967296) ack ((s.drop a).take (b - a)) 1 x false (fPtr fb) v) h.length (emOf n n' a b) ∧ Only (fun c => c = e ∨ c = p ∨ c = dd ∨ c = md ∨ c = x0 ∨ c = c0) h h' := by
 have hxa := S.xa
 have hac := S.ac
 have le := lt_of_at E
 have lp := lt_of_at K
 have lf := lt_of_at F
 obtain ⟨body, hbody⟩ : ∃ body, body = (s.drop a).take (b - a) := ⟨_, rfl⟩
 have hbl : body.length = b - a := by rw [hbody]; simp; omega
 have hsh := U.short
 have e1 := push_run U hab hb
 rw [← hbody] at K e1 ⊢
 obtain ⟨h1, n', L', e1, U1, P1, O1⟩ := e1
 have l42 : aload Tryz.prog (look h) 128 (.ptr (some ⟨p, 42, 47⟩)) = some (fPtr fb) := cell_load K rfl (by simp) rfl
 have l40 : aload Tryz.prog (look h) 3 (.ptr (some ⟨p, 40, 47⟩)) = some (.int .i64 x) := cell_load K rfl (by simp) rfl
 have l28 : aload Tryz.prog (look h) 28 (.ptr (some ⟨p, 28, 47⟩)) = some (.int .u32 ((start + a) % 4294967296 : Nat)) := cell_load K rfl (by simp) rfl
 have l33 : aload Tryz.prog (look h) 9 (.ptr (some ⟨p, 33, 47⟩)) = some (.str body) := cell_load K rfl (by simp) rfl
 have g8 : aload Tryz.prog (look h) 185 (.ptr (some ⟨fb, 8, 13⟩)) = some (dPtr d0) := cell_load F hl (by simp) f8
 have g9 : aload Tryz.prog (look h) 185 (.ptr (some ⟨fb, 9, 13⟩)) = some (dPtr d1) := cell_load F hl (by simp) f9
 have gx : aload Tryz.prog (look h) 185 (.ptr (some ⟨fb, 8 + x, 13⟩)) = some (dPtr dd) := cell_load F hl (by simp) fx
 have i80 : aindexAddr Tryz.prog 186 (.ptr (some ⟨fb, 8, 13⟩)) (.int .i64 0) = some (.ptr (some ⟨fb, 8, 13⟩)) := idx2 (x := 0) tk_186 (by simp) (by omega)
 have i81 : aindexAddr Tryz.prog 186 (.ptr (some ⟨fb, 8, 13⟩)) (.int .i64 1) = some (.ptr (some ⟨fb, 9, 13⟩)) := idx2 (x := 1) tk_186 (by simp) (by omega)
 have i1 : aindexAddr Tryz.prog 186 (.ptr (some ⟨fb, 8, 13⟩)) (.int .i64 x) = some (.ptr (some ⟨fb, 8 + x, 13⟩)) := idx2 tk_186 (by simp) hx
 have v16 := flags_run rfl K rfl (fl16 hfl)
 have v1 := flags_run rfl K rfl (fl1 hfl)
 simp at v16 v1
 have sm1 := sameAt_refl lp
 have sm2 := sameAt_refl lf
 have hcast : (((start + a) % 4294967296 : Nat) : Int) = ((start : Int) + a) % 4294967296 := by omega
 rw [hcast] at l28
 obtain ⟨h2, h2', hh2, hh2', s2, qq2, n2, O2⟩ := fresh (h := h1) [.int .i64 0, .int .i64 0, .str [], .bool false] (gotOf s n n' a b) 273 4 rfl (by unfold gotOf; split; rfl; split <;> rfl) (by unfold gotOf; split; rfl; split <;> rfl) (by omega) (by simp) (by simp)
 have O12 : Only (fun c => c = dd ∨ c = md) h h2' := O1.next O2 fun _ _ e => e.elim
 have K2 : PkAt h2' p _ := O12.at K (by omega)
 have F2 := O12.at F (by omega)
 have E2 : EnAt h2' e fg tb bk fm ca cb cc cd := O12.at E (by omega)
 have S2 := S.keep O12 fun b h1 h2 => by omega
 have U2 := U1.keep O2 not_false not_false
 have DA2 : ∃ sA nA mA lA, h2'[d0]? = some (.cells (dirC sA nA mA lA) 329 false) := by
  rcases DA with rfl | ⟨g1, g2, sA, nA, mA, lA, g3⟩
  · exact ⟨_, _, _, _, U2.dir⟩
  · exact ⟨_, _, _, _, O12.at g3 (by omega)⟩
 obtain ⟨sA, nA, mA, lA, DA2⟩ := DA2
 have hle := P1.le
 have hgoal : ∃ r h', D cfg1 107 [ePtr e, pPtr p] h = some (r, h') ∧ (r = .bool false ∧ DirU h' dd md start s n' n' L' ∧ SideAt h' x0 c0 a0 n' ∧ (∃ cb' cc' cd', EnAt h' e fg tb bk fm ca cb' cc' cd' ∧ cb' = cb + (if (emOf n n' a b).isSome then 1 else 0) ∧ cc' ≤ cc + 1 ∧ cd' ≤ cd + 1) ∧
   OutAt h' p x fl start ack s (fun v => pkM x fr ps fl ((start + a) % 4294967296) ack body 1 x false (fPtr fb) v) h.length (emOf n n' a b) ∧ Only (fun c => c = e ∨ c = p ∨ c = dd ∨ c = md ∨ c = x0 ∨ c = c0) h h') := by
  refine call1_107 (by simp) ?_
  by_cases hnn : n < n'
  · have hg : gotOf s n n' a b = gotC 1 n ((s.drop n).take (n' - n)) := by unfold gotOf; rw [if_pos hnn]
    have he : emOf n n' a b = some (n, n') := by unfold emOf; rw [if_pos hnn]
    rw [hg] at e1 s2 qq2 n2 hh2'
    rw [he]
    have hnl := U2.le
    have hdl : ((s.drop n).take (n' - n)).length = n' - n := by simp; omega
    have z0 : aload Tryz.prog (look h2') 3 (.ptr (some ⟨h1.length, 0, 4⟩)) = some (.int .i64 (1 : Nat)) := cell_load n2 rfl (by simp) rfl
    obtain ⟨h3, k, e3, E3, K3, F3, S3, hk, O3⟩ := rel166_run (n := n) (data := (s.drop n).take (n' - n)) hx (by omega) ha (by omega) E2 hbb K2 F2 hl f8 fx fs DA2 U2.dir S2 (by omega) (by omega) (by omega) (by omega) (by omega) (by omega) (by omega) (by omega) (flN hfl)
    rw [hdl, show n + (n' - n) = n' by omega] at S3
    have hO : Only (fun c => c = e ∨ c = p ∨ c = dd ∨ c = md ∨ c = x0 ∨ c = c0) h h3 := (O12.mono fun _ _ e => by omega).next O3 fun _ _ e => by omega
    have U3 := U2.keep O3 (by omega) (by omega)
    simp [c107, c107_r0, c107_r1, l42, c107_r2, lift v16, i80, i81, g8, g9, c107_r4, l40, i1, gx, l28, l33, lift v1, sm1, sm2, lift e1, zeros, ← hh2, s2, ← hh2', c107_r5, z0, c107_r6, c107_r8, c107_r10, c107_r12, c107_r15, c107_r16, qq2, e3]
    exact ⟨U3, S3, ⟨_, _, _, E3, by simp, by omega, by omega⟩, ⟨k, Nat.le_trans O12.1 hk, K3, F3⟩, hO⟩
  · have hn0 : n' = n := by omega
    rw [hn0] at U2 ⊢
    by_cases hb4 : n < b
    · have hg : gotOf s n n' a b = gotC 4 0 [] := by unfold gotOf; rw [if_neg hnn, if_pos hb4]
      have he : emOf n n a b = none := by unfold emOf; rw [if_neg (by omega), if_pos hb4]
      rw [hg] at e1 s2 qq2 n2 hh2'
      rw [he]
      have z0 : aload Tryz.prog (look h2') 3 (.ptr (some ⟨h1.length, 0, 4⟩)) = some (.int .i64 (4 : Nat)) := cell_load n2 rfl (by simp) rfl
      have e3 : D cfg 85 [.ptr (some ⟨e, 22, 29⟩)] h2' = some (.bool false, h2'.set e (.cells (engC fg tb bk fm (cntC ca cb cc (cd + 1))) 94 false)) := one_run E2 rfl (by omega) rfl hbd rfl
      obtain ⟨h3, hh3⟩ : ∃ h3, h3 = h2'.set e (.cells (engC fg tb bk fm (cntC ca cb cc (cd + 1))) 94 false) := ⟨_, rfl⟩
      have O3 : Only (fun c => c = e) h2' h3 := by rw [hh3]; exact .set rfl
      have E3 : EnAt h3 e fg tb bk fm ca cb cc (cd + 1) := by rw [hh3]; exact List.getElem?_set_self (lt_of_at E2)
      rw [← hh3] at e3
      have hO : Only (fun c => c = e ∨ c = p ∨ c = dd ∨ c = md ∨ c = x0 ∨ c = c0) h h3 := (O12.mono fun _ _ e => by omega).next O3 fun _ _ e => by omega
      have U3 := U2.keep O3 (by omega) (by omega)
      have S3 := S2.keep O3 fun b h1 h2 => by omega
      have K3 : PkAt h3 p _ := O3.at K2 (by omega)
      simp [c107, c107_r0, c107_r1, l42, c107_r2, lift v16, i80, i81, g8, g9, c107_r4, l40, i1, gx, l28, l33, lift v1, sm1, sm2, lift e1, zeros, ← hh2, s2, ← hh2', c107_r5, z0, c107_r6, c107_r8, c107_r9, lift e3]
      exact ⟨U3, S3, ⟨_, _, _, E3, by simp, by omega, by omega⟩, K3, hO⟩
    · have hg : gotOf s n n' a b = gotC 2 a body := by unfold gotOf; rw [if_neg hnn, if_neg hb4, hbody]
      have he : emOf n n a b = some (a, b) := by unfold emOf; rw [if_neg (by omega), if_neg hb4]
      rw [hg] at e1 s2 qq2 n2 hh2'
      rw [he]
      have z0 : aload Tryz.prog (look h2') 3 (.ptr (some ⟨h1.length, 0, 4⟩)) = some (.int .i64 (2 : Nat)) := cell_load n2 rfl (by simp) rfl
      have w : IntKind.wrap .i64 ((cc : Int) + 1) = (cc + 1 : Nat) := by rw [wrap_i64 (by omega) (by omega)]; omega
      have lc : aload Tryz.prog (look h2') 3 (.ptr (some ⟨e, 21, 29⟩)) = some (.int .i64 cc) := cell_load E2 rfl (by simp) rfl
      obtain ⟨h3, hh3, s3, E3, O3⟩ := st1 (off := 21) (v := .int .i64 (cc + 1 : Nat)) (us := engC fg tb bk fm (cntC ca cb (cc + 1) cd)) E2 3 29 rfl (by simp) rfl (by omega) rfl
      have n3 := O3.at n2 (by have := O1.1; omega)
      have z1 : aload Tryz.prog (look h3) 3 (.ptr (some ⟨h1.length, 1, 4⟩)) = some (.int .i64 a) := cell_load n3 rfl (by simp) rfl
      have z2 : aload Tryz.prog (look h3) 9 (.ptr (some ⟨h1.length, 2, 4⟩)) = some (.str body) := cell_load n3 rfl (by simp) rfl
      have z3 : aload Tryz.prog (look h3) 4 (.ptr (some ⟨h1.length, 3, 4⟩)) = some (.bool false) := cell_load n3 rfl (by simp) rfl
      have K3 : PkAt h3 p _ := O3.at K2 (by omega)
      obtain ⟨h4, k, e4, E4, K4, F4, hk, O4⟩ := data_run (frm := a) (data := body) hx (by omega) ha (by omega) E3 hbb (by omega) K3 (O3.at F2 (by omega)) hl fx (O3.at U2.dir (by omega)) (flN hfl)
      have O34 : Only (fun c => c = e ∨ c = p) h2' h4 := (O3.mono fun _ _ e => .inl e).next O4 fun _ _ e => e
      have hO : Only (fun c => c = e ∨ c = p ∨ c = dd ∨ c = md ∨ c = x0 ∨ c = c0) h h4 := (O12.mono fun _ _ e => by omega).next O34 fun _ _ e => by omega
      have U4 := U2.keep O34 (by omega) (by omega)
      have S4 := S2.keep O34 fun b h1 h2 => by omega
      have hk' : h.length ≤ k := Nat.le_trans O12.1 (Nat.le_trans O3.1 hk)
      simp [c107, c107_r0, c107_r1, l42, c107_r2, lift v16, i80, i81, g8, g9, c107_r4, l40, i1, gx, l28, l33, lift v1, sm1, sm2, lift e1, zeros, ← hh2, s2, ← hh2', c107_r5, z0, c107_r6, c107_r8, c107_r10, c107_r12, c107_r13, lc, w, s3, ← hh3, c107_r14, z1, z2, z3, lift e4, -Int.natCast_add]
      exact ⟨U4, S4, ⟨_, _, _, E4, by simp, by omega, by omega⟩, ⟨k, hk', K4, by rw [← hbody]; exact F4⟩, hO⟩
 obtain ⟨r, h', e2, rfl, U3, S3, E3, K3, O3⟩ := hgoal
 exact ⟨h', n', L', e2, U3, S3, P1, E3, K3, O3⟩
end
end
end Go.AM
