/-
  The walk of LexBytes.
-/
import Derived.Test.YtamidpfdiijjgaaDoorF2
import Derived.Test.YtamidpfdiijjgaaDoorE11
import Derived.Test.YtamidpfdiijjgaaDoorL5
namespace Go.AM
open Go Go.Proofs
set_option linter.unusedVariables false
set_option linter.unusedSimpArgs false
set_option maxRecDepth 100000

def byteOf (n : Int) : UInt8 := UInt8.ofNat n.toNat
theorem byteOf_nat {n : Int} (h0 : 0 ≤ n) (h1 : n ≤ 255) : ((byteOf n).toNat : Int) = n := by unfold byteOf; simp; omega
def howOf (ys : List Int) (i : Nat) : Nat := match ys[i]? with
  | some y => (y % 4).toNat
  | none => 0

def In5 (h₀ : Heap) (v w : AV) (bt : Txt) (ks : Nat → Nat) (m : Nat) (st : St) : Prop := ∃ i h, m = bt.length - i ∧ i ≤ bt.length ∧
  st = ⟨[(0, v), (1, w), (5, .str (34 :: encL ks 0 (bt.take i))), (6, .int .i64 (i : Int))], h⟩ ∧ Only (fun _ => False) h₀ h

theorem hexS (q : Nat) (hq : q < 16) : aslice Tryd.prog 9 (.str [48, 49, 50, 51, 52, 53, 54, 55, 56, 57, 65, 66, 67, 68, 69, 70]) (some (.int .u8 q)) (some (.int .u8 ((q : Int) + 1))) none = some (.str [hexT false q]) := by
  have b1 : (q : Int) + 1 ≤ 16 := by omega
  have b2 : (0 : Int) ≤ (q : Int) + 1 := by omega
  have b3 : ((q : Int) + 1).toNat = q + 1 := by omega
  have b4 : (q : Int) ≤ (q : Int) + 1 := by omega
  have b5 : q + 1 - q = 1 := by omega
  have hd : ∀ q, q < 16 → (([48, 49, 50, 51, 52, 53, 54, 55, 56, 57, 65, 66, 67, 68, 69, 70] : Txt).drop q).take 1 = [hexT false q] := by decide
  simp [aslice, bound, b1, b2, b3, b4, b5, hd q hq]
theorem hexs (q : Nat) (hq : q < 16) : aslice Tryd.prog 9 (.str [48, 49, 50, 51, 52, 53, 54, 55, 56, 57, 97, 98, 99, 100, 101, 102]) (some (.int .u8 q)) (some (.int .u8 ((q : Int) + 1))) none = some (.str [hexT true q]) := by
  have b1 : (q : Int) + 1 ≤ 16 := by omega
  have b2 : (0 : Int) ≤ (q : Int) + 1 := by omega
  have b3 : ((q : Int) + 1).toNat = q + 1 := by omega
  have b4 : (q : Int) ≤ (q : Int) + 1 := by omega
  have b5 : q + 1 - q = 1 := by omega
  have hd : ∀ q, q < 16 → (([48, 49, 50, 51, 52, 53, 54, 55, 56, 57, 97, 98, 99, 100, 101, 102] : Txt).drop q).take 1 = [hexT true q] := by decide
  simp [aslice, bound, b1, b2, b3, b4, b5, hd q hq]

theorem conv_one {h : Heap} {c : UInt8} {n : Nat} : aconv Tryd.prog (look (h ++ [AObj.cells [.int .u8 (c.toNat : Int)] 5 true])) n 37 9 (.sl (some ⟨h.length, 0, 1⟩) 1 1) = some (.str [c], .no) := by
  simp [aconv, slCells, row, look_at, cellBytes]

theorem u8_wf {n : Int} (h : (Lit.int .u8 n).wf = true) : 0 ≤ n ∧ n ≤ 255 := by
  simp [Lit.wf, IntKind.min, IntKind.max, IntKind.signed, IntKind.bits] at h
  omega

theorem cellBytes_map {xs : List Int} : cellBytes (xs.map (.int .u8)) = some (xs.map byteOf) := by
  induction xs with
  | nil => rfl
  | cons x xs ih => simp [cellBytes, ih, byteOf]

theorem conv_in {h : Heap} {v : AV} {xs : List Int} (H : Sl1 h v (xs.map (.int .u8))) (hz : ∀ a n c, v = .sl (some a) n c → a.off = 0) {n : Nat} : aconv Tryd.prog (look h) n 37 9 v = some (.str (xs.map byteOf), .no) := by
  rcases H with ⟨rfl, he⟩ | ⟨b, o, g, c, cs, rfl, h1, h2⟩
  · have : xs = [] := by simpa using he
    subst this
    simp [aconv]
  · have ho := hz _ _ _ rfl
    simp only at ho
    subst ho
    have hle : xs.length ≤ cs.length := by
      have := congrArg List.length h2
      simp at this
      omega
    simp only [List.length_map, List.drop_zero] at h2
    simp [aconv, slCells, h1, hle, h2, cellBytes_map]

theorem bytes_walk {h : Heap} {v w : AV} {xs ys : List Int} (hv : Sl1 h v (xs.map (.int .u8))) (hw : Sl1 h w (ys.map (.int .i64))) (hz : ∀ a n c, v = .sl (some a) n c → a.off = 0) (hx : ∀ x ∈ xs, 0 ≤ x ∧ x ≤ 255) (hl : xs.length ≤ 9223372036854775807) (hl2 : ys.length ≤ 9223372036854775807) :
    Wt Tryd.prog (D cfg) c5 ⟨argsEnv 0 [v, w], h⟩ (Ends Tryd.prog [.tmp 4] fun r _ => r = .bool true) := by
  have hlen := fun L => hv.len (t := 37) (e := 5) (by simp) (L := L)
  have hlen2 := fun L => hw.len (t := 38) (e := 3) (by simp) (L := L)
  simp only [List.length_map] at hlen hlen2
  by_cases hbig : 60 < xs.length
  · have hb : (60 : Int) < xs.length := by omega
    obtain ⟨h4, e4⟩ := awake10 (h := h)
    simp [-AV.cells, -AV.one, -AV.notTup, c5, c5_r0, c5_r1, c5_r2, len1, hlen, hb, e4, tup_bool]
  have hb : ¬ (60 : Int) < xs.length := by omega
  obtain ⟨bt, hbt⟩ : ∃ bt, bt = xs.map byteOf := ⟨_, rfl⟩
  have hbl : bt.length = xs.length := by rw [hbt]; simp
  obtain ⟨ks, hks⟩ : ∃ ks, ks = howOf ys := ⟨_, rfl⟩
  simp [-AV.cells, -AV.one, -AV.notTup, c5, c5_r0, c5_r1, c5_r3, c5_r4, len1, hlen, hb]
  refine Wt.loop (In5 h v w bt ks) (m := bt.length) ⟨0, h, rfl, Nat.zero_le _, rfl, .refl⟩ ?_
  rintro m st ⟨i, h1, rfl, hi, rfl, o1⟩
  obtain ⟨E, hE⟩ : ∃ E, E = encL ks 0 (bt.take i) := ⟨_, rfl⟩
  rw [← hE]
  have hEl : E.length ≤ 360 := by
    have := encL_len (ks := ks) (i := 0) (b := bt.take i)
    rw [← hE] at this
    simp at this
    omega
  have hcut : cut (some [0, 1, 5, 6]) [(0, v), (1, w), (5, AV.str (34 :: E)), (6, .int .i64 (i : Int))] = [(0, v), (1, w), (5, AV.str (34 :: E)), (6, .int .i64 (i : Int))] := by simp
  simp only [hcut]
  by_cases hil : i < bt.length
  · have hix : i < xs.length := by omega
    have hix' : (i : Int) < xs.length := by omega
    have w0 : IntKind.wrap .i64 ((i : Int) + 1) = i + 1 := wrap_i64 (by omega) (by omega)
    have hv1 := hv.same o1
    have hw1 := hw.same o1
    have a1 := hv1.at (t := 37) (e := 5) (by simp) (by simp) (i := i) (by simpa using hix)
    have a2 := hv1.load (e := 5) (by simp) (i := i) (by simpa using hix)
    simp only [List.getElem_map] at a2
    obtain ⟨c, hc⟩ : ∃ c, c = byteOf xs[i] := ⟨_, rfl⟩
    have hxi := hx xs[i] (List.getElem_mem hix)
    have hcn : (c.toNat : Int) = xs[i] := by rw [hc]; exact byteOf_nat hxi.1 hxi.2
    rw [← hcn] at a2
    have hclt := c.toNat_lt
    obtain ⟨kk, hkk⟩ : ∃ kk, kk = ks i := ⟨_, rfl⟩
    have hEnext : encL ks 0 (bt.take (i + 1)) = E ++ encB kk c := by
      have : bt[i] = c := by simp only [hbt, List.getElem_map, hc]
      rw [List.take_succ_eq_append_getElem hil, encL_snoc, this, hE, hkk]
      simp only [List.length_take, Nat.zero_add]
      rw [Nat.min_eq_left (by omega)]
    have go : ∀ (h' : Heap) (S : Txt), Only (fun _ => False) h1 h' → S = 34 :: (E ++ encB kk c) → ∃ m', m' < bt.length - i ∧ In5 h v w bt ks m' ⟨[(0, v), (1, w), (5, .str S), (6, .int .i64 (i + 1 : Int))], h'⟩ := by
      intro h' S ho hS
      refine ⟨bt.length - (i + 1), by omega, i + 1, h', rfl, hil, ?_, o1.trans ho⟩
      rw [hEnext, hS]
      simp
    have t1 : abin .str .add (.str (34 :: E)) (.str [c]) = some (.str (34 :: (E ++ [c]))) := by rw [abin_addS (by simp; omega)]; rfl
    have t2 : abin .str .add (.str (34 :: E)) (.str [92]) = some (.str (34 :: (E ++ [92]))) := by rw [abin_addS (by simp; omega)]; rfl
    have t3 : abin .str .add (.str (34 :: (E ++ [92]))) (.str [c]) = some (.str (34 :: (E ++ [92, c]))) := by rw [abin_addS (by simp; omega)]; simp
    have t4 : abin .str .add (.str (34 :: E)) (.str [124, 32]) = some (.str (34 :: (E ++ [124, 32]))) := by rw [abin_addS (by simp; omega)]; rfl
    have t5 : ∀ x, abin .str .add (.str (34 :: (E ++ [124, 32]))) (.str [x]) = some (.str (34 :: (E ++ [124, 32, x]))) := fun x => by rw [abin_addS (by simp; omega)]; simp
    have t6 : ∀ x y, abin .str .add (.str (34 :: (E ++ [124, 32, x]))) (.str [y]) = some (.str (34 :: (E ++ [124, 32, x, y]))) := fun x y => by rw [abin_addS (by simp; omega)]; simp
    have t7 : ∀ x y, abin .str .add (.str (34 :: (E ++ [124, 32, x, y]))) (.str [32, 124]) = some (.str (34 :: (E ++ [124, 32, x, y, 32, 124]))) := fun x y => by rw [abin_addS (by simp; omega)]; simp
    have d1 : abin (.int .u8) .quo (.int .u8 (c.toNat : Int)) (.int .u8 16) = some (.int .u8 ((c.toNat / 16 : Nat) : Int)) := by
      rw [abin_quo (by omega), Int.tdiv_eq_ediv_of_nonneg (by omega)]
      have : (c.toNat : Int) / 16 = ((c.toNat / 16 : Nat) : Int) := by omega
      rw [this, wrap_u8 (by omega) (by omega)]
    have d2 : abin (.int .u8) .rem (.int .u8 (c.toNat : Int)) (.int .u8 16) = some (.int .u8 ((c.toNat % 16 : Nat) : Int)) := by
      rw [abin_rem (by omega), Int.tmod_eq_emod_of_nonneg (by omega)]
      have : (c.toNat : Int) % 16 = ((c.toNat % 16 : Nat) : Int) := by omega
      rw [this]
    have d3 : IntKind.wrap .u8 (((c.toNat / 16 : Nat) : Int) + 1) = ((c.toNat / 16 : Nat) : Int) + 1 := wrap_u8 (by omega) (by omega)
    have d4 : IntKind.wrap .u8 (((c.toNat % 16 : Nat) : Int) + 1) = ((c.toNat % 16 : Nat) : Int) + 1 := wrap_u8 (by omega) (by omega)
    obtain ⟨q1, hq1⟩ : ∃ q, q = c.toNat / 16 := ⟨_, rfl⟩
    obtain ⟨q2, hq2⟩ : ∃ q, q = c.toNat % 16 := ⟨_, rfl⟩
    rw [← hq1] at d1 d3
    rw [← hq2] at d2 d4
    have hS1 := hexS q1 (by omega); have hS2 := hexS q2 (by omega)
    have hs1 := hexs q1 (by omega); have hs2 := hexs q2 (by omega)
    have other : ∀ k, (k < 2 ∨ ¬ (32 ≤ c.toNat ∧ c.toNat ≤ 126 ∧ c ≠ 34 ∧ c ≠ 124 ∧ c ≠ 92) ∧ ¬ (c = 34 ∨ c = 124 ∨ c = 92)) → encB k c = [124, 32, hexT (k % 2 == 1) q1, hexT (k % 2 == 1) q2, 32, 124] := by
      intro k hk
      unfold encB
      rw [hq1, hq2, if_neg (fun e => by rcases hk with h | h; exact absurd e.1 (by omega); exact h.1 e.2), if_neg (fun e => by rcases hk with h | h; exact absurd e.1 (by omega); exact h.2 e.2)]
    have oA : ∀ {x : AObj}, Only (fun _ => False) h1 (h1 ++ [x]) := fun {x} => .app
    by_cases hA : i < ys.length
    · have hA' : (i : Int) < ys.length := by omega
      have b1 := hw1.at (t := 38) (e := 3) (by simp) (by simp) (i := i) (by simpa using hA)
      have b2 := hw1.load (e := 3) (by simp) (i := i) (by simpa using hA)
      simp only [List.getElem_map] at b2
      have p1 := place_run (h := h1) (v := ys[i]) (n := 4) (by omega) (by omega)
      have hk4 : ys[i] % 4 = (kk : Int) ∧ kk < 4 := by
        rw [hkk, hks]
        simp only [howOf, List.getElem?_eq_getElem hA]
        omega
      rw [hk4.1] at p1
      have hkk4 := hk4.2
      clear hkk hk4 hEnext
      match kk, hkk4 with
      | 0, _ =>
        have hb := other 0 (.inl (by omega))
        simp [-AV.cells, -AV.one, -AV.notTup, c5_l5, c5_r5, c5_r6, c5_r7, c5_r8, c5_r9, c5_r10, c5_r11, c5_r12, c5_r13, c5_r14, c5_r15, c5_r16, c5_r17, c5_r18, len1, hlen, hlen2, hix', hA', b1, b2, p1, a1, a2, pickV, abin_rem, t4, d1, d2, d3, d4, hS1, hS2, t5, t6, t7, w0]
        exact go _ _ .refl (by rw [hb]; rfl)
      | 1, _ =>
        have hb := other 1 (.inl (by omega))
        simp [-AV.cells, -AV.one, -AV.notTup, c5_l5, c5_r5, c5_r6, c5_r7, c5_r8, c5_r9, c5_r10, c5_r11, c5_r12, c5_r13, c5_r14, c5_r15, c5_r16, c5_r17, c5_r18, len1, hlen, hlen2, hix', hA', b1, b2, p1, a1, a2, pickV, abin_rem, t4, d1, d2, d3, d4, hs1, hs2, t5, t6, t7, w0]
        exact go _ _ .refl (by rw [hb]; rfl)
      | 2, _ =>
        by_cases h34 : c = 34
        · have hb : encB 2 c = [92, c] := by unfold encB; rw [if_neg (fun e => e.2.2.2.1 h34), if_pos ⟨by omega, .inl h34⟩]
          have n34 : (c.toNat : Int) = 34 := by rw [h34]; rfl
          have cv : ∀ n, aconv Tryd.prog (look (h1 ++ [AObj.cells [.int .u8 34] 5 true])) n 37 9 (.sl (some ⟨h1.length, 0, 1⟩) 1 1) = some (.str [c], .no) := fun n => by rw [h34]; exact conv_one (c := 34)
          simp [-AV.cells, -AV.one, -AV.notTup, c5_l5, c5_r5, c5_r6, c5_r7, c5_r8, c5_r9, c5_r10, c5_r11, c5_r12, c5_r13, c5_r14, c5_r15, c5_r16, c5_r17, c5_r18, len1, hlen, hlen2, hix', hA', b1, b2, p1, a1, a2, pickV, abin_rem, d1, d2, d3, d4, t1, t2, t3, t4, t5, t6, t7, w0, abuildSlice, afill, zeros, splice, cells_int, one_int, cv, n34]
          exact go _ _ oA (by rw [hb])
        by_cases h124 : c = 124
        · have hb : encB 2 c = [92, c] := by unfold encB; rw [if_neg (fun e => e.2.2.2.2.1 h124), if_pos ⟨by omega, .inr (.inl h124)⟩]
          have n124 : (c.toNat : Int) = 124 := by rw [h124]; rfl
          have cv : ∀ n, aconv Tryd.prog (look (h1 ++ [AObj.cells [.int .u8 124] 5 true])) n 37 9 (.sl (some ⟨h1.length, 0, 1⟩) 1 1) = some (.str [c], .no) := fun n => by rw [h124]; exact conv_one (c := 124)
          simp [-AV.cells, -AV.one, -AV.notTup, c5_l5, c5_r5, c5_r6, c5_r7, c5_r8, c5_r9, c5_r10, c5_r11, c5_r12, c5_r13, c5_r14, c5_r15, c5_r16, c5_r17, c5_r18, len1, hlen, hlen2, hix', hA', b1, b2, p1, a1, a2, pickV, abin_rem, d1, d2, d3, d4, t1, t2, t3, t4, t5, t6, t7, w0, abuildSlice, afill, zeros, splice, cells_int, one_int, cv, n124]
          exact go _ _ oA (by rw [hb])
        by_cases h92 : c = 92
        · have hb : encB 2 c = [92, c] := by unfold encB; rw [if_neg (fun e => e.2.2.2.2.2 h92), if_pos ⟨by omega, .inr (.inr h92)⟩]
          have n92 : (c.toNat : Int) = 92 := by rw [h92]; rfl
          have cv : ∀ n, aconv Tryd.prog (look (h1 ++ [AObj.cells [.int .u8 92] 5 true])) n 37 9 (.sl (some ⟨h1.length, 0, 1⟩) 1 1) = some (.str [c], .no) := fun n => by rw [h92]; exact conv_one (c := 92)
          simp [-AV.cells, -AV.one, -AV.notTup, c5_l5, c5_r5, c5_r6, c5_r7, c5_r8, c5_r9, c5_r10, c5_r11, c5_r12, c5_r13, c5_r14, c5_r15, c5_r16, c5_r17, c5_r18, len1, hlen, hlen2, hix', hA', b1, b2, p1, a1, a2, pickV, abin_rem, d1, d2, d3, d4, t1, t2, t3, t4, t5, t6, t7, w0, abuildSlice, afill, zeros, splice, cells_int, one_int, cv, n92]
          exact go _ _ oA (by rw [hb])
        have n34 : ¬ (c.toNat : Int) = 34 := fun e => h34 (u34.2 (by omega))
        have n124 : ¬ (c.toNat : Int) = 124 := fun e => h124 (u124.2 (by omega))
        have n92 : ¬ (c.toNat : Int) = 92 := fun e => h92 (u92.2 (by omega))
        by_cases h32 : 32 ≤ c.toNat
        · have i32 : (32 : Int) ≤ c.toNat := by omega
          by_cases h126 : c.toNat ≤ 126
          · have i126 : (c.toNat : Int) ≤ 126 := by omega
            have hb : encB 2 c = [c] := by unfold encB; rw [if_pos ⟨by omega, h32, h126, h34, h124, h92⟩]
            simp [-AV.cells, -AV.one, -AV.notTup, c5_l5, c5_r5, c5_r6, c5_r7, c5_r8, c5_r9, c5_r10, c5_r11, c5_r12, c5_r13, c5_r14, c5_r15, c5_r16, c5_r17, c5_r18, len1, hlen, hlen2, hix', hA', b1, b2, p1, a1, a2, pickV, abin_rem, d1, d2, d3, d4, t1, t2, t3, t4, t5, t6, t7, w0, abuildSlice, afill, zeros, splice, cells_int, one_int, conv_one, n34, n124, n92, i32, i126]
            exact go _ _ oA (by rw [hb])
          · have i126 : ¬ (c.toNat : Int) ≤ 126 := by omega
            have hb := other 2 (.inr ⟨fun e => h126 e.2.1, fun e => by rcases e with e | e | e; exact h34 e; exact h124 e; exact h92 e⟩)
            simp [-AV.cells, -AV.one, -AV.notTup, c5_l5, c5_r5, c5_r6, c5_r7, c5_r8, c5_r9, c5_r10, c5_r11, c5_r12, c5_r13, c5_r14, c5_r15, c5_r16, c5_r17, c5_r18, len1, hlen, hlen2, hix', hA', b1, b2, p1, a1, a2, pickV, abin_rem, d1, d2, d3, d4, t1, t2, t3, t4, t5, t6, t7, w0, abuildSlice, afill, zeros, splice, cells_int, one_int, conv_one, hS1, hS2, n34, n124, n92, i32, i126]
            exact go _ _ .refl (by rw [hb]; rfl)
        · have i32 : ¬ (32 : Int) ≤ c.toNat := by omega
          have hb := other 2 (.inr ⟨fun e => h32 e.1, fun e => by rcases e with e | e | e; exact h34 e; exact h124 e; exact h92 e⟩)
          simp [-AV.cells, -AV.one, -AV.notTup, c5_l5, c5_r5, c5_r6, c5_r7, c5_r8, c5_r9, c5_r10, c5_r11, c5_r12, c5_r13, c5_r14, c5_r15, c5_r16, c5_r17, c5_r18, len1, hlen, hlen2, hix', hA', b1, b2, p1, a1, a2, pickV, abin_rem, d1, d2, d3, d4, t1, t2, t3, t4, t5, t6, t7, w0, abuildSlice, afill, zeros, splice, cells_int, one_int, conv_one, hS1, hS2, n34, n124, n92, i32]
          exact go _ _ .refl (by rw [hb]; rfl)
      | 3, _ =>
        by_cases h34 : c = 34
        · have hb : encB 3 c = [92, c] := by unfold encB; rw [if_neg (fun e => e.2.2.2.1 h34), if_pos ⟨by omega, .inl h34⟩]
          have n34 : (c.toNat : Int) = 34 := by rw [h34]; rfl
          have cv : ∀ n, aconv Tryd.prog (look (h1 ++ [AObj.cells [.int .u8 34] 5 true])) n 37 9 (.sl (some ⟨h1.length, 0, 1⟩) 1 1) = some (.str [c], .no) := fun n => by rw [h34]; exact conv_one (c := 34)
          simp [-AV.cells, -AV.one, -AV.notTup, c5_l5, c5_r5, c5_r6, c5_r7, c5_r8, c5_r9, c5_r10, c5_r11, c5_r12, c5_r13, c5_r14, c5_r15, c5_r16, c5_r17, c5_r18, len1, hlen, hlen2, hix', hA', b1, b2, p1, a1, a2, pickV, abin_rem, d1, d2, d3, d4, t1, t2, t3, t4, t5, t6, t7, w0, abuildSlice, afill, zeros, splice, cells_int, one_int, cv, n34]
          exact go _ _ oA (by rw [hb])
        by_cases h124 : c = 124
        · have hb : encB 3 c = [92, c] := by unfold encB; rw [if_neg (fun e => e.2.2.2.2.1 h124), if_pos ⟨by omega, .inr (.inl h124)⟩]
          have n124 : (c.toNat : Int) = 124 := by rw [h124]; rfl
          have cv : ∀ n, aconv Tryd.prog (look (h1 ++ [AObj.cells [.int .u8 124] 5 true])) n 37 9 (.sl (some ⟨h1.length, 0, 1⟩) 1 1) = some (.str [c], .no) := fun n => by rw [h124]; exact conv_one (c := 124)
          simp [-AV.cells, -AV.one, -AV.notTup, c5_l5, c5_r5, c5_r6, c5_r7, c5_r8, c5_r9, c5_r10, c5_r11, c5_r12, c5_r13, c5_r14, c5_r15, c5_r16, c5_r17, c5_r18, len1, hlen, hlen2, hix', hA', b1, b2, p1, a1, a2, pickV, abin_rem, d1, d2, d3, d4, t1, t2, t3, t4, t5, t6, t7, w0, abuildSlice, afill, zeros, splice, cells_int, one_int, cv, n124]
          exact go _ _ oA (by rw [hb])
        by_cases h92 : c = 92
        · have hb : encB 3 c = [92, c] := by unfold encB; rw [if_neg (fun e => e.2.2.2.2.2 h92), if_pos ⟨by omega, .inr (.inr h92)⟩]
          have n92 : (c.toNat : Int) = 92 := by rw [h92]; rfl
          have cv : ∀ n, aconv Tryd.prog (look (h1 ++ [AObj.cells [.int .u8 92] 5 true])) n 37 9 (.sl (some ⟨h1.length, 0, 1⟩) 1 1) = some (.str [c], .no) := fun n => by rw [h92]; exact conv_one (c := 92)
          simp [-AV.cells, -AV.one, -AV.notTup, c5_l5, c5_r5, c5_r6, c5_r7, c5_r8, c5_r9, c5_r10, c5_r11, c5_r12, c5_r13, c5_r14, c5_r15, c5_r16, c5_r17, c5_r18, len1, hlen, hlen2, hix', hA', b1, b2, p1, a1, a2, pickV, abin_rem, d1, d2, d3, d4, t1, t2, t3, t4, t5, t6, t7, w0, abuildSlice, afill, zeros, splice, cells_int, one_int, cv, n92]
          exact go _ _ oA (by rw [hb])
        have n34 : ¬ (c.toNat : Int) = 34 := fun e => h34 (u34.2 (by omega))
        have n124 : ¬ (c.toNat : Int) = 124 := fun e => h124 (u124.2 (by omega))
        have n92 : ¬ (c.toNat : Int) = 92 := fun e => h92 (u92.2 (by omega))
        by_cases h32 : 32 ≤ c.toNat
        · have i32 : (32 : Int) ≤ c.toNat := by omega
          by_cases h126 : c.toNat ≤ 126
          · have i126 : (c.toNat : Int) ≤ 126 := by omega
            have hb : encB 3 c = [c] := by unfold encB; rw [if_pos ⟨by omega, h32, h126, h34, h124, h92⟩]
            simp [-AV.cells, -AV.one, -AV.notTup, c5_l5, c5_r5, c5_r6, c5_r7, c5_r8, c5_r9, c5_r10, c5_r11, c5_r12, c5_r13, c5_r14, c5_r15, c5_r16, c5_r17, c5_r18, len1, hlen, hlen2, hix', hA', b1, b2, p1, a1, a2, pickV, abin_rem, d1, d2, d3, d4, t1, t2, t3, t4, t5, t6, t7, w0, abuildSlice, afill, zeros, splice, cells_int, one_int, conv_one, n34, n124, n92, i32, i126]
            exact go _ _ oA (by rw [hb])
          · have i126 : ¬ (c.toNat : Int) ≤ 126 := by omega
            have hb := other 3 (.inr ⟨fun e => h126 e.2.1, fun e => by rcases e with e | e | e; exact h34 e; exact h124 e; exact h92 e⟩)
            simp [-AV.cells, -AV.one, -AV.notTup, c5_l5, c5_r5, c5_r6, c5_r7, c5_r8, c5_r9, c5_r10, c5_r11, c5_r12, c5_r13, c5_r14, c5_r15, c5_r16, c5_r17, c5_r18, len1, hlen, hlen2, hix', hA', b1, b2, p1, a1, a2, pickV, abin_rem, d1, d2, d3, d4, t1, t2, t3, t4, t5, t6, t7, w0, abuildSlice, afill, zeros, splice, cells_int, one_int, conv_one, hs1, hs2, n34, n124, n92, i32, i126]
            exact go _ _ .refl (by rw [hb]; rfl)
        · have i32 : ¬ (32 : Int) ≤ c.toNat := by omega
          have hb := other 3 (.inr ⟨fun e => h32 e.1, fun e => by rcases e with e | e | e; exact h34 e; exact h124 e; exact h92 e⟩)
          simp [-AV.cells, -AV.one, -AV.notTup, c5_l5, c5_r5, c5_r6, c5_r7, c5_r8, c5_r9, c5_r10, c5_r11, c5_r12, c5_r13, c5_r14, c5_r15, c5_r16, c5_r17, c5_r18, len1, hlen, hlen2, hix', hA', b1, b2, p1, a1, a2, pickV, abin_rem, d1, d2, d3, d4, t1, t2, t3, t4, t5, t6, t7, w0, abuildSlice, afill, zeros, splice, cells_int, one_int, conv_one, hs1, hs2, n34, n124, n92, i32]
          exact go _ _ .refl (by rw [hb]; rfl)
    · have hA' : ¬ (i : Int) < ys.length := by omega
      have hk0 : kk = 0 := by
        rw [hkk, hks]
        simp only [howOf, List.getElem?_eq_none (Nat.le_of_not_lt hA)]
      have hb := other 0 (.inl (by omega))
      clear hkk hEnext
      subst hk0
      simp [-AV.cells, -AV.one, -AV.notTup, c5_l5, c5_r5, c5_r6, c5_r7, c5_r8, c5_r9, c5_r10, c5_r11, c5_r12, c5_r13, c5_r14, c5_r15, c5_r16, c5_r17, c5_r18, len1, hlen, hlen2, hix', hA', a1, a2, pickV, abin_rem, t4, d1, d2, d3, d4, hS1, hS2, t5, t6, t7, w0]
      exact go _ _ .refl (by rw [hb]; rfl)
  · have hge : ¬ (i : Int) < xs.length := by omega
    have hib : bt.take i = bt := List.take_of_length_le (by omega)
    rw [hib] at hE
    obtain ⟨q1, q2⟩ := bytes_lex (ks := ks) (b := bt) (by omega)
    rw [← hE] at q1 q2
    obtain ⟨u, h2, e2, O2, o2⟩ := all8 (h := h1) (s := [120] ++ ([34] ++ E) ++ [34, 59])
    obtain ⟨u3, h3, e3, O3, o3⟩ := all8 (h := h2) (s := [10] ++ ([34] ++ E))
    obtain ⟨h4, e4⟩ := awake10 (h := h3)
    rw [q1] at e2 O2
    rw [q2] at e3
    have e2' : D cfg 8 [.str (120 :: 34 :: (E ++ [34, 59]))] h1 = some (.tup [u, .int .i64 0, .int .i64 0], h2) := by simpa using e2
    have e3' : D cfg 8 [.str (10 :: 34 :: E)] h2 = some (.tup [u3, .int .i64 2, .int .i64 6], h3) := by simpa using e3
    have T := O2.tok.same o3
    have tl := fun L => T.len (t := 22) (by simp) (L := L)
    have tl' : ∀ L, alen Tryd.prog L 22 u = some (.int .i64 3) := tl
    obtain ⟨B, o, g, r0, r1, r2, _, _⟩ := T.at (t := 22) (by simp) (by simp) (i := 1) (by simp)
    obtain ⟨B', o', g', s0, s1, s2, _, _⟩ := T.at (t := 22) (by simp) (by simp) (i := 2) (by simp)
    simp only [List.getElem_cons_zero, List.getElem_cons_succ] at r1 r2 s1 s2
    have r0' : aindexAddr Tryd.prog 22 u (.int .i64 1) = _ := r0
    have s0' : aindexAddr Tryd.prog 22 u (.int .i64 2) = _ := s0
    have cv := fun n => conv_in (h := h3) (((hv.same o1).same o2).same o3) hz (n := n)
    rw [← hbt] at cv
    have t1 : abin .str .add (.str [120]) (.str (34 :: E)) = some (.str (120 :: 34 :: E)) := by rw [abin_addS (by simp; omega)]; rfl
    have t2 : abin .str .add (.str (120 :: 34 :: E)) (.str [34, 59]) = some (.str (120 :: 34 :: (E ++ [34, 59]))) := by rw [abin_addS (by simp; omega)]; rfl
    have t3 : abin .str .add (.str [10]) (.str (34 :: E)) = some (.str (10 :: 34 :: E)) := by rw [abin_addS (by simp; omega)]; rfl
    simp [-AV.cells, -AV.one, -AV.notTup, c5_l5, c5_r5, c5_r19, c5_r20, c5_r21, len1, hlen, hge, t1, t2, t3, e2', e3', extractV, pickV, tl', r0', r1, r2, s0', s1, s2, fieldA, cv, e4, tup_bool]

end Go.AM
