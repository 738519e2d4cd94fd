/-
  The law TrieOrder returns true.
-/
import Derived.Test.YtamidpfdiijjgaaP5
import Derived.Test.YtamidpfdiijjgaaL3
namespace Go.AM
open Go Go.Proofs
set_option linter.unusedVariables false
set_option linter.unusedSimpArgs false
set_option maxRecDepth 100000

/-- The first element, if it says so. -/
def saysTrue (r : Option (AV × Heap)) : Bool := match r with
  | some (.bool b, _) => b
  | _ => false

theorem awake_of {f n : Nat} (hx : saysTrue (acall cfg n f [] []) = true) {fs : List FuncId} (hf : fs.contains f = true) {h : Heap} : mixed fs (D cfg) f [] h = some (.bool true, h) := by
  cases hr : acall cfg n f [] [] with
  | none => rw [hr] at hx; simp [saysTrue] at hx
  | some r =>
    obtain ⟨v, h'⟩ := r
    have h2 := D_of hr
    rw [hr] at hx
    cases v <;> simp [saysTrue] at hx
    subst hx
    simp only [mixed, hf, if_true, forget, h2, plainArgs]
    simp

theorem awake13 : saysTrue (acall cfg 40 36 [] []) = true := by kernel_rfl

noncomputable abbrev F3 : CallF := mixed [36] (D cfg)

theorem awake3 {h : Heap} : F3 36 [] h = some (.bool true, h) := awake_of awake13 rfl
theorem F3_D {f : FuncId} (hf : f ≠ 36) {args : List AV} {h : Heap} : F3 f args h = D cfg f args h := mixed_D (by simp [hf])

/-! ### the plain law -/

def patO (m i : Nat) : Txt := UInt8.ofNat (65 + i) :: List.replicate (m - 1) 0

structure OrderI (m i : Nat) (X ps : List Txt) : Prop where
  len : X.length = 1 + m * i
  heads : ∀ y ∈ X, y = [] ∨ ∃ (c : Nat) (r : Txt), y = UInt8.ofNat (65 + c) :: r ∧ c < i
  pats : ps.length = i
  pheads : ∀ y ∈ ps, ∃ (c : Nat) (r : Txt), y = UInt8.ofNat (65 + c) :: r ∧ c < i

theorem ofNat_inj {a b : Nat} (ha : a < 100) (hb : b < 100) (h : UInt8.ofNat a = UInt8.ofNat b) : a = b := by
  have := congrArg UInt8.toNat h
  simp at this
  omega

theorem patO_take {m i : Nat} (h1 : 1 ≤ m) (h16 : m ≤ 16) : (patO m i).take 16 = patO m i := by
  rw [List.take_of_length_le]
  simp [patO]
  omega

theorem OrderI.step {m i : Nat} {X ps : List Txt} (h : OrderI m i X ps) (hi : i < 20) (h1 : 1 ≤ m) (h16 : m ≤ 16) :
    OrderI m (i + 1) (addFrom X [] (patO m i)) (ps ++ [patO m i]) ∧ (addFrom X [] (patO m i))[1 + m * i]? = some ([] ++ [UInt8.ofNat (65 + i)]) ∧ (addFrom X [] (patO m i))[m * (i + 1)]? = some (patO m i) ∧ places (patO m i) (ps ++ [patO m i]) 0 = [(i : Int)] := by
  have hfr : addFrom X [] (patO m i) = X ++ (List.range m).map fun k => (patO m i).take (k + 1) := by
    unfold patO
    rw [addFrom_fresh]
    · simp [Nat.sub_add_cancel h1]
    · intro r' hm
      rcases h.heads _ hm with h2 | ⟨c, r, h2, h3⟩
      · simp at h2
      · simp at h2
        have := ofNat_inj (by omega) (by omega) h2.1
        omega
  have hm1 : m * (i + 1) = m * i + m := Nat.mul_succ m i
  refine ⟨⟨?_, ?_, by simp [h.pats], ?_⟩, ?_, ?_, ?_⟩
  · rw [hfr]; simp [h.len]; omega
  · intro y hy
    rw [hfr] at hy
    simp at hy
    rcases hy with hy | ⟨a, ha, rfl⟩
    · rcases h.heads y hy with h2 | ⟨c, r, h2, h3⟩
      · exact .inl h2
      · exact .inr ⟨c, r, h2, by omega⟩
    · exact .inr ⟨i, (List.replicate (m - 1) 0).take a, by simp [patO], by omega⟩
  · intro y hy
    simp at hy
    rcases hy with hy | rfl
    · obtain ⟨c, r, h2, h3⟩ := h.pheads y hy
      exact ⟨c, r, h2, by omega⟩
    · exact ⟨i, _, rfl, by omega⟩
  · rw [hfr, List.getElem?_append_right (by rw [h.len]; omega), h.len]
    rw [Nat.sub_self, List.getElem?_map, List.getElem?_range (by omega)]
    simp [patO]
  · rw [hfr, List.getElem?_append_right (by rw [h.len]; omega), h.len]
    have : m * (i + 1) - (1 + m * i) = m - 1 := by omega
    rw [this]
    have h3 : (List.range m)[m - 1]? = some (m - 1) := by rw [List.getElem?_range (by omega)]
    rw [List.getElem?_map, h3]
    simp only [Option.map_some, Nat.sub_add_cancel h1]
    rw [List.take_of_length_le]
    simp [patO]
    omega
  · rw [places_app, if_pos rfl, places_none]
    · simp [h.pats]
    · intro hm
      obtain ⟨c, r, h2, h3⟩ := h.pheads _ hm
      simp [patO] at h2
      have := ofNat_inj (by omega) (by omega) h2.1
      omega

/-! ### the walk -/

theorem zeros_u8 {n : Nat} : zeros [.int .u8 0] n = byteCells (List.replicate n 0) := by
  induction n with
  | zero => rfl
  | succ n ih => simp [zeros, ih, List.replicate_succ, byteCells]

theorem cellBytes_byte {l : List UInt8} : cellBytes (byteCells l) = some l := by
  induction l with
  | nil => rfl
  | cons c l ih =>
    simp only [byteCells, List.map_cons, cellBytes] at ih ⊢
    rw [ih]
    simp

theorem order_round {m i k : Nat} {B : TB} {T : TM} {X ps : List Txt} {h : Heap} (H : TrX h B T X ps) (O : OrderI m i X ps) (hi : i < k) (hk : k < 20) (h1 : 1 ≤ m) (h16 : m ≤ 16) {Q : AExit → St → Prop}
    (hq : ∀ B' T' X' ps' h', B'.ptr = B.ptr → TrX h' B' T' X' ps' → OrderI m (i + 1) X' ps' → Q .normal ⟨[(5, .int .i64 k), (6, .int .i64 m), (7, B.ptr), (8, .int .i64 (i + 1 : Nat))], h'⟩) :
    Wt Try.prog F3 c3_l6 ⟨[(5, .int .i64 k), (6, .int .i64 m), (7, B.ptr), (8, .int .i64 i)], h⟩ Q := by
  have hw : IntKind.wrap .i64 (65 + (i : Int)) = 65 + i := wrap_i64 (by omega) (by omega)
  have hw8 : IntKind.wrap .u8 (65 + (i : Int)) = 65 + i := wrap_u8 (by omega) (by omega)
  have hm1 : (m : Int) ≤ 281474976710656 := by omega
  have hm2 : (m : Int) ≤ 9223372036854775807 := by omega
  have hz := zeros_u8 (n := m)
  have hbl : (byteCells (List.replicate m 0)).length = m := by simp [byteCells]
  have hbl' : ∀ x, ((byteCells (List.replicate m 0)).set 0 x).length = m := by simp [byteCells]
  have hm0 : 0 < m := h1
  have hset : (byteCells (List.replicate m 0)).set 0 (.int .u8 (65 + i)) = byteCells (patO m i) := by
    obtain ⟨m', rfl⟩ : ∃ m', m = m' + 1 := ⟨m - 1, by omega⟩
    simp [byteCells, patO, List.replicate_succ]
    omega
  have hcb : cellBytes (byteCells (patO m i)) = some (patO m i) := cellBytes_byte
  have hpl : (byteCells (patO m i)).length = m := by simp [byteCells, patO]; omega
  have H1 : TrX (h ++ [.cells (byteCells (patO m i)) 5 true]) B T X ps := H.same .app
  have hmi : m * i ≤ 16 * 20 := Nat.mul_le_mul h16 (by omega)
  have hmi' : m * (i + 1) ≤ 16 * 20 := Nat.mul_le_mul h16 (by omega)
  obtain ⟨B', T', h2, e1, e2, H2, o2, f2⟩ := tr_add H1 (by have := O.len; omega) (by have := O.pats; omega) (p := patO m i) (by simp [patO]; omega)
  obtain ⟨O2, hX1, hX2, hpl2⟩ := O.step (by omega) h1 h16
  rw [patO_take h1 h16] at H2
  have hps : (ps ++ [patO m i]).length = i + 1 := O2.pats
  have e3 := tr_states H2
  have e4 := tr_child H2 H2.model.zero (b := UInt8.ofNat (65 + i)) hX1
  obtain ⟨b5, h5, e5, o5, g5⟩ := tr_ends H2 (by omega) hX2
  have e6 := tr_depth (H2.same o5) hX2
  have hpat : (patO m i).length = m := by simp [patO]; omega
  have hmod : (65 + (i : Int)) % 256 = 65 + i := by omega
  rw [hpl2] at e5
  rw [e2, O2.len] at e3
  rw [O.pats] at e1
  rw [e2] at e4 e5 e6
  rw [hpat] at e6
  simp [hmod, intSl] at e3 e4 e5 e6
  have hw1 : IntKind.wrap .i64 ((i : Int) + 1) = i + 1 := wrap_i64 (by omega) (by omega)
  have hx1 : ((m * i : Nat) : Int) ≤ 320 := by exact_mod_cast hmi
  have hx2 : ((m * (i + 1) : Nat) : Int) ≤ 320 := by exact_mod_cast hmi'
  have hx3 : (0 : Int) ≤ ((m * i : Nat) : Int) := Int.natCast_nonneg _
  have hx4 : (0 : Int) ≤ ((m * (i + 1) : Nat) : Int) := Int.natCast_nonneg _
  simp at hx1 hx2 hx3 hx4
  have hw2 : IntKind.wrap .i64 ((m : Int) * (i + 1)) = m * (i + 1) := wrap_i64 (by omega) (by omega)
  have hw3 : IntKind.wrap .i64 (1 + (m : Int) * (i + 1)) = 1 + m * (i + 1) := wrap_i64 (by omega) (by omega)
  have hw4 : IntKind.wrap .i64 ((m : Int) * i) = m * i := wrap_i64 (by omega) (by omega)
  have hw5 : IntKind.wrap .i64 (1 + (m : Int) * i) = 1 + m * i := wrap_i64 (by omega) (by omega)
  have hend := hq B' T' _ _ h5 e2 (H2.same o5) O2
  have hta : List.take m (byteCells (patO m i)) = byteCells (patO m i) := by rw [List.take_of_length_le]; omega
  simp [hta, c3_l6, c3_r6, c3_r7, c3_r8, c3_r9, c3_r10, c3_r11, c3_r12, c3_r13, c3_r14, hi, amakeSlice, hz, hw, hw8, aindexAddr, aload, astore, hm1, hm2, hbl, hbl', hm0, h1, hset, aconv, slCells, row, hpl, hcb, F3_D, set_new, e1, e3, e4, e5, e6, hw1, hw2, hw3, hw4, hw5, extractV, len1, alen, bne_dec]
  simpa using hend

theorem order_walk {n size : Int} : Wt Try.prog F3 c3 ⟨argsEnv 0 [.int .i64 n, .int .i64 size], []⟩ (Ends Try.prog [.tmp 4] fun r _ => r = .bool true) := by
  have p1 := place_run (h := []) (v := n) (n := 20) (by decide) (by decide)
  have p2 := place_run (h := []) (v := size) (n := 16) (by decide) (by decide)
  obtain ⟨k, hk⟩ : ∃ k : Nat, n % 20 = k := ⟨(n % 20).toNat, by omega⟩
  obtain ⟨m, hm⟩ : ∃ m : Nat, 1 + size % 16 = m := ⟨(1 + size % 16).toNat, by omega⟩
  have hk1 : k < 20 := by omega
  have hm1 : 1 ≤ m := by omega
  have hm2 : m ≤ 16 := by omega
  have hw : IntKind.wrap .i64 (1 + size % 16) = m := by rw [hm]; exact wrap_i64 (by omega) (by omega)
  obtain ⟨B, h1, e1, H, _, _⟩ := tr_new (h := [])
  simp [c3, c3_r0, c3_r1, c3_r2, c3_r3, c3_r5, F3_D, p1, p2, hk, hw, e1]
  refine Wt.loop (fun j s => ∃ i B' T X ps h, j = k - i ∧ s = ⟨[(5, .int .i64 k), (6, .int .i64 m), (7, B'.ptr), (8, .int .i64 (i : Nat))], h⟩ ∧ i ≤ k ∧ B'.ptr = B.ptr ∧ TrX h B' T X ps ∧ OrderI m i X ps) (m := k) ⟨0, B, T0, [[]], [], h1, rfl, rfl, by omega, rfl, H, ⟨by simp, by simp, rfl, by simp⟩⟩ ?_
  rintro j s ⟨i, B', T, X, ps, h, rfl, rfl, hi, hB, H', O⟩
  have hcut : cut (some [5, 6, 7, 8]) [(5, .int .i64 (k : Int)), (6, .int .i64 (m : Int)), (7, B'.ptr), (8, .int .i64 (i : Nat))] = [(5, .int .i64 k), (6, .int .i64 m), (7, B'.ptr), (8, .int .i64 (i : Nat))] := by simp
  simp only [hcut]
  by_cases hik : i < k
  · refine order_round H' O hik hk1 hm1 hm2 fun B2 T2 X2 ps2 h2 e2 H2 O2 => ?_
    exact ⟨k - (i + 1), by omega, i + 1, B2, T2, X2, ps2, h2, rfl, by rw [e2], hik, by rw [e2, hB], H2, O2⟩
  · have hno : [] ++ [(7 : UInt8)] ∉ X := by
      intro hm
      rcases O.heads _ hm with h2 | ⟨c, r, h2, h3⟩
      · simp at h2
      · simp at h2
        have h4 := congrArg UInt8.toNat h2.1
        simp at h4
        omega
    have hp0 : places [] ps 0 = [] := places_none fun hm => by
      obtain ⟨c, r, h2, _⟩ := O.pheads _ hm
      simp at h2
    have e3 := tr_child_none H' H'.model.zero hno
    obtain ⟨b4, h4, e4, o4, _⟩ := tr_ends H' (by have := O.pats; omega) H'.model.zero
    rw [hp0, intSl_nil] at e4
    simp at e3 e4
    simp [c3_l6, c3_r6, c3_r15, c3_r16, hik, F3_D, e3, e4, extractV, len1, alen, awake3]

theorem order_run {n size : Int} : ∃ r h', r = .bool true ∧ ([] : Heap).length ≤ h'.length ∧ ∀ (ι : Inj) (w : World) (B : Nat) (cargs : List Value), HR Try.prog ι w B (look []) → Fresh ι ([] : Heap).length h'.length → L2 (V ι) [.int .i64 n, .int .i64 size] cargs →
      Calls Try.prog 3 cargs.toArray w fun e w' => ∃ ι' u, e = .returned u ∧ V ι' r u ∧ Step Try.prog ι w B (look []) ι' w' (look h') ∧ Lays ι ι' h'.length := by
  obtain ⟨code, hb, hk⟩ := c3_eq
  exact W.top (R := fun r _ => r = .bool true) (by kernel_rfl) (mixed_ok (D_ok cfg_ok)) c3_fn hb c3_ok hk (by rw [c3_nt]; simp) (W.mono order_walk fun e s' h => Ends_fin c3_rs h)

end Go.AM
