/-
  The law ScanFolds returns true.
-/
import Derived.Test.YtamidpfdiijjgaaN6
import Derived.Test.YtamidpfdiijjgaaT1
import Derived.Test.YtamidpfdiijjgaaL17
namespace Go.AM
open Go Go.Proofs
set_option linter.unusedVariables false
set_option linter.unusedSimpArgs false
set_option maxRecDepth 100000

noncomputable abbrev F17 : CallF := mixed [62] (D cfg)
theorem awake17 {h : Heap} : F17 62 [] h = some (.bool true, h) := awake15c rfl
theorem F17_D {f : FuncId} (hf : f ≠ 62) {args : List AV} {h : Heap} : F17 f args h = D cfg f args h := mixed_D (by simp [hf])

/-! ### plain -/

def upB (b : UInt8) : UInt8 := if 97 ≤ b.toNat ∧ b.toNat ≤ 122 then UInt8.ofNat (b.toNat - 32) else b
theorem low_up_all : (List.range 256).all (fun n => lowB (upB (UInt8.ofNat n)) == lowB (UInt8.ofNat n)) = true := by decide +kernel
theorem low_up (b : UInt8) : lowB (upB b) = lowB b := by
  have := List.all_eq_true.1 low_up_all b.toNat (by simpa using b.toNat_lt)
  simpa using this
def ups (s : Txt) : Txt := s.map upB
theorem fold_ups {s : Txt} : fold (ups s) = fold s := by
  simp only [fold, ups, List.map_map]
  apply List.map_congr_left
  intro b _
  exact low_up b
theorem ups_len {s : Txt} : (ups s).length = s.length := by simp [ups]

theorem hits_yes {nc : List Bool} {w w' : Txt} (hw : fold w = fold w') : ∀ {l : List Txt} {i : Nat}, (∀ k, k < l.length → nth nc (i + k) = true) → hits nc w l i = hits nc w' l i
  | [], i, _ => rfl
  | p :: r, i, h => by
    have ih := hits_yes (w := w) (w' := w') hw (l := r) (i := i + 1) fun k hk => by rw [show i + 1 + k = i + (k + 1) by omega]; exact h (k + 1) (by simp; omega)
    have h0 := h 0 (by simp)
    rw [Nat.add_zero] at h0
    simp only [hits, h0, hitB, if_true, hw, ih]

theorem hitsTo_yes {nc : List Bool} {s s' : Txt} {l : List Txt} (hs : fold s = fold s') (hn : ∀ k, k < l.length → nth nc k = true) : ∀ {n : Nat}, hitsTo nc s l n = hitsTo nc s' l n
  | 0 => rfl
  | n + 1 => by
    rw [hitsTo_succ, hitsTo_succ, hitsTo_yes hs hn, hits_yes (w := s.take (n + 1)) (w' := s'.take (n + 1)) (by rw [fold_takeS, fold_takeS, hs]) (fun k hk => by rw [Nat.zero_add]; exact hn k hk)]

def plainB (s : Txt) (l : List Txt) (p : Int × Int) : Bool := decide (txt l p.1.toNat <:+ s.take p.2.toNat)

theorem hits_plain {nc : List Bool} {w : Txt} {L : List Txt} : ∀ {l : List Txt} {i : Nat}, (∀ k, k < l.length → txt L (i + k) = txt l k) → (∀ k, k < l.length → nth nc (i + k) = true) →
    (hits nc w l i).filter (fun z => decide (txt L z.toNat <:+ w)) = hits [] w l i
  | [], i, _, _ => by simp [hits]
  | p :: r, i, h, hn => by
    have ih := hits_plain (nc := nc) (w := w) (L := L) (l := r) (i := i + 1) (fun k hk => by
      have := h (k + 1) (by simp; omega)
      rw [show i + 1 + k = i + (k + 1) by omega, this]
      simp [txt]) (fun k hk => by rw [show i + 1 + k = i + (k + 1) by omega]; exact hn (k + 1) (by simp; omega))
    have hp : txt L i = p := by have := h 0 (by simp); simpa [txt] using this
    have h0 := hn 0 (by simp)
    rw [Nat.add_zero] at h0
    have hnil : nth [] i = false := rfl
    simp only [hits, h0, hnil, hitB, if_true]
    by_cases h1 : fold p <:+ fold w
    · rw [if_pos (by simpa using h1), List.filter_cons]
      simp only [Int.toNat_natCast, hp, ih]
      simp
    · have h2 : ¬ (p <:+ w) := fun h => h1 (fold_suffix h)
      rw [if_neg (by simpa using h1), ih, if_neg (by simpa using h2)]

theorem hitsTo_plain {nc : List Bool} {s : Txt} {l : List Txt} (hn : ∀ k, k < l.length → nth nc k = true) : ∀ {n : Nat}, (hitsTo nc s l n).filter (plainB s l) = hitsTo [] s l n
  | 0 => rfl
  | n + 1 => by
    rw [hitsTo_succ, hitsTo_succ, List.filter_append, hitsTo_plain hn]
    congr 1
    rw [← hits_plain (nc := nc) (w := s.take (n + 1)) (L := l) (l := l) (i := 0) (fun k _ => by rw [Nat.zero_add]) (fun k hk => by rw [Nat.zero_add]; exact hn k hk)]
    simp only [mk64, List.filter_map]
    congr 1

theorem hits_bound {nc : List Bool} {w : Txt} : ∀ {l : List Txt} {i : Nat} {z : Int}, z ∈ hits nc w l i → ∃ k, k < l.length ∧ z = ((i + k : Nat) : Int) ∧ fold (txt l k) <:+ fold w
  | [], i, z, h => by simp [hits] at h
  | p :: r, i, z, h => by
    have key : z ∈ hits nc w r (i + 1) → ∃ k, k < (p :: r).length ∧ z = ((i + k : Nat) : Int) ∧ fold (txt (p :: r) k) <:+ fold w := fun h => by
      obtain ⟨k, h1, h2, h3⟩ := hits_bound h
      exact ⟨k + 1, by simp; omega, by rw [h2]; congr 1; omega, by simpa [txt] using h3⟩
    simp only [hits] at h
    split at h
    · rename_i hp
      rcases List.mem_cons.1 h with rfl | h
      · exact ⟨0, by simp, by simp, by simpa [txt] using hitB_fold hp⟩
      · exact key h
    · exact key h

theorem hitsTo_bound {nc : List Bool} {s : Txt} {l : List Txt} : ∀ {n : Nat}, n ≤ s.length → ∀ x ∈ hitsTo nc s l n, ∃ z m : Nat, x = ((z : Int), (m : Int)) ∧ z < l.length ∧ (txt l z).length ≤ m ∧ m ≤ s.length
  | 0, _, x, h => by simp [hitsTo] at h
  | n + 1, hn, x, h => by
    rw [hitsTo_succ] at h
    rcases List.mem_append.1 h with h | h
    · exact hitsTo_bound (by omega) x h
    · simp only [mk64, List.mem_map] at h
      obtain ⟨y, hy, rfl⟩ := h
      obtain ⟨k, h1, h2, h3⟩ := hits_bound hy
      rw [Nat.zero_add] at h2
      refine ⟨k, n + 1, by rw [h2], h1, ?_, hn⟩
      have := h3.length_le
      simp only [fold_len, List.length_take] at this
      omega

/-! ### great letters -/

def upTo (s : Txt) (i : Nat) : Txt := (s.take i).map upB ++ s.drop i
theorem upTo_len {s : Txt} {i : Nat} : (upTo s i).length = s.length := by simp [upTo]; omega
theorem upTo_at {s : Txt} {i : Nat} (h : i < s.length) : (upTo s i)[i]? = some s[i] := by
  unfold upTo
  rw [List.getElem?_append_right (by simp; omega)]
  simp
  rw [Nat.min_eq_left (by omega)]
  simp [List.getElem?_eq_getElem h]
theorem upTo_step {s : Txt} {i : Nat} (h : i < s.length) : upTo s (i + 1) = (upTo s i).set i (upB s[i]) := by
  unfold upTo
  have hl : ((s.take i).map upB).length = i := by simp; omega
  rw [List.take_succ_eq_append_getElem h, List.map_append, List.set_append_right _ _ (by omega), hl, Nat.sub_self, List.drop_eq_getElem_cons h]
  simp only [List.map_cons, List.map_nil, List.append_assoc, List.singleton_append, List.set_cons_zero]
theorem upTo_same {s : Txt} {i : Nat} (h : i < s.length) (hb : upB s[i] = s[i]) : upTo s (i + 1) = upTo s i := by
  rw [upTo_step h, hb]
  apply List.ext_getElem?
  intro j
  by_cases hj : j = i
  · subst hj
    rw [List.getElem?_set_self (by rw [upTo_len]; exact h), upTo_at h]
  · rw [List.getElem?_set_ne (Ne.symm hj)]

section
variable {pv yv : AV} {s : Txt}

abbrev uenv (pv yv : AV) (s : Txt) (ub i : Nat) : Env := [(7, pv), (8, yv), (11, .str s), (12, byteSl ub s.length), (13, .int .i64 i)]

def Up17 (h₀ : Heap) (pv yv : AV) (s : Txt) (ub : Nat) (m : Nat) (σ : St) : Prop :=
  ∃ i h, m = s.length - i ∧ i ≤ s.length ∧ σ = ⟨uenv pv yv s ub i, h⟩ ∧ h[ub]? = some (.cells (byteCells (upTo s i)) 5 true) ∧ Only (fun c => c = ub) h₀ h

theorem up_loop {h₀ : Heap} {ub : Nat} (hs : s.length ≤ 1000) (hb : h₀[ub]? = some (.cells (byteCells s) 5 true)) {Q : AExit → St → Prop}
    (hq : ∀ h, h[ub]? = some (.cells (byteCells (ups s)) 5 true) → Only (fun c => c = ub) h₀ h → Q (.exit 2) ⟨uenv pv yv s ub s.length ++ [(63, .bool false)], h⟩) :
    Wt Try.prog F17 (.loop c17_l13 (some [7, 8, 11, 12, 13])) ⟨uenv pv yv s ub 0, h₀⟩ Q := by
  refine Wt.loop (Up17 h₀ pv yv s ub) (m := s.length) ⟨0, h₀, rfl, Nat.zero_le _, rfl, by simpa [upTo] using hb, .refl⟩ ?_
  rintro m σ ⟨i, h, rfl, hi, rfl, g, ho⟩
  have hcut : cut (some [7, 8, 11, 12, 13]) (uenv pv yv s ub i) = uenv pv yv s ub i := by simp
  simp only [hcut]
  have hbl : (byteCells (upTo s i)).length = s.length := by rw [byteCells_len, upTo_len]
  by_cases his : i < s.length
  · have his' : (i : Int) < s.length := by omega
    have hwr : IntKind.wrap .i64 ((i : Int) + 1) = i + 1 := wrap_i64 (by omega) (by omega)
    have hcell : (byteCells (upTo s i))[i]? = some (.int .u8 s[i].toNat) := by
      simp only [byteCells, List.getElem?_map, upTo_at his]; rfl
    have q1 := cell_load g hbl (t := 5) (by simp) hcell
    have hu := s[i].toNat_lt
    have hlt := lt_of_at g
    by_cases hc : 97 ≤ s[i].toNat ∧ s[i].toNat ≤ 122
    · have h1 : (97 : Int) ≤ s[i].toNat := by omega
      have h2 : (s[i].toNat : Int) ≤ 122 := by omega
      have hup : upB s[i] = UInt8.ofNat (s[i].toNat - 32) := by simp only [upB, if_pos hc]
      have hw : IntKind.wrap .u8 ((s[i].toNat : Int) - 32) = ((upB s[i]).toNat : Int) := by
        rw [wrap_u8 (by omega) (by omega), hup]
        simp
        omega
      have q2 := cell_store g hbl (t := 5) (by simp) (v := .int .u8 (upB s[i]).toNat) rfl (off := i) (by omega)
      rw [byteCells_set, ← upTo_step his] at q2
      obtain ⟨h', hh'⟩ : ∃ h', h.set ub (.cells (byteCells (upTo s (i + 1))) 5 true) = h' := ⟨_, rfl⟩
      have hnext : Up17 h₀ pv yv s ub (s.length - (i + 1)) ⟨uenv pv yv s ub (i + 1), h'⟩ := ⟨i + 1, h', rfl, his, rfl, by rw [← hh', List.getElem?_set_self hlt], by rw [← hh']; exact ho.trans (.set rfl)⟩
      simp only [uenv, byteSl] at hnext
      simp [c17_l13, c17_r13, c17_r14, c17_r15, c17_r16, len1, alen, his, his', aindexAddr, q1, hc.1, hc.2, h1, h2, hw, q2, hh', hwr]
      exact ⟨s.length - (i + 1), by omega, by simpa using hnext⟩
    · have hup : upB s[i] = s[i] := by simp only [upB, if_neg hc]
      have hsame := upTo_same his hup
      have hnext : Up17 h₀ pv yv s ub (s.length - (i + 1)) ⟨uenv pv yv s ub (i + 1), h⟩ := ⟨i + 1, h, rfl, his, rfl, by rw [hsame]; exact g, ho⟩
      simp only [uenv, byteSl] at hnext
      by_cases h97 : 97 ≤ s[i].toNat
      · have h1 : (97 : Int) ≤ s[i].toNat := by omega
        have h2 : ¬ (s[i].toNat ≤ 122) := fun h => hc ⟨h97, h⟩
        have h2' : ¬ ((s[i].toNat : Int) ≤ 122) := by omega
        simp [c17_l13, c17_r13, c17_r14, c17_r15, len1, alen, his, his', aindexAddr, q1, h97, h1, h2, h2', hwr]
        exact ⟨s.length - (i + 1), by omega, by simpa using hnext⟩
      · have h1 : ¬ ((97 : Int) ≤ s[i].toNat) := by omega
        simp [c17_l13, c17_r13, c17_r14, c17_r15, len1, alen, his, his', aindexAddr, q1, h97, h1, hwr]
        exact ⟨s.length - (i + 1), by omega, by simpa using hnext⟩
  · have : i = s.length := by omega
    subst this
    have hfull : upTo s s.length = ups s := by simp [upTo, ups]
    rw [hfull] at g
    have := hq h g ho
    simp only [uenv, byteSl] at this
    simp [c17_l13, c17_r13, len1, alen]
    simpa using this
end

/-! ### the patterns -/

structure PyH (h₀ : Heap) (ps : List Txt) (b1 b2 : Nat) (h : Heap) : Prop where
  one : ps.length ≠ 0 → h[b1]? = some (.cells (strCells ps) 9 true) ∧ h₀.length ≤ b1
  two : ps.length ≠ 0 → h[b2]? = some (.cells (boolCells (List.replicate ps.length true)) 4 true) ∧ h₀.length ≤ b2
  ne : ps.length ≠ 0 → b1 ≠ b2
  only : Only (fun _ => False) h₀ h

def yesSl (b n : Nat) : AV := bufSl b n (boolCells (List.replicate n true))

abbrev penv (v w : AV) (n : Int) (pv yv : AV) (i : Nat) : Env := [(0, v), (1, w), (2, .int .i64 n), (7, pv), (8, yv), (9, .int .i64 i)]

def Pt17 (h₀ : Heap) (v w : AV) (n : Int) (len : Nat) (m : Nat) (σ : St) : Prop :=
  ∃ i ps b1 b2 h, m = len - i ∧ i ≤ len ∧ ps.length = i ∧ (∀ p ∈ ps, p.length ≤ 3) ∧ σ = ⟨penv v w n (txtSl b1 ps) (yesSl b2 i) i, h⟩ ∧ PyH h₀ ps b1 b2 h

theorem pats17 {h₀ : Heap} {v w : AV} {n : Int} {l : List Int} (hv : Sl1 h₀ v (intCells l)) (hl : l.length ≤ 8) {Q : AExit → St → Prop}
    (hq : ∀ ps b1 b2 h, ps.length = l.length → (∀ p ∈ ps, p.length ≤ 3) → PyH h₀ ps b1 b2 h → Q (.exit 0) ⟨penv v w n (txtSl b1 ps) (yesSl b2 l.length) l.length ++ [(32, .bool false)], h⟩) :
    Wt Try.prog F17 (.loop c17_l6 (some [0, 1, 2, 7, 8, 9])) ⟨penv v w n (.sl none 0 0) (.sl none 0 0) 0, h₀⟩ Q := by
  refine Wt.loop (Pt17 h₀ v w n l.length) (m := l.length) ⟨0, [], 0, 0, h₀, rfl, Nat.zero_le _, rfl, by simp, rfl, ⟨fun h => absurd rfl h, fun h => absurd rfl h, fun h => absurd rfl h, .refl⟩⟩ ?_
  rintro m σ ⟨i, ps, b1, b2, h, rfl, hi, hpi, hp3, rfl, H⟩
  have hcut : cut (some [0, 1, 2, 7, 8, 9]) (penv v w n (txtSl b1 ps) (yesSl b2 i) i) = penv v w n (txtSl b1 ps) (yesSl b2 i) i := by simp
  simp only [hcut]
  have hlen := fun L => hv.len (t := 30) (e := 3) (by simp) (L := L)
  simp only [intCells_len] at hlen
  by_cases hil : i < l.length
  · have hil' : (i : Int) < l.length := by omega
    have hwr : IntKind.wrap .i64 ((i : Int) + 1) = i + 1 := wrap_i64 (by omega) (by omega)
    have a1 := hv.at (t := 30) (e := 3) (by simp) (by simp) (i := i) (by rw [intCells_len]; exact hil)
    have c1 := (hv.same H.only).load (e := 3) (by simp) (i := i) (by rw [intCells_len]; exact hil)
    rw [intCells_get] at c1
    have p1 := place_run (h := h) (v := l[i]) (n := 1048576) (by decide) (by decide)
    obtain ⟨V, hV⟩ : ∃ V : Nat, l[i] % 1048576 = V := ⟨(l[i] % 1048576).toNat, by omega⟩
    rw [hV] at p1
    obtain ⟨q, hqv⟩ : ∃ q : Int, IntKind.wrap .i64 ((V : Int).tdiv 5) = q := ⟨_, rfl⟩
    have hquo : ∀ k, abin k .quo (.int .i64 (V : Int)) (.int .i64 5) = some (.int .i64 q) := fun k => by rw [abin_quo (by decide), hqv]
    obtain ⟨N, hN⟩ : ∃ N : Nat, N = V % 3 := ⟨_, rfl⟩
    have hrem : ∀ k, abin k .rem (.int .i64 (V : Int)) (.int .i64 3) = some (.int .i64 (N : Int)) := fun k => by rw [abin_rem (by decide), hN]; exact congrArg (fun z => some (AV.int .i64 z)) (tmod_nat' (b := 3))
    obtain ⟨M, hM⟩ : ∃ M : Nat, M = 1 + N := ⟨_, rfl⟩
    have hw1 : IntKind.wrap .i64 (1 + (N : Int)) = M := by rw [wrap_i64 (by omega) (by omega)]; omega
    have hv1 : Sl1 (h ++ [.cells (intCells [(V : Int), q]) 3 true]) (.sl (some ⟨h.length, 0, 2⟩) 2 2) (intCells [(V : Int), q]) := Sl1.cells (b := h.length) (e := 3) (s := true) (xs := intCells [(V : Int), q]) (by simp)
    obtain ⟨p, h2, e2, hpl, o2⟩ := letters hv1 (n := M) (by omega) (by simp)
    have e2' : D cfg 50 [.sl (some ⟨h.length, 0, 2⟩) 2 2, .int .i64 M] (h ++ [.cells [.int .i64 V, .int .i64 q] 3 true]) = some (.str p, h2) := e2
    have o02 : Only (fun _ => False) h h2 := Only.app.trans o2
    have hps : PatH h₀ ps b1 h2 := ⟨fun hne => ⟨o02.at (H.one hne).1 id, (H.one hne).2⟩, H.only.trans o02⟩
    obtain ⟨δ3, h3, e3, e4, k3, o3⟩ := append_txt (h := h2) (b := b1) (l := ps) (p := p) (fun hne => (hps.at_ hne).1) (by omega)
    have hy3 : i ≠ 0 → h3[b2]? = some (.cells (boolCells (List.replicate i true)) 4 true) := fun hne => by
      have hne' : ps.length ≠ 0 := by omega
      obtain ⟨j1, j2⟩ := H.two hne'
      rw [hpi] at j1
      exact o3.at (o02.at j1 id) fun e => H.ne hne' (e.1.symm)
    obtain ⟨δ5, h5, e5, e6, k5, o5⟩ := append_buf (t := 68) (e := 4) (k := 1) (by simp) (by simp) (by decide) (by simp) (by simp) (h := h3) (b := b2) (n := i) (xs := boolCells (List.replicate i true)) (ys := [.bool true]) (by simp) (by simp [boolCells]) hy3 (by omega)
    have hbc : boolCells (List.replicate i true) ++ [AV.bool true] = boolCells (List.replicate (i + 1) true) := by simp [boolCells, List.replicate_succ']
    rw [hbc] at e5 k5
    have hlen2 := o02.1
    have hlen3 := o3.1
    have hH := H.only.1
    obtain ⟨c1', hc1'⟩ : ∃ c, (if ps.length = 0 then h2.length + 1 else b1) = c := ⟨_, rfl⟩
    obtain ⟨c2', hc2'⟩ : ∃ c, (if i = 0 then h3.length + 1 else b2) = c := ⟨_, rfl⟩
    rw [hc1'] at e3 k3
    rw [hc2'] at e5 k5
    have hc1lt := lt_of_at k3
    have hne12 : c1' ≠ c2' := by
      rw [← hc2']
      split
      · omega
      · rename_i hi0
        rw [← hc1', if_neg (by omega)]
        exact H.ne (by omega)
    have hfin : PyH h₀ (ps ++ [p]) c1' c2' h5 := by
      refine ⟨fun _ => ⟨?_, ?_⟩, fun _ => ⟨?_, ?_⟩, fun _ => hne12, ?_⟩
      · refine o5.at k3 fun e => ?_
        have he := e.2
        rw [if_neg he] at hc2'
        exact hne12 (by rw [e.1, ← hc2'])
      · rw [← hc1']; split
        · omega
        · rename_i hne; exact (H.one hne).2
      · simpa [hpi] using k5
      · rw [← hc2']; split
        · omega
        · rename_i hne; exact (H.two (by omega)).2
      · have q3 : Only (fun _ => False) h₀ h3 := hps.only.fresh o3 fun c hc => by rw [hc.1]; exact (H.one hc.2).2
        exact q3.fresh o5 fun c hc => by rw [hc.1]; exact (H.two (by have := hc.2; omega)).2
    have hnext : Pt17 h₀ v w n l.length (l.length - (i + 1)) ⟨penv v w n (txtSl c1' (ps ++ [p])) (yesSl c2' (i + 1)) (i + 1), h5⟩ := ⟨i + 1, ps ++ [p], c1', c2', h5, rfl, hil, by simp [hpi], fun x hx => by
      rcases List.mem_append.1 hx with hx | hx
      · exact hp3 x hx
      · simp at hx; subst hx; omega, rfl, hfin⟩
    simp only [penv, yesSl] at hnext
    simp only [yesSl]
    simp [c17_l6, c17_r6, c17_r7, c17_r8, c17_r9, len1, hlen, hil, hil', a1, c1, F17_D, p1, hquo, hrem, hw1, abuildSlice, afill, zeros, e2', e3, e4, e5, e6, hwr]
    exact ⟨l.length - (i + 1), by omega, by simpa using hnext⟩
  · have : i = l.length := by omega
    subst this
    have := hq ps b1 b2 h hpi hp3 H
    simp only [penv] at this
    simp [c17_l6, c17_r6, len1, hlen]
    simpa using this

/-! ### comparing -/

theorem filter_at {A : List (Int × Int)} {c : Int × Int → Bool} {i : Nat} {x : Int × Int} (hx : A[i]? = some x) (hc : c x = true) : (A.filter c)[((A.take i).filter c).length]? = some x := by
  have hi := (List.getElem?_eq_some_iff.1 hx).1
  have he : A[i] = x := (List.getElem?_eq_some_iff.1 hx).2
  have h1 : A = A.take i ++ x :: A.drop (i + 1) := by
    rw [← he, ← List.drop_eq_getElem_cons hi, List.take_append_drop]
  have h2 : A.filter c = (A.take i).filter c ++ x :: (A.drop (i + 1)).filter c := by
    conv => lhs; rw [h1]
    rw [List.filter_append, List.filter_cons, if_pos hc]
  rw [h2, List.getElem?_append_right (Nat.le_refl _), Nat.sub_self]
  rfl

theorem filter_step {A : List (Int × Int)} {c : Int × Int → Bool} {i : Nat} (hi : i < A.length) : ((A.take (i + 1)).filter c).length = if c A[i] then ((A.take i).filter c).length + 1 else ((A.take i).filter c).length := by
  rw [List.take_succ_eq_append_getElem hi, List.filter_append]
  by_cases h : c A[i] <;> simp [h]

abbrev kenv (pv : AV) (s : Txt) (av bv cv : AV) (at_ i : Nat) : Env := [(7, pv), (11, .str s), (14, av), (15, bv), (16, cv), (17, .int .i64 at_), (18, .int .i64 i)]

def Cm17 (h : Heap) (pv : AV) (s : Txt) (av bv cv : AV) (A : List (Int × Int)) (c : Int × Int → Bool) (m : Nat) (σ : St) : Prop :=
  ∃ i, m = A.length - i ∧ i ≤ A.length ∧ σ = ⟨kenv pv s av bv cv ((A.take i).filter c).length i, h⟩

theorem cmp17 {h : Heap} {pv : AV} {s : Txt} {ps : List Txt} {A : List (Int × Int)} {ba bb bc : Nat} (hp : Sl1 h pv (strCells ps)) (hpl : ps.length ≤ 8) (hs : s.length ≤ 1000) (hA : A.length ≤ 100000) (hab : ∀ x ∈ A, ∃ z m : Nat, x = ((z : Int), (m : Int)) ∧ z < ps.length ∧ (txt ps z).length ≤ m ∧ m ≤ s.length)
    (h1 : A.length ≠ 0 → h[ba]? = some (.cells (hitCells A) 75 true)) (h2 : A.length ≠ 0 → h[bb]? = some (.cells (hitCells A) 75 true)) (h3 : (A.filter (plainB s ps)).length ≠ 0 → h[bc]? = some (.cells (hitCells (A.filter (plainB s ps))) 75 true)) {Q : AExit → St → Prop}
    (hq : Q (.exit 4) ⟨kenv pv s (hitSl ba A) (hitSl bb A) (hitSl bc (A.filter (plainB s ps))) (A.filter (plainB s ps)).length A.length ++ [(113, .bool false)], h⟩) :
    Wt Try.prog F17 (.loop c17_l22 (some [7, 11, 14, 15, 16, 17, 18])) ⟨kenv pv s (hitSl ba A) (hitSl bb A) (hitSl bc (A.filter (plainB s ps))) 0 0, h⟩ Q := by
  obtain ⟨c, hc⟩ : ∃ c, plainB s ps = c := ⟨_, rfl⟩
  rw [hc] at h3 hq ⊢
  refine Wt.loop (Cm17 h pv s (hitSl ba A) (hitSl bb A) (hitSl bc (A.filter c)) A c) (m := A.length) ⟨0, rfl, Nat.zero_le _, rfl⟩ ?_
  rintro m σ ⟨i, rfl, hi, rfl⟩
  obtain ⟨a, ha⟩ : ∃ a, ((A.take i).filter c).length = a := ⟨_, rfl⟩
  rw [ha]
  have hcut : cut (some [7, 11, 14, 15, 16, 17, 18]) (kenv pv s (hitSl ba A) (hitSl bb A) (hitSl bc (A.filter c)) a i) = kenv pv s (hitSl ba A) (hitSl bb A) (hitSl bc (A.filter c)) a i := by simp
  simp only [hcut]
  have hplen := fun L => hp.len (t := 38) (e := 9) (by simp) (L := L)
  simp only [strCells_len] at hplen
  have hale : a ≤ A.length := by rw [← ha]; exact Nat.le_trans (List.length_filter_le _ _) (by simp; omega)
  by_cases hiA : i < A.length
  · have hiA' : (i : Int) < A.length := by omega
    have hwr : IntKind.wrap .i64 ((i : Int) + 1) = i + 1 := wrap_i64 (by omega) (by omega)
    have hwr2 : IntKind.wrap .i64 ((a : Int) + 1) = a + 1 := wrap_i64 (by omega) (by omega)
    obtain ⟨z, k, hx, hz, hzk, hks⟩ := hab A[i] (List.getElem_mem hiA)
    have hAi : A[i]? = some ((z : Int), (k : Int)) := by rw [List.getElem?_eq_getElem hiA, hx]
    have a1 := hit_addr (b := ba) hiA
    obtain ⟨l0, l1⟩ := hit_load h1 hAi
    have a2 := hit_addr (b := bb) hiA
    obtain ⟨m0, m1⟩ := hit_load h2 hAi
    have hz' : (z : Int) < ps.length := by omega
    have hnz : ¬ (ps.length ≤ z) := by omega
    have hz0 : ¬ ((z : Int) < 0) := by omega
    have a3 := hp.at (t := 38) (e := 9) (by simp) (by simp) (i := z) (by rw [strCells_len]; exact hz)
    have b3 := hp.load (e := 9) (by simp) (i := z) (by rw [strCells_len]; exact hz)
    rw [strCells_get, txt_eq] at b3
    obtain ⟨p, hpz⟩ : ∃ p, txt ps z = p := ⟨_, rfl⟩
    rw [hpz] at b3 hzk
    have hn1 : ¬ (k < p.length) := by omega
    have hn2 : ¬ (s.length < k) := by omega
    obtain ⟨d, hd⟩ : ∃ d : Nat, k - p.length = d := ⟨_, rfl⟩
    have hwd : IntKind.wrap .i64 ((k : Int) - p.length) = d := by rw [wrap_i64 (by omega) (by omega)]; omega
    have hks' : (k : Int) ≤ s.length := by omega
    have hdk : d ≤ k := by omega
    have hkd : k - d = p.length := by omega
    have hcx : c A[i] = decide (List.take p.length (List.drop d s) = p) := by
      rw [hx, ← hc]
      simp only [plainB, Int.toNat_natCast, hpz]
      rw [← hd]
      have := suffix_take (p := p) hks
      rw [decide_eq_decide, this]
      exact ⟨fun h => h.2, fun h => ⟨hzk, h⟩⟩
    have hstep := filter_step (c := c) hiA
    rw [ha] at hstep
    by_cases he : List.take p.length (List.drop d s) = p
    · have hct : c A[i] = true := by rw [hcx]; simpa using he
      rw [if_pos hct] at hstep
      have hCa : (A.filter c)[a]? = some ((z : Int), (k : Int)) := by
        rw [← ha]
        refine filter_at hAi ?_
        rw [← hx]; exact hct
      have haC := (List.getElem?_eq_some_iff.1 hCa).1
      have a4 := hit_addr (b := bc) haC
      obtain ⟨n0, n1⟩ := hit_load h3 hCa
      have hnac : ¬ ((A.filter c).length ≤ a) := by omega
      have hnext : Cm17 h pv s (hitSl ba A) (hitSl bb A) (hitSl bc (A.filter c)) A c (A.length - (i + 1)) ⟨kenv pv s (hitSl ba A) (hitSl bb A) (hitSl bc (A.filter c)) (a + 1) (i + 1), h⟩ := ⟨i + 1, rfl, hiA, by rw [hstep]⟩
      simp only [kenv] at hnext
      simp [c17_l22, c17_r22, c17_r23, c17_r24, c17_r26, c17_r28, c17_r29, c17_r31, c17_r32, c17_r34, len1, hitSl_len, hplen, alen9, hiA, hiA', a1, a2, fieldA, l0, l1, m0, m1, hz0, hnz, a3, b3, hn1, hn2, hwd, aslice, bound, hks, hks', hdk, hkd, he, a4, n0, n1, hnac, hwr, hwr2]
      exact ⟨A.length - (i + 1), by omega, by simpa using hnext⟩
    · have hct : c A[i] = false := by rw [hcx]; simpa using he
      rw [hct] at hstep
      have hnext : Cm17 h pv s (hitSl ba A) (hitSl bb A) (hitSl bc (A.filter c)) A c (A.length - (i + 1)) ⟨kenv pv s (hitSl ba A) (hitSl bb A) (hitSl bc (A.filter c)) a (i + 1), h⟩ := ⟨i + 1, rfl, hiA, by rw [hstep]; rfl⟩
      simp only [kenv] at hnext
      simp [c17_l22, c17_r22, c17_r23, c17_r24, c17_r26, c17_r28, c17_r29, c17_r31, len1, hitSl_len, hplen, alen9, hiA, hiA', a1, a2, fieldA, l0, l1, m0, m1, hz0, hnz, a3, b3, hn1, hn2, hwd, aslice, bound, hks, hks', hdk, hkd, he, hwr]
      exact ⟨A.length - (i + 1), by omega, by simpa using hnext⟩
  · have : i = A.length := by omega
    subst this
    rw [List.take_length] at ha
    rw [ha] at hq
    simp only [kenv] at hq
    simp [c17_l22, c17_r22, len1, hitSl_len]
    simpa using hq

/-! ### the walk -/

theorem all_any {h : Heap} {v u : AV} {l : List Txt} {nc : List Bool} {t : Txt} (hv : Sl1 h v (strCells l)) (hu : Sl1 h u (boolCells nc)) (hl : l.length ≤ 8) (hp : ∀ p ∈ l, p.length ≤ 16) (hn : nc.length ≤ 1000000000) (ht : t.length ≤ 1000) :
    ∃ b h', D cfg 64 [v, u, .str t] h = some (hitSl b (if bgood l then hitsTo nc t l t.length else []), h') ∧ Only (fun _ => False) h h' ∧ ((if bgood l then hitsTo nc t l t.length else []).length ≠ 0 → h'[b]? = some (.cells (hitCells (if bgood l then hitsTo nc t l t.length else [])) 75 true)) := by
  cases hg : bgood l with
  | true =>
    have hm : t.length * l.length ≤ 1000 * 8 := Nat.mul_le_mul ht hl
    obtain ⟨b, h', e, o, d⟩ := scan_all (t := t) hv hu (by omega) hg hn (by omega) (by omega)
    exact ⟨b, h', e, o, d⟩
  | false =>
    obtain ⟨h', e, o⟩ := scan_all_bad (u := u) (t := t) hv (fun p h => by have := hp p h; omega) (by omega) hg
    exact ⟨0, h', e, o, fun h => absurd rfl h⟩

theorem folds_walk {h₀ : Heap} {v w : AV} {l ts : List Int} {n : Int} (hv : Sl1 h₀ v (intCells l)) (hw : Sl1 h₀ w (intCells ts)) :
    Wt Try.prog F17 c17 ⟨argsEnv 0 [v, w, .int .i64 n], h₀⟩ (Ends Try.prog [.tmp 6] fun r _ => r = .bool true) := by
  have lv := fun L => hv.len (t := 30) (e := 3) (by simp) (L := L)
  have lw := fun L => hw.len (t := 30) (e := 3) (by simp) (L := L)
  simp only [intCells_len] at lv lw
  by_cases h8 : 8 < l.length
  · have h8' : (8 : Int) < l.length := by omega
    simp [c17, c17_r0, c17_r1, c17_r2, F17_D, len1, lv, h8, h8', awake17]
  · have h8' : ¬ ((8 : Int) < l.length) := by omega
    by_cases h60 : 60 < ts.length
    · have h60' : (60 : Int) < ts.length := by omega
      simp [c17, c17_r0, c17_r1, c17_r2, F17_D, len1, lv, lw, h8, h8', h60, h60', awake17]
    · have h60' : ¬ ((60 : Int) < ts.length) := by omega
      have hpats := fun Q hq => pats17 (w := w) (n := n) (Q := Q) hv (by omega) hq
      simp only [penv] at hpats
      simp [c17, c17_r0, c17_r1, c17_r3, c17_r4, c17_r5, F17_D, len1, lv, lw, h8, h8', h60, h60']
      refine hpats _ fun ps b1 b2 h1 hpl hp3 H1 => ?_
      have p1 := place_run (h := h1) (v := n) (n := 40) (by decide) (by decide)
      obtain ⟨k, hk⟩ : ∃ k : Nat, n % 40 = k := ⟨(n % 40).toNat, by omega⟩
      rw [hk] at p1
      obtain ⟨s, h2, e2, hsl, o2⟩ := letters (hw.same H1.only) (n := k) (by omega) (by omega)
      have hs40 : s.length ≤ 40 := by omega
      obtain ⟨h3, hh3⟩ : ∃ h3, h2 ++ [AObj.cells (byteCells s) 5 true] = h3 := ⟨_, rfl⟩
      have g3 : h3[h2.length]? = some (.cells (byteCells s) 5 true) := by rw [← hh3]; simp
      have hup := fun Q hq => up_loop (pv := txtSl b1 ps) (yv := yesSl b2 l.length) (Q := Q) (by omega) g3 hq
      simp only [uenv, byteSl] at hup
      simp [c17_r10, c17_r11, c17_r12, F17_D, p1, e2, aconv, hh3]
      refine hup _ fun h4 g4 o4 => ?_
      have o03 : Only (fun _ => False) h1 h3 := by rw [← hh3]; exact o2.trans .app
      have o24 : Only (fun _ => False) h1 h4 := o03.fresh o4 fun c hc => by rw [hc]; exact o2.1
      have hP : Sl1 h4 (txtSl b1 ps) (strCells ps) := Sl1.txt (s := true) fun hne => o24.at (H1.one hne).1 id
      have hY : Sl1 h4 (yesSl b2 l.length) (boolCells (List.replicate l.length true)) := by
        have := Sl1.buf (h := h4) (b := b2) (e := 4) (s := true) (xs := boolCells (List.replicate l.length true)) (fun hne => by
          have hne' : ps.length ≠ 0 := by simp [boolCells] at hne; rw [hpl]; intro e; exact hne (List.length_eq_zero_iff.1 e)
          have := o24.at (H1.two hne').1 id
          rw [hpl] at this
          exact this)
        simpa [yesSl, boolCells] using this
      have hp16 : ∀ p ∈ ps, p.length ≤ 16 := fun p h => by have := hp3 p h; omega
      obtain ⟨ba, h5, e5, o5, d5⟩ := all_any (t := s) hP hY (by omega) hp16 (by simp; omega) (by omega)
      obtain ⟨bb, h6, e6, o6, d6⟩ := all_any (t := ups s) (hP.same o5) (hY.same o5) (by omega) hp16 (by simp; omega) (by rw [ups_len]; omega)
      have o56 := o5.trans o6
      obtain ⟨bc, h7, e7, o7, d7⟩ := all_any (nc := []) (u := .sl none 0 0) (t := s) (hP.same o56) .nil (by omega) hp16 (by simp) (by omega)
      have hn : ∀ k, k < ps.length → nth (List.replicate l.length true) k = true := fun k hk => by
        have : k < l.length := by omega
        simp [nth, this]
      rw [ups_len, hitsTo_yes (s := ups s) (s' := s) fold_ups hn] at e6 d6
      obtain ⟨A, hA⟩ : ∃ A, (if bgood ps then hitsTo (List.replicate l.length true) s ps s.length else []) = A := ⟨_, rfl⟩
      have hC : (if bgood ps then hitsTo [] s ps s.length else []) = A.filter (plainB s ps) := by
        rw [← hA]
        cases bgood ps with
        | true => simp only [if_true]; rw [hitsTo_plain hn]
        | false => rfl
      rw [hA] at e5 d5 e6 d6
      rw [hC] at e7 d7
      have hAl : A.length ≤ 400 := by
        rw [← hA]
        split
        · have := hitsTo_len (nc := List.replicate l.length true) (t := s) (l := ps) (n := s.length)
          have h2 : s.length * ps.length ≤ 40 * 8 := Nat.mul_le_mul hs40 (by omega)
          omega
        · simp
      have hAb : ∀ x ∈ A, ∃ z m : Nat, x = ((z : Int), (m : Int)) ∧ z < ps.length ∧ (txt ps z).length ≤ m ∧ m ≤ s.length := by
        rw [← hA]
        split
        · exact hitsTo_bound (Nat.le_refl _)
        · simp
      have hCl : (A.filter (plainB s ps)).length ≤ A.length := List.length_filter_le _ _
      have g5 : h5[h2.length]? = some (.cells (byteCells (ups s)) 5 true) := o5.at g4 id
      have hsame : sameAt h4 h5 h2.length = true := sameAt_of g4 g5 (by simp [AObj.beq, beqL_bytes])
      have ht : List.take s.length (byteCells (ups s)) = byteCells (ups s) := List.take_of_length_le (by rw [byteCells_len, ups_len]; omega)
      have hbl : (byteCells (ups s)).length = s.length := by rw [byteCells_len, ups_len]
      have hcnv : aconv Try.prog (look h5) h5.length 25 9 (.sl (some ⟨h2.length, 0, s.length⟩) s.length s.length) = some (.str (ups s), .no) := by
        simp [aconv, slCells, row, g5, hbl, ht, cellBytes_all]
      have hcmp := fun Q hq => cmp17 (Q := Q) (((hP.same o56).same o7)) (by omega) (by omega) (by omega) hAb (fun hne => o7.at (o6.at (d5 hne) id) id) (fun hne => o7.at (d6 hne) id) d7 hq
      simp only [kenv] at hcmp
      have hnn : ¬ (A.length < (A.filter (plainB s ps)).length) := by omega
      simp [c17_r17, c17_r18, c17_r20, c17_r21, F17_D, e5, hsame, hcnv, e6, e7, len1, hitSl_len, hnn]
      refine hcmp _ ?_
      simp [c17_r35, len1, hitSl_len, awake17]

end Go.AM
