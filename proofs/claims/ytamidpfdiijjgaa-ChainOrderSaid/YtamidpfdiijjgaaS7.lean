/-
  The chain's 'never', 'Holds', 'First'.
-/
import Derived.Test.YtamidpfdiijjgaaS6
namespace Go.AM
open Go Go.Proofs
set_option linter.unusedVariables false
set_option linter.unusedSimpArgs false
set_option maxRecDepth 100000

/-! ### never -/

def neverAt (s : Txt) (l : List Cont) (e : Nat) : Bool := l.any fun c => c.not && endsAt c s e
/-- The first place at which one with Not ends, below n. -/
def neverFrom (s : Txt) (l : List Cont) : Nat → Nat → Option Nat
  | _, 0 => none
  | e, n + 1 => if neverAt s l e then some e else neverFrom s l (e + 1) n
def neverC (l : List Cont) (s : Txt) : Option Nat := neverFrom s l 0 (s.length + 1)
/-- As a pair. -/
def optPair (x : Option Nat) : AV := .tup [.int .i64 ((x.getD 0 : Nat) : Int), .bool x.isSome]

abbrev env98 (v : AV) (bt : Nat) (e n : Nat) : Env := [(0, v), (6, .ptr (some ⟨bt, 0, 2⟩)), (16, .int .i64 n), (17, .int .i64 e)]
abbrev env98i (v : AV) (bt e n k i : Nat) : Env := [(0, v), (6, .ptr (some ⟨bt, 0, 2⟩)), (7, .int .i64 e), (16, .int .i64 n), (17, .int .i64 e), (20, v), (21, .int .i64 k), (22, .int .i64 i)]

def In98 (h₀ : Heap) (s : Txt) (l : List Cont) (v : AV) (bt e : Nat) (m : Nat) (st : St) : Prop :=
  ∃ i h, m = l.length - i ∧ i ≤ l.length ∧ neverAt s (l.take i) e = false ∧ st = ⟨env98i v bt e (s.length + 1) l.length i, h⟩ ∧ Only (fun _ => False) h₀ h

theorem never_inner {h₀ : Heap} {s : Txt} {l : List Cont} {v : AV} {bt e : Nat} (hv : SlC h₀ v l) (hsm : ∀ c ∈ l, c.small) (hsl : s.length ≤ 100000) (hll : l.length ≤ 1000) (he : e ≤ s.length) (hbt : h₀[bt]? = some (.cells [.str s, .str (fold s)] 122 false)) {R : AV → Heap → Prop} {Q : AExit → St → Prop}
    (hret : neverAt s l e = true → ∀ h, Only (fun _ => False) h₀ h → Q .ret ⟨[(4, .int .i64 e), (5, .bool true)], h⟩)
    (hq : neverAt s l e = false → ∀ h, Only (fun _ => False) h₀ h → Q (.exit 2) ⟨env98i v bt e (s.length + 1) l.length l.length ++ [(23, .bool false)], h⟩) :
    Wt Try.prog (D cfg) (.loop c98_l6 (some [0, 6, 7, 16, 17, 20, 21, 22])) ⟨env98i v bt e (s.length + 1) l.length 0, h₀⟩ Q := by
  refine Wt.loop (In98 h₀ s l v bt e) (m := l.length) ⟨0, h₀, rfl, Nat.zero_le _, rfl, rfl, .refl⟩ ?_
  rintro m st ⟨i, h, rfl, hi, hno, rfl, ho⟩
  have hcut : cut (some [0, 6, 7, 16, 17, 20, 21, 22]) (env98i v bt e (s.length + 1) l.length i) = env98i v bt e (s.length + 1) l.length i := by simp
  simp only [hcut]
  by_cases hil : i < l.length
  · obtain ⟨c, hc⟩ : ∃ c, c = l[i] := ⟨_, rfl⟩
    have hcs : c.small := hsm c (by rw [hc]; exact List.getElem_mem hil)
    have a1 := hv.at hil
    have b1 := (hv.same ho).load hil
    rw [← hc] at b1
    have hwr : IntKind.wrap .i64 ((i : Int) + 1) = i + 1 := wrap_i64 (by omega) (by omega)
    have hil' : (i : Int) < l.length := by omega
    obtain ⟨h1, hh1⟩ : ∃ h1, h1 = h ++ [.cells (contCell c) 52 false] := ⟨_, rfl⟩
    have hbc : h1[h.length]? = some (.cells (contCell c) 52 false) := by rw [hh1]; simp
    have o1 : Only (fun _ => False) h h1 := by rw [hh1]; exact .app
    have cl := contLoads hbc
    have t1 : aload Try.prog (look h1) 122 (.ptr (some ⟨bt, 0, 2⟩)) = some (.agg [.str s, .str (fold s)]) := by simp [aload, AM.row, (ho.trans o1).at hbt id]
    obtain ⟨h2, e2, o2⟩ := at_chain (h := h1) hcs (s := s) (e := e) (by omega) (by omega)
    have ho1 := ho.trans o1
    have ho2 := ho1.trans o2
    have hst : neverAt s (l.take (i + 1)) e = (c.not && endsAt c s e) := by
      simp only [neverAt] at hno ⊢
      rw [List.take_succ_eq_append_getElem hil, List.any_append, hno, ← hc]
      simp
    have hmem : (c.not && endsAt c s e) = true → neverAt s l e = true := fun hx => by
      simp only [neverAt, List.any_eq_true]
      exact ⟨c, by rw [hc]; exact List.getElem_mem hil, hx⟩
    have hnext : ∀ h3, Only (fun _ => False) h₀ h3 → (c.not && endsAt c s e) = false → In98 h₀ s l v bt e (l.length - (i + 1)) ⟨env98i v bt e (s.length + 1) l.length (i + 1), h3⟩ :=
      fun h3 o3 hx => ⟨i + 1, h3, rfl, hil, by rw [hst, hx], rfl, o3⟩
    cases hnot : c.not with
    | false =>
      have hn := hnext h1 ho1 (by simp [hnot])
      simp only [env98i] at hn
      simp [c98_l6, c98_r6, c98_r7, c98_r8, c98_r9, c98_r10, hil', hil, a1, b1, zeros, astore, splice, ← hh1, fieldA, cl, hnot, hwr]
      exact ⟨l.length - (i + 1), by omega, by simpa using hn⟩
    | true =>
      cases hat : endsAt c s e with
      | false =>
        rw [hat] at e2
        have hn := hnext h2 ho2 (by simp [hat])
        simp only [env98i] at hn
        simp [c98_l6, c98_r6, c98_r7, c98_r8, c98_r9, c98_r10, hil', hil, a1, b1, zeros, astore, splice, ← hh1, fieldA, cl, hnot, hwr, t1, e2]
        exact ⟨l.length - (i + 1), by omega, by simpa using hn⟩
      | true =>
        rw [hat] at e2
        have hn := hret (hmem (by simp [hnot, hat])) h2 ho2
        simp [c98_l6, c98_r6, c98_r7, c98_r8, c98_r9, c98_r10, hil', hil, a1, b1, zeros, astore, splice, ← hh1, fieldA, cl, hnot, hwr, t1, e2]
        simpa using hn
  · have : i = l.length := by omega
    subst this
    rw [List.take_length] at hno
    have hn := hq hno h ho
    simp only [env98i] at hn
    simp [c98_l6, c98_r6]
    simpa using hn

theorem neverFrom_add {s : Txt} {l : List Cont} : ∀ {e n : Nat}, neverAt s l e = false → neverFrom s l e (n + 1) = neverFrom s l (e + 1) n := by
  intro e n h
  simp only [neverFrom, h]
  simp

def Out98 (h₀ : Heap) (s : Txt) (l : List Cont) (v : AV) (bt : Nat) (m : Nat) (st : St) : Prop :=
  ∃ e h, m = s.length + 1 - e ∧ e ≤ s.length + 1 ∧ neverC l s = neverFrom s l e (s.length + 1 - e) ∧ st = ⟨env98 v bt e (s.length + 1), h⟩ ∧ Only (fun _ => False) h₀ h

theorem never_chain {h : Heap} {s : Txt} {l : List Cont} {v : AV} (hv : SlC h v l) (hsm : ∀ c ∈ l, c.small) (hsl : s.length ≤ 100000) (hll : l.length ≤ 1000) :
    ∃ h', D cfg 98 [v, .str s] h = some (optPair (neverC l s), h') ∧ Only (fun _ => False) h h' := by
  have key : ∃ r h', D cfg 98 [v, .str s] h = some (r, h') ∧ (r = optPair (neverC l s) ∧ Only (fun _ => False) h h') := by
    refine call98 (R := fun r h' => r = optPair (neverC l s) ∧ Only (fun _ => False) h h') (args := [v, .str s]) (h := h) (by simp) ?_
    obtain ⟨h1, e1, o1⟩ := fold_auto (h := h) (s := s) (by omega)
    obtain ⟨h2, hh2⟩ : ∃ h2, h2 = h1 ++ [.cells [.str s, .str (fold s)] 122 false] := ⟨_, rfl⟩
    have hbt : h2[h1.length]? = some (.cells [.str s, .str (fold s)] 122 false) := by rw [hh2]; simp
    have o2 : Only (fun _ => False) h h2 := by rw [hh2]; exact o1.trans .app
    have hlen := fun L => hv.len (L := L)
    have hwl : IntKind.wrap .i64 ((s.length : Int) + 1) = s.length + 1 := wrap_i64 (by omega) (by omega)
    simp [c98, c98_r0, c98_r1, c98_r2, e1, abuild, afill, zeros, astore, splice, len1, alenS, ← hh2, hwl]
    refine Wt.loop (Out98 h2 s l v h1.length) (m := s.length + 1) ⟨0, h2, rfl, Nat.zero_le _, rfl, rfl, .refl⟩ ?_
    rintro m st ⟨e, h3, rfl, he, hne, rfl, ho⟩
    have hcut : cut (some [0, 6, 16, 17]) (env98 v h1.length e (s.length + 1)) = env98 v h1.length e (s.length + 1) := by simp
    simp only [hcut]
    by_cases hes : e < s.length + 1
    · have hes' : (e : Int) < s.length + 1 := by omega
      have hwr : IntKind.wrap .i64 ((e : Int) + 1) = e + 1 := wrap_i64 (by omega) (by omega)
      obtain ⟨n, hn⟩ : ∃ n, s.length + 1 - e = n + 1 := ⟨s.length - e, by omega⟩
      have hin := fun Q hr hq => never_inner (Q := Q) (R := fun _ _ => True) (bt := h1.length) (e := e) ((hv.same o2).same ho) hsm hsl hll (by omega) (ho.at hbt id) hr hq
      simp only [env98i] at hin
      simp at hin
      simp [c98_l3, c98_r3, c98_r4, c98_r5, hes', len1, hlen]
      refine hin _ (fun hy h4 o4 => ?_) (fun hno h4 o4 => ?_)
      · have hval : neverC l s = some e := by rw [hne, hn]; simp only [neverFrom, hy]; rfl
        simp [hval, optPair]
        exact (o2.trans ho).trans o4
      · have hval : neverC l s = neverFrom s l (e + 1) (s.length + 1 - (e + 1)) := by rw [hne, hn, neverFrom_add hno]; congr 1; omega
        have hnext : Out98 h2 s l v h1.length (s.length + 1 - (e + 1)) ⟨env98 v h1.length (e + 1) (s.length + 1), h4⟩ := ⟨e + 1, h4, rfl, hes, hval, rfl, ho.trans o4⟩
        simp only [env98] at hnext
        simp [c98_r11, hwr]
        exact ⟨s.length + 1 - (e + 1), by omega, by simpa using hnext⟩
    · have : e = s.length + 1 := by omega
      subst this
      have hval : neverC l s = none := by rw [hne, Nat.sub_self]; rfl
      simp [c98_l3, c98_r3, c98_r12, hval, optPair]
      exact o2.trans ho
  obtain ⟨r, h', h1, rfl, h2⟩ := key
  exact ⟨h', h1, h2⟩

end Go.AM
