/-
  Stepping through an automaton; the closed example.
-/
import Derived.Test.YtamidpfdiijjgaaA7
import Derived.Test.YtamidpfdiijjgaaS2
namespace Go.AM
open Go Go.Proofs
set_option linter.unusedVariables false
set_option linter.unusedSimpArgs false
set_option maxRecDepth 100000

section
variable {h : Heap} {B : AB} {X ps : List Txt} {tab : Nat → Nat → Nat} {fl ob : Nat → Nat} {ou : Nat → List Int}

theorem AutoX.mem0 (H : AutoX h B X ps tab fl ob ou) : [] ∈ X := List.mem_of_getElem? H.zero
theorem AutoX.lmem (H : AutoX h B X ps tab fl ob ou) {w : Txt} : lsuf X w ∈ X := lsuf_mem H.mem0
theorem AutoX.lt (H : AutoX h B X ps tab fl ob ou) {w : Txt} : st X (lsuf X w) < X.length := st_lt H.lmem
theorem AutoX.nil (H : AutoX h B X ps tab fl ob ou) : st X (lsuf X []) = 0 := st_nil H.nodup H.zero

theorem AutoX.keep {h' : Heap} {fp : Nat → Prop} (H : AutoX h B X ps tab fl ob ou) (ho : Only fp h h') (hf : ∀ c, B.foot X.length ob ou c → ¬ fp c) : AutoX h' B X ps tab fl ob ou :=
  ⟨H.at_.keep ho hf, H.nodup, H.zero, H.pre, H.sub, H.tab_, H.fl_, H.ou_⟩
theorem AutoX.same {h' : Heap} (H : AutoX h B X ps tab fl ob ou) (ho : Only (fun _ => False) h h') : AutoX h' B X ps tab fl ob ou := H.keep ho fun _ _ => id

theorem ax_states (H : AutoX h B X ps tab fl ob ou) : D cfg 56 [B.ptr] h = some (.int .i64 X.length, h) := auto_states H.at_

theorem ax_next (H : AutoX h B X ps tab fl ob ou) {w : Txt} {b : UInt8} : D cfg 53 [B.ptr, .int .i64 (st X (lsuf X w) : Nat), .int .u8 b.toNat] h = some (.int .i64 (st X (lsuf X (w ++ [b])) : Nat), h) := by
  rw [auto_next H.at_ H.lt, H.tab_ _ H.lmem _ b.toNat_lt]
  have e : UInt8.ofNat b.toNat = b := by simp
  rw [e, lsuf_step H.mem0 H.pre]

theorem ax_fail (H : AutoX h B X ps tab fl ob ou) {x : Txt} (hx : x ∈ X) : D cfg 58 [B.ptr, .int .i64 (st X x : Nat)] h = some (.int .i64 (st X (fsuf X x) : Nat), h) := by
  rw [auto_fail H.at_ (st_lt hx), H.fl_ _ hx]

/-- 'Out' of a state: what ends there. -/
theorem ax_out (H : AutoX h B X ps tab fl ob ou) {w : Txt} : ∃ b h', D cfg 54 [B.ptr, .int .i64 (st X (lsuf X w) : Nat)] h = some (intSl b (outs w ps 0), h') ∧ Only (fun _ => False) h h' ∧
    (outs w ps 0 ≠ [] → h'[b]? = some (.cells (intCells (outs w ps 0)) 3 true) ∧ h.length ≤ b) := by
  have h1 := auto_out H.at_ (H.lt (w := w))
  rw [H.ou_ _ H.lmem, outs_lsuf H.sub] at h1
  exact h1
end

theorem awake_ofD {f : Nat} {h₀ : Heap} (hx : D cfg f [] [] = some (.bool true, h₀)) {fs : List FuncId} (hf : fs.contains f = true) {h : Heap} : mixed fs (D cfg) f [] h = some (.bool true, h) := by
  simp only [mixed, hf, if_true, forget, hx, plainArgs]
  simp

/-! ### the closed example -/

def exP : List Txt := [[104, 101], [115, 104, 101]]

def exW : Txt := [117, 115, 104, 101]
theorem exW_len : exW.length = 4 := rfl
theorem exC_len : (byteCells exW).length = 4 := rfl

theorem exX : begs exP = [[], [104], [104, 101], [115], [115, 104], [115, 104, 101]] := by decide

def In51 (h₀ : Heap) (P : AV) (X : List Txt) (m : Nat) (σ : St) : Prop :=
  ∃ i : Nat, m = 4 - i ∧ i ≤ 4 ∧ σ = ⟨[(1, P), (3, .int .i64 (st X (lsuf X (exW.take i)) : Nat)), (18, byteSl h₀.length 4), (19, .int .i64 4), (20, .int .i64 i)], h₀ ++ [.cells (byteCells exW) 5 true]⟩

theorem awake14 : ∃ h', D cfg 51 [] [] = some (.bool true, h') := by
  have key : ∃ r h', D cfg 51 [] [] = some (r, h') ∧ (r = .bool true) := by
    refine call51 (R := fun r h' => r = .bool true) (args := []) (h := []) (by simp) ?_
    have hv : Sl1 [.cells (strCells exP) 9 true] (.sl (some ⟨0, 0, 2⟩) 2 2) (strCells exP) := Sl1.cells (b := 0) (e := 9) (s := true) (xs := strCells exP) rfl
    obtain ⟨r, h1, e1, o1, hr⟩ := build_run (bud := 100) hv (by intro b hb; simp [slB] at hb; subst hb; simp) (by simp [exP])
    have hg : bgood exP = true := by decide
    rcases hr with ⟨hb, _⟩ | ⟨_, hb, _⟩ | ⟨_, _, _, B, tab, fl, ob, ou, rfl, A, _⟩
    · rw [hg] at hb; simp at hb
    · rw [exX] at hb; simp at hb
    have hX := exX
    have e1' : D cfg 52 [.sl (some ⟨0, 0, 2⟩) 2 2, .int .i64 100] [.cells [.str [104, 101], .str [115, 104, 101]] 9 true] = some (.tup [B.ptr, .int .i64 0], h1) := e1
    have A1 : AutoX (h1 ++ [.cells (byteCells exW) 5 true]) B (begs exP) exP tab fl ob ou := A.same .app
    have hnil := A1.nil
    simp [c51, c51_r0, c51_r1, c51_r2, abuildSlice, afill, zeros, e1', extractV, c51_r4, c51_r5, aconv, len1, alen, at_app]
    refine Wt.loop (In51 h1 B.ptr (begs exP)) (m := 4) ⟨0, rfl, by omega, by simp [hnil, byteCells, exW]⟩ ?_
    rintro m σ ⟨i, rfl, hi, rfl⟩
    have hcut : ∀ s : Int, cut (some [1, 3, 18, 19, 20]) [(1, B.ptr), (3, .int .i64 s), (18, byteSl h1.length 4), (19, .int .i64 4), (20, .int .i64 (i : Nat))] = [(1, B.ptr), (3, .int .i64 s), (18, byteSl h1.length 4), (19, .int .i64 4), (20, .int .i64 (i : Nat))] := fun s => by simp
    simp only [hcut]
    by_cases h4 : i < 4
    · have h4' : (i : Int) < 4 := by omega
      have hi4 : i < exW.length := h4
      have hb : (byteCells exW)[i]? = some (.int .u8 exW[i].toNat) := by simp [byteCells, hi4]
      have e2 := ax_next A1 (w := exW.take i) (b := exW[i])
      rw [← List.take_succ_eq_append_getElem hi4] at e2
      have hwr : IntKind.wrap .i64 ((i : Int) + 1) = i + 1 := wrap_i64 (by omega) (by omega)
      have hnext : In51 h1 B.ptr (begs exP) (4 - (i + 1)) ⟨[(1, B.ptr), (3, .int .i64 (st (begs exP) (lsuf (begs exP) (exW.take (i + 1))) : Nat)), (18, byteSl h1.length 4), (19, .int .i64 4), (20, .int .i64 (i + 1 : Nat))], h1 ++ [.cells (byteCells exW) 5 true]⟩ := ⟨i + 1, rfl, by omega, rfl⟩
      simp only [byteSl] at hnext
      simp [c51_l6, c51_r6, c51_r7, c51_r8, c51_r9, h4, h4', aindexAddr, aload, row, at_app, exC_len, hb, e2, hwr]
      exact ⟨4 - (i + 1), by omega, by simpa using hnext⟩
    · have : i = 4 := by omega
      subst this
      obtain ⟨b, h2, e2, o2, _⟩ := ax_out A1 (w := exW)
      have ho : outs exW exP 0 = [0, 1] := by decide
      rw [ho] at e2
      have e3 := ax_states (A1.same o2)
      rw [exX] at e3
      obtain ⟨h3, e4, _⟩ := fold_auto (h := h2) (s := [65, 98, 90, 91]) (by simp)
      have hf : fold [65, 98, 90, 91] = [97, 98, 122, 91] := by decide
      rw [hf] at e4
      have ht4 : exW.take 4 = exW := rfl
      simp [c51_l6, c51_r6, c51_r10, ht4, e2, e3, e4, len1, alen, intSl]
  obtain ⟨r, h', h1, rfl⟩ := key
  exact ⟨h', h1⟩

theorem awake14c {fs : List FuncId} (hf : fs.contains 51 = true) {h : Heap} : mixed fs (D cfg) 51 [] h = some (.bool true, h) := by
  obtain ⟨h', hx⟩ := awake14
  exact awake_ofD hx hf
end Go.AM
