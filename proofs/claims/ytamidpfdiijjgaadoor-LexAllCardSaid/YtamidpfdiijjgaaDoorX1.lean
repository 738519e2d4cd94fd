/-
  The library's ToLower (texts of small bytes), IndexByte, as operations of the evaluator: by the shelf's contracts.
-/
import Derived.Below
import Derived.Test.YtamidpfdiijjgaaDoorAMb
import Derived.Test.YtamidpfdiijjgaaDoorStr
namespace Go.AM
open Go Go.Proofs Go.RowKit
set_option linter.unusedVariables false
set_option linter.unusedSimpArgs false

theorem HR.aside {P : Program} {ι : Inj} {w w' : World} {B : Nat} {L : Look} (hr : HR P ι w B L) (hs : w.heap.size ≤ w'.heap.size) (hb : ∀ k, k < w.heap.size → w'.heap[k]? = w.heap[k]?) : HR P ι w' B L :=
  ⟨fun b o ho => let ⟨l, h1, h2, h3⟩ := hr.obj b o ho; ⟨l, h1, h2.keep (.refl ι) (fun hne => hb _ (hr.ro_lt ho h1 hne)), fun h => ⟨(h3 h).1, Nat.lt_of_lt_of_le (h3 h).2 hs⟩⟩,
    hr.inj, hr.past, Nat.le_trans hr.base hs, hr.roB⟩

theorem Step.aside {P : Program} {ι : Inj} {w w' : World} {B : Nat} {L : Look} (hr : HR P ι w B L) (h : Below w.heap.size w w') : Step P ι w B L ι w' L :=
  ⟨.refl ι, hr.aside h.size h.block, h.size, fun c hc _ => h.block c hc, fun _ h => .inl h, h.os, h.tape, h.output⟩

def extLower (args : List AV) (h : Heap) : Option (AV × Heap) :=
  match args with
  | [.str s] => if s.all (fun b => decide (b.toNat < 128)) = true ∧ s.length ≤ 100000 then some (.str (Lib.toLowerA s), h) else none
  | _ => none

def extIdx (args : List AV) (h : Heap) : Option (AV × Heap) :=
  match args with
  | [.str s, .int .u8 c] => some (.int .i64 (Lib.indexByte s c.toNat.toUInt8), h)
  | _ => none

def extLib (f : FuncId) : Option (List AV → Heap → Option (AV × Heap)) := if f = 35 then some extLower else if f = 57 then some extIdx else none

theorem extLib_ok {f : FuncId} {g : List AV → Heap → Option (AV × Heap)} (hf : extLib f = some g) {args : List AV} {h : Heap} {r : AV} {h' : Heap} (hr : g args h = some (r, h')) :
    (∃ fn, Tryd.prog.funcs[f]? = some fn ∧ fn.body.isSome = true ∧ (fn.name == "runtime.NumGoroutine") = false) ∧ h.length ≤ h'.length ∧
    ∀ (ι : Inj) (w : World) (B : Nat) (cargs : List Value), HR Tryd.prog ι w B (look h) → Fresh ι h.length h'.length → L2 (V ι) args cargs →
      Calls Tryd.prog f cargs.toArray w fun e w' => ∃ ι' u, e = .returned u ∧ V ι' r u ∧ Step Tryd.prog ι w B (look h) ι' w' (look h') ∧ Lays ι ι' h'.length := by
  unfold extLib at hf
  split at hf
  · rename_i e
    cases hf; subst e
    refine ⟨⟨Tryd.f35, Tryd.func35, by kernel_rfl, by kernel_rfl⟩, ?_⟩
    unfold extLower at hr
    split at hr
    · rename_i s
      split at hr
      · rename_i hc
        simp at hr
        obtain ⟨rfl, rfl⟩ := hr
        refine ⟨Nat.le_refl _, fun ι w B cargs hH hF hA => ?_⟩
        obtain ⟨u, rfl, hu⟩ := one_of hA
        obtain rfl := hu.str_inv
        refine (Tryd.strings_ToLower_ascii ⟨s.toArray⟩ w (by have := hc.2; simp [ByteArray.size]; omega) (fun j b hb => ?_)).mono ?_
        · have hb' : s[j]? = some b := by simpa using hb
          have := List.all_eq_true.1 hc.1 b (List.mem_of_getElem? hb')
          simpa using this
        · rintro e w' ⟨rfl, hw⟩
          exact ⟨ι, _, rfl, by simp [V, Va, Vc, Vp], Step.aside hH hw, .refl⟩
      · simp at hr
    · simp at hr
  · split at hf
    · rename_i e
      cases hf; subst e
      refine ⟨⟨Tryd.f57, Tryd.func57, by kernel_rfl, by kernel_rfl⟩, ?_⟩
      unfold extIdx at hr
      split at hr
      · rename_i s c
        simp at hr
        obtain ⟨rfl, rfl⟩ := hr
        refine ⟨Nat.le_refl _, fun ι w B cargs hH hF hA => ?_⟩
        obtain ⟨u, v, rfl, hu, hv⟩ := two_of hA
        obtain rfl := hu.str_inv
        obtain rfl := hv.int_inv
        refine (Tryd.strings_IndexByte ⟨s.toArray⟩ c w).mono ?_
        rintro e w' ⟨rfl, rfl⟩
        exact ⟨ι, _, rfl, by simp [V, Va, Vc, Vp], .refl hH, .refl⟩
      · simp at hr
    · cases hf

end Go.AM
