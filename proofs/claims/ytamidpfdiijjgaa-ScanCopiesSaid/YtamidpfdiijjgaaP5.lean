/-
  From a law's run to the statement's walk.
-/
import Derived.Test.YtamidpfdiijjgaaP4
import Derived.Below
namespace Go.AM
open Go Go.Proofs Go.RowKit
set_option linter.unusedVariables false

/-- A law's run, its arguments laid in a heap, says what the statement asks. -/
theorem law_end {P : Program} {F : CallF} (hm : P.follows .mixedOrders = true) (hF : CallOK P F) {f : FuncId} {fn : Func} {code : Code} {k : SC} {rs : List ResultVar} (hf : P.funcs[f]? = some fn) (hb : fn.body = some code) {H : Hint} (hB : fnB P H fn = true) (hk : compile H code = k) (hrs : fn.results.toList = rs)
    {args : List AV} (hn : args.length ≤ fn.ntmps) {h : Heap} (hw : Wt P F k ⟨argsEnv 0 args, h⟩ (Ends P rs fun r _ => r = .bool true))
    {ι : Inj} {w : World} {cargs : List Value} (hr : HR P ι w w.heap.size (look h)) (hfr : ∀ n, Fresh ι h.length n) (ha : L2 (V ι) args cargs) :
    Calls P f cargs.toArray w fun e w' => e = .returned (.bool true) ∧ Below w.heap.size w w' := by
  obtain ⟨r, h', h1, h2, h3⟩ := W.top (R := fun r _ => r = .bool true) hm hF hf hb hB hk hn (W.mono hw fun e s' h => Ends_fin hrs h)
  subst h1
  refine (h3 ι w w.heap.size cargs hr (hfr _) ha).mono ?_
  rintro e w' ⟨ι', u, rfl, hv, hst, _⟩
  refine ⟨?_, hst.os, hst.tape, hst.output, hst.size, hst.below hr⟩
  cases u <;> simp [V, Va, Vc, Vp] at hv
  rw [hv]

/-- Without a heap. -/
theorem law_end0 {P : Program} {F : CallF} (hm : P.follows .mixedOrders = true) (hF : CallOK P F) {f : FuncId} {fn : Func} {code : Code} {k : SC} {rs : List ResultVar} (hf : P.funcs[f]? = some fn) (hb : fn.body = some code) {H : Hint} (hB : fnB P H fn = true) (hk : compile H code = k) (hrs : fn.results.toList = rs)
    {args : List AV} (hn : args.length ≤ fn.ntmps) (hw : Wt P F k ⟨argsEnv 0 args, []⟩ (Ends P rs fun r _ => r = .bool true))
    {w : World} {cargs : List Value} (ha : L2 (V fun _ _ => none) args cargs) :
    Calls P f cargs.toArray w fun e w' => e = .returned (.bool true) ∧ Below w.heap.size w w' :=
  law_end hm hF hf hb hB hk hrs hn hw (.empty P w) (fun _ _ _ _ _ => rfl) ha

/-- The first element, if it says so. -/
def saysTrue (r : Option (AV × Heap)) : Bool := match r with
  | some (.bool b, _) => b
  | _ => false

theorem awake_of {f n : Nat} (hx : saysTrue (acall cfg n f [] []) = true) {fs : List FuncId} (hf : fs.contains f = true) {h : Heap} : mixed fs (D cfg) f [] h = some (.bool true, h) := by
  cases hr : acall cfg n f [] [] with
  | none => rw [hr] at hx; simp [saysTrue] at hx
  | some r =>
    obtain ⟨v, h'⟩ := r
    have h2 := D_of hr
    rw [hr] at hx
    cases v <;> simp [saysTrue] at hx
    subst hx
    simp only [mixed, hf, if_true, forget, h2, plainArgs]
    simp

end Go.AM
