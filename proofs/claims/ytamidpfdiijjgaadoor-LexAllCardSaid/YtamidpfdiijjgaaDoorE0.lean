/-
  Small laws for the runs: what a call may turn; slices that are read, that grow; from a law's run to the statement's walk.
-/
import Derived.Test.YtamidpfdiijjgaaDoorK
import Derived.Below
namespace Go.AM
open Go Go.Proofs Go.RowKit
set_option linter.unusedVariables false
set_option linter.unusedSimpArgs false
set_option maxRecDepth 100000

abbrev Txt := List UInt8

theorem D_eq {f : FuncId} {args : List AV} {h : Heap} {r₀ : AV} {h₀ : Heap} (hx : ∃ r h', D cfg f args h = some (r, h') ∧ (r = r₀ ∧ h' = h₀)) : D cfg f args h = some (r₀, h₀) := by
  obtain ⟨r, h', h1, rfl, rfl⟩ := hx
  exact h1

theorem lt_of_at {h : Heap} {b : Nat} {o : AObj} (hb : h[b]? = some o) : b < h.length := (List.getElem?_eq_some_iff.1 hb).1

theorem at_set {h : Heap} {b c : Nat} {o : AObj} : (h.set c o)[b]? = if c = b then (if b < h.length then some o else none) else h[b]? := by
  rw [List.getElem?_set]
  split
  · rename_i e; subst e; rfl
  · rfl

/-- What a call may turn: certain blocks, and new ones. -/
def Only (fp : Nat → Prop) (h h' : Heap) : Prop := h.length ≤ h'.length ∧ ∀ b, b < h.length → ¬ fp b → h'[b]? = h[b]?

theorem Only.refl {fp : Nat → Prop} {h : Heap} : Only fp h h := ⟨Nat.le_refl _, fun _ _ _ => rfl⟩
theorem Only.trans {fp : Nat → Prop} {h h' h'' : Heap} (a : Only fp h h') (b : Only fp h' h'') : Only fp h h'' :=
  ⟨Nat.le_trans a.1 b.1, fun c hc hn => by rw [b.2 c (Nat.lt_of_lt_of_le hc a.1) hn, a.2 c hc hn]⟩
theorem Only.mono {fp fp' : Nat → Prop} {h h' : Heap} (a : Only fp h h') (hs : ∀ b, b < h.length → fp b → fp' b) : Only fp' h h' :=
  ⟨a.1, fun c hc hn => a.2 c hc fun hm => hn (hs c hc hm)⟩
theorem Only.at {fp : Nat → Prop} {h h' : Heap} (a : Only fp h h') {b : Nat} {o : AObj} (hb : h[b]? = some o) (hn : ¬ fp b) : h'[b]? = some o := by
  rw [a.2 b (lt_of_at hb) hn, hb]
theorem Only.app {fp : Nat → Prop} {h l : Heap} : Only fp h (h ++ l) := ⟨by simp, fun b hb _ => List.getElem?_append_left hb⟩
theorem Only.set {fp : Nat → Prop} {h : Heap} {b : Nat} {o : AObj} (hb : fp b) : Only fp h (h.set b o) :=
  ⟨by simp, fun c hc hn => by rw [List.getElem?_set_ne]; intro e; subst e; exact hn hb⟩


/-- A law's run, its arguments laid in a heap, says what the statement asks. -/
theorem law_end {P : Program} {F : CallF} (hm : P.follows .mixedOrders = true) (hF : CallOK P F) {f : FuncId} {fn : Func} {code : Code} {k : SC} {rs : List ResultVar} (hf : P.funcs[f]? = some fn) (hb : fn.body = some code) {H : Hint} (hB : fnB P H fn = true) (hk : compile H code = k) (hrs : fn.results.toList = rs)
    {args : List AV} (hn : args.length ≤ fn.ntmps) {h : Heap} (hw : Wt P F k ⟨argsEnv 0 args, h⟩ (Ends P rs fun r _ => r = .bool true))
    {ι : Inj} {w : World} {cargs : List Value} (hr : HR P ι w w.heap.size (look h)) (hfr : ∀ n, Fresh ι h.length n) (ha : L2 (V ι) args cargs) :
    Calls P f cargs.toArray w fun e w' => e = .returned (.bool true) ∧ Below w.heap.size w w' := by
  obtain ⟨r, h', h1, h2, h3⟩ := W.top (R := fun r _ => r = .bool true) hm hF hf hb hB hk hn (W.mono hw fun e s' h => Ends_fin hrs h)
  subst h1
  refine (h3 ι w w.heap.size cargs hr (hfr _) ha).mono ?_
  rintro e w' ⟨ι', u, rfl, hv, hst, _⟩
  refine ⟨?_, hst.os, hst.tape, hst.output, hst.size, hst.below hr⟩
  cases u <;> simp [V, Va, Vc, Vp] at hv
  rw [hv]

/-- Without a heap. -/
theorem law_end0 {P : Program} {F : CallF} (hm : P.follows .mixedOrders = true) (hF : CallOK P F) {f : FuncId} {fn : Func} {code : Code} {k : SC} {rs : List ResultVar} (hf : P.funcs[f]? = some fn) (hb : fn.body = some code) {H : Hint} (hB : fnB P H fn = true) (hk : compile H code = k) (hrs : fn.results.toList = rs)
    {args : List AV} (hn : args.length ≤ fn.ntmps) (hw : Wt P F k ⟨argsEnv 0 args, []⟩ (Ends P rs fun r _ => r = .bool true))
    {w : World} {cargs : List Value} (ha : L2 (V fun _ _ => none) args cargs) :
    Calls P f cargs.toArray w fun e w' => e = .returned (.bool true) ∧ Below w.heap.size w w' :=
  law_end hm hF hf hb hB hk hrs hn hw (.empty P w) (fun _ _ _ _ _ => rfl) ha

/-- The first element, if it says so. -/
def saysTrue (r : Option (AV × Heap)) : Bool := match r with
  | some (.bool b, _) => b
  | _ => false


/-- A slice whose elements are one cell each, and what it holds. -/
def Sl1 (h : Heap) (v : AV) (xs : List AV) : Prop :=
  (v = .sl none 0 0 ∧ xs = []) ∨ ∃ b o g c cs, v = .sl (some ⟨b, o, g⟩) xs.length c ∧ row (look h) ⟨b, o, g⟩ = some cs ∧ (cs.drop o).take xs.length = xs

/-- Where its element lies. -/
def elp (v : AV) (i : Nat) : AV := match v with
  | .sl (some a) _ _ => .ptr (some { a with off := a.off + i })
  | _ => .nili

theorem Sl1.len {h : Heap} {v : AV} {xs : List AV} (H : Sl1 h v xs) {t e : TypeId} (ht : tk Tryd.prog t = .slice e) {L : Look} : alen Tryd.prog L t v = some (.int .i64 xs.length) := by
  rcases H with ⟨rfl, rfl⟩ | ⟨b, o, g, c, cs, rfl, _, _⟩ <;> simp [alen, ht]

theorem Sl1.at {h : Heap} {v : AV} {xs : List AV} (H : Sl1 h v xs) {t e : TypeId} (ht : tk Tryd.prog t = .slice e) (he : tsz Tryd.prog e = 1) {i : Nat} (hi : i < xs.length) : aindexAddr Tryd.prog t v (.int .i64 i) = some (elp v i) := by
  rcases H with ⟨rfl, rfl⟩ | ⟨b, o, g, c, cs, rfl, _, _⟩
  · simp at hi
  · have : (i : Int) < xs.length := by omega
    simp [aindexAddr, ht, he, this, elp, hi]

theorem Sl1.load {h : Heap} {v : AV} {xs : List AV} (H : Sl1 h v xs) {e : TypeId} (he : agk (tk Tryd.prog e) = some false) {i : Nat} (hi : i < xs.length) : aload Tryd.prog (look h) e (elp v i) = some xs[i] := by
  rcases H with ⟨rfl, rfl⟩ | ⟨b, o, g, c, cs, rfl, h1, h2⟩
  · simp at hi
  · simp only [elp, aload]
    have h3 : row (look h) { b := b, off := o + i, gen := g } = some cs := h1
    rw [h3, he]
    have h4 : xs[i]? = some xs[i] := List.getElem?_eq_getElem hi
    have h5 : ((cs.drop o).take xs.length)[i]? = xs[i]? := by rw [h2]
    rw [h4, List.getElem?_take, if_pos hi, List.getElem?_drop] at h5
    exact h5

theorem row_only {h h' : Heap} {fp : Nat → Prop} {a : AA} {cs : List AV} (ho : Only fp h h') (hr : row (look h) a = some cs) (hn : ¬ fp a.b) : row (look h') a = some cs := by
  simp only [row] at hr ⊢
  cases hb : h[a.b]? with
  | none => simp [look_at, hb] at hr
  | some o =>
    rw [look_at, hb] at hr
    rw [look_at, ho.at hb hn]
    exact hr

/-- The block of a slice. -/
def slB (v : AV) : Option Nat := match v with
  | .sl (some a) _ _ => some a.b
  | _ => none

theorem Sl1.keep {h h' : Heap} {v : AV} {xs : List AV} {fp : Nat → Prop} (H : Sl1 h v xs) (ho : Only fp h h') (hf : ∀ b, slB v = some b → ¬ fp b) : Sl1 h' v xs := by
  rcases H with ⟨rfl, rfl⟩ | ⟨b, o, g, c, cs, rfl, h1, h2⟩
  · exact .inl ⟨rfl, rfl⟩
  · exact .inr ⟨b, o, g, c, cs, rfl, row_only ho h1 (hf b rfl), h2⟩

theorem Sl1.same {h h' : Heap} {v : AV} {xs : List AV} (H : Sl1 h v xs) (ho : Only (fun _ => False) h h') : Sl1 h' v xs := H.keep ho fun _ _ => id

theorem Sl1.nil {h : Heap} : Sl1 h (.sl none 0 0) [] := .inl ⟨rfl, rfl⟩
theorem Sl1.cells {h : Heap} {b : Nat} {e : TypeId} {s : Bool} {xs : List AV} (hb : h[b]? = some (.cells xs e s)) : Sl1 h (.sl (some ⟨b, 0, xs.length⟩) xs.length xs.length) xs :=
  .inr ⟨b, 0, xs.length, xs.length, xs, rfl, by simp [row, hb], by simp⟩


/-- A slice of n elements that takes a block for itself: these cells. -/
def bufSl (b n : Nat) (xs : List AV) : AV := if n = 0 then .sl none 0 0 else .sl (some ⟨b, 0, xs.length⟩) n n

theorem bufSl_zero {b : Nat} {xs : List AV} : bufSl b 0 xs = .sl none 0 0 := by simp [bufSl]

theorem append_buf {t e k : Nat} (ht : tk Tryd.prog t = .slice e) (hk : tsz Tryd.prog e = k) (hk0 : 0 < k) (hz : zeroOK Tryd.prog e = true) (hby : Tryd.prog.bytesOf e ≤ 100) {h : Heap} {b n : Nat} {xs ys : List AV} (hys : ys.length = k) (hxs : xs.length = n * k)
    (hb : n ≠ 0 → h[b]? = some (.cells xs e true)) (hn : n ≤ 1000000) :
    ∃ δ h', append2 Tryd.prog (look (h ++ [AObj.cells ys e true])) (h.length + 1) t t [bufSl b n xs, .sl (some ⟨h.length, 0, k⟩) 1 1] = some (bufSl (if n = 0 then h.length + 1 else b) (n + 1) (xs ++ ys), δ) ∧ Heap.apply (h ++ [AObj.cells ys e true]) δ = h' ∧
      h'[if n = 0 then h.length + 1 else b]? = some (.cells (xs ++ ys) e true) ∧ Only (fun c => c = b ∧ n ≠ 0) h h' := by
  have hsrc : srcCells Tryd.prog (look (h ++ [AObj.cells ys e true])) e (.sl (some ⟨h.length, 0, k⟩) 1 1) = some (1, ys) := by
    simp [srcCells, slCells, row, hk, hys]
    exact List.take_of_length_le (by omega)
  have hroom : ∀ m, m ≤ 1000001 → m * Tryd.prog.bytesOf e ≤ roomMax := fun m hm => by
    have := Nat.mul_le_mul hm hby
    simp only [roomMax]
    omega
  by_cases hn0 : n = 0
  · subst hn0
    have hxs0 : xs = [] := List.length_eq_zero_iff.1 (by simpa using hxs)
    subst hxs0
    refine ⟨.new (.cells ys e true), h ++ [AObj.cells ys e true] ++ [AObj.cells ys e true], ?_, rfl, ?_, ?_⟩
    · have h1 := hroom 1 (by omega)
      simp only [append2, aappend, ht, hk, hsrc, hk0, if_true, bufSl, aappendE]
      simp at h1
      simp [h1, hz]
    · simp
    · rw [List.append_assoc]; exact .app
  · have hb1 := hb hn0
    have hlt := lt_of_at hb1
    have hb2 : (h ++ [AObj.cells ys e true])[b]? = some (.cells xs e true) := by rw [List.getElem?_append_left hlt]; exact hb1
    rw [if_neg hn0]
    refine ⟨.set b (.cells (xs ++ ys) e true), (h ++ [AObj.cells ys e true]).set b (.cells (xs ++ ys) e true), ?_, rfl, ?_, ?_⟩
    · have h1 := hroom (n + 1) (by omega)
      have h2 : ¬ (n + 1 ≤ n) := by omega
      have h3 : n + 1 ≤ 9223372036854775807 := by omega
      have h4 : xs.take (n * k) = xs := List.take_of_length_le (by omega)
      simp only [append2, aappend, ht, hk, hsrc, hk0, if_true, bufSl, hn0, if_false, aappendE, look_at, hb2]
      simp [h1, hz, h2, h3, hxs, h4]
    · rw [List.getElem?_set_self (by simp; omega)]
    · exact Only.app.trans (.set ⟨rfl, hn0⟩)

/-- What turns new blocks alone. -/
theorem Only.fresh {h₀ h h' : Heap} {fp : Nat → Prop} (a : Only (fun _ => False) h₀ h) (b : Only fp h h') (hf : ∀ c, fp c → h₀.length ≤ c) : Only (fun _ => False) h₀ h' :=
  ⟨Nat.le_trans a.1 b.1, fun c hc _ => by rw [b.2 c (Nat.lt_of_lt_of_le hc a.1) (fun hm => by have := hf c hm; omega), a.2 c hc id]⟩

theorem Sl1.buf {h : Heap} {b : Nat} {e : TypeId} {s : Bool} {xs : List AV} (hb : xs.length ≠ 0 → h[b]? = some (.cells xs e s)) : Sl1 h (bufSl b xs.length xs) xs := by
  by_cases hx : xs.length = 0
  · have : xs = [] := List.length_eq_zero_iff.1 hx
    subst this
    rw [List.length_nil, bufSl_zero]
    exact .nil
  · unfold bufSl
    rw [if_neg hx]
    exact .cells (hb hx)


theorem mixed_D {fs : List FuncId} {F : CallF} {f : FuncId} (hf : fs.contains f = false) {args : List AV} {h : Heap} : mixed fs F f args h = F f args h := by
  simp only [mixed, hf]
  rfl

def callV (F : CallF) (h : Heap) (f : Option AV) (al : List AV) : Option (AV × Heap) :=
  match f with
  | some (.fn (.func g) caps) => F g (al ++ caps) h
  | _ => none

theorem astep_callv {P : Program} {F : CallF} {s : St} {t : Nat} {args : Array Operand} {ts : Array TypeId} : astep P F (.call ⟨.value (.tmp t), args, ts⟩) s = bindO (evL (evalA s.ρ) args.toList) fun al => callV F s.h (s.ρ.get t) al := by
  simp only [astep, callOf, evalA]
  cases hg : s.ρ.get t with
  | none => cases evL (evalA s.ρ) args.toList <;> rfl
  | some v =>
    cases v with
    | fn f caps => cases f <;> cases evL (evalA s.ρ) args.toList <;> rfl
    | _ => cases evL (evalA s.ρ) args.toList <;> rfl

theorem astepT_callv {P : Program} {F : CallF} {s : St} {t : Nat} {args : Array Operand} {ts : Array TypeId} : astepT P F (.call ⟨.value (.tmp t), args, ts⟩) s = bindO (evL (evalA s.ρ) args.toList) fun al => bindO (callV F s.h (s.ρ.get t) al) fun r => some (r.1, r.2, .heaps s.h r.2) := by
  simp only [astepT, callOf, evalA]
  cases hg : s.ρ.get t with
  | none => cases evL (evalA s.ρ) args.toList <;> rfl
  | some v =>
    cases v with
    | fn f caps =>
      cases f with
      | func g =>
        cases evL (evalA s.ρ) args.toList with
        | none => rfl
        | some al => simp only [bindO, callV]; cases F g (al ++ caps) s.h <;> rfl
      | _ => cases evL (evalA s.ρ) args.toList <;> rfl
    | _ => cases evL (evalA s.ρ) args.toList <;> rfl


@[simp] theorem evalA_func {ρ : Env} {f : FuncId} : evalA ρ (.func f) = some (.fn (.func f) []) := (rfl)
theorem cells_agg {cs : List AV} : AV.cells (.agg cs) = cs := (rfl)
theorem cells_int {k : IntKind} {n : Int} : AV.cells (.int k n) = [.int k n] := (rfl)
theorem cells_str {x : Txt} : AV.cells (.str x) = [.str x] := (rfl)
theorem cells_bool {x : Bool} : AV.cells (.bool x) = [.bool x] := (rfl)
theorem cells_ptr {x : Option AA} : AV.cells (.ptr x) = [.ptr x] := (rfl)
theorem cells_sl {x : Option AA} {n c : Nat} : AV.cells (.sl x n c) = [.sl x n c] := (rfl)
theorem one_int {k : IntKind} {n : Int} : AV.one (.int k n) = true := (rfl)
theorem one_str {x : Txt} : AV.one (.str x) = true := (rfl)
theorem one_bool {x : Bool} : AV.one (.bool x) = true := (rfl)
theorem one_ptr {x : Option AA} : AV.one (.ptr x) = true := (rfl)
theorem one_sl {x : Option AA} {n c : Nat} : AV.one (.sl x n c) = true := (rfl)
theorem one_agg {cs : List AV} : AV.one (.agg cs) = false := (rfl)
theorem tup_int {k : IntKind} {n : Int} : AV.notTup (.int k n) = true := (rfl)
theorem tup_str {x : Txt} : AV.notTup (.str x) = true := (rfl)
theorem tup_bool {x : Bool} : AV.notTup (.bool x) = true := (rfl)
theorem tup_ptr {x : Option AA} : AV.notTup (.ptr x) = true := (rfl)
theorem tup_sl {x : Option AA} {n c : Nat} : AV.notTup (.sl x n c) = true := (rfl)

end Go.AM
