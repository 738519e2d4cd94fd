/-
  All operations of the abstract machine together stand for the model's.
-/
import Derived.Test.YtamidpfdiijjgaaAM7
import Derived.Laws.RangeString
namespace Go.AM
open Go
set_option linter.unusedVariables false
set_option linter.unusedSimpArgs false
variable {P : Program} {ι : Inj} {w : World} {B : Nat} {L : Look} {next : Nat}

theorem ok_range (hr : HR P ι w B L) (hn : L next = none) (hf : ∀ g, ι next g = none) {t : TypeId} {s : List UInt8} {u : Value} (hk : tk P t = .str) (hu : V ι (.str s) u) :
    ∃ ι' w' z, (Instr.range t u).run P w = .ok z w' ∧ V ι' (.ptr (some ⟨next, 0, 0⟩)) z ∧ Step P ι w B L ι' w' (upd L next (.new (.iter s 0))) ∧ (∀ b g' l', ι' b g' = some l' → ι b g' = some l' ∨ b = next) := by
  obtain rfl := hu.str_inv
  have h := hr_new hr hn hf (o := .iter s 0) (l := ⟨w.heap.size, 0, 0, 0⟩) (w' := w.alloc (.stringIter ⟨s.toArray⟩ 0)) rfl (fun c hc => alloc_old w _ c hc) (by simp) ⟨Nat.le_refl _, by simp⟩ ⟨rfl, rfl, rfl⟩
    (fun ι' he => ⟨rfl, ⟨s.toArray⟩, alloc_new w _, rfl⟩)
  refine ⟨_, _, .pointer (some ⟨w.heap.size, 0, none⟩), ?_, V_new _ _ _ _ rfl rfl, h.1, h.2⟩
  simp [Instr.range, run_underlying (tk_str hk)]

theorem ok_next (hr : HR P ι w B L) {it r : AV} {u : Value} {δ : Delta} {ty : TypeId} (hu : V ι it u) (h : aiter L it = some (r, δ)) :
    ∃ ι' w' z, (Instr.next u true ty).run P w = .ok z w' ∧ V ι' r z ∧ Step P ι w B L ι' w' (upd L next δ) ∧ (∀ b g' l', ι' b g' = some l' → ι b g' = some l' ∨ δ.touches next b) := by
  unfold aiter at h
  split at h
  · rename_i a
    obtain ⟨l, hl, hsub, rfl⟩ := hu.ptr_inv
    split at h
    · rename_i s pos hL
      split at h
      · rename_i hoff
        obtain ⟨hg, ho⟩ := hoff
        have hl0 := hl
        rw [hg] at hl0
        obtain ⟨l', hl', hR, hB⟩ := hr.obj a.b _ hL
        simp only [AObj.gen] at hl'
        rw [hl0] at hl'; cases hl'
        obtain ⟨hadd, s', e1, e2⟩ := hR
        have hs' : s' = ⟨s.toArray⟩ := by subst e2; rfl
        subst hs'
        have hat : l.at a.off = ⟨l.blk, 0, none⟩ := by simp [Loc.at, ho, hadd]
        have hget : (getObj l.blk).run P w = .ok (.stringIter ⟨s.toArray⟩ pos) w := by simp [getObj, Sem.run, e1]
        have hlt : l.blk < w.heap.size := (Array.getElem?_eq_some_iff.1 e1).1
        rw [hat]
        split at h
        · rename_i hpos
          simp at h
          obtain ⟨rfl, rfl⟩ := h
          have hset : ∀ o : Obj, (setObj l.blk o).run P w = .ok () { w with heap := w.heap.setIfInBounds l.blk o } := fun o => by simp [setObj, Sem.run, e1]
          have turn := hr_turn (next := next) hr (b := a.b) (o := .iter s pos) (o' := .iter s (pos + (Utf8.decode ⟨s.toArray⟩ pos).2)) (l := l) (l' := l)
            (w' := { w with heap := w.heap.setIfInBounds l.blk (.stringIter ⟨s.toArray⟩ (pos + (Utf8.decode ⟨s.toArray⟩ pos).2)) }) hL rfl hl0 rfl (Nat.le_refl _) (fun _ => rfl)
            (fun c0 _ hc0 => by simp [Array.getElem?_setIfInBounds, Ne.symm hc0]) (by simp) (.inl rfl) ⟨rfl, rfl, rfl⟩ (fun ι' he => ⟨hadd, ⟨s.toArray⟩, by simp [hlt], rfl⟩)
          refine ⟨_, _, .tuple #[.bool true, goInt pos, .int .i32 (Utf8.decode ⟨s.toArray⟩ pos).1], ?_, ⟨rfl, ⟨rfl, rfl⟩, ⟨rfl, rfl⟩, trivial⟩, turn.1, fun b0 g l1 h => turn.2 b0 g l1 h⟩
          simp [Instr.next, hget, size_of, hpos, hset]
        · rename_i hpos
          simp at h
          obtain ⟨rfl, rfl⟩ := h
          exact ⟨ι, w, .tuple #[.bool false], by simp [Instr.next, hget, size_of, hpos], ⟨rfl, trivial⟩, .refl hr, fun _ _ _ h => .inl h⟩
      · simp at h
    · simp at h
  · simp at h

theorem ok_nilck {ρx : Value} {a r : AV} (hx : V ι a ρx) (h : nilck a = some r) :
    ∀ {β : Type} (f : Value → β), (match ρx with
      | .pointer none | .nilIface | .nilFunc => none
      | .func (.method name) first captured => none
      | x => some (f x)) = some (f ρx) ∧ V ι r ρx := by
  intro β f
  unfold nilck at h
  split at h
  · obtain ⟨l, hl, hsub, rfl⟩ := hx.ptr_inv
    simp at h; subst h
    exact ⟨rfl, hx⟩
  · obtain ⟨cs, rfl, _⟩ := hx.fn_inv
    simp at h; subst h
    exact ⟨rfl, hx⟩
  · obtain ⟨y, rfl, _⟩ := hx.ifc_inv
    simp at h; subst h
    exact ⟨rfl, hx⟩
  · rename_i q
    cases q with
    | none =>
      obtain rfl := hx.map_none
      simp at h; subst h
      exact ⟨rfl, hx⟩
    | some q =>
      obtain ⟨l, _, rfl⟩ := hx.map_inv
      simp at h; subst h
      exact ⟨rfl, hx⟩
  · simp at h

theorem evL_L2 {ev : Ev} {ρ : Operand → Value} (he : ∀ x v, ev x = some v → V ι v (ρ x)) : ∀ {xs : List Operand} {vs : List AV}, evL ev xs = some vs → L2 (V ι) vs (xs.map ρ)
  | [], vs, h => by simp [evL] at h; subst h; trivial
  | x :: xs, vs, h => by
    unfold evL at h
    split at h
    · rename_i v vs' hv hvs
      simp at h; subst h
      exact ⟨he x v hv, evL_L2 he hvs⟩
    · simp at h

theorem evP_L2 {ev : Ev} {ρ : Operand → Value} (he : ∀ x v, ev x = some v → V ι v (ρ x)) : ∀ {xs : List (Nat × Operand)} {vs : List (Nat × AV)}, evP ev xs = some vs → L2 (PartsR ι) vs (xs.map fun (i, x) => (i, ρ x))
  | [], vs, h => by simp [evP] at h; subst h; trivial
  | (i, x) :: xs, vs, h => by
    unfold evP at h
    split at h
    · rename_i v vs' hv hvs
      simp at h; subst h
      exact ⟨⟨rfl, he x v hv⟩, evP_L2 he hvs⟩
    · simp at h

theorem evO_VO {ev : Ev} {ρ : Operand → Value} (he : ∀ x v, ev x = some v → V ι v (ρ x)) {x : Option Operand} {v : Option AV} (h : evO ev x = some v) : VO ι v (x.map ρ) := by
  cases x with
  | none => simp [evO] at h; subst h; trivial
  | some x =>
    unfold evO at h
    cases hx : ev x with
    | none => simp [hx] at h
    | some y => simp [hx] at h; subst h; exact he x y hx

theorem min_ok : ∀ {vs : List AV} {us : List Value} {x r : AV} {u : Value}, L2 (V ι) vs us → V ι x u → vs.foldl amin1 (some x) = some r → ∃ z, (us.foldlM Builtin.min2 u).run P w = .ok z w ∧ V ι r z
  | [], [], x, r, u, _, hx, h => by
    simp at h; subst h
    exact ⟨u, by simp, hx⟩
  | v :: vs, y :: us, x, r, u, hv, hx, h => by
    simp only [List.foldl_cons] at h
    cases h1 : amin1 (some x) v with
    | none =>
      rw [h1] at h
      have : ∀ l : List AV, l.foldl amin1 none = none := fun l => by induction l with
        | nil => rfl
        | cons a l ih => simp only [List.foldl_cons]; exact ih
      rw [this] at h; cases h
    | some x' =>
      rw [h1] at h
      unfold amin1 at h1
      split at h1
      · rename_i k a k' b heq
        simp only [Option.some.injEq] at heq; subst heq
        split at h1
        · rename_i hk
          subst hk
          simp at h1; subst h1
          obtain rfl := hx.int_inv
          obtain rfl := hv.1.int_inv
          obtain ⟨z, hz, hr⟩ := min_ok hv.2 (.int ι k (if b < a then b else a)) h
          exact ⟨z, by simp only [List.foldlM_cons, Sem.run_bind, Builtin.min2, Sem.run_pure, Result.andThen_ok]; exact hz, hr⟩
        · simp at h1
      · simp at h1
  | [], _ :: _, _, _, _, hv, _, _ => hv.elim
  | _ :: _, [], _, _, _, hv, _, _ => hv.elim

theorem max_ok : ∀ {vs : List AV} {us : List Value} {x r : AV} {u : Value}, L2 (V ι) vs us → V ι x u → vs.foldl amax1 (some x) = some r → ∃ z, (us.foldlM Builtin.max2 u).run P w = .ok z w ∧ V ι r z
  | [], [], x, r, u, _, hx, h => by
    simp at h; subst h
    exact ⟨u, by simp, hx⟩
  | v :: vs, y :: us, x, r, u, hv, hx, h => by
    simp only [List.foldl_cons] at h
    cases h1 : amax1 (some x) v with
    | none =>
      rw [h1] at h
      have : ∀ l : List AV, l.foldl amax1 none = none := fun l => by induction l with
        | nil => rfl
        | cons a l ih => simp only [List.foldl_cons]; exact ih
      rw [this] at h; cases h
    | some x' =>
      rw [h1] at h
      unfold amax1 at h1
      split at h1
      · rename_i k a k' b heq
        simp only [Option.some.injEq] at heq; subst heq
        split at h1
        · rename_i hk
          subst hk
          simp at h1; subst h1
          obtain rfl := hx.int_inv
          obtain rfl := hv.1.int_inv
          obtain ⟨z, hz, hr⟩ := max_ok hv.2 (.int ι k (if a < b then b else a)) h
          exact ⟨z, by simp only [List.foldlM_cons, Sem.run_bind, Builtin.max2, Sem.run_pure, Result.andThen_ok]; exact hz, hr⟩
        · simp at h1
      · simp at h1
  | [], _ :: _, _, _, _, hv, _, _ => hv.elim
  | _ :: _, [], _, _, _, hv, _, _ => hv.elim

theorem ok_len (hr : HR P ι w B L) {t ty : TypeId} {x r : AV} {u : Value} (hx : V ι x u) (h : alen P L t x = some r) : ∃ z, (Builtin.len_ #[t] ty #[u]).run P w = .ok z w ∧ V ι r z := by
  unfold alen at h
  split at h
  · rename_i s hk
    obtain rfl := hx.str_inv
    simp at h; subst h
    exact ⟨_, by simp [Builtin.len_, run_underlying (tk_str hk), goInt, size_of], .int _ _ _⟩
  · rename_i n e hk
    simp at h; subst h
    exact ⟨.int .i64 n, by cases u <;> simp [Builtin.len_, run_underlying (tk_arr hk), goInt], .int _ _ _⟩
  · rename_i e a n c hk
    simp at h; subst h
    cases a with
    | none =>
      obtain ⟨rfl, rfl, rfl⟩ := hx.sl_none
      exact ⟨_, by simp [Builtin.len_, run_underlying (tk_slice hk), goInt], .int _ _ _⟩
    | some a =>
      obtain ⟨p, l, rfl, _⟩ := hx.sl_inv
      exact ⟨_, by simp [Builtin.len_, run_underlying (tk_slice hk), goInt], .int _ _ _⟩
  · rename_i k e hk
    obtain rfl := hx.map_none
    simp at h; subst h
    exact ⟨_, by simp [Builtin.len_, run_underlying (tk_map hk), goInt], .int _ _ _⟩
  · rename_i k e b hk
    obtain ⟨l, hl, rfl⟩ := hx.map_inv
    split at h
    · rename_i t' es c hL
      simp at h; subst h
      obtain ⟨l', hl', hR, _⟩ := hr.obj b _ hL
      simp only [AObj.gen] at hl'
      rw [hl] at hl'; cases hl'
      obtain ⟨es', e1, e2, _⟩ := hR
      have hget : (getObj l.blk).run P w = .ok (.map es' c) w := by simp [getObj, Sem.run, e1]
      have := e2.length
      simp only [Array.length_toList] at this
      exact ⟨_, by simp [Builtin.len_, run_underlying (tk_map hk), goInt, hget, this], .int _ _ _⟩
    · simp at h
  · simp at h

theorem kk_notTup {k : AV} (h : (shapeOf k).isSome) : ∀ vs, k ≠ .tup vs := by
  rintro vs rfl; simp [shapeOf, kkOfV] at h

theorem plain_L2 : ∀ {vs : List AV} {us : List Value}, L2 (V ι) vs us → vs.all AV.plain = true → L2 (Vp ι) vs us
  | [], [], _, _ => trivial
  | v :: vs, u :: us, h, hp => by
    simp only [List.all_cons, Bool.and_eq_true] at hp
    exact ⟨h.1.to_Vp hp.1, plain_L2 h.2 hp.2⟩
  | [], _ :: _, h, _ => h.elim
  | _ :: _, [], h, _ => h.elim

theorem OpOk.val {r : Result Next} {v : AV} {δ : Delta} (h : ∃ ι' w' z, r = .ok (.value z) w' ∧ V ι' v z ∧ Step P ι w B L ι' w' (upd L next δ) ∧ (∀ b g' l', ι' b g' = some l' → ι b g' = some l' ∨ δ.touches next b)) :
    OpOk P ι w B L next r v δ := by
  obtain ⟨ι', w', z, h1, h2, h3, h4⟩ := h
  exact ⟨ι', w', z, .inl h1, h2, h3, h4⟩

theorem OpOk.unit {r : Result Next} {δ : Delta} (h : ∃ ι' w', r = .ok .skip w' ∧ Step P ι w B L ι' w' (upd L next δ) ∧ (∀ b g' l', ι' b g' = some l' → ι b g' = some l' ∨ δ.touches next b)) :
    OpOk P ι w B L next r (.tup []) δ := by
  obtain ⟨ι', w', h1, h3, h4⟩ := h
  exact ⟨ι', w', undef, .inr ⟨h1, rfl⟩, .undef _, h3, h4⟩

theorem fieldKinds_mem : ∀ {fs : List Field} {i : Nat} {ks : List KK}, fieldKinds P fs i = some ks → ∀ f ∈ fs, ∃ k, kkOf (tk P f.type) = some k
  | [], i, ks, h, f, hf => by simp at hf
  | f0 :: fs, i, ks, h, f, hf => by
    unfold fieldKinds at h
    split at h
    · rename_i k ks' hk hrest
      rcases List.mem_cons.1 hf with rfl | hf
      · exact ⟨k, hk⟩
      · exact fieldKinds_mem hrest f hf
    · simp at h

theorem eqGuard_false {t : TypeId} {ks : List KK} (h : kshape P t = some (.many ks)) : P.eqGuardType P.depth t = false := by
  obtain ⟨fs, hu, _, hf⟩ := kshape_many h
  have : ∀ n, P.eqGuardType (n + 2) t = false := by
    intro n
    simp only [Program.eqGuardType, hu]
    rw [Array.any_eq_false]
    intro i hi
    have hm : fs[i] ∈ fs.toList := by simp
    obtain ⟨k, hk⟩ := fieldKinds_mem hf _ hm
    have : P.underlying fs[i].type ≠ none := by intro hn; simp [tk, hn, kkOf] at hk
    cases hfu : P.underlying fs[i].type with
    | none => exact absurd hfu this
    | some d => cases d <;> simp [tk, hfu, kkOf] at hk ⊢
  exact this (2 * (P.types.size + Made.depth))

theorem ok_eqAgg {t : TypeId} {a b : List AV} {r : Bool} {u v : Value} (ha : V ι (.agg a) u) (hb : V ι (.agg b) v) (h0 : (kshape P t).isSome) (h1 : kshape P t = shapeOf (.agg a)) (h2 : kshape P t = shapeOf (.agg b))
    (h : keq (.agg a) (.agg b) = some r) (x y : Operand) :
    (do eqGuard .eql t x y u v; binOp .eql t u v : Sem Value).run P w = .ok (.bool r) w ∧ (do eqGuard .neq t x y u v; binOp .neq t u v : Sem Value).run P w = .ok (.bool (!r)) w := by
  obtain ⟨sh, hsh⟩ := Option.isSome_iff_exists.1 h0
  have hsa : shapeOf (.agg a) = some sh := by rw [← h1, hsh]
  have hsb : shapeOf (.agg b) = some sh := by rw [← h2, hsh]
  obtain ⟨r', e1, _, e2, _⟩ := keq_spec (P := P) (w := w) (ha.to_Va (by simp)) (hb.to_Va (by simp)) hsh hsa hsb
  rw [h] at e1; cases e1
  obtain ⟨ks, rfl⟩ : ∃ ks, sh = .many ks := by
    simp only [shapeOf] at hsa
    cases hx : kks a <;> simp [hx] at hsa
    exact ⟨_, hsa.symm⟩
  have hg := eqGuard_false hsh
  obtain ⟨us, rfl, _⟩ := ha.agg_inv
  obtain ⟨vs, rfl, _⟩ := hb.agg_inv
  have e3 : (Op.equalIn 10000 t (.agg us) (.agg vs)).run P w = .ok r w := e2
  constructor
  · simp only [Sem.run_bind, run_eqGuard_agg w _ t x y us vs hg, Result.andThen_ok, run_eql_struct, e3]
  · simp only [Sem.run_bind, run_eqGuard_agg w _ t x y us vs hg, Result.andThen_ok, run_neq_struct, e3]

theorem one_of {x : AV} : ∀ {l : List Value}, L2 (V ι) [x] l → ∃ u, l = [u] ∧ V ι x u
  | [u], h => ⟨u, rfl, h.1⟩
  | [], h => h.elim
  | _ :: _ :: _, h => h.2.elim

theorem two_of {x y : AV} : ∀ {l : List Value}, L2 (V ι) [x, y] l → ∃ u v, l = [u, v] ∧ V ι x u ∧ V ι y v
  | [u, v], h => ⟨u, v, rfl, h.1, h.2.1⟩
  | [], h => h.elim
  | [_], h => h.2.elim
  | _ :: _ :: _ :: _, h => h.2.2.elim

set_option maxHeartbeats 1000000 in
theorem ok_aop (hr : HR P ι w B L) {ev : Ev} {ρ : Operand → Value} (he : ∀ x v, ev x = some v → V ι v (ρ x))
    {o : Oper} {v : AV} {δ : Delta} (h : aop P ev L next o.op = some (v, δ)) (hnf : (∃ ob, δ = .new ob) → L next = none ∧ ∀ g, ι next g = none) : OpOk P ι w B L next ((execOp ρ o).run P w) v δ := by
  obtain ⟨dst, op, type, pos, after, guard⟩ := o
  simp only at h
  cases op <;> simp only [aop] at h <;> simp only [execOp]
  case move x =>
    cases hx : ev x <;> simp [hx] at h
    obtain ⟨rfl, rfl⟩ := h
    exact .pure hr (by simp) (he x _ hx)
  case assign x =>
    cases hx : ev x <;> simp [hx] at h
    obtain ⟨rfl, rfl⟩ := h
    exact .pure hr (by simp) (he x _ hx)
  case pick c a b =>
    split at h
    · rename_i c' a' b' h1 h2 h3
      simp at h
      obtain ⟨rfl, rfl⟩ := h
      have hc := (he _ _ h1).bool_inv
      refine .pure hr (u := if c' then ρ a else ρ b) (by simp [hc, asBool]) ?_
      cases c'
      · exact he _ _ h3
      · exact he _ _ h2
    · simp at h
  case alloc t =>
    split at h
    · rename_i z hz
      split at h
      · simp at h
        obtain ⟨rfl, rfl⟩ := h
        obtain ⟨w', u, h1, h2, h3, h4⟩ := ok_alloc (next := next) hr (hnf ⟨_, rfl⟩).1 (hnf ⟨_, rfl⟩).2 hz
        exact .val ⟨_, w', u, by simp [h1], h2, h3, h4⟩
      · simp at h
    · simp at h
  case box t x =>
    split at h
    · rename_i a ha
      split at h
      · rename_i hone
        simp at h
        obtain ⟨rfl, rfl⟩ := h
        obtain ⟨w', u, h1, h2, h3, h4⟩ := ok_box (next := next) hr (hnf ⟨_, rfl⟩).1 (hnf ⟨_, rfl⟩).2 (t := t) (he _ _ ha) hone
        exact .val ⟨_, w', u, by simp [h1], h2, h3, h4⟩
      · simp at h
    · simp at h
  case build t parts =>
    split at h
    · rename_i ps hps
      cases hb : abuild P t ps <;> simp [hb] at h
      obtain ⟨rfl, rfl⟩ := h
      have hp := evP_L2 he hps
      obtain ⟨z, h1, h2⟩ := ok_build (w := w) (qs := parts.map fun (i, x) => (i, ρ x)) (by simpa using hp) hb
      exact .pure hr (by simp [h1]) h2
    · simp at h
  case buildSlice t n parts =>
    split at h
    · rename_i ps hps
      have hp := evP_L2 he hps
      obtain ⟨ι', w', u, h1, h2, h3, h4⟩ := ok_buildSlice (next := next) hr (qs := parts.map fun (i, x) => (i, ρ x)) (by simpa using hp) h hnf
      exact .val ⟨ι', w', u, by simp [h1], h2, h3, h4⟩
    · simp at h
  case insert t m k x =>
    split at h
    · rename_i m' k' x' h1 h2 h3
      split at h
      · rename_i hnt
        cases hu : amapUpdate P L t m' k' x' <;> simp [hu] at h
        obtain ⟨rfl, rfl⟩ := h
        obtain ⟨ι', w', q1, q2, q3⟩ := ok_mapUpdate (next := next) hr (he _ _ h1) (he _ _ h2) (he _ _ h3) (by rintro vs rfl; simp [AV.notTup] at hnt) hu
        exact .unit ⟨ι', w', by simp [q1], q2, q3⟩
      · simp at h
    · simp at h
  case load t a =>
    split at h
    · rename_i p hp
      cases hl : aload P L t p <;> simp [hl] at h
      obtain ⟨rfl, rfl⟩ := h
      obtain ⟨x, h1, h2⟩ := ok_load hr (he _ _ hp) hl
      exact .pure hr (by simp [h1]) h2
    · simp at h
  case store t a x =>
    split at h
    · rename_i p x' hp hx
      cases hs : astore P L t p x' <;> simp [hs] at h
      obtain ⟨rfl, rfl⟩ := h
      obtain ⟨ι', w', h1, h2, h3⟩ := ok_store (next := next) hr (he _ _ hp) (he _ _ hx) hs
      exact .unit ⟨ι', w', by simp [h1], h2, h3⟩
    · simp at h
  case nilCheck x =>
    split at h
    · rename_i a ha
      have hx := he _ _ ha
      cases hk : nilck a <;> simp [hk] at h
      obtain ⟨rfl, rfl⟩ := h
      unfold nilck at hk
      split at hk
      · obtain ⟨l, hl, hsub, hv⟩ := hx.ptr_inv
        simp at hk; subst hk
        exact .pure hr (u := ρ x) (by simp only [hv]; rfl) hx
      · obtain ⟨cs, hv, _⟩ := hx.fn_inv
        simp at hk; subst hk
        exact .pure hr (u := ρ x) (by simp only [hv]; rfl) hx
      · obtain ⟨y, hv, _⟩ := hx.ifc_inv
        simp at hk; subst hk
        exact .pure hr (u := ρ x) (by simp only [hv]; rfl) hx
      · rename_i q
        simp at hk; subst hk
        cases q with
        | none =>
          have hv := hx.map_none
          exact .pure hr (u := ρ x) (by simp only [hv]; rfl) hx
        | some q =>
          obtain ⟨l, _, hv⟩ := hx.map_inv
          exact .pure hr (u := ρ x) (by simp only [hv]; rfl) hx
      · simp at hk
    · simp at h
  case binOp op t x y ty =>
    split at h
    · rename_i a b ha hb
      split at h
      · rename_i hc
        obtain ⟨rfl, h0, h1, h2⟩ := hc
        cases hk : keq (.agg a) (.agg b) <;> simp [hk] at h
        obtain ⟨rfl, rfl⟩ := h
        have := (ok_eqAgg (w := w) (he _ _ ha) (he _ _ hb) h0 h1 h2 hk x y).1
        exact .pure hr (by simp only [Sem.run_bind] at this ⊢; rw [this]; rfl) (.bool _ _)
      · split at h
        · rename_i hc
          obtain ⟨rfl, h0, h1, h2⟩ := hc
          cases hk : keq (.agg a) (.agg b) <;> simp [hk] at h
          obtain ⟨rfl, rfl⟩ := h
          have := (ok_eqAgg (w := w) (he _ _ ha) (he _ _ hb) h0 h1 h2 hk x y).2
          exact .pure hr (by simp only [Sem.run_bind] at this ⊢; rw [this]; rfl) (.bool _ _)
        · simp at h
    · rename_i a b _ ha hb
      cases hk : abin (tk P t) op a b <;> simp [hk] at h
      obtain ⟨rfl, rfl⟩ := h
      obtain ⟨z, h1, h2⟩ := ok_bin (w := w) (he _ _ ha) (he _ _ hb) hk x y
      exact .pure hr (by simp only [Sem.run_bind] at h1 ⊢; rw [h1]; rfl) h2
    · simp at h
  case unOp op t x =>
    split at h
    · rename_i a ha
      cases hk : aun op a <;> simp [hk] at h
      obtain ⟨rfl, rfl⟩ := h
      obtain ⟨z, h1, h2⟩ := ok_un (P := P) (w := w) (he _ _ ha) hk
      exact .pure hr (by simp [h1]) h2
    · simp at h
  case convert s d x =>
    split at h
    · rename_i a ha
      obtain ⟨ι', w', u, h1, h2, h3, h4⟩ := ok_conv (next := next) hr (he _ _ ha) h hnf
      exact .val ⟨ι', w', u, by simp [h1], h2, h3, h4⟩
    · simp at h
  case makeInterface t x =>
    have hk1 : tk P t ≠ .iface := by intro hh; simp [hh] at h
    have hk2 : tk P t ≠ .other := by intro hh; simp [hh] at h
    cases ha : ev x with
    | none => cases hk : tk P t <;> simp [hk, ha] at h
    | some a =>
      have h' : (if a.plain = true then some (AV.ifc t a, Delta.no) else none) = some (v, δ) := by
        cases hk : tk P t <;> simp only [hk, ha] at h <;> first | exact h | exact absurd hk hk1 | exact absurd hk hk2
      clear h
      split at h'
      · rename_i hp
        simp at h'
        obtain ⟨rfl, rfl⟩ := h'
        have hcon : P.concrete t = true := by
          unfold Program.concrete
          unfold tk at hk1 hk2
          cases hu : P.underlying t with
          | none => simp [hu] at hk2
          | some d => cases d <;> first | rfl | (simp [hu] at hk1)
        have hv : V ι (.ifc t a) (.iface t (ρ x)) := by
          simp only [V, Va, Vc]
          exact ⟨trivial, (he _ _ ha).to_Vp hp⟩
        exact .pure hr (by simp [run_makeInterface w t _ hcon]) hv
      · simp at h'
  case makeFunc f first caps =>
    split at h
    · rename_i vs hvs
      split at h
      · rename_i hc
        obtain ⟨hc1, hc2⟩ := hc
        simp at h
        obtain ⟨rfl, rfl⟩ := h
        have hf0 := Array.eq_empty_of_size_eq_zero hc1
        subst hf0
        have hp := plain_L2 (evL_L2 he hvs) hc2
        have hv : V ι (.fn f vs) (.func f #[] (caps.map ρ)) := by
          simp only [V, Va, Vc]
          exact ⟨trivial, trivial, by simpa using hp⟩
        exact .pure hr (by simp [Instr.makeFunc]) hv
      · simp at h
    · simp at h
  case makeMap t r =>
    split at h
    · rename_i kt et hk
      split at h
      · rename_i hks
        simp at h
        obtain ⟨rfl, rfl⟩ := h
        have hst := hr_new hr (hnf ⟨_, rfl⟩).1 (hnf ⟨_, rfl⟩).2 (o := .map t [] 0) (l := ⟨w.heap.size, 0, 0, 0⟩) (w' := w.alloc (.map #[] 0)) rfl (fun c hc => alloc_old w _ c hc) (by simp) ⟨Nat.le_refl _, by simp⟩ ⟨rfl, rfl, rfl⟩
          (fun ι' he => ⟨#[], alloc_new w _, trivial, by simp [keyKind, hk, hks], fun x hx => by simp at hx⟩)
        refine .val ⟨_, _, .map (some w.heap.size), by simp [Instr.makeMap], ?_, hst.1, hst.2⟩
        exact ⟨_, Inj.set_same .., rfl⟩
      · simp at h
    · simp at h
  case makeSlice t l c =>
    split at h
    · rename_i l' c' hl hc
      obtain ⟨ι', w', u, h1, h2, h3, h4⟩ := ok_makeSlice (next := next) hr (he _ _ hl) (he _ _ hc) h hnf
      exact .val ⟨ι', w', u, by simp [h1], h2, h3, h4⟩
    · simp at h
  case slice t x lo hi mx =>
    split at h
    · rename_i x' lo' hi' mx' hx hlo hhi hmx
      cases hk : aslice P t x' lo' hi' mx' <;> simp [hk] at h
      obtain ⟨rfl, rfl⟩ := h
      obtain ⟨z, h1, h2⟩ := ok_slice (w := w) (he _ _ hx) (evO_VO he hlo) (evO_VO he hhi) (evO_VO he hmx) hk
      exact .pure hr (by simp [h1]) h2
    · simp at h
  case fieldAddr t x f =>
    split at h
    · rename_i a o u hx hfd
      split at h
      · rename_i hpos
        simp at h
        obtain ⟨rfl, rfl⟩ := h
        obtain ⟨z, h1, h2⟩ := ok_fieldAddr (w := w) (he _ _ hx) hfd hpos
        exact .pure hr (by simp [h1]) h2
      · simp at h
    · simp at h
  case field t x f =>
    split at h
    · rename_i cs o u hx hfd
      cases hk : Go.AM.apart P u cs o <;> simp [hk] at h
      obtain ⟨rfl, rfl⟩ := h
      obtain ⟨z, h1, h2⟩ := ok_field (w := w) (he _ _ hx) hfd hk
      exact .pure hr (by simp [h1]) h2
    · simp at h
  case indexAddr t x i =>
    split at h
    · rename_i x' i' hx hi
      cases hk : aindexAddr P t x' i' <;> simp [hk] at h
      obtain ⟨rfl, rfl⟩ := h
      obtain ⟨z, h1, h2⟩ := ok_indexAddr (w := w) (he _ _ hx) (he _ _ hi) hk
      exact .pure hr (by simp [h1]) h2
    · simp at h
  case index t x i =>
    split at h
    · rename_i x' i' hx hi
      cases hk : aindex P t x' i' <;> simp [hk] at h
      obtain ⟨rfl, rfl⟩ := h
      obtain ⟨z, h1, h2⟩ := ok_index (w := w) (he _ _ hx) (he _ _ hi) hk
      exact .pure hr (by simp [h1]) h2
    · simp at h
  case lookup t m k ok =>
    split at h
    · rename_i m' k' hm hk
      cases hl : alookup P L t m' k' ok <;> simp [hl] at h
      obtain ⟨rfl, rfl⟩ := h
      obtain ⟨z, h1, h2⟩ := ok_lookup hr (he _ _ hm) (he _ _ hk) hl
      exact .pure hr (by simp [h1]) h2
    · simp at h
  case mapUpdate t m k x =>
    split at h
    · rename_i m' k' x' h1 h2 h3
      split at h
      · rename_i hnt
        cases hu : amapUpdate P L t m' k' x' <;> simp [hu] at h
        obtain ⟨rfl, rfl⟩ := h
        obtain ⟨ι', w', q1, q2, q3⟩ := ok_mapUpdate (next := next) hr (he _ _ h1) (he _ _ h2) (he _ _ h3) (by rintro vs rfl; simp [AV.notTup] at hnt) hu
        exact .unit ⟨ι', w', by simp [q1], q2, q3⟩
      · simp at h
    · simp at h
  case range t x =>
    split at h
    · rename_i s hk hx
      simp at h
      obtain ⟨rfl, rfl⟩ := h
      obtain ⟨ι', w', u, h1, h2, h3, h4⟩ := ok_range (next := next) hr (hnf ⟨_, rfl⟩).1 (hnf ⟨_, rfl⟩).2 hk (he _ _ hx)
      exact .val ⟨ι', w', u, by simp [h1], h2, h3, h4⟩
    · simp at h
  case next it isS =>
    cases isS
    · simp [aop] at h
    · simp only [aop] at h
      split at h
      · rename_i x hx
        obtain ⟨ι', w', u, h1, h2, h3, h4⟩ := ok_next (next := next) (ty := type) hr (he _ _ hx) h
        exact .val ⟨ι', w', u, by simp [h1], h2, h3, h4⟩
      · simp at h
  case extract t i =>
    split at h
    · rename_i vs hx
      cases hk : vs[i]? <;> simp [hk] at h
      obtain ⟨rfl, rfl⟩ := h
      obtain ⟨us, hu, hl⟩ := (he _ _ hx).tup_inv
      obtain ⟨z, hz, hv⟩ := hl.get i _ hk
      have hz' : us[i]? = some z := by simpa using hz
      exact .pure hr (by simp [hu, Instr.extract, hz']) (.of_Va hv)
    · simp at h
  case call c =>
    obtain ⟨callee, args, argTypes⟩ := c
    simp only at h
    split at h
    · split at h
      · rename_i t x ht hx
        cases hk : alen P L t x <;> simp [hk] at h
        obtain ⟨rfl, rfl⟩ := h
        have hl := evL_L2 he hx
        obtain ⟨u, hu, hv⟩ := one_of hl
        have hargs : args.map ρ = #[u] := Array.ext' (by simpa using hu)
        have hat : argTypes = #[t] := Array.ext' (by simpa using ht)
        obtain ⟨z, h1, h2⟩ := ok_len (ty := type) hr hv hk
        exact .pure hr (by simp [resolve, invoke, builtin, hargs, hat, h1]) h2
      · simp at h
    · split at h
      · rename_i t u s x ht hx
        have hl := evL_L2 he hx
        obtain ⟨us, ux, hu, hv1, hv2⟩ := two_of hl
        have hargs : args.map ρ = #[us, ux] := Array.ext' (by simpa using hu)
        have hat : argTypes = #[t, u] := Array.ext' (by simpa using ht)
        obtain ⟨ι', w', z, h1, h2, h3, h4⟩ := ok_append (next := next) (ty := type) hr hv1 hv2 h hnf
        exact .val ⟨ι', w', z, by simp [resolve, invoke, builtin, hargs, hat, h1], h2, h3, h4⟩
      · simp at h
    · split at h
      · rename_i vs hx
        cases hk : amin vs <;> simp [hk] at h
        obtain ⟨rfl, rfl⟩ := h
        have hl := evL_L2 he hx
        cases vs with
        | nil => simp [amin] at hk
        | cons x r =>
          have hargs := hl
          cases hm : args.toList.map ρ with
          | nil => rw [hm] at hl; exact hl.elim
          | cons u us =>
            rw [hm] at hl
            obtain ⟨z, h1, h2⟩ := min_ok (P := P) (w := w) hl.2 hl.1 hk
            have : (args.map ρ).toList = u :: us := by simpa using hm
            exact .pure hr (by simp [resolve, invoke, builtin, Builtin.min_, hm, h1]) h2
      · simp at h
    · split at h
      · rename_i vs hx
        cases hk : amax vs <;> simp [hk] at h
        obtain ⟨rfl, rfl⟩ := h
        have hl := evL_L2 he hx
        cases vs with
        | nil => simp [amax] at hk
        | cons x r =>
          cases hm : args.toList.map ρ with
          | nil => rw [hm] at hl; exact hl.elim
          | cons u us =>
            rw [hm] at hl
            obtain ⟨z, h1, h2⟩ := max_ok (P := P) (w := w) hl.2 hl.1 hk
            exact .pure hr (by simp [resolve, invoke, builtin, Builtin.max_, hm, h1]) h2
      · simp at h
    · simp at h
  all_goals (simp at h)

end Go.AM
