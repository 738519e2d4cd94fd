/-
  One operation of the abstract machine stands for one of the model's: maps, iterators; then all of them together.
-/
import Derived.Test.YtamidpfdiijjgaaAM6
namespace Go.AM
open Go
set_option linter.unusedVariables false
set_option linter.unusedSimpArgs false
variable {P : Program} {ι : Inj} {w : World} {B : Nat} {L : Look} {next : Nat}

/-! ### keys -/

/-- A key's cell has one value alone. -/
theorem ikey_spec {a b : AV} {u v : Value} {k : KK} (ha : V ι a u) (hb : V ι b v) (hka : kkOfV a = some k) (hkb : kkOfV b = some k) :
    ∃ r, ikey a b = some r ∧ (r = true → u = v) ∧ (∀ t d, kkOf (tk P t) = some k → (Op.equalIn (d + 1) t u v).run P w = .ok r w) ∧
      (∀ td, (∃ t, P.underlying t = some td ∧ kkOf (tk P t) = some k) → Instr.sameNow td u v = some r) := by
  cases a <;> simp [kkOfV] at hka <;> cases b <;> simp [kkOfV] at hkb <;> subst hka <;> simp at hkb
  case bool.bool a b =>
    obtain rfl := ha.bool_inv
    obtain rfl := hb.bool_inv
    refine ⟨decide (a = b), rfl, by simp, fun t d ht => ?_, fun td ⟨t, h1, h2⟩ => ?_⟩
    · have hk : tk P t = .bool := by cases h : tk P t <;> simp [kkOf, h] at ht ⊢
      rw [run_equalIn_bool' w d t a b (tk_bool hk)]
      cases a <;> cases b <;> rfl
    · have hk : tk P t = .bool := by cases h : tk P t <;> simp [kkOf, h] at h2 ⊢
      rw [tk_bool hk] at h1; cases h1
      simp only [Instr.sameNow]
      cases a <;> cases b <;> rfl
  case int.int k1 a k2 b =>
    obtain rfl := ha.int_inv
    obtain rfl := hb.int_inv
    subst hkb
    refine ⟨decide (a = b), by simp [ikey], by simp, fun t d ht => ?_, fun td ⟨t, h1, h2⟩ => ?_⟩
    · have hk : ∃ k, tk P t = .int k := by cases h : tk P t <;> simp [kkOf, h] at ht ⊢
      obtain ⟨k, hk⟩ := hk
      rw [run_equalIn_int w d t _ k a b (tk_int hk)]
      rfl
    · have hk : ∃ k, tk P t = .int k := by cases h : tk P t <;> simp [kkOf, h] at h2 ⊢
      obtain ⟨k, hk⟩ := hk
      rw [tk_int hk] at h1; cases h1
      simp only [Instr.sameNow, if_true]
      rfl
  case str.str a b =>
    obtain rfl := ha.str_inv
    obtain rfl := hb.str_inv
    have hbeq : ((ByteArray.mk a.toArray == ByteArray.mk b.toArray) : Bool) = decide (a = b) := by
      rw [beq_toListBytes, toList_of, toList_of, Bool.eq_iff_iff]; simp
    refine ⟨decide (a = b), rfl, by simp, fun t d ht => ?_, fun td ⟨t, h1, h2⟩ => ?_⟩
    · have hk : tk P t = .str := by cases h : tk P t <;> simp [kkOf, h] at ht ⊢
      rw [run_equalIn_string w d t _ _ (tk_str hk), toList_of, toList_of]
      congr 1
      rw [Bool.eq_iff_iff]; simp
    · have hk : tk P t = .str := by cases h : tk P t <;> simp [kkOf, h] at h2 ⊢
      rw [tk_str hk] at h1; cases h1
      simp only [Instr.sameNow]
      rw [hbeq]

/-- Does the key's type want its cells one by one? -/
theorem kshape_one {t : TypeId} {k : KK} (h : kshape P t = some (.one k)) : kkOf (tk P t) = some k := by
  unfold kshape at h
  split at h
  · split at h
    · simp at h
    · simp at h
  · cases hk : kkOf (tk P t) <;> simp [hk] at h
    simp [h]

theorem kshape_many {t : TypeId} {ks : List KK} (h : kshape P t = some (.many ks)) :
    ∃ fs, P.underlying t = some (.struct fs) ∧ P.stoodInHeld t = false ∧ fieldKinds P fs.toList 0 = some ks := by
  unfold kshape at h
  split at h
  · rename_i fs hu
    split at h
    · simp at h
    · rename_i hs
      cases hf : fieldKinds P fs.toList 0 with
      | none => simp [hf] at h
      | some x => simp [hf] at h; subst h; exact ⟨fs, hu, by simpa using hs, hf⟩
  · cases hk : kkOf (tk P t) <;> simp [hk] at h

theorem agk_of_kk {t : TypeId} {k : KK} (h : kkOf (tk P t) = some k) : agk (tk P t) = some false := by
  cases ht : tk P t <;> simp [kkOf, ht] at h <;> rfl

theorem kks_get : ∀ {cs : List AV} {ks : List KK}, kks cs = some ks → cs.length = ks.length ∧ ∀ (i : Nat) c, cs[i]? = some c → ∃ k, ks[i]? = some k ∧ kkOfV c = some k
  | [], ks, h => by simp [kks] at h; subst h; exact ⟨rfl, by simp⟩
  | c :: cs, ks, h => by
    unfold kks at h
    split at h
    · rename_i k ks' hk hks
      simp at h; subst h
      obtain ⟨h1, h2⟩ := kks_get hks
      refine ⟨by simp [h1], fun i c' hc => ?_⟩
      cases i with
      | zero => simp at hc; subst hc; exact ⟨k, rfl, hk⟩
      | succ i => simpa using h2 i c' (by simpa using hc)
    · simp at h

theorem ikeys_drop {xs ys : List AV} {i : Nat} (hx : i < xs.length) (hy : i < ys.length) :
    ikeys (xs.drop i) (ys.drop i) = match ikey xs[i] ys[i], ikeys (xs.drop (i + 1)) (ys.drop (i + 1)) with
      | some a, some b => some (a && b)
      | _, _ => none := by
  rw [List.drop_eq_getElem_cons hx, List.drop_eq_getElem_cons hy]
  rfl

theorem run_part {t : TypeId} {k : KK} (h : kkOf (tk P t) = some k) {vs : Array Value} {i : Nat} {v : Value} (hv : vs[i]? = some v) : (part t vs i).run P w = .ok v w := by
  obtain ⟨hagg, _⟩ := run_isAgg (agk_of_kk h) w
  simp [part, hagg, hv]

theorem eqFields_spec {xs ys : List AV} {us vs : Array Value} {ks0 : List KK} (hx : L2 (Vc ι) xs us.toList) (hy : L2 (Vc ι) ys vs.toList) (hkx : kks xs = some ks0) (hky : kks ys = some ks0) (d : Nat) :
    ∀ (fs : List Field) (i : Nat) (ks : List KK), fieldKinds P fs i = some ks → ks = ks0.drop i → 
      ∃ r, ikeys (xs.drop i) (ys.drop i) = some r ∧ (Op.eqFields (d + 1) us vs fs).run P w = .ok r w
  | [], i, ks, h, hk => by
    simp [fieldKinds] at h; subst h
    have h1 := (kks_get hkx).1
    have h2 := (kks_get hky).1
    have hlen : ks0.length ≤ i := by
      have := congrArg List.length hk; simp at this; omega
    rw [List.drop_eq_nil_of_le (by omega), List.drop_eq_nil_of_le (by omega)]
    exact ⟨true, rfl, by simp [Op.eqFields]⟩
  | f :: fs, i, ks, h, hk => by
    unfold fieldKinds at h
    split at h
    · rename_i k ks' hkf hrest
      split at h
      · rename_i hc
        obtain ⟨hoff, hname⟩ := hc
        simp at h; subst h
        have hi : i < ks0.length := by
          have := congrArg List.length hk; simp at this; omega
        rw [List.drop_eq_getElem_cons hi] at hk
        simp only [List.cons.injEq] at hk
        obtain ⟨hk1, hk2⟩ := hk
        have hxl := (kks_get hkx).1
        have hyl := (kks_get hky).1
        have hxi : i < xs.length := by omega
        have hyi : i < ys.length := by omega
        obtain ⟨u, hu, hcu⟩ := hx.get i xs[i] (by simp [hxi])
        obtain ⟨v, hv, hcv⟩ := hy.get i ys[i] (by simp [hyi])
        obtain ⟨kx, hkx1, hkx2⟩ := (kks_get hkx).2 i xs[i] (by simp [hxi])
        obtain ⟨ky, hky1, hky2⟩ := (kks_get hky).2 i ys[i] (by simp [hyi])
        rw [List.getElem?_eq_getElem hi] at hkx1 hky1
        simp only [Option.some.injEq] at hkx1 hky1
        rw [← hkx1, ← hk1] at hkx2
        rw [← hky1, ← hk1] at hky2
        obtain ⟨r, e1, _, e2, _⟩ := ikey_spec (P := P) (w := w) (.of_Vc hcu) (.of_Vc hcv) hkx2 hky2
        obtain ⟨r', f1, f2⟩ := eqFields_spec hx hy hkx hky d fs (i + 1) ks' hrest hk2
        rw [ikeys_drop hxi hyi, e1, f1]
        refine ⟨r && r', rfl, ?_⟩
        have p1 := run_part (P := P) (w := w) hkf (vs := us) (i := f.offset) (v := u) (by rw [hoff]; simpa using hu)
        have p2 := run_part (P := P) (w := w) hkf (vs := vs) (i := f.offset) (v := v) (by rw [hoff]; simpa using hv)
        have p3 := e2 f.type d hkf
        cases r
        · simp [Op.eqFields, hname, p1, p2, p3]
        · simp [Op.eqFields, hname, p1, p2, p3, f2]
      · simp at h
    · simp at h

theorem ikeys_eq : ∀ {xs ys : List AV} {us vs : List Value} {ks : List KK}, L2 (Vc ι) xs us → L2 (Vc ι) ys vs → kks xs = some ks → kks ys = some ks → ikeys xs ys = some true → us = vs
  | [], [], [], [], _, _, _, _, _, _ => rfl
  | x :: xs, y :: ys, u :: us, v :: vs, ks, hx, hy, hkx, hky, h => by
    unfold kks at hkx hky
    split at hkx
    · rename_i k1 ks1 h1 h2
      split at hky
      · rename_i k2 ks2 h3 h4
        simp at hkx hky
        subst hkx
        simp at hky
        obtain ⟨rfl, rfl⟩ := hky
        obtain ⟨r, e1, e2, _⟩ := ikey_spec (P := default) (w := default) (.of_Vc hx.1) (.of_Vc hy.1) h1 h3
        unfold ikeys at h
        rw [e1] at h
        cases hr : ikeys xs ys with
        | none => simp [hr] at h
        | some b =>
          simp [hr] at h
          rw [e2 h.1, ikeys_eq hx.2 hy.2 h2 h4 (by rw [hr, h.2])]
      · simp at hky
    · simp at hkx
  | [], _ :: _, _, _, _, _, _, _, _, h => by simp [ikeys] at h
  | _ :: _, [], _, _, _, _, _, _, _, h => by simp [ikeys] at h
  | [], [], _ :: _, _, _, hx, _, _, _, _ => hx.elim
  | [], [], [], _ :: _, _, _, hy, _, _, _ => hy.elim
  | _ :: _, _ :: _, [], _, _, hx, _, _, _, _ => hx.elim
  | _ :: _, _ :: _, _ :: _, [], _, _, hy, _, _, _ => hy.elim

/-- Two keys of one shape. -/
theorem keq_spec {kt : TypeId} {a b : AV} {u v : Value} {sh : Shape} (ha : Va ι a u) (hb : Va ι b v) (hs : kshape P kt = some sh) (hsa : shapeOf a = some sh) (hsb : shapeOf b = some sh) :
    ∃ r, keq a b = some r ∧ (r = true → u = v) ∧ (Op.equal kt u v).run P w = .ok r w ∧
      ∃ td, P.underlying kt = some td ∧ ((∃ k, sh = .one k) → Instr.sameNow td u v = some r) ∧ ((∃ ks, sh = .many ks) → Instr.sameNow td u v = none) := by
  cases sh with
  | one k =>
    have hk := kshape_one hs
    have h1 : kkOfV a = some k := by cases a <;> simp [shapeOf] at hsa <;> exact hsa
    have h2 : kkOfV b = some k := by cases b <;> simp [shapeOf] at hsb <;> exact hsb
    obtain ⟨r, e1, e2, e3, e4⟩ := ikey_spec (P := P) (w := w) (.of_Va ha) (.of_Va hb) h1 h2
    have hq : keq a b = ikey a b := by cases a <;> cases b <;> first | rfl | (simp [kkOfV] at h1 h2; done)
    obtain ⟨td, htd⟩ : ∃ td, P.underlying kt = some td := by
      cases hu : P.underlying kt with
      | none => simp [tk, hu, kkOf] at hk
      | some td => exact ⟨td, rfl⟩
    exact ⟨r, by rw [hq]; exact e1, e2, e3 kt 9999 hk, td, htd, fun _ => e4 td ⟨kt, htd, hk⟩, fun ⟨ks, h⟩ => by cases h⟩
  | many ks =>
    obtain ⟨fs, hu, hst, hf⟩ := kshape_many hs
    have ha' : ∃ xs, a = .agg xs ∧ kks xs = some ks := by
      cases a <;> simp [shapeOf] at hsa
      case agg xs => cases hx : kks xs <;> simp [hx] at hsa; subst hsa; exact ⟨xs, rfl, hx⟩
    have hb' : ∃ ys, b = .agg ys ∧ kks ys = some ks := by
      cases b <;> simp [shapeOf] at hsb
      case agg ys => cases hy : kks ys <;> simp [hy] at hsb; subst hsb; exact ⟨ys, rfl, hy⟩
    obtain ⟨xs, rfl, hx⟩ := ha'
    obtain ⟨ys, rfl, hy⟩ := hb'
    obtain ⟨us, rfl, hus⟩ := (V.of_Va ha).agg_inv
    obtain ⟨vs, rfl, hvs⟩ := (V.of_Va hb).agg_inv
    obtain ⟨r, e1, e2⟩ := eqFields_spec (P := P) (w := w) hus hvs hx hy 9998 fs.toList 0 ks hf rfl
    simp only [List.drop_zero] at e1
    have hfo : P.fieldsOf kt = fs := by simp [Program.fieldsOf, hu]
    refine ⟨r, e1, fun hr => ?_, ?_, .struct fs, hu, (fun ⟨k, h⟩ => (by cases h)), (fun _ => rfl)⟩
    · subst hr
      have := ikeys_eq hus hvs hx hy e1
      congr 1
      exact Array.ext' this
    · have := run_equalIn_struct (P := P) w 9999 kt us vs (by rw [hfo]; exact hu) hst
      rw [hfo] at this
      show (Op.equalIn (9999 + 1) kt (.agg us) (.agg vs)).run P w = _
      rw [this, e2]

/-- Where a key stands. -/
def mfindI (k : AV) : List (AV × AV × Nat) → Nat → Option (Nat × AV)
  | [], _ => none
  | (k', v, _) :: r, i => if keq k k' = some true then some (i, v) else mfindI k r (i + 1)

theorem mfind_eq (k : AV) : ∀ (es : List (AV × AV × Nat)) (i : Nat), mfind k es = (mfindI k es i).map (·.2)
  | [], i => rfl
  | (k', v, c) :: r, i => by
    unfold mfind mfindI
    split
    · rfl
    · exact mfind_eq k r (i + 1)

/-- The entries' keys are of one shape. -/
def Shaped (sh : Shape) (es : List (AV × AV × Nat)) : Prop := ∀ x ∈ es, shapeOf x.1 = some sh

theorem findKey_ok {kt : TypeId} {k : AV} {kv : Value} {sh : Shape} (hk : Va ι k kv) (hs : kshape P kt = some sh) (hsk : shapeOf k = some sh) {es : List (AV × AV × Nat)} {es' : List MapEntry}
    (he : L2 (entryR ι) es es') (hse : Shaped sh es) :
    ∃ r, (Instr.findKey kt kv es').run P w = .ok r w ∧
      match mfindI k es 0, r with
      | none, none => True
      | some (i, v), some (i', v') => i = i' ∧ Va ι v v'
      | _, _ => False := by
  have now : ∀ (es : List (AV × AV × Nat)) (es' : List MapEntry) (i : Nat) (td : TypeDesc) (k0 : KK), P.underlying kt = some td → sh = .one k0 → L2 (entryR ι) es es' → Shaped sh es →
      ∃ r, Instr.findNow td kv es' i = some r ∧ match mfindI k es i, r with
        | none, none => True
        | some (i, v), some (i', v') => i = i' ∧ Va ι v v'
        | _, _ => False := by
    intro es
    induction es with
    | nil => intro es' i td k0 htd hsh h1 h2; cases es' with
      | nil => exact ⟨none, rfl, trivial⟩
      | cons _ _ => exact h1.elim
    | cons x es ih => intro es' i td k0 htd hsh h1 h2; cases es' with
      | nil => exact h1.elim
      | cons e es' =>
        obtain ⟨hx, hr⟩ := h1
        obtain ⟨r, e1, e2, e3, td', e4, e5, _⟩ := keq_spec (w := w) hk hx.1 hs hsk (h2 x (List.mem_cons_self ..))
        rw [htd] at e4; cases e4
        have e5 := e5 ⟨k0, hsh⟩
        obtain ⟨xk, xv, xc⟩ := x
        simp only [mfindI, Instr.findNow, e1, e5]
        cases r with
        | true => exact ⟨some (i, e.val), rfl, by simp only [if_true]; exact ⟨trivial, hx.2.1⟩⟩
        | false =>
          simp only [Option.some.injEq, Bool.false_eq_true, if_false]
          exact ih es' (i + 1) td k0 htd hsh hr fun y hy => h2 y (List.mem_cons_of_mem _ hy)
  have asking : ∀ (es : List (AV × AV × Nat)) (es' : List MapEntry) (i : Nat), L2 (entryR ι) es es' → Shaped sh es →
      ∃ r, (Instr.findAsking kt kv es' i).run P w = .ok r w ∧ match mfindI k es i, r with
        | none, none => True
        | some (i, v), some (i', v') => i = i' ∧ Va ι v v'
        | _, _ => False := by
    intro es
    induction es with
    | nil => intro es' i h1 h2; cases es' with
      | nil => exact ⟨none, rfl, trivial⟩
      | cons _ _ => exact h1.elim
    | cons x es ih => intro es' i h1 h2; cases es' with
      | nil => exact h1.elim
      | cons e es' =>
        obtain ⟨hx, hr⟩ := h1
        obtain ⟨r, e1, e2, e3, _⟩ := keq_spec (w := w) hk hx.1 hs hsk (h2 x (List.mem_cons_self ..))
        obtain ⟨xk, xv, xc⟩ := x
        simp only [mfindI, Instr.findAsking, e1, Sem.run_bind, e3, Result.andThen_ok]
        cases r with
        | true => exact ⟨some (i, e.val), by simp, by simp only [if_true]; exact ⟨trivial, hx.2.1⟩⟩
        | false =>
          simp only [Option.some.injEq, Bool.false_eq_true, if_false]
          exact ih es' (i + 1) hr fun y hy => h2 y (List.mem_cons_of_mem _ hy)
  obtain ⟨td, htd⟩ : ∃ td, P.underlying kt = some td := by
    cases hu : P.underlying kt with
    | none => simp [kshape, tk, hu, kkOf] at hs
    | some td => exact ⟨td, rfl⟩
  unfold Instr.findKey
  simp only [Sem.run_bind, run_underlying htd, Result.andThen_ok]
  cases sh with
  | one k0 =>
    obtain ⟨r, h1, h2⟩ := now es es' 0 td k0 htd rfl he hse
    exact ⟨r, by rw [h1]; rfl, h2⟩
  | many ks =>
    cases es' with
    | nil => cases es with
      | nil => exact ⟨none, rfl, trivial⟩
      | cons _ _ => exact he.elim
    | cons e es' => cases es with
      | nil => exact he.elim
      | cons x es =>
        obtain ⟨r, e1, e2, e3, td', e4, _, e6⟩ := keq_spec (w := w) hk he.1.1 hs hsk (hse x (List.mem_cons_self ..))
        rw [htd] at e4; cases e4
        have e6 := e6 ⟨ks, rfl⟩
        have hnow : Instr.findNow td kv (e :: es') 0 = none := by simp [Instr.findNow, e6]
        obtain ⟨r, h1, h2⟩ := asking (x :: es) (e :: es') 0 he hse
        exact ⟨r, by rw [hnow]; exact h1, h2⟩

/-! ### maps -/

theorem checkKey_ok {kt : TypeId} {k : AV} {kv : Value} {sh : Shape} (hk : Va ι k kv) (hs : kshape P kt = some sh) (hsk : shapeOf k = some sh) (em : Bool) :
    (Instr.checkKey em 10000 kt kv).run P w = .ok () w := by
  have scalar : ∀ (t : TypeId) (k0 : KK) (c : AV) (v : Value) (n : Nat), kkOf (tk P t) = some k0 → kkOfV c = some k0 → Vc ι c v → (Instr.checkKey em (n + 1) t v).run P w = .ok () w := by
    intro t k0 c v n h1 h2 h3
    cases c <;> simp [kkOfV] at h2 <;> subst h2
    · obtain rfl := (V.of_Vc h3).bool_inv
      have hk : tk P t = .bool := by cases h : tk P t <;> simp [kkOf, h] at h1 ⊢
      simp [Instr.checkKey, run_underlying (tk_bool hk)]
    · obtain rfl := (V.of_Vc h3).int_inv
      have hk : ∃ k, tk P t = .int k := by cases h : tk P t <;> simp [kkOf, h] at h1 ⊢
      obtain ⟨k, hk⟩ := hk
      simp [Instr.checkKey, run_underlying (tk_int hk)]
    · obtain rfl := (V.of_Vc h3).str_inv
      have hk : tk P t = .str := by cases h : tk P t <;> simp [kkOf, h] at h1 ⊢
      simp [Instr.checkKey, run_underlying (tk_str hk)]
  cases sh with
  | one k0 =>
    have h1 : kkOfV k = some k0 := by cases k <;> simp [shapeOf] at hsk <;> exact hsk
    have hc : Vc ι k kv := V.to_Vc (.of_Va hk) (by cases k <;> simp [kkOfV, AV.one] at h1 ⊢)
    exact scalar kt k0 k kv 9999 (kshape_one hs) h1 hc
  | many ks =>
    obtain ⟨fs, hu, _, hf⟩ := kshape_many hs
    have hk' : ∃ xs, k = .agg xs ∧ kks xs = some ks := by
      cases k <;> simp [shapeOf] at hsk
      case agg xs => cases hx : kks xs <;> simp [hx] at hsk; subst hsk; exact ⟨xs, rfl, hx⟩
    obtain ⟨xs, rfl, hx⟩ := hk'
    obtain ⟨us, rfl, hus⟩ := (V.of_Va hk).agg_inv
    have go : ∀ (n : Nat) (fs : List Field) (i : Nat) (ks' : List KK), fieldKinds P fs i = some ks' → ks' = ks.drop i →
        (forIn fs PUnit.unit (fun f (_ : PUnit) => if f.name ≠ "_" then do
          let a ← part f.type us f.offset
          Instr.checkKey em (n + 1) f.type a
          pure (ForInStep.yield PUnit.unit)
        else pure (ForInStep.yield PUnit.unit)) : Sem PUnit).run P w = .ok PUnit.unit w := by
      intro n fs
      induction fs with
      | nil => intro i ks' _ _; rfl
      | cons f fs ih =>
        intro i ks' h hd
        unfold fieldKinds at h
        split at h
        · rename_i k0 ks1 hkf hrest
          split at h
          · rename_i hc
            obtain ⟨hoff, hname⟩ := hc
            simp at h; subst h
            have hi : i < ks.length := by
              have := congrArg List.length hd; simp at this; omega
            rw [List.drop_eq_getElem_cons hi] at hd
            simp only [List.cons.injEq] at hd
            obtain ⟨hd1, hd2⟩ := hd
            have hxl := (kks_get hx).1
            have hxi : i < xs.length := by omega
            obtain ⟨u, hu', hcu⟩ := hus.get i xs[i] (by simp [hxi])
            obtain ⟨kx, hkx1, hkx2⟩ := (kks_get hx).2 i xs[i] (by simp [hxi])
            rw [List.getElem?_eq_getElem hi] at hkx1
            simp only [Option.some.injEq] at hkx1
            rw [← hkx1, ← hd1] at hkx2
            have p1 := run_part (P := P) (w := w) hkf (vs := us) (i := f.offset) (v := u) (by rw [hoff]; simpa using hu')
            have p2 := scalar f.type k0 xs[i] u n hkf hkx2 hcu
            simp only [List.forIn_cons, Sem.run_bind, hname, ne_eq, not_false_eq_true, if_true, p1, Result.andThen_ok]
            simp only [p2, Result.andThen_ok, Sem.run_pure]
            exact ih (i + 1) ks1 hrest hd2
          · simp at h
        · simp at h
    have fin : ∀ n m, n + 1 = m → (Instr.checkKey em (m + 1) kt (.agg us)).run P w = .ok () w := by
      intro n m hm
      have := go n fs.toList 0 ks hf rfl
      simp only [hm] at this
      simp only [Instr.checkKey, Sem.run_bind, run_underlying hu, Result.andThen_ok]
      rw [← Array.forIn_toList]
      simp only [ne_eq, ite_not, bind_pure_comp] at this ⊢
      rw [this]
      rfl
    exact fin 9998 9999 rfl

theorem L2.mem {α β : Type} {R : α → β → Prop} {as : List α} {bs : List β} (h : L2 R as bs) : as.isEmpty = bs.isEmpty := by
  cases as <;> cases bs <;> first | rfl | exact h.elim

theorem ok_lookup (hr : HR P ι w B L) {t : TypeId} {m k r : AV} {um uk : Value} {ok : Bool} (hm : V ι m um) (hk : V ι k uk) (h : alookup P L t m k ok = some r) :
    ∃ z, (Instr.lookup t um uk ok).run P w = .ok z w ∧ V ι r z := by
  have zero : ∀ (et : TypeId) (z : AV), tzero P et = some z → ∃ zv, (zeroValue et).run P w = .ok zv w ∧ V ι z zv ∧ Va ι z zv := by
    intro et z hz
    obtain ⟨i, zv, hi, hiz, _, habs⟩ := zero_of hz
    have hv := (absV_cells habs ι).2
    refine ⟨zv, run_zeroValue hi hiz w, hv, hv.to_Va ?_⟩
    intro vs he; subst he
    unfold absV at habs
    split at habs
    · simp at habs
    · unfold absC at habs
      split at habs <;> first | (simp at habs; done) | (split at habs <;> simp at habs)
  have shp : ∀ kt, kshape P kt = shapeOf k → (shapeOf k).isSome → ∃ sh, kshape P kt = some sh ∧ shapeOf k = some sh ∧ Va ι k uk := by
    intro kt h1 h2
    obtain ⟨sh, hsh⟩ := Option.isSome_iff_exists.1 h2
    refine ⟨sh, by rw [h1, hsh], hsh, hk.to_Va ?_⟩
    rintro vs rfl; simp [shapeOf, kkOfV] at hsh
  unfold alookup at h
  split at h
  · rename_i kt et hkm
    obtain rfl := hm.map_none
    split at h
    · rename_i hc
      obtain ⟨sh, h1, h2, h3⟩ := shp kt hc.1 hc.2
      cases hz : tzero P et with
      | none => simp [hz] at h
      | some z =>
        simp [hz] at h
        obtain ⟨zv, z1, z2, z3⟩ := zero et z hz
        obtain ⟨r', f1, f2⟩ := findKey_ok (w := w) (ι := ι) h3 h1 h2 (es := []) (es' := []) trivial (fun _ h => by simp at h)
        simp only [mfindI] at f2
        cases r' with
        | some _ => exact f2.elim
        | none =>
          have hck := checkKey_ok (w := w) h3 h1 h2 true
          subst h
          cases ok
          · exact ⟨zv, by simp [Instr.lookup, run_underlying (tk_map hkm), hck, f1, z1], z2⟩
          · exact ⟨.tuple #[zv, .bool false], by simp [Instr.lookup, run_underlying (tk_map hkm), hck, f1, z1], ⟨z3, rfl, trivial⟩⟩
    · simp at h
  · rename_i kt et b hkm
    obtain ⟨l, hl, rfl⟩ := hm.map_inv
    split at h
    · rename_i t' es c hL
      split at h
      · rename_i hc
        obtain ⟨rfl, hc1, hc2⟩ := hc
        obtain ⟨sh, h1, h2, h3⟩ := shp kt hc1 hc2
        obtain ⟨l', hl', hR, _⟩ := hr.obj b _ hL
        simp only [AObj.gen] at hl'
        rw [hl] at hl'; cases hl'
        obtain ⟨es', e1, e2, e3, e4⟩ := hR
        have hsh : Shaped sh es := by
          intro x hx
          rw [e4 x hx]
          simp [keyKind, hkm, h1]
        obtain ⟨r', f1, f2⟩ := findKey_ok (w := w) h3 h1 h2 e2 hsh
        have hck := checkKey_ok (w := w) h3 h1 h2 es'.isEmpty
        have hget : (getObj l.blk).run P w = .ok (.map es' c) w := by simp [getObj, Sem.run, e1]
        rw [mfind_eq k es 0] at h
        cases hf : mfindI k es 0 with
        | some iv =>
          obtain ⟨i, v⟩ := iv
          rw [hf] at f2 h
          cases r' with
          | none => exact f2.elim
          | some iv' =>
            obtain ⟨i', v'⟩ := iv'
            simp only at f2
            simp at h; subst h
            have hva : Va ι v v' := f2.2
            cases ok
            · exact ⟨v', by simp [Instr.lookup, run_underlying (tk_map hkm), hget, hck, f1], .of_Va f2.2⟩
            · exact ⟨.tuple #[v', .bool true], by simp [Instr.lookup, run_underlying (tk_map hkm), hget, hck, f1], ⟨hva, rfl, trivial⟩⟩
        | none =>
          rw [hf] at f2 h
          cases r' with
          | some _ => exact f2.elim
          | none =>
            simp only [Option.map_none] at h
            cases hz : tzero P et with
            | none => simp [hz] at h
            | some z =>
              simp [hz] at h
              obtain ⟨zv, z1, z2, z3⟩ := zero et z hz
              subst h
              cases ok
              · exact ⟨zv, by simp [Instr.lookup, run_underlying (tk_map hkm), hget, hck, f1, z1], z2⟩
              · exact ⟨.tuple #[zv, .bool false], by simp [Instr.lookup, run_underlying (tk_map hkm), hget, hck, f1, z1], ⟨z3, rfl, trivial⟩⟩
      · simp at h
    · simp at h
  · simp at h

theorem mput_spec (k v : AV) (c : Nat) : ∀ (es : List (AV × AV × Nat)) (i : Nat),
    match mfindI k es i with
    | some (j, _) => ∃ n x, j = i + n ∧ es[n]? = some x ∧ keq k x.1 = some true ∧ mput k v c es = es.set n (k, v, x.2.2)
    | none => mput k v c es = es ++ [(k, v, c)]
  | [], i => rfl
  | (k', v', c') :: r, i => by
    unfold mfindI mput
    by_cases h : keq k k' = some true
    · simp only [h, if_true]
      exact ⟨0, (k', v', c'), by omega, rfl, h, rfl⟩
    · simp only [h, if_false]
      have ih := mput_spec k v c r (i + 1)
      cases hf : mfindI k r (i + 1) with
      | none => simp only [hf] at ih ⊢; rw [ih]; rfl
      | some jv =>
        obtain ⟨j, u⟩ := jv
        simp only [hf] at ih ⊢
        obtain ⟨n, x, h1, h2, h3, h4⟩ := ih
        exact ⟨n + 1, x, by omega, by simpa using h2, h3, by rw [h4]; rfl⟩

theorem sameBits_self {k : AV} {u : Value} {sh : Shape} (hk : Va ι k u) (hsk : shapeOf k = some sh) : Instr.sameBits 10000 u u = true := by
  have scalar : ∀ (c : AV) (v : Value) (k0 : KK) (n : Nat), Vc ι c v → kkOfV c = some k0 → Instr.sameBits n v v = true := by
    intro c v k0 n h1 h2
    cases c <;> simp [kkOfV] at h2
    · obtain rfl := (V.of_Vc h1).bool_inv
      cases n <;> simp [Instr.sameBits]
    · obtain rfl := (V.of_Vc h1).int_inv
      cases n <;> simp [Instr.sameBits]
    · obtain rfl := (V.of_Vc h1).str_inv
      cases n <;> simp [Instr.sameBits, beq_toListBytes]
  cases sh with
  | one k0 =>
    have h1 : kkOfV k = some k0 := by cases k <;> simp [shapeOf] at hsk <;> exact hsk
    have hc : Vc ι k u := V.to_Vc (.of_Va hk) (by cases k <;> simp [kkOfV, AV.one] at h1 ⊢)
    exact scalar k u k0 10000 hc h1
  | many ks =>
    have hk' : ∃ xs, k = .agg xs ∧ kks xs = some ks := by
      cases k <;> simp [shapeOf] at hsk
      case agg xs => cases hx : kks xs <;> simp [hx] at hsk; subst hsk; exact ⟨xs, rfl, hx⟩
    obtain ⟨xs, rfl, hx⟩ := hk'
    obtain ⟨us, rfl, hus⟩ := (V.of_Va hk).agg_inv
    have fin : ∀ n, Instr.sameBits (n + 1) (.agg us) (.agg us) = true := by
      intro n
      simp only [Instr.sameBits, beq_self_eq_true, Bool.true_and, List.all_eq_true]
      rintro ⟨a, b⟩ hab
      obtain ⟨i, hi⟩ := List.getElem?_of_mem hab
      rw [List.getElem?_zip_eq_some] at hi
      have hab' : a = b := by
        have h1 := hi.1; have h2 := hi.2
        simp only at h1 h2
        rw [h1] at h2; simpa using h2
      subst hab'
      have hil : i < xs.length := by
        rw [hus.length]; exact (List.getElem?_eq_some_iff.1 hi.1).1
      obtain ⟨u, hu, hc⟩ := hus.get i xs[i] (by simp [hil])
      have h1 := hi.1
      simp only at h1
      rw [hu] at h1
      obtain rfl := Option.some.inj h1
      obtain ⟨k0, _, hk0⟩ := (kks_get hx).2 i xs[i] (by simp [hil])
      exact scalar xs[i] _ k0 n hc hk0
    exact fin 9999

theorem L2.set {α β : Type} {R : α → β → Prop} : ∀ {as : List α} {bs : List β} {n : Nat} {a : α} {b : β}, L2 R as bs → R a b → L2 R (as.set n a) (bs.set n b)
  | [], [], n, a, b, _, _ => by simp [L2]
  | x :: as, y :: bs, 0, a, b, h, hr => ⟨hr, h.2⟩
  | x :: as, y :: bs, n + 1, a, b, h, hr => ⟨h.1, L2.set h.2 hr⟩
  | [], _ :: _, _, _, _, h, _ => h.elim
  | _ :: _, [], _, _, _, h, _ => h.elim

theorem ok_mapUpdate (hr : HR P ι w B L) {t : TypeId} {m k x : AV} {um uk ux : Value} {δ : Delta} (hm : V ι m um) (hk : V ι k uk) (hx : V ι x ux) (hxt : ∀ vs, x ≠ .tup vs)
    (h : amapUpdate P L t m k x = some δ) :
    ∃ ι' w', (Instr.mapUpdate t um uk ux).run P w = .ok () w' ∧ Step P ι w B L ι' w' (upd L next δ) ∧ (∀ b g' l', ι' b g' = some l' → ι b g' = some l' ∨ δ.touches next b) := by
  unfold amapUpdate at h
  split at h
  · rename_i kt et b hkm
    obtain ⟨l, hl, rfl⟩ := hm.map_inv
    split at h
    · rename_i t' es c hL
      split at h
      · rename_i hc
        obtain ⟨rfl, hc1, hc2⟩ := hc
        simp at h; subst h
        obtain ⟨sh, hsk⟩ := Option.isSome_iff_exists.1 hc2
        have hs : kshape P kt = some sh := by rw [hc1, hsk]
        have hka : Va ι k uk := hk.to_Va (by rintro vs rfl; simp [shapeOf, kkOfV] at hsk)
        have hxa : Va ι x ux := hx.to_Va hxt
        obtain ⟨l', hl', hR, hB⟩ := hr.obj b _ hL
        simp only [AObj.gen] at hl'
        rw [hl] at hl'; cases hl'
        obtain ⟨es', e1, e2, e3, e4⟩ := hR
        have hkk : keyKind P t' = some sh := by simp [keyKind, hkm, hs]
        have hsh : Shaped sh es := fun y hy => by rw [e4 y hy, hkk]
        obtain ⟨r', f1, f2⟩ := findKey_ok (w := w) hka hs hsk e2 hsh
        have hck := checkKey_ok (w := w) hka hs hsk false
        have hget : (getObj l.blk).run P w = .ok (.map es' c) w := by simp [getObj, Sem.run, e1]
        have hlt : l.blk < w.heap.size := (Array.getElem?_eq_some_iff.1 e1).1
        have hset : ∀ o : Obj, (setObj l.blk o).run P w = .ok () { w with heap := w.heap.setIfInBounds l.blk o } := fun o => by simp [setObj, Sem.run, e1]
        have spec := mput_spec k x c es 0
        have turn : ∀ (es1 : List (AV × AV × Nat)) (es1' : Array MapEntry) (c1 : Nat), L2 (entryR ι) es1 es1'.toList → (∀ y ∈ es1, shapeOf y.1 = keyKind P t') →
            Step P ι w B L (ι.set b 0 l) { w with heap := w.heap.setIfInBounds l.blk (.map es1' c1) } (upd L next (.set b (.map t' es1 c1))) ∧
            (∀ b0 g l1, ι.set b 0 l b0 g = some l1 → ι b0 g = some l1 ∨ b0 = b) := by
          intro es1 es1' c1 h1 h2
          refine hr_turn (next := next) hr (b := b) (o := .map t' es c) (o' := .map t' es1 c1) (l := l) (l' := l) hL rfl hl rfl (Nat.le_refl _) (fun _ => rfl) (fun c0 _ hc0 => ?_) (by simp) (.inl rfl) ⟨rfl, rfl, rfl⟩ (fun ι' he => ?_)
          · simp [Array.getElem?_setIfInBounds, Ne.symm hc0]
          · exact ⟨es1', by simp [hlt], h1.mono fun _ _ hh => ⟨hh.1.mono he, hh.2.1.mono he, hh.2.2⟩, e3, h2⟩
        cases hf : mfindI k es 0 with
        | some jv =>
          obtain ⟨j, v⟩ := jv
          rw [hf] at f2 spec
          simp only at spec
          obtain ⟨n, y, hj, hy, hkey, hput⟩ := spec
          cases r' with
          | none => exact f2.elim
          | some iv' =>
            obtain ⟨i', v'⟩ := iv'
            obtain ⟨hi, _⟩ := f2
            have hi' : i' = n := by omega
            subst hi'
            obtain ⟨e, he, hre⟩ := e2.get _ y hy
            have he' : es'[i']? = some e := by simpa using he
            obtain ⟨_, q1, q2, _⟩ := keq_spec (P := P) (w := w) hka hre.1 hs hsk (hsh y (List.mem_of_getElem? hy))
            rw [hkey] at q1; cases q1
            have hkeq := q2 rfl
            have hsb := sameBits_self hka hsk
            have hmf : (mfind k es).isSome = true := by rw [mfind_eq k es 0, hf]; rfl
            have hnew : L2 (entryR ι) (es.set i' (k, x, y.2.2)) (es'.modify i' fun e => { e with key := uk, val := ux }).toList := by
              have hl : (es'.modify i' fun e => { e with key := uk, val := ux }).toList = es'.toList.set i' { key := uk, val := ux, born := e.born } := by
                apply List.ext_getElem?
                intro q
                simp only [Array.getElem?_toList, Array.getElem?_modify, List.getElem?_set, Array.length_toList]
                by_cases hq : i' = q
                · subst hq
                  have : i' < es'.size := (Array.getElem?_eq_some_iff.1 he').1
                  have hb : es'[i'].born = e.born := by rw [(Array.getElem?_eq_some_iff.1 he').2]
                  simp [he', this, hb]
                · simp [hq]
              rw [hl]
              exact e2.set ⟨hka, hxa, hre.2.2⟩
            obtain ⟨s1, s2⟩ := turn _ _ c hnew (by
              intro z hz
              rcases List.mem_or_eq_of_mem_set hz with hz | hz
              · exact e4 z hz
              · subst hz; rw [hkk]; exact hsk)
            refine ⟨_, _, ?_, by rw [hput, if_pos hmf]; exact s1, fun b0 g l1 h => s2 b0 g l1 h⟩
            simp only [Instr.mapUpdate, Sem.run_bind, run_underlying (tk_map hkm), Result.andThen_ok, hget, hck, f1, he', Option.map_some, Option.getD_some]
            rw [← hkeq]
            simp only [Instr.keyThatStays, hsb, if_true, Sem.run_pure, Result.andThen_ok, hset]
        | none =>
          rw [hf] at f2 spec
          simp only at spec
          cases r' with
          | some _ => exact f2.elim
          | none =>
            have hmf : (mfind k es).isSome = false := by rw [mfind_eq k es 0, hf]; rfl
            obtain ⟨s1, s2⟩ := turn (es ++ [(k, x, c)]) (es'.push { key := uk, val := ux, born := c }) (c + 1) (by
              rw [Array.toList_push]
              exact e2.append ⟨⟨hka, hxa, rfl⟩, trivial⟩) (by
              intro z hz
              rcases List.mem_append.1 hz with hz | hz
              · exact e4 z hz
              · simp at hz; subst hz; rw [hkk]; exact hsk)
            refine ⟨_, _, ?_, by rw [spec, hmf]; exact s1, fun b0 g l1 h => s2 b0 g l1 h⟩
            simp only [Instr.mapUpdate, Sem.run_bind, run_underlying (tk_map hkm), Result.andThen_ok, hget, hck, f1, hset]
      · simp at h
    · simp at h
  · simp at h

end Go.AM
