/-
  One operation of the abstract machine stands for one of the model's: those that only reckon.
-/
import Derived.Test.YtamidpfdiijjgaaAM3
import Derived.Laws.StructEq
import Derived.Laws.Slices
import Derived.Laws.Build
namespace Go.AM
open Go
set_option linter.unusedVariables false
set_option linter.unusedSimpArgs false
variable {P : Program} {ι : Inj} {w : World} {B : Nat} {L : Look} {next : Nat}

theorem V.bool (ι : Inj) (b : Bool) : V ι (.bool b) (.bool b) := rfl
theorem V.int (ι : Inj) (k : IntKind) (n : Int) : V ι (.int k n) (.int k n) := ⟨rfl, rfl⟩
theorem V.str (ι : Inj) (s : List UInt8) : V ι (.str s) (.string ⟨s.toArray⟩) := by simp [V, Va, Vc, Vp]

theorem Vc.to_Vp {ι : Inj} {a : AV} {v : Value} (h : Vc ι a v) (hp : a.plain = true) : Vp ι a v := by
  cases a <;> cases v <;> simp [Vc, AV.plain] at h hp ⊢ <;> first | exact h | (simp [Vp] at h; done)

theorem V.to_Vp {ι : Inj} {a : AV} {v : Value} (h : V ι a v) (hp : a.plain = true) : Vp ι a v :=
  (h.to_Vc (by cases a <;> simp_all [AV.plain, AV.one])).to_Vp hp

theorem run_equal_bool {t : TypeId} (h : tk P t = .bool) (a b : Bool) : (Op.equal t (.bool a) (.bool b)).run P w = .ok (a == b) w :=
  run_equalIn_bool' (P := P) w 9999 t a b (tk_bool h)

theorem run_equal_of {t : TypeId} {u v : Value} {r : Bool} (h : ∀ d, (Op.equalIn (d + 1) t u v).run P w = .ok r w) : (Op.equal t u v).run P w = .ok r w := h 9999

theorem eq_cases {t : TypeId} {a b : AV} {r : Bool} {u v : Value} (ha : V ι a u) (hb : V ι b v) (h : aeq (tk P t) a b = some r) :
    (Op.equal t u v).run P w = .ok r w ∧ (∀ op x y, eqGuard op t x y u v = pure ()) ∧ (∀ k n, u ≠ .int k n) ∧ (∀ s, u ≠ .string s) ∧ (∀ op, binOp op t u v = match op with | .eql => (do pure (.bool (← Op.equal t u v)) : Sem Value) | .neq => (do pure (.bool (!(← Op.equal t u v)))) | _ => binOp op t u v) := by
  unfold aeq at h
  split at h
  · rename_i hk
    obtain rfl := ha.bool_inv
    obtain rfl := hb.bool_inv
    simp at h; subst h
    refine ⟨by rw [run_equal_bool hk]; congr 1, fun _ _ _ => by simp only [eqGuard_at_bool], by simp, by simp, fun op => by cases op <;> rfl⟩
  · rename_i hk
    obtain rfl := ha.ptr_none
    have hu := tk_ptr hk
    rename_i q
    cases q with
    | none =>
      obtain rfl := hb.ptr_none
      simp at h; subst h
      exact ⟨run_equal_of fun d => by simp [Op.equalIn, run_underlying hu], fun _ _ _ => by simp only [eqGuard_at_pointer], by simp, by simp, fun op => by cases op <;> rfl⟩
    | some q =>
      obtain ⟨l, _, _, rfl⟩ := hb.ptr_inv
      simp at h; subst h
      exact ⟨run_equal_of fun d => by simp [Op.equalIn, run_underlying hu], fun _ _ _ => by simp only [eqGuard_at_pointer], by simp, by simp, fun op => by cases op <;> rfl⟩
  · rename_i hk
    obtain ⟨l, _, _, rfl⟩ := ha.ptr_inv
    obtain rfl := hb.ptr_none
    have hu := tk_ptr hk
    simp at h; subst h
    exact ⟨run_equal_of fun d => by simp [Op.equalIn, run_underlying hu], fun _ _ _ => by simp only [eqGuard_at_pointer], by simp, by simp, fun op => by cases op <;> rfl⟩
  · rename_i e n c q n' c' hk
    obtain ⟨rfl, _, _⟩ := ha.sl_none
    have hu := tk_slice hk
    cases q with
    | none =>
      obtain ⟨rfl, _, _⟩ := hb.sl_none
      simp at h; subst h
      exact ⟨run_equal_of fun d => by simp [Op.equalIn, run_underlying hu], fun _ _ _ => by simp only [eqGuard_at_slice], by simp, by simp, fun op => by cases op <;> rfl⟩
    | some q =>
      obtain ⟨p, l, rfl, _⟩ := hb.sl_inv
      simp at h; subst h
      exact ⟨run_equal_of fun d => by simp [Op.equalIn, run_underlying hu], fun _ _ _ => by simp only [eqGuard_at_slice], by simp, by simp, fun op => by cases op <;> rfl⟩
  · rename_i hk
    obtain ⟨p, l, rfl, _⟩ := ha.sl_inv
    obtain ⟨rfl, _, _⟩ := hb.sl_none
    have hu := tk_slice hk
    simp at h; subst h
    exact ⟨run_equal_of fun d => by simp [Op.equalIn, run_underlying hu], fun _ _ _ => by simp only [eqGuard_at_slice], by simp, by simp, fun op => by cases op <;> rfl⟩
  · rename_i hk
    obtain rfl := ha.map_none
    have hu := tk_map hk
    rename_i q
    cases q with
    | none =>
      obtain rfl := hb.map_none
      simp at h; subst h
      exact ⟨run_equal_of fun d => by simp [Op.equalIn, run_underlying hu], fun _ _ _ => by simp only [eqGuard_at_map], by simp, by simp, fun op => by cases op <;> rfl⟩
    | some q =>
      obtain ⟨l, _, rfl⟩ := hb.map_inv
      simp at h; subst h
      exact ⟨run_equal_of fun d => by simp [Op.equalIn, run_underlying hu], fun _ _ _ => by simp only [eqGuard_at_map], by simp, by simp, fun op => by cases op <;> rfl⟩
  · rename_i hk
    obtain ⟨l, _, rfl⟩ := ha.map_inv
    obtain rfl := hb.map_none
    have hu := tk_map hk
    simp at h; subst h
    exact ⟨run_equal_of fun d => by simp [Op.equalIn, run_underlying hu], fun _ _ _ => by simp only [eqGuard_at_map], by simp, by simp, fun op => by cases op <;> rfl⟩
  · rename_i hk
    obtain rfl := ha.nilf_inv
    obtain rfl := hb.nilf_inv
    obtain ⟨ps, rs, vr, hu⟩ : ∃ ps rs vr, P.underlying t = some (.func ps rs vr) := by unfold tk at hk; split at hk <;> simp_all
    simp at h; subst h
    exact ⟨run_equal_of fun d => by simp [Op.equalIn, run_underlying hu], fun _ _ _ => by simp only [eqGuard_at_nilFunc], by simp, by simp, fun op => by cases op <;> rfl⟩
  · rename_i hk
    obtain rfl := ha.nilf_inv
    obtain ⟨cs, rfl, _⟩ := hb.fn_inv
    obtain ⟨ps, rs, vr, hu⟩ : ∃ ps rs vr, P.underlying t = some (.func ps rs vr) := by unfold tk at hk; split at hk <;> simp_all
    simp at h; subst h
    exact ⟨run_equal_of fun d => by simp [Op.equalIn, run_underlying hu], fun _ _ _ => by simp only [eqGuard_at_nilFunc], by simp, by simp, fun op => by cases op <;> rfl⟩
  · rename_i hk
    obtain ⟨cs, rfl, _⟩ := ha.fn_inv
    obtain rfl := hb.nilf_inv
    obtain ⟨ps, rs, vr, hu⟩ : ∃ ps rs vr, P.underlying t = some (.func ps rs vr) := by unfold tk at hk; split at hk <;> simp_all
    simp at h; subst h
    exact ⟨run_equal_of fun d => by simp [Op.equalIn, run_underlying hu], fun _ _ _ => by simp only [eqGuard_at_func], by simp, by simp, fun op => by cases op <;> rfl⟩
  · simp at h

theorem toList_of (s : List UInt8) : (ByteArray.mk s.toArray).toList = s := by
  rw [ByteArray.toList_eq]

theorem size_of (s : List UInt8) : (ByteArray.mk s.toArray).size = s.length := rfl

theorem ok_bin {t : TypeId} {op : BinOp} {a b r : AV} {u v : Value} (ha : V ι a u) (hb : V ι b v) (h : abin (tk P t) op a b = some r) (x y : Operand) :
    ∃ z, (do eqGuard op t x y u v; binOp op t u v : Sem Value).run P w = .ok z w ∧ V ι r z := by
  have fromEq : ∀ c, aeq (tk P t) a b = some c → (op = .eql → ∃ z, (do eqGuard op t x y u v; binOp op t u v : Sem Value).run P w = .ok z w ∧ V ι (.bool c) z) ∧
      (op = .neq → ∃ z, (do eqGuard op t x y u v; binOp op t u v : Sem Value).run P w = .ok z w ∧ V ι (.bool (!c)) z) := by
    intro c he
    obtain ⟨h1, h2, _, _, h5⟩ := eq_cases (w := w) ha hb he
    refine ⟨fun ho => ⟨.bool c, ?_, .bool _ _⟩, fun ho => ⟨.bool (!c), ?_, .bool _ _⟩⟩
    · subst ho; rw [h2, h5]; simp [h1]
    · subst ho; rw [h2, h5]; simp [h1]
  unfold abin at h
  split at h
  case h_1 k a k' n =>
    obtain rfl := ha.int_inv
    obtain rfl := hb.int_inv
    split at h
    · rename_i hk
      simp at h; subst h
      have : ¬ n < 0 := by omega
      exact ⟨_, by simp [go_sem, Op.shift, this], .int _ _ _⟩
    · simp at h
  case h_2 k a k' n =>
    obtain rfl := ha.int_inv
    obtain rfl := hb.int_inv
    split at h
    · rename_i hk
      simp at h; subst h
      have : ¬ n < 0 := by omega
      exact ⟨_, by simp [go_sem, Op.shift, this], .int _ _ _⟩
    · simp at h
  case h_3 k a k' n =>
    obtain rfl := ha.int_inv
    obtain rfl := hb.int_inv
    split at h
    · rename_i hk
      subst hk
      simp at h; subst h
      exact ⟨_, by simp [go_sem], .int _ _ _⟩
    · simp at h
  case h_4 k a k' n =>
    obtain rfl := ha.int_inv
    obtain rfl := hb.int_inv
    split at h
    · rename_i hk
      subst hk
      simp at h; subst h
      exact ⟨_, by simp [go_sem], .int _ _ _⟩
    · simp at h
  case h_5 k a k' n =>
    obtain rfl := ha.int_inv
    obtain rfl := hb.int_inv
    split at h
    · rename_i hk
      subst hk
      simp at h; subst h
      exact ⟨_, by simp [go_sem], .int _ _ _⟩
    · simp at h
  case h_6 k a k' n =>
    obtain rfl := ha.int_inv
    obtain rfl := hb.int_inv
    split at h
    · rename_i hk
      obtain ⟨hk, h0⟩ := hk
      subst hk
      simp at h; subst h
      exact ⟨_, by simp [go_sem, h0], .int _ _ _⟩
    · simp at h
  case h_7 k a k' n =>
    obtain rfl := ha.int_inv
    obtain rfl := hb.int_inv
    split at h
    · rename_i hk
      obtain ⟨hk, h0⟩ := hk
      subst hk
      simp at h; subst h
      exact ⟨_, by simp [go_sem, h0], .int _ _ _⟩
    · simp at h
  case h_8 k a k' n =>
    obtain rfl := ha.int_inv
    obtain rfl := hb.int_inv
    split at h
    · rename_i hk
      subst hk
      simp only [Option.some.injEq] at h; subst h
      exact ⟨_, by simp only [eqGuard_and, eqGuard_or, eqGuard_xor, eqGuard_andNot, binOp_and, binOp_or, binOp_xor, binOp_andNot, Op.intBits, Sem.run_bind, Sem.run_pure, Result.andThen_ok], .int _ _ _⟩
    · simp at h
  case h_9 k a k' n =>
    obtain rfl := ha.int_inv
    obtain rfl := hb.int_inv
    split at h
    · rename_i hk
      subst hk
      simp only [Option.some.injEq] at h; subst h
      exact ⟨_, by simp only [eqGuard_and, eqGuard_or, eqGuard_xor, eqGuard_andNot, binOp_and, binOp_or, binOp_xor, binOp_andNot, Op.intBits, Sem.run_bind, Sem.run_pure, Result.andThen_ok], .int _ _ _⟩
    · simp at h
  case h_10 k a k' n =>
    obtain rfl := ha.int_inv
    obtain rfl := hb.int_inv
    split at h
    · rename_i hk
      subst hk
      simp only [Option.some.injEq] at h; subst h
      exact ⟨_, by simp only [eqGuard_and, eqGuard_or, eqGuard_xor, eqGuard_andNot, binOp_and, binOp_or, binOp_xor, binOp_andNot, Op.intBits, Sem.run_bind, Sem.run_pure, Result.andThen_ok], .int _ _ _⟩
    · simp at h
  case h_11 k a k' n =>
    obtain rfl := ha.int_inv
    obtain rfl := hb.int_inv
    split at h
    · rename_i hk
      subst hk
      simp only [Option.some.injEq] at h; subst h
      exact ⟨_, by simp only [eqGuard_and, eqGuard_or, eqGuard_xor, eqGuard_andNot, binOp_and, binOp_or, binOp_xor, binOp_andNot, Op.intBits, Sem.run_bind, Sem.run_pure, Result.andThen_ok], .int _ _ _⟩
    · simp at h
  case h_12 k a k' n =>
    obtain rfl := ha.int_inv
    obtain rfl := hb.int_inv
    split at h
    · rename_i hk
      subst hk
      simp at h; subst h
      exact ⟨_, by simp [go_sem]; try rfl, .bool _ _⟩
    · simp at h
  case h_13 k a k' n =>
    obtain rfl := ha.int_inv
    obtain rfl := hb.int_inv
    split at h
    · rename_i hk
      subst hk
      simp at h; subst h
      exact ⟨_, by simp [go_sem]; try rfl, .bool _ _⟩
    · simp at h
  case h_14 k a k' n =>
    obtain rfl := ha.int_inv
    obtain rfl := hb.int_inv
    split at h
    · rename_i hk
      subst hk
      simp at h; subst h
      exact ⟨_, by simp [go_sem]; try rfl, .bool _ _⟩
    · simp at h
  case h_15 k a k' n =>
    obtain rfl := ha.int_inv
    obtain rfl := hb.int_inv
    split at h
    · rename_i hk
      subst hk
      simp at h; subst h
      exact ⟨_, by simp [go_sem]; try rfl, .bool _ _⟩
    · simp at h
  case h_16 k a k' n =>
    obtain rfl := ha.int_inv
    obtain rfl := hb.int_inv
    split at h
    · rename_i hk
      subst hk
      simp at h; subst h
      exact ⟨_, by simp [go_sem]; try rfl, .bool _ _⟩
    · simp at h
  case h_17 k a k' n =>
    obtain rfl := ha.int_inv
    obtain rfl := hb.int_inv
    split at h
    · rename_i hk
      subst hk
      simp at h; subst h
      exact ⟨_, by simp [go_sem]; try rfl, .bool _ _⟩
    · simp at h
  case h_18 a b =>
    obtain rfl := ha.str_inv
    obtain rfl := hb.str_inv
    split at h
    · rename_i hk
      simp at h; subst h
      have : ¬ (9223372036854775807 < ((a.length : Nat) : Int) + ((b.length : Nat) : Int)) := by omega
      refine ⟨.string (⟨a.toArray⟩ ++ ⟨b.toArray⟩), by simp [eqGuard_add, binOp, Op.stringOp, size_of, this], ?_⟩
      simp [V, Va, Vc, Vp, ByteArray.data_append]
    · simp at h
  case h_19 a b =>
    obtain rfl := ha.str_inv
    obtain rfl := hb.str_inv
    simp at h; subst h
    refine ⟨.bool (a == b), by simp [eqGuard_at_string, binOp, Op.stringOp, toList_of], ?_⟩
    simp only [V, Va, Vc, Vp]
    rw [Bool.eq_iff_iff]; simp
  case h_20 a b =>
    obtain rfl := ha.str_inv
    obtain rfl := hb.str_inv
    simp at h; subst h
    refine ⟨.bool (!(a == b)), by simp [eqGuard_at_string, binOp, Op.stringOp, toList_of], ?_⟩
    simp only [V, Va, Vc, Vp]
    congr 1
    rw [Bool.eq_iff_iff]; simp
  case h_21 =>
    cases he : aeq (tk P t) a b with
    | none => simp [he] at h
    | some c =>
      simp [he] at h; subst h
      exact (fromEq c he).1 rfl
  case h_22 =>
    cases he : aeq (tk P t) a b with
    | none => simp [he] at h
    | some c =>
      simp [he] at h; subst h
      exact (fromEq c he).2 rfl
  case h_23 => simp at h

theorem ok_un {op : UnOp} {a r : AV} {u : Value} (ha : V ι a u) (h : aun op a = some r) : ∃ z, (Op.unary op u).run P w = .ok z w ∧ V ι r z := by
  unfold aun at h
  split at h
  · obtain rfl := ha.int_inv
    simp at h; subst h
    exact ⟨_, by simp [Op.unary, Op.intArith], .int _ _ _⟩
  · obtain rfl := ha.int_inv
    simp at h; subst h
    exact ⟨_, by simp [Op.unary, Op.intBits], .int _ _ _⟩
  · obtain rfl := ha.bool_inv
    simp at h; subst h
    exact ⟨_, by simp [Op.unary], .bool _ _⟩
  · simp at h

/-! ### parts of aggregates -/

theorem L2.dropTake {α β : Type} {R : α → β → Prop} {as : List α} {bs : List β} (h : L2 R as bs) (o n : Nat) : L2 R ((as.drop o).take n) ((bs.drop o).take n) := by
  have hl := h.length
  refine L2.of_get (by simp [hl]) fun i a ha => ?_
  rw [getElem?_dropTake] at ha ⊢
  split at ha
  · rename_i hi
    simp only [hi, if_true]
    exact h.get _ a ha
  · simp at ha

theorem ok_part {t : TypeId} {cs : List AV} {vs : Array Value} {o : Nat} {r : AV} (hc : L2 (Vc ι) cs vs.toList) (h : Go.AM.apart P t cs o = some r) :
    ∃ z, (part t vs o).run P w = .ok z w ∧ V ι r z := by
  unfold Go.AM.apart at h
  split at h
  · rename_i hk
    split at h
    · rename_i hle
      simp at h; subst h
      obtain ⟨hagg, hinfo⟩ := run_isAgg hk w
      refine ⟨.agg (vs.extract o (o + tsz P t)), by simp [part, hagg, run_sizeOf' hinfo], ?_⟩
      have := hc.dropTake o (tsz P t)
      simp only [V, Va]
      rw [Array.toList_extract, List.extract_eq_take_drop]
      simpa using this
    · simp at h
  · rename_i hk
    obtain ⟨hagg, _⟩ := run_isAgg hk w
    obtain ⟨z, hz, hr⟩ := hc.get _ r h
    have hz' : vs[o]? = some z := by simpa using hz
    exact ⟨z, by simp [part, hagg, hz'], .of_Vc hr⟩
  · simp at h

theorem field_of {t : TypeId} {f o : Nat} {u : TypeId} (h : tfield P t f = some (o, u)) :
    ∃ fs fd, P.underlying t = some (.struct fs) ∧ fs[f]? = some fd ∧ fd.offset = o ∧ fd.type = u := by
  unfold tfield at h
  split at h
  · rename_i fs hu
    cases hf : fs[f]? with
    | none => simp [hf] at h
    | some fd =>
      simp [hf] at h
      exact ⟨fs, fd, hu, hf, h.1, h.2⟩
  · simp at h

theorem ok_field {t : TypeId} {f o : Nat} {u : TypeId} {cs : List AV} {v : Value} {r : AV} (hv : V ι (.agg cs) v) (hf : tfield P t f = some (o, u)) (h : Go.AM.apart P u cs o = some r) :
    ∃ z, (Instr.field t v f).run P w = .ok z w ∧ V ι r z := by
  obtain ⟨vs, rfl, hc⟩ := hv.agg_inv
  obtain ⟨fs, fd, hu, hfd, rfl, rfl⟩ := field_of hf
  obtain ⟨z, h1, h2⟩ := ok_part (w := w) hc h
  exact ⟨z, by simp [Instr.field, run_underlying hu, hfd, asAgg, h1], h2⟩

theorem ok_fieldAddr {t : TypeId} {f o : Nat} {u : TypeId} {a : AA} {v : Value} (hv : V ι (.ptr (some a)) v) (hf : tfield P t f = some (o, u)) (hpos : 0 < tsz P u) :
    ∃ z, (Instr.fieldAt t v f).run P w = .ok z w ∧ V ι (.ptr (some { a with off := a.off + o })) z := by
  obtain ⟨l, hl, hsub, rfl⟩ := hv.ptr_inv
  obtain ⟨fs, fd, hu, hfd, rfl, rfl⟩ := field_of hf
  have hne : tsz P fd.type ≠ 0 := by omega
  refine ⟨.pointer (some (l.at (a.off + fd.offset))), by simp [Instr.fieldAt, run_underlying hu, hfd, Instr.sureAddr, fieldPlace, run_sizeOf hpos, hne, Loc.at_add _ _ _ hsub], ?_⟩
  simp only [V, Va, Vc, Vp]
  exact ⟨l, hl, Nat.le_trans hsub (Nat.le_add_right _ _), rfl⟩

theorem ok_indexAddr {t : TypeId} {x i r : AV} {u v : Value} (hx : V ι x u) (hi : V ι i v) (h : aindexAddr P t x i = some r) :
    ∃ z, (Instr.indexAt t u v).run P w = .ok z w ∧ V ι r z := by
  unfold aindexAddr at h
  split at h
  · rename_i e a n c k j hk
    obtain ⟨p, l, rfl, hnc, hl, hsub, hp⟩ := hx.sl_inv
    obtain rfl := hi.int_inv
    split at h
    · rename_i hc
      obtain ⟨h0, h1, hpos⟩ := hc
      simp at h; subst h
      obtain rfl := hp (by omega)
      refine ⟨.pointer (some (l.at (a.off + j.toNat * tsz P e))), by simp [Instr.indexAt, asIntOf, run_underlying (tk_slice hk), h0, h1, run_sizeOf hpos, Loc.at_add _ _ _ hsub], ?_⟩
      simp only [V, Va, Vc, Vp]
      exact ⟨l, hl, Nat.le_trans hsub (Nat.le_add_right _ _), rfl⟩
    · simp at h
  · rename_i n e a k j hk
    obtain ⟨l, hl, hsub, rfl⟩ := hx.ptr_inv
    obtain rfl := hi.int_inv
    split at h
    · rename_i hc
      obtain ⟨h0, h1, hpos⟩ := hc
      simp at h; subst h
      refine ⟨.pointer (some (l.at (a.off + j.toNat * tsz P e))), by simp [Instr.indexAt, asIntOf, run_underlying (tk_arr hk), Instr.sureAddr, h0, h1, run_sizeOf hpos, Loc.at_add _ _ _ hsub], ?_⟩
      simp only [V, Va, Vc, Vp]
      exact ⟨l, hl, Nat.le_trans hsub (Nat.le_add_right _ _), rfl⟩
    · simp at h
  · simp at h

theorem ok_index {t : TypeId} {x i r : AV} {u v : Value} (hx : V ι x u) (hi : V ι i v) (h : aindex P t x i = some r) :
    ∃ z, (Instr.index t u v).run P w = .ok z w ∧ V ι r z := by
  unfold aindex at h
  split at h
  · rename_i s k j hk
    obtain rfl := hx.str_inv
    obtain rfl := hi.int_inv
    split at h
    · rename_i h0
      cases hs : s[j.toNat]? with
      | none => simp [hs] at h
      | some c =>
        simp [hs] at h; subst h
        have hlt : j.toNat < s.length := (List.getElem?_eq_some_iff.1 hs).1
        have hs' : (ByteArray.mk s.toArray)[j.toNat]? = some c := by
          have : (ByteArray.mk s.toArray)[j.toNat]? = s.toArray[j.toNat]? := rfl
          rw [this]; simpa using hs
        exact ⟨.int .u8 c.toNat, by simp [Instr.index, asIntOf, run_underlying (tk_str hk), h0, hs'], .int _ _ _⟩
    · simp at h
  · rename_i n e cs k j hk
    obtain ⟨vs, rfl, hc⟩ := hx.agg_inv
    obtain rfl := hi.int_inv
    split at h
    · rename_i hb
      obtain ⟨h0, h1, hpos⟩ := hb
      obtain ⟨z, hz1, hz2⟩ := ok_part (w := w) hc h
      exact ⟨z, by simp [Instr.index, asIntOf, run_underlying (tk_arr hk), h0, h1, run_sizeOf hpos, hz1], hz2⟩
    · simp at h
  · simp at h

/-! ### slicing -/

theorem run_bound {kc : BoundsCode} {x : Option AV} {u : Option Value} {d lim lim' n : Nat} (hx : ∀ a, x = some a → ∃ v, u = some v ∧ V ι a v) (hn : x = none → u = none) (hlim : lim ≤ lim')
    (h : bound x d lim = some n) :
    (match u with | some v => Instr.sliceBound v lim' kc | none => (pure d : Sem Nat)).run P w = .ok n w := by
  unfold bound at h
  split at h
  · rw [hn rfl]; simp at h; subst h; rfl
  · rename_i k i
    obtain ⟨v, rfl, hv⟩ := hx _ rfl
    obtain rfl := hv.int_inv
    split at h
    · rename_i hc
      simp at h; subst h
      have : i ≤ (lim' : Int) := by omega
      simp [Instr.sliceBound, asIntOf, hc.1, this]
    · simp at h
  · simp at h

end Go.AM
