/-
  One operation of the abstract machine stands for one of the model's: what changes the heap, and what only reads it.
-/
import Derived.Test.YtamidpfdiijjgaaAM2
import Derived.Laws.Tables
import Derived.Laws.Append
import Derived.Laws.Rows
namespace Go.AM
open Go
set_option linter.unusedVariables false
set_option linter.unusedSimpArgs false

/-! ### types -/

theorem tk_slice {P : Program} {t e : TypeId} (h : tk P t = .slice e) : P.underlying t = some (.slice e) := by
  unfold tk at h; split at h <;> simp_all
theorem tk_arr {P : Program} {t e : TypeId} {n : Nat} (h : tk P t = .arr n e) : P.underlying t = some (.array n e) := by
  unfold tk at h; split at h <;> simp_all
theorem tk_int {P : Program} {t : TypeId} {k : IntKind} (h : tk P t = .int k) : P.underlying t = some (.int k) := by
  unfold tk at h; split at h <;> simp_all
theorem tk_str {P : Program} {t : TypeId} (h : tk P t = .str) : P.underlying t = some .string := by
  unfold tk at h; split at h <;> simp_all
theorem tk_bool {P : Program} {t : TypeId} (h : tk P t = .bool) : P.underlying t = some .bool := by
  unfold tk at h; split at h <;> simp_all
theorem tk_map {P : Program} {t k e : TypeId} (h : tk P t = .map k e) : P.underlying t = some (.map k e) := by
  unfold tk at h; split at h <;> simp_all
theorem tk_ptr {P : Program} {t e : TypeId} (h : tk P t = .ptr e) : P.underlying t = some (.pointer e) := by
  unfold tk at h; split at h <;> simp_all
theorem tk_struct {P : Program} {t : TypeId} (h : tk P t = .struct) : ∃ fs, P.underlying t = some (.struct fs) := by
  unfold tk at h; split at h <;> simp_all

theorem info_of_tsz {P : Program} {e : TypeId} (h : 0 < tsz P e) : ∃ i, P.info? e = some i ∧ i.size = tsz P e ∧ i.bytes = P.bytesOf e := by
  unfold tsz Program.cellsOf at *
  unfold Program.bytesOf
  cases hi : P.info? e with
  | none => simp [hi] at h
  | some i => exact ⟨i, rfl, by simp, by simp⟩

theorem run_sizeOf {P : Program} {e : TypeId} (h : 0 < tsz P e) (w : World) : (sizeOf e).run P w = .ok (tsz P e) w := by
  obtain ⟨i, hi, hs, _⟩ := info_of_tsz h
  simp [sizeOf, typeInfo, hi, hs]

theorem info_of_underlying {P : Program} {t : TypeId} {d : TypeDesc} (h : P.underlying t = some d) : ∃ i, P.info? t = some i ∧ i.size = tsz P t := by
  unfold Program.underlying at h
  unfold tsz Program.cellsOf
  cases hi : P.info? t with
  | none => simp [hi] at h
  | some i => exact ⟨i, rfl, by simp⟩

theorem run_isAgg {P : Program} {t : TypeId} {b : Bool} (h : agk (tk P t) = some b) (w : World) :
    (isAgg t).run P w = .ok b w ∧ ∃ i, P.info? t = some i ∧ i.size = tsz P t := by
  unfold tk at h
  cases hu : P.underlying t with
  | none => simp [hu, agk] at h
  | some d =>
    refine ⟨?_, info_of_underlying hu⟩
    cases d <;> simp [hu, agk] at h <;> subst h <;> simp [isAgg, run_underlying hu]

theorem run_sizeOf' {P : Program} {t : TypeId} (h : ∃ i, P.info? t = some i ∧ i.size = tsz P t) (w : World) : (sizeOf t).run P w = .ok (tsz P t) w := by
  obtain ⟨i, hi, hs⟩ := h
  simp [sizeOf, typeInfo, hi, hs]

/-! ### constants -/

theorem absC_Vp {v : Value} {a : AV} (h : absC v = some a) (ι : Inj) : Vc ι a v := by
  unfold absC at h
  split at h
  case h_9 f first caps =>
    split at h
    · rename_i hc
      obtain ⟨h1, h2⟩ := hc
      have h1 := Array.eq_empty_of_size_eq_zero h1
      have h2 := Array.eq_empty_of_size_eq_zero h2
      simp at h; subst h
      simp [Vc, L2, h1, h2]
    · simp at h
  all_goals (simp at h; try subst h; try (simp [Vc, Vp]; done))

theorem absL_Vc : ∀ {vs : List Value} {as : List AV}, absL vs = some as → ∀ ι : Inj, L2 (Vc ι) as vs
  | [], as, h, ι => by simp [absL] at h; subst h; trivial
  | v :: vs, as, h, ι => by
    unfold absL at h
    split at h
    · rename_i x xs hx hxs
      simp at h; subst h
      exact ⟨absC_Vp hx ι, absL_Vc hxs ι⟩
    · simp at h

theorem absV_cells {v : Value} {a : AV} (h : absV v = some a) (ι : Inj) : L2 (Vc ι) a.cells v.cells.toList ∧ V ι a v := by
  unfold absV at h
  split at h
  · rename_i cs
    cases hl : absL cs.toList with
    | none => simp [hl] at h
    | some as =>
      simp [hl] at h; subst h
      have := absL_Vc hl ι
      exact ⟨this, this⟩
  · rename_i hne
    have hc := absC_Vp h ι
    refine ⟨?_, .of_Vc hc⟩
    have ho := hc.one
    cases a <;> cases v <;> first | (simp [AV.cells, Value.cells, L2]; exact hc) | (simp_all [AV.one, Value.oneCell']; done)

theorem zero_of {P : Program} {t : TypeId} {a : AV} (h : tzero P t = some a) :
    ∃ i z, P.info? t = some i ∧ i.zero = some z ∧ (zeroValue t : Sem Value) = zeroValue t ∧ absV z = some a := by
  unfold tzero at h
  cases hi : P.info? t with
  | none => simp [hi] at h
  | some i =>
    cases hz : i.zero with
    | none => simp [hi, hz] at h
    | some z => exact ⟨i, z, rfl, hz, rfl, by simpa [hi, hz] using h⟩

theorem run_zeroValue {P : Program} {t : TypeId} {i : TypeInfo} {z : Value} (hi : P.info? t = some i) (hz : i.zero = some z) (w : World) :
    (zeroValue t).run P w = .ok z w := by simp [zeroValue, typeInfo, hi, hz]

/-! ### the heap: an object more, an object turned -/

structure Same (w w' : World) : Prop where
  os : w'.os = w.os
  tape : w'.tape = w.tape
  output : w'.output = w.output

theorem Same.refl (w : World) : Same w w := ⟨rfl, rfl, rfl⟩
theorem Same.trans {a b c : World} (h : Same a b) (h' : Same b c) : Same a c := ⟨h'.os.trans h.os, h'.tape.trans h.tape, h'.output.trans h.output⟩

variable {P : Program} {ι : Inj} {w : World} {B : Nat} {L : Look} {next : Nat}

theorem Robj.keep {ι' : Inj} {w' : World} {l : Loc} {o : AObj} (h : Robj P ι w l o) (he : Ext ι ι')
    (hb : o ≠ .ro [] → w'.heap[l.blk]? = w.heap[l.blk]?) : Robj P ι' w' l o := by
  cases o with
  | cells cs e g =>
    obtain ⟨cur, fz, h1, h2, h3, h4, h5, h6⟩ := h
    refine ⟨cur, fz, by rw [hb (by simp)]; exact h1, h2, h3, h4, h5, fun o x ho hx => ?_⟩
    obtain ⟨v, hv, hc⟩ := h6 o x ho hx
    exact ⟨v, hv, hc.mono he⟩
  | ro cs =>
    refine ⟨h.1, h.2.1, fun o x hx => ?_⟩
    obtain ⟨v, hv, hc⟩ := h.2.2 o x hx
    refine ⟨v, ?_, hc.mono he⟩
    have hne : AObj.ro cs ≠ .ro [] := by
      rintro he; cases he; simp at hx
    have hh := hb hne
    unfold World.cell? at hv ⊢
    simp only [Loc.at] at hv ⊢
    rw [hh]; exact hv
  | map t es c =>
    obtain ⟨es', h1, h2, h3, h4⟩ := h
    exact ⟨es', by rw [hb (by simp)]; exact h1, h2.mono fun _ _ hh => ⟨hh.1.mono he, hh.2.1.mono he, hh.2.2⟩, h3, h4⟩
  | iter s p =>
    obtain ⟨h0, s', h1, h2⟩ := h
    exact ⟨h0, s', by rw [hb (by simp)]; exact h1, h2⟩

def Inj.set (ι : Inj) (b g : Nat) (l : Loc) : Inj := fun b0 g0 => if b0 = b ∧ g0 = g then some l else ι b0 g0

theorem Inj.set_same (ι : Inj) (b g : Nat) (l : Loc) : ι.set b g l b g = some l := by simp [Inj.set]
theorem Inj.set_other (ι : Inj) (b g : Nat) (l : Loc) {b0 : Nat} (h : b0 ≠ b) (g0 : Nat) : ι.set b g l b0 g0 = ι b0 g0 := by simp [Inj.set, h]

theorem HR.ro_lt (hr : HR P ι w B L) {b : Nat} {o : AObj} {l : Loc} (hL : L b = some o) (hl : ι b o.gen = some l) (hne : o ≠ .ro []) : l.blk < w.heap.size := by
  cases ho : o.own with
  | true =>
    obtain ⟨l', h1, _, h3⟩ := hr.obj b o hL
    rw [hl] at h1; cases h1
    exact (h3 ho).2
  | false =>
    cases o <;> simp [AObj.own] at ho
    case ro cs =>
      have := hr.roB b cs l hL hl (by rintro rfl; exact hne rfl)
      have := hr.base
      omega

theorem hr_new (hr : HR P ι w B L) (hn : L next = none) (hf : ∀ g, ι next g = none) {o : AObj} {l : Loc} {w' : World} (ho : o.own = true)
    (hoth : ∀ c, c < w.heap.size → w'.heap[c]? = w.heap[c]?) (hsz : w.heap.size ≤ w'.heap.size) (hl : w.heap.size ≤ l.blk ∧ l.blk < w'.heap.size)
    (hs : Same w w') (hobj : ∀ ι', Ext ι ι' → Robj P ι' w' l o) :
    Step P ι w B L (ι.set next o.gen l) w' (upd L next (.new o)) ∧ (∀ b g l', ι.set next o.gen l b g = some l' → ι b g = some l' ∨ b = next) := by
  have he : Ext ι (ι.set next o.gen l) := by
    intro b g l' h
    unfold Inj.set
    split
    · rename_i hb; rw [hb.1, hf] at h; cases h
    · exact h
  refine ⟨⟨he, ⟨?_, ?_, ?_, Nat.le_trans hr.base hsz, ?_⟩, hsz, fun c hc _ => hoth c hc, ?_, hs.os, hs.tape, hs.output⟩, ?_⟩
  · intro b o1 hL
    simp only [upd] at hL
    split at hL
    · rename_i hb; subst hb; simp at hL; subst hL
      exact ⟨l, Inj.set_same .., hobj _ he, fun _ => ⟨Nat.le_trans hr.base hl.1, hl.2⟩⟩
    · rename_i hb
      obtain ⟨l1, h1, h2, h3⟩ := hr.obj b o1 hL
      refine ⟨l1, by rw [Inj.set_other _ _ _ _ hb]; exact h1, h2.keep he fun hne => hoth _ (hr.ro_lt hL h1 hne), fun ho1 => ⟨(h3 ho1).1, Nat.lt_of_lt_of_le (h3 ho1).2 hsz⟩⟩
  · intro b b' o1 o2 l1 l2 h1 h2 h3 h4 ho1 ho2 hbl
    simp only [upd] at h1 h2
    split at h1 <;> split at h2
    · omega
    · rename_i hb hb'
      subst hb; simp at h1; subst h1
      rw [Inj.set_same] at h3; cases h3
      rw [Inj.set_other _ _ _ _ hb'] at h4
      obtain ⟨l3, h5, _, h6⟩ := hr.obj b' o2 h2
      rw [h4] at h5; cases h5
      have := (h6 ho2).2
      omega
    · rename_i hb hb'
      subst hb'; simp at h2; subst h2
      rw [Inj.set_same] at h4; cases h4
      rw [Inj.set_other _ _ _ _ hb] at h3
      obtain ⟨l3, h5, _, h6⟩ := hr.obj b o1 h1
      rw [h3] at h5; cases h5
      have := (h6 ho1).2
      omega
    · rename_i hb hb'
      rw [Inj.set_other _ _ _ _ hb] at h3
      rw [Inj.set_other _ _ _ _ hb'] at h4
      exact hr.inj b b' o1 o2 l1 l2 h1 h2 h3 h4 ho1 ho2 hbl
  · intro b o1 h1 g l1 h2
    simp only [upd] at h1
    split at h1
    · rename_i hb; subst hb; simp at h1; subst h1
      unfold Inj.set at h2
      split at h2
      · rename_i hb; omega
      · rw [hf] at h2; cases h2
    · rename_i hb
      rw [Inj.set_other _ _ _ _ hb] at h2
      exact hr.past b o1 h1 g l1 h2
  · intro b cs l1 h1 h2 h3
    simp only [upd] at h1
    split at h1
    · simp at h1; subst h1; simp [AObj.own] at ho
    · rename_i hb
      rw [Inj.set_other _ _ _ _ hb] at h2
      exact hr.roB b cs l1 h1 h2 h3
  · rintro c ⟨b, o1, l1, h1, h2, h3, rfl⟩
    simp only [upd] at h1
    split at h1
    · rename_i hb; subst hb; simp at h1; subst h1
      rw [Inj.set_same] at h3; cases h3
      exact .inr hl.1
    · rename_i hb
      rw [Inj.set_other _ _ _ _ hb] at h3
      exact .inl ⟨b, o1, l1, h1, h2, h3, rfl⟩
  · intro b g l' h
    unfold Inj.set at h
    split at h
    · rename_i hb; exact .inr hb.1
    · exact .inl h

theorem hr_turn (hr : HR P ι w B L) {b : Nat} {o o' : AObj} {l l' : Loc} {w' : World} (hL : L b = some o) (ho : o.own = true) (hl : ι b o.gen = some l) (ho' : o'.own = true)
    (hge : o.gen ≤ o'.gen) (hsame : o'.gen = o.gen → l' = l)
    (hoth : ∀ c, c < w.heap.size → c ≠ l.blk → w'.heap[c]? = w.heap[c]?) (hsz : w.heap.size ≤ w'.heap.size)
    (hl' : l'.blk = l.blk ∨ (w.heap.size ≤ l'.blk ∧ l'.blk < w'.heap.size)) (hs : Same w w') (hobj : ∀ ι', Ext ι ι' → Robj P ι' w' l' o') :
    Step P ι w B L (ι.set b o'.gen l') w' (upd L next (.set b o')) ∧ (∀ b0 g l1, ι.set b o'.gen l' b0 g = some l1 → ι b0 g = some l1 ∨ b0 = b) := by
  have he : Ext ι (ι.set b o'.gen l') := by
    intro b0 g l1 h
    unfold Inj.set
    split
    · rename_i hb
      obtain ⟨rfl, rfl⟩ := hb
      have h1 := hr.past _ o hL _ l1 h
      have h2 : o'.gen = o.gen := by omega
      rw [h2, hl] at h
      rw [hsame h2]; exact h
    · exact h
  obtain ⟨l0, hl0, hR, hB⟩ := hr.obj b o hL
  rw [hl] at hl0; cases hl0
  obtain ⟨hB1, hB2⟩ := hB ho
  have hblk : B ≤ l'.blk ∧ l'.blk < w'.heap.size := by
    rcases hl' with h | h
    · omega
    · exact ⟨Nat.le_trans hr.base h.1, h.2⟩
  refine ⟨⟨he, ⟨?_, ?_, ?_, Nat.le_trans hr.base hsz, ?_⟩, hsz, fun c hc hn => hoth c hc (fun e => hn ⟨b, o, l, hL, ho, hl, e.symm⟩), ?_, hs.os, hs.tape, hs.output⟩, ?_⟩
  · intro b1 o1 hL1
    simp only [upd] at hL1
    split at hL1
    · rename_i hb; subst hb; simp [hL] at hL1; subst hL1
      exact ⟨l', Inj.set_same .., hobj _ he, fun _ => hblk⟩
    · rename_i hb
      obtain ⟨l1, h1, h2, h3⟩ := hr.obj b1 o1 hL1
      refine ⟨l1, by rw [Inj.set_other _ _ _ _ hb]; exact h1, h2.keep he fun hne => ?_, fun ho1 => ⟨(h3 ho1).1, Nat.lt_of_lt_of_le (h3 ho1).2 hsz⟩⟩
      refine hoth _ (hr.ro_lt hL1 h1 hne) fun e => ?_
      cases ho1 : o1.own with
      | true => exact hb (hr.inj b1 b o1 o l1 l hL1 hL h1 hl ho1 ho e)
      | false =>
        cases o1 <;> simp [AObj.own] at ho1
        case ro cs =>
          have := hr.roB b1 cs l1 hL1 h1 (by rintro rfl; exact hne rfl)
          omega
  · intro b1 b2 o1 o2 l1 l2 h1 h2 h3 h4 ho1 ho2 hbl
    simp only [upd] at h1 h2
    split at h1 <;> split at h2
    · omega
    · rename_i hb hb'
      subst hb; simp [hL] at h1; subst h1
      rw [Inj.set_same] at h3; cases h3
      rw [Inj.set_other _ _ _ _ hb'] at h4
      obtain ⟨l3, h5, _, h6⟩ := hr.obj b2 o2 h2
      rw [h4] at h5; cases h5
      rcases hl' with h | h
      · exact hr.inj _ b2 o o2 l l2 hL h2 hl h4 ho ho2 (by omega)
      · have := (h6 ho2).2; omega
    · rename_i hb hb'
      subst hb'; simp [hL] at h2; subst h2
      rw [Inj.set_same] at h4; cases h4
      rw [Inj.set_other _ _ _ _ hb] at h3
      obtain ⟨l3, h5, _, h6⟩ := hr.obj b1 o1 h1
      rw [h3] at h5; cases h5
      rcases hl' with h | h
      · exact hr.inj b1 _ o1 o l1 l h1 hL h3 hl ho1 ho (by omega)
      · have := (h6 ho1).2; omega
    · rename_i hb hb'
      rw [Inj.set_other _ _ _ _ hb] at h3
      rw [Inj.set_other _ _ _ _ hb'] at h4
      exact hr.inj b1 b2 o1 o2 l1 l2 h1 h2 h3 h4 ho1 ho2 hbl
  · intro b1 o1 h1 g l1 h2
    simp only [upd] at h1
    split at h1
    · rename_i hb; subst hb; simp [hL] at h1; subst h1
      unfold Inj.set at h2
      split at h2
      · rename_i hb; omega
      · have := hr.past _ o hL g l1 h2; omega
    · rename_i hb
      rw [Inj.set_other _ _ _ _ hb] at h2
      exact hr.past b1 o1 h1 g l1 h2
  · intro b1 cs l1 h1 h2 h3
    simp only [upd] at h1
    split at h1
    · simp [hL] at h1; subst h1; simp [AObj.own] at ho'
    · rename_i hb
      rw [Inj.set_other _ _ _ _ hb] at h2
      exact hr.roB b1 cs l1 h1 h2 h3
  · rintro c ⟨b1, o1, l1, h1, h2, h3, rfl⟩
    simp only [upd] at h1
    split at h1
    · rename_i hb; subst hb; simp [hL] at h1; subst h1
      rw [Inj.set_same] at h3; cases h3
      rcases hl' with h | h
      · exact .inl ⟨_, o, l, hL, ho, hl, h.symm⟩
      · exact .inr h.1
    · rename_i hb
      rw [Inj.set_other _ _ _ _ hb] at h3
      exact .inl ⟨b1, o1, l1, h1, h2, h3, rfl⟩
  · intro b0 g l1 h
    unfold Inj.set at h
    split at h
    · rename_i hb; exact .inr hb.1
    · exact .inl h

/-! ### what an operation leaves -/

def Delta.touches (next : Nat) : Delta → Nat → Prop
  | .no, _ => False
  | .new _, b => b = next
  | .set c _, b => b = c

def OpOk (P : Program) (ι : Inj) (w : World) (B : Nat) (L : Look) (next : Nat) (r : Result Next) (v : AV) (δ : Delta) : Prop :=
  ∃ ι' w' u, (r = .ok (.value u) w' ∨ r = .ok .skip w' ∧ u = undef) ∧ V ι' v u ∧ Step P ι w B L ι' w' (upd L next δ) ∧
    ∀ b g l, ι' b g = some l → ι b g = some l ∨ δ.touches next b

theorem OpOk.pure (hr : HR P ι w B L) {r : Result Next} {v : AV} {u : Value} (h : r = .ok (.value u) w) (hv : V ι v u) : OpOk P ι w B L next r v .no :=
  ⟨ι, w, u, .inl h, hv, .refl hr, fun _ _ _ h => .inl h⟩

/-! ### reading cells -/

theorem row_inv {a : AA} {cs : List AV} (h : row L a = some cs) : ∃ o, L a.b = some o ∧ o.gen = a.gen ∧ cs.length = a.gen ∧ ((∃ e g, o = .cells cs e g) ∨ o = .ro cs) := by
  unfold row at h
  split at h
  · rename_i cs' e g hL
    split at h
    · rename_i hl; simp at h; subst h
      exact ⟨_, hL, hl, hl, .inl ⟨_, _, rfl⟩⟩
    · simp at h
  · rename_i cs' hL
    split at h
    · rename_i hl; simp at h; subst h
      exact ⟨_, hL, hl, hl, .inr rfl⟩
    · simp at h
  · simp at h

theorem cell_cells {w : World} {b o : Nat} {cur : Array Value} {e : TypeId} {fz : Nat × Nat} (h : w.heap[b]? = some (.cells cur e fz)) : w.cell? ⟨b, o, none⟩ = cur[o]? := by
  simp [World.cell?, h]

theorem cell_at (hr : HR P ι w B L) {a : AA} {cs : List AV} (h : row L a = some cs) {l : Loc} (hl : ι a.b a.gen = some l) {o : Nat} {x : AV}
    (ho : l.sub ≤ o) (hx : cs[o]? = some x) : ∃ v, w.cell? (l.at o) = some v ∧ Vc ι x v := by
  obtain ⟨ob, hL, hg, hc, hk⟩ := row_inv h
  obtain ⟨l', hl', hR, _⟩ := hr.obj a.b ob hL
  rw [hg, hl] at hl'; cases hl'
  rcases hk with ⟨e, g, rfl⟩ | rfl
  · obtain ⟨cur, fz, h1, _, _, _, _, h6⟩ := hR
    obtain ⟨v, hv, hc⟩ := h6 o x ho hx
    exact ⟨v, by rw [Loc.at, cell_cells h1]; exact hv, hc⟩
  · exact hR.2.2 o x hx

theorem list_of {α β : Type} {R : α → β → Prop} : ∀ (cs : List α) (c : Nat → Option β), (∀ (j : Nat) x, cs[j]? = some x → ∃ v, c j = some v ∧ R x v) →
    ∃ vs : List β, L2 R cs vs ∧ ∀ (j : Nat) v, vs[j]? = some v → c j = some v
  | [], c, _ => ⟨[], trivial, by simp⟩
  | x :: cs, c, h => by
    obtain ⟨v, hv, hr⟩ := h 0 x rfl
    obtain ⟨vs, h1, h2⟩ := list_of cs (fun j => c (j + 1)) fun j y hy => h (j + 1) y (by simpa using hy)
    refine ⟨v :: vs, ⟨hr, h1⟩, fun j u hu => ?_⟩
    cases j with
    | zero => simp at hu; subst hu; exact hv
    | succ j => exact h2 j u (by simpa using hu)

theorem Loc.at_add (l : Loc) (o j : Nat) (h : l.sub ≤ o) : (l.at o).add j = l.at (o + j) := by
  unfold Loc.at Addr.add
  split
  · subst_vars; rfl
  · simp only [Addr.mk.injEq, true_and, and_true]; omega

theorem getElem?_dropTake {α : Type} (cs : List α) (o n j : Nat) : ((cs.drop o).take n)[j]? = if j < n then cs[o + j]? else none := by
  rw [List.getElem?_take]; split <;> simp [List.getElem?_drop]

/-- The cells from a place on, so many. -/
theorem cells_run (hr : HR P ι w B L) {a : AA} {cs : List AV} (h : row L a = some cs) {l : Loc} (hl : ι a.b a.gen = some l) {o n : Nat} (ho : l.sub ≤ o) (hn : o + n ≤ cs.length) :
    ∃ vs : List Value, L2 (Vc ι) ((cs.drop o).take n) vs ∧ vs.length = n ∧ (∀ (j : Nat) v, vs[j]? = some v → w.cell? ((l.at o).add j) = some v) ∧
      (loadCells (l.at o) n).run P w = .ok vs.toArray w := by
  obtain ⟨vs, h1, h2⟩ := list_of (R := Vc ι) ((cs.drop o).take n) (fun j => w.cell? ((l.at o).add j)) fun j x hx => by
    rw [getElem?_dropTake] at hx
    split at hx
    · rw [Loc.at_add _ _ _ ho]
      exact cell_at hr h hl (by omega) hx
    · simp at hx
  have hlen : vs.length = n := by rw [← h1.length]; simp; omega
  refine ⟨vs, h1, hlen, h2, ?_⟩
  have := run_loadCells_list (P := P) w (l.at o) vs h2
  rw [hlen] at this
  exact this

theorem ok_load (hr : HR P ι w B L) {t : TypeId} {p v : AV} {u : Value} (hp : V ι p u) (h : aload P L t p = some v) :
    ∃ x, (Instr.loadAt t u).run P w = .ok x w ∧ V ι v x := by
  unfold aload at h
  split at h
  · rename_i a
    obtain ⟨l, hl, hsub, rfl⟩ := hp.ptr_inv
    split at h
    · rename_i cs hrow
      split at h
      · rename_i hk
        split at h
        · rename_i hle
          simp at h; subst h
          obtain ⟨hagg, hinfo⟩ := run_isAgg hk w
          obtain ⟨vs, h1, _, _, h4⟩ := cells_run hr hrow hl hsub hle
          exact ⟨.agg vs.toArray, by simp [Instr.loadAt, Instr.sureAddr, loadVar, hagg, run_sizeOf' hinfo, h4], by simpa [V, Va] using h1⟩
        · simp at h
      · rename_i hk
        obtain ⟨hagg, _⟩ := run_isAgg hk w
        obtain ⟨x, hx, hc⟩ := cell_at hr hrow hl hsub h
        exact ⟨x, by simp [Instr.loadAt, Instr.sureAddr, loadVar, hagg, hx], .of_Vc hc⟩
      · simp at h
    · simp at h
  · simp at h

/-! ### writing cells -/

theorem not_frozen {w : World} {b o : Nat} {cur : Array Value} {e : TypeId} {fz : Nat × Nat} (h : w.heap[b]? = some (.cells cur e fz)) (hf : free cur.size fz) (ho : o < cur.size) :
    w.frozen? ⟨b, o, none⟩ = false := by
  simp only [World.frozen?, h]
  simp only [Bool.and_eq_false_iff, decide_eq_false_iff_not]
  unfold free at hf
  omega

theorem run_storeCells : ∀ (vs : List Value) (i : Nat) (cur : Array Value) (w : World) (b o : Nat) (e : TypeId) (fz : Nat × Nat), w.heap[b]? = some (.cells cur e fz) → free cur.size fz →
    o + i + vs.length ≤ cur.size → (∀ v ∈ vs, v.oneCell' = true) →
    ∃ cur' : Array Value, (storeCells ⟨b, o, none⟩ vs i).run P w = .ok () (w.setRow b cur') ∧ cur'.size = cur.size ∧
      (∀ k, k < o + i ∨ o + i + vs.length ≤ k → cur'[k]? = cur[k]?) ∧ ∀ (j : Nat) v, vs[j]? = some v → cur'[o + i + j]? = some v
  | [], i, cur, w, b, o, e, fz, hb, hf, hl, h1 => by
    refine ⟨cur, ?_, rfl, fun _ _ => rfl, by simp⟩
    simp only [storeCells, Sem.run_pure]
    congr 1
    have hlt : b < w.heap.size := (Array.getElem?_eq_some_iff.1 hb).1
    have hv : w.heap[b] = .cells cur e fz := (Array.getElem?_eq_some_iff.1 hb).2
    unfold World.setRow
    cases w with
    | mk heap tape drawn os output =>
      congr 1
      apply Array.ext
      · simp
      · intro k h1 h2
        simp only [Array.getElem_modify]
        split
        · rename_i hk; subst hk; simp at hv; simp [hv]
        · rfl
  | v :: rest, i, cur, w, b, o, e, fz, hb, hf, hl, h1 => by
    simp only [List.length_cons] at hl
    have hi : o + i < cur.size := by omega
    have hadd : (⟨b, o, none⟩ : Addr).add i = ⟨b, o + i, none⟩ := Addr.add_lit b o i
    have hcell : w.cell? ⟨b, o + i, none⟩ = some cur[o + i] := by rw [cell_cells hb]; simp [hi]
    have hset := setCell_eq_setRow w b (o + i) cur e fz v hb
    have hrow := setRow_heap w b cur (cur.setIfInBounds (o + i) v) e fz hb
    obtain ⟨cur', h2, h3, h4, h5⟩ := run_storeCells rest (i + 1) (cur.setIfInBounds (o + i) v) (w.setRow b (cur.setIfInBounds (o + i) v)) b o e fz hrow
      (by simpa using hf) (by simp; omega) (fun u hu => h1 u (List.mem_cons_of_mem _ hu))
    refine ⟨cur', ?_, by simpa using h3, fun k hk => ?_, fun j u hu => ?_⟩
    · simp only [storeCells, Sem.run_bind, run_store P w _ v _ (h1 v (List.mem_cons_self ..)), hadd, hcell, not_frozen hb hf hi, Bool.false_eq_true, if_false, Result.andThen_ok, hset, h2, setRow_setRow]
    · rw [h4 k (by simp only [List.length_cons] at hk; omega)]
      rw [Array.getElem?_setIfInBounds_ne (by simp only [List.length_cons] at hk; omega)]
    · cases j with
      | zero =>
        simp at hu; subst hu
        rw [Nat.add_zero, h4 (o + i) (by omega)]
        simp [hi]
      | succ j =>
        have := h5 j u (by simpa using hu)
        rw [show o + i + (j + 1) = o + (i + 1) + j by omega]
        exact this

/-- The cells behind a store of 'vs' at 'o'. -/
def Put (cs cs' : List AV) (o : Nat) (vs : List AV) : Prop :=
  cs'.length = cs.length ∧ ∀ (k : Nat) x, cs'[k]? = some x → (o ≤ k ∧ vs[k - o]? = some x) ∨ ((k < o ∨ o + vs.length ≤ k) ∧ cs[k]? = some x)

theorem put_splice {cs vs : List AV} {o : Nat} (h : o + vs.length ≤ cs.length) : Put cs (splice cs o vs) o vs := by
  unfold splice
  refine ⟨by simp; omega, fun k x hx => ?_⟩
  rw [List.append_assoc, List.getElem?_append] at hx
  simp only [List.length_take] at hx
  have hmin : min o cs.length = o := by omega
  rw [hmin] at hx
  split at hx
  · rename_i hk
    rw [List.getElem?_take, if_pos hk] at hx
    exact .inr ⟨.inl hk, hx⟩
  · rename_i hk
    rw [List.getElem?_append] at hx
    split at hx
    · exact .inl ⟨by omega, hx⟩
    · rename_i hk2
      rw [List.getElem?_drop] at hx
      refine .inr ⟨.inr (by omega), ?_⟩
      rw [← hx]; congr 1; omega

theorem put_set {cs : List AV} {o : Nat} {v : AV} (h : o < cs.length) : Put cs (cs.set o v) o [v] := by
  refine ⟨by simp, fun k x hx => ?_⟩
  rw [List.getElem?_set] at hx
  split at hx
  · rename_i hk
    subst hk
    simp [h] at hx
    exact .inl ⟨Nat.le_refl _, by simp [hx]⟩
  · rename_i hk
    refine .inr ⟨?_, hx⟩
    simp; omega

theorem put_one {cs : List AV} {o : Nat} {v : AV} (h : o + v.cells.length ≤ cs.length) : Put cs (if v.one then cs.set o v else splice cs o v.cells) o v.cells := by
  split
  · rename_i h1
    have : v.cells = [v] := by cases v <;> simp_all [AV.one, AV.cells]
    rw [this] at h ⊢
    exact put_set (by simp at h; omega)
  · exact put_splice h

/-- A write into an object's cells: the step. -/
theorem hr_write (hr : HR P ι w B L) {b : Nat} {cs cs' vs : List AV} {e : TypeId} {g : Bool} {l : Loc} {o : Nat} {us : List Value}
    (hL : L b = some (.cells cs e g)) (hl : ι b cs.length = some l) (ho : l.sub ≤ o) (hput : Put cs cs' o vs) (hle : o + vs.length ≤ cs.length) (hv : L2 (Vc ι) vs us) :
    ∃ w', (storeCells (l.at o) us 0).run P w = .ok () w' ∧ Same w w' ∧ Step P ι w B L (ι.set b cs'.length l) w' (upd L next (.set b (.cells cs' e g))) ∧
      (∀ b0 g0 l1, ι.set b cs'.length l b0 g0 = some l1 → ι b0 g0 = some l1 ∨ b0 = b) := by
  obtain ⟨l', hl', hR, hB⟩ := hr.obj b _ hL
  simp only [AObj.gen] at hl'
  rw [hl] at hl'; cases hl'
  obtain ⟨cur, fz, h1, h2, h3, h4, h5, h6⟩ := hR
  have hus := hv.length
  obtain ⟨cur', r1, r2, r3, r4⟩ := run_storeCells (P := P) us 0 cur w l.blk (o - l.sub + l.add) e fz h1 h2 (by omega) (fun u hu => by
    obtain ⟨j, hj⟩ := List.getElem?_of_mem hu
    have hjl : j < vs.length := by rw [hus]; exact (List.getElem?_eq_some_iff.1 hj).1
    obtain ⟨u', hu', hc⟩ := hv.get j vs[j] (by simp [hjl])
    rw [hj] at hu'; cases hu'
    exact hc.one.1)
  have hturn := hr_turn (next := next) hr (b := b) (o := .cells cs e g) (o' := .cells cs' e g) (l := l) (l' := l) (w' := w.setRow l.blk cur') hL rfl hl rfl
    (by simp [AObj.gen, hput.1]) (fun _ => rfl) (fun c _ hc => setRow_other w l.blk c cur' hc) (by simp) (.inl rfl) ⟨rfl, rfl, rfl⟩ (fun ι' he => by
      refine ⟨cur', fz, setRow_heap w l.blk cur cur' e fz h1, by rw [r2]; exact h2, by rw [hput.1]; exact h3, by rw [hput.1, r2]; exact h4, h5, fun k x hk hx => ?_⟩
      rcases hput.2 k x hx with ⟨hk1, hk2⟩ | ⟨hk1, hk2⟩
      · obtain ⟨u, hu, hc⟩ := hv.get _ x hk2
        refine ⟨u, ?_, hc.mono he⟩
        have := r4 _ u hu
        rw [← this]; congr 1; omega
      · obtain ⟨u, hu, hc⟩ := h6 k x hk hk2
        exact ⟨u, by rw [r3 _ (by omega)]; exact hu, hc.mono he⟩)
  exact ⟨_, r1, ⟨rfl, rfl, rfl⟩, hturn⟩

theorem ok_store (hr : HR P ι w B L) {t : TypeId} {p x : AV} {u y : Value} {δ : Delta} (hp : V ι p u) (hx : V ι x y) (h : astore P L t p x = some δ) :
    ∃ ι' w', (Instr.storeAt t u y).run P w = .ok () w' ∧ Step P ι w B L ι' w' (upd L next δ) ∧ ∀ b g l, ι' b g = some l → ι b g = some l ∨ δ.touches next b := by
  unfold astore at h
  split at h
  · rename_i a
    obtain ⟨l, hl, hsub, rfl⟩ := hp.ptr_inv
    split at h
    · rename_i cs e g hL
      split at h
      · rename_i hc
        obtain ⟨hg, hpos, hsz, hone, hle⟩ := hc
        simp at h; subst h
        rw [← hg] at hl
        have hcells := hx.cells hone
        obtain ⟨w', r1, _, r2, r3⟩ := hr_write (next := next) hr hL hl hsub (put_one (v := x) hle) hle hcells
        have hlen := hcells.length
        refine ⟨_, w', ?_, r2, fun b0 g0 l1 h => by rcases r3 b0 g0 l1 h with h | h; exact .inl h; exact .inr h⟩
        simp [Instr.storeAt, Instr.sureAddr, storeVar, run_sizeOf hpos, ← hsz, hlen, r1]
      · simp at h
    · simp at h
  · simp at h

end Go.AM
