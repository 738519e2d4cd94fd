/-
  One operation of the abstract machine stands for one of the model's: slicing, what makes memory.
-/
import Derived.Test.YtamidpfdiijjgaaAM4
import Derived.Lib.ConvBytes
import Derived.Laws.MakeOwn
namespace Go.AM
open Go
set_option linter.unusedVariables false
set_option linter.unusedSimpArgs false
variable {P : Program} {ι : Inj} {w : World} {B : Nat} {L : Look} {next : Nat}

/-- An optional operand's value. -/
def VO (ι : Inj) : Option AV → Option Value → Prop
  | none, none => True
  | some a, some v => V ι a v
  | _, _ => False

theorem run_bounds {isS : Bool} {n c c' h l : Nat} {lo hi : Option AV} {u v : Option Value} (hlo : VO ι lo u) (hhi : VO ι hi v) (hc : c ≤ c')
    (h1 : bound hi n c = some h) (h2 : bound lo 0 h = some l) : (Instr.sliceBounds isS n c' u v none).run P w = .ok (l, h, c') w ∧ l ≤ h ∧ (hi.isSome → h ≤ c) := by
  have hl : l ≤ h := by
    unfold bound at h2
    split at h2
    · simp at h2; omega
    · split at h2
      · simp at h2; omega
      · simp at h2
    · simp at h2
  have hh : hi.isSome → h ≤ c := by
    intro hs
    unfold bound at h1
    split at h1
    · simp at hs
    · split at h1
      · simp at h1; omega
      · simp at h1
    · simp at h1
  refine ⟨?_, hl, hh⟩
  cases hi with
  | none =>
    cases v with
    | some v => exact hhi.elim
    | none =>
      simp [bound] at h1; subst h1
      cases lo with
      | none =>
        cases u with
        | some u => exact hlo.elim
        | none => simp [bound] at h2; subst h2; simp [Instr.sliceBounds]
      | some x =>
        cases u with
        | none => exact hlo.elim
        | some u =>
          have := run_bound (P := P) (w := w) (kc := if false then BoundsCode.slice3C else BoundsCode.sliceB) (u := some u) (d := 0) (lim' := n) (fun a ha => ⟨u, rfl, by cases ha; exact hlo⟩) (fun h => by cases h) (Nat.le_refl _) h2
          simp at this
          simp [Instr.sliceBounds, this]
  | some y =>
    cases v with
    | none => exact hhi.elim
    | some v =>
      have hb := run_bound (P := P) (w := w) (kc := if isS then BoundsCode.sliceAcap else BoundsCode.sliceAlen) (x := some y) (u := some v) (d := 0) (lim' := c') (fun a ha => ⟨v, rfl, by cases ha; exact hhi⟩) (fun h => by cases h) hc (n := h) (by
        unfold bound at h1 ⊢; split at h1 <;> simp_all)
      simp at hb
      cases lo with
      | none =>
        cases u with
        | some u => exact hlo.elim
        | none => simp [bound] at h2; subst h2; simp [Instr.sliceBounds, hb]
      | some x =>
        cases u with
        | none => exact hlo.elim
        | some u =>
          have := run_bound (P := P) (w := w) (kc := if false then BoundsCode.slice3C else BoundsCode.sliceB) (u := some u) (d := 0) (lim' := h) (fun a ha => ⟨u, rfl, by cases ha; exact hlo⟩) (fun h => by cases h) (Nat.le_refl _) h2
          simp at this
          simp [Instr.sliceBounds, hb, this]

theorem ok_slice {t : TypeId} {x r : AV} {lo hi mx : Option AV} {u : Value} {ulo uhi umx : Option Value} (hx : V ι x u) (hlo : VO ι lo ulo) (hhi : VO ι hi uhi) (hmx : VO ι mx umx)
    (h : aslice P t x lo hi mx = some r) : ∃ z, (Instr.sliceAt t u ulo uhi umx).run P w = .ok z w ∧ V ι r z := by
  unfold aslice at h
  split at h
  · simp at h
  cases umx with
  | some _ => exact hmx.elim
  | none =>
  split at h
  · rename_i s hk
    obtain rfl := hx.str_inv
    have hu := tk_str hk
    split at h
    · rename_i hh hhb
      split at h
      · rename_i ll hlb
        simp at h; subst h
        obtain ⟨h1, h2, h3⟩ := run_bounds (P := P) (w := w) (isS := false) hlo hhi (Nat.le_refl _) hhb hlb
        refine ⟨.string ((ByteArray.mk s.toArray).extract ll hh), by simp [Instr.sliceAt, Instr.slice, run_underlying hu, size_of, h1], ?_⟩
        simp only [V, Va, Vc, Vp]
        rw [ByteArray.data_extract, Array.toList_extract, List.extract_eq_take_drop]
      · simp at h
    · simp at h
  · rename_i e a n c hk
    have hu := tk_slice hk
    split at h
    · rename_i hh hhb
      split at h
      · rename_i ll hlb
        split at h
        · rename_i hpos
          simp at h; subst h
          cases a with
          | none =>
            obtain ⟨rfl, rfl, rfl⟩ := hx.sl_none
            obtain ⟨h1, h2, h3⟩ := run_bounds (P := P) (w := w) (isS := true) hlo hhi (Nat.le_refl _) hhb hlb
            have hh0 : hh = 0 := by
              cases hi with
              | none => simp [bound] at hhb; omega
              | some y => have := h3 rfl; omega
            have hl0 : ll = 0 := by omega
            subst hh0; subst hl0
            exact ⟨.slice none 0 0, by simp [Instr.sliceAt, Instr.slice, run_underlying hu, h1, run_sizeOf hpos], by simp [V, Va, Vc, Vp]⟩
          | some a =>
            obtain ⟨p, l, rfl, hnc, hl, hsub, hp⟩ := hx.sl_inv
            obtain ⟨h1, h2, h3⟩ := run_bounds (P := P) (w := w) (isS := true) (c' := c + l.extra) hlo hhi (by omega) hhb hlb
            have hhc : hh ≤ c := by
              cases hi with
              | none => simp [bound] at hhb; omega
              | some y => exact h3 rfl
            refine ⟨.slice (if c + l.extra = ll then some p else some (p.add (ll * tsz P e))) (hh - ll) (c + l.extra - ll), ?_, ?_⟩
            · simp [Instr.sliceAt, Instr.slice, run_underlying hu, h1, run_sizeOf hpos]
            · split
              · rename_i he
                simp only [V, Va, Vc, Vp, Option.map]
                refine ⟨trivial, by omega, l, hl, Nat.le_trans hsub (Nat.le_add_right _ _), by omega, fun h0 => by omega⟩
              · rename_i he
                simp only [V, Va, Vc, Vp, Option.map]
                refine ⟨trivial, by omega, l, hl, Nat.le_trans hsub (Nat.le_add_right _ _), by omega, fun h0 => ?_⟩
                rw [hp (by omega), Loc.at_add _ _ _ hsub]
        · simp at h
      · simp at h
    · simp at h
  · simp at h

/-! ### literals -/

theorem foldl_set : ∀ (us : List Value) (k : Nat) (arr : Array Value) (off : Nat),
    ((us.zipIdx k).foldl (fun (a : Array Value) (x : Value × Nat) => a.setIfInBounds (off + x.2) x.1) arr).size = arr.size ∧
    ∀ j, ((us.zipIdx k).foldl (fun (a : Array Value) (x : Value × Nat) => a.setIfInBounds (off + x.2) x.1) arr)[j]? =
      if off + k ≤ j ∧ j < off + k + us.length ∧ j < arr.size then us[j - (off + k)]? else arr[j]?
  | [], k, arr, off => by
    refine ⟨rfl, fun j => ?_⟩
    rw [if_neg (by simp; omega)]
    rfl
  | u :: us, k, arr, off => by
    obtain ⟨h1, h2⟩ := foldl_set us (k + 1) (arr.setIfInBounds (off + k) u) off
    simp only [List.zipIdx_cons, List.foldl_cons]
    refine ⟨by simpa using h1, fun j => ?_⟩
    rw [h2 j]
    simp only [Array.size_setIfInBounds, List.length_cons]
    by_cases hj : j = off + k
    · subst hj
      rw [if_neg (by omega)]
      by_cases hlt : off + k < arr.size
      · rw [if_pos (by omega)]
        simp [hlt]
      · rw [if_neg (by omega)]
        simp [hlt]
    · by_cases hr : off + (k + 1) ≤ j ∧ j < off + (k + 1) + us.length ∧ j < arr.size
      · rw [if_pos hr, if_pos (by omega)]
        rw [show j - (off + k) = (j - (off + (k + 1))) + 1 by omega]
        simp
      · rw [if_neg hr, if_neg (by omega)]
        rw [Array.getElem?_setIfInBounds_ne (by omega)]

theorem place_fold {R : AV → Value → Prop} {vs cs cs' : List AV} {us : List Value} {arr : Array Value} {off : Nat} (hv : L2 R vs us) (hc : L2 R cs arr.toList) (hle : off + vs.length ≤ cs.length)
    (hp : Put cs cs' off vs) : L2 R cs' ((us.zipIdx.foldl (fun (a : Array Value) (x : Value × Nat) => a.setIfInBounds (off + x.2) x.1) arr).toList) := by
  obtain ⟨h1, h2⟩ := foldl_set us 0 arr off
  have hlv := hv.length
  have hlc := hc.length
  simp only [Array.length_toList] at hlc
  refine L2.of_get (by rw [hp.1, hlc, Array.length_toList, h1]) fun i a ha => ?_
  have hi : i < cs'.length := (List.getElem?_eq_some_iff.1 ha).1
  rw [hp.1, hlc] at hi
  rcases hp.2 i a ha with ⟨k1, k2⟩ | ⟨k1, k2⟩
  · have hk : i - off < vs.length := (List.getElem?_eq_some_iff.1 k2).1
    obtain ⟨u, hu, hr⟩ := hv.get _ a k2
    refine ⟨u, ?_, hr⟩
    rw [Array.getElem?_toList, h2 i, if_pos (by omega)]
    simpa using hu
  · obtain ⟨u, hu, hr⟩ := hc.get _ a k2
    refine ⟨u, ?_, hr⟩
    rw [Array.getElem?_toList, h2 i, if_neg (by omega)]
    simpa using hu

/-- The parts of a literal: the same places, values that stand for each other. -/
def PartsR (ι : Inj) (x : Nat × AV) (y : Nat × Value) : Prop := x.1 = y.1 ∧ V ι x.2 y.2

theorem fill_ok : ∀ {parts : List (Nat × AV)} {qs : List (Nat × Value)} {place : Nat → Option (Nat × Nat)} {cs out : List AV} {arr : Array Value}, L2 (PartsR ι) parts qs → L2 (Vc ι) cs arr.toList →
    afill place cs parts = some out → ∃ arr', Instr.fill place arr qs = some arr' ∧ L2 (Vc ι) out arr'.toList
  | [], [], place, cs, out, arr, _, hc, h => by
    simp [afill] at h; subst h
    exact ⟨arr, rfl, hc⟩
  | (i, v) :: parts, (i', u) :: qs, place, cs, out, arr, hp, hc, h => by
    obtain ⟨⟨rfl, hv⟩, hps⟩ := hp
    simp only at hv
    unfold afill at h
    unfold Instr.fill
    split at h
    · simp at h
    · rename_i off size hpl
      split at h
      · simp at h
      · rename_i hn
        simp only [not_or, Nat.not_lt, Bool.not_eq_false] at hn
        obtain ⟨hsz, hle, hone⟩ := hn
        have hsz : v.cells.length = size := Decidable.not_not.1 hsz
        have hcells := hv.cells hone
        have hl := hcells.length
        have hlc := hc.length
        simp only [Array.length_toList] at hl hlc
        have hcond : ¬ (u.cells.size ≠ size ∨ off + u.cells.size > arr.size) := by omega
        have hcond' : (decide (u.cells.size ≠ size) || decide (off + u.cells.size > arr.size)) = false := by
          simp; omega
        rw [hpl]
        simp only [hcond', Bool.false_eq_true, if_false]
        have hpf := place_fold hcells hc hle (put_one (v := v) hle)
        obtain ⟨arr', h1, h2⟩ := fill_ok (place := place) hps hpf h
        refine ⟨arr', ?_, h2⟩
        rw [← h1]
        congr 1
        rw [← Array.foldl_toList]
        simp
  | [], _ :: _, _, _, _, _, hp, _, _ => hp.elim
  | _ :: _, [], _, _, _, _, hp, _, _ => hp.elim

theorem ok_build {t : TypeId} {parts : List (Nat × AV)} {qs : Array (Nat × Value)} {r : AV} (hp : L2 (PartsR ι) parts qs.toList) (h : abuild P t parts = some r) :
    ∃ z, (Instr.build t qs).run P w = .ok z w ∧ V ι r z := by
  unfold abuild at h
  split at h
  · rename_i z hz hk
    obtain ⟨fs, hu⟩ := tk_struct hk
    split at h
    · rename_i pl hpl
      cases hf : afill (fun i => pl[i]?) z.cells parts with
      | none => simp [hf] at h
      | some out =>
        simp [hf] at h; subst h
        obtain ⟨i, zv, hi, hiz, _, habs⟩ := zero_of hz
        obtain ⟨arr', h1, h2⟩ := fill_ok hp (absV_cells habs ι).1 hf
        refine ⟨.agg arr', run_build w t qs arr' ?_, h2⟩
        unfold tplaces at hpl
        rw [hu] at hpl
        simp only at hpl
        unfold Program.built
        simp only [hi, hu, hiz, hpl]
        simpa using h1
    · simp at h
  · rename_i z n e hz hk
    have hu := tk_arr hk
    split at h
    · rename_i hpos
      obtain ⟨ie, hie, hs, _⟩ := info_of_tsz hpos
      cases hf : afill (fun i => some (i * tsz P e, tsz P e)) z.cells parts with
      | none => simp [hf] at h
      | some out =>
        simp [hf] at h; subst h
        obtain ⟨i, zv, hi, hiz, _, habs⟩ := zero_of hz
        obtain ⟨arr', h1, h2⟩ := fill_ok hp (absV_cells habs ι).1 hf
        refine ⟨.agg arr', run_build w t qs arr' ?_, h2⟩
        unfold Program.built
        simp only [hi, hu, hiz, hie, hs]
        exact h1
    · simp at h
  · simp at h

/-! ### new variables and rows -/

theorem new_cells (hr : HR P ι w B L) (hn : L next = none) (hf : ∀ g, ι next g = none) {cs : List AV} {e : TypeId} {g : Bool} {cur : Array Value} {fz : Nat × Nat} {extra : Nat} {w' : World}
    (hc : ∀ (i : Nat) x, cs[i]? = some x → ∃ v, cur[i]? = some v ∧ Vc ι x v) (hlen : cs.length + extra * tsz P e ≤ cur.size) (hg : g = false → extra = 0) (hfz : free cur.size fz)
    (hnew : w'.heap[w.heap.size]? = some (.cells cur e fz)) (hoth : ∀ c, c < w.heap.size → w'.heap[c]? = w.heap[c]?) (hs : Same w w') :
    Step P ι w B L (ι.set next cs.length ⟨w.heap.size, 0, 0, extra⟩) w' (upd L next (.new (.cells cs e g))) ∧
    (∀ b g' l', ι.set next cs.length ⟨w.heap.size, 0, 0, extra⟩ b g' = some l' → ι b g' = some l' ∨ b = next) := by
  have hlt : w.heap.size < w'.heap.size := (Array.getElem?_eq_some_iff.1 hnew).1
  exact hr_new hr hn hf (o := .cells cs e g) rfl hoth (Nat.le_of_lt hlt) ⟨Nat.le_refl _, hlt⟩ hs fun ι' he =>
    ⟨cur, fz, hnew, hfz, Nat.zero_le _, by simpa using hlen, hg, fun o x _ hx => by
      obtain ⟨v, hv, hr⟩ := hc o x hx
      exact ⟨v, by simpa using hv, hr.mono he⟩⟩

theorem alloc_new (w : World) (o : Obj) : (w.alloc o).heap[w.heap.size]? = some o := heap_alloc_new w o
theorem alloc_old (w : World) (o : Obj) (c : Nat) (h : c < w.heap.size) : (w.alloc o).heap[c]? = w.heap[c]? := heap_alloc_old w o c h

theorem free_zero (n : Nat) : free n (0, 0) := .inl rfl

theorem new_alloc (hr : HR P ι w B L) (hn : L next = none) (hf : ∀ g, ι next g = none) {cs : List AV} {e : TypeId} {g : Bool} {vs : Array Value} (hc : L2 (Vc ι) cs vs.toList) :
    Step P ι w B L (ι.set next cs.length ⟨w.heap.size, 0, 0, 0⟩) (w.alloc (.cells vs e)) (upd L next (.new (.cells cs e g))) ∧
    (∀ b g' l', ι.set next cs.length ⟨w.heap.size, 0, 0, 0⟩ b g' = some l' → ι b g' = some l' ∨ b = next) := by
  have hl := hc.length
  simp only [Array.length_toList] at hl
  refine new_cells hr hn hf (fz := (0, 0)) (extra := 0) (fun i x hx => ?_) (by omega) (fun _ => rfl) (free_zero _) (alloc_new _ _) (fun c h => alloc_old _ _ c h) ⟨rfl, rfl, rfl⟩
  obtain ⟨v, hv, h⟩ := hc.get i x hx
  exact ⟨v, by simpa using hv, h⟩

theorem V_new (ι : Inj) (b n : Nat) (l : Loc) (hl : l.sub = 0) (ha : l.add = 0) : V (ι.set b n l) (.ptr (some ⟨b, 0, n⟩)) (.pointer (some ⟨l.blk, 0, none⟩)) := by
  simp only [V, Va, Vc, Vp]
  exact ⟨l, Inj.set_same .., by omega, by simp [Loc.at, ha]⟩

theorem ok_alloc (hr : HR P ι w B L) (hn : L next = none) (hf : ∀ g, ι next g = none) {t : TypeId} {z : AV} (hz : tzero P t = some z) :
    ∃ w' u, (Instr.alloc t true (.tuple #[])).run P w = .ok u w' ∧ V (ι.set next z.cells.length ⟨w.heap.size, 0, 0, 0⟩) (.ptr (some ⟨next, 0, z.cells.length⟩)) u ∧
      Step P ι w B L (ι.set next z.cells.length ⟨w.heap.size, 0, 0, 0⟩) w' (upd L next (.new (.cells z.cells t false))) ∧
      (∀ b g' l', ι.set next z.cells.length ⟨w.heap.size, 0, 0, 0⟩ b g' = some l' → ι b g' = some l' ∨ b = next) := by
  obtain ⟨i, zv, hi, hiz, _, habs⟩ := zero_of hz
  have hc := (absV_cells habs ι).1
  refine ⟨w.alloc (.cells zv.cells t), .pointer (some ⟨w.heap.size, 0, none⟩), ?_, V_new _ _ _ _ rfl rfl, new_alloc hr hn hf hc⟩
  simp [Instr.alloc, run_zeroValue hi hiz, newVar, newRow]

theorem ok_box (hr : HR P ι w B L) (hn : L next = none) (hf : ∀ g, ι next g = none) {t : TypeId} {x : AV} {v : Value} (hx : V ι x v) (hone : x.cells.all AV.one = true) :
    ∃ w' u, (Instr.box t v).run P w = .ok u w' ∧ V (ι.set next x.cells.length ⟨w.heap.size, 0, 0, 0⟩) (.ptr (some ⟨next, 0, x.cells.length⟩)) u ∧
      Step P ι w B L (ι.set next x.cells.length ⟨w.heap.size, 0, 0, 0⟩) w' (upd L next (.new (.cells x.cells t false))) ∧
      (∀ b g' l', ι.set next x.cells.length ⟨w.heap.size, 0, 0, 0⟩ b g' = some l' → ι b g' = some l' ∨ b = next) := by
  have hc := hx.cells hone
  refine ⟨w.alloc (.cells v.cells t), .pointer (some ⟨w.heap.size, 0, none⟩), ?_, V_new _ _ _ _ rfl rfl, new_alloc hr hn hf hc⟩
  simp [Instr.box, newVar, newRow]

theorem zeros_length (z : List AV) : ∀ n, (zeros z n).length = n * z.length
  | 0 => by simp [zeros]
  | n + 1 => by simp [zeros, zeros_length z n, Nat.add_mul]; omega

theorem zeros_get (z : List AV) (hz : 0 < z.length) : ∀ (n i : Nat), i < n * z.length → (zeros z n)[i]? = z[i % z.length]?
  | 0, i, h => by simp at h
  | n + 1, i, h => by
    simp only [zeros, List.getElem?_append]
    split
    · rename_i hi
      rw [Nat.mod_eq_of_lt hi]
    · rename_i hi
      rw [zeros_get z hz n (i - z.length) (by rw [Nat.succ_mul] at h; omega)]
      rw [Nat.mod_eq_sub_mod (a := i) (by omega)]

theorem zeros_L2 {z : List AV} {zv : Array Value} (h : L2 (Vc ι) z zv.toList) (hz : 0 < z.length) (n : Nat) :
    L2 (Vc ι) (zeros z n) ((Array.range (n * z.length)).map (zv[· % zv.size]!)).toList := by
  have hl := h.length
  simp only [Array.length_toList] at hl
  refine L2.of_get (by simp [zeros_length]) fun i a ha => ?_
  have hi : i < n * z.length := by
    have := (List.getElem?_eq_some_iff.1 ha).1
    rwa [zeros_length] at this
  rw [zeros_get z hz n i hi] at ha
  obtain ⟨v, hv, hr⟩ := h.get _ a ha
  refine ⟨v, ?_, hr⟩
  have hm : i % zv.size < zv.size := Nat.mod_lt _ (by omega)
  rw [hl] at hv
  simp only [Array.getElem?_toList] at hv ⊢
  rw [Array.getElem?_map, Array.getElem?_range, if_pos hi, Option.map_some, getElem!_pos zv (i % zv.size) hm]
  rw [Array.getElem?_eq_getElem hm] at hv
  exact hv

theorem ok_buildSlice (hr : HR P ι w B L) {t : TypeId} {n : Nat} {parts : List (Nat × AV)} {qs : Array (Nat × Value)} {r : AV} {δ : Delta}
    (hp : L2 (PartsR ι) parts qs.toList) (h : abuildSlice P next t n parts = some (r, δ)) (hnf : (∃ o, δ = .new o) → L next = none ∧ ∀ g, ι next g = none) :
    ∃ ι' w' u, (Instr.buildSlice t n qs).run P w = .ok u w' ∧ V ι' r u ∧ Step P ι w B L ι' w' (upd L next δ) ∧ (∀ b g' l', ι' b g' = some l' → ι b g' = some l' ∨ δ.touches next b) := by
  unfold abuildSlice at h
  split at h
  · rename_i e hk
    have hu := tk_slice hk
    split at h
    · rename_i z hz
      split at h
      · rename_i hc
        obtain ⟨hzl, hpos, hle⟩ := hc
        split at h
        · rename_i cs hfill
          simp at h
          obtain ⟨rfl, rfl⟩ := h
          obtain ⟨i, zv, hi, hiz, _, habs⟩ := zero_of hz
          have hz2 := zeros_L2 (absV_cells habs ι).1 (by omega) n
          obtain ⟨arr', h1, h2⟩ := fill_ok hp hz2 hfill
          have hst := new_alloc hr (hnf ⟨_, rfl⟩).1 (hnf ⟨_, rfl⟩).2 (e := e) (g := true) h2
          refine ⟨_, _, .slice (some ⟨w.heap.size, 0, none⟩) n n, ?_, ?_, hst.1, hst.2⟩
          · rw [hzl] at h1
            have hne : ¬ (2 ^ 24 < n * tsz P e) := by omega
            by_cases h0 : n * tsz P e = 0
            · simp only [h0, Array.range_zero', Array.map_empty] at h1
              simp [Instr.buildSlice, run_underlying hu, run_sizeOf hpos, h0, h1, newRow, Array.range_zero']
            · simp [Instr.buildSlice, run_underlying hu, run_sizeOf hpos, hne, h0, run_zeroValue hi hiz, h1, newRow]
          · simp only [V, Va, Vc, Vp]
            exact ⟨trivial, Nat.le_refl _, _, Inj.set_same .., Nat.le_refl _, by simp, fun _ => by simp [Loc.at]⟩
        · simp at h
      · simp at h
    · simp at h
  · simp at h

theorem ok_makeSlice (hr : HR P ι w B L) {t : TypeId} {a c r : AV} {u v : Value} {δ : Delta}
    (ha : V ι a u) (hc : V ι c v) (h : amakeSlice P next t a c = some (r, δ)) (hnf : (∃ o, δ = .new o) → L next = none ∧ ∀ g, ι next g = none) :
    ∃ ι' w' z, (Instr.makeSlice t u v).run P w = .ok z w' ∧ V ι' r z ∧ Step P ι w B L ι' w' (upd L next δ) ∧ (∀ b g' l', ι' b g' = some l' → ι b g' = some l' ∨ δ.touches next b) := by
  unfold amakeSlice at h
  split at h
  · rename_i e l n hk
    have hu := tk_slice hk
    obtain rfl := ha.int_inv
    obtain rfl := hc.int_inv
    split at h
    · rename_i z hz
      split at h
      · rename_i hcond
        obtain ⟨hzl, hpos, h0, hln, hb, h63⟩ := hcond
        simp at h
        obtain ⟨rfl, rfl⟩ := h
        obtain ⟨i, zv, hi, hiz, _, habs⟩ := zero_of hz
        obtain ⟨ie, hie, hs, hby⟩ := info_of_tsz hpos
        rw [hi] at hie; cases hie
        have hz2 := zeros_L2 (absV_cells habs ι).1 (by omega) n.toNat
        have hst := new_alloc hr (hnf ⟨_, rfl⟩).1 (hnf ⟨_, rfl⟩).2 (e := e) (g := true) hz2
        rw [zeros_length, hzl] at hst
        refine ⟨_, _, .slice (some ⟨w.heap.size, 0, none⟩) l.toNat n.toNat, ?_, ?_, hst.1, hst.2⟩
        · have := run_make (P := P) w t e i zv hu hi hiz .i64 .i64 l n h0 hln (by rw [hby]; exact hb) h63
          rw [this, hs]
          rfl
        · simp only [V, Va, Vc, Vp]
          exact ⟨trivial, by omega, _, Inj.set_same .., Nat.le_refl _, by simp, fun _ => by simp [Loc.at]⟩
      · simp at h
    · simp at h
  · simp at h

end Go.AM
