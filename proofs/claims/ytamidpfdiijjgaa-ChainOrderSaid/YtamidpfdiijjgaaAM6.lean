/-
  One operation of the abstract machine stands for one of the model's: conversions, append.
-/
import Derived.Test.YtamidpfdiijjgaaAM5
import Derived.Laws.BytesString
namespace Go.AM
open Go
set_option linter.unusedVariables false
set_option linter.unusedSimpArgs false
variable {P : Program} {ι : Inj} {w : World} {B : Nat} {L : Look} {next : Nat}

/-! ### conversions -/

theorem byteCells_L2 (ι : Inj) (s : List UInt8) : L2 (Vc ι) (byteCells s) ((s.toArray.map fun b => Value.int .u8 (b.toNat : Int)).toList) := by
  unfold byteCells
  simp only [Array.toList_map]
  induction s with
  | nil => trivial
  | cons c s ih => exact ⟨⟨rfl, rfl⟩, ih⟩

theorem cellBytes_spec : ∀ {cs : List AV} {s : List UInt8} {vs : List Value}, cellBytes cs = some s → L2 (Vc ι) cs vs →
    ∃ ns : List Int, vs = ns.map (Value.int .u8) ∧ s = ns.map fun n => UInt8.ofNat n.toNat
  | [], s, [], h, _ => by simp [cellBytes] at h; subst h; exact ⟨[], rfl, rfl⟩
  | c :: cs, s, v :: vs, h, hv => by
    unfold cellBytes at h
    split at h
    · simp_all
    · rename_i n r heq
      simp at heq
      obtain ⟨rfl, rfl⟩ := heq
      cases hr : cellBytes cs with
      | none => simp [hr] at h
      | some s' =>
        simp [hr] at h; subst h
        obtain ⟨ns, h1, h2⟩ := cellBytes_spec hr hv.2
        have := (V.of_Vc hv.1).int_inv
        exact ⟨n :: ns, by simp [this, h1], by simp [h2]⟩
    · simp at h
  | [], _, _ :: _, _, hv => hv.elim
  | _ :: _, _, [], _, hv => hv.elim

theorem foldl_push : ∀ (ns : List Int) (s : ByteArray), (ns.foldl (fun r n => r.push (UInt8.ofNat n.toNat)) s).data.toList = s.data.toList ++ ns.map fun n => UInt8.ofNat n.toNat
  | [], s => by simp
  | n :: ns, s => by
    simp only [List.foldl_cons, List.map_cons]
    rw [foldl_push ns]
    simp [ByteArray.push]

/-- The elements of a slice, as the model reads them. -/
theorem slCells_run (hr : HR P ι w B L) {e : TypeId} {a : AA} {n c : Nat} {cs : List AV} {p : Addr} {l : Loc} (hl : ι a.b a.gen = some l) (hsub : l.sub ≤ a.off)
    (h : slCells P L e (.sl (some a) n c) = some cs) :
    ∃ vs : List Value, L2 (Vc ι) cs vs ∧ vs.length = n * tsz P e ∧ (∀ (j : Nat) v, vs[j]? = some v → w.cell? ((l.at a.off).add j) = some v) := by
  unfold slCells at h
  split at h
  · rename_i heq; simp at heq
  · rename_i a' n' c' heq
    simp only [AV.sl.injEq, Option.some.injEq] at heq
    obtain ⟨rfl, rfl, rfl⟩ := heq
    split at h
    · rename_i cs' hrow
      split at h
      · rename_i hle
        simp at h; subst h
        obtain ⟨vs, h1, h2, h3, _⟩ := cells_run hr hrow hl hsub hle
        exact ⟨vs, h1, h2, h3⟩
      · simp at h
    · simp at h
  · rename_i hne; simp at hne

theorem ok_conv (hr : HR P ι w B L) {s d : TypeId} {x r : AV} {u : Value} {δ : Delta} (hx : V ι x u) (h : aconv P L next s d x = some (r, δ)) (hnf : (∃ o, δ = .new o) → L next = none ∧ ∀ g, ι next g = none) :
    ∃ ι' w' z, (convert s d u).run P w = .ok z w' ∧ V ι' r z ∧ Step P ι w B L ι' w' (upd L next δ) ∧ (∀ b g' l', ι' b g' = some l' → ι b g' = some l' ∨ δ.touches next b) := by
  unfold aconv at h
  split at h
  · rename_i k1 k2 k n hs hd
    obtain rfl := hx.int_inv
    simp at h
    obtain ⟨rfl, rfl⟩ := h
    exact ⟨ι, w, _, by simp [convert, run_underlying (tk_int hs), run_underlying (tk_int hd), Conv.intToInt], .int _ _ _, .refl hr, fun _ _ _ h => .inl h⟩
  · rename_i k1 k n hs hd
    obtain rfl := hx.int_inv
    simp at h
    obtain ⟨rfl, rfl⟩ := h
    exact ⟨ι, w, .string (Utf8.encode n), by simp [convert, run_underlying (tk_int hs), run_underlying (tk_str hd), Conv.intToString], rfl, .refl hr, fun _ _ _ h => .inl h⟩
  · rename_i s hs hd
    obtain rfl := hx.str_inv
    simp at h
    obtain ⟨rfl, rfl⟩ := h
    exact ⟨ι, w, _, by simp [convert, run_underlying (tk_str hs), run_underlying (tk_str hd)], .str _ _, .refl hr, fun _ _ _ h => .inl h⟩
  · rename_i e s hs hd
    obtain rfl := hx.str_inv
    split at h
    · rename_i hc
      obtain ⟨he, hsz⟩ := hc
      simp at h
      obtain ⟨rfl, rfl⟩ := h
      have hge : s.length ≤ grownCap w s.length 0 e := grownCap_ge w s.length 0 e
      have hst := new_cells hr (hnf ⟨_, rfl⟩).1 (hnf ⟨_, rfl⟩).2 (cs := byteCells s) (e := e) (g := true) (cur := Lib.bytesCells w e ⟨s.toArray⟩) (fz := ((Lib.bytesCells w e ⟨s.toArray⟩).size, (Lib.bytesCells w e ⟨s.toArray⟩).size + 1))
        (extra := grownCap w s.length 0 e - s.length) (w' := Lib.bytesWorld w e ⟨s.toArray⟩) (fun i x hx => by
          obtain ⟨v, hv, hc⟩ := (byteCells_L2 ι s).get i x hx
          refine ⟨v, ?_, hc⟩
          have hi : i < s.length := by have := (List.getElem?_eq_some_iff.1 hx).1; simpa [byteCells] using this
          unfold Lib.bytesCells
          rw [Array.getElem?_append_left (by simpa using hi)]
          simpa using hv) (by simp [byteCells, Lib.bytesCells, size_of, hsz]) (by simp) (.inr (Nat.le_refl _)) (Lib.bytesWorld_at_new w e _)
        (fun c hc => Lib.bytesWorld_at_old w e _ c hc) ⟨by first | rfl | (simp [Lib.bytesWorld, World.freeze]; done) | (simp [Lib.bytesWorld, World.freeze]; rfl), by first | rfl | (simp [Lib.bytesWorld, World.freeze]; done) | (simp [Lib.bytesWorld, World.freeze]; rfl), by first | rfl | (simp [Lib.bytesWorld, World.freeze]; done) | (simp [Lib.bytesWorld, World.freeze]; rfl)⟩
      have hlen : (byteCells s).length = s.length := by simp [byteCells]
      rw [hlen] at hst
      refine ⟨_, _, _, Lib.run_convert_string_bytes w _ _ e ⟨s.toArray⟩ (tk_str hs) (tk_slice hd) (tk_int he), ?_, hst.1, hst.2⟩
      simp only [V, Va, Vc, Vp]
      exact ⟨rfl, Nat.le_refl _, _, Inj.set_same .., Nat.le_refl _, by simp only [size_of]; omega, fun _ => by simp [Loc.at]⟩
    · simp at h
  · rename_i e e2 a n c hs hd
    obtain ⟨p, l, rfl, hnc, hl, hsub, hp⟩ := hx.sl_inv
    split at h
    · rename_i cs e' g hL
      split at h
      · rename_i hc
        obtain ⟨rfl, he, hpos, hg⟩ := hc
        simp at h
        obtain ⟨rfl, rfl⟩ := h
        obtain rfl := hp (by omega)
        rw [← hg] at hl
        obtain ⟨l', hl', hR, hB⟩ := hr.obj a.b _ hL
        simp only [AObj.gen] at hl'
        rw [hl] at hl'; cases hl'
        obtain ⟨cur, fz, h1, h2, h3, h4, h5, h6⟩ := hR
        have hlt : l.blk < w.heap.size := (Array.getElem?_eq_some_iff.1 h1).1
        have hget : w.heap[l.blk] = .cells cur e' fz := (Array.getElem?_eq_some_iff.1 h1).2
        have hfr : (w.freeze ⟨l.blk, cur.size, none⟩ 1).heap[l.blk]? = some (.cells cur e' (if fz.1 == fz.2 then (cur.size, cur.size + 1) else (min fz.1 cur.size, max fz.2 (cur.size + 1)))) := by
          simp only [World.freeze, Nat.one_ne_zero, if_false]
          rw [Array.getElem?_eq_getElem (by simpa using hlt), Array.getElem_modify_self]
          simp only [hget]
        have hoth : ∀ c, c < w.heap.size → c ≠ l.blk → (w.freeze ⟨l.blk, cur.size, none⟩ 1).heap[c]? = w.heap[c]? := by
          intro c _ hc
          simp only [World.freeze, Nat.one_ne_zero, if_false]
          rw [Array.getElem?_modify]
          simp [Ne.symm hc]
        have hsz : w.heap.size ≤ (w.freeze ⟨l.blk, cur.size, none⟩ 1).heap.size := by simp [World.freeze]
        have hturn := hr_turn (next := next) hr (b := a.b) (o := .cells cs e' g) (o' := .cells cs e' g) (l := l) (l' := l) (w' := w.freeze ⟨l.blk, cur.size, none⟩ 1) hL rfl hl rfl
          (Nat.le_refl _) (fun _ => rfl) hoth hsz (.inl rfl) ⟨by simp [World.freeze], by simp [World.freeze], by simp [World.freeze]⟩ (fun ι' hee => by
            refine ⟨cur, _, hfr, ?_, h3, h4, h5, fun o x ho hx => ?_⟩
            · split
              · exact .inr (Nat.le_refl _)
              · rename_i hne
                have hne : fz.1 ≠ fz.2 := by simpa using hne
                rcases h2 with h2 | h2
                · exact absurd h2 hne
                · exact .inr (by simp only; omega)
            · obtain ⟨v, hv, hc⟩ := h6 o x ho hx
              exact ⟨v, hv, hc.mono hee⟩)
        refine ⟨_, _, .slice (some (l.at a.off)) n (c + l.extra), ?_, hx.mono hturn.1.ext, hturn.1, fun b0 g0 l1 h => hturn.2 b0 g0 l1 h⟩
        have hshape : w.shape? l.blk = some (e', cur.size) := by simp [World.shape?, h1]
        simp [convert, run_underlying (tk_slice hs), run_underlying (tk_int he), markStringish, hshape, Loc.at]
      · simp at h
    · simp at h
  · rename_i e n c hs hd
    obtain ⟨rfl, _, _⟩ := hx.sl_none
    split at h
    · rename_i he
      simp at h
      obtain ⟨rfl, rfl⟩ := h
      exact ⟨ι, w, .string .empty, by simp [convert, run_underlying (tk_slice hs), run_underlying (tk_str hd), run_underlying (tk_int he), Conv.bytesToString], rfl, .refl hr, fun _ _ _ h => .inl h⟩
    · simp at h
  · rename_i e a n c hs hd
    obtain ⟨p, l, rfl, hnc, hl, hsub, hp⟩ := hx.sl_inv
    split at h
    · rename_i hc
      obtain ⟨he, hsz⟩ := hc
      split at h
      · rename_i cs hcs
        cases hb : cellBytes cs with
        | none => simp [hb] at h
        | some s =>
          simp [hb] at h
          obtain ⟨rfl, rfl⟩ := h
          obtain ⟨vs, h1, h2, h3⟩ := slCells_run (p := p) hr hl hsub hcs
          obtain ⟨ns, rfl, rfl⟩ := cellBytes_spec hb h1
          rw [hsz, Nat.mul_one] at h2
          have hload : (loadCells p n).run P w = .ok (ns.map (Value.int .u8)).toArray w := by
            by_cases h0 : n = 0
            · subst h0
              have : ns = [] := by simpa using h2
              subst this
              simp [loadCells, loadCellsFrom]
            · have := run_loadCells_list (P := P) w p (ns.map (Value.int .u8)) (by rw [hp (by omega)]; exact h3)
              rw [h2] at this
              exact this
          refine ⟨ι, w, _, by rw [run_convert_bytes_string w _ _ e _ _ _ (tk_slice hs) (tk_int he) (tk_str hd)]; exact run_bytesToString w p n _ ns hload, ?_, .refl hr, fun _ _ _ h => .inl h⟩
          simp only [V, Va, Vc, Vp]
          rw [foldl_push]
          rfl
      · simp at h
    · simp at h
  · simp at h

/-! ### append -/

theorem src_run (hr : HR P ι w B L) {e : TypeId} {x : AV} {u : Value} {n : Nat} {src : List AV} (hx : V ι x u) (hpos : 0 < tsz P e) (h : srcCells P L e x = some (n, src)) :
    ∃ news : List Value, L2 (Vc ι) src news ∧ news.length = n * tsz P e ∧ (∀ w' : World, (Builtin.lenOf u).run P w' = .ok n w') ∧
      (∀ w' : World, w'.heap = w.heap → (Builtin.firstCells (tsz P e) n u).run P w' = .ok news.toArray w') := by
  unfold srcCells at h
  split at h
  · obtain ⟨rfl, _, _⟩ := hx.sl_none
    simp at h
    obtain ⟨rfl, rfl⟩ := h
    exact ⟨[], trivial, by simp, fun w' => by simp [Builtin.lenOf], fun w' _ => by simp [Builtin.firstCells]⟩
  · rename_i a m c
    obtain ⟨p, l, rfl, hnc, hl, hsub, hp⟩ := hx.sl_inv
    split at h
    · rename_i h0
      subst h0
      simp at h
      obtain ⟨rfl, rfl⟩ := h
      exact ⟨[], trivial, by simp, fun w' => by simp [Builtin.lenOf], fun w' _ => by simp [Builtin.firstCells, loadCells, loadCellsFrom]⟩
    · rename_i h0
      cases hc : slCells P L e (.sl (some a) m c) with
      | none => simp [hc] at h
      | some cs =>
        simp [hc] at h
        obtain ⟨rfl, rfl⟩ := h
        obtain ⟨vs, h1, h2, h3⟩ := slCells_run (p := p) hr hl hsub hc
        obtain rfl := hp (by omega)
        refine ⟨vs, h1, h2, fun w' => by simp [Builtin.lenOf], fun w' hw => ?_⟩
        refine run_firstCells_some w' (tsz P e) m _ m _ vs h2 fun j v hv => ?_
        have := h3 j v hv
        unfold World.cell? at this ⊢
        rw [hw]; exact this
  · rename_i s
    obtain rfl := hx.str_inv
    split at h
    · rename_i hsz
      simp at h
      obtain ⟨rfl, rfl⟩ := h
      refine ⟨(s.toArray.map fun b => Value.int .u8 (b.toNat : Int)).toList, byteCells_L2 ι s, by simp [hsz], fun w' => by simp [Builtin.lenOf, size_of], fun w' _ => ?_⟩
      simp only [Builtin.firstCells, Sem.run_pure]
      congr 1
      have : (ByteArray.mk s.toArray).extract 0 s.length = ByteArray.mk s.toArray := by
        rw [← size_of s]
        ext1
        rw [ByteArray.data_extract]
        exact Array.extract_size
      rw [this]
    · simp at h
  · simp at h

theorem notInt_of {u : TypeId} {d : TypeDesc} (h : (∃ e, d = .slice e) ∨ d = .string) : (d matches .int _) = false := by
  rcases h with ⟨e, rfl⟩ | rfl <;> rfl

theorem run_append_fits' {t u ty e : TypeId} {d : TypeDesc} (ht : P.underlying t = some (.slice e)) (hu : P.underlying u = some d) (hd : (∃ e, d = .slice e) ∨ d = .string) (hpos : 0 < tsz P e)
    {base : Option Addr} {sLen sCap n : Nat} {x : Value} {news : List Value} (hlen : ∀ w' : World, (Builtin.lenOf x).run P w' = .ok n w')
    (hnew : ∀ w' : World, w'.heap = w.heap → (Builtin.firstCells (tsz P e) n x).run P w' = .ok news.toArray w') (hfit : sLen + n ≤ sCap) :
    (Builtin.append_ #[t, u] ty #[.slice base sLen sCap, x]).run P w =
      match base with
      | none => .ok (.slice none (sLen + n) sCap) w
      | some p => ((storeCells (p.add (sLen * tsz P e)) news 0).run P w).andThen fun _ w' => .ok (.slice (some p) (sLen + n) sCap) w' := by
  have hw := hnew w rfl
  rcases hd with ⟨e', rfl⟩ | rfl
  · cases base <;> simp [Builtin.append_, run_underlying ht, run_underlying hu, run_sizeOf hpos, hlen, hfit, hw]
  · cases base <;> simp [Builtin.append_, run_underlying ht, run_underlying hu, run_sizeOf hpos, hlen, hfit, hw]

theorem run_append_moves {t u ty e : TypeId} {d : TypeDesc} (ht : P.underlying t = some (.slice e)) (hu : P.underlying u = some d) (hd : (∃ e, d = .slice e) ∨ d = .string) (hpos : 0 < tsz P e)
    {base : Option Addr} {sLen sCap n : Nat} {x z : Value} {i : TypeInfo} {olds news : List Value} (hi : P.info? e = some i) (hz : i.zero = some z) (hlen : ∀ w' : World, (Builtin.lenOf x).run P w' = .ok n w')
    (hnew : ∀ w' : World, w'.heap = w.heap → (Builtin.firstCells (tsz P e) n x).run P w' = .ok news.toArray w')
    (hold : ∀ w' : World, w'.heap = w.heap → (Builtin.firstCells (tsz P e) sLen (.slice base sLen sCap)).run P w' = .ok olds.toArray w')
    (hfit : sCap < sLen + n) (hby : i.bytes = P.bytesOf e) (hroom : (sLen + n) * P.bytesOf e ≤ roomMax) (h63 : sLen + n ≤ 9223372036854775807) :
    (Builtin.append_ #[t, u] ty #[.slice base sLen sCap, x]).run P w =
      .ok (.slice (some ⟨w.heap.size, 0, none⟩) (sLen + n) (grownCap w (sLen + n) sCap e))
        (w.drew.alloc (.cells ((olds ++ news).toArray ++ Builtin.zeroCells z.cells (grownCap w (sLen + n) sCap e - (sLen + n))) e)) := by
  have hw := hnew w.drew rfl
  have ho := hold w.drew rfl
  have hn : ¬ (sLen + n ≤ sCap) := by omega
  have h63' : ¬ (9223372036854775807 < ((sLen : Int) + (n : Int))) := by omega
  have h48 := growslice_fits hfit hroom
  have h48' : ¬ (281474976710656 < Builtin.nextslicecap (sLen + n) sCap * i.bytes) := by rw [hby]; omega
  have hti : ∀ w' : World, (typeInfo e).run P w' = .ok i w' := fun w' => by simp [typeInfo, hi]
  rcases hd with ⟨e', rfl⟩ | rfl
  · simp [Builtin.append_, run_underlying ht, run_underlying hu, run_sizeOf hpos, hti, run_zeroValue hi hz, hlen, hn, h63', h48', Question.forced, hw, ho, newRow, grownCap]
    congr 2
    apply Array.ext'
    simp
  · simp [Builtin.append_, run_underlying ht, run_underlying hu, run_sizeOf hpos, hti, run_zeroValue hi hz, hlen, hn, h63', h48', Question.forced, hw, ho, newRow, grownCap]
    congr 2
    apply Array.ext'
    simp

theorem grownCap_of (w : World) (need old : Nat) (e : TypeId) : need ≤ grownCap w need old e := grownCap_ge w need old e

theorem zeroOK_spec {e : TypeId} (h : zeroOK P e = true) : ∃ i z, P.info? e = some i ∧ i.zero = some z ∧ z.cells.size = tsz P e := by
  unfold zeroOK at h
  split at h
  · rename_i z hz
    obtain ⟨i, zv, hi, hiz, _, habs⟩ := zero_of hz
    have := (absV_cells habs (fun _ _ => none)).1.length
    simp only [beq_iff_eq, Array.length_toList] at h this
    exact ⟨i, zv, hi, hiz, by omega⟩
  · simp at h

theorem size_zeroCells' (z : Array Value) (n : Nat) : (Builtin.zeroCells z n).size = n * z.size := by simp [Builtin.zeroCells]

theorem tk_src {u : TypeId} (h : (∃ e, tk P u = .slice e) ∨ tk P u = .str) : ∃ d, P.underlying u = some d ∧ ((∃ e, d = .slice e) ∨ d = .string) := by
  rcases h with ⟨e, h⟩ | h
  · exact ⟨_, tk_slice h, .inl ⟨e, rfl⟩⟩
  · exact ⟨_, tk_str h, .inr rfl⟩

/-- Cells behind a cut: what stays, what is new. -/
def Cut (cs cs' : List AV) (o : Nat) (vs : List AV) : Prop :=
  cs'.length = o + vs.length ∧ ∀ (k : Nat) x, cs'[k]? = some x → (o ≤ k ∧ vs[k - o]? = some x) ∨ (k < o ∧ cs[k]? = some x)

theorem cut_of {cs vs : List AV} {o : Nat} (h : o ≤ cs.length) : Cut cs (cs.take o ++ vs) o vs := by
  refine ⟨by simp; omega, fun k x hx => ?_⟩
  rw [List.getElem?_append] at hx
  simp only [List.length_take] at hx
  have hm : min o cs.length = o := by omega
  rw [hm] at hx
  split at hx
  · rename_i hk
    rw [List.getElem?_take, if_pos hk] at hx
    exact .inr ⟨hk, hx⟩
  · exact .inl ⟨by omega, hx⟩

theorem ok_appendE (hr : HR P ι w B L) {t u ty e : TypeId} {d : TypeDesc} {s r : AV} {us ux : Value} {δ : Delta} {n : Nat} {src : List AV} {news : List Value}
    (ht : P.underlying t = some (.slice e)) (hu : P.underlying u = some d) (hd : (∃ e, d = .slice e) ∨ d = .string) (hpos : 0 < tsz P e)
    (hs : V ι s us) (hsrc : L2 (Vc ι) src news) (hnl : news.length = n * tsz P e) (hlen : ∀ w' : World, (Builtin.lenOf ux).run P w' = .ok n w')
    (hnew : ∀ w' : World, w'.heap = w.heap → (Builtin.firstCells (tsz P e) n ux).run P w' = .ok news.toArray w') (h : aappendE P L next e n src s = some (r, δ)) (hnf : (∃ o, δ = .new o) → L next = none ∧ ∀ g, ι next g = none) :
    ∃ ι' w' z, (Builtin.append_ #[t, u] ty #[us, ux]).run P w = .ok z w' ∧ V ι' r z ∧ Step P ι w B L ι' w' (upd L next δ) ∧ (∀ b g' l', ι' b g' = some l' → ι b g' = some l' ∨ δ.touches next b) := by
  have hsl := hsrc.length
  unfold aappendE at h
  split at h
  · obtain ⟨rfl, _, _⟩ := hs.sl_none
    split at h
    · rename_i h0
      subst h0
      simp at h
      obtain ⟨rfl, rfl⟩ := h
      refine ⟨ι, w, .slice none 0 0, ?_, by simp [V, Va, Vc, Vp], .refl hr, fun _ _ _ h => .inl h⟩
      rw [run_append_fits' ht hu hd hpos hlen hnew (by omega)]
    · rename_i h0
      split at h
      · rename_i hc
        obtain ⟨hroom, h63, hz⟩ := hc
        simp at h
        obtain ⟨rfl, rfl⟩ := h
        obtain ⟨i, z, hi, hiz, hzs⟩ := zeroOK_spec hz
        obtain ⟨i', hi', hisz, hby⟩ := info_of_tsz hpos
        rw [hi] at hi'; cases hi'
        have hrun := run_append_moves (w := w) (ty := ty) ht hu hd hpos (base := none) (sLen := 0) (sCap := 0) (olds := []) hi hiz hlen hnew (fun w' _ => by simp [Builtin.firstCells]) (by omega) hby (by simpa using hroom) (by omega)
        have hge := grownCap_ge w (0 + n) 0 e
        have hst := new_cells hr (hnf ⟨_, rfl⟩).1 (hnf ⟨_, rfl⟩).2 (cs := src) (e := e) (g := true) (fz := (0, 0)) (extra := grownCap w (0 + n) 0 e - (0 + n))
          (w' := w.drew.alloc (.cells (([] ++ news).toArray ++ Builtin.zeroCells z.cells (grownCap w (0 + n) 0 e - (0 + n))) e)) (fun i x hx => by
            obtain ⟨v, hv, hc⟩ := hsrc.get i x hx
            refine ⟨v, ?_, hc⟩
            have hi := (List.getElem?_eq_some_iff.1 hv).1
            rw [Array.getElem?_append_left (by simpa using hi)]
            simpa using hv) (by simp [size_zeroCells', hzs]; omega) (by simp) (.inl rfl) (alloc_new w.drew _) (fun c hc => alloc_old w.drew _ c hc) ⟨rfl, rfl, rfl⟩
        refine ⟨_, _, _, hrun, ?_, hst.1, hst.2⟩
        simp only [V, Va, Vc, Vp]
        exact ⟨by omega, Nat.le_refl _, _, Inj.set_same .., Nat.le_refl _, by simp only; omega, fun _ => by simp [Loc.at]⟩
      · simp at h
  · rename_i a len cap
    obtain ⟨p, l, rfl, hnc, hl, hsub, hp⟩ := hs.sl_inv
    split at h
    · rename_i h0
      subst h0
      simp at h
      obtain ⟨rfl, rfl⟩ := h
      have hnil : news = [] := by simpa using hnl
      subst hnil
      refine ⟨ι, w, _, ?_, hs, .refl hr, fun _ _ _ h => .inl h⟩
      rw [run_append_fits' ht hu hd hpos hlen hnew (by omega)]
      simp [storeCells]
    · rename_i h0
      split at h
      · rename_i cs e' g hL
        split at h
        · rename_i hc
          obtain ⟨hg, hle⟩ := hc
          have hl0 := hl
          rw [← hg] at hl
          have hrow : row L a = some cs := by simp [row, hL, hg]
          have hmul : (len + n) * tsz P e = len * tsz P e + n * tsz P e := Nat.add_mul _ _ _
          split at h
          · rename_i hfit
            split at h
            · rename_i hle2
              simp at h
              obtain ⟨rfl, rfl⟩ := h
              obtain rfl := hp (by omega)
              have hle3 : a.off + len * tsz P e + src.length ≤ cs.length := by omega
              obtain ⟨w', r1, _, r2, r3⟩ := hr_write (next := next) hr hL hl (o := a.off + len * tsz P e) (by omega) (put_splice hle3) hle3 hsrc
              refine ⟨_, w', .slice (some (l.at a.off)) (len + n) (cap + l.extra), ?_, ?_, r2, fun b0 g0 l1 h => r3 b0 g0 l1 h⟩
              · rw [run_append_fits' ht hu hd hpos hlen hnew (by omega)]
                simp only [Loc.at_add _ _ _ hsub, r1, Result.andThen_ok]
              · refine V.mono r2.ext ?_
                simp only [V, Va, Vc, Vp]
                exact ⟨trivial, hfit, l, hl0, hsub, rfl, fun _ => rfl⟩
            · simp at h
          · rename_i hfit
            split at h
            · rename_i hc2
              obtain ⟨hgr, rfl, hend, hroom, h63, hz⟩ := hc2
              simp only [Option.some.injEq, Prod.mk.injEq] at h
              obtain ⟨rfl, rfl⟩ := h
              obtain ⟨l', hl', hR, hB⟩ := hr.obj a.b _ hL
              simp only [AObj.gen] at hl'
              rw [hl] at hl'; cases hl'
              obtain ⟨cur, fz, h1, h2, h3, h4, h5, h6⟩ := hR
              have hcut := cut_of (vs := src) hle
              have hlen' : cs.length < (cs.take (a.off + len * tsz P e') ++ src).length := by
                rw [hcut.1]
                have : cap * tsz P e' < (len + n) * tsz P e' := Nat.mul_lt_mul_of_pos_right (by omega) hpos
                omega
              by_cases hroom2 : len + n ≤ cap + l.extra
              · -- it grows where it lies
                obtain rfl := hp (by omega)
                have hm2 : (len + n) * tsz P e' ≤ (cap + l.extra) * tsz P e' := Nat.mul_le_mul_right _ hroom2
                have hm3 : (cap + l.extra) * tsz P e' = cap * tsz P e' + l.extra * tsz P e' := Nat.add_mul _ _ _
                obtain ⟨cur', q1, q2, q3, q4⟩ := run_storeCells (P := P) news 0 cur w l.blk (a.off + len * tsz P e' - l.sub + l.add) e' fz h1 h2 (by omega) (fun v hv => by
                  obtain ⟨j, hj⟩ := List.getElem?_of_mem hv
                  have hjl : j < src.length := by rw [hsl]; exact (List.getElem?_eq_some_iff.1 hj).1
                  obtain ⟨v', hv', hc⟩ := hsrc.get j src[j] (by simp [hjl])
                  rw [hj] at hv'; cases hv'
                  exact hc.one.1)
                have hm4 : (cap + l.extra - (len + n)) * tsz P e' = (cap + l.extra) * tsz P e' - (len + n) * tsz P e' := Nat.sub_mul _ _ _
                have hturn := hr_turn (next := next) hr (b := a.b) (o := .cells cs e' g) (o' := .cells (cs.take (a.off + len * tsz P e') ++ src) e' g) (l := l) (l' := { l with extra := cap + l.extra - (len + n) }) (w' := w.setRow l.blk cur') hL rfl hl rfl
                  (by simp only [AObj.gen]; omega) (fun he => by simp only [AObj.gen] at he; omega) (fun c _ hc => setRow_other w l.blk c cur' hc) (by simp) (.inl rfl) ⟨rfl, rfl, rfl⟩ (fun ι' hee => by
                    refine ⟨cur', fz, setRow_heap w l.blk cur cur' e' fz h1, by rw [q2]; exact h2, ?_, ?_, fun hgf => (by rw [hgr] at hgf; cases hgf), fun k x hk hx => ?_⟩
                    · rw [hcut.1]; simp only; omega
                    · rw [hcut.1, q2]; simp only; omega
                    · simp only at hk ⊢
                      rcases hcut.2 k x hx with ⟨k1, k2⟩ | ⟨k1, k2⟩
                      · obtain ⟨v, hv, hc⟩ := hsrc.get _ x k2
                        refine ⟨v, ?_, hc.mono hee⟩
                        have := q4 _ v hv
                        rw [← this]; congr 1; omega
                      · obtain ⟨v, hv, hc⟩ := h6 k x hk k2
                        exact ⟨v, by rw [q3 _ (by omega)]; exact hv, hc.mono hee⟩)
                refine ⟨_, _, .slice (some (l.at a.off)) (len + n) (cap + l.extra), ?_, ?_, hturn.1, fun b0 g0 l1 h => hturn.2 b0 g0 l1 h⟩
                · rw [run_append_fits' ht hu hd hpos hlen hnew (by omega)]
                  simp only [Loc.at_add _ _ _ hsub]
                  show ((storeCells ⟨l.blk, a.off + len * tsz P e' - l.sub + l.add, none⟩ news 0).run P w).andThen _ = _
                  rw [q1]; rfl
                · simp only [V, Va, Vc, Vp]
                  exact ⟨trivial, Nat.le_refl _, _, Inj.set_same .., hsub, by simp only; omega, fun _ => rfl⟩
              · -- a new row
                obtain ⟨i, z, hi, hiz, hzs⟩ := zeroOK_spec hz
                obtain ⟨i', hi', hisz, hby⟩ := info_of_tsz hpos
                rw [hi] at hi'; cases hi'
                obtain ⟨olds, o1, o2, o3, _⟩ := cells_run hr hrow hl0 hsub hle
                have hold : ∀ w' : World, w'.heap = w.heap → (Builtin.firstCells (tsz P e') len (.slice (some p) len (cap + l.extra))).run P w' = .ok olds.toArray w' := by
                  intro w' hw
                  refine run_firstCells_some w' (tsz P e') len p _ _ olds o2 fun j v hv => ?_
                  have hj : j < olds.length := (List.getElem?_eq_some_iff.1 hv).1
                  have hlen0 : len ≠ 0 := by rintro rfl; simp at o2; subst o2; simp at hj
                  have := o3 j v hv
                  rw [hp (by omega)]
                  unfold World.cell? at this ⊢
                  rw [hw]; exact this
                have hrun := run_append_moves (w := w) (ty := ty) ht hu hd hpos (base := some p) (sLen := len) (sCap := cap + l.extra) (olds := olds) hi hiz hlen hnew hold (by omega) hby hroom h63
                have hge := grownCap_ge w (len + n) (cap + l.extra) e'
                have hnewh := alloc_new w.drew (.cells ((olds ++ news).toArray ++ Builtin.zeroCells z.cells (grownCap w (len + n) (cap + l.extra) e' - (len + n))) e')
                have hsize : (w.drew.alloc (.cells ((olds ++ news).toArray ++ Builtin.zeroCells z.cells (grownCap w (len + n) (cap + l.extra) e' - (len + n))) e')).heap.size = w.heap.size + 1 := by simp
                have hturn := hr_turn (next := next) hr (b := a.b) (o := .cells cs e' g) (o' := .cells (cs.take (a.off + len * tsz P e') ++ src) e' g) (l := l) (l' := ⟨w.heap.size, a.off, 0, grownCap w (len + n) (cap + l.extra) e' - (len + n)⟩)
                  (w' := w.drew.alloc (.cells ((olds ++ news).toArray ++ Builtin.zeroCells z.cells (grownCap w (len + n) (cap + l.extra) e' - (len + n))) e')) hL rfl hl rfl
                  (by simp only [AObj.gen]; omega) (fun he => by simp only [AObj.gen] at he; omega) (fun c hc _ => alloc_old w.drew _ c hc) (by rw [hsize]; omega) (.inr ⟨Nat.le_refl _, by rw [hsize]; exact Nat.lt_succ_self _⟩) ⟨rfl, rfl, rfl⟩ (fun ι' hee => by
                    refine ⟨_, (0, 0), hnewh, .inl rfl, ?_, ?_, fun hgf => (by rw [hgr] at hgf; cases hgf), fun k x hk hx => ?_⟩
                    · rw [hcut.1]; simp only; omega
                    · rw [hcut.1]
                      simp only [Array.size_append, List.size_toArray, List.length_append, size_zeroCells', hzs]
                      omega
                    · simp only at hk ⊢
                      rw [Nat.add_zero]
                      rcases hcut.2 k x hx with ⟨k1, k2⟩ | ⟨k1, k2⟩
                      · obtain ⟨v, hv, hc⟩ := hsrc.get _ x k2
                        refine ⟨v, ?_, hc.mono hee⟩
                        have hkl := (List.getElem?_eq_some_iff.1 hv).1
                        rw [Array.getElem?_append_left (by simp; omega)]
                        rw [List.getElem?_toArray, List.getElem?_append_right (by omega)]
                        rw [← hv]; congr 1; omega
                      · have hd1 : ((cs.drop a.off).take (len * tsz P e'))[k - a.off]? = some x := by
                          rw [getElem?_dropTake, if_pos (by omega)]
                          rw [← k2]; congr 1; omega
                        obtain ⟨v, hv, hc⟩ := o1.get _ x hd1
                        refine ⟨v, ?_, hc.mono hee⟩
                        have hkl := (List.getElem?_eq_some_iff.1 hv).1
                        rw [Array.getElem?_append_left (by simp; omega)]
                        rw [List.getElem?_toArray, List.getElem?_append_left hkl]
                        exact hv)
                refine ⟨_, _, _, hrun, ?_, hturn.1, fun b0 g0 l1 h => hturn.2 b0 g0 l1 h⟩
                simp only [V, Va, Vc, Vp]
                exact ⟨trivial, Nat.le_refl _, _, Inj.set_same .., Nat.le_refl _, by simp only; omega, fun _ => by simp [Loc.at]⟩
            · simp at h
        · simp at h
      · simp at h
  · simp at h

theorem ok_append (hr : HR P ι w B L) {t u ty : TypeId} {s x r : AV} {us ux : Value} {δ : Delta}
    (hs : V ι s us) (hx : V ι x ux) (h : aappend P L next t u s x = some (r, δ)) (hnf : (∃ o, δ = .new o) → L next = none ∧ ∀ g, ι next g = none) :
    ∃ ι' w' z, (Builtin.append_ #[t, u] ty #[us, ux]).run P w = .ok z w' ∧ V ι' r z ∧ Step P ι w B L ι' w' (upd L next δ) ∧ (∀ b g' l', ι' b g' = some l' → ι b g' = some l' ∨ δ.touches next b) := by
  have main : ∀ e, tk P t = .slice e → ((∃ e, tk P u = .slice e) ∨ tk P u = .str) → (if 0 < tsz P e then
      match srcCells P L e x with
      | some (n, src) => aappendE P L next e n src s
      | none => none
    else none) = some (r, δ) →
      ∃ ι' w' z, (Builtin.append_ #[t, u] ty #[us, ux]).run P w = .ok z w' ∧ V ι' r z ∧ Step P ι w B L ι' w' (upd L next δ) ∧ (∀ b g' l', ι' b g' = some l' → ι b g' = some l' ∨ δ.touches next b) := by
    intro e hk hku h
    obtain ⟨d, hu, hd⟩ := tk_src hku
    split at h
    · rename_i hpos
      split at h
      · rename_i n src hsrc
        obtain ⟨news, h1, h2, h3, h4⟩ := src_run hr hx hpos hsrc
        exact ok_appendE hr (tk_slice hk) hu hd hpos hs h1 h2 h3 h4 h hnf
      · simp at h
    · simp at h
  unfold aappend at h
  split at h
  · rename_i e e' hk hku
    exact main e hk (.inl ⟨e', hku⟩) h
  · rename_i e hk hku
    exact main e hk (.inr hku) h
  · simp at h

end Go.AM
