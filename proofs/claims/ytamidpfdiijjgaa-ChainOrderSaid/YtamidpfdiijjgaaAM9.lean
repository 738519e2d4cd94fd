/-
  Regions whose order is drawn: what an operation does hangs on what it looks into alone.
-/
import Derived.Test.YtamidpfdiijjgaaAM8
namespace Go.AM
open Go
set_option linter.unusedVariables false
set_option linter.unusedSimpArgs false
variable {P : Program} {L L' : Look} {next : Nat}

def Sub (L L' : Look) (bs : List Nat) : Prop := ∀ b ∈ bs, ∀ o, L b = some o → L' b = some o

theorem row_mono {a : AA} (h : ∀ o, L a.b = some o → L' a.b = some o) {cs : List AV} (hr : row L a = some cs) : row L' a = some cs := by
  unfold row at hr
  cases hL : L a.b with
  | none => simp [hL] at hr
  | some o =>
    rw [hL] at hr
    unfold row
    rw [h o hL]
    exact hr

theorem slCells_mono {e : TypeId} {x : AV} (h : Sub L L' (blkOf (some x))) {cs : List AV} (hr : slCells P L e x = some cs) : slCells P L' e x = some cs := by
  cases x <;> simp [slCells] at hr ⊢
  case sl a n c =>
    cases a with
    | none => exact hr
    | some a =>
      simp only [slCells] at hr ⊢
      cases hrow : row L a with
      | none => simp [hrow] at hr
      | some cs' =>
        rw [hrow] at hr
        rw [row_mono (h a.b (by simp [blkOf])) hrow]
        exact hr

theorem srcCells_mono {e : TypeId} {x : AV} (h : Sub L L' (blkOf (some x))) {r : Nat × List AV} (hr : srcCells P L e x = some r) : srcCells P L' e x = some r := by
  cases x <;> simp only [srcCells] at hr ⊢ <;> try exact hr
  case sl a n c =>
    cases a with
    | none => exact hr
    | some a =>
      simp only [srcCells] at hr ⊢
      split at hr
      · rename_i h0; rw [if_pos h0]; exact hr
      · rename_i h0
        rw [if_neg h0]
        cases hs : slCells P L e (.sl (some a) n c) with
        | none => simp [hs] at hr
        | some cs => rw [hs] at hr; rw [slCells_mono h hs]; exact hr

theorem aload_mono {t : TypeId} {p : AV} (h : Sub L L' (blkOf (some p))) {r : AV} (hr : aload P L t p = some r) : aload P L' t p = some r := by
  cases p <;> simp only [aload] at hr ⊢ <;> try exact hr
  case ptr a =>
    cases a with
    | none => exact hr
    | some a =>
      simp only [aload] at hr ⊢
      cases hrow : row L a with
      | none => simp [hrow] at hr
      | some cs' =>
        rw [hrow] at hr
        rw [row_mono (h a.b (by simp [blkOf])) hrow]
        exact hr

theorem astore_mono {t : TypeId} {p x : AV} (h : Sub L L' (blkOf (some p))) {d : Delta} (hr : astore P L t p x = some d) : astore P L' t p x = some d := by
  cases p <;> simp only [astore] at hr ⊢ <;> try exact hr
  case ptr a =>
    cases a with
    | none => exact hr
    | some a =>
      simp only [astore] at hr ⊢
      cases hL : L a.b with
      | none => simp [hL] at hr
      | some o => rw [hL] at hr; rw [h a.b (by simp [blkOf]) o hL]; exact hr

theorem aconv_mono {s d : TypeId} {x : AV} (h : Sub L L' (blkOf (some x))) {r : AV × Delta} (hr : aconv P L next s d x = some r) : aconv P L' next s d x = some r := by
  unfold aconv at hr ⊢
  split at hr <;> (try simp only [*]) <;> try exact hr
  · rename_i a n c _ _
    cases hL : L a.b with
    | none => simp [hL] at hr
    | some o => rw [hL] at hr; rw [h a.b (by simp [blkOf]) o hL]; exact hr
  · rename_i e a n c _ _
    split at hr
    · rename_i hc
      rw [if_pos hc]
      cases hs : slCells P L e (.sl (some a) n c) with
      | none => simp [hs] at hr
      | some cs => rw [hs] at hr; rw [slCells_mono h hs]; exact hr
    · simp at hr

theorem alookup_mono {t : TypeId} {m k : AV} {ok : Bool} (h : Sub L L' (blkOf (some m))) {r : AV} (hr : alookup P L t m k ok = some r) : alookup P L' t m k ok = some r := by
  unfold alookup at hr ⊢
  split at hr <;> (try simp only [*])
  · rename_i b _
    cases hL : L b with
    | none => simp [hL] at hr
    | some o => rw [hL] at hr; rw [h b (by simp [blkOf]) o hL]; exact hr

theorem amapUpdate_mono {t : TypeId} {m k x : AV} (h : Sub L L' (blkOf (some m))) {d : Delta} (hr : amapUpdate P L t m k x = some d) : amapUpdate P L' t m k x = some d := by
  unfold amapUpdate at hr ⊢
  split at hr <;> (try simp only [*])
  · rename_i b _
    cases hL : L b with
    | none => simp [hL] at hr
    | some o => rw [hL] at hr; rw [h b (by simp [blkOf]) o hL]; exact hr

theorem alen_mono {t : TypeId} {x : AV} (h : Sub L L' (blkOf (some x))) {r : AV} (hr : alen P L t x = some r) : alen P L' t x = some r := by
  unfold alen at hr ⊢
  split at hr <;> (try simp only [*]) <;> try exact hr
  · rename_i b _
    cases hL : L b with
    | none => simp [hL] at hr
    | some o => rw [hL] at hr; rw [h b (by simp [blkOf]) o hL]; exact hr

theorem aappendE_mono {e : TypeId} {n : Nat} {src : List AV} {s : AV} (h : Sub L L' (blkOf (some s))) {r : AV × Delta} (hr : aappendE P L next e n src s = some r) : aappendE P L' next e n src s = some r := by
  cases s <;> simp only [aappendE] at hr ⊢ <;> try exact hr
  case sl a len cap =>
    cases a with
    | none => exact hr
    | some a =>
      simp only [aappendE] at hr ⊢
      split at hr
      · rename_i h0; rw [if_pos h0]; exact hr
      · rename_i h0
        rw [if_neg h0]
        cases hL : L a.b with
        | none => simp [hL] at hr
        | some o => rw [hL] at hr; rw [h a.b (by simp [blkOf]) o hL]; exact hr

theorem aappend_mono {t u : TypeId} {s x : AV} (h : Sub L L' (blkOf (some s) ++ blkOf (some x))) {r : AV × Delta} (hr : aappend P L next t u s x = some r) : aappend P L' next t u s x = some r := by
  have h1 : Sub L L' (blkOf (some s)) := fun b hb => h b (List.mem_append_left _ hb)
  have h2 : Sub L L' (blkOf (some x)) := fun b hb => h b (List.mem_append_right _ hb)
  have main : ∀ e, (if 0 < tsz P e then match srcCells P L e x with
      | some (n, src) => aappendE P L next e n src s
      | none => none else none) = some r → (if 0 < tsz P e then match srcCells P L' e x with
      | some (n, src) => aappendE P L' next e n src s
      | none => none else none) = some r := by
    intro e hr
    split at hr
    · rename_i hp
      rw [if_pos hp]
      cases hs : srcCells P L e x with
      | none => simp [hs] at hr
      | some ns =>
        obtain ⟨n, src⟩ := ns
        rw [hs] at hr
        rw [srcCells_mono h2 hs]
        exact aappendE_mono h1 hr
    · simp at hr
  unfold aappend at hr ⊢
  split at hr <;> (try simp only [*])
  · exact main _ hr
  · exact main _ hr

theorem aiter_mono {it : AV} (h : Sub L L' (blkOf (some it))) {r : AV × Delta} (hr : aiter L it = some r) : aiter L' it = some r := by
  cases it <;> simp only [aiter] at hr ⊢ <;> try exact hr
  case ptr a =>
    cases a with
    | none => exact hr
    | some a =>
      simp only [aiter] at hr ⊢
      cases hL : L a.b with
      | none => simp [hL] at hr
      | some o => rw [hL] at hr; rw [h a.b (by simp [blkOf]) o hL]; exact hr

theorem aop_mono {ev : Ev} {op : Op} (h : Sub L L' (areads ev op)) {r : AV × Delta} (hr : aop P ev L next op = some r) : aop P ev L' next op = some r := by
  cases op <;> simp only [aop] at hr ⊢ <;> try exact hr
  case load t a =>
    split at hr <;> (try simp only [*])
    · rename_i p hp
      simp only [areads, hp] at h
      cases hl : aload P L t p with
      | none => simp [hl] at hr
      | some v => rw [hl] at hr; rw [aload_mono h hl]; exact hr
  case store t a x =>
    split at hr <;> (try simp only [*])
    · rename_i p v hp hv
      simp only [areads, hp] at h
      cases hl : astore P L t p v with
      | none => simp [hl] at hr
      | some d => rw [hl] at hr; rw [astore_mono h hl]; exact hr
  case convert s d x =>
    split at hr <;> (try simp only [*])
    · rename_i a ha
      simp only [areads, ha] at h
      exact aconv_mono h hr
  case lookup t m k ok =>
    split at hr <;> (try simp only [*])
    · rename_i m' k' hm hk
      simp only [areads, hm] at h
      cases hl : alookup P L t m' k' ok with
      | none => simp [hl] at hr
      | some v => rw [hl] at hr; rw [alookup_mono h hl]; exact hr
  case mapUpdate t m k x =>
    split at hr <;> (try simp only [*])
    · rename_i m' k' x' hm hk hx
      simp only [areads, hm] at h
      split at hr
      · rename_i hn
        rw [if_pos hn]
        cases hl : amapUpdate P L t m' k' x' with
        | none => simp [hl] at hr
        | some v => rw [hl] at hr; rw [amapUpdate_mono h hl]; exact hr
      · simp at hr
  case insert t m k x =>
    split at hr <;> (try simp only [*])
    · rename_i m' k' x' hm hk hx
      simp only [areads, hm] at h
      split at hr
      · rename_i hn
        rw [if_pos hn]
        cases hl : amapUpdate P L t m' k' x' with
        | none => simp [hl] at hr
        | some v => rw [hl] at hr; rw [amapUpdate_mono h hl]; exact hr
      · simp at hr
  case next it isS =>
    cases isS <;> simp only [aop] at hr ⊢ <;> try exact hr
    split at hr <;> (try simp only [*])
    · rename_i a ha
      simp only [areads, ha] at h
      exact aiter_mono h hr
  case call c =>
    obtain ⟨callee, args, argTypes⟩ := c
    simp only at hr ⊢
    split at hr
    · split at hr <;> (try simp only [*])
      · rename_i t x ht hx
        simp only [areads, hx] at h
        cases hl : alen P L t x with
        | none => simp [hl] at hr
        | some v => rw [hl] at hr; rw [alen_mono h hl]; exact hr
    · split at hr <;> (try simp only [*])
      · rename_i t u s x ht hx
        simp only [areads, hx] at h
        exact aappend_mono h hr
    · exact hr
    · exact hr
    · exact hr

end Go.AM
