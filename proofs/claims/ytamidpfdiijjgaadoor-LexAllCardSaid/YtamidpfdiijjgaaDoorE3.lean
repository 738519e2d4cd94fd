/-
  IndexRune (47), ContainsRune (37) in texts of small bytes; HasPrefix (38); ToLower (35).
-/
import Derived.Test.YtamidpfdiijjgaaDoorE2
namespace Go.AM
open Go Go.Proofs
set_option linter.unusedVariables false
set_option linter.unusedSimpArgs false
set_option maxRecDepth 100000

theorem idx57 {s : Txt} {c : Int} {h : Heap} : D cfg 57 [.str s, .int .u8 c] h = some (.int .i64 (Lib.indexByte s c.toNat.toUInt8), h) := by
  refine D_of (n := 1) ?_
  have : cfg.ext 57 = some extIdx := rfl
  simp only [acall, this, extIdx]

theorem low35 {s : Txt} (hs : ∀ b ∈ s, b.toNat < 128) (hl : s.length ≤ 100000) {h : Heap} : D cfg 35 [.str s] h = some (.str (Lib.toLowerA s), h) := by
  refine D_of (n := 1) ?_
  have : cfg.ext 35 = some extLower := rfl
  have h1 : s.all (fun b => decide (b.toNat < 128)) = true := List.all_eq_true.2 fun b hb => by simpa using hs b hb
  simp only [acall, this, extLower, h1, hl, and_self, if_true]

theorem ib_none {s : Txt} {c : UInt8} (h : c ∉ s) : Lib.indexByte s c = -1 := by
  induction s with
  | nil => rfl
  | cons b l ih =>
    have h1 : ¬ b = c := fun e => h (by subst e; exact List.mem_cons_self ..)
    have h2 := ih fun hm => h (List.mem_cons_of_mem _ hm)
    simp [Lib.indexByte, h1, h2]
theorem ib_some {s : Txt} {c : UInt8} (h : c ∈ s) : 0 ≤ Lib.indexByte s c := by
  induction s with
  | nil => cases h
  | cons b l ih =>
    by_cases h1 : b = c
    · simp [Lib.indexByte, h1]
    · have h2 := ih ((List.mem_cons.1 h).resolve_left fun e => h1 e.symm)
      have h3 : ¬ Lib.indexByte l c = -1 := by omega
      simp [Lib.indexByte, h1, h3]; omega

/-- Does a rune stand in a text of small bytes? -/
def hasR (s : Txt) (r : Int) : Bool := decide (r < 128) && s.any fun b => decide ((b.toNat : Int) = r)

theorem enc_last {r : Int} (h : 128 ≤ r) : ∃ e c, (Utf8.encode r).data.toList = e ++ [c] ∧ 128 ≤ c.toNat ∧ 1 ≤ e.length ∧ e.length ≤ 3 := by
  have hc : ∃ n, n = (if Utf8.valid r then r.toNat else Utf8.runeError) ∧ 128 ≤ n := by
    refine ⟨_, rfl, ?_⟩
    split
    · omega
    · simp [Utf8.runeError]
  obtain ⟨n, hn, h128⟩ := hc
  unfold Utf8.encode
  simp only [← hn]
  rw [if_neg (by omega)]
  have key : 128 ≤ (UInt8.ofNat (128 + n % 64)).toNat := by simp; omega
  split
  · exact ⟨[_], _, rfl, key, by simp, by simp⟩
  · split
    · exact ⟨[_, _], _, rfl, key, by simp, by simp⟩
    · exact ⟨[_, _, _], _, rfl, key, by simp, by simp⟩

def In47 (h₀ : Heap) (s : Txt) (m : Nat) (st : St) : Prop := ∃ i h, m = s.length - i ∧ i ≤ s.length ∧ st = ⟨[(175, .ptr (some ⟨h₀.length, 0, 0⟩))], h⟩ ∧ h[h₀.length]? = some (.iter s i) ∧ Only (fun _ => False) h₀ h

theorem val58 {r : Int} {h : Heap} : ∃ b, D cfg 58 [.int .i32 r] h = some (.bool b, h) := by
  have key : ∃ x h', D cfg 58 [.int .i32 r] h = some (x, h') ∧ ((∃ b, x = .bool b) ∧ h' = h) := by
    refine call58 (R := fun x h' => (∃ b, x = .bool b) ∧ h' = h) (args := [.int .i32 r]) (h := h) (by simp) ?_
    by_cases h1 : 0 ≤ r <;> by_cases h2 : r < 55296 <;> by_cases h3 : 57343 < r <;> by_cases h4 : r ≤ 1114111 <;> simp [c58, c58_r0, c58_r1, c58_r2, c58_r3, c58_r4, c58_r5, pickV, h1, h2, h3, h4]
  obtain ⟨x, h', h1, ⟨b, rfl⟩, rfl⟩ := key
  exact ⟨b, h1⟩

theorem idx47 {s : Txt} (hs : ∀ b ∈ s, b.toNat < 128) (hl : s.length ≤ 1000) {r : Int} (h0 : 0 ≤ r) (hr : r ≤ 2147483647) {h : Heap} :
    ∃ h' k, D cfg 47 [.str s, .int .i32 r] h = some (.int .i64 k, h') ∧ (decide (0 ≤ k) = hasR s r) ∧ Only (fun _ => False) h h' := by
  have key : ∃ x h', D cfg 47 [.str s, .int .i32 r] h = some (x, h') ∧ ∃ k, x = .int .i64 k ∧ (decide (0 ≤ k) = hasR s r) ∧ Only (fun _ => False) h h' := by
    refine call47 (R := fun x h' => ∃ k, x = .int .i64 k ∧ (decide (0 ≤ k) = hasR s r) ∧ Only (fun _ => False) h h') (args := [.str s, .int .i32 r]) (h := h) (by simp) ?_
    by_cases h128 : r < 128
    · have hw : IntKind.wrap .u8 r = r := wrap_u8 h0 (by omega)
      have hk : decide (0 ≤ Lib.indexByte s r.toNat.toUInt8) = hasR s r := by
        have hr8 : (r.toNat.toUInt8.toNat : Int) = r := by simp; omega
        by_cases hm : r.toNat.toUInt8 ∈ s
        · have h1 := ib_some hm
          have h2 : s.any (fun b => decide ((b.toNat : Int) = r)) = true := List.any_eq_true.2 ⟨_, hm, by simpa using hr8⟩
          simp [hasR, h128, h1, h2]
        · have h1 := ib_none hm
          have h2 : s.any (fun b => decide ((b.toNat : Int) = r)) = false := by
            rw [List.any_eq_false]
            intro b hb hx
            refine hm ?_
            have : b = r.toNat.toUInt8 := by
              rw [← UInt8.toNat_inj]
              have : (b.toNat : Int) = r := by simpa using hx
              omega
            rw [← this]; exact hb
          simp [hasR, h128, h1, h2]
      simp [c47, c47_r0, c47_r34, c47_r35, pickV, h0, h128, aconv, hw, idx57]
      exact ⟨hk, .refl⟩
    · have hno : hasR s r = false := by simp [hasR, h128]
      by_cases hE : r = 65533
      · subst hE
        simp [c47, c47_r0, c47_r34, c47_r36, c47_r37, pickV, op_range, rangeV]
        refine Wt.loop (In47 h s) (m := s.length) ⟨0, h ++ [.iter s 0], rfl, Nat.zero_le _, rfl, by simp, .app⟩ ?_
        rintro m st ⟨i, h1, rfl, hi, rfl, hb, ho⟩
        have hcut : cut (some [175]) [(175, AV.ptr (some ⟨h.length, 0, 0⟩))] = [(175, AV.ptr (some ⟨h.length, 0, 0⟩))] := by simp
        simp only [hcut]
        have hlt := lt_of_at hb
        by_cases hl : i < s.length
        · obtain ⟨e1, e2⟩ := rn_small hl (hs _ (List.getElem_mem hl))
          have hlow := hs _ (List.getElem_mem hl)
          have e1 : (Utf8.decode ⟨s.toArray⟩ i).1 = s[i].toNat := e1
          have e2 : (Utf8.decode ⟨s.toArray⟩ i).2 = 1 := e2
          have hne : ¬ ((s[i].toNat : Int) = 65533) := by omega
          have hnext : In47 h s (s.length - (i + 1)) ⟨[(175, .ptr (some ⟨h.length, 0, 0⟩))], h1.set h.length (.iter s (i + 1))⟩ :=
            ⟨i + 1, _, rfl, hl, rfl, at_same hlt, ⟨by simp; exact ho.1, fun c hc _ => by rw [at_other (by omega)]; exact ho.2 c hc id⟩⟩
          simp [c47_l38, c47_r38, c47_r39, c47_r40, op_next, aiter, look_at, hb, hl, extractV, e1, e2, hne]
          exact ⟨_, by omega, hnext⟩
        · have : i = s.length := by omega
          subst this
          simp [c47_l38, c47_r38, c47_r42, op_next, aiter, look_at, hb, extractV]
          exact ⟨by simpa using hno, ho⟩
      · obtain ⟨v, hv⟩ := val58 (r := r) (h := h)
        cases v with
        | false =>
          simp [c47, c47_r0, c47_r34, c47_r36, c47_r43, c47_r44, pickV, h0, h128, hE, hv]
          exact ⟨by simpa using hno, .refl⟩
        | true =>
          obtain ⟨e, c, h1, h2, h3, h4⟩ := enc_last (r := r) (by omega)
          have hw0 : IntKind.wrap .i64 (e.length : Int) = e.length := wrap_i64 (by omega) (by omega)
          simp [c47, c47_r0, c47_r34, c47_r36, c47_r43, c47_r1, c47_r2, c47_r3, c47_r4, pickV, h0, h128, hE, hv, aconv, h1, len1, alen, hw0]
          refine Wt.loop (fun m st => st = ⟨[(0, .str s), (7, .str (e ++ [c])), (8, .int .i64 e.length), (9, .int .i64 e.length)], h⟩) (m := 1) rfl ?_
          rintro m st rfl
          by_cases hle : e.length < s.length
          · have hle' : (e.length : Int) < s.length := by omega
            have hw1 : IntKind.wrap .i64 ((e.length : Int) + 1) = e.length + 1 := wrap_i64 (by omega) (by omega)
            have hlow := hs _ (List.getElem_mem hle)
            have hne : ¬ ((s[e.length].toNat : Int) = c.toNat) := by omega
            have hle1 : (e.length : Int) + 1 ≤ s.length := by omega
            have hpos : (0 : Int) ≤ (e.length : Int) + 1 := by omega
            have htn : ((e.length : Int) + 1).toNat = e.length + 1 := by omega
            have hno2 : ∀ l, (∀ b ∈ l, b ∈ s) → Lib.indexByte l c = -1 := fun l hsub => ib_none fun hm => by have := hs c (hsub c hm); omega
            have hi : Lib.indexByte (List.take (s.length - (e.length + 1)) (List.drop (e.length + 1) s)) c = -1 := hno2 _ fun b hb => List.mem_of_mem_drop (List.mem_of_mem_take hb)
            simp [c47_l5, c47_r5, c47_r6, c47_r7, c47_r8, c47_r9, len1, alen, hle', aindex, List.getElem?_eq_getElem hle, hne, hw1, aslice, bound, hle1, hpos, htn, idx57, hi]
            exact ⟨hno, .refl⟩
          · have hle' : ¬ ((e.length : Int) < s.length) := by omega
            simp [c47_l5, c47_r5, c47_r19, len1, alen, hle']
            exact ⟨by simpa using hno, .refl⟩
  obtain ⟨x, h', h1, k, rfl, h2, h3⟩ := key
  exact ⟨h', k, h1, h2, h3⟩

theorem con37 {s : Txt} (hs : ∀ b ∈ s, b.toNat < 128) (hl : s.length ≤ 1000) {r : Int} (h0 : 0 ≤ r) (hr : r ≤ 2147483647) {h : Heap} :
    ∃ h', D cfg 37 [.str s, .int .i32 r] h = some (.bool (hasR s r), h') ∧ Only (fun _ => False) h h' := by
  obtain ⟨h1, k, e1, e2, e3⟩ := idx47 hs hl h0 hr (h := h)
  have key : ∃ x h', D cfg 37 [.str s, .int .i32 r] h = some (x, h') ∧ (x = .bool (hasR s r) ∧ h' = h1) := by
    refine call37 (R := fun x h' => x = _ ∧ h' = _) (args := [.str s, .int .i32 r]) (h := h) (by simp) ?_
    simp [c37, c37_r0, c37_r1, e1, ← e2]
  obtain ⟨x, h', h2, rfl, rfl⟩ := key
  exact ⟨h', h2, e3⟩

/-- Does a text begin with another one? -/
def begins (s p : Txt) : Bool := decide (p.length ≤ s.length) && decide (s.take p.length = p)
theorem prefix48 {h : Heap} {s p : Txt} : D cfg 48 [.str s, .str p] h = some (.bool (begins s p), h) := by
  refine D_eq (call48 (R := fun r h' => r = _ ∧ h' = _) (by simp) ?_)
  by_cases hl : p.length ≤ s.length
  · simp [c48, c48_r0, c48_r1, len1, alen, hl, aslice, bound, begins]
  · simp [c48, c48_r0, c48_r1, len1, alen, hl, aslice, bound, begins]
theorem prefix38 {h : Heap} {s p : Txt} : D cfg 38 [.str s, .str p] h = some (.bool (begins s p), h) := by
  refine D_eq (call38 (R := fun r h' => r = _ ∧ h' = _) (by simp) ?_)
  simp [c38, c38_r0, c38_r1, prefix48]

end Go.AM
