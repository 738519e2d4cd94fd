/-
  The law ChainPlaces returns true.
-/
import Derived.Test.YtamidpfdiijjgaaS9
import Derived.Test.YtamidpfdiijjgaaL9
namespace Go.AM
open Go Go.Proofs
set_option linter.unusedVariables false
set_option linter.unusedSimpArgs false
set_option maxRecDepth 100000

theorem awake16 : saysTrue (acall cfg 60 42 [] []) = true := by kernel_rfl
noncomputable abbrev F16 : CallF := mixed [42] (D cfg)
theorem awake16h {h : Heap} : F16 42 [] h = some (.bool true, h) := awake_of awake16 rfl
theorem F16_D {f : FuncId} (hf : f ≠ 42) {args : List AV} {h : Heap} : F16 f args h = D cfg f args h := mixed_D (by simp [hf])

/-! ### the plain law -/

def contP (o d : Nat) (not : Bool) : Cont := ⟨[97], false, not, o, d, false, 0, 0⟩
def lastP (k o d : Nat) : Nat := if 0 < d then min k (o + d) else k

theorem endsP {k o d e : Nat} {not : Bool} : endsAt (contP o d not) (List.replicate k 97) e = decide (o + 1 ≤ e ∧ e < lastP k o d + 1) := by
  have h1 : patAt [97] false (List.replicate k 97) e = decide (1 ≤ e ∧ e ≤ k) := by
    rw [patAt_plain]
    by_cases he : 1 ≤ e ∧ e ≤ k
    · obtain ⟨h2, h3⟩ := he
      have h4 : (List.drop (e - 1) (List.replicate k (97 : UInt8))).take 1 = [97] := by
        rw [List.drop_replicate, List.take_replicate]
        have : min 1 (k - (e - 1)) = 1 := by omega
        rw [this]; rfl
      show (decide (1 ≤ e) && decide (e ≤ (List.replicate k (97 : UInt8)).length) && decide (List.take 1 (List.drop (e - 1) (List.replicate k (97 : UInt8))) = [97])) = _
      rw [h4, List.length_replicate]
      simp [h2, h3]
    · have : ¬ (1 ≤ e) ∨ ¬ (e ≤ k) := by omega
      rcases this with h | h <;> simp [h]
  have hp : placed (contP o d not) e = (decide ((o : Int) ≤ (e : Int) - ((1 : Nat) : Int)) && (decide ((d : Int) ≤ 0) || decide ((e : Int) ≤ (o : Int) + d))) := rfl
  have h2 : endsAt (contP o d not) (List.replicate k 97) e = (patAt [97] false (List.replicate k 97) e && placed (contP o d not) e) := rfl
  rw [h2, h1, hp, Bool.eq_iff_iff]
  simp only [Bool.and_eq_true, Bool.or_eq_true, decide_eq_true_eq]
  unfold lastP
  by_cases hd : 0 < d
  · rw [if_pos hd]
    constructor
    · rintro ⟨⟨h2, h3⟩, h4, h5⟩
      omega
    · rintro ⟨h2, h3⟩
      have h6 : e ≤ k := by omega
      have h7 : e ≤ o + d := by omega
      exact ⟨⟨by omega, h6⟩, by omega, by omega⟩
  · rw [if_neg hd]
    constructor
    · rintro ⟨⟨h2, h3⟩, h4, h5⟩
      omega
    · rintro ⟨h2, h3⟩
      exact ⟨⟨by omega, by omega⟩, by omega, by omega⟩

/-- One content's places. -/
theorem hitsP {k o d : Nat} {not : Bool} {ah : List Int} : hits (contP o d not) (List.replicate k 97) ah (k + 1) = (List.range' (o + 1) (lastP k o d - o)).map fun x : Nat => (x : Int) := by
  have hle : lastP k o d ≤ k := by unfold lastP; split <;> omega
  rw [hits_range' (lo := o + 1) (hi := lastP k o d + 1) fun e _ => by rw [hitB, endsP]; simp [contP]]
  congr 2
  omega

theorem endsAllP {k o d : Nat} : (endsAll [contP o d false] (List.replicate k 97)).1 = [(List.range' (o + 1) (lastP k o d - o)).map fun x : Nat => (x : Int)] := by
  simp only [endsAll, List.foldl_cons, List.foldl_nil, endsStep, contP]
  have := hitsP (k := k) (o := o) (d := d) (not := false) (ah := [])
  simp only [contP] at this
  simp [this]

theorem firstP {k o d : Nat} : firstC [contP o d false] (List.replicate k 97) = if lastP k o d ≤ o then (0, false) else ((o : Int) + 1, true) := by
  have hn : neverC [contP o d false] (List.replicate k 97) = none := neverC_noNot (by simp [contP])
  simp only [firstC, endsAllP, hn]
  by_cases h : lastP k o d ≤ o
  · have : lastP k o d - o = 0 := by omega
    simp [this, noEmpty, h]
  · obtain ⟨m, hm⟩ : ∃ m, lastP k o d - o = m + 1 := ⟨lastP k o d - o - 1, by omega⟩
    simp [hm, noEmpty, h, heads, List.range'_succ]
    omega

theorem endsAllN {k o d : Nat} : (endsAll [contP o d true] (List.replicate k 97)).1 = [] := by simp [endsAll, endsStep, contP]

theorem neverN {k o d e : Nat} : neverAt (List.replicate k 97) [contP o d true] e = decide (o + 1 ≤ e ∧ e < lastP k o d + 1) := by
  simp only [neverAt, List.any_cons, List.any_nil, Bool.or_false]
  rw [endsP]
  simp [contP]

theorem firstN {k o d : Nat} : firstC [contP o d true] (List.replicate k 97) = (0, true) := by
  simp only [firstC, endsAllN]
  cases hn : neverC [contP o d true] (List.replicate k 97) with
  | none => rfl
  | some e =>
    obtain ⟨_, _, h, _⟩ := neverFrom_some hn
    rw [neverN] at h
    simp at h
    simp [noEmpty, heads]
    omega

theorem holdsN {k o d : Nat} : holdsC [contP o d true] (List.replicate k 97) = decide (lastP k o d ≤ o) := by
  have hle : lastP k o d ≤ k := by unfold lastP; split <;> omega
  simp only [holdsC, endsAllN]
  by_cases h : lastP k o d ≤ o
  · have hn : neverC [contP o d true] (List.replicate k 97) = none := neverC_none.2 fun x _ => by rw [neverN]; simp; omega
    simp [hn, noEmpty, h]
  · have hn : neverC [contP o d true] (List.replicate k 97) ≠ none := by
      intro he
      have := neverC_none.1 he (o + 1) (by simp; omega)
      rw [neverN] at this
      simp at this
      omega
    cases hx : neverC [contP o d true] (List.replicate k 97) with
    | none => exact absurd hx hn
    | some e => simp [h]

/-! ### the walk -/

theorem smallP {o d : Nat} {not : Bool} (ho : o < 45) (hd : d < 45) : ∀ c ∈ [contP o d not], c.small := by
  intro c hc
  simp at hc
  subst hc
  constructor <;> simp [contP] <;> omega

def c9_tail : SC := (.seq (.reg c9_r7 none (some [3, 10, 12, 13, 14, 15])) (.seq (.reg c9_r8 none (some [3, 10, 12, 13, 14, 15, 16, 17])) (.seq (.seq (.reg c9_r9 none (some [10, 12, 13, 14, 15, 16, 17, 51])) (.cond (.tmp 51) (.seq (.reg c9_r10 none (some [12, 13, 15, 16, 17, 18])) (.seq (.reg c9_r11 none (some [8])) .ret)) .skip (some [10, 12, 13, 14, 15, 16, 17]))) (.seq (.reg c9_r12 none (some [10, 14, 15, 16, 17, 19])) (.seq (.reg c9_r13 none (some [8])) .ret)))))
theorem c9_split : c9 = (.seq (.reg c9_r0 none (some [0, 1, 2, 3])) (.seq (.reg c9_r1 none (some [3, 9, 10, 11])) (.seq (.reg c9_r2 none (some [3, 9, 10, 11, 12])) (.seq (.reg c9_r3 none (some [3, 9, 10, 11, 12, 13])) (.seq (.reg c9_r4 none (some [3, 9, 10, 11, 12, 13, 14])) (.seq (.seq (.reg c9_r5 none (some [3, 9, 10, 11, 12, 13, 14, 34])) (.cond (.tmp 34) (.reg c9_r6 none (some [3, 10, 12, 13, 14])) .skip (some [3, 10, 12, 13, 14]))) c9_tail)))))) := rfl

theorem one_cont {h : Heap} {c : Cont} {b : Nat} (hb : h[b]? = some (.cells (contCell c) 52 true)) : SlC h (.sl (some ⟨b, 0, 8⟩) 1 1) [c] := by
  have := SlC.cells (h := h) (b := b) (e := 52) (g := true) (l := [c]) (by simp) (by simpa using hb)
  simpa using this

theorem places_tail {k o d last : Nat} {not : Bool} (hk1 : k < 40) (ho1 : o < 45) (hd1 : d < 45) (hl : last = lastP k o d) :
    Wt Try.prog F16 c9_tail ⟨[(3, .bool not), (10, .int .i64 o), (12, .str (List.replicate k 97)), (13, .ptr (some ⟨0, 0, 8⟩)), (14, .int .i64 last)], [.cells (contCell (contP o d not)) 52 false]⟩ (Ends Try.prog [.tmp 8] fun r _ => r = .bool true) := by
  have hlk : last ≤ k := by rw [hl]; unfold lastP; split <;> omega
  have hw1 : IntKind.wrap .i64 ((last : Int) - o) = last - o := wrap_i64 (by omega) (by omega)
  have hmax : (if (last : Int) - o < 0 then (0 : Int) else (last : Int) - o) = ((last - o : Nat) : Int) := by split <;> omega
  obtain ⟨h0, hh0⟩ : ∃ h0 : Heap, h0 = [.cells (contCell (contP o d not)) 52 false] := ⟨_, rfl⟩
  have cl0 := contLoads (h := h0) (b := 0) (c := contP o d not) (g := false) (by rw [hh0]; rfl)
  have hlen0 : h0.length = 1 := by rw [hh0]; rfl
  have build : ∀ h : Heap, abuildSlice Try.prog h.length 42 1 [(0, (contP o d not).av)] = some (.sl (some ⟨h.length, 0, 8⟩) 1 1, .new (.cells (contCell (contP o d not)) 52 true)) := by
    intro h
    simp [abuildSlice, afill, zeros, splice]
  obtain ⟨h1, hh1⟩ : ∃ h1, h1 = h0 ++ [.cells (contCell (contP o d not)) 52 true] := ⟨_, rfl⟩
  have hb1 : h1[h0.length]? = some (.cells (contCell (contP o d not)) 52 true) := by rw [hh1]; simp
  have o1 : Only (fun _ => False) h0 h1 := by rw [hh1]; exact .app
  obtain ⟨h2, e2, o2⟩ := first_chain (one_cont hb1) (s := List.replicate k 97) (smallP ho1 hd1) (by simp; omega) (by simp)
  have o02 := o1.trans o2
  have cl2 := contLoads (h := h2) (b := 0) (c := contP o d not) (g := false) (o02.at (by rw [hh0]; rfl) id)
  obtain ⟨h3, hh3⟩ : ∃ h3, h3 = h2 ++ [.cells (contCell (contP o d not)) 52 true] := ⟨_, rfl⟩
  have hb3 : h3[h2.length]? = some (.cells (contCell (contP o d not)) 52 true) := by rw [hh3]; simp
  have o3 : Only (fun _ => False) h2 h3 := by rw [hh3]; exact .app
  obtain ⟨h4, B, bs, e4, H4, o4⟩ := ends_chain (one_cont hb3) (s := List.replicate k 97) (smallP ho1 hd1) (by simp; omega) (by simp)
  have o04 := (o02.trans o3).trans o4
  have cl4 := contLoads (h := h4) (b := 0) (c := contP o d not) (g := false) (o04.at (by rw [hh0]; rfl) id)
  rw [← hh0]
  simp [c9_tail, c9_r7, hw1, amax, amax1, hmax]
  cases not with
  | false =>
    have hf := firstP (k := k) (o := o) (d := d)
    have he := endsAllP (k := k) (o := o) (d := d)
    rw [hf] at e2
    rw [he] at e4 H4
    obtain ⟨b5, a5, b6, g5⟩ := H4.get (i := 0) (by simp)
    have hlen := fun L => H4.sl.len (t := 44) (e := 30) (by simp) (L := L)
    have hz : (List.zipWith intSl bs [List.map (fun x : Nat => (x : Int)) (List.range' (o + 1) (lastP k o d - o))]).length = 1 := by have := H4.len; simp at this; simp [this]
    rw [hz] at hlen
    obtain ⟨H, hH⟩ : ∃ H : List Int, H = List.map (fun x : Nat => (x : Int)) (List.range' (o + 1) (lastP k o d - o)) := ⟨_, rfl⟩
    have hHl : H.length = last - o := by rw [hH, hl]; simp
    simp only [← hH, List.getElem_cons_zero] at e4 a5 b6 g5 hlen
    have hz0 : ((0 : Nat) : Int) = 0 := rfl
    rw [hz0] at a5
    obtain ⟨out, hout⟩ : ∃ out, out = llSl B bs [H] := ⟨_, rfl⟩
    rw [← hout] at e4 a5 b6 hlen
    by_cases hle : last ≤ o
    · have h0' : last - o = 0 := by omega
      rw [← hl, if_pos hle] at e2
      simp [c9_r8, c9_r9, c9_r12, c9_r13, F16_D, cl0, build, ← hh1, e2, extractV, cl2, ← hh3, e4, len1, hlen, a5, b6, alen_intSl, hHl, h0', awake16h]
    · have hpos : 0 < last - o := by omega
      have hne0 : ¬ (last - o = 0) := by omega
      have hw2 : IntKind.wrap .i64 ((o : Int) + 1) = o + 1 := wrap_i64 (by omega) (by omega)
      have hw3 : IntKind.wrap .i64 (((last - o : Nat) : Int) - 1) = ((last - o - 1 : Nat) : Int) := by rw [wrap_i64 (by omega) (by omega)]; omega
      have sl := Sl1.ints (fun hne => g5 hne)
      have a7 := sl.at (t := 30) (e := 3) (by simp) (by simp) (i := 0) (by rw [intCells_len]; omega)
      have b7 := sl.load (e := 3) (by simp) (i := 0) (by rw [intCells_len]; omega)
      have a8 := sl.at (t := 30) (e := 3) (by simp) (by simp) (i := last - o - 1) (by rw [intCells_len]; omega)
      have b8 := sl.load (e := 3) (by simp) (i := last - o - 1) (by rw [intCells_len]; omega)
      have v7 : H[0]'(by omega) = o + 1 := by simp [hH]
      have v8 : H[last - o - 1]'(by omega) = last := by simp [hH]; omega
      rw [intCells_get, v7] at b7
      rw [intCells_get, v8] at b8
      rw [hz0] at a7
      rw [← hl, if_neg hle] at e2
      simp [c9_r8, c9_r9, c9_r12, c9_r13, F16_D, cl0, build, ← hh1, e2, extractV, cl2, ← hh3, e4, len1, hlen, a5, b6, alen_intSl, hHl, hne0, hpos, a7, b7, a8, b8, hw2, hw3, awake16h]
  | true =>
    have hf := firstN (k := k) (o := o) (d := d)
    have he := endsAllN (k := k) (o := o) (d := d)
    rw [hf] at e2
    rw [he] at e4 H4
    obtain ⟨h5, hh5⟩ : ∃ h5, h5 = h4 ++ [.cells (contCell (contP o d true)) 52 true] := ⟨_, rfl⟩
    have hb5 : h5[h4.length]? = some (.cells (contCell (contP o d true)) 52 true) := by rw [hh5]; simp
    obtain ⟨h6, e6, o6⟩ := holds_chain (one_cont hb5) (s := List.replicate k 97) (smallP ho1 hd1) (by simp; omega) (by simp)
    rw [holdsN] at e6
    have hz0 : llSl B bs [] = .sl none 0 0 := by simp [bufSl]
    rw [hz0] at e4
    have hiff : decide (lastP k o d ≤ o) = decide (last - o = 0) := by rw [← hl]; congr 1; apply propext; omega
    rw [hiff] at e6
    simp [c9_r8, c9_r9, c9_r10, c9_r11, F16_D, cl0, build, ← hh1, e2, extractV, cl2, ← hh3, e4, len1, alen, cl4, ← hh5, e6, awake16h]

theorem places_walk {n offset depth : Int} {not : Bool} : Wt Try.prog F16 c9 ⟨argsEnv 0 [.int .i64 n, .int .i64 offset, .int .i64 depth, .bool not], []⟩ (Ends Try.prog [.tmp 8] fun r _ => r = .bool true) := by
  have p1 := place_run (h := []) (v := n) (n := 40) (by decide) (by decide)
  have p2 := place_run (h := []) (v := offset) (n := 45) (by decide) (by decide)
  have p3 := place_run (h := []) (v := depth) (n := 45) (by decide) (by decide)
  obtain ⟨k, hk⟩ : ∃ k : Nat, n % 40 = k := ⟨(n % 40).toNat, by omega⟩
  obtain ⟨o, ho⟩ : ∃ k : Nat, offset % 45 = k := ⟨(offset % 45).toNat, by omega⟩
  obtain ⟨d, hd⟩ : ∃ k : Nat, depth % 45 = k := ⟨(depth % 45).toNat, by omega⟩
  have hk1 : k < 40 := by omega
  have ho1 : o < 45 := by omega
  have hd1 : d < 45 := by omega
  rw [hk] at p1
  rw [ho] at p2
  rw [hd] at p3
  have hkk : (k : Int) ≤ 45 := by omega
  have hkk' : k ≤ 45 := by omega
  have htake : List.take k ([97, 97, 97, 97, 97, 97, 97, 97, 97, 97, 97, 97, 97, 97, 97, 97, 97, 97, 97, 97, 97, 97, 97, 97, 97, 97, 97, 97, 97, 97, 97, 97, 97, 97, 97, 97, 97, 97, 97, 97, 97, 97, 97, 97, 97] : List UInt8) = List.replicate k 97 := by
    have : ([97, 97, 97, 97, 97, 97, 97, 97, 97, 97, 97, 97, 97, 97, 97, 97, 97, 97, 97, 97, 97, 97, 97, 97, 97, 97, 97, 97, 97, 97, 97, 97, 97, 97, 97, 97, 97, 97, 97, 97, 97, 97, 97, 97, 97] : List UInt8) = List.replicate 45 97 := rfl
    rw [this, List.take_replicate]
    congr 1
    omega
  have hw1 : IntKind.wrap .i64 ((o : Int) + d) = o + d := wrap_i64 (by omega) (by omega)
  have hc0 : ∀ last : Nat, last = lastP k o d → Wt Try.prog F16 c9_tail ⟨[(3, .bool not), (10, .int .i64 o), (12, .str (List.replicate k 97)), (13, .ptr (some ⟨0, 0, 8⟩)), (14, .int .i64 last)], [.cells (contCell (contP o d not)) 52 false]⟩ (Ends Try.prog [.tmp 8] fun r _ => r = .bool true) := fun last hl => places_tail hk1 ho1 hd1 hl
  simp only [contP, contCell] at hc0
  rw [c9_split]
  simp [c9_r0, c9_r1, c9_r2, c9_r3, c9_r4, c9_r5, F16_D, p1, p2, p3, aslice, bound, hkk, hkk', htake, abuild, afill, zeros, astore, splice]
  refine condK_of (fun hd0 => ?_) (fun hd0 => ?_)
  · have := hc0 (lastP k o d) rfl
    have hl : (if (o : Int) + d < k then (o : Int) + d else k) = (lastP k o d : Nat) := by
      unfold lastP
      rw [if_pos hd0]
      split <;> omega
    simp [c9_r6, hw1, amin, amin1, hl]
    simpa using this
  · have := hc0 (lastP k o d) rfl
    have hl : lastP k o d = k := by unfold lastP; rw [if_neg hd0]
    rw [hl] at this
    simpa using this

end Go.AM
