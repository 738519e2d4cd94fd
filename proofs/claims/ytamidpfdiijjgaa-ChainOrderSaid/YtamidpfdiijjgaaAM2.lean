/-
  The abstract machine's values and heap held against the model's: which value stands for which, wherever the model has laid the blocks.
-/
import Derived.Test.YtamidpfdiijjgaaAM1
import Derived.Laws.Cells
import Derived.Laws.World
namespace Go.AM
open Go
set_option linter.unusedVariables false
set_option linter.unusedSimpArgs false

/-- Two lists, pair by pair. -/
def L2 {α β : Type} (R : α → β → Prop) : List α → List β → Prop
  | [], [] => True
  | a :: as, b :: bs => R a b ∧ L2 R as bs
  | _, _ => False

theorem L2.length {α β : Type} {R : α → β → Prop} : ∀ {as : List α} {bs : List β}, L2 R as bs → as.length = bs.length
  | [], [], _ => rfl
  | _ :: as, _ :: bs, h => by simp [L2.length h.2]
  | [], _ :: _, h => h.elim
  | _ :: _, [], h => h.elim

theorem L2.get {α β : Type} {R : α → β → Prop} : ∀ {as : List α} {bs : List β}, L2 R as bs → ∀ (i : Nat) a, as[i]? = some a → ∃ b, bs[i]? = some b ∧ R a b
  | [], [], _, i, a, h => by simp at h
  | x :: as, y :: bs, h, 0, a, ha => by simp at ha; subst ha; exact ⟨y, rfl, h.1⟩
  | x :: as, y :: bs, h, i + 1, a, ha => by simpa using L2.get h.2 i a (by simpa using ha)
  | [], _ :: _, h, _, _, _ => h.elim
  | _ :: _, [], h, _, _, _ => h.elim

theorem L2.of_get {α β : Type} {R : α → β → Prop} : ∀ {as : List α} {bs : List β}, as.length = bs.length → (∀ (i : Nat) a, as[i]? = some a → ∃ b, bs[i]? = some b ∧ R a b) → L2 R as bs
  | [], [], _, _ => trivial
  | x :: as, y :: bs, hl, h => by
    obtain ⟨b, hb, hr⟩ := h 0 x rfl
    simp at hb; subst hb
    exact ⟨hr, L2.of_get (by simpa using hl) fun i a ha => by simpa using h (i + 1) a (by simpa using ha)⟩
  | [], _ :: _, hl, _ => by simp at hl
  | _ :: _, [], hl, _ => by simp at hl

theorem L2.mono {α β : Type} {R S : α → β → Prop} (hm : ∀ a b, R a b → S a b) : ∀ {as : List α} {bs : List β}, L2 R as bs → L2 S as bs
  | [], [], _ => trivial
  | _ :: _, _ :: _, h => ⟨hm _ _ h.1, L2.mono hm h.2⟩
  | [], _ :: _, h => h.elim
  | _ :: _, [], h => h.elim

theorem L2.append {α β : Type} {R : α → β → Prop} : ∀ {as : List α} {bs : List β} {cs : List α} {ds : List β}, L2 R as bs → L2 R cs ds → L2 R (as ++ cs) (bs ++ ds)
  | [], [], _, _, _, h => h
  | _ :: _, _ :: _, _, _, h, h' => ⟨h.1, L2.append h.2 h'⟩
  | [], _ :: _, _, _, h, _ => h.elim
  | _ :: _, [], _, _, h, _ => h.elim

/-- Where an abstract block lies: the model's block; the abstract place from which on it lies there, and where that is; how many elements more there is room for. -/
structure Loc where
  blk : Nat
  sub : Nat
  add : Nat
  extra : Nat

abbrev Inj := Nat → Nat → Option Loc

def Loc.at (l : Loc) (off : Nat) : Addr := ⟨l.blk, off - l.sub + l.add, none⟩

/-- One cell's value, nothing inside it. -/
def Vp (ι : Inj) : AV → Value → Prop
  | .bool a, .bool b => a = b
  | .int k a, .int k' b => k = k' ∧ a = b
  | .str l, .string s => s.data.toList = l
  | .ptr none, .pointer none => True
  | .ptr (some a), .pointer (some p) => ∃ l, ι a.b a.gen = some l ∧ l.sub ≤ a.off ∧ p = l.at a.off
  | .sl none n c, .slice none n' c' => n = 0 ∧ c = 0 ∧ n' = 0 ∧ c' = 0
  | .sl (some a) n c, .slice (some p) n' c' => n = n' ∧ n ≤ c ∧ ∃ l, ι a.b a.gen = some l ∧ l.sub ≤ a.off ∧ c' = c + l.extra ∧ (0 < c' → p = l.at a.off)
  | .map none, .map none => True
  | .map (some b), .map (some r) => ∃ l, ι b 0 = some l ∧ l.blk = r
  | .nilf, .nilFunc => True
  | .nili, .nilIface => True
  | _, _ => False

/-- One cell's value. -/
def Vc (ι : Inj) : AV → Value → Prop
  | .fn f caps, .func f' first caps' => f = f' ∧ first = #[] ∧ L2 (Vp ι) caps caps'.toList
  | .ifc t v, .iface t' v' => t = t' ∧ Vp ι v v'
  | a, v => Vp ι a v

/-- A variable's value. -/
def Va (ι : Inj) : AV → Value → Prop
  | .agg cs, .agg vs => L2 (Vc ι) cs vs.toList
  | a, v => Vc ι a v

/-- A value. -/
def V (ι : Inj) : AV → Value → Prop
  | .tup cs, .tuple vs => L2 (Va ι) cs vs.toList
  | a, v => Va ι a v

def Ext (ι ι' : Inj) : Prop := ∀ b g l, ι b g = some l → ι' b g = some l

theorem Ext.refl (ι : Inj) : Ext ι ι := fun _ _ _ h => h
theorem Ext.trans {ι ι' ι'' : Inj} (h : Ext ι ι') (h' : Ext ι' ι'') : Ext ι ι'' := fun b g l e => h' b g l (h b g l e)

theorem Vp.mono {ι ι' : Inj} (h : Ext ι ι') {a : AV} {v : Value} (hv : Vp ι a v) : Vp ι' a v := by
  cases a <;> cases v <;> simp only [Vp] at hv ⊢ <;> try exact hv
  case ptr.pointer a p =>
    cases a <;> cases p <;> simp only [Vp] at hv ⊢ <;> try exact hv
    obtain ⟨l, h1, h2⟩ := hv
    exact ⟨l, h _ _ _ h1, h2⟩
  case sl.slice a n c p n' c' =>
    cases a <;> cases p <;> simp only [Vp] at hv ⊢ <;> try exact hv
    obtain ⟨h0, h1, l, h2, h3⟩ := hv
    exact ⟨h0, h1, l, h _ _ _ h2, h3⟩
  case map.map a p =>
    cases a <;> cases p <;> simp only [Vp] at hv ⊢ <;> try exact hv
    obtain ⟨l, h1, h2⟩ := hv
    exact ⟨l, h _ _ _ h1, h2⟩

theorem Vc.mono {ι ι' : Inj} (h : Ext ι ι') {a : AV} {v : Value} (hv : Vc ι a v) : Vc ι' a v := by
  cases a <;> cases v <;> simp only [Vc] at hv ⊢ <;> try exact Vp.mono h hv
  case fn.func => exact ⟨hv.1, hv.2.1, hv.2.2.mono fun _ _ => Vp.mono h⟩
  case ifc.iface => exact ⟨hv.1, Vp.mono h hv.2⟩

theorem Va.mono {ι ι' : Inj} (h : Ext ι ι') {a : AV} {v : Value} (hv : Va ι a v) : Va ι' a v := by
  cases a <;> cases v <;> simp only [Va] at hv ⊢ <;> try exact Vc.mono h hv
  case agg.agg => exact hv.mono fun _ _ => Vc.mono h

theorem V.mono {ι ι' : Inj} (h : Ext ι ι') {a : AV} {v : Value} (hv : V ι a v) : V ι' a v := by
  cases a <;> cases v <;> simp only [V] at hv ⊢ <;> try exact Va.mono h hv
  case tup.tuple => exact hv.mono fun _ _ => Va.mono h

/-! ### from the wider relation to the narrower -/

theorem V.of_Va {ι : Inj} {a : AV} {v : Value} (h : Va ι a v) : V ι a v := by
  cases a <;> cases v <;> simp only [V] <;> first | exact h | (simp [Va, Vc, Vp] at h; done)

theorem Va.of_Vc {ι : Inj} {a : AV} {v : Value} (h : Vc ι a v) : Va ι a v := by
  cases a <;> cases v <;> simp only [Va] <;> first | exact h | (simp [Vc, Vp] at h; done)

theorem Vc.of_Vp {ι : Inj} {a : AV} {v : Value} (h : Vp ι a v) : Vc ι a v := by
  cases a <;> cases v <;> simp only [Vc] <;> first | exact h | (simp [Vp] at h; done)

theorem V.of_Vc {ι : Inj} {a : AV} {v : Value} (h : Vc ι a v) : V ι a v := .of_Va (.of_Vc h)
theorem V.of_Vp {ι : Inj} {a : AV} {v : Value} (h : Vp ι a v) : V ι a v := .of_Vc (.of_Vp h)

theorem Vc.one {ι : Inj} {a : AV} {v : Value} (h : Vc ι a v) : v.oneCell' = true ∧ a.one = true := by
  cases a <;> cases v <;> simp_all [Vc, Vp, Value.oneCell', AV.one]

/-- A value that lies in cells: its cells. -/
theorem V.cells {ι : Inj} {a : AV} {v : Value} (h : V ι a v) (ht : a.cells.all AV.one = true) : L2 (Vc ι) a.cells v.cells.toList := by
  cases a <;> cases v <;> simp [V, Va, AV.cells, Value.cells, L2, AV.one] at h ht ⊢ <;> first | exact h | (simp [Vc, Vp] at h; done)

theorem V.to_Vc {ι : Inj} {a : AV} {v : Value} (h : V ι a v) (ho : a.one = true) : Vc ι a v := by
  cases a <;> cases v <;> simp [V, Va, AV.one] at h ho ⊢ <;> first | exact h | (simp [Vc, Vp] at h; done)

theorem V.to_Va {ι : Inj} {a : AV} {v : Value} (h : V ι a v) (ho : ∀ vs, a ≠ .tup vs) : Va ι a v := by
  cases a <;> cases v <;> simp [V] at h ho ⊢ <;> first | exact h | (simp [Va, Vc, Vp] at h; done)

/-! ### reading a value back -/

theorem V.bool_inv {ι : Inj} {b : Bool} {v : Value} (h : V ι (.bool b) v) : v = .bool b := by
  cases v <;> simp [V, Va, Vc, Vp] at h; simp [h]

theorem V.int_inv {ι : Inj} {k : IntKind} {n : Int} {v : Value} (h : V ι (.int k n) v) : v = .int k n := by
  cases v <;> simp [V, Va, Vc, Vp] at h; simp [h]

theorem V.str_inv {ι : Inj} {s : List UInt8} {v : Value} (h : V ι (.str s) v) : v = .string ⟨s.toArray⟩ := by
  cases v <;> simp [V, Va, Vc, Vp] at h
  subst h
  rfl

theorem V.ptr_inv {ι : Inj} {a : AA} {v : Value} (h : V ι (.ptr (some a)) v) : ∃ l, ι a.b a.gen = some l ∧ l.sub ≤ a.off ∧ v = .pointer (some (l.at a.off)) := by
  cases v <;> simp [V, Va, Vc, Vp] at h
  case pointer p =>
    cases p <;> simp [Vp] at h
    obtain ⟨l, h1, h2, h3⟩ := h
    exact ⟨l, h1, h2, by rw [h3]⟩

theorem V.ptr_none {ι : Inj} {v : Value} (h : V ι (.ptr none) v) : v = .pointer none := by
  cases v <;> simp [V, Va, Vc, Vp] at h
  case pointer p => cases p <;> simp [Vp] at h; rfl

theorem V.sl_none {ι : Inj} {n c : Nat} {v : Value} (h : V ι (.sl none n c) v) : v = .slice none 0 0 ∧ n = 0 ∧ c = 0 := by
  cases v <;> simp [V, Va, Vc, Vp] at h
  case slice p n' c' => cases p <;> simp [Vp] at h; simp [h]

theorem V.sl_inv {ι : Inj} {a : AA} {n c : Nat} {v : Value} (h : V ι (.sl (some a) n c) v) :
    ∃ p l, v = .slice (some p) n (c + l.extra) ∧ n ≤ c ∧ ι a.b a.gen = some l ∧ l.sub ≤ a.off ∧ (0 < c + l.extra → p = l.at a.off) := by
  cases v <;> simp [V, Va, Vc, Vp] at h
  case slice p n' c' =>
    cases p <;> simp [Vp] at h
    obtain ⟨rfl, h0, l, h1, h2, rfl, h4⟩ := h
    exact ⟨_, l, rfl, h0, h1, h2, h4⟩

theorem V.map_none {ι : Inj} {v : Value} (h : V ι (.map none) v) : v = .map none := by
  cases v <;> simp [V, Va, Vc, Vp] at h
  case map p => cases p <;> simp [Vp] at h; rfl

theorem V.map_inv {ι : Inj} {b : Nat} {v : Value} (h : V ι (.map (some b)) v) : ∃ l, ι b 0 = some l ∧ v = .map (some l.blk) := by
  cases v <;> simp [V, Va, Vc, Vp] at h
  case map p =>
    cases p <;> simp [Vp] at h
    obtain ⟨l, h1, h2⟩ := h
    exact ⟨l, h1, by rw [h2]⟩

theorem V.nilf_inv {ι : Inj} {v : Value} (h : V ι .nilf v) : v = .nilFunc := by
  cases v <;> simp [V, Va, Vc, Vp] at h; rfl

theorem V.nili_inv {ι : Inj} {v : Value} (h : V ι .nili v) : v = .nilIface := by
  cases v <;> simp [V, Va, Vc, Vp] at h; rfl

theorem V.fn_inv {ι : Inj} {f : Fn} {caps : List AV} {v : Value} (h : V ι (.fn f caps) v) : ∃ cs, v = .func f #[] cs ∧ L2 (Vp ι) caps cs.toList := by
  cases v <;> simp [V, Va, Vc, Vp] at h
  case func f' first cs => obtain ⟨rfl, rfl, h⟩ := h; exact ⟨cs, rfl, h⟩

theorem V.ifc_inv {ι : Inj} {t : TypeId} {a : AV} {v : Value} (h : V ι (.ifc t a) v) : ∃ x, v = .iface t x ∧ Vp ι a x := by
  cases v <;> simp [V, Va, Vc, Vp] at h
  case iface t' x => obtain ⟨rfl, h⟩ := h; exact ⟨x, rfl, h⟩

theorem V.agg_inv {ι : Inj} {cs : List AV} {v : Value} (h : V ι (.agg cs) v) : ∃ vs, v = .agg vs ∧ L2 (Vc ι) cs vs.toList := by
  cases v <;> simp [V, Va, Vc, Vp] at h
  case agg vs => exact ⟨vs, rfl, h⟩

theorem V.tup_inv {ι : Inj} {cs : List AV} {v : Value} (h : V ι (.tup cs) v) : ∃ vs, v = .tuple vs ∧ L2 (Va ι) cs vs.toList := by
  cases v <;> simp [V, Va, Vc, Vp] at h
  case tuple vs => exact ⟨vs, rfl, h⟩

theorem V.undef (ι : Inj) : V ι (.tup []) Go.undef := trivial

/-! ### the heap -/

/-- Under which number an object's place is kept. -/
def AObj.gen : AObj → Nat
  | .cells cs _ _ => cs.length
  | .ro cs => cs.length
  | .map _ _ _ => 0
  | .iter _ _ => 0

/-- Is it the evaluator's own (what came in is not)? -/
def AObj.own : AObj → Bool
  | .ro _ => false
  | _ => true

def entryR (ι : Inj) (x : AV × AV × Nat) (e : MapEntry) : Prop := Va ι x.1 e.key ∧ Va ι x.2.1 e.val ∧ e.born = x.2.2

/-- No cell of a block is frozen. -/
def free (n : Nat) (fz : Nat × Nat) : Prop := fz.1 = fz.2 ∨ n ≤ fz.1

def keyKind (P : Program) (t : TypeId) : Option Shape :=
  match tk P t with
  | .map kt _ => kshape P kt
  | _ => none

/-- What the model's world holds where an object lies. -/
def Robj (P : Program) (ι : Inj) (w : World) (l : Loc) : AObj → Prop
  | .cells cs e g => ∃ cur fz, w.heap[l.blk]? = some (.cells cur e fz) ∧ free cur.size fz ∧ l.sub ≤ cs.length ∧
      cs.length - l.sub + l.add + l.extra * tsz P e ≤ cur.size ∧ (g = false → l.extra = 0) ∧
      ∀ o x, l.sub ≤ o → cs[o]? = some x → ∃ v, cur[o - l.sub + l.add]? = some v ∧ Vc ι x v
  | .ro cs => l.sub = 0 ∧ l.extra = 0 ∧ ∀ o x, cs[o]? = some x → ∃ v, w.cell? (l.at o) = some v ∧ Vc ι x v
  | .map t es clock => ∃ es', w.heap[l.blk]? = some (.map es' clock) ∧ L2 (entryR ι) es es'.toList ∧ (keyKind P t).isSome ∧ ∀ x ∈ es, shapeOf x.1 = keyKind P t
  | .iter s pos => l.add = 0 ∧ ∃ s', w.heap[l.blk]? = some (.stringIter s' pos) ∧ s'.data.toList = s

structure HR (P : Program) (ι : Inj) (w : World) (B : Nat) (L : Look) : Prop where
  obj : ∀ b o, L b = some o → ∃ l, ι b o.gen = some l ∧ Robj P ι w l o ∧ (o.own = true → B ≤ l.blk ∧ l.blk < w.heap.size)
  inj : ∀ b b' o o' l l', L b = some o → L b' = some o' → ι b o.gen = some l → ι b' o'.gen = some l' → o.own = true → o'.own = true → l.blk = l'.blk → b = b'
  past : ∀ b o, L b = some o → ∀ g l, ι b g = some l → g ≤ o.gen
  base : B ≤ w.heap.size
  roB : ∀ b cs l, L b = some (.ro cs) → ι b cs.length = some l → cs ≠ [] → l.blk < B

/-- A model's block that an own object holds. -/
def Held (ι : Inj) (L : Look) (c : Nat) : Prop := ∃ b o l, L b = some o ∧ o.own = true ∧ ι b o.gen = some l ∧ l.blk = c

/-- What a step leaves. -/
structure Step (P : Program) (ι : Inj) (w : World) (B : Nat) (L : Look) (ι' : Inj) (w' : World) (L' : Look) : Prop where
  ext : Ext ι ι'
  hr : HR P ι' w' B L'
  size : w.heap.size ≤ w'.heap.size
  keep : ∀ c, c < w.heap.size → ¬ Held ι L c → w'.heap[c]? = w.heap[c]?
  held : ∀ c, Held ι' L' c → Held ι L c ∨ w.heap.size ≤ c
  os : w'.os = w.os
  tape : w'.tape = w.tape
  output : w'.output = w.output

theorem Step.refl {P : Program} {ι : Inj} {w : World} {B : Nat} {L : Look} (h : HR P ι w B L) : Step P ι w B L ι w L :=
  ⟨.refl ι, h, Nat.le_refl _, fun _ _ _ => rfl, fun _ h => .inl h, rfl, rfl, rfl⟩

theorem Step.trans {P : Program} {ι ι' ι'' : Inj} {w w' w'' : World} {B : Nat} {L L' L'' : Look}
    (h : Step P ι w B L ι' w' L') (h' : Step P ι' w' B L' ι'' w'' L'') : Step P ι w B L ι'' w'' L'' := by
  refine ⟨h.ext.trans h'.ext, h'.hr, Nat.le_trans h.size h'.size, fun c hc hn => ?_, fun c hc => ?_, h'.os.trans h.os, h'.tape.trans h.tape, h'.output.trans h.output⟩
  · rw [h'.keep c (Nat.lt_of_lt_of_le hc h.size) (fun hh => ?_), h.keep c hc hn]
    rcases h.held c hh with hh | hh
    · exact hn hh
    · omega
  · rcases h'.held c hc with hh | hh
    · exact h.held c hh
    · exact .inr (Nat.le_trans h.size hh)

/-- What was there when the call began is as it was. -/
theorem Step.below {P : Program} {ι ι' : Inj} {w w' : World} {B : Nat} {L L' : Look} (h : Step P ι w B L ι' w' L') (hr : HR P ι w B L) :
    ∀ c, c < B → w'.heap[c]? = w.heap[c]? := by
  intro c hc
  refine h.keep c (Nat.lt_of_lt_of_le hc hr.base) ?_
  rintro ⟨b, o, l, hL, ho, hl, rfl⟩
  obtain ⟨l', hl', _, hb⟩ := hr.obj b o hL
  rw [hl] at hl'
  cases hl'
  have := (hb ho).1
  omega

def upd (L : Look) (next : Nat) : Delta → Look
  | .no => L
  | .new o => fun b => if b = next then some o else L b
  | .set c o => fun b => if b = c then (L c).map (fun _ => o) else L b

end Go.AM
