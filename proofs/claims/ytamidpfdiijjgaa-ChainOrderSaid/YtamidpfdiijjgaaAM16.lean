/-
  Symbolic runs: equations by which 'simp' steps through compiled code. The combinators' congruence rules keep it out of what has not been reached.
-/
import Derived.Test.YtamidpfdiijjgaaAM15
namespace Go.AM
open Go
set_option linter.unusedVariables false
set_option linter.unusedSimpArgs false
universe u

/-- A mark whose type hangs on what it marks: 'simp' leaves what is marked alone. -/
structure Tag {α : Sort u} (a : α) : Type where

def bindO {α β : Type} (x : Option α) (f : α → Option β) (_ : Tag f := ⟨⟩) : Option β :=
  match x with
  | some a => f a
  | none => none

theorem bindO_some {α β : Type} (a : α) (f : α → Option β) : bindO (some a) f = f a := (rfl)
theorem bindO_none {α β : Type} (f : α → Option β) : bindO none f = none := (rfl)

def holds {α : Type} (x : Option α) (f : α → Prop) (_ : Tag f := ⟨⟩) : Prop :=
  match x with
  | some a => f a
  | none => False

theorem holds_some {α : Type} (a : α) (f : α → Prop) : holds (some a) f = f a := (rfl)
theorem holds_none {α : Type} (f : α → Prop) : holds (none : Option α) f = False := (rfl)

/-- 'if' whose branches 'simp' leaves alone. -/
def iteO {α : Type} (p : Prop) [Decidable p] (a b : Option α) : Option α := if p then a else b
theorem iteO_eq {α : Type} (p : Prop) [Decidable p] (a b : Option α) : iteO p a b = if p then a else b := (rfl)
theorem iteO_pos {α : Type} {p : Prop} [Decidable p] (h : p) (a b : Option α) : iteO p a b = a := if_pos h
theorem iteO_neg {α : Type} {p : Prop} [Decidable p] (h : ¬ p) (a b : Option α) : iteO p a b = b := if_neg h

def condK (v : Option AV) (A B : Prop) (_ : Tag A := ⟨⟩) (_ : Tag B := ⟨⟩) : Prop :=
  match v with
  | some (.bool true) => A
  | some (.bool false) => B
  | _ => False

theorem condK_true (A B : Prop) : condK (some (.bool true)) A B = A := (rfl)
theorem condK_false (A B : Prop) : condK (some (.bool false)) A B = B := (rfl)
theorem condK_of {p : Prop} [Decidable p] {A B : Prop} (h : p → A) (h' : ¬ p → B) : condK (some (.bool (decide p))) A B := by
  by_cases hp : p
  · simp only [hp, decide_true]; exact h hp
  · simp only [hp, decide_false]; exact h' hp
theorem condK_not {p : Prop} [Decidable p] {A B : Prop} (h : ¬ p → A) (h' : p → B) : condK (some (.bool (!decide p))) A B := by
  by_cases hp : p
  · simp only [hp, decide_true]; exact h' hp
  · simp only [hp, decide_false]; exact h hp
theorem condK_bool {b : Bool} {A B : Prop} (h : b = true → A) (h' : b = false → B) : condK (some (.bool b)) A B := by
  cases b
  · exact h' rfl
  · exact h rfl

/-- A guarded operation: done or left out. -/
def guardK {α : Type} (v : Option AV) (w : Bool) (a b : Option α) (_ : Tag a := ⟨⟩) (_ : Tag b := ⟨⟩) : Option α :=
  match v with
  | some (.bool x) => if x = w then a else b
  | some (.tup []) => b
  | _ => none
theorem guardK_tt {α : Type} (a b : Option α) : guardK (some (.bool true)) true a b = a := (rfl)
theorem guardK_ff {α : Type} (a b : Option α) : guardK (some (.bool false)) false a b = a := (rfl)
theorem guardK_tf {α : Type} (a b : Option α) : guardK (some (.bool true)) false a b = b := (rfl)
theorem guardK_ft {α : Type} (a b : Option α) : guardK (some (.bool false)) true a b = b := (rfl)
theorem guardK_un {α : Type} (w : Bool) (a b : Option α) : guardK (some (.tup [])) w a b = b := (rfl)

section
variable {P : Program} {F : CallF} {s : St} {os : List SOp} {d : Option Tmp} {op : Op}

theorem aops_nil : aops P F [] s = some s := (rfl)

theorem aops_run : aops P F (⟨d, op, none⟩ :: os) s = bindO (astep P F op s) fun r => aops P F os ⟨s.ρ.put d r.1, r.2⟩ := by
  simp only [aops, awanted]
  cases astep P F op s <;> rfl

theorem aops_guard {t : Nat} {w : Bool} : aops P F (⟨d, op, some (some t, w)⟩ :: os) s =
    guardK (s.ρ.get t) w (bindO (astep P F op s) fun r => aops P F os ⟨s.ρ.put d r.1, r.2⟩) (aops P F os ⟨s.ρ.put d (.tup []), s.h⟩) := by
  simp only [aops, awanted]
  cases hg : s.ρ.get t with
  | none => rfl
  | some v =>
    cases v with
    | bool b => cases b <;> cases w <;> simp [guardK] <;> cases astep P F op s <;> rfl
    | tup vs => cases vs <;> rfl
    | _ => rfl

variable {ps : List (Nat × Nat)} {j : Nat} {g : Log}

theorem aopsT_nil' : aopsT P F ps j [] s g = some s := (rfl)

def guardP {α : Type} (b : Bool) (a : Option α) (_ : Tag a := ⟨⟩) : Option α := if b then a else none
theorem guardP_true {α : Type} (a : Option α) : guardP true a = a := (rfl)

theorem aopsT_run : aopsT P F ps j (⟨d, op, none⟩ :: os) s g = bindO (astepT P F op s) fun r => guardP (okPairs j (areads (evalA s.ρ) op) r.2.2 g ps)
    (aopsT P F ps (j + 1) os ⟨s.ρ.put d r.1, r.2.1⟩ ⟨(j, areads (evalA s.ρ) op) :: g.reads, (j, r.2.2) :: g.turns⟩) := by
  simp only [aopsT, awanted]
  cases h : astepT P F op s with
  | none => rfl
  | some r => obtain ⟨v, h, t⟩ := r; rfl

theorem aopsT_guard {t : Nat} {w : Bool} : aopsT P F ps j (⟨d, op, some (some t, w)⟩ :: os) s g =
    guardK (s.ρ.get t) w (bindO (astepT P F op s) fun r => guardP (okPairs j (areads (evalA s.ρ) op) r.2.2 g ps)
      (aopsT P F ps (j + 1) os ⟨s.ρ.put d r.1, r.2.1⟩ ⟨(j, areads (evalA s.ρ) op) :: g.reads, (j, r.2.2) :: g.turns⟩)) (aopsT P F ps (j + 1) os ⟨s.ρ.put d (.tup []), s.h⟩ g) := by
  simp only [aopsT, awanted]
  cases hg : s.ρ.get t with
  | none => rfl
  | some v =>
    cases v with
    | bool b =>
      cases b <;> cases w <;> simp [guardK] <;> cases h : astepT P F op s with
      | none => rfl
      | some r => obtain ⟨v, h, t⟩ := r; rfl
    | tup vs => cases vs <;> rfl
    | _ => rfl

/-- What one operation comes to, on the whole heap. -/
def fin (s : St) (r : Option (AV × Delta)) : Option (AV × Heap) := bindO r fun r => some (r.1, s.h.apply r.2)
def finT (s : St) (r : Option (AV × Delta)) : Option (AV × Heap × Touch) := bindO r fun r => some (r.1, s.h.apply r.2, touchD s.h.length r.2)

theorem astep_eq (h : callOf (evalA s.ρ) op = none) : astep P F op s = fin s (aop P (evalA s.ρ) (look s.h) s.h.length op) := by
  unfold astep fin
  rw [h]
  change (match aop P (evalA s.ρ) (look s.h) s.h.length op with
    | some (v, d) => some (v, Heap.apply s.h d)
    | none => none) = _
  cases aop P (evalA s.ρ) (look s.h) s.h.length op <;> rfl

theorem astepT_eq (h : callOf (evalA s.ρ) op = none) : astepT P F op s = finT s (aop P (evalA s.ρ) (look s.h) s.h.length op) := by
  unfold astepT finT
  rw [h]
  change (match aop P (evalA s.ρ) (look s.h) s.h.length op with
    | some (v, d) => some (v, Heap.apply s.h d, touchD s.h.length d)
    | none => none) = _
  cases aop P (evalA s.ρ) (look s.h) s.h.length op <;> rfl

theorem astep_call {f : FuncId} {args : Array Operand} {ts : Array TypeId} : astep P F (.call ⟨.value (.func f), args, ts⟩) s = bindO (evL (evalA s.ρ) args.toList) fun as => F f as s.h := by
  simp only [astep, callOf, evalA]
  cases evL (evalA s.ρ) args.toList <;> simp [bindO]

theorem astepT_call {f : FuncId} {args : Array Operand} {ts : Array TypeId} : astepT P F (.call ⟨.value (.func f), args, ts⟩) s =
    bindO (evL (evalA s.ρ) args.toList) fun as => bindO (F f as s.h) fun r => some (r.1, r.2, .heaps s.h r.2) := by
  simp only [astepT, callOf, evalA]
  cases evL (evalA s.ρ) args.toList with
  | none => simp [bindO]
  | some as =>
    simp only [bindO, List.append_nil]
    cases h : F f as s.h <;> rfl

end

/-! ### the operations, one by one -/

section
variable {P : Program} {ev : Ev} {L : Look} {n : Nat}

theorem ev_cons {x : Operand} {xs : List Operand} : evL ev (x :: xs) = bindO (ev x) fun v => bindO (evL ev xs) fun vs => some (v :: vs) := by
  simp only [evL]
  cases ev x <;> cases evL ev xs <;> rfl
theorem ev_nil : evL ev [] = some [] := (rfl)
theorem evP_cons {i : Nat} {x : Operand} {xs : List (Nat × Operand)} : evP ev ((i, x) :: xs) = bindO (ev x) fun v => bindO (evP ev xs) fun vs => some ((i, v) :: vs) := by
  simp only [evP]
  cases ev x <;> cases evP ev xs <;> rfl
theorem evP_nil : evP ev [] = some [] := (rfl)
theorem evO_none : evO ev none = some none := (rfl)
theorem evO_some {x : Operand} : evO ev (some x) = bindO (ev x) fun v => some (some v) := by
  simp only [evO]
  cases ev x <;> rfl

theorem op_move {x : Operand} : aop P ev L n (.move x) = bindO (ev x) fun v => some (v, .no) := by simp only [aop]; cases ev x <;> rfl
theorem op_assign {x : Operand} : aop P ev L n (.assign x) = bindO (ev x) fun v => some (v, .no) := by simp only [aop]; cases ev x <;> rfl
theorem op_alloc {t : TypeId} : aop P ev L n (.alloc t) = bindO (tzero P t) fun z => if z.cells.length = tsz P t then some (.ptr (some ⟨n, 0, z.cells.length⟩), .new (.cells z.cells t false)) else none := by
  simp only [aop]; cases tzero P t <;> rfl
theorem op_box {t : TypeId} {x : Operand} : aop P ev L n (.box t x) = bindO (ev x) fun v => if v.cells.all AV.one then some (.ptr (some ⟨n, 0, v.cells.length⟩), .new (.cells v.cells t false)) else none := by
  simp only [aop]; cases ev x <;> rfl
theorem op_build {t : TypeId} {ps : Array (Nat × Operand)} : aop P ev L n (.build t ps) = bindO (evP ev ps.toList) fun ps => bindO (abuild P t ps) fun v => some (v, .no) := by
  simp only [aop]
  cases evP ev ps.toList with
  | none => rfl
  | some ps => simp only [bindO]; cases abuild P t ps <;> rfl
theorem op_buildSlice {t : TypeId} {k : Nat} {ps : Array (Nat × Operand)} : aop P ev L n (.buildSlice t k ps) = bindO (evP ev ps.toList) fun ps => abuildSlice P n t k ps := by
  simp only [aop]; cases evP ev ps.toList <;> rfl
theorem op_load {t : TypeId} {a : Operand} : aop P ev L n (.load t a) = bindO (ev a) fun p => bindO (aload P L t p) fun v => some (v, .no) := by
  simp only [aop]
  cases ev a with
  | none => rfl
  | some p => simp only [bindO]; cases aload P L t p <;> rfl
theorem op_store {t : TypeId} {a x : Operand} : aop P ev L n (.store t a x) = bindO (ev a) fun p => bindO (ev x) fun v => bindO (astore P L t p v) fun d => some (.tup [], d) := by
  simp only [aop]
  cases ev a with
  | none => rfl
  | some p =>
    cases ev x with
    | none => rfl
    | some v => simp only [bindO]; cases astore P L t p v <;> rfl
theorem op_nilCheck {x : Operand} : aop P ev L n (.nilCheck x) = bindO (ev x) fun v => bindO (nilck v) fun v => some (v, .no) := by
  simp only [aop]
  cases ev x with
  | none => rfl
  | some v => simp only [bindO]; cases nilck v <;> rfl
theorem op_unOp {op : UnOp} {t : TypeId} {x : Operand} : aop P ev L n (.unOp op t x) = bindO (ev x) fun a => bindO (aun op a) fun v => some (v, .no) := by
  simp only [aop]
  cases ev x with
  | none => rfl
  | some v => simp only [bindO]; cases aun op v <;> rfl

/-- A binary operation, on values. -/
def bin (P : Program) (op : BinOp) (t : TypeId) (x y : AV) : Option (AV × Delta) :=
  match x, y with
  | .agg a, .agg b =>
    if op = .eql ∧ (kshape P t).isSome ∧ kshape P t = shapeOf (.agg a) ∧ kshape P t = shapeOf (.agg b) then (keq (.agg a) (.agg b)).map fun r => (.bool r, .no)
    else if op = .neq ∧ (kshape P t).isSome ∧ kshape P t = shapeOf (.agg a) ∧ kshape P t = shapeOf (.agg b) then (keq (.agg a) (.agg b)).map fun r => (.bool (!r), .no)
    else none
  | x, y => bindO (abin (tk P t) op x y) fun v => some (v, .no)

theorem op_binOp {op : BinOp} {t u : TypeId} {x y : Operand} : aop P ev L n (.binOp op t x y u) = bindO (ev x) fun a => bindO (ev y) fun b => bin P op t a b := by
  simp only [aop]
  cases ev x with
  | none => rfl
  | some a =>
    cases ev y with
    | none => cases a <;> rfl
    | some b =>
      cases a <;> cases b <;> simp only [bindO, bin] <;> first | rfl | (cases abin (tk P t) op _ _ <;> rfl)

theorem op_convert {s d : TypeId} {x : Operand} : aop P ev L n (.convert s d x) = bindO (ev x) fun a => aconv P L n s d a := by
  simp only [aop]; cases ev x <;> rfl
theorem op_makeFunc {f : Fn} {caps : Array Operand} : aop P ev L n (.makeFunc f #[] caps) = bindO (evL ev caps.toList) fun vs => if vs.all AV.plain then some (.fn f vs, .no) else none := by
  simp only [aop]
  cases evL ev caps.toList with
  | none => rfl
  | some vs => simp [bindO]
theorem op_makeSlice {t : TypeId} {l c : Operand} : aop P ev L n (.makeSlice t l c) = bindO (ev l) fun l => bindO (ev c) fun c => amakeSlice P n t l c := by
  simp only [aop]
  cases ev l <;> cases ev c <;> rfl
theorem op_slice {t : TypeId} {x : Operand} {lo hi mx : Option Operand} : aop P ev L n (.slice t x lo hi mx) =
    bindO (ev x) fun x => bindO (evO ev lo) fun lo => bindO (evO ev hi) fun hi => bindO (evO ev mx) fun mx => bindO (aslice P t x lo hi mx) fun v => some (v, .no) := by
  simp only [aop]
  cases ev x with
  | none => rfl
  | some x =>
    cases evO ev lo with
    | none => rfl
    | some lo =>
      cases evO ev hi with
      | none => rfl
      | some hi =>
        cases evO ev mx with
        | none => rfl
        | some mx => simp only [bindO]; cases aslice P t x lo hi mx <;> rfl
def fieldA (P : Program) (t : TypeId) (f : Nat) (v : AV) : Option (AV × Delta) :=
  match v, tfield P t f with
  | .ptr (some a), some (o, u) => if 0 < tsz P u then some (.ptr (some { a with off := a.off + o }), .no) else none
  | _, _ => none

def fieldV (P : Program) (t : TypeId) (f : Nat) (v : AV) : Option (AV × Delta) :=
  match v, tfield P t f with
  | .agg cs, some (o, u) => bindO (apart P u cs o) fun v => some (v, .no)
  | _, _ => none

def extractV (i : Nat) (v : AV) : Option (AV × Delta) :=
  match v with
  | .tup vs => bindO (vs[i]?) fun v => some (v, .no)
  | _ => none

def len1 (P : Program) (L : Look) (t : TypeId) : List AV → Option (AV × Delta)
  | [x] => bindO (alen P L t x) fun v => some (v, .no)
  | _ => none

def append2 (P : Program) (L : Look) (n : Nat) (t u : TypeId) : List AV → Option (AV × Delta)
  | [s, x] => aappend P L n t u s x
  | _ => none

theorem op_fieldAddr {t : TypeId} {x : Operand} {f : Nat} : aop P ev L n (.fieldAddr t x f) = bindO (ev x) fun v => fieldA P t f v := by
  simp only [aop]
  cases hx : ev x with
  | none => rfl
  | some v =>
    simp only [bindO, fieldA]
    cases v with
    | ptr a => cases a <;> cases tfield P t f <;> rfl
    | _ => rfl
theorem op_field {t : TypeId} {x : Operand} {f : Nat} : aop P ev L n (.field t x f) = bindO (ev x) fun v => fieldV P t f v := by
  simp only [aop]
  cases hx : ev x with
  | none => rfl
  | some v =>
    simp only [bindO, fieldV]
    cases v with
    | agg a =>
      cases h : tfield P t f with
      | none => rfl
      | some ou =>
        obtain ⟨o, u⟩ := ou
        simp only []
        cases apart P u a o <;> rfl
    | _ => rfl
theorem op_indexAddr {t : TypeId} {x i : Operand} : aop P ev L n (.indexAddr t x i) = bindO (ev x) fun x => bindO (ev i) fun i => bindO (aindexAddr P t x i) fun v => some (v, .no) := by
  simp only [aop]
  cases ev x with
  | none => rfl
  | some x =>
    cases ev i with
    | none => rfl
    | some i => simp only [bindO]; cases aindexAddr P t x i <;> rfl
theorem op_index {t : TypeId} {x i : Operand} : aop P ev L n (.index t x i) = bindO (ev x) fun x => bindO (ev i) fun i => bindO (aindex P t x i) fun v => some (v, .no) := by
  simp only [aop]
  cases ev x with
  | none => rfl
  | some x =>
    cases ev i with
    | none => rfl
    | some i => simp only [bindO]; cases aindex P t x i <;> rfl
theorem op_lookup {t : TypeId} {m k : Operand} {ok : Bool} : aop P ev L n (.lookup t m k ok) = bindO (ev m) fun m => bindO (ev k) fun k => bindO (alookup P L t m k ok) fun v => some (v, .no) := by
  simp only [aop]
  cases ev m with
  | none => rfl
  | some x =>
    cases ev k with
    | none => rfl
    | some i => simp only [bindO]; cases alookup P L t x i ok <;> rfl
theorem op_mapUpdate {t : TypeId} {m k x : Operand} : aop P ev L n (.mapUpdate t m k x) =
    bindO (ev m) fun m => bindO (ev k) fun k => bindO (ev x) fun v => if v.notTup then bindO (amapUpdate P L t m k v) fun d => some (.tup [], d) else none := by
  simp only [aop]
  cases ev m with
  | none => rfl
  | some m =>
    cases ev k with
    | none => rfl
    | some k =>
      cases ev x with
      | none => rfl
      | some v =>
        simp only [bindO]
        split
        · cases amapUpdate P L t m k v <;> rfl
        · rfl
theorem op_extract {t : Operand} {i : Nat} : aop P ev L n (.extract t i) = bindO (ev t) fun v => extractV i v := by
  simp only [aop]
  cases ev t with
  | none => rfl
  | some v =>
    cases v with
    | tup vs => simp only [bindO, extractV]; cases vs[i]? <;> rfl
    | _ => rfl
theorem op_len {args : Array Operand} {t : TypeId} : aop P ev L n (.call ⟨.builtin .len, args, #[t]⟩) = bindO (evL ev args.toList) fun vs => len1 P L t vs := by
  simp only [aop]
  cases evL ev args.toList with
  | none => rfl
  | some vs =>
    simp only [bindO, len1]
    match vs with
    | [] => rfl
    | [x] => simp only []; cases alen P L t x <;> rfl
    | _ :: _ :: _ => rfl
theorem op_append {args : Array Operand} {t u : TypeId} : aop P ev L n (.call ⟨.builtin .append, args, #[t, u]⟩) = bindO (evL ev args.toList) fun vs => append2 P L n t u vs := by
  simp only [aop]
  cases evL ev args.toList with
  | none => rfl
  | some vs =>
    simp only [bindO, append2]
    match vs with
    | [] => rfl
    | [x] => rfl
    | [x, y] => rfl
    | _ :: _ :: _ :: _ => rfl
theorem op_min {args : Array Operand} {ts : Array TypeId} : aop P ev L n (.call ⟨.builtin .min, args, ts⟩) = bindO (evL ev args.toList) fun vs => bindO (amin vs) fun v => some (v, .no) := by
  simp only [aop]
  cases evL ev args.toList with
  | none => rfl
  | some vs => simp only [bindO]; cases amin vs <;> rfl
theorem op_max {args : Array Operand} {ts : Array TypeId} : aop P ev L n (.call ⟨.builtin .max, args, ts⟩) = bindO (evL ev args.toList) fun vs => bindO (amax vs) fun v => some (v, .no) := by
  simp only [aop]
  cases evL ev args.toList with
  | none => rfl
  | some vs => simp only [bindO]; cases amax vs <;> rfl

end

/-! ### code -/

section
variable {P : Program} {F : CallF} {s : St} {Q : AExit → St → Prop}


theorem scode_more {k : SC} {n n' : Nat} {r : AExit × St} (h : scode P F n k s = some r) (hn : n ≤ n') : scode P F n' k s = some r := by
  obtain ⟨m, hm⟩ := scode_ev (F := F) (G := fun _ => F) (fun g a h r hr => ⟨0, fun _ _ => hr⟩) k s r h
  exact hm m (Nat.le_refl _) n' hn

theorem W_skip : W P F .skip s Q = Q .normal s := propext ⟨fun ⟨n, e, s', h1, h2⟩ => by
  have := h1 n (Nat.le_refl _)
  simp [scode] at this
  obtain ⟨rfl, rfl⟩ := this
  exact h2, W.skip⟩
theorem W_exit {id : Nat} : W P F (.exit id) s Q = Q (.exit id) s := propext ⟨fun ⟨n, e, s', h1, h2⟩ => by
  have := h1 n (Nat.le_refl _)
  simp [scode] at this
  obtain ⟨rfl, rfl⟩ := this
  exact h2, W.exit⟩
theorem W_ret : W P F .ret s Q = Q .ret s := propext ⟨fun ⟨n, e, s', h1, h2⟩ => by
  have := h1 n (Nat.le_refl _)
  simp [scode] at this
  obtain ⟨rfl, rfl⟩ := this
  exact h2, W.ret⟩

theorem W_reg {ops : List SOp} {pairs : Option (List (Nat × Nat))} {keep : Option (List Nat)} : W P F (.reg ops pairs keep) s Q = holds (sreg P F ops pairs s) fun s' => Q .normal ⟨cut keep s'.ρ, s'.h⟩ := by
  refine propext ⟨fun ⟨n, e, s', h1, h2⟩ => ?_, fun h => ?_⟩
  · have := h1 n (Nat.le_refl _)
    simp only [scode] at this
    split at this
    · rename_i s₁ hs
      simp at this
      obtain ⟨rfl, rfl⟩ := this
      simp only [hs, holds]
      exact h2
    · simp at this
  · cases hs : sreg P F ops pairs s with
    | none => simp [hs, holds] at h
    | some s₁ => simp only [hs, holds] at h; exact W.reg hs h

theorem W_seq {a b : SC} : W P F (.seq a b) s Q = W P F a s (andThen (fun s' => W P F b s' Q) Q) := by
  refine propext ⟨fun ⟨n, e, s', h1, h2⟩ => ?_, W.seq⟩
  have h := h1 n (Nat.le_refl _)
  simp only [scode] at h
  cases hx : scode P F n a s with
  | none => simp [hx] at h
  | some x =>
    obtain ⟨e₁, s₁⟩ := x
    refine ⟨n, e₁, s₁, fun n' hn' => scode_more hx hn', ?_⟩
    cases e₁ with
    | normal =>
      simp only [hx] at h
      exact ⟨n, e, s', fun n' hn' => scode_more h hn', h2⟩
    | exit id =>
      simp only [hx] at h
      simp at h
      obtain ⟨rfl, rfl⟩ := h
      exact h2
    | ret =>
      simp only [hx] at h
      simp at h
      obtain ⟨rfl, rfl⟩ := h
      exact h2

theorem W_cond {x : Operand} {a b : SC} {keep : Option (List Nat)} : W P F (.cond x a b keep) s Q = condK (evalA s.ρ x) (W P F a s (onCut keep Q)) (W P F b s (onCut keep Q)) := by
  refine propext ⟨fun ⟨n, e, s', h1, h2⟩ => ?_, fun h => ?_⟩
  · have h := h1 n (Nat.le_refl _)
    simp only [scode] at h
    have main : ∀ k : SC, after keep (scode P F n k s) = some (e, s') → W P F k s (onCut keep Q) := by
      intro k hk
      cases hx : scode P F n k s with
      | none => simp [hx, after] at hk
      | some y =>
        obtain ⟨e₁, s₁⟩ := y
        rw [hx] at hk
        refine ⟨n, e₁, s₁, fun n' hn' => scode_more hx hn', ?_⟩
        cases e₁ <;> simp [after] at hk <;> obtain ⟨rfl, rfl⟩ := hk <;> exact h2
    cases hv : evalA s.ρ x with
    | none => simp [hv, after] at h
    | some v =>
      cases v with
      | bool t =>
        cases t
        · simp only [hv] at h; exact main b h
        · simp only [hv] at h; exact main a h
      | _ => simp [hv, after] at h
  · cases hv : evalA s.ρ x with
    | none => simp [hv, condK] at h
    | some v =>
      cases v with
      | bool t =>
        cases t
        · simp only [hv, condK] at h; exact W.cond_false hv h
        · simp only [hv, condK] at h; exact W.cond_true hv h
      | _ => simp [hv, condK] at h

theorem W_block {id : Nat} {k : SC} : W P F (.block id k) s Q = W P F k s (inBlock id Q) := by
  refine propext ⟨fun ⟨n, e, s', h1, h2⟩ => ?_, W.block⟩
  have h := h1 n (Nat.le_refl _)
  simp only [scode] at h
  cases hx : scode P F n k s with
  | none => simp [hx] at h
  | some x =>
    obtain ⟨e₁, s₁⟩ := x
    refine ⟨n, e₁, s₁, fun n' hn' => scode_more hx hn', ?_⟩
    cases e₁ with
    | normal =>
      simp [hx] at h
      obtain ⟨rfl, rfl⟩ := h
      exact h2
    | exit id' =>
      simp only [hx] at h
      simp only [inBlock]
      split at h <;> simp at h <;> obtain ⟨rfl, rfl⟩ := h
      · rename_i hi; rw [if_pos hi]; exact h2
      · rename_i hi; rw [if_neg hi]; exact h2
    | ret =>
      simp [hx] at h
      obtain ⟨rfl, rfl⟩ := h
      exact h2

/-- 'W', what comes behind it marked. -/
def Wt (P : Program) (F : CallF) (k : SC) (s : St) (Q : AExit → St → Prop) (_ : Tag Q := ⟨⟩) : Prop := W P F k s Q
theorem Wt_skip : Wt P F .skip s Q = Q .normal s := W_skip
theorem Wt_exit {id : Nat} : Wt P F (.exit id) s Q = Q (.exit id) s := W_exit
theorem Wt_ret : Wt P F .ret s Q = Q .ret s := W_ret
theorem Wt_reg {ops : List SOp} {pairs : Option (List (Nat × Nat))} {keep : Option (List Nat)} : Wt P F (.reg ops pairs keep) s Q = holds (sreg P F ops pairs s) fun s' => Q .normal ⟨cut keep s'.ρ, s'.h⟩ := W_reg
theorem Wt_seq {a b : SC} : Wt P F (.seq a b) s Q = Wt P F a s (andThen (fun s' => Wt P F b s' Q) Q) := W_seq
theorem Wt_cond {x : Operand} {a b : SC} {keep : Option (List Nat)} : Wt P F (.cond x a b keep) s Q = condK (evalA s.ρ x) (Wt P F a s (onCut keep Q)) (Wt P F b s (onCut keep Q)) := W_cond
theorem Wt_block {id : Nat} {k : SC} : Wt P F (.block id k) s Q = Wt P F k s (inBlock id Q) := W_block
theorem Wt.loop {k : SC} {keep : Option (List Nat)} (I : Nat → St → Prop) {m : Nat} (h₀ : I m s)
    (round : ∀ m s, I m s → Wt P F k ⟨cut keep s.ρ, s.h⟩ (andThen (fun s' => ∃ m', m' < m ∧ I m' s') Q)) : Wt P F (.loop k keep) s Q := W.loop I h₀ round

variable {K : St → Prop} {keep : Option (List Nat)} {id id' : Nat}
theorem andThen_normal : andThen K Q .normal s = K s := (rfl)
theorem andThen_exit : andThen K Q (.exit id) s = Q (.exit id) s := (rfl)
theorem andThen_ret : andThen K Q .ret s = Q .ret s := (rfl)
theorem onCut_normal : onCut keep Q .normal s = Q .normal ⟨cut keep s.ρ, s.h⟩ := (rfl)
theorem onCut_exit : onCut keep Q (.exit id) s = Q (.exit id) s := (rfl)
theorem onCut_ret : onCut keep Q .ret s = Q .ret s := (rfl)
theorem inBlock_normal : inBlock id Q .normal s = Q .normal s := (rfl)
theorem inBlock_same : inBlock id Q (.exit id) s = Q .normal s := by simp [inBlock]
theorem inBlock_other (h : id' ≠ id) : inBlock id Q (.exit id') s = Q (.exit id') s := by simp [inBlock, h]
theorem inBlock_ret : inBlock id Q .ret s = Q .ret s := (rfl)

theorem cut_some {ks : List Nat} {ρ : Env} : cut (some ks) ρ = pick ρ ks := (rfl)
theorem cut_none {ρ : Env} : cut none ρ = ρ := (rfl)

/-- The end of a function whose results are these slots. -/
def Ends (P : Program) (rs : List ResultVar) (R : AV → Heap → Prop) : AExit → St → Prop
  | .exit _, _ => False
  | _, s => holds (aresultL P s rs) fun vs => vs.all AV.notTup = true ∧ R (pack vs) s.h
theorem Ends_normal {rs : List ResultVar} {R : AV → Heap → Prop} : Ends P rs R .normal s = holds (aresultL P s rs) fun vs => vs.all AV.notTup = true ∧ R (pack vs) s.h := (rfl)
theorem Ends_ret {rs : List ResultVar} {R : AV → Heap → Prop} : Ends P rs R .ret s = holds (aresultL P s rs) fun vs => vs.all AV.notTup = true ∧ R (pack vs) s.h := (rfl)

theorem Ends_fin {fn : Func} {rs : List ResultVar} (hrs : fn.results.toList = rs) {R : AV → Heap → Prop} {e : AExit} (h : Ends P rs R e s) : Fin P fn R e s := by
  subst hrs
  cases e with
  | exit id => exact h.elim
  | normal =>
    simp only [Ends_normal] at h
    cases hv : aresultL P s fn.results.toList with
    | none => simp [hv, holds] at h
    | some vs => simp only [hv, holds] at h; exact ⟨vs, hv, h.1, h.2⟩
  | ret =>
    simp only [Ends_ret] at h
    cases hv : aresultL P s fn.results.toList with
    | none => simp [hv, holds] at h
    | some vs => simp only [hv, holds] at h; exact ⟨vs, hv, h.1, h.2⟩

theorem W.calls {c : Cfg} {f : FuncId} {fn : Func} {code : Code} {k : SC} {rs : List ResultVar} (hx : c.ext f = none) (hf : c.P.funcs[f]? = some fn) (hb : fn.body = some code) (hk : compile (c.hint f) code = k) (hrs : fn.results.toList = rs)
    {args : List AV} (hn : args.length ≤ fn.ntmps) {h : Heap} {R : AV → Heap → Prop} (hw : Wt c.P (D c) k ⟨argsEnv 0 args, h⟩ (Ends c.P rs R)) : ∃ r h', D c f args h = some (r, h') ∧ R r h' :=
  W.call hx hf hb hk hn (hw.mono fun e s' h => Ends_fin hrs h)

theorem result_tmp {t : Nat} {rs : List ResultVar} : aresultL P s (.tmp t :: rs) = bindO (s.ρ.get t) fun v => bindO (aresultL P s rs) fun vs => some (v :: vs) := by
  simp only [aresultL, aresult]
  cases s.ρ.get t <;> cases aresultL P s rs <;> rfl
theorem result_nil : aresultL P s [] = some [] := (rfl)

end

theorem get_cons {k t : Nat} {v : AV} {ρ : Env} : Env.get ((k, v) :: ρ) t = if k = t then some v else Env.get ρ t := (rfl)
theorem put_some {ρ : Env} {d : Nat} {v : AV} : Env.put ρ (some d) v = (d, v) :: ρ := (rfl)
theorem put_none {ρ : Env} {v : AV} : Env.put ρ none v = ρ := (rfl)

def consO (k : Nat) (v : Option AV) (ρ : Env) : Env :=
  match v with
  | some v => (k, v) :: ρ
  | none => ρ
theorem consO_some {k : Nat} {v : AV} {ρ : Env} : consO k (some v) ρ = (k, v) :: ρ := (rfl)
theorem consO_none {k : Nat} {ρ : Env} : consO k none ρ = ρ := (rfl)
theorem pick_cons {ρ : Env} {k : Nat} {ks : List Nat} : pick ρ (k :: ks) = consO k (ρ.get k) (pick ρ ks) := by
  simp only [pick]
  cases ρ.get k <;> rfl
theorem pick_nil {ρ : Env} : pick ρ [] = [] := (rfl)

end Go.AM
