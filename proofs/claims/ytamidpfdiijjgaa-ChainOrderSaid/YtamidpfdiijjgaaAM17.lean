/-
  The rules by which 'simp' runs code.
-/
import Derived.Test.YtamidpfdiijjgaaAM16
namespace Go.AM
open Go
set_option linter.unusedVariables false
set_option linter.unusedSimpArgs false

theorem evalA_tmp {ρ : Env} {t : Nat} : evalA ρ (.tmp t) = ρ.get t := (rfl)
theorem evalA_const {ρ : Env} {v : Value} : evalA ρ (.const v) = absV v := (rfl)
theorem absV_bool {b : Bool} : absV (.bool b) = some (.bool b) := (rfl)
theorem absV_int {k : IntKind} {n : Int} : absV (.int k n) = some (.int k n) := (rfl)
theorem absV_string {s : Array UInt8} : absV (.string ⟨s⟩) = some (.str s.toList) := (rfl)
theorem absV_pointer : absV (.pointer none) = some (.ptr none) := (rfl)
theorem absV_slice : absV (.slice none 0 0) = some (.sl none 0 0) := (rfl)
theorem absV_map : absV (.map none) = some (.map none) := (rfl)
theorem absV_nilFunc : absV .nilFunc = some .nilf := (rfl)
theorem absV_nilIface : absV .nilIface = some .nili := (rfl)
theorem absV_agg {cs : Array Value} : absV (.agg cs) = bindO (absL cs.toList) fun xs => some (.agg xs) := by
  simp only [absV]
  cases absL cs.toList <;> rfl
theorem absL_cons {v : Value} {vs : List Value} : absL (v :: vs) = bindO (absC v) fun x => bindO (absL vs) fun xs => some (x :: xs) := by
  simp only [absL]
  cases absC v <;> cases absL vs <;> rfl
theorem absL_nil : absL [] = some [] := (rfl)
theorem absC_bool {b : Bool} : absC (.bool b) = some (.bool b) := (rfl)
theorem absC_int {k : IntKind} {n : Int} : absC (.int k n) = some (.int k n) := (rfl)
theorem absC_string {s : Array UInt8} : absC (.string ⟨s⟩) = some (.str s.toList) := (rfl)
theorem absC_pointer : absC (.pointer none) = some (.ptr none) := (rfl)
theorem absC_slice : absC (.slice none 0 0) = some (.sl none 0 0) := (rfl)
theorem absC_map : absC (.map none) = some (.map none) := (rfl)
theorem absC_nilFunc : absC .nilFunc = some .nilf := (rfl)

section
variable {P : Program} {F : CallF} {s : St}
theorem sreg_none {ops : List SOp} : sreg P F ops none s = aops P F ops s := (rfl)
theorem sreg_some {ops : List SOp} {ps : List (Nat × Nat)} : sreg P F ops (some ps) s = aopsT P F ps 0 ops s ⟨[], []⟩ := (rfl)

theorem step_move {x : Operand} : astep P F (.move x) s = bindO (evalA s.ρ x) fun v => some (v, s.h) := by
  rw [astep_eq rfl, op_move]; cases evalA s.ρ x <;> rfl
theorem step_assign {x : Operand} : astep P F (.assign x) s = bindO (evalA s.ρ x) fun v => some (v, s.h) := by
  rw [astep_eq rfl, op_assign]; cases evalA s.ρ x <;> rfl
theorem step_nilCheck {x : Operand} : astep P F (.nilCheck x) s = bindO (evalA s.ρ x) fun v => bindO (nilck v) fun v => some (v, s.h) := by
  rw [astep_eq rfl, op_nilCheck]
  cases evalA s.ρ x with
  | none => rfl
  | some v => simp only [bindO_some]; cases nilck v <;> rfl
theorem step_load {t : TypeId} {x : Operand} : astep P F (.load t x) s = bindO (evalA s.ρ x) fun p => bindO (aload P (look s.h) t p) fun v => some (v, s.h) := by
  rw [astep_eq rfl, op_load]
  cases evalA s.ρ x with
  | none => rfl
  | some v => simp only [bindO_some]; cases aload P (look s.h) t v <;> rfl
theorem step_unOp {op : UnOp} {t : TypeId} {x : Operand} : astep P F (.unOp op t x) s = bindO (evalA s.ρ x) fun v => bindO (aun op v) fun v => some (v, s.h) := by
  rw [astep_eq rfl, op_unOp]
  cases evalA s.ρ x with
  | none => rfl
  | some v => simp only [bindO_some]; cases aun op v <;> rfl
theorem step_binOp {op : BinOp} {t u : TypeId} {x y : Operand} : astep P F (.binOp op t x y u) s = bindO (evalA s.ρ x) fun a => bindO (evalA s.ρ y) fun b => fin s (bin P op t a b) := by
  rw [astep_eq rfl, op_binOp]
  cases evalA s.ρ x <;> cases evalA s.ρ y <;> rfl
theorem step_alloc {t : TypeId} : astep P F (.alloc t) s = fin s (aop P (evalA s.ρ) (look s.h) s.h.length (.alloc t)) := astep_eq rfl
theorem step_box {t : TypeId} {x : Operand} : astep P F (.box t x) s = fin s (aop P (evalA s.ρ) (look s.h) s.h.length (.box t x)) := astep_eq rfl
theorem step_build {t : TypeId} {ps : Array (Nat × Operand)} : astep P F (.build t ps) s = fin s (aop P (evalA s.ρ) (look s.h) s.h.length (.build t ps)) := astep_eq rfl
theorem step_buildSlice {t : TypeId} {n : Nat} {ps : Array (Nat × Operand)} : astep P F (.buildSlice t n ps) s = fin s (aop P (evalA s.ρ) (look s.h) s.h.length (.buildSlice t n ps)) := astep_eq rfl
theorem step_store {t : TypeId} {x y : Operand} : astep P F (.store t x y) s = fin s (aop P (evalA s.ρ) (look s.h) s.h.length (.store t x y)) := astep_eq rfl
theorem step_convert {t u : TypeId} {x : Operand} : astep P F (.convert t u x) s = fin s (aop P (evalA s.ρ) (look s.h) s.h.length (.convert t u x)) := astep_eq rfl
theorem step_makeFunc {f : Fn} {a b : Array Operand} : astep P F (.makeFunc f a b) s = fin s (aop P (evalA s.ρ) (look s.h) s.h.length (.makeFunc f a b)) := astep_eq rfl
theorem step_makeMap {t : TypeId} {r : Option Operand} : astep P F (.makeMap t r) s = fin s (aop P (evalA s.ρ) (look s.h) s.h.length (.makeMap t r)) := astep_eq rfl
theorem step_makeSlice {t : TypeId} {x y : Operand} : astep P F (.makeSlice t x y) s = fin s (aop P (evalA s.ρ) (look s.h) s.h.length (.makeSlice t x y)) := astep_eq rfl
theorem step_slice {t : TypeId} {x : Operand} {l h m : Option Operand} : astep P F (.slice t x l h m) s = fin s (aop P (evalA s.ρ) (look s.h) s.h.length (.slice t x l h m)) := astep_eq rfl
theorem step_fieldAddr {t : TypeId} {x : Operand} {f : Nat} : astep P F (.fieldAddr t x f) s = fin s (aop P (evalA s.ρ) (look s.h) s.h.length (.fieldAddr t x f)) := astep_eq rfl
theorem step_field {t : TypeId} {x : Operand} {f : Nat} : astep P F (.field t x f) s = fin s (aop P (evalA s.ρ) (look s.h) s.h.length (.field t x f)) := astep_eq rfl
theorem step_indexAddr {t : TypeId} {x y : Operand} : astep P F (.indexAddr t x y) s = fin s (aop P (evalA s.ρ) (look s.h) s.h.length (.indexAddr t x y)) := astep_eq rfl
theorem step_index {t : TypeId} {x y : Operand} : astep P F (.index t x y) s = fin s (aop P (evalA s.ρ) (look s.h) s.h.length (.index t x y)) := astep_eq rfl
theorem step_lookup {t : TypeId} {x y : Operand} {ok : Bool} : astep P F (.lookup t x y ok) s = fin s (aop P (evalA s.ρ) (look s.h) s.h.length (.lookup t x y ok)) := astep_eq rfl
theorem step_mapUpdate {t : TypeId} {x y z : Operand} : astep P F (.mapUpdate t x y z) s = fin s (aop P (evalA s.ρ) (look s.h) s.h.length (.mapUpdate t x y z)) := astep_eq rfl
theorem step_insert {t : TypeId} {x y z : Operand} : astep P F (.insert t x y z) s = fin s (aop P (evalA s.ρ) (look s.h) s.h.length (.insert t x y z)) := astep_eq rfl
theorem step_range {t : TypeId} {x : Operand} : astep P F (.range t x) s = fin s (aop P (evalA s.ρ) (look s.h) s.h.length (.range t x)) := astep_eq rfl
theorem step_next {x : Operand} {b : Bool} : astep P F (.next x b) s = fin s (aop P (evalA s.ρ) (look s.h) s.h.length (.next x b)) := astep_eq rfl
theorem step_extract {x : Operand} {i : Nat} : astep P F (.extract x i) s = fin s (aop P (evalA s.ρ) (look s.h) s.h.length (.extract x i)) := astep_eq rfl
theorem step_pick {x y z : Operand} : astep P F (.pick x y z) s = fin s (aop P (evalA s.ρ) (look s.h) s.h.length (.pick x y z)) := astep_eq rfl
theorem step_makeInterface {t : TypeId} {x : Operand} : astep P F (.makeInterface t x) s = fin s (aop P (evalA s.ρ) (look s.h) s.h.length (.makeInterface t x)) := astep_eq rfl
theorem step_builtin {b : Builtin} {as : Array Operand} {ts : Array TypeId} : astep P F (.call ⟨.builtin b, as, ts⟩) s = fin s (aop P (evalA s.ρ) (look s.h) s.h.length (.call ⟨.builtin b, as, ts⟩)) := astep_eq rfl

/-- In regions whose order is drawn: the same with what was turned. -/
def tch (s : St) (r : Option (AV × Delta)) : Option (AV × Heap × Touch) := finT s r

theorem fin_some {v : AV} {δ : Delta} : fin s (some (v, δ)) = some (v, s.h.apply δ) := (rfl)
theorem finT_some {v : AV} {δ : Delta} : finT s (some (v, δ)) = some (v, s.h.apply δ, touchD s.h.length δ) := (rfl)
theorem apply_no {h : Heap} : h.apply .no = h := (rfl)
theorem apply_new {h : Heap} {o : AObj} : h.apply (.new o) = h ++ [o] := (rfl)
theorem apply_set {h : Heap} {b : Nat} {o : AObj} : h.apply (.set b o) = h.set b o := (rfl)
end

theorem bin_int {P : Program} {op : BinOp} {t : TypeId} {k k' : IntKind} {a b : Int} : bin P op t (.int k a) (.int k' b) = bindO (abin (tk P t) op (.int k a) (.int k' b)) fun v => some (v, .no) := (rfl)
theorem bin_str {P : Program} {op : BinOp} {t : TypeId} {a b : List UInt8} : bin P op t (.str a) (.str b) = bindO (abin (tk P t) op (.str a) (.str b)) fun v => some (v, .no) := (rfl)
theorem bin_bool {P : Program} {op : BinOp} {t : TypeId} {a b : Bool} : bin P op t (.bool a) (.bool b) = bindO (abin (tk P t) op (.bool a) (.bool b)) fun v => some (v, .no) := (rfl)
theorem bin_ptr {P : Program} {op : BinOp} {t : TypeId} {a b : Option AA} : bin P op t (.ptr a) (.ptr b) = bindO (abin (tk P t) op (.ptr a) (.ptr b)) fun v => some (v, .no) := (rfl)
theorem bin_sl {P : Program} {op : BinOp} {t : TypeId} {a b : Option AA} {n c m d : Nat} : bin P op t (.sl a n c) (.sl b m d) = bindO (abin (tk P t) op (.sl a n c) (.sl b m d)) fun v => some (v, .no) := (rfl)

attribute [simp] bindO_some bindO_none holds_some holds_none condK_true condK_false guardK_tt guardK_ff guardK_tf guardK_ft guardK_un guardP_true
  aops_nil aops_run aops_guard aopsT_nil' aopsT_run aopsT_guard astep_call astepT_call ev_cons ev_nil evP_cons evP_nil evO_none evO_some
  op_alloc op_box op_build op_buildSlice op_store op_convert op_makeFunc op_makeSlice op_slice op_fieldAddr op_field op_indexAddr op_index op_lookup op_mapUpdate op_extract op_len op_append op_min op_max
  Wt_skip Wt_exit Wt_ret Wt_reg Wt_seq Wt_cond Wt_block andThen_normal andThen_exit andThen_ret onCut_normal onCut_exit onCut_ret inBlock_normal inBlock_same inBlock_other inBlock_ret cut_some cut_none
  Ends_normal Ends_ret result_tmp result_nil get_cons put_some put_none consO_some consO_none pick_cons pick_nil
  evalA_tmp evalA_const absV_bool absV_int absV_string absV_pointer absV_slice absV_map absV_nilFunc absV_nilIface absV_agg absL_cons absL_nil absC_bool absC_int absC_string absC_pointer absC_slice absC_map absC_nilFunc
  sreg_none sreg_some step_move step_assign step_nilCheck step_load step_unOp step_binOp step_alloc step_box step_build step_buildSlice step_store step_convert step_makeFunc step_makeMap step_makeSlice step_slice step_fieldAddr step_field
  step_indexAddr step_index step_lookup step_mapUpdate step_insert step_range step_next step_extract step_pick step_makeInterface step_builtin fin_some finT_some apply_no apply_new apply_set bin_int bin_str bin_bool bin_ptr bin_sl

section
variable {t : TK} {k : IntKind} {a b : Int}
theorem abin_add : abin t .add (.int k a) (.int k b) = some (.int k (k.wrap (a + b))) := by simp [abin]
theorem abin_sub : abin t .sub (.int k a) (.int k b) = some (.int k (k.wrap (a - b))) := by simp [abin]
theorem abin_mul : abin t .mul (.int k a) (.int k b) = some (.int k (k.wrap (a * b))) := by simp [abin]
theorem abin_quo (h : b ≠ 0) : abin t .quo (.int k a) (.int k b) = some (.int k (k.wrap (a.tdiv b))) := by simp [abin, h]
theorem abin_rem (h : b ≠ 0) : abin t .rem (.int k a) (.int k b) = some (.int k (a.tmod b)) := by simp [abin, h]
theorem abin_and : abin t .and (.int k a) (.int k b) = some (.int k (k.wrap (BitVec.ofInt k.bits a &&& BitVec.ofInt k.bits b).toNat)) := by simp [abin]
theorem abin_or : abin t .or (.int k a) (.int k b) = some (.int k (k.wrap (BitVec.ofInt k.bits a ||| BitVec.ofInt k.bits b).toNat)) := by simp [abin]
theorem abin_xor : abin t .xor (.int k a) (.int k b) = some (.int k (k.wrap (BitVec.ofInt k.bits a ^^^ BitVec.ofInt k.bits b).toNat)) := by simp [abin]
theorem abin_eql : abin t .eql (.int k a) (.int k b) = some (.bool (decide (a = b))) := by simp [abin]
theorem abin_neq : abin t .neq (.int k a) (.int k b) = some (.bool (!decide (a = b))) := by simp [abin]
theorem abin_lss : abin t .lss (.int k a) (.int k b) = some (.bool (decide (a < b))) := by simp [abin]
theorem abin_leq : abin t .leq (.int k a) (.int k b) = some (.bool (decide (a ≤ b))) := by simp [abin]
theorem abin_gtr : abin t .gtr (.int k a) (.int k b) = some (.bool (decide (b < a))) := by simp [abin]
theorem abin_geq : abin t .geq (.int k a) (.int k b) = some (.bool (decide (b ≤ a))) := by simp [abin]
theorem abin_shl {k' : IntKind} (h : 0 ≤ b) : abin t .shl (.int k a) (.int k' b) = some (.int k (k.wrap (a * 2 ^ (min b.toNat k.bits)))) := by simp [abin, h]
theorem abin_shr {k' : IntKind} (h : 0 ≤ b) : abin t .shr (.int k a) (.int k' b) = some (.int k (a.fdiv (2 ^ (min b.toNat k.bits)))) := by simp [abin, h]
theorem abin_eqlS {x y : List UInt8} : abin t .eql (.str x) (.str y) = some (.bool (decide (x = y))) := by simp [abin]
theorem abin_neqS {x y : List UInt8} : abin t .neq (.str x) (.str y) = some (.bool (!decide (x = y))) := by simp [abin]
theorem abin_addS {x y : List UInt8} (h : x.length + y.length ≤ 9223372036854775807) : abin t .add (.str x) (.str y) = some (.str (x ++ y)) := by simp [abin, h]
theorem abin_eqlB {x y : Bool} : abin .bool .eql (.bool x) (.bool y) = some (.bool (decide (x = y))) := by simp [abin, aeq]
theorem abin_neqB {x y : Bool} : abin .bool .neq (.bool x) (.bool y) = some (.bool (!decide (x = y))) := by simp [abin, aeq]
theorem abin_eqlP {e : TypeId} {x : AA} : abin (.ptr e) .eql (.ptr (some x)) (.ptr none) = some (.bool false) := by simp [abin, aeq]
theorem abin_neqP {e : TypeId} {x : AA} : abin (.ptr e) .neq (.ptr (some x)) (.ptr none) = some (.bool true) := by simp [abin, aeq]
theorem abin_eqlPn {e : TypeId} : abin (.ptr e) .eql (.ptr none) (.ptr none) = some (.bool true) := by simp [abin, aeq]
theorem abin_neqPn {e : TypeId} : abin (.ptr e) .neq (.ptr none) (.ptr none) = some (.bool false) := by simp [abin, aeq]
theorem abin_eqlL {e : TypeId} {x : Option AA} {n c m d : Nat} : abin (.slice e) .eql (.sl x n c) (.sl none m d) = some (.bool x.isNone) := by cases x <;> simp [abin, aeq]
theorem abin_neqL {e : TypeId} {x : Option AA} {n c m d : Nat} : abin (.slice e) .neq (.sl x n c) (.sl none m d) = some (.bool (!x.isNone)) := by cases x <;> simp [abin, aeq]
theorem abin_eqlM {e f : TypeId} {x : Option Nat} : abin (.map e f) .eql (.map x) (.map none) = some (.bool x.isNone) := by cases x <;> simp [abin, aeq]
theorem aun_not {b : Bool} : aun .not (.bool b) = some (.bool (!b)) := (rfl)
theorem aun_neg : aun .neg (.int k a) = some (.int k (k.wrap (0 - a))) := (rfl)
theorem nilck_ptr {x : AA} : nilck (.ptr (some x)) = some (.ptr (some x)) := (rfl)
theorem nilck_map {x : Nat} : nilck (.map (some x)) = some (.map (some x)) := (rfl)
end

theorem wrap_i64 {n : Int} (h : -9223372036854775808 ≤ n) (h' : n ≤ 9223372036854775807) : IntKind.wrap .i64 n = n := by
  simp only [IntKind.wrap, IntKind.signed, IntKind.bits]
  simp
  omega
theorem wrap_u8 {n : Int} (h : 0 ≤ n) (h' : n ≤ 255) : IntKind.wrap .u8 n = n := by
  simp only [IntKind.wrap, IntKind.signed, IntKind.bits]
  simp
  omega
theorem wrap_u32 {n : Int} (h : 0 ≤ n) (h' : n ≤ 4294967295) : IntKind.wrap .u32 n = n := by
  simp only [IntKind.wrap, IntKind.signed, IntKind.bits]
  simp
  omega

attribute [simp] abin_add abin_sub abin_mul abin_and abin_or abin_xor abin_eql abin_neq abin_lss abin_leq abin_gtr abin_geq abin_eqlS abin_neqS abin_eqlB abin_neqB abin_eqlP abin_neqP abin_eqlPn abin_neqPn abin_eqlL abin_neqL abin_eqlM aun_not aun_neg nilck_ptr nilck_map

section
variable {P : Program} {F : CallF} {s : St}
theorem stepT_move {x : Operand} : astepT P F (.move x) s = finT s (aop P (evalA s.ρ) (look s.h) s.h.length (.move x)) := astepT_eq rfl
theorem stepT_assign {x : Operand} : astepT P F (.assign x) s = finT s (aop P (evalA s.ρ) (look s.h) s.h.length (.assign x)) := astepT_eq rfl
theorem stepT_nilCheck {x : Operand} : astepT P F (.nilCheck x) s = finT s (aop P (evalA s.ρ) (look s.h) s.h.length (.nilCheck x)) := astepT_eq rfl
theorem stepT_load {t : TypeId} {x : Operand} : astepT P F (.load t x) s = finT s (aop P (evalA s.ρ) (look s.h) s.h.length (.load t x)) := astepT_eq rfl
theorem stepT_unOp {op : UnOp} {t : TypeId} {x : Operand} : astepT P F (.unOp op t x) s = finT s (aop P (evalA s.ρ) (look s.h) s.h.length (.unOp op t x)) := astepT_eq rfl
theorem stepT_binOp {op : BinOp} {t u : TypeId} {x y : Operand} : astepT P F (.binOp op t x y u) s = finT s (aop P (evalA s.ρ) (look s.h) s.h.length (.binOp op t x y u)) := astepT_eq rfl
theorem stepT_alloc {t : TypeId} : astepT P F (.alloc t) s = finT s (aop P (evalA s.ρ) (look s.h) s.h.length (.alloc t)) := astepT_eq rfl
theorem stepT_box {t : TypeId} {x : Operand} : astepT P F (.box t x) s = finT s (aop P (evalA s.ρ) (look s.h) s.h.length (.box t x)) := astepT_eq rfl
theorem stepT_build {t : TypeId} {ps : Array (Nat × Operand)} : astepT P F (.build t ps) s = finT s (aop P (evalA s.ρ) (look s.h) s.h.length (.build t ps)) := astepT_eq rfl
theorem stepT_buildSlice {t : TypeId} {n : Nat} {ps : Array (Nat × Operand)} : astepT P F (.buildSlice t n ps) s = finT s (aop P (evalA s.ρ) (look s.h) s.h.length (.buildSlice t n ps)) := astepT_eq rfl
theorem stepT_store {t : TypeId} {x y : Operand} : astepT P F (.store t x y) s = finT s (aop P (evalA s.ρ) (look s.h) s.h.length (.store t x y)) := astepT_eq rfl
theorem stepT_convert {t u : TypeId} {x : Operand} : astepT P F (.convert t u x) s = finT s (aop P (evalA s.ρ) (look s.h) s.h.length (.convert t u x)) := astepT_eq rfl
theorem stepT_makeFunc {f : Fn} {a b : Array Operand} : astepT P F (.makeFunc f a b) s = finT s (aop P (evalA s.ρ) (look s.h) s.h.length (.makeFunc f a b)) := astepT_eq rfl
theorem stepT_makeMap {t : TypeId} {r : Option Operand} : astepT P F (.makeMap t r) s = finT s (aop P (evalA s.ρ) (look s.h) s.h.length (.makeMap t r)) := astepT_eq rfl
theorem stepT_makeSlice {t : TypeId} {x y : Operand} : astepT P F (.makeSlice t x y) s = finT s (aop P (evalA s.ρ) (look s.h) s.h.length (.makeSlice t x y)) := astepT_eq rfl
theorem stepT_slice {t : TypeId} {x : Operand} {l h m : Option Operand} : astepT P F (.slice t x l h m) s = finT s (aop P (evalA s.ρ) (look s.h) s.h.length (.slice t x l h m)) := astepT_eq rfl
theorem stepT_fieldAddr {t : TypeId} {x : Operand} {f : Nat} : astepT P F (.fieldAddr t x f) s = finT s (aop P (evalA s.ρ) (look s.h) s.h.length (.fieldAddr t x f)) := astepT_eq rfl
theorem stepT_field {t : TypeId} {x : Operand} {f : Nat} : astepT P F (.field t x f) s = finT s (aop P (evalA s.ρ) (look s.h) s.h.length (.field t x f)) := astepT_eq rfl
theorem stepT_indexAddr {t : TypeId} {x y : Operand} : astepT P F (.indexAddr t x y) s = finT s (aop P (evalA s.ρ) (look s.h) s.h.length (.indexAddr t x y)) := astepT_eq rfl
theorem stepT_index {t : TypeId} {x y : Operand} : astepT P F (.index t x y) s = finT s (aop P (evalA s.ρ) (look s.h) s.h.length (.index t x y)) := astepT_eq rfl
theorem stepT_lookup {t : TypeId} {x y : Operand} {ok : Bool} : astepT P F (.lookup t x y ok) s = finT s (aop P (evalA s.ρ) (look s.h) s.h.length (.lookup t x y ok)) := astepT_eq rfl
theorem stepT_mapUpdate {t : TypeId} {x y z : Operand} : astepT P F (.mapUpdate t x y z) s = finT s (aop P (evalA s.ρ) (look s.h) s.h.length (.mapUpdate t x y z)) := astepT_eq rfl
theorem stepT_insert {t : TypeId} {x y z : Operand} : astepT P F (.insert t x y z) s = finT s (aop P (evalA s.ρ) (look s.h) s.h.length (.insert t x y z)) := astepT_eq rfl
theorem stepT_range {t : TypeId} {x : Operand} : astepT P F (.range t x) s = finT s (aop P (evalA s.ρ) (look s.h) s.h.length (.range t x)) := astepT_eq rfl
theorem stepT_next {x : Operand} {b : Bool} : astepT P F (.next x b) s = finT s (aop P (evalA s.ρ) (look s.h) s.h.length (.next x b)) := astepT_eq rfl
theorem stepT_extract {x : Operand} {i : Nat} : astepT P F (.extract x i) s = finT s (aop P (evalA s.ρ) (look s.h) s.h.length (.extract x i)) := astepT_eq rfl
theorem stepT_pick {x y z : Operand} : astepT P F (.pick x y z) s = finT s (aop P (evalA s.ρ) (look s.h) s.h.length (.pick x y z)) := astepT_eq rfl
theorem stepT_makeInterface {t : TypeId} {x : Operand} : astepT P F (.makeInterface t x) s = finT s (aop P (evalA s.ρ) (look s.h) s.h.length (.makeInterface t x)) := astepT_eq rfl
theorem stepT_builtin {b : Builtin} {as : Array Operand} {ts : Array TypeId} : astepT P F (.call ⟨.builtin b, as, ts⟩) s = finT s (aop P (evalA s.ρ) (look s.h) s.h.length (.call ⟨.builtin b, as, ts⟩)) := astepT_eq rfl
end

section
variable {P : Program} {ev : Ev} {L : Look} {n : Nat}
def pickV (c a b : AV) : Option (AV × Delta) :=
  match c with
  | .bool c => some (if c then a else b, .no)
  | _ => none
theorem op_pick {x y z : Operand} : aop P ev L n (.pick x y z) = bindO (ev x) fun c => bindO (ev y) fun a => bindO (ev z) fun b => pickV c a b := by
  simp only [aop]
  cases ev x with
  | none => rfl
  | some c =>
    cases ev y with
    | none => cases c <;> rfl
    | some a =>
      cases ev z with
      | none => cases c <;> rfl
      | some b => cases c <;> rfl
theorem op_makeMap {t : TypeId} {kt et : TypeId} (hk : tk P t = .map kt et) (hs : (kshape P kt).isSome = true) : aop P ev L n (.makeMap t none) = some (.map (some n), .new (.map t [] 0)) := by
  simp only [aop, hk, hs, if_true]
theorem op_insert {t : TypeId} {m k x : Operand} : aop P ev L n (.insert t m k x) =
    bindO (ev m) fun m => bindO (ev k) fun k => bindO (ev x) fun v => if v.notTup then bindO (amapUpdate P L t m k v) fun d => some (.tup [], d) else none := by
  simp only [aop]
  cases ev m with
  | none => rfl
  | some m =>
    cases ev k with
    | none => rfl
    | some k =>
      cases ev x with
      | none => rfl
      | some v =>
        simp only [bindO]
        split
        · cases amapUpdate P L t m k v <;> rfl
        · rfl
theorem op_next {x : Operand} : aop P ev L n (.next x true) = bindO (ev x) fun it => aiter L it := by
  simp only [aop]
  cases ev x <;> rfl
def rangeV (n : Nat) (v : AV) : Option (AV × Delta) :=
  match v with
  | .str s => some (.ptr (some ⟨n, 0, 0⟩), .new (.iter s 0))
  | _ => none
theorem op_range {t : TypeId} {x : Operand} (hk : tk P t = .str) : aop P ev L n (.range t x) = bindO (ev x) fun v => rangeV n v := by
  simp only [aop, hk]
  cases ev x with
  | none => rfl
  | some v => cases v <;> rfl
end

theorem look_at {h : Heap} {b : Nat} : look h b = h[b]? := (rfl)
theorem at_other {h : Heap} {b c : Nat} {o : AObj} (hc : c ≠ b) : (h.set c o)[b]? = h[b]? := by simp [List.getElem?_set, hc]
theorem at_same {h : Heap} {b : Nat} {o : AObj} (hb : b < h.length) : (h.set b o)[b]? = some o := by simp [List.getElem?_set, hb]
theorem at_old {h l : Heap} {b : Nat} (hb : b < h.length) : (h ++ l)[b]? = h[b]? := List.getElem?_append_left hb
theorem at_new {h l : Heap} {k : Nat} : (h ++ l)[h.length + k]? = l[k]? := by
  rw [List.getElem?_append_right (by omega)]
  congr 1
  omega
theorem at_new0 {h l : Heap} : (h ++ l)[h.length]? = l[0]? := by simp [List.getElem?_append]

attribute [simp] stepT_move stepT_assign stepT_nilCheck stepT_load stepT_unOp stepT_binOp stepT_alloc stepT_box stepT_build stepT_buildSlice stepT_store stepT_convert stepT_makeFunc stepT_makeMap stepT_makeSlice stepT_slice stepT_fieldAddr stepT_field stepT_indexAddr stepT_index stepT_lookup stepT_mapUpdate stepT_insert stepT_range stepT_next stepT_extract stepT_pick stepT_makeInterface stepT_builtin op_move op_assign op_nilCheck op_load op_unOp op_binOp op_pick op_insert op_next pickV rangeV look_at
  areads blkOf okPairs alook Touch.same touchD AV.cells AV.one AV.notTup AV.plain agk pack argsEnv

end Go.AM
