/-
  Printed by program (wip/tools/print.sh): compiled code.
-/
import Derived.Test.YtamidpfdiijjgaaDoorAMb
import Derived.Test.YtamidpfdiijjgaaDoorProg
namespace Go.AM
open Go Go.Proofs
set_option maxRecDepth 100000
theorem tk_3 : tk Tryd.prog 3 = (.int .i64) := by kernel_rfl
theorem tsz_3 : tsz Tryd.prog 3 = 1 := by kernel_rfl
theorem tzero_3 : tzero Tryd.prog 3 = some (.int .i64 0) := by kernel_rfl
theorem kshape_3 : kshape Tryd.prog 3 = (some (.one (.int .i64))) := by kernel_rfl
theorem bytesOf_3 : Tryd.prog.bytesOf 3 = 8 := by kernel_rfl
theorem zeroOK_3 : zeroOK Tryd.prog 3 = true := by kernel_rfl
theorem tk_4 : tk Tryd.prog 4 = .bool := by kernel_rfl
theorem tsz_4 : tsz Tryd.prog 4 = 1 := by kernel_rfl
theorem tzero_4 : tzero Tryd.prog 4 = some (.bool false) := by kernel_rfl
theorem kshape_4 : kshape Tryd.prog 4 = (some (.one (.bool))) := by kernel_rfl
theorem bytesOf_4 : Tryd.prog.bytesOf 4 = 1 := by kernel_rfl
theorem zeroOK_4 : zeroOK Tryd.prog 4 = true := by kernel_rfl
theorem tk_5 : tk Tryd.prog 5 = (.int .u8) := by kernel_rfl
theorem tsz_5 : tsz Tryd.prog 5 = 1 := by kernel_rfl
theorem tzero_5 : tzero Tryd.prog 5 = some (.int .u8 0) := by kernel_rfl
theorem kshape_5 : kshape Tryd.prog 5 = (some (.one (.int .u8))) := by kernel_rfl
theorem bytesOf_5 : Tryd.prog.bytesOf 5 = 1 := by kernel_rfl
theorem zeroOK_5 : zeroOK Tryd.prog 5 = true := by kernel_rfl
theorem tk_9 : tk Tryd.prog 9 = .str := by kernel_rfl
theorem tsz_9 : tsz Tryd.prog 9 = 1 := by kernel_rfl
theorem tzero_9 : tzero Tryd.prog 9 = some (.str []) := by kernel_rfl
theorem kshape_9 : kshape Tryd.prog 9 = (some (.one (.str))) := by kernel_rfl
theorem bytesOf_9 : Tryd.prog.bytesOf 9 = 16 := by kernel_rfl
theorem zeroOK_9 : zeroOK Tryd.prog 9 = true := by kernel_rfl
theorem tk_21 : tk Tryd.prog 21 = (.int .i32) := by kernel_rfl
theorem tsz_21 : tsz Tryd.prog 21 = 1 := by kernel_rfl
theorem tzero_21 : tzero Tryd.prog 21 = some (.int .i32 0) := by kernel_rfl
theorem kshape_21 : kshape Tryd.prog 21 = (some (.one (.int .i32))) := by kernel_rfl
theorem bytesOf_21 : Tryd.prog.bytesOf 21 = 4 := by kernel_rfl
theorem zeroOK_21 : zeroOK Tryd.prog 21 = true := by kernel_rfl
theorem tk_22 : tk Tryd.prog 22 = (.slice 30) := by kernel_rfl
theorem tsz_22 : tsz Tryd.prog 22 = 1 := by kernel_rfl
theorem tzero_22 : tzero Tryd.prog 22 = some (.sl none 0 0) := by kernel_rfl
theorem kshape_22 : kshape Tryd.prog 22 = none := by kernel_rfl
theorem bytesOf_22 : Tryd.prog.bytesOf 22 = 24 := by kernel_rfl
theorem zeroOK_22 : zeroOK Tryd.prog 22 = true := by kernel_rfl
theorem tk_23 : tk Tryd.prog 23 = (.int .i64) := by kernel_rfl
theorem tsz_23 : tsz Tryd.prog 23 = 1 := by kernel_rfl
theorem tzero_23 : tzero Tryd.prog 23 = some (.int .i64 0) := by kernel_rfl
theorem kshape_23 : kshape Tryd.prog 23 = (some (.one (.int .i64))) := by kernel_rfl
theorem bytesOf_23 : Tryd.prog.bytesOf 23 = 8 := by kernel_rfl
theorem zeroOK_23 : zeroOK Tryd.prog 23 = true := by kernel_rfl
theorem tk_26 : tk Tryd.prog 26 = (.slice 31) := by kernel_rfl
theorem tsz_26 : tsz Tryd.prog 26 = 1 := by kernel_rfl
theorem tzero_26 : tzero Tryd.prog 26 = some (.sl none 0 0) := by kernel_rfl
theorem kshape_26 : kshape Tryd.prog 26 = none := by kernel_rfl
theorem bytesOf_26 : Tryd.prog.bytesOf 26 = 24 := by kernel_rfl
theorem zeroOK_26 : zeroOK Tryd.prog 26 = true := by kernel_rfl
theorem tk_30 : tk Tryd.prog 30 = .struct := by kernel_rfl
theorem tsz_30 : tsz Tryd.prog 30 = 4 := by kernel_rfl
theorem tzero_30 : tzero Tryd.prog 30 = some (.agg [(.int .i64 0), (.str []), (.int .i64 0), (.int .i64 0)]) := by kernel_rfl
theorem tplaces_30 : tplaces Tryd.prog 30 = some [(0, 1), (1, 1), (2, 1), (3, 1)] := by kernel_rfl
theorem tfield_30_0 : tfield Tryd.prog 30 0 = some (0, 3) := by kernel_rfl
theorem tfield_30_1 : tfield Tryd.prog 30 1 = some (1, 9) := by kernel_rfl
theorem tfield_30_2 : tfield Tryd.prog 30 2 = some (2, 3) := by kernel_rfl
theorem tfield_30_3 : tfield Tryd.prog 30 3 = some (3, 3) := by kernel_rfl
theorem kshape_30 : kshape Tryd.prog 30 = (some (.many [.int .i64, .str, .int .i64, .int .i64])) := by kernel_rfl
theorem bytesOf_30 : Tryd.prog.bytesOf 30 = 40 := by kernel_rfl
theorem zeroOK_30 : zeroOK Tryd.prog 30 = true := by kernel_rfl
theorem tk_31 : tk Tryd.prog 31 = .struct := by kernel_rfl
theorem tsz_31 : tsz Tryd.prog 31 = 4 := by kernel_rfl
theorem tzero_31 : tzero Tryd.prog 31 = some (.agg [(.int .i64 0), (.str []), (.int .i64 0), (.int .i64 0)]) := by kernel_rfl
theorem tplaces_31 : tplaces Tryd.prog 31 = some [(0, 1), (1, 1), (2, 1), (3, 1)] := by kernel_rfl
theorem tfield_31_0 : tfield Tryd.prog 31 0 = some (0, 3) := by kernel_rfl
theorem tfield_31_1 : tfield Tryd.prog 31 1 = some (1, 9) := by kernel_rfl
theorem tfield_31_2 : tfield Tryd.prog 31 2 = some (2, 3) := by kernel_rfl
theorem tfield_31_3 : tfield Tryd.prog 31 3 = some (3, 3) := by kernel_rfl
theorem kshape_31 : kshape Tryd.prog 31 = (some (.many [.int .i64, .str, .int .i64, .int .i64])) := by kernel_rfl
theorem bytesOf_31 : Tryd.prog.bytesOf 31 = 40 := by kernel_rfl
theorem zeroOK_31 : zeroOK Tryd.prog 31 = true := by kernel_rfl
theorem tk_35 : tk Tryd.prog 35 = (.arr 3 9) := by kernel_rfl
theorem tsz_35 : tsz Tryd.prog 35 = 3 := by kernel_rfl
theorem tzero_35 : tzero Tryd.prog 35 = some (.agg [(.str []), (.str []), (.str [])]) := by kernel_rfl
theorem kshape_35 : kshape Tryd.prog 35 = none := by kernel_rfl
theorem bytesOf_35 : Tryd.prog.bytesOf 35 = 48 := by kernel_rfl
theorem zeroOK_35 : zeroOK Tryd.prog 35 = true := by kernel_rfl
theorem tk_37 : tk Tryd.prog 37 = (.slice 5) := by kernel_rfl
theorem tsz_37 : tsz Tryd.prog 37 = 1 := by kernel_rfl
theorem tzero_37 : tzero Tryd.prog 37 = some (.sl none 0 0) := by kernel_rfl
theorem kshape_37 : kshape Tryd.prog 37 = none := by kernel_rfl
theorem bytesOf_37 : Tryd.prog.bytesOf 37 = 24 := by kernel_rfl
theorem zeroOK_37 : zeroOK Tryd.prog 37 = true := by kernel_rfl
theorem tk_38 : tk Tryd.prog 38 = (.slice 3) := by kernel_rfl
theorem tsz_38 : tsz Tryd.prog 38 = 1 := by kernel_rfl
theorem tzero_38 : tzero Tryd.prog 38 = some (.sl none 0 0) := by kernel_rfl
theorem kshape_38 : kshape Tryd.prog 38 = none := by kernel_rfl
theorem bytesOf_38 : Tryd.prog.bytesOf 38 = 24 := by kernel_rfl
theorem zeroOK_38 : zeroOK Tryd.prog 38 = true := by kernel_rfl
theorem tk_40 : tk Tryd.prog 40 = (.arr 14 9) := by kernel_rfl
theorem tsz_40 : tsz Tryd.prog 40 = 14 := by kernel_rfl
theorem tzero_40 : tzero Tryd.prog 40 = some (.agg [(.str []), (.str []), (.str []), (.str []), (.str []), (.str []), (.str []), (.str []), (.str []), (.str []), (.str []), (.str []), (.str []), (.str [])]) := by kernel_rfl
theorem kshape_40 : kshape Tryd.prog 40 = none := by kernel_rfl
theorem bytesOf_40 : Tryd.prog.bytesOf 40 = 224 := by kernel_rfl
theorem zeroOK_40 : zeroOK Tryd.prog 40 = true := by kernel_rfl
theorem tk_41 : tk Tryd.prog 41 = (.slice 9) := by kernel_rfl
theorem tsz_41 : tsz Tryd.prog 41 = 1 := by kernel_rfl
theorem tzero_41 : tzero Tryd.prog 41 = some (.sl none 0 0) := by kernel_rfl
theorem kshape_41 : kshape Tryd.prog 41 = none := by kernel_rfl
theorem bytesOf_41 : Tryd.prog.bytesOf 41 = 24 := by kernel_rfl
theorem zeroOK_41 : zeroOK Tryd.prog 41 = true := by kernel_rfl
theorem tk_45 : tk Tryd.prog 45 = (.ptr 47) := by kernel_rfl
theorem tsz_45 : tsz Tryd.prog 45 = 1 := by kernel_rfl
theorem tzero_45 : tzero Tryd.prog 45 = some (.ptr none) := by kernel_rfl
theorem kshape_45 : kshape Tryd.prog 45 = none := by kernel_rfl
theorem bytesOf_45 : Tryd.prog.bytesOf 45 = 8 := by kernel_rfl
theorem zeroOK_45 : zeroOK Tryd.prog 45 = true := by kernel_rfl
theorem tk_47 : tk Tryd.prog 47 = .struct := by kernel_rfl
theorem tsz_47 : tsz Tryd.prog 47 = 3 := by kernel_rfl
theorem tzero_47 : tzero Tryd.prog 47 = some (.agg [(.str []), (.int .i64 0), (.sl none 0 0)]) := by kernel_rfl
theorem tplaces_47 : tplaces Tryd.prog 47 = some [(0, 1), (1, 1), (2, 1)] := by kernel_rfl
theorem tfield_47_0 : tfield Tryd.prog 47 0 = some (0, 9) := by kernel_rfl
theorem tfield_47_1 : tfield Tryd.prog 47 1 = some (1, 3) := by kernel_rfl
theorem tfield_47_2 : tfield Tryd.prog 47 2 = some (2, 22) := by kernel_rfl
theorem kshape_47 : kshape Tryd.prog 47 = none := by kernel_rfl
theorem bytesOf_47 : Tryd.prog.bytesOf 47 = 48 := by kernel_rfl
theorem zeroOK_47 : zeroOK Tryd.prog 47 = true := by kernel_rfl
theorem tk_51 : tk Tryd.prog 51 = .func := by kernel_rfl
theorem tsz_51 : tsz Tryd.prog 51 = 1 := by kernel_rfl
theorem tzero_51 : tzero Tryd.prog 51 = some .nilf := by kernel_rfl
theorem kshape_51 : kshape Tryd.prog 51 = none := by kernel_rfl
theorem bytesOf_51 : Tryd.prog.bytesOf 51 = 8 := by kernel_rfl
theorem zeroOK_51 : zeroOK Tryd.prog 51 = true := by kernel_rfl
theorem tk_81 : tk Tryd.prog 81 = (.int .u64) := by kernel_rfl
theorem tsz_81 : tsz Tryd.prog 81 = 1 := by kernel_rfl
theorem tzero_81 : tzero Tryd.prog 81 = some (.int .u64 0) := by kernel_rfl
theorem kshape_81 : kshape Tryd.prog 81 = (some (.one (.int .u64))) := by kernel_rfl
theorem bytesOf_81 : Tryd.prog.bytesOf 81 = 8 := by kernel_rfl
theorem zeroOK_81 : zeroOK Tryd.prog 81 = true := by kernel_rfl
attribute [simp] tk_3 tsz_3 tzero_3 kshape_3 bytesOf_3 zeroOK_3 tk_4 tsz_4 tzero_4 kshape_4 bytesOf_4 zeroOK_4 tk_5 tsz_5 tzero_5 kshape_5 bytesOf_5 zeroOK_5 tk_9 tsz_9 tzero_9 kshape_9 bytesOf_9 zeroOK_9 tk_21 tsz_21 tzero_21 kshape_21 bytesOf_21 zeroOK_21 tk_22 tsz_22 tzero_22 kshape_22 bytesOf_22 zeroOK_22 tk_23 tsz_23 tzero_23 kshape_23 bytesOf_23 zeroOK_23 tk_26 tsz_26 tzero_26 kshape_26 bytesOf_26 zeroOK_26 tk_30 tsz_30 tzero_30 tplaces_30 tfield_30_0 tfield_30_1 tfield_30_2 tfield_30_3 kshape_30 bytesOf_30 zeroOK_30 tk_31 tsz_31 tzero_31 tplaces_31 tfield_31_0 tfield_31_1 tfield_31_2 tfield_31_3 kshape_31 bytesOf_31 zeroOK_31 tk_35 tsz_35 tzero_35 kshape_35 bytesOf_35 zeroOK_35 tk_37 tsz_37 tzero_37 kshape_37 bytesOf_37 zeroOK_37 tk_38 tsz_38 tzero_38 kshape_38 bytesOf_38 zeroOK_38 tk_40 tsz_40 tzero_40 kshape_40 bytesOf_40 zeroOK_40 tk_41 tsz_41 tzero_41 kshape_41 bytesOf_41 zeroOK_41 tk_45 tsz_45 tzero_45 kshape_45 bytesOf_45 zeroOK_45 tk_47 tsz_47 tzero_47 tplaces_47 tfield_47_0 tfield_47_1 tfield_47_2 kshape_47 bytesOf_47 zeroOK_47 tk_51 tsz_51 tzero_51 kshape_51 bytesOf_51 zeroOK_51 tk_81 tsz_81 tzero_81 kshape_81 bytesOf_81 zeroOK_81
end Go.AM
