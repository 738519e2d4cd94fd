/-
  Printed by program (wip/tools/print.sh): compiled code.
-/
import Derived.Test.YtfmfkpmohlhajaaGreatDoorAMb
import Derived.Test.YtfmfkpmohlhajaaGreatDoorProg
namespace Go.AM
open Go Go.Proofs
set_option maxRecDepth 100000
theorem tk_3 : tk Tryz.prog 3 = (.int .i64):=by kernel_rfl
theorem tsz_3 : tsz Tryz.prog 3 = 1:=by kernel_rfl
theorem tzero_3 : tzero Tryz.prog 3 = some (.int .i64 0):=by kernel_rfl
theorem kshape_3 : kshape Tryz.prog 3 = (some (.one (.int .i64))):=by kernel_rfl
theorem bytesOf_3 : Tryz.prog.bytesOf 3 = 8:=by kernel_rfl
theorem zeroOK_3 : zeroOK Tryz.prog 3 = true:=by kernel_rfl
theorem tk_4 : tk Tryz.prog 4 = .bool:=by kernel_rfl
theorem tsz_4 : tsz Tryz.prog 4 = 1:=by kernel_rfl
theorem tzero_4 : tzero Tryz.prog 4 = some (.bool false):=by kernel_rfl
theorem kshape_4 : kshape Tryz.prog 4 = (some (.one (.bool))):=by kernel_rfl
theorem bytesOf_4 : Tryz.prog.bytesOf 4 = 1:=by kernel_rfl
theorem zeroOK_4 : zeroOK Tryz.prog 4 = true:=by kernel_rfl
theorem tk_5 : tk Tryz.prog 5 = (.int .u8):=by kernel_rfl
theorem tsz_5 : tsz Tryz.prog 5 = 1:=by kernel_rfl
theorem tzero_5 : tzero Tryz.prog 5 = some (.int .u8 0):=by kernel_rfl
theorem kshape_5 : kshape Tryz.prog 5 = (some (.one (.int .u8))):=by kernel_rfl
theorem bytesOf_5 : Tryz.prog.bytesOf 5 = 1:=by kernel_rfl
theorem zeroOK_5 : zeroOK Tryz.prog 5 = true:=by kernel_rfl
theorem tk_9 : tk Tryz.prog 9 = .str:=by kernel_rfl
theorem tsz_9 : tsz Tryz.prog 9 = 1:=by kernel_rfl
theorem tzero_9 : tzero Tryz.prog 9 = some (.str []):=by kernel_rfl
theorem kshape_9 : kshape Tryz.prog 9 = (some (.one (.str))):=by kernel_rfl
theorem bytesOf_9 : Tryz.prog.bytesOf 9 = 16:=by kernel_rfl
theorem zeroOK_9 : zeroOK Tryz.prog 9 = true:=by kernel_rfl
theorem tk_21 : tk Tryz.prog 21 = (.int .i32):=by kernel_rfl
theorem tsz_21 : tsz Tryz.prog 21 = 1:=by kernel_rfl
theorem tzero_21 : tzero Tryz.prog 21 = some (.int .i32 0):=by kernel_rfl
theorem kshape_21 : kshape Tryz.prog 21 = (some (.one (.int .i32))):=by kernel_rfl
theorem bytesOf_21 : Tryz.prog.bytesOf 21 = 4:=by kernel_rfl
theorem zeroOK_21 : zeroOK Tryz.prog 21 = true:=by kernel_rfl
theorem tk_22 : tk Tryz.prog 22 = (.slice 3):=by kernel_rfl
theorem tsz_22 : tsz Tryz.prog 22 = 1:=by kernel_rfl
theorem tzero_22 : tzero Tryz.prog 22 = some (.sl none 0 0):=by kernel_rfl
theorem kshape_22 : kshape Tryz.prog 22 = none:=by kernel_rfl
theorem bytesOf_22 : Tryz.prog.bytesOf 22 = 24:=by kernel_rfl
theorem zeroOK_22 : zeroOK Tryz.prog 22 = true:=by kernel_rfl
theorem tk_26 : tk Tryz.prog 26 = (.slice 32):=by kernel_rfl
theorem tsz_26 : tsz Tryz.prog 26 = 1:=by kernel_rfl
theorem tzero_26 : tzero Tryz.prog 26 = some (.sl none 0 0):=by kernel_rfl
theorem kshape_26 : kshape Tryz.prog 26 = none:=by kernel_rfl
theorem bytesOf_26 : Tryz.prog.bytesOf 26 = 24:=by kernel_rfl
theorem zeroOK_26 : zeroOK Tryz.prog 26 = true:=by kernel_rfl
theorem tk_28 : tk Tryz.prog 28 = (.int .u32):=by kernel_rfl
theorem tsz_28 : tsz Tryz.prog 28 = 1:=by kernel_rfl
theorem tzero_28 : tzero Tryz.prog 28 = some (.int .u32 0):=by kernel_rfl
theorem kshape_28 : kshape Tryz.prog 28 = (some (.one (.int .u32))):=by kernel_rfl
theorem bytesOf_28 : Tryz.prog.bytesOf 28 = 4:=by kernel_rfl
theorem zeroOK_28 : zeroOK Tryz.prog 28 = true:=by kernel_rfl
theorem tk_32 : tk Tryz.prog 32 = .struct:=by kernel_rfl
theorem tsz_32 : tsz Tryz.prog 32 = 3:=by kernel_rfl
theorem tzero_32 : tzero Tryz.prog 32 = some (.agg [(.int .i64 0), (.int .i64 0), (.str [])]):=by kernel_rfl
theorem tplaces_32 : tplaces Tryz.prog 32 = some [(0, 1), (1, 1), (2, 1)]:=by kernel_rfl
theorem tfield_32_0 : tfield Tryz.prog 32 0 = some (0, 3):=by kernel_rfl
theorem tfield_32_1 : tfield Tryz.prog 32 1 = some (1, 3):=by kernel_rfl
theorem tfield_32_2 : tfield Tryz.prog 32 2 = some (2, 9):=by kernel_rfl
theorem kshape_32 : kshape Tryz.prog 32 = (some (.many [.int .i64, .int .i64, .str])):=by kernel_rfl
theorem bytesOf_32 : Tryz.prog.bytesOf 32 = 32:=by kernel_rfl
theorem zeroOK_32 : zeroOK Tryz.prog 32 = true:=by kernel_rfl
theorem tk_33 : tk Tryz.prog 33 = (.slice 70):=by kernel_rfl
theorem tsz_33 : tsz Tryz.prog 33 = 1:=by kernel_rfl
theorem tzero_33 : tzero Tryz.prog 33 = some (.sl none 0 0):=by kernel_rfl
theorem kshape_33 : kshape Tryz.prog 33 = none:=by kernel_rfl
theorem bytesOf_33 : Tryz.prog.bytesOf 33 = 24:=by kernel_rfl
theorem zeroOK_33 : zeroOK Tryz.prog 33 = true:=by kernel_rfl
theorem tk_35 : tk Tryz.prog 35 = .struct:=by kernel_rfl
theorem tsz_35 : tsz Tryz.prog 35 = 14:=by kernel_rfl
theorem tzero_35 : tzero Tryz.prog 35 = some (.agg [(.int .i64 0), (.int .i64 0), (.int .i64 0), (.int .i64 0), (.int .i64 0), (.int .i64 0), (.int .i64 0), (.int .i64 0), (.int .i64 0), (.int .i64 0), (.int .i64 0), (.int .i64 0), (.int .i64 0), (.int .i64 0)]):=by kernel_rfl
theorem tplaces_35 : tplaces Tryz.prog 35 = some [(0, 1), (1, 1), (2, 1), (3, 1), (4, 1), (5, 1), (6, 1), (7, 1), (8, 1), (9, 1), (10, 1), (11, 1), (12, 1), (13, 1)]:=by kernel_rfl
theorem tfield_35_0 : tfield Tryz.prog 35 0 = some (0, 3):=by kernel_rfl
theorem tfield_35_1 : tfield Tryz.prog 35 1 = some (1, 3):=by kernel_rfl
theorem tfield_35_2 : tfield Tryz.prog 35 2 = some (2, 3):=by kernel_rfl
theorem tfield_35_3 : tfield Tryz.prog 35 3 = some (3, 3):=by kernel_rfl
theorem tfield_35_4 : tfield Tryz.prog 35 4 = some (4, 3):=by kernel_rfl
theorem tfield_35_5 : tfield Tryz.prog 35 5 = some (5, 3):=by kernel_rfl
theorem tfield_35_6 : tfield Tryz.prog 35 6 = some (6, 3):=by kernel_rfl
theorem tfield_35_7 : tfield Tryz.prog 35 7 = some (7, 3):=by kernel_rfl
theorem tfield_35_8 : tfield Tryz.prog 35 8 = some (8, 3):=by kernel_rfl
theorem tfield_35_9 : tfield Tryz.prog 35 9 = some (9, 3):=by kernel_rfl
theorem tfield_35_10 : tfield Tryz.prog 35 10 = some (10, 3):=by kernel_rfl
theorem tfield_35_11 : tfield Tryz.prog 35 11 = some (11, 3):=by kernel_rfl
theorem tfield_35_12 : tfield Tryz.prog 35 12 = some (12, 3):=by kernel_rfl
theorem tfield_35_13 : tfield Tryz.prog 35 13 = some (13, 3):=by kernel_rfl
theorem kshape_35 : kshape Tryz.prog 35 = (some (.many [.int .i64, .int .i64, .int .i64, .int .i64, .int .i64, .int .i64, .int .i64, .int .i64, .int .i64, .int .i64, .int .i64, .int .i64, .int .i64, .int .i64])):=by kernel_rfl
theorem bytesOf_35 : Tryz.prog.bytesOf 35 = 112:=by kernel_rfl
theorem zeroOK_35 : zeroOK Tryz.prog 35 = true:=by kernel_rfl
theorem tk_36 : tk Tryz.prog 36 = (.int .i64):=by kernel_rfl
theorem tsz_36 : tsz Tryz.prog 36 = 1:=by kernel_rfl
theorem tzero_36 : tzero Tryz.prog 36 = some (.int .i64 0):=by kernel_rfl
theorem kshape_36 : kshape Tryz.prog 36 = (some (.one (.int .i64))):=by kernel_rfl
theorem bytesOf_36 : Tryz.prog.bytesOf 36 = 8:=by kernel_rfl
theorem zeroOK_36 : zeroOK Tryz.prog 36 = true:=by kernel_rfl
theorem tk_40 : tk Tryz.prog 40 = .struct:=by kernel_rfl
theorem tsz_40 : tsz Tryz.prog 40 = 9:=by kernel_rfl
theorem tzero_40 : tzero Tryz.prog 40 = some (.agg [(.int .i64 0), (.int .i64 0), (.int .i64 0), (.int .i64 0), (.int .i64 0), (.int .i64 0), (.int .i64 0), (.int .i64 0), (.int .i64 0)]):=by kernel_rfl
theorem tplaces_40 : tplaces Tryz.prog 40 = some [(0, 1), (1, 1), (2, 1), (3, 1), (4, 1), (5, 1), (6, 1), (7, 1), (8, 1)]:=by kernel_rfl
theorem tfield_40_0 : tfield Tryz.prog 40 0 = some (0, 3):=by kernel_rfl
theorem tfield_40_1 : tfield Tryz.prog 40 1 = some (1, 3):=by kernel_rfl
theorem tfield_40_2 : tfield Tryz.prog 40 2 = some (2, 3):=by kernel_rfl
theorem tfield_40_3 : tfield Tryz.prog 40 3 = some (3, 3):=by kernel_rfl
theorem tfield_40_4 : tfield Tryz.prog 40 4 = some (4, 3):=by kernel_rfl
theorem tfield_40_5 : tfield Tryz.prog 40 5 = some (5, 3):=by kernel_rfl
theorem tfield_40_6 : tfield Tryz.prog 40 6 = some (6, 3):=by kernel_rfl
theorem tfield_40_7 : tfield Tryz.prog 40 7 = some (7, 3):=by kernel_rfl
theorem tfield_40_8 : tfield Tryz.prog 40 8 = some (8, 3):=by kernel_rfl
theorem kshape_40 : kshape Tryz.prog 40 = (some (.many [.int .i64, .int .i64, .int .i64, .int .i64, .int .i64, .int .i64, .int .i64, .int .i64, .int .i64])):=by kernel_rfl
theorem bytesOf_40 : Tryz.prog.bytesOf 40 = 72:=by kernel_rfl
theorem zeroOK_40 : zeroOK Tryz.prog 40 = true:=by kernel_rfl
theorem tk_43 : tk Tryz.prog 43 = .struct:=by kernel_rfl
theorem tsz_43 : tsz Tryz.prog 43 = 5:=by kernel_rfl
theorem tzero_43 : tzero Tryz.prog 43 = some (.agg [(.int .i64 0), (.int .u32 0), (.int .u32 0), (.int .i64 0), (.int .i64 0)]):=by kernel_rfl
theorem tplaces_43 : tplaces Tryz.prog 43 = some [(0, 1), (1, 1), (2, 1), (3, 1), (4, 1)]:=by kernel_rfl
theorem tfield_43_0 : tfield Tryz.prog 43 0 = some (0, 3):=by kernel_rfl
theorem tfield_43_1 : tfield Tryz.prog 43 1 = some (1, 28):=by kernel_rfl
theorem tfield_43_2 : tfield Tryz.prog 43 2 = some (2, 28):=by kernel_rfl
theorem tfield_43_3 : tfield Tryz.prog 43 3 = some (3, 3):=by kernel_rfl
theorem tfield_43_4 : tfield Tryz.prog 43 4 = some (4, 3):=by kernel_rfl
theorem kshape_43 : kshape Tryz.prog 43 = (some (.many [.int .i64, .int .u32, .int .u32, .int .i64, .int .i64])):=by kernel_rfl
theorem bytesOf_43 : Tryz.prog.bytesOf 43 = 32:=by kernel_rfl
theorem zeroOK_43 : zeroOK Tryz.prog 43 = true:=by kernel_rfl
theorem tk_46 : tk Tryz.prog 46 = (.slice 51):=by kernel_rfl
theorem tsz_46 : tsz Tryz.prog 46 = 1:=by kernel_rfl
theorem tzero_46 : tzero Tryz.prog 46 = some (.sl none 0 0):=by kernel_rfl
theorem kshape_46 : kshape Tryz.prog 46 = none:=by kernel_rfl
theorem bytesOf_46 : Tryz.prog.bytesOf 46 = 24:=by kernel_rfl
theorem zeroOK_46 : zeroOK Tryz.prog 46 = true:=by kernel_rfl
theorem tk_49 : tk Tryz.prog 49 = (.arr 3 9):=by kernel_rfl
theorem tsz_49 : tsz Tryz.prog 49 = 3:=by kernel_rfl
theorem tzero_49 : tzero Tryz.prog 49 = some (.agg [(.str []), (.str []), (.str [])]):=by kernel_rfl
theorem kshape_49 : kshape Tryz.prog 49 = none:=by kernel_rfl
theorem bytesOf_49 : Tryz.prog.bytesOf 49 = 48:=by kernel_rfl
theorem zeroOK_49 : zeroOK Tryz.prog 49 = true:=by kernel_rfl
theorem tk_51 : tk Tryz.prog 51 = .struct:=by kernel_rfl
theorem tsz_51 : tsz Tryz.prog 51 = 4:=by kernel_rfl
theorem tzero_51 : tzero Tryz.prog 51 = some (.agg [(.int .i64 0), (.int .i64 0), (.int .i64 0), (.int .i64 0)]):=by kernel_rfl
theorem tplaces_51 : tplaces Tryz.prog 51 = some [(0, 1), (1, 1), (2, 1), (3, 1)]:=by kernel_rfl
theorem tfield_51_0 : tfield Tryz.prog 51 0 = some (0, 3):=by kernel_rfl
theorem tfield_51_1 : tfield Tryz.prog 51 1 = some (1, 3):=by kernel_rfl
theorem tfield_51_2 : tfield Tryz.prog 51 2 = some (2, 3):=by kernel_rfl
theorem tfield_51_3 : tfield Tryz.prog 51 3 = some (3, 3):=by kernel_rfl
theorem kshape_51 : kshape Tryz.prog 51 = (some (.many [.int .i64, .int .i64, .int .i64, .int .i64])):=by kernel_rfl
theorem bytesOf_51 : Tryz.prog.bytesOf 51 = 32:=by kernel_rfl
theorem zeroOK_51 : zeroOK Tryz.prog 51 = true:=by kernel_rfl
theorem tk_54 : tk Tryz.prog 54 = (.slice 5):=by kernel_rfl
theorem tsz_54 : tsz Tryz.prog 54 = 1:=by kernel_rfl
theorem tzero_54 : tzero Tryz.prog 54 = some (.sl none 0 0):=by kernel_rfl
theorem kshape_54 : kshape Tryz.prog 54 = none:=by kernel_rfl
theorem bytesOf_54 : Tryz.prog.bytesOf 54 = 24:=by kernel_rfl
theorem zeroOK_54 : zeroOK Tryz.prog 54 = true:=by kernel_rfl
theorem tk_56 : tk Tryz.prog 56 = .struct:=by kernel_rfl
theorem tsz_56 : tsz Tryz.prog 56 = 7:=by kernel_rfl
theorem tzero_56 : tzero Tryz.prog 56 = some (.agg [(.int .i64 0), (.int .i64 0), (.int .u32 0), (.int .u32 0), (.int .i64 0), (.int .i64 0), (.str [])]):=by kernel_rfl
theorem tplaces_56 : tplaces Tryz.prog 56 = some [(0, 1), (1, 1), (2, 1), (3, 1), (4, 1), (5, 1), (6, 1)]:=by kernel_rfl
theorem tfield_56_0 : tfield Tryz.prog 56 0 = some (0, 3):=by kernel_rfl
theorem tfield_56_1 : tfield Tryz.prog 56 1 = some (1, 3):=by kernel_rfl
theorem tfield_56_2 : tfield Tryz.prog 56 2 = some (2, 28):=by kernel_rfl
theorem tfield_56_3 : tfield Tryz.prog 56 3 = some (3, 28):=by kernel_rfl
theorem tfield_56_4 : tfield Tryz.prog 56 4 = some (4, 3):=by kernel_rfl
theorem tfield_56_5 : tfield Tryz.prog 56 5 = some (5, 3):=by kernel_rfl
theorem tfield_56_6 : tfield Tryz.prog 56 6 = some (6, 9):=by kernel_rfl
theorem kshape_56 : kshape Tryz.prog 56 = (some (.many [.int .i64, .int .i64, .int .u32, .int .u32, .int .i64, .int .i64, .str])):=by kernel_rfl
theorem bytesOf_56 : Tryz.prog.bytesOf 56 = 56:=by kernel_rfl
theorem zeroOK_56 : zeroOK Tryz.prog 56 = true:=by kernel_rfl
theorem tk_58 : tk Tryz.prog 58 = (.arr 6 5):=by kernel_rfl
theorem tsz_58 : tsz Tryz.prog 58 = 6:=by kernel_rfl
theorem tzero_58 : tzero Tryz.prog 58 = some (.agg [(.int .u8 0), (.int .u8 0), (.int .u8 0), (.int .u8 0), (.int .u8 0), (.int .u8 0)]):=by kernel_rfl
theorem kshape_58 : kshape Tryz.prog 58 = none:=by kernel_rfl
theorem bytesOf_58 : Tryz.prog.bytesOf 58 = 6:=by kernel_rfl
theorem zeroOK_58 : zeroOK Tryz.prog 58 = true:=by kernel_rfl
theorem tk_60 : tk Tryz.prog 60 = .struct:=by kernel_rfl
theorem tsz_60 : tsz Tryz.prog 60 = 13:=by kernel_rfl
theorem tzero_60 : tzero Tryz.prog 60 = some (.agg [(.int .u8 0), (.int .u8 0), (.int .u8 0), (.int .u8 0), (.int .u8 0), (.int .u8 0), (.int .u8 0), (.int .u8 0), (.int .u8 0), (.int .u8 0), (.int .u8 0), (.int .u8 0), (.int .i64 0)]):=by kernel_rfl
theorem tplaces_60 : tplaces Tryz.prog 60 = some [(0, 6), (6, 6), (12, 1)]:=by kernel_rfl
theorem tfield_60_0 : tfield Tryz.prog 60 0 = some (0, 58):=by kernel_rfl
theorem tfield_60_1 : tfield Tryz.prog 60 1 = some (6, 58):=by kernel_rfl
theorem tfield_60_2 : tfield Tryz.prog 60 2 = some (12, 3):=by kernel_rfl
theorem kshape_60 : kshape Tryz.prog 60 = none:=by kernel_rfl
theorem bytesOf_60 : Tryz.prog.bytesOf 60 = 24:=by kernel_rfl
theorem zeroOK_60 : zeroOK Tryz.prog 60 = true:=by kernel_rfl
theorem tk_63 : tk Tryz.prog 63 = .struct:=by kernel_rfl
theorem tsz_63 : tsz Tryz.prog 63 = 10:=by kernel_rfl
theorem tzero_63 : tzero Tryz.prog 63 = some (.agg [(.int .i64 0), (.int .i64 0), (.bool false), (.bool false), (.int .i64 0), (.int .i64 0), (.int .i64 0), (.int .u32 0), (.int .u32 0), (.str [])]):=by kernel_rfl
theorem tplaces_63 : tplaces Tryz.prog 63 = some [(0, 1), (1, 1), (2, 1), (3, 1), (4, 1), (5, 1), (6, 1), (7, 1), (8, 1), (9, 1)]:=by kernel_rfl
theorem tfield_63_0 : tfield Tryz.prog 63 0 = some (0, 3):=by kernel_rfl
theorem tfield_63_1 : tfield Tryz.prog 63 1 = some (1, 3):=by kernel_rfl
theorem tfield_63_2 : tfield Tryz.prog 63 2 = some (2, 4):=by kernel_rfl
theorem tfield_63_3 : tfield Tryz.prog 63 3 = some (3, 4):=by kernel_rfl
theorem tfield_63_4 : tfield Tryz.prog 63 4 = some (4, 3):=by kernel_rfl
theorem tfield_63_5 : tfield Tryz.prog 63 5 = some (5, 3):=by kernel_rfl
theorem tfield_63_6 : tfield Tryz.prog 63 6 = some (6, 3):=by kernel_rfl
theorem tfield_63_7 : tfield Tryz.prog 63 7 = some (7, 28):=by kernel_rfl
theorem tfield_63_8 : tfield Tryz.prog 63 8 = some (8, 28):=by kernel_rfl
theorem tfield_63_9 : tfield Tryz.prog 63 9 = some (9, 9):=by kernel_rfl
theorem kshape_63 : kshape Tryz.prog 63 = (some (.many [.int .i64, .int .i64, .bool, .bool, .int .i64, .int .i64, .int .i64, .int .u32, .int .u32, .str])):=by kernel_rfl
theorem bytesOf_63 : Tryz.prog.bytesOf 63 = 72:=by kernel_rfl
theorem zeroOK_63 : zeroOK Tryz.prog 63 = true:=by kernel_rfl
theorem tk_65 : tk Tryz.prog 65 = (.ptr 94):=by kernel_rfl
theorem tsz_65 : tsz Tryz.prog 65 = 1:=by kernel_rfl
theorem tzero_65 : tzero Tryz.prog 65 = some (.ptr none):=by kernel_rfl
theorem kshape_65 : kshape Tryz.prog 65 = none:=by kernel_rfl
theorem bytesOf_65 : Tryz.prog.bytesOf 65 = 8:=by kernel_rfl
theorem zeroOK_65 : zeroOK Tryz.prog 65 = true:=by kernel_rfl
theorem tk_68 : tk Tryz.prog 68 = (.slice 102):=by kernel_rfl
theorem tsz_68 : tsz Tryz.prog 68 = 1:=by kernel_rfl
theorem tzero_68 : tzero Tryz.prog 68 = some (.sl none 0 0):=by kernel_rfl
theorem kshape_68 : kshape Tryz.prog 68 = none:=by kernel_rfl
theorem bytesOf_68 : Tryz.prog.bytesOf 68 = 24:=by kernel_rfl
theorem zeroOK_68 : zeroOK Tryz.prog 68 = true:=by kernel_rfl
theorem tk_70 : tk Tryz.prog 70 = .struct:=by kernel_rfl
theorem tsz_70 : tsz Tryz.prog 70 = 4:=by kernel_rfl
theorem tzero_70 : tzero Tryz.prog 70 = some (.agg [(.sl none 0 0), (.sl none 0 0), (.int .i64 0), (.int .i64 0)]):=by kernel_rfl
theorem tplaces_70 : tplaces Tryz.prog 70 = some [(0, 1), (1, 1), (2, 1), (3, 1)]:=by kernel_rfl
theorem tfield_70_0 : tfield Tryz.prog 70 0 = some (0, 68):=by kernel_rfl
theorem tfield_70_1 : tfield Tryz.prog 70 1 = some (1, 46):=by kernel_rfl
theorem tfield_70_2 : tfield Tryz.prog 70 2 = some (2, 36):=by kernel_rfl
theorem tfield_70_3 : tfield Tryz.prog 70 3 = some (3, 3):=by kernel_rfl
theorem kshape_70 : kshape Tryz.prog 70 = none:=by kernel_rfl
theorem bytesOf_70 : Tryz.prog.bytesOf 70 = 64:=by kernel_rfl
theorem zeroOK_70 : zeroOK Tryz.prog 70 = true:=by kernel_rfl
theorem tk_73 : tk Tryz.prog 73 = (.map 3 5):=by kernel_rfl
theorem tsz_73 : tsz Tryz.prog 73 = 1:=by kernel_rfl
theorem tzero_73 : tzero Tryz.prog 73 = some (.map none):=by kernel_rfl
theorem kshape_73 : kshape Tryz.prog 73 = none:=by kernel_rfl
theorem bytesOf_73 : Tryz.prog.bytesOf 73 = 8:=by kernel_rfl
theorem zeroOK_73 : zeroOK Tryz.prog 73 = true:=by kernel_rfl
theorem tk_78 : tk Tryz.prog 78 = .struct:=by kernel_rfl
theorem tsz_78 : tsz Tryz.prog 78 = 13:=by kernel_rfl
theorem tzero_78 : tzero Tryz.prog 78 = some (.agg [(.int .i64 0), (.int .u32 0), (.int .u32 0), (.int .i64 0), (.int .i64 0), (.int .i64 0), (.int .i64 0), (.int .u32 0), (.int .u32 0), (.int .i64 0), (.int .i64 0), (.str []), (.str [])]):=by kernel_rfl
theorem tplaces_78 : tplaces Tryz.prog 78 = some [(0, 5), (5, 7), (12, 1)]:=by kernel_rfl
theorem tfield_78_0 : tfield Tryz.prog 78 0 = some (0, 43):=by kernel_rfl
theorem tfield_78_1 : tfield Tryz.prog 78 1 = some (5, 56):=by kernel_rfl
theorem tfield_78_2 : tfield Tryz.prog 78 2 = some (12, 9):=by kernel_rfl
theorem kshape_78 : kshape Tryz.prog 78 = none:=by kernel_rfl
theorem bytesOf_78 : Tryz.prog.bytesOf 78 = 104:=by kernel_rfl
theorem zeroOK_78 : zeroOK Tryz.prog 78 = true:=by kernel_rfl
theorem tk_85 : tk Tryz.prog 85 = (.ptr 114):=by kernel_rfl
theorem tsz_85 : tsz Tryz.prog 85 = 1:=by kernel_rfl
theorem tzero_85 : tzero Tryz.prog 85 = some (.ptr none):=by kernel_rfl
theorem kshape_85 : kshape Tryz.prog 85 = none:=by kernel_rfl
theorem bytesOf_85 : Tryz.prog.bytesOf 85 = 8:=by kernel_rfl
theorem zeroOK_85 : zeroOK Tryz.prog 85 = true:=by kernel_rfl
theorem tk_87 : tk Tryz.prog 87 = (.ptr 120):=by kernel_rfl
theorem tsz_87 : tsz Tryz.prog 87 = 1:=by kernel_rfl
theorem tzero_87 : tzero Tryz.prog 87 = some (.ptr none):=by kernel_rfl
theorem kshape_87 : kshape Tryz.prog 87 = none:=by kernel_rfl
theorem bytesOf_87 : Tryz.prog.bytesOf 87 = 8:=by kernel_rfl
theorem zeroOK_87 : zeroOK Tryz.prog 87 = true:=by kernel_rfl
theorem tk_89 : tk Tryz.prog 89 = (.ptr 124):=by kernel_rfl
theorem tsz_89 : tsz Tryz.prog 89 = 1:=by kernel_rfl
theorem tzero_89 : tzero Tryz.prog 89 = some (.ptr none):=by kernel_rfl
theorem kshape_89 : kshape Tryz.prog 89 = none:=by kernel_rfl
theorem bytesOf_89 : Tryz.prog.bytesOf 89 = 8:=by kernel_rfl
theorem zeroOK_89 : zeroOK Tryz.prog 89 = true:=by kernel_rfl
theorem tk_91 : tk Tryz.prog 91 = (.map 3 128):=by kernel_rfl
theorem tsz_91 : tsz Tryz.prog 91 = 1:=by kernel_rfl
theorem tzero_91 : tzero Tryz.prog 91 = some (.map none):=by kernel_rfl
theorem kshape_91 : kshape Tryz.prog 91 = none:=by kernel_rfl
theorem bytesOf_91 : Tryz.prog.bytesOf 91 = 8:=by kernel_rfl
theorem zeroOK_91 : zeroOK Tryz.prog 91 = true:=by kernel_rfl
theorem tk_92 : tk Tryz.prog 92 = (.slice 147):=by kernel_rfl
theorem tsz_92 : tsz Tryz.prog 92 = 1:=by kernel_rfl
theorem tzero_92 : tzero Tryz.prog 92 = some (.sl none 0 0):=by kernel_rfl
theorem kshape_92 : kshape Tryz.prog 92 = none:=by kernel_rfl
theorem bytesOf_92 : Tryz.prog.bytesOf 92 = 24:=by kernel_rfl
theorem zeroOK_92 : zeroOK Tryz.prog 92 = true:=by kernel_rfl
theorem tk_94 : tk Tryz.prog 94 = .struct:=by kernel_rfl
theorem tsz_94 : tsz Tryz.prog 94 = 29:=by kernel_rfl
theorem tzero_94 : tzero Tryz.prog 94 = some (.agg [(.int .i64 0), (.int .i64 0), (.int .i64 0), (.int .i64 0), (.int .i64 0), (.int .i64 0), (.int .i64 0), (.int .i64 0), (.int .i64 0), (.sl none 0 0), (.int .i64 0), (.ptr none), (.ptr none), (.ptr none), (.map none), (.int .i64 0), (.int .i64 0), (.int .i64 0), (.int .i64 0), (.int .i64 0), (.int .i64 0), (.int .i64 0), (.int .i64 0), (.int .i64 0), (.int .i64 0), (.int .i64 0), (.int .i64 0), (.int .i64 0), (.int .i64 0)]):=by kernel_rfl
theorem tplaces_94 : tplaces Tryz.prog 94 = some [(0, 9), (9, 1), (10, 1), (11, 1), (12, 1), (13, 1), (14, 1), (15, 14)]:=by kernel_rfl
theorem tfield_94_0 : tfield Tryz.prog 94 0 = some (0, 40):=by kernel_rfl
theorem tfield_94_1 : tfield Tryz.prog 94 1 = some (9, 92):=by kernel_rfl
theorem tfield_94_2 : tfield Tryz.prog 94 2 = some (10, 3):=by kernel_rfl
theorem tfield_94_3 : tfield Tryz.prog 94 3 = some (11, 85):=by kernel_rfl
theorem tfield_94_4 : tfield Tryz.prog 94 4 = some (12, 87):=by kernel_rfl
theorem tfield_94_5 : tfield Tryz.prog 94 5 = some (13, 89):=by kernel_rfl
theorem tfield_94_6 : tfield Tryz.prog 94 6 = some (14, 91):=by kernel_rfl
theorem tfield_94_7 : tfield Tryz.prog 94 7 = some (15, 35):=by kernel_rfl
theorem kshape_94 : kshape Tryz.prog 94 = none:=by kernel_rfl
theorem bytesOf_94 : Tryz.prog.bytesOf 94 = 248:=by kernel_rfl
theorem zeroOK_94 : zeroOK Tryz.prog 94 = true:=by kernel_rfl
theorem tk_95 : tk Tryz.prog 95 = .func:=by kernel_rfl
theorem tsz_95 : tsz Tryz.prog 95 = 1:=by kernel_rfl
theorem tzero_95 : tzero Tryz.prog 95 = some .nilf:=by kernel_rfl
theorem kshape_95 : kshape Tryz.prog 95 = none:=by kernel_rfl
theorem bytesOf_95 : Tryz.prog.bytesOf 95 = 8:=by kernel_rfl
theorem zeroOK_95 : zeroOK Tryz.prog 95 = true:=by kernel_rfl
theorem tk_99 : tk Tryz.prog 99 = (.arr 6 95):=by kernel_rfl
theorem tsz_99 : tsz Tryz.prog 99 = 6:=by kernel_rfl
theorem tzero_99 : tzero Tryz.prog 99 = some (.agg [.nilf, .nilf, .nilf, .nilf, .nilf, .nilf]):=by kernel_rfl
theorem kshape_99 : kshape Tryz.prog 99 = none:=by kernel_rfl
theorem bytesOf_99 : Tryz.prog.bytesOf 99 = 48:=by kernel_rfl
theorem zeroOK_99 : zeroOK Tryz.prog 99 = true:=by kernel_rfl
theorem tk_102 : tk Tryz.prog 102 = .struct:=by kernel_rfl
theorem tsz_102 : tsz Tryz.prog 102 = 2:=by kernel_rfl
theorem tzero_102 : tzero Tryz.prog 102 = some (.agg [(.int .i64 0), (.str [])]):=by kernel_rfl
theorem tplaces_102 : tplaces Tryz.prog 102 = some [(0, 1), (1, 1)]:=by kernel_rfl
theorem tfield_102_0 : tfield Tryz.prog 102 0 = some (0, 3):=by kernel_rfl
theorem tfield_102_1 : tfield Tryz.prog 102 1 = some (1, 9):=by kernel_rfl
theorem kshape_102 : kshape Tryz.prog 102 = (some (.many [.int .i64, .str])):=by kernel_rfl
theorem bytesOf_102 : Tryz.prog.bytesOf 102 = 24:=by kernel_rfl
theorem zeroOK_102 : zeroOK Tryz.prog 102 = true:=by kernel_rfl
theorem tk_112 : tk Tryz.prog 112 = (.map 204 205):=by kernel_rfl
theorem tsz_112 : tsz Tryz.prog 112 = 1:=by kernel_rfl
theorem tzero_112 : tzero Tryz.prog 112 = some (.map none):=by kernel_rfl
theorem kshape_112 : kshape Tryz.prog 112 = none:=by kernel_rfl
theorem bytesOf_112 : Tryz.prog.bytesOf 112 = 8:=by kernel_rfl
theorem zeroOK_112 : zeroOK Tryz.prog 112 = true:=by kernel_rfl
theorem tk_114 : tk Tryz.prog 114 = .struct:=by kernel_rfl
theorem tsz_114 : tsz Tryz.prog 114 = 3:=by kernel_rfl
theorem tzero_114 : tzero Tryz.prog 114 = some (.agg [(.int .i64 0), (.int .i64 0), (.map none)]):=by kernel_rfl
theorem tplaces_114 : tplaces Tryz.prog 114 = some [(0, 1), (1, 1), (2, 1)]:=by kernel_rfl
theorem tfield_114_0 : tfield Tryz.prog 114 0 = some (0, 3):=by kernel_rfl
theorem tfield_114_1 : tfield Tryz.prog 114 1 = some (1, 3):=by kernel_rfl
theorem tfield_114_2 : tfield Tryz.prog 114 2 = some (2, 112):=by kernel_rfl
theorem kshape_114 : kshape Tryz.prog 114 = none:=by kernel_rfl
theorem bytesOf_114 : Tryz.prog.bytesOf 114 = 24:=by kernel_rfl
theorem zeroOK_114 : zeroOK Tryz.prog 114 = true:=by kernel_rfl
theorem tk_115 : tk Tryz.prog 115 = (.ptr 117):=by kernel_rfl
theorem tsz_115 : tsz Tryz.prog 115 = 1:=by kernel_rfl
theorem tzero_115 : tzero Tryz.prog 115 = some (.ptr none):=by kernel_rfl
theorem kshape_115 : kshape Tryz.prog 115 = none:=by kernel_rfl
theorem bytesOf_115 : Tryz.prog.bytesOf 115 = 8:=by kernel_rfl
theorem zeroOK_115 : zeroOK Tryz.prog 115 = true:=by kernel_rfl
theorem tk_117 : tk Tryz.prog 117 = .struct:=by kernel_rfl
theorem tsz_117 : tsz Tryz.prog 117 = 9:=by kernel_rfl
theorem tzero_117 : tzero Tryz.prog 117 = some (.agg [(.int .i64 0), (.int .u32 0), (.int .u32 0), (.int .i64 0), (.int .i64 0), (.int .i64 0), (.int .i64 0), (.ptr none), (.ptr none)]):=by kernel_rfl
theorem tplaces_117 : tplaces Tryz.prog 117 = some [(0, 5), (5, 1), (6, 1), (7, 1), (8, 1)]:=by kernel_rfl
theorem tfield_117_0 : tfield Tryz.prog 117 0 = some (0, 43):=by kernel_rfl
theorem tfield_117_1 : tfield Tryz.prog 117 1 = some (5, 3):=by kernel_rfl
theorem tfield_117_2 : tfield Tryz.prog 117 2 = some (6, 3):=by kernel_rfl
theorem tfield_117_3 : tfield Tryz.prog 117 3 = some (7, 115):=by kernel_rfl
theorem tfield_117_4 : tfield Tryz.prog 117 4 = some (8, 115):=by kernel_rfl
theorem kshape_117 : kshape Tryz.prog 117 = none:=by kernel_rfl
theorem bytesOf_117 : Tryz.prog.bytesOf 117 = 64:=by kernel_rfl
theorem zeroOK_117 : zeroOK Tryz.prog 117 = true:=by kernel_rfl
theorem tk_118 : tk Tryz.prog 118 = (.map 43 115):=by kernel_rfl
theorem tsz_118 : tsz Tryz.prog 118 = 1:=by kernel_rfl
theorem tzero_118 : tzero Tryz.prog 118 = some (.map none):=by kernel_rfl
theorem kshape_118 : kshape Tryz.prog 118 = none:=by kernel_rfl
theorem bytesOf_118 : Tryz.prog.bytesOf 118 = 8:=by kernel_rfl
theorem zeroOK_118 : zeroOK Tryz.prog 118 = true:=by kernel_rfl
theorem tk_120 : tk Tryz.prog 120 = .struct:=by kernel_rfl
theorem tsz_120 : tsz Tryz.prog 120 = 6:=by kernel_rfl
theorem tzero_120 : tzero Tryz.prog 120 = some (.agg [(.int .i64 0), (.int .i64 0), (.int .i64 0), (.int .i64 0), (.ptr none), (.map none)]):=by kernel_rfl
theorem tplaces_120 : tplaces Tryz.prog 120 = some [(0, 1), (1, 1), (2, 1), (3, 1), (4, 1), (5, 1)]:=by kernel_rfl
theorem tfield_120_0 : tfield Tryz.prog 120 0 = some (0, 3):=by kernel_rfl
theorem tfield_120_1 : tfield Tryz.prog 120 1 = some (1, 3):=by kernel_rfl
theorem tfield_120_2 : tfield Tryz.prog 120 2 = some (2, 3):=by kernel_rfl
theorem tfield_120_3 : tfield Tryz.prog 120 3 = some (3, 3):=by kernel_rfl
theorem tfield_120_4 : tfield Tryz.prog 120 4 = some (4, 115):=by kernel_rfl
theorem tfield_120_5 : tfield Tryz.prog 120 5 = some (5, 118):=by kernel_rfl
theorem kshape_120 : kshape Tryz.prog 120 = none:=by kernel_rfl
theorem bytesOf_120 : Tryz.prog.bytesOf 120 = 48:=by kernel_rfl
theorem zeroOK_120 : zeroOK Tryz.prog 120 = true:=by kernel_rfl
theorem tk_121 : tk Tryz.prog 121 = .func:=by kernel_rfl
theorem tsz_121 : tsz Tryz.prog 121 = 1:=by kernel_rfl
theorem tzero_121 : tzero Tryz.prog 121 = some .nilf:=by kernel_rfl
theorem kshape_121 : kshape Tryz.prog 121 = none:=by kernel_rfl
theorem bytesOf_121 : Tryz.prog.bytesOf 121 = 8:=by kernel_rfl
theorem zeroOK_121 : zeroOK Tryz.prog 121 = true:=by kernel_rfl
theorem tk_122 : tk Tryz.prog 122 = (.slice 126):=by kernel_rfl
theorem tsz_122 : tsz Tryz.prog 122 = 1:=by kernel_rfl
theorem tzero_122 : tzero Tryz.prog 122 = some (.sl none 0 0):=by kernel_rfl
theorem kshape_122 : kshape Tryz.prog 122 = none:=by kernel_rfl
theorem bytesOf_122 : Tryz.prog.bytesOf 122 = 24:=by kernel_rfl
theorem zeroOK_122 : zeroOK Tryz.prog 122 = true:=by kernel_rfl
theorem tk_124 : tk Tryz.prog 124 = .struct:=by kernel_rfl
theorem tsz_124 : tsz Tryz.prog 124 = 3:=by kernel_rfl
theorem tzero_124 : tzero Tryz.prog 124 = some (.agg [(.int .i64 0), .nilf, (.sl none 0 0)]):=by kernel_rfl
theorem tplaces_124 : tplaces Tryz.prog 124 = some [(0, 1), (1, 1), (2, 1)]:=by kernel_rfl
theorem tfield_124_0 : tfield Tryz.prog 124 0 = some (0, 3):=by kernel_rfl
theorem tfield_124_1 : tfield Tryz.prog 124 1 = some (1, 121):=by kernel_rfl
theorem tfield_124_2 : tfield Tryz.prog 124 2 = some (2, 122):=by kernel_rfl
theorem kshape_124 : kshape Tryz.prog 124 = none:=by kernel_rfl
theorem bytesOf_124 : Tryz.prog.bytesOf 124 = 40:=by kernel_rfl
theorem zeroOK_124 : zeroOK Tryz.prog 124 = true:=by kernel_rfl
theorem tk_126 : tk Tryz.prog 126 = .struct:=by kernel_rfl
theorem tsz_126 : tsz Tryz.prog 126 = 6:=by kernel_rfl
theorem tzero_126 : tzero Tryz.prog 126 = some (.agg [(.int .i64 0), (.int .u32 0), (.int .u32 0), (.int .i64 0), (.int .i64 0), (.int .i64 0)]):=by kernel_rfl
theorem tplaces_126 : tplaces Tryz.prog 126 = some [(0, 5), (5, 1)]:=by kernel_rfl
theorem tfield_126_0 : tfield Tryz.prog 126 0 = some (0, 43):=by kernel_rfl
theorem tfield_126_1 : tfield Tryz.prog 126 1 = some (5, 3):=by kernel_rfl
theorem kshape_126 : kshape Tryz.prog 126 = none:=by kernel_rfl
theorem bytesOf_126 : Tryz.prog.bytesOf 126 = 40:=by kernel_rfl
theorem zeroOK_126 : zeroOK Tryz.prog 126 = true:=by kernel_rfl
theorem tk_127 : tk Tryz.prog 127 = (.ptr 130):=by kernel_rfl
theorem tsz_127 : tsz Tryz.prog 127 = 1:=by kernel_rfl
theorem tzero_127 : tzero Tryz.prog 127 = some (.ptr none):=by kernel_rfl
theorem kshape_127 : kshape Tryz.prog 127 = none:=by kernel_rfl
theorem bytesOf_127 : Tryz.prog.bytesOf 127 = 8:=by kernel_rfl
theorem zeroOK_127 : zeroOK Tryz.prog 127 = true:=by kernel_rfl
theorem tk_128 : tk Tryz.prog 128 = (.ptr 190):=by kernel_rfl
theorem tsz_128 : tsz Tryz.prog 128 = 1:=by kernel_rfl
theorem tzero_128 : tzero Tryz.prog 128 = some (.ptr none):=by kernel_rfl
theorem kshape_128 : kshape Tryz.prog 128 = none:=by kernel_rfl
theorem bytesOf_128 : Tryz.prog.bytesOf 128 = 8:=by kernel_rfl
theorem zeroOK_128 : zeroOK Tryz.prog 128 = true:=by kernel_rfl
theorem tk_130 : tk Tryz.prog 130 = .struct:=by kernel_rfl
theorem tsz_130 : tsz Tryz.prog 130 = 47:=by kernel_rfl
theorem tzero_130 : tzero Tryz.prog 130 = some (.agg [(.int .i64 0), (.str []), (.int .u8 0), (.int .u8 0), (.int .u8 0), (.int .u8 0), (.int .u8 0), (.int .u8 0), (.int .u8 0), (.int .u8 0), (.int .u8 0), (.int .u8 0), (.int .u8 0), (.int .u8 0), (.int .i64 0), (.int .i64 0), (.int .i64 0), (.bool false), (.bool false), (.int .i64 0), (.int .i64 0), (.int .i64 0), (.int .u32 0), (.int .u32 0), (.str []), (.str []), (.int .i64 0), (.int .i64 0), (.int .u32 0), (.int .u32 0), (.int .i64 0), (.int .i64 0), (.str []), (.str []), (.int .i64 0), (.int .u32 0), (.int .u32 0), (.int .i64 0), (.int .i64 0), (.int .i64 0), (.int .i64 0), (.bool false), (.ptr none), (.sl none 0 0), (.sl none 0 0), (.int .i64 0), (.int .i64 0)]):=by kernel_rfl
theorem tplaces_130 : tplaces Tryz.prog 130 = some [(0, 1), (1, 1), (2, 13), (15, 10), (25, 1), (26, 7), (33, 1), (34, 5), (39, 1), (40, 1), (41, 1), (42, 1), (43, 4)]:=by kernel_rfl
theorem tfield_130_0 : tfield Tryz.prog 130 0 = some (0, 3):=by kernel_rfl
theorem tfield_130_1 : tfield Tryz.prog 130 1 = some (1, 9):=by kernel_rfl
theorem tfield_130_2 : tfield Tryz.prog 130 2 = some (2, 60):=by kernel_rfl
theorem tfield_130_3 : tfield Tryz.prog 130 3 = some (15, 63):=by kernel_rfl
theorem tfield_130_4 : tfield Tryz.prog 130 4 = some (25, 9):=by kernel_rfl
theorem tfield_130_5 : tfield Tryz.prog 130 5 = some (26, 56):=by kernel_rfl
theorem tfield_130_6 : tfield Tryz.prog 130 6 = some (33, 9):=by kernel_rfl
theorem tfield_130_7 : tfield Tryz.prog 130 7 = some (34, 43):=by kernel_rfl
theorem tfield_130_8 : tfield Tryz.prog 130 8 = some (39, 3):=by kernel_rfl
theorem tfield_130_9 : tfield Tryz.prog 130 9 = some (40, 3):=by kernel_rfl
theorem tfield_130_10 : tfield Tryz.prog 130 10 = some (41, 4):=by kernel_rfl
theorem tfield_130_11 : tfield Tryz.prog 130 11 = some (42, 128):=by kernel_rfl
theorem tfield_130_12 : tfield Tryz.prog 130 12 = some (43, 70):=by kernel_rfl
theorem kshape_130 : kshape Tryz.prog 130 = none:=by kernel_rfl
theorem bytesOf_130 : Tryz.prog.bytesOf 130 = 336:=by kernel_rfl
theorem zeroOK_130 : zeroOK Tryz.prog 130 = true:=by kernel_rfl
theorem tk_131 : tk Tryz.prog 131 = .func:=by kernel_rfl
theorem tsz_131 : tsz Tryz.prog 131 = 1:=by kernel_rfl
theorem tzero_131 : tzero Tryz.prog 131 = some .nilf:=by kernel_rfl
theorem kshape_131 : kshape Tryz.prog 131 = none:=by kernel_rfl
theorem bytesOf_131 : Tryz.prog.bytesOf 131 = 8:=by kernel_rfl
theorem zeroOK_131 : zeroOK Tryz.prog 131 = true:=by kernel_rfl
theorem tk_132 : tk Tryz.prog 132 = (.slice 131):=by kernel_rfl
theorem tsz_132 : tsz Tryz.prog 132 = 1:=by kernel_rfl
theorem tzero_132 : tzero Tryz.prog 132 = some (.sl none 0 0):=by kernel_rfl
theorem kshape_132 : kshape Tryz.prog 132 = none:=by kernel_rfl
theorem bytesOf_132 : Tryz.prog.bytesOf 132 = 24:=by kernel_rfl
theorem zeroOK_132 : zeroOK Tryz.prog 132 = true:=by kernel_rfl
theorem tk_138 : tk Tryz.prog 138 = (.slice 9):=by kernel_rfl
theorem tsz_138 : tsz Tryz.prog 138 = 1:=by kernel_rfl
theorem tzero_138 : tzero Tryz.prog 138 = some (.sl none 0 0):=by kernel_rfl
theorem kshape_138 : kshape Tryz.prog 138 = none:=by kernel_rfl
theorem bytesOf_138 : Tryz.prog.bytesOf 138 = 24:=by kernel_rfl
theorem zeroOK_138 : zeroOK Tryz.prog 138 = true:=by kernel_rfl
theorem tk_139 : tk Tryz.prog 139 = (.slice 338):=by kernel_rfl
theorem tsz_139 : tsz Tryz.prog 139 = 1:=by kernel_rfl
theorem tzero_139 : tzero Tryz.prog 139 = some (.sl none 0 0):=by kernel_rfl
theorem kshape_139 : kshape Tryz.prog 139 = none:=by kernel_rfl
theorem bytesOf_139 : Tryz.prog.bytesOf 139 = 24:=by kernel_rfl
theorem zeroOK_139 : zeroOK Tryz.prog 139 = true:=by kernel_rfl
theorem tk_141 : tk Tryz.prog 141 = .struct:=by kernel_rfl
theorem tsz_141 : tsz Tryz.prog 141 = 2:=by kernel_rfl
theorem tzero_141 : tzero Tryz.prog 141 = some (.agg [(.bool false), (.sl none 0 0)]):=by kernel_rfl
theorem tplaces_141 : tplaces Tryz.prog 141 = some [(0, 1), (1, 1)]:=by kernel_rfl
theorem tfield_141_0 : tfield Tryz.prog 141 0 = some (0, 4):=by kernel_rfl
theorem tfield_141_1 : tfield Tryz.prog 141 1 = some (1, 139):=by kernel_rfl
theorem kshape_141 : kshape Tryz.prog 141 = none:=by kernel_rfl
theorem bytesOf_141 : Tryz.prog.bytesOf 141 = 32:=by kernel_rfl
theorem zeroOK_141 : zeroOK Tryz.prog 141 = true:=by kernel_rfl
theorem tk_142 : tk Tryz.prog 142 = (.slice 340):=by kernel_rfl
theorem tsz_142 : tsz Tryz.prog 142 = 1:=by kernel_rfl
theorem tzero_142 : tzero Tryz.prog 142 = some (.sl none 0 0):=by kernel_rfl
theorem kshape_142 : kshape Tryz.prog 142 = none:=by kernel_rfl
theorem bytesOf_142 : Tryz.prog.bytesOf 142 = 24:=by kernel_rfl
theorem zeroOK_142 : zeroOK Tryz.prog 142 = true:=by kernel_rfl
theorem tk_144 : tk Tryz.prog 144 = .struct:=by kernel_rfl
theorem tsz_144 : tsz Tryz.prog 144 = 2:=by kernel_rfl
theorem tzero_144 : tzero Tryz.prog 144 = some (.agg [(.bool false), (.sl none 0 0)]):=by kernel_rfl
theorem tplaces_144 : tplaces Tryz.prog 144 = some [(0, 1), (1, 1)]:=by kernel_rfl
theorem tfield_144_0 : tfield Tryz.prog 144 0 = some (0, 4):=by kernel_rfl
theorem tfield_144_1 : tfield Tryz.prog 144 1 = some (1, 142):=by kernel_rfl
theorem kshape_144 : kshape Tryz.prog 144 = none:=by kernel_rfl
theorem bytesOf_144 : Tryz.prog.bytesOf 144 = 32:=by kernel_rfl
theorem zeroOK_144 : zeroOK Tryz.prog 144 = true:=by kernel_rfl
theorem tk_145 : tk Tryz.prog 145 = (.slice 149):=by kernel_rfl
theorem tsz_145 : tsz Tryz.prog 145 = 1:=by kernel_rfl
theorem tzero_145 : tzero Tryz.prog 145 = some (.sl none 0 0):=by kernel_rfl
theorem kshape_145 : kshape Tryz.prog 145 = none:=by kernel_rfl
theorem bytesOf_145 : Tryz.prog.bytesOf 145 = 24:=by kernel_rfl
theorem zeroOK_145 : zeroOK Tryz.prog 145 = true:=by kernel_rfl
theorem tk_147 : tk Tryz.prog 147 = .struct:=by kernel_rfl
theorem tsz_147 : tsz Tryz.prog 147 = 15:=by kernel_rfl
theorem tzero_147 : tzero Tryz.prog 147 = some (.agg [(.int .i64 0), (.int .i64 0), (.bool false), (.sl none 0 0), (.bool false), (.sl none 0 0), (.bool false), (.sl none 0 0), (.bool false), (.sl none 0 0), (.bool false), (.int .i64 0), (.sl none 0 0), (.int .i64 0), (.int .i64 0)]):=by kernel_rfl
theorem tplaces_147 : tplaces Tryz.prog 147 = some [(0, 1), (1, 1), (2, 2), (4, 2), (6, 2), (8, 2), (10, 1), (11, 1), (12, 1), (13, 1), (14, 1)]:=by kernel_rfl
theorem tfield_147_0 : tfield Tryz.prog 147 0 = some (0, 3):=by kernel_rfl
theorem tfield_147_1 : tfield Tryz.prog 147 1 = some (1, 3):=by kernel_rfl
theorem tfield_147_2 : tfield Tryz.prog 147 2 = some (2, 141):=by kernel_rfl
theorem tfield_147_3 : tfield Tryz.prog 147 3 = some (4, 144):=by kernel_rfl
theorem tfield_147_4 : tfield Tryz.prog 147 4 = some (6, 141):=by kernel_rfl
theorem tfield_147_5 : tfield Tryz.prog 147 5 = some (8, 144):=by kernel_rfl
theorem tfield_147_6 : tfield Tryz.prog 147 6 = some (10, 4):=by kernel_rfl
theorem tfield_147_7 : tfield Tryz.prog 147 7 = some (11, 3):=by kernel_rfl
theorem tfield_147_8 : tfield Tryz.prog 147 8 = some (12, 145):=by kernel_rfl
theorem tfield_147_9 : tfield Tryz.prog 147 9 = some (13, 3):=by kernel_rfl
theorem tfield_147_10 : tfield Tryz.prog 147 10 = some (14, 3):=by kernel_rfl
theorem kshape_147 : kshape Tryz.prog 147 = none:=by kernel_rfl
theorem bytesOf_147 : Tryz.prog.bytesOf 147 = 200:=by kernel_rfl
theorem zeroOK_147 : zeroOK Tryz.prog 147 = true:=by kernel_rfl
theorem tk_149 : tk Tryz.prog 149 = .struct:=by kernel_rfl
theorem tsz_149 : tsz Tryz.prog 149 = 8:=by kernel_rfl
theorem tzero_149 : tzero Tryz.prog 149 = some (.agg [(.str []), (.bool false), (.bool false), (.int .i64 0), (.int .i64 0), (.bool false), (.int .i64 0), (.int .i64 0)]):=by kernel_rfl
theorem tplaces_149 : tplaces Tryz.prog 149 = some [(0, 1), (1, 1), (2, 1), (3, 1), (4, 1), (5, 1), (6, 1), (7, 1)]:=by kernel_rfl
theorem tfield_149_0 : tfield Tryz.prog 149 0 = some (0, 9):=by kernel_rfl
theorem tfield_149_1 : tfield Tryz.prog 149 1 = some (1, 4):=by kernel_rfl
theorem tfield_149_2 : tfield Tryz.prog 149 2 = some (2, 4):=by kernel_rfl
theorem tfield_149_3 : tfield Tryz.prog 149 3 = some (3, 3):=by kernel_rfl
theorem tfield_149_4 : tfield Tryz.prog 149 4 = some (4, 3):=by kernel_rfl
theorem tfield_149_5 : tfield Tryz.prog 149 5 = some (5, 4):=by kernel_rfl
theorem tfield_149_6 : tfield Tryz.prog 149 6 = some (6, 3):=by kernel_rfl
theorem tfield_149_7 : tfield Tryz.prog 149 7 = some (7, 3):=by kernel_rfl
theorem kshape_149 : kshape Tryz.prog 149 = (some (.many [.str, .bool, .bool, .int .i64, .int .i64, .bool, .int .i64, .int .i64])):=by kernel_rfl
theorem bytesOf_149 : Tryz.prog.bytesOf 149 = 64:=by kernel_rfl
theorem zeroOK_149 : zeroOK Tryz.prog 149 = true:=by kernel_rfl
theorem tk_151 : tk Tryz.prog 151 = (.ptr 223):=by kernel_rfl
theorem tsz_151 : tsz Tryz.prog 151 = 1:=by kernel_rfl
theorem tzero_151 : tzero Tryz.prog 151 = some (.ptr none):=by kernel_rfl
theorem kshape_151 : kshape Tryz.prog 151 = none:=by kernel_rfl
theorem bytesOf_151 : Tryz.prog.bytesOf 151 = 8:=by kernel_rfl
theorem zeroOK_151 : zeroOK Tryz.prog 151 = true:=by kernel_rfl
theorem tk_165 : tk Tryz.prog 165 = (.int .u64):=by kernel_rfl
theorem tsz_165 : tsz Tryz.prog 165 = 1:=by kernel_rfl
theorem tzero_165 : tzero Tryz.prog 165 = some (.int .u64 0):=by kernel_rfl
theorem kshape_165 : kshape Tryz.prog 165 = (some (.one (.int .u64))):=by kernel_rfl
theorem bytesOf_165 : Tryz.prog.bytesOf 165 = 8:=by kernel_rfl
theorem zeroOK_165 : zeroOK Tryz.prog 165 = true:=by kernel_rfl
theorem tk_170 : tk Tryz.prog 170 = (.ptr 3):=by kernel_rfl
theorem tsz_170 : tsz Tryz.prog 170 = 1:=by kernel_rfl
theorem tzero_170 : tzero Tryz.prog 170 = some (.ptr none):=by kernel_rfl
theorem kshape_170 : kshape Tryz.prog 170 = none:=by kernel_rfl
theorem bytesOf_170 : Tryz.prog.bytesOf 170 = 8:=by kernel_rfl
theorem zeroOK_170 : zeroOK Tryz.prog 170 = true:=by kernel_rfl
theorem tk_175 : tk Tryz.prog 175 = .struct:=by kernel_rfl
theorem tsz_175 : tsz Tryz.prog 175 = 5:=by kernel_rfl
theorem tzero_175 : tzero Tryz.prog 175 = some (.agg [(.int .i64 0), (.int .i64 0), (.int .i64 0), (.int .i64 0), (.int .u32 0)]):=by kernel_rfl
theorem tplaces_175 : tplaces Tryz.prog 175 = some [(0, 1), (1, 1), (2, 1), (3, 1), (4, 1)]:=by kernel_rfl
theorem tfield_175_0 : tfield Tryz.prog 175 0 = some (0, 3):=by kernel_rfl
theorem tfield_175_1 : tfield Tryz.prog 175 1 = some (1, 3):=by kernel_rfl
theorem tfield_175_2 : tfield Tryz.prog 175 2 = some (2, 3):=by kernel_rfl
theorem tfield_175_3 : tfield Tryz.prog 175 3 = some (3, 3):=by kernel_rfl
theorem tfield_175_4 : tfield Tryz.prog 175 4 = some (4, 28):=by kernel_rfl
theorem kshape_175 : kshape Tryz.prog 175 = (some (.many [.int .i64, .int .i64, .int .i64, .int .i64, .int .u32])):=by kernel_rfl
theorem bytesOf_175 : Tryz.prog.bytesOf 175 = 40:=by kernel_rfl
theorem zeroOK_175 : zeroOK Tryz.prog 175 = true:=by kernel_rfl
theorem tk_184 : tk Tryz.prog 184 = (.arr 2 22):=by kernel_rfl
theorem tsz_184 : tsz Tryz.prog 184 = 2:=by kernel_rfl
theorem tzero_184 : tzero Tryz.prog 184 = some (.agg [(.sl none 0 0), (.sl none 0 0)]):=by kernel_rfl
theorem kshape_184 : kshape Tryz.prog 184 = none:=by kernel_rfl
theorem bytesOf_184 : Tryz.prog.bytesOf 184 = 48:=by kernel_rfl
theorem zeroOK_184 : zeroOK Tryz.prog 184 = true:=by kernel_rfl
theorem tk_185 : tk Tryz.prog 185 = (.ptr 329):=by kernel_rfl
theorem tsz_185 : tsz Tryz.prog 185 = 1:=by kernel_rfl
theorem tzero_185 : tzero Tryz.prog 185 = some (.ptr none):=by kernel_rfl
theorem kshape_185 : kshape Tryz.prog 185 = none:=by kernel_rfl
theorem bytesOf_185 : Tryz.prog.bytesOf 185 = 8:=by kernel_rfl
theorem zeroOK_185 : zeroOK Tryz.prog 185 = true:=by kernel_rfl
theorem tk_186 : tk Tryz.prog 186 = (.arr 2 185):=by kernel_rfl
theorem tsz_186 : tsz Tryz.prog 186 = 2:=by kernel_rfl
theorem tzero_186 : tzero Tryz.prog 186 = some (.agg [(.ptr none), (.ptr none)]):=by kernel_rfl
theorem kshape_186 : kshape Tryz.prog 186 = none:=by kernel_rfl
theorem bytesOf_186 : Tryz.prog.bytesOf 186 = 16:=by kernel_rfl
theorem zeroOK_186 : zeroOK Tryz.prog 186 = true:=by kernel_rfl
theorem tk_187 : tk Tryz.prog 187 = (.ptr 249):=by kernel_rfl
theorem tsz_187 : tsz Tryz.prog 187 = 1:=by kernel_rfl
theorem tzero_187 : tzero Tryz.prog 187 = some (.ptr none):=by kernel_rfl
theorem kshape_187 : kshape Tryz.prog 187 = none:=by kernel_rfl
theorem bytesOf_187 : Tryz.prog.bytesOf 187 = 8:=by kernel_rfl
theorem zeroOK_187 : zeroOK Tryz.prog 187 = true:=by kernel_rfl
theorem tk_188 : tk Tryz.prog 188 = (.arr 2 187):=by kernel_rfl
theorem tsz_188 : tsz Tryz.prog 188 = 2:=by kernel_rfl
theorem tzero_188 : tzero Tryz.prog 188 = some (.agg [(.ptr none), (.ptr none)]):=by kernel_rfl
theorem kshape_188 : kshape Tryz.prog 188 = none:=by kernel_rfl
theorem bytesOf_188 : Tryz.prog.bytesOf 188 = 16:=by kernel_rfl
theorem zeroOK_188 : zeroOK Tryz.prog 188 = true:=by kernel_rfl
theorem tk_190 : tk Tryz.prog 190 = .struct:=by kernel_rfl
theorem tsz_190 : tsz Tryz.prog 190 = 13:=by kernel_rfl
theorem tzero_190 : tzero Tryz.prog 190 = some (.agg [(.int .i64 0), (.int .u32 0), (.int .u32 0), (.int .i64 0), (.int .i64 0), (.sl none 0 0), (.sl none 0 0), (.sl none 0 0), (.ptr none), (.ptr none), (.ptr none), (.ptr none), (.bool false)]):=by kernel_rfl
theorem tplaces_190 : tplaces Tryz.prog 190 = some [(0, 5), (5, 1), (6, 2), (8, 2), (10, 2), (12, 1)]:=by kernel_rfl
theorem tfield_190_0 : tfield Tryz.prog 190 0 = some (0, 43):=by kernel_rfl
theorem tfield_190_1 : tfield Tryz.prog 190 1 = some (5, 92):=by kernel_rfl
theorem tfield_190_2 : tfield Tryz.prog 190 2 = some (6, 184):=by kernel_rfl
theorem tfield_190_3 : tfield Tryz.prog 190 3 = some (8, 186):=by kernel_rfl
theorem tfield_190_4 : tfield Tryz.prog 190 4 = some (10, 188):=by kernel_rfl
theorem tfield_190_5 : tfield Tryz.prog 190 5 = some (12, 4):=by kernel_rfl
theorem kshape_190 : kshape Tryz.prog 190 = none:=by kernel_rfl
theorem bytesOf_190 : Tryz.prog.bytesOf 190 = 144:=by kernel_rfl
theorem zeroOK_190 : zeroOK Tryz.prog 190 = true:=by kernel_rfl
theorem tk_204 : tk Tryz.prog 204 = .struct:=by kernel_rfl
theorem tsz_204 : tsz Tryz.prog 204 = 4:=by kernel_rfl
theorem tzero_204 : tzero Tryz.prog 204 = some (.agg [(.int .u32 0), (.int .u32 0), (.int .i64 0), (.int .i64 0)]):=by kernel_rfl
theorem tplaces_204 : tplaces Tryz.prog 204 = some [(0, 1), (1, 1), (2, 1), (3, 1)]:=by kernel_rfl
theorem tfield_204_0 : tfield Tryz.prog 204 0 = some (0, 28):=by kernel_rfl
theorem tfield_204_1 : tfield Tryz.prog 204 1 = some (1, 28):=by kernel_rfl
theorem tfield_204_2 : tfield Tryz.prog 204 2 = some (2, 3):=by kernel_rfl
theorem tfield_204_3 : tfield Tryz.prog 204 3 = some (3, 3):=by kernel_rfl
theorem kshape_204 : kshape Tryz.prog 204 = (some (.many [.int .u32, .int .u32, .int .i64, .int .i64])):=by kernel_rfl
theorem bytesOf_204 : Tryz.prog.bytesOf 204 = 24:=by kernel_rfl
theorem zeroOK_204 : zeroOK Tryz.prog 204 = true:=by kernel_rfl
theorem tk_205 : tk Tryz.prog 205 = (.ptr 207):=by kernel_rfl
theorem tsz_205 : tsz Tryz.prog 205 = 1:=by kernel_rfl
theorem tzero_205 : tzero Tryz.prog 205 = some (.ptr none):=by kernel_rfl
theorem kshape_205 : kshape Tryz.prog 205 = none:=by kernel_rfl
theorem bytesOf_205 : Tryz.prog.bytesOf 205 = 8:=by kernel_rfl
theorem zeroOK_205 : zeroOK Tryz.prog 205 = true:=by kernel_rfl
theorem tk_207 : tk Tryz.prog 207 = .struct:=by kernel_rfl
theorem tsz_207 : tsz Tryz.prog 207 = 3:=by kernel_rfl
theorem tzero_207 : tzero Tryz.prog 207 = some (.agg [(.map none), (.int .i64 0), (.int .i64 0)]):=by kernel_rfl
theorem tplaces_207 : tplaces Tryz.prog 207 = some [(0, 1), (1, 1), (2, 1)]:=by kernel_rfl
theorem tfield_207_0 : tfield Tryz.prog 207 0 = some (0, 73):=by kernel_rfl
theorem tfield_207_1 : tfield Tryz.prog 207 1 = some (1, 3):=by kernel_rfl
theorem tfield_207_2 : tfield Tryz.prog 207 2 = some (2, 3):=by kernel_rfl
theorem kshape_207 : kshape Tryz.prog 207 = none:=by kernel_rfl
theorem bytesOf_207 : Tryz.prog.bytesOf 207 = 24:=by kernel_rfl
theorem zeroOK_207 : zeroOK Tryz.prog 207 = true:=by kernel_rfl
theorem tk_218 : tk Tryz.prog 218 = (.ptr 294):=by kernel_rfl
theorem tsz_218 : tsz Tryz.prog 218 = 1:=by kernel_rfl
theorem tzero_218 : tzero Tryz.prog 218 = some (.ptr none):=by kernel_rfl
theorem kshape_218 : kshape Tryz.prog 218 = none:=by kernel_rfl
theorem bytesOf_218 : Tryz.prog.bytesOf 218 = 8:=by kernel_rfl
theorem zeroOK_218 : zeroOK Tryz.prog 218 = true:=by kernel_rfl
theorem tk_220 : tk Tryz.prog 220 = (.slice 298):=by kernel_rfl
theorem tsz_220 : tsz Tryz.prog 220 = 1:=by kernel_rfl
theorem tzero_220 : tzero Tryz.prog 220 = some (.sl none 0 0):=by kernel_rfl
theorem kshape_220 : kshape Tryz.prog 220 = none:=by kernel_rfl
theorem bytesOf_220 : Tryz.prog.bytesOf 220 = 24:=by kernel_rfl
theorem zeroOK_220 : zeroOK Tryz.prog 220 = true:=by kernel_rfl
theorem tk_221 : tk Tryz.prog 221 = (.slice 22):=by kernel_rfl
theorem tsz_221 : tsz Tryz.prog 221 = 1:=by kernel_rfl
theorem tzero_221 : tzero Tryz.prog 221 = some (.sl none 0 0):=by kernel_rfl
theorem kshape_221 : kshape Tryz.prog 221 = none:=by kernel_rfl
theorem bytesOf_221 : Tryz.prog.bytesOf 221 = 24:=by kernel_rfl
theorem zeroOK_221 : zeroOK Tryz.prog 221 = true:=by kernel_rfl
theorem tk_223 : tk Tryz.prog 223 = .struct:=by kernel_rfl
theorem tsz_223 : tsz Tryz.prog 223 = 3:=by kernel_rfl
theorem tzero_223 : tzero Tryz.prog 223 = some (.agg [(.sl none 0 0), (.sl none 0 0), (.sl none 0 0)]):=by kernel_rfl
theorem tplaces_223 : tplaces Tryz.prog 223 = some [(0, 1), (1, 1), (2, 1)]:=by kernel_rfl
theorem tfield_223_0 : tfield Tryz.prog 223 0 = some (0, 220):=by kernel_rfl
theorem tfield_223_1 : tfield Tryz.prog 223 1 = some (1, 22):=by kernel_rfl
theorem tfield_223_2 : tfield Tryz.prog 223 2 = some (2, 221):=by kernel_rfl
theorem kshape_223 : kshape Tryz.prog 223 = none:=by kernel_rfl
theorem bytesOf_223 : Tryz.prog.bytesOf 223 = 72:=by kernel_rfl
theorem zeroOK_223 : zeroOK Tryz.prog 223 = true:=by kernel_rfl
theorem tk_225 : tk Tryz.prog 225 = (.slice 229):=by kernel_rfl
theorem tsz_225 : tsz Tryz.prog 225 = 1:=by kernel_rfl
theorem tzero_225 : tzero Tryz.prog 225 = some (.sl none 0 0):=by kernel_rfl
theorem kshape_225 : kshape Tryz.prog 225 = none:=by kernel_rfl
theorem bytesOf_225 : Tryz.prog.bytesOf 225 = 24:=by kernel_rfl
theorem zeroOK_225 : zeroOK Tryz.prog 225 = true:=by kernel_rfl
theorem tk_227 : tk Tryz.prog 227 = .func:=by kernel_rfl
theorem tsz_227 : tsz Tryz.prog 227 = 1:=by kernel_rfl
theorem tzero_227 : tzero Tryz.prog 227 = some .nilf:=by kernel_rfl
theorem kshape_227 : kshape Tryz.prog 227 = none:=by kernel_rfl
theorem bytesOf_227 : Tryz.prog.bytesOf 227 = 8:=by kernel_rfl
theorem zeroOK_227 : zeroOK Tryz.prog 227 = true:=by kernel_rfl
theorem tk_229 : tk Tryz.prog 229 = .struct:=by kernel_rfl
theorem tsz_229 : tsz Tryz.prog 229 = 2:=by kernel_rfl
theorem tzero_229 : tzero Tryz.prog 229 = some (.agg [.nilf, (.int .i64 0)]):=by kernel_rfl
theorem tplaces_229 : tplaces Tryz.prog 229 = some [(0, 1), (1, 1)]:=by kernel_rfl
theorem tfield_229_0 : tfield Tryz.prog 229 0 = some (0, 227):=by kernel_rfl
theorem tfield_229_1 : tfield Tryz.prog 229 1 = some (1, 36):=by kernel_rfl
theorem kshape_229 : kshape Tryz.prog 229 = none:=by kernel_rfl
theorem bytesOf_229 : Tryz.prog.bytesOf 229 = 16:=by kernel_rfl
theorem zeroOK_229 : zeroOK Tryz.prog 229 = true:=by kernel_rfl
theorem tk_231 : tk Tryz.prog 231 = .struct:=by kernel_rfl
theorem tsz_231 : tsz Tryz.prog 231 = 9:=by kernel_rfl
theorem tzero_231 : tzero Tryz.prog 231 = some (.agg [(.int .i64 0), (.int .i64 0), (.int .u32 0), (.int .u32 0), (.int .i64 0), (.int .i64 0), (.str []), (.int .u32 0), (.int .u32 0)]):=by kernel_rfl
theorem tplaces_231 : tplaces Tryz.prog 231 = some [(0, 7), (7, 1), (8, 1)]:=by kernel_rfl
theorem tfield_231_0 : tfield Tryz.prog 231 0 = some (0, 56):=by kernel_rfl
theorem tfield_231_1 : tfield Tryz.prog 231 1 = some (7, 28):=by kernel_rfl
theorem tfield_231_2 : tfield Tryz.prog 231 2 = some (8, 28):=by kernel_rfl
theorem kshape_231 : kshape Tryz.prog 231 = none:=by kernel_rfl
theorem bytesOf_231 : Tryz.prog.bytesOf 231 = 64:=by kernel_rfl
theorem zeroOK_231 : zeroOK Tryz.prog 231 = true:=by kernel_rfl
theorem tk_245 : tk Tryz.prog 245 = (.ptr 317):=by kernel_rfl
theorem tsz_245 : tsz Tryz.prog 245 = 1:=by kernel_rfl
theorem tzero_245 : tzero Tryz.prog 245 = some (.ptr none):=by kernel_rfl
theorem kshape_245 : kshape Tryz.prog 245 = none:=by kernel_rfl
theorem bytesOf_245 : Tryz.prog.bytesOf 245 = 8:=by kernel_rfl
theorem zeroOK_245 : zeroOK Tryz.prog 245 = true:=by kernel_rfl
theorem tk_246 : tk Tryz.prog 246 = (.slice 257):=by kernel_rfl
theorem tsz_246 : tsz Tryz.prog 246 = 1:=by kernel_rfl
theorem tzero_246 : tzero Tryz.prog 246 = some (.sl none 0 0):=by kernel_rfl
theorem kshape_246 : kshape Tryz.prog 246 = none:=by kernel_rfl
theorem bytesOf_246 : Tryz.prog.bytesOf 246 = 24:=by kernel_rfl
theorem zeroOK_246 : zeroOK Tryz.prog 246 = true:=by kernel_rfl
theorem tk_247 : tk Tryz.prog 247 = (.slice 251):=by kernel_rfl
theorem tsz_247 : tsz Tryz.prog 247 = 1:=by kernel_rfl
theorem tzero_247 : tzero Tryz.prog 247 = some (.sl none 0 0):=by kernel_rfl
theorem kshape_247 : kshape Tryz.prog 247 = none:=by kernel_rfl
theorem bytesOf_247 : Tryz.prog.bytesOf 247 = 24:=by kernel_rfl
theorem zeroOK_247 : zeroOK Tryz.prog 247 = true:=by kernel_rfl
theorem tk_249 : tk Tryz.prog 249 = .struct:=by kernel_rfl
theorem tsz_249 : tsz Tryz.prog 249 = 4:=by kernel_rfl
theorem tzero_249 : tzero Tryz.prog 249 = some (.agg [(.ptr none), (.sl none 0 0), (.sl none 0 0), (.int .i64 0)]):=by kernel_rfl
theorem tplaces_249 : tplaces Tryz.prog 249 = some [(0, 1), (1, 1), (2, 1), (3, 1)]:=by kernel_rfl
theorem tfield_249_0 : tfield Tryz.prog 249 0 = some (0, 245):=by kernel_rfl
theorem tfield_249_1 : tfield Tryz.prog 249 1 = some (1, 246):=by kernel_rfl
theorem tfield_249_2 : tfield Tryz.prog 249 2 = some (2, 247):=by kernel_rfl
theorem tfield_249_3 : tfield Tryz.prog 249 3 = some (3, 3):=by kernel_rfl
theorem kshape_249 : kshape Tryz.prog 249 = none:=by kernel_rfl
theorem bytesOf_249 : Tryz.prog.bytesOf 249 = 64:=by kernel_rfl
theorem zeroOK_249 : zeroOK Tryz.prog 249 = true:=by kernel_rfl
theorem tk_250 : tk Tryz.prog 250 = (.slice 4):=by kernel_rfl
theorem tsz_250 : tsz Tryz.prog 250 = 1:=by kernel_rfl
theorem tzero_250 : tzero Tryz.prog 250 = some (.sl none 0 0):=by kernel_rfl
theorem kshape_250 : kshape Tryz.prog 250 = none:=by kernel_rfl
theorem bytesOf_250 : Tryz.prog.bytesOf 250 = 24:=by kernel_rfl
theorem zeroOK_250 : zeroOK Tryz.prog 250 = true:=by kernel_rfl
theorem tk_251 : tk Tryz.prog 251 = (.ptr 255):=by kernel_rfl
theorem tsz_251 : tsz Tryz.prog 251 = 1:=by kernel_rfl
theorem tzero_251 : tzero Tryz.prog 251 = some (.ptr none):=by kernel_rfl
theorem kshape_251 : kshape Tryz.prog 251 = none:=by kernel_rfl
theorem bytesOf_251 : Tryz.prog.bytesOf 251 = 8:=by kernel_rfl
theorem zeroOK_251 : zeroOK Tryz.prog 251 = true:=by kernel_rfl
theorem tk_252 : tk Tryz.prog 252 = (.ptr 310):=by kernel_rfl
theorem tsz_252 : tsz Tryz.prog 252 = 1:=by kernel_rfl
theorem tzero_252 : tzero Tryz.prog 252 = some (.ptr none):=by kernel_rfl
theorem kshape_252 : kshape Tryz.prog 252 = none:=by kernel_rfl
theorem bytesOf_252 : Tryz.prog.bytesOf 252 = 8:=by kernel_rfl
theorem zeroOK_252 : zeroOK Tryz.prog 252 = true:=by kernel_rfl
theorem tk_255 : tk Tryz.prog 255 = .struct:=by kernel_rfl
theorem tsz_255 : tsz Tryz.prog 255 = 18:=by kernel_rfl
theorem tzero_255 : tzero Tryz.prog 255 = some (.agg [(.int .i64 0), (.int .i64 0), (.bool false), (.sl none 0 0), (.bool false), (.sl none 0 0), (.bool false), (.sl none 0 0), (.bool false), (.sl none 0 0), (.bool false), (.int .i64 0), (.sl none 0 0), (.int .i64 0), (.int .i64 0), (.ptr none), (.sl none 0 0), (.bool false)]):=by kernel_rfl
theorem tplaces_255 : tplaces Tryz.prog 255 = some [(0, 15), (15, 1), (16, 1), (17, 1)]:=by kernel_rfl
theorem tfield_255_0 : tfield Tryz.prog 255 0 = some (0, 147):=by kernel_rfl
theorem tfield_255_1 : tfield Tryz.prog 255 1 = some (15, 252):=by kernel_rfl
theorem tfield_255_2 : tfield Tryz.prog 255 2 = some (16, 250):=by kernel_rfl
theorem tfield_255_3 : tfield Tryz.prog 255 3 = some (17, 4):=by kernel_rfl
theorem kshape_255 : kshape Tryz.prog 255 = none:=by kernel_rfl
theorem bytesOf_255 : Tryz.prog.bytesOf 255 = 240:=by kernel_rfl
theorem zeroOK_255 : zeroOK Tryz.prog 255 = true:=by kernel_rfl
theorem tk_257 : tk Tryz.prog 257 = .struct:=by kernel_rfl
theorem tsz_257 : tsz Tryz.prog 257 = 2:=by kernel_rfl
theorem tzero_257 : tzero Tryz.prog 257 = some (.agg [(.ptr none), (.int .i64 0)]):=by kernel_rfl
theorem tplaces_257 : tplaces Tryz.prog 257 = some [(0, 1), (1, 1)]:=by kernel_rfl
theorem tfield_257_0 : tfield Tryz.prog 257 0 = some (0, 251):=by kernel_rfl
theorem tfield_257_1 : tfield Tryz.prog 257 1 = some (1, 3):=by kernel_rfl
theorem kshape_257 : kshape Tryz.prog 257 = none:=by kernel_rfl
theorem bytesOf_257 : Tryz.prog.bytesOf 257 = 16:=by kernel_rfl
theorem zeroOK_257 : zeroOK Tryz.prog 257 = true:=by kernel_rfl
theorem tk_260 : tk Tryz.prog 260 = .func:=by kernel_rfl
theorem tsz_260 : tsz Tryz.prog 260 = 1:=by kernel_rfl
theorem tzero_260 : tzero Tryz.prog 260 = some .nilf:=by kernel_rfl
theorem kshape_260 : kshape Tryz.prog 260 = none:=by kernel_rfl
theorem bytesOf_260 : Tryz.prog.bytesOf 260 = 8:=by kernel_rfl
theorem zeroOK_260 : zeroOK Tryz.prog 260 = true:=by kernel_rfl
theorem tk_273 : tk Tryz.prog 273 = .struct:=by kernel_rfl
theorem tsz_273 : tsz Tryz.prog 273 = 4:=by kernel_rfl
theorem tzero_273 : tzero Tryz.prog 273 = some (.agg [(.int .i64 0), (.int .i64 0), (.str []), (.bool false)]):=by kernel_rfl
theorem tplaces_273 : tplaces Tryz.prog 273 = some [(0, 1), (1, 1), (2, 1), (3, 1)]:=by kernel_rfl
theorem tfield_273_0 : tfield Tryz.prog 273 0 = some (0, 3):=by kernel_rfl
theorem tfield_273_1 : tfield Tryz.prog 273 1 = some (1, 3):=by kernel_rfl
theorem tfield_273_2 : tfield Tryz.prog 273 2 = some (2, 9):=by kernel_rfl
theorem tfield_273_3 : tfield Tryz.prog 273 3 = some (3, 4):=by kernel_rfl
theorem kshape_273 : kshape Tryz.prog 273 = (some (.many [.int .i64, .int .i64, .str, .bool])):=by kernel_rfl
theorem bytesOf_273 : Tryz.prog.bytesOf 273 = 40:=by kernel_rfl
theorem zeroOK_273 : zeroOK Tryz.prog 273 = true:=by kernel_rfl
theorem tk_291 : tk Tryz.prog 291 = (.map 296 3):=by kernel_rfl
theorem tsz_291 : tsz Tryz.prog 291 = 1:=by kernel_rfl
theorem tzero_291 : tzero Tryz.prog 291 = some (.map none):=by kernel_rfl
theorem kshape_291 : kshape Tryz.prog 291 = none:=by kernel_rfl
theorem bytesOf_291 : Tryz.prog.bytesOf 291 = 8:=by kernel_rfl
theorem zeroOK_291 : zeroOK Tryz.prog 291 = true:=by kernel_rfl
theorem tk_292 : tk Tryz.prog 292 = (.slice 296):=by kernel_rfl
theorem tsz_292 : tsz Tryz.prog 292 = 1:=by kernel_rfl
theorem tzero_292 : tzero Tryz.prog 292 = some (.sl none 0 0):=by kernel_rfl
theorem kshape_292 : kshape Tryz.prog 292 = none:=by kernel_rfl
theorem bytesOf_292 : Tryz.prog.bytesOf 292 = 24:=by kernel_rfl
theorem zeroOK_292 : zeroOK Tryz.prog 292 = true:=by kernel_rfl
theorem tk_294 : tk Tryz.prog 294 = .struct:=by kernel_rfl
theorem tsz_294 : tsz Tryz.prog 294 = 5:=by kernel_rfl
theorem tzero_294 : tzero Tryz.prog 294 = some (.agg [(.map none), (.sl none 0 0), (.sl none 0 0), (.sl none 0 0), (.int .i64 0)]):=by kernel_rfl
theorem tplaces_294 : tplaces Tryz.prog 294 = some [(0, 1), (1, 1), (2, 1), (3, 1), (4, 1)]:=by kernel_rfl
theorem tfield_294_0 : tfield Tryz.prog 294 0 = some (0, 291):=by kernel_rfl
theorem tfield_294_1 : tfield Tryz.prog 294 1 = some (1, 292):=by kernel_rfl
theorem tfield_294_2 : tfield Tryz.prog 294 2 = some (2, 221):=by kernel_rfl
theorem tfield_294_3 : tfield Tryz.prog 294 3 = some (3, 22):=by kernel_rfl
theorem tfield_294_4 : tfield Tryz.prog 294 4 = some (4, 3):=by kernel_rfl
theorem kshape_294 : kshape Tryz.prog 294 = none:=by kernel_rfl
theorem bytesOf_294 : Tryz.prog.bytesOf 294 = 88:=by kernel_rfl
theorem zeroOK_294 : zeroOK Tryz.prog 294 = true:=by kernel_rfl
theorem tk_296 : tk Tryz.prog 296 = .struct:=by kernel_rfl
theorem tsz_296 : tsz Tryz.prog 296 = 2:=by kernel_rfl
theorem tzero_296 : tzero Tryz.prog 296 = some (.agg [(.int .i64 0), (.int .u8 0)]):=by kernel_rfl
theorem tplaces_296 : tplaces Tryz.prog 296 = some [(0, 1), (1, 1)]:=by kernel_rfl
theorem tfield_296_0 : tfield Tryz.prog 296 0 = some (0, 3):=by kernel_rfl
theorem tfield_296_1 : tfield Tryz.prog 296 1 = some (1, 5):=by kernel_rfl
theorem kshape_296 : kshape Tryz.prog 296 = (some (.many [.int .i64, .int .u8])):=by kernel_rfl
theorem bytesOf_296 : Tryz.prog.bytesOf 296 = 16:=by kernel_rfl
theorem zeroOK_296 : zeroOK Tryz.prog 296 = true:=by kernel_rfl
theorem tk_297 : tk Tryz.prog 297 = (.int .u16):=by kernel_rfl
theorem tsz_297 : tsz Tryz.prog 297 = 1:=by kernel_rfl
theorem tzero_297 : tzero Tryz.prog 297 = some (.int .u16 0):=by kernel_rfl
theorem kshape_297 : kshape Tryz.prog 297 = (some (.one (.int .u16))):=by kernel_rfl
theorem bytesOf_297 : Tryz.prog.bytesOf 297 = 2:=by kernel_rfl
theorem zeroOK_297 : zeroOK Tryz.prog 297 = true:=by kernel_rfl
theorem tk_298 : tk Tryz.prog 298 = (.arr 256 297):=by kernel_rfl
theorem tsz_298 : tsz Tryz.prog 298 = 256:=by kernel_rfl
theorem kshape_298 : kshape Tryz.prog 298 = none:=by kernel_rfl
theorem bytesOf_298 : Tryz.prog.bytesOf 298 = 512:=by kernel_rfl
theorem zeroOK_298 : zeroOK Tryz.prog 298 = true:=by kernel_rfl
theorem tk_307 : tk Tryz.prog 307 = (.slice 314):=by kernel_rfl
theorem tsz_307 : tsz Tryz.prog 307 = 1:=by kernel_rfl
theorem tzero_307 : tzero Tryz.prog 307 = some (.sl none 0 0):=by kernel_rfl
theorem kshape_307 : kshape Tryz.prog 307 = none:=by kernel_rfl
theorem bytesOf_307 : Tryz.prog.bytesOf 307 = 24:=by kernel_rfl
theorem zeroOK_307 : zeroOK Tryz.prog 307 = true:=by kernel_rfl
theorem tk_308 : tk Tryz.prog 308 = (.slice 313):=by kernel_rfl
theorem tsz_308 : tsz Tryz.prog 308 = 1:=by kernel_rfl
theorem tzero_308 : tzero Tryz.prog 308 = some (.sl none 0 0):=by kernel_rfl
theorem kshape_308 : kshape Tryz.prog 308 = none:=by kernel_rfl
theorem bytesOf_308 : Tryz.prog.bytesOf 308 = 24:=by kernel_rfl
theorem zeroOK_308 : zeroOK Tryz.prog 308 = true:=by kernel_rfl
theorem tk_310 : tk Tryz.prog 310 = .struct:=by kernel_rfl
theorem tsz_310 : tsz Tryz.prog 310 = 6:=by kernel_rfl
theorem tzero_310 : tzero Tryz.prog 310 = some (.agg [(.int .i64 0), (.int .i64 0), (.sl none 0 0), (.sl none 0 0), (.bool false), (.bool false)]):=by kernel_rfl
theorem tplaces_310 : tplaces Tryz.prog 310 = some [(0, 1), (1, 1), (2, 1), (3, 1), (4, 1), (5, 1)]:=by kernel_rfl
theorem tfield_310_0 : tfield Tryz.prog 310 0 = some (0, 3):=by kernel_rfl
theorem tfield_310_1 : tfield Tryz.prog 310 1 = some (1, 3):=by kernel_rfl
theorem tfield_310_2 : tfield Tryz.prog 310 2 = some (2, 307):=by kernel_rfl
theorem tfield_310_3 : tfield Tryz.prog 310 3 = some (3, 308):=by kernel_rfl
theorem tfield_310_4 : tfield Tryz.prog 310 4 = some (4, 4):=by kernel_rfl
theorem tfield_310_5 : tfield Tryz.prog 310 5 = some (5, 4):=by kernel_rfl
theorem kshape_310 : kshape Tryz.prog 310 = none:=by kernel_rfl
theorem bytesOf_310 : Tryz.prog.bytesOf 310 = 72:=by kernel_rfl
theorem zeroOK_310 : zeroOK Tryz.prog 310 = true:=by kernel_rfl
theorem tk_311 : tk Tryz.prog 311 = (.ptr 350):=by kernel_rfl
theorem tsz_311 : tsz Tryz.prog 311 = 1:=by kernel_rfl
theorem tzero_311 : tzero Tryz.prog 311 = some (.ptr none):=by kernel_rfl
theorem kshape_311 : kshape Tryz.prog 311 = none:=by kernel_rfl
theorem bytesOf_311 : Tryz.prog.bytesOf 311 = 8:=by kernel_rfl
theorem zeroOK_311 : zeroOK Tryz.prog 311 = true:=by kernel_rfl
theorem tk_313 : tk Tryz.prog 313 = .struct:=by kernel_rfl
theorem tsz_313 : tsz Tryz.prog 313 = 15:=by kernel_rfl
theorem tzero_313 : tzero Tryz.prog 313 = some (.agg [(.str []), (.bool false), (.bool false), (.int .i64 0), (.int .i64 0), (.bool false), (.int .i64 0), (.int .i64 0), (.int .i64 0), (.bool false), (.int .i64 0), (.bool false), (.ptr none), (.int .i64 0), (.bool false)]):=by kernel_rfl
theorem tplaces_313 : tplaces Tryz.prog 313 = some [(0, 8), (8, 1), (9, 1), (10, 1), (11, 1), (12, 1), (13, 1), (14, 1)]:=by kernel_rfl
theorem tfield_313_0 : tfield Tryz.prog 313 0 = some (0, 149):=by kernel_rfl
theorem tfield_313_1 : tfield Tryz.prog 313 1 = some (8, 3):=by kernel_rfl
theorem tfield_313_2 : tfield Tryz.prog 313 2 = some (9, 4):=by kernel_rfl
theorem tfield_313_3 : tfield Tryz.prog 313 3 = some (10, 3):=by kernel_rfl
theorem tfield_313_4 : tfield Tryz.prog 313 4 = some (11, 4):=by kernel_rfl
theorem tfield_313_5 : tfield Tryz.prog 313 5 = some (12, 311):=by kernel_rfl
theorem tfield_313_6 : tfield Tryz.prog 313 6 = some (13, 3):=by kernel_rfl
theorem tfield_313_7 : tfield Tryz.prog 313 7 = some (14, 4):=by kernel_rfl
theorem kshape_313 : kshape Tryz.prog 313 = none:=by kernel_rfl
theorem bytesOf_313 : Tryz.prog.bytesOf 313 = 120:=by kernel_rfl
theorem zeroOK_313 : zeroOK Tryz.prog 313 = true:=by kernel_rfl
theorem tk_314 : tk Tryz.prog 314 = (.ptr 313):=by kernel_rfl
theorem tsz_314 : tsz Tryz.prog 314 = 1:=by kernel_rfl
theorem tzero_314 : tzero Tryz.prog 314 = some (.ptr none):=by kernel_rfl
theorem kshape_314 : kshape Tryz.prog 314 = none:=by kernel_rfl
theorem bytesOf_314 : Tryz.prog.bytesOf 314 = 8:=by kernel_rfl
theorem zeroOK_314 : zeroOK Tryz.prog 314 = true:=by kernel_rfl
theorem tk_315 : tk Tryz.prog 315 = (.arr 16 5):=by kernel_rfl
theorem tsz_315 : tsz Tryz.prog 315 = 16:=by kernel_rfl
theorem tzero_315 : tzero Tryz.prog 315 = some (.agg [(.int .u8 0), (.int .u8 0), (.int .u8 0), (.int .u8 0), (.int .u8 0), (.int .u8 0), (.int .u8 0), (.int .u8 0), (.int .u8 0), (.int .u8 0), (.int .u8 0), (.int .u8 0), (.int .u8 0), (.int .u8 0), (.int .u8 0), (.int .u8 0)]):=by kernel_rfl
theorem kshape_315 : kshape Tryz.prog 315 = none:=by kernel_rfl
theorem bytesOf_315 : Tryz.prog.bytesOf 315 = 16:=by kernel_rfl
theorem zeroOK_315 : zeroOK Tryz.prog 315 = true:=by kernel_rfl
theorem tk_317 : tk Tryz.prog 317 = .struct:=by kernel_rfl
theorem tsz_317 : tsz Tryz.prog 317 = 21:=by kernel_rfl
theorem tzero_317 : tzero Tryz.prog 317 = some (.agg [(.ptr none), (.sl none 0 0), (.sl none 0 0), (.int .i64 0), (.int .i64 0), (.int .u8 0), (.int .u8 0), (.int .u8 0), (.int .u8 0), (.int .u8 0), (.int .u8 0), (.int .u8 0), (.int .u8 0), (.int .u8 0), (.int .u8 0), (.int .u8 0), (.int .u8 0), (.int .u8 0), (.int .u8 0), (.int .u8 0), (.int .u8 0)]):=by kernel_rfl
theorem tplaces_317 : tplaces Tryz.prog 317 = some [(0, 1), (1, 1), (2, 1), (3, 1), (4, 1), (5, 16)]:=by kernel_rfl
theorem tfield_317_0 : tfield Tryz.prog 317 0 = some (0, 151):=by kernel_rfl
theorem tfield_317_1 : tfield Tryz.prog 317 1 = some (1, 138):=by kernel_rfl
theorem tfield_317_2 : tfield Tryz.prog 317 2 = some (2, 250):=by kernel_rfl
theorem tfield_317_3 : tfield Tryz.prog 317 3 = some (3, 3):=by kernel_rfl
theorem tfield_317_4 : tfield Tryz.prog 317 4 = some (4, 3):=by kernel_rfl
theorem tfield_317_5 : tfield Tryz.prog 317 5 = some (5, 315):=by kernel_rfl
theorem kshape_317 : kshape Tryz.prog 317 = none:=by kernel_rfl
theorem bytesOf_317 : Tryz.prog.bytesOf 317 = 88:=by kernel_rfl
theorem zeroOK_317 : zeroOK Tryz.prog 317 = true:=by kernel_rfl
theorem tk_329 : tk Tryz.prog 329 = .struct:=by kernel_rfl
theorem tsz_329 : tsz Tryz.prog 329 = 8:=by kernel_rfl
theorem tzero_329 : tzero Tryz.prog 329 = some (.agg [(.int .u32 0), (.int .i64 0), (.int .i64 0), (.int .i64 0), (.map none), (.str []), (.int .i64 0), (.bool false)]):=by kernel_rfl
theorem tplaces_329 : tplaces Tryz.prog 329 = some [(0, 1), (1, 1), (2, 1), (3, 1), (4, 1), (5, 1), (6, 1), (7, 1)]:=by kernel_rfl
theorem tfield_329_0 : tfield Tryz.prog 329 0 = some (0, 28):=by kernel_rfl
theorem tfield_329_1 : tfield Tryz.prog 329 1 = some (1, 3):=by kernel_rfl
theorem tfield_329_2 : tfield Tryz.prog 329 2 = some (2, 3):=by kernel_rfl
theorem tfield_329_3 : tfield Tryz.prog 329 3 = some (3, 3):=by kernel_rfl
theorem tfield_329_4 : tfield Tryz.prog 329 4 = some (4, 73):=by kernel_rfl
theorem tfield_329_5 : tfield Tryz.prog 329 5 = some (5, 9):=by kernel_rfl
theorem tfield_329_6 : tfield Tryz.prog 329 6 = some (6, 3):=by kernel_rfl
theorem tfield_329_7 : tfield Tryz.prog 329 7 = some (7, 4):=by kernel_rfl
theorem kshape_329 : kshape Tryz.prog 329 = none:=by kernel_rfl
theorem bytesOf_329 : Tryz.prog.bytesOf 329 = 72:=by kernel_rfl
theorem zeroOK_329 : zeroOK Tryz.prog 329 = true:=by kernel_rfl
theorem tk_338 : tk Tryz.prog 338 = .struct:=by kernel_rfl
theorem tsz_338 : tsz Tryz.prog 338 = 2:=by kernel_rfl
theorem tzero_338 : tzero Tryz.prog 338 = some (.agg [(.int .u32 0), (.int .i64 0)]):=by kernel_rfl
theorem tplaces_338 : tplaces Tryz.prog 338 = some [(0, 1), (1, 1)]:=by kernel_rfl
theorem tfield_338_0 : tfield Tryz.prog 338 0 = some (0, 28):=by kernel_rfl
theorem tfield_338_1 : tfield Tryz.prog 338 1 = some (1, 3):=by kernel_rfl
theorem kshape_338 : kshape Tryz.prog 338 = (some (.many [.int .u32, .int .i64])):=by kernel_rfl
theorem bytesOf_338 : Tryz.prog.bytesOf 338 = 16:=by kernel_rfl
theorem zeroOK_338 : zeroOK Tryz.prog 338 = true:=by kernel_rfl
theorem tk_340 : tk Tryz.prog 340 = .struct:=by kernel_rfl
theorem tsz_340 : tsz Tryz.prog 340 = 2:=by kernel_rfl
theorem tzero_340 : tzero Tryz.prog 340 = some (.agg [(.int .i64 0), (.int .i64 0)]):=by kernel_rfl
theorem tplaces_340 : tplaces Tryz.prog 340 = some [(0, 1), (1, 1)]:=by kernel_rfl
theorem tfield_340_0 : tfield Tryz.prog 340 0 = some (0, 3):=by kernel_rfl
theorem tfield_340_1 : tfield Tryz.prog 340 1 = some (1, 3):=by kernel_rfl
theorem kshape_340 : kshape Tryz.prog 340 = (some (.many [.int .i64, .int .i64])):=by kernel_rfl
theorem bytesOf_340 : Tryz.prog.bytesOf 340 = 16:=by kernel_rfl
theorem zeroOK_340 : zeroOK Tryz.prog 340 = true:=by kernel_rfl
theorem tk_350 : tk Tryz.prog 350 = .struct:=by kernel_rfl
theorem tsz_350 : tsz Tryz.prog 350 = 2:=by kernel_rfl
theorem tzero_350 : tzero Tryz.prog 350 = some (.agg [(.int .i64 0), (.ptr none)]):=by kernel_rfl
theorem tplaces_350 : tplaces Tryz.prog 350 = some [(0, 1), (1, 1)]:=by kernel_rfl
theorem tfield_350_0 : tfield Tryz.prog 350 0 = some (0, 3):=by kernel_rfl
theorem tfield_350_1 : tfield Tryz.prog 350 1 = some (1, 311):=by kernel_rfl
theorem kshape_350 : kshape Tryz.prog 350 = none:=by kernel_rfl
theorem bytesOf_350 : Tryz.prog.bytesOf 350 = 16:=by kernel_rfl
theorem zeroOK_350 : zeroOK Tryz.prog 350 = true:=by kernel_rfl
attribute [simp] tk_3 tsz_3 tzero_3 kshape_3 bytesOf_3 zeroOK_3 tk_4 tsz_4 tzero_4 kshape_4 bytesOf_4 zeroOK_4 tk_5 tsz_5 tzero_5 kshape_5 bytesOf_5 zeroOK_5 tk_9 tsz_9 tzero_9 kshape_9 bytesOf_9 zeroOK_9 tk_21 tsz_21 tzero_21 kshape_21 bytesOf_21 zeroOK_21 tk_22 tsz_22 tzero_22 kshape_22 bytesOf_22 zeroOK_22 tk_26 tsz_26 tzero_26 kshape_26 bytesOf_26 zeroOK_26 tk_28 tsz_28 tzero_28 kshape_28 bytesOf_28 zeroOK_28 tk_32 tsz_32 tzero_32 tplaces_32 tfield_32_0 tfield_32_1 tfield_32_2 kshape_32 bytesOf_32 zeroOK_32 tk_33 tsz_33 tzero_33 kshape_33 bytesOf_33 zeroOK_33 tk_35 tsz_35 tzero_35 tplaces_35 tfield_35_0 tfield_35_1 tfield_35_2 tfield_35_3 tfield_35_4 tfield_35_5 tfield_35_6 tfield_35_7 tfield_35_8 tfield_35_9 tfield_35_10 tfield_35_11 tfield_35_12 tfield_35_13 kshape_35 bytesOf_35 zeroOK_35 tk_36 tsz_36 tzero_36 kshape_36 bytesOf_36 zeroOK_36 tk_40 tsz_40 tzero_40 tplaces_40 tfield_40_0 tfield_40_1 tfield_40_2 tfield_40_3 tfield_40_4 tfield_40_5 tfield_40_6 tfield_40_7 tfield_40_8 kshape_40 bytesOf_40 zeroOK_40 tk_43 tsz_43 tzero_43 tplaces_43 tfield_43_0 tfield_43_1 tfield_43_2 tfield_43_3 tfield_43_4 kshape_43 bytesOf_43 zeroOK_43 tk_46 tsz_46 tzero_46 kshape_46 bytesOf_46 zeroOK_46 tk_49 tsz_49 tzero_49 kshape_49 bytesOf_49 zeroOK_49 tk_51 tsz_51 tzero_51 tplaces_51 tfield_51_0 tfield_51_1 tfield_51_2 tfield_51_3 kshape_51 bytesOf_51 zeroOK_51 tk_54 tsz_54 tzero_54 kshape_54 bytesOf_54 zeroOK_54 tk_56 tsz_56 tzero_56 tplaces_56 tfield_56_0 tfield_56_1 tfield_56_2 tfield_56_3 tfield_56_4 tfield_56_5 tfield_56_6 kshape_56 bytesOf_56 zeroOK_56 tk_58 tsz_58 tzero_58 kshape_58 bytesOf_58 zeroOK_58 tk_60 tsz_60 tzero_60 tplaces_60 tfield_60_0 tfield_60_1 tfield_60_2 kshape_60 bytesOf_60 zeroOK_60 tk_63 tsz_63 tzero_63 tplaces_63 tfield_63_0 tfield_63_1 tfield_63_2 tfield_63_3 tfield_63_4 tfield_63_5 tfield_63_6 tfield_63_7 tfield_63_8 tfield_63_9 kshape_63 bytesOf_63 zeroOK_63 tk_65 tsz_65 tzero_65 kshape_65 bytesOf_65 zeroOK_65 tk_68 tsz_68 tzero_68 kshape_68 bytesOf_68 zeroOK_68 tk_70 tsz_70 tzero_70 tplaces_70 tfield_70_0 tfield_70_1 tfield_70_2 tfield_70_3 kshape_70 bytesOf_70 zeroOK_70 tk_73 tsz_73 tzero_73 kshape_73 bytesOf_73 zeroOK_73 tk_78 tsz_78 tzero_78 tplaces_78 tfield_78_0 tfield_78_1 tfield_78_2 kshape_78 bytesOf_78 zeroOK_78 tk_85 tsz_85 tzero_85 kshape_85 bytesOf_85 zeroOK_85 tk_87 tsz_87 tzero_87 kshape_87 bytesOf_87 zeroOK_87 tk_89 tsz_89 tzero_89 kshape_89 bytesOf_89 zeroOK_89 tk_91 tsz_91 tzero_91 kshape_91 bytesOf_91 zeroOK_91 tk_92 tsz_92 tzero_92 kshape_92 bytesOf_92 zeroOK_92 tk_94 tsz_94 tzero_94 tplaces_94 tfield_94_0 tfield_94_1 tfield_94_2 tfield_94_3 tfield_94_4 tfield_94_5 tfield_94_6 tfield_94_7 kshape_94 bytesOf_94 zeroOK_94 tk_95 tsz_95 tzero_95 kshape_95 bytesOf_95 zeroOK_95 tk_99 tsz_99 tzero_99 kshape_99 bytesOf_99 zeroOK_99 tk_102 tsz_102 tzero_102 tplaces_102 tfield_102_0 tfield_102_1 kshape_102 bytesOf_102 zeroOK_102 tk_112 tsz_112 tzero_112 kshape_112 bytesOf_112 zeroOK_112 tk_114 tsz_114 tzero_114 tplaces_114 tfield_114_0 tfield_114_1 tfield_114_2 kshape_114 bytesOf_114 zeroOK_114 tk_115 tsz_115 tzero_115 kshape_115 bytesOf_115 zeroOK_115 tk_117 tsz_117 tzero_117 tplaces_117 tfield_117_0 tfield_117_1 tfield_117_2 tfield_117_3 tfield_117_4 kshape_117 bytesOf_117 zeroOK_117 tk_118 tsz_118 tzero_118 kshape_118 bytesOf_118 zeroOK_118 tk_120 tsz_120 tzero_120 tplaces_120 tfield_120_0 tfield_120_1 tfield_120_2 tfield_120_3 tfield_120_4 tfield_120_5 kshape_120 bytesOf_120 zeroOK_120 tk_121 tsz_121 tzero_121 kshape_121 bytesOf_121 zeroOK_121 tk_122 tsz_122 tzero_122 kshape_122 bytesOf_122 zeroOK_122 tk_124 tsz_124 tzero_124 tplaces_124 tfield_124_0 tfield_124_1 tfield_124_2 kshape_124 bytesOf_124 zeroOK_124 tk_126 tsz_126 tzero_126 tplaces_126 tfield_126_0 tfield_126_1 kshape_126 bytesOf_126 zeroOK_126 tk_127 tsz_127 tzero_127 kshape_127 bytesOf_127 zeroOK_127 tk_128 tsz_128 tzero_128 kshape_128 bytesOf_128 zeroOK_128 tk_130 tsz_130 tzero_130 tplaces_130 tfield_130_0 tfield_130_1 tfield_130_2 tfield_130_3 tfield_130_4 tfield_130_5 tfield_130_6 tfield_130_7 tfield_130_8 tfield_130_9 tfield_130_10 tfield_130_11 tfield_130_12 kshape_130 bytesOf_130 zeroOK_130 tk_131 tsz_131 tzero_131 kshape_131 bytesOf_131 zeroOK_131 tk_132 tsz_132 tzero_132 kshape_132 bytesOf_132 zeroOK_132 tk_138 tsz_138 tzero_138 kshape_138 bytesOf_138 zeroOK_138 tk_139 tsz_139 tzero_139 kshape_139 bytesOf_139 zeroOK_139 tk_141 tsz_141 tzero_141 tplaces_141 tfield_141_0 tfield_141_1 kshape_141 bytesOf_141 zeroOK_141 tk_142 tsz_142 tzero_142 kshape_142 bytesOf_142 zeroOK_142 tk_144 tsz_144 tzero_144 tplaces_144 tfield_144_0 tfield_144_1 kshape_144 bytesOf_144 zeroOK_144 tk_145 tsz_145 tzero_145 kshape_145 bytesOf_145 zeroOK_145 tk_147 tsz_147 tzero_147 tplaces_147 tfield_147_0 tfield_147_1 tfield_147_2 tfield_147_3 tfield_147_4 tfield_147_5 tfield_147_6 tfield_147_7 tfield_147_8 tfield_147_9 tfield_147_10 kshape_147 bytesOf_147 zeroOK_147 tk_149 tsz_149 tzero_149 tplaces_149 tfield_149_0 tfield_149_1 tfield_149_2 tfield_149_3 tfield_149_4 tfield_149_5 tfield_149_6 tfield_149_7 kshape_149 bytesOf_149 zeroOK_149 tk_151 tsz_151 tzero_151 kshape_151 bytesOf_151 zeroOK_151 tk_165 tsz_165 tzero_165 kshape_165 bytesOf_165 zeroOK_165 tk_170 tsz_170 tzero_170 kshape_170 bytesOf_170 zeroOK_170 tk_175 tsz_175 tzero_175 tplaces_175 tfield_175_0 tfield_175_1 tfield_175_2 tfield_175_3 tfield_175_4 kshape_175 bytesOf_175 zeroOK_175 tk_184 tsz_184 tzero_184 kshape_184 bytesOf_184 zeroOK_184 tk_185 tsz_185 tzero_185 kshape_185 bytesOf_185 zeroOK_185 tk_186 tsz_186 tzero_186 kshape_186 bytesOf_186 zeroOK_186 tk_187 tsz_187 tzero_187 kshape_187 bytesOf_187 zeroOK_187 tk_188 tsz_188 tzero_188 kshape_188 bytesOf_188 zeroOK_188 tk_190 tsz_190 tzero_190 tplaces_190 tfield_190_0 tfield_190_1 tfield_190_2 tfield_190_3 tfield_190_4 tfield_190_5 kshape_190 bytesOf_190 zeroOK_190 tk_204 tsz_204 tzero_204 tplaces_204 tfield_204_0 tfield_204_1 tfield_204_2 tfield_204_3 kshape_204 bytesOf_204 zeroOK_204 tk_205 tsz_205 tzero_205 kshape_205 bytesOf_205 zeroOK_205 tk_207 tsz_207 tzero_207 tplaces_207 tfield_207_0 tfield_207_1 tfield_207_2 kshape_207 bytesOf_207 zeroOK_207 tk_218 tsz_218 tzero_218 kshape_218 bytesOf_218 zeroOK_218 tk_220 tsz_220 tzero_220 kshape_220 bytesOf_220 zeroOK_220 tk_221 tsz_221 tzero_221 kshape_221 bytesOf_221 zeroOK_221 tk_223 tsz_223 tzero_223 tplaces_223 tfield_223_0 tfield_223_1 tfield_223_2 kshape_223 bytesOf_223 zeroOK_223 tk_225 tsz_225 tzero_225 kshape_225 bytesOf_225 zeroOK_225 tk_227 tsz_227 tzero_227 kshape_227 bytesOf_227 zeroOK_227 tk_229 tsz_229 tzero_229 tplaces_229 tfield_229_0 tfield_229_1 kshape_229 bytesOf_229 zeroOK_229 tk_231 tsz_231 tzero_231 tplaces_231 tfield_231_0 tfield_231_1 tfield_231_2 kshape_231 bytesOf_231 zeroOK_231 tk_245 tsz_245 tzero_245 kshape_245 bytesOf_245 zeroOK_245 tk_246 tsz_246 tzero_246 kshape_246 bytesOf_246 zeroOK_246 tk_247 tsz_247 tzero_247 kshape_247 bytesOf_247 zeroOK_247 tk_249 tsz_249 tzero_249 tplaces_249 tfield_249_0 tfield_249_1 tfield_249_2 tfield_249_3 kshape_249 bytesOf_249 zeroOK_249 tk_250 tsz_250 tzero_250 kshape_250 bytesOf_250 zeroOK_250 tk_251 tsz_251 tzero_251 kshape_251 bytesOf_251 zeroOK_251 tk_252 tsz_252 tzero_252 kshape_252 bytesOf_252 zeroOK_252 tk_255 tsz_255 tzero_255 tplaces_255 tfield_255_0 tfield_255_1 tfield_255_2 tfield_255_3 kshape_255 bytesOf_255 zeroOK_255 tk_257 tsz_257 tzero_257 tplaces_257 tfield_257_0 tfield_257_1 kshape_257 bytesOf_257 zeroOK_257 tk_260 tsz_260 tzero_260 kshape_260 bytesOf_260 zeroOK_260 tk_273 tsz_273 tzero_273 tplaces_273 tfield_273_0 tfield_273_1 tfield_273_2 tfield_273_3 kshape_273 bytesOf_273 zeroOK_273 tk_291 tsz_291 tzero_291 kshape_291 bytesOf_291 zeroOK_291 tk_292 tsz_292 tzero_292 kshape_292 bytesOf_292 zeroOK_292 tk_294 tsz_294 tzero_294 tplaces_294 tfield_294_0 tfield_294_1 tfield_294_2 tfield_294_3 tfield_294_4 kshape_294 bytesOf_294 zeroOK_294 tk_296 tsz_296 tzero_296 tplaces_296 tfield_296_0 tfield_296_1 kshape_296 bytesOf_296 zeroOK_296 tk_297 tsz_297 tzero_297 kshape_297 bytesOf_297 zeroOK_297 tk_298 tsz_298 kshape_298 bytesOf_298 zeroOK_298 tk_307 tsz_307 tzero_307 kshape_307 bytesOf_307 zeroOK_307 tk_308 tsz_308 tzero_308 kshape_308 bytesOf_308 zeroOK_308 tk_310 tsz_310 tzero_310 tplaces_310 tfield_310_0 tfield_310_1 tfield_310_2 tfield_310_3 tfield_310_4 tfield_310_5 kshape_310 bytesOf_310 zeroOK_310 tk_311 tsz_311 tzero_311 kshape_311 bytesOf_311 zeroOK_311 tk_313 tsz_313 tzero_313 tplaces_313 tfield_313_0 tfield_313_1 tfield_313_2 tfield_313_3 tfield_313_4 tfield_313_5 tfield_313_6 tfield_313_7 kshape_313 bytesOf_313 zeroOK_313 tk_314 tsz_314 tzero_314 kshape_314 bytesOf_314 zeroOK_314 tk_315 tsz_315 tzero_315 kshape_315 bytesOf_315 zeroOK_315 tk_317 tsz_317 tzero_317 tplaces_317 tfield_317_0 tfield_317_1 tfield_317_2 tfield_317_3 tfield_317_4 tfield_317_5 kshape_317 bytesOf_317 zeroOK_317 tk_329 tsz_329 tzero_329 tplaces_329 tfield_329_0 tfield_329_1 tfield_329_2 tfield_329_3 tfield_329_4 tfield_329_5 tfield_329_6 tfield_329_7 kshape_329 bytesOf_329 zeroOK_329 tk_338 tsz_338 tzero_338 tplaces_338 tfield_338_0 tfield_338_1 kshape_338 bytesOf_338 zeroOK_338 tk_340 tsz_340 tzero_340 tplaces_340 tfield_340_0 tfield_340_1 kshape_340 bytesOf_340 zeroOK_340 tk_350 tsz_350 tzero_350 tplaces_350 tfield_350_0 tfield_350_1 kshape_350 bytesOf_350 zeroOK_350
end Go.AM
