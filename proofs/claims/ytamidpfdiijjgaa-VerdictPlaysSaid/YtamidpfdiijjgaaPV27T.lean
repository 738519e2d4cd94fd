/-
  Printed by program (wip/tools/print.sh): compiled code.
-/
import Derived.Test.YtamidpfdiijjgaaP27AMb
import Derived.Test.YtamidpfdiijjgaaProg
namespace Go.AM
open Go Go.Proofs
set_option maxRecDepth 100000
theorem tk_3:tk Try.prog 3=(.int .i64):=by kernel_rfl
theorem tsz_3:tsz Try.prog 3=1:=by kernel_rfl
theorem tzero_3:tzero Try.prog 3=some (.int .i64 0):=by kernel_rfl
theorem kshape_3:kshape Try.prog 3=(some (.one (.int .i64))):=by kernel_rfl
theorem bytesOf_3:Try.prog.bytesOf 3=8:=by kernel_rfl
theorem zeroOK_3:zeroOK Try.prog 3=true:=by kernel_rfl
theorem tk_4:tk Try.prog 4=.bool:=by kernel_rfl
theorem tsz_4:tsz Try.prog 4=1:=by kernel_rfl
theorem tzero_4:tzero Try.prog 4=some (.bool false):=by kernel_rfl
theorem kshape_4:kshape Try.prog 4=(some (.one (.bool))):=by kernel_rfl
theorem bytesOf_4:Try.prog.bytesOf 4=1:=by kernel_rfl
theorem zeroOK_4:zeroOK Try.prog 4=true:=by kernel_rfl
theorem tk_5:tk Try.prog 5=(.int .u8):=by kernel_rfl
theorem tsz_5:tsz Try.prog 5=1:=by kernel_rfl
theorem tzero_5:tzero Try.prog 5=some (.int .u8 0):=by kernel_rfl
theorem kshape_5:kshape Try.prog 5=(some (.one (.int .u8))):=by kernel_rfl
theorem bytesOf_5:Try.prog.bytesOf 5=1:=by kernel_rfl
theorem zeroOK_5:zeroOK Try.prog 5=true:=by kernel_rfl
theorem tk_9:tk Try.prog 9=.str:=by kernel_rfl
theorem tsz_9:tsz Try.prog 9=1:=by kernel_rfl
theorem tzero_9:tzero Try.prog 9=some (.str []):=by kernel_rfl
theorem kshape_9:kshape Try.prog 9=(some (.one (.str))):=by kernel_rfl
theorem bytesOf_9:Try.prog.bytesOf 9=16:=by kernel_rfl
theorem zeroOK_9:zeroOK Try.prog 9=true:=by kernel_rfl
theorem tk_23:tk Try.prog 23=(.ptr 116):=by kernel_rfl
theorem tsz_23:tsz Try.prog 23=1:=by kernel_rfl
theorem tzero_23:tzero Try.prog 23=some (.ptr none):=by kernel_rfl
theorem kshape_23:kshape Try.prog 23=none:=by kernel_rfl
theorem bytesOf_23:Try.prog.bytesOf 23=8:=by kernel_rfl
theorem zeroOK_23:zeroOK Try.prog 23=true:=by kernel_rfl
theorem tk_25:tk Try.prog 25=(.slice 5):=by kernel_rfl
theorem tsz_25:tsz Try.prog 25=1:=by kernel_rfl
theorem tzero_25:tzero Try.prog 25=some (.sl none 0 0):=by kernel_rfl
theorem kshape_25:kshape Try.prog 25=none:=by kernel_rfl
theorem bytesOf_25:Try.prog.bytesOf 25=24:=by kernel_rfl
theorem zeroOK_25:zeroOK Try.prog 25=true:=by kernel_rfl
theorem tk_30:tk Try.prog 30=(.slice 3):=by kernel_rfl
theorem tsz_30:tsz Try.prog 30=1:=by kernel_rfl
theorem tzero_30:tzero Try.prog 30=some (.sl none 0 0):=by kernel_rfl
theorem kshape_30:kshape Try.prog 30=none:=by kernel_rfl
theorem bytesOf_30:Try.prog.bytesOf 30=24:=by kernel_rfl
theorem zeroOK_30:zeroOK Try.prog 30=true:=by kernel_rfl
theorem tk_38:tk Try.prog 38=(.slice 9):=by kernel_rfl
theorem tsz_38:tsz Try.prog 38=1:=by kernel_rfl
theorem tzero_38:tzero Try.prog 38=some (.sl none 0 0):=by kernel_rfl
theorem kshape_38:kshape Try.prog 38=none:=by kernel_rfl
theorem bytesOf_38:Try.prog.bytesOf 38=24:=by kernel_rfl
theorem zeroOK_38:zeroOK Try.prog 38=true:=by kernel_rfl
theorem tk_42:tk Try.prog 42=(.slice 52):=by kernel_rfl
theorem tsz_42:tsz Try.prog 42=1:=by kernel_rfl
theorem tzero_42:tzero Try.prog 42=some (.sl none 0 0):=by kernel_rfl
theorem kshape_42:kshape Try.prog 42=none:=by kernel_rfl
theorem bytesOf_42:Try.prog.bytesOf 42=24:=by kernel_rfl
theorem zeroOK_42:zeroOK Try.prog 42=true:=by kernel_rfl
theorem tk_44:tk Try.prog 44=(.slice 30):=by kernel_rfl
theorem tsz_44:tsz Try.prog 44=1:=by kernel_rfl
theorem tzero_44:tzero Try.prog 44=some (.sl none 0 0):=by kernel_rfl
theorem kshape_44:kshape Try.prog 44=none:=by kernel_rfl
theorem bytesOf_44:Try.prog.bytesOf 44=24:=by kernel_rfl
theorem zeroOK_44:zeroOK Try.prog 44=true:=by kernel_rfl
theorem tk_52:tk Try.prog 52=.struct:=by kernel_rfl
theorem tsz_52:tsz Try.prog 52=8:=by kernel_rfl
theorem tzero_52:tzero Try.prog 52=some (.agg [(.str []),(.bool false),(.bool false),(.int .i64 0),(.int .i64 0),(.bool false),(.int .i64 0),(.int .i64 0)]):=by kernel_rfl
theorem tplaces_52:tplaces Try.prog 52=some [(0,1),(1,1),(2,1),(3,1),(4,1),(5,1),(6,1),(7,1)]:=by kernel_rfl
theorem tfield_52_0:tfield Try.prog 52 0=some (0,9):=by kernel_rfl
theorem tfield_52_1:tfield Try.prog 52 1=some (1,4):=by kernel_rfl
theorem tfield_52_2:tfield Try.prog 52 2=some (2,4):=by kernel_rfl
theorem tfield_52_3:tfield Try.prog 52 3=some (3,3):=by kernel_rfl
theorem tfield_52_4:tfield Try.prog 52 4=some (4,3):=by kernel_rfl
theorem tfield_52_5:tfield Try.prog 52 5=some (5,4):=by kernel_rfl
theorem tfield_52_6:tfield Try.prog 52 6=some (6,3):=by kernel_rfl
theorem tfield_52_7:tfield Try.prog 52 7=some (7,3):=by kernel_rfl
theorem kshape_52:kshape Try.prog 52=(some (.many [.str,.bool,.bool,.int .i64,.int .i64,.bool,.int .i64,.int .i64])):=by kernel_rfl
theorem bytesOf_52:Try.prog.bytesOf 52=64:=by kernel_rfl
theorem zeroOK_52:zeroOK Try.prog 52=true:=by kernel_rfl
theorem tk_57:tk Try.prog 57=(.ptr 129):=by kernel_rfl
theorem tsz_57:tsz Try.prog 57=1:=by kernel_rfl
theorem tzero_57:tzero Try.prog 57=some (.ptr none):=by kernel_rfl
theorem kshape_57:kshape Try.prog 57=none:=by kernel_rfl
theorem bytesOf_57:Try.prog.bytesOf 57=8:=by kernel_rfl
theorem zeroOK_57:zeroOK Try.prog 57=true:=by kernel_rfl
theorem tk_58:tk Try.prog 58=(.int .i64):=by kernel_rfl
theorem tsz_58:tsz Try.prog 58=1:=by kernel_rfl
theorem tzero_58:tzero Try.prog 58=some (.int .i64 0):=by kernel_rfl
theorem kshape_58:kshape Try.prog 58=(some (.one (.int .i64))):=by kernel_rfl
theorem bytesOf_58:Try.prog.bytesOf 58=8:=by kernel_rfl
theorem zeroOK_58:zeroOK Try.prog 58=true:=by kernel_rfl
theorem tk_68:tk Try.prog 68=(.slice 4):=by kernel_rfl
theorem tsz_68:tsz Try.prog 68=1:=by kernel_rfl
theorem tzero_68:tzero Try.prog 68=some (.sl none 0 0):=by kernel_rfl
theorem kshape_68:kshape Try.prog 68=none:=by kernel_rfl
theorem bytesOf_68:Try.prog.bytesOf 68=24:=by kernel_rfl
theorem zeroOK_68:zeroOK Try.prog 68=true:=by kernel_rfl
theorem tk_69:tk Try.prog 69=(.ptr 136):=by kernel_rfl
theorem tsz_69:tsz Try.prog 69=1:=by kernel_rfl
theorem tzero_69:tzero Try.prog 69=some (.ptr none):=by kernel_rfl
theorem kshape_69:kshape Try.prog 69=none:=by kernel_rfl
theorem bytesOf_69:Try.prog.bytesOf 69=8:=by kernel_rfl
theorem zeroOK_69:zeroOK Try.prog 69=true:=by kernel_rfl
theorem tk_71:tk Try.prog 71=(.slice 75):=by kernel_rfl
theorem tsz_71:tsz Try.prog 71=1:=by kernel_rfl
theorem tzero_71:tzero Try.prog 71=some (.sl none 0 0):=by kernel_rfl
theorem kshape_71:kshape Try.prog 71=none:=by kernel_rfl
theorem bytesOf_71:Try.prog.bytesOf 71=24:=by kernel_rfl
theorem zeroOK_71:zeroOK Try.prog 71=true:=by kernel_rfl
theorem tk_75:tk Try.prog 75=.struct:=by kernel_rfl
theorem tsz_75:tsz Try.prog 75=2:=by kernel_rfl
theorem tzero_75:tzero Try.prog 75=some (.agg [(.int .i64 0),(.int .i64 0)]):=by kernel_rfl
theorem tplaces_75:tplaces Try.prog 75=some [(0,1),(1,1)]:=by kernel_rfl
theorem tfield_75_0:tfield Try.prog 75 0=some (0,3):=by kernel_rfl
theorem tfield_75_1:tfield Try.prog 75 1=some (1,3):=by kernel_rfl
theorem kshape_75:kshape Try.prog 75=(some (.many [.int .i64,.int .i64])):=by kernel_rfl
theorem bytesOf_75:Try.prog.bytesOf 75=16:=by kernel_rfl
theorem zeroOK_75:zeroOK Try.prog 75=true:=by kernel_rfl
theorem tk_84:tk Try.prog 84=(.ptr 144):=by kernel_rfl
theorem tsz_84:tsz Try.prog 84=1:=by kernel_rfl
theorem tzero_84:tzero Try.prog 84=some (.ptr none):=by kernel_rfl
theorem kshape_84:kshape Try.prog 84=none:=by kernel_rfl
theorem bytesOf_84:Try.prog.bytesOf 84=8:=by kernel_rfl
theorem zeroOK_84:zeroOK Try.prog 84=true:=by kernel_rfl
theorem tk_89:tk Try.prog 89=(.slice 107):=by kernel_rfl
theorem tsz_89:tsz Try.prog 89=1:=by kernel_rfl
theorem tzero_89:tzero Try.prog 89=some (.sl none 0 0):=by kernel_rfl
theorem kshape_89:kshape Try.prog 89=none:=by kernel_rfl
theorem bytesOf_89:Try.prog.bytesOf 89=24:=by kernel_rfl
theorem zeroOK_89:zeroOK Try.prog 89=true:=by kernel_rfl
theorem tk_91:tk Try.prog 91=(.ptr 163):=by kernel_rfl
theorem tsz_91:tsz Try.prog 91=1:=by kernel_rfl
theorem tzero_91:tzero Try.prog 91=some (.ptr none):=by kernel_rfl
theorem kshape_91:kshape Try.prog 91=none:=by kernel_rfl
theorem bytesOf_91:Try.prog.bytesOf 91=8:=by kernel_rfl
theorem zeroOK_91:zeroOK Try.prog 91=true:=by kernel_rfl
theorem tk_93:tk Try.prog 93=(.arr 200 4):=by kernel_rfl
theorem tsz_93:tsz Try.prog 93=200:=by kernel_rfl
theorem kshape_93:kshape Try.prog 93=none:=by kernel_rfl
theorem bytesOf_93:Try.prog.bytesOf 93=200:=by kernel_rfl
theorem zeroOK_93:zeroOK Try.prog 93=true:=by kernel_rfl
theorem tk_94:tk Try.prog 94=(.slice 99):=by kernel_rfl
theorem tsz_94:tsz Try.prog 94=1:=by kernel_rfl
theorem tzero_94:tzero Try.prog 94=some (.sl none 0 0):=by kernel_rfl
theorem kshape_94:kshape Try.prog 94=none:=by kernel_rfl
theorem bytesOf_94:Try.prog.bytesOf 94=24:=by kernel_rfl
theorem zeroOK_94:zeroOK Try.prog 94=true:=by kernel_rfl
theorem tk_99:tk Try.prog 99=.struct:=by kernel_rfl
theorem tsz_99:tsz Try.prog 99=4:=by kernel_rfl
theorem tzero_99:tzero Try.prog 99=some (.agg [(.int .i64 0),(.int .i64 0),(.int .i64 0),(.int .i64 0)]):=by kernel_rfl
theorem tplaces_99:tplaces Try.prog 99=some [(0,1),(1,1),(2,1),(3,1)]:=by kernel_rfl
theorem tfield_99_0:tfield Try.prog 99 0=some (0,3):=by kernel_rfl
theorem tfield_99_1:tfield Try.prog 99 1=some (1,3):=by kernel_rfl
theorem tfield_99_2:tfield Try.prog 99 2=some (2,3):=by kernel_rfl
theorem tfield_99_3:tfield Try.prog 99 3=some (3,3):=by kernel_rfl
theorem kshape_99:kshape Try.prog 99=(some (.many [.int .i64,.int .i64,.int .i64,.int .i64])):=by kernel_rfl
theorem bytesOf_99:Try.prog.bytesOf 99=32:=by kernel_rfl
theorem zeroOK_99:zeroOK Try.prog 99=true:=by kernel_rfl
theorem tk_100:tk Try.prog 100=(.slice 158):=by kernel_rfl
theorem tsz_100:tsz Try.prog 100=1:=by kernel_rfl
theorem tzero_100:tzero Try.prog 100=some (.sl none 0 0):=by kernel_rfl
theorem kshape_100:kshape Try.prog 100=none:=by kernel_rfl
theorem bytesOf_100:Try.prog.bytesOf 100=24:=by kernel_rfl
theorem zeroOK_100:zeroOK Try.prog 100=true:=by kernel_rfl
theorem tk_102:tk Try.prog 102=.struct:=by kernel_rfl
theorem tsz_102:tsz Try.prog 102=2:=by kernel_rfl
theorem tzero_102:tzero Try.prog 102=some (.agg [(.bool false),(.sl none 0 0)]):=by kernel_rfl
theorem tplaces_102:tplaces Try.prog 102=some [(0,1),(1,1)]:=by kernel_rfl
theorem tfield_102_0:tfield Try.prog 102 0=some (0,4):=by kernel_rfl
theorem tfield_102_1:tfield Try.prog 102 1=some (1,100):=by kernel_rfl
theorem kshape_102:kshape Try.prog 102=none:=by kernel_rfl
theorem bytesOf_102:Try.prog.bytesOf 102=32:=by kernel_rfl
theorem zeroOK_102:zeroOK Try.prog 102=true:=by kernel_rfl
theorem tk_103:tk Try.prog 103=(.slice 155):=by kernel_rfl
theorem tsz_103:tsz Try.prog 103=1:=by kernel_rfl
theorem tzero_103:tzero Try.prog 103=some (.sl none 0 0):=by kernel_rfl
theorem kshape_103:kshape Try.prog 103=none:=by kernel_rfl
theorem bytesOf_103:Try.prog.bytesOf 103=24:=by kernel_rfl
theorem zeroOK_103:zeroOK Try.prog 103=true:=by kernel_rfl
theorem tk_105:tk Try.prog 105=.struct:=by kernel_rfl
theorem tsz_105:tsz Try.prog 105=2:=by kernel_rfl
theorem tzero_105:tzero Try.prog 105=some (.agg [(.bool false),(.sl none 0 0)]):=by kernel_rfl
theorem tplaces_105:tplaces Try.prog 105=some [(0,1),(1,1)]:=by kernel_rfl
theorem tfield_105_0:tfield Try.prog 105 0=some (0,4):=by kernel_rfl
theorem tfield_105_1:tfield Try.prog 105 1=some (1,103):=by kernel_rfl
theorem kshape_105:kshape Try.prog 105=none:=by kernel_rfl
theorem bytesOf_105:Try.prog.bytesOf 105=32:=by kernel_rfl
theorem zeroOK_105:zeroOK Try.prog 105=true:=by kernel_rfl
theorem tk_107:tk Try.prog 107=.struct:=by kernel_rfl
theorem tsz_107:tsz Try.prog 107=15:=by kernel_rfl
theorem tzero_107:tzero Try.prog 107=some (.agg [(.int .i64 0),(.int .i64 0),(.bool false),(.sl none 0 0),(.bool false),(.sl none 0 0),(.bool false),(.sl none 0 0),(.bool false),(.sl none 0 0),(.bool false),(.int .i64 0),(.sl none 0 0),(.int .i64 0),(.int .i64 0)]):=by kernel_rfl
theorem tplaces_107:tplaces Try.prog 107=some [(0,1),(1,1),(2,2),(4,2),(6,2),(8,2),(10,1),(11,1),(12,1),(13,1),(14,1)]:=by kernel_rfl
theorem tfield_107_0:tfield Try.prog 107 0=some (0,3):=by kernel_rfl
theorem tfield_107_1:tfield Try.prog 107 1=some (1,3):=by kernel_rfl
theorem tfield_107_2:tfield Try.prog 107 2=some (2,102):=by kernel_rfl
theorem tfield_107_3:tfield Try.prog 107 3=some (4,105):=by kernel_rfl
theorem tfield_107_4:tfield Try.prog 107 4=some (6,102):=by kernel_rfl
theorem tfield_107_5:tfield Try.prog 107 5=some (8,105):=by kernel_rfl
theorem tfield_107_6:tfield Try.prog 107 6=some (10,4):=by kernel_rfl
theorem tfield_107_7:tfield Try.prog 107 7=some (11,3):=by kernel_rfl
theorem tfield_107_8:tfield Try.prog 107 8=some (12,42):=by kernel_rfl
theorem tfield_107_9:tfield Try.prog 107 9=some (13,3):=by kernel_rfl
theorem tfield_107_10:tfield Try.prog 107 10=some (14,3):=by kernel_rfl
theorem kshape_107:kshape Try.prog 107=none:=by kernel_rfl
theorem bytesOf_107:Try.prog.bytesOf 107=200:=by kernel_rfl
theorem zeroOK_107:zeroOK Try.prog 107=true:=by kernel_rfl
theorem tk_109:tk Try.prog 109=(.ptr 176):=by kernel_rfl
theorem tsz_109:tsz Try.prog 109=1:=by kernel_rfl
theorem tzero_109:tzero Try.prog 109=some (.ptr none):=by kernel_rfl
theorem kshape_109:kshape Try.prog 109=none:=by kernel_rfl
theorem bytesOf_109:Try.prog.bytesOf 109=8:=by kernel_rfl
theorem zeroOK_109:zeroOK Try.prog 109=true:=by kernel_rfl
theorem tk_113:tk Try.prog 113=(.map 118 3):=by kernel_rfl
theorem tsz_113:tsz Try.prog 113=1:=by kernel_rfl
theorem tzero_113:tzero Try.prog 113=some (.map none):=by kernel_rfl
theorem kshape_113:kshape Try.prog 113=none:=by kernel_rfl
theorem bytesOf_113:Try.prog.bytesOf 113=8:=by kernel_rfl
theorem zeroOK_113:zeroOK Try.prog 113=true:=by kernel_rfl
theorem tk_114:tk Try.prog 114=(.slice 118):=by kernel_rfl
theorem tsz_114:tsz Try.prog 114=1:=by kernel_rfl
theorem tzero_114:tzero Try.prog 114=some (.sl none 0 0):=by kernel_rfl
theorem kshape_114:kshape Try.prog 114=none:=by kernel_rfl
theorem bytesOf_114:Try.prog.bytesOf 114=24:=by kernel_rfl
theorem zeroOK_114:zeroOK Try.prog 114=true:=by kernel_rfl
theorem tk_116:tk Try.prog 116=.struct:=by kernel_rfl
theorem tsz_116:tsz Try.prog 116=5:=by kernel_rfl
theorem tzero_116:tzero Try.prog 116=some (.agg [(.map none),(.sl none 0 0),(.sl none 0 0),(.sl none 0 0),(.int .i64 0)]):=by kernel_rfl
theorem tplaces_116:tplaces Try.prog 116=some [(0,1),(1,1),(2,1),(3,1),(4,1)]:=by kernel_rfl
theorem tfield_116_0:tfield Try.prog 116 0=some (0,113):=by kernel_rfl
theorem tfield_116_1:tfield Try.prog 116 1=some (1,114):=by kernel_rfl
theorem tfield_116_2:tfield Try.prog 116 2=some (2,44):=by kernel_rfl
theorem tfield_116_3:tfield Try.prog 116 3=some (3,30):=by kernel_rfl
theorem tfield_116_4:tfield Try.prog 116 4=some (4,3):=by kernel_rfl
theorem kshape_116:kshape Try.prog 116=none:=by kernel_rfl
theorem bytesOf_116:Try.prog.bytesOf 116=88:=by kernel_rfl
theorem zeroOK_116:zeroOK Try.prog 116=true:=by kernel_rfl
theorem tk_118:tk Try.prog 118=.struct:=by kernel_rfl
theorem tsz_118:tsz Try.prog 118=2:=by kernel_rfl
theorem tzero_118:tzero Try.prog 118=some (.agg [(.int .i64 0),(.int .u8 0)]):=by kernel_rfl
theorem tplaces_118:tplaces Try.prog 118=some [(0,1),(1,1)]:=by kernel_rfl
theorem tfield_118_0:tfield Try.prog 118 0=some (0,3):=by kernel_rfl
theorem tfield_118_1:tfield Try.prog 118 1=some (1,5):=by kernel_rfl
theorem kshape_118:kshape Try.prog 118=(some (.many [.int .i64,.int .u8])):=by kernel_rfl
theorem bytesOf_118:Try.prog.bytesOf 118=16:=by kernel_rfl
theorem zeroOK_118:zeroOK Try.prog 118=true:=by kernel_rfl
theorem tk_122:tk Try.prog 122=.struct:=by kernel_rfl
theorem tsz_122:tsz Try.prog 122=2:=by kernel_rfl
theorem tzero_122:tzero Try.prog 122=some (.agg [(.str []),(.str [])]):=by kernel_rfl
theorem tplaces_122:tplaces Try.prog 122=some [(0,1),(1,1)]:=by kernel_rfl
theorem tfield_122_0:tfield Try.prog 122 0=some (0,9):=by kernel_rfl
theorem tfield_122_1:tfield Try.prog 122 1=some (1,9):=by kernel_rfl
theorem kshape_122:kshape Try.prog 122=(some (.many [.str,.str])):=by kernel_rfl
theorem bytesOf_122:Try.prog.bytesOf 122=32:=by kernel_rfl
theorem zeroOK_122:zeroOK Try.prog 122=true:=by kernel_rfl
theorem tk_127:tk Try.prog 127=(.slice 132):=by kernel_rfl
theorem tsz_127:tsz Try.prog 127=1:=by kernel_rfl
theorem tzero_127:tzero Try.prog 127=some (.sl none 0 0):=by kernel_rfl
theorem kshape_127:kshape Try.prog 127=none:=by kernel_rfl
theorem bytesOf_127:Try.prog.bytesOf 127=24:=by kernel_rfl
theorem zeroOK_127:zeroOK Try.prog 127=true:=by kernel_rfl
theorem tk_129:tk Try.prog 129=.struct:=by kernel_rfl
theorem tsz_129:tsz Try.prog 129=3:=by kernel_rfl
theorem tzero_129:tzero Try.prog 129=some (.agg [(.sl none 0 0),(.sl none 0 0),(.sl none 0 0)]):=by kernel_rfl
theorem tplaces_129:tplaces Try.prog 129=some [(0,1),(1,1),(2,1)]:=by kernel_rfl
theorem tfield_129_0:tfield Try.prog 129 0=some (0,127):=by kernel_rfl
theorem tfield_129_1:tfield Try.prog 129 1=some (1,30):=by kernel_rfl
theorem tfield_129_2:tfield Try.prog 129 2=some (2,44):=by kernel_rfl
theorem kshape_129:kshape Try.prog 129=none:=by kernel_rfl
theorem bytesOf_129:Try.prog.bytesOf 129=72:=by kernel_rfl
theorem zeroOK_129:zeroOK Try.prog 129=true:=by kernel_rfl
theorem tk_131:tk Try.prog 131=(.int .u16):=by kernel_rfl
theorem tsz_131:tsz Try.prog 131=1:=by kernel_rfl
theorem tzero_131:tzero Try.prog 131=some (.int .u16 0):=by kernel_rfl
theorem kshape_131:kshape Try.prog 131=(some (.one (.int .u16))):=by kernel_rfl
theorem bytesOf_131:Try.prog.bytesOf 131=2:=by kernel_rfl
theorem zeroOK_131:zeroOK Try.prog 131=true:=by kernel_rfl
theorem tk_132:tk Try.prog 132=(.arr 256 131):=by kernel_rfl
theorem tsz_132:tsz Try.prog 132=256:=by kernel_rfl
theorem kshape_132:kshape Try.prog 132=none:=by kernel_rfl
theorem bytesOf_132:Try.prog.bytesOf 132=512:=by kernel_rfl
theorem zeroOK_132:zeroOK Try.prog 132=true:=by kernel_rfl
theorem tk_134:tk Try.prog 134=(.arr 16 5):=by kernel_rfl
theorem tsz_134:tsz Try.prog 134=16:=by kernel_rfl
theorem tzero_134:tzero Try.prog 134=some (.agg [(.int .u8 0),(.int .u8 0),(.int .u8 0),(.int .u8 0),(.int .u8 0),(.int .u8 0),(.int .u8 0),(.int .u8 0),(.int .u8 0),(.int .u8 0),(.int .u8 0),(.int .u8 0),(.int .u8 0),(.int .u8 0),(.int .u8 0),(.int .u8 0)]):=by kernel_rfl
theorem kshape_134:kshape Try.prog 134=none:=by kernel_rfl
theorem bytesOf_134:Try.prog.bytesOf 134=16:=by kernel_rfl
theorem zeroOK_134:zeroOK Try.prog 134=true:=by kernel_rfl
theorem tk_136:tk Try.prog 136=.struct:=by kernel_rfl
theorem tsz_136:tsz Try.prog 136=21:=by kernel_rfl
theorem tzero_136:tzero Try.prog 136=some (.agg [(.ptr none),(.sl none 0 0),(.sl none 0 0),(.int .i64 0),(.int .i64 0),(.int .u8 0),(.int .u8 0),(.int .u8 0),(.int .u8 0),(.int .u8 0),(.int .u8 0),(.int .u8 0),(.int .u8 0),(.int .u8 0),(.int .u8 0),(.int .u8 0),(.int .u8 0),(.int .u8 0),(.int .u8 0),(.int .u8 0),(.int .u8 0)]):=by kernel_rfl
theorem tplaces_136:tplaces Try.prog 136=some [(0,1),(1,1),(2,1),(3,1),(4,1),(5,16)]:=by kernel_rfl
theorem tfield_136_0:tfield Try.prog 136 0=some (0,57):=by kernel_rfl
theorem tfield_136_1:tfield Try.prog 136 1=some (1,38):=by kernel_rfl
theorem tfield_136_2:tfield Try.prog 136 2=some (2,68):=by kernel_rfl
theorem tfield_136_3:tfield Try.prog 136 3=some (3,3):=by kernel_rfl
theorem tfield_136_4:tfield Try.prog 136 4=some (4,3):=by kernel_rfl
theorem tfield_136_5:tfield Try.prog 136 5=some (5,134):=by kernel_rfl
theorem kshape_136:kshape Try.prog 136=none:=by kernel_rfl
theorem bytesOf_136:Try.prog.bytesOf 136=88:=by kernel_rfl
theorem zeroOK_136:zeroOK Try.prog 136=true:=by kernel_rfl
theorem tk_141:tk Try.prog 141=(.slice 148):=by kernel_rfl
theorem tsz_141:tsz Try.prog 141=1:=by kernel_rfl
theorem tzero_141:tzero Try.prog 141=some (.sl none 0 0):=by kernel_rfl
theorem kshape_141:kshape Try.prog 141=none:=by kernel_rfl
theorem bytesOf_141:Try.prog.bytesOf 141=24:=by kernel_rfl
theorem zeroOK_141:zeroOK Try.prog 141=true:=by kernel_rfl
theorem tk_142:tk Try.prog 142=(.slice 147):=by kernel_rfl
theorem tsz_142:tsz Try.prog 142=1:=by kernel_rfl
theorem tzero_142:tzero Try.prog 142=some (.sl none 0 0):=by kernel_rfl
theorem kshape_142:kshape Try.prog 142=none:=by kernel_rfl
theorem bytesOf_142:Try.prog.bytesOf 142=24:=by kernel_rfl
theorem zeroOK_142:zeroOK Try.prog 142=true:=by kernel_rfl
theorem tk_144:tk Try.prog 144=.struct:=by kernel_rfl
theorem tsz_144:tsz Try.prog 144=6:=by kernel_rfl
theorem tzero_144:tzero Try.prog 144=some (.agg [(.int .i64 0),(.int .i64 0),(.sl none 0 0),(.sl none 0 0),(.bool false),(.bool false)]):=by kernel_rfl
theorem tplaces_144:tplaces Try.prog 144=some [(0,1),(1,1),(2,1),(3,1),(4,1),(5,1)]:=by kernel_rfl
theorem tfield_144_0:tfield Try.prog 144 0=some (0,3):=by kernel_rfl
theorem tfield_144_1:tfield Try.prog 144 1=some (1,3):=by kernel_rfl
theorem tfield_144_2:tfield Try.prog 144 2=some (2,141):=by kernel_rfl
theorem tfield_144_3:tfield Try.prog 144 3=some (3,142):=by kernel_rfl
theorem tfield_144_4:tfield Try.prog 144 4=some (4,4):=by kernel_rfl
theorem tfield_144_5:tfield Try.prog 144 5=some (5,4):=by kernel_rfl
theorem kshape_144:kshape Try.prog 144=none:=by kernel_rfl
theorem bytesOf_144:Try.prog.bytesOf 144=72:=by kernel_rfl
theorem zeroOK_144:zeroOK Try.prog 144=true:=by kernel_rfl
theorem tk_145:tk Try.prog 145=(.ptr 181):=by kernel_rfl
theorem tsz_145:tsz Try.prog 145=1:=by kernel_rfl
theorem tzero_145:tzero Try.prog 145=some (.ptr none):=by kernel_rfl
theorem kshape_145:kshape Try.prog 145=none:=by kernel_rfl
theorem bytesOf_145:Try.prog.bytesOf 145=8:=by kernel_rfl
theorem zeroOK_145:zeroOK Try.prog 145=true:=by kernel_rfl
theorem tk_147:tk Try.prog 147=.struct:=by kernel_rfl
theorem tsz_147:tsz Try.prog 147=15:=by kernel_rfl
theorem tzero_147:tzero Try.prog 147=some (.agg [(.str []),(.bool false),(.bool false),(.int .i64 0),(.int .i64 0),(.bool false),(.int .i64 0),(.int .i64 0),(.int .i64 0),(.bool false),(.int .i64 0),(.bool false),(.ptr none),(.int .i64 0),(.bool false)]):=by kernel_rfl
theorem tplaces_147:tplaces Try.prog 147=some [(0,8),(8,1),(9,1),(10,1),(11,1),(12,1),(13,1),(14,1)]:=by kernel_rfl
theorem tfield_147_0:tfield Try.prog 147 0=some (0,52):=by kernel_rfl
theorem tfield_147_1:tfield Try.prog 147 1=some (8,3):=by kernel_rfl
theorem tfield_147_2:tfield Try.prog 147 2=some (9,4):=by kernel_rfl
theorem tfield_147_3:tfield Try.prog 147 3=some (10,3):=by kernel_rfl
theorem tfield_147_4:tfield Try.prog 147 4=some (11,4):=by kernel_rfl
theorem tfield_147_5:tfield Try.prog 147 5=some (12,145):=by kernel_rfl
theorem tfield_147_6:tfield Try.prog 147 6=some (13,3):=by kernel_rfl
theorem tfield_147_7:tfield Try.prog 147 7=some (14,4):=by kernel_rfl
theorem kshape_147:kshape Try.prog 147=none:=by kernel_rfl
theorem bytesOf_147:Try.prog.bytesOf 147=120:=by kernel_rfl
theorem zeroOK_147:zeroOK Try.prog 147=true:=by kernel_rfl
theorem tk_148:tk Try.prog 148=(.ptr 147):=by kernel_rfl
theorem tsz_148:tsz Try.prog 148=1:=by kernel_rfl
theorem tzero_148:tzero Try.prog 148=some (.ptr none):=by kernel_rfl
theorem kshape_148:kshape Try.prog 148=none:=by kernel_rfl
theorem bytesOf_148:Try.prog.bytesOf 148=8:=by kernel_rfl
theorem zeroOK_148:zeroOK Try.prog 148=true:=by kernel_rfl
theorem tk_152:tk Try.prog 152=(.arr 8 3):=by kernel_rfl
theorem tsz_152:tsz Try.prog 152=8:=by kernel_rfl
theorem tzero_152:tzero Try.prog 152=some (.agg [(.int .i64 0),(.int .i64 0),(.int .i64 0),(.int .i64 0),(.int .i64 0),(.int .i64 0),(.int .i64 0),(.int .i64 0)]):=by kernel_rfl
theorem kshape_152:kshape Try.prog 152=none:=by kernel_rfl
theorem bytesOf_152:Try.prog.bytesOf 152=64:=by kernel_rfl
theorem zeroOK_152:zeroOK Try.prog 152=true:=by kernel_rfl
theorem tk_153:tk Try.prog 153=(.arr 4 3):=by kernel_rfl
theorem tsz_153:tsz Try.prog 153=4:=by kernel_rfl
theorem tzero_153:tzero Try.prog 153=some (.agg [(.int .i64 0),(.int .i64 0),(.int .i64 0),(.int .i64 0)]):=by kernel_rfl
theorem kshape_153:kshape Try.prog 153=none:=by kernel_rfl
theorem bytesOf_153:Try.prog.bytesOf 153=32:=by kernel_rfl
theorem zeroOK_153:zeroOK Try.prog 153=true:=by kernel_rfl
theorem tk_155:tk Try.prog 155=.struct:=by kernel_rfl
theorem tsz_155:tsz Try.prog 155=2:=by kernel_rfl
theorem tzero_155:tzero Try.prog 155=some (.agg [(.int .i64 0),(.int .i64 0)]):=by kernel_rfl
theorem tplaces_155:tplaces Try.prog 155=some [(0,1),(1,1)]:=by kernel_rfl
theorem tfield_155_0:tfield Try.prog 155 0=some (0,3):=by kernel_rfl
theorem tfield_155_1:tfield Try.prog 155 1=some (1,3):=by kernel_rfl
theorem kshape_155:kshape Try.prog 155=(some (.many [.int .i64,.int .i64])):=by kernel_rfl
theorem bytesOf_155:Try.prog.bytesOf 155=16:=by kernel_rfl
theorem zeroOK_155:zeroOK Try.prog 155=true:=by kernel_rfl
theorem tk_156:tk Try.prog 156=(.int .u32):=by kernel_rfl
theorem tsz_156:tsz Try.prog 156=1:=by kernel_rfl
theorem tzero_156:tzero Try.prog 156=some (.int .u32 0):=by kernel_rfl
theorem kshape_156:kshape Try.prog 156=(some (.one (.int .u32))):=by kernel_rfl
theorem bytesOf_156:Try.prog.bytesOf 156=4:=by kernel_rfl
theorem zeroOK_156:zeroOK Try.prog 156=true:=by kernel_rfl
theorem tk_158:tk Try.prog 158=.struct:=by kernel_rfl
theorem tsz_158:tsz Try.prog 158=2:=by kernel_rfl
theorem tzero_158:tzero Try.prog 158=some (.agg [(.int .u32 0),(.int .i64 0)]):=by kernel_rfl
theorem tplaces_158:tplaces Try.prog 158=some [(0,1),(1,1)]:=by kernel_rfl
theorem tfield_158_0:tfield Try.prog 158 0=some (0,156):=by kernel_rfl
theorem tfield_158_1:tfield Try.prog 158 1=some (1,3):=by kernel_rfl
theorem kshape_158:kshape Try.prog 158=(some (.many [.int .u32,.int .i64])):=by kernel_rfl
theorem bytesOf_158:Try.prog.bytesOf 158=16:=by kernel_rfl
theorem zeroOK_158:zeroOK Try.prog 158=true:=by kernel_rfl
theorem tk_160:tk Try.prog 160=(.slice 168):=by kernel_rfl
theorem tsz_160:tsz Try.prog 160=1:=by kernel_rfl
theorem tzero_160:tzero Try.prog 160=some (.sl none 0 0):=by kernel_rfl
theorem kshape_160:kshape Try.prog 160=none:=by kernel_rfl
theorem bytesOf_160:Try.prog.bytesOf 160=24:=by kernel_rfl
theorem zeroOK_160:zeroOK Try.prog 160=true:=by kernel_rfl
theorem tk_161:tk Try.prog 161=(.slice 164):=by kernel_rfl
theorem tsz_161:tsz Try.prog 161=1:=by kernel_rfl
theorem tzero_161:tzero Try.prog 161=some (.sl none 0 0):=by kernel_rfl
theorem kshape_161:kshape Try.prog 161=none:=by kernel_rfl
theorem bytesOf_161:Try.prog.bytesOf 161=24:=by kernel_rfl
theorem zeroOK_161:zeroOK Try.prog 161=true:=by kernel_rfl
theorem tk_163:tk Try.prog 163=.struct:=by kernel_rfl
theorem tsz_163:tsz Try.prog 163=4:=by kernel_rfl
theorem tzero_163:tzero Try.prog 163=some (.agg [(.ptr none),(.sl none 0 0),(.sl none 0 0),(.int .i64 0)]):=by kernel_rfl
theorem tplaces_163:tplaces Try.prog 163=some [(0,1),(1,1),(2,1),(3,1)]:=by kernel_rfl
theorem tfield_163_0:tfield Try.prog 163 0=some (0,69):=by kernel_rfl
theorem tfield_163_1:tfield Try.prog 163 1=some (1,160):=by kernel_rfl
theorem tfield_163_2:tfield Try.prog 163 2=some (2,161):=by kernel_rfl
theorem tfield_163_3:tfield Try.prog 163 3=some (3,3):=by kernel_rfl
theorem kshape_163:kshape Try.prog 163=none:=by kernel_rfl
theorem bytesOf_163:Try.prog.bytesOf 163=64:=by kernel_rfl
theorem zeroOK_163:zeroOK Try.prog 163=true:=by kernel_rfl
theorem tk_164:tk Try.prog 164=(.ptr 166):=by kernel_rfl
theorem tsz_164:tsz Try.prog 164=1:=by kernel_rfl
theorem tzero_164:tzero Try.prog 164=some (.ptr none):=by kernel_rfl
theorem kshape_164:kshape Try.prog 164=none:=by kernel_rfl
theorem bytesOf_164:Try.prog.bytesOf 164=8:=by kernel_rfl
theorem zeroOK_164:zeroOK Try.prog 164=true:=by kernel_rfl
theorem tk_166:tk Try.prog 166=.struct:=by kernel_rfl
theorem tsz_166:tsz Try.prog 166=18:=by kernel_rfl
theorem tzero_166:tzero Try.prog 166=some (.agg [(.int .i64 0),(.int .i64 0),(.bool false),(.sl none 0 0),(.bool false),(.sl none 0 0),(.bool false),(.sl none 0 0),(.bool false),(.sl none 0 0),(.bool false),(.int .i64 0),(.sl none 0 0),(.int .i64 0),(.int .i64 0),(.ptr none),(.sl none 0 0),(.bool false)]):=by kernel_rfl
theorem tplaces_166:tplaces Try.prog 166=some [(0,15),(15,1),(16,1),(17,1)]:=by kernel_rfl
theorem tfield_166_0:tfield Try.prog 166 0=some (0,107):=by kernel_rfl
theorem tfield_166_1:tfield Try.prog 166 1=some (15,84):=by kernel_rfl
theorem tfield_166_2:tfield Try.prog 166 2=some (16,68):=by kernel_rfl
theorem tfield_166_3:tfield Try.prog 166 3=some (17,4):=by kernel_rfl
theorem kshape_166:kshape Try.prog 166=none:=by kernel_rfl
theorem bytesOf_166:Try.prog.bytesOf 166=240:=by kernel_rfl
theorem zeroOK_166:zeroOK Try.prog 166=true:=by kernel_rfl
theorem tk_168:tk Try.prog 168=.struct:=by kernel_rfl
theorem tsz_168:tsz Try.prog 168=2:=by kernel_rfl
theorem tzero_168:tzero Try.prog 168=some (.agg [(.ptr none),(.int .i64 0)]):=by kernel_rfl
theorem tplaces_168:tplaces Try.prog 168=some [(0,1),(1,1)]:=by kernel_rfl
theorem tfield_168_0:tfield Try.prog 168 0=some (0,164):=by kernel_rfl
theorem tfield_168_1:tfield Try.prog 168 1=some (1,3):=by kernel_rfl
theorem kshape_168:kshape Try.prog 168=none:=by kernel_rfl
theorem bytesOf_168:Try.prog.bytesOf 168=16:=by kernel_rfl
theorem zeroOK_168:zeroOK Try.prog 168=true:=by kernel_rfl
theorem tk_170:tk Try.prog 170=.func:=by kernel_rfl
theorem tsz_170:tsz Try.prog 170=1:=by kernel_rfl
theorem tzero_170:tzero Try.prog 170=some .nilf:=by kernel_rfl
theorem kshape_170:kshape Try.prog 170=none:=by kernel_rfl
theorem bytesOf_170:Try.prog.bytesOf 170=8:=by kernel_rfl
theorem zeroOK_170:zeroOK Try.prog 170=true:=by kernel_rfl
theorem tk_176:tk Try.prog 176=.struct:=by kernel_rfl
theorem tsz_176:tsz Try.prog 176=5:=by kernel_rfl
theorem tzero_176:tzero Try.prog 176=some (.agg [(.sl none 0 0),(.int .i64 0),(.str []),(.sl none 0 0),(.sl none 0 0)]):=by kernel_rfl
theorem tplaces_176:tplaces Try.prog 176=some [(0,1),(1,1),(2,1),(3,1),(4,1)]:=by kernel_rfl
theorem tfield_176_0:tfield Try.prog 176 0=some (0,89):=by kernel_rfl
theorem tfield_176_1:tfield Try.prog 176 1=some (1,3):=by kernel_rfl
theorem tfield_176_2:tfield Try.prog 176 2=some (2,9):=by kernel_rfl
theorem tfield_176_3:tfield Try.prog 176 3=some (3,68):=by kernel_rfl
theorem tfield_176_4:tfield Try.prog 176 4=some (4,68):=by kernel_rfl
theorem kshape_176:kshape Try.prog 176=none:=by kernel_rfl
theorem bytesOf_176:Try.prog.bytesOf 176=96:=by kernel_rfl
theorem zeroOK_176:zeroOK Try.prog 176=true:=by kernel_rfl
theorem tk_181:tk Try.prog 181=.struct:=by kernel_rfl
theorem tsz_181:tsz Try.prog 181=2:=by kernel_rfl
theorem tzero_181:tzero Try.prog 181=some (.agg [(.int .i64 0),(.ptr none)]):=by kernel_rfl
theorem tplaces_181:tplaces Try.prog 181=some [(0,1),(1,1)]:=by kernel_rfl
theorem tfield_181_0:tfield Try.prog 181 0=some (0,3):=by kernel_rfl
theorem tfield_181_1:tfield Try.prog 181 1=some (1,145):=by kernel_rfl
theorem kshape_181:kshape Try.prog 181=none:=by kernel_rfl
theorem bytesOf_181:Try.prog.bytesOf 181=16:=by kernel_rfl
theorem zeroOK_181:zeroOK Try.prog 181=true:=by kernel_rfl
theorem tk_188:tk Try.prog 188=(.int .u64):=by kernel_rfl
theorem tsz_188:tsz Try.prog 188=1:=by kernel_rfl
theorem tzero_188:tzero Try.prog 188=some (.int .u64 0):=by kernel_rfl
theorem kshape_188:kshape Try.prog 188=(some (.one (.int .u64))):=by kernel_rfl
theorem bytesOf_188:Try.prog.bytesOf 188=8:=by kernel_rfl
theorem zeroOK_188:zeroOK Try.prog 188=true:=by kernel_rfl
attribute [simp] tk_3 tsz_3 tzero_3 kshape_3 bytesOf_3 zeroOK_3 tk_4 tsz_4 tzero_4 kshape_4 bytesOf_4 zeroOK_4 tk_5 tsz_5 tzero_5 kshape_5 bytesOf_5 zeroOK_5 tk_9 tsz_9 tzero_9 kshape_9 bytesOf_9 zeroOK_9 tk_23 tsz_23 tzero_23 kshape_23 bytesOf_23 zeroOK_23 tk_25 tsz_25 tzero_25 kshape_25 bytesOf_25 zeroOK_25 tk_30 tsz_30 tzero_30 kshape_30 bytesOf_30 zeroOK_30 tk_38 tsz_38 tzero_38 kshape_38 bytesOf_38 zeroOK_38 tk_42 tsz_42 tzero_42 kshape_42 bytesOf_42 zeroOK_42 tk_44 tsz_44 tzero_44 kshape_44 bytesOf_44 zeroOK_44 tk_52 tsz_52 tzero_52 tplaces_52 tfield_52_0 tfield_52_1 tfield_52_2 tfield_52_3 tfield_52_4 tfield_52_5 tfield_52_6 tfield_52_7 kshape_52 bytesOf_52 zeroOK_52 tk_57 tsz_57 tzero_57 kshape_57 bytesOf_57 zeroOK_57 tk_58 tsz_58 tzero_58 kshape_58 bytesOf_58 zeroOK_58 tk_68 tsz_68 tzero_68 kshape_68 bytesOf_68 zeroOK_68 tk_69 tsz_69 tzero_69 kshape_69 bytesOf_69 zeroOK_69 tk_71 tsz_71 tzero_71 kshape_71 bytesOf_71 zeroOK_71 tk_75 tsz_75 tzero_75 tplaces_75 tfield_75_0 tfield_75_1 kshape_75 bytesOf_75 zeroOK_75 tk_84 tsz_84 tzero_84 kshape_84 bytesOf_84 zeroOK_84 tk_89 tsz_89 tzero_89 kshape_89 bytesOf_89 zeroOK_89 tk_91 tsz_91 tzero_91 kshape_91 bytesOf_91 zeroOK_91 tk_93 tsz_93 kshape_93 bytesOf_93 zeroOK_93 tk_94 tsz_94 tzero_94 kshape_94 bytesOf_94 zeroOK_94 tk_99 tsz_99 tzero_99 tplaces_99 tfield_99_0 tfield_99_1 tfield_99_2 tfield_99_3 kshape_99 bytesOf_99 zeroOK_99 tk_100 tsz_100 tzero_100 kshape_100 bytesOf_100 zeroOK_100 tk_102 tsz_102 tzero_102 tplaces_102 tfield_102_0 tfield_102_1 kshape_102 bytesOf_102 zeroOK_102 tk_103 tsz_103 tzero_103 kshape_103 bytesOf_103 zeroOK_103 tk_105 tsz_105 tzero_105 tplaces_105 tfield_105_0 tfield_105_1 kshape_105 bytesOf_105 zeroOK_105 tk_107 tsz_107 tzero_107 tplaces_107 tfield_107_0 tfield_107_1 tfield_107_2 tfield_107_3 tfield_107_4 tfield_107_5 tfield_107_6 tfield_107_7 tfield_107_8 tfield_107_9 tfield_107_10 kshape_107 bytesOf_107 zeroOK_107 tk_109 tsz_109 tzero_109 kshape_109 bytesOf_109 zeroOK_109 tk_113 tsz_113 tzero_113 kshape_113 bytesOf_113 zeroOK_113 tk_114 tsz_114 tzero_114 kshape_114 bytesOf_114 zeroOK_114 tk_116 tsz_116 tzero_116 tplaces_116 tfield_116_0 tfield_116_1 tfield_116_2 tfield_116_3 tfield_116_4 kshape_116 bytesOf_116 zeroOK_116 tk_118 tsz_118 tzero_118 tplaces_118 tfield_118_0 tfield_118_1 kshape_118 bytesOf_118 zeroOK_118 tk_122 tsz_122 tzero_122 tplaces_122 tfield_122_0 tfield_122_1 kshape_122 bytesOf_122 zeroOK_122 tk_127 tsz_127 tzero_127 kshape_127 bytesOf_127 zeroOK_127 tk_129 tsz_129 tzero_129 tplaces_129 tfield_129_0 tfield_129_1 tfield_129_2 kshape_129 bytesOf_129 zeroOK_129 tk_131 tsz_131 tzero_131 kshape_131 bytesOf_131 zeroOK_131 tk_132 tsz_132 kshape_132 bytesOf_132 zeroOK_132 tk_134 tsz_134 tzero_134 kshape_134 bytesOf_134 zeroOK_134 tk_136 tsz_136 tzero_136 tplaces_136 tfield_136_0 tfield_136_1 tfield_136_2 tfield_136_3 tfield_136_4 tfield_136_5 kshape_136 bytesOf_136 zeroOK_136 tk_141 tsz_141 tzero_141 kshape_141 bytesOf_141 zeroOK_141 tk_142 tsz_142 tzero_142 kshape_142 bytesOf_142 zeroOK_142 tk_144 tsz_144 tzero_144 tplaces_144 tfield_144_0 tfield_144_1 tfield_144_2 tfield_144_3 tfield_144_4 tfield_144_5 kshape_144 bytesOf_144 zeroOK_144 tk_145 tsz_145 tzero_145 kshape_145 bytesOf_145 zeroOK_145 tk_147 tsz_147 tzero_147 tplaces_147 tfield_147_0 tfield_147_1 tfield_147_2 tfield_147_3 tfield_147_4 tfield_147_5 tfield_147_6 tfield_147_7 kshape_147 bytesOf_147 zeroOK_147 tk_148 tsz_148 tzero_148 kshape_148 bytesOf_148 zeroOK_148 tk_152 tsz_152 tzero_152 kshape_152 bytesOf_152 zeroOK_152 tk_153 tsz_153 tzero_153 kshape_153 bytesOf_153 zeroOK_153 tk_155 tsz_155 tzero_155 tplaces_155 tfield_155_0 tfield_155_1 kshape_155 bytesOf_155 zeroOK_155 tk_156 tsz_156 tzero_156 kshape_156 bytesOf_156 zeroOK_156 tk_158 tsz_158 tzero_158 tplaces_158 tfield_158_0 tfield_158_1 kshape_158 bytesOf_158 zeroOK_158 tk_160 tsz_160 tzero_160 kshape_160 bytesOf_160 zeroOK_160 tk_161 tsz_161 tzero_161 kshape_161 bytesOf_161 zeroOK_161 tk_163 tsz_163 tzero_163 tplaces_163 tfield_163_0 tfield_163_1 tfield_163_2 tfield_163_3 kshape_163 bytesOf_163 zeroOK_163 tk_164 tsz_164 tzero_164 kshape_164 bytesOf_164 zeroOK_164 tk_166 tsz_166 tzero_166 tplaces_166 tfield_166_0 tfield_166_1 tfield_166_2 tfield_166_3 kshape_166 bytesOf_166 zeroOK_166 tk_168 tsz_168 tzero_168 tplaces_168 tfield_168_0 tfield_168_1 kshape_168 bytesOf_168 zeroOK_168 tk_170 tsz_170 tzero_170 kshape_170 bytesOf_170 zeroOK_170 tk_176 tsz_176 tzero_176 tplaces_176 tfield_176_0 tfield_176_1 tfield_176_2 tfield_176_3 tfield_176_4 kshape_176 bytesOf_176 zeroOK_176 tk_181 tsz_181 tzero_181 tplaces_181 tfield_181_0 tfield_181_1 kshape_181 bytesOf_181 zeroOK_181 tk_188 tsz_188 tzero_188 kshape_188 bytesOf_188 zeroOK_188
end Go.AM
