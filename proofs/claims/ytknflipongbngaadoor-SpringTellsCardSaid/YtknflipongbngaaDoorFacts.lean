/- The closed facts on the program's types and functions that the walks use. Made by a program. -/
import Derived.Test.YtknflipongbngaaDoorProg
import Derived.Test.YtknflipongbngaaDoorXRange
namespace Go.Proofs.YtknflipongbngaaDoor
open Go Go.X
theorem fp_23_0 : fieldP Tryd.prog 23 0 = some 0 := by kernel_rfl
theorem fp_23_1 : fieldP Tryd.prog 23 1 = some 1 := by kernel_rfl
theorem fp_27_0 : fieldP Tryd.prog 27 0 = some 0 := by kernel_rfl
theorem fp_27_1 : fieldP Tryd.prog 27 1 = some 1 := by kernel_rfl
theorem fp_27_2 : fieldP Tryd.prog 27 2 = some 2 := by kernel_rfl
theorem fp_27_3 : fieldP Tryd.prog 27 3 = some 3 := by kernel_rfl
theorem fp_27_4 : fieldP Tryd.prog 27 4 = some 5 := by kernel_rfl
theorem fp_27_5 : fieldP Tryd.prog 27 5 = some 7 := by kernel_rfl
theorem fp_27_6 : fieldP Tryd.prog 27 6 = some 8 := by kernel_rfl
theorem fp_54_0 : fieldP Tryd.prog 54 0 = some 0 := by kernel_rfl
theorem fp_54_1 : fieldP Tryd.prog 54 1 = some 1 := by kernel_rfl
theorem fp_54_2 : fieldP Tryd.prog 54 2 = some 2 := by kernel_rfl
theorem fp_54_3 : fieldP Tryd.prog 54 3 = some 3 := by kernel_rfl
theorem fp_61_0 : fieldP Tryd.prog 61 0 = some 0 := by kernel_rfl
theorem fp_61_1 : fieldP Tryd.prog 61 1 = some 2 := by kernel_rfl
theorem fp_61_2 : fieldP Tryd.prog 61 2 = some 3 := by kernel_rfl
theorem fp_110_0 : fieldP Tryd.prog 110 0 = some 0 := by kernel_rfl
theorem fp_110_1 : fieldP Tryd.prog 110 1 = some 9 := by kernel_rfl
theorem fp_117_0 : fieldP Tryd.prog 117 0 = some 0 := by kernel_rfl
theorem fp_117_1 : fieldP Tryd.prog 117 1 = some 9 := by kernel_rfl
theorem fp_130_0 : fieldP Tryd.prog 130 0 = some 0 := by kernel_rfl
theorem fp_151_0 : fieldP Tryd.prog 151 0 = some 0 := by kernel_rfl
theorem fp_151_1 : fieldP Tryd.prog 151 1 = some 1 := by kernel_rfl
theorem fp_156_0 : fieldP Tryd.prog 156 0 = some 0 := by kernel_rfl
theorem fp_156_1 : fieldP Tryd.prog 156 1 = some 10 := by kernel_rfl
theorem ae_131 : arrE Tryd.prog 131 = some (130, 5, 1) := by kernel_rfl
theorem eq_23 : eqP Tryd.prog 5 23 = some 2 := by kernel_rfl
theorem eg_23 : Tryd.prog.eqGuardType Tryd.prog.depth 23 = false := by kernel_rfl
theorem eq_54 : eqP Tryd.prog 5 54 = some 5 := by kernel_rfl
theorem eg_54 : Tryd.prog.eqGuardType Tryd.prog.depth 54 = false := by kernel_rfl
theorem eq_61 : eqP Tryd.prog 5 61 = some 5 := by kernel_rfl
theorem eg_61 : Tryd.prog.eqGuardType Tryd.prog.depth 61 = false := by kernel_rfl
theorem eq_114 : eqP Tryd.prog 5 114 = some 20 := by kernel_rfl
theorem eg_114 : Tryd.prog.eqGuardType Tryd.prog.depth 114 = false := by kernel_rfl
theorem sh_3 : shapeT Tryd.prog 3 = some none := by kernel_rfl
theorem sh_4 : shapeT Tryd.prog 4 = some none := by kernel_rfl
theorem sh_5 : shapeT Tryd.prog 5 = some none := by kernel_rfl
theorem sh_23 : shapeT Tryd.prog 23 = some (some 2) := by kernel_rfl
theorem sh_24 : shapeT Tryd.prog 24 = some none := by kernel_rfl
theorem sh_25 : shapeT Tryd.prog 25 = some none := by kernel_rfl
theorem sh_27 : shapeT Tryd.prog 27 = some (some 9) := by kernel_rfl
theorem sh_28 : shapeT Tryd.prog 28 = some none := by kernel_rfl
theorem sh_30 : shapeT Tryd.prog 30 = some none := by kernel_rfl
theorem sh_35 : shapeT Tryd.prog 35 = some none := by kernel_rfl
theorem sh_54 : shapeT Tryd.prog 54 = some (some 5) := by kernel_rfl
theorem sh_61 : shapeT Tryd.prog 61 = some (some 5) := by kernel_rfl
theorem sh_110 : shapeT Tryd.prog 110 = some (some 10) := by kernel_rfl
theorem sh_114 : shapeT Tryd.prog 114 = some (some 20) := by kernel_rfl
theorem sh_117 : shapeT Tryd.prog 117 = some (some 29) := by kernel_rfl
theorem sh_130 : shapeT Tryd.prog 130 = some (some 1) := by kernel_rfl
theorem sh_131 : shapeT Tryd.prog 131 = some (some 5) := by kernel_rfl
theorem sh_135 : shapeT Tryd.prog 135 = some none := by kernel_rfl
theorem sh_146 : shapeT Tryd.prog 146 = some none := by kernel_rfl
theorem sh_149 : shapeT Tryd.prog 149 = some none := by kernel_rfl
theorem sh_151 : shapeT Tryd.prog 151 = some (some 2) := by kernel_rfl
theorem sh_156 : shapeT Tryd.prog 156 = some (some 20) := by kernel_rfl
theorem sz_3 : sizeP Tryd.prog 3 = some 1 := by kernel_rfl
theorem sz_4 : sizeP Tryd.prog 4 = some 1 := by kernel_rfl
theorem sz_5 : sizeP Tryd.prog 5 = some 1 := by kernel_rfl
theorem sz_23 : sizeP Tryd.prog 23 = some 2 := by kernel_rfl
theorem sz_24 : sizeP Tryd.prog 24 = some 1 := by kernel_rfl
theorem sz_25 : sizeP Tryd.prog 25 = some 1 := by kernel_rfl
theorem sz_27 : sizeP Tryd.prog 27 = some 9 := by kernel_rfl
theorem sz_28 : sizeP Tryd.prog 28 = some 1 := by kernel_rfl
theorem sz_30 : sizeP Tryd.prog 30 = some 1 := by kernel_rfl
theorem sz_35 : sizeP Tryd.prog 35 = some 1 := by kernel_rfl
theorem sz_54 : sizeP Tryd.prog 54 = some 5 := by kernel_rfl
theorem sz_61 : sizeP Tryd.prog 61 = some 5 := by kernel_rfl
theorem sz_110 : sizeP Tryd.prog 110 = some 10 := by kernel_rfl
theorem sz_114 : sizeP Tryd.prog 114 = some 20 := by kernel_rfl
theorem sz_117 : sizeP Tryd.prog 117 = some 29 := by kernel_rfl
theorem sz_130 : sizeP Tryd.prog 130 = some 1 := by kernel_rfl
theorem sz_131 : sizeP Tryd.prog 131 = some 5 := by kernel_rfl
theorem sz_135 : sizeP Tryd.prog 135 = some 1 := by kernel_rfl
theorem sz_146 : sizeP Tryd.prog 146 = some 1 := by kernel_rfl
theorem sz_149 : sizeP Tryd.prog 149 = some 1 := by kernel_rfl
theorem sz_151 : sizeP Tryd.prog 151 = some 2 := by kernel_rfl
theorem sz_156 : sizeP Tryd.prog 156 = some 20 := by kernel_rfl
theorem zp_3 : zeroP Tryd.prog 3 = some [.int .i64 0] := by kernel_rfl
theorem zp_4 : zeroP Tryd.prog 4 = some [.bool false] := by kernel_rfl
theorem zp_23 : zeroP Tryd.prog 23 = some [.int .i64 0, .int .i64 0] := by kernel_rfl
theorem zp_27 : zeroP Tryd.prog 27 = some [.int .i64 0, .int .i64 0, .int .i64 0, .int .i64 0, .int .i64 0, .int .i64 0, .int .i64 0, .slice none 0 0, .slice none 0 0] := by kernel_rfl
theorem zp_35 : zeroP Tryd.prog 35 = some [.slice none 0 0] := by kernel_rfl
theorem zp_54 : zeroP Tryd.prog 54 = some [.int .i64 0, .int .i64 0, .int .i64 0, .int .i64 0, .int .i64 0] := by kernel_rfl
theorem zp_61 : zeroP Tryd.prog 61 = some [.int .i64 0, .int .i64 0, .int .i64 0, .int .i64 0, .int .i64 0] := by kernel_rfl
theorem zp_110 : zeroP Tryd.prog 110 = some [.int .i64 0, .int .i64 0, .int .i64 0, .int .i64 0, .int .i64 0, .int .i64 0, .int .i64 0, .slice none 0 0, .slice none 0 0, .int .i64 0] := by kernel_rfl
theorem zp_114 : zeroP Tryd.prog 114 = some [.int .i64 0, .int .i64 0, .int .i64 0, .int .i64 0, .int .i64 0, .int .i64 0, .int .i64 0, .int .i64 0, .int .i64 0, .int .i64 0, .int .i64 0, .int .i64 0, .int .i64 0, .int .i64 0, .int .i64 0, .int .i64 0, .int .i64 0, .int .i64 0, .int .i64 0, .int .i64 0] := by kernel_rfl
theorem zp_117 : zeroP Tryd.prog 117 = some [.int .i64 0, .int .i64 0, .int .i64 0, .int .i64 0, .int .i64 0, .int .i64 0, .int .i64 0, .slice none 0 0, .slice none 0 0, .int .i64 0, .int .i64 0, .int .i64 0, .int .i64 0, .int .i64 0, .int .i64 0, .int .i64 0, .int .i64 0, .int .i64 0, .int .i64 0, .int .i64 0, .int .i64 0, .int .i64 0, .int .i64 0, .int .i64 0, .int .i64 0, .int .i64 0, .int .i64 0, .int .i64 0, .int .i64 0] := by kernel_rfl
theorem zp_130 : zeroP Tryd.prog 130 = some [.nilFunc] := by kernel_rfl
theorem zp_135 : zeroP Tryd.prog 135 = some [.nilFunc] := by kernel_rfl
theorem zp_146 : zeroP Tryd.prog 146 = some [.slice none 0 0] := by kernel_rfl
theorem zp_151 : zeroP Tryd.prog 151 = some [.int .i64 0, .slice none 0 0] := by kernel_rfl
theorem zp_156 : zeroP Tryd.prog 156 = some [.int .i64 0, .int .i64 0, .int .i64 0, .int .i64 0, .int .i64 0, .int .i64 0, .int .i64 0, .int .i64 0, .int .i64 0, .int .i64 0, .int .i64 0, .int .i64 0, .int .i64 0, .int .i64 0, .int .i64 0, .int .i64 0, .int .i64 0, .int .i64 0, .int .i64 0, .int .i64 0] := by kernel_rfl
theorem el_24 : elemP Tryd.prog 24 = some (none, 5) := by kernel_rfl
theorem el_25 : elemP Tryd.prog 25 = some (none, 5) := by kernel_rfl
theorem el_35 : elemP Tryd.prog 35 = some (none, 1) := by kernel_rfl
theorem el_70 : elemP Tryd.prog 70 = some (none, 9) := by kernel_rfl
theorem el_87 : elemP Tryd.prog 87 = some (none, 1) := by kernel_rfl
theorem el_111 : elemP Tryd.prog 111 = some (none, 10) := by kernel_rfl
theorem el_114 : elemP Tryd.prog 114 = some (some 10, 2) := by kernel_rfl
theorem el_125 : elemP Tryd.prog 125 = some (none, 20) := by kernel_rfl
theorem el_146 : elemP Tryd.prog 146 = some (none, 2) := by kernel_rfl
theorem el_154 : elemP Tryd.prog 154 = some (some 10, 1) := by kernel_rfl
theorem el_179 : elemP Tryd.prog 179 = some (none, 2) := by kernel_rfl
theorem et_24 : elemT Tryd.prog 24 = some (61, 5) := by kernel_rfl
theorem et_25 : elemT Tryd.prog 25 = some (54, 5) := by kernel_rfl
theorem et_35 : elemT Tryd.prog 35 = some (3, 1) := by kernel_rfl
theorem et_70 : elemT Tryd.prog 70 = some (27, 9) := by kernel_rfl
theorem et_87 : elemT Tryd.prog 87 = some (5, 1) := by kernel_rfl
theorem et_111 : elemT Tryd.prog 111 = some (110, 10) := by kernel_rfl
theorem et_125 : elemT Tryd.prog 125 = some (156, 20) := by kernel_rfl
theorem et_146 : elemT Tryd.prog 146 = some (151, 2) := by kernel_rfl
theorem et_179 : elemT Tryd.prog 179 = some (23, 2) := by kernel_rfl
theorem ap_24 : apP Tryd.prog 24 = some (61, 5, 40) := by kernel_rfl
theorem ap_25 : apP Tryd.prog 25 = some (54, 5, 40) := by kernel_rfl
theorem ap_35 : apP Tryd.prog 35 = some (3, 1, 8) := by kernel_rfl
theorem ap_70 : apP Tryd.prog 70 = some (27, 9, 104) := by kernel_rfl
theorem ap_87 : apP Tryd.prog 87 = some (5, 1, 1) := by kernel_rfl
theorem ap_111 : apP Tryd.prog 111 = some (110, 10, 112) := by kernel_rfl
theorem ap_125 : apP Tryd.prog 125 = some (156, 20, 160) := by kernel_rfl
theorem ap_146 : apP Tryd.prog 146 = some (151, 2, 32) := by kernel_rfl
theorem ap_179 : apP Tryd.prog 179 = some (23, 2, 16) := by kernel_rfl
theorem is_24 : isSliceP Tryd.prog 24 = true := by kernel_rfl
theorem is_25 : isSliceP Tryd.prog 25 = true := by kernel_rfl
theorem is_35 : isSliceP Tryd.prog 35 = true := by kernel_rfl
theorem is_70 : isSliceP Tryd.prog 70 = true := by kernel_rfl
theorem is_87 : isSliceP Tryd.prog 87 = true := by kernel_rfl
theorem is_111 : isSliceP Tryd.prog 111 = true := by kernel_rfl
theorem is_125 : isSliceP Tryd.prog 125 = true := by kernel_rfl
theorem is_146 : isSliceP Tryd.prog 146 = true := by kernel_rfl
theorem is_179 : isSliceP Tryd.prog 179 = true := by kernel_rfl
theorem pl_23 : placesP Tryd.prog 23 = some [(0, 1), (1, 1)] := by kernel_rfl
theorem pl_27 : placesP Tryd.prog 27 = some [(0, 1), (1, 1), (2, 1), (3, 2), (5, 2), (7, 1), (8, 1)] := by kernel_rfl
theorem pl_54 : placesP Tryd.prog 54 = some [(0, 1), (1, 1), (2, 1), (3, 2)] := by kernel_rfl
theorem pl_61 : placesP Tryd.prog 61 = some [(0, 2), (2, 1), (3, 2)] := by kernel_rfl
theorem pl_110 : placesP Tryd.prog 110 = some [(0, 9), (9, 1)] := by kernel_rfl
theorem ae_114 : arrE Tryd.prog 114 = some (23, 10, 2) := by kernel_rfl
theorem pl_117 : placesP Tryd.prog 117 = some [(0, 9), (9, 20)] := by kernel_rfl
theorem pl_151 : placesP Tryd.prog 151 = some [(0, 1), (1, 1)] := by kernel_rfl
theorem fn_3 : fnOk Tryd.prog 3 = true := by kernel_rfl
theorem fn_4 : fnOk Tryd.prog 4 = true := by kernel_rfl
theorem fn_5 : fnOk Tryd.prog 5 = true := by kernel_rfl
theorem fn_6 : fnOk Tryd.prog 6 = true := by kernel_rfl
theorem fn_7 : fnOk Tryd.prog 7 = true := by kernel_rfl
theorem fn_8 : fnOk Tryd.prog 8 = true := by kernel_rfl
theorem fn_9 : fnOk Tryd.prog 9 = true := by kernel_rfl
theorem fn_10 : fnOk Tryd.prog 10 = true := by kernel_rfl
theorem fn_11 : fnOk Tryd.prog 11 = true := by kernel_rfl
theorem fn_12 : fnOk Tryd.prog 12 = true := by kernel_rfl
theorem fn_13 : fnOk Tryd.prog 13 = true := by kernel_rfl
theorem fn_14 : fnOk Tryd.prog 14 = true := by kernel_rfl
theorem fn_15 : fnOk Tryd.prog 15 = true := by kernel_rfl
theorem fn_16 : fnOk Tryd.prog 16 = true := by kernel_rfl
theorem fn_17 : fnOk Tryd.prog 17 = true := by kernel_rfl
theorem fn_18 : fnOk Tryd.prog 18 = true := by kernel_rfl
theorem fn_19 : fnOk Tryd.prog 19 = true := by kernel_rfl
theorem fn_20 : fnOk Tryd.prog 20 = true := by kernel_rfl
theorem fn_21 : fnOk Tryd.prog 21 = true := by kernel_rfl
theorem fn_22 : fnOk Tryd.prog 22 = true := by kernel_rfl
theorem fn_23 : fnOk Tryd.prog 23 = true := by kernel_rfl
theorem fn_24 : fnOk Tryd.prog 24 = true := by kernel_rfl
theorem fn_25 : fnOk Tryd.prog 25 = true := by kernel_rfl
theorem fn_26 : fnOk Tryd.prog 26 = true := by kernel_rfl
theorem fn_27 : fnOk Tryd.prog 27 = true := by kernel_rfl
theorem fn_28 : fnOk Tryd.prog 28 = true := by kernel_rfl
theorem fn_29 : fnOk Tryd.prog 29 = true := by kernel_rfl
theorem fn_30 : fnOk Tryd.prog 30 = true := by kernel_rfl
theorem fn_31 : fnOk Tryd.prog 31 = true := by kernel_rfl
theorem fn_32 : fnOk Tryd.prog 32 = true := by kernel_rfl
theorem fn_33 : fnOk Tryd.prog 33 = true := by kernel_rfl
theorem fn_34 : fnOk Tryd.prog 34 = true := by kernel_rfl
theorem fn_35 : fnOk Tryd.prog 35 = true := by kernel_rfl
theorem fn_36 : fnOk Tryd.prog 36 = true := by kernel_rfl
theorem fn_37 : fnOk Tryd.prog 37 = true := by kernel_rfl
theorem fn_38 : fnOk Tryd.prog 38 = true := by kernel_rfl
theorem fn_39 : fnOk Tryd.prog 39 = true := by kernel_rfl
theorem fn_40 : fnOk Tryd.prog 40 = true := by kernel_rfl
theorem fn_41 : fnOk Tryd.prog 41 = true := by kernel_rfl
theorem fn_42 : fnOk Tryd.prog 42 = true := by kernel_rfl
theorem fn_43 : fnOk Tryd.prog 43 = true := by kernel_rfl
theorem fn_44 : fnOk Tryd.prog 44 = true := by kernel_rfl
theorem fn_45 : fnOk Tryd.prog 45 = true := by kernel_rfl
theorem fn_46 : fnOk Tryd.prog 46 = true := by kernel_rfl
theorem fn_47 : fnOk Tryd.prog 47 = true := by kernel_rfl
theorem fn_48 : fnOk Tryd.prog 48 = true := by kernel_rfl
theorem fn_49 : fnOk Tryd.prog 49 = true := by kernel_rfl
theorem fn_50 : fnOk Tryd.prog 50 = true := by kernel_rfl
theorem fn_51 : fnOk Tryd.prog 51 = true := by kernel_rfl
theorem fn_52 : fnOk Tryd.prog 52 = true := by kernel_rfl
theorem fn_53 : fnOk Tryd.prog 53 = true := by kernel_rfl
theorem fn_54 : fnOk Tryd.prog 54 = true := by kernel_rfl
theorem fn_55 : fnOk Tryd.prog 55 = true := by kernel_rfl
theorem fn_56 : fnOk Tryd.prog 56 = true := by kernel_rfl
theorem fn_57 : fnOk Tryd.prog 57 = true := by kernel_rfl
theorem fn_58 : fnOk Tryd.prog 58 = true := by kernel_rfl
theorem fn_59 : fnOk Tryd.prog 59 = true := by kernel_rfl
theorem fn_60 : fnOk Tryd.prog 60 = true := by kernel_rfl
theorem fn_61 : fnOk Tryd.prog 61 = true := by kernel_rfl
theorem fn_62 : fnOk Tryd.prog 62 = true := by kernel_rfl
theorem fn_63 : fnOk Tryd.prog 63 = true := by kernel_rfl
theorem fn_64 : fnOk Tryd.prog 64 = true := by kernel_rfl
theorem fn_65 : fnOk Tryd.prog 65 = true := by kernel_rfl
theorem fn_66 : fnOk Tryd.prog 66 = true := by kernel_rfl
theorem fn_67 : fnOk Tryd.prog 67 = true := by kernel_rfl
theorem fn_68 : fnOk Tryd.prog 68 = true := by kernel_rfl
theorem fn_69 : fnOk Tryd.prog 69 = true := by kernel_rfl
theorem fn_70 : fnOk Tryd.prog 70 = true := by kernel_rfl
theorem fn_71 : fnOk Tryd.prog 71 = true := by kernel_rfl
theorem fn_72 : fnOk Tryd.prog 72 = true := by kernel_rfl
theorem fn_73 : fnOk Tryd.prog 73 = true := by kernel_rfl
theorem fn_74 : fnOk Tryd.prog 74 = true := by kernel_rfl
theorem fn_75 : fnOk Tryd.prog 75 = true := by kernel_rfl
theorem fn_76 : fnOk Tryd.prog 76 = true := by kernel_rfl
theorem fn_77 : fnOk Tryd.prog 77 = true := by kernel_rfl
theorem fn_78 : fnOk Tryd.prog 78 = true := by kernel_rfl
theorem fn_79 : fnOk Tryd.prog 79 = true := by kernel_rfl
theorem fn_80 : fnOk Tryd.prog 80 = true := by kernel_rfl
theorem fn_81 : fnOk Tryd.prog 81 = true := by kernel_rfl
theorem fn_82 : fnOk Tryd.prog 82 = true := by kernel_rfl
theorem fn_83 : fnOk Tryd.prog 83 = true := by kernel_rfl
theorem fn_84 : fnOk Tryd.prog 84 = true := by kernel_rfl
theorem fn_85 : fnOk Tryd.prog 85 = true := by kernel_rfl
theorem fn_86 : fnOk Tryd.prog 86 = true := by kernel_rfl
theorem fn_87 : fnOk Tryd.prog 87 = true := by kernel_rfl
theorem fn_88 : fnOk Tryd.prog 88 = true := by kernel_rfl
theorem fn_89 : fnOk Tryd.prog 89 = true := by kernel_rfl
theorem fn_90 : fnOk Tryd.prog 90 = true := by kernel_rfl
theorem fn_91 : fnOk Tryd.prog 91 = true := by kernel_rfl
theorem fn_92 : fnOk Tryd.prog 92 = true := by kernel_rfl
theorem fn_93 : fnOk Tryd.prog 93 = true := by kernel_rfl
theorem fn_94 : fnOk Tryd.prog 94 = true := by kernel_rfl
theorem fn_95 : fnOk Tryd.prog 95 = true := by kernel_rfl
theorem fn_96 : fnOk Tryd.prog 96 = true := by kernel_rfl
theorem fn_97 : fnOk Tryd.prog 97 = true := by kernel_rfl
theorem fn_98 : fnOk Tryd.prog 98 = true := by kernel_rfl
theorem fn_99 : fnOk Tryd.prog 99 = true := by kernel_rfl
theorem fn_100 : fnOk Tryd.prog 100 = true := by kernel_rfl
theorem fn_101 : fnOk Tryd.prog 101 = true := by kernel_rfl
theorem fn_102 : fnOk Tryd.prog 102 = true := by kernel_rfl
theorem fn_103 : fnOk Tryd.prog 103 = true := by kernel_rfl
theorem fn_104 : fnOk Tryd.prog 104 = true := by kernel_rfl
theorem fn_105 : fnOk Tryd.prog 105 = true := by kernel_rfl
theorem fn_106 : fnOk Tryd.prog 106 = true := by kernel_rfl
theorem fn_107 : fnOk Tryd.prog 107 = true := by kernel_rfl
theorem fn_108 : fnOk Tryd.prog 108 = true := by kernel_rfl
theorem fn_109 : fnOk Tryd.prog 109 = true := by kernel_rfl
theorem fn_110 : fnOk Tryd.prog 110 = true := by kernel_rfl
theorem fn_111 : fnOk Tryd.prog 111 = true := by kernel_rfl
theorem fn_112 : fnOk Tryd.prog 112 = true := by kernel_rfl
theorem fn_113 : fnOk Tryd.prog 113 = true := by kernel_rfl
theorem fn_114 : fnOk Tryd.prog 114 = true := by kernel_rfl
theorem fn_115 : fnOk Tryd.prog 115 = true := by kernel_rfl
theorem fn_116 : fnOk Tryd.prog 116 = true := by kernel_rfl
theorem fn_117 : fnOk Tryd.prog 117 = true := by kernel_rfl
theorem fn_118 : fnOk Tryd.prog 118 = true := by kernel_rfl
theorem fn_119 : fnOk Tryd.prog 119 = true := by kernel_rfl
theorem fn_120 : fnOk Tryd.prog 120 = true := by kernel_rfl
theorem fn_121 : fnOk Tryd.prog 121 = true := by kernel_rfl
theorem fn_122 : fnOk Tryd.prog 122 = true := by kernel_rfl
theorem fn_123 : fnOk Tryd.prog 123 = true := by kernel_rfl
theorem fn_125 : fnOk Tryd.prog 125 = true := by kernel_rfl
theorem fn_126 : fnOk Tryd.prog 126 = true := by kernel_rfl
theorem fn_127 : fnOk Tryd.prog 127 = true := by kernel_rfl
theorem fn_128 : fnOk Tryd.prog 128 = true := by kernel_rfl
theorem fn_129 : fnOk Tryd.prog 129 = true := by kernel_rfl
theorem fn_130 : fnOk Tryd.prog 130 = true := by kernel_rfl
theorem fn_131 : fnOk Tryd.prog 131 = true := by kernel_rfl
theorem fn_132 : fnOk Tryd.prog 132 = true := by kernel_rfl
theorem fn_133 : fnOk Tryd.prog 133 = true := by kernel_rfl
theorem fn_134 : fnOk Tryd.prog 134 = true := by kernel_rfl
theorem fn_135 : fnOk Tryd.prog 135 = true := by kernel_rfl
theorem fn_153 : fnOk Tryd.prog 153 = true := by kernel_rfl
theorem fn_154 : fnOk Tryd.prog 154 = true := by kernel_rfl
theorem fn_155 : fnOk Tryd.prog 155 = true := by kernel_rfl
theorem fn_156 : fnOk Tryd.prog 156 = true := by kernel_rfl
theorem fn_157 : fnOk Tryd.prog 157 = true := by kernel_rfl
theorem fn_158 : fnOk Tryd.prog 158 = true := by kernel_rfl
theorem fn_159 : fnOk Tryd.prog 159 = true := by kernel_rfl
theorem fn_160 : fnOk Tryd.prog 160 = true := by kernel_rfl
end Go.Proofs.YtknflipongbngaaDoor
