/- What the tables of the abstract interpreter hold. Conditions: none. -/
import Derived.Test.YthkpjbgadkkeeaaGreatQ5
set_option linter.unusedSimpArgs false
set_option linter.unusedVariables false
namespace Go.Proofs.YthkpjbgadkkeeaaGreat
open Go.Proofs Go.Proofs.YthkpjbgadkkeeaaGreat
@[go_sem] theorem orc_3 : tabX.orc 3 = none := id rfl
@[go_sem] theorem orc_11 : tabX.orc 11 = none := id rfl
@[go_sem] theorem orc_12 : tabX.orc 12 = none := id rfl
@[go_sem] theorem orc_13 : tabX.orc 13 = none := id rfl
@[go_sem] theorem orc_14 : tabX.orc 14 = none := id rfl
@[go_sem] theorem orc_15 : tabX.orc 15 = none := id rfl
@[go_sem] theorem orc_16 : tabX.orc 16 = none := id rfl
@[go_sem] theorem orc_17 : tabX.orc 17 = none := id rfl
@[go_sem] theorem orc_18 : tabX.orc 18 = none := id rfl
@[go_sem] theorem orc_19 : tabX.orc 19 = none := id rfl
@[go_sem] theorem orc_20 : tabX.orc 20 = none := id rfl
@[go_sem] theorem orc_22 : tabX.orc 22 = none := id rfl
@[go_sem] theorem orc_23 : tabX.orc 23 = none := id rfl
@[go_sem] theorem orc_25 : tabX.orc 25 = none := id rfl
@[go_sem] theorem orc_26 : tabX.orc 26 = none := id rfl
@[go_sem] theorem orc_28 : tabX.orc 28 = none := id rfl
@[go_sem] theorem orc_30 : tabX.orc 30 = none := id rfl
@[go_sem] theorem orc_31 : tabX.orc 31 = none := id rfl
@[go_sem] theorem orc_32 : tabX.orc 32 = none := id rfl
@[go_sem] theorem orc_33 : tabX.orc 33 = none := id rfl
@[go_sem] theorem orc_34 : tabX.orc 34 = none := id rfl
@[go_sem] theorem orc_35 : tabX.orc 35 = none := id rfl
@[go_sem] theorem orc_36 : tabX.orc 36 = none := id rfl
@[go_sem] theorem orc_38 : tabX.orc 38 = none := id rfl
@[go_sem] theorem orc_44 : tabX.orc 44 = none := id rfl
@[go_sem] theorem orc_45 : tabX.orc 45 = none := id rfl
@[go_sem] theorem orc_46 : tabX.orc 46 = none := id rfl
@[go_sem] theorem orc_47 : tabX.orc 47 = none := id rfl
@[go_sem] theorem orc_48 : tabX.orc 48 = none := id rfl
@[go_sem] theorem orc_49 : tabX.orc 49 = none := id rfl
@[go_sem] theorem orc_50 : tabX.orc 50 = none := id rfl
@[go_sem] theorem orc_51 : tabX.orc 51 = none := id rfl
@[go_sem] theorem orc_52 : tabX.orc 52 = none := id rfl
@[go_sem] theorem orc_53 : tabX.orc 53 = none := id rfl
@[go_sem] theorem orc_54 : tabX.orc 54 = none := id rfl
@[go_sem] theorem orc_55 : tabX.orc 55 = none := id rfl
@[go_sem] theorem orc_56 : tabX.orc 56 = none := id rfl
@[go_sem] theorem orc_57 : tabX.orc 57 = none := id rfl
@[go_sem] theorem orc_58 : tabX.orc 58 = none := id rfl
@[go_sem] theorem orc_59 : tabX.orc 59 = none := id rfl
@[go_sem] theorem orc_60 : tabX.orc 60 = some costsO := id rfl
@[go_sem] theorem orc_61 : tabX.orc 61 = none := id rfl
@[go_sem] theorem orc_62 : tabX.orc 62 = none := id rfl
@[go_sem] theorem orc_63 : tabX.orc 63 = none := id rfl
@[go_sem] theorem orc_64 : tabX.orc 64 = none := id rfl
@[go_sem] theorem orc_65 : tabX.orc 65 = none := id rfl
@[go_sem] theorem orc_66 : tabX.orc 66 = none := id rfl
@[go_sem] theorem orc_67 : tabX.orc 67 = none := id rfl
@[go_sem] theorem orc_68 : tabX.orc 68 = none := id rfl
@[go_sem] theorem orc_69 : tabX.orc 69 = none := id rfl
@[go_sem] theorem orc_70 : tabX.orc 70 = none := id rfl
@[go_sem] theorem orc_72 : tabX.orc 72 = none := id rfl
@[go_sem] theorem orc_73 : tabX.orc 73 = none := id rfl
@[go_sem] theorem orc_75 : tabX.orc 75 = none := id rfl
@[go_sem] theorem orc_98 : tabX.orc 98 = none := id rfl
@[go_sem] theorem orc_99 : tabX.orc 99 = none := id rfl
@[go_sem] theorem orc_100 : tabX.orc 100 = none := id rfl
@[go_sem] theorem orc_101 : tabX.orc 101 = none := id rfl
@[go_sem] theorem orc_102 : tabX.orc 102 = none := id rfl
@[go_sem] theorem orc_103 : tabX.orc 103 = none := id rfl
@[go_sem] theorem orc_104 : tabX.orc 104 = none := id rfl
@[go_sem] theorem orc_107 : tabX.orc 107 = none := id rfl
@[go_sem] theorem orc_108 : tabX.orc 108 = none := id rfl
@[go_sem] theorem orc_109 : tabX.orc 109 = none := id rfl
@[go_sem] theorem orc_110 : tabX.orc 110 = none := id rfl
@[go_sem] theorem orc_111 : tabX.orc 111 = none := id rfl
@[go_sem] theorem orc_112 : tabX.orc 112 = none := id rfl
@[go_sem] theorem orc_113 : tabX.orc 113 = none := id rfl
@[go_sem] theorem orc_114 : tabX.orc 114 = none := id rfl
@[go_sem] theorem orc_115 : tabX.orc 115 = none := id rfl
@[go_sem] theorem orc_116 : tabX.orc 116 = none := id rfl
@[go_sem] theorem orc_117 : tabX.orc 117 = none := id rfl
@[go_sem] theorem orc_118 : tabX.orc 118 = none := id rfl
@[go_sem] theorem orc_119 : tabX.orc 119 = none := id rfl
@[go_sem] theorem orc_120 : tabX.orc 120 = none := id rfl
@[go_sem] theorem orc_121 : tabX.orc 121 = none := id rfl
@[go_sem] theorem orc_122 : tabX.orc 122 = none := id rfl
@[go_sem] theorem orc_123 : tabX.orc 123 = none := id rfl
@[go_sem] theorem orc_124 : tabX.orc 124 = none := id rfl
@[go_sem] theorem orc_125 : tabX.orc 125 = none := id rfl
@[go_sem] theorem orc_126 : tabX.orc 126 = none := id rfl
@[go_sem] theorem orc_127 : tabX.orc 127 = none := id rfl
@[go_sem] theorem orc_130 : tabX.orc 130 = none := id rfl
@[go_sem] theorem orc_146 : tabX.orc 146 = none := id rfl
@[go_sem] theorem orc_156 : tabX.orc 156 = none := id rfl
@[go_sem] theorem orc_157 : tabX.orc 157 = none := id rfl
@[go_sem] theorem orc_158 : tabX.orc 158 = none := id rfl
@[go_sem] theorem orc_159 : tabX.orc 159 = none := id rfl
@[go_sem] theorem orc_160 : tabX.orc 160 = none := id rfl
@[go_sem] theorem orc_161 : tabX.orc 161 = none := id rfl
@[go_sem] theorem orc_164 : tabX.orc 164 = none := id rfl
@[go_sem] theorem orc_165 : tabX.orc 165 = none := id rfl
@[go_sem] theorem orc_166 : tabX.orc 166 = none := id rfl
@[go_sem] theorem orc_182 : tabX.orc 182 = none := id rfl
@[go_sem] theorem orc_194 : tabX.orc 194 = none := id rfl
@[go_sem] theorem orc_195 : tabX.orc 195 = none := id rfl
@[go_sem] theorem ty_0 : tabX.ty.get 0 = some { sz := 1, bytes := 0, ag := false, row := Row.none, ik := none, flds := [], zero := none, mp := none, eqt := none, isBool := false, isRef := false, fok := false, und := true } := id (by kernel_rfl)
@[go_sem] theorem ty_1 : tabX.ty.get 1 = some { sz := 1, bytes := 8, ag := false, row := Row.none, ik := none, flds := [], zero := some AV.nilf, mp := none, eqt := none, isBool := false, isRef := true, fok := false, und := true } := id (by kernel_rfl)
@[go_sem] theorem ty_2 : tabX.ty.get 2 = some { sz := 1, bytes := 8, ag := false, row := Row.none, ik := some IntKind.i64, flds := [], zero := some (AV.int IntKind.i64 (0)), mp := none, eqt := none, isBool := false, isRef := false, fok := false, und := true } := id (by kernel_rfl)
@[go_sem] theorem ty_3 : tabX.ty.get 3 = some { sz := 1, bytes := 8, ag := false, row := Row.none, ik := some IntKind.i64, flds := [], zero := some (AV.int IntKind.i64 (0)), mp := none, eqt := none, isBool := false, isRef := false, fok := false, und := true } := id (by kernel_rfl)
@[go_sem] theorem ty_4 : tabX.ty.get 4 = some { sz := 1, bytes := 1, ag := false, row := Row.none, ik := none, flds := [], zero := some (AV.bool false), mp := none, eqt := none, isBool := true, isRef := false, fok := false, und := true } := id (by kernel_rfl)
@[go_sem] theorem ty_5 : tabX.ty.get 5 = some { sz := 1, bytes := 1, ag := false, row := Row.none, ik := some IntKind.u8, flds := [], zero := some (AV.int IntKind.u8 (0)), mp := none, eqt := none, isBool := false, isRef := false, fok := false, und := true } := id (by kernel_rfl)
@[go_sem] theorem ty_6 : tabX.ty.get 6 = some { sz := 1, bytes := 1, ag := false, row := Row.none, ik := some IntKind.u8, flds := [], zero := some (AV.int IntKind.u8 (0)), mp := none, eqt := none, isBool := false, isRef := false, fok := false, und := true } := id (by kernel_rfl)
@[go_sem] theorem ty_7 : tabX.ty.get 7 = some { sz := 4, bytes := 24, ag := true, row := Row.none, ik := none, flds := [(0, 1, false), (1, 1, false), (2, 1, false), (3, 1, false)], zero := some (AV.agg [AV.int IntKind.i64 (0), AV.int IntKind.i64 (0), AV.bool false, AV.int IntKind.u8 (0)]), mp := none, eqt := some [0, 0, 1, 0], isBool := false, isRef := false, fok := true, und := true } := id (by kernel_rfl)
@[go_sem] theorem ty_8 : tabX.ty.get 8 = some { sz := 4, bytes := 24, ag := true, row := Row.none, ik := none, flds := [(0, 1, false), (1, 1, false), (2, 1, false), (3, 1, false)], zero := some (AV.agg [AV.int IntKind.i64 (0), AV.int IntKind.i64 (0), AV.bool false, AV.int IntKind.u8 (0)]), mp := none, eqt := some [0, 0, 1, 0], isBool := false, isRef := false, fok := true, und := true } := id (by kernel_rfl)
@[go_sem] theorem ty_9 : tabX.ty.get 9 = some { sz := 1, bytes := 16, ag := false, row := Row.str, ik := none, flds := [], zero := some (AV.str { data := { toList := [] } }), mp := none, eqt := none, isBool := false, isRef := false, fok := false, und := true } := id (by kernel_rfl)
@[go_sem] theorem ty_21 : tabX.ty.get 21 = some { sz := 1, bytes := 4, ag := false, row := Row.none, ik := some IntKind.i32, flds := [], zero := some (AV.int IntKind.i32 (0)), mp := none, eqt := none, isBool := false, isRef := false, fok := false, und := true } := id (by kernel_rfl)
@[go_sem] theorem ty_22 : tabX.ty.get 22 = some { sz := 1, bytes := 24, ag := false, row := Row.slice 3, ik := none, flds := [], zero := some (AV.lst 1 0 []), mp := none, eqt := none, isBool := false, isRef := false, fok := false, und := true } := id (by kernel_rfl)
@[go_sem] theorem ty_23 : tabX.ty.get 23 = some { sz := 1, bytes := 24, ag := false, row := Row.slice 59, ik := none, flds := [], zero := some (AV.lst 1 0 []), mp := none, eqt := none, isBool := false, isRef := false, fok := false, und := true } := id (by kernel_rfl)
@[go_sem] theorem ty_24 : tabX.ty.get 24 = some { sz := 1, bytes := 24, ag := false, row := Row.slice 49, ik := none, flds := [], zero := some (AV.lst 1 0 []), mp := none, eqt := none, isBool := false, isRef := false, fok := false, und := true } := id (by kernel_rfl)
@[go_sem] theorem ty_25 : tabX.ty.get 25 = some { sz := 1, bytes := 24, ag := false, row := Row.slice 83, ik := none, flds := [], zero := some (AV.lst 1 0 []), mp := none, eqt := none, isBool := false, isRef := false, fok := false, und := true } := id (by kernel_rfl)
@[go_sem] theorem ty_27 : tabX.ty.get 27 = some { sz := 9, bytes := 136, ag := true, row := Row.none, ik := none, flds := [(0, 1, false), (1, 1, false), (2, 1, false), (3, 1, false), (4, 1, false), (5, 1, false), (6, 1, false), (7, 1, false), (8, 1, false)], zero := some (AV.agg [AV.int IntKind.i64 (0), AV.int IntKind.i64 (0), AV.int IntKind.i64 (0), AV.int IntKind.i64 (0), AV.int IntKind.i64 (0), AV.lst 1 0 [], AV.lst 1 0 [], AV.lst 1 0 [], AV.lst 1 0 []]), mp := none, eqt := none, isBool := false, isRef := false, fok := true, und := true } := id (by kernel_rfl)
@[go_sem] theorem ty_29 : tabX.ty.get 29 = some { sz := 2, bytes := 16, ag := true, row := Row.none, ik := none, flds := [(0, 1, false), (1, 1, false)], zero := some (AV.agg [AV.int IntKind.i64 (0), AV.int IntKind.i64 (0)]), mp := none, eqt := some [0, 0], isBool := false, isRef := false, fok := true, und := true } := id (by kernel_rfl)
@[go_sem] theorem ty_30 : tabX.ty.get 30 = some { sz := 1, bytes := 8, ag := false, row := Row.none, ik := some IntKind.i64, flds := [], zero := some (AV.int IntKind.i64 (0)), mp := none, eqt := none, isBool := false, isRef := false, fok := false, und := true } := id (by kernel_rfl)
@[go_sem] theorem ty_42 : tabX.ty.get 42 = some { sz := 1, bytes := 24, ag := false, row := Row.slice 5, ik := none, flds := [], zero := some (AV.lst 1 0 []), mp := none, eqt := none, isBool := false, isRef := false, fok := false, und := true } := id (by kernel_rfl)
@[go_sem] theorem ty_44 : tabX.ty.get 44 = some { sz := 1, bytes := 24, ag := false, row := Row.slice 4, ik := none, flds := [], zero := some (AV.lst 1 0 []), mp := none, eqt := none, isBool := false, isRef := false, fok := false, und := true } := id (by kernel_rfl)
@[go_sem] theorem ty_46 : tabX.ty.get 46 = some { sz := 5, bytes := 104, ag := true, row := Row.none, ik := none, flds := [(0, 1, false), (1, 1, false), (2, 1, false), (3, 1, false), (4, 1, false)], zero := some (AV.agg [AV.lst 1 0 [], AV.lst 1 0 [], AV.lst 1 0 [], AV.lst 1 0 [], AV.int IntKind.i64 (0)]), mp := none, eqt := none, isBool := false, isRef := false, fok := true, und := true } := id (by kernel_rfl)
@[go_sem] theorem ty_49 : tabX.ty.get 49 = some { sz := 8, bytes := 64, ag := true, row := Row.none, ik := none, flds := [(0, 1, false), (1, 1, false), (2, 1, false), (3, 2, true), (5, 2, true), (7, 1, false)], zero := some (AV.agg [AV.int IntKind.i64 (0), AV.int IntKind.i64 (0), AV.int IntKind.i64 (0), AV.int IntKind.i64 (0), AV.int IntKind.i64 (0), AV.int IntKind.i64 (0), AV.int IntKind.i64 (0), AV.bool false]), mp := none, eqt := none, isBool := false, isRef := false, fok := true, und := true } := id (by kernel_rfl)
@[go_sem] theorem ty_59 : tabX.ty.get 59 = some { sz := 2, bytes := 24, ag := true, row := Row.none, ik := none, flds := [(0, 1, false), (1, 1, false)], zero := some (AV.agg [AV.str { data := { toList := [] } }, AV.int IntKind.i64 (0)]), mp := none, eqt := some [2, 0], isBool := false, isRef := false, fok := true, und := true } := id (by kernel_rfl)
@[go_sem] theorem ty_60 : tabX.ty.get 60 = some { sz := 1, bytes := 8, ag := false, row := Row.none, ik := none, flds := [], zero := some AV.nilf, mp := none, eqt := none, isBool := false, isRef := true, fok := false, und := true } := id (by kernel_rfl)
@[go_sem] theorem ty_62 : tabX.ty.get 62 = some { sz := 2, bytes := 32, ag := true, row := Row.none, ik := none, flds := [(0, 1, false), (1, 1, false)], zero := some (AV.agg [AV.int IntKind.i64 (0), AV.lst 1 0 []]), mp := none, eqt := none, isBool := false, isRef := false, fok := true, und := true } := id (by kernel_rfl)
@[go_sem] theorem ty_67 : tabX.ty.get 67 = some { sz := 1, bytes := 8, ag := false, row := Row.none, ik := none, flds := [], zero := some AV.nilf, mp := none, eqt := none, isBool := false, isRef := true, fok := false, und := true } := id (by kernel_rfl)
@[go_sem] theorem ty_70 : tabX.ty.get 70 = some { sz := 1, bytes := 24, ag := false, row := Row.slice 9, ik := none, flds := [], zero := some (AV.lst 1 0 []), mp := none, eqt := none, isBool := false, isRef := false, fok := false, und := true } := id (by kernel_rfl)
@[go_sem] theorem ty_83 : tabX.ty.get 83 = some { sz := 2, bytes := 16, ag := true, row := Row.none, ik := none, flds := [(0, 1, false), (1, 1, false)], zero := some (AV.agg [AV.int IntKind.i64 (0), AV.int IntKind.i64 (0)]), mp := none, eqt := some [0, 0], isBool := false, isRef := false, fok := true, und := true } := id (by kernel_rfl)
@[go_sem] theorem ty_85 : tabX.ty.get 85 = some { sz := 1, bytes := 8, ag := false, row := Row.none, ik := none, flds := [], zero := some AV.nilp, mp := none, eqt := none, isBool := false, isRef := true, fok := false, und := true } := id (by kernel_rfl)
@[go_sem] theorem ty_88 : tabX.ty.get 88 = some { sz := 1, bytes := 8, ag := false, row := Row.none, ik := none, flds := [], zero := some AV.nilf, mp := none, eqt := none, isBool := false, isRef := true, fok := false, und := true } := id (by kernel_rfl)
@[go_sem] theorem ty_91 : tabX.ty.get 91 = some { sz := 301, bytes := 2408, ag := true, row := Row.array 301 3, ik := none, flds := [], zero := some (AV.agg [AV.int IntKind.i64 (0), AV.int IntKind.i64 (0), AV.int IntKind.i64 (0), AV.int IntKind.i64 (0), AV.int IntKind.i64 (0), AV.int IntKind.i64 (0), AV.int IntKind.i64 (0), AV.int IntKind.i64 (0), AV.int IntKind.i64 (0), AV.int IntKind.i64 (0), AV.int IntKind.i64 (0), AV.int IntKind.i64 (0), AV.int IntKind.i64 (0), AV.int IntKind.i64 (0), AV.int IntKind.i64 (0), AV.int IntKind.i64 (0), AV.int IntKind.i64 (0), AV.int IntKind.i64 (0), AV.int IntKind.i64 (0), AV.int IntKind.i64 (0), AV.int IntKind.i64 (0), AV.int IntKind.i64 (0), AV.int IntKind.i64 (0), AV.int IntKind.i64 (0), AV.int IntKind.i64 (0), AV.int IntKind.i64 (0), AV.int IntKind.i64 (0), AV.int IntKind.i64 (0), AV.int IntKind.i64 (0), AV.int IntKind.i64 (0), AV.int IntKind.i64 (0), AV.int IntKind.i64 (0), AV.int IntKind.i64 (0), AV.int IntKind.i64 (0), AV.int IntKind.i64 (0), AV.int IntKind.i64 (0), AV.int IntKind.i64 (0), AV.int IntKind.i64 (0), AV.int IntKind.i64 (0), AV.int IntKind.i64 (0), AV.int IntKind.i64 (0), AV.int IntKind.i64 (0), AV.int IntKind.i64 (0), AV.int IntKind.i64 (0), AV.int IntKind.i64 (0), AV.int IntKind.i64 (0), AV.int IntKind.i64 (0), AV.int IntKind.i64 (0), AV.int IntKind.i64 (0), AV.int IntKind.i64 (0), AV.int IntKind.i64 (0), AV.int IntKind.i64 (0), AV.int IntKind.i64 (0), AV.int IntKind.i64 (0), AV.int IntKind.i64 (0), AV.int IntKind.i64 (0), AV.int IntKind.i64 (0), AV.int IntKind.i64 (0), AV.int IntKind.i64 (0), AV.int IntKind.i64 (0), AV.int IntKind.i64 (0), AV.int IntKind.i64 (0), AV.int IntKind.i64 (0), AV.int IntKind.i64 (0), AV.int IntKind.i64 (0), AV.int IntKind.i64 (0), AV.int IntKind.i64 (0), AV.int IntKind.i64 (0), AV.int IntKind.i64 (0), AV.int IntKind.i64 (0), AV.int IntKind.i64 (0), AV.int IntKind.i64 (0), AV.int IntKind.i64 (0), AV.int IntKind.i64 (0), AV.int IntKind.i64 (0), AV.int IntKind.i64 (0), AV.int IntKind.i64 (0), AV.int IntKind.i64 (0), AV.int IntKind.i64 (0), AV.int IntKind.i64 (0), AV.int IntKind.i64 (0), AV.int IntKind.i64 (0), AV.int IntKind.i64 (0), AV.int IntKind.i64 (0), AV.int IntKind.i64 (0), AV.int IntKind.i64 (0), AV.int IntKind.i64 (0), AV.int IntKind.i64 (0), AV.int IntKind.i64 (0), AV.int IntKind.i64 (0), AV.int IntKind.i64 (0), AV.int IntKind.i64 (0), AV.int IntKind.i64 (0), AV.int IntKind.i64 (0), AV.int IntKind.i64 (0), AV.int IntKind.i64 (0), AV.int IntKind.i64 (0), AV.int IntKind.i64 (0), AV.int IntKind.i64 (0), AV.int IntKind.i64 (0), AV.int IntKind.i64 (0), AV.int IntKind.i64 (0), AV.int IntKind.i64 (0), AV.int IntKind.i64 (0), AV.int IntKind.i64 (0), AV.int IntKind.i64 (0), AV.int IntKind.i64 (0), AV.int IntKind.i64 (0), AV.int IntKind.i64 (0), AV.int IntKind.i64 (0), AV.int IntKind.i64 (0), AV.int IntKind.i64 (0), AV.int IntKind.i64 (0), AV.int IntKind.i64 (0), AV.int IntKind.i64 (0), AV.int IntKind.i64 (0), AV.int IntKind.i64 (0), AV.int IntKind.i64 (0), AV.int IntKind.i64 (0), AV.int IntKind.i64 (0), AV.int IntKind.i64 (0), AV.int IntKind.i64 (0), AV.int IntKind.i64 (0), AV.int IntKind.i64 (0), AV.int IntKind.i64 (0), AV.int IntKind.i64 (0), AV.int IntKind.i64 (0), AV.int IntKind.i64 (0), AV.int IntKind.i64 (0), AV.int IntKind.i64 (0), AV.int IntKind.i64 (0), AV.int IntKind.i64 (0), AV.int IntKind.i64 (0), AV.int IntKind.i64 (0), AV.int IntKind.i64 (0), AV.int IntKind.i64 (0), AV.int IntKind.i64 (0), AV.int IntKind.i64 (0), AV.int IntKind.i64 (0), AV.int IntKind.i64 (0), AV.int IntKind.i64 (0), AV.int IntKind.i64 (0), AV.int IntKind.i64 (0), AV.int IntKind.i64 (0), AV.int IntKind.i64 (0), AV.int IntKind.i64 (0), AV.int IntKind.i64 (0), AV.int IntKind.i64 (0), AV.int IntKind.i64 (0), AV.int IntKind.i64 (0), AV.int IntKind.i64 (0), AV.int IntKind.i64 (0), AV.int IntKind.i64 (0), AV.int IntKind.i64 (0), AV.int IntKind.i64 (0), AV.int IntKind.i64 (0), AV.int IntKind.i64 (0), AV.int IntKind.i64 (0), AV.int IntKind.i64 (0), AV.int IntKind.i64 (0), AV.int IntKind.i64 (0), AV.int IntKind.i64 (0), AV.int IntKind.i64 (0), AV.int IntKind.i64 (0), AV.int IntKind.i64 (0), AV.int IntKind.i64 (0), AV.int IntKind.i64 (0), AV.int IntKind.i64 (0), AV.int IntKind.i64 (0), AV.int IntKind.i64 (0), AV.int IntKind.i64 (0), AV.int IntKind.i64 (0), AV.int IntKind.i64 (0), AV.int IntKind.i64 (0), AV.int IntKind.i64 (0), AV.int IntKind.i64 (0), AV.int IntKind.i64 (0), AV.int IntKind.i64 (0), AV.int IntKind.i64 (0), AV.int IntKind.i64 (0), AV.int IntKind.i64 (0), AV.int IntKind.i64 (0), AV.int IntKind.i64 (0), AV.int IntKind.i64 (0), AV.int IntKind.i64 (0), AV.int IntKind.i64 (0), AV.int IntKind.i64 (0), AV.int IntKind.i64 (0), AV.int IntKind.i64 (0), AV.int IntKind.i64 (0), AV.int IntKind.i64 (0), AV.int IntKind.i64 (0), AV.int IntKind.i64 (0), AV.int IntKind.i64 (0), AV.int IntKind.i64 (0), AV.int IntKind.i64 (0), AV.int IntKind.i64 (0), AV.int IntKind.i64 (0), AV.int IntKind.i64 (0), AV.int IntKind.i64 (0), AV.int IntKind.i64 (0), AV.int IntKind.i64 (0), AV.int IntKind.i64 (0), AV.int IntKind.i64 (0), AV.int IntKind.i64 (0), AV.int IntKind.i64 (0), AV.int IntKind.i64 (0), AV.int IntKind.i64 (0), AV.int IntKind.i64 (0), AV.int IntKind.i64 (0), AV.int IntKind.i64 (0), AV.int IntKind.i64 (0), AV.int IntKind.i64 (0), AV.int IntKind.i64 (0), AV.int IntKind.i64 (0), AV.int IntKind.i64 (0), AV.int IntKind.i64 (0), AV.int IntKind.i64 (0), AV.int IntKind.i64 (0), AV.int IntKind.i64 (0), AV.int IntKind.i64 (0), AV.int IntKind.i64 (0), AV.int IntKind.i64 (0), AV.int IntKind.i64 (0), AV.int IntKind.i64 (0), AV.int IntKind.i64 (0), AV.int IntKind.i64 (0), AV.int IntKind.i64 (0), AV.int IntKind.i64 (0), AV.int IntKind.i64 (0), AV.int IntKind.i64 (0), AV.int IntKind.i64 (0), AV.int IntKind.i64 (0), AV.int IntKind.i64 (0), AV.int IntKind.i64 (0), AV.int IntKind.i64 (0), AV.int IntKind.i64 (0), AV.int IntKind.i64 (0), AV.int IntKind.i64 (0), AV.int IntKind.i64 (0), AV.int IntKind.i64 (0), AV.int IntKind.i64 (0), AV.int IntKind.i64 (0), AV.int IntKind.i64 (0), AV.int IntKind.i64 (0), AV.int IntKind.i64 (0), AV.int IntKind.i64 (0), AV.int IntKind.i64 (0), AV.int IntKind.i64 (0), AV.int IntKind.i64 (0), AV.int IntKind.i64 (0), AV.int IntKind.i64 (0), AV.int IntKind.i64 (0), AV.int IntKind.i64 (0), AV.int IntKind.i64 (0), AV.int IntKind.i64 (0), AV.int IntKind.i64 (0), AV.int IntKind.i64 (0), AV.int IntKind.i64 (0), AV.int IntKind.i64 (0), AV.int IntKind.i64 (0), AV.int IntKind.i64 (0), AV.int IntKind.i64 (0), AV.int IntKind.i64 (0), AV.int IntKind.i64 (0), AV.int IntKind.i64 (0), AV.int IntKind.i64 (0), AV.int IntKind.i64 (0), AV.int IntKind.i64 (0), AV.int IntKind.i64 (0), AV.int IntKind.i64 (0), AV.int IntKind.i64 (0), AV.int IntKind.i64 (0), AV.int IntKind.i64 (0), AV.int IntKind.i64 (0), AV.int IntKind.i64 (0), AV.int IntKind.i64 (0), AV.int IntKind.i64 (0), AV.int IntKind.i64 (0), AV.int IntKind.i64 (0), AV.int IntKind.i64 (0), AV.int IntKind.i64 (0), AV.int IntKind.i64 (0), AV.int IntKind.i64 (0), AV.int IntKind.i64 (0), AV.int IntKind.i64 (0), AV.int IntKind.i64 (0), AV.int IntKind.i64 (0), AV.int IntKind.i64 (0), AV.int IntKind.i64 (0), AV.int IntKind.i64 (0), AV.int IntKind.i64 (0), AV.int IntKind.i64 (0), AV.int IntKind.i64 (0), AV.int IntKind.i64 (0), AV.int IntKind.i64 (0), AV.int IntKind.i64 (0), AV.int IntKind.i64 (0), AV.int IntKind.i64 (0), AV.int IntKind.i64 (0), AV.int IntKind.i64 (0)]), mp := none, eqt := some (List.replicate 301 (0)), isBool := false, isRef := false, fok := false, und := true } := id (by kernel_rfl)
@[go_sem] theorem ty_93 : tabX.ty.get 93 = some { sz := 1, bytes := 8, ag := false, row := Row.none, ik := none, flds := [], zero := some AV.nilf, mp := none, eqt := none, isBool := false, isRef := true, fok := false, und := true } := id (by kernel_rfl)
@[go_sem] theorem ty_96 : tabX.ty.get 96 = some { sz := 5, bytes := 32, ag := true, row := Row.none, ik := none, flds := [(0, 1, false), (1, 1, false), (2, 1, false), (3, 1, false), (4, 1, false)], zero := some (AV.agg [AV.int IntKind.i64 (0), AV.int IntKind.i64 (0), AV.int IntKind.i64 (0), AV.bool false, AV.bool false]), mp := none, eqt := some [0, 0, 0, 1, 1], isBool := false, isRef := false, fok := true, und := true } := id (by kernel_rfl)
end Go.Proofs.YthkpjbgadkkeeaaGreat
