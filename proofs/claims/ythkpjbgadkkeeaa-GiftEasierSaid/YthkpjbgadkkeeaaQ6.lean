/- What the tables of the abstract interpreter hold. Conditions: none. -/
import Derived.Test.YthkpjbgadkkeeaaQ5
set_option linter.unusedSimpArgs false
set_option linter.unusedVariables false
namespace Go.Proofs.Ythkpjbgadkkeeaa
open Go.Proofs Go.Proofs.Ythkpjbgadkkeeaa
@[go_sem] theorem orc_2 : tabX.orc 2 = none := id rfl
@[go_sem] theorem orc_3 : tabX.orc 3 = none := id rfl
@[go_sem] theorem orc_4 : tabX.orc 4 = none := id rfl
@[go_sem] theorem orc_5 : tabX.orc 5 = none := id rfl
@[go_sem] theorem orc_6 : tabX.orc 6 = none := id rfl
@[go_sem] theorem orc_7 : tabX.orc 7 = none := id rfl
@[go_sem] theorem orc_8 : tabX.orc 8 = none := id rfl
@[go_sem] theorem orc_9 : tabX.orc 9 = none := id rfl
@[go_sem] theorem orc_10 : tabX.orc 10 = none := id rfl
@[go_sem] theorem orc_11 : tabX.orc 11 = none := id rfl
@[go_sem] theorem orc_12 : tabX.orc 12 = none := id rfl
@[go_sem] theorem orc_13 : tabX.orc 13 = none := id rfl
@[go_sem] theorem orc_14 : tabX.orc 14 = none := id rfl
@[go_sem] theorem orc_15 : tabX.orc 15 = none := id rfl
@[go_sem] theorem orc_16 : tabX.orc 16 = none := id rfl
@[go_sem] theorem orc_17 : tabX.orc 17 = none := id rfl
@[go_sem] theorem orc_18 : tabX.orc 18 = none := id rfl
@[go_sem] theorem orc_19 : tabX.orc 19 = none := id rfl
@[go_sem] theorem orc_20 : tabX.orc 20 = none := id rfl
@[go_sem] theorem orc_21 : tabX.orc 21 = none := id rfl
@[go_sem] theorem orc_22 : tabX.orc 22 = none := id rfl
@[go_sem] theorem orc_23 : tabX.orc 23 = none := id rfl
@[go_sem] theorem orc_24 : tabX.orc 24 = none := id rfl
@[go_sem] theorem orc_25 : tabX.orc 25 = none := id rfl
@[go_sem] theorem orc_26 : tabX.orc 26 = none := id rfl
@[go_sem] theorem orc_27 : tabX.orc 27 = none := id rfl
@[go_sem] theorem orc_28 : tabX.orc 28 = none := id rfl
@[go_sem] theorem orc_29 : tabX.orc 29 = none := id rfl
@[go_sem] theorem orc_30 : tabX.orc 30 = none := id rfl
@[go_sem] theorem orc_31 : tabX.orc 31 = none := id rfl
@[go_sem] theorem orc_32 : tabX.orc 32 = none := id rfl
@[go_sem] theorem orc_33 : tabX.orc 33 = none := id rfl
@[go_sem] theorem orc_34 : tabX.orc 34 = none := id rfl
@[go_sem] theorem orc_35 : tabX.orc 35 = none := id rfl
@[go_sem] theorem orc_36 : tabX.orc 36 = none := id rfl
@[go_sem] theorem orc_37 : tabX.orc 37 = none := id rfl
@[go_sem] theorem orc_38 : tabX.orc 38 = none := id rfl
@[go_sem] theorem orc_39 : tabX.orc 39 = none := id rfl
@[go_sem] theorem orc_40 : tabX.orc 40 = none := id rfl
@[go_sem] theorem orc_41 : tabX.orc 41 = none := id rfl
@[go_sem] theorem orc_42 : tabX.orc 42 = none := id rfl
@[go_sem] theorem orc_43 : tabX.orc 43 = none := id rfl
@[go_sem] theorem orc_44 : tabX.orc 44 = none := id rfl
@[go_sem] theorem orc_45 : tabX.orc 45 = none := id rfl
@[go_sem] theorem orc_46 : tabX.orc 46 = none := id rfl
@[go_sem] theorem orc_47 : tabX.orc 47 = none := id rfl
@[go_sem] theorem orc_48 : tabX.orc 48 = none := id rfl
@[go_sem] theorem orc_49 : tabX.orc 49 = none := id rfl
@[go_sem] theorem orc_50 : tabX.orc 50 = none := id rfl
@[go_sem] theorem orc_51 : tabX.orc 51 = none := id rfl
@[go_sem] theorem orc_52 : tabX.orc 52 = some costsO := id rfl
@[go_sem] theorem orc_53 : tabX.orc 53 = none := id rfl
@[go_sem] theorem orc_54 : tabX.orc 54 = none := id rfl
@[go_sem] theorem orc_55 : tabX.orc 55 = none := id rfl
@[go_sem] theorem orc_56 : tabX.orc 56 = none := id rfl
@[go_sem] theorem orc_57 : tabX.orc 57 = none := id rfl
@[go_sem] theorem orc_58 : tabX.orc 58 = none := id rfl
@[go_sem] theorem orc_59 : tabX.orc 59 = none := id rfl
@[go_sem] theorem orc_60 : tabX.orc 60 = none := id rfl
@[go_sem] theorem orc_61 : tabX.orc 61 = none := id rfl
@[go_sem] theorem orc_62 : tabX.orc 62 = none := id rfl
@[go_sem] theorem orc_63 : tabX.orc 63 = none := id rfl
@[go_sem] theorem orc_64 : tabX.orc 64 = none := id rfl
@[go_sem] theorem orc_65 : tabX.orc 65 = none := id rfl
@[go_sem] theorem orc_66 : tabX.orc 66 = none := id rfl
@[go_sem] theorem orc_67 : tabX.orc 67 = none := id rfl
@[go_sem] theorem orc_68 : tabX.orc 68 = none := id rfl
@[go_sem] theorem orc_69 : tabX.orc 69 = none := id rfl
@[go_sem] theorem orc_70 : tabX.orc 70 = none := id rfl
@[go_sem] theorem orc_71 : tabX.orc 71 = none := id rfl
@[go_sem] theorem orc_72 : tabX.orc 72 = none := id rfl
@[go_sem] theorem orc_73 : tabX.orc 73 = none := id rfl
@[go_sem] theorem orc_74 : tabX.orc 74 = none := id rfl
@[go_sem] theorem orc_75 : tabX.orc 75 = none := id rfl
@[go_sem] theorem orc_76 : tabX.orc 76 = none := id rfl
@[go_sem] theorem orc_77 : tabX.orc 77 = none := id rfl
@[go_sem] theorem orc_78 : tabX.orc 78 = none := id rfl
@[go_sem] theorem orc_79 : tabX.orc 79 = none := id rfl
@[go_sem] theorem orc_80 : tabX.orc 80 = none := id rfl
@[go_sem] theorem orc_81 : tabX.orc 81 = none := id rfl
@[go_sem] theorem orc_82 : tabX.orc 82 = none := id rfl
@[go_sem] theorem orc_83 : tabX.orc 83 = none := id rfl
@[go_sem] theorem orc_84 : tabX.orc 84 = none := id rfl
@[go_sem] theorem orc_85 : tabX.orc 85 = none := id rfl
@[go_sem] theorem orc_86 : tabX.orc 86 = none := id rfl
@[go_sem] theorem orc_87 : tabX.orc 87 = none := id rfl
@[go_sem] theorem orc_88 : tabX.orc 88 = none := id rfl
@[go_sem] theorem orc_89 : tabX.orc 89 = none := id rfl
@[go_sem] theorem orc_90 : tabX.orc 90 = none := id rfl
@[go_sem] theorem orc_91 : tabX.orc 91 = none := id rfl
@[go_sem] theorem orc_92 : tabX.orc 92 = none := id rfl
@[go_sem] theorem orc_93 : tabX.orc 93 = none := id rfl
@[go_sem] theorem orc_94 : tabX.orc 94 = none := id rfl
@[go_sem] theorem orc_95 : tabX.orc 95 = none := id rfl
@[go_sem] theorem orc_96 : tabX.orc 96 = none := id rfl
@[go_sem] theorem orc_97 : tabX.orc 97 = none := id rfl
@[go_sem] theorem orc_98 : tabX.orc 98 = none := id rfl
@[go_sem] theorem orc_99 : tabX.orc 99 = none := id rfl
@[go_sem] theorem orc_100 : tabX.orc 100 = none := id rfl
@[go_sem] theorem orc_101 : tabX.orc 101 = none := id rfl
@[go_sem] theorem orc_102 : tabX.orc 102 = none := id rfl
@[go_sem] theorem orc_103 : tabX.orc 103 = none := id rfl
@[go_sem] theorem orc_104 : tabX.orc 104 = none := id rfl
@[go_sem] theorem orc_105 : tabX.orc 105 = none := id rfl
@[go_sem] theorem orc_106 : tabX.orc 106 = none := id rfl
@[go_sem] theorem orc_107 : tabX.orc 107 = none := id rfl
@[go_sem] theorem orc_108 : tabX.orc 108 = none := id rfl
@[go_sem] theorem orc_109 : tabX.orc 109 = none := id rfl
@[go_sem] theorem orc_110 : tabX.orc 110 = none := id rfl
@[go_sem] theorem orc_111 : tabX.orc 111 = none := id rfl
@[go_sem] theorem ty_0 : tabX.ty.get 0 = some { sz := 1, bytes := 0, ag := false, row := Row.none, ik := none, flds := [], zero := none, mp := none, eqt := none, isBool := false, isRef := false, fok := false, und := true } := id (by kernel_rfl)
@[go_sem] theorem ty_1 : tabX.ty.get 1 = some { sz := 1, bytes := 8, ag := false, row := Row.none, ik := none, flds := [], zero := some AV.nilf, mp := none, eqt := none, isBool := false, isRef := true, fok := false, und := true } := id (by kernel_rfl)
@[go_sem] theorem ty_2 : tabX.ty.get 2 = some { sz := 1, bytes := 8, ag := false, row := Row.none, ik := some IntKind.i64, flds := [], zero := some (AV.int IntKind.i64 (0)), mp := none, eqt := none, isBool := false, isRef := false, fok := false, und := true } := id (by kernel_rfl)
@[go_sem] theorem ty_3 : tabX.ty.get 3 = some { sz := 1, bytes := 8, ag := false, row := Row.none, ik := some IntKind.i64, flds := [], zero := some (AV.int IntKind.i64 (0)), mp := none, eqt := none, isBool := false, isRef := false, fok := false, und := true } := id (by kernel_rfl)
@[go_sem] theorem ty_4 : tabX.ty.get 4 = some { sz := 1, bytes := 1, ag := false, row := Row.none, ik := none, flds := [], zero := some (AV.bool false), mp := none, eqt := none, isBool := true, isRef := false, fok := false, und := true } := id (by kernel_rfl)
@[go_sem] theorem ty_5 : tabX.ty.get 5 = some { sz := 1, bytes := 1, ag := false, row := Row.none, ik := some IntKind.u8, flds := [], zero := some (AV.int IntKind.u8 (0)), mp := none, eqt := none, isBool := false, isRef := false, fok := false, und := true } := id (by kernel_rfl)
@[go_sem] theorem ty_6 : tabX.ty.get 6 = some { sz := 1, bytes := 1, ag := false, row := Row.none, ik := some IntKind.u8, flds := [], zero := some (AV.int IntKind.u8 (0)), mp := none, eqt := none, isBool := false, isRef := false, fok := false, und := true } := id (by kernel_rfl)
@[go_sem] theorem ty_7 : tabX.ty.get 7 = some { sz := 4, bytes := 24, ag := true, row := Row.none, ik := none, flds := [(0, 1, false), (1, 1, false), (2, 1, false), (3, 1, false)], zero := some (AV.agg [AV.int IntKind.i64 (0), AV.int IntKind.i64 (0), AV.bool false, AV.int IntKind.u8 (0)]), mp := none, eqt := some [0, 0, 1, 0], isBool := false, isRef := false, fok := true, und := true } := id (by kernel_rfl)
@[go_sem] theorem ty_8 : tabX.ty.get 8 = some { sz := 4, bytes := 24, ag := true, row := Row.none, ik := none, flds := [(0, 1, false), (1, 1, false), (2, 1, false), (3, 1, false)], zero := some (AV.agg [AV.int IntKind.i64 (0), AV.int IntKind.i64 (0), AV.bool false, AV.int IntKind.u8 (0)]), mp := none, eqt := some [0, 0, 1, 0], isBool := false, isRef := false, fok := true, und := true } := id (by kernel_rfl)
@[go_sem] theorem ty_9 : tabX.ty.get 9 = some { sz := 1, bytes := 16, ag := false, row := Row.str, ik := none, flds := [], zero := some (AV.str { data := { toList := [] } }), mp := none, eqt := none, isBool := false, isRef := false, fok := false, und := true } := id (by kernel_rfl)
@[go_sem] theorem ty_21 : tabX.ty.get 21 = some { sz := 1, bytes := 4, ag := false, row := Row.none, ik := some IntKind.i32, flds := [], zero := some (AV.int IntKind.i32 (0)), mp := none, eqt := none, isBool := false, isRef := false, fok := false, und := true } := id (by kernel_rfl)
@[go_sem] theorem ty_22 : tabX.ty.get 22 = some { sz := 1, bytes := 24, ag := false, row := Row.slice 3, ik := none, flds := [], zero := some (AV.lst 1 0 []), mp := none, eqt := none, isBool := false, isRef := false, fok := false, und := true } := id (by kernel_rfl)
@[go_sem] theorem ty_23 : tabX.ty.get 23 = some { sz := 1, bytes := 24, ag := false, row := Row.slice 66, ik := none, flds := [], zero := some (AV.lst 1 0 []), mp := none, eqt := none, isBool := false, isRef := false, fok := false, und := true } := id (by kernel_rfl)
@[go_sem] theorem ty_24 : tabX.ty.get 24 = some { sz := 1, bytes := 24, ag := false, row := Row.slice 73, ik := none, flds := [], zero := some (AV.lst 1 0 []), mp := none, eqt := none, isBool := false, isRef := false, fok := false, und := true } := id (by kernel_rfl)
@[go_sem] theorem ty_25 : tabX.ty.get 25 = some { sz := 1, bytes := 24, ag := false, row := Row.slice 52, ik := none, flds := [], zero := some (AV.lst 1 0 []), mp := none, eqt := none, isBool := false, isRef := false, fok := false, und := true } := id (by kernel_rfl)
@[go_sem] theorem ty_27 : tabX.ty.get 27 = some { sz := 9, bytes := 136, ag := true, row := Row.none, ik := none, flds := [(0, 1, false), (1, 1, false), (2, 1, false), (3, 1, false), (4, 1, false), (5, 1, false), (6, 1, false), (7, 1, false), (8, 1, false)], zero := some (AV.agg [AV.int IntKind.i64 (0), AV.int IntKind.i64 (0), AV.int IntKind.i64 (0), AV.int IntKind.i64 (0), AV.int IntKind.i64 (0), AV.lst 1 0 [], AV.lst 1 0 [], AV.lst 1 0 [], AV.lst 1 0 []]), mp := none, eqt := none, isBool := false, isRef := false, fok := true, und := true } := id (by kernel_rfl)
@[go_sem] theorem ty_28 : tabX.ty.get 28 = some { sz := 1, bytes := 8, ag := false, row := Row.none, ik := some IntKind.i64, flds := [], zero := some (AV.int IntKind.i64 (0)), mp := none, eqt := none, isBool := false, isRef := false, fok := false, und := true } := id (by kernel_rfl)
@[go_sem] theorem ty_30 : tabX.ty.get 30 = some { sz := 1, bytes := 8, ag := false, row := Row.none, ik := none, flds := [], zero := some AV.nilf, mp := none, eqt := none, isBool := false, isRef := true, fok := false, und := true } := id (by kernel_rfl)
@[go_sem] theorem ty_32 : tabX.ty.get 32 = some { sz := 1, bytes := 8, ag := false, row := Row.none, ik := none, flds := [], zero := some AV.nilf, mp := none, eqt := none, isBool := false, isRef := true, fok := false, und := true } := id (by kernel_rfl)
@[go_sem] theorem ty_35 : tabX.ty.get 35 = some { sz := 1, bytes := 8, ag := false, row := Row.none, ik := none, flds := [], zero := some AV.nilf, mp := none, eqt := none, isBool := false, isRef := true, fok := false, und := true } := id (by kernel_rfl)
@[go_sem] theorem ty_37 : tabX.ty.get 37 = some { sz := 2, bytes := 16, ag := true, row := Row.none, ik := none, flds := [(0, 1, false), (1, 1, false)], zero := some (AV.agg [AV.int IntKind.i64 (0), AV.int IntKind.i64 (0)]), mp := none, eqt := some [0, 0], isBool := false, isRef := false, fok := true, und := true } := id (by kernel_rfl)
@[go_sem] theorem ty_38 : tabX.ty.get 38 = some { sz := 2, bytes := 16, ag := true, row := Row.none, ik := none, flds := [(0, 1, false), (1, 1, false)], zero := some (AV.agg [AV.int IntKind.i64 (0), AV.int IntKind.i64 (0)]), mp := none, eqt := some [0, 0], isBool := false, isRef := false, fok := true, und := true } := id (by kernel_rfl)
@[go_sem] theorem ty_40 : tabX.ty.get 40 = some { sz := 1, bytes := 8, ag := false, row := Row.none, ik := none, flds := [], zero := some AV.nilf, mp := none, eqt := none, isBool := false, isRef := true, fok := false, und := true } := id (by kernel_rfl)
@[go_sem] theorem ty_41 : tabX.ty.get 41 = some { sz := 1, bytes := 0, ag := false, row := Row.none, ik := none, flds := [], zero := none, mp := none, eqt := none, isBool := false, isRef := false, fok := false, und := true } := id (by kernel_rfl)
@[go_sem] theorem ty_43 : tabX.ty.get 43 = some { sz := 1, bytes := 8, ag := false, row := Row.none, ik := none, flds := [], zero := some AV.nilf, mp := none, eqt := none, isBool := false, isRef := true, fok := false, und := true } := id (by kernel_rfl)
@[go_sem] theorem ty_44 : tabX.ty.get 44 = some { sz := 1, bytes := 8, ag := false, row := Row.none, ik := none, flds := [], zero := some AV.nilf, mp := none, eqt := none, isBool := false, isRef := true, fok := false, und := true } := id (by kernel_rfl)
@[go_sem] theorem ty_46 : tabX.ty.get 46 = some { sz := 1, bytes := 8, ag := false, row := Row.none, ik := none, flds := [], zero := some AV.nilf, mp := none, eqt := none, isBool := false, isRef := true, fok := false, und := true } := id (by kernel_rfl)
@[go_sem] theorem ty_52 : tabX.ty.get 52 = some { sz := 2, bytes := 16, ag := true, row := Row.none, ik := none, flds := [(0, 1, false), (1, 1, false)], zero := some (AV.agg [AV.int IntKind.i64 (0), AV.int IntKind.i64 (0)]), mp := none, eqt := some [0, 0], isBool := false, isRef := false, fok := true, und := true } := id (by kernel_rfl)
@[go_sem] theorem ty_54 : tabX.ty.get 54 = some { sz := 1, bytes := 2, ag := false, row := Row.none, ik := some IntKind.u16, flds := [], zero := some (AV.int IntKind.u16 (0)), mp := none, eqt := none, isBool := false, isRef := false, fok := false, und := true } := id (by kernel_rfl)
@[go_sem] theorem ty_56 : tabX.ty.get 56 = some { sz := 5, bytes := 6, ag := true, row := Row.none, ik := none, flds := [(0, 1, false), (1, 1, false), (2, 1, false), (3, 1, false), (4, 1, false)], zero := some (AV.agg [AV.int IntKind.u16 (0), AV.int IntKind.u8 (0), AV.int IntKind.u8 (0), AV.int IntKind.u8 (0), AV.int IntKind.u8 (0)]), mp := none, eqt := some [0, 0, 0, 0, 0], isBool := false, isRef := false, fok := true, und := true } := id (by kernel_rfl)
@[go_sem] theorem ty_59 : tabX.ty.get 59 = some { sz := 1, bytes := 8, ag := false, row := Row.none, ik := none, flds := [], zero := some AV.nilf, mp := none, eqt := none, isBool := false, isRef := true, fok := false, und := true } := id (by kernel_rfl)
@[go_sem] theorem ty_61 : tabX.ty.get 61 = some { sz := 1, bytes := 8, ag := true, row := Row.none, ik := none, flds := [(0, 1, false)], zero := some (AV.agg [AV.nilf]), mp := none, eqt := none, isBool := false, isRef := false, fok := true, und := true } := id (by kernel_rfl)
@[go_sem] theorem ty_62 : tabX.ty.get 62 = some { sz := 1, bytes := 8, ag := false, row := Row.none, ik := none, flds := [], zero := some AV.nilf, mp := none, eqt := none, isBool := false, isRef := true, fok := false, und := true } := id (by kernel_rfl)
@[go_sem] theorem ty_63 : tabX.ty.get 63 = some { sz := 1, bytes := 8, ag := false, row := Row.none, ik := none, flds := [], zero := some AV.nilf, mp := none, eqt := none, isBool := false, isRef := true, fok := false, und := true } := id (by kernel_rfl)
end Go.Proofs.Ythkpjbgadkkeeaa
