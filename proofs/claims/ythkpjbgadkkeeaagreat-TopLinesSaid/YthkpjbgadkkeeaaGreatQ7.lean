/- What the tables of the abstract interpreter hold. Conditions: none. -/
import Derived.Test.YthkpjbgadkkeeaaGreatQ6
set_option linter.unusedSimpArgs false
set_option linter.unusedVariables false
namespace Go.Proofs.YthkpjbgadkkeeaaGreat
open Go.Proofs Go.Proofs.YthkpjbgadkkeeaaGreat
@[go_sem] theorem ty_115 : tabX.ty.get 115 = some ⟨1, 8, false, Row.none, none, [], some AV.nilf, none, none, false, true, false, true⟩ := id (by kernel_rfl)
@[go_sem] theorem ty_118 : tabX.ty.get 118 = some ⟨11, 152, true, Row.none, none, [(0, 9, true), (9, 1, false), (10, 1, false)], some (AV.agg [.int .i64 0, .int .i64 0, .int .i64 0, .int .i64 0, .int .i64 0, AV.lst 1 0 [], AV.lst 1 0 [], AV.lst 1 0 [], AV.lst 1 0 [], .int .i64 0, .int .i64 0]), none, none, false, false, true, true⟩ := id (by kernel_rfl)
@[go_sem] theorem ty_128 : tabX.ty.get 128 = some ⟨3, 40, true, Row.none, none, [(0, 1, false), (1, 2, true)], some (AV.agg [AV.lst 1 0 [], .int .i64 0, .int .i64 0]), none, none, false, false, true, true⟩ := id (by kernel_rfl)
@[go_sem] theorem ty_136 : tabX.ty.get 136 = some ⟨1, 24, false, Row.slice 204, none, [], some (AV.lst 1 0 []), none, none, false, false, false, true⟩ := id (by kernel_rfl)
@[go_sem] theorem ty_146 : tabX.ty.get 146 = some ⟨1, 8, false, Row.none, none, [], some AV.nilp, none, none, false, true, false, true⟩ := id (by kernel_rfl)
@[go_sem] theorem ty_149 : tabX.ty.get 149 = some ⟨1, 24, false, Row.slice 29, none, [], some (AV.lst 1 0 []), none, none, false, false, false, true⟩ := id (by kernel_rfl)
@[go_sem] theorem ty_151 : tabX.ty.get 151 = some ⟨3, 64, true, Row.none, none, [(0, 2, true), (2, 1, false)], some (AV.agg [AV.str { data := { toList := [] } }, AV.lst 1 0 [], AV.lst 1 0 []]), none, none, false, false, true, true⟩ := id (by kernel_rfl)
@[go_sem] theorem ty_157 : tabX.ty.get 157 = some ⟨1, 8, false, Row.none, none, [], some AV.nilf, none, none, false, true, false, true⟩ := id (by kernel_rfl)
@[go_sem] theorem ty_158 : tabX.ty.get 158 = some ⟨1, 8, false, Row.none, none, [], some AV.nilm, some (96, 3), none, false, true, false, true⟩ := id (by kernel_rfl)
@[go_sem] theorem ty_167 : tabX.ty.get 167 = some ⟨1, 8, false, Row.none, none, [], some AV.nilf, none, none, false, true, false, true⟩ := id (by kernel_rfl)
@[go_sem] theorem ty_169 : tabX.ty.get 169 = some ⟨1, 8, true, Row.none, none, [(0, 1, false)], some (AV.agg [AV.nilf]), none, none, false, false, true, true⟩ := id (by kernel_rfl)
@[go_sem] theorem ty_181 : tabX.ty.get 181 = some ⟨1, 24, false, Row.slice 169, none, [], some (AV.lst 1 0 []), none, none, false, false, false, true⟩ := id (by kernel_rfl)
@[go_sem] theorem ty_190 : tabX.ty.get 190 = some ⟨5, 40, true, Row.array 5 3, none, [], some (AV.agg [.int .i64 0, .int .i64 0, .int .i64 0, .int .i64 0, .int .i64 0]), none, some [0, 0, 0, 0, 0], false, false, false, true⟩ := id (by kernel_rfl)
@[go_sem] theorem ty_196 : tabX.ty.get 196 = some ⟨1, 8, false, Row.none, none, [], some AV.nilp, none, none, false, true, false, true⟩ := id (by kernel_rfl)
@[go_sem] theorem ty_199 : tabX.ty.get 199 = some ⟨2, 16, true, Row.none, none, [(0, 1, false), (1, 1, false)], some (AV.agg [.int .i64 0, .int .i64 0]), none, some [0, 0], false, false, true, true⟩ := id (by kernel_rfl)
@[go_sem] theorem ty_204 : tabX.ty.get 204 = some ⟨2, 24, true, Row.none, none, [(0, 1, false), (1, 1, false)], some (AV.agg [.int .i64 0, AV.str { data := { toList := [] } }]), none, some [0, 2], false, false, true, true⟩ := id (by kernel_rfl)
@[go_sem] theorem ty_207 : tabX.ty.get 207 = some ⟨3, 16, true, Row.none, none, [(0, 1, false), (1, 1, false), (2, 1, false)], some (AV.agg [AV.bool false, AV.bool false, AV.nilf]), none, none, false, false, true, true⟩ := id (by kernel_rfl)
@[go_sem] theorem ty_208 : tabX.ty.get 208 = some ⟨12, 64, true, Row.array 4 207, none, [], some (AV.agg [AV.bool false, AV.bool false, AV.nilf, AV.bool false, AV.bool false, AV.nilf, AV.bool false, AV.bool false, AV.nilf, AV.bool false, AV.bool false, AV.nilf]), none, none, false, false, false, true⟩ := id (by kernel_rfl)
@[go_sem] theorem ty_247 : tabX.ty.get 247 = some ⟨1, 8, false, Row.none, none, [], some AV.nilm, some (199, 3), none, false, true, false, true⟩ := id (by kernel_rfl)
@[go_sem] theorem ty_249 : tabX.ty.get 249 = some ⟨3, 56, true, Row.none, none, [(0, 1, false), (1, 1, false), (2, 1, false)], some (AV.agg [AV.lst 1 0 [], AV.lst 1 0 [], AV.nilm]), none, none, false, false, true, true⟩ := id (by kernel_rfl)
@[go_sem] theorem ty_267 : tabX.ty.get 267 = some ⟨1, 8, false, Row.none, none, [], some AV.nilf, none, none, false, true, false, true⟩ := id (by kernel_rfl)
end Go.Proofs.YthkpjbgadkkeeaaGreat
