/- What the tables of the abstract interpreter hold. Conditions: none. -/
import Derived.Test.YthkpjbgadkkeeaaGreatQ7
set_option linter.unusedSimpArgs false
set_option linter.unusedVariables false
namespace Go.Proofs.YthkpjbgadkkeeaaGreat
open Go.Proofs Go.Proofs.YthkpjbgadkkeeaaGreat
theorem fn_3 : tabX.fn.get 3 = some Tryz.f3 := (fitsX.fn 3).trans Tryz.func3
@[go_sem] theorem zip_3 (a0 a1 a2 : AV) : zipFrom (tabX.keep 3) 0 [a0, a1, a2] = [(0, a0), (1, a1), (2, a2)] := id rfl
@[go_sem] theorem res_3 : Tryz.f3.results.toList = [.tmp 6] := id rfl
@[go_sem] theorem rr_3 : retRef tabX 3 = false := by unfold retRef; rw [fn_3]; exact id (by kernel_rfl)
theorem fn_11 : tabX.fn.get 11 = some Tryz.f11 := (fitsX.fn 11).trans Tryz.func11
@[go_sem] theorem solo_11_1 : tabX.solo 11 1 = [[(0, false), (1, false), (2, false), (3, false), (4, true), (5, true), (6, false), (7, false), (8, false), (9, false), (10, false)], [(1, false), (2, false), (3, false), (4, true), (0, false), (5, true), (6, false), (7, false), (8, false), (9, false), (10, false)]] := id rfl
@[go_sem] theorem zip_11 (a0 a1 : AV) : zipFrom (tabX.keep 11) 0 [a0, a1] = [(0, a0), (1, a1)] := id rfl
@[go_sem] theorem res_11 : Tryz.f11.results.toList = [.cell 4 29, .tmp 5] := id rfl
@[go_sem] theorem rr_11 : retRef tabX 11 = false := by unfold retRef; rw [fn_11]; exact id (by kernel_rfl)
theorem fn_12 : tabX.fn.get 12 = some Tryz.f12 := (fitsX.fn 12).trans Tryz.func12
@[go_sem] theorem solo_12_12 : tabX.solo 12 12 = [[(0, false), (1, false), (2, false), (3, false), (4, false), (5, false), (6, false), (7, false), (8, false), (9, false), (10, false), (11, false), (12, false)]] := id rfl
@[go_sem] theorem zip_12 (a0 a1 : AV) : zipFrom (tabX.keep 12) 0 [a0, a1] = [(0, a0), (1, a1)] := id rfl
@[go_sem] theorem res_12 : Tryz.f12.results.toList = [.cell 4 29, .tmp 5] := id rfl
@[go_sem] theorem rr_12 : retRef tabX 12 = false := by unfold retRef; rw [fn_12]; exact id (by kernel_rfl)
theorem fn_13 : tabX.fn.get 13 = some Tryz.f13 := (fitsX.fn 13).trans Tryz.func13
@[go_sem] theorem solo_13_1 : tabX.solo 13 1 = [[(0, false), (1, false), (2, false), (3, false), (4, false), (5, true), (6, true), (7, false), (8, false), (9, false), (10, false), (11, false)], [(1, false), (2, false), (3, false), (4, false), (5, true), (0, false), (6, true), (7, false), (8, false), (9, false), (10, false), (11, false)]] := id rfl
@[go_sem] theorem zip_13 (a0 a1 : AV) : zipFrom (tabX.keep 13) 0 [a0, a1] = [(0, a0), (1, a1)] := id rfl
@[go_sem] theorem res_13 : Tryz.f13.results.toList = [.tmp 4, .tmp 5] := id rfl
@[go_sem] theorem rr_13 : retRef tabX 13 = false := by unfold retRef; rw [fn_13]; exact id (by kernel_rfl)
theorem fn_14 : tabX.fn.get 14 = some Tryz.f14 := (fitsX.fn 14).trans Tryz.func14
@[go_sem] theorem solo_14_9 : tabX.solo 14 9 = [[(0, false), (1, false), (2, false), (3, false), (4, false), (5, false), (6, false), (7, false), (8, false), (9, false), (10, false), (11, false)]] := id rfl
@[go_sem] theorem zip_14 (a0 a1 : AV) : zipFrom (tabX.keep 14) 0 [a0, a1] = [(0, a0), (1, a1)] := id rfl
@[go_sem] theorem res_14 : Tryz.f14.results.toList = [.tmp 4, .tmp 5] := id rfl
@[go_sem] theorem rr_14 : retRef tabX 14 = false := by unfold retRef; rw [fn_14]; exact id (by kernel_rfl)
theorem fn_15 : tabX.fn.get 15 = some Tryz.f15 := (fitsX.fn 15).trans Tryz.func15
@[go_sem] theorem solo_15_15 : tabX.solo 15 15 = [] := id rfl
@[go_sem] theorem hush_15_15 : tabX.hush 15 15 = true := id rfl
@[go_sem] theorem zip_15 (noa : AV) : zipFrom (tabX.keep 15) 0 [] = [] := id rfl
@[go_sem] theorem res_15 : Tryz.f15.results.toList = [.tmp 0] := id rfl
@[go_sem] theorem rr_15 : retRef tabX 15 = false := by unfold retRef; rw [fn_15]; exact id (by kernel_rfl)
theorem fn_16 : tabX.fn.get 16 = some Tryz.f16 := (fitsX.fn 16).trans Tryz.func16
@[go_sem] theorem zip_16 (a0 : AV) : zipFrom (tabX.keep 16) 0 [a0] = [(0, a0)] := id rfl
@[go_sem] theorem res_16 : Tryz.f16.results.toList = [.tmp 2, .tmp 3] := id rfl
@[go_sem] theorem rr_16 : retRef tabX 16 = false := by unfold retRef; rw [fn_16]; exact id (by kernel_rfl)
theorem fn_17 : tabX.fn.get 17 = some Tryz.f17 := (fitsX.fn 17).trans Tryz.func17
@[go_sem] theorem solo_17_9 : tabX.solo 17 9 = [] := id rfl
@[go_sem] theorem hush_17_9 : tabX.hush 17 9 = true := id rfl
@[go_sem] theorem zip_17 (a0 : AV) : zipFrom (tabX.keep 17) 0 [a0] = [(0, a0)] := id rfl
@[go_sem] theorem res_17 : Tryz.f17.results.toList = [.tmp 2, .tmp 3] := id rfl
@[go_sem] theorem rr_17 : retRef tabX 17 = false := by unfold retRef; rw [fn_17]; exact id (by kernel_rfl)
theorem fn_18 : tabX.fn.get 18 = some Tryz.f18 := (fitsX.fn 18).trans Tryz.func18
@[go_sem] theorem zip_18 (a0 : AV) : zipFrom (tabX.keep 18) 0 [a0] = [(0, a0)] := id rfl
@[go_sem] theorem res_18 : Tryz.f18.results.toList = [.tmp 2, .tmp 3] := id rfl
@[go_sem] theorem rr_18 : retRef tabX 18 = false := by unfold retRef; rw [fn_18]; exact id (by kernel_rfl)
theorem fn_19 : tabX.fn.get 19 = some Tryz.f19 := (fitsX.fn 19).trans Tryz.func19
@[go_sem] theorem solo_19_4 : tabX.solo 19 4 = [] := id rfl
@[go_sem] theorem hush_19_4 : tabX.hush 19 4 = true := id rfl
@[go_sem] theorem zip_19 (a0 : AV) : zipFrom (tabX.keep 19) 0 [a0] = [(0, a0)] := id rfl
@[go_sem] theorem res_19 : Tryz.f19.results.toList = [.tmp 2, .tmp 3] := id rfl
@[go_sem] theorem rr_19 : retRef tabX 19 = false := by unfold retRef; rw [fn_19]; exact id (by kernel_rfl)
theorem fn_20 : tabX.fn.get 20 = some Tryz.f20 := (fitsX.fn 20).trans Tryz.func20
@[go_sem] theorem zip_20 (a0 : AV) : zipFrom (tabX.keep 20) 0 [a0] = [(0, a0)] := id rfl
@[go_sem] theorem res_20 : Tryz.f20.results.toList = [.tmp 2, .tmp 3] := id rfl
@[go_sem] theorem rr_20 : retRef tabX 20 = false := by unfold retRef; rw [fn_20]; exact id (by kernel_rfl)
theorem fn_22 : tabX.fn.get 22 = some Tryz.f22 := (fitsX.fn 22).trans Tryz.func22
@[go_sem] theorem zip_22 (a0 a1 : AV) : zipFrom (tabX.keep 22) 0 [a0, a1] = [(0, a0), (1, a1)] := id rfl
@[go_sem] theorem res_22 : Tryz.f22.results.toList = [.tmp 4] := id rfl
@[go_sem] theorem rr_22 : retRef tabX 22 = false := by unfold retRef; rw [fn_22]; exact id (by kernel_rfl)
theorem fn_23 : tabX.fn.get 23 = some Tryz.f23 := (fitsX.fn 23).trans Tryz.func23
@[go_sem] theorem zip_23 (a0 : AV) : zipFrom (tabX.keep 23) 0 [a0] = [(0, a0)] := id rfl
@[go_sem] theorem res_23 : Tryz.f23.results.toList = [.tmp 2, .tmp 3] := id rfl
@[go_sem] theorem rr_23 : retRef tabX 23 = false := by unfold retRef; rw [fn_23]; exact id (by kernel_rfl)
theorem fn_25 : tabX.fn.get 25 = some Tryz.f25 := (fitsX.fn 25).trans Tryz.func25
@[go_sem] theorem zip_25 (a0 : AV) : zipFrom (tabX.keep 25) 0 [a0] = [(0, a0)] := id rfl
@[go_sem] theorem res_25 : Tryz.f25.results.toList = [.tmp 2] := id rfl
@[go_sem] theorem rr_25 : retRef tabX 25 = false := by unfold retRef; rw [fn_25]; exact id (by kernel_rfl)
theorem fn_26 : tabX.fn.get 26 = some Tryz.f26 := (fitsX.fn 26).trans Tryz.func26
@[go_sem] theorem zip_26 (a0 a1 a2 : AV) : zipFrom (tabX.keep 26) 0 [a0, a1, a2] = [(0, a0), (1, a1), (2, a2)] := id rfl
@[go_sem] theorem res_26 : Tryz.f26.results.toList = [.tmp 6] := id rfl
@[go_sem] theorem rr_26 : retRef tabX 26 = false := by unfold retRef; rw [fn_26]; exact id (by kernel_rfl)
theorem fn_28 : tabX.fn.get 28 = some Tryz.f28 := (fitsX.fn 28).trans Tryz.func28
@[go_sem] theorem zip_28 (a0 a1 : AV) : zipFrom (tabX.keep 28) 0 [a0, a1] = [(0, a0), (1, a1)] := id rfl
@[go_sem] theorem res_28 : Tryz.f28.results.toList = [.cell 4 29] := id rfl
@[go_sem] theorem rr_28 : retRef tabX 28 = false := by unfold retRef; rw [fn_28]; exact id (by kernel_rfl)
theorem fn_30 : tabX.fn.get 30 = some Tryz.f30 := (fitsX.fn 30).trans Tryz.func30
@[go_sem] theorem zip_30 (a0 a1 : AV) : zipFrom (tabX.keep 30) 0 [a0, a1] = [(0, a0), (1, a1)] := id rfl
@[go_sem] theorem res_30 : Tryz.f30.results.toList = [.tmp 4] := id rfl
@[go_sem] theorem rr_30 : retRef tabX 30 = false := by unfold retRef; rw [fn_30]; exact id (by kernel_rfl)
theorem fn_31 : tabX.fn.get 31 = some Tryz.f31 := (fitsX.fn 31).trans Tryz.func31
@[go_sem] theorem zip_31 (a0 a1 : AV) : zipFrom (tabX.keep 31) 0 [a0, a1] = [(0, a0), (1, a1)] := id rfl
@[go_sem] theorem res_31 : Tryz.f31.results.toList = [.tmp 4] := id rfl
@[go_sem] theorem rr_31 : retRef tabX 31 = false := by unfold retRef; rw [fn_31]; exact id (by kernel_rfl)
theorem fn_32 : tabX.fn.get 32 = some Tryz.f32 := (fitsX.fn 32).trans Tryz.func32
@[go_sem] theorem solo_32_5 : tabX.solo 32 5 = [] := id rfl
@[go_sem] theorem hush_32_5 : tabX.hush 32 5 = true := id rfl
@[go_sem] theorem zip_32 (a0 a1 : AV) : zipFrom (tabX.keep 32) 0 [a0, a1] = [(0, a0), (1, a1)] := id rfl
@[go_sem] theorem res_32 : Tryz.f32.results.toList = [.tmp 4] := id rfl
@[go_sem] theorem rr_32 : retRef tabX 32 = false := by unfold retRef; rw [fn_32]; exact id (by kernel_rfl)
theorem fn_33 : tabX.fn.get 33 = some Tryz.f33 := (fitsX.fn 33).trans Tryz.func33
@[go_sem] theorem zip_33 (a0 a1 : AV) : zipFrom (tabX.keep 33) 0 [a0, a1] = [(0, a0), (1, a1)] := id rfl
@[go_sem] theorem res_33 : Tryz.f33.results.toList = [.tmp 4] := id rfl
@[go_sem] theorem rr_33 : retRef tabX 33 = false := by unfold retRef; rw [fn_33]; exact id (by kernel_rfl)
theorem fn_34 : tabX.fn.get 34 = some Tryz.f34 := (fitsX.fn 34).trans Tryz.func34
@[go_sem] theorem solo_34_1 : tabX.solo 34 1 = [[(0, false), (1, false), (2, false), (3, false), (4, false), (5, true), (6, true), (7, false), (8, false), (9, false), (10, false), (11, false)], [(1, false), (2, false), (3, false), (4, false), (5, true), (0, false), (6, true), (7, false), (8, false), (9, false), (10, false), (11, false)]] := id rfl
@[go_sem] theorem zip_34 (a0 a1 : AV) : zipFrom (tabX.keep 34) 0 [a0, a1] = [(0, a0), (1, a1)] := id rfl
@[go_sem] theorem res_34 : Tryz.f34.results.toList = [.tmp 4, .tmp 5] := id rfl
@[go_sem] theorem rr_34 : retRef tabX 34 = false := by unfold retRef; rw [fn_34]; exact id (by kernel_rfl)
theorem fn_35 : tabX.fn.get 35 = some Tryz.f35 := (fitsX.fn 35).trans Tryz.func35
@[go_sem] theorem zip_35 (a0 a1 : AV) : zipFrom (tabX.keep 35) 0 [a0, a1] = [(0, a0), (1, a1)] := id rfl
@[go_sem] theorem res_35 : Tryz.f35.results.toList = [.tmp 4] := id rfl
@[go_sem] theorem rr_35 : retRef tabX 35 = false := by unfold retRef; rw [fn_35]; exact id (by kernel_rfl)
theorem fn_36 : tabX.fn.get 36 = some Tryz.f36 := (fitsX.fn 36).trans Tryz.func36
@[go_sem] theorem zip_36 (a0 a1 : AV) : zipFrom (tabX.keep 36) 0 [a0, a1] = [(0, a0), (1, a1)] := id rfl
@[go_sem] theorem res_36 : Tryz.f36.results.toList = [.tmp 4] := id rfl
@[go_sem] theorem rr_36 : retRef tabX 36 = false := by unfold retRef; rw [fn_36]; exact id (by kernel_rfl)
theorem fn_38 : tabX.fn.get 38 = some Tryz.f38 := (fitsX.fn 38).trans Tryz.func38
@[go_sem] theorem solo_38_35 : tabX.solo 38 35 = [] := id rfl
@[go_sem] theorem hush_38_35 : tabX.hush 38 35 = true := id rfl
@[go_sem] theorem zip_38 (a0 : AV) : zipFrom (tabX.keep 38) 0 [a0] = [(0, a0)] := id rfl
@[go_sem] theorem res_38 : Tryz.f38.results.toList = [.tmp 2, .tmp 3, .tmp 4] := id rfl
@[go_sem] theorem rr_38 : retRef tabX 38 = false := by unfold retRef; rw [fn_38]; exact id (by kernel_rfl)
theorem fn_44 : tabX.fn.get 44 = some Tryz.f44 := (fitsX.fn 44).trans Tryz.func44
@[go_sem] theorem solo_44_1 : tabX.solo 44 1 = [] := id rfl
@[go_sem] theorem hush_44_1 : tabX.hush 44 1 = true := id rfl
@[go_sem] theorem zip_44 (a0 a1 a2 a3 : AV) : zipFrom (tabX.keep 44) 0 [a0, a1, a2, a3] = [(0, a0), (1, a1), (2, a2), (3, a3)] := id rfl
@[go_sem] theorem res_44 : Tryz.f44.results.toList = [.tmp 8] := id rfl
@[go_sem] theorem rr_44 : retRef tabX 44 = false := by unfold retRef; rw [fn_44]; exact id (by kernel_rfl)
theorem fn_45 : tabX.fn.get 45 = some Tryz.f45 := (fitsX.fn 45).trans Tryz.func45
@[go_sem] theorem zip_45 (a0 a1 : AV) : zipFrom (tabX.keep 45) 0 [a0, a1] = [(0, a0), (1, a1)] := id rfl
@[go_sem] theorem res_45 : Tryz.f45.results.toList = [.tmp 4, .tmp 5] := id rfl
@[go_sem] theorem rr_45 : retRef tabX 45 = true := by unfold retRef; rw [fn_45]; exact id (by kernel_rfl)
theorem fn_46 : tabX.fn.get 46 = some Tryz.f46 := (fitsX.fn 46).trans Tryz.func46
@[go_sem] theorem zip_46 (a0 a1 a2 : AV) : zipFrom (tabX.keep 46) 0 [a0, a1, a2] = [(0, a0), (1, a1), (2, a2)] := id rfl
@[go_sem] theorem res_46 : Tryz.f46.results.toList = [.tmp 6] := id rfl
@[go_sem] theorem rr_46 : retRef tabX 46 = true := by unfold retRef; rw [fn_46]; exact id (by kernel_rfl)
theorem fn_47 : tabX.fn.get 47 = some Tryz.f47 := (fitsX.fn 47).trans Tryz.func47
@[go_sem] theorem zip_47 (a0 : AV) : zipFrom (tabX.keep 47) 0 [a0] = [(0, a0)] := id rfl
@[go_sem] theorem res_47 : Tryz.f47.results.toList = [.tmp 2] := id rfl
@[go_sem] theorem rr_47 : retRef tabX 47 = true := by unfold retRef; rw [fn_47]; exact id (by kernel_rfl)
theorem fn_48 : tabX.fn.get 48 = some Tryz.f48 := (fitsX.fn 48).trans Tryz.func48
@[go_sem] theorem zip_48 (a0 a1 : AV) : zipFrom (tabX.keep 48) 0 [a0, a1] = [(0, a0), (1, a1)] := id rfl
@[go_sem] theorem res_48 : Tryz.f48.results.toList = [.tmp 4] := id rfl
@[go_sem] theorem rr_48 : retRef tabX 48 = false := by unfold retRef; rw [fn_48]; exact id (by kernel_rfl)
theorem fn_49 : tabX.fn.get 49 = some Tryz.f49 := (fitsX.fn 49).trans Tryz.func49
@[go_sem] theorem zip_49 (a0 : AV) : zipFrom (tabX.keep 49) 0 [a0] = [(0, a0)] := id rfl
@[go_sem] theorem res_49 : Tryz.f49.results.toList = [.tmp 2] := id rfl
@[go_sem] theorem rr_49 : retRef tabX 49 = false := by unfold retRef; rw [fn_49]; exact id (by kernel_rfl)
theorem fn_50 : tabX.fn.get 50 = some Tryz.f50 := (fitsX.fn 50).trans Tryz.func50
@[go_sem] theorem zip_50 (a0 a1 a2 : AV) : zipFrom (tabX.keep 50) 0 [a0, a1, a2] = [(0, a0), (1, a1), (2, a2)] := id rfl
@[go_sem] theorem res_50 : Tryz.f50.results.toList = [.tmp 6] := id rfl
@[go_sem] theorem rr_50 : retRef tabX 50 = false := by unfold retRef; rw [fn_50]; exact id (by kernel_rfl)
theorem fn_51 : tabX.fn.get 51 = some Tryz.f51 := (fitsX.fn 51).trans Tryz.func51
@[go_sem] theorem zip_51 (a0 : AV) : zipFrom (tabX.keep 51) 0 [a0] = [(0, a0)] := id rfl
@[go_sem] theorem res_51 : Tryz.f51.results.toList = [.tmp 2] := id rfl
@[go_sem] theorem rr_51 : retRef tabX 51 = false := by unfold retRef; rw [fn_51]; exact id (by kernel_rfl)
theorem fn_52 : tabX.fn.get 52 = some Tryz.f52 := (fitsX.fn 52).trans Tryz.func52
@[go_sem] theorem solo_52_7 : tabX.solo 52 7 = [] := id rfl
@[go_sem] theorem zip_52 (a0 a1 : AV) : zipFrom (tabX.keep 52) 0 [a0, a1] = [(0, a0), (1, a1)] := id rfl
@[go_sem] theorem res_52 : Tryz.f52.results.toList = [.tmp 4] := id rfl
@[go_sem] theorem rr_52 : retRef tabX 52 = false := by unfold retRef; rw [fn_52]; exact id (by kernel_rfl)
theorem fn_53 : tabX.fn.get 53 = some Tryz.f53 := (fitsX.fn 53).trans Tryz.func53
@[go_sem] theorem zip_53 (a0 a1 : AV) : zipFrom (tabX.keep 53) 0 [a0, a1] = [(0, a0), (1, a1)] := id rfl
@[go_sem] theorem res_53 : Tryz.f53.results.toList = [.tmp 4] := id rfl
@[go_sem] theorem rr_53 : retRef tabX 53 = false := by unfold retRef; rw [fn_53]; exact id (by kernel_rfl)
theorem fn_54 : tabX.fn.get 54 = some Tryz.f54 := (fitsX.fn 54).trans Tryz.func54
@[go_sem] theorem zip_54 (a0 a1 : AV) : zipFrom (tabX.keep 54) 0 [a0, a1] = [(0, a0), (1, a1)] := id rfl
@[go_sem] theorem res_54 : Tryz.f54.results.toList = [.tmp 4] := id rfl
@[go_sem] theorem rr_54 : retRef tabX 54 = false := by unfold retRef; rw [fn_54]; exact id (by kernel_rfl)
theorem fn_55 : tabX.fn.get 55 = some Tryz.f55 := (fitsX.fn 55).trans Tryz.func55
@[go_sem] theorem zip_55 (a0 : AV) : zipFrom (tabX.keep 55) 0 [a0] = [(0, a0)] := id rfl
@[go_sem] theorem res_55 : Tryz.f55.results.toList = [.cell 2 27] := id rfl
@[go_sem] theorem rr_55 : retRef tabX 55 = false := by unfold retRef; rw [fn_55]; exact id (by kernel_rfl)
theorem fn_56 : tabX.fn.get 56 = some Tryz.f56 := (fitsX.fn 56).trans Tryz.func56
@[go_sem] theorem zip_56 (a0 a1 : AV) : zipFrom (tabX.keep 56) 0 [a0, a1] = [(0, a0), (1, a1)] := id rfl
@[go_sem] theorem res_56 : Tryz.f56.results.toList = [.cell 4 83] := id rfl
@[go_sem] theorem rr_56 : retRef tabX 56 = false := by unfold retRef; rw [fn_56]; exact id (by kernel_rfl)
theorem fn_57 : tabX.fn.get 57 = some Tryz.f57 := (fitsX.fn 57).trans Tryz.func57
@[go_sem] theorem zip_57 (noa : AV) : zipFrom (tabX.keep 57) 0 [] = [] := id rfl
@[go_sem] theorem res_57 : Tryz.f57.results.toList = [.tmp 0] := id rfl
@[go_sem] theorem rr_57 : retRef tabX 57 = false := by unfold retRef; rw [fn_57]; exact id (by kernel_rfl)
theorem fn_58 : tabX.fn.get 58 = some Tryz.f58 := (fitsX.fn 58).trans Tryz.func58
@[go_sem] theorem solo_58_4 : tabX.solo 58 4 = [] := id rfl
@[go_sem] theorem solo_58_5 : tabX.solo 58 5 = [] := id rfl
@[go_sem] theorem hush_58_4 : tabX.hush 58 4 = true := id rfl
@[go_sem] theorem zip_58 (a0 : AV) : zipFrom (tabX.keep 58) 0 [a0] = [(0, a0)] := id rfl
@[go_sem] theorem res_58 : Tryz.f58.results.toList = [.tmp 2] := id rfl
@[go_sem] theorem rr_58 : retRef tabX 58 = false := by unfold retRef; rw [fn_58]; exact id (by kernel_rfl)
theorem fn_59 : tabX.fn.get 59 = some Tryz.f59 := (fitsX.fn 59).trans Tryz.func59
@[go_sem] theorem zip_59 (a0 : AV) : zipFrom (tabX.keep 59) 0 [a0] = [(0, a0)] := id rfl
@[go_sem] theorem res_59 : Tryz.f59.results.toList = [.tmp 2] := id rfl
@[go_sem] theorem rr_59 : retRef tabX 59 = false := by unfold retRef; rw [fn_59]; exact id (by kernel_rfl)
theorem fn_60 : tabX.fn.get 60 = some Tryz.f60 := (fitsX.fn 60).trans Tryz.func60
@[go_sem] theorem solo_60_8 : tabX.solo 60 8 = [] := id rfl
@[go_sem] theorem solo_60_9 : tabX.solo 60 9 = [] := id rfl
@[go_sem] theorem hush_60_8 : tabX.hush 60 8 = true := id rfl
@[go_sem] theorem hush_60_9 : tabX.hush 60 9 = true := id rfl
@[go_sem] theorem zip_60 (a0 a1 : AV) : zipFrom (tabX.keep 60) 0 [a0, a1] = [(0, a0), (1, a1)] := id rfl
@[go_sem] theorem res_60 : Tryz.f60.results.toList = [.tmp 4] := id rfl
@[go_sem] theorem rr_60 : retRef tabX 60 = false := by unfold retRef; rw [fn_60]; exact id (by kernel_rfl)
theorem fn_61 : tabX.fn.get 61 = some Tryz.f61 := (fitsX.fn 61).trans Tryz.func61
@[go_sem] theorem zip_61 (a0 a1 : AV) : zipFrom (tabX.keep 61) 0 [a0, a1] = [(0, a0), (1, a1)] := id rfl
@[go_sem] theorem res_61 : Tryz.f61.results.toList = [.tmp 4] := id rfl
@[go_sem] theorem rr_61 : retRef tabX 61 = false := by unfold retRef; rw [fn_61]; exact id (by kernel_rfl)
theorem fn_62 : tabX.fn.get 62 = some Tryz.f62 := (fitsX.fn 62).trans Tryz.func62
@[go_sem] theorem zip_62 (a0 a1 : AV) : zipFrom (tabX.keep 62) 0 [a0, a1] = [(0, a0), (1, a1)] := id rfl
@[go_sem] theorem res_62 : Tryz.f62.results.toList = [.tmp 3] := id rfl
@[go_sem] theorem rr_62 : retRef tabX 62 = false := by unfold retRef; rw [fn_62]; exact id (by kernel_rfl)
theorem fn_63 : tabX.fn.get 63 = some Tryz.f63 := (fitsX.fn 63).trans Tryz.func63
@[go_sem] theorem zip_63 (a0 a1 : AV) : zipFrom (tabX.keep 63) 0 [a0, a1] = [(0, a0), (1, a1)] := id rfl
@[go_sem] theorem res_63 : Tryz.f63.results.toList = [.tmp 4] := id rfl
@[go_sem] theorem rr_63 : retRef tabX 63 = false := by unfold retRef; rw [fn_63]; exact id (by kernel_rfl)
theorem fn_64 : tabX.fn.get 64 = some Tryz.f64 := (fitsX.fn 64).trans Tryz.func64
@[go_sem] theorem solo_64_2 : tabX.solo 64 2 = [] := id rfl
@[go_sem] theorem solo_64_6 : tabX.solo 64 6 = [] := id rfl
@[go_sem] theorem hush_64_2 : tabX.hush 64 2 = true := id rfl
@[go_sem] theorem hush_64_6 : tabX.hush 64 6 = true := id rfl
@[go_sem] theorem zip_64 (a0 a1 : AV) : zipFrom (tabX.keep 64) 0 [a0, a1] = [(0, a0), (1, a1)] := id rfl
@[go_sem] theorem res_64 : Tryz.f64.results.toList = [.tmp 4] := id rfl
@[go_sem] theorem rr_64 : retRef tabX 64 = false := by unfold retRef; rw [fn_64]; exact id (by kernel_rfl)
theorem fn_65 : tabX.fn.get 65 = some Tryz.f65 := (fitsX.fn 65).trans Tryz.func65
@[go_sem] theorem zip_65 (a0 : AV) : zipFrom (tabX.keep 65) 0 [a0] = [(0, a0)] := id rfl
@[go_sem] theorem res_65 : Tryz.f65.results.toList = [.tmp 2, .tmp 3, .tmp 4] := id rfl
@[go_sem] theorem rr_65 : retRef tabX 65 = false := by unfold retRef; rw [fn_65]; exact id (by kernel_rfl)
theorem fn_66 : tabX.fn.get 66 = some Tryz.f66 := (fitsX.fn 66).trans Tryz.func66
@[go_sem] theorem zip_66 (a0 : AV) : zipFrom (tabX.keep 66) 0 [a0] = [(0, a0)] := id rfl
@[go_sem] theorem res_66 : Tryz.f66.results.toList = [.tmp 2] := id rfl
@[go_sem] theorem rr_66 : retRef tabX 66 = true := by unfold retRef; rw [fn_66]; exact id (by kernel_rfl)
theorem fn_67 : tabX.fn.get 67 = some Tryz.f67 := (fitsX.fn 67).trans Tryz.func67
@[go_sem] theorem zip_67 (a0 a1 : AV) : zipFrom (tabX.keep 67) 0 [a0, a1] = [(0, a0), (1, a1)] := id rfl
@[go_sem] theorem res_67 : Tryz.f67.results.toList = [.tmp 3] := id rfl
@[go_sem] theorem rr_67 : retRef tabX 67 = false := by unfold retRef; rw [fn_67]; exact id (by kernel_rfl)
theorem fn_68 : tabX.fn.get 68 = some Tryz.f68 := (fitsX.fn 68).trans Tryz.func68
@[go_sem] theorem zip_68 (a0 : AV) : zipFrom (tabX.keep 68) 0 [a0] = [(0, a0)] := id rfl
@[go_sem] theorem res_68 : Tryz.f68.results.toList = [.tmp 2] := id rfl
@[go_sem] theorem rr_68 : retRef tabX 68 = false := by unfold retRef; rw [fn_68]; exact id (by kernel_rfl)
theorem fn_69 : tabX.fn.get 69 = some Tryz.f69 := (fitsX.fn 69).trans Tryz.func69
@[go_sem] theorem zip_69 (a0 a1 : AV) : zipFrom (tabX.keep 69) 0 [a0, a1] = [(0, a0), (1, a1)] := id rfl
@[go_sem] theorem res_69 : Tryz.f69.results.toList = [.tmp 4] := id rfl
@[go_sem] theorem rr_69 : retRef tabX 69 = false := by unfold retRef; rw [fn_69]; exact id (by kernel_rfl)
theorem fn_70 : tabX.fn.get 70 = some Tryz.f70 := (fitsX.fn 70).trans Tryz.func70
@[go_sem] theorem zip_70 (a0 : AV) : zipFrom (tabX.keep 70) 0 [a0] = [(0, a0)] := id rfl
@[go_sem] theorem res_70 : Tryz.f70.results.toList = [.tmp 2] := id rfl
@[go_sem] theorem rr_70 : retRef tabX 70 = false := by unfold retRef; rw [fn_70]; exact id (by kernel_rfl)
theorem fn_72 : tabX.fn.get 72 = some Tryz.f72 := (fitsX.fn 72).trans Tryz.func72
@[go_sem] theorem zip_72 (a0 a1 a2 : AV) : zipFrom (tabX.keep 72) 0 [a0, a1, a2] = [(0, a0), (1, a1), (2, a2)] := id rfl
@[go_sem] theorem res_72 : Tryz.f72.results.toList = [.tmp 6] := id rfl
@[go_sem] theorem rr_72 : retRef tabX 72 = false := by unfold retRef; rw [fn_72]; exact id (by kernel_rfl)
theorem fn_73 : tabX.fn.get 73 = some Tryz.f73 := (fitsX.fn 73).trans Tryz.func73
@[go_sem] theorem zip_73 (a0 a1 : AV) : zipFrom (tabX.keep 73) 0 [a0, a1] = [(0, a0), (1, a1)] := id rfl
@[go_sem] theorem res_73 : Tryz.f73.results.toList = [.tmp 4] := id rfl
@[go_sem] theorem rr_73 : retRef tabX 73 = false := by unfold retRef; rw [fn_73]; exact id (by kernel_rfl)
theorem fn_75 : tabX.fn.get 75 = some Tryz.f75 := (fitsX.fn 75).trans Tryz.func75
@[go_sem] theorem solo_75_4 : tabX.solo 75 4 = [] := id rfl
@[go_sem] theorem solo_75_7 : tabX.solo 75 7 = [] := id rfl
@[go_sem] theorem hush_75_4 : tabX.hush 75 4 = true := id rfl
@[go_sem] theorem hush_75_7 : tabX.hush 75 7 = true := id rfl
@[go_sem] theorem zip_75 (a0 a1 : AV) : zipFrom (tabX.keep 75) 0 [a0, a1] = [(0, a0), (1, a1)] := id rfl
@[go_sem] theorem res_75 : Tryz.f75.results.toList = [.tmp 4] := id rfl
@[go_sem] theorem rr_75 : retRef tabX 75 = false := by unfold retRef; rw [fn_75]; exact id (by kernel_rfl)
theorem fn_98 : tabX.fn.get 98 = some Tryz.f98 := (fitsX.fn 98).trans Tryz.func98
@[go_sem] theorem zip_98 (a0 a1 a2 : AV) : zipFrom (tabX.keep 98) 0 [a0, a1, a2] = [(0, a0), (1, a1), (2, a2)] := id rfl
@[go_sem] theorem res_98 : Tryz.f98.results.toList = [.tmp 3] := id rfl
@[go_sem] theorem rr_98 : retRef tabX 98 = false := by unfold retRef; rw [fn_98]; exact id (by kernel_rfl)
theorem fn_99 : tabX.fn.get 99 = some Tryz.f99 := (fitsX.fn 99).trans Tryz.func99
@[go_sem] theorem zip_99 (a0 a1 a2 : AV) : zipFrom (tabX.keep 99) 0 [a0, a1, a2] = [(0, a0), (1, a1), (2, a2)] := id rfl
@[go_sem] theorem res_99 : Tryz.f99.results.toList = [.tmp 6] := id rfl
@[go_sem] theorem rr_99 : retRef tabX 99 = false := by unfold retRef; rw [fn_99]; exact id (by kernel_rfl)
theorem fn_100 : tabX.fn.get 100 = some Tryz.f100 := (fitsX.fn 100).trans Tryz.func100
@[go_sem] theorem solo_100_7 : tabX.solo 100 7 = [] := id rfl
@[go_sem] theorem zip_100 (a0 a1 : AV) : zipFrom (tabX.keep 100) 0 [a0, a1] = [(0, a0), (1, a1)] := id rfl
@[go_sem] theorem res_100 : Tryz.f100.results.toList = [] := id rfl
@[go_sem] theorem rr_100 : retRef tabX 100 = false := by unfold retRef; rw [fn_100]; exact id (by kernel_rfl)
theorem fn_101 : tabX.fn.get 101 = some Tryz.f101 := (fitsX.fn 101).trans Tryz.func101
@[go_sem] theorem solo_101_1 : tabX.solo 101 1 = [[(0, false), (1, false), (2, false), (3, false), (4, false), (5, false), (6, false)], [(0, false), (1, false), (4, false), (2, false), (3, false), (5, false), (6, false)]] := id rfl
@[go_sem] theorem solo_101_6 : tabX.solo 101 6 = [] := id rfl
@[go_sem] theorem solo_101_8 : tabX.solo 101 8 = [[(0, false), (1, false), (2, false), (3, false), (4, false), (5, false), (6, false), (7, false), (8, false), (9, false), (10, false)]] := id rfl
@[go_sem] theorem solo_101_13 : tabX.solo 101 13 = [] := id rfl
@[go_sem] theorem hush_101_1 : tabX.hush 101 1 = true := id rfl
@[go_sem] theorem hush_101_6 : tabX.hush 101 6 = true := id rfl
@[go_sem] theorem hush_101_13 : tabX.hush 101 13 = true := id rfl
@[go_sem] theorem zip_101 (a0 a1 a2 a3 a4 a5 : AV) : zipFrom (tabX.keep 101) 0 [a0, a1, a2, a3, a4, a5] = [(0, a0), (1, a1), (2, a2), (3, a3), (4, a4), (5, a5)] := id rfl
@[go_sem] theorem res_101 : Tryz.f101.results.toList = [.tmp 7] := id rfl
@[go_sem] theorem rr_101 : retRef tabX 101 = false := by unfold retRef; rw [fn_101]; exact id (by kernel_rfl)
theorem fn_102 : tabX.fn.get 102 = some Tryz.f102 := (fitsX.fn 102).trans Tryz.func102
@[go_sem] theorem solo_102_1 : tabX.solo 102 1 = [[(0, false), (1, false), (2, false), (3, false), (4, false), (5, false), (6, false), (7, false), (8, false), (9, false), (10, false), (11, false), (12, false), (13, false), (14, false), (15, false), (16, true), (17, false), (18, false)]] := id rfl
@[go_sem] theorem zip_102 (a0 a1 : AV) : zipFrom (tabX.keep 102) 0 [a0, a1] = [(0, a0), (1, a1)] := id rfl
@[go_sem] theorem res_102 : Tryz.f102.results.toList = [.tmp 4] := id rfl
@[go_sem] theorem rr_102 : retRef tabX 102 = false := by unfold retRef; rw [fn_102]; exact id (by kernel_rfl)
theorem fn_103 : tabX.fn.get 103 = some Tryz.f103 := (fitsX.fn 103).trans Tryz.func103
@[go_sem] theorem zip_103 (a0 : AV) : zipFrom (tabX.keep 103) 0 [a0] = [(0, a0)] := id rfl
@[go_sem] theorem res_103 : Tryz.f103.results.toList = [.tmp 2] := id rfl
@[go_sem] theorem rr_103 : retRef tabX 103 = true := by unfold retRef; rw [fn_103]; exact id (by kernel_rfl)
theorem fn_104 : tabX.fn.get 104 = some Tryz.f104 := (fitsX.fn 104).trans Tryz.func104
@[go_sem] theorem solo_104_16 : tabX.solo 104 16 = [[(0, false), (1, false), (2, false), (3, false), (4, false), (5, false), (6, false), (7, false)]] := id rfl
@[go_sem] theorem solo_104_17 : tabX.solo 104 17 = [] := id rfl
@[go_sem] theorem zip_104 (a0 a1 a2 a3 : AV) : zipFrom (tabX.keep 104) 0 [a0, a1, a2, a3] = [(0, a0), (1, a1), (2, a2), (3, a3)] := id rfl
@[go_sem] theorem res_104 : Tryz.f104.results.toList = [.cell 8 106] := id rfl
@[go_sem] theorem rr_104 : retRef tabX 104 = false := by unfold retRef; rw [fn_104]; exact id (by kernel_rfl)
theorem fn_107 : tabX.fn.get 107 = some Tryz.f107 := (fitsX.fn 107).trans Tryz.func107
@[go_sem] theorem zip_107 (a0 a1 : AV) : zipFrom (tabX.keep 107) 0 [a0, a1] = [(0, a0), (1, a1)] := id rfl
@[go_sem] theorem res_107 : Tryz.f107.results.toList = [.tmp 4] := id rfl
@[go_sem] theorem rr_107 : retRef tabX 107 = false := by unfold retRef; rw [fn_107]; exact id (by kernel_rfl)
theorem fn_108 : tabX.fn.get 108 = some Tryz.f108 := (fitsX.fn 108).trans Tryz.func108
@[go_sem] theorem zip_108 (a0 a1 : AV) : zipFrom (tabX.keep 108) 0 [a0, a1] = [(0, a0), (1, a1)] := id rfl
@[go_sem] theorem res_108 : Tryz.f108.results.toList = [.tmp 4] := id rfl
@[go_sem] theorem rr_108 : retRef tabX 108 = false := by unfold retRef; rw [fn_108]; exact id (by kernel_rfl)
theorem fn_109 : tabX.fn.get 109 = some Tryz.f109 := (fitsX.fn 109).trans Tryz.func109
@[go_sem] theorem zip_109 (a0 : AV) : zipFrom (tabX.keep 109) 0 [a0] = [(0, a0)] := id rfl
@[go_sem] theorem res_109 : Tryz.f109.results.toList = [.tmp 1, .tmp 2] := id rfl
@[go_sem] theorem rr_109 : retRef tabX 109 = false := by unfold retRef; rw [fn_109]; exact id (by kernel_rfl)
theorem fn_110 : tabX.fn.get 110 = some Tryz.f110 := (fitsX.fn 110).trans Tryz.func110
@[go_sem] theorem zip_110 (a0 : AV) : zipFrom (tabX.keep 110) 0 [a0] = [(0, a0)] := id rfl
@[go_sem] theorem res_110 : Tryz.f110.results.toList = [.tmp 1, .tmp 2] := id rfl
@[go_sem] theorem rr_110 : retRef tabX 110 = false := by unfold retRef; rw [fn_110]; exact id (by kernel_rfl)
theorem fn_111 : tabX.fn.get 111 = some Tryz.f111 := (fitsX.fn 111).trans Tryz.func111
@[go_sem] theorem zip_111 (a0 a1 a2 a3 : AV) : zipFrom (tabX.keep 111) 0 [a0, a1, a2, a3] = [(0, a0), (1, a1), (2, a2), (3, a3)] := id rfl
@[go_sem] theorem res_111 : Tryz.f111.results.toList = [.tmp 8, .tmp 9] := id rfl
@[go_sem] theorem rr_111 : retRef tabX 111 = false := by unfold retRef; rw [fn_111]; exact id (by kernel_rfl)
theorem fn_112 : tabX.fn.get 112 = some Tryz.f112 := (fitsX.fn 112).trans Tryz.func112
@[go_sem] theorem zip_112 (a0 a1 : AV) : zipFrom (tabX.keep 112) 0 [a0, a1] = [(1, a1)] := id rfl
@[go_sem] theorem res_112 : Tryz.f112.results.toList = [.tmp 4] := id rfl
@[go_sem] theorem rr_112 : retRef tabX 112 = false := by unfold retRef; rw [fn_112]; exact id (by kernel_rfl)
theorem fn_113 : tabX.fn.get 113 = some Tryz.f113 := (fitsX.fn 113).trans Tryz.func113
@[go_sem] theorem zip_113 (a0 : AV) : zipFrom (tabX.keep 113) 0 [a0] = [(0, a0)] := id rfl
@[go_sem] theorem res_113 : Tryz.f113.results.toList = [.tmp 1, .tmp 2] := id rfl
@[go_sem] theorem rr_113 : retRef tabX 113 = false := by unfold retRef; rw [fn_113]; exact id (by kernel_rfl)
theorem fn_114 : tabX.fn.get 114 = some Tryz.f114 := (fitsX.fn 114).trans Tryz.func114
@[go_sem] theorem zip_114 (a0 a1 a2 a3 : AV) : zipFrom (tabX.keep 114) 0 [a0, a1, a2, a3] = [(0, a0), (1, a1), (2, a2), (3, a3)] := id rfl
@[go_sem] theorem res_114 : Tryz.f114.results.toList = [.tmp 8, .tmp 9] := id rfl
@[go_sem] theorem rr_114 : retRef tabX 114 = false := by unfold retRef; rw [fn_114]; exact id (by kernel_rfl)
theorem fn_115 : tabX.fn.get 115 = some Tryz.f115 := (fitsX.fn 115).trans Tryz.func115
@[go_sem] theorem zip_115 (a0 a1 a2 : AV) : zipFrom (tabX.keep 115) 0 [a0, a1, a2] = [(0, a0), (1, a1), (2, a2)] := id rfl
@[go_sem] theorem res_115 : Tryz.f115.results.toList = [.tmp 5] := id rfl
@[go_sem] theorem rr_115 : retRef tabX 115 = false := by unfold retRef; rw [fn_115]; exact id (by kernel_rfl)
theorem fn_116 : tabX.fn.get 116 = some Tryz.f116 := (fitsX.fn 116).trans Tryz.func116
@[go_sem] theorem zip_116 (a0 : AV) : zipFrom (tabX.keep 116) 0 [a0] = [(0, a0)] := id rfl
@[go_sem] theorem res_116 : Tryz.f116.results.toList = [.tmp 2] := id rfl
@[go_sem] theorem rr_116 : retRef tabX 116 = false := by unfold retRef; rw [fn_116]; exact id (by kernel_rfl)
theorem fn_117 : tabX.fn.get 117 = some Tryz.f117 := (fitsX.fn 117).trans Tryz.func117
@[go_sem] theorem zip_117 (a0 a1 : AV) : zipFrom (tabX.keep 117) 0 [a0, a1] = [(0, a0), (1, a1)] := id rfl
@[go_sem] theorem res_117 : Tryz.f117.results.toList = [.tmp 4] := id rfl
@[go_sem] theorem rr_117 : retRef tabX 117 = false := by unfold retRef; rw [fn_117]; exact id (by kernel_rfl)
theorem fn_118 : tabX.fn.get 118 = some Tryz.f118 := (fitsX.fn 118).trans Tryz.func118
@[go_sem] theorem zip_118 (a0 a1 : AV) : zipFrom (tabX.keep 118) 0 [a0, a1] = [(0, a0), (1, a1)] := id rfl
@[go_sem] theorem res_118 : Tryz.f118.results.toList = [.tmp 3] := id rfl
@[go_sem] theorem rr_118 : retRef tabX 118 = false := by unfold retRef; rw [fn_118]; exact id (by kernel_rfl)
theorem fn_119 : tabX.fn.get 119 = some Tryz.f119 := (fitsX.fn 119).trans Tryz.func119
@[go_sem] theorem zip_119 (a0 : AV) : zipFrom (tabX.keep 119) 0 [a0] = [(0, a0)] := id rfl
@[go_sem] theorem res_119 : Tryz.f119.results.toList = [.tmp 1, .tmp 2] := id rfl
@[go_sem] theorem rr_119 : retRef tabX 119 = false := by unfold retRef; rw [fn_119]; exact id (by kernel_rfl)
theorem fn_120 : tabX.fn.get 120 = some Tryz.f120 := (fitsX.fn 120).trans Tryz.func120
@[go_sem] theorem zip_120 (a0 a1 a2 a3 : AV) : zipFrom (tabX.keep 120) 0 [a0, a1, a2, a3] = [(0, a0), (1, a1), (2, a2), (3, a3)] := id rfl
@[go_sem] theorem res_120 : Tryz.f120.results.toList = [.tmp 8, .tmp 9] := id rfl
@[go_sem] theorem rr_120 : retRef tabX 120 = false := by unfold retRef; rw [fn_120]; exact id (by kernel_rfl)
theorem fn_121 : tabX.fn.get 121 = some Tryz.f121 := (fitsX.fn 121).trans Tryz.func121
@[go_sem] theorem solo_121_5 : tabX.solo 121 5 = [] := id rfl
@[go_sem] theorem hush_121_5 : tabX.hush 121 5 = true := id rfl
@[go_sem] theorem zip_121 (a0 a1 a2 : AV) : zipFrom (tabX.keep 121) 0 [a0, a1, a2] = [(0, a0), (1, a1), (2, a2)] := id rfl
@[go_sem] theorem res_121 : Tryz.f121.results.toList = [.tmp 5] := id rfl
@[go_sem] theorem rr_121 : retRef tabX 121 = false := by unfold retRef; rw [fn_121]; exact id (by kernel_rfl)
theorem fn_122 : tabX.fn.get 122 = some Tryz.f122 := (fitsX.fn 122).trans Tryz.func122
@[go_sem] theorem zip_122 (a0 : AV) : zipFrom (tabX.keep 122) 0 [a0] = [(0, a0)] := id rfl
@[go_sem] theorem res_122 : Tryz.f122.results.toList = [.tmp 1, .tmp 2] := id rfl
@[go_sem] theorem rr_122 : retRef tabX 122 = false := by unfold retRef; rw [fn_122]; exact id (by kernel_rfl)
theorem fn_123 : tabX.fn.get 123 = some Tryz.f123 := (fitsX.fn 123).trans Tryz.func123
@[go_sem] theorem zip_123 (a0 a1 a2 a3 : AV) : zipFrom (tabX.keep 123) 0 [a0, a1, a2, a3] = [(0, a0), (1, a1), (2, a2), (3, a3)] := id rfl
@[go_sem] theorem res_123 : Tryz.f123.results.toList = [.tmp 8, .tmp 9] := id rfl
@[go_sem] theorem rr_123 : retRef tabX 123 = false := by unfold retRef; rw [fn_123]; exact id (by kernel_rfl)
theorem fn_124 : tabX.fn.get 124 = some Tryz.f124 := (fitsX.fn 124).trans Tryz.func124
@[go_sem] theorem zip_124 (a0 a1 a2 : AV) : zipFrom (tabX.keep 124) 0 [a0, a1, a2] = [(1, a1), (2, a2)] := id rfl
@[go_sem] theorem res_124 : Tryz.f124.results.toList = [.tmp 5] := id rfl
@[go_sem] theorem rr_124 : retRef tabX 124 = false := by unfold retRef; rw [fn_124]; exact id (by kernel_rfl)
theorem fn_125 : tabX.fn.get 125 = some Tryz.f125 := (fitsX.fn 125).trans Tryz.func125
@[go_sem] theorem zip_125 (a0 a1 : AV) : zipFrom (tabX.keep 125) 0 [a0, a1] = [(0, a0), (1, a1)] := id rfl
@[go_sem] theorem res_125 : Tryz.f125.results.toList = [.tmp 4] := id rfl
@[go_sem] theorem rr_125 : retRef tabX 125 = false := by unfold retRef; rw [fn_125]; exact id (by kernel_rfl)
theorem fn_126 : tabX.fn.get 126 = some Tryz.f126 := (fitsX.fn 126).trans Tryz.func126
@[go_sem] theorem zip_126 (a0 a1 : AV) : zipFrom (tabX.keep 126) 0 [a0, a1] = [(0, a0), (1, a1)] := id rfl
@[go_sem] theorem res_126 : Tryz.f126.results.toList = [.tmp 4] := id rfl
@[go_sem] theorem rr_126 : retRef tabX 126 = false := by unfold retRef; rw [fn_126]; exact id (by kernel_rfl)
theorem fn_127 : tabX.fn.get 127 = some Tryz.f127 := (fitsX.fn 127).trans Tryz.func127
@[go_sem] theorem zip_127 (a0 : AV) : zipFrom (tabX.keep 127) 0 [a0] = [(0, a0)] := id rfl
@[go_sem] theorem res_127 : Tryz.f127.results.toList = [.tmp 2] := id rfl
@[go_sem] theorem rr_127 : retRef tabX 127 = false := by unfold retRef; rw [fn_127]; exact id (by kernel_rfl)
theorem fn_130 : tabX.fn.get 130 = some Tryz.f130 := (fitsX.fn 130).trans Tryz.func130
@[go_sem] theorem zip_130 (a0 a1 a2 : AV) : zipFrom (tabX.keep 130) 0 [a0, a1, a2] = [(0, a0), (1, a1), (2, a2)] := id rfl
@[go_sem] theorem res_130 : Tryz.f130.results.toList = [.tmp 6] := id rfl
@[go_sem] theorem rr_130 : retRef tabX 130 = false := by unfold retRef; rw [fn_130]; exact id (by kernel_rfl)
theorem fn_146 : tabX.fn.get 146 = some Tryz.f146 := (fitsX.fn 146).trans Tryz.func146
@[go_sem] theorem zip_146 (a0 a1 : AV) : zipFrom (tabX.keep 146) 0 [a0, a1] = [(0, a0), (1, a1)] := id rfl
@[go_sem] theorem res_146 : Tryz.f146.results.toList = [.tmp 4] := id rfl
@[go_sem] theorem rr_146 : retRef tabX 146 = false := by unfold retRef; rw [fn_146]; exact id (by kernel_rfl)
theorem fn_156 : tabX.fn.get 156 = some Tryz.f156 := (fitsX.fn 156).trans Tryz.func156
@[go_sem] theorem zip_156 (a0 a1 a2 : AV) : zipFrom (tabX.keep 156) 0 [a0, a1, a2] = [(0, a0), (1, a1), (2, a2)] := id rfl
@[go_sem] theorem res_156 : Tryz.f156.results.toList = [.tmp 4] := id rfl
@[go_sem] theorem rr_156 : retRef tabX 156 = false := by unfold retRef; rw [fn_156]; exact id (by kernel_rfl)
theorem fn_157 : tabX.fn.get 157 = some Tryz.f157 := (fitsX.fn 157).trans Tryz.func157
@[go_sem] theorem zip_157 (a0 a1 : AV) : zipFrom (tabX.keep 157) 0 [a0, a1] = [(0, a0), (1, a1)] := id rfl
@[go_sem] theorem res_157 : Tryz.f157.results.toList = [.tmp 4] := id rfl
@[go_sem] theorem rr_157 : retRef tabX 157 = false := by unfold retRef; rw [fn_157]; exact id (by kernel_rfl)
theorem fn_158 : tabX.fn.get 158 = some Tryz.f158 := (fitsX.fn 158).trans Tryz.func158
@[go_sem] theorem zip_158 (a0 a1 : AV) : zipFrom (tabX.keep 158) 0 [a0, a1] = [(0, a0), (1, a1)] := id rfl
@[go_sem] theorem res_158 : Tryz.f158.results.toList = [.tmp 3] := id rfl
@[go_sem] theorem rr_158 : retRef tabX 158 = false := by unfold retRef; rw [fn_158]; exact id (by kernel_rfl)
theorem fn_159 : tabX.fn.get 159 = some Tryz.f159 := (fitsX.fn 159).trans Tryz.func159
@[go_sem] theorem solo_159_6 : tabX.solo 159 6 = [] := id rfl
@[go_sem] theorem hush_159_6 : tabX.hush 159 6 = true := id rfl
@[go_sem] theorem zip_159 (a0 a1 : AV) : zipFrom (tabX.keep 159) 0 [a0, a1] = [(0, a0), (1, a1)] := id rfl
@[go_sem] theorem res_159 : Tryz.f159.results.toList = [] := id rfl
@[go_sem] theorem rr_159 : retRef tabX 159 = false := by unfold retRef; rw [fn_159]; exact id (by kernel_rfl)
theorem fn_160 : tabX.fn.get 160 = some Tryz.f160 := (fitsX.fn 160).trans Tryz.func160
@[go_sem] theorem zip_160 (a0 a1 : AV) : zipFrom (tabX.keep 160) 0 [a0, a1] = [(0, a0), (1, a1)] := id rfl
@[go_sem] theorem res_160 : Tryz.f160.results.toList = [.cell 4 231] := id rfl
@[go_sem] theorem rr_160 : retRef tabX 160 = false := by unfold retRef; rw [fn_160]; exact id (by kernel_rfl)
theorem fn_161 : tabX.fn.get 161 = some Tryz.f161 := (fitsX.fn 161).trans Tryz.func161
@[go_sem] theorem zip_161 (a0 : AV) : zipFrom (tabX.keep 161) 0 [a0] = [(0, a0)] := id rfl
@[go_sem] theorem res_161 : Tryz.f161.results.toList = [.tmp 2] := id rfl
@[go_sem] theorem rr_161 : retRef tabX 161 = false := by unfold retRef; rw [fn_161]; exact id (by kernel_rfl)
theorem fn_164 : tabX.fn.get 164 = some Tryz.f164 := (fitsX.fn 164).trans Tryz.func164
@[go_sem] theorem zip_164 (a0 a1 : AV) : zipFrom (tabX.keep 164) 0 [a0, a1] = [(0, a0), (1, a1)] := id rfl
@[go_sem] theorem res_164 : Tryz.f164.results.toList = [.tmp 4] := id rfl
@[go_sem] theorem rr_164 : retRef tabX 164 = false := by unfold retRef; rw [fn_164]; exact id (by kernel_rfl)
theorem fn_165 : tabX.fn.get 165 = some Tryz.f165 := (fitsX.fn 165).trans Tryz.func165
@[go_sem] theorem zip_165 (a0 a1 a2 : AV) : zipFrom (tabX.keep 165) 0 [a0, a1, a2] = [(0, a0), (1, a1), (2, a2)] := id rfl
@[go_sem] theorem res_165 : Tryz.f165.results.toList = [.tmp 6] := id rfl
@[go_sem] theorem rr_165 : retRef tabX 165 = false := by unfold retRef; rw [fn_165]; exact id (by kernel_rfl)
theorem fn_166 : tabX.fn.get 166 = some Tryz.f166 := (fitsX.fn 166).trans Tryz.func166
@[go_sem] theorem zip_166 (a0 a1 : AV) : zipFrom (tabX.keep 166) 0 [a0, a1] = [(0, a0), (1, a1)] := id rfl
@[go_sem] theorem res_166 : Tryz.f166.results.toList = [.tmp 4] := id rfl
@[go_sem] theorem rr_166 : retRef tabX 166 = false := by unfold retRef; rw [fn_166]; exact id (by kernel_rfl)
theorem fn_182 : tabX.fn.get 182 = some Tryz.f182 := (fitsX.fn 182).trans Tryz.func182
@[go_sem] theorem zip_182 (a0 a1 : AV) : zipFrom (tabX.keep 182) 0 [a0, a1] = [(0, a0), (1, a1)] := id rfl
@[go_sem] theorem res_182 : Tryz.f182.results.toList = [.tmp 4] := id rfl
@[go_sem] theorem rr_182 : retRef tabX 182 = false := by unfold retRef; rw [fn_182]; exact id (by kernel_rfl)
theorem fn_194 : tabX.fn.get 194 = some Tryz.f194 := (fitsX.fn 194).trans Tryz.func194
@[go_sem] theorem zip_194 (a0 : AV) : zipFrom (tabX.keep 194) 0 [a0] = [(0, a0)] := id rfl
@[go_sem] theorem res_194 : Tryz.f194.results.toList = [.tmp 2] := id rfl
@[go_sem] theorem rr_194 : retRef tabX 194 = false := by unfold retRef; rw [fn_194]; exact id (by kernel_rfl)
theorem fn_195 : tabX.fn.get 195 = some Tryz.f195 := (fitsX.fn 195).trans Tryz.func195
@[go_sem] theorem zip_195 (a0 a1 a2 : AV) : zipFrom (tabX.keep 195) 0 [a0, a1, a2] = [(0, a0), (1, a1), (2, a2)] := id rfl
@[go_sem] theorem res_195 : Tryz.f195.results.toList = [.tmp 4] := id rfl
@[go_sem] theorem rr_195 : retRef tabX 195 = false := by unfold retRef; rw [fn_195]; exact id (by kernel_rfl)
end Go.Proofs.YthkpjbgadkkeeaaGreat
