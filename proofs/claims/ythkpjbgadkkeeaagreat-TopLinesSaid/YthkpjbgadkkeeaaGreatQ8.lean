/- What the tables of the abstract interpreter hold. Conditions: none. -/
import Derived.Test.YthkpjbgadkkeeaaGreatQ7
set_option linter.unusedSimpArgs false
set_option linter.unusedVariables false
namespace Go.Proofs.YthkpjbgadkkeeaaGreat
open Go.Proofs Go.Proofs.YthkpjbgadkkeeaaGreat
theorem fn_10 : tabX.fn.get 10 = some Tryz.f10 := (fitsX.fn 10).trans Tryz.func10
@[go_sem] theorem solo_10_5 : tabX.solo 10 5 = [] := id rfl
@[go_sem] theorem solo_10_11 : tabX.solo 10 11 = [] := id rfl
@[go_sem] theorem solo_10_16 : tabX.solo 10 16 = [] := id rfl
@[go_sem] theorem solo_10_30 : tabX.solo 10 30 = [] := id rfl
@[go_sem] theorem hush_10_5 : tabX.hush 10 5 = true := id rfl
@[go_sem] theorem hush_10_11 : tabX.hush 10 11 = true := id rfl
@[go_sem] theorem hush_10_16 : tabX.hush 10 16 = true := id rfl
@[go_sem] theorem hush_10_30 : tabX.hush 10 30 = true := id rfl
@[go_sem] theorem zip_10 (a0 a1 a2 : AV) : zipFrom (tabX.keep 10) 0 [a0, a1, a2] = [(0, a0), (1, a1), (2, a2)] := id rfl
@[go_sem] theorem res_10 : Tryz.f10.results.toList = [.tmp 6] := id rfl
theorem fn_11 : tabX.fn.get 11 = some Tryz.f11 := (fitsX.fn 11).trans Tryz.func11
@[go_sem] theorem solo_11_1 : tabX.solo 11 1 = [[(0, false), (1, false), (2, false), (3, false), (4, true), (5, true), (6, false), (7, false), (8, false), (9, false), (10, false)], [(1, false), (2, false), (3, false), (4, true), (0, false), (5, true), (6, false), (7, false), (8, false), (9, false), (10, false)]] := id rfl
@[go_sem] theorem zip_11 (a0 a1 : AV) : zipFrom (tabX.keep 11) 0 [a0, a1] = [(0, a0), (1, a1)] := id rfl
@[go_sem] theorem res_11 : Tryz.f11.results.toList = [.cell 4 29, .tmp 5] := id rfl
theorem RR {g : Nat} {f : Func} (h : tabX.fn.get g = some f) (k : (f.resultTypes.toList.any (tref tabX)) = false) : retRef tabX g = false := by unfold retRef; rw [h]; exact k
@[go_sem] theorem rr_11 : retRef tabX 11 = false := RR fn_11 (by kernel_rfl)
theorem fn_13 : tabX.fn.get 13 = some Tryz.f13 := (fitsX.fn 13).trans Tryz.func13
@[go_sem] theorem solo_13_1 : tabX.solo 13 1 = [[(0, false), (1, false), (2, false), (3, false), (4, false), (5, true), (6, true), (7, false), (8, false), (9, false), (10, false), (11, false)], [(1, false), (2, false), (3, false), (4, false), (5, true), (0, false), (6, true), (7, false), (8, false), (9, false), (10, false), (11, false)]] := id rfl
@[go_sem] theorem zip_13 (a0 a1 : AV) : zipFrom (tabX.keep 13) 0 [a0, a1] = [(0, a0), (1, a1)] := id rfl
@[go_sem] theorem res_13 : Tryz.f13.results.toList = [.tmp 4, .tmp 5] := id rfl
@[go_sem] theorem rr_13 : retRef tabX 13 = false := RR fn_13 (by kernel_rfl)
theorem fn_15 : tabX.fn.get 15 = some Tryz.f15 := (fitsX.fn 15).trans Tryz.func15
@[go_sem] theorem solo_15_15 : tabX.solo 15 15 = [] := id rfl
@[go_sem] theorem hush_15_15 : tabX.hush 15 15 = true := id rfl
@[go_sem] theorem res_15 : Tryz.f15.results.toList = [.tmp 0] := id rfl
@[go_sem] theorem rr_15 : retRef tabX 15 = false := RR fn_15 (by kernel_rfl)
theorem fn_16 : tabX.fn.get 16 = some Tryz.f16 := (fitsX.fn 16).trans Tryz.func16
@[go_sem] theorem zip_16 (a0 : AV) : zipFrom (tabX.keep 16) 0 [a0] = [(0, a0)] := id rfl
@[go_sem] theorem res_16 : Tryz.f16.results.toList = [.tmp 2, .tmp 3] := id rfl
@[go_sem] theorem rr_16 : retRef tabX 16 = false := RR fn_16 (by kernel_rfl)
theorem fn_18 : tabX.fn.get 18 = some Tryz.f18 := (fitsX.fn 18).trans Tryz.func18
@[go_sem] theorem zip_18 (a0 : AV) : zipFrom (tabX.keep 18) 0 [a0] = [(0, a0)] := id rfl
@[go_sem] theorem res_18 : Tryz.f18.results.toList = [.tmp 2, .tmp 3] := id rfl
@[go_sem] theorem rr_18 : retRef tabX 18 = false := RR fn_18 (by kernel_rfl)
theorem fn_20 : tabX.fn.get 20 = some Tryz.f20 := (fitsX.fn 20).trans Tryz.func20
@[go_sem] theorem zip_20 (a0 : AV) : zipFrom (tabX.keep 20) 0 [a0] = [(0, a0)] := id rfl
@[go_sem] theorem res_20 : Tryz.f20.results.toList = [.tmp 2, .tmp 3] := id rfl
@[go_sem] theorem rr_20 : retRef tabX 20 = false := RR fn_20 (by kernel_rfl)
theorem fn_22 : tabX.fn.get 22 = some Tryz.f22 := (fitsX.fn 22).trans Tryz.func22
@[go_sem] theorem zip_22 (a0 a1 : AV) : zipFrom (tabX.keep 22) 0 [a0, a1] = [(0, a0), (1, a1)] := id rfl
@[go_sem] theorem res_22 : Tryz.f22.results.toList = [.tmp 4] := id rfl
@[go_sem] theorem rr_22 : retRef tabX 22 = false := RR fn_22 (by kernel_rfl)
theorem fn_23 : tabX.fn.get 23 = some Tryz.f23 := (fitsX.fn 23).trans Tryz.func23
@[go_sem] theorem zip_23 (a0 : AV) : zipFrom (tabX.keep 23) 0 [a0] = [(0, a0)] := id rfl
@[go_sem] theorem res_23 : Tryz.f23.results.toList = [.tmp 2, .tmp 3] := id rfl
@[go_sem] theorem rr_23 : retRef tabX 23 = false := RR fn_23 (by kernel_rfl)
theorem fn_26 : tabX.fn.get 26 = some Tryz.f26 := (fitsX.fn 26).trans Tryz.func26
@[go_sem] theorem zip_26 (a0 a1 a2 : AV) : zipFrom (tabX.keep 26) 0 [a0, a1, a2] = [(0, a0), (1, a1), (2, a2)] := id rfl
@[go_sem] theorem res_26 : Tryz.f26.results.toList = [.tmp 6] := id rfl
@[go_sem] theorem rr_26 : retRef tabX 26 = false := RR fn_26 (by kernel_rfl)
theorem fn_28 : tabX.fn.get 28 = some Tryz.f28 := (fitsX.fn 28).trans Tryz.func28
@[go_sem] theorem zip_28 (a0 a1 : AV) : zipFrom (tabX.keep 28) 0 [a0, a1] = [(0, a0), (1, a1)] := id rfl
@[go_sem] theorem res_28 : Tryz.f28.results.toList = [.cell 4 29] := id rfl
@[go_sem] theorem rr_28 : retRef tabX 28 = false := RR fn_28 (by kernel_rfl)
theorem fn_34 : tabX.fn.get 34 = some Tryz.f34 := (fitsX.fn 34).trans Tryz.func34
@[go_sem] theorem solo_34_1 : tabX.solo 34 1 = [[(0, false), (1, false), (2, false), (3, false), (4, false), (5, true), (6, true), (7, false), (8, false), (9, false), (10, false), (11, false)], [(1, false), (2, false), (3, false), (4, false), (5, true), (0, false), (6, true), (7, false), (8, false), (9, false), (10, false), (11, false)]] := id rfl
@[go_sem] theorem zip_34 (a0 a1 : AV) : zipFrom (tabX.keep 34) 0 [a0, a1] = [(0, a0), (1, a1)] := id rfl
@[go_sem] theorem res_34 : Tryz.f34.results.toList = [.tmp 4, .tmp 5] := id rfl
@[go_sem] theorem rr_34 : retRef tabX 34 = false := RR fn_34 (by kernel_rfl)
theorem fn_35 : tabX.fn.get 35 = some Tryz.f35 := (fitsX.fn 35).trans Tryz.func35
@[go_sem] theorem zip_35 (a0 a1 : AV) : zipFrom (tabX.keep 35) 0 [a0, a1] = [(0, a0), (1, a1)] := id rfl
@[go_sem] theorem res_35 : Tryz.f35.results.toList = [.tmp 4] := id rfl
@[go_sem] theorem rr_35 : retRef tabX 35 = false := RR fn_35 (by kernel_rfl)
theorem fn_37 : tabX.fn.get 37 = some Tryz.f37 := (fitsX.fn 37).trans Tryz.func37
@[go_sem] theorem zip_37 (a0 : AV) : zipFrom (tabX.keep 37) 0 [a0] = [(0, a0)] := id rfl
@[go_sem] theorem res_37 : Tryz.f37.results.toList = [.tmp 2, .tmp 3, .tmp 4] := id rfl
@[go_sem] theorem rr_37 : retRef tabX 37 = false := RR fn_37 (by kernel_rfl)
theorem fn_38 : tabX.fn.get 38 = some Tryz.f38 := (fitsX.fn 38).trans Tryz.func38
@[go_sem] theorem solo_38_35 : tabX.solo 38 35 = [] := id rfl
@[go_sem] theorem hush_38_35 : tabX.hush 38 35 = true := id rfl
@[go_sem] theorem zip_38 (a0 : AV) : zipFrom (tabX.keep 38) 0 [a0] = [(0, a0)] := id rfl
@[go_sem] theorem res_38 : Tryz.f38.results.toList = [.tmp 2, .tmp 3, .tmp 4] := id rfl
@[go_sem] theorem rr_38 : retRef tabX 38 = false := RR fn_38 (by kernel_rfl)
theorem fn_39 : tabX.fn.get 39 = some Tryz.f39 := (fitsX.fn 39).trans Tryz.func39
@[go_sem] theorem solo_39_3 : tabX.solo 39 3 = [] := id rfl
@[go_sem] theorem solo_39_4 : tabX.solo 39 4 = [] := id rfl
@[go_sem] theorem solo_39_5 : tabX.solo 39 5 = [] := id rfl
@[go_sem] theorem hush_39_3 : tabX.hush 39 3 = true := id rfl
@[go_sem] theorem hush_39_4 : tabX.hush 39 4 = true := id rfl
@[go_sem] theorem hush_39_5 : tabX.hush 39 5 = true := id rfl
@[go_sem] theorem res_39 : Tryz.f39.results.toList = [.tmp 0] := id rfl
@[go_sem] theorem rr_39 : retRef tabX 39 = false := RR fn_39 (by kernel_rfl)
theorem fn_40 : tabX.fn.get 40 = some Tryz.f40 := (fitsX.fn 40).trans Tryz.func40
@[go_sem] theorem solo_40_9 : tabX.solo 40 9 = [] := id rfl
@[go_sem] theorem hush_40_9 : tabX.hush 40 9 = true := id rfl
@[go_sem] theorem zip_40 (a0 a1 a2 : AV) : zipFrom (tabX.keep 40) 0 [a0, a1, a2] = [(0, a0), (1, a1), (2, a2)] := id rfl
@[go_sem] theorem res_40 : Tryz.f40.results.toList = [.tmp 6, .tmp 7] := id rfl
@[go_sem] theorem rr_40 : retRef tabX 40 = false := RR fn_40 (by kernel_rfl)
theorem fn_41 : tabX.fn.get 41 = some Tryz.f41 := (fitsX.fn 41).trans Tryz.func41
@[go_sem] theorem solo_41_7 : tabX.solo 41 7 = [] := id rfl
@[go_sem] theorem hush_41_7 : tabX.hush 41 7 = true := id rfl
@[go_sem] theorem zip_41 (a0 a1 : AV) : zipFrom (tabX.keep 41) 0 [a0, a1] = [(0, a0), (1, a1)] := id rfl
@[go_sem] theorem res_41 : Tryz.f41.results.toList = [.tmp 4] := id rfl
@[go_sem] theorem rr_41 : retRef tabX 41 = false := RR fn_41 (by kernel_rfl)
theorem fn_42 : tabX.fn.get 42 = some Tryz.f42 := (fitsX.fn 42).trans Tryz.func42
@[go_sem] theorem zip_42 (a0 a1 : AV) : zipFrom (tabX.keep 42) 0 [a0, a1] = [(0, a0), (1, a1)] := id rfl
@[go_sem] theorem res_42 : Tryz.f42.results.toList = [.tmp 4, .tmp 5] := id rfl
@[go_sem] theorem rr_42 : retRef tabX 42 = false := RR fn_42 (by kernel_rfl)
theorem fn_43 : tabX.fn.get 43 = some Tryz.f43 := (fitsX.fn 43).trans Tryz.func43
@[go_sem] theorem zip_43 (a0 a1 : AV) : zipFrom (tabX.keep 43) 0 [a0, a1] = [(0, a0), (1, a1)] := id rfl
@[go_sem] theorem res_43 : Tryz.f43.results.toList = [.tmp 4] := id rfl
@[go_sem] theorem rr_43 : retRef tabX 43 = false := RR fn_43 (by kernel_rfl)
theorem fn_44 : tabX.fn.get 44 = some Tryz.f44 := (fitsX.fn 44).trans Tryz.func44
@[go_sem] theorem solo_44_1 : tabX.solo 44 1 = [] := id rfl
@[go_sem] theorem hush_44_1 : tabX.hush 44 1 = true := id rfl
@[go_sem] theorem zip_44 (a0 a1 a2 a3 : AV) : zipFrom (tabX.keep 44) 0 [a0, a1, a2, a3] = [(0, a0), (1, a1), (2, a2), (3, a3)] := id rfl
@[go_sem] theorem res_44 : Tryz.f44.results.toList = [.tmp 8] := id rfl
@[go_sem] theorem rr_44 : retRef tabX 44 = false := RR fn_44 (by kernel_rfl)
theorem fn_45 : tabX.fn.get 45 = some Tryz.f45 := (fitsX.fn 45).trans Tryz.func45
@[go_sem] theorem zip_45 (a0 a1 : AV) : zipFrom (tabX.keep 45) 0 [a0, a1] = [(0, a0), (1, a1)] := id rfl
@[go_sem] theorem res_45 : Tryz.f45.results.toList = [.tmp 4, .tmp 5] := id rfl
@[go_sem] theorem rr_45 : retRef tabX 45 = true := by unfold retRef; rw [fn_45]; exact id (by kernel_rfl)
theorem fn_46 : tabX.fn.get 46 = some Tryz.f46 := (fitsX.fn 46).trans Tryz.func46
@[go_sem] theorem zip_46 (a0 a1 a2 : AV) : zipFrom (tabX.keep 46) 0 [a0, a1, a2] = [(0, a0), (1, a1), (2, a2)] := id rfl
@[go_sem] theorem res_46 : Tryz.f46.results.toList = [.tmp 6] := id rfl
@[go_sem] theorem rr_46 : retRef tabX 46 = true := by unfold retRef; rw [fn_46]; exact id (by kernel_rfl)
theorem fn_47 : tabX.fn.get 47 = some Tryz.f47 := (fitsX.fn 47).trans Tryz.func47
@[go_sem] theorem zip_47 (a0 : AV) : zipFrom (tabX.keep 47) 0 [a0] = [(0, a0)] := id rfl
@[go_sem] theorem res_47 : Tryz.f47.results.toList = [.tmp 2] := id rfl
@[go_sem] theorem rr_47 : retRef tabX 47 = true := by unfold retRef; rw [fn_47]; exact id (by kernel_rfl)
theorem fn_48 : tabX.fn.get 48 = some Tryz.f48 := (fitsX.fn 48).trans Tryz.func48
@[go_sem] theorem zip_48 (a0 a1 : AV) : zipFrom (tabX.keep 48) 0 [a0, a1] = [(0, a0), (1, a1)] := id rfl
@[go_sem] theorem res_48 : Tryz.f48.results.toList = [.tmp 4] := id rfl
@[go_sem] theorem rr_48 : retRef tabX 48 = false := RR fn_48 (by kernel_rfl)
theorem fn_49 : tabX.fn.get 49 = some Tryz.f49 := (fitsX.fn 49).trans Tryz.func49
@[go_sem] theorem zip_49 (a0 : AV) : zipFrom (tabX.keep 49) 0 [a0] = [(0, a0)] := id rfl
@[go_sem] theorem res_49 : Tryz.f49.results.toList = [.tmp 2] := id rfl
@[go_sem] theorem rr_49 : retRef tabX 49 = false := RR fn_49 (by kernel_rfl)
theorem fn_55 : tabX.fn.get 55 = some Tryz.f55 := (fitsX.fn 55).trans Tryz.func55
@[go_sem] theorem zip_55 (a0 : AV) : zipFrom (tabX.keep 55) 0 [a0] = [(0, a0)] := id rfl
@[go_sem] theorem res_55 : Tryz.f55.results.toList = [.cell 2 27] := id rfl
@[go_sem] theorem rr_55 : retRef tabX 55 = false := RR fn_55 (by kernel_rfl)
theorem fn_56 : tabX.fn.get 56 = some Tryz.f56 := (fitsX.fn 56).trans Tryz.func56
@[go_sem] theorem zip_56 (a0 a1 : AV) : zipFrom (tabX.keep 56) 0 [a0, a1] = [(0, a0), (1, a1)] := id rfl
@[go_sem] theorem res_56 : Tryz.f56.results.toList = [.cell 4 83] := id rfl
@[go_sem] theorem rr_56 : retRef tabX 56 = false := RR fn_56 (by kernel_rfl)
theorem fn_57 : tabX.fn.get 57 = some Tryz.f57 := (fitsX.fn 57).trans Tryz.func57
@[go_sem] theorem res_57 : Tryz.f57.results.toList = [.tmp 0] := id rfl
@[go_sem] theorem rr_57 : retRef tabX 57 = false := RR fn_57 (by kernel_rfl)
theorem fn_58 : tabX.fn.get 58 = some Tryz.f58 := (fitsX.fn 58).trans Tryz.func58
@[go_sem] theorem solo_58_4 : tabX.solo 58 4 = [] := id rfl
@[go_sem] theorem solo_58_5 : tabX.solo 58 5 = [] := id rfl
@[go_sem] theorem hush_58_4 : tabX.hush 58 4 = true := id rfl
@[go_sem] theorem zip_58 (a0 : AV) : zipFrom (tabX.keep 58) 0 [a0] = [(0, a0)] := id rfl
@[go_sem] theorem res_58 : Tryz.f58.results.toList = [.tmp 2] := id rfl
@[go_sem] theorem rr_58 : retRef tabX 58 = false := RR fn_58 (by kernel_rfl)
theorem fn_59 : tabX.fn.get 59 = some Tryz.f59 := (fitsX.fn 59).trans Tryz.func59
@[go_sem] theorem zip_59 (a0 : AV) : zipFrom (tabX.keep 59) 0 [a0] = [(0, a0)] := id rfl
@[go_sem] theorem res_59 : Tryz.f59.results.toList = [.tmp 2] := id rfl
@[go_sem] theorem rr_59 : retRef tabX 59 = false := RR fn_59 (by kernel_rfl)
theorem fn_60 : tabX.fn.get 60 = some Tryz.f60 := (fitsX.fn 60).trans Tryz.func60
@[go_sem] theorem solo_60_8 : tabX.solo 60 8 = [] := id rfl
@[go_sem] theorem solo_60_9 : tabX.solo 60 9 = [] := id rfl
@[go_sem] theorem hush_60_8 : tabX.hush 60 8 = true := id rfl
@[go_sem] theorem hush_60_9 : tabX.hush 60 9 = true := id rfl
@[go_sem] theorem zip_60 (a0 a1 : AV) : zipFrom (tabX.keep 60) 0 [a0, a1] = [(0, a0), (1, a1)] := id rfl
@[go_sem] theorem rr_60 : retRef tabX 60 = false := RR fn_60 (by kernel_rfl)
theorem fn_61 : tabX.fn.get 61 = some Tryz.f61 := (fitsX.fn 61).trans Tryz.func61
@[go_sem] theorem zip_61 (a0 a1 : AV) : zipFrom (tabX.keep 61) 0 [a0, a1] = [(0, a0), (1, a1)] := id rfl
@[go_sem] theorem res_61 : Tryz.f61.results.toList = [.tmp 4] := id rfl
@[go_sem] theorem rr_61 : retRef tabX 61 = false := RR fn_61 (by kernel_rfl)
theorem fn_62 : tabX.fn.get 62 = some Tryz.f62 := (fitsX.fn 62).trans Tryz.func62
@[go_sem] theorem zip_62 (a0 a1 : AV) : zipFrom (tabX.keep 62) 0 [a0, a1] = [(0, a0), (1, a1)] := id rfl
@[go_sem] theorem res_62 : Tryz.f62.results.toList = [.tmp 3] := id rfl
@[go_sem] theorem rr_62 : retRef tabX 62 = false := RR fn_62 (by kernel_rfl)
theorem fn_64 : tabX.fn.get 64 = some Tryz.f64 := (fitsX.fn 64).trans Tryz.func64
@[go_sem] theorem solo_64_2 : tabX.solo 64 2 = [] := id rfl
@[go_sem] theorem solo_64_6 : tabX.solo 64 6 = [] := id rfl
@[go_sem] theorem hush_64_2 : tabX.hush 64 2 = true := id rfl
@[go_sem] theorem hush_64_6 : tabX.hush 64 6 = true := id rfl
@[go_sem] theorem zip_64 (a0 a1 : AV) : zipFrom (tabX.keep 64) 0 [a0, a1] = [(0, a0), (1, a1)] := id rfl
@[go_sem] theorem res_64 : Tryz.f64.results.toList = [.tmp 4] := id rfl
@[go_sem] theorem rr_64 : retRef tabX 64 = false := RR fn_64 (by kernel_rfl)
theorem fn_65 : tabX.fn.get 65 = some Tryz.f65 := (fitsX.fn 65).trans Tryz.func65
@[go_sem] theorem zip_65 (a0 : AV) : zipFrom (tabX.keep 65) 0 [a0] = [(0, a0)] := id rfl
@[go_sem] theorem res_65 : Tryz.f65.results.toList = [.tmp 2, .tmp 3, .tmp 4] := id rfl
@[go_sem] theorem rr_65 : retRef tabX 65 = false := RR fn_65 (by kernel_rfl)
theorem fn_66 : tabX.fn.get 66 = some Tryz.f66 := (fitsX.fn 66).trans Tryz.func66
@[go_sem] theorem zip_66 (a0 : AV) : zipFrom (tabX.keep 66) 0 [a0] = [(0, a0)] := id rfl
@[go_sem] theorem res_66 : Tryz.f66.results.toList = [.tmp 2] := id rfl
@[go_sem] theorem rr_66 : retRef tabX 66 = true := by unfold retRef; rw [fn_66]; exact id (by kernel_rfl)
theorem fn_67 : tabX.fn.get 67 = some Tryz.f67 := (fitsX.fn 67).trans Tryz.func67
@[go_sem] theorem zip_67 (a0 a1 : AV) : zipFrom (tabX.keep 67) 0 [a0, a1] = [(0, a0), (1, a1)] := id rfl
@[go_sem] theorem res_67 : Tryz.f67.results.toList = [.tmp 3] := id rfl
@[go_sem] theorem rr_67 : retRef tabX 67 = false := RR fn_67 (by kernel_rfl)
theorem fn_68 : tabX.fn.get 68 = some Tryz.f68 := (fitsX.fn 68).trans Tryz.func68
@[go_sem] theorem zip_68 (a0 : AV) : zipFrom (tabX.keep 68) 0 [a0] = [(0, a0)] := id rfl
@[go_sem] theorem res_68 : Tryz.f68.results.toList = [.tmp 2] := id rfl
@[go_sem] theorem rr_68 : retRef tabX 68 = false := RR fn_68 (by kernel_rfl)
theorem fn_73 : tabX.fn.get 73 = some Tryz.f73 := (fitsX.fn 73).trans Tryz.func73
@[go_sem] theorem zip_73 (a0 a1 : AV) : zipFrom (tabX.keep 73) 0 [a0, a1] = [(0, a0), (1, a1)] := id rfl
@[go_sem] theorem res_73 : Tryz.f73.results.toList = [.tmp 4] := id rfl
@[go_sem] theorem rr_73 : retRef tabX 73 = false := RR fn_73 (by kernel_rfl)
theorem fn_74 : tabX.fn.get 74 = some Tryz.f74 := (fitsX.fn 74).trans Tryz.func74
@[go_sem] theorem zip_74 (a0 : AV) : zipFrom (tabX.keep 74) 0 [a0] = [(0, a0)] := id rfl
@[go_sem] theorem res_74 : Tryz.f74.results.toList = [.tmp 2] := id rfl
@[go_sem] theorem rr_74 : retRef tabX 74 = false := RR fn_74 (by kernel_rfl)
theorem fn_75 : tabX.fn.get 75 = some Tryz.f75 := (fitsX.fn 75).trans Tryz.func75
@[go_sem] theorem solo_75_4 : tabX.solo 75 4 = [] := id rfl
@[go_sem] theorem solo_75_7 : tabX.solo 75 7 = [] := id rfl
@[go_sem] theorem hush_75_4 : tabX.hush 75 4 = true := id rfl
@[go_sem] theorem hush_75_7 : tabX.hush 75 7 = true := id rfl
@[go_sem] theorem zip_75 (a0 a1 : AV) : zipFrom (tabX.keep 75) 0 [a0, a1] = [(0, a0), (1, a1)] := id rfl
@[go_sem] theorem res_75 : Tryz.f75.results.toList = [.tmp 4] := id rfl
@[go_sem] theorem rr_75 : retRef tabX 75 = false := RR fn_75 (by kernel_rfl)
theorem fn_76 : tabX.fn.get 76 = some Tryz.f76 := (fitsX.fn 76).trans Tryz.func76
@[go_sem] theorem res_76 : Tryz.f76.results.toList = [.cell 0 63] := id rfl
@[go_sem] theorem rr_76 : retRef tabX 76 = false := RR fn_76 (by kernel_rfl)
theorem fn_77 : tabX.fn.get 77 = some Tryz.f77 := (fitsX.fn 77).trans Tryz.func77
@[go_sem] theorem zip_77 (a0 : AV) : zipFrom (tabX.keep 77) 0 [a0] = [(0, a0)] := id rfl
@[go_sem] theorem res_77 : Tryz.f77.results.toList = [.tmp 2] := id rfl
@[go_sem] theorem rr_77 : retRef tabX 77 = false := RR fn_77 (by kernel_rfl)
theorem fn_78 : tabX.fn.get 78 = some Tryz.f78 := (fitsX.fn 78).trans Tryz.func78
@[go_sem] theorem zip_78 (a0 a1 : AV) : zipFrom (tabX.keep 78) 0 [a0, a1] = [(0, a0), (1, a1)] := id rfl
@[go_sem] theorem res_78 : Tryz.f78.results.toList = [.tmp 4, .tmp 5] := id rfl
@[go_sem] theorem rr_78 : retRef tabX 78 = false := RR fn_78 (by kernel_rfl)
theorem fn_79 : tabX.fn.get 79 = some Tryz.f79 := (fitsX.fn 79).trans Tryz.func79
@[go_sem] theorem zip_79 (a0 a1 a2 : AV) : zipFrom (tabX.keep 79) 0 [a0, a1, a2] = [(0, a0), (1, a1), (2, a2)] := id rfl
@[go_sem] theorem res_79 : Tryz.f79.results.toList = [.tmp 6, .tmp 7, .tmp 8] := id rfl
@[go_sem] theorem rr_79 : retRef tabX 79 = false := RR fn_79 (by kernel_rfl)
theorem fn_80 : tabX.fn.get 80 = some Tryz.f80 := (fitsX.fn 80).trans Tryz.func80
@[go_sem] theorem zip_80 (a0 a1 : AV) : zipFrom (tabX.keep 80) 0 [a0, a1] = [(0, a0), (1, a1)] := id rfl
@[go_sem] theorem res_80 : Tryz.f80.results.toList = [.tmp 4, .tmp 5] := id rfl
@[go_sem] theorem rr_80 : retRef tabX 80 = false := RR fn_80 (by kernel_rfl)
theorem fn_81 : tabX.fn.get 81 = some Tryz.f81 := (fitsX.fn 81).trans Tryz.func81
@[go_sem] theorem zip_81 (a0 a1 : AV) : zipFrom (tabX.keep 81) 0 [a0, a1] = [(0, a0), (1, a1)] := id rfl
@[go_sem] theorem res_81 : Tryz.f81.results.toList = [.tmp 4, .tmp 5, .tmp 6] := id rfl
@[go_sem] theorem rr_81 : retRef tabX 81 = false := RR fn_81 (by kernel_rfl)
theorem fn_82 : tabX.fn.get 82 = some Tryz.f82 := (fitsX.fn 82).trans Tryz.func82
@[go_sem] theorem rr_82 : retRef tabX 82 = false := RR fn_82 (by kernel_rfl)
theorem fn_83 : tabX.fn.get 83 = some Tryz.f83 := (fitsX.fn 83).trans Tryz.func83
@[go_sem] theorem res_83 : Tryz.f83.results.toList = [.tmp 0] := id rfl
@[go_sem] theorem rr_83 : retRef tabX 83 = false := RR fn_83 (by kernel_rfl)
theorem fn_84 : tabX.fn.get 84 = some Tryz.f84 := (fitsX.fn 84).trans Tryz.func84
@[go_sem] theorem zip_84 (a0 a1 a2 : AV) : zipFrom (tabX.keep 84) 0 [a0, a1, a2] = [(0, a0), (1, a1), (2, a2)] := id rfl
@[go_sem] theorem res_84 : Tryz.f84.results.toList = [.tmp 6, .tmp 7] := id rfl
@[go_sem] theorem rr_84 : retRef tabX 84 = false := RR fn_84 (by kernel_rfl)
theorem fn_85 : tabX.fn.get 85 = some Tryz.f85 := (fitsX.fn 85).trans Tryz.func85
@[go_sem] theorem zip_85 (a0 a1 : AV) : zipFrom (tabX.keep 85) 0 [a0, a1] = [(0, a0), (1, a1)] := id rfl
@[go_sem] theorem res_85 : Tryz.f85.results.toList = [.tmp 4, .tmp 5, .tmp 6] := id rfl
@[go_sem] theorem rr_85 : retRef tabX 85 = false := RR fn_85 (by kernel_rfl)
theorem fn_86 : tabX.fn.get 86 = some Tryz.f86 := (fitsX.fn 86).trans Tryz.func86
@[go_sem] theorem solo_86_6 : tabX.solo 86 6 = [] := id rfl
@[go_sem] theorem hush_86_6 : tabX.hush 86 6 = true := id rfl
@[go_sem] theorem zip_86 (a0 a1 : AV) : zipFrom (tabX.keep 86) 0 [a0, a1] = [(0, a0), (1, a1)] := id rfl
@[go_sem] theorem res_86 : Tryz.f86.results.toList = [.tmp 4] := id rfl
@[go_sem] theorem rr_86 : retRef tabX 86 = false := RR fn_86 (by kernel_rfl)
theorem fn_87 : tabX.fn.get 87 = some Tryz.f87 := (fitsX.fn 87).trans Tryz.func87
@[go_sem] theorem solo_87_6 : tabX.solo 87 6 = [] := id rfl
@[go_sem] theorem hush_87_6 : tabX.hush 87 6 = true := id rfl
@[go_sem] theorem zip_87 (a0 a1 : AV) : zipFrom (tabX.keep 87) 0 [a0, a1] = [(0, a0), (1, a1)] := id rfl
@[go_sem] theorem res_87 : Tryz.f87.results.toList = [.tmp 4] := id rfl
@[go_sem] theorem rr_87 : retRef tabX 87 = false := RR fn_87 (by kernel_rfl)
theorem fn_88 : tabX.fn.get 88 = some Tryz.f88 := (fitsX.fn 88).trans Tryz.func88
@[go_sem] theorem solo_88_6 : tabX.solo 88 6 = [] := id rfl
@[go_sem] theorem hush_88_6 : tabX.hush 88 6 = true := id rfl
@[go_sem] theorem zip_88 (a0 a1 : AV) : zipFrom (tabX.keep 88) 0 [a0, a1] = [(0, a0), (1, a1)] := id rfl
@[go_sem] theorem res_88 : Tryz.f88.results.toList = [.tmp 4] := id rfl
@[go_sem] theorem rr_88 : retRef tabX 88 = false := RR fn_88 (by kernel_rfl)
theorem fn_89 : tabX.fn.get 89 = some Tryz.f89 := (fitsX.fn 89).trans Tryz.func89
@[go_sem] theorem zip_89 (a0 a1 : AV) : zipFrom (tabX.keep 89) 0 [a0, a1] = [(0, a0), (1, a1)] := id rfl
@[go_sem] theorem res_89 : Tryz.f89.results.toList = [.tmp 4, .tmp 5] := id rfl
@[go_sem] theorem rr_89 : retRef tabX 89 = true := by unfold retRef; rw [fn_89]; exact id (by kernel_rfl)
theorem fn_90 : tabX.fn.get 90 = some Tryz.f90 := (fitsX.fn 90).trans Tryz.func90
@[go_sem] theorem zip_90 (a0 a1 a2 : AV) : zipFrom (tabX.keep 90) 0 [a0, a1, a2] = [(0, a0), (1, a1), (2, a2)] := id rfl
@[go_sem] theorem res_90 : Tryz.f90.results.toList = [.tmp 6] := id rfl
@[go_sem] theorem rr_90 : retRef tabX 90 = false := RR fn_90 (by kernel_rfl)
theorem fn_91 : tabX.fn.get 91 = some Tryz.f91 := (fitsX.fn 91).trans Tryz.func91
@[go_sem] theorem zip_91 (a0 : AV) : zipFrom (tabX.keep 91) 0 [a0] = [(0, a0)] := id rfl
@[go_sem] theorem res_91 : Tryz.f91.results.toList = [.tmp 2] := id rfl
@[go_sem] theorem rr_91 : retRef tabX 91 = false := RR fn_91 (by kernel_rfl)
theorem fn_92 : tabX.fn.get 92 = some Tryz.f92 := (fitsX.fn 92).trans Tryz.func92
@[go_sem] theorem zip_92 (a0 : AV) : zipFrom (tabX.keep 92) 0 [a0] = [(0, a0)] := id rfl
@[go_sem] theorem res_92 : Tryz.f92.results.toList = [.tmp 2] := id rfl
@[go_sem] theorem rr_92 : retRef tabX 92 = false := RR fn_92 (by kernel_rfl)
theorem fn_93 : tabX.fn.get 93 = some Tryz.f93 := (fitsX.fn 93).trans Tryz.func93
@[go_sem] theorem zip_93 (a0 a1 : AV) : zipFrom (tabX.keep 93) 0 [a0, a1] = [(0, a0), (1, a1)] := id rfl
@[go_sem] theorem res_93 : Tryz.f93.results.toList = [.tmp 4] := id rfl
@[go_sem] theorem rr_93 : retRef tabX 93 = false := RR fn_93 (by kernel_rfl)
theorem fn_94 : tabX.fn.get 94 = some Tryz.f94 := (fitsX.fn 94).trans Tryz.func94
@[go_sem] theorem res_94 : Tryz.f94.results.toList = [.tmp 0] := id rfl
@[go_sem] theorem rr_94 : retRef tabX 94 = false := RR fn_94 (by kernel_rfl)
theorem fn_95 : tabX.fn.get 95 = some Tryz.f95 := (fitsX.fn 95).trans Tryz.func95
@[go_sem] theorem zip_95 (a0 : AV) : zipFrom (tabX.keep 95) 0 [a0] = [(0, a0)] := id rfl
@[go_sem] theorem res_95 : Tryz.f95.results.toList = [.tmp 2, .tmp 3, .tmp 4] := id rfl
@[go_sem] theorem rr_95 : retRef tabX 95 = false := RR fn_95 (by kernel_rfl)
theorem fn_96 : tabX.fn.get 96 = some Tryz.f96 := (fitsX.fn 96).trans Tryz.func96
@[go_sem] theorem zip_96 (a0 : AV) : zipFrom (tabX.keep 96) 0 [a0] = [(0, a0)] := id rfl
@[go_sem] theorem res_96 : Tryz.f96.results.toList = [.tmp 2] := id rfl
@[go_sem] theorem rr_96 : retRef tabX 96 = false := RR fn_96 (by kernel_rfl)
theorem fn_98 : tabX.fn.get 98 = some Tryz.f98 := (fitsX.fn 98).trans Tryz.func98
@[go_sem] theorem zip_98 (a0 a1 a2 : AV) : zipFrom (tabX.keep 98) 0 [a0, a1, a2] = [(0, a0), (1, a1), (2, a2)] := id rfl
@[go_sem] theorem res_98 : Tryz.f98.results.toList = [.tmp 3] := id rfl
@[go_sem] theorem rr_98 : retRef tabX 98 = false := RR fn_98 (by kernel_rfl)
theorem fn_99 : tabX.fn.get 99 = some Tryz.f99 := (fitsX.fn 99).trans Tryz.func99
@[go_sem] theorem zip_99 (a0 a1 a2 : AV) : zipFrom (tabX.keep 99) 0 [a0, a1, a2] = [(0, a0), (1, a1), (2, a2)] := id rfl
@[go_sem] theorem res_99 : Tryz.f99.results.toList = [.tmp 6] := id rfl
@[go_sem] theorem rr_99 : retRef tabX 99 = false := RR fn_99 (by kernel_rfl)
theorem fn_100 : tabX.fn.get 100 = some Tryz.f100 := (fitsX.fn 100).trans Tryz.func100
@[go_sem] theorem solo_100_7 : tabX.solo 100 7 = [] := id rfl
@[go_sem] theorem zip_100 (a0 a1 : AV) : zipFrom (tabX.keep 100) 0 [a0, a1] = [(0, a0), (1, a1)] := id rfl
@[go_sem] theorem res_100 : Tryz.f100.results.toList = [] := id rfl
theorem fn_101 : tabX.fn.get 101 = some Tryz.f101 := (fitsX.fn 101).trans Tryz.func101
@[go_sem] theorem solo_101_1 : tabX.solo 101 1 = [[(0, false), (1, false), (2, false), (3, false), (4, false), (5, false), (6, false)], [(0, false), (1, false), (4, false), (2, false), (3, false), (5, false), (6, false)]] := id rfl
@[go_sem] theorem solo_101_6 : tabX.solo 101 6 = [] := id rfl
@[go_sem] theorem solo_101_8 : tabX.solo 101 8 = [[(0, false), (1, false), (2, false), (3, false), (4, false), (5, false), (6, false), (7, false), (8, false), (9, false), (10, false)]] := id rfl
@[go_sem] theorem solo_101_13 : tabX.solo 101 13 = [] := id rfl
@[go_sem] theorem hush_101_6 : tabX.hush 101 6 = true := id rfl
@[go_sem] theorem hush_101_13 : tabX.hush 101 13 = true := id rfl
@[go_sem] theorem zip_101 (a0 a1 a2 a3 a4 a5 : AV) : zipFrom (tabX.keep 101) 0 [a0, a1, a2, a3, a4, a5] = [(0, a0), (1, a1), (2, a2), (3, a3), (4, a4), (5, a5)] := id rfl
@[go_sem] theorem res_101 : Tryz.f101.results.toList = [.tmp 7] := id rfl
@[go_sem] theorem rr_101 : retRef tabX 101 = false := RR fn_101 (by kernel_rfl)
theorem fn_102 : tabX.fn.get 102 = some Tryz.f102 := (fitsX.fn 102).trans Tryz.func102
@[go_sem] theorem solo_102_1 : tabX.solo 102 1 = [[(0, false), (1, false), (2, false), (3, false), (4, false), (5, false), (6, false), (7, false), (8, false), (9, false), (10, false), (11, false), (12, false), (13, false), (14, false), (15, false), (16, true), (17, false), (18, false)]] := id rfl
@[go_sem] theorem zip_102 (a0 a1 : AV) : zipFrom (tabX.keep 102) 0 [a0, a1] = [(0, a0), (1, a1)] := id rfl
@[go_sem] theorem res_102 : Tryz.f102.results.toList = [.tmp 4] := id rfl
@[go_sem] theorem rr_102 : retRef tabX 102 = false := RR fn_102 (by kernel_rfl)
theorem fn_103 : tabX.fn.get 103 = some Tryz.f103 := (fitsX.fn 103).trans Tryz.func103
@[go_sem] theorem zip_103 (a0 : AV) : zipFrom (tabX.keep 103) 0 [a0] = [(0, a0)] := id rfl
@[go_sem] theorem res_103 : Tryz.f103.results.toList = [.tmp 2] := id rfl
@[go_sem] theorem rr_103 : retRef tabX 103 = true := by unfold retRef; rw [fn_103]; exact id (by kernel_rfl)
theorem fn_107 : tabX.fn.get 107 = some Tryz.f107 := (fitsX.fn 107).trans Tryz.func107
@[go_sem] theorem zip_107 (a0 a1 : AV) : zipFrom (tabX.keep 107) 0 [a0, a1] = [(0, a0), (1, a1)] := id rfl
@[go_sem] theorem res_107 : Tryz.f107.results.toList = [.tmp 4] := id rfl
@[go_sem] theorem rr_107 : retRef tabX 107 = false := RR fn_107 (by kernel_rfl)
theorem fn_108 : tabX.fn.get 108 = some Tryz.f108 := (fitsX.fn 108).trans Tryz.func108
@[go_sem] theorem zip_108 (a0 a1 : AV) : zipFrom (tabX.keep 108) 0 [a0, a1] = [(0, a0), (1, a1)] := id rfl
@[go_sem] theorem res_108 : Tryz.f108.results.toList = [.tmp 4] := id rfl
@[go_sem] theorem rr_108 : retRef tabX 108 = false := RR fn_108 (by kernel_rfl)
theorem fn_109 : tabX.fn.get 109 = some Tryz.f109 := (fitsX.fn 109).trans Tryz.func109
@[go_sem] theorem zip_109 (a0 : AV) : zipFrom (tabX.keep 109) 0 [a0] = [(0, a0)] := id rfl
@[go_sem] theorem res_109 : Tryz.f109.results.toList = [.tmp 1, .tmp 2] := id rfl
@[go_sem] theorem rr_109 : retRef tabX 109 = false := RR fn_109 (by kernel_rfl)
theorem fn_110 : tabX.fn.get 110 = some Tryz.f110 := (fitsX.fn 110).trans Tryz.func110
@[go_sem] theorem zip_110 (a0 : AV) : zipFrom (tabX.keep 110) 0 [a0] = [(0, a0)] := id rfl
@[go_sem] theorem res_110 : Tryz.f110.results.toList = [.tmp 1, .tmp 2] := id rfl
@[go_sem] theorem rr_110 : retRef tabX 110 = false := RR fn_110 (by kernel_rfl)
theorem fn_111 : tabX.fn.get 111 = some Tryz.f111 := (fitsX.fn 111).trans Tryz.func111
@[go_sem] theorem zip_111 (a0 a1 a2 a3 : AV) : zipFrom (tabX.keep 111) 0 [a0, a1, a2, a3] = [(0, a0), (1, a1), (2, a2), (3, a3)] := id rfl
@[go_sem] theorem res_111 : Tryz.f111.results.toList = [.tmp 8, .tmp 9] := id rfl
@[go_sem] theorem rr_111 : retRef tabX 111 = false := RR fn_111 (by kernel_rfl)
theorem fn_112 : tabX.fn.get 112 = some Tryz.f112 := (fitsX.fn 112).trans Tryz.func112
@[go_sem] theorem zip_112 (a0 a1 : AV) : zipFrom (tabX.keep 112) 0 [a0, a1] = [(1, a1)] := id rfl
@[go_sem] theorem res_112 : Tryz.f112.results.toList = [.tmp 4] := id rfl
@[go_sem] theorem rr_112 : retRef tabX 112 = false := RR fn_112 (by kernel_rfl)
theorem fn_113 : tabX.fn.get 113 = some Tryz.f113 := (fitsX.fn 113).trans Tryz.func113
@[go_sem] theorem zip_113 (a0 : AV) : zipFrom (tabX.keep 113) 0 [a0] = [(0, a0)] := id rfl
@[go_sem] theorem res_113 : Tryz.f113.results.toList = [.tmp 1, .tmp 2] := id rfl
@[go_sem] theorem rr_113 : retRef tabX 113 = false := RR fn_113 (by kernel_rfl)
theorem fn_114 : tabX.fn.get 114 = some Tryz.f114 := (fitsX.fn 114).trans Tryz.func114
@[go_sem] theorem zip_114 (a0 a1 a2 a3 : AV) : zipFrom (tabX.keep 114) 0 [a0, a1, a2, a3] = [(0, a0), (1, a1), (2, a2), (3, a3)] := id rfl
@[go_sem] theorem res_114 : Tryz.f114.results.toList = [.tmp 8, .tmp 9] := id rfl
@[go_sem] theorem rr_114 : retRef tabX 114 = false := RR fn_114 (by kernel_rfl)
theorem fn_115 : tabX.fn.get 115 = some Tryz.f115 := (fitsX.fn 115).trans Tryz.func115
@[go_sem] theorem zip_115 (a0 a1 a2 : AV) : zipFrom (tabX.keep 115) 0 [a0, a1, a2] = [(0, a0), (1, a1), (2, a2)] := id rfl
@[go_sem] theorem res_115 : Tryz.f115.results.toList = [.tmp 5] := id rfl
@[go_sem] theorem rr_115 : retRef tabX 115 = false := RR fn_115 (by kernel_rfl)
theorem fn_116 : tabX.fn.get 116 = some Tryz.f116 := (fitsX.fn 116).trans Tryz.func116
@[go_sem] theorem zip_116 (a0 : AV) : zipFrom (tabX.keep 116) 0 [a0] = [(0, a0)] := id rfl
@[go_sem] theorem res_116 : Tryz.f116.results.toList = [.tmp 2] := id rfl
@[go_sem] theorem rr_116 : retRef tabX 116 = false := RR fn_116 (by kernel_rfl)
theorem fn_117 : tabX.fn.get 117 = some Tryz.f117 := (fitsX.fn 117).trans Tryz.func117
@[go_sem] theorem zip_117 (a0 a1 : AV) : zipFrom (tabX.keep 117) 0 [a0, a1] = [(0, a0), (1, a1)] := id rfl
@[go_sem] theorem res_117 : Tryz.f117.results.toList = [.tmp 4] := id rfl
@[go_sem] theorem rr_117 : retRef tabX 117 = false := RR fn_117 (by kernel_rfl)
theorem fn_118 : tabX.fn.get 118 = some Tryz.f118 := (fitsX.fn 118).trans Tryz.func118
@[go_sem] theorem zip_118 (a0 a1 : AV) : zipFrom (tabX.keep 118) 0 [a0, a1] = [(0, a0), (1, a1)] := id rfl
@[go_sem] theorem res_118 : Tryz.f118.results.toList = [.tmp 3] := id rfl
@[go_sem] theorem rr_118 : retRef tabX 118 = false := RR fn_118 (by kernel_rfl)
theorem fn_119 : tabX.fn.get 119 = some Tryz.f119 := (fitsX.fn 119).trans Tryz.func119
@[go_sem] theorem zip_119 (a0 : AV) : zipFrom (tabX.keep 119) 0 [a0] = [(0, a0)] := id rfl
@[go_sem] theorem res_119 : Tryz.f119.results.toList = [.tmp 1, .tmp 2] := id rfl
@[go_sem] theorem rr_119 : retRef tabX 119 = false := RR fn_119 (by kernel_rfl)
theorem fn_120 : tabX.fn.get 120 = some Tryz.f120 := (fitsX.fn 120).trans Tryz.func120
@[go_sem] theorem zip_120 (a0 a1 a2 a3 : AV) : zipFrom (tabX.keep 120) 0 [a0, a1, a2, a3] = [(0, a0), (1, a1), (2, a2), (3, a3)] := id rfl
@[go_sem] theorem res_120 : Tryz.f120.results.toList = [.tmp 8, .tmp 9] := id rfl
@[go_sem] theorem rr_120 : retRef tabX 120 = false := RR fn_120 (by kernel_rfl)
theorem fn_121 : tabX.fn.get 121 = some Tryz.f121 := (fitsX.fn 121).trans Tryz.func121
@[go_sem] theorem solo_121_5 : tabX.solo 121 5 = [] := id rfl
@[go_sem] theorem hush_121_5 : tabX.hush 121 5 = true := id rfl
@[go_sem] theorem zip_121 (a0 a1 a2 : AV) : zipFrom (tabX.keep 121) 0 [a0, a1, a2] = [(0, a0), (1, a1), (2, a2)] := id rfl
@[go_sem] theorem res_121 : Tryz.f121.results.toList = [.tmp 5] := id rfl
@[go_sem] theorem rr_121 : retRef tabX 121 = false := RR fn_121 (by kernel_rfl)
theorem fn_122 : tabX.fn.get 122 = some Tryz.f122 := (fitsX.fn 122).trans Tryz.func122
@[go_sem] theorem zip_122 (a0 : AV) : zipFrom (tabX.keep 122) 0 [a0] = [(0, a0)] := id rfl
@[go_sem] theorem res_122 : Tryz.f122.results.toList = [.tmp 1, .tmp 2] := id rfl
@[go_sem] theorem rr_122 : retRef tabX 122 = false := RR fn_122 (by kernel_rfl)
theorem fn_123 : tabX.fn.get 123 = some Tryz.f123 := (fitsX.fn 123).trans Tryz.func123
@[go_sem] theorem zip_123 (a0 a1 a2 a3 : AV) : zipFrom (tabX.keep 123) 0 [a0, a1, a2, a3] = [(0, a0), (1, a1), (2, a2), (3, a3)] := id rfl
@[go_sem] theorem res_123 : Tryz.f123.results.toList = [.tmp 8, .tmp 9] := id rfl
@[go_sem] theorem rr_123 : retRef tabX 123 = false := RR fn_123 (by kernel_rfl)
theorem fn_124 : tabX.fn.get 124 = some Tryz.f124 := (fitsX.fn 124).trans Tryz.func124
@[go_sem] theorem zip_124 (a0 a1 a2 : AV) : zipFrom (tabX.keep 124) 0 [a0, a1, a2] = [(1, a1), (2, a2)] := id rfl
@[go_sem] theorem res_124 : Tryz.f124.results.toList = [.tmp 5] := id rfl
@[go_sem] theorem rr_124 : retRef tabX 124 = false := RR fn_124 (by kernel_rfl)
theorem fn_126 : tabX.fn.get 126 = some Tryz.f126 := (fitsX.fn 126).trans Tryz.func126
@[go_sem] theorem zip_126 (a0 a1 : AV) : zipFrom (tabX.keep 126) 0 [a0, a1] = [(0, a0), (1, a1)] := id rfl
@[go_sem] theorem res_126 : Tryz.f126.results.toList = [.tmp 4] := id rfl
@[go_sem] theorem rr_126 : retRef tabX 126 = false := RR fn_126 (by kernel_rfl)
theorem fn_127 : tabX.fn.get 127 = some Tryz.f127 := (fitsX.fn 127).trans Tryz.func127
@[go_sem] theorem zip_127 (a0 : AV) : zipFrom (tabX.keep 127) 0 [a0] = [(0, a0)] := id rfl
@[go_sem] theorem res_127 : Tryz.f127.results.toList = [.tmp 2] := id rfl
@[go_sem] theorem rr_127 : retRef tabX 127 = false := RR fn_127 (by kernel_rfl)
theorem fn_128 : tabX.fn.get 128 = some Tryz.f128 := (fitsX.fn 128).trans Tryz.func128
@[go_sem] theorem zip_128 (a0 : AV) : zipFrom (tabX.keep 128) 0 [a0] = [(0, a0)] := id rfl
@[go_sem] theorem res_128 : Tryz.f128.results.toList = [.tmp 2] := id rfl
@[go_sem] theorem rr_128 : retRef tabX 128 = false := RR fn_128 (by kernel_rfl)
theorem fn_129 : tabX.fn.get 129 = some Tryz.f129 := (fitsX.fn 129).trans Tryz.func129
@[go_sem] theorem zip_129 (a0 : AV) : zipFrom (tabX.keep 129) 0 [a0] = [(0, a0)] := id rfl
@[go_sem] theorem res_129 : Tryz.f129.results.toList = [.tmp 2] := id rfl
@[go_sem] theorem rr_129 : retRef tabX 129 = false := RR fn_129 (by kernel_rfl)
theorem fn_130 : tabX.fn.get 130 = some Tryz.f130 := (fitsX.fn 130).trans Tryz.func130
@[go_sem] theorem zip_130 (a0 a1 a2 : AV) : zipFrom (tabX.keep 130) 0 [a0, a1, a2] = [(0, a0), (1, a1), (2, a2)] := id rfl
@[go_sem] theorem res_130 : Tryz.f130.results.toList = [.tmp 6] := id rfl
@[go_sem] theorem rr_130 : retRef tabX 130 = false := RR fn_130 (by kernel_rfl)
theorem fn_131 : tabX.fn.get 131 = some Tryz.f131 := (fitsX.fn 131).trans Tryz.func131
@[go_sem] theorem zip_131 (a0 : AV) : zipFrom (tabX.keep 131) 0 [a0] = [(0, a0)] := id rfl
@[go_sem] theorem res_131 : Tryz.f131.results.toList = [.cell 2 128] := id rfl
@[go_sem] theorem rr_131 : retRef tabX 131 = false := RR fn_131 (by kernel_rfl)
theorem fn_132 : tabX.fn.get 132 = some Tryz.f132 := (fitsX.fn 132).trans Tryz.func132
@[go_sem] theorem zip_132 (a0 a1 : AV) : zipFrom (tabX.keep 132) 0 [a0, a1] = [(0, a0), (1, a1)] := id rfl
@[go_sem] theorem res_132 : Tryz.f132.results.toList = [.cell 4 128] := id rfl
@[go_sem] theorem rr_132 : retRef tabX 132 = false := RR fn_132 (by kernel_rfl)
theorem fn_133 : tabX.fn.get 133 = some Tryz.f133 := (fitsX.fn 133).trans Tryz.func133
@[go_sem] theorem solo_133_6 : tabX.solo 133 6 = [] := id rfl
@[go_sem] theorem zip_133 (a0 : AV) : zipFrom (tabX.keep 133) 0 [a0] = [(0, a0)] := id rfl
@[go_sem] theorem res_133 : Tryz.f133.results.toList = [.tmp 2] := id rfl
@[go_sem] theorem rr_133 : retRef tabX 133 = true := by unfold retRef; rw [fn_133]; exact id (by kernel_rfl)
theorem fn_134 : tabX.fn.get 134 = some Tryz.f134 := (fitsX.fn 134).trans Tryz.func134
@[go_sem] theorem solo_134_6 : tabX.solo 134 6 = [[(0, false), (1, false), (2, true), (3, false), (4, false), (5, false)], [(0, false), (1, false), (3, false), (2, true), (4, false), (5, false)]] := id rfl
@[go_sem] theorem solo_134_10 : tabX.solo 134 10 = [] := id rfl
@[go_sem] theorem zip_134 (a0 a1 : AV) : zipFrom (tabX.keep 134) 0 [a0, a1] = [(0, a0), (1, a1)] := id rfl
@[go_sem] theorem res_134 : Tryz.f134.results.toList = [.cell 4 190, .cell 5 3] := id rfl
@[go_sem] theorem rr_134 : retRef tabX 134 = false := RR fn_134 (by kernel_rfl)
theorem fn_135 : tabX.fn.get 135 = some Tryz.f135 := (fitsX.fn 135).trans Tryz.func135
@[go_sem] theorem rr_135 : retRef tabX 135 = false := RR fn_135 (by kernel_rfl)
theorem fn_137 : tabX.fn.get 137 = some Tryz.f137 := (fitsX.fn 137).trans Tryz.func137
@[go_sem] theorem zip_137 (a0 a1 : AV) : zipFrom (tabX.keep 137) 0 [a0, a1] = [(0, a0), (1, a1)] := id rfl
@[go_sem] theorem res_137 : Tryz.f137.results.toList = [.tmp 4] := id rfl
@[go_sem] theorem rr_137 : retRef tabX 137 = true := by unfold retRef; rw [fn_137]; exact id (by kernel_rfl)
theorem fn_138 : tabX.fn.get 138 = some Tryz.f138 := (fitsX.fn 138).trans Tryz.func138
@[go_sem] theorem solo_138_1 : tabX.solo 138 1 = [] := id rfl
@[go_sem] theorem hush_138_1 : tabX.hush 138 1 = true := id rfl
@[go_sem] theorem zip_138 (a0 a1 : AV) : zipFrom (tabX.keep 138) 0 [a0, a1] = [(0, a0), (1, a1)] := id rfl
@[go_sem] theorem res_138 : Tryz.f138.results.toList = [.tmp 4, .tmp 5] := id rfl
@[go_sem] theorem rr_138 : retRef tabX 138 = false := RR fn_138 (by kernel_rfl)
theorem fn_139 : tabX.fn.get 139 = some Tryz.f139 := (fitsX.fn 139).trans Tryz.func139
@[go_sem] theorem solo_139_1 : tabX.solo 139 1 = [] := id rfl
@[go_sem] theorem solo_139_5 : tabX.solo 139 5 = [] := id rfl
@[go_sem] theorem hush_139_1 : tabX.hush 139 1 = true := id rfl
@[go_sem] theorem zip_139 (a0 a1 : AV) : zipFrom (tabX.keep 139) 0 [a0, a1] = [(0, a0), (1, a1)] := id rfl
@[go_sem] theorem res_139 : Tryz.f139.results.toList = [.tmp 4] := id rfl
@[go_sem] theorem rr_139 : retRef tabX 139 = false := RR fn_139 (by kernel_rfl)
theorem fn_140 : tabX.fn.get 140 = some Tryz.f140 := (fitsX.fn 140).trans Tryz.func140
@[go_sem] theorem res_140 : Tryz.f140.results.toList = [.cell 0 208] := id rfl
@[go_sem] theorem rr_140 : retRef tabX 140 = false := RR fn_140 (by kernel_rfl)
theorem fn_141 : tabX.fn.get 141 = some Tryz.f141 := (fitsX.fn 141).trans Tryz.func141
@[go_sem] theorem solo_141_7 : tabX.solo 141 7 = [] := id rfl
@[go_sem] theorem hush_141_7 : tabX.hush 141 7 = true := id rfl
@[go_sem] theorem zip_141 (a0 a1 a2 : AV) : zipFrom (tabX.keep 141) 0 [a0, a1, a2] = [(0, a0), (1, a1), (2, a2)] := id rfl
@[go_sem] theorem res_141 : Tryz.f141.results.toList = [.cell 6 199, .tmp 7] := id rfl
@[go_sem] theorem rr_141 : retRef tabX 141 = false := RR fn_141 (by kernel_rfl)
theorem fn_142 : tabX.fn.get 142 = some Tryz.f142 := (fitsX.fn 142).trans Tryz.func142
@[go_sem] theorem zip_142 (a0 : AV) : zipFrom (tabX.keep 142) 0 [a0] = [(0, a0)] := id rfl
@[go_sem] theorem res_142 : Tryz.f142.results.toList = [.tmp 2] := id rfl
@[go_sem] theorem rr_142 : retRef tabX 142 = false := RR fn_142 (by kernel_rfl)
theorem fn_143 : tabX.fn.get 143 = some Tryz.f143 := (fitsX.fn 143).trans Tryz.func143
@[go_sem] theorem solo_143_4 : tabX.solo 143 4 = [[(0, false), (1, false), (2, false), (3, true), (4, true), (5, false), (6, true), (7, false)], [(1, false), (2, false), (3, true), (0, false), (4, true), (5, false), (6, true), (7, false)]] := id rfl
@[go_sem] theorem zip_143 (a0 a1 : AV) : zipFrom (tabX.keep 143) 0 [a0, a1] = [(0, a0), (1, a1)] := id rfl
@[go_sem] theorem res_143 : Tryz.f143.results.toList = [.tmp 4] := id rfl
@[go_sem] theorem rr_143 : retRef tabX 143 = false := RR fn_143 (by kernel_rfl)
theorem fn_144 : tabX.fn.get 144 = some Tryz.f144 := (fitsX.fn 144).trans Tryz.func144
@[go_sem] theorem zip_144 (a0 a1 : AV) : zipFrom (tabX.keep 144) 0 [a0, a1] = [(0, a0), (1, a1)] := id rfl
@[go_sem] theorem res_144 : Tryz.f144.results.toList = [.tmp 4, .tmp 5] := id rfl
@[go_sem] theorem rr_144 : retRef tabX 144 = false := RR fn_144 (by kernel_rfl)
theorem fn_145 : tabX.fn.get 145 = some Tryz.f145 := (fitsX.fn 145).trans Tryz.func145
@[go_sem] theorem solo_145_1 : tabX.solo 145 1 = [[(0, false), (1, false), (2, false), (3, false), (4, false), (5, true), (6, false), (7, true), (8, false)], [(0, false), (1, false), (2, false), (3, false), (4, false), (6, false), (5, true), (7, true), (8, false)]] := id rfl
@[go_sem] theorem zip_145 (a0 a1 a2 : AV) : zipFrom (tabX.keep 145) 0 [a0, a1, a2] = [(0, a0), (1, a1), (2, a2)] := id rfl
@[go_sem] theorem res_145 : Tryz.f145.results.toList = [.tmp 4] := id rfl
@[go_sem] theorem rr_145 : retRef tabX 145 = false := RR fn_145 (by kernel_rfl)
theorem fn_146 : tabX.fn.get 146 = some Tryz.f146 := (fitsX.fn 146).trans Tryz.func146
@[go_sem] theorem zip_146 (a0 a1 : AV) : zipFrom (tabX.keep 146) 0 [a0, a1] = [(0, a0), (1, a1)] := id rfl
@[go_sem] theorem res_146 : Tryz.f146.results.toList = [.tmp 4] := id rfl
@[go_sem] theorem rr_146 : retRef tabX 146 = false := RR fn_146 (by kernel_rfl)
theorem fn_147 : tabX.fn.get 147 = some Tryz.f147 := (fitsX.fn 147).trans Tryz.func147
@[go_sem] theorem zip_147 (a0 a1 a2 : AV) : zipFrom (tabX.keep 147) 0 [a0, a1, a2] = [(0, a0), (1, a1), (2, a2)] := id rfl
@[go_sem] theorem res_147 : Tryz.f147.results.toList = [.tmp 4] := id rfl
@[go_sem] theorem rr_147 : retRef tabX 147 = false := RR fn_147 (by kernel_rfl)
theorem fn_148 : tabX.fn.get 148 = some Tryz.f148 := (fitsX.fn 148).trans Tryz.func148
@[go_sem] theorem zip_148 (a0 a1 : AV) : zipFrom (tabX.keep 148) 0 [a0, a1] = [(0, a0), (1, a1)] := id rfl
@[go_sem] theorem res_148 : Tryz.f148.results.toList = [.tmp 4] := id rfl
@[go_sem] theorem rr_148 : retRef tabX 148 = false := RR fn_148 (by kernel_rfl)
theorem fn_149 : tabX.fn.get 149 = some Tryz.f149 := (fitsX.fn 149).trans Tryz.func149
@[go_sem] theorem zip_149 (a0 : AV) : zipFrom (tabX.keep 149) 0 [a0] = [(0, a0)] := id rfl
@[go_sem] theorem res_149 : Tryz.f149.results.toList = [.tmp 2] := id rfl
@[go_sem] theorem rr_149 : retRef tabX 149 = false := RR fn_149 (by kernel_rfl)
theorem fn_150 : tabX.fn.get 150 = some Tryz.f150 := (fitsX.fn 150).trans Tryz.func150
@[go_sem] theorem zip_150 (a0 a1 : AV) : zipFrom (tabX.keep 150) 0 [a0, a1] = [(0, a0), (1, a1)] := id rfl
@[go_sem] theorem res_150 : Tryz.f150.results.toList = [.tmp 4] := id rfl
@[go_sem] theorem rr_150 : retRef tabX 150 = false := RR fn_150 (by kernel_rfl)
theorem fn_151 : tabX.fn.get 151 = some Tryz.f151 := (fitsX.fn 151).trans Tryz.func151
@[go_sem] theorem zip_151 (a0 a1 : AV) : zipFrom (tabX.keep 151) 0 [a0, a1] = [(0, a0), (1, a1)] := id rfl
@[go_sem] theorem res_151 : Tryz.f151.results.toList = [.tmp 3] := id rfl
@[go_sem] theorem rr_151 : retRef tabX 151 = false := RR fn_151 (by kernel_rfl)
theorem fn_152 : tabX.fn.get 152 = some Tryz.f152 := (fitsX.fn 152).trans Tryz.func152
@[go_sem] theorem zip_152 (a0 : AV) : zipFrom (tabX.keep 152) 0 [a0] = [(0, a0)] := id rfl
@[go_sem] theorem res_152 : Tryz.f152.results.toList = [.tmp 2] := id rfl
@[go_sem] theorem rr_152 : retRef tabX 152 = false := RR fn_152 (by kernel_rfl)
theorem fn_156 : tabX.fn.get 156 = some Tryz.f156 := (fitsX.fn 156).trans Tryz.func156
@[go_sem] theorem zip_156 (a0 a1 a2 : AV) : zipFrom (tabX.keep 156) 0 [a0, a1, a2] = [(0, a0), (1, a1), (2, a2)] := id rfl
@[go_sem] theorem res_156 : Tryz.f156.results.toList = [.tmp 4] := id rfl
@[go_sem] theorem rr_156 : retRef tabX 156 = false := RR fn_156 (by kernel_rfl)
theorem fn_157 : tabX.fn.get 157 = some Tryz.f157 := (fitsX.fn 157).trans Tryz.func157
@[go_sem] theorem zip_157 (a0 a1 : AV) : zipFrom (tabX.keep 157) 0 [a0, a1] = [(0, a0), (1, a1)] := id rfl
@[go_sem] theorem res_157 : Tryz.f157.results.toList = [.tmp 4] := id rfl
@[go_sem] theorem rr_157 : retRef tabX 157 = false := RR fn_157 (by kernel_rfl)
theorem fn_158 : tabX.fn.get 158 = some Tryz.f158 := (fitsX.fn 158).trans Tryz.func158
@[go_sem] theorem zip_158 (a0 a1 : AV) : zipFrom (tabX.keep 158) 0 [a0, a1] = [(0, a0), (1, a1)] := id rfl
@[go_sem] theorem res_158 : Tryz.f158.results.toList = [.tmp 3] := id rfl
@[go_sem] theorem rr_158 : retRef tabX 158 = false := RR fn_158 (by kernel_rfl)
theorem fn_159 : tabX.fn.get 159 = some Tryz.f159 := (fitsX.fn 159).trans Tryz.func159
@[go_sem] theorem solo_159_6 : tabX.solo 159 6 = [] := id rfl
@[go_sem] theorem hush_159_6 : tabX.hush 159 6 = true := id rfl
@[go_sem] theorem zip_159 (a0 a1 : AV) : zipFrom (tabX.keep 159) 0 [a0, a1] = [(0, a0), (1, a1)] := id rfl
@[go_sem] theorem res_159 : Tryz.f159.results.toList = [] := id rfl
theorem fn_164 : tabX.fn.get 164 = some Tryz.f164 := (fitsX.fn 164).trans Tryz.func164
@[go_sem] theorem zip_164 (a0 a1 : AV) : zipFrom (tabX.keep 164) 0 [a0, a1] = [(0, a0), (1, a1)] := id rfl
@[go_sem] theorem res_164 : Tryz.f164.results.toList = [.tmp 4] := id rfl
@[go_sem] theorem rr_164 : retRef tabX 164 = false := RR fn_164 (by kernel_rfl)
theorem fn_165 : tabX.fn.get 165 = some Tryz.f165 := (fitsX.fn 165).trans Tryz.func165
@[go_sem] theorem zip_165 (a0 a1 a2 : AV) : zipFrom (tabX.keep 165) 0 [a0, a1, a2] = [(0, a0), (1, a1), (2, a2)] := id rfl
@[go_sem] theorem res_165 : Tryz.f165.results.toList = [.tmp 6] := id rfl
@[go_sem] theorem rr_165 : retRef tabX 165 = false := RR fn_165 (by kernel_rfl)
theorem fn_166 : tabX.fn.get 166 = some Tryz.f166 := (fitsX.fn 166).trans Tryz.func166
@[go_sem] theorem zip_166 (a0 a1 : AV) : zipFrom (tabX.keep 166) 0 [a0, a1] = [(0, a0), (1, a1)] := id rfl
@[go_sem] theorem res_166 : Tryz.f166.results.toList = [.tmp 4] := id rfl
@[go_sem] theorem rr_166 : retRef tabX 166 = false := RR fn_166 (by kernel_rfl)
theorem fn_167 : tabX.fn.get 167 = some Tryz.f167 := (fitsX.fn 167).trans Tryz.func167
@[go_sem] theorem zip_167 (a0 : AV) : zipFrom (tabX.keep 167) 0 [a0] = [(0, a0)] := id rfl
@[go_sem] theorem res_167 : Tryz.f167.results.toList = [.tmp 2] := id rfl
@[go_sem] theorem rr_167 : retRef tabX 167 = false := RR fn_167 (by kernel_rfl)
theorem fn_168 : tabX.fn.get 168 = some Tryz.f168 := (fitsX.fn 168).trans Tryz.func168
@[go_sem] theorem zip_168 (a0 a1 : AV) : zipFrom (tabX.keep 168) 0 [a0, a1] = [(0, a0), (1, a1)] := id rfl
@[go_sem] theorem res_168 : Tryz.f168.results.toList = [.cell 4 29] := id rfl
@[go_sem] theorem rr_168 : retRef tabX 168 = false := RR fn_168 (by kernel_rfl)
theorem fn_169 : tabX.fn.get 169 = some Tryz.f169 := (fitsX.fn 169).trans Tryz.func169
@[go_sem] theorem zip_169 (a0 : AV) : zipFrom (tabX.keep 169) 0 [a0] = [(0, a0)] := id rfl
@[go_sem] theorem res_169 : Tryz.f169.results.toList = [.tmp 2] := id rfl
@[go_sem] theorem rr_169 : retRef tabX 169 = true := by unfold retRef; rw [fn_169]; exact id (by kernel_rfl)
theorem fn_170 : tabX.fn.get 170 = some Tryz.f170 := (fitsX.fn 170).trans Tryz.func170
@[go_sem] theorem zip_170 (a0 a1 a2 : AV) : zipFrom (tabX.keep 170) 0 [a0, a1, a2] = [(0, a0), (1, a1), (2, a2)] := id rfl
@[go_sem] theorem res_170 : Tryz.f170.results.toList = [.tmp 6] := id rfl
@[go_sem] theorem rr_170 : retRef tabX 170 = false := RR fn_170 (by kernel_rfl)
theorem fn_171 : tabX.fn.get 171 = some Tryz.f171 := (fitsX.fn 171).trans Tryz.func171
@[go_sem] theorem zip_171 (a0 a1 : AV) : zipFrom (tabX.keep 171) 0 [a0, a1] = [(0, a0), (1, a1)] := id rfl
@[go_sem] theorem res_171 : Tryz.f171.results.toList = [.tmp 4] := id rfl
@[go_sem] theorem rr_171 : retRef tabX 171 = false := RR fn_171 (by kernel_rfl)
theorem fn_172 : tabX.fn.get 172 = some Tryz.f172 := (fitsX.fn 172).trans Tryz.func172
@[go_sem] theorem zip_172 (a0 a1 : AV) : zipFrom (tabX.keep 172) 0 [a0, a1] = [(0, a0), (1, a1)] := id rfl
@[go_sem] theorem res_172 : Tryz.f172.results.toList = [.tmp 4] := id rfl
@[go_sem] theorem rr_172 : retRef tabX 172 = false := RR fn_172 (by kernel_rfl)
theorem fn_173 : tabX.fn.get 173 = some Tryz.f173 := (fitsX.fn 173).trans Tryz.func173
@[go_sem] theorem zip_173 (a0 a1 a2 : AV) : zipFrom (tabX.keep 173) 0 [a0, a1, a2] = [(0, a0), (1, a1), (2, a2)] := id rfl
@[go_sem] theorem res_173 : Tryz.f173.results.toList = [.tmp 4] := id rfl
@[go_sem] theorem rr_173 : retRef tabX 173 = false := RR fn_173 (by kernel_rfl)
theorem fn_178 : tabX.fn.get 178 = some Tryz.f178 := (fitsX.fn 178).trans Tryz.func178
@[go_sem] theorem solo_178_1 : tabX.solo 178 1 = [] := id rfl
@[go_sem] theorem hush_178_1 : tabX.hush 178 1 = true := id rfl
@[go_sem] theorem zip_178 (a0 a1 : AV) : zipFrom (tabX.keep 178) 0 [a0, a1] = [(0, a0), (1, a1)] := id rfl
@[go_sem] theorem res_178 : Tryz.f178.results.toList = [.tmp 4] := id rfl
@[go_sem] theorem rr_178 : retRef tabX 178 = false := RR fn_178 (by kernel_rfl)
theorem fn_179 : tabX.fn.get 179 = some Tryz.f179 := (fitsX.fn 179).trans Tryz.func179
@[go_sem] theorem zip_179 (a0 a1 : AV) : zipFrom (tabX.keep 179) 0 [a0, a1] = [(0, a0), (1, a1)] := id rfl
@[go_sem] theorem res_179 : Tryz.f179.results.toList = [.tmp 4] := id rfl
@[go_sem] theorem rr_179 : retRef tabX 179 = false := RR fn_179 (by kernel_rfl)
theorem fn_180 : tabX.fn.get 180 = some Tryz.f180 := (fitsX.fn 180).trans Tryz.func180
@[go_sem] theorem zip_180 (a0 a1 : AV) : zipFrom (tabX.keep 180) 0 [a0, a1] = [(0, a0), (1, a1)] := id rfl
@[go_sem] theorem res_180 : Tryz.f180.results.toList = [.tmp 4] := id rfl
@[go_sem] theorem rr_180 : retRef tabX 180 = false := RR fn_180 (by kernel_rfl)
theorem fn_182 : tabX.fn.get 182 = some Tryz.f182 := (fitsX.fn 182).trans Tryz.func182
@[go_sem] theorem zip_182 (a0 a1 : AV) : zipFrom (tabX.keep 182) 0 [a0, a1] = [(0, a0), (1, a1)] := id rfl
@[go_sem] theorem res_182 : Tryz.f182.results.toList = [.tmp 4] := id rfl
@[go_sem] theorem rr_182 : retRef tabX 182 = false := RR fn_182 (by kernel_rfl)
theorem fn_194 : tabX.fn.get 194 = some Tryz.f194 := (fitsX.fn 194).trans Tryz.func194
@[go_sem] theorem zip_194 (a0 : AV) : zipFrom (tabX.keep 194) 0 [a0] = [(0, a0)] := id rfl
@[go_sem] theorem res_194 : Tryz.f194.results.toList = [.tmp 2] := id rfl
@[go_sem] theorem rr_194 : retRef tabX 194 = false := RR fn_194 (by kernel_rfl)
theorem fn_195 : tabX.fn.get 195 = some Tryz.f195 := (fitsX.fn 195).trans Tryz.func195
@[go_sem] theorem zip_195 (a0 a1 a2 : AV) : zipFrom (tabX.keep 195) 0 [a0, a1, a2] = [(0, a0), (1, a1), (2, a2)] := id rfl
@[go_sem] theorem res_195 : Tryz.f195.results.toList = [.tmp 4] := id rfl
@[go_sem] theorem rr_195 : retRef tabX 195 = false := RR fn_195 (by kernel_rfl)
theorem fn_196 : tabX.fn.get 196 = some Tryz.f196 := (fitsX.fn 196).trans Tryz.func196
@[go_sem] theorem zip_196 (a0 a1 : AV) : zipFrom (tabX.keep 196) 0 [a0, a1] = [(0, a0), (1, a1)] := id rfl
@[go_sem] theorem res_196 : Tryz.f196.results.toList = [] := id rfl
theorem fn_197 : tabX.fn.get 197 = some Tryz.f197 := (fitsX.fn 197).trans Tryz.func197
@[go_sem] theorem zip_197 (a0 a1 a2 a3 a4 : AV) : zipFrom (tabX.keep 197) 0 [a0, a1, a2, a3, a4] = [(0, a0), (1, a1), (2, a2), (3, a3), (4, a4)] := id rfl
@[go_sem] theorem res_197 : Tryz.f197.results.toList = [.tmp 6] := id rfl
@[go_sem] theorem rr_197 : retRef tabX 197 = false := RR fn_197 (by kernel_rfl)
end Go.Proofs.YthkpjbgadkkeeaaGreat
