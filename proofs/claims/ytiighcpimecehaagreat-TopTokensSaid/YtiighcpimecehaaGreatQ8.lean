/- What the tables of the abstract interpreter hold. Conditions: none. -/
import Derived.Test.YtiighcpimecehaaGreatQ7
set_option linter.unusedSimpArgs false
set_option linter.unusedVariables false
namespace Go.Proofs.YtiighcpimecehaaGreat
open Go.Proofs Go.Proofs.YtiighcpimecehaaGreat
theorem fn_3 : tabX.fn.get 3 = some Tryz.f3 := (fitsX.fn 3).trans Tryz.func3
@[go_sem] theorem solo_3_13 : tabX.solo 3 13 = [] := id rfl
@[go_sem] theorem solo_3_20 : tabX.solo 3 20 = [] := id rfl
@[go_sem] theorem solo_3_25 : tabX.solo 3 25 = [] := id rfl
@[go_sem] theorem zip_3 (a0 : AV) : zipFrom (tabX.keep 3) 0 [a0] = [(0, a0)] := id rfl
@[go_sem] theorem res_3 : Tryz.f3.results.toList = [.tmp 2] := id rfl
@[go_sem] theorem rr_3 : retRef tabX 3 = false := by unfold retRef; rw [fn_3]; exact id (by kernel_rfl)
theorem fn_5 : tabX.fn.get 5 = some Tryz.f5 := (fitsX.fn 5).trans Tryz.func5
@[go_sem] theorem solo_5_11 : tabX.solo 5 11 = [] := id rfl
@[go_sem] theorem solo_5_25 : tabX.solo 5 25 = [] := id rfl
@[go_sem] theorem hush_5_11 : tabX.hush 5 11 = true := id rfl
@[go_sem] theorem hush_5_25 : tabX.hush 5 25 = true := id rfl
@[go_sem] theorem zip_5 (a0 : AV) : zipFrom (tabX.keep 5) 0 [a0] = [(0, a0)] := id rfl
@[go_sem] theorem res_5 : Tryz.f5.results.toList = [.tmp 2, .tmp 3, .tmp 4] := id rfl
@[go_sem] theorem rr_5 : retRef tabX 5 = false := by unfold retRef; rw [fn_5]; exact id (by kernel_rfl)
theorem fn_6 : tabX.fn.get 6 = some Tryz.f6 := (fitsX.fn 6).trans Tryz.func6
@[go_sem] theorem zip_6 (noa : AV) : zipFrom (tabX.keep 6) 0 [] = [] := id rfl
@[go_sem] theorem res_6 : Tryz.f6.results.toList = [.tmp 0] := id rfl
@[go_sem] theorem rr_6 : retRef tabX 6 = false := by unfold retRef; rw [fn_6]; exact id (by kernel_rfl)
theorem fn_7 : tabX.fn.get 7 = some Tryz.f7 := (fitsX.fn 7).trans Tryz.func7
@[go_sem] theorem solo_7_14 : tabX.solo 7 14 = [] := id rfl
@[go_sem] theorem hush_7_14 : tabX.hush 7 14 = true := id rfl
@[go_sem] theorem zip_7 (noa : AV) : zipFrom (tabX.keep 7) 0 [] = [] := id rfl
@[go_sem] theorem res_7 : Tryz.f7.results.toList = [.tmp 0] := id rfl
@[go_sem] theorem rr_7 : retRef tabX 7 = false := by unfold retRef; rw [fn_7]; exact id (by kernel_rfl)
theorem fn_8 : tabX.fn.get 8 = some Tryz.f8 := (fitsX.fn 8).trans Tryz.func8
@[go_sem] theorem zip_8 (a0 : AV) : zipFrom (tabX.keep 8) 0 [a0] = [(0, a0)] := id rfl
@[go_sem] theorem res_8 : Tryz.f8.results.toList = [.tmp 2, .tmp 3, .tmp 4] := id rfl
@[go_sem] theorem rr_8 : retRef tabX 8 = false := by unfold retRef; rw [fn_8]; exact id (by kernel_rfl)
theorem fn_9 : tabX.fn.get 9 = some Tryz.f9 := (fitsX.fn 9).trans Tryz.func9
@[go_sem] theorem zip_9 (a0 a1 : AV) : zipFrom (tabX.keep 9) 0 [a0, a1] = [(0, a0), (1, a1)] := id rfl
@[go_sem] theorem res_9 : Tryz.f9.results.toList = [.tmp 4, .tmp 5] := id rfl
@[go_sem] theorem rr_9 : retRef tabX 9 = false := by unfold retRef; rw [fn_9]; exact id (by kernel_rfl)
theorem fn_10 : tabX.fn.get 10 = some Tryz.f10 := (fitsX.fn 10).trans Tryz.func10
@[go_sem] theorem zip_10 (a0 a1 : AV) : zipFrom (tabX.keep 10) 0 [a0, a1] = [(0, a0), (1, a1)] := id rfl
@[go_sem] theorem res_10 : Tryz.f10.results.toList = [.tmp 4] := id rfl
@[go_sem] theorem rr_10 : retRef tabX 10 = false := by unfold retRef; rw [fn_10]; exact id (by kernel_rfl)
theorem fn_11 : tabX.fn.get 11 = some Tryz.f11 := (fitsX.fn 11).trans Tryz.func11
@[go_sem] theorem solo_11_9 : tabX.solo 11 9 = [[(0, false), (1, false), (2, false), (3, false), (4, false), (5, false), (6, false), (7, false), (8, false), (9, true), (10, false), (11, false), (12, false)]] := id rfl
@[go_sem] theorem hush_11_9 : tabX.hush 11 9 = true := id rfl
@[go_sem] theorem zip_11 (a0 : AV) : zipFrom (tabX.keep 11) 0 [a0] = [(0, a0)] := id rfl
@[go_sem] theorem res_11 : Tryz.f11.results.toList = [.tmp 2, .tmp 3, .tmp 4] := id rfl
@[go_sem] theorem rr_11 : retRef tabX 11 = false := by unfold retRef; rw [fn_11]; exact id (by kernel_rfl)
theorem fn_12 : tabX.fn.get 12 = some Tryz.f12 := (fitsX.fn 12).trans Tryz.func12
@[go_sem] theorem zip_12 (a0 a1 : AV) : zipFrom (tabX.keep 12) 0 [a0, a1] = [(0, a0), (1, a1)] := id rfl
@[go_sem] theorem res_12 : Tryz.f12.results.toList = [.tmp 4] := id rfl
@[go_sem] theorem rr_12 : retRef tabX 12 = false := by unfold retRef; rw [fn_12]; exact id (by kernel_rfl)
theorem fn_13 : tabX.fn.get 13 = some Tryz.f13 := (fitsX.fn 13).trans Tryz.func13
@[go_sem] theorem zip_13 (a0 : AV) : zipFrom (tabX.keep 13) 0 [a0] = [(0, a0)] := id rfl
@[go_sem] theorem res_13 : Tryz.f13.results.toList = [.tmp 2] := id rfl
@[go_sem] theorem rr_13 : retRef tabX 13 = false := by unfold retRef; rw [fn_13]; exact id (by kernel_rfl)
theorem fn_14 : tabX.fn.get 14 = some Tryz.f14 := (fitsX.fn 14).trans Tryz.func14
@[go_sem] theorem zip_14 (a0 a1 : AV) : zipFrom (tabX.keep 14) 0 [a0, a1] = [(0, a0), (1, a1)] := id rfl
@[go_sem] theorem res_14 : Tryz.f14.results.toList = [.tmp 4, .tmp 5] := id rfl
@[go_sem] theorem rr_14 : retRef tabX 14 = false := by unfold retRef; rw [fn_14]; exact id (by kernel_rfl)
theorem fn_15 : tabX.fn.get 15 = some Tryz.f15 := (fitsX.fn 15).trans Tryz.func15
@[go_sem] theorem solo_15_6 : tabX.solo 15 6 = [] := id rfl
@[go_sem] theorem hush_15_6 : tabX.hush 15 6 = true := id rfl
@[go_sem] theorem zip_15 (a0 a1 : AV) : zipFrom (tabX.keep 15) 0 [a0, a1] = [(0, a0), (1, a1)] := id rfl
@[go_sem] theorem res_15 : Tryz.f15.results.toList = [.tmp 4, .tmp 5] := id rfl
@[go_sem] theorem rr_15 : retRef tabX 15 = false := by unfold retRef; rw [fn_15]; exact id (by kernel_rfl)
theorem fn_16 : tabX.fn.get 16 = some Tryz.f16 := (fitsX.fn 16).trans Tryz.func16
@[go_sem] theorem solo_16_4 : tabX.solo 16 4 = [] := id rfl
@[go_sem] theorem hush_16_4 : tabX.hush 16 4 = true := id rfl
@[go_sem] theorem zip_16 (a0 a1 : AV) : zipFrom (tabX.keep 16) 0 [a0, a1] = [(0, a0), (1, a1)] := id rfl
@[go_sem] theorem res_16 : Tryz.f16.results.toList = [.tmp 4, .tmp 5] := id rfl
@[go_sem] theorem rr_16 : retRef tabX 16 = false := by unfold retRef; rw [fn_16]; exact id (by kernel_rfl)
theorem fn_22 : tabX.fn.get 22 = some Tryz.f22 := (fitsX.fn 22).trans Tryz.func22
@[go_sem] theorem zip_22 (a0 a1 : AV) : zipFrom (tabX.keep 22) 0 [a0, a1] = [(0, a0), (1, a1)] := id rfl
@[go_sem] theorem res_22 : Tryz.f22.results.toList = [.cell 4 69, .tmp 5] := id rfl
@[go_sem] theorem rr_22 : retRef tabX 22 = false := by unfold retRef; rw [fn_22]; exact id (by kernel_rfl)
theorem fn_24 : tabX.fn.get 24 = some Tryz.f24 := (fitsX.fn 24).trans Tryz.func24
@[go_sem] theorem zip_24 (a0 a1 a2 : AV) : zipFrom (tabX.keep 24) 0 [a0, a1, a2] = [(0, a0), (1, a1), (2, a2)] := id rfl
@[go_sem] theorem res_24 : Tryz.f24.results.toList = [.tmp 6] := id rfl
@[go_sem] theorem rr_24 : retRef tabX 24 = false := by unfold retRef; rw [fn_24]; exact id (by kernel_rfl)
theorem fn_28 : tabX.fn.get 28 = some Tryz.f28 := (fitsX.fn 28).trans Tryz.func28
@[go_sem] theorem zip_28 (a0 a1 : AV) : zipFrom (tabX.keep 28) 0 [a0, a1] = [(0, a0), (1, a1)] := id rfl
@[go_sem] theorem res_28 : Tryz.f28.results.toList = [.tmp 4] := id rfl
@[go_sem] theorem rr_28 : retRef tabX 28 = false := by unfold retRef; rw [fn_28]; exact id (by kernel_rfl)
theorem fn_29 : tabX.fn.get 29 = some Tryz.f29 := (fitsX.fn 29).trans Tryz.func29
@[go_sem] theorem zip_29 (a0 a1 : AV) : zipFrom (tabX.keep 29) 0 [a0, a1] = [(0, a0), (1, a1)] := id rfl
@[go_sem] theorem res_29 : Tryz.f29.results.toList = [.tmp 4] := id rfl
@[go_sem] theorem rr_29 : retRef tabX 29 = false := by unfold retRef; rw [fn_29]; exact id (by kernel_rfl)
theorem fn_30 : tabX.fn.get 30 = some Tryz.f30 := (fitsX.fn 30).trans Tryz.func30
@[go_sem] theorem zip_30 (a0 : AV) : zipFrom (tabX.keep 30) 0 [a0] = [(0, a0)] := id rfl
@[go_sem] theorem res_30 : Tryz.f30.results.toList = [.cell 2 25] := id rfl
@[go_sem] theorem rr_30 : retRef tabX 30 = false := by unfold retRef; rw [fn_30]; exact id (by kernel_rfl)
theorem fn_31 : tabX.fn.get 31 = some Tryz.f31 := (fitsX.fn 31).trans Tryz.func31
@[go_sem] theorem zip_31 (a0 a1 a2 : AV) : zipFrom (tabX.keep 31) 0 [a0, a1, a2] = [(0, a0), (1, a1), (2, a2)] := id rfl
@[go_sem] theorem res_31 : Tryz.f31.results.toList = [.tmp 6, .tmp 7] := id rfl
@[go_sem] theorem rr_31 : retRef tabX 31 = false := by unfold retRef; rw [fn_31]; exact id (by kernel_rfl)
theorem fn_32 : tabX.fn.get 32 = some Tryz.f32 := (fitsX.fn 32).trans Tryz.func32
@[go_sem] theorem zip_32 (a0 : AV) : zipFrom (tabX.keep 32) 0 [a0] = [(0, a0)] := id rfl
@[go_sem] theorem res_32 : Tryz.f32.results.toList = [.tmp 2, .tmp 3] := id rfl
@[go_sem] theorem rr_32 : retRef tabX 32 = false := by unfold retRef; rw [fn_32]; exact id (by kernel_rfl)
theorem fn_33 : tabX.fn.get 33 = some Tryz.f33 := (fitsX.fn 33).trans Tryz.func33
@[go_sem] theorem solo_33_6 : tabX.solo 33 6 = [] := id rfl
@[go_sem] theorem zip_33 (a0 a1 a2 : AV) : zipFrom (tabX.keep 33) 0 [a0, a1, a2] = [(0, a0), (1, a1), (2, a2)] := id rfl
@[go_sem] theorem res_33 : Tryz.f33.results.toList = [.tmp 6, .tmp 7] := id rfl
@[go_sem] theorem rr_33 : retRef tabX 33 = false := by unfold retRef; rw [fn_33]; exact id (by kernel_rfl)
theorem fn_34 : tabX.fn.get 34 = some Tryz.f34 := (fitsX.fn 34).trans Tryz.func34
@[go_sem] theorem zip_34 (a0 : AV) : zipFrom (tabX.keep 34) 0 [a0] = [(0, a0)] := id rfl
@[go_sem] theorem res_34 : Tryz.f34.results.toList = [.tmp 2, .tmp 3] := id rfl
@[go_sem] theorem rr_34 : retRef tabX 34 = false := by unfold retRef; rw [fn_34]; exact id (by kernel_rfl)
theorem fn_35 : tabX.fn.get 35 = some Tryz.f35 := (fitsX.fn 35).trans Tryz.func35
@[go_sem] theorem zip_35 (a0 a1 : AV) : zipFrom (tabX.keep 35) 0 [a0, a1] = [(0, a0), (1, a1)] := id rfl
@[go_sem] theorem res_35 : Tryz.f35.results.toList = [.tmp 4, .tmp 5] := id rfl
@[go_sem] theorem rr_35 : retRef tabX 35 = false := by unfold retRef; rw [fn_35]; exact id (by kernel_rfl)
theorem fn_36 : tabX.fn.get 36 = some Tryz.f36 := (fitsX.fn 36).trans Tryz.func36
@[go_sem] theorem zip_36 (a0 : AV) : zipFrom (tabX.keep 36) 0 [a0] = [(0, a0)] := id rfl
@[go_sem] theorem res_36 : Tryz.f36.results.toList = [.cell 2 38] := id rfl
@[go_sem] theorem rr_36 : retRef tabX 36 = false := by unfold retRef; rw [fn_36]; exact id (by kernel_rfl)
theorem fn_37 : tabX.fn.get 37 = some Tryz.f37 := (fitsX.fn 37).trans Tryz.func37
@[go_sem] theorem zip_37 (a0 : AV) : zipFrom (tabX.keep 37) 0 [a0] = [(0, a0)] := id rfl
@[go_sem] theorem res_37 : Tryz.f37.results.toList = [.tmp 2, .tmp 3] := id rfl
@[go_sem] theorem rr_37 : retRef tabX 37 = false := by unfold retRef; rw [fn_37]; exact id (by kernel_rfl)
theorem fn_38 : tabX.fn.get 38 = some Tryz.f38 := (fitsX.fn 38).trans Tryz.func38
@[go_sem] theorem zip_38 (a0 : AV) : zipFrom (tabX.keep 38) 0 [a0] = [(0, a0)] := id rfl
@[go_sem] theorem res_38 : Tryz.f38.results.toList = [.tmp 2, .tmp 3] := id rfl
@[go_sem] theorem rr_38 : retRef tabX 38 = false := by unfold retRef; rw [fn_38]; exact id (by kernel_rfl)
theorem fn_39 : tabX.fn.get 39 = some Tryz.f39 := (fitsX.fn 39).trans Tryz.func39
@[go_sem] theorem zip_39 (a0 : AV) : zipFrom (tabX.keep 39) 0 [a0] = [(0, a0)] := id rfl
@[go_sem] theorem res_39 : Tryz.f39.results.toList = [.tmp 2, .tmp 3, .tmp 4] := id rfl
@[go_sem] theorem rr_39 : retRef tabX 39 = false := by unfold retRef; rw [fn_39]; exact id (by kernel_rfl)
theorem fn_40 : tabX.fn.get 40 = some Tryz.f40 := (fitsX.fn 40).trans Tryz.func40
@[go_sem] theorem zip_40 (a0 : AV) : zipFrom (tabX.keep 40) 0 [a0] = [(0, a0)] := id rfl
@[go_sem] theorem res_40 : Tryz.f40.results.toList = [.tmp 2, .tmp 3] := id rfl
@[go_sem] theorem rr_40 : retRef tabX 40 = false := by unfold retRef; rw [fn_40]; exact id (by kernel_rfl)
theorem fn_41 : tabX.fn.get 41 = some Tryz.f41 := (fitsX.fn 41).trans Tryz.func41
@[go_sem] theorem zip_41 (a0 a1 : AV) : zipFrom (tabX.keep 41) 0 [a0, a1] = [(0, a0), (1, a1)] := id rfl
@[go_sem] theorem res_41 : Tryz.f41.results.toList = [.cell 4 69] := id rfl
@[go_sem] theorem rr_41 : retRef tabX 41 = false := by unfold retRef; rw [fn_41]; exact id (by kernel_rfl)
theorem fn_42 : tabX.fn.get 42 = some Tryz.f42 := (fitsX.fn 42).trans Tryz.func42
@[go_sem] theorem zip_42 (a0 a1 a2 : AV) : zipFrom (tabX.keep 42) 0 [a0, a1, a2] = [(0, a0), (1, a1), (2, a2)] := id rfl
@[go_sem] theorem res_42 : Tryz.f42.results.toList = [.tmp 6, .tmp 7] := id rfl
@[go_sem] theorem rr_42 : retRef tabX 42 = true := by unfold retRef; rw [fn_42]; exact id (by kernel_rfl)
theorem fn_43 : tabX.fn.get 43 = some Tryz.f43 := (fitsX.fn 43).trans Tryz.func43
@[go_sem] theorem solo_43_7 : tabX.solo 43 7 = [] := id rfl
@[go_sem] theorem solo_43_9 : tabX.solo 43 9 = [] := id rfl
@[go_sem] theorem hush_43_7 : tabX.hush 43 7 = true := id rfl
@[go_sem] theorem zip_43 (a0 : AV) : zipFrom (tabX.keep 43) 0 [a0] = [(0, a0)] := id rfl
@[go_sem] theorem res_43 : Tryz.f43.results.toList = [.cell 2 95, .cell 3 3] := id rfl
@[go_sem] theorem rr_43 : retRef tabX 43 = false := by unfold retRef; rw [fn_43]; exact id (by kernel_rfl)
theorem fn_44 : tabX.fn.get 44 = some Tryz.f44 := (fitsX.fn 44).trans Tryz.func44
@[go_sem] theorem zip_44 (a0 a1 : AV) : zipFrom (tabX.keep 44) 0 [a0, a1] = [(0, a0), (1, a1)] := id rfl
@[go_sem] theorem res_44 : Tryz.f44.results.toList = [.tmp 4] := id rfl
@[go_sem] theorem rr_44 : retRef tabX 44 = false := by unfold retRef; rw [fn_44]; exact id (by kernel_rfl)
theorem fn_45 : tabX.fn.get 45 = some Tryz.f45 := (fitsX.fn 45).trans Tryz.func45
@[go_sem] theorem zip_45 (a0 a1 : AV) : zipFrom (tabX.keep 45) 0 [a0, a1] = [(0, a0), (1, a1)] := id rfl
@[go_sem] theorem res_45 : Tryz.f45.results.toList = [.tmp 4] := id rfl
@[go_sem] theorem rr_45 : retRef tabX 45 = false := by unfold retRef; rw [fn_45]; exact id (by kernel_rfl)
theorem fn_46 : tabX.fn.get 46 = some Tryz.f46 := (fitsX.fn 46).trans Tryz.func46
@[go_sem] theorem zip_46 (a0 a1 a2 : AV) : zipFrom (tabX.keep 46) 0 [a0, a1, a2] = [(0, a0), (1, a1), (2, a2)] := id rfl
@[go_sem] theorem res_46 : Tryz.f46.results.toList = [.tmp 6, .tmp 7] := id rfl
@[go_sem] theorem rr_46 : retRef tabX 46 = true := by unfold retRef; rw [fn_46]; exact id (by kernel_rfl)
theorem fn_47 : tabX.fn.get 47 = some Tryz.f47 := (fitsX.fn 47).trans Tryz.func47
@[go_sem] theorem zip_47 (a0 a1 : AV) : zipFrom (tabX.keep 47) 0 [a0, a1] = [(0, a0), (1, a1)] := id rfl
@[go_sem] theorem res_47 : Tryz.f47.results.toList = [.tmp 4] := id rfl
@[go_sem] theorem rr_47 : retRef tabX 47 = false := by unfold retRef; rw [fn_47]; exact id (by kernel_rfl)
theorem fn_48 : tabX.fn.get 48 = some Tryz.f48 := (fitsX.fn 48).trans Tryz.func48
@[go_sem] theorem solo_48_2 : tabX.solo 48 2 = [] := id rfl
@[go_sem] theorem solo_48_6 : tabX.solo 48 6 = [] := id rfl
@[go_sem] theorem hush_48_2 : tabX.hush 48 2 = true := id rfl
@[go_sem] theorem hush_48_6 : tabX.hush 48 6 = true := id rfl
@[go_sem] theorem zip_48 (a0 a1 : AV) : zipFrom (tabX.keep 48) 0 [a0, a1] = [(0, a0), (1, a1)] := id rfl
@[go_sem] theorem res_48 : Tryz.f48.results.toList = [.tmp 4] := id rfl
@[go_sem] theorem rr_48 : retRef tabX 48 = false := by unfold retRef; rw [fn_48]; exact id (by kernel_rfl)
theorem fn_49 : tabX.fn.get 49 = some Tryz.f49 := (fitsX.fn 49).trans Tryz.func49
@[go_sem] theorem zip_49 (a0 : AV) : zipFrom (tabX.keep 49) 0 [a0] = [(0, a0)] := id rfl
@[go_sem] theorem res_49 : Tryz.f49.results.toList = [.tmp 2] := id rfl
@[go_sem] theorem rr_49 : retRef tabX 49 = false := by unfold retRef; rw [fn_49]; exact id (by kernel_rfl)
theorem fn_50 : tabX.fn.get 50 = some Tryz.f50 := (fitsX.fn 50).trans Tryz.func50
@[go_sem] theorem zip_50 (a0 : AV) : zipFrom (tabX.keep 50) 0 [a0] = [(0, a0)] := id rfl
@[go_sem] theorem res_50 : Tryz.f50.results.toList = [.tmp 2] := id rfl
@[go_sem] theorem rr_50 : retRef tabX 50 = false := by unfold retRef; rw [fn_50]; exact id (by kernel_rfl)
theorem fn_51 : tabX.fn.get 51 = some Tryz.f51 := (fitsX.fn 51).trans Tryz.func51
@[go_sem] theorem solo_51_1 : tabX.solo 51 1 = [] := id rfl
@[go_sem] theorem hush_51_1 : tabX.hush 51 1 = true := id rfl
@[go_sem] theorem zip_51 (a0 a1 : AV) : zipFrom (tabX.keep 51) 0 [a0, a1] = [(0, a0), (1, a1)] := id rfl
@[go_sem] theorem res_51 : Tryz.f51.results.toList = [.tmp 4] := id rfl
@[go_sem] theorem rr_51 : retRef tabX 51 = false := by unfold retRef; rw [fn_51]; exact id (by kernel_rfl)
theorem fn_52 : tabX.fn.get 52 = some Tryz.f52 := (fitsX.fn 52).trans Tryz.func52
@[go_sem] theorem zip_52 (a0 a1 : AV) : zipFrom (tabX.keep 52) 0 [a0, a1] = [(0, a0), (1, a1)] := id rfl
@[go_sem] theorem res_52 : Tryz.f52.results.toList = [.tmp 4] := id rfl
@[go_sem] theorem rr_52 : retRef tabX 52 = false := by unfold retRef; rw [fn_52]; exact id (by kernel_rfl)
theorem fn_78 : tabX.fn.get 78 = some Tryz.f78 := (fitsX.fn 78).trans Tryz.func78
@[go_sem] theorem zip_78 (a0 a1 : AV) : zipFrom (tabX.keep 78) 0 [a0, a1] = [(0, a0), (1, a1)] := id rfl
@[go_sem] theorem res_78 : Tryz.f78.results.toList = [.tmp 4] := id rfl
@[go_sem] theorem rr_78 : retRef tabX 78 = false := by unfold retRef; rw [fn_78]; exact id (by kernel_rfl)
theorem fn_79 : tabX.fn.get 79 = some Tryz.f79 := (fitsX.fn 79).trans Tryz.func79
@[go_sem] theorem zip_79 (a0 : AV) : zipFrom (tabX.keep 79) 0 [a0] = [(0, a0)] := id rfl
@[go_sem] theorem res_79 : Tryz.f79.results.toList = [.tmp 2] := id rfl
@[go_sem] theorem rr_79 : retRef tabX 79 = false := by unfold retRef; rw [fn_79]; exact id (by kernel_rfl)
theorem fn_80 : tabX.fn.get 80 = some Tryz.f80 := (fitsX.fn 80).trans Tryz.func80
@[go_sem] theorem zip_80 (a0 a1 a2 : AV) : zipFrom (tabX.keep 80) 0 [a0, a1, a2] = [(0, a0), (1, a1), (2, a2)] := id rfl
@[go_sem] theorem res_80 : Tryz.f80.results.toList = [.tmp 6] := id rfl
@[go_sem] theorem rr_80 : retRef tabX 80 = false := by unfold retRef; rw [fn_80]; exact id (by kernel_rfl)
theorem fn_81 : tabX.fn.get 81 = some Tryz.f81 := (fitsX.fn 81).trans Tryz.func81
@[go_sem] theorem solo_81_8 : tabX.solo 81 8 = [] := id rfl
@[go_sem] theorem hush_81_8 : tabX.hush 81 8 = true := id rfl
@[go_sem] theorem zip_81 (a0 a1 a2 a3 : AV) : zipFrom (tabX.keep 81) 0 [a0, a1, a2, a3] = [(0, a0), (1, a1), (2, a2), (3, a3)] := id rfl
@[go_sem] theorem res_81 : Tryz.f81.results.toList = [.tmp 8] := id rfl
@[go_sem] theorem rr_81 : retRef tabX 81 = false := by unfold retRef; rw [fn_81]; exact id (by kernel_rfl)
theorem fn_82 : tabX.fn.get 82 = some Tryz.f82 := (fitsX.fn 82).trans Tryz.func82
@[go_sem] theorem zip_82 (a0 : AV) : zipFrom (tabX.keep 82) 0 [a0] = [(0, a0)] := id rfl
@[go_sem] theorem res_82 : Tryz.f82.results.toList = [.tmp 2] := id rfl
@[go_sem] theorem rr_82 : retRef tabX 82 = false := by unfold retRef; rw [fn_82]; exact id (by kernel_rfl)
theorem fn_83 : tabX.fn.get 83 = some Tryz.f83 := (fitsX.fn 83).trans Tryz.func83
@[go_sem] theorem zip_83 (a0 a1 : AV) : zipFrom (tabX.keep 83) 0 [a0, a1] = [(0, a0), (1, a1)] := id rfl
@[go_sem] theorem res_83 : Tryz.f83.results.toList = [.tmp 4, .tmp 5] := id rfl
@[go_sem] theorem rr_83 : retRef tabX 83 = false := by unfold retRef; rw [fn_83]; exact id (by kernel_rfl)
theorem fn_84 : tabX.fn.get 84 = some Tryz.f84 := (fitsX.fn 84).trans Tryz.func84
@[go_sem] theorem zip_84 (a0 a1 a2 : AV) : zipFrom (tabX.keep 84) 0 [a0, a1, a2] = [(0, a0), (1, a1), (2, a2)] := id rfl
@[go_sem] theorem res_84 : Tryz.f84.results.toList = [.tmp 4] := id rfl
@[go_sem] theorem rr_84 : retRef tabX 84 = false := by unfold retRef; rw [fn_84]; exact id (by kernel_rfl)
theorem fn_85 : tabX.fn.get 85 = some Tryz.f85 := (fitsX.fn 85).trans Tryz.func85
@[go_sem] theorem solo_85_6 : tabX.solo 85 6 = [] := id rfl
@[go_sem] theorem solo_85_10 : tabX.solo 85 10 = [[(0, false), (1, false), (2, false), (3, false), (4, false), (5, false), (6, false), (7, true), (8, false)], [(0, false), (1, false), (2, false), (3, false), (5, false), (6, false), (7, true), (4, false), (8, false)], [(0, false), (1, false), (2, false), (4, false), (5, false), (6, false), (7, true), (3, false), (8, false)], [(0, false), (1, false), (2, false), (5, false), (6, false), (7, true), (3, false), (4, false), (8, false)], [(4, false), (5, false), (6, false), (7, true), (0, false), (1, false), (2, false), (3, false), (8, false)], [(5, false), (6, false), (7, true), (0, false), (1, false), (2, false), (3, false), (4, false), (8, false)]] := id rfl
@[go_sem] theorem solo_85_14 : tabX.solo 85 14 = [] := id rfl
@[go_sem] theorem zip_85 (a0 a1 : AV) : zipFrom (tabX.keep 85) 0 [a0, a1] = [(0, a0), (1, a1)] := id rfl
@[go_sem] theorem res_85 : Tryz.f85.results.toList = [.tmp 4] := id rfl
@[go_sem] theorem rr_85 : retRef tabX 85 = true := by unfold retRef; rw [fn_85]; exact id (by kernel_rfl)
theorem fn_86 : tabX.fn.get 86 = some Tryz.f86 := (fitsX.fn 86).trans Tryz.func86
@[go_sem] theorem zip_86 (a0 a1 : AV) : zipFrom (tabX.keep 86) 0 [a0, a1] = [(0, a0), (1, a1)] := id rfl
@[go_sem] theorem res_86 : Tryz.f86.results.toList = [.tmp 4] := id rfl
@[go_sem] theorem rr_86 : retRef tabX 86 = false := by unfold retRef; rw [fn_86]; exact id (by kernel_rfl)
theorem fn_88 : tabX.fn.get 88 = some Tryz.f88 := (fitsX.fn 88).trans Tryz.func88
@[go_sem] theorem zip_88 (a0 a1 : AV) : zipFrom (tabX.keep 88) 0 [a0, a1] = [(0, a0), (1, a1)] := id rfl
@[go_sem] theorem res_88 : Tryz.f88.results.toList = [.tmp 3] := id rfl
@[go_sem] theorem rr_88 : retRef tabX 88 = false := by unfold retRef; rw [fn_88]; exact id (by kernel_rfl)
theorem fn_89 : tabX.fn.get 89 = some Tryz.f89 := (fitsX.fn 89).trans Tryz.func89
@[go_sem] theorem solo_89_6 : tabX.solo 89 6 = [] := id rfl
@[go_sem] theorem hush_89_6 : tabX.hush 89 6 = true := id rfl
@[go_sem] theorem zip_89 (a0 a1 a2 : AV) : zipFrom (tabX.keep 89) 0 [a0, a1, a2] = [(0, a0), (1, a1), (2, a2)] := id rfl
@[go_sem] theorem res_89 : Tryz.f89.results.toList = [.tmp 6] := id rfl
@[go_sem] theorem rr_89 : retRef tabX 89 = false := by unfold retRef; rw [fn_89]; exact id (by kernel_rfl)
theorem fn_90 : tabX.fn.get 90 = some Tryz.f90 := (fitsX.fn 90).trans Tryz.func90
@[go_sem] theorem zip_90 (a0 : AV) : zipFrom (tabX.keep 90) 0 [a0] = [(0, a0)] := id rfl
@[go_sem] theorem res_90 : Tryz.f90.results.toList = [.tmp 2, .tmp 3, .tmp 4] := id rfl
@[go_sem] theorem rr_90 : retRef tabX 90 = false := by unfold retRef; rw [fn_90]; exact id (by kernel_rfl)
theorem fn_91 : tabX.fn.get 91 = some Tryz.f91 := (fitsX.fn 91).trans Tryz.func91
@[go_sem] theorem solo_91_13 : tabX.solo 91 13 = [] := id rfl
@[go_sem] theorem solo_91_14 : tabX.solo 91 14 = [] := id rfl
@[go_sem] theorem zip_91 (a0 : AV) : zipFrom (tabX.keep 91) 0 [a0] = [(0, a0)] := id rfl
@[go_sem] theorem res_91 : Tryz.f91.results.toList = [.tmp 2] := id rfl
@[go_sem] theorem rr_91 : retRef tabX 91 = true := by unfold retRef; rw [fn_91]; exact id (by kernel_rfl)
theorem fn_92 : tabX.fn.get 92 = some Tryz.f92 := (fitsX.fn 92).trans Tryz.func92
@[go_sem] theorem zip_92 (a0 : AV) : zipFrom (tabX.keep 92) 0 [a0] = [(0, a0)] := id rfl
@[go_sem] theorem res_92 : Tryz.f92.results.toList = [.tmp 2] := id rfl
@[go_sem] theorem rr_92 : retRef tabX 92 = true := by unfold retRef; rw [fn_92]; exact id (by kernel_rfl)
theorem fn_93 : tabX.fn.get 93 = some Tryz.f93 := (fitsX.fn 93).trans Tryz.func93
@[go_sem] theorem zip_93 (a0 : AV) : zipFrom (tabX.keep 93) 0 [a0] = [(0, a0)] := id rfl
@[go_sem] theorem res_93 : Tryz.f93.results.toList = [.tmp 2, .tmp 3, .tmp 4] := id rfl
@[go_sem] theorem rr_93 : retRef tabX 93 = false := by unfold retRef; rw [fn_93]; exact id (by kernel_rfl)
theorem fn_94 : tabX.fn.get 94 = some Tryz.f94 := (fitsX.fn 94).trans Tryz.func94
@[go_sem] theorem zip_94 (a0 a1 a2 : AV) : zipFrom (tabX.keep 94) 0 [a0, a1, a2] = [(0, a0), (1, a1), (2, a2)] := id rfl
@[go_sem] theorem res_94 : Tryz.f94.results.toList = [.tmp 6] := id rfl
@[go_sem] theorem rr_94 : retRef tabX 94 = false := by unfold retRef; rw [fn_94]; exact id (by kernel_rfl)
theorem fn_95 : tabX.fn.get 95 = some Tryz.f95 := (fitsX.fn 95).trans Tryz.func95
@[go_sem] theorem zip_95 (a0 a1 : AV) : zipFrom (tabX.keep 95) 0 [a0, a1] = [(0, a0), (1, a1)] := id rfl
@[go_sem] theorem res_95 : Tryz.f95.results.toList = [.tmp 4] := id rfl
@[go_sem] theorem rr_95 : retRef tabX 95 = false := by unfold retRef; rw [fn_95]; exact id (by kernel_rfl)
theorem fn_96 : tabX.fn.get 96 = some Tryz.f96 := (fitsX.fn 96).trans Tryz.func96
@[go_sem] theorem solo_96_5 : tabX.solo 96 5 = [] := id rfl
@[go_sem] theorem hush_96_5 : tabX.hush 96 5 = true := id rfl
@[go_sem] theorem zip_96 (a0 a1 a2 : AV) : zipFrom (tabX.keep 96) 0 [a0, a1, a2] = [(0, a0), (1, a1), (2, a2)] := id rfl
@[go_sem] theorem res_96 : Tryz.f96.results.toList = [.tmp 6] := id rfl
@[go_sem] theorem rr_96 : retRef tabX 96 = false := by unfold retRef; rw [fn_96]; exact id (by kernel_rfl)
theorem fn_107 : tabX.fn.get 107 = some Tryz.f107 := (fitsX.fn 107).trans Tryz.func107
@[go_sem] theorem zip_107 (a0 a1 : AV) : zipFrom (tabX.keep 107) 0 [a0, a1] = [(0, a0), (1, a1)] := id rfl
@[go_sem] theorem res_107 : Tryz.f107.results.toList = [.tmp 4] := id rfl
@[go_sem] theorem rr_107 : retRef tabX 107 = false := by unfold retRef; rw [fn_107]; exact id (by kernel_rfl)
theorem fn_109 : tabX.fn.get 109 = some Tryz.f109 := (fitsX.fn 109).trans Tryz.func109
@[go_sem] theorem zip_109 (a0 a1 a2 : AV) : zipFrom (tabX.keep 109) 0 [a0, a1, a2] = [(0, a0), (1, a1), (2, a2)] := id rfl
@[go_sem] theorem res_109 : Tryz.f109.results.toList = [.tmp 4] := id rfl
@[go_sem] theorem rr_109 : retRef tabX 109 = false := by unfold retRef; rw [fn_109]; exact id (by kernel_rfl)
theorem fn_110 : tabX.fn.get 110 = some Tryz.f110 := (fitsX.fn 110).trans Tryz.func110
@[go_sem] theorem zip_110 (a0 : AV) : zipFrom (tabX.keep 110) 0 [a0] = [(0, a0)] := id rfl
@[go_sem] theorem res_110 : Tryz.f110.results.toList = [.tmp 2] := id rfl
@[go_sem] theorem rr_110 : retRef tabX 110 = true := by unfold retRef; rw [fn_110]; exact id (by kernel_rfl)
theorem fn_111 : tabX.fn.get 111 = some Tryz.f111 := (fitsX.fn 111).trans Tryz.func111
@[go_sem] theorem solo_111_4 : tabX.solo 111 4 = [] := id rfl
@[go_sem] theorem zip_111 (a0 a1 : AV) : zipFrom (tabX.keep 111) 0 [a0, a1] = [(0, a0), (1, a1)] := id rfl
@[go_sem] theorem res_111 : Tryz.f111.results.toList = [.cell 4 130] := id rfl
@[go_sem] theorem rr_111 : retRef tabX 111 = false := by unfold retRef; rw [fn_111]; exact id (by kernel_rfl)
theorem fn_112 : tabX.fn.get 112 = some Tryz.f112 := (fitsX.fn 112).trans Tryz.func112
@[go_sem] theorem zip_112 (a0 a1 : AV) : zipFrom (tabX.keep 112) 0 [a0, a1] = [(0, a0), (1, a1)] := id rfl
@[go_sem] theorem res_112 : Tryz.f112.results.toList = [.tmp 4] := id rfl
@[go_sem] theorem rr_112 : retRef tabX 112 = false := by unfold retRef; rw [fn_112]; exact id (by kernel_rfl)
theorem fn_113 : tabX.fn.get 113 = some Tryz.f113 := (fitsX.fn 113).trans Tryz.func113
@[go_sem] theorem zip_113 (a0 a1 : AV) : zipFrom (tabX.keep 113) 0 [a0, a1] = [(0, a0), (1, a1)] := id rfl
@[go_sem] theorem res_113 : Tryz.f113.results.toList = [.tmp 3] := id rfl
@[go_sem] theorem rr_113 : retRef tabX 113 = false := by unfold retRef; rw [fn_113]; exact id (by kernel_rfl)
theorem fn_114 : tabX.fn.get 114 = some Tryz.f114 := (fitsX.fn 114).trans Tryz.func114
@[go_sem] theorem zip_114 (a0 a1 : AV) : zipFrom (tabX.keep 114) 0 [a0, a1] = [(0, a0), (1, a1)] := id rfl
@[go_sem] theorem res_114 : Tryz.f114.results.toList = [.tmp 4, .tmp 5] := id rfl
@[go_sem] theorem rr_114 : retRef tabX 114 = false := by unfold retRef; rw [fn_114]; exact id (by kernel_rfl)
theorem fn_115 : tabX.fn.get 115 = some Tryz.f115 := (fitsX.fn 115).trans Tryz.func115
@[go_sem] theorem zip_115 (a0 a1 a2 : AV) : zipFrom (tabX.keep 115) 0 [a0, a1, a2] = [(0, a0), (1, a1), (2, a2)] := id rfl
@[go_sem] theorem res_115 : Tryz.f115.results.toList = [.tmp 5] := id rfl
@[go_sem] theorem rr_115 : retRef tabX 115 = false := by unfold retRef; rw [fn_115]; exact id (by kernel_rfl)
theorem fn_116 : tabX.fn.get 116 = some Tryz.f116 := (fitsX.fn 116).trans Tryz.func116
@[go_sem] theorem zip_116 (a0 a1 : AV) : zipFrom (tabX.keep 116) 0 [a0, a1] = [(0, a0), (1, a1)] := id rfl
@[go_sem] theorem res_116 : Tryz.f116.results.toList = [.tmp 4] := id rfl
@[go_sem] theorem rr_116 : retRef tabX 116 = false := by unfold retRef; rw [fn_116]; exact id (by kernel_rfl)
theorem fn_117 : tabX.fn.get 117 = some Tryz.f117 := (fitsX.fn 117).trans Tryz.func117
@[go_sem] theorem zip_117 (a0 a1 : AV) : zipFrom (tabX.keep 117) 0 [a0, a1] = [(0, a0), (1, a1)] := id rfl
@[go_sem] theorem res_117 : Tryz.f117.results.toList = [.tmp 3] := id rfl
@[go_sem] theorem rr_117 : retRef tabX 117 = false := by unfold retRef; rw [fn_117]; exact id (by kernel_rfl)
theorem fn_118 : tabX.fn.get 118 = some Tryz.f118 := (fitsX.fn 118).trans Tryz.func118
@[go_sem] theorem zip_118 (a0 a1 a2 : AV) : zipFrom (tabX.keep 118) 0 [a0, a1, a2] = [(0, a0), (1, a1), (2, a2)] := id rfl
@[go_sem] theorem res_118 : Tryz.f118.results.toList = [.tmp 5] := id rfl
@[go_sem] theorem rr_118 : retRef tabX 118 = false := by unfold retRef; rw [fn_118]; exact id (by kernel_rfl)
theorem fn_119 : tabX.fn.get 119 = some Tryz.f119 := (fitsX.fn 119).trans Tryz.func119
@[go_sem] theorem solo_119_1 : tabX.solo 119 1 = [] := id rfl
@[go_sem] theorem solo_119_7 : tabX.solo 119 7 = [] := id rfl
@[go_sem] theorem hush_119_1 : tabX.hush 119 1 = true := id rfl
@[go_sem] theorem hush_119_7 : tabX.hush 119 7 = true := id rfl
@[go_sem] theorem zip_119 (a0 a1 : AV) : zipFrom (tabX.keep 119) 0 [a0, a1] = [(0, a0), (1, a1)] := id rfl
@[go_sem] theorem res_119 : Tryz.f119.results.toList = [.tmp 4] := id rfl
@[go_sem] theorem rr_119 : retRef tabX 119 = false := by unfold retRef; rw [fn_119]; exact id (by kernel_rfl)
theorem fn_120 : tabX.fn.get 120 = some Tryz.f120 := (fitsX.fn 120).trans Tryz.func120
@[go_sem] theorem zip_120 (a0 a1 : AV) : zipFrom (tabX.keep 120) 0 [a0, a1] = [(0, a0), (1, a1)] := id rfl
@[go_sem] theorem res_120 : Tryz.f120.results.toList = [] := id rfl
@[go_sem] theorem rr_120 : retRef tabX 120 = false := by unfold retRef; rw [fn_120]; exact id (by kernel_rfl)
theorem fn_121 : tabX.fn.get 121 = some Tryz.f121 := (fitsX.fn 121).trans Tryz.func121
@[go_sem] theorem zip_121 (a0 a1 a2 : AV) : zipFrom (tabX.keep 121) 0 [a0, a1, a2] = [(0, a0), (1, a1), (2, a2)] := id rfl
@[go_sem] theorem res_121 : Tryz.f121.results.toList = [.tmp 6] := id rfl
@[go_sem] theorem rr_121 : retRef tabX 121 = false := by unfold retRef; rw [fn_121]; exact id (by kernel_rfl)
theorem fn_122 : tabX.fn.get 122 = some Tryz.f122 := (fitsX.fn 122).trans Tryz.func122
@[go_sem] theorem solo_122_11 : tabX.solo 122 11 = [] := id rfl
@[go_sem] theorem zip_122 (a0 a1 a2 a3 a4 a5 a6 a7 : AV) : zipFrom (tabX.keep 122) 0 [a0, a1, a2, a3, a4, a5, a6, a7] = [(0, a0), (1, a1), (2, a2), (3, a3), (4, a4), (5, a5), (6, a6), (7, a7)] := id rfl
@[go_sem] theorem res_122 : Tryz.f122.results.toList = [.tmp 11] := id rfl
@[go_sem] theorem rr_122 : retRef tabX 122 = false := by unfold retRef; rw [fn_122]; exact id (by kernel_rfl)
theorem fn_123 : tabX.fn.get 123 = some Tryz.f123 := (fitsX.fn 123).trans Tryz.func123
@[go_sem] theorem zip_123 (a0 a1 a2 : AV) : zipFrom (tabX.keep 123) 0 [a0, a1, a2] = [(0, a0), (1, a1), (2, a2)] := id rfl
@[go_sem] theorem res_123 : Tryz.f123.results.toList = [.tmp 6, .tmp 7] := id rfl
@[go_sem] theorem rr_123 : retRef tabX 123 = false := by unfold retRef; rw [fn_123]; exact id (by kernel_rfl)
theorem fn_124 : tabX.fn.get 124 = some Tryz.f124 := (fitsX.fn 124).trans Tryz.func124
@[go_sem] theorem zip_124 (a0 a1 a2 : AV) : zipFrom (tabX.keep 124) 0 [a0, a1, a2] = [(0, a0), (1, a1), (2, a2)] := id rfl
@[go_sem] theorem res_124 : Tryz.f124.results.toList = [.tmp 5] := id rfl
@[go_sem] theorem rr_124 : retRef tabX 124 = false := by unfold retRef; rw [fn_124]; exact id (by kernel_rfl)
theorem fn_125 : tabX.fn.get 125 = some Tryz.f125 := (fitsX.fn 125).trans Tryz.func125
@[go_sem] theorem zip_125 (a0 : AV) : zipFrom (tabX.keep 125) 0 [a0] = [(0, a0)] := id rfl
@[go_sem] theorem res_125 : Tryz.f125.results.toList = [.tmp 2] := id rfl
@[go_sem] theorem rr_125 : retRef tabX 125 = false := by unfold retRef; rw [fn_125]; exact id (by kernel_rfl)
theorem fn_126 : tabX.fn.get 126 = some Tryz.f126 := (fitsX.fn 126).trans Tryz.func126
@[go_sem] theorem zip_126 (a0 a1 : AV) : zipFrom (tabX.keep 126) 0 [a0, a1] = [(0, a0), (1, a1)] := id rfl
@[go_sem] theorem res_126 : Tryz.f126.results.toList = [.tmp 4] := id rfl
@[go_sem] theorem rr_126 : retRef tabX 126 = false := by unfold retRef; rw [fn_126]; exact id (by kernel_rfl)
theorem fn_127 : tabX.fn.get 127 = some Tryz.f127 := (fitsX.fn 127).trans Tryz.func127
@[go_sem] theorem zip_127 (a0 a1 a2 : AV) : zipFrom (tabX.keep 127) 0 [a0, a1, a2] = [(0, a0), (1, a1), (2, a2)] := id rfl
@[go_sem] theorem res_127 : Tryz.f127.results.toList = [.tmp 6, .tmp 7] := id rfl
@[go_sem] theorem rr_127 : retRef tabX 127 = false := by unfold retRef; rw [fn_127]; exact id (by kernel_rfl)
theorem fn_128 : tabX.fn.get 128 = some Tryz.f128 := (fitsX.fn 128).trans Tryz.func128
@[go_sem] theorem solo_128_5 : tabX.solo 128 5 = [] := id rfl
@[go_sem] theorem hush_128_5 : tabX.hush 128 5 = true := id rfl
@[go_sem] theorem zip_128 (a0 a1 a2 : AV) : zipFrom (tabX.keep 128) 0 [a0, a1, a2] = [(0, a0), (1, a1), (2, a2)] := id rfl
@[go_sem] theorem res_128 : Tryz.f128.results.toList = [.tmp 5] := id rfl
@[go_sem] theorem rr_128 : retRef tabX 128 = false := by unfold retRef; rw [fn_128]; exact id (by kernel_rfl)
theorem fn_129 : tabX.fn.get 129 = some Tryz.f129 := (fitsX.fn 129).trans Tryz.func129
@[go_sem] theorem zip_129 (a0 a1 : AV) : zipFrom (tabX.keep 129) 0 [a0, a1] = [(0, a0), (1, a1)] := id rfl
@[go_sem] theorem res_129 : Tryz.f129.results.toList = [.tmp 4] := id rfl
@[go_sem] theorem rr_129 : retRef tabX 129 = false := by unfold retRef; rw [fn_129]; exact id (by kernel_rfl)
theorem fn_130 : tabX.fn.get 130 = some Tryz.f130 := (fitsX.fn 130).trans Tryz.func130
@[go_sem] theorem zip_130 (a0 a1 : AV) : zipFrom (tabX.keep 130) 0 [a0, a1] = [(0, a0), (1, a1)] := id rfl
@[go_sem] theorem res_130 : Tryz.f130.results.toList = [.tmp 3] := id rfl
@[go_sem] theorem rr_130 : retRef tabX 130 = false := by unfold retRef; rw [fn_130]; exact id (by kernel_rfl)
theorem fn_131 : tabX.fn.get 131 = some Tryz.f131 := (fitsX.fn 131).trans Tryz.func131
@[go_sem] theorem zip_131 (a0 a1 a2 : AV) : zipFrom (tabX.keep 131) 0 [a0, a1, a2] = [(0, a0), (1, a1), (2, a2)] := id rfl
@[go_sem] theorem res_131 : Tryz.f131.results.toList = [.tmp 6, .tmp 7] := id rfl
@[go_sem] theorem rr_131 : retRef tabX 131 = false := by unfold retRef; rw [fn_131]; exact id (by kernel_rfl)
theorem fn_132 : tabX.fn.get 132 = some Tryz.f132 := (fitsX.fn 132).trans Tryz.func132
@[go_sem] theorem zip_132 (a0 a1 a2 : AV) : zipFrom (tabX.keep 132) 0 [a0, a1, a2] = [(0, a0), (1, a1), (2, a2)] := id rfl
@[go_sem] theorem res_132 : Tryz.f132.results.toList = [.tmp 5] := id rfl
@[go_sem] theorem rr_132 : retRef tabX 132 = false := by unfold retRef; rw [fn_132]; exact id (by kernel_rfl)
theorem fn_133 : tabX.fn.get 133 = some Tryz.f133 := (fitsX.fn 133).trans Tryz.func133
@[go_sem] theorem zip_133 (a0 a1 a2 : AV) : zipFrom (tabX.keep 133) 0 [a0, a1, a2] = [(0, a0), (1, a1), (2, a2)] := id rfl
@[go_sem] theorem res_133 : Tryz.f133.results.toList = [.tmp 6, .tmp 7] := id rfl
@[go_sem] theorem rr_133 : retRef tabX 133 = false := by unfold retRef; rw [fn_133]; exact id (by kernel_rfl)
theorem fn_134 : tabX.fn.get 134 = some Tryz.f134 := (fitsX.fn 134).trans Tryz.func134
@[go_sem] theorem zip_134 (a0 a1 a2 : AV) : zipFrom (tabX.keep 134) 0 [a0, a1, a2] = [(1, a1), (2, a2)] := id rfl
@[go_sem] theorem res_134 : Tryz.f134.results.toList = [.tmp 5] := id rfl
@[go_sem] theorem rr_134 : retRef tabX 134 = false := by unfold retRef; rw [fn_134]; exact id (by kernel_rfl)
theorem fn_135 : tabX.fn.get 135 = some Tryz.f135 := (fitsX.fn 135).trans Tryz.func135
@[go_sem] theorem zip_135 (a0 a1 a2 : AV) : zipFrom (tabX.keep 135) 0 [a0, a1, a2] = [(0, a0), (1, a1), (2, a2)] := id rfl
@[go_sem] theorem res_135 : Tryz.f135.results.toList = [.tmp 4] := id rfl
@[go_sem] theorem rr_135 : retRef tabX 135 = false := by unfold retRef; rw [fn_135]; exact id (by kernel_rfl)
theorem fn_136 : tabX.fn.get 136 = some Tryz.f136 := (fitsX.fn 136).trans Tryz.func136
@[go_sem] theorem zip_136 (a0 : AV) : zipFrom (tabX.keep 136) 0 [a0] = [(0, a0)] := id rfl
@[go_sem] theorem res_136 : Tryz.f136.results.toList = [.tmp 2] := id rfl
@[go_sem] theorem rr_136 : retRef tabX 136 = false := by unfold retRef; rw [fn_136]; exact id (by kernel_rfl)
theorem fn_137 : tabX.fn.get 137 = some Tryz.f137 := (fitsX.fn 137).trans Tryz.func137
@[go_sem] theorem solo_137_6 : tabX.solo 137 6 = [] := id rfl
@[go_sem] theorem hush_137_6 : tabX.hush 137 6 = true := id rfl
@[go_sem] theorem zip_137 (a0 a1 a2 a3 : AV) : zipFrom (tabX.keep 137) 0 [a0, a1, a2, a3] = [(0, a0), (1, a1), (2, a2), (3, a3)] := id rfl
@[go_sem] theorem res_137 : Tryz.f137.results.toList = [.tmp 8] := id rfl
@[go_sem] theorem rr_137 : retRef tabX 137 = false := by unfold retRef; rw [fn_137]; exact id (by kernel_rfl)
theorem fn_151 : tabX.fn.get 151 = some Tryz.f151 := (fitsX.fn 151).trans Tryz.func151
@[go_sem] theorem zip_151 (a0 a1 : AV) : zipFrom (tabX.keep 151) 0 [a0, a1] = [(0, a0), (1, a1)] := id rfl
@[go_sem] theorem res_151 : Tryz.f151.results.toList = [.tmp 4] := id rfl
@[go_sem] theorem rr_151 : retRef tabX 151 = false := by unfold retRef; rw [fn_151]; exact id (by kernel_rfl)
theorem fn_152 : tabX.fn.get 152 = some Tryz.f152 := (fitsX.fn 152).trans Tryz.func152
@[go_sem] theorem zip_152 (a0 a1 : AV) : zipFrom (tabX.keep 152) 0 [a0, a1] = [(0, a0), (1, a1)] := id rfl
@[go_sem] theorem res_152 : Tryz.f152.results.toList = [] := id rfl
@[go_sem] theorem rr_152 : retRef tabX 152 = false := by unfold retRef; rw [fn_152]; exact id (by kernel_rfl)
theorem fn_153 : tabX.fn.get 153 = some Tryz.f153 := (fitsX.fn 153).trans Tryz.func153
@[go_sem] theorem zip_153 (a0 a1 a2 a3 a4 : AV) : zipFrom (tabX.keep 153) 0 [a0, a1, a2, a3, a4] = [(0, a0), (1, a1), (2, a2), (3, a3), (4, a4)] := id rfl
@[go_sem] theorem res_153 : Tryz.f153.results.toList = [.tmp 6] := id rfl
@[go_sem] theorem rr_153 : retRef tabX 153 = false := by unfold retRef; rw [fn_153]; exact id (by kernel_rfl)
theorem fn_154 : tabX.fn.get 154 = some Tryz.f154 := (fitsX.fn 154).trans Tryz.func154
@[go_sem] theorem solo_154_5 : tabX.solo 154 5 = [] := id rfl
@[go_sem] theorem solo_154_7 : tabX.solo 154 7 = [] := id rfl
@[go_sem] theorem solo_154_8 : tabX.solo 154 8 = [[(0, false), (1, false), (2, false), (3, false), (4, false), (5, false), (6, true), (7, false), (8, false), (9, false), (10, false), (11, false), (12, false), (13, false), (14, false), (15, false), (16, false), (17, false), (18, false), (19, false), (20, false), (21, false)]] := id rfl
@[go_sem] theorem hush_154_5 : tabX.hush 154 5 = true := id rfl
@[go_sem] theorem hush_154_7 : tabX.hush 154 7 = true := id rfl
@[go_sem] theorem zip_154 (a0 a1 a2 : AV) : zipFrom (tabX.keep 154) 0 [a0, a1, a2] = [(0, a0), (1, a1), (2, a2)] := id rfl
@[go_sem] theorem res_154 : Tryz.f154.results.toList = [.tmp 6] := id rfl
@[go_sem] theorem rr_154 : retRef tabX 154 = false := by unfold retRef; rw [fn_154]; exact id (by kernel_rfl)
theorem fn_155 : tabX.fn.get 155 = some Tryz.f155 := (fitsX.fn 155).trans Tryz.func155
@[go_sem] theorem zip_155 (a0 a1 : AV) : zipFrom (tabX.keep 155) 0 [a0, a1] = [(0, a0), (1, a1)] := id rfl
@[go_sem] theorem res_155 : Tryz.f155.results.toList = [.tmp 4] := id rfl
@[go_sem] theorem rr_155 : retRef tabX 155 = false := by unfold retRef; rw [fn_155]; exact id (by kernel_rfl)
theorem fn_156 : tabX.fn.get 156 = some Tryz.f156 := (fitsX.fn 156).trans Tryz.func156
@[go_sem] theorem zip_156 (a0 a1 : AV) : zipFrom (tabX.keep 156) 0 [a0, a1] = [(0, a0), (1, a1)] := id rfl
@[go_sem] theorem res_156 : Tryz.f156.results.toList = [.tmp 3] := id rfl
@[go_sem] theorem rr_156 : retRef tabX 156 = false := by unfold retRef; rw [fn_156]; exact id (by kernel_rfl)
theorem fn_157 : tabX.fn.get 157 = some Tryz.f157 := (fitsX.fn 157).trans Tryz.func157
@[go_sem] theorem zip_157 (a0 a1 a2 : AV) : zipFrom (tabX.keep 157) 0 [a0, a1, a2] = [(0, a0), (1, a1), (2, a2)] := id rfl
@[go_sem] theorem res_157 : Tryz.f157.results.toList = [.tmp 6] := id rfl
@[go_sem] theorem rr_157 : retRef tabX 157 = false := by unfold retRef; rw [fn_157]; exact id (by kernel_rfl)
theorem fn_158 : tabX.fn.get 158 = some Tryz.f158 := (fitsX.fn 158).trans Tryz.func158
@[go_sem] theorem zip_158 (a0 a1 : AV) : zipFrom (tabX.keep 158) 0 [a0, a1] = [(0, a0), (1, a1)] := id rfl
@[go_sem] theorem res_158 : Tryz.f158.results.toList = [.tmp 4] := id rfl
@[go_sem] theorem rr_158 : retRef tabX 158 = false := by unfold retRef; rw [fn_158]; exact id (by kernel_rfl)
theorem fn_159 : tabX.fn.get 159 = some Tryz.f159 := (fitsX.fn 159).trans Tryz.func159
@[go_sem] theorem zip_159 (a0 a1 : AV) : zipFrom (tabX.keep 159) 0 [a0, a1] = [(0, a0), (1, a1)] := id rfl
@[go_sem] theorem res_159 : Tryz.f159.results.toList = [.tmp 4] := id rfl
@[go_sem] theorem rr_159 : retRef tabX 159 = false := by unfold retRef; rw [fn_159]; exact id (by kernel_rfl)
theorem fn_161 : tabX.fn.get 161 = some Tryz.f161 := (fitsX.fn 161).trans Tryz.func161
@[go_sem] theorem zip_161 (noa : AV) : zipFrom (tabX.keep 161) 0 [] = [] := id rfl
@[go_sem] theorem res_161 : Tryz.f161.results.toList = [.cell 0 221] := id rfl
@[go_sem] theorem rr_161 : retRef tabX 161 = false := by unfold retRef; rw [fn_161]; exact id (by kernel_rfl)
theorem fn_162 : tabX.fn.get 162 = some Tryz.f162 := (fitsX.fn 162).trans Tryz.func162
@[go_sem] theorem zip_162 (a0 a1 : AV) : zipFrom (tabX.keep 162) 0 [a0, a1] = [(0, a0), (1, a1)] := id rfl
@[go_sem] theorem res_162 : Tryz.f162.results.toList = [.tmp 4] := id rfl
@[go_sem] theorem rr_162 : retRef tabX 162 = false := by unfold retRef; rw [fn_162]; exact id (by kernel_rfl)
theorem fn_163 : tabX.fn.get 163 = some Tryz.f163 := (fitsX.fn 163).trans Tryz.func163
@[go_sem] theorem zip_163 (a0 a1 : AV) : zipFrom (tabX.keep 163) 0 [a0, a1] = [(0, a0), (1, a1)] := id rfl
@[go_sem] theorem res_163 : Tryz.f163.results.toList = [.tmp 4] := id rfl
@[go_sem] theorem rr_163 : retRef tabX 163 = false := by unfold retRef; rw [fn_163]; exact id (by kernel_rfl)
theorem fn_164 : tabX.fn.get 164 = some Tryz.f164 := (fitsX.fn 164).trans Tryz.func164
@[go_sem] theorem zip_164 (a0 a1 a2 : AV) : zipFrom (tabX.keep 164) 0 [a0, a1, a2] = [(0, a0), (1, a1), (2, a2)] := id rfl
@[go_sem] theorem res_164 : Tryz.f164.results.toList = [.tmp 4] := id rfl
@[go_sem] theorem rr_164 : retRef tabX 164 = false := by unfold retRef; rw [fn_164]; exact id (by kernel_rfl)
theorem fn_165 : tabX.fn.get 165 = some Tryz.f165 := (fitsX.fn 165).trans Tryz.func165
@[go_sem] theorem zip_165 (a0 a1 : AV) : zipFrom (tabX.keep 165) 0 [a0, a1] = [(0, a0), (1, a1)] := id rfl
@[go_sem] theorem res_165 : Tryz.f165.results.toList = [.tmp 4] := id rfl
@[go_sem] theorem rr_165 : retRef tabX 165 = false := by unfold retRef; rw [fn_165]; exact id (by kernel_rfl)
theorem fn_166 : tabX.fn.get 166 = some Tryz.f166 := (fitsX.fn 166).trans Tryz.func166
@[go_sem] theorem zip_166 (a0 a1 : AV) : zipFrom (tabX.keep 166) 0 [a0, a1] = [(0, a0), (1, a1)] := id rfl
@[go_sem] theorem res_166 : Tryz.f166.results.toList = [.tmp 4] := id rfl
@[go_sem] theorem rr_166 : retRef tabX 166 = false := by unfold retRef; rw [fn_166]; exact id (by kernel_rfl)
end Go.Proofs.YtiighcpimecehaaGreat
