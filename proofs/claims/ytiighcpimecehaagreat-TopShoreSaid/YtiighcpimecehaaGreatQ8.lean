/- What the tables of the abstract interpreter hold. Conditions: none. -/
import Derived.Test.YtiighcpimecehaaGreatQ7
set_option linter.unusedSimpArgs false
set_option linter.unusedVariables false
namespace Go.Proofs.YtiighcpimecehaaGreat
open Go.Proofs Go.Proofs.YtiighcpimecehaaGreat
theorem fn_4 : tabX.fn.get 4 = some Tryz.f4 := (fitsX.fn 4).trans Tryz.func4
@[go_sem] theorem solo_4_5 : tabX.solo 4 5 = [] := id rfl
@[go_sem] theorem solo_4_8 : tabX.solo 4 8 = [] := id rfl
@[go_sem] theorem solo_4_18 : tabX.solo 4 18 = [] := id rfl
@[go_sem] theorem solo_4_19 : tabX.solo 4 19 = [] := id rfl
@[go_sem] theorem hush_4_5 : tabX.hush 4 5 = true := id rfl
@[go_sem] theorem hush_4_8 : tabX.hush 4 8 = true := id rfl
@[go_sem] theorem hush_4_18 : tabX.hush 4 18 = true := id rfl
@[go_sem] theorem hush_4_19 : tabX.hush 4 19 = true := id rfl
@[go_sem] theorem zip_4 (a0 a1 a2 : AV) : zipFrom (tabX.keep 4) 0 [a0, a1, a2] = [(0, a0), (1, a1), (2, a2)] := id rfl
@[go_sem] theorem res_4 : Tryz.f4.results.toList = [.tmp 6] := id rfl
@[go_sem] theorem rr_4 : retRef tabX 4 = false := by unfold retRef; rw [fn_4]; exact id (by kernel_rfl)
theorem fn_7 : tabX.fn.get 7 = some Tryz.f7 := (fitsX.fn 7).trans Tryz.func7
@[go_sem] theorem solo_7_14 : tabX.solo 7 14 = [] := id rfl
@[go_sem] theorem hush_7_14 : tabX.hush 7 14 = true := id rfl
@[go_sem] theorem zip_7 (noa : AV) : zipFrom (tabX.keep 7) 0 [] = [] := id rfl
@[go_sem] theorem res_7 : Tryz.f7.results.toList = [.tmp 0] := id rfl
@[go_sem] theorem rr_7 : retRef tabX 7 = false := by unfold retRef; rw [fn_7]; exact id (by kernel_rfl)
theorem fn_11 : tabX.fn.get 11 = some Tryz.f11 := (fitsX.fn 11).trans Tryz.func11
@[go_sem] theorem solo_11_9 : tabX.solo 11 9 = [[(0, false), (1, false), (2, false), (3, false), (4, false), (5, false), (6, false), (7, false), (8, false), (9, true), (10, false), (11, false), (12, false)]] := id rfl
@[go_sem] theorem hush_11_9 : tabX.hush 11 9 = true := id rfl
@[go_sem] theorem zip_11 (a0 : AV) : zipFrom (tabX.keep 11) 0 [a0] = [(0, a0)] := id rfl
@[go_sem] theorem res_11 : Tryz.f11.results.toList = [.tmp 2, .tmp 3, .tmp 4] := id rfl
@[go_sem] theorem rr_11 : retRef tabX 11 = false := by unfold retRef; rw [fn_11]; exact id (by kernel_rfl)
theorem fn_12 : tabX.fn.get 12 = some Tryz.f12 := (fitsX.fn 12).trans Tryz.func12
@[go_sem] theorem zip_12 (a0 a1 : AV) : zipFrom (tabX.keep 12) 0 [a0, a1] = [(0, a0), (1, a1)] := id rfl
@[go_sem] theorem res_12 : Tryz.f12.results.toList = [.tmp 4] := id rfl
@[go_sem] theorem rr_12 : retRef tabX 12 = false := by unfold retRef; rw [fn_12]; exact id (by kernel_rfl)
theorem fn_15 : tabX.fn.get 15 = some Tryz.f15 := (fitsX.fn 15).trans Tryz.func15
@[go_sem] theorem solo_15_6 : tabX.solo 15 6 = [] := id rfl
@[go_sem] theorem hush_15_6 : tabX.hush 15 6 = true := id rfl
@[go_sem] theorem zip_15 (a0 a1 : AV) : zipFrom (tabX.keep 15) 0 [a0, a1] = [(0, a0), (1, a1)] := id rfl
@[go_sem] theorem res_15 : Tryz.f15.results.toList = [.tmp 4, .tmp 5] := id rfl
@[go_sem] theorem rr_15 : retRef tabX 15 = false := by unfold retRef; rw [fn_15]; exact id (by kernel_rfl)
theorem fn_16 : tabX.fn.get 16 = some Tryz.f16 := (fitsX.fn 16).trans Tryz.func16
@[go_sem] theorem solo_16_4 : tabX.solo 16 4 = [] := id rfl
@[go_sem] theorem hush_16_4 : tabX.hush 16 4 = true := id rfl
@[go_sem] theorem zip_16 (a0 a1 : AV) : zipFrom (tabX.keep 16) 0 [a0, a1] = [(0, a0), (1, a1)] := id rfl
@[go_sem] theorem res_16 : Tryz.f16.results.toList = [.tmp 4, .tmp 5] := id rfl
@[go_sem] theorem rr_16 : retRef tabX 16 = false := by unfold retRef; rw [fn_16]; exact id (by kernel_rfl)
theorem fn_17 : tabX.fn.get 17 = some Tryz.f17 := (fitsX.fn 17).trans Tryz.func17
@[go_sem] theorem solo_17_6 : tabX.solo 17 6 = [] := id rfl
@[go_sem] theorem solo_17_17 : tabX.solo 17 17 = [] := id rfl
@[go_sem] theorem solo_17_34 : tabX.solo 17 34 = [] := id rfl
@[go_sem] theorem hush_17_6 : tabX.hush 17 6 = true := id rfl
@[go_sem] theorem hush_17_17 : tabX.hush 17 17 = true := id rfl
@[go_sem] theorem hush_17_34 : tabX.hush 17 34 = true := id rfl
@[go_sem] theorem zip_17 (a0 : AV) : zipFrom (tabX.keep 17) 0 [a0] = [(0, a0)] := id rfl
@[go_sem] theorem res_17 : Tryz.f17.results.toList = [.tmp 2, .tmp 3, .tmp 4] := id rfl
@[go_sem] theorem rr_17 : retRef tabX 17 = false := by unfold retRef; rw [fn_17]; exact id (by kernel_rfl)
theorem fn_18 : tabX.fn.get 18 = some Tryz.f18 := (fitsX.fn 18).trans Tryz.func18
@[go_sem] theorem zip_18 (a0 : AV) : zipFrom (tabX.keep 18) 0 [a0] = [(0, a0)] := id rfl
@[go_sem] theorem res_18 : Tryz.f18.results.toList = [.tmp 2, .tmp 3, .tmp 4] := id rfl
@[go_sem] theorem rr_18 : retRef tabX 18 = false := by unfold retRef; rw [fn_18]; exact id (by kernel_rfl)
theorem fn_19 : tabX.fn.get 19 = some Tryz.f19 := (fitsX.fn 19).trans Tryz.func19
@[go_sem] theorem solo_19_13 : tabX.solo 19 13 = [] := id rfl
@[go_sem] theorem hush_19_13 : tabX.hush 19 13 = true := id rfl
@[go_sem] theorem zip_19 (noa : AV) : zipFrom (tabX.keep 19) 0 [] = [] := id rfl
@[go_sem] theorem res_19 : Tryz.f19.results.toList = [.tmp 0] := id rfl
@[go_sem] theorem rr_19 : retRef tabX 19 = false := by unfold retRef; rw [fn_19]; exact id (by kernel_rfl)
theorem fn_20 : tabX.fn.get 20 = some Tryz.f20 := (fitsX.fn 20).trans Tryz.func20
@[go_sem] theorem zip_20 (a0 : AV) : zipFrom (tabX.keep 20) 0 [a0] = [(0, a0)] := id rfl
@[go_sem] theorem res_20 : Tryz.f20.results.toList = [.tmp 2] := id rfl
@[go_sem] theorem rr_20 : retRef tabX 20 = false := by unfold retRef; rw [fn_20]; exact id (by kernel_rfl)
theorem fn_21 : tabX.fn.get 21 = some Tryz.f21 := (fitsX.fn 21).trans Tryz.func21
@[go_sem] theorem solo_21_10 : tabX.solo 21 10 = [] := id rfl
@[go_sem] theorem hush_21_10 : tabX.hush 21 10 = true := id rfl
@[go_sem] theorem zip_21 (a0 a1 : AV) : zipFrom (tabX.keep 21) 0 [a0, a1] = [(0, a0), (1, a1)] := id rfl
@[go_sem] theorem res_21 : Tryz.f21.results.toList = [.tmp 4] := id rfl
@[go_sem] theorem rr_21 : retRef tabX 21 = false := by unfold retRef; rw [fn_21]; exact id (by kernel_rfl)
theorem fn_22 : tabX.fn.get 22 = some Tryz.f22 := (fitsX.fn 22).trans Tryz.func22
@[go_sem] theorem zip_22 (a0 a1 : AV) : zipFrom (tabX.keep 22) 0 [a0, a1] = [(0, a0), (1, a1)] := id rfl
@[go_sem] theorem res_22 : Tryz.f22.results.toList = [.cell 4 69, .tmp 5] := id rfl
@[go_sem] theorem rr_22 : retRef tabX 22 = false := by unfold retRef; rw [fn_22]; exact id (by kernel_rfl)
theorem fn_23 : tabX.fn.get 23 = some Tryz.f23 := (fitsX.fn 23).trans Tryz.func23
@[go_sem] theorem zip_23 (a0 a1 a2 a3 : AV) : zipFrom (tabX.keep 23) 0 [a0, a1, a2, a3] = [(0, a0), (1, a1), (2, a2), (3, a3)] := id rfl
@[go_sem] theorem res_23 : Tryz.f23.results.toList = [.cell 8 69, .tmp 9] := id rfl
@[go_sem] theorem rr_23 : retRef tabX 23 = false := by unfold retRef; rw [fn_23]; exact id (by kernel_rfl)
theorem fn_24 : tabX.fn.get 24 = some Tryz.f24 := (fitsX.fn 24).trans Tryz.func24
@[go_sem] theorem zip_24 (a0 a1 a2 : AV) : zipFrom (tabX.keep 24) 0 [a0, a1, a2] = [(0, a0), (1, a1), (2, a2)] := id rfl
@[go_sem] theorem res_24 : Tryz.f24.results.toList = [.tmp 6] := id rfl
@[go_sem] theorem rr_24 : retRef tabX 24 = false := by unfold retRef; rw [fn_24]; exact id (by kernel_rfl)
theorem fn_25 : tabX.fn.get 25 = some Tryz.f25 := (fitsX.fn 25).trans Tryz.func25
@[go_sem] theorem zip_25 (a0 a1 a2 : AV) : zipFrom (tabX.keep 25) 0 [a0, a1, a2] = [(0, a0), (1, a1), (2, a2)] := id rfl
@[go_sem] theorem res_25 : Tryz.f25.results.toList = [.tmp 6] := id rfl
@[go_sem] theorem rr_25 : retRef tabX 25 = false := by unfold retRef; rw [fn_25]; exact id (by kernel_rfl)
theorem fn_26 : tabX.fn.get 26 = some Tryz.f26 := (fitsX.fn 26).trans Tryz.func26
@[go_sem] theorem zip_26 (a0 a1 a2 : AV) : zipFrom (tabX.keep 26) 0 [a0, a1, a2] = [(0, a0), (1, a1), (2, a2)] := id rfl
@[go_sem] theorem res_26 : Tryz.f26.results.toList = [.tmp 6] := id rfl
@[go_sem] theorem rr_26 : retRef tabX 26 = false := by unfold retRef; rw [fn_26]; exact id (by kernel_rfl)
theorem fn_27 : tabX.fn.get 27 = some Tryz.f27 := (fitsX.fn 27).trans Tryz.func27
@[go_sem] theorem solo_27_11 : tabX.solo 27 11 = [[(0, false), (1, false), (2, false), (3, false), (4, false), (5, true), (6, false), (7, false)], [(0, false), (1, false), (2, false), (3, false), (4, false), (6, false), (5, true), (7, false)]] := id rfl
@[go_sem] theorem zip_27 (a0 a1 a2 : AV) : zipFrom (tabX.keep 27) 0 [a0, a1, a2] = [(0, a0), (1, a1), (2, a2)] := id rfl
@[go_sem] theorem res_27 : Tryz.f27.results.toList = [.tmp 6, .tmp 7, .tmp 8] := id rfl
@[go_sem] theorem rr_27 : retRef tabX 27 = false := by unfold retRef; rw [fn_27]; exact id (by kernel_rfl)
theorem fn_28 : tabX.fn.get 28 = some Tryz.f28 := (fitsX.fn 28).trans Tryz.func28
@[go_sem] theorem zip_28 (a0 a1 : AV) : zipFrom (tabX.keep 28) 0 [a0, a1] = [(0, a0), (1, a1)] := id rfl
@[go_sem] theorem res_28 : Tryz.f28.results.toList = [.tmp 4] := id rfl
@[go_sem] theorem rr_28 : retRef tabX 28 = false := by unfold retRef; rw [fn_28]; exact id (by kernel_rfl)
theorem fn_36 : tabX.fn.get 36 = some Tryz.f36 := (fitsX.fn 36).trans Tryz.func36
@[go_sem] theorem zip_36 (a0 : AV) : zipFrom (tabX.keep 36) 0 [a0] = [(0, a0)] := id rfl
@[go_sem] theorem res_36 : Tryz.f36.results.toList = [.cell 2 38] := id rfl
@[go_sem] theorem rr_36 : retRef tabX 36 = false := by unfold retRef; rw [fn_36]; exact id (by kernel_rfl)
theorem fn_37 : tabX.fn.get 37 = some Tryz.f37 := (fitsX.fn 37).trans Tryz.func37
@[go_sem] theorem zip_37 (a0 : AV) : zipFrom (tabX.keep 37) 0 [a0] = [(0, a0)] := id rfl
@[go_sem] theorem res_37 : Tryz.f37.results.toList = [.tmp 2, .tmp 3] := id rfl
@[go_sem] theorem rr_37 : retRef tabX 37 = false := by unfold retRef; rw [fn_37]; exact id (by kernel_rfl)
theorem fn_38 : tabX.fn.get 38 = some Tryz.f38 := (fitsX.fn 38).trans Tryz.func38
@[go_sem] theorem zip_38 (a0 : AV) : zipFrom (tabX.keep 38) 0 [a0] = [(0, a0)] := id rfl
@[go_sem] theorem res_38 : Tryz.f38.results.toList = [.tmp 2, .tmp 3] := id rfl
@[go_sem] theorem rr_38 : retRef tabX 38 = false := by unfold retRef; rw [fn_38]; exact id (by kernel_rfl)
theorem fn_39 : tabX.fn.get 39 = some Tryz.f39 := (fitsX.fn 39).trans Tryz.func39
@[go_sem] theorem zip_39 (a0 : AV) : zipFrom (tabX.keep 39) 0 [a0] = [(0, a0)] := id rfl
@[go_sem] theorem res_39 : Tryz.f39.results.toList = [.tmp 2, .tmp 3, .tmp 4] := id rfl
@[go_sem] theorem rr_39 : retRef tabX 39 = false := by unfold retRef; rw [fn_39]; exact id (by kernel_rfl)
theorem fn_40 : tabX.fn.get 40 = some Tryz.f40 := (fitsX.fn 40).trans Tryz.func40
@[go_sem] theorem zip_40 (a0 : AV) : zipFrom (tabX.keep 40) 0 [a0] = [(0, a0)] := id rfl
@[go_sem] theorem res_40 : Tryz.f40.results.toList = [.tmp 2, .tmp 3] := id rfl
@[go_sem] theorem rr_40 : retRef tabX 40 = false := by unfold retRef; rw [fn_40]; exact id (by kernel_rfl)
theorem fn_41 : tabX.fn.get 41 = some Tryz.f41 := (fitsX.fn 41).trans Tryz.func41
@[go_sem] theorem zip_41 (a0 a1 : AV) : zipFrom (tabX.keep 41) 0 [a0, a1] = [(0, a0), (1, a1)] := id rfl
@[go_sem] theorem res_41 : Tryz.f41.results.toList = [.cell 4 69] := id rfl
@[go_sem] theorem rr_41 : retRef tabX 41 = false := by unfold retRef; rw [fn_41]; exact id (by kernel_rfl)
theorem fn_45 : tabX.fn.get 45 = some Tryz.f45 := (fitsX.fn 45).trans Tryz.func45
@[go_sem] theorem zip_45 (a0 a1 : AV) : zipFrom (tabX.keep 45) 0 [a0, a1] = [(0, a0), (1, a1)] := id rfl
@[go_sem] theorem res_45 : Tryz.f45.results.toList = [.tmp 4] := id rfl
@[go_sem] theorem rr_45 : retRef tabX 45 = false := by unfold retRef; rw [fn_45]; exact id (by kernel_rfl)
theorem fn_46 : tabX.fn.get 46 = some Tryz.f46 := (fitsX.fn 46).trans Tryz.func46
@[go_sem] theorem zip_46 (a0 a1 a2 : AV) : zipFrom (tabX.keep 46) 0 [a0, a1, a2] = [(0, a0), (1, a1), (2, a2)] := id rfl
@[go_sem] theorem res_46 : Tryz.f46.results.toList = [.tmp 6, .tmp 7] := id rfl
@[go_sem] theorem rr_46 : retRef tabX 46 = true := by unfold retRef; rw [fn_46]; exact id (by kernel_rfl)
theorem fn_47 : tabX.fn.get 47 = some Tryz.f47 := (fitsX.fn 47).trans Tryz.func47
@[go_sem] theorem zip_47 (a0 a1 : AV) : zipFrom (tabX.keep 47) 0 [a0, a1] = [(0, a0), (1, a1)] := id rfl
@[go_sem] theorem res_47 : Tryz.f47.results.toList = [.tmp 4] := id rfl
@[go_sem] theorem rr_47 : retRef tabX 47 = false := by unfold retRef; rw [fn_47]; exact id (by kernel_rfl)
theorem fn_48 : tabX.fn.get 48 = some Tryz.f48 := (fitsX.fn 48).trans Tryz.func48
@[go_sem] theorem solo_48_2 : tabX.solo 48 2 = [] := id rfl
@[go_sem] theorem solo_48_6 : tabX.solo 48 6 = [] := id rfl
@[go_sem] theorem hush_48_2 : tabX.hush 48 2 = true := id rfl
@[go_sem] theorem hush_48_6 : tabX.hush 48 6 = true := id rfl
@[go_sem] theorem zip_48 (a0 a1 : AV) : zipFrom (tabX.keep 48) 0 [a0, a1] = [(0, a0), (1, a1)] := id rfl
@[go_sem] theorem res_48 : Tryz.f48.results.toList = [.tmp 4] := id rfl
@[go_sem] theorem rr_48 : retRef tabX 48 = false := by unfold retRef; rw [fn_48]; exact id (by kernel_rfl)
theorem fn_51 : tabX.fn.get 51 = some Tryz.f51 := (fitsX.fn 51).trans Tryz.func51
@[go_sem] theorem solo_51_1 : tabX.solo 51 1 = [] := id rfl
@[go_sem] theorem hush_51_1 : tabX.hush 51 1 = true := id rfl
@[go_sem] theorem zip_51 (a0 a1 : AV) : zipFrom (tabX.keep 51) 0 [a0, a1] = [(0, a0), (1, a1)] := id rfl
@[go_sem] theorem res_51 : Tryz.f51.results.toList = [.tmp 4] := id rfl
@[go_sem] theorem rr_51 : retRef tabX 51 = false := by unfold retRef; rw [fn_51]; exact id (by kernel_rfl)
theorem fn_52 : tabX.fn.get 52 = some Tryz.f52 := (fitsX.fn 52).trans Tryz.func52
@[go_sem] theorem zip_52 (a0 a1 : AV) : zipFrom (tabX.keep 52) 0 [a0, a1] = [(0, a0), (1, a1)] := id rfl
@[go_sem] theorem res_52 : Tryz.f52.results.toList = [.tmp 4] := id rfl
@[go_sem] theorem rr_52 : retRef tabX 52 = false := by unfold retRef; rw [fn_52]; exact id (by kernel_rfl)
theorem fn_53 : tabX.fn.get 53 = some Tryz.f53 := (fitsX.fn 53).trans Tryz.func53
@[go_sem] theorem zip_53 (a0 : AV) : zipFrom (tabX.keep 53) 0 [a0] = [(0, a0)] := id rfl
@[go_sem] theorem res_53 : Tryz.f53.results.toList = [.tmp 2] := id rfl
@[go_sem] theorem rr_53 : retRef tabX 53 = false := by unfold retRef; rw [fn_53]; exact id (by kernel_rfl)
theorem fn_54 : tabX.fn.get 54 = some Tryz.f54 := (fitsX.fn 54).trans Tryz.func54
@[go_sem] theorem zip_54 (a0 a1 : AV) : zipFrom (tabX.keep 54) 0 [a0, a1] = [(0, a0), (1, a1)] := id rfl
@[go_sem] theorem res_54 : Tryz.f54.results.toList = [.tmp 4] := id rfl
@[go_sem] theorem rr_54 : retRef tabX 54 = false := by unfold retRef; rw [fn_54]; exact id (by kernel_rfl)
theorem fn_55 : tabX.fn.get 55 = some Tryz.f55 := (fitsX.fn 55).trans Tryz.func55
@[go_sem] theorem zip_55 (a0 a1 a2 : AV) : zipFrom (tabX.keep 55) 0 [a0, a1, a2] = [(0, a0), (1, a1), (2, a2)] := id rfl
@[go_sem] theorem res_55 : Tryz.f55.results.toList = [.tmp 6] := id rfl
@[go_sem] theorem rr_55 : retRef tabX 55 = false := by unfold retRef; rw [fn_55]; exact id (by kernel_rfl)
theorem fn_56 : tabX.fn.get 56 = some Tryz.f56 := (fitsX.fn 56).trans Tryz.func56
@[go_sem] theorem zip_56 (a0 : AV) : zipFrom (tabX.keep 56) 0 [a0] = [(0, a0)] := id rfl
@[go_sem] theorem res_56 : Tryz.f56.results.toList = [.tmp 2] := id rfl
@[go_sem] theorem rr_56 : retRef tabX 56 = false := by unfold retRef; rw [fn_56]; exact id (by kernel_rfl)
theorem fn_57 : tabX.fn.get 57 = some Tryz.f57 := (fitsX.fn 57).trans Tryz.func57
@[go_sem] theorem zip_57 (a0 : AV) : zipFrom (tabX.keep 57) 0 [a0] = [(0, a0)] := id rfl
@[go_sem] theorem res_57 : Tryz.f57.results.toList = [.cell 2 62] := id rfl
@[go_sem] theorem rr_57 : retRef tabX 57 = false := by unfold retRef; rw [fn_57]; exact id (by kernel_rfl)
theorem fn_58 : tabX.fn.get 58 = some Tryz.f58 := (fitsX.fn 58).trans Tryz.func58
@[go_sem] theorem solo_58_12 : tabX.solo 58 12 = [] := id rfl
@[go_sem] theorem zip_58 (a0 : AV) : zipFrom (tabX.keep 58) 0 [a0] = [(0, a0)] := id rfl
@[go_sem] theorem res_58 : Tryz.f58.results.toList = [.tmp 2, .cell 3 3, .tmp 4] := id rfl
@[go_sem] theorem rr_58 : retRef tabX 58 = false := by unfold retRef; rw [fn_58]; exact id (by kernel_rfl)
theorem fn_59 : tabX.fn.get 59 = some Tryz.f59 := (fitsX.fn 59).trans Tryz.func59
@[go_sem] theorem solo_59_1 : tabX.solo 59 1 = [[(0, false), (1, false), (2, false), (3, false), (4, false), (5, true), (6, true), (7, false), (8, false), (9, false), (10, false), (11, false)], [(1, false), (2, false), (3, false), (4, false), (5, true), (0, false), (6, true), (7, false), (8, false), (9, false), (10, false), (11, false)]] := id rfl
@[go_sem] theorem zip_59 (a0 a1 : AV) : zipFrom (tabX.keep 59) 0 [a0, a1] = [(0, a0), (1, a1)] := id rfl
@[go_sem] theorem res_59 : Tryz.f59.results.toList = [.cell 4 69, .tmp 5] := id rfl
@[go_sem] theorem rr_59 : retRef tabX 59 = false := by unfold retRef; rw [fn_59]; exact id (by kernel_rfl)
theorem fn_60 : tabX.fn.get 60 = some Tryz.f60 := (fitsX.fn 60).trans Tryz.func60
@[go_sem] theorem solo_60_9 : tabX.solo 60 9 = [[(0, false), (1, false), (2, false), (3, true), (4, false), (5, false), (6, false), (7, false), (8, false), (9, false)]] := id rfl
@[go_sem] theorem solo_60_16 : tabX.solo 60 16 = [[(0, false), (1, false), (2, false), (3, true), (4, false), (5, false), (6, false)], [(0, false), (1, false), (2, false), (4, false), (5, false), (3, true), (6, false)]] := id rfl
@[go_sem] theorem zip_60 (a0 a1 : AV) : zipFrom (tabX.keep 60) 0 [a0, a1] = [(0, a0), (1, a1)] := id rfl
@[go_sem] theorem res_60 : Tryz.f60.results.toList = [.tmp 4, .tmp 5] := id rfl
@[go_sem] theorem rr_60 : retRef tabX 60 = false := by unfold retRef; rw [fn_60]; exact id (by kernel_rfl)
theorem fn_61 : tabX.fn.get 61 = some Tryz.f61 := (fitsX.fn 61).trans Tryz.func61
@[go_sem] theorem zip_61 (a0 : AV) : zipFrom (tabX.keep 61) 0 [a0] = [(0, a0)] := id rfl
@[go_sem] theorem res_61 : Tryz.f61.results.toList = [.tmp 2, .tmp 3] := id rfl
@[go_sem] theorem rr_61 : retRef tabX 61 = false := by unfold retRef; rw [fn_61]; exact id (by kernel_rfl)
theorem fn_62 : tabX.fn.get 62 = some Tryz.f62 := (fitsX.fn 62).trans Tryz.func62
@[go_sem] theorem solo_62_1 : tabX.solo 62 1 = [[(0, false), (1, false), (2, false), (3, false), (4, false), (5, false), (6, true), (7, true), (8, false), (9, false), (10, false), (11, false), (12, false), (13, false)], [(1, false), (2, false), (3, false), (4, false), (5, false), (6, true), (0, false), (7, true), (8, false), (9, false), (10, false), (11, false), (12, false), (13, false)]] := id rfl
@[go_sem] theorem zip_62 (a0 a1 : AV) : zipFrom (tabX.keep 62) 0 [a0, a1] = [(0, a0), (1, a1)] := id rfl
@[go_sem] theorem res_62 : Tryz.f62.results.toList = [.cell 4 69, .tmp 5] := id rfl
@[go_sem] theorem rr_62 : retRef tabX 62 = false := by unfold retRef; rw [fn_62]; exact id (by kernel_rfl)
theorem fn_63 : tabX.fn.get 63 = some Tryz.f63 := (fitsX.fn 63).trans Tryz.func63
@[go_sem] theorem zip_63 (a0 a1 : AV) : zipFrom (tabX.keep 63) 0 [a0, a1] = [(0, a0), (1, a1)] := id rfl
@[go_sem] theorem res_63 : Tryz.f63.results.toList = [.cell 4 69] := id rfl
@[go_sem] theorem rr_63 : retRef tabX 63 = false := by unfold retRef; rw [fn_63]; exact id (by kernel_rfl)
theorem fn_64 : tabX.fn.get 64 = some Tryz.f64 := (fitsX.fn 64).trans Tryz.func64
@[go_sem] theorem zip_64 (a0 a1 : AV) : zipFrom (tabX.keep 64) 0 [a0, a1] = [(0, a0), (1, a1)] := id rfl
@[go_sem] theorem res_64 : Tryz.f64.results.toList = [.tmp 4] := id rfl
@[go_sem] theorem rr_64 : retRef tabX 64 = false := by unfold retRef; rw [fn_64]; exact id (by kernel_rfl)
theorem fn_65 : tabX.fn.get 65 = some Tryz.f65 := (fitsX.fn 65).trans Tryz.func65
@[go_sem] theorem zip_65 (a0 a1 : AV) : zipFrom (tabX.keep 65) 0 [a0, a1] = [(0, a0), (1, a1)] := id rfl
@[go_sem] theorem res_65 : Tryz.f65.results.toList = [.tmp 4] := id rfl
@[go_sem] theorem rr_65 : retRef tabX 65 = false := by unfold retRef; rw [fn_65]; exact id (by kernel_rfl)
theorem fn_66 : tabX.fn.get 66 = some Tryz.f66 := (fitsX.fn 66).trans Tryz.func66
@[go_sem] theorem solo_66_5 : tabX.solo 66 5 = [] := id rfl
@[go_sem] theorem solo_66_7 : tabX.solo 66 7 = [] := id rfl
@[go_sem] theorem solo_66_9 : tabX.solo 66 9 = [] := id rfl
@[go_sem] theorem solo_66_10 : tabX.solo 66 10 = [] := id rfl
@[go_sem] theorem hush_66_5 : tabX.hush 66 5 = true := id rfl
@[go_sem] theorem hush_66_7 : tabX.hush 66 7 = true := id rfl
@[go_sem] theorem hush_66_9 : tabX.hush 66 9 = true := id rfl
@[go_sem] theorem hush_66_10 : tabX.hush 66 10 = true := id rfl
@[go_sem] theorem zip_66 (a0 a1 : AV) : zipFrom (tabX.keep 66) 0 [a0, a1] = [(0, a0), (1, a1)] := id rfl
@[go_sem] theorem res_66 : Tryz.f66.results.toList = [.tmp 4] := id rfl
@[go_sem] theorem rr_66 : retRef tabX 66 = false := by unfold retRef; rw [fn_66]; exact id (by kernel_rfl)
theorem fn_67 : tabX.fn.get 67 = some Tryz.f67 := (fitsX.fn 67).trans Tryz.func67
@[go_sem] theorem solo_67_12 : tabX.solo 67 12 = [] := id rfl
@[go_sem] theorem hush_67_12 : tabX.hush 67 12 = true := id rfl
@[go_sem] theorem zip_67 (a0 : AV) : zipFrom (tabX.keep 67) 0 [a0] = [(0, a0)] := id rfl
@[go_sem] theorem res_67 : Tryz.f67.results.toList = [.tmp 2] := id rfl
@[go_sem] theorem rr_67 : retRef tabX 67 = false := by unfold retRef; rw [fn_67]; exact id (by kernel_rfl)
theorem fn_68 : tabX.fn.get 68 = some Tryz.f68 := (fitsX.fn 68).trans Tryz.func68
@[go_sem] theorem solo_68_1 : tabX.solo 68 1 = [] := id rfl
@[go_sem] theorem hush_68_1 : tabX.hush 68 1 = true := id rfl
@[go_sem] theorem zip_68 (a0 a1 a2 : AV) : zipFrom (tabX.keep 68) 0 [a0, a1, a2] = [(0, a0), (1, a1), (2, a2)] := id rfl
@[go_sem] theorem res_68 : Tryz.f68.results.toList = [.tmp 6] := id rfl
@[go_sem] theorem rr_68 : retRef tabX 68 = false := by unfold retRef; rw [fn_68]; exact id (by kernel_rfl)
theorem fn_69 : tabX.fn.get 69 = some Tryz.f69 := (fitsX.fn 69).trans Tryz.func69
@[go_sem] theorem zip_69 (a0 a1 a2 : AV) : zipFrom (tabX.keep 69) 0 [a0, a1, a2] = [(0, a0), (1, a1), (2, a2)] := id rfl
@[go_sem] theorem res_69 : Tryz.f69.results.toList = [.tmp 6, .tmp 7] := id rfl
@[go_sem] theorem rr_69 : retRef tabX 69 = true := by unfold retRef; rw [fn_69]; exact id (by kernel_rfl)
theorem fn_70 : tabX.fn.get 70 = some Tryz.f70 := (fitsX.fn 70).trans Tryz.func70
@[go_sem] theorem zip_70 (a0 a1 a2 a3 : AV) : zipFrom (tabX.keep 70) 0 [a0, a1, a2, a3] = [(0, a0), (1, a1), (2, a2), (3, a3)] := id rfl
@[go_sem] theorem res_70 : Tryz.f70.results.toList = [.tmp 4] := id rfl
@[go_sem] theorem rr_70 : retRef tabX 70 = false := by unfold retRef; rw [fn_70]; exact id (by kernel_rfl)
theorem fn_71 : tabX.fn.get 71 = some Tryz.f71 := (fitsX.fn 71).trans Tryz.func71
@[go_sem] theorem zip_71 (a0 : AV) : zipFrom (tabX.keep 71) 0 [a0] = [(0, a0)] := id rfl
@[go_sem] theorem res_71 : Tryz.f71.results.toList = [.tmp 2] := id rfl
@[go_sem] theorem rr_71 : retRef tabX 71 = true := by unfold retRef; rw [fn_71]; exact id (by kernel_rfl)
theorem fn_72 : tabX.fn.get 72 = some Tryz.f72 := (fitsX.fn 72).trans Tryz.func72
@[go_sem] theorem zip_72 (a0 a1 a2 : AV) : zipFrom (tabX.keep 72) 0 [a0, a1, a2] = [(0, a0), (1, a1), (2, a2)] := id rfl
@[go_sem] theorem res_72 : Tryz.f72.results.toList = [.tmp 6] := id rfl
@[go_sem] theorem rr_72 : retRef tabX 72 = false := by unfold retRef; rw [fn_72]; exact id (by kernel_rfl)
theorem fn_73 : tabX.fn.get 73 = some Tryz.f73 := (fitsX.fn 73).trans Tryz.func73
@[go_sem] theorem zip_73 (a0 a1 : AV) : zipFrom (tabX.keep 73) 0 [a0, a1] = [(0, a0), (1, a1)] := id rfl
@[go_sem] theorem res_73 : Tryz.f73.results.toList = [.cell 4 69] := id rfl
@[go_sem] theorem rr_73 : retRef tabX 73 = false := by unfold retRef; rw [fn_73]; exact id (by kernel_rfl)
theorem fn_74 : tabX.fn.get 74 = some Tryz.f74 := (fitsX.fn 74).trans Tryz.func74
@[go_sem] theorem solo_74_1 : tabX.solo 74 1 = [] := id rfl
@[go_sem] theorem zip_74 (a0 a1 a2 a3 a4 : AV) : zipFrom (tabX.keep 74) 0 [a0, a1, a2, a3, a4] = [(0, a0), (1, a1), (2, a2), (3, a3), (4, a4)] := id rfl
@[go_sem] theorem res_74 : Tryz.f74.results.toList = [.tmp 6] := id rfl
@[go_sem] theorem rr_74 : retRef tabX 74 = false := by unfold retRef; rw [fn_74]; exact id (by kernel_rfl)
theorem fn_75 : tabX.fn.get 75 = some Tryz.f75 := (fitsX.fn 75).trans Tryz.func75
@[go_sem] theorem solo_75_1 : tabX.solo 75 1 = [[(0, false), (1, false), (2, false), (3, false), (4, false), (5, false), (6, false), (7, false), (8, false), (9, false), (10, false)]] := id rfl
@[go_sem] theorem solo_75_4 : tabX.solo 75 4 = [] := id rfl
@[go_sem] theorem solo_75_7 : tabX.solo 75 7 = [] := id rfl
@[go_sem] theorem solo_75_8 : tabX.solo 75 8 = [] := id rfl
@[go_sem] theorem hush_75_4 : tabX.hush 75 4 = true := id rfl
@[go_sem] theorem hush_75_7 : tabX.hush 75 7 = true := id rfl
@[go_sem] theorem zip_75 (a0 a1 : AV) : zipFrom (tabX.keep 75) 0 [a0, a1] = [(0, a0), (1, a1)] := id rfl
@[go_sem] theorem res_75 : Tryz.f75.results.toList = [.tmp 4] := id rfl
@[go_sem] theorem rr_75 : retRef tabX 75 = false := by unfold retRef; rw [fn_75]; exact id (by kernel_rfl)
theorem fn_76 : tabX.fn.get 76 = some Tryz.f76 := (fitsX.fn 76).trans Tryz.func76
@[go_sem] theorem zip_76 (a0 a1 a2 : AV) : zipFrom (tabX.keep 76) 0 [a0, a1, a2] = [(0, a0), (1, a1), (2, a2)] := id rfl
@[go_sem] theorem res_76 : Tryz.f76.results.toList = [.tmp 3] := id rfl
@[go_sem] theorem rr_76 : retRef tabX 76 = false := by unfold retRef; rw [fn_76]; exact id (by kernel_rfl)
theorem fn_77 : tabX.fn.get 77 = some Tryz.f77 := (fitsX.fn 77).trans Tryz.func77
@[go_sem] theorem zip_77 (a0 a1 : AV) : zipFrom (tabX.keep 77) 0 [a0, a1] = [(0, a0), (1, a1)] := id rfl
@[go_sem] theorem res_77 : Tryz.f77.results.toList = [.tmp 3] := id rfl
@[go_sem] theorem rr_77 : retRef tabX 77 = false := by unfold retRef; rw [fn_77]; exact id (by kernel_rfl)
theorem fn_78 : tabX.fn.get 78 = some Tryz.f78 := (fitsX.fn 78).trans Tryz.func78
@[go_sem] theorem zip_78 (a0 a1 : AV) : zipFrom (tabX.keep 78) 0 [a0, a1] = [(0, a0), (1, a1)] := id rfl
@[go_sem] theorem res_78 : Tryz.f78.results.toList = [.tmp 4] := id rfl
@[go_sem] theorem rr_78 : retRef tabX 78 = false := by unfold retRef; rw [fn_78]; exact id (by kernel_rfl)
theorem fn_79 : tabX.fn.get 79 = some Tryz.f79 := (fitsX.fn 79).trans Tryz.func79
@[go_sem] theorem zip_79 (a0 : AV) : zipFrom (tabX.keep 79) 0 [a0] = [(0, a0)] := id rfl
@[go_sem] theorem res_79 : Tryz.f79.results.toList = [.tmp 2] := id rfl
@[go_sem] theorem rr_79 : retRef tabX 79 = false := by unfold retRef; rw [fn_79]; exact id (by kernel_rfl)
theorem fn_82 : tabX.fn.get 82 = some Tryz.f82 := (fitsX.fn 82).trans Tryz.func82
@[go_sem] theorem zip_82 (a0 : AV) : zipFrom (tabX.keep 82) 0 [a0] = [(0, a0)] := id rfl
@[go_sem] theorem res_82 : Tryz.f82.results.toList = [.tmp 2] := id rfl
@[go_sem] theorem rr_82 : retRef tabX 82 = false := by unfold retRef; rw [fn_82]; exact id (by kernel_rfl)
theorem fn_83 : tabX.fn.get 83 = some Tryz.f83 := (fitsX.fn 83).trans Tryz.func83
@[go_sem] theorem zip_83 (a0 a1 : AV) : zipFrom (tabX.keep 83) 0 [a0, a1] = [(0, a0), (1, a1)] := id rfl
@[go_sem] theorem res_83 : Tryz.f83.results.toList = [.tmp 4, .tmp 5] := id rfl
@[go_sem] theorem rr_83 : retRef tabX 83 = false := by unfold retRef; rw [fn_83]; exact id (by kernel_rfl)
theorem fn_84 : tabX.fn.get 84 = some Tryz.f84 := (fitsX.fn 84).trans Tryz.func84
@[go_sem] theorem zip_84 (a0 a1 a2 : AV) : zipFrom (tabX.keep 84) 0 [a0, a1, a2] = [(0, a0), (1, a1), (2, a2)] := id rfl
@[go_sem] theorem res_84 : Tryz.f84.results.toList = [.tmp 4] := id rfl
@[go_sem] theorem rr_84 : retRef tabX 84 = false := by unfold retRef; rw [fn_84]; exact id (by kernel_rfl)
theorem fn_85 : tabX.fn.get 85 = some Tryz.f85 := (fitsX.fn 85).trans Tryz.func85
@[go_sem] theorem solo_85_6 : tabX.solo 85 6 = [] := id rfl
@[go_sem] theorem solo_85_10 : tabX.solo 85 10 = [[(0, false), (1, false), (2, false), (3, false), (4, false), (5, false), (6, false), (7, true), (8, false)], [(0, false), (1, false), (2, false), (3, false), (5, false), (6, false), (7, true), (4, false), (8, false)], [(0, false), (1, false), (2, false), (4, false), (5, false), (6, false), (7, true), (3, false), (8, false)], [(0, false), (1, false), (2, false), (5, false), (6, false), (7, true), (3, false), (4, false), (8, false)], [(4, false), (5, false), (6, false), (7, true), (0, false), (1, false), (2, false), (3, false), (8, false)], [(5, false), (6, false), (7, true), (0, false), (1, false), (2, false), (3, false), (4, false), (8, false)]] := id rfl
@[go_sem] theorem solo_85_14 : tabX.solo 85 14 = [] := id rfl
@[go_sem] theorem zip_85 (a0 a1 : AV) : zipFrom (tabX.keep 85) 0 [a0, a1] = [(0, a0), (1, a1)] := id rfl
@[go_sem] theorem res_85 : Tryz.f85.results.toList = [.tmp 4] := id rfl
@[go_sem] theorem rr_85 : retRef tabX 85 = true := by unfold retRef; rw [fn_85]; exact id (by kernel_rfl)
theorem fn_86 : tabX.fn.get 86 = some Tryz.f86 := (fitsX.fn 86).trans Tryz.func86
@[go_sem] theorem zip_86 (a0 a1 : AV) : zipFrom (tabX.keep 86) 0 [a0, a1] = [(0, a0), (1, a1)] := id rfl
@[go_sem] theorem res_86 : Tryz.f86.results.toList = [.tmp 4] := id rfl
@[go_sem] theorem rr_86 : retRef tabX 86 = false := by unfold retRef; rw [fn_86]; exact id (by kernel_rfl)
theorem fn_88 : tabX.fn.get 88 = some Tryz.f88 := (fitsX.fn 88).trans Tryz.func88
@[go_sem] theorem zip_88 (a0 a1 : AV) : zipFrom (tabX.keep 88) 0 [a0, a1] = [(0, a0), (1, a1)] := id rfl
@[go_sem] theorem res_88 : Tryz.f88.results.toList = [.tmp 3] := id rfl
@[go_sem] theorem rr_88 : retRef tabX 88 = false := by unfold retRef; rw [fn_88]; exact id (by kernel_rfl)
theorem fn_89 : tabX.fn.get 89 = some Tryz.f89 := (fitsX.fn 89).trans Tryz.func89
@[go_sem] theorem solo_89_6 : tabX.solo 89 6 = [] := id rfl
@[go_sem] theorem hush_89_6 : tabX.hush 89 6 = true := id rfl
@[go_sem] theorem zip_89 (a0 a1 a2 : AV) : zipFrom (tabX.keep 89) 0 [a0, a1, a2] = [(0, a0), (1, a1), (2, a2)] := id rfl
@[go_sem] theorem res_89 : Tryz.f89.results.toList = [.tmp 6] := id rfl
@[go_sem] theorem rr_89 : retRef tabX 89 = false := by unfold retRef; rw [fn_89]; exact id (by kernel_rfl)
theorem fn_93 : tabX.fn.get 93 = some Tryz.f93 := (fitsX.fn 93).trans Tryz.func93
@[go_sem] theorem zip_93 (a0 : AV) : zipFrom (tabX.keep 93) 0 [a0] = [(0, a0)] := id rfl
@[go_sem] theorem res_93 : Tryz.f93.results.toList = [.tmp 2, .tmp 3, .tmp 4] := id rfl
@[go_sem] theorem rr_93 : retRef tabX 93 = false := by unfold retRef; rw [fn_93]; exact id (by kernel_rfl)
theorem fn_94 : tabX.fn.get 94 = some Tryz.f94 := (fitsX.fn 94).trans Tryz.func94
@[go_sem] theorem zip_94 (a0 a1 a2 : AV) : zipFrom (tabX.keep 94) 0 [a0, a1, a2] = [(0, a0), (1, a1), (2, a2)] := id rfl
@[go_sem] theorem res_94 : Tryz.f94.results.toList = [.tmp 6] := id rfl
@[go_sem] theorem rr_94 : retRef tabX 94 = false := by unfold retRef; rw [fn_94]; exact id (by kernel_rfl)
theorem fn_95 : tabX.fn.get 95 = some Tryz.f95 := (fitsX.fn 95).trans Tryz.func95
@[go_sem] theorem zip_95 (a0 a1 : AV) : zipFrom (tabX.keep 95) 0 [a0, a1] = [(0, a0), (1, a1)] := id rfl
@[go_sem] theorem res_95 : Tryz.f95.results.toList = [.tmp 4] := id rfl
@[go_sem] theorem rr_95 : retRef tabX 95 = false := by unfold retRef; rw [fn_95]; exact id (by kernel_rfl)
theorem fn_97 : tabX.fn.get 97 = some Tryz.f97 := (fitsX.fn 97).trans Tryz.func97
@[go_sem] theorem zip_97 (noa : AV) : zipFrom (tabX.keep 97) 0 [] = [] := id rfl
@[go_sem] theorem res_97 : Tryz.f97.results.toList = [.tmp 0] := id rfl
@[go_sem] theorem rr_97 : retRef tabX 97 = false := by unfold retRef; rw [fn_97]; exact id (by kernel_rfl)
theorem fn_98 : tabX.fn.get 98 = some Tryz.f98 := (fitsX.fn 98).trans Tryz.func98
@[go_sem] theorem zip_98 (a0 : AV) : zipFrom (tabX.keep 98) 0 [a0] = [(0, a0)] := id rfl
@[go_sem] theorem res_98 : Tryz.f98.results.toList = [.tmp 2] := id rfl
@[go_sem] theorem rr_98 : retRef tabX 98 = true := by unfold retRef; rw [fn_98]; exact id (by kernel_rfl)
theorem fn_99 : tabX.fn.get 99 = some Tryz.f99 := (fitsX.fn 99).trans Tryz.func99
@[go_sem] theorem zip_99 (a0 a1 : AV) : zipFrom (tabX.keep 99) 0 [a0, a1] = [(0, a0), (1, a1)] := id rfl
@[go_sem] theorem res_99 : Tryz.f99.results.toList = [.tmp 3] := id rfl
@[go_sem] theorem rr_99 : retRef tabX 99 = false := by unfold retRef; rw [fn_99]; exact id (by kernel_rfl)
theorem fn_100 : tabX.fn.get 100 = some Tryz.f100 := (fitsX.fn 100).trans Tryz.func100
@[go_sem] theorem zip_100 (a0 : AV) : zipFrom (tabX.keep 100) 0 [a0] = [(0, a0)] := id rfl
@[go_sem] theorem res_100 : Tryz.f100.results.toList = [.tmp 2, .tmp 3, .tmp 4] := id rfl
@[go_sem] theorem rr_100 : retRef tabX 100 = false := by unfold retRef; rw [fn_100]; exact id (by kernel_rfl)
theorem fn_101 : tabX.fn.get 101 = some Tryz.f101 := (fitsX.fn 101).trans Tryz.func101
@[go_sem] theorem solo_101_1 : tabX.solo 101 1 = [] := id rfl
@[go_sem] theorem zip_101 (a0 a1 a2 : AV) : zipFrom (tabX.keep 101) 0 [a0, a1, a2] = [(0, a0), (1, a1), (2, a2)] := id rfl
@[go_sem] theorem res_101 : Tryz.f101.results.toList = [.tmp 6] := id rfl
@[go_sem] theorem rr_101 : retRef tabX 101 = false := by unfold retRef; rw [fn_101]; exact id (by kernel_rfl)
theorem fn_102 : tabX.fn.get 102 = some Tryz.f102 := (fitsX.fn 102).trans Tryz.func102
@[go_sem] theorem zip_102 (a0 a1 : AV) : zipFrom (tabX.keep 102) 0 [a0, a1] = [(0, a0), (1, a1)] := id rfl
@[go_sem] theorem res_102 : Tryz.f102.results.toList = [.tmp 4] := id rfl
@[go_sem] theorem rr_102 : retRef tabX 102 = false := by unfold retRef; rw [fn_102]; exact id (by kernel_rfl)
theorem fn_103 : tabX.fn.get 103 = some Tryz.f103 := (fitsX.fn 103).trans Tryz.func103
@[go_sem] theorem zip_103 (a0 a1 : AV) : zipFrom (tabX.keep 103) 0 [a0, a1] = [(0, a0), (1, a1)] := id rfl
@[go_sem] theorem res_103 : Tryz.f103.results.toList = [.tmp 4] := id rfl
@[go_sem] theorem rr_103 : retRef tabX 103 = true := by unfold retRef; rw [fn_103]; exact id (by kernel_rfl)
theorem fn_104 : tabX.fn.get 104 = some Tryz.f104 := (fitsX.fn 104).trans Tryz.func104
@[go_sem] theorem zip_104 (a0 : AV) : zipFrom (tabX.keep 104) 0 [a0] = [(0, a0)] := id rfl
@[go_sem] theorem res_104 : Tryz.f104.results.toList = [.cell 2 4] := id rfl
@[go_sem] theorem rr_104 : retRef tabX 104 = false := by unfold retRef; rw [fn_104]; exact id (by kernel_rfl)
theorem fn_105 : tabX.fn.get 105 = some Tryz.f105 := (fitsX.fn 105).trans Tryz.func105
@[go_sem] theorem zip_105 (a0 a1 a2 a3 : AV) : zipFrom (tabX.keep 105) 0 [a0, a1, a2, a3] = [(0, a0), (1, a1), (2, a2), (3, a3)] := id rfl
@[go_sem] theorem res_105 : Tryz.f105.results.toList = [.tmp 5] := id rfl
@[go_sem] theorem rr_105 : retRef tabX 105 = false := by unfold retRef; rw [fn_105]; exact id (by kernel_rfl)
theorem fn_106 : tabX.fn.get 106 = some Tryz.f106 := (fitsX.fn 106).trans Tryz.func106
@[go_sem] theorem solo_106_4 : tabX.solo 106 4 = [] := id rfl
@[go_sem] theorem hush_106_4 : tabX.hush 106 4 = true := id rfl
@[go_sem] theorem zip_106 (a0 : AV) : zipFrom (tabX.keep 106) 0 [a0] = [(0, a0)] := id rfl
@[go_sem] theorem res_106 : Tryz.f106.results.toList = [.tmp 1] := id rfl
@[go_sem] theorem rr_106 : retRef tabX 106 = false := by unfold retRef; rw [fn_106]; exact id (by kernel_rfl)
theorem fn_107 : tabX.fn.get 107 = some Tryz.f107 := (fitsX.fn 107).trans Tryz.func107
@[go_sem] theorem zip_107 (a0 a1 : AV) : zipFrom (tabX.keep 107) 0 [a0, a1] = [(0, a0), (1, a1)] := id rfl
@[go_sem] theorem res_107 : Tryz.f107.results.toList = [.tmp 4] := id rfl
@[go_sem] theorem rr_107 : retRef tabX 107 = false := by unfold retRef; rw [fn_107]; exact id (by kernel_rfl)
theorem fn_108 : tabX.fn.get 108 = some Tryz.f108 := (fitsX.fn 108).trans Tryz.func108
@[go_sem] theorem zip_108 (a0 a1 a2 : AV) : zipFrom (tabX.keep 108) 0 [a0, a1, a2] = [(0, a0), (1, a1), (2, a2)] := id rfl
@[go_sem] theorem res_108 : Tryz.f108.results.toList = [.tmp 4] := id rfl
@[go_sem] theorem rr_108 : retRef tabX 108 = false := by unfold retRef; rw [fn_108]; exact id (by kernel_rfl)
theorem fn_110 : tabX.fn.get 110 = some Tryz.f110 := (fitsX.fn 110).trans Tryz.func110
@[go_sem] theorem zip_110 (a0 : AV) : zipFrom (tabX.keep 110) 0 [a0] = [(0, a0)] := id rfl
@[go_sem] theorem res_110 : Tryz.f110.results.toList = [.tmp 2] := id rfl
@[go_sem] theorem rr_110 : retRef tabX 110 = true := by unfold retRef; rw [fn_110]; exact id (by kernel_rfl)
theorem fn_111 : tabX.fn.get 111 = some Tryz.f111 := (fitsX.fn 111).trans Tryz.func111
@[go_sem] theorem solo_111_4 : tabX.solo 111 4 = [] := id rfl
@[go_sem] theorem zip_111 (a0 a1 : AV) : zipFrom (tabX.keep 111) 0 [a0, a1] = [(0, a0), (1, a1)] := id rfl
@[go_sem] theorem res_111 : Tryz.f111.results.toList = [.cell 4 130] := id rfl
@[go_sem] theorem rr_111 : retRef tabX 111 = false := by unfold retRef; rw [fn_111]; exact id (by kernel_rfl)
theorem fn_112 : tabX.fn.get 112 = some Tryz.f112 := (fitsX.fn 112).trans Tryz.func112
@[go_sem] theorem zip_112 (a0 a1 : AV) : zipFrom (tabX.keep 112) 0 [a0, a1] = [(0, a0), (1, a1)] := id rfl
@[go_sem] theorem res_112 : Tryz.f112.results.toList = [.tmp 4] := id rfl
@[go_sem] theorem rr_112 : retRef tabX 112 = false := by unfold retRef; rw [fn_112]; exact id (by kernel_rfl)
theorem fn_123 : tabX.fn.get 123 = some Tryz.f123 := (fitsX.fn 123).trans Tryz.func123
@[go_sem] theorem zip_123 (a0 a1 a2 : AV) : zipFrom (tabX.keep 123) 0 [a0, a1, a2] = [(0, a0), (1, a1), (2, a2)] := id rfl
@[go_sem] theorem res_123 : Tryz.f123.results.toList = [.tmp 6, .tmp 7] := id rfl
@[go_sem] theorem rr_123 : retRef tabX 123 = false := by unfold retRef; rw [fn_123]; exact id (by kernel_rfl)
theorem fn_124 : tabX.fn.get 124 = some Tryz.f124 := (fitsX.fn 124).trans Tryz.func124
@[go_sem] theorem zip_124 (a0 a1 a2 : AV) : zipFrom (tabX.keep 124) 0 [a0, a1, a2] = [(0, a0), (1, a1), (2, a2)] := id rfl
@[go_sem] theorem res_124 : Tryz.f124.results.toList = [.tmp 5] := id rfl
@[go_sem] theorem rr_124 : retRef tabX 124 = false := by unfold retRef; rw [fn_124]; exact id (by kernel_rfl)
theorem fn_125 : tabX.fn.get 125 = some Tryz.f125 := (fitsX.fn 125).trans Tryz.func125
@[go_sem] theorem zip_125 (a0 : AV) : zipFrom (tabX.keep 125) 0 [a0] = [(0, a0)] := id rfl
@[go_sem] theorem res_125 : Tryz.f125.results.toList = [.tmp 2] := id rfl
@[go_sem] theorem rr_125 : retRef tabX 125 = false := by unfold retRef; rw [fn_125]; exact id (by kernel_rfl)
theorem fn_126 : tabX.fn.get 126 = some Tryz.f126 := (fitsX.fn 126).trans Tryz.func126
@[go_sem] theorem zip_126 (a0 a1 : AV) : zipFrom (tabX.keep 126) 0 [a0, a1] = [(0, a0), (1, a1)] := id rfl
@[go_sem] theorem res_126 : Tryz.f126.results.toList = [.tmp 4] := id rfl
@[go_sem] theorem rr_126 : retRef tabX 126 = false := by unfold retRef; rw [fn_126]; exact id (by kernel_rfl)
theorem fn_127 : tabX.fn.get 127 = some Tryz.f127 := (fitsX.fn 127).trans Tryz.func127
@[go_sem] theorem zip_127 (a0 a1 a2 : AV) : zipFrom (tabX.keep 127) 0 [a0, a1, a2] = [(0, a0), (1, a1), (2, a2)] := id rfl
@[go_sem] theorem res_127 : Tryz.f127.results.toList = [.tmp 6, .tmp 7] := id rfl
@[go_sem] theorem rr_127 : retRef tabX 127 = false := by unfold retRef; rw [fn_127]; exact id (by kernel_rfl)
theorem fn_128 : tabX.fn.get 128 = some Tryz.f128 := (fitsX.fn 128).trans Tryz.func128
@[go_sem] theorem solo_128_5 : tabX.solo 128 5 = [] := id rfl
@[go_sem] theorem hush_128_5 : tabX.hush 128 5 = true := id rfl
@[go_sem] theorem zip_128 (a0 a1 a2 : AV) : zipFrom (tabX.keep 128) 0 [a0, a1, a2] = [(0, a0), (1, a1), (2, a2)] := id rfl
@[go_sem] theorem res_128 : Tryz.f128.results.toList = [.tmp 5] := id rfl
@[go_sem] theorem rr_128 : retRef tabX 128 = false := by unfold retRef; rw [fn_128]; exact id (by kernel_rfl)
theorem fn_129 : tabX.fn.get 129 = some Tryz.f129 := (fitsX.fn 129).trans Tryz.func129
@[go_sem] theorem zip_129 (a0 a1 : AV) : zipFrom (tabX.keep 129) 0 [a0, a1] = [(0, a0), (1, a1)] := id rfl
@[go_sem] theorem res_129 : Tryz.f129.results.toList = [.tmp 4] := id rfl
@[go_sem] theorem rr_129 : retRef tabX 129 = false := by unfold retRef; rw [fn_129]; exact id (by kernel_rfl)
theorem fn_130 : tabX.fn.get 130 = some Tryz.f130 := (fitsX.fn 130).trans Tryz.func130
@[go_sem] theorem zip_130 (a0 a1 : AV) : zipFrom (tabX.keep 130) 0 [a0, a1] = [(0, a0), (1, a1)] := id rfl
@[go_sem] theorem res_130 : Tryz.f130.results.toList = [.tmp 3] := id rfl
@[go_sem] theorem rr_130 : retRef tabX 130 = false := by unfold retRef; rw [fn_130]; exact id (by kernel_rfl)
theorem fn_131 : tabX.fn.get 131 = some Tryz.f131 := (fitsX.fn 131).trans Tryz.func131
@[go_sem] theorem zip_131 (a0 a1 a2 : AV) : zipFrom (tabX.keep 131) 0 [a0, a1, a2] = [(0, a0), (1, a1), (2, a2)] := id rfl
@[go_sem] theorem res_131 : Tryz.f131.results.toList = [.tmp 6, .tmp 7] := id rfl
@[go_sem] theorem rr_131 : retRef tabX 131 = false := by unfold retRef; rw [fn_131]; exact id (by kernel_rfl)
theorem fn_132 : tabX.fn.get 132 = some Tryz.f132 := (fitsX.fn 132).trans Tryz.func132
@[go_sem] theorem zip_132 (a0 a1 a2 : AV) : zipFrom (tabX.keep 132) 0 [a0, a1, a2] = [(0, a0), (1, a1), (2, a2)] := id rfl
@[go_sem] theorem res_132 : Tryz.f132.results.toList = [.tmp 5] := id rfl
@[go_sem] theorem rr_132 : retRef tabX 132 = false := by unfold retRef; rw [fn_132]; exact id (by kernel_rfl)
theorem fn_133 : tabX.fn.get 133 = some Tryz.f133 := (fitsX.fn 133).trans Tryz.func133
@[go_sem] theorem zip_133 (a0 a1 a2 : AV) : zipFrom (tabX.keep 133) 0 [a0, a1, a2] = [(0, a0), (1, a1), (2, a2)] := id rfl
@[go_sem] theorem res_133 : Tryz.f133.results.toList = [.tmp 6, .tmp 7] := id rfl
@[go_sem] theorem rr_133 : retRef tabX 133 = false := by unfold retRef; rw [fn_133]; exact id (by kernel_rfl)
theorem fn_134 : tabX.fn.get 134 = some Tryz.f134 := (fitsX.fn 134).trans Tryz.func134
@[go_sem] theorem zip_134 (a0 a1 a2 : AV) : zipFrom (tabX.keep 134) 0 [a0, a1, a2] = [(1, a1), (2, a2)] := id rfl
@[go_sem] theorem res_134 : Tryz.f134.results.toList = [.tmp 5] := id rfl
@[go_sem] theorem rr_134 : retRef tabX 134 = false := by unfold retRef; rw [fn_134]; exact id (by kernel_rfl)
theorem fn_135 : tabX.fn.get 135 = some Tryz.f135 := (fitsX.fn 135).trans Tryz.func135
@[go_sem] theorem zip_135 (a0 a1 a2 : AV) : zipFrom (tabX.keep 135) 0 [a0, a1, a2] = [(0, a0), (1, a1), (2, a2)] := id rfl
@[go_sem] theorem res_135 : Tryz.f135.results.toList = [.tmp 4] := id rfl
@[go_sem] theorem rr_135 : retRef tabX 135 = false := by unfold retRef; rw [fn_135]; exact id (by kernel_rfl)
theorem fn_136 : tabX.fn.get 136 = some Tryz.f136 := (fitsX.fn 136).trans Tryz.func136
@[go_sem] theorem zip_136 (a0 : AV) : zipFrom (tabX.keep 136) 0 [a0] = [(0, a0)] := id rfl
@[go_sem] theorem res_136 : Tryz.f136.results.toList = [.tmp 2] := id rfl
@[go_sem] theorem rr_136 : retRef tabX 136 = false := by unfold retRef; rw [fn_136]; exact id (by kernel_rfl)
theorem fn_138 : tabX.fn.get 138 = some Tryz.f138 := (fitsX.fn 138).trans Tryz.func138
@[go_sem] theorem zip_138 (a0 a1 : AV) : zipFrom (tabX.keep 138) 0 [a0, a1] = [(0, a0), (1, a1)] := id rfl
@[go_sem] theorem res_138 : Tryz.f138.results.toList = [] := id rfl
@[go_sem] theorem rr_138 : retRef tabX 138 = false := by unfold retRef; rw [fn_138]; exact id (by kernel_rfl)
theorem fn_139 : tabX.fn.get 139 = some Tryz.f139 := (fitsX.fn 139).trans Tryz.func139
@[go_sem] theorem solo_139_5 : tabX.solo 139 5 = [] := id rfl
@[go_sem] theorem solo_139_14 : tabX.solo 139 14 = [[(0, false), (1, false), (2, false), (3, true), (4, false), (5, false), (6, false)], [(0, false), (1, false), (2, false), (4, false), (5, false), (3, true), (6, false)]] := id rfl
@[go_sem] theorem zip_139 (a0 a1 a2 a3 a4 a5 : AV) : zipFrom (tabX.keep 139) 0 [a0, a1, a2, a3, a4, a5] = [(0, a0), (1, a1), (2, a2), (3, a3), (4, a4), (5, a5)] := id rfl
@[go_sem] theorem res_139 : Tryz.f139.results.toList = [.tmp 7] := id rfl
@[go_sem] theorem rr_139 : retRef tabX 139 = false := by unfold retRef; rw [fn_139]; exact id (by kernel_rfl)
theorem fn_140 : tabX.fn.get 140 = some Tryz.f140 := (fitsX.fn 140).trans Tryz.func140
@[go_sem] theorem zip_140 (a0 a1 : AV) : zipFrom (tabX.keep 140) 0 [a0, a1] = [(0, a0), (1, a1)] := id rfl
@[go_sem] theorem res_140 : Tryz.f140.results.toList = [.tmp 4, .tmp 5] := id rfl
@[go_sem] theorem rr_140 : retRef tabX 140 = false := by unfold retRef; rw [fn_140]; exact id (by kernel_rfl)
theorem fn_141 : tabX.fn.get 141 = some Tryz.f141 := (fitsX.fn 141).trans Tryz.func141
@[go_sem] theorem zip_141 (a0 a1 : AV) : zipFrom (tabX.keep 141) 0 [a0, a1] = [(1, a1)] := id rfl
@[go_sem] theorem res_141 : Tryz.f141.results.toList = [.tmp 4] := id rfl
@[go_sem] theorem rr_141 : retRef tabX 141 = false := by unfold retRef; rw [fn_141]; exact id (by kernel_rfl)
theorem fn_142 : tabX.fn.get 142 = some Tryz.f142 := (fitsX.fn 142).trans Tryz.func142
@[go_sem] theorem zip_142 (a0 a1 : AV) : zipFrom (tabX.keep 142) 0 [a0, a1] = [(0, a0), (1, a1)] := id rfl
@[go_sem] theorem res_142 : Tryz.f142.results.toList = [.tmp 4, .tmp 5] := id rfl
@[go_sem] theorem rr_142 : retRef tabX 142 = false := by unfold retRef; rw [fn_142]; exact id (by kernel_rfl)
theorem fn_143 : tabX.fn.get 143 = some Tryz.f143 := (fitsX.fn 143).trans Tryz.func143
@[go_sem] theorem zip_143 (a0 a1 a2 : AV) : zipFrom (tabX.keep 143) 0 [a0, a1, a2] = [(0, a0), (1, a1), (2, a2)] := id rfl
@[go_sem] theorem res_143 : Tryz.f143.results.toList = [.tmp 5] := id rfl
@[go_sem] theorem rr_143 : retRef tabX 143 = false := by unfold retRef; rw [fn_143]; exact id (by kernel_rfl)
theorem fn_144 : tabX.fn.get 144 = some Tryz.f144 := (fitsX.fn 144).trans Tryz.func144
@[go_sem] theorem zip_144 (a0 a1 : AV) : zipFrom (tabX.keep 144) 0 [a0, a1] = [(0, a0), (1, a1)] := id rfl
@[go_sem] theorem res_144 : Tryz.f144.results.toList = [.tmp 4] := id rfl
@[go_sem] theorem rr_144 : retRef tabX 144 = false := by unfold retRef; rw [fn_144]; exact id (by kernel_rfl)
theorem fn_145 : tabX.fn.get 145 = some Tryz.f145 := (fitsX.fn 145).trans Tryz.func145
@[go_sem] theorem zip_145 (a0 a1 : AV) : zipFrom (tabX.keep 145) 0 [a0, a1] = [(0, a0), (1, a1)] := id rfl
@[go_sem] theorem res_145 : Tryz.f145.results.toList = [.tmp 3] := id rfl
@[go_sem] theorem rr_145 : retRef tabX 145 = false := by unfold retRef; rw [fn_145]; exact id (by kernel_rfl)
theorem fn_146 : tabX.fn.get 146 = some Tryz.f146 := (fitsX.fn 146).trans Tryz.func146
@[go_sem] theorem zip_146 (a0 a1 : AV) : zipFrom (tabX.keep 146) 0 [a0, a1] = [(0, a0), (1, a1)] := id rfl
@[go_sem] theorem res_146 : Tryz.f146.results.toList = [.tmp 4, .tmp 5] := id rfl
@[go_sem] theorem rr_146 : retRef tabX 146 = false := by unfold retRef; rw [fn_146]; exact id (by kernel_rfl)
theorem fn_147 : tabX.fn.get 147 = some Tryz.f147 := (fitsX.fn 147).trans Tryz.func147
@[go_sem] theorem zip_147 (a0 a1 a2 : AV) : zipFrom (tabX.keep 147) 0 [a0, a1, a2] = [(1, a1), (2, a2)] := id rfl
@[go_sem] theorem res_147 : Tryz.f147.results.toList = [.tmp 5] := id rfl
@[go_sem] theorem rr_147 : retRef tabX 147 = false := by unfold retRef; rw [fn_147]; exact id (by kernel_rfl)
theorem fn_148 : tabX.fn.get 148 = some Tryz.f148 := (fitsX.fn 148).trans Tryz.func148
@[go_sem] theorem zip_148 (a0 : AV) : zipFrom (tabX.keep 148) 0 [a0] = [(0, a0)] := id rfl
@[go_sem] theorem res_148 : Tryz.f148.results.toList = [.tmp 2] := id rfl
@[go_sem] theorem rr_148 : retRef tabX 148 = false := by unfold retRef; rw [fn_148]; exact id (by kernel_rfl)
theorem fn_149 : tabX.fn.get 149 = some Tryz.f149 := (fitsX.fn 149).trans Tryz.func149
@[go_sem] theorem zip_149 (a0 : AV) : zipFrom (tabX.keep 149) 0 [a0] = [(0, a0)] := id rfl
@[go_sem] theorem res_149 : Tryz.f149.results.toList = [.tmp 2] := id rfl
@[go_sem] theorem rr_149 : retRef tabX 149 = false := by unfold retRef; rw [fn_149]; exact id (by kernel_rfl)
theorem fn_150 : tabX.fn.get 150 = some Tryz.f150 := (fitsX.fn 150).trans Tryz.func150
@[go_sem] theorem zip_150 (a0 : AV) : zipFrom (tabX.keep 150) 0 [a0] = [(0, a0)] := id rfl
@[go_sem] theorem res_150 : Tryz.f150.results.toList = [.tmp 2] := id rfl
@[go_sem] theorem rr_150 : retRef tabX 150 = false := by unfold retRef; rw [fn_150]; exact id (by kernel_rfl)
theorem fn_151 : tabX.fn.get 151 = some Tryz.f151 := (fitsX.fn 151).trans Tryz.func151
@[go_sem] theorem zip_151 (a0 a1 : AV) : zipFrom (tabX.keep 151) 0 [a0, a1] = [(0, a0), (1, a1)] := id rfl
@[go_sem] theorem res_151 : Tryz.f151.results.toList = [.tmp 4] := id rfl
@[go_sem] theorem rr_151 : retRef tabX 151 = false := by unfold retRef; rw [fn_151]; exact id (by kernel_rfl)
theorem fn_152 : tabX.fn.get 152 = some Tryz.f152 := (fitsX.fn 152).trans Tryz.func152
@[go_sem] theorem zip_152 (a0 a1 : AV) : zipFrom (tabX.keep 152) 0 [a0, a1] = [(0, a0), (1, a1)] := id rfl
@[go_sem] theorem res_152 : Tryz.f152.results.toList = [] := id rfl
@[go_sem] theorem rr_152 : retRef tabX 152 = false := by unfold retRef; rw [fn_152]; exact id (by kernel_rfl)
theorem fn_153 : tabX.fn.get 153 = some Tryz.f153 := (fitsX.fn 153).trans Tryz.func153
@[go_sem] theorem zip_153 (a0 a1 a2 a3 a4 : AV) : zipFrom (tabX.keep 153) 0 [a0, a1, a2, a3, a4] = [(0, a0), (1, a1), (2, a2), (3, a3), (4, a4)] := id rfl
@[go_sem] theorem res_153 : Tryz.f153.results.toList = [.tmp 6] := id rfl
@[go_sem] theorem rr_153 : retRef tabX 153 = false := by unfold retRef; rw [fn_153]; exact id (by kernel_rfl)
theorem fn_154 : tabX.fn.get 154 = some Tryz.f154 := (fitsX.fn 154).trans Tryz.func154
@[go_sem] theorem solo_154_5 : tabX.solo 154 5 = [] := id rfl
@[go_sem] theorem solo_154_7 : tabX.solo 154 7 = [] := id rfl
@[go_sem] theorem solo_154_8 : tabX.solo 154 8 = [[(0, false), (1, false), (2, false), (3, false), (4, false), (5, false), (6, true), (7, false), (8, false), (9, false), (10, false), (11, false), (12, false), (13, false), (14, false), (15, false), (16, false), (17, false), (18, false), (19, false), (20, false), (21, false)]] := id rfl
@[go_sem] theorem hush_154_5 : tabX.hush 154 5 = true := id rfl
@[go_sem] theorem hush_154_7 : tabX.hush 154 7 = true := id rfl
@[go_sem] theorem zip_154 (a0 a1 a2 : AV) : zipFrom (tabX.keep 154) 0 [a0, a1, a2] = [(0, a0), (1, a1), (2, a2)] := id rfl
@[go_sem] theorem res_154 : Tryz.f154.results.toList = [.tmp 6] := id rfl
@[go_sem] theorem rr_154 : retRef tabX 154 = false := by unfold retRef; rw [fn_154]; exact id (by kernel_rfl)
theorem fn_157 : tabX.fn.get 157 = some Tryz.f157 := (fitsX.fn 157).trans Tryz.func157
@[go_sem] theorem zip_157 (a0 a1 a2 : AV) : zipFrom (tabX.keep 157) 0 [a0, a1, a2] = [(0, a0), (1, a1), (2, a2)] := id rfl
@[go_sem] theorem res_157 : Tryz.f157.results.toList = [.tmp 6] := id rfl
@[go_sem] theorem rr_157 : retRef tabX 157 = false := by unfold retRef; rw [fn_157]; exact id (by kernel_rfl)
theorem fn_158 : tabX.fn.get 158 = some Tryz.f158 := (fitsX.fn 158).trans Tryz.func158
@[go_sem] theorem zip_158 (a0 a1 : AV) : zipFrom (tabX.keep 158) 0 [a0, a1] = [(0, a0), (1, a1)] := id rfl
@[go_sem] theorem res_158 : Tryz.f158.results.toList = [.tmp 4] := id rfl
@[go_sem] theorem rr_158 : retRef tabX 158 = false := by unfold retRef; rw [fn_158]; exact id (by kernel_rfl)
theorem fn_159 : tabX.fn.get 159 = some Tryz.f159 := (fitsX.fn 159).trans Tryz.func159
@[go_sem] theorem zip_159 (a0 a1 : AV) : zipFrom (tabX.keep 159) 0 [a0, a1] = [(0, a0), (1, a1)] := id rfl
@[go_sem] theorem res_159 : Tryz.f159.results.toList = [.tmp 4] := id rfl
@[go_sem] theorem rr_159 : retRef tabX 159 = false := by unfold retRef; rw [fn_159]; exact id (by kernel_rfl)
theorem fn_160 : tabX.fn.get 160 = some Tryz.f160 := (fitsX.fn 160).trans Tryz.func160
@[go_sem] theorem zip_160 (a0 a1 : AV) : zipFrom (tabX.keep 160) 0 [a0, a1] = [(0, a0), (1, a1)] := id rfl
@[go_sem] theorem res_160 : Tryz.f160.results.toList = [.tmp 4] := id rfl
@[go_sem] theorem rr_160 : retRef tabX 160 = false := by unfold retRef; rw [fn_160]; exact id (by kernel_rfl)
theorem fn_161 : tabX.fn.get 161 = some Tryz.f161 := (fitsX.fn 161).trans Tryz.func161
@[go_sem] theorem zip_161 (noa : AV) : zipFrom (tabX.keep 161) 0 [] = [] := id rfl
@[go_sem] theorem res_161 : Tryz.f161.results.toList = [.cell 0 221] := id rfl
@[go_sem] theorem rr_161 : retRef tabX 161 = false := by unfold retRef; rw [fn_161]; exact id (by kernel_rfl)
theorem fn_162 : tabX.fn.get 162 = some Tryz.f162 := (fitsX.fn 162).trans Tryz.func162
@[go_sem] theorem zip_162 (a0 a1 : AV) : zipFrom (tabX.keep 162) 0 [a0, a1] = [(0, a0), (1, a1)] := id rfl
@[go_sem] theorem res_162 : Tryz.f162.results.toList = [.tmp 4] := id rfl
@[go_sem] theorem rr_162 : retRef tabX 162 = false := by unfold retRef; rw [fn_162]; exact id (by kernel_rfl)
theorem fn_164 : tabX.fn.get 164 = some Tryz.f164 := (fitsX.fn 164).trans Tryz.func164
@[go_sem] theorem zip_164 (a0 a1 a2 : AV) : zipFrom (tabX.keep 164) 0 [a0, a1, a2] = [(0, a0), (1, a1), (2, a2)] := id rfl
@[go_sem] theorem res_164 : Tryz.f164.results.toList = [.tmp 4] := id rfl
@[go_sem] theorem rr_164 : retRef tabX 164 = false := by unfold retRef; rw [fn_164]; exact id (by kernel_rfl)
theorem fn_165 : tabX.fn.get 165 = some Tryz.f165 := (fitsX.fn 165).trans Tryz.func165
@[go_sem] theorem zip_165 (a0 a1 : AV) : zipFrom (tabX.keep 165) 0 [a0, a1] = [(0, a0), (1, a1)] := id rfl
@[go_sem] theorem res_165 : Tryz.f165.results.toList = [.tmp 4] := id rfl
@[go_sem] theorem rr_165 : retRef tabX 165 = false := by unfold retRef; rw [fn_165]; exact id (by kernel_rfl)
theorem fn_166 : tabX.fn.get 166 = some Tryz.f166 := (fitsX.fn 166).trans Tryz.func166
@[go_sem] theorem zip_166 (a0 a1 : AV) : zipFrom (tabX.keep 166) 0 [a0, a1] = [(0, a0), (1, a1)] := id rfl
@[go_sem] theorem res_166 : Tryz.f166.results.toList = [.tmp 4] := id rfl
@[go_sem] theorem rr_166 : retRef tabX 166 = false := by unfold retRef; rw [fn_166]; exact id (by kernel_rfl)
end Go.Proofs.YtiighcpimecehaaGreat
