/- What the tables of the abstract interpreter hold. Conditions: none. -/
import Derived.Test.YthkpjbgadkkeeaaQ7
set_option linter.unusedSimpArgs false
set_option linter.unusedVariables false
namespace Go.Proofs.Ythkpjbgadkkeeaa
open Go.Proofs Go.Proofs.Ythkpjbgadkkeeaa
theorem fn_3 : tabX.fn.get 3 = some Try.f3 := (fitsX.fn 3).trans Try.func3
@[go_sem] theorem zip_3 (a0 a1 : AV) : zipFrom (tabX.keep 3) 0 [a0, a1] = [(0, a0), (1, a1)] := id rfl
@[go_sem] theorem res_3 : Try.f3.results.toList = [.tmp 4] := id rfl
@[go_sem] theorem rr_3 : retRef tabX 3 = false := by unfold retRef; rw [fn_3]; exact id (by kernel_rfl)
theorem fn_4 : tabX.fn.get 4 = some Try.f4 := (fitsX.fn 4).trans Try.func4
@[go_sem] theorem solo_4_8 : tabX.solo 4 8 = [] := id rfl
@[go_sem] theorem hush_4_8 : tabX.hush 4 8 = true := id rfl
@[go_sem] theorem zip_4 (noa : AV) : zipFrom (tabX.keep 4) 0 [] = [] := id rfl
@[go_sem] theorem res_4 : Try.f4.results.toList = [.tmp 0] := id rfl
@[go_sem] theorem rr_4 : retRef tabX 4 = false := by unfold retRef; rw [fn_4]; exact id (by kernel_rfl)
theorem fn_5 : tabX.fn.get 5 = some Try.f5 := (fitsX.fn 5).trans Try.func5
@[go_sem] theorem zip_5 (a0 : AV) : zipFrom (tabX.keep 5) 0 [a0] = [(0, a0)] := id rfl
@[go_sem] theorem res_5 : Try.f5.results.toList = [.tmp 2] := id rfl
@[go_sem] theorem rr_5 : retRef tabX 5 = false := by unfold retRef; rw [fn_5]; exact id (by kernel_rfl)
theorem fn_6 : tabX.fn.get 6 = some Try.f6 := (fitsX.fn 6).trans Try.func6
@[go_sem] theorem zip_6 (a0 a1 : AV) : zipFrom (tabX.keep 6) 0 [a0, a1] = [(0, a0), (1, a1)] := id rfl
@[go_sem] theorem res_6 : Try.f6.results.toList = [.tmp 4] := id rfl
@[go_sem] theorem rr_6 : retRef tabX 6 = false := by unfold retRef; rw [fn_6]; exact id (by kernel_rfl)
theorem fn_7 : tabX.fn.get 7 = some Try.f7 := (fitsX.fn 7).trans Try.func7
@[go_sem] theorem solo_7_2 : tabX.solo 7 2 = [] := id rfl
@[go_sem] theorem zip_7 (a0 a1 : AV) : zipFrom (tabX.keep 7) 0 [a0, a1] = [(0, a0), (1, a1)] := id rfl
@[go_sem] theorem res_7 : Try.f7.results.toList = [.tmp 4] := id rfl
@[go_sem] theorem rr_7 : retRef tabX 7 = false := by unfold retRef; rw [fn_7]; exact id (by kernel_rfl)
theorem fn_8 : tabX.fn.get 8 = some Try.f8 := (fitsX.fn 8).trans Try.func8
@[go_sem] theorem solo_8_14 : tabX.solo 8 14 = [[(0, false), (1, false), (2, false), (3, false), (4, false), (5, false), (6, false), (7, false), (8, false), (9, false), (10, false), (11, false), (12, false), (13, false), (14, false), (15, false), (16, false), (17, false)], [(0, false), (1, false), (2, false), (3, false), (4, false), (5, false), (6, false), (7, false), (8, false), (9, false), (14, false), (15, false), (10, false), (11, false), (12, false), (13, false), (16, false), (17, false)], [(0, false), (1, false), (2, false), (3, false), (4, false), (5, false), (6, false), (7, false), (9, false), (10, false), (11, false), (14, false), (15, false), (8, false), (12, false), (13, false), (16, false), (17, false)], [(0, false), (1, false), (2, false), (3, false), (4, false), (5, false), (6, false), (7, false), (9, false), (14, false), (15, false), (8, false), (10, false), (11, false), (12, false), (13, false), (16, false), (17, false)]] := id rfl
@[go_sem] theorem solo_8_17 : tabX.solo 8 17 = [] := id rfl
@[go_sem] theorem zip_8 (a0 a1 : AV) : zipFrom (tabX.keep 8) 0 [a0, a1] = [(0, a0), (1, a1)] := id rfl
@[go_sem] theorem res_8 : Try.f8.results.toList = [.tmp 4] := id rfl
@[go_sem] theorem rr_8 : retRef tabX 8 = false := by unfold retRef; rw [fn_8]; exact id (by kernel_rfl)
theorem fn_9 : tabX.fn.get 9 = some Try.f9 := (fitsX.fn 9).trans Try.func9
@[go_sem] theorem zip_9 (a0 : AV) : zipFrom (tabX.keep 9) 0 [a0] = [(0, a0)] := id rfl
@[go_sem] theorem res_9 : Try.f9.results.toList = [.tmp 2, .tmp 3, .tmp 4] := id rfl
@[go_sem] theorem rr_9 : retRef tabX 9 = false := by unfold retRef; rw [fn_9]; exact id (by kernel_rfl)
theorem fn_10 : tabX.fn.get 10 = some Try.f10 := (fitsX.fn 10).trans Try.func10
@[go_sem] theorem solo_10_35 : tabX.solo 10 35 = [] := id rfl
@[go_sem] theorem hush_10_35 : tabX.hush 10 35 = true := id rfl
@[go_sem] theorem zip_10 (a0 : AV) : zipFrom (tabX.keep 10) 0 [a0] = [(0, a0)] := id rfl
@[go_sem] theorem res_10 : Try.f10.results.toList = [.tmp 2, .tmp 3, .tmp 4] := id rfl
@[go_sem] theorem rr_10 : retRef tabX 10 = false := by unfold retRef; rw [fn_10]; exact id (by kernel_rfl)
theorem fn_11 : tabX.fn.get 11 = some Try.f11 := (fitsX.fn 11).trans Try.func11
@[go_sem] theorem solo_11_1 : tabX.solo 11 1 = [[(0, false), (1, false), (2, false), (3, false), (4, false), (5, true), (6, true), (7, false), (8, false), (9, false), (10, false), (11, false)], [(1, false), (2, false), (3, false), (4, false), (5, true), (0, false), (6, true), (7, false), (8, false), (9, false), (10, false), (11, false)]] := id rfl
@[go_sem] theorem zip_11 (a0 a1 : AV) : zipFrom (tabX.keep 11) 0 [a0, a1] = [(0, a0), (1, a1)] := id rfl
@[go_sem] theorem res_11 : Try.f11.results.toList = [.tmp 4, .tmp 5] := id rfl
@[go_sem] theorem rr_11 : retRef tabX 11 = false := by unfold retRef; rw [fn_11]; exact id (by kernel_rfl)
theorem fn_12 : tabX.fn.get 12 = some Try.f12 := (fitsX.fn 12).trans Try.func12
@[go_sem] theorem zip_12 (a0 a1 : AV) : zipFrom (tabX.keep 12) 0 [a0, a1] = [(0, a0), (1, a1)] := id rfl
@[go_sem] theorem res_12 : Try.f12.results.toList = [.tmp 4, .tmp 5] := id rfl
@[go_sem] theorem rr_12 : retRef tabX 12 = false := by unfold retRef; rw [fn_12]; exact id (by kernel_rfl)
theorem fn_13 : tabX.fn.get 13 = some Try.f13 := (fitsX.fn 13).trans Try.func13
@[go_sem] theorem zip_13 (a0 a1 : AV) : zipFrom (tabX.keep 13) 0 [a0, a1] = [(0, a0), (1, a1)] := id rfl
@[go_sem] theorem res_13 : Try.f13.results.toList = [.tmp 4] := id rfl
@[go_sem] theorem rr_13 : retRef tabX 13 = false := by unfold retRef; rw [fn_13]; exact id (by kernel_rfl)
theorem fn_14 : tabX.fn.get 14 = some Try.f14 := (fitsX.fn 14).trans Try.func14
@[go_sem] theorem solo_14_15 : tabX.solo 14 15 = [] := id rfl
@[go_sem] theorem hush_14_15 : tabX.hush 14 15 = true := id rfl
@[go_sem] theorem zip_14 (noa : AV) : zipFrom (tabX.keep 14) 0 [] = [] := id rfl
@[go_sem] theorem res_14 : Try.f14.results.toList = [.tmp 0] := id rfl
@[go_sem] theorem rr_14 : retRef tabX 14 = false := by unfold retRef; rw [fn_14]; exact id (by kernel_rfl)
theorem fn_15 : tabX.fn.get 15 = some Try.f15 := (fitsX.fn 15).trans Try.func15
@[go_sem] theorem zip_15 (a0 : AV) : zipFrom (tabX.keep 15) 0 [a0] = [(0, a0)] := id rfl
@[go_sem] theorem res_15 : Try.f15.results.toList = [.cell 2 27] := id rfl
@[go_sem] theorem rr_15 : retRef tabX 15 = false := by unfold retRef; rw [fn_15]; exact id (by kernel_rfl)
theorem fn_16 : tabX.fn.get 16 = some Try.f16 := (fitsX.fn 16).trans Try.func16
@[go_sem] theorem solo_16_1 : tabX.solo 16 1 = [[(0, false), (1, false), (2, false), (3, false), (4, true), (5, true), (6, false), (7, false), (8, false), (9, false), (10, false)], [(1, false), (2, false), (3, false), (4, true), (0, false), (5, true), (6, false), (7, false), (8, false), (9, false), (10, false)]] := id rfl
@[go_sem] theorem zip_16 (a0 a1 : AV) : zipFrom (tabX.keep 16) 0 [a0, a1] = [(0, a0), (1, a1)] := id rfl
@[go_sem] theorem res_16 : Try.f16.results.toList = [.cell 4 38, .tmp 5] := id rfl
@[go_sem] theorem rr_16 : retRef tabX 16 = false := by unfold retRef; rw [fn_16]; exact id (by kernel_rfl)
theorem fn_17 : tabX.fn.get 17 = some Try.f17 := (fitsX.fn 17).trans Try.func17
@[go_sem] theorem solo_17_1 : tabX.solo 17 1 = [[(0, false), (1, false), (2, false), (3, false), (4, false), (5, true), (6, true), (7, false), (8, false), (9, false), (10, false), (11, false)], [(1, false), (2, false), (3, false), (4, false), (5, true), (0, false), (6, true), (7, false), (8, false), (9, false), (10, false), (11, false)]] := id rfl
@[go_sem] theorem zip_17 (a0 a1 : AV) : zipFrom (tabX.keep 17) 0 [a0, a1] = [(0, a0), (1, a1)] := id rfl
@[go_sem] theorem res_17 : Try.f17.results.toList = [.tmp 4, .tmp 5] := id rfl
@[go_sem] theorem rr_17 : retRef tabX 17 = false := by unfold retRef; rw [fn_17]; exact id (by kernel_rfl)
theorem fn_18 : tabX.fn.get 18 = some Try.f18 := (fitsX.fn 18).trans Try.func18
@[go_sem] theorem zip_18 (a0 : AV) : zipFrom (tabX.keep 18) 0 [a0] = [(0, a0)] := id rfl
@[go_sem] theorem res_18 : Try.f18.results.toList = [.tmp 2, .tmp 3] := id rfl
@[go_sem] theorem rr_18 : retRef tabX 18 = false := by unfold retRef; rw [fn_18]; exact id (by kernel_rfl)
theorem fn_19 : tabX.fn.get 19 = some Try.f19 := (fitsX.fn 19).trans Try.func19
@[go_sem] theorem zip_19 (a0 a1 : AV) : zipFrom (tabX.keep 19) 0 [a0, a1] = [(0, a0), (1, a1)] := id rfl
@[go_sem] theorem res_19 : Try.f19.results.toList = [.cell 4 38] := id rfl
@[go_sem] theorem rr_19 : retRef tabX 19 = false := by unfold retRef; rw [fn_19]; exact id (by kernel_rfl)
theorem fn_20 : tabX.fn.get 20 = some Try.f20 := (fitsX.fn 20).trans Try.func20
@[go_sem] theorem zip_20 (a0 : AV) : zipFrom (tabX.keep 20) 0 [a0] = [(0, a0)] := id rfl
@[go_sem] theorem res_20 : Try.f20.results.toList = [.tmp 2, .tmp 3] := id rfl
@[go_sem] theorem rr_20 : retRef tabX 20 = false := by unfold retRef; rw [fn_20]; exact id (by kernel_rfl)
theorem fn_21 : tabX.fn.get 21 = some Try.f21 := (fitsX.fn 21).trans Try.func21
@[go_sem] theorem zip_21 (a0 : AV) : zipFrom (tabX.keep 21) 0 [a0] = [(0, a0)] := id rfl
@[go_sem] theorem res_21 : Try.f21.results.toList = [.tmp 2] := id rfl
@[go_sem] theorem rr_21 : retRef tabX 21 = false := by unfold retRef; rw [fn_21]; exact id (by kernel_rfl)
theorem fn_22 : tabX.fn.get 22 = some Try.f22 := (fitsX.fn 22).trans Try.func22
@[go_sem] theorem zip_22 (a0 : AV) : zipFrom (tabX.keep 22) 0 [a0] = [(0, a0)] := id rfl
@[go_sem] theorem res_22 : Try.f22.results.toList = [.tmp 2, .tmp 3] := id rfl
@[go_sem] theorem rr_22 : retRef tabX 22 = false := by unfold retRef; rw [fn_22]; exact id (by kernel_rfl)
theorem fn_23 : tabX.fn.get 23 = some Try.f23 := (fitsX.fn 23).trans Try.func23
@[go_sem] theorem zip_23 (a0 : AV) : zipFrom (tabX.keep 23) 0 [a0] = [(0, a0)] := id rfl
@[go_sem] theorem res_23 : Try.f23.results.toList = [.tmp 2] := id rfl
@[go_sem] theorem rr_23 : retRef tabX 23 = false := by unfold retRef; rw [fn_23]; exact id (by kernel_rfl)
theorem fn_24 : tabX.fn.get 24 = some Try.f24 := (fitsX.fn 24).trans Try.func24
@[go_sem] theorem zip_24 (a0 a1 : AV) : zipFrom (tabX.keep 24) 0 [a0, a1] = [(0, a0), (1, a1)] := id rfl
@[go_sem] theorem res_24 : Try.f24.results.toList = [.tmp 4] := id rfl
@[go_sem] theorem rr_24 : retRef tabX 24 = false := by unfold retRef; rw [fn_24]; exact id (by kernel_rfl)
theorem fn_25 : tabX.fn.get 25 = some Try.f25 := (fitsX.fn 25).trans Try.func25
@[go_sem] theorem zip_25 (a0 a1 : AV) : zipFrom (tabX.keep 25) 0 [a0, a1] = [(0, a0), (1, a1)] := id rfl
@[go_sem] theorem res_25 : Try.f25.results.toList = [.tmp 4] := id rfl
@[go_sem] theorem rr_25 : retRef tabX 25 = false := by unfold retRef; rw [fn_25]; exact id (by kernel_rfl)
theorem fn_26 : tabX.fn.get 26 = some Try.f26 := (fitsX.fn 26).trans Try.func26
@[go_sem] theorem zip_26 (a0 a1 : AV) : zipFrom (tabX.keep 26) 0 [a0, a1] = [(0, a0), (1, a1)] := id rfl
@[go_sem] theorem res_26 : Try.f26.results.toList = [.tmp 4] := id rfl
@[go_sem] theorem rr_26 : retRef tabX 26 = false := by unfold retRef; rw [fn_26]; exact id (by kernel_rfl)
theorem fn_27 : tabX.fn.get 27 = some Try.f27 := (fitsX.fn 27).trans Try.func27
@[go_sem] theorem zip_27 (a0 a1 : AV) : zipFrom (tabX.keep 27) 0 [a0, a1] = [(0, a0), (1, a1)] := id rfl
@[go_sem] theorem res_27 : Try.f27.results.toList = [.tmp 4] := id rfl
@[go_sem] theorem rr_27 : retRef tabX 27 = false := by unfold retRef; rw [fn_27]; exact id (by kernel_rfl)
theorem fn_28 : tabX.fn.get 28 = some Try.f28 := (fitsX.fn 28).trans Try.func28
@[go_sem] theorem zip_28 (a0 a1 : AV) : zipFrom (tabX.keep 28) 0 [a0, a1] = [(0, a0), (1, a1)] := id rfl
@[go_sem] theorem res_28 : Try.f28.results.toList = [.tmp 4] := id rfl
@[go_sem] theorem rr_28 : retRef tabX 28 = false := by unfold retRef; rw [fn_28]; exact id (by kernel_rfl)
theorem fn_29 : tabX.fn.get 29 = some Try.f29 := (fitsX.fn 29).trans Try.func29
@[go_sem] theorem zip_29 (a0 : AV) : zipFrom (tabX.keep 29) 0 [a0] = [(0, a0)] := id rfl
@[go_sem] theorem res_29 : Try.f29.results.toList = [.tmp 2, .tmp 3] := id rfl
@[go_sem] theorem rr_29 : retRef tabX 29 = false := by unfold retRef; rw [fn_29]; exact id (by kernel_rfl)
theorem fn_30 : tabX.fn.get 30 = some Try.f30 := (fitsX.fn 30).trans Try.func30
@[go_sem] theorem zip_30 (a0 : AV) : zipFrom (tabX.keep 30) 0 [a0] = [(0, a0)] := id rfl
@[go_sem] theorem res_30 : Try.f30.results.toList = [.tmp 1, .tmp 2] := id rfl
@[go_sem] theorem rr_30 : retRef tabX 30 = false := by unfold retRef; rw [fn_30]; exact id (by kernel_rfl)
theorem fn_31 : tabX.fn.get 31 = some Try.f31 := (fitsX.fn 31).trans Try.func31
@[go_sem] theorem zip_31 (a0 a1 a2 : AV) : zipFrom (tabX.keep 31) 0 [a0, a1, a2] = [(0, a0), (1, a1), (2, a2)] := id rfl
@[go_sem] theorem res_31 : Try.f31.results.toList = [.tmp 6] := id rfl
@[go_sem] theorem rr_31 : retRef tabX 31 = false := by unfold retRef; rw [fn_31]; exact id (by kernel_rfl)
theorem fn_32 : tabX.fn.get 32 = some Try.f32 := (fitsX.fn 32).trans Try.func32
@[go_sem] theorem zip_32 (a0 : AV) : zipFrom (tabX.keep 32) 0 [a0] = [(0, a0)] := id rfl
@[go_sem] theorem res_32 : Try.f32.results.toList = [.tmp 1, .tmp 2] := id rfl
@[go_sem] theorem rr_32 : retRef tabX 32 = false := by unfold retRef; rw [fn_32]; exact id (by kernel_rfl)
theorem fn_33 : tabX.fn.get 33 = some Try.f33 := (fitsX.fn 33).trans Try.func33
@[go_sem] theorem zip_33 (a0 a1 a2 a3 : AV) : zipFrom (tabX.keep 33) 0 [a0, a1, a2, a3] = [(0, a0), (1, a1), (2, a2), (3, a3)] := id rfl
@[go_sem] theorem res_33 : Try.f33.results.toList = [.tmp 8, .tmp 9] := id rfl
@[go_sem] theorem rr_33 : retRef tabX 33 = false := by unfold retRef; rw [fn_33]; exact id (by kernel_rfl)
theorem fn_34 : tabX.fn.get 34 = some Try.f34 := (fitsX.fn 34).trans Try.func34
@[go_sem] theorem zip_34 (a0 a1 : AV) : zipFrom (tabX.keep 34) 0 [a0, a1] = [(1, a1)] := id rfl
@[go_sem] theorem res_34 : Try.f34.results.toList = [.tmp 4] := id rfl
@[go_sem] theorem rr_34 : retRef tabX 34 = false := by unfold retRef; rw [fn_34]; exact id (by kernel_rfl)
theorem fn_35 : tabX.fn.get 35 = some Try.f35 := (fitsX.fn 35).trans Try.func35
@[go_sem] theorem zip_35 (a0 : AV) : zipFrom (tabX.keep 35) 0 [a0] = [(0, a0)] := id rfl
@[go_sem] theorem res_35 : Try.f35.results.toList = [.tmp 1, .tmp 2] := id rfl
@[go_sem] theorem rr_35 : retRef tabX 35 = false := by unfold retRef; rw [fn_35]; exact id (by kernel_rfl)
theorem fn_36 : tabX.fn.get 36 = some Try.f36 := (fitsX.fn 36).trans Try.func36
@[go_sem] theorem zip_36 (a0 a1 a2 a3 : AV) : zipFrom (tabX.keep 36) 0 [a0, a1, a2, a3] = [(0, a0), (1, a1), (2, a2), (3, a3)] := id rfl
@[go_sem] theorem res_36 : Try.f36.results.toList = [.tmp 8, .tmp 9] := id rfl
@[go_sem] theorem rr_36 : retRef tabX 36 = false := by unfold retRef; rw [fn_36]; exact id (by kernel_rfl)
theorem fn_37 : tabX.fn.get 37 = some Try.f37 := (fitsX.fn 37).trans Try.func37
@[go_sem] theorem zip_37 (a0 a1 a2 : AV) : zipFrom (tabX.keep 37) 0 [a0, a1, a2] = [(0, a0), (1, a1), (2, a2)] := id rfl
@[go_sem] theorem res_37 : Try.f37.results.toList = [.tmp 5] := id rfl
@[go_sem] theorem rr_37 : retRef tabX 37 = false := by unfold retRef; rw [fn_37]; exact id (by kernel_rfl)
theorem fn_38 : tabX.fn.get 38 = some Try.f38 := (fitsX.fn 38).trans Try.func38
@[go_sem] theorem zip_38 (a0 : AV) : zipFrom (tabX.keep 38) 0 [a0] = [(0, a0)] := id rfl
@[go_sem] theorem res_38 : Try.f38.results.toList = [.tmp 2] := id rfl
@[go_sem] theorem rr_38 : retRef tabX 38 = false := by unfold retRef; rw [fn_38]; exact id (by kernel_rfl)
theorem fn_39 : tabX.fn.get 39 = some Try.f39 := (fitsX.fn 39).trans Try.func39
@[go_sem] theorem zip_39 (a0 a1 : AV) : zipFrom (tabX.keep 39) 0 [a0, a1] = [(0, a0), (1, a1)] := id rfl
@[go_sem] theorem res_39 : Try.f39.results.toList = [.tmp 4] := id rfl
@[go_sem] theorem rr_39 : retRef tabX 39 = false := by unfold retRef; rw [fn_39]; exact id (by kernel_rfl)
theorem fn_40 : tabX.fn.get 40 = some Try.f40 := (fitsX.fn 40).trans Try.func40
@[go_sem] theorem zip_40 (a0 a1 : AV) : zipFrom (tabX.keep 40) 0 [a0, a1] = [(0, a0), (1, a1)] := id rfl
@[go_sem] theorem res_40 : Try.f40.results.toList = [.tmp 3] := id rfl
@[go_sem] theorem rr_40 : retRef tabX 40 = false := by unfold retRef; rw [fn_40]; exact id (by kernel_rfl)
theorem fn_41 : tabX.fn.get 41 = some Try.f41 := (fitsX.fn 41).trans Try.func41
@[go_sem] theorem zip_41 (a0 : AV) : zipFrom (tabX.keep 41) 0 [a0] = [(0, a0)] := id rfl
@[go_sem] theorem res_41 : Try.f41.results.toList = [.tmp 1, .tmp 2] := id rfl
@[go_sem] theorem rr_41 : retRef tabX 41 = false := by unfold retRef; rw [fn_41]; exact id (by kernel_rfl)
theorem fn_42 : tabX.fn.get 42 = some Try.f42 := (fitsX.fn 42).trans Try.func42
@[go_sem] theorem zip_42 (a0 a1 a2 a3 : AV) : zipFrom (tabX.keep 42) 0 [a0, a1, a2, a3] = [(0, a0), (1, a1), (2, a2), (3, a3)] := id rfl
@[go_sem] theorem res_42 : Try.f42.results.toList = [.tmp 8, .tmp 9] := id rfl
@[go_sem] theorem rr_42 : retRef tabX 42 = false := by unfold retRef; rw [fn_42]; exact id (by kernel_rfl)
theorem fn_43 : tabX.fn.get 43 = some Try.f43 := (fitsX.fn 43).trans Try.func43
@[go_sem] theorem solo_43_5 : tabX.solo 43 5 = [] := id rfl
@[go_sem] theorem hush_43_5 : tabX.hush 43 5 = true := id rfl
@[go_sem] theorem zip_43 (a0 a1 a2 : AV) : zipFrom (tabX.keep 43) 0 [a0, a1, a2] = [(0, a0), (1, a1), (2, a2)] := id rfl
@[go_sem] theorem res_43 : Try.f43.results.toList = [.tmp 5] := id rfl
@[go_sem] theorem rr_43 : retRef tabX 43 = false := by unfold retRef; rw [fn_43]; exact id (by kernel_rfl)
theorem fn_44 : tabX.fn.get 44 = some Try.f44 := (fitsX.fn 44).trans Try.func44
@[go_sem] theorem zip_44 (a0 : AV) : zipFrom (tabX.keep 44) 0 [a0] = [(0, a0)] := id rfl
@[go_sem] theorem res_44 : Try.f44.results.toList = [.tmp 1, .tmp 2] := id rfl
@[go_sem] theorem rr_44 : retRef tabX 44 = false := by unfold retRef; rw [fn_44]; exact id (by kernel_rfl)
theorem fn_45 : tabX.fn.get 45 = some Try.f45 := (fitsX.fn 45).trans Try.func45
@[go_sem] theorem zip_45 (a0 a1 a2 a3 : AV) : zipFrom (tabX.keep 45) 0 [a0, a1, a2, a3] = [(0, a0), (1, a1), (2, a2), (3, a3)] := id rfl
@[go_sem] theorem res_45 : Try.f45.results.toList = [.tmp 8, .tmp 9] := id rfl
@[go_sem] theorem rr_45 : retRef tabX 45 = false := by unfold retRef; rw [fn_45]; exact id (by kernel_rfl)
theorem fn_46 : tabX.fn.get 46 = some Try.f46 := (fitsX.fn 46).trans Try.func46
@[go_sem] theorem zip_46 (a0 a1 a2 : AV) : zipFrom (tabX.keep 46) 0 [a0, a1, a2] = [(1, a1), (2, a2)] := id rfl
@[go_sem] theorem res_46 : Try.f46.results.toList = [.tmp 5] := id rfl
@[go_sem] theorem rr_46 : retRef tabX 46 = false := by unfold retRef; rw [fn_46]; exact id (by kernel_rfl)
theorem fn_47 : tabX.fn.get 47 = some Try.f47 := (fitsX.fn 47).trans Try.func47
@[go_sem] theorem zip_47 (a0 a1 a2 : AV) : zipFrom (tabX.keep 47) 0 [a0, a1, a2] = [(0, a0), (1, a1), (2, a2)] := id rfl
@[go_sem] theorem res_47 : Try.f47.results.toList = [.tmp 6] := id rfl
@[go_sem] theorem rr_47 : retRef tabX 47 = false := by unfold retRef; rw [fn_47]; exact id (by kernel_rfl)
theorem fn_48 : tabX.fn.get 48 = some Try.f48 := (fitsX.fn 48).trans Try.func48
@[go_sem] theorem zip_48 (a0 a1 : AV) : zipFrom (tabX.keep 48) 0 [a0, a1] = [(0, a0), (1, a1)] := id rfl
@[go_sem] theorem res_48 : Try.f48.results.toList = [.tmp 4] := id rfl
@[go_sem] theorem rr_48 : retRef tabX 48 = false := by unfold retRef; rw [fn_48]; exact id (by kernel_rfl)
theorem fn_49 : tabX.fn.get 49 = some Try.f49 := (fitsX.fn 49).trans Try.func49
@[go_sem] theorem solo_49_4 : tabX.solo 49 4 = [] := id rfl
@[go_sem] theorem solo_49_7 : tabX.solo 49 7 = [] := id rfl
@[go_sem] theorem hush_49_4 : tabX.hush 49 4 = true := id rfl
@[go_sem] theorem hush_49_7 : tabX.hush 49 7 = true := id rfl
@[go_sem] theorem zip_49 (a0 a1 : AV) : zipFrom (tabX.keep 49) 0 [a0, a1] = [(0, a0), (1, a1)] := id rfl
@[go_sem] theorem res_49 : Try.f49.results.toList = [.tmp 4] := id rfl
@[go_sem] theorem rr_49 : retRef tabX 49 = false := by unfold retRef; rw [fn_49]; exact id (by kernel_rfl)
theorem fn_50 : tabX.fn.get 50 = some Try.f50 := (fitsX.fn 50).trans Try.func50
@[go_sem] theorem zip_50 (a0 a1 : AV) : zipFrom (tabX.keep 50) 0 [a0, a1] = [(0, a0), (1, a1)] := id rfl
@[go_sem] theorem res_50 : Try.f50.results.toList = [.tmp 4, .tmp 5] := id rfl
@[go_sem] theorem rr_50 : retRef tabX 50 = true := by unfold retRef; rw [fn_50]; exact id (by kernel_rfl)
theorem fn_51 : tabX.fn.get 51 = some Try.f51 := (fitsX.fn 51).trans Try.func51
@[go_sem] theorem zip_51 (a0 a1 a2 : AV) : zipFrom (tabX.keep 51) 0 [a0, a1, a2] = [(0, a0), (1, a1), (2, a2)] := id rfl
@[go_sem] theorem res_51 : Try.f51.results.toList = [.tmp 6] := id rfl
@[go_sem] theorem rr_51 : retRef tabX 51 = true := by unfold retRef; rw [fn_51]; exact id (by kernel_rfl)
theorem fn_52 : tabX.fn.get 52 = some Try.f52 := (fitsX.fn 52).trans Try.func52
@[go_sem] theorem solo_52_8 : tabX.solo 52 8 = [] := id rfl
@[go_sem] theorem solo_52_9 : tabX.solo 52 9 = [] := id rfl
@[go_sem] theorem hush_52_8 : tabX.hush 52 8 = true := id rfl
@[go_sem] theorem hush_52_9 : tabX.hush 52 9 = true := id rfl
@[go_sem] theorem zip_52 (a0 a1 : AV) : zipFrom (tabX.keep 52) 0 [a0, a1] = [(0, a0), (1, a1)] := id rfl
@[go_sem] theorem res_52 : Try.f52.results.toList = [.tmp 4] := id rfl
@[go_sem] theorem rr_52 : retRef tabX 52 = false := by unfold retRef; rw [fn_52]; exact id (by kernel_rfl)
theorem fn_53 : tabX.fn.get 53 = some Try.f53 := (fitsX.fn 53).trans Try.func53
@[go_sem] theorem zip_53 (a0 a1 a2 : AV) : zipFrom (tabX.keep 53) 0 [a0, a1, a2] = [(0, a0), (1, a1), (2, a2)] := id rfl
@[go_sem] theorem res_53 : Try.f53.results.toList = [.tmp 6] := id rfl
@[go_sem] theorem rr_53 : retRef tabX 53 = false := by unfold retRef; rw [fn_53]; exact id (by kernel_rfl)
theorem fn_54 : tabX.fn.get 54 = some Try.f54 := (fitsX.fn 54).trans Try.func54
@[go_sem] theorem zip_54 (a0 a1 a2 : AV) : zipFrom (tabX.keep 54) 0 [a0, a1, a2] = [(0, a0), (1, a1), (2, a2)] := id rfl
@[go_sem] theorem res_54 : Try.f54.results.toList = [.tmp 6] := id rfl
@[go_sem] theorem rr_54 : retRef tabX 54 = false := by unfold retRef; rw [fn_54]; exact id (by kernel_rfl)
theorem fn_55 : tabX.fn.get 55 = some Try.f55 := (fitsX.fn 55).trans Try.func55
@[go_sem] theorem solo_55_2 : tabX.solo 55 2 = [] := id rfl
@[go_sem] theorem solo_55_6 : tabX.solo 55 6 = [] := id rfl
@[go_sem] theorem hush_55_2 : tabX.hush 55 2 = true := id rfl
@[go_sem] theorem hush_55_6 : tabX.hush 55 6 = true := id rfl
@[go_sem] theorem zip_55 (a0 a1 : AV) : zipFrom (tabX.keep 55) 0 [a0, a1] = [(0, a0), (1, a1)] := id rfl
@[go_sem] theorem res_55 : Try.f55.results.toList = [.tmp 4] := id rfl
@[go_sem] theorem rr_55 : retRef tabX 55 = false := by unfold retRef; rw [fn_55]; exact id (by kernel_rfl)
theorem fn_56 : tabX.fn.get 56 = some Try.f56 := (fitsX.fn 56).trans Try.func56
@[go_sem] theorem zip_56 (a0 a1 : AV) : zipFrom (tabX.keep 56) 0 [a0, a1] = [(0, a0), (1, a1)] := id rfl
@[go_sem] theorem res_56 : Try.f56.results.toList = [.cell 4 52] := id rfl
@[go_sem] theorem rr_56 : retRef tabX 56 = false := by unfold retRef; rw [fn_56]; exact id (by kernel_rfl)
theorem fn_57 : tabX.fn.get 57 = some Try.f57 := (fitsX.fn 57).trans Try.func57
@[go_sem] theorem zip_57 (a0 : AV) : zipFrom (tabX.keep 57) 0 [a0] = [(0, a0)] := id rfl
@[go_sem] theorem res_57 : Try.f57.results.toList = [.tmp 2] := id rfl
@[go_sem] theorem rr_57 : retRef tabX 57 = true := by unfold retRef; rw [fn_57]; exact id (by kernel_rfl)
theorem fn_58 : tabX.fn.get 58 = some Try.f58 := (fitsX.fn 58).trans Try.func58
@[go_sem] theorem zip_58 (a0 a1 : AV) : zipFrom (tabX.keep 58) 0 [a0, a1] = [(0, a0), (1, a1)] := id rfl
@[go_sem] theorem res_58 : Try.f58.results.toList = [.tmp 4] := id rfl
@[go_sem] theorem rr_58 : retRef tabX 58 = false := by unfold retRef; rw [fn_58]; exact id (by kernel_rfl)
theorem fn_59 : tabX.fn.get 59 = some Try.f59 := (fitsX.fn 59).trans Try.func59
@[go_sem] theorem zip_59 (a0 : AV) : zipFrom (tabX.keep 59) 0 [a0] = [(0, a0)] := id rfl
@[go_sem] theorem res_59 : Try.f59.results.toList = [.tmp 2] := id rfl
@[go_sem] theorem rr_59 : retRef tabX 59 = false := by unfold retRef; rw [fn_59]; exact id (by kernel_rfl)
theorem fn_60 : tabX.fn.get 60 = some Try.f60 := (fitsX.fn 60).trans Try.func60
@[go_sem] theorem zip_60 (a0 : AV) : zipFrom (tabX.keep 60) 0 [a0] = [(0, a0)] := id rfl
@[go_sem] theorem res_60 : Try.f60.results.toList = [.tmp 2] := id rfl
@[go_sem] theorem rr_60 : retRef tabX 60 = true := by unfold retRef; rw [fn_60]; exact id (by kernel_rfl)
theorem fn_61 : tabX.fn.get 61 = some Try.f61 := (fitsX.fn 61).trans Try.func61
@[go_sem] theorem zip_61 (a0 a1 : AV) : zipFrom (tabX.keep 61) 0 [a0, a1] = [(0, a0), (1, a1)] := id rfl
@[go_sem] theorem res_61 : Try.f61.results.toList = [.tmp 4] := id rfl
@[go_sem] theorem rr_61 : retRef tabX 61 = false := by unfold retRef; rw [fn_61]; exact id (by kernel_rfl)
theorem fn_62 : tabX.fn.get 62 = some Try.f62 := (fitsX.fn 62).trans Try.func62
@[go_sem] theorem zip_62 (a0 a1 : AV) : zipFrom (tabX.keep 62) 0 [a0, a1] = [(0, a0), (1, a1)] := id rfl
@[go_sem] theorem res_62 : Try.f62.results.toList = [.tmp 3] := id rfl
@[go_sem] theorem rr_62 : retRef tabX 62 = false := by unfold retRef; rw [fn_62]; exact id (by kernel_rfl)
theorem fn_63 : tabX.fn.get 63 = some Try.f63 := (fitsX.fn 63).trans Try.func63
@[go_sem] theorem zip_63 (a0 : AV) : zipFrom (tabX.keep 63) 0 [a0] = [(0, a0)] := id rfl
@[go_sem] theorem res_63 : Try.f63.results.toList = [.tmp 2] := id rfl
@[go_sem] theorem rr_63 : retRef tabX 63 = false := by unfold retRef; rw [fn_63]; exact id (by kernel_rfl)
theorem fn_64 : tabX.fn.get 64 = some Try.f64 := (fitsX.fn 64).trans Try.func64
@[go_sem] theorem zip_64 (noa : AV) : zipFrom (tabX.keep 64) 0 [] = [] := id rfl
@[go_sem] theorem res_64 : Try.f64.results.toList = [.tmp 0] := id rfl
@[go_sem] theorem rr_64 : retRef tabX 64 = false := by unfold retRef; rw [fn_64]; exact id (by kernel_rfl)
theorem fn_65 : tabX.fn.get 65 = some Try.f65 := (fitsX.fn 65).trans Try.func65
@[go_sem] theorem zip_65 (a0 : AV) : zipFrom (tabX.keep 65) 0 [a0] = [(0, a0)] := id rfl
@[go_sem] theorem res_65 : Try.f65.results.toList = [.tmp 2] := id rfl
@[go_sem] theorem rr_65 : retRef tabX 65 = false := by unfold retRef; rw [fn_65]; exact id (by kernel_rfl)
theorem fn_66 : tabX.fn.get 66 = some Try.f66 := (fitsX.fn 66).trans Try.func66
@[go_sem] theorem solo_66_4 : tabX.solo 66 4 = [] := id rfl
@[go_sem] theorem solo_66_5 : tabX.solo 66 5 = [] := id rfl
@[go_sem] theorem hush_66_4 : tabX.hush 66 4 = true := id rfl
@[go_sem] theorem zip_66 (a0 : AV) : zipFrom (tabX.keep 66) 0 [a0] = [(0, a0)] := id rfl
@[go_sem] theorem res_66 : Try.f66.results.toList = [.tmp 2] := id rfl
@[go_sem] theorem rr_66 : retRef tabX 66 = false := by unfold retRef; rw [fn_66]; exact id (by kernel_rfl)
theorem fn_67 : tabX.fn.get 67 = some Try.f67 := (fitsX.fn 67).trans Try.func67
@[go_sem] theorem zip_67 (a0 a1 : AV) : zipFrom (tabX.keep 67) 0 [a0, a1] = [(0, a0), (1, a1)] := id rfl
@[go_sem] theorem res_67 : Try.f67.results.toList = [.tmp 3] := id rfl
@[go_sem] theorem rr_67 : retRef tabX 67 = false := by unfold retRef; rw [fn_67]; exact id (by kernel_rfl)
theorem fn_68 : tabX.fn.get 68 = some Try.f68 := (fitsX.fn 68).trans Try.func68
@[go_sem] theorem zip_68 (a0 a1 : AV) : zipFrom (tabX.keep 68) 0 [a0, a1] = [(0, a0), (1, a1)] := id rfl
@[go_sem] theorem res_68 : Try.f68.results.toList = [.tmp 4] := id rfl
@[go_sem] theorem rr_68 : retRef tabX 68 = false := by unfold retRef; rw [fn_68]; exact id (by kernel_rfl)
theorem fn_69 : tabX.fn.get 69 = some Try.f69 := (fitsX.fn 69).trans Try.func69
@[go_sem] theorem zip_69 (a0 a1 a2 : AV) : zipFrom (tabX.keep 69) 0 [a0, a1, a2] = [(0, a0), (1, a1), (2, a2)] := id rfl
@[go_sem] theorem res_69 : Try.f69.results.toList = [.tmp 4] := id rfl
@[go_sem] theorem rr_69 : retRef tabX 69 = false := by unfold retRef; rw [fn_69]; exact id (by kernel_rfl)
theorem fn_70 : tabX.fn.get 70 = some Try.f70 := (fitsX.fn 70).trans Try.func70
@[go_sem] theorem zip_70 (a0 a1 a2 : AV) : zipFrom (tabX.keep 70) 0 [a0, a1, a2] = [(0, a0), (1, a1), (2, a2)] := id rfl
@[go_sem] theorem res_70 : Try.f70.results.toList = [.tmp 6] := id rfl
@[go_sem] theorem rr_70 : retRef tabX 70 = false := by unfold retRef; rw [fn_70]; exact id (by kernel_rfl)
theorem fn_71 : tabX.fn.get 71 = some Try.f71 := (fitsX.fn 71).trans Try.func71
@[go_sem] theorem zip_71 (a0 a1 : AV) : zipFrom (tabX.keep 71) 0 [a0, a1] = [(0, a0), (1, a1)] := id rfl
@[go_sem] theorem res_71 : Try.f71.results.toList = [.tmp 4] := id rfl
@[go_sem] theorem rr_71 : retRef tabX 71 = false := by unfold retRef; rw [fn_71]; exact id (by kernel_rfl)
theorem fn_72 : tabX.fn.get 72 = some Try.f72 := (fitsX.fn 72).trans Try.func72
@[go_sem] theorem zip_72 (a0 a1 : AV) : zipFrom (tabX.keep 72) 0 [a0, a1] = [(0, a0), (1, a1)] := id rfl
@[go_sem] theorem res_72 : Try.f72.results.toList = [.tmp 4] := id rfl
@[go_sem] theorem rr_72 : retRef tabX 72 = false := by unfold retRef; rw [fn_72]; exact id (by kernel_rfl)
theorem fn_73 : tabX.fn.get 73 = some Try.f73 := (fitsX.fn 73).trans Try.func73
@[go_sem] theorem zip_73 (a0 : AV) : zipFrom (tabX.keep 73) 0 [a0] = [(0, a0)] := id rfl
@[go_sem] theorem res_73 : Try.f73.results.toList = [.tmp 2] := id rfl
@[go_sem] theorem rr_73 : retRef tabX 73 = false := by unfold retRef; rw [fn_73]; exact id (by kernel_rfl)
theorem fn_74 : tabX.fn.get 74 = some Try.f74 := (fitsX.fn 74).trans Try.func74
@[go_sem] theorem zip_74 (a0 a1 a2 : AV) : zipFrom (tabX.keep 74) 0 [a0, a1, a2] = [(0, a0), (1, a1), (2, a2)] := id rfl
@[go_sem] theorem res_74 : Try.f74.results.toList = [.tmp 6] := id rfl
@[go_sem] theorem rr_74 : retRef tabX 74 = false := by unfold retRef; rw [fn_74]; exact id (by kernel_rfl)
theorem fn_75 : tabX.fn.get 75 = some Try.f75 := (fitsX.fn 75).trans Try.func75
@[go_sem] theorem zip_75 (a0 a1 a2 : AV) : zipFrom (tabX.keep 75) 0 [a0, a1, a2] = [(0, a0), (1, a1), (2, a2)] := id rfl
@[go_sem] theorem res_75 : Try.f75.results.toList = [.tmp 3] := id rfl
@[go_sem] theorem rr_75 : retRef tabX 75 = false := by unfold retRef; rw [fn_75]; exact id (by kernel_rfl)
theorem fn_76 : tabX.fn.get 76 = some Try.f76 := (fitsX.fn 76).trans Try.func76
@[go_sem] theorem zip_76 (a0 : AV) : zipFrom (tabX.keep 76) 0 [a0] = [(0, a0)] := id rfl
@[go_sem] theorem res_76 : Try.f76.results.toList = [] := id rfl
@[go_sem] theorem rr_76 : retRef tabX 76 = false := by unfold retRef; rw [fn_76]; exact id (by kernel_rfl)
theorem fn_77 : tabX.fn.get 77 = some Try.f77 := (fitsX.fn 77).trans Try.func77
@[go_sem] theorem solo_77_6 : tabX.solo 77 6 = [] := id rfl
@[go_sem] theorem solo_77_11 : tabX.solo 77 11 = [] := id rfl
@[go_sem] theorem hush_77_6 : tabX.hush 77 6 = true := id rfl
@[go_sem] theorem hush_77_11 : tabX.hush 77 11 = true := id rfl
@[go_sem] theorem zip_77 (a0 : AV) : zipFrom (tabX.keep 77) 0 [a0] = [(0, a0)] := id rfl
@[go_sem] theorem res_77 : Try.f77.results.toList = [.tmp 2] := id rfl
@[go_sem] theorem rr_77 : retRef tabX 77 = false := by unfold retRef; rw [fn_77]; exact id (by kernel_rfl)
theorem fn_78 : tabX.fn.get 78 = some Try.f78 := (fitsX.fn 78).trans Try.func78
@[go_sem] theorem solo_78_1 : tabX.solo 78 1 = [] := id rfl
@[go_sem] theorem hush_78_1 : tabX.hush 78 1 = true := id rfl
@[go_sem] theorem zip_78 (a0 a1 a2 a3 : AV) : zipFrom (tabX.keep 78) 0 [a0, a1, a2, a3] = [(0, a0), (1, a1), (2, a2), (3, a3)] := id rfl
@[go_sem] theorem res_78 : Try.f78.results.toList = [.tmp 8] := id rfl
@[go_sem] theorem rr_78 : retRef tabX 78 = false := by unfold retRef; rw [fn_78]; exact id (by kernel_rfl)
theorem fn_79 : tabX.fn.get 79 = some Try.f79 := (fitsX.fn 79).trans Try.func79
@[go_sem] theorem zip_79 (a0 a1 : AV) : zipFrom (tabX.keep 79) 0 [a0, a1] = [(0, a0), (1, a1)] := id rfl
@[go_sem] theorem res_79 : Try.f79.results.toList = [.tmp 4] := id rfl
@[go_sem] theorem rr_79 : retRef tabX 79 = false := by unfold retRef; rw [fn_79]; exact id (by kernel_rfl)
theorem fn_80 : tabX.fn.get 80 = some Try.f80 := (fitsX.fn 80).trans Try.func80
@[go_sem] theorem solo_80_7 : tabX.solo 80 7 = [] := id rfl
@[go_sem] theorem zip_80 (a0 a1 : AV) : zipFrom (tabX.keep 80) 0 [a0, a1] = [(0, a0), (1, a1)] := id rfl
@[go_sem] theorem res_80 : Try.f80.results.toList = [] := id rfl
@[go_sem] theorem rr_80 : retRef tabX 80 = false := by unfold retRef; rw [fn_80]; exact id (by kernel_rfl)
theorem fn_81 : tabX.fn.get 81 = some Try.f81 := (fitsX.fn 81).trans Try.func81
@[go_sem] theorem solo_81_1 : tabX.solo 81 1 = [[(0, false), (1, false), (2, false), (3, false), (4, false), (5, false), (6, false)], [(0, false), (1, false), (4, false), (2, false), (3, false), (5, false), (6, false)]] := id rfl
@[go_sem] theorem solo_81_6 : tabX.solo 81 6 = [] := id rfl
@[go_sem] theorem solo_81_8 : tabX.solo 81 8 = [[(0, false), (1, false), (2, false), (3, false), (4, false), (5, false), (6, false), (7, false), (8, false), (9, false), (10, false)]] := id rfl
@[go_sem] theorem solo_81_13 : tabX.solo 81 13 = [] := id rfl
@[go_sem] theorem hush_81_1 : tabX.hush 81 1 = true := id rfl
@[go_sem] theorem hush_81_6 : tabX.hush 81 6 = true := id rfl
@[go_sem] theorem hush_81_13 : tabX.hush 81 13 = true := id rfl
@[go_sem] theorem zip_81 (a0 a1 a2 a3 a4 a5 : AV) : zipFrom (tabX.keep 81) 0 [a0, a1, a2, a3, a4, a5] = [(0, a0), (1, a1), (2, a2), (3, a3), (4, a4), (5, a5)] := id rfl
@[go_sem] theorem res_81 : Try.f81.results.toList = [.tmp 7] := id rfl
@[go_sem] theorem rr_81 : retRef tabX 81 = false := by unfold retRef; rw [fn_81]; exact id (by kernel_rfl)
theorem fn_82 : tabX.fn.get 82 = some Try.f82 := (fitsX.fn 82).trans Try.func82
@[go_sem] theorem solo_82_1 : tabX.solo 82 1 = [[(0, false), (1, false), (2, false), (3, false), (4, false), (5, false), (6, false), (7, false), (8, false), (9, false), (10, false), (11, false), (12, false), (13, false), (14, false), (15, false), (16, true), (17, false), (18, false)]] := id rfl
@[go_sem] theorem zip_82 (a0 a1 : AV) : zipFrom (tabX.keep 82) 0 [a0, a1] = [(0, a0), (1, a1)] := id rfl
@[go_sem] theorem res_82 : Try.f82.results.toList = [.tmp 4] := id rfl
@[go_sem] theorem rr_82 : retRef tabX 82 = false := by unfold retRef; rw [fn_82]; exact id (by kernel_rfl)
theorem fn_83 : tabX.fn.get 83 = some Try.f83 := (fitsX.fn 83).trans Try.func83
@[go_sem] theorem zip_83 (a0 : AV) : zipFrom (tabX.keep 83) 0 [a0] = [(0, a0)] := id rfl
@[go_sem] theorem res_83 : Try.f83.results.toList = [.tmp 2] := id rfl
@[go_sem] theorem rr_83 : retRef tabX 83 = true := by unfold retRef; rw [fn_83]; exact id (by kernel_rfl)
theorem fn_84 : tabX.fn.get 84 = some Try.f84 := (fitsX.fn 84).trans Try.func84
@[go_sem] theorem zip_84 (a0 a1 : AV) : zipFrom (tabX.keep 84) 0 [a0, a1] = [(0, a0), (1, a1)] := id rfl
@[go_sem] theorem res_84 : Try.f84.results.toList = [.tmp 4] := id rfl
@[go_sem] theorem rr_84 : retRef tabX 84 = false := by unfold retRef; rw [fn_84]; exact id (by kernel_rfl)
theorem fn_85 : tabX.fn.get 85 = some Try.f85 := (fitsX.fn 85).trans Try.func85
@[go_sem] theorem zip_85 (a0 a1 : AV) : zipFrom (tabX.keep 85) 0 [a0, a1] = [(0, a0), (1, a1)] := id rfl
@[go_sem] theorem res_85 : Try.f85.results.toList = [.tmp 4] := id rfl
@[go_sem] theorem rr_85 : retRef tabX 85 = false := by unfold retRef; rw [fn_85]; exact id (by kernel_rfl)
theorem fn_86 : tabX.fn.get 86 = some Try.f86 := (fitsX.fn 86).trans Try.func86
@[go_sem] theorem zip_86 (a0 a1 a2 : AV) : zipFrom (tabX.keep 86) 0 [a0, a1, a2] = [(0, a0), (1, a1), (2, a2)] := id rfl
@[go_sem] theorem res_86 : Try.f86.results.toList = [.tmp 4] := id rfl
@[go_sem] theorem rr_86 : retRef tabX 86 = false := by unfold retRef; rw [fn_86]; exact id (by kernel_rfl)
theorem fn_87 : tabX.fn.get 87 = some Try.f87 := (fitsX.fn 87).trans Try.func87
@[go_sem] theorem solo_87_17 : tabX.solo 87 17 = [] := id rfl
@[go_sem] theorem hush_87_17 : tabX.hush 87 17 = true := id rfl
@[go_sem] theorem zip_87 (a0 a1 a2 a3 : AV) : zipFrom (tabX.keep 87) 0 [a0, a1, a2, a3] = [(0, a0), (1, a1), (2, a2), (3, a3)] := id rfl
@[go_sem] theorem res_87 : Try.f87.results.toList = [] := id rfl
@[go_sem] theorem rr_87 : retRef tabX 87 = false := by unfold retRef; rw [fn_87]; exact id (by kernel_rfl)
theorem fn_88 : tabX.fn.get 88 = some Try.f88 := (fitsX.fn 88).trans Try.func88
@[go_sem] theorem zip_88 (a0 : AV) : zipFrom (tabX.keep 88) 0 [a0] = [(0, a0)] := id rfl
@[go_sem] theorem res_88 : Try.f88.results.toList = [.tmp 2] := id rfl
@[go_sem] theorem rr_88 : retRef tabX 88 = false := by unfold retRef; rw [fn_88]; exact id (by kernel_rfl)
theorem fn_89 : tabX.fn.get 89 = some Try.f89 := (fitsX.fn 89).trans Try.func89
@[go_sem] theorem zip_89 (a0 a1 : AV) : zipFrom (tabX.keep 89) 0 [a0, a1] = [(0, a0), (1, a1)] := id rfl
@[go_sem] theorem res_89 : Try.f89.results.toList = [.tmp 4] := id rfl
@[go_sem] theorem rr_89 : retRef tabX 89 = false := by unfold retRef; rw [fn_89]; exact id (by kernel_rfl)
theorem fn_90 : tabX.fn.get 90 = some Try.f90 := (fitsX.fn 90).trans Try.func90
@[go_sem] theorem zip_90 (a0 a1 : AV) : zipFrom (tabX.keep 90) 0 [a0, a1] = [(0, a0), (1, a1)] := id rfl
@[go_sem] theorem res_90 : Try.f90.results.toList = [.tmp 3] := id rfl
@[go_sem] theorem rr_90 : retRef tabX 90 = false := by unfold retRef; rw [fn_90]; exact id (by kernel_rfl)
theorem fn_91 : tabX.fn.get 91 = some Try.f91 := (fitsX.fn 91).trans Try.func91
@[go_sem] theorem solo_91_6 : tabX.solo 91 6 = [] := id rfl
@[go_sem] theorem hush_91_6 : tabX.hush 91 6 = true := id rfl
@[go_sem] theorem zip_91 (a0 a1 : AV) : zipFrom (tabX.keep 91) 0 [a0, a1] = [(0, a0), (1, a1)] := id rfl
@[go_sem] theorem res_91 : Try.f91.results.toList = [] := id rfl
@[go_sem] theorem rr_91 : retRef tabX 91 = false := by unfold retRef; rw [fn_91]; exact id (by kernel_rfl)
theorem fn_92 : tabX.fn.get 92 = some Try.f92 := (fitsX.fn 92).trans Try.func92
@[go_sem] theorem zip_92 (a0 a1 : AV) : zipFrom (tabX.keep 92) 0 [a0, a1] = [(0, a0), (1, a1)] := id rfl
@[go_sem] theorem res_92 : Try.f92.results.toList = [.tmp 4] := id rfl
@[go_sem] theorem rr_92 : retRef tabX 92 = false := by unfold retRef; rw [fn_92]; exact id (by kernel_rfl)
theorem fn_93 : tabX.fn.get 93 = some Try.f93 := (fitsX.fn 93).trans Try.func93
@[go_sem] theorem solo_93_4 : tabX.solo 93 4 = [] := id rfl
@[go_sem] theorem solo_93_6 : tabX.solo 93 6 = [] := id rfl
@[go_sem] theorem hush_93_4 : tabX.hush 93 4 = true := id rfl
@[go_sem] theorem zip_93 (a0 a1 a2 : AV) : zipFrom (tabX.keep 93) 0 [a0, a1, a2] = [(0, a0), (1, a1), (2, a2)] := id rfl
@[go_sem] theorem res_93 : Try.f93.results.toList = [] := id rfl
@[go_sem] theorem rr_93 : retRef tabX 93 = false := by unfold retRef; rw [fn_93]; exact id (by kernel_rfl)
theorem fn_94 : tabX.fn.get 94 = some Try.f94 := (fitsX.fn 94).trans Try.func94
@[go_sem] theorem solo_94_10 : tabX.solo 94 10 = [] := id rfl
@[go_sem] theorem zip_94 (a0 a1 a2 : AV) : zipFrom (tabX.keep 94) 0 [a0, a1, a2] = [(0, a0), (1, a1), (2, a2)] := id rfl
@[go_sem] theorem res_94 : Try.f94.results.toList = [] := id rfl
@[go_sem] theorem rr_94 : retRef tabX 94 = false := by unfold retRef; rw [fn_94]; exact id (by kernel_rfl)
theorem fn_95 : tabX.fn.get 95 = some Try.f95 := (fitsX.fn 95).trans Try.func95
@[go_sem] theorem solo_95_10 : tabX.solo 95 10 = [] := id rfl
@[go_sem] theorem zip_95 (a0 a1 a2 : AV) : zipFrom (tabX.keep 95) 0 [a0, a1, a2] = [(0, a0), (1, a1), (2, a2)] := id rfl
@[go_sem] theorem res_95 : Try.f95.results.toList = [] := id rfl
@[go_sem] theorem rr_95 : retRef tabX 95 = false := by unfold retRef; rw [fn_95]; exact id (by kernel_rfl)
theorem fn_96 : tabX.fn.get 96 = some Try.f96 := (fitsX.fn 96).trans Try.func96
@[go_sem] theorem zip_96 (a0 a1 a2 : AV) : zipFrom (tabX.keep 96) 0 [a0, a1, a2] = [(0, a0), (1, a1), (2, a2)] := id rfl
@[go_sem] theorem res_96 : Try.f96.results.toList = [.tmp 6, .tmp 7] := id rfl
@[go_sem] theorem rr_96 : retRef tabX 96 = false := by unfold retRef; rw [fn_96]; exact id (by kernel_rfl)
theorem fn_97 : tabX.fn.get 97 = some Try.f97 := (fitsX.fn 97).trans Try.func97
@[go_sem] theorem solo_97_3 : tabX.solo 97 3 = [] := id rfl
@[go_sem] theorem zip_97 (a0 a1 a2 : AV) : zipFrom (tabX.keep 97) 0 [a0, a1, a2] = [(0, a0), (1, a1), (2, a2)] := id rfl
@[go_sem] theorem res_97 : Try.f97.results.toList = [] := id rfl
@[go_sem] theorem rr_97 : retRef tabX 97 = false := by unfold retRef; rw [fn_97]; exact id (by kernel_rfl)
theorem fn_98 : tabX.fn.get 98 = some Try.f98 := (fitsX.fn 98).trans Try.func98
@[go_sem] theorem solo_98_5 : tabX.solo 98 5 = [] := id rfl
@[go_sem] theorem solo_98_11 : tabX.solo 98 11 = [] := id rfl
@[go_sem] theorem solo_98_16 : tabX.solo 98 16 = [] := id rfl
@[go_sem] theorem solo_98_17 : tabX.solo 98 17 = [] := id rfl
@[go_sem] theorem solo_98_22 : tabX.solo 98 22 = [] := id rfl
@[go_sem] theorem solo_98_23 : tabX.solo 98 23 = [] := id rfl
@[go_sem] theorem hush_98_5 : tabX.hush 98 5 = true := id rfl
@[go_sem] theorem hush_98_16 : tabX.hush 98 16 = true := id rfl
@[go_sem] theorem hush_98_22 : tabX.hush 98 22 = true := id rfl
@[go_sem] theorem zip_98 (a0 a1 a2 : AV) : zipFrom (tabX.keep 98) 0 [a0, a1, a2] = [(0, a0), (1, a1), (2, a2)] := id rfl
@[go_sem] theorem res_98 : Try.f98.results.toList = [.tmp 6] := id rfl
@[go_sem] theorem rr_98 : retRef tabX 98 = false := by unfold retRef; rw [fn_98]; exact id (by kernel_rfl)
theorem fn_99 : tabX.fn.get 99 = some Try.f99 := (fitsX.fn 99).trans Try.func99
@[go_sem] theorem zip_99 (a0 a1 : AV) : zipFrom (tabX.keep 99) 0 [a0, a1] = [(0, a0), (1, a1)] := id rfl
@[go_sem] theorem res_99 : Try.f99.results.toList = [.tmp 4] := id rfl
@[go_sem] theorem rr_99 : retRef tabX 99 = false := by unfold retRef; rw [fn_99]; exact id (by kernel_rfl)
theorem fn_100 : tabX.fn.get 100 = some Try.f100 := (fitsX.fn 100).trans Try.func100
@[go_sem] theorem solo_100_1 : tabX.solo 100 1 = [] := id rfl
@[go_sem] theorem solo_100_3 : tabX.solo 100 3 = [] := id rfl
@[go_sem] theorem solo_100_5 : tabX.solo 100 5 = [] := id rfl
@[go_sem] theorem solo_100_8 : tabX.solo 100 8 = [] := id rfl
@[go_sem] theorem hush_100_3 : tabX.hush 100 3 = true := id rfl
@[go_sem] theorem hush_100_5 : tabX.hush 100 5 = true := id rfl
@[go_sem] theorem zip_100 (a0 a1 a2 a3 : AV) : zipFrom (tabX.keep 100) 0 [a0, a1, a2, a3] = [(0, a0), (1, a1), (2, a2), (3, a3)] := id rfl
@[go_sem] theorem res_100 : Try.f100.results.toList = [.tmp 8] := id rfl
@[go_sem] theorem rr_100 : retRef tabX 100 = false := by unfold retRef; rw [fn_100]; exact id (by kernel_rfl)
theorem fn_101 : tabX.fn.get 101 = some Try.f101 := (fitsX.fn 101).trans Try.func101
@[go_sem] theorem solo_101_1 : tabX.solo 101 1 = [] := id rfl
@[go_sem] theorem solo_101_3 : tabX.solo 101 3 = [] := id rfl
@[go_sem] theorem solo_101_5 : tabX.solo 101 5 = [] := id rfl
@[go_sem] theorem solo_101_8 : tabX.solo 101 8 = [] := id rfl
@[go_sem] theorem solo_101_10 : tabX.solo 101 10 = [] := id rfl
@[go_sem] theorem solo_101_13 : tabX.solo 101 13 = [] := id rfl
@[go_sem] theorem solo_101_15 : tabX.solo 101 15 = [] := id rfl
@[go_sem] theorem solo_101_18 : tabX.solo 101 18 = [] := id rfl
@[go_sem] theorem solo_101_21 : tabX.solo 101 21 = [] := id rfl
@[go_sem] theorem hush_101_3 : tabX.hush 101 3 = true := id rfl
@[go_sem] theorem hush_101_5 : tabX.hush 101 5 = true := id rfl
@[go_sem] theorem hush_101_13 : tabX.hush 101 13 = true := id rfl
@[go_sem] theorem hush_101_15 : tabX.hush 101 15 = true := id rfl
@[go_sem] theorem zip_101 (a0 a1 a2 a3 : AV) : zipFrom (tabX.keep 101) 0 [a0, a1, a2, a3] = [(0, a0), (1, a1), (2, a2), (3, a3)] := id rfl
@[go_sem] theorem res_101 : Try.f101.results.toList = [.tmp 8, .tmp 9] := id rfl
@[go_sem] theorem rr_101 : retRef tabX 101 = false := by unfold retRef; rw [fn_101]; exact id (by kernel_rfl)
theorem fn_102 : tabX.fn.get 102 = some Try.f102 := (fitsX.fn 102).trans Try.func102
@[go_sem] theorem zip_102 (a0 : AV) : zipFrom (tabX.keep 102) 0 [a0] = [(0, a0)] := id rfl
@[go_sem] theorem res_102 : Try.f102.results.toList = [.tmp 2] := id rfl
@[go_sem] theorem rr_102 : retRef tabX 102 = false := by unfold retRef; rw [fn_102]; exact id (by kernel_rfl)
theorem fn_103 : tabX.fn.get 103 = some Try.f103 := (fitsX.fn 103).trans Try.func103
@[go_sem] theorem zip_103 (a0 : AV) : zipFrom (tabX.keep 103) 0 [a0] = [(0, a0)] := id rfl
@[go_sem] theorem res_103 : Try.f103.results.toList = [.tmp 2] := id rfl
@[go_sem] theorem rr_103 : retRef tabX 103 = false := by unfold retRef; rw [fn_103]; exact id (by kernel_rfl)
theorem fn_104 : tabX.fn.get 104 = some Try.f104 := (fitsX.fn 104).trans Try.func104
@[go_sem] theorem zip_104 (a0 a1 : AV) : zipFrom (tabX.keep 104) 0 [a0, a1] = [(0, a0), (1, a1)] := id rfl
@[go_sem] theorem res_104 : Try.f104.results.toList = [.tmp 4] := id rfl
@[go_sem] theorem rr_104 : retRef tabX 104 = false := by unfold retRef; rw [fn_104]; exact id (by kernel_rfl)
theorem fn_105 : tabX.fn.get 105 = some Try.f105 := (fitsX.fn 105).trans Try.func105
@[go_sem] theorem zip_105 (a0 : AV) : zipFrom (tabX.keep 105) 0 [a0] = [(0, a0)] := id rfl
@[go_sem] theorem res_105 : Try.f105.results.toList = [.tmp 2] := id rfl
@[go_sem] theorem rr_105 : retRef tabX 105 = false := by unfold retRef; rw [fn_105]; exact id (by kernel_rfl)
theorem fn_106 : tabX.fn.get 106 = some Try.f106 := (fitsX.fn 106).trans Try.func106
@[go_sem] theorem solo_106_3 : tabX.solo 106 3 = [] := id rfl
@[go_sem] theorem solo_106_5 : tabX.solo 106 5 = [] := id rfl
@[go_sem] theorem solo_106_6 : tabX.solo 106 6 = [] := id rfl
@[go_sem] theorem hush_106_3 : tabX.hush 106 3 = true := id rfl
@[go_sem] theorem hush_106_5 : tabX.hush 106 5 = true := id rfl
@[go_sem] theorem zip_106 (a0 a1 a2 a3 : AV) : zipFrom (tabX.keep 106) 0 [a0, a1, a2, a3] = [(0, a0), (1, a1), (2, a2), (3, a3)] := id rfl
@[go_sem] theorem res_106 : Try.f106.results.toList = [] := id rfl
@[go_sem] theorem rr_106 : retRef tabX 106 = false := by unfold retRef; rw [fn_106]; exact id (by kernel_rfl)
theorem fn_107 : tabX.fn.get 107 = some Try.f107 := (fitsX.fn 107).trans Try.func107
@[go_sem] theorem zip_107 (a0 : AV) : zipFrom (tabX.keep 107) 0 [a0] = [(0, a0)] := id rfl
@[go_sem] theorem res_107 : Try.f107.results.toList = [.tmp 2] := id rfl
@[go_sem] theorem rr_107 : retRef tabX 107 = false := by unfold retRef; rw [fn_107]; exact id (by kernel_rfl)
theorem fn_108 : tabX.fn.get 108 = some Try.f108 := (fitsX.fn 108).trans Try.func108
@[go_sem] theorem solo_108_1 : tabX.solo 108 1 = [] := id rfl
@[go_sem] theorem solo_108_2 : tabX.solo 108 2 = [] := id rfl
@[go_sem] theorem solo_108_3 : tabX.solo 108 3 = [] := id rfl
@[go_sem] theorem zip_108 (a0 : AV) : zipFrom (tabX.keep 108) 0 [a0] = [(0, a0)] := id rfl
@[go_sem] theorem res_108 : Try.f108.results.toList = [.tmp 2] := id rfl
@[go_sem] theorem rr_108 : retRef tabX 108 = false := by unfold retRef; rw [fn_108]; exact id (by kernel_rfl)
theorem fn_109 : tabX.fn.get 109 = some Try.f109 := (fitsX.fn 109).trans Try.func109
@[go_sem] theorem zip_109 (a0 a1 a2 : AV) : zipFrom (tabX.keep 109) 0 [a0, a1, a2] = [(0, a0), (1, a1), (2, a2)] := id rfl
@[go_sem] theorem res_109 : Try.f109.results.toList = [.tmp 6] := id rfl
@[go_sem] theorem rr_109 : retRef tabX 109 = false := by unfold retRef; rw [fn_109]; exact id (by kernel_rfl)
theorem fn_110 : tabX.fn.get 110 = some Try.f110 := (fitsX.fn 110).trans Try.func110
@[go_sem] theorem zip_110 (a0 a1 a2 a3 a4 : AV) : zipFrom (tabX.keep 110) 0 [a0, a1, a2, a3, a4] = [(0, a0), (1, a1), (2, a2), (3, a3), (4, a4)] := id rfl
@[go_sem] theorem res_110 : Try.f110.results.toList = [.tmp 10] := id rfl
@[go_sem] theorem rr_110 : retRef tabX 110 = false := by unfold retRef; rw [fn_110]; exact id (by kernel_rfl)
theorem fn_111 : tabX.fn.get 111 = some Try.f111 := (fitsX.fn 111).trans Try.func111
@[go_sem] theorem solo_111_1 : tabX.solo 111 1 = [] := id rfl
@[go_sem] theorem hush_111_1 : tabX.hush 111 1 = true := id rfl
@[go_sem] theorem zip_111 (a0 a1 a2 a3 : AV) : zipFrom (tabX.keep 111) 0 [a0, a1, a2, a3] = [(0, a0), (1, a1), (2, a2), (3, a3)] := id rfl
@[go_sem] theorem res_111 : Try.f111.results.toList = [.tmp 8, .tmp 9] := id rfl
@[go_sem] theorem rr_111 : retRef tabX 111 = false := by unfold retRef; rw [fn_111]; exact id (by kernel_rfl)
end Go.Proofs.Ythkpjbgadkkeeaa
