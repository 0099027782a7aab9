/- Parts of the proof, joined: What the tables of the abstract interpreter hold. What the tables of the abstract interpreter hold. What the tables of the abstract interpreter hold. What the tables of the abstract interpreter hold. What a letter can cost, by the program, before it is put in order: the run of the first codes of F52. Steps of the model by hand: operations of a region. The library's sort and compact, laid at this program. What a letter can cost, in order: the contract of F52. What a letter can cost: F52 as a contract that is proved by other means. Z-numbers. The library's Builder, laid at this program. Z-numbers. A letter's text: the contract. Z-numbers. The tables of the abstract interpreter, with the contracts of F60 and F97. Conditions: those of each law. -/
import Derived.Test.YthkpjbgadkkeeaaGreatQ4
import Derived.Test.YthkpjbgadkkeeaaGreatProg
import Derived.Shelf.SortM.Plain
import Derived.Shelf.SortM.SortNone
import Derived.Shelf.SlicesG.CompactI
import Derived.Shelf.Strings.BuilderK
import Derived.WalkKit
import Derived.BigCall
set_option linter.unusedSimpArgs false
set_option linter.unusedVariables false
section
namespace Go.Proofs.YthkpjbgadkkeeaaGreat.C0
open Go.Proofs Go.Proofs.YthkpjbgadkkeeaaGreat
@[go_sem] theorem ty_3 : tab0.ty.get 3 = some { sz := 1, bytes := 8, ag := false, row := Row.none, ik := some IntKind.i64, flds := [], zero := some (AV.int IntKind.i64 (0)), mp := none, eqt := none, isBool := false, isRef := false, fok := false, und := true } := id (by kernel_rfl)
@[go_sem] theorem ty_4 : tab0.ty.get 4 = some { sz := 1, bytes := 1, ag := false, row := Row.none, ik := none, flds := [], zero := some (AV.bool false), mp := none, eqt := none, isBool := true, isRef := false, fok := false, und := true } := id (by kernel_rfl)
@[go_sem] theorem ty_5 : tab0.ty.get 5 = some { sz := 1, bytes := 1, ag := false, row := Row.none, ik := some IntKind.u8, flds := [], zero := some (AV.int IntKind.u8 (0)), mp := none, eqt := none, isBool := false, isRef := false, fok := false, und := true } := id (by kernel_rfl)
end Go.Proofs.YthkpjbgadkkeeaaGreat.C0
end
section
namespace Go.Proofs.YthkpjbgadkkeeaaGreat.C0
open Go.Proofs Go.Proofs.YthkpjbgadkkeeaaGreat
@[go_sem] theorem ty_22 : tab0.ty.get 22 = some { sz := 1, bytes := 24, ag := false, row := Row.slice 3, ik := none, flds := [], zero := some (AV.lst 1 0 []), mp := none, eqt := none, isBool := false, isRef := false, fok := false, und := true } := id (by kernel_rfl)
@[go_sem] theorem ty_24 : tab0.ty.get 24 = some { sz := 1, bytes := 24, ag := false, row := Row.slice 49, ik := none, flds := [], zero := some (AV.lst 1 0 []), mp := none, eqt := none, isBool := false, isRef := false, fok := false, und := true } := id (by kernel_rfl)
@[go_sem] theorem ty_25 : tab0.ty.get 25 = some { sz := 1, bytes := 24, ag := false, row := Row.slice 83, ik := none, flds := [], zero := some (AV.lst 1 0 []), mp := none, eqt := none, isBool := false, isRef := false, fok := false, und := true } := id (by kernel_rfl)
@[go_sem] theorem ty_27 : tab0.ty.get 27 = some { sz := 9, bytes := 136, ag := true, row := Row.none, ik := none, flds := [(0, 1, false), (1, 1, false), (2, 1, false), (3, 1, false), (4, 1, false), (5, 1, false), (6, 1, false), (7, 1, false), (8, 1, false)], zero := some (AV.agg [AV.int IntKind.i64 (0), AV.int IntKind.i64 (0), AV.int IntKind.i64 (0), AV.int IntKind.i64 (0), AV.int IntKind.i64 (0), AV.lst 1 0 [], AV.lst 1 0 [], AV.lst 1 0 [], AV.lst 1 0 []]), mp := none, eqt := none, isBool := false, isRef := false, fok := true, und := true } := id (by kernel_rfl)
@[go_sem] theorem ty_29 : tab0.ty.get 29 = some { sz := 2, bytes := 16, ag := true, row := Row.none, ik := none, flds := [(0, 1, false), (1, 1, false)], zero := some (AV.agg [AV.int IntKind.i64 (0), AV.int IntKind.i64 (0)]), mp := none, eqt := some [0, 0], isBool := false, isRef := false, fok := true, und := true } := id (by kernel_rfl)
@[go_sem] theorem ty_49 : tab0.ty.get 49 = some { sz := 8, bytes := 64, ag := true, row := Row.none, ik := none, flds := [(0, 1, false), (1, 1, false), (2, 1, false), (3, 2, true), (5, 2, true), (7, 1, false)], zero := some (AV.agg [AV.int IntKind.i64 (0), AV.int IntKind.i64 (0), AV.int IntKind.i64 (0), AV.int IntKind.i64 (0), AV.int IntKind.i64 (0), AV.int IntKind.i64 (0), AV.int IntKind.i64 (0), AV.bool false]), mp := none, eqt := none, isBool := false, isRef := false, fok := true, und := true } := id (by kernel_rfl)
@[go_sem] theorem ty_83 : tab0.ty.get 83 = some { sz := 2, bytes := 16, ag := true, row := Row.none, ik := none, flds := [(0, 1, false), (1, 1, false)], zero := some (AV.agg [AV.int IntKind.i64 (0), AV.int IntKind.i64 (0)]), mp := none, eqt := some [0, 0], isBool := false, isRef := false, fok := true, und := true } := id (by kernel_rfl)
@[go_sem] theorem ty_85 : tab0.ty.get 85 = some { sz := 1, bytes := 8, ag := false, row := Row.none, ik := none, flds := [], zero := some AV.nilp, mp := none, eqt := none, isBool := false, isRef := true, fok := false, und := true } := id (by kernel_rfl)
@[go_sem] theorem ty_118 : tab0.ty.get 118 = some { sz := 11, bytes := 152, ag := true, row := Row.none, ik := none, flds := [(0, 9, true), (9, 1, false), (10, 1, false)], zero := some (AV.agg [AV.int IntKind.i64 (0), AV.int IntKind.i64 (0), AV.int IntKind.i64 (0), AV.int IntKind.i64 (0), AV.int IntKind.i64 (0), AV.lst 1 0 [], AV.lst 1 0 [], AV.lst 1 0 [], AV.lst 1 0 [], AV.int IntKind.i64 (0), AV.int IntKind.i64 (0)]), mp := none, eqt := none, isBool := false, isRef := false, fok := true, und := true } := id (by kernel_rfl)
end Go.Proofs.YthkpjbgadkkeeaaGreat.C0
end
section
namespace Go.Proofs.YthkpjbgadkkeeaaGreat.C0
open Go.Proofs Go.Proofs.YthkpjbgadkkeeaaGreat
theorem fn_60 : tab0.fn.get 60 = some Tryz.f60 := (fits0.fn 60).trans Tryz.func60
@[go_sem] theorem solo_60_8 : tab0.solo 60 8 = [] := id rfl
@[go_sem] theorem solo_60_9 : tab0.solo 60 9 = [] := id rfl
@[go_sem] theorem hush_60_8 : tab0.hush 60 8 = true := id rfl
@[go_sem] theorem hush_60_9 : tab0.hush 60 9 = true := id rfl
@[go_sem] theorem zip_60 (a0 a1 : AV) : zipFrom (tab0.keep 60) 0 [a0, a1] = [(0, a0), (1, a1)] := id rfl
@[go_sem] theorem rr_60 : retRef tab0 60 = false := by unfold retRef; rw [fn_60]; exact id (by kernel_rfl)
end Go.Proofs.YthkpjbgadkkeeaaGreat.C0
end
section
namespace Go.Proofs.YthkpjbgadkkeeaaGreat.C0
open Go.Proofs Go.Proofs.YthkpjbgadkkeeaaGreat
abbrev KY (t f : Nat) : Prop := isIn t (tab0.keep f) = true
abbrev KN (t f : Nat) : Prop := isIn t (tab0.keep f) = false
@[go_sem] theorem is_60_0 : KY 4 60 ∧ KY 5 60 ∧ KY 6 60 ∧ KY 7 60 ∧ KY 8 60 ∧ KY 9 60 ∧ KY 10 60 ∧ KN 11 60 ∧ KN 12 60 ∧ KN 13 60 ∧ KN 14 60 ∧ KN 15 60 ∧ KN 16 60 ∧ KN 17 60 ∧ KN 18 60 ∧ KN 19 60 ∧ KN 20 60 ∧ KN 21 60 ∧ KN 22 60 ∧ KN 23 60 ∧ KN 24 60 ∧ KN 25 60 ∧ KY 26 60 ∧ KN 27 60 ∧ KN 28 60 ∧ KY 29 60 ∧ KY 30 60 ∧ KN 31 60 ∧ KN 32 60 ∧ KN 33 60 := by decide +kernel
@[go_sem] theorem is_60_30 : KN 34 60 ∧ KN 35 60 ∧ KN 36 60 ∧ KN 37 60 ∧ KN 38 60 ∧ KN 39 60 ∧ KN 40 60 ∧ KN 41 60 ∧ KN 42 60 ∧ KN 43 60 ∧ KN 44 60 ∧ KN 45 60 ∧ KN 46 60 ∧ KN 47 60 ∧ KN 48 60 ∧ KN 49 60 ∧ KN 50 60 ∧ KN 51 60 ∧ KN 52 60 ∧ KN 53 60 ∧ KN 54 60 ∧ KN 55 60 ∧ KN 56 60 ∧ KN 57 60 ∧ KN 58 60 ∧ KY 59 60 ∧ KN 60 60 ∧ KN 61 60 ∧ KN 62 60 ∧ KN 63 60 := by decide +kernel
@[go_sem] theorem is_60_60 : KN 64 60 ∧ KN 65 60 ∧ KN 66 60 ∧ KN 67 60 ∧ KN 68 60 ∧ KN 69 60 ∧ KN 70 60 ∧ KN 71 60 ∧ KN 72 60 ∧ KN 73 60 ∧ KN 74 60 ∧ KN 75 60 ∧ KN 76 60 ∧ KN 77 60 ∧ KN 78 60 ∧ KN 79 60 ∧ KN 80 60 ∧ KN 81 60 ∧ KN 82 60 ∧ KN 83 60 ∧ KN 84 60 ∧ KN 85 60 ∧ KN 86 60 ∧ KN 87 60 ∧ KN 88 60 ∧ KY 89 60 ∧ KY 90 60 ∧ KY 91 60 ∧ KY 92 60 ∧ KN 93 60 := by decide +kernel
@[go_sem] theorem is_60_90 : KN 94 60 ∧ KN 95 60 ∧ KN 96 60 ∧ KN 97 60 ∧ KN 98 60 ∧ KN 99 60 ∧ KN 100 60 ∧ KN 101 60 ∧ KN 102 60 ∧ KN 103 60 ∧ KN 104 60 ∧ KN 105 60 ∧ KN 106 60 ∧ KN 107 60 ∧ KN 108 60 ∧ KN 109 60 ∧ KN 110 60 ∧ KN 111 60 ∧ KN 112 60 ∧ KN 113 60 ∧ KN 114 60 ∧ KN 115 60 ∧ KN 116 60 ∧ KY 117 60 ∧ KN 118 60 ∧ KN 119 60 ∧ KN 120 60 ∧ KN 121 60 ∧ KN 122 60 ∧ KN 123 60 := by decide +kernel
@[go_sem] theorem dp_60 : kindK (tab0.keep 60) = 0 := id rfl
end Go.Proofs.YthkpjbgadkkeeaaGreat.C0
end
namespace Go.Proofs.YthkpjbgadkkeeaaGreat
section
open Go.Proofs Go.Proofs.YthkpjbgadkkeeaaGreat.C0
noncomputable def code52 : Code := match Tryz.f60.body with | some (.seq a (.seq b (.seq c _))) => .seq a (.seq b c) | _ => .skip
noncomputable def tail52 : Code := match Tryz.f60.body with | some (.seq _ (.seq _ (.seq _ t))) => t | _ => .skip
def OwnN (tag z n : Nat) (t : List Bool) : Prop := (tag = 1 ∧ z = 0 ∧ n = 0) ∨ (0 < n ∧ ∃ q, tag = q + 2 ∧ z = 1 ∧ t[q]? = some true)
theorem OwnN.own {tag z n : Nat} {t : List Bool} (h : OwnN tag z n t) : OwnS 1 tag z n t := by
 rcases h with ⟨a, _, b⟩ | ⟨_, c⟩
 ·exact .inl ⟨a, b⟩
 ·exact .inr c
structure CS where
 B : List ABlk
 t : List Bool
 tg : Nat
 z : Nat
set_option maxHeartbeats 4000000 in
set_option maxRecDepth 100000 in
theorem run52 (d : Fu) (hd : d.fits) (ho : d.Ok) (refused but : Nat) (hbut : but < 32) (at' : Nat) (v : Vi) (hv : d.visits[at']? = some v) :
  ∃ (s : CS) (g : Slots), OwnN s.tg s.z (rawTo d but at' v (linesN v)).length s.t ∧
   getF ⟨g, []⟩ 4 = .lst s.tg s.z (I (rawTo d but at' v (linesN v))) ∧
   (EW tab0).code 60 none code52 ⟨⟨zipFrom (tab0.keep 60) 0 [.eptr (eFs d refused but), .int .i64 (at' : Int)], []⟩, ⟨[], []⟩, []⟩ = some (.normal, ⟨⟨g, []⟩, ⟨bVi v :: s.B, s.t⟩, []⟩) := by
 have hlt : at' < d.visits.length := (List.getElem?_eq_some_iff.1 hv).1
 have hmem : v ∈ d.visits := List.mem_iff_getElem?.2 ⟨at', hv⟩
 have hzv := hd.zv (by intro e; rw [e] at hlt; simp at hlt)
 have hvo := ho.visit v hmem
 have hat : (at' : Int) < d.visits.length := by omega
 have h5 := ho.visits
 have hkind := hvo.kind
 have hline := hvo.line
 have hhour := hvo.hour
 have hopn := ho.opn
 have hlate := ho.late
 have hfrm := ho.frm
 have hzl := hd.zl (by intro e; rw [e] at hkind; simp at hkind; omega)
 have hkl : v.kind.toNat < d.lines.length := by omega
 have hkx := List.getElem?_eq_getElem hkl
 have hkn : ¬ v.kind < 0 := by omega
 have hkb := ho.line _ (List.getElem_mem hkl)
 have hkd : d.lines.getD v.kind.toNat 0 = d.lines[v.kind.toNat] := by simp [hkl]
 have hnn : (linesN v : Int) = v.lhi + 1 - v.llo := by unfold linesN; omega
 generalize hR : (EW tab0).code 60 none code52 _ = r
 have hc : (EW tab0).code 60 none (Code.seq _ (Code.seq _ _)) _ = r := hR
 simp only [go_sem, ↓reduceIte, simprocAttr, eFs, hzv, hat, hv, eVi] at hc
 generalize hx : (EW tab0).code 60 none (Code.loop _) _ = x at hc
 refine w_rounds_sk hx (fun k (s : CS) => [(4, .lst s.tg s.z (I (rawTo d but at' v k))), (6, .int .i64 (v.llo + (k : Int)))]) (fun s => ⟨bVi v :: s.B, s.t⟩) (fun k s => OwnN s.tg s.z (rawTo d but at' v k).length s.t) (linesN v) (.exit 0) (fun s => [(4, .lst s.tg s.z (I (rawTo d but at' v (linesN v)))), (6, .int .i64 (v.lhi + 1))]) rfl ⟨[], [], 1, 0⟩ ?_ ?_ ?_ ?_ ?_ ?_
 ·simp only [go_sem, ↓reduceIte, simprocAttr, rawTo, List.range_zero, List.flatMap_nil, Int.add_zero]
 ·simp only [bVi]
 ·exact .inl ⟨rfl, rfl, rfl⟩
 ·intro k s hk hR
  obtain ⟨B, t, tg, z⟩ := s
  have hR : OwnN tg z (rawTo d but at' v k).length t := hR
  have hki : v.llo + (k : Int) ≤ v.lhi := by omega
  have hrl := rawTo_len d but at' v k
  rw [rawTo_succ]
  generalize rawTo d but at' v k = pre at hR hrl ⊢
  simp only [go_sem, ↓reduceIte, simprocAttr, bVi, hki]
  generalize hy : (EW tab0).code 60 none (Code.loop _) _ = y
  refine w_rounds_sk hy (fun j (s : CS) => [(4, .lst s.tg s.z (I (pre ++ (if j = 0 then [] else if j = 1 then costL1 d but at' v (v.llo + (k : Int)) 0 else costL2 d but at' v (v.llo + (k : Int)))))), (29, .int .i64 (j : Int))]) (fun s => ⟨bVi v :: s.B, s.t⟩)
   (fun j s => OwnN s.tg s.z (pre ++ (if j = 0 then [] else if j = 1 then costL1 d but at' v (v.llo + (k : Int)) 0 else costL2 d but at' v (v.llo + (k : Int)))).length s.t) 2 (.exit 2) (fun s => [(4, .lst s.tg s.z (I (pre ++ costL2 d but at' v (v.llo + (k : Int))))), (29, .int .i64 2)]) rfl ⟨B, t, tg, z⟩ ?_ ?_ ?_ ?_ ?_ ?_
  ·simp only [go_sem, ↓reduceIte, simprocAttr]
  ·simp only [bVi]
  ·simpa using hR
  ·intro j s hj hR
   obtain ⟨B, t, tg, z⟩ := s
   have hji : (j : Int) < 2 := by omega
   have hj01 : j = 0 ∨ j = 1 := by omega
   -- what the round adds
   have step : (if j + 1 = 0 then [] else if j + 1 = 1 then costL1 d but at' v (v.llo + (k : Int)) 0 else costL2 d but at' v (v.llo + (k : Int))) = (if j = 0 then [] else if j = 1 then costL1 d but at' v (v.llo + (k : Int)) 0 else costL2 d but at' v (v.llo + (k : Int))) ++ costL1 d but at' v (v.llo + (k : Int)) (j : Int) := by
    rcases hj01 with rfl | rfl
    ·simp
    ·simp [costL2]
   have hpl : (if j = 0 then [] else if j = 1 then costL1 d but at' v (v.llo + (k : Int)) 0 else costL2 d but at' v (v.llo + (k : Int))).length ≤ 1 := by
    rcases hj01 with rfl | rfl
    ·simp
    ·simpa using costL1_len d but at' v (v.llo + (k : Int)) 0
   rw [step]
   generalize (if j = 0 then [] else if j = 1 then costL1 d but at' v (v.llo + (k : Int)) 0 else costL2 d but at' v (v.llo + (k : Int))) = mid at hR hpl ⊢
   rw [← List.append_assoc]
   have hR : OwnN tg z (pre ++ mid).length t := hR
   have hml : (pre ++ mid).length ≤ 40 := by rw [List.length_append]; omega
   generalize pre ++ mid = pm at hR hml ⊢
   have hw29 : IntKind.i64.wrap ((j : Int) + 1) = ((j + 1 : Nat) : Int) := by rw [wrap_i64 (by omega)]; omega
   have hno : noHour d v (j : Int) = (decide ((j : Int) = 0) && decide (d.frm ≤ v.hlo) || decide ((j : Int) = 1) && decide (v.hhi < d.frm)) := rfl
   cases hnh : noHour d v (j : Int) with
   | true =>
    have e0 : costL1 d but at' v (v.llo + (k : Int)) (j : Int) = [] := by unfold costL1; rw [if_pos hnh]
    rw [e0, List.append_nil]
    refine ⟨⟨B, t, tg, z⟩, ?_, hR⟩
    rw [hno] at hnh
    rcases hj01 with rfl | rfl
    ·have h1 : d.frm ≤ v.hlo := by simpa using hnh
     simp (disch := omega) only [go_sem, ↓reduceIte, simprocAttr, bVi, hji, h1, wrap_i64]
    ·have h1 : v.hhi < d.frm := by simpa using hnh
     simp (disch := omega) only [go_sem, ↓reduceIte, simprocAttr, bVi, hji, h1, wrap_i64, Int.one_ne_zero]
   | false =>
    have hkm : (v.llo + (k : Int)) * d.lines[v.kind.toNat] ≤ 8 * 9 := Int.mul_le_mul (by omega) hkb.2 hkb.1 (by omega)
    have hkm0 : 0 ≤ (v.llo + (k : Int)) * d.lines[v.kind.toNat] := Int.mul_nonneg (by omega) hkb.1
    have hcost : costN d v (v.llo + (k : Int)) (j : Int) = d.opn + (v.llo + (k : Int)) * d.lines[v.kind.toNat] + (j : Int) * d.late := by unfold costN; rw [hkd]
    have e0 : costL1 d but at' v (v.llo + (k : Int)) (j : Int) = okN d but at' (costN d v (v.llo + (k : Int)) (j : Int)) := by unfold costL1; rw [if_neg (by rw [hnh]; exact Bool.false_ne_true)]
    -- the entries
    rw [e0]
    rw [hno] at hnh
    have hj0 : (j : Int) = 0 ∨ (j : Int) = 1 := by omega
    have hjl : (j : Int) * d.late ≤ 9 ∧ 0 ≤ (j : Int) * d.late := by
     rcases hj0 with e | e <;> rw [e] <;> omega
    have hh0 : (decide ((j : Int) = 0) && decide (d.frm ≤ v.hlo)) = false := by simp only [Bool.or_eq_false_iff] at hnh; exact hnh.1
    have hh1 : (decide ((j : Int) = 1) && decide (v.hhi < d.frm)) = false := by simp only [Bool.or_eq_false_iff] at hnh; exact hnh.2
    generalize hn : costN d v (v.llo + (k : Int)) (j : Int) = n at hcost ⊢
    have hw1 : IntKind.i64.wrap ((v.llo + (k : Int)) * d.lines[v.kind.toNat]) = (v.llo + (k : Int)) * d.lines[v.kind.toNat] := wrap_i64 (by omega)
    have hw2 : IntKind.i64.wrap (d.opn + (v.llo + (k : Int)) * d.lines[v.kind.toNat]) = d.opn + (v.llo + (k : Int)) * d.lines[v.kind.toNat] := wrap_i64 (by omega)
    have hw3 : IntKind.i64.wrap ((j : Int) * d.late) = (j : Int) * d.late := wrap_i64 (by omega)
    have hw4 : IntKind.i64.wrap (d.opn + (v.llo + (k : Int)) * d.lines[v.kind.toNat] + (j : Int) * d.late) = n := by rw [wrap_i64 (by omega), hcost]
    have hj2 : ((j + 1 : Nat) : Int) = (j : Int) + 1 := by omega
    simp only [hj2]
    clear hw29 step hno hj01
    generalize (j : Int) = jz at *
    rcases hj0 with rfl | rfl
    ·have h1 : ¬ d.frm ≤ v.hlo := by simpa using hh0
     simp (disch := omega) only [go_sem, ↓reduceIte, simprocAttr, bVi, hji, h1, hkind, hkn, hkx, hzl, hw1, hw2, hw3, hw4]
     generalize hz : (EW tab0).code 60 none (Code.loop _) _ = w
     generalize hBC : bVi v :: B = C
     have hC : (ABlk.cells [AV.int IntKind.i64 v.person, AV.int IntKind.i64 v.day, AV.int IntKind.i64 v.kind, AV.int IntKind.i64 v.llo, AV.int IntKind.i64 v.lhi, AV.int IntKind.i64 v.hlo, AV.int IntKind.i64 v.hhi, AV.bool v.sure] :: B) = C := hBC
     rw [hC] at hz
     rw [w_first (fun i => [(91, .int .i64 (i : Int))]) (fun i => ⟨C ++ (d.entries.take i).map bEt, t⟩) (noE d but at' n) d.entries.length (.exit 3) (fun i => [(9, .int .i64 (i : Int)), (10, .ref (C ++ (d.entries.take i).map bEt).length 0), (91, .int .i64 (i : Int))]) (fun i => ⟨C ++ (d.entries.take (i + 1)).map bEt, t⟩) (.exit 4) [(91, .int .i64 (d.entries.length : Int))] ⟨C ++ d.entries.map bEt, t⟩ ?_ ?_ ?_ ?_ ?_ rfl rfl] at hz
     ·unfold firstW at hz
      subst hz
      unfold okN
      cases hf : firstBad (noE d but at' n) 0 d.entries.length with
      | some i =>
       rw [if_neg (by intro h; cases h), List.append_nil]
       refine ⟨⟨B ++ (d.entries.take (i + 1)).map bEt, t, tg, z⟩, ?_, hR⟩
       subst hBC
       simp (disch := omega) only [go_sem, ↓reduceIte, simprocAttr, bVi, wrap_i64]
      | none =>
       rw [if_pos rfl]
       obtain ⟨t2, a1, b1, c1, d1⟩ := app_gen (X := tab0) (ty := 22) (e := 3) (sz := 1) (by rw [I_len]; exact hR.own) 1 1 [.int .i64 n] (by simp only [go_sem, ↓reduceIte, simprocAttr]) (by simp only [go_sem, ↓reduceIte, simprocAttr]) (by omega) (.inl rfl) (by simp only [go_sem, ↓reduceIte, simprocAttr]; omega) (by simp only [go_sem, ↓reduceIte, simprocAttr]; omega) (by simp only [go_sem, ↓reduceIte, simprocAttr]) (by simp only [go_sem, ↓reduceIte, simprocAttr])
       refine ⟨⟨B ++ d.entries.map bEt, t2, t.length + 2, 1⟩, ?_, .inr ⟨by simp, t.length, rfl, rfl, c1⟩⟩
       subst hBC
       simp (disch := omega) only [go_sem, ↓reduceIte, simprocAttr, bVi, wrap_i64, a1, I_snoc]
     ·simp only [go_sem, ↓reduceIte, simprocAttr]
     ·simp only [go_sem, ↓reduceIte, simprocAttr]
     ·intro i hi h0
      have hii : (i : Int) < d.entries.length := by omega
      have hi4 := ho.entries
      have hx := List.getElem?_eq_getElem hi
      have hze := hd.ze (by intro e; rw [e] at hi; simp at hi)
      rw [map_succ _ hx, ← List.append_assoc]
      generalize C ++ (d.entries.take i).map bEt = D
      have hb0 := shr_and0 ⟨but, hbut⟩ ⟨i, by have := ho.entries; omega⟩
      have hn0 : noEntry but at' n i d.entries[i] = false := by
       unfold noE at h0; rw [hx] at h0; simp only at h0
       cases hq : noEntry but at' n i d.entries[i] with
       | false => rfl
       | true => rw [hq] at h0; cases h0
      simp only at hb0
      have hcw : ∀ {b : Bool}, (b && (d.entries[i].visit == (at' : Int) && d.entries[i].pence != n)) = true → b = (!but.testBit i) → False := fun h e => by subst e; exact Bool.false_ne_true (hn0.symm.trans h)
      simp (disch := omega) only [go_sem, ↓reduceIte, simprocAttr, hii, hx, hze, eEt, bEt, wrap_i64]
      rw [if_neg (by intro hh; exact hcw hh hb0)]
     ·intro i hi h0
      have hii : (i : Int) < d.entries.length := by omega
      have hi4 := ho.entries
      have hx := List.getElem?_eq_getElem hi
      have hze := hd.ze (by intro e; rw [e] at hi; simp at hi)
      rw [map_succ _ hx, ← List.append_assoc]
      generalize C ++ (d.entries.take i).map bEt = D
      have hb0 := shr_and0 ⟨but, hbut⟩ ⟨i, by have := ho.entries; omega⟩
      have hn0 : noEntry but at' n i d.entries[i] = true := by
       unfold noE at h0; rw [hx] at h0; simp only at h0
       cases hq : noEntry but at' n i d.entries[i] with
       | true => rfl
       | false => rw [hq] at h0; exact absurd rfl h0
      simp only at hb0
      have hcw : ∀ {b : Bool}, b = (!but.testBit i) → (b && (d.entries[i].visit == (at' : Int) && d.entries[i].pence != n)) = true := fun e => by subst e; exact hn0
      simp (disch := omega) only [go_sem, ↓reduceIte, simprocAttr, hii, hx, hze, eEt, bEt, wrap_i64]
      rw [if_pos (by exact hcw hb0)]
     ·simp only [go_sem, ↓reduceIte, simprocAttr, Int.lt_irrefl]
    ·have h1 : ¬ v.hhi < d.frm := by simpa using hh1
     simp (disch := omega) only [go_sem, ↓reduceIte, simprocAttr, bVi, hji, h1, Int.one_ne_zero, hkind, hkn, hkx, hzl, hw1, hw2, hw3, hw4]
     generalize hz : (EW tab0).code 60 none (Code.loop _) _ = w
     generalize hBC : bVi v :: B = C
     have hC : (ABlk.cells [AV.int IntKind.i64 v.person, AV.int IntKind.i64 v.day, AV.int IntKind.i64 v.kind, AV.int IntKind.i64 v.llo, AV.int IntKind.i64 v.lhi, AV.int IntKind.i64 v.hlo, AV.int IntKind.i64 v.hhi, AV.bool v.sure] :: B) = C := hBC
     rw [hC] at hz
     rw [w_first (fun i => [(91, .int .i64 (i : Int))]) (fun i => ⟨C ++ (d.entries.take i).map bEt, t⟩) (noE d but at' n) d.entries.length (.exit 3) (fun i => [(9, .int .i64 (i : Int)), (10, .ref (C ++ (d.entries.take i).map bEt).length 0), (91, .int .i64 (i : Int))]) (fun i => ⟨C ++ (d.entries.take (i + 1)).map bEt, t⟩) (.exit 4) [(91, .int .i64 (d.entries.length : Int))] ⟨C ++ d.entries.map bEt, t⟩ ?_ ?_ ?_ ?_ ?_ rfl rfl] at hz
     ·unfold firstW at hz
      subst hz
      unfold okN
      cases hf : firstBad (noE d but at' n) 0 d.entries.length with
      | some i =>
       rw [if_neg (by intro h; cases h), List.append_nil]
       refine ⟨⟨B ++ (d.entries.take (i + 1)).map bEt, t, tg, z⟩, ?_, hR⟩
       subst hBC
       simp (disch := omega) only [go_sem, ↓reduceIte, simprocAttr, bVi, wrap_i64]
      | none =>
       rw [if_pos rfl]
       obtain ⟨t2, a1, b1, c1, d1⟩ := app_gen (X := tab0) (ty := 22) (e := 3) (sz := 1) (by rw [I_len]; exact hR.own) 1 1 [.int .i64 n] (by simp only [go_sem, ↓reduceIte, simprocAttr]) (by simp only [go_sem, ↓reduceIte, simprocAttr]) (by omega) (.inl rfl) (by simp only [go_sem, ↓reduceIte, simprocAttr]; omega) (by simp only [go_sem, ↓reduceIte, simprocAttr]; omega) (by simp only [go_sem, ↓reduceIte, simprocAttr]) (by simp only [go_sem, ↓reduceIte, simprocAttr])
       refine ⟨⟨B ++ d.entries.map bEt, t2, t.length + 2, 1⟩, ?_, .inr ⟨by simp, t.length, rfl, rfl, c1⟩⟩
       subst hBC
       simp (disch := omega) only [go_sem, ↓reduceIte, simprocAttr, bVi, wrap_i64, a1, I_snoc]
     ·simp only [go_sem, ↓reduceIte, simprocAttr]
     ·simp only [go_sem, ↓reduceIte, simprocAttr]
     ·intro i hi h0
      have hii : (i : Int) < d.entries.length := by omega
      have hi4 := ho.entries
      have hx := List.getElem?_eq_getElem hi
      have hze := hd.ze (by intro e; rw [e] at hi; simp at hi)
      rw [map_succ _ hx, ← List.append_assoc]
      generalize C ++ (d.entries.take i).map bEt = D
      have hb0 := shr_and0 ⟨but, hbut⟩ ⟨i, by have := ho.entries; omega⟩
      have hn0 : noEntry but at' n i d.entries[i] = false := by
       unfold noE at h0; rw [hx] at h0; simp only at h0
       cases hq : noEntry but at' n i d.entries[i] with
       | false => rfl
       | true => rw [hq] at h0; cases h0
      simp only at hb0
      have hcw : ∀ {b : Bool}, (b && (d.entries[i].visit == (at' : Int) && d.entries[i].pence != n)) = true → b = (!but.testBit i) → False := fun h e => by subst e; exact Bool.false_ne_true (hn0.symm.trans h)
      simp (disch := omega) only [go_sem, ↓reduceIte, simprocAttr, hii, hx, hze, eEt, bEt, wrap_i64]
      rw [if_neg (by intro hh; exact hcw hh hb0)]
     ·intro i hi h0
      have hii : (i : Int) < d.entries.length := by omega
      have hi4 := ho.entries
      have hx := List.getElem?_eq_getElem hi
      have hze := hd.ze (by intro e; rw [e] at hi; simp at hi)
      rw [map_succ _ hx, ← List.append_assoc]
      generalize C ++ (d.entries.take i).map bEt = D
      have hb0 := shr_and0 ⟨but, hbut⟩ ⟨i, by have := ho.entries; omega⟩
      have hn0 : noEntry but at' n i d.entries[i] = true := by
       unfold noE at h0; rw [hx] at h0; simp only at h0
       cases hq : noEntry but at' n i d.entries[i] with
       | true => rfl
       | false => rw [hq] at h0; exact absurd rfl h0
      simp only at hb0
      have hcw : ∀ {b : Bool}, b = (!but.testBit i) → (b && (d.entries[i].visit == (at' : Int) && d.entries[i].pence != n)) = true := fun e => by subst e; exact hn0
      simp (disch := omega) only [go_sem, ↓reduceIte, simprocAttr, hii, hx, hze, eEt, bEt, wrap_i64]
      rw [if_pos (by exact hcw hb0)]
     ·simp only [go_sem, ↓reduceIte, simprocAttr, Int.lt_irrefl]
  ·intro s hR
   simp only [go_sem, ↓reduceIte, simprocAttr, bVi]
  ·intro s h1 hR
   subst h1
   refine ⟨s, ?_, by simpa using hR⟩
   simp (disch := omega) only [go_sem, ↓reduceIte, simprocAttr, bVi, wrap_i64, Int.add_assoc]
 ·intro s hR
  have hki : ¬ v.lhi + 1 ≤ v.lhi := by omega
  have e1 : v.llo + (linesN v : Int) = v.lhi + 1 := by omega
  simp only [go_sem, ↓reduceIte, simprocAttr, bVi, e1, hki]
 ·intro s h1 hR
  subst h1
  simp only [go_sem, ↓reduceIte, simprocAttr] at hc
  exact ⟨s, _, hR, by simp only [go_sem, ↓reduceIte, simprocAttr], hc.symm⟩
end
section
open Go.Proofs Go.RowKit
section
variable {P : Program} {n : Nat} {ops : Array Oper} {Q : Exit → Act → World → Prop} {i : Nat} {K : Act → World → Prop} {a : Act} {w : World}
theorem wpOp_move {d t : Tmp} {ty : TypeId} {po : String} {af : Array Edge} (hoi : ops[i]? = some ⟨some d, .move (.tmp t), ty, po, af, none⟩) (h : K (a.put (some d) (a.tmps.getD t undef)) w) : wpOpIn Fence.wide n P ops Q i K a w := by
 unfold wpOpIn
 simp only [hoi, Region.wanted]
 refine ⟨fun _ _ => trivial, ?_⟩
 rw [Oper.semAt_eq _ _ _ (fun c e => by cases e)]
 simpa [execOp, Act.eval, Oper.uponIn] using h
theorem wpOp_assign {d t : Tmp} {ty : TypeId} {po : String} {af : Array Edge} (hoi : ops[i]? = some ⟨some d, .assign (.tmp t), ty, po, af, none⟩) (h : K (a.put (some d) (a.tmps.getD t undef)) w) : wpOpIn Fence.wide n P ops Q i K a w := by
 unfold wpOpIn
 simp only [hoi, Region.wanted]
 refine ⟨fun _ _ => trivial, ?_⟩
 rw [Oper.semAt_eq _ _ _ (fun c e => by cases e)]
 simpa [execOp, Act.eval, Oper.uponIn] using h
theorem wpOp_call {d t : Tmp} {f : FuncId} {fn : Func} {c : Code} {ts : Array TypeId} {ty : TypeId} {po : String} {af : Array Edge} (hoi : ops[i]? = some ⟨some d, .call ⟨.value (.func f), #[.tmp t], ts⟩, ty, po, af, none⟩)
  (hfn : P.funcs[f]? = some fn) (hb : fn.body = some c) (hname : fn.name ≠ "runtime.NumGoroutine") {R : Ending → World → Prop} (hc : Calls P f #[a.tmps.getD t undef] w R)
  (h : ∀ e w', R e w' → ∃ u, e = .returned u ∧ K (a.put (some d) u) w') : wpOpIn Fence.wide n P ops Q i K a w := by
 unfold wpOpIn
 simp only [hoi, Region.wanted]
 refine ⟨fun _ _ => trivial, ?_⟩
 rw [Oper.semAt_eq _ _ _ (fun c e => by cases e)]
 have hrun : (execOp a.eval ⟨some d, .call ⟨.value (.func f), #[.tmp t], ts⟩, ty, po, af, none⟩).run P w = .ok (.enter f #[a.tmps.getD t undef]) w := by
  simp [execOp, resolve, Act.eval, Deferred.ofValue, invoke, callFunc, hfn, hname, hb]
 rw [hrun, Oper.uponIn_enter]
 refine ⟨fun hd => (by cases hd), (callsIn_wide.2 hc).mono fun e w' hr => ?_⟩
 obtain ⟨u, rfl, hk⟩ := h e w' hr
 exact hk
end
end
section
open Go.Shelf Go.Proofs
def sortL_ren : Go.Shelf.Ren := ⟨fun | 5 => 105 | 8 => 163 | 7 => 162 | 19 => 192 | 20 => 193 | 10 => 183 | 11 => 184 | 12 => 185 | 13 => 186 | 14 => 187 | 15 => 188 | 16 => 189 | 17 => 190 | 18 => 191 | 30 => 199 | 31 => 200 | 32 => 201 | 33 => 202 | 34 => 203 | 35 => 194 | 40 => 204 | n => n, fun | 23 => 22 | 25 => 3 | 3 => 3 | 32 => 236 | 22 => 22 | 0 => 0 | 44 => 264 | 46 => 266 | 4 => 4 | 36 => 258 | 35 => 257 | 41 => 250 | 5 => 5 | 9 => 9 | 53 => 270 | 57 => 274 | 63 => 276 | 64 => 200 | n => n, fun | n => n⟩
theorem sortL : Go.Proofs.SlLaysM.n5 Tryz.prog sortL_ren := {
 mixed := by kernel_rfl
 f5 := ⟨Tryz.f105.name, by decide, Tryz.func105.trans (congrArg some (by kernel_rfl))⟩
 f7 := ⟨Tryz.f162.name, by decide, Tryz.func162.trans (congrArg some (by kernel_rfl))⟩
 f8 := Tryz.func163.trans (congrArg some (by kernel_rfl))
 f10 := ⟨Tryz.f183.name, by decide, Tryz.func183.trans (congrArg some (by kernel_rfl))⟩
 f11 := ⟨Tryz.f184.name, by decide, Tryz.func184.trans (congrArg some (by kernel_rfl))⟩
 f12 := ⟨Tryz.f185.name, by decide, Tryz.func185.trans (congrArg some (by kernel_rfl))⟩
 f13 := ⟨Tryz.f186.name, by decide, Tryz.func186.trans (congrArg some (by kernel_rfl))⟩
 f14 := ⟨Tryz.f187.name, by decide, Tryz.func187.trans (congrArg some (by kernel_rfl))⟩
 f15 := ⟨Tryz.f188.name, by decide, Tryz.func188.trans (congrArg some (by kernel_rfl))⟩
 f16 := ⟨Tryz.f189.name, by decide, Tryz.func189.trans (congrArg some (by kernel_rfl))⟩
 f17 := ⟨Tryz.f190.name, by decide, Tryz.func190.trans (congrArg some (by kernel_rfl))⟩
 f18 := ⟨Tryz.f191.name, by decide, Tryz.func191.trans (congrArg some (by kernel_rfl))⟩
 f19 := Tryz.func192.trans (congrArg some (by kernel_rfl))
 f20 := Tryz.func193.trans (congrArg some (by kernel_rfl))
 f30 := ⟨Tryz.f199.name, by decide, Tryz.func199.trans (congrArg some (by kernel_rfl))⟩
 f31 := Tryz.func200.trans (congrArg some (by kernel_rfl))
 f32 := Tryz.func201.trans (congrArg some (by kernel_rfl))
 f33 := ⟨Tryz.f202.name, by decide, Tryz.func202.trans (congrArg some (by kernel_rfl))⟩
 f34 := ⟨Tryz.f203.name, by decide, Tryz.func203.trans (congrArg some (by kernel_rfl))⟩
 f35 := ⟨Tryz.f194.name, by decide, Tryz.func194.trans (congrArg some (by kernel_rfl))⟩
 f40 := ⟨Tryz.f204.name, by decide, Tryz.func204.trans (congrArg some (by kernel_rfl))⟩
 t0 := Tryz.underlying0
 a0 := Tryz.isAgg0
 z0 := Tryz.sizeOf0
 v0 := Tryz.zeroValue0
 t3 := Tryz.underlying3
 a3 := Tryz.isAgg3
 z3 := Tryz.sizeOf3
 v3 := Tryz.zeroValue3
 t4 := Tryz.underlying4
 a4 := Tryz.isAgg4
 z4 := Tryz.sizeOf4
 v4 := Tryz.zeroValue4
 t5 := Tryz.underlying5
 a5 := Tryz.isAgg5
 z5 := Tryz.sizeOf5
 v5 := Tryz.zeroValue5
 t9 := Tryz.underlying9
 a9 := Tryz.isAgg9
 z9 := Tryz.sizeOf9
 v9 := Tryz.zeroValue9
 t22 := Tryz.underlying22
 a22 := Tryz.isAgg22
 z22 := Tryz.sizeOf22
 v22 := Tryz.zeroValue22
 t23 := Tryz.underlying22
 a23 := Tryz.isAgg22
 z23 := Tryz.sizeOf22
 v23 := Tryz.zeroValue22
 t25 := Tryz.underlying3
 a25 := Tryz.isAgg3
 z25 := Tryz.sizeOf3
 v25 := Tryz.zeroValue3
 t32 := Tryz.underlying236
 a32 := Tryz.isAgg236
 z32 := Tryz.sizeOf236
 v32 := Tryz.zeroValue236
 t35 := Tryz.underlying257
 a35 := Tryz.isAgg257
 z35 := Tryz.sizeOf257
 v35 := Tryz.zeroValue257
 t36 := Tryz.underlying258
 a36 := Tryz.isAgg258
 z36 := Tryz.sizeOf258
 v36 := Tryz.zeroValue258
 t41 := Tryz.underlying250
 a41 := Tryz.isAgg250
 z41 := Tryz.sizeOf250
 v41 := Tryz.zeroValue250
 t44 := Tryz.underlying264
 a44 := Tryz.isAgg264
 z44 := Tryz.sizeOf264
 v44 := Tryz.zeroValue264
 t46 := Tryz.underlying266
 a46 := Tryz.isAgg266
 z46 := Tryz.sizeOf266
 v46 := Tryz.zeroValue266
 t53 := Tryz.underlying270
 a53 := Tryz.isAgg270
 z53 := Tryz.sizeOf270
 v53 := Tryz.zeroValue270
 t57 := Tryz.underlying274
 a57 := Tryz.isAgg274
 z57 := Tryz.sizeOf274
 v57 := Tryz.zeroValue274
 t63 := Tryz.underlying276
 a63 := Tryz.isAgg276
 z63 := Tryz.sizeOf276
 v63 := Tryz.zeroValue276
 t64 := Tryz.underlying200
 a64 := Tryz.isAgg200
 z64 := Tryz.sizeOf200
 v64 := Tryz.zeroValue200 }
def compactL_ren : Go.Shelf.Ren := ⟨fun | 43 => 106 | n => n, fun | 22 => 22 | 23 => 3 | 3 => 3 | 4 => 4 | 0 => 0 | n => n, fun | n => n⟩
theorem compactL : Go.Proofs.SlLaysN.n43 Tryz.prog compactL_ren := {
 mixed := by kernel_rfl
 f43 := ⟨Tryz.f106.name, by decide, Tryz.func106.trans (congrArg some (by kernel_rfl))⟩
 t0 := Tryz.underlying0
 a0 := Tryz.isAgg0
 z0 := Tryz.sizeOf0
 v0 := Tryz.zeroValue0
 t3 := Tryz.underlying3
 a3 := Tryz.isAgg3
 z3 := Tryz.sizeOf3
 v3 := Tryz.zeroValue3
 t4 := Tryz.underlying4
 a4 := Tryz.isAgg4
 z4 := Tryz.sizeOf4
 v4 := Tryz.zeroValue4
 t22 := Tryz.underlying22
 a22 := Tryz.isAgg22
 z22 := Tryz.sizeOf22
 v22 := Tryz.zeroValue22
 t23 := Tryz.underlying3
 a23 := Tryz.isAgg3
 z23 := Tryz.sizeOf3
 v23 := Tryz.zeroValue3
 i23 := by kernel_rfl }
end
section
open Go.Proofs Go.RowKit Go.Proofs.YthkpjbgadkkeeaaGreat.C0
open Go.Sort (putRow Holds grow holds_putRow holds_ahead holds_grow heap_grow_old cell?_putRow mapBlock)
def sortD (l : List Int) : List Int := Lib.compact (l.mergeSort fun x y => decide (x ≤ y))
def costs (f : Fu) (but at' : Nat) : List Int := sortD (rawCosts f but at')
def vI (l : List Int) : AV := .lst 0 (zT 1 l.length) (I l)
theorem getD_put {a : Act} {d t : Nat} {v : Value} (h : d < a.tmps.size) : (a.put (some d) v).tmps.getD t undef = if t = d then v else a.tmps.getD t undef := by
 simp only [Act.put, Array.getD_eq_getD_getElem?, Array.getElem?_setIfInBounds]
 by_cases e : d = t
 ·subst e; simp [h]
 ·rw [if_neg e, if_neg (fun h => e h.symm)]
theorem size_put (a : Act) (d : Option Nat) (v : Value) : (a.put d v).tmps.size = a.tmps.size := by cases d <;> simp [Act.put]
theorem defers_put (a : Act) (d : Option Nat) (v : Value) : (a.put d v).defers = a.defers := by cases d <;> rfl
theorem compact_len (l : List Int) : (Lib.compact l).length ≤ l.length := by
 unfold Lib.compact Lib.compactUpTo
 rw [List.length_map]
 exact Nat.le_trans (List.length_filter_le _ _) (by simp)
theorem compact_pos {l : List Int} (h : 0 < l.length) : 0 < (Lib.compact l).length := by
 unfold Lib.compact Lib.compactUpTo
 rw [List.length_map]
 refine List.length_pos_of_mem (a := 0) (List.mem_filter.2 ⟨List.mem_range.2 h, rfl⟩)
theorem sortD_nil : sortD [] = [] := by
 unfold sortD; rw [List.mergeSort_nil]; exact List.eq_nil_of_length_eq_zero (Nat.le_zero.1 (compact_len []))
theorem below_row {α : Type} [Inhabited α] {B : Nat} {w0 w : World} (enc : α → Value) (hb : Below B w0 w) {blk : Nat} (h : B ≤ blk) (q off : Nat) (d : Array α) : Below B w0 (putRow enc (Sort.ahead w q) blk off d) :=
 hb.trans ⟨rfl, rfl, rfl, by simp [putRow, mapBlock, Sort.ahead], fun k hk => by
  simp only [putRow, mapBlock, ahead, Array.getElem?_modify]
  rw [if_neg (by omega)]; rfl⟩
theorem below_grow {B : Nat} {w0 w : World} (hb : Below B w0 w) (hB : B ≤ w.heap.size) (os : Array Obj) : Below B w0 (grow w os) :=
 hb.trans ⟨rfl, rfl, rfl, by simp [grow], fun k hk => heap_grow_old w os (by omega)⟩
theorem tail_costs {n N base : Nat} {w0 w : World} {a : Act} {raw : List Int} {addr : Option Addr} {cap : Nat} {R : Ending → World → Prop}
  (hN : a.tmps.size = N) (hN1 : 128 ≤ N) (hdf : a.defers = []) (hs : a.tmps.getD 4 undef = .slice addr raw.length cap) (hcap : raw.length ≤ cap) (hlen : raw.length ≤ 1000) (hsz : base ≤ w.heap.size) (hbw : Below base w0 w)
  (h0 : raw.length = 0 → addr = none) (h1 : 0 < raw.length → ∃ blk off, addr = some ⟨blk, off, none⟩ ∧ base ≤ blk ∧ blk < w.heap.size ∧ Holds (Value.int .i64) w blk off raw.toArray)
  (hR : ∀ u w', Below base w0 w' → Rv (Ctx.newer base w') (vI (sortD raw)) u → R (.returned u) w') :
  tail52.wpIn Fence.wide n Tryz.prog (bodyPostM Fence.wide n Tryz.prog Tryz.f60 R) a w := by
 show (Code.seq (Code.region _ _ false) (Code.seq (Code.region _ _ false) Code.ret)).wpIn _ _ _ _ _ _
 refine wpIn_seq (wpIn_region ?_)
 show wpOpsIn _ _ _ _ _ [0, 1] _ _
 rw [wpOpsIn_cons]
 refine wpOp_move rfl ?_
 rw [wpOpsIn_cons]
 generalize hb1 : a.put (some 124) (a.tmps.getD 4 undef) = b1
 have hn1 : b1.tmps.size = N := by rw [← hb1, size_put, hN]
 have hd1 : b1.defers = [] := by rw [← hb1, defers_put, hdf]
 have g124 : b1.tmps.getD 124 undef = .slice addr raw.length cap := by rw [← hb1, getD_put (by omega), if_pos rfl, hs]
 have g4 : b1.tmps.getD 4 undef = .slice addr raw.length cap := by rw [← hb1, getD_put (by omega), if_neg (by omega), hs]
 -- the two calls
 obtain ⟨R1, hc1, hp1⟩ : ∃ R1 : Ending → World → Prop, Calls Tryz.prog 105 #[.slice addr raw.length cap] w R1 ∧ ∀ e w1, R1 e w1 → e = .returned (.tuple #[]) ∧ Below base w0 w1 ∧ base ≤ w1.heap.size ∧
   ∃ R2 : Ending → World → Prop, Calls Tryz.prog 106 #[.slice addr raw.length cap] w1 R2 ∧ ∀ e w2, R2 e w2 → ∃ u, e = .returned u ∧ Below base w0 w2 ∧ Rv (Ctx.newer base w2) (vI (sortD raw)) u := by
  rcases Nat.eq_zero_or_pos raw.length with hz | hz
  ·have ha := h0 hz
   have hraw : raw = [] := List.eq_nil_of_length_eq_zero hz
   subst hraw
   subst ha
   refine ⟨_, AnyM.slices_Sort_int_none sortL none cap w, ?_⟩
   rintro e w1 ⟨rfl, rfl⟩
   refine ⟨rfl, hbw, hsz, _, AnyG.slices_Compact_int_empty compactL none cap w1, ?_⟩
   rintro e w2 ⟨rfl, rfl⟩
   refine ⟨_, rfl, hbw, ?_⟩
   rw [sortD_nil]
   show Rv _ (.lst 0 0 []) _
   exact .lst 0 0 [] none cap (fun _ => undef) (Nat.zero_le _) trivial (fun i x hx => by cases hx) (fun i hi => by cases hi) (fun h => by cases h) (fun _ => rfl)
  ·obtain ⟨blk, off, rfl, hbb, hbl, hH⟩ := h1 hz
   refine ⟨_, AnyM.slices_Sort_int sortL blk off cap raw w hH hbl (by omega), ?_⟩
   rintro e w1 ⟨rfl, q, os, rfl⟩
   generalize hS : (raw.mergeSort fun x y => decide (x ≤ y)) = S
   have hSl : S.length = raw.length := by rw [← hS]; exact List.length_mergeSort raw
   have hb1 := below_row (Value.int .i64) hbw hbb q off S.toArray
   have hsz1 : base ≤ (putRow (Value.int .i64) (Sort.ahead w q) blk off S.toArray).heap.size := by simp [Sort.ahead]; omega
   have hlt1 : blk < (putRow (Value.int .i64) (Sort.ahead w q) blk off S.toArray).heap.size := by simp [Sort.ahead]; omega
   have hH1 : Holds (Value.int .i64) (grow (putRow (Value.int .i64) (Sort.ahead w q) blk off S.toArray) os) blk off S.toArray :=
    holds_grow _ _ _ _ _ _ hlt1 (holds_putRow _ _ _ _ raw.toArray _ (holds_ahead _ _ _ _ _ _ hH) (by simp [hSl]))
   generalize hw1 : putRow (Value.int .i64) (Sort.ahead w q) blk off S.toArray = w1 at hb1 hsz1 hlt1 hH1 ⊢
   refine ⟨rfl, below_grow hb1 hsz1 os, by simp; omega, ?_⟩
   have hcc := AnyG.slices_Compact_int compactL blk off cap S (grow w1 os) hH1 (by omega) (by omega)
   rw [hSl] at hcc
   refine ⟨_, hcc, ?_⟩
   rintro e w2 ⟨rfl, q2, rfl⟩
   have hC : Lib.compact S = sortD raw := by unfold sortD; rw [hS]
   rw [hC]
   have hCl : (sortD raw).length ≤ raw.length := by rw [← hSl, ← hC]; exact compact_len S
   have hCp : 0 < (sortD raw).length := by
    rw [← hC]; exact compact_pos (by omega)
   refine ⟨_, rfl, below_row _ (below_grow hb1 hsz1 os) hbb _ _ _, ?_⟩
   unfold vI
   rw [zT_pos hCp]
   rw [← I_len (sortD raw)]
   refine .lst 0 1 (I (sortD raw)) (some ⟨blk, off, none⟩) cap (fun i => .int .i64 ((sortD raw).getD i 0)) (by rw [I_len]; omega) trivial (fun i x hx => ?_) (fun i _ => rfl) (fun _ => ⟨blk, off, rfl, fun i hi j hj => ?_⟩) (fun h => by cases h)
   ·rw [I_get] at hx
    cases hg : (sortD raw)[i]? with
    | none => rw [hg] at hx; cases hx
    | some y =>
     rw [hg] at hx; cases hx
     rw [List.getD_eq_getElem?_getD, hg]; exact .int _ _
   ·rw [I_len] at hi
    obtain rfl : j = 0 := by omega
    show (if blk < base then none else _) = _
    rw [if_neg (by omega), Nat.mul_one, Nat.add_zero]
    have := cell?_putRow (Value.int .i64) (Sort.ahead (grow w1 os) q2) blk off S.toArray (sortD raw ++ List.replicate (raw.length - (sortD raw).length) 0).toArray (holds_ahead _ _ _ _ _ _ hH1) (by simp; omega) i (by simp; omega)
    rw [I_len, this]
    rw [getElem!_pos _ i (by simp; omega)]
    simp [hi, Value.cells]
 refine wpOp_call rfl Tryz.func105 rfl (by decide) (by rw [g124]; exact hc1) fun e w1 he1 => ?_
 obtain ⟨rfl, hbw1, hsz1, R2, hc2, hp2⟩ := hp1 e w1 he1
 refine ⟨_, rfl, ?_⟩
 generalize hb2 : b1.put (some 125) (.tuple #[]) = b2
 have hn2 : b2.tmps.size = N := by rw [← hb2, size_put, hn1]
 have hd2 : b2.defers = [] := by rw [← hb2, defers_put, hd1]
 have g4b : b2.tmps.getD 4 undef = .slice addr raw.length cap := by rw [← hb2, getD_put (by omega), if_neg (by omega), g4]
 show Exit.then _ _ .normal b2 w1
 show (Code.seq (Code.region _ _ false) Code.ret).wpIn _ _ _ _ _ _
 refine wpIn_seq (wpIn_region ?_)
 show wpOpsIn _ _ _ _ _ [0, 1, 2] _ _
 rw [wpOpsIn_cons]
 refine wpOp_move rfl ?_
 rw [wpOpsIn_cons]
 rw [g4b]
 generalize hb3 : b2.put (some 126) (.slice addr raw.length cap) = b3
 have hn3 : b3.tmps.size = N := by rw [← hb3, size_put, hn2]
 have hd3 : b3.defers = [] := by rw [← hb3, defers_put, hd2]
 have g126 : b3.tmps.getD 126 undef = .slice addr raw.length cap := by rw [← hb3, getD_put (by omega), if_pos rfl]
 refine wpOp_call rfl Tryz.func106 rfl (by decide) (by rw [g126]; exact hc2) fun e w2 he2 => ?_
 obtain ⟨u, rfl, hbw2, hrv⟩ := hp2 e w2 he2
 refine ⟨_, rfl, ?_⟩
 rw [wpOpsIn_cons]
 refine wpOp_assign rfl ?_
 generalize hb4 : b3.put (some 127) u = b4
 have hn4 : b4.tmps.size = N := by rw [← hb4, size_put, hn3]
 have hd4 : b4.defers = [] := by rw [← hb4, defers_put, hd3]
 have g127 : b4.tmps.getD 127 undef = u := by rw [← hb4, getD_put (by omega), if_pos rfl]
 rw [g127]
 show Code.ret.wpIn _ _ _ _ _ _
 refine wpIn_ret ?_
 show LeavesInM Fence.wide n Tryz.prog Tryz.f60 _ R _ .returning w2
 rw [defers_put, hd4]
 refine ⟨u, ?_, hR u w2 hbw2 hrv⟩
 have g4c : (b4.put (some 4) u).tmps.getD 4 undef = u := by rw [getD_put (by omega), if_pos rfl]
 have hres : Tryz.f60.results = #[.tmp 4] := rfl
 unfold results
 rw [hres]
 rw [Array.getD_eq_getD_getElem?] at g4c
 simp [g4c]
end
section
open Go.Proofs Go.RowKit Go.Proofs.YthkpjbgadkkeeaaGreat.C0
open Go.Sort (Holds)
section
variable {P : Program} {X : Tab}
theorem seq_inv {f : Nat} {rd : Option Nat} {a b : Code} {s s' : St} (h : (EW X).code f rd (.seq a b) s = some (.normal, s')) :
  ∃ s1, (EW X).code f rd a s = some (.normal, s1) ∧ (EW X).code f rd b s1 = some (.normal, s') := by
 rw [w_seq] at h
 cases ha : (EW X).code f rd a s with
 | none => rw [ha] at h; cases h
 | some r =>
  obtain ⟨e, s1⟩ := r
  rw [ha] at h
  cases e with
  | normal => exact ⟨s1, rfl, h⟩
  | exit i => cases h
  | ret => cases h
theorem ew_sound (hX : Fits P X) {f : Nat} {rd : Option Nat} {c : Code} {s : St} {e : AExit} {s' : St} {C : Ctx} {base : Nat} {w0 w : World} {a : Act} {N : Nat} {F : Fence}
  (ho : (EW X).code f rd c s = some (e, s')) (hat : At X C base w0 rd F (X.keep f) N s a w) (hok : okCode N c = true) (n : Nat) : c.wpIn F n P (CodePost X C base w0 rd F (X.keep f) N s.h e s') a w := by
 obtain ⟨m, hm⟩ := (lim_ew X).code _ _ _ _ _ ho
 exact (sound_eng hX m).1 f rd c s e s' C base w0 w a N F (hm m (Nat.le_refl _)) hat hok n
end
noncomputable def codeA : Code := match Tryz.f60.body with | some (.seq a _) => a | _ => .skip
noncomputable def codeB : Code := match Tryz.f60.body with | some (.seq _ (.seq b _)) => b | _ => .skip
noncomputable def codeC : Code := match Tryz.f60.body with | some (.seq _ (.seq _ (.seq c _))) => c | _ => .skip
theorem at_start {X : Tab} {g ntmps : Nat} {args : List AV} {us : List Value} {w : World} (hv : RvL (Ctx.viewOf X.keep w) args us) (hd : isIn deepMark (X.keep g) = false) :
  At X (Ctx.viewOf X.keep w) w.heap.size w none Fence.wide (X.keep g) (us.toArray ++ Array.replicate (ntmps - us.toArray.size) undef).size ⟨⟨zipFrom (X.keep g) 0 args, []⟩, ⟨[], []⟩, []⟩ { tmps := us.toArray ++ Array.replicate (ntmps - us.toArray.size) undef, defers := [] } w := by
 refine ⟨rfl, ?_, ⟨rfl, fun t => ?_⟩, ⟨fun _ _ _ => rfl, fun t ht d => ?_⟩, ⟨rfl, fun i hi => by cases hi⟩, ⟨rfl, fun l e => by cases e⟩, fun hm => by rw [hd] at hm; cases hm⟩
 ·exact {
   ok := fun i hi => by cases hi
   tk := fun i hi => by cases hi
   lv := fun i hi => by cases hi
   lt := fun i hi => by simp at hi
   below := Below.refl _ _
   size := Nat.le_refl _
   box := fun i x hx => by simp at hx
   has := fun i x hx => by simp at hx
   und := fun i x hx => by simp at hx
   inj := fun i j x y hx => by simp at hx
   known := fun b o v hv => hv
   tag := fun k blk hk => by cases hk
   taginj := fun j k blk hk => by cases hk
   fle := fun f hf => by cases hf
   bs := Nat.le_refl _ }
 ·show Rv _ (agetOr (zipFrom (X.keep g) 0 args) t .junk) _
  rcases zipFrom_get (L := X.keep g) args 0 t .junk with e | ⟨_, _, x, hx, e⟩
  ·rw [e]; exact .junk _
  ·rw [e]
   rw [Nat.sub_zero] at hx
   obtain ⟨u, hu, hrv⟩ := hv.get hx
   have hlt : t < us.length := (List.getElem?_eq_some_iff.1 hu).1
   have : (us.toArray ++ Array.replicate (ntmps - us.toArray.size) undef).getD t undef = u := by
    rw [Array.getD_eq_getD_getElem?, Array.getElem?_append_left (by simpa using hlt)]
    simp [hu]
   rw [this]; exact hrv
 ·rcases zipFrom_get (L := X.keep g) args 0 t d with e | ⟨h1, _⟩
  ·exact e
  ·rw [h1] at ht; cases ht
theorem costs_in (d : Fu) (hd : d.fits) (ho : d.Ok) (refused but : Nat) (hbut : but < 32) (at' : Nat) (hlt : at' < d.visits.length) (w : World) (us : List Value)
  (hv : RvL (Ctx.viewOf tab0.keep w) [.eptr (eFs d refused but), .int .i64 (at' : Int)] us) (n : Nat) :
  CallsIn Fence.wide n Tryz.prog 60 us.toArray w fun e w' => ∃ u, e = .returned u ∧ Below w.heap.size w w' ∧ Rv (Ctx.newer w.heap.size w') (vI (costs d but at')) u := by
 have hvx := List.getElem?_eq_getElem hlt
 obtain ⟨s, g, hown, h4, hrun⟩ := run52 d hd ho refused but hbut at' _ hvx
 have hrun : (EW tab0).code 60 none (.seq codeA (.seq codeB codeC)) _ = _ := hrun
 obtain ⟨s1, r1, hrun⟩ := seq_inv hrun
 obtain ⟨s2, r2, r3⟩ := seq_inv hrun
 have hraw : rawCosts d but at' = rawTo d but at' d.visits[at'] (linesN d.visits[at']) := by unfold rawCosts; rw [hvx]
 have hrl := rawTo_len d but at' d.visits[at'] (linesN d.visits[at'])
 have hvo := (ho.visit _ (List.getElem_mem hlt)).line
 have hln : linesN d.visits[at'] ≤ 8 := by unfold linesN; omega
 rw [← hraw] at hown h4 hrl
 have hcs : costs d but at' = sortD (rawCosts d but at') := rfl
 rw [hcs]
 have hbody : Tryz.f60.body = some (.seq codeA (.seq codeB (.seq codeC tail52))) := rfl
 refine callsIn_of_wp_marks Tryz.func60 hbody trivial ?_
 have hat0 := at_start (X := tab0) (g := 60) (ntmps := Tryz.f60.ntmps) hv (by rfl)
 generalize hN : (us.toArray ++ Array.replicate (Tryz.f60.ntmps - us.toArray.size) undef).size = N at hat0
 have hN1 : 128 ≤ N := by
  have : Tryz.f60.ntmps = 128 := rfl
  rw [← hN, this]; simp; omega
 generalize ({ tmps := us.toArray ++ Array.replicate (Tryz.f60.ntmps - us.toArray.size) undef, defers := [] } : Act) = a0 at hat0 ⊢
 have okA : okCode N codeA = true := okCode_mono hN1 codeA (by kernel_rfl)
 have okB : okCode N codeB = true := okCode_mono hN1 codeB (by kernel_rfl)
 have okC : okCode N codeC = true := okCode_mono hN1 codeC (by kernel_rfl)
 refine wpIn_seq (wpIn_mono (ew_sound fits0 r1 hat0 okA n) ?_)
 rintro e' a1 w1 ⟨rfl, C1, hle1, _, _, hat1⟩
 show (Code.seq codeB (.seq codeC tail52)).wpIn _ _ _ _ _ _
 refine wpIn_seq (wpIn_mono (ew_sound fits0 r2 hat1 okB n) ?_)
 rintro e' a2 w2 ⟨rfl, C2, hle2, _, _, hat2⟩
 show (Code.seq codeC tail52).wpIn _ _ _ _ _ _
 refine wpIn_seq (wpIn_mono (ew_sound fits0 r3 hat2 okC n) ?_)
 rintro e' a3 w3 ⟨rfl, C3, hle3, _, _, hat3⟩
 show tail52.wpIn _ _ _ _ _ _
 have hle := (hle1.trans hle2).trans hle3
 have hbs : C3.bs = w.heap.size := hle.bs
 have hrv := hat3.rf.2 4
 rw [h4] at hrv
 generalize hval : a3.tmps.getD 4 undef = val at hrv
 generalize rawCosts d but at' = raw at hown hrl hrv
 obtain ⟨addr, cap, vs, rfl, hcap, htag, hx, hsz, hrow, hnil⟩ : ∃ a cap vs, val = .slice a (I raw).length cap ∧ (I raw).length ≤ cap ∧ TagOk C3 s.tg s.z (I raw).length a cap ∧
   (∀ (i : Nat) (x : AV), (I raw)[i]? = some x → Rv C3 x (vs i)) ∧ (∀ i, i < (I raw).length → (vs i).cells.size = s.z) ∧ RowAt C3 s.z (I raw).length a vs ∧ (s.z = 0 → a = none) := by
  cases hrv with
  | lst _ _ _ a cap vs hc ht hx hs hr hn => exact ⟨a, cap, vs, rfl, hc, ht, hx, hs, hr, hn⟩
 rw [I_len] at hval hcap htag hrow hsz
 refine tail_costs (hat3.rf.1) hN1 (by rw [hat3.ms.1]; rfl) hval hcap (by omega) hat3.rel.size hat3.rel.below (fun hz => ?_) (fun hz => ?_) (fun u w' hb hr => ⟨u, rfl, hb, hr⟩)
 ·rcases hown with ⟨_, h, _⟩ | ⟨h, _⟩
  ·exact hnil h
  ·omega
 ·rcases hown with ⟨_, _, h⟩ | ⟨_, q, hq, hz1, hlive⟩
  ·omega
  ·have hlv := hat3.rel.lt q hlive
   rw [hq] at htag
   obtain ⟨_, hlow, hown⟩ := htag
   have hown := hown hlv
   cases htau : C3.tau q with
   | none => rw [htau] at hown; have h2 := hown.2; omega
   | some blk =>
    rw [htau] at hown
    obtain ⟨off, rfl, _, _⟩ := hown
    obtain ⟨hb1, ⟨arr, ty, hb2, _⟩, _⟩ := hat3.rel.tag q blk hlv htau
    obtain ⟨blk', off', e, hrow⟩ := hrow hz
    cases e
    refine ⟨blk, off, rfl, hb1, World.lt_of_heap hb2, fun j hj => ?_⟩
    have hj : j < raw.length := by simpa using hj
    have hxj := hx j (.int .i64 raw[j]) (by rw [I_get, List.getElem?_eq_getElem hj]; rfl)
    have hvj : vs j = .int .i64 raw[j] := hxj.int_inv
    have hk := hrow j hj 0 (by omega)
    rw [hvj, hz1, Nat.mul_one, Nat.add_zero] at hk
    refine ⟨?_, by simp [World.frozen?, hb2]⟩
    rw [hat3.rel.known _ _ _ (hk.trans (by simp [Value.cells]; rfl)), getElem!_pos _ j (by simpa using hj)]
    simp
end
section
open Go.Shelf Go.Proofs Go.RowKit
def lay167_ren : Go.Shelf.Ren := ⟨fun | 167 => 153 | 240 => 181 | 276 => 198 | n => n, fun | 70 => 219 | 5 => 5 | 75 => 223 | 0 => 0 | 72 => 221 | 37 => 42 | 4 => 4 | 164 => 268 | 80 => 227 | 9 => 9 | n => n, fun | n => n⟩
theorem lay167 : Go.Proofs.Lays.n167 Tryz.prog lay167_ren := {
 mixed := by kernel_rfl
 f167 := Tryz.func153.trans (congrArg some (by kernel_rfl))
 f240 := Tryz.func181.trans (congrArg some (by kernel_rfl))
 f276 := Tryz.func198.trans (congrArg some (by kernel_rfl))
 t0 := Tryz.underlying0
 a0 := Tryz.isAgg0
 z0 := Tryz.sizeOf0
 v0 := Tryz.zeroValue0
 t4 := Tryz.underlying4
 a4 := Tryz.isAgg4
 z4 := Tryz.sizeOf4
 v4 := Tryz.zeroValue4
 t5 := Tryz.underlying5
 a5 := Tryz.isAgg5
 z5 := Tryz.sizeOf5
 v5 := Tryz.zeroValue5
 t9 := Tryz.underlying9
 a9 := Tryz.isAgg9
 z9 := Tryz.sizeOf9
 v9 := Tryz.zeroValue9
 t20 := Tryz.underlying20
 a20 := Tryz.isAgg20
 z20 := Tryz.sizeOf20
 v20 := Tryz.zeroValue20
 t37 := Tryz.underlying42
 a37 := Tryz.isAgg42
 z37 := Tryz.sizeOf42
 v37 := Tryz.zeroValue42
 t70 := Tryz.underlying219
 a70 := Tryz.isAgg219
 z70 := Tryz.sizeOf219
 v70 := Tryz.zeroValue219
 t72 := Tryz.underlying221
 a72 := Tryz.isAgg221
 z72 := Tryz.sizeOf221
 v72 := Tryz.zeroValue221
 t75 := Tryz.underlying223
 a75 := Tryz.isAgg223
 z75 := Tryz.sizeOf223
 v75 := Tryz.zeroValue223
 t164 := Tryz.underlying268
 a164 := Tryz.isAgg268
 z164 := Tryz.sizeOf268
 v164 := Tryz.zeroValue268 }
def lay166_ren : Go.Shelf.Ren := ⟨fun | 166 => 154 | 240 => 181 | 276 => 198 | n => n, fun | 70 => 219 | 9 => 9 | 3 => 3 | 75 => 223 | 0 => 0 | 72 => 221 | 37 => 42 | 4 => 4 | 164 => 268 | 80 => 227 | 5 => 5 | n => n, fun | n => n⟩
theorem lay166 : Go.Proofs.Lays.n166 Tryz.prog lay166_ren := {
 mixed := by kernel_rfl
 f166 := Tryz.func154.trans (congrArg some (by kernel_rfl))
 f240 := Tryz.func181.trans (congrArg some (by kernel_rfl))
 f276 := Tryz.func198.trans (congrArg some (by kernel_rfl))
 t0 := Tryz.underlying0
 a0 := Tryz.isAgg0
 z0 := Tryz.sizeOf0
 v0 := Tryz.zeroValue0
 t3 := Tryz.underlying3
 a3 := Tryz.isAgg3
 z3 := Tryz.sizeOf3
 v3 := Tryz.zeroValue3
 t4 := Tryz.underlying4
 a4 := Tryz.isAgg4
 z4 := Tryz.sizeOf4
 v4 := Tryz.zeroValue4
 t9 := Tryz.underlying9
 a9 := Tryz.isAgg9
 z9 := Tryz.sizeOf9
 v9 := Tryz.zeroValue9
 t20 := Tryz.underlying20
 a20 := Tryz.isAgg20
 z20 := Tryz.sizeOf20
 v20 := Tryz.zeroValue20
 t37 := Tryz.underlying42
 a37 := Tryz.isAgg42
 z37 := Tryz.sizeOf42
 v37 := Tryz.zeroValue42
 t70 := Tryz.underlying219
 a70 := Tryz.isAgg219
 z70 := Tryz.sizeOf219
 v70 := Tryz.zeroValue219
 t72 := Tryz.underlying221
 a72 := Tryz.isAgg221
 z72 := Tryz.sizeOf221
 v72 := Tryz.zeroValue221
 t75 := Tryz.underlying223
 a75 := Tryz.isAgg223
 z75 := Tryz.sizeOf223
 v75 := Tryz.zeroValue223
 t164 := Tryz.underlying268
 a164 := Tryz.isAgg268
 z164 := Tryz.sizeOf268
 v164 := Tryz.zeroValue268 }
def lay169_ren : Go.Shelf.Ren := ⟨fun | 169 => 155 | n => n, fun | 70 => 219 | 9 => 9 | 0 => 0 | 72 => 221 | 37 => 42 | 127 => 254 | 3 => 3 | 5 => 5 | n => n, fun | n => n⟩
theorem lay169 : Go.Proofs.Lays.n169 Tryz.prog lay169_ren := {
 mixed := by kernel_rfl
 f169 := Tryz.func155.trans (congrArg some (by kernel_rfl))
 t0 := Tryz.underlying0
 a0 := Tryz.isAgg0
 z0 := Tryz.sizeOf0
 v0 := Tryz.zeroValue0
 t3 := Tryz.underlying3
 a3 := Tryz.isAgg3
 z3 := Tryz.sizeOf3
 v3 := Tryz.zeroValue3
 t9 := Tryz.underlying9
 a9 := Tryz.isAgg9
 z9 := Tryz.sizeOf9
 v9 := Tryz.zeroValue9
 t37 := Tryz.underlying42
 a37 := Tryz.isAgg42
 z37 := Tryz.sizeOf42
 v37 := Tryz.zeroValue42
 t70 := Tryz.underlying219
 a70 := Tryz.isAgg219
 z70 := Tryz.sizeOf219
 v70 := Tryz.zeroValue219
 t72 := Tryz.underlying221
 a72 := Tryz.isAgg221
 z72 := Tryz.sizeOf221
 v72 := Tryz.zeroValue221
 t127 := Tryz.underlying254
 a127 := Tryz.isAgg254
 z127 := Tryz.sizeOf254
 v127 := Tryz.zeroValue254 }
theorem lay167_x : Builder.Extra Tryz.prog lay167_ren := {
 sizeBuilder := by kernel_rfl
 liesBuilder := by kernel_rfl
 t5 := Tryz.underlying5
 a5 := Tryz.isAgg5
 z5 := Tryz.sizeOf5
 v5 := Tryz.zeroValue5
 infoByte := by kernel_rfl
 cellsByte := by kernel_rfl
 sizeByte := by kernel_rfl
 neB5 := by decide }
theorem lay166_x : Builder.Extra Tryz.prog lay166_ren := {
 sizeBuilder := by kernel_rfl
 liesBuilder := by kernel_rfl
 t5 := Tryz.underlying5
 a5 := Tryz.isAgg5
 z5 := Tryz.sizeOf5
 v5 := Tryz.zeroValue5
 infoByte := by kernel_rfl
 cellsByte := by kernel_rfl
 sizeByte := by kernel_rfl
 neB5 := by decide }
theorem lay169_x : Builder.Extra Tryz.prog lay169_ren := {
 sizeBuilder := by kernel_rfl
 liesBuilder := by kernel_rfl
 t5 := Tryz.underlying5
 a5 := Tryz.isAgg5
 z5 := Tryz.sizeOf5
 v5 := Tryz.zeroValue5
 infoByte := by kernel_rfl
 cellsByte := by kernel_rfl
 sizeByte := by kernel_rfl
 neB5 := by decide }
theorem b_byte (B b : Nat) (bs : List Value) (c : Int) (w : World) (h : Lib.IsBuilderF 221 5 B b bs w) (hlen : bs.length + 1 ≤ 140737488355328) (hBw : B ≤ w.heap.size) :
 Calls Tryz.prog 153 #[.pointer (some ⟨b, 0, none⟩), .int .u8 c] w fun e w' => e = .returned .nilIface ∧ (Lib.BuilderAtF 221 5 B b (.pointer (some ⟨b, 0, none⟩)) (bs ++ [.int .u8 c]) w' ∧ Below B w w' ∧ Lib.OthersKept 5 (some b) w w') := Any.Builder_WriteByte_k lay167 lay167_x B b bs c w h hlen hBw
theorem b_str (B b : Nat) (bs : List Value) (s : ByteArray) (w : World) (h : Lib.IsBuilderF 221 5 B b bs w) (hlen : bs.length + s.size ≤ 140737488355328) (hBw : B ≤ w.heap.size) :
 Calls Tryz.prog 154 #[.pointer (some ⟨b, 0, none⟩), .string s] w fun e w' => e = .returned (.tuple #[.int .i64 s.size, .nilIface]) ∧ (Lib.BuilderAtF 221 5 B b (.pointer (some ⟨b, 0, none⟩)) (bs ++ Lib.byteCells s.data.toList) w' ∧ Below B w w' ∧ Lib.OthersKept 5 (some b) w w') := Any.Builder_WriteString_k lay166 lay166_x B b bs s w h hlen hBw
theorem b_all (B b : Nat) (l : List UInt8) (w : World) (h : Lib.IsBuilderF 221 5 B b (Lib.byteCells l) w) (hBw : B ≤ w.heap.size) :
 Calls Tryz.prog 155 #[.pointer (some ⟨b, 0, none⟩)] w fun e w' => e = .returned (.string ⟨l.toArray⟩) ∧ (Lib.IsBuilderF 221 5 B b (Lib.byteCells l) w' ∧ Below B w w' ∧ Lib.OthersKept 5 (some b) w w') := Any.Builder_String_any_k lay169 lay169_x B b l w h hBw
end
section
open Go.Proofs Go.RowKit
def tS (width : Int) (st : Int × List UInt8) (k : Nat) (s : List UInt8) : Int × List UInt8 :=
 if 0 < k ∧ (s.length : Int) < st.1 then (st.1 - (s.length + 1), st.2 ++ [32] ++ s)
 else if 0 < k then (width - s.length, st.2 ++ [10] ++ s)
 else (width - s.length, st.2 ++ s)
def tAt (width : Int) (l : List ByteArray) : Nat → Int × List UInt8
 | 0 => (0, [])
 | k + 1 => tS width (tAt width l k) k (l.getD k ⟨#[]⟩).data.toList
def textL (width : Int) (l : List ByteArray) : List UInt8 := if 0 < l.length then (tAt width l l.length).2 ++ [10] else []
theorem tAt_bd {width : Int} (hw : 0 ≤ width ∧ width ≤ 1000) {l : List ByteArray} (hs : ∀ s ∈ l, s.size ≤ 1000) : ∀ k, -1000 ≤ (tAt width l k).1 ∧ (tAt width l k).1 ≤ 1000 ∧ (tAt width l k).2.length ≤ 1001 * k
 | 0 => by simp [tAt]
 | k + 1 => by
  have ih := tAt_bd hw hs k
  have hsz : (l.getD k ⟨#[]⟩).data.toList.length ≤ 1000 := by
   rw [List.getD_eq_getElem?_getD]
   cases h : l[k]? with
   | none => simp
   | some s => have := hs s (List.mem_of_getElem? h); simpa using this
  simp only [tAt, tS]
  generalize (l.getD k ⟨#[]⟩).data.toList = s at hsz ⊢
  split
  ·simp; omega
  ·split
   ·simp; omega
   ·simp; omega
set_option maxHeartbeats 4000000 in
set_option maxRecDepth 1000000 in
theorem text_walk (width : Int) (hw : 0 ≤ width ∧ width ≤ 1000) (l : List ByteArray) (hl : l.length ≤ 1000) (hs : ∀ s ∈ l, s.size ≤ 1000) (w : World) (a : Option Addr) (cap : Nat)
  (hrow : ∀ i (h : i < l.length), ∃ blk off, a = some ⟨blk, off, none⟩ ∧ w.cell? ⟨blk, off + i, none⟩ = some (.string l[i])) :
  Calls Tryz.prog 97 #[.int .i64 width, .slice a l.length cap] w fun e w' => e = .returned (.string ⟨(textL width l).toArray⟩) ∧ Below w.heap.size w w' := by
 go_enter Tryz.func97, Tryz.ntmps97
 go_wp2
 go_loopw [6, 11] (fun v i wr => ∃ k : Nat, k ≤ l.length ∧ i = .int .i64 k ∧ v = .int .i64 (tAt width l k).1 ∧ Lib.IsBuilderF 221 5 w.heap.size w.heap.size (Lib.byteCells (tAt width l k).2) wr ∧ Below w.heap.size w wr) (fun _ i _ => l.length - (intOf i).toNat)
 case atStart =>
  exact ⟨0, by omega, rfl, rfl, Lib.IsBuilderF.of (Lib.fresh_isBuilder 221 5 w), (Below.refl _ w).alloc (Nat.le_refl _) _⟩
 case round =>
  obtain ⟨k, hk, rfl, rfl, hI, hbw⟩ := hrel
  obtain ⟨bd1, bd2, bd3⟩ := tAt_bd hw hs k
  by_cases hkl : k < l.length
  ·obtain ⟨blk, off, rfl, hcell⟩ := hrow k hkl
   have hlt : blk < w.heap.size := World.block_lt_of_cell? _ _ hcell
   have hcell : wr.cell? ⟨blk, off + k, none⟩ = some (.string l[k]) := (hbw.cell hlt).trans hcell
   have hsk := hs l[k] (List.getElem_mem hkl)
   have hgd : l.getD k ⟨#[]⟩ = l[k] := by rw [List.getD_eq_getElem?_getD, List.getElem?_eq_getElem hkl]; rfl
   have hnx : tAt width l (k + 1) = tS width (tAt width l k) k l[k].data.toList := by rw [tAt, hgd]
   have hsz2 : w.heap.size ≤ wr.heap.size := hbw.size
   generalize tAt width l k = st at *
   generalize l[k] = s at *
   have hsl : s.data.toList.length = s.size := rfl
   by_cases hk0 : 0 < k
   ·by_cases hr : (s.size : Int) < st.1
    ·go_wp2_with (go_at_call 153; refine (b_byte w.heap.size w.heap.size _ 32 _ hI (by rw [Lib.byteCells_length]; omega) hsz2).mono ?_)
     first | rintro e W1 rfl h1 b1 - | rintro e W1 ⟨rfl, h1, b1, -⟩
     go_wp2_with (go_at_call 154; refine (b_str w.heap.size w.heap.size _ s _ (.inr h1) (by simp [Lib.byteCells_length]; omega) (Nat.le_trans hsz2 b1.size)).mono ?_)
     first | rintro e W2 rfl h2 b2 - | rintro e W2 ⟨rfl, h2, b2, -⟩
     go_wp2
     go_roundw
     case rel =>
      have e : tS width st k s.data.toList = (st.1 - (s.size + 1), st.2 ++ [32] ++ s.data.toList) := by simp [tS, hsl, hk0, hr]
      refine ⟨k + 1, by omega, by simp, by rw [hnx, e], ?_, (hbw.trans b1).trans b2⟩
      rw [hnx, e, Lib.byteCells_append, Lib.byteCells_append]; exact .inr h2
     case measure => simp [intOf]; omega
    ·go_wp2_with (go_at_call 153; refine (b_byte w.heap.size w.heap.size _ 10 _ hI (by rw [Lib.byteCells_length]; omega) hsz2).mono ?_)
     first | rintro e W1 rfl h1 b1 - | rintro e W1 ⟨rfl, h1, b1, -⟩
     go_wp2_with (go_at_call 154; refine (b_str w.heap.size w.heap.size _ s _ (.inr h1) (by simp [Lib.byteCells_length]; omega) (Nat.le_trans hsz2 b1.size)).mono ?_)
     first | rintro e W2 rfl h2 b2 - | rintro e W2 ⟨rfl, h2, b2, -⟩
     go_wp2
     go_roundw
     case rel =>
      have e : tS width st k s.data.toList = (width - s.size, st.2 ++ [10] ++ s.data.toList) := by simp [tS, hsl, hk0, hr]
      refine ⟨k + 1, by omega, by simp, by rw [hnx, e], ?_, (hbw.trans b1).trans b2⟩
      rw [hnx, e, Lib.byteCells_append, Lib.byteCells_append]; exact .inr h2
     case measure => simp [intOf]; omega
   ·go_wp2_with (go_at_call 154; refine (b_str w.heap.size w.heap.size _ s _ hI (by simp [Lib.byteCells_length]; omega) hsz2).mono ?_)
    first | rintro e W2 rfl h2 b2 - | rintro e W2 ⟨rfl, h2, b2, -⟩
    go_wp2
    go_roundw
    case rel =>
     have e : tS width st k s.data.toList = (width - s.size, st.2 ++ s.data.toList) := by simp [tS, hsl, hk0]
     refine ⟨k + 1, by omega, by simp, by rw [hnx, e], ?_, hbw.trans b2⟩
     rw [hnx, e, Lib.byteCells_append]; exact .inr h2
    case measure => simp [intOf]; omega
  ·obtain rfl : k = l.length := by omega
   have hsz2 : w.heap.size ≤ wr.heap.size := hbw.size
   by_cases h0 : 0 < l.length
   ·go_wp2_with (go_at_call 153; refine (b_byte w.heap.size w.heap.size _ 10 _ hI (by rw [Lib.byteCells_length]; omega) hsz2).mono ?_)
    first | rintro e W1 rfl h1 b1 - | rintro e W1 ⟨rfl, h1, b1, -⟩
    have h1' : Lib.IsBuilderF 221 5 w.heap.size w.heap.size (Lib.byteCells ((tAt width l l.length).2 ++ [10])) W1 := by rw [Lib.byteCells_append]; exact .inr h1
    go_wp2_with (go_at_call 155; refine (b_all w.heap.size w.heap.size _ _ h1' (Nat.le_trans hsz2 b1.size)).mono ?_)
    first | rintro e W2 rfl h2 b2 - | rintro e W2 ⟨rfl, h2, b2, -⟩
    go_wp2
    go_ret
    exact ⟨by rw [textL, if_pos h0]; rfl, (hbw.trans b1).trans b2⟩
   ·have hl0 : l = [] := List.eq_nil_of_length_eq_zero (by omega)
    subst hl0
    go_wp2_with (go_at_call 155; refine (b_all w.heap.size w.heap.size _ _ hI hsz2).mono ?_)
    first | rintro e W2 rfl h2 b2 - | rintro e W2 ⟨rfl, h2, b2, -⟩
    go_wp2
    go_ret
    exact ⟨rfl, hbw.trans b2⟩
end
section
open Go.Proofs Go.RowKit
theorem map_inj {α β : Type} {e : α → β} (h : ∀ x y, e x = e y → x = y) : ∀ {l m : List α}, l.map e = m.map e → l = m
 | [], [], _ => rfl
 | [], _ :: _, h' => by cases h'
 | _ :: _, [], h' => by cases h'
 | x :: l, y :: m, h' => by
  simp only [List.map_cons, List.cons.injEq] at h'
  rw [h _ _ h'.1, map_inj h h'.2]
theorem I_inj {l m : List Int} (h : I l = I m) : l = m := map_inj (fun x y e => by simpa using e) h
theorem ePe_inj (x y : Pe) (h : ePe x = ePe y) : x = y := by
 obtain ⟨a, b⟩ := x; obtain ⟨c, d⟩ := y
 simpa [ePe] using h
theorem eVi_inj (x y : Vi) (h : eVi x = eVi y) : x = y := by
 obtain ⟨a1, a2, a3, a4, a5, a6, a7, a8⟩ := x; obtain ⟨c1, c2, c3, c4, c5, c6, c7, c8⟩ := y
 simpa [eVi] using h
theorem eEt_inj (x y : Et) (h : eEt x = eEt y) : x = y := by
 obtain ⟨a, b⟩ := x; obtain ⟨c, d⟩ := y
 simpa [eEt] using h
theorem eFs_inj {d d' : Fu} {r r' b b' : Nat} (h : eFs d r b = eFs d' r' b') : d = d' ∧ r = r' ∧ b = b' := by
 obtain ⟨a1, a2, a3, a4, a5, a6, a7, a8, a9, a10, a11, a12, a13⟩ := d
 obtain ⟨c1, c2, c3, c4, c5, c6, c7, c8, c9, c10, c11, c12, c13⟩ := d'
 simp only [eFs, List.cons.injEq, AV.int.injEq, AV.lst.injEq, true_and, and_true, and_assoc] at h
 obtain ⟨rfl, rfl, rfl, rfl, rfl, rfl, h1, rfl, h2, rfl, h3, rfl, h4, h5, h6⟩ := h
 rw [I_inj h1, map_inj ePe_inj h2, map_inj eVi_inj h3, map_inj eEt_inj h4]
 exact ⟨rfl, by omega, by omega⟩
def IsCosts (ys : List AV) (l : List Int) : Prop :=
 ∃ (d : Fu) (refused but at' : Nat), d.fits ∧ d.Ok ∧ but < 32 ∧ at' < d.visits.length ∧ ys = [.eptr (eFs d refused but), .int .i64 (at' : Int)] ∧ l = costs d but at'
theorem IsCosts.uniq {ys : List AV} {l m : List Int} (h : IsCosts ys l) (k : IsCosts ys m) : l = m := by
 obtain ⟨d, r, b, a, _, _, _, _, h1, rfl⟩ := h
 obtain ⟨d', r', b', a', _, _, _, _, h2, rfl⟩ := k
 rw [h1] at h2
 simp only [List.cons.injEq, AV.eptr.injEq, AV.int.injEq, true_and, and_true] at h2
 obtain ⟨e1, e2⟩ := h2
 obtain ⟨rfl, rfl, rfl⟩ := eFs_inj e1
 have : a = a' := by omega
 rw [this]
open Classical in
noncomputable def costsO (ys : List AV) : Option AV := if h : ∃ l, IsCosts ys l then some (vI h.choose) else none
theorem costsO_eq {d : Fu} (hd : d.fits) (ho : d.Ok) (refused : Nat) {but at' : Nat} (hb : but < 32) (hlt : at' < d.visits.length) : costsO [.eptr (eFs d refused but), .int .i64 (at' : Int)] = some (vI (costs d but at')) := by
 have h : ∃ l, IsCosts [.eptr (eFs d refused but), .int .i64 (at' : Int)] l := ⟨_, d, refused, but, at', hd, ho, hb, hlt, rfl, rfl⟩
 unfold costsO
 rw [dif_pos h]
 rw [h.choose_spec.uniq ⟨d, refused, but, at', hd, ho, hb, hlt, rfl, rfl⟩]
def IsText (ys : List AV) (l : List UInt8) : Prop :=
 ∃ (width : Int) (t : List ByteArray) (sz : Nat), (0 ≤ width ∧ width ≤ 1000) ∧ t.length ≤ 1000 ∧ (∀ s ∈ t, s.size ≤ 1000) ∧ (sz = 1 ∨ t = []) ∧ ys = [.int .i64 width, .lst 0 sz (t.map .str)] ∧ l = textL width t
theorem IsText.uniq {ys : List AV} {l m : List UInt8} (h : IsText ys l) (k : IsText ys m) : l = m := by
 obtain ⟨w, t, sz, _, _, _, _, h1, rfl⟩ := h
 obtain ⟨w', t', sz', _, _, _, _, h2, rfl⟩ := k
 rw [h1] at h2
 simp only [List.cons.injEq, AV.lst.injEq, AV.int.injEq, true_and, and_true] at h2
 obtain ⟨rfl, _, e⟩ := h2
 rw [map_inj (fun x y e => by simpa using e) e]
open Classical in
noncomputable def textO (ys : List AV) : Option AV := if h : ∃ l, IsText ys l then some (.str ⟨h.choose.toArray⟩) else none
theorem textO_eq {width : Int} (hw : 0 ≤ width ∧ width ≤ 1000) {t : List ByteArray} (hl : t.length ≤ 1000) (hs : ∀ s ∈ t, s.size ≤ 1000) {sz : Nat} (hz : sz = 1 ∨ t = []) : textO [.int .i64 width, .lst 0 sz (t.map .str)] = some (.str ⟨(textL width t).toArray⟩) := by
 have h : ∃ l, IsText [.int .i64 width, .lst 0 sz (t.map .str)] l := ⟨_, width, t, sz, hw, hl, hs, hz, rfl, rfl⟩
 unfold textO
 rw [dif_pos h]
 rw [h.choose_spec.uniq ⟨width, t, sz, hw, hl, hs, hz, rfl, rfl⟩]
theorem text_in {keep : Nat → List Nat} (width : Int) (hw : 0 ≤ width ∧ width ≤ 1000) (t : List ByteArray) (hl : t.length ≤ 1000) (hs : ∀ s ∈ t, s.size ≤ 1000) (sz : Nat) (hz : sz = 1 ∨ t = []) (w : World) (us : List Value)
  (hv : RvL (Ctx.viewOf keep w) [.int .i64 width, .lst 0 sz (t.map .str)] us) (n : Nat) :
  CallsIn Fence.wide n Tryz.prog 97 us.toArray w fun e w' => ∃ u, e = .returned u ∧ Below w.heap.size w w' ∧ Rv (Ctx.newer w.heap.size w') (.str ⟨(textL width t).toArray⟩) u := by
 obtain ⟨u1, u2, rfl, h1, h2⟩ := two_of hv rfl
 have := h1.int_inv; subst this
 obtain ⟨a, cap, vs, rfl, hcap, _, hx, hsz, hrow⟩ := lst_inv h2
 rw [List.length_map] at hcap hsz hrow ⊢
 refine (callsIn_wide.2 (text_walk width hw t hl hs w a cap fun i hi => ?_)).mono fun e w' ⟨he, hb⟩ => ⟨_, he, hb, .str _⟩
 obtain ⟨blk, off, ha, hk⟩ := hrow (by omega)
 refine ⟨blk, off, ha, ?_⟩
 have h1z : sz = 1 := by
  rcases hz with h | h
  ·exact h
  ·rw [h] at hi; cases hi
 subst h1z
 have hxi := hx i (.str t[i]) (by rw [List.getElem?_map, List.getElem?_eq_getElem hi]; rfl)
 have hvi : vs i = .string t[i] := hxi.str_inv
 have hki := hk i hi 0 (by omega)
 rw [hvi, Nat.mul_one, Nat.add_zero] at hki
 exact hki
noncomputable def orcX (f : Nat) : Option (List AV → Option AV) := match f with | 60 => some costsO | 97 => some textO | _ => none
noncomputable def tabX : Tab := { tab0 with orc := orcX }
theorem fitsX : Fits Tryz.prog tabX where
 fn := fits0.fn
 ty := fits0.ty
 mixed := fits0.mixed
 plain := fits0.plain
 wf := fits0.wf
 orc := by
  intro f O hf
  have hf : orcX f = some O := hf
  unfold orcX at hf
  split at hf
  ·cases hf
   refine ⟨⟨_, _, Tryz.func60, rfl⟩, fun ys v w us n hv hr => ?_⟩
   unfold costsO at hv
   split at hv
   ·rename_i h
    cases hv
    obtain ⟨d, r, b, a, hd, ho, hb, hl, h1, h2⟩ := h.choose_spec
    rw [h2]
    rw [h1] at hr
    exact costs_in d hd ho r b hb a hl w us hr n
   ·cases hv
  ·cases hf
   refine ⟨⟨_, _, Tryz.func97, rfl⟩, fun ys v w us n hv hr => ?_⟩
   unfold textO at hv
   split at hv
   ·rename_i h
    cases hv
    obtain ⟨wd, t, sz, h1, h2, h3, h4, h5, h6⟩ := h.choose_spec
    rw [h6]
    rw [h5] at hr
    exact text_in wd h1 t h2 h3 sz h4 w us hr n
   ·cases hv
  ·cases hf
end
end Go.Proofs.YthkpjbgadkkeeaaGreat
