/- The body of TokenWear. Conditions: those of each law. -/
import Derived.Test.YtbfodfepgefloaaQ22
set_option linter.unusedSimpArgs false
set_option linter.unusedVariables false
namespace Go.Proofs.Ytbfodfepgefloaa
open Go.Proofs

def wearU (d : Dr) (x : Int) : Int := if d.wear + x.tmod 4 < 9 then d.wear + x.tmod 4 else 9
def leastU (d : Dr) (y : Int) : Int := if 1 < d.least - y.tmod 3 then d.least - y.tmod 3 else 1
def widerD (d : Dr) (p : Int × Int) : Dr := { d with wear := wearU d p.1, least := leastU d p.2 }
theorem widerD_ok {d : Dr} (ho : d.Ok) {p : Int × Int} (h1 : 0 ≤ p.1) (h2 : 0 ≤ p.2) : (widerD d p).Ok ∧ Wider d (widerD d p) := by
  have a := tmod_rng h1 (show (0 : Int) < 4 by omega)
  have b := tmod_rng h2 (show (0 : Int) < 3 by omega)
  have w0 := ho.w0
  have w9 := ho.w9
  have l1 := ho.l1
  have ls := ho.ls
  have hw : 0 ≤ wearU d p.1 ∧ wearU d p.1 ≤ 9 ∧ d.wear ≤ wearU d p.1 := by unfold wearU; split <;> omega
  have hl : 1 ≤ leastU d p.2 ∧ leastU d p.2 ≤ d.least := by unfold leastU; split <;> omega
  refine ⟨⟨ho.s1, ho.s6, hl.1, by show leastU d p.2 ≤ d.steps; omega, hw.1, hw.2.1, ho.c4, ho.h4, ho.ce, fun c hc => ?_, ho.cn, ho.hn, ho.ck, ho.hk⟩, ⟨rfl, rfl, rfl, hw.2.2, hl.2⟩⟩
  have := ho.he c hc
  exact ⟨by show leastU d p.2 ≤ _; omega, this.2.1, this.2.2⟩
theorem widerD_fits {d : Dr} (hd : d.fits) (p : Int × Int) : (widerD d p).fits := ⟨hd.zc, hd.zh, hd.lc, hd.lh, hd.nc, hd.nh⟩
set_option maxHeartbeats 4000000 in
theorem l12 (d : Dr) (hd : d.fits) (p : Int × Int) (hp : (0 ≤ p.1 ∧ p.1 ≤ 255) ∧ (0 ≤ p.2 ∧ p.2 ≤ 255)) : ∃ h', (EW tabX).call 12 [eD d, .agg [.int .u8 p.1, .int .u8 p.2]] noHeap = some (.bool true, h') := by
  have hcl := eD_clean d
  have h21 := c21
  have h37 := c37 d hd
  rw [noHeap, w_call _ fn_12 rfl]
  by_cases hc : (checkT d).2.2 = 0
  · obtain ⟨ho, hk⟩ := ok_of_check hc
    obtain ⟨ho2, hw⟩ := widerD_ok ho hp.1.1 hp.2.1
    have hd2 := widerD_fits hd p
    have hc2 := checked ho2
    have hcl2 := eD_clean (widerD d p)
    have a1 := tmod_rng hp.1.1 (show (0 : Int) < 4 by omega)
    have a2 := tmod_rng hp.2.1 (show (0 : Int) < 3 by omega)
    have w0 := ho.w0
    have w9 := ho.w9
    have l1 := ho.l1
    have ls := ho.ls
    have s6 := ho.s6
    have hc4 := ho.c4
    have hh4 := ho.h4
    rw [hc] at h37
    have h24 := c24_yes d hd hc
    have h24' := c24_yes (widerD d p) hd2 hc2
    have h30 := c30_in d hd hc
    have h30' := c30_in (widerD d p) hd2 hc2
    have h18 := c18_in d hd hc
    have h18' := c18_in (widerD d p) hd2 hc2
    have h32 := c32 d hd
    have h32' := c32 (widerD d p) hd2
    have hlost := hw.lost
    have hlo : (((forged d).length : Int) < (forged (widerD d p)).length) = False := by simp only [eq_iff_iff, iff_false]; omega
    have eD2 : eD (widerD d p) = .agg [.int .i64 d.steps, .int .i64 (leastU d p.2), .int .i64 (wearU d p.1), .lst 0 d.zc (d.cards.map eC), .lst 0 d.zh (d.halves.map eC)] := rfl
    have ec : (widerD d p).cards = d.cards := rfl
    have eh : (widerD d p).halves = d.halves := rfl
    rw [eD2] at h24' h30' h18' h32' hcl2
    rw [ec] at h30' h18'
    rw [eh] at h18'
    have eW : (if d.wear + p.1.tmod 4 < 9 then d.wear + p.1.tmod 4 else 9) = wearU d p.1 := rfl
    have eL : (if 1 < d.least - p.2.tmod 3 then d.least - p.2.tmod 3 else 1) = leastU d p.2 := rfl
    simp only [go_sem, ↓reduceIte, Nat.reduceBEq, Nat.reduceEqDiff, Nat.reduceLT, Nat.reduceLeDiff, Nat.reduceAdd, Nat.reduceMul, Nat.reduceSub, reduceCtorEq, Int.reduceLT, Int.reduceLE, Int.reduceEq, Int.reduceBEq, Int.reduceBNe, Int.reduceToNat, Int.reduceAdd, Int.reduceNeg, Int.reduceSub, eD, eDc, eC_under] at hcl hcl2 h37 h24 h24' h30 h30' h18 h18' h32 h32' ⊢
    simp (disch := omega) only [go_sem, ↓reduceIte, Nat.reduceBEq, Nat.reduceEqDiff, Nat.reduceLT, Nat.reduceLeDiff, Nat.reduceAdd, Nat.reduceMul, Nat.reduceSub, reduceCtorEq, Int.reduceLT, Int.reduceLE, Int.reduceEq, Int.reduceBEq, Int.reduceBNe, Int.reduceToNat, Int.reduceAdd, Int.reduceNeg, Int.reduceSub, eC_clean, eC_under, h37, wrap_i64, eW, eL, h24, h24', vI, hlo]
    rw [w_rounds_u (fun k => [(10, .int .i64 k)]) d.cards.length (.exit 0) [(10, .int .i64 d.cards.length)] ?_ ?_ ?_ rfl]
    · rcases hw.enough hc hc2 with ⟨e1, e2⟩ | ⟨e1, e2 | ⟨e2, e3⟩⟩
      · rw [e1] at h32
        rw [e2] at h32'
        simp (disch := omega) only [go_sem, ↓reduceIte, Nat.reduceBEq, Nat.reduceEqDiff, Nat.reduceLT, Nat.reduceLeDiff, Nat.reduceAdd, Nat.reduceMul, Nat.reduceSub, reduceCtorEq, Int.reduceLT, Int.reduceLE, Int.reduceEq, Int.reduceBEq, Int.reduceBNe, Int.reduceToNat, Int.reduceAdd, Int.reduceNeg, Int.reduceSub, eC_clean, wrap_i64, h32, h32', h21]
        exact ⟨_, rfl⟩
      · rw [e1] at h32
        rw [e2] at h32'
        simp (disch := omega) only [go_sem, ↓reduceIte, Nat.reduceBEq, Nat.reduceEqDiff, Nat.reduceLT, Nat.reduceLeDiff, Nat.reduceAdd, Nat.reduceMul, Nat.reduceSub, reduceCtorEq, Int.reduceLT, Int.reduceLE, Int.reduceEq, Int.reduceBEq, Int.reduceBNe, Int.reduceToNat, Int.reduceAdd, Int.reduceNeg, Int.reduceSub, eC_clean, wrap_i64, h32, h32', h21]
        exact ⟨_, rfl⟩
      · rw [e1] at h32
        rw [e2] at h32'
        have e4 : ((enoughR d).1 ≤ (enoughR (widerD d p)).1) = True := by simp only [eq_iff_iff, iff_true]; exact e3
        simp (disch := omega) only [go_sem, ↓reduceIte, Nat.reduceBEq, Nat.reduceEqDiff, Nat.reduceLT, Nat.reduceLeDiff, Nat.reduceAdd, Nat.reduceMul, Nat.reduceSub, reduceCtorEq, Int.reduceLT, Int.reduceLE, Int.reduceEq, Int.reduceBEq, Int.reduceBNe, Int.reduceToNat, Int.reduceAdd, Int.reduceNeg, Int.reduceSub, eC_clean, wrap_i64, h32, h32', h21, e4]
        exact ⟨_, rfl⟩
    · simp only [go_sem, ↓reduceIte, Nat.reduceBEq, Nat.reduceEqDiff, Nat.reduceLT, Nat.reduceLeDiff, Nat.reduceAdd, Nat.reduceMul, Nat.reduceSub, reduceCtorEq, Int.reduceLT, Int.reduceLE, Int.reduceEq, Int.reduceBEq, Int.reduceBNe, Int.reduceToNat, Int.reduceAdd, Int.reduceNeg, Int.reduceSub]
    · intro c hcc
      have hci : (c : Int) < d.cards.length := by omega
      simp (disch := omega) only [go_sem, ↓reduceIte, Nat.reduceBEq, Nat.reduceEqDiff, Nat.reduceLT, Nat.reduceLeDiff, Nat.reduceAdd, Nat.reduceMul, Nat.reduceSub, reduceCtorEq, Int.reduceLT, Int.reduceLE, Int.reduceEq, Int.reduceBEq, Int.reduceBNe, Int.reduceToNat, Int.reduceAdd, Int.reduceNeg, Int.reduceSub, hci, wrap_i64]
      rw [w_rounds_u (fun k => [(11, .int .i64 k)]) d.halves.length (.exit 2) [(11, .int .i64 d.halves.length)] ?_ ?_ ?_ rfl]
      rotate_left
      · simp only [go_sem, ↓reduceIte, Nat.reduceBEq, Nat.reduceEqDiff, Nat.reduceLT, Nat.reduceLeDiff, Nat.reduceAdd, Nat.reduceMul, Nat.reduceSub, reduceCtorEq, Int.reduceLT, Int.reduceLE, Int.reduceEq, Int.reduceBEq, Int.reduceBNe, Int.reduceToNat, Int.reduceAdd, Int.reduceNeg, Int.reduceSub]
      · intro e he
        have hei : (e : Int) < d.halves.length := by omega
        have q1 := h18 c e hcc he
        have q2 := h18' c e hcc he
        have hfl : (fitN d c e).length ≤ d.steps.toNat := fitsL_len _ _ _ _
        have hfl2 : (fitN (widerD d p) c e).length ≤ d.steps.toNat := fitsL_len _ _ _ _
        simp (disch := omega) only [go_sem, ↓reduceIte, Nat.reduceBEq, Nat.reduceEqDiff, Nat.reduceLT, Nat.reduceLeDiff, Nat.reduceAdd, Nat.reduceMul, Nat.reduceSub, reduceCtorEq, Int.reduceLT, Int.reduceLE, Int.reduceEq, Int.reduceBEq, Int.reduceBNe, Int.reduceToNat, Int.reduceAdd, Int.reduceNeg, Int.reduceSub, eC_clean, hei, wrap_i64, q1, q2, vI]
        rw [w_rounds_u (fun k => [(16, .int .i64 k)]) (fitN d c e).length (.exit 4) [(16, .int .i64 (fitN d c e).length)] ?_ ?_ ?_ rfl]
        · simp (disch := omega) only [go_sem, ↓reduceIte, Nat.reduceBEq, Nat.reduceEqDiff, Nat.reduceLT, Nat.reduceLeDiff, Nat.reduceAdd, Nat.reduceMul, Nat.reduceSub, reduceCtorEq, Int.reduceLT, Int.reduceLE, Int.reduceEq, Int.reduceBEq, Int.reduceBNe, Int.reduceToNat, Int.reduceAdd, Int.reduceNeg, Int.reduceSub, wrap_i64]
        · simp only [go_sem, ↓reduceIte, Nat.reduceBEq, Nat.reduceEqDiff, Nat.reduceLT, Nat.reduceLeDiff, Nat.reduceAdd, Nat.reduceMul, Nat.reduceSub, reduceCtorEq, Int.reduceLT, Int.reduceLE, Int.reduceEq, Int.reduceBEq, Int.reduceBNe, Int.reduceToNat, Int.reduceAdd, Int.reduceNeg, Int.reduceSub]
        · intro k hk
          have hki : (k : Int) < (fitN d c e).length := by omega
          have hx := List.getElem?_eq_getElem hk
          have hin : ((fitN (widerD d p) c e).any fun x => x == (fitN d c e)[k]) = true := by
            rw [List.any_eq_true]
            exact ⟨_, hw.fit (List.getElem_mem hk), by simp⟩
          have hz : zT 1 (fitN d c e).length = 1 := zT_pos (by omega)
          have h39 := c39 (fitN (widerD d p) c e) (fitN d c e)[k] _ zT_ne (by omega)
          rw [hin] at h39
          simp (disch := omega) only [go_sem, ↓reduceIte, Nat.reduceBEq, Nat.reduceEqDiff, Nat.reduceLT, Nat.reduceLeDiff, Nat.reduceAdd, Nat.reduceMul, Nat.reduceSub, reduceCtorEq, Int.reduceLT, Int.reduceLE, Int.reduceEq, Int.reduceBEq, Int.reduceBNe, Int.reduceToNat, Int.reduceAdd, Int.reduceNeg, Int.reduceSub, hki, hx, hz, h39, wrap_i64]
        · simp only [go_sem, ↓reduceIte, Nat.reduceBEq, Nat.reduceEqDiff, Nat.reduceLT, Nat.reduceLeDiff, Nat.reduceAdd, Nat.reduceMul, Nat.reduceSub, reduceCtorEq, Int.reduceLT, Int.reduceLE, Int.reduceEq, Int.reduceBEq, Int.reduceBNe, Int.reduceToNat, Int.reduceAdd, Int.reduceNeg, Int.reduceSub]
      · simp only [go_sem, ↓reduceIte, Nat.reduceBEq, Nat.reduceEqDiff, Nat.reduceLT, Nat.reduceLeDiff, Nat.reduceAdd, Nat.reduceMul, Nat.reduceSub, reduceCtorEq, Int.reduceLT, Int.reduceLE, Int.reduceEq, Int.reduceBEq, Int.reduceBNe, Int.reduceToNat, Int.reduceAdd, Int.reduceNeg, Int.reduceSub]
      simp (disch := omega) only [go_sem, ↓reduceIte, Nat.reduceBEq, Nat.reduceEqDiff, Nat.reduceLT, Nat.reduceLeDiff, Nat.reduceAdd, Nat.reduceMul, Nat.reduceSub, reduceCtorEq, Int.reduceLT, Int.reduceLE, Int.reduceEq, Int.reduceBEq, Int.reduceBNe, Int.reduceToNat, Int.reduceAdd, Int.reduceNeg, Int.reduceSub, wrap_i64]
      rw [w_rounds_u (fun k => [(17, .int .i64 k)]) c (.exit 6) [(17, .int .i64 c)] ?_ ?_ ?_ rfl]
      · simp (disch := omega) only [go_sem, ↓reduceIte, Nat.reduceBEq, Nat.reduceEqDiff, Nat.reduceLT, Nat.reduceLeDiff, Nat.reduceAdd, Nat.reduceMul, Nat.reduceSub, reduceCtorEq, Int.reduceLT, Int.reduceLE, Int.reduceEq, Int.reduceBEq, Int.reduceBNe, Int.reduceToNat, Int.reduceAdd, Int.reduceNeg, Int.reduceSub, wrap_i64]
      · simp only [go_sem, ↓reduceIte, Nat.reduceBEq, Nat.reduceEqDiff, Nat.reduceLT, Nat.reduceLeDiff, Nat.reduceAdd, Nat.reduceMul, Nat.reduceSub, reduceCtorEq, Int.reduceLT, Int.reduceLE, Int.reduceEq, Int.reduceBEq, Int.reduceBNe, Int.reduceToNat, Int.reduceAdd, Int.reduceNeg, Int.reduceSub]
      · intro b hb
        have hbi : (b : Int) < c := by omega
        have q1 := h30 b c (by omega) hcc (by omega)
        have q2 := h30' b c (by omega) hcc (by omega)
        cases hal : alikeB d b c with
        | true =>
          rw [hal] at q1
          rw [hw.alike hal] at q2
          simp (disch := omega) only [go_sem, ↓reduceIte, Nat.reduceBEq, Nat.reduceEqDiff, Nat.reduceLT, Nat.reduceLeDiff, Nat.reduceAdd, Nat.reduceMul, Nat.reduceSub, reduceCtorEq, Int.reduceLT, Int.reduceLE, Int.reduceEq, Int.reduceBEq, Int.reduceBNe, Int.reduceToNat, Int.reduceAdd, Int.reduceNeg, Int.reduceSub, eC_clean, hbi, wrap_i64, q1, q2]
        | false =>
          rw [hal] at q1
          simp (disch := omega) only [go_sem, ↓reduceIte, Nat.reduceBEq, Nat.reduceEqDiff, Nat.reduceLT, Nat.reduceLeDiff, Nat.reduceAdd, Nat.reduceMul, Nat.reduceSub, reduceCtorEq, Int.reduceLT, Int.reduceLE, Int.reduceEq, Int.reduceBEq, Int.reduceBNe, Int.reduceToNat, Int.reduceAdd, Int.reduceNeg, Int.reduceSub, eC_clean, hbi, wrap_i64, q1, q2]
      · simp only [go_sem, ↓reduceIte, Nat.reduceBEq, Nat.reduceEqDiff, Nat.reduceLT, Nat.reduceLeDiff, Nat.reduceAdd, Nat.reduceMul, Nat.reduceSub, reduceCtorEq, Int.reduceLT, Int.reduceLE, Int.reduceEq, Int.reduceBEq, Int.reduceBNe, Int.reduceToNat, Int.reduceAdd, Int.reduceNeg, Int.reduceSub]
    · simp only [go_sem, ↓reduceIte, Nat.reduceBEq, Nat.reduceEqDiff, Nat.reduceLT, Nat.reduceLeDiff, Nat.reduceAdd, Nat.reduceMul, Nat.reduceSub, reduceCtorEq, Int.reduceLT, Int.reduceLE, Int.reduceEq, Int.reduceBEq, Int.reduceBNe, Int.reduceToNat, Int.reduceAdd, Int.reduceNeg, Int.reduceSub]
  · have hcf : ((checkT d).2.2 == 0) = false := by simpa using hc
    rw [hcf] at h37
    simp only [go_sem, ↓reduceIte, Nat.reduceBEq, Nat.reduceEqDiff, Nat.reduceLT, Nat.reduceLeDiff, Nat.reduceAdd, Nat.reduceMul, Nat.reduceSub, reduceCtorEq, Int.reduceLT, Int.reduceLE, Int.reduceEq, Int.reduceBEq, Int.reduceBNe, Int.reduceToNat, Int.reduceAdd, Int.reduceNeg, Int.reduceSub, eD, eDc, eC_under] at hcl h37 ⊢
    simp (disch := omega) only [go_sem, ↓reduceIte, Nat.reduceBEq, Nat.reduceEqDiff, Nat.reduceLT, Nat.reduceLeDiff, Nat.reduceAdd, Nat.reduceMul, Nat.reduceSub, reduceCtorEq, Int.reduceLT, Int.reduceLE, Int.reduceEq, Int.reduceBEq, Int.reduceBNe, Int.reduceToNat, Int.reduceAdd, Int.reduceNeg, Int.reduceSub, eC_clean, h37, h21]
    exact ⟨_, rfl⟩
end Go.Proofs.Ytbfodfepgefloaa
