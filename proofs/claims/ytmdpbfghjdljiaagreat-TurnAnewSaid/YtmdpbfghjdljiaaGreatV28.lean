/- Part 28 of what the claim is proved by: lemmas on the model and walks through functions of the program; no conditions. -/
import Derived.Test.YtmdpbfghjdljiaaGreatV27
namespace Go.Proofs
open Go Go.W Go.V
set_option maxHeartbeats 1000000 in
theorem s_turn_mayNew (lz : Bool) {ss : List (List Cls)} {ts : List Thing} (h : WOk ss ts) (s : Step) (d2 : s.d = 2) :
    V.Spec Tryz.prog Fc.turn_world_mayNew [.bp 0 0, stepA s] (worldO lz ss ts) (V.int (refusedE ss ts s)) (worldO lz ss ts) := by
  obtain ⟨n1, n12, lg, lsh, _⟩ := h.last
  obtain ⟨l10, lf⟩ := goodB_fine lg
  have h40 := h.n40
  have hlw := turn_last_w n1 n12
  have hle := last_schE n1
  have hcs := s_turn_class (lastS ss) s.c (by omega)
  rw [refusedE, if_neg (by omega), if_pos d2]
  generalize lastS ss = L at *
  refine V.Spec.enter Tryz.tabOK Tryz.mixed Fn.turn_world_mayNew rfl rfl rfl fun B hB => ?_
  cases ho : ownB L.length s.c
  · rw [ho] at hcs
    rw [if_neg Bool.false_ne_true]
    repeat' (with_reducible first | refine OL.st ?_ | refine OL.box ?_ | refine TC.region ?_ | refine TC.seq ?_ | refine OL.nil ?_ | refine TX.thenN ?_ | refine TC.block ?_ | fail)
    (with_reducible refine TC.draw (id := 1) true 7 7 ?_ <;> refine OD.st 0 ?_ <;> refine OD.st 2 ?_ <;> refine OD.st 3 ?_ <;> refine OD.e1 1 (ss.length - 1) hlw Fn.turn_world_last hle ?_ <;> refine OD.c1 4 hcs Fn.turn_schema_class ?_ <;> refine OD.st 5 ?_ <;> refine OD.st 6 ?_ <;> refine OD.dn ?_)
    repeat' (with_reducible first | refine OL.st ?_ | refine TC.region ?_ | refine TC.seq ?_ | refine OL.nil ?_ | refine TX.thenN ?_ | refine TC.ifT ?_ | refine TC.ret ?_ | refine TX.thenR ?_ | refine TX.blkR ?_ | fail)
    exact TX.rt1 [0, 1, 2] (.ren rfl)
  · rw [ho] at hcs
    rw [if_pos rfl]
    by_cases h40 : 40 ≤ ts.length
    all_goals (try rw [if_pos h40])
    all_goals (try rw [if_neg h40])
    all_goals repeat' (with_reducible first | refine OL.st ?_ | refine OL.box ?_ | refine TC.region ?_ | refine TC.seq ?_ | refine OL.nil ?_ | refine TX.thenN ?_ | refine TC.block ?_ | fail)
    all_goals (with_reducible refine TC.draw (id := 1) true 7 7 ?_ <;> refine OD.st 0 ?_ <;> refine OD.st 2 ?_ <;> refine OD.st 3 ?_ <;> refine OD.e1 1 (ss.length - 1) hlw Fn.turn_world_last hle ?_ <;> refine OD.c1 4 hcs Fn.turn_schema_class ?_ <;> refine OD.st 5 ?_ <;> refine OD.st 6 ?_ <;> refine OD.dn ?_)
    all_goals repeat' (with_reducible first | refine OL.st ?_ | refine TC.region ?_ | refine TC.seq ?_ | refine OL.nil ?_ | refine TX.thenN ?_ | refine TC.skip ?_ | refine TX.blkN ?_ | refine TC.ifF ?_ | refine TC.ifD ?_ ?_ <;> (intro hc; try (exfalso; omega)) | refine TC.ret ?_ | refine TX.thenR ?_ | refine TX.blkR ?_ | fail)
    all_goals exact TX.rt1 [0, 1, 2] (.ren rfl)
set_option maxHeartbeats 2000000 in
theorem s_turn_mayTouch (lz : Bool) {ss : List (List Cls)} {ts : List Thing} (h : WOk ss ts) (s : Step) (d : 3 ≤ s.d ∧ s.d ≤ 6) :
    V.Spec Tryz.prog Fc.turn_world_mayTouch [.bp 0 0, stepA s] (worldO lz ss ts) (V.int (refusedE ss ts s)) (worldO lz ss ts) := by
  obtain ⟨n1, n12, lg, lsh, _⟩ := h.last
  obtain ⟨l10, lf⟩ := goodB_fine lg
  have h40 := h.n40
  have hlw := turn_last_w n1 n12
  have hle := last_schE n1
  have hcs := s_turn_class (lastS ss) s.c (by omega)
  have hva := s_turn_value s.v ts.length
  have hin : inB ts.length s.th = true ↔ 0 ≤ s.th ∧ s.th < (ts.length : Int) := by rw [inB, Bool.and_eq_true, decide_eq_true_eq, decide_eq_true_eq]
  have hcls := fun i (hi : i < ts.length) => h.cls (List.getElem_mem hi)
  have hth : ∀ h : s.th.toNat < ts.length, thAt ts s.th = ts[s.th.toNat] := fun h => getD_lt h
  have hhs := fun c (h3 : 3 ≤ c) (hc : c < 3 + (lastS ss).length) => s_turn_has (lastS ss) (by omega) h3 hc
  rw [refusedE, if_neg (by omega), if_neg (by omega)]
  generalize lastS ss = L at *
  refine V.Spec.enter Tryz.tabOK Tryz.mixed Fn.turn_world_mayTouch rfl rfl rfl fun B hB => ?_
  cases hi : inB ts.length s.th
  · have hni : ¬ (0 ≤ s.th ∧ s.th < (ts.length : Int)) := fun q => by rw [hin.2 q] at hi; cases hi
    simp only [Bool.false_eq_true, if_false, Bool.false_and]
    rw [show (if s.d = 3 ∨ s.d = 4 then (2 : Int) else if s.d = 5 then 2 else if s.d = 6 then 2 else 2) = 2 by split <;> first | rfl | (split <;> first | rfl | (split <;> rfl))]
    by_cases h0 : 0 ≤ s.th
    all_goals repeat' (first | (with_reducible first | refine OL.st ?_ | refine OL.box ?_ | refine TC.region ?_ | refine TC.seq ?_ | refine OL.nil ?_ | refine TX.thenN ?_ | refine TC.ifT ?_ | refine TC.ifD ?_ ?_ <;> (intro hc; try (exfalso; omega)) | refine TC.ret ?_ | refine TX.thenR ?_) | ((with_reducible refine TC.draw (id := 1) true 13 13 ?_) <;> (with_reducible refine OD.st 0 ?_) <;> (with_reducible refine OD.st 1 ?_) <;> (with_reducible refine OD.st 2 ?_) <;> (with_reducible refine OD.st 3 ?_) <;> (with_reducible refine OD.sD 8 ?_ ?_ <;> (intro hc; try (exfalso; omega)) <;> (first | (with_reducible refine OD.st 4 ?_) | (with_reducible refine OD.of 4 ?_))) <;> (first | (with_reducible refine OD.st 5 ?_) | (with_reducible refine OD.of 5 ?_)) <;> (first | (with_reducible refine OD.st 6 ?_) | (with_reducible refine OD.of 6 ?_)) <;> (first | (with_reducible refine OD.st 7 ?_) | (with_reducible refine OD.of 7 ?_)) <;> (first | (with_reducible refine OD.st 8 ?_) | (with_reducible refine OD.of 8 ?_)) <;> (first | (with_reducible refine OD.st 9 ?_) | (with_reducible refine OD.of 9 ?_)) <;> (first | (with_reducible refine OD.st 10 ?_) | (with_reducible refine OD.of 10 ?_)) <;> (first | (with_reducible refine OD.st 11 ?_) | (with_reducible refine OD.of 11 ?_)) <;> (with_reducible refine OD.st 12 ?_) <;> (with_reducible refine OD.dn ?_)) | fail)
    all_goals exact TX.rt1 [0, 1, 2] (.ren rfl)
  obtain ⟨t1, t2⟩ := hin.1 hi
  obtain ⟨c, hc1, hc2, hc3⟩ := hcls s.th.toNat (by omega)
  have hth := hth (by omega)
  have hhs := hhs c hc2 hc3
  have hct := s_slices_Contains_Lint_int (slotsOf L c) s.sl
  have hcp := contains_placeN s.sl (slotsOf L c) 0 (Int.le_refl _)
  rw [← hc1] at hhs
  simp only [if_true, Bool.true_and]
  by_cases d5 : s.d = 5
  · rw [if_neg (by omega), if_pos d5]
    cases ho : ownB L.length s.c
    all_goals rw [ho] at hcs
    all_goals repeat' (first | (with_reducible first | refine OL.st ?_ | refine OL.box ?_ | refine TC.region ?_ | refine TC.seq ?_ | refine OL.nil ?_ | refine TX.thenN ?_ | refine TC.block ?_ | refine TC.skip ?_ | refine TC.exit ?_ | refine TX.hit ?_ | refine TX.thenX ?_ | refine TC.ifD ?_ ?_ <;> (intro hc; try (exfalso; omega))) | ((with_reducible refine TC.draw (id := 1) true 13 13 ?_) <;> (with_reducible refine OD.st 0 ?_) <;> (with_reducible refine OD.st 1 ?_) <;> (with_reducible refine OD.st 2 ?_) <;> (with_reducible refine OD.st 3 ?_) <;> (with_reducible refine OD.sD 8 ?_ ?_ <;> (intro hc; try (exfalso; omega)) <;> (first | (with_reducible refine OD.st 4 ?_) | (with_reducible refine OD.of 4 ?_))) <;> (with_reducible refine OD.st 5 ?_) <;> (with_reducible refine OD.st 6 ?_) <;> (with_reducible refine OD.st 7 ?_) <;> (with_reducible refine OD.st 8 ?_) <;> (with_reducible refine OD.st 9 ?_) <;> (with_reducible refine OD.st 10 ?_) <;> (with_reducible refine OD.st 11 ?_) <;> (with_reducible refine OD.st 12 ?_) <;> (with_reducible refine OD.dn ?_)) | fail)
    all_goals (with_reducible refine TC.draw (id := 7) true 6 6 ?_ <;> refine OD.st 0 ?_ <;> refine OD.st 2 ?_ <;> refine OD.st 3 ?_ <;> refine OD.e1 1 (ss.length - 1) hlw Fn.turn_world_last hle ?_ <;> refine OD.c1 4 hcs Fn.turn_schema_class ?_ <;> refine OD.st 5 ?_ <;> refine OD.dn ?_)
    all_goals repeat' (with_reducible first | refine OL.st ?_ | refine TC.region ?_ | refine TC.seq ?_ | refine OL.nil ?_ | refine TX.thenN ?_ | refine TC.skip ?_ | refine TC.exit ?_ | refine TX.hit ?_ | refine TX.thenX ?_ | refine TX.miss ?_ rfl | refine TC.ifT ?_ | refine TC.ifF ?_ | refine TC.ret ?_ | refine TX.thenR ?_ | refine TX.blkR ?_ | fail)
    all_goals exact TX.rt1 [0, 1, 2] (.ren rfl)
  by_cases d6 : s.d = 6
  · rw [if_neg (by omega), if_neg d5, if_pos d6]
    repeat' (first | (with_reducible first | refine OL.st ?_ | refine OL.box ?_ | refine TC.region ?_ | refine TC.seq ?_ | refine OL.nil ?_ | refine TX.thenN ?_ | refine TC.block ?_ | refine TC.skip ?_ | refine TC.exit ?_ | refine TX.hit ?_ | refine TX.thenX ?_ | refine TX.miss ?_ rfl | refine TC.ifD ?_ ?_ <;> (intro hc; try (exfalso; omega)) | refine TC.ret ?_) | ((with_reducible refine TC.draw (id := 1) true 13 13 ?_) <;> (with_reducible refine OD.st 0 ?_) <;> (with_reducible refine OD.st 1 ?_) <;> (with_reducible refine OD.st 2 ?_) <;> (with_reducible refine OD.st 3 ?_) <;> (with_reducible refine OD.sD 8 ?_ ?_ <;> (intro hc; try (exfalso; omega)) <;> (first | (with_reducible refine OD.st 4 ?_) | (with_reducible refine OD.of 4 ?_))) <;> (with_reducible refine OD.st 5 ?_) <;> (with_reducible refine OD.st 6 ?_) <;> (with_reducible refine OD.st 7 ?_) <;> (with_reducible refine OD.st 8 ?_) <;> (with_reducible refine OD.st 9 ?_) <;> (with_reducible refine OD.st 10 ?_) <;> (with_reducible refine OD.st 11 ?_) <;> (with_reducible refine OD.st 12 ?_) <;> (with_reducible refine OD.dn ?_)) | fail)
    exact TX.rt1 [0, 1, 2] (.ren rfl)
  rw [if_pos (by omega), hth, hc1, Int.toNat_natCast]
  generalize placeN (slotsOf L c) s.sl 0 = pl at *
  cases hcb : (slotsOf L c).contains s.sl
  · have hpl : pl < 0 := by
      rw [hcb] at hcp; simp only [Bool.false_eq_true, false_iff] at hcp; omega
    rw [if_pos hpl]
    rw [hcb] at hct
    by_cases d4 : s.d = 4
    · cases hvb : valB s.v ts.length
      all_goals rw [hvb] at hva
      · rw [if_pos ⟨d4, rfl⟩]
        repeat' (first | (with_reducible first | refine OL.st ?_ | refine OL.box ?_ | refine TC.region ?_ | refine TC.seq ?_ | refine OL.nil ?_ | refine TX.thenN ?_ | refine TC.block ?_ | refine TC.skip ?_ | refine TC.exit ?_ | refine TX.hit ?_ | refine TX.thenX ?_ | refine TX.miss ?_ rfl | refine TC.ifD ?_ ?_ <;> (intro hc; try (exfalso; omega))) | ((with_reducible refine TC.draw (id := 1) true 13 13 ?_) <;> (with_reducible refine OD.st 0 ?_) <;> (with_reducible refine OD.st 1 ?_) <;> (with_reducible refine OD.st 2 ?_) <;> (with_reducible refine OD.st 3 ?_) <;> (with_reducible refine OD.sD 8 ?_ ?_ <;> (intro hc; try (exfalso; omega)) <;> (first | (with_reducible refine OD.st 4 ?_) | (with_reducible refine OD.of 4 ?_))) <;> (with_reducible refine OD.st 5 ?_) <;> (with_reducible refine OD.st 6 ?_) <;> (with_reducible refine OD.st 7 ?_) <;> (with_reducible refine OD.st 8 ?_) <;> (with_reducible refine OD.st 9 ?_) <;> (with_reducible refine OD.st 10 ?_) <;> (with_reducible refine OD.st 11 ?_) <;> (with_reducible refine OD.st 12 ?_) <;> (with_reducible refine OD.dn ?_)) | fail)
        (with_reducible refine TC.draw (id := 9) true 9 9 ?_ <;> refine OD.st 0 ?_ <;> refine OD.st 2 ?_ <;> refine OD.st 3 ?_ <;> refine OD.st 4 ?_ <;> refine OD.st 5 ?_ <;> refine OD.st 6 ?_ <;> refine OD.s1 1 ?_ (h := gvM) <;> refine OD.c1 7 hva Fn.turn_value ?_ <;> refine OD.st 8 ?_ <;> refine OD.dn ?_)
        repeat' (with_reducible first | refine OL.st ?_ | refine TC.region ?_ | refine TC.seq ?_ | refine OL.nil ?_ | refine TX.thenN ?_ | refine TC.ifT ?_ | refine TC.ret ?_ | refine TX.thenR ?_ | refine TX.blkR ?_ | fail)
        exact TX.rt1 [0, 1, 2] (.ren rfl)
      · rw [if_neg (fun h => by cases h.2)]
        repeat' (first | (with_reducible first | refine OL.st ?_ | refine OL.box ?_ | refine TC.region ?_ | refine TC.seq ?_ | refine OL.nil ?_ | refine TX.thenN ?_ | refine TC.block ?_ | refine TC.skip ?_ | refine TC.exit ?_ | refine TX.hit ?_ | refine TX.thenX ?_ | refine TX.miss ?_ rfl | refine TC.ifD ?_ ?_ <;> (intro hc; try (exfalso; omega))) | ((with_reducible refine TC.draw (id := 1) true 13 13 ?_) <;> (with_reducible refine OD.st 0 ?_) <;> (with_reducible refine OD.st 1 ?_) <;> (with_reducible refine OD.st 2 ?_) <;> (with_reducible refine OD.st 3 ?_) <;> (with_reducible refine OD.sD 8 ?_ ?_ <;> (intro hc; try (exfalso; omega)) <;> (first | (with_reducible refine OD.st 4 ?_) | (with_reducible refine OD.of 4 ?_))) <;> (with_reducible refine OD.st 5 ?_) <;> (with_reducible refine OD.st 6 ?_) <;> (with_reducible refine OD.st 7 ?_) <;> (with_reducible refine OD.st 8 ?_) <;> (with_reducible refine OD.st 9 ?_) <;> (with_reducible refine OD.st 10 ?_) <;> (with_reducible refine OD.st 11 ?_) <;> (with_reducible refine OD.st 12 ?_) <;> (with_reducible refine OD.dn ?_)) | fail)
        (with_reducible refine TC.draw (id := 9) true 9 9 ?_ <;> refine OD.st 0 ?_ <;> refine OD.st 2 ?_ <;> refine OD.st 3 ?_ <;> refine OD.st 4 ?_ <;> refine OD.st 5 ?_ <;> refine OD.st 6 ?_ <;> refine OD.s1 1 ?_ (h := gvM) <;> refine OD.c1 7 hva Fn.turn_value ?_ <;> refine OD.st 8 ?_ <;> refine OD.dn ?_)
        repeat' (with_reducible first | refine TC.seq ?_ | refine TX.thenN ?_ | refine TC.skip ?_ | refine TX.blkN ?_ | refine TC.ifF ?_ | fail)
        (with_reducible refine TC.draw (id := 11) true 16 16 ?_ <;> refine OD.st 0 ?_ <;> refine OD.st 2 ?_ <;> refine OD.st 3 ?_ <;> refine OD.st 4 ?_ <;> refine OD.st 5 ?_ <;> refine OD.st 6 ?_ <;> refine OD.st 7 ?_ <;> refine OD.st 8 ?_ <;> refine OD.st 9 ?_ <;> refine OD.st 10 ?_ <;> refine OD.st 12 ?_ <;> refine OD.st 13 ?_ <;> refine OD.e1 1 (ss.length - 1) hlw Fn.turn_world_last hle ?_ <;> refine OD.c1 11 hhs Fn.turn_schema_has ?_ <;> refine OD.c1 14 hct Fn.slices_Contains_Lint_int ?_ <;> refine OD.st 15 ?_ <;> refine OD.dn ?_)
        repeat' (with_reducible first | refine OL.st ?_ | refine TC.region ?_ | refine TC.seq ?_ | refine OL.nil ?_ | refine TX.thenN ?_ | refine TC.ifT ?_ | refine TC.ret ?_ | refine TX.thenR ?_ | refine TX.blkR ?_ | fail)
        exact TX.rt1 [0, 1, 2] (.ren rfl)
    · rw [if_neg (fun h => d4 h.1)]
      repeat' (first | (with_reducible first | refine OL.st ?_ | refine OL.box ?_ | refine TC.region ?_ | refine TC.seq ?_ | refine OL.nil ?_ | refine TX.thenN ?_ | refine TC.block ?_ | refine TC.skip ?_ | refine TC.exit ?_ | refine TX.hit ?_ | refine TX.thenX ?_ | refine TX.miss ?_ rfl | refine TC.ifD ?_ ?_ <;> (intro hc; try (exfalso; omega))) | ((with_reducible refine TC.draw (id := 1) true 13 13 ?_) <;> (with_reducible refine OD.st 0 ?_) <;> (with_reducible refine OD.st 1 ?_) <;> (with_reducible refine OD.st 2 ?_) <;> (with_reducible refine OD.st 3 ?_) <;> (with_reducible refine OD.sD 8 ?_ ?_ <;> (intro hc; try (exfalso; omega)) <;> (first | (with_reducible refine OD.st 4 ?_) | (with_reducible refine OD.of 4 ?_))) <;> (with_reducible refine OD.st 5 ?_) <;> (with_reducible refine OD.st 6 ?_) <;> (with_reducible refine OD.st 7 ?_) <;> (with_reducible refine OD.st 8 ?_) <;> (with_reducible refine OD.st 9 ?_) <;> (with_reducible refine OD.st 10 ?_) <;> (with_reducible refine OD.st 11 ?_) <;> (with_reducible refine OD.st 12 ?_) <;> (with_reducible refine OD.dn ?_)) | fail)
      (with_reducible refine TC.draw (id := 11) true 16 16 ?_ <;> refine OD.st 0 ?_ <;> refine OD.st 2 ?_ <;> refine OD.st 3 ?_ <;> refine OD.st 4 ?_ <;> refine OD.st 5 ?_ <;> refine OD.st 6 ?_ <;> refine OD.st 7 ?_ <;> refine OD.st 8 ?_ <;> refine OD.st 9 ?_ <;> refine OD.st 10 ?_ <;> refine OD.st 12 ?_ <;> refine OD.st 13 ?_ <;> refine OD.e1 1 (ss.length - 1) hlw Fn.turn_world_last hle ?_ <;> refine OD.c1 11 hhs Fn.turn_schema_has ?_ <;> refine OD.c1 14 hct Fn.slices_Contains_Lint_int ?_ <;> refine OD.st 15 ?_ <;> refine OD.dn ?_)
      repeat' (with_reducible first | refine OL.st ?_ | refine TC.region ?_ | refine TC.seq ?_ | refine OL.nil ?_ | refine TX.thenN ?_ | refine TC.ifT ?_ | refine TC.ret ?_ | refine TX.thenR ?_ | refine TX.blkR ?_ | fail)
      exact TX.rt1 [0, 1, 2] (.ren rfl)
  · have hpl : ¬ pl < 0 := by
      have := hcp.1 hcb; omega
    rw [if_neg hpl]
    rw [hcb] at hct
    by_cases d4 : s.d = 4
    · cases hvb : valB s.v ts.length
      all_goals rw [hvb] at hva
      · rw [if_pos ⟨d4, rfl⟩]
        repeat' (first | (with_reducible first | refine OL.st ?_ | refine OL.box ?_ | refine TC.region ?_ | refine TC.seq ?_ | refine OL.nil ?_ | refine TX.thenN ?_ | refine TC.block ?_ | refine TC.skip ?_ | refine TC.exit ?_ | refine TX.hit ?_ | refine TX.thenX ?_ | refine TX.miss ?_ rfl | refine TC.ifD ?_ ?_ <;> (intro hc; try (exfalso; omega))) | ((with_reducible refine TC.draw (id := 1) true 13 13 ?_) <;> (with_reducible refine OD.st 0 ?_) <;> (with_reducible refine OD.st 1 ?_) <;> (with_reducible refine OD.st 2 ?_) <;> (with_reducible refine OD.st 3 ?_) <;> (with_reducible refine OD.sD 8 ?_ ?_ <;> (intro hc; try (exfalso; omega)) <;> (first | (with_reducible refine OD.st 4 ?_) | (with_reducible refine OD.of 4 ?_))) <;> (with_reducible refine OD.st 5 ?_) <;> (with_reducible refine OD.st 6 ?_) <;> (with_reducible refine OD.st 7 ?_) <;> (with_reducible refine OD.st 8 ?_) <;> (with_reducible refine OD.st 9 ?_) <;> (with_reducible refine OD.st 10 ?_) <;> (with_reducible refine OD.st 11 ?_) <;> (with_reducible refine OD.st 12 ?_) <;> (with_reducible refine OD.dn ?_)) | fail)
        (with_reducible refine TC.draw (id := 9) true 9 9 ?_ <;> refine OD.st 0 ?_ <;> refine OD.st 2 ?_ <;> refine OD.st 3 ?_ <;> refine OD.st 4 ?_ <;> refine OD.st 5 ?_ <;> refine OD.st 6 ?_ <;> refine OD.s1 1 ?_ (h := gvM) <;> refine OD.c1 7 hva Fn.turn_value ?_ <;> refine OD.st 8 ?_ <;> refine OD.dn ?_)
        repeat' (with_reducible first | refine OL.st ?_ | refine TC.region ?_ | refine TC.seq ?_ | refine OL.nil ?_ | refine TX.thenN ?_ | refine TC.ifT ?_ | refine TC.ret ?_ | refine TX.thenR ?_ | refine TX.blkR ?_ | fail)
        exact TX.rt1 [0, 1, 2] (.ren rfl)
      · rw [if_neg (fun h => by cases h.2)]
        repeat' (first | (with_reducible first | refine OL.st ?_ | refine OL.box ?_ | refine TC.region ?_ | refine TC.seq ?_ | refine OL.nil ?_ | refine TX.thenN ?_ | refine TC.block ?_ | refine TC.skip ?_ | refine TC.exit ?_ | refine TX.hit ?_ | refine TX.thenX ?_ | refine TX.miss ?_ rfl | refine TC.ifD ?_ ?_ <;> (intro hc; try (exfalso; omega))) | ((with_reducible refine TC.draw (id := 1) true 13 13 ?_) <;> (with_reducible refine OD.st 0 ?_) <;> (with_reducible refine OD.st 1 ?_) <;> (with_reducible refine OD.st 2 ?_) <;> (with_reducible refine OD.st 3 ?_) <;> (with_reducible refine OD.sD 8 ?_ ?_ <;> (intro hc; try (exfalso; omega)) <;> (first | (with_reducible refine OD.st 4 ?_) | (with_reducible refine OD.of 4 ?_))) <;> (with_reducible refine OD.st 5 ?_) <;> (with_reducible refine OD.st 6 ?_) <;> (with_reducible refine OD.st 7 ?_) <;> (with_reducible refine OD.st 8 ?_) <;> (with_reducible refine OD.st 9 ?_) <;> (with_reducible refine OD.st 10 ?_) <;> (with_reducible refine OD.st 11 ?_) <;> (with_reducible refine OD.st 12 ?_) <;> (with_reducible refine OD.dn ?_)) | fail)
        (with_reducible refine TC.draw (id := 9) true 9 9 ?_ <;> refine OD.st 0 ?_ <;> refine OD.st 2 ?_ <;> refine OD.st 3 ?_ <;> refine OD.st 4 ?_ <;> refine OD.st 5 ?_ <;> refine OD.st 6 ?_ <;> refine OD.s1 1 ?_ (h := gvM) <;> refine OD.c1 7 hva Fn.turn_value ?_ <;> refine OD.st 8 ?_ <;> refine OD.dn ?_)
        repeat' (with_reducible first | refine TC.seq ?_ | refine TX.thenN ?_ | refine TC.skip ?_ | refine TX.blkN ?_ | refine TC.ifF ?_ | fail)
        (with_reducible refine TC.draw (id := 11) true 16 16 ?_ <;> refine OD.st 0 ?_ <;> refine OD.st 2 ?_ <;> refine OD.st 3 ?_ <;> refine OD.st 4 ?_ <;> refine OD.st 5 ?_ <;> refine OD.st 6 ?_ <;> refine OD.st 7 ?_ <;> refine OD.st 8 ?_ <;> refine OD.st 9 ?_ <;> refine OD.st 10 ?_ <;> refine OD.st 12 ?_ <;> refine OD.st 13 ?_ <;> refine OD.e1 1 (ss.length - 1) hlw Fn.turn_world_last hle ?_ <;> refine OD.c1 11 hhs Fn.turn_schema_has ?_ <;> refine OD.c1 14 hct Fn.slices_Contains_Lint_int ?_ <;> refine OD.st 15 ?_ <;> refine OD.dn ?_)
        repeat' (with_reducible first | refine OL.st ?_ | refine TC.region ?_ | refine TC.seq ?_ | refine OL.nil ?_ | refine TX.thenN ?_ | refine TC.skip ?_ | refine TC.exit ?_ | refine TX.hit ?_ | refine TC.ifF ?_ | refine TC.ret ?_ | fail)
        exact TX.rt1 [0, 1, 2] (.ren rfl)
    · rw [if_neg (fun h => d4 h.1)]
      repeat' (first | (with_reducible first | refine OL.st ?_ | refine OL.box ?_ | refine TC.region ?_ | refine TC.seq ?_ | refine OL.nil ?_ | refine TX.thenN ?_ | refine TC.block ?_ | refine TC.skip ?_ | refine TC.exit ?_ | refine TX.hit ?_ | refine TX.thenX ?_ | refine TX.miss ?_ rfl | refine TC.ifD ?_ ?_ <;> (intro hc; try (exfalso; omega))) | ((with_reducible refine TC.draw (id := 1) true 13 13 ?_) <;> (with_reducible refine OD.st 0 ?_) <;> (with_reducible refine OD.st 1 ?_) <;> (with_reducible refine OD.st 2 ?_) <;> (with_reducible refine OD.st 3 ?_) <;> (with_reducible refine OD.sD 8 ?_ ?_ <;> (intro hc; try (exfalso; omega)) <;> (first | (with_reducible refine OD.st 4 ?_) | (with_reducible refine OD.of 4 ?_))) <;> (with_reducible refine OD.st 5 ?_) <;> (with_reducible refine OD.st 6 ?_) <;> (with_reducible refine OD.st 7 ?_) <;> (with_reducible refine OD.st 8 ?_) <;> (with_reducible refine OD.st 9 ?_) <;> (with_reducible refine OD.st 10 ?_) <;> (with_reducible refine OD.st 11 ?_) <;> (with_reducible refine OD.st 12 ?_) <;> (with_reducible refine OD.dn ?_)) | fail)
      (with_reducible refine TC.draw (id := 11) true 16 16 ?_ <;> refine OD.st 0 ?_ <;> refine OD.st 2 ?_ <;> refine OD.st 3 ?_ <;> refine OD.st 4 ?_ <;> refine OD.st 5 ?_ <;> refine OD.st 6 ?_ <;> refine OD.st 7 ?_ <;> refine OD.st 8 ?_ <;> refine OD.st 9 ?_ <;> refine OD.st 10 ?_ <;> refine OD.st 12 ?_ <;> refine OD.st 13 ?_ <;> refine OD.e1 1 (ss.length - 1) hlw Fn.turn_world_last hle ?_ <;> refine OD.c1 11 hhs Fn.turn_schema_has ?_ <;> refine OD.c1 14 hct Fn.slices_Contains_Lint_int ?_ <;> refine OD.st 15 ?_ <;> refine OD.dn ?_)
      repeat' (with_reducible first | refine OL.st ?_ | refine TC.region ?_ | refine TC.seq ?_ | refine OL.nil ?_ | refine TX.thenN ?_ | refine TC.skip ?_ | refine TC.exit ?_ | refine TX.hit ?_ | refine TC.ifF ?_ | refine TC.ret ?_ | fail)
      exact TX.rt1 [0, 1, 2] (.ren rfl)
end Go.Proofs
