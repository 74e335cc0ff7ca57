/- Part 40 of what the claim is proved by: lemmas on the model and walks through functions of the program; no conditions. -/
import Derived.Test.YtmdpbfghjdljiaaGreatV39
namespace Go.Proofs
open Go Go.W Go.V
abbrev givA (lz : Bool) (ss : List (List Cls)) (ts : List Thing) (l : List Step) (c th fr to : Int) : AV := .st [V.bool lz, schsA ss, thingsA ts, stepsA l, V.int c, V.int th, V.int fr, V.int to]
theorem same_self (lz : Bool) (ss : List (List Cls)) (ts : List Thing) : V.Spec Tryz.prog Fc.ref17_Same [wlA lz ss ts, wlA lz ss ts] [] (V.bool true) [] := by
  have h := same lz lz ss ss ts ts
  rwa [beq_self_eq_true, beq_self_eq_true, beq_self_eq_true] at h
theorem vals_self (l : List (Int × Int)) : V.Spec Tryz.prog Fc.ref17_SameVals [valsA l, valsA l] [] (V.bool true) [] := by
  have h := s_ref17_SameVals l l
  rwa [beq_self_eq_true] at h
theorem errs_self (l : List Int) : V.Spec Tryz.prog Fc.ref17_SameErrs [ints l, ints l] [] (V.bool true) [] := by
  have h := s_ref17_SameErrs l l
  rwa [beq_self_eq_true] at h
set_option maxHeartbeats 1000000 in
theorem s_law17_TurnPlays (lz : Bool) (ss : List (List Cls)) (ts : List Thing) (hsh : ∀ s ∈ ss, Short s) (l : List Step) (hk : ∀ s ∈ l, ShortC s.k) (c th fr to : Int) : V.Spec Tryz.prog Fc.law17_TurnPlays [givA lz ss ts l c th fr to] [] (V.bool true) [] := by
  have hp := s_turn_Play lz ss ts hsh l hk
  have hq := s_ref17_Play lz ss ts hsh l hk
  have hkn := s_law17_known
  generalize playX lz ss ts l = r at *
  obtain ⟨⟨lz2, ss2, ts2⟩, v, es, e⟩ := r
  have hw := same_self lz2 ss2 ts2
  have hv := vals_self v
  have he := errs_self es
  refine V.Spec.enter Tryz.tabOK Tryz.mixed Fn.law17_TurnPlays rfl rfl rfl fun B hB => ?_
  repeat' (with_reducible first | refine OL.st ?_ | refine OL.box ?_ | refine TC.region ?_ | refine TC.seq ?_ | refine OL.nil ?_ | refine TX.thenN ?_ | refine OL.ldM ?_ | fail)
  refine OL.c hp Fn.turn_Play ?_
  repeat' (with_reducible first | refine OL.st ?_ | refine OL.alloc ?_ | refine OL.storeAgg ?_ | refine TC.region ?_ | refine TC.seq ?_ | refine OL.nil ?_ | refine TX.thenN ?_ | refine OL.ldM ?_ | fail)
  refine OL.c hq Fn.ref17_Play ?_
  repeat' (with_reducible first | refine OL.st ?_ | refine OL.alloc ?_ | refine OL.storeAgg ?_ | refine TC.region ?_ | refine TC.seq ?_ | refine OL.nil ?_ | refine TX.thenN ?_ | refine OL.gOn ?_ | refine OL.gD ?_ ?_ <;> (intro hc; try (exfalso; omega)) | fail)
  refine OL.c hw Fn.ref17_Same ?_
  repeat' (first | (with_reducible refine OL.st ?_) | (with_reducible refine OL.gOn ?_) | fail)
  refine OL.c hv Fn.ref17_SameVals ?_
  repeat' (first | (with_reducible refine OL.st ?_) | (with_reducible refine OL.gOn ?_) | fail)
  refine OL.c he Fn.ref17_SameErrs ?_
  repeat' (first | (with_reducible refine OL.st ?_) | (with_reducible refine OL.gOn ?_) | fail)
  refine OL.c hkn Fn.law17_known ?_
  repeat' (with_reducible first | refine OL.st ?_ | refine OL.nil ?_ | refine TX.thenN ?_ | refine TC.ret ?_ | fail)
  exact TX.rt1 [] (.ren rfl)
set_option maxHeartbeats 1000000 in
theorem s_law17_TurnMaps (lz : Bool) (ss : List (List Cls)) (ts : List Thing) (hsh : ∀ s ∈ ss, Short s) (l : List Step) (c th fr to : Int) : V.Spec Tryz.prog Fc.law17_TurnMaps [givA lz ss ts l c th fr to] [] (V.bool true) [] := by
  have hp := s_turn_Map hsh c fr to
  have hq := s_ref17_Map hsh c fr to
  have hkn := s_law17_known
  generalize mapX ss c fr to = r at *
  obtain ⟨m, e⟩ := r
  have hw := sm1 m
  refine V.Spec.enter Tryz.tabOK Tryz.mixed Fn.law17_TurnMaps rfl rfl rfl fun B hB => ?_
  repeat' (with_reducible first | refine OL.st ?_ | refine OL.box ?_ | refine TC.region ?_ | refine TC.seq ?_ | refine OL.nil ?_ | refine TX.thenN ?_ | fail)
  refine OL.c hp Fn.turn_Map ?_
  repeat' (with_reducible first | refine OL.st ?_ | refine TC.region ?_ | refine TC.seq ?_ | refine OL.nil ?_ | refine TX.thenN ?_ | fail)
  refine OL.c hq Fn.ref17_Map ?_
  repeat' (with_reducible first | refine OL.st ?_ | refine TC.region ?_ | refine TC.seq ?_ | refine OL.nil ?_ | refine TX.thenN ?_ | refine OL.gOn ?_ | refine OL.gD ?_ ?_ <;> (intro hc; try (exfalso; omega)) | fail)
  refine OL.c hw Fn.ref17_SameMap ?_
  repeat' (first | (with_reducible refine OL.st ?_) | (with_reducible refine OL.gOn ?_) | fail)
  refine OL.c hkn Fn.law17_known ?_
  repeat' (with_reducible first | refine OL.st ?_ | refine OL.nil ?_ | refine TX.thenN ?_ | refine TC.ret ?_ | fail)
  exact TX.rt1 [] (.ren rfl)
set_option maxHeartbeats 1000000 in
theorem s_law17_TurnChecks (lz : Bool) (ss : List (List Cls)) (ts : List Thing) (hsh : ∀ s ∈ ss, Short s) (l : List Cls) (hl : Short l) (z : Bool) : V.Spec Tryz.prog Fc.law17_TurnChecks [wlA lz ss ts, clssA l, V.bool z] [] (V.bool true) [] := by
  have hc := s_turn_Check lz ss ts hsh
  have hf := s_ref17_Formed lz ss ts hsh
  have hst := s_turn_Start l hl z
  have hg := s_ref17_Good l hl
  have hkn := s_law17_known
  have hw0 := same_self false [] []
  have hw1 := same_self z [l] []
  rw [startX] at hst
  cases hfb : formedB lz ss ts
  all_goals cases hgb : goodB l
  all_goals rw [hfb] at hc hf
  all_goals rw [hgb] at hg hst
  all_goals simp only [if_true, if_false, Bool.false_eq_true] at hc hst
  all_goals refine V.Spec.enter Tryz.tabOK Tryz.mixed Fn.law17_TurnChecks rfl rfl rfl fun B hB => ?_
  all_goals repeat' (with_reducible first | refine OL.st ?_ | refine OL.box ?_ | refine TC.region ?_ | refine TC.seq ?_ | refine OL.nil ?_ | refine TX.thenN ?_ | fail)
  all_goals (with_reducible refine TC.draw (id := 1) true 6 6 ?_ <;> refine OD.st 0 ?_ <;> refine OD.st 3 ?_ <;> refine OD.c1 1 hc Fn.turn_Check ?_ <;> refine OD.st 2 ?_ <;> refine OD.c1 4 hf Fn.ref17_Formed ?_ <;> refine OD.s1 5 ?_ (h := gvNeBl Tryz.underlying4) <;> refine OD.dn ?_)
  all_goals repeat' (with_reducible first | refine OL.st ?_ | refine TC.region ?_ | refine TC.seq ?_ | refine TX.thenN ?_ | refine TC.skip ?_ | refine TC.ifF ?_ | fail)
  all_goals refine OL.c hst Fn.turn_Start ?_
  all_goals repeat' (with_reducible first | refine OL.st ?_ | refine OL.alloc ?_ | refine OL.storeAgg ?_ | refine TC.region ?_ | refine TC.seq ?_ | refine OL.nil ?_ | refine TX.thenN ?_ | fail)
  all_goals refine OL.c hg Fn.ref17_Good ?_
  all_goals repeat' (with_reducible first | refine OL.st ?_ | refine OL.lit ?_ | refine OL.build ?_ | refine TC.region ?_ | refine TC.seq ?_ | refine OL.nil ?_ | refine TX.thenN ?_ | refine TC.skip ?_ | refine TC.ifT ?_ | refine TC.ifF ?_ | refine OL.gOn ?_ | fail)
  all_goals first
    | refine OL.c hw0 Fn.ref17_Same ?_ (hle := by with_unfolding_all exact ⟨.ren rfl, LE.wl0, trivial⟩)
    | (refine OL.vwS 41 1 ?_; refine OL.c hw1 Fn.ref17_Same ?_ (hle := by with_unfolding_all exact ⟨.ren rfl, LE.wl1 z (schsA [l]) (schsA [l]), trivial⟩))
  all_goals repeat' (first | (with_reducible refine OL.st ?_) | (with_reducible refine OL.gOn ?_) | fail)
  all_goals refine OL.c hkn Fn.law17_known ?_
  all_goals repeat' (with_reducible first | refine OL.st ?_ | refine OL.nil ?_ | refine TX.thenN ?_ | refine TC.ret ?_ | refine TX.thenR ?_ | fail)
  all_goals exact TX.rt1 [] (.ren rfl)
end Go.Proofs
