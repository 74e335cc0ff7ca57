/- Part 1 of what the claim is proved by: lemmas on the model and walks through functions of the program; no conditions. -/
import Derived.Test.YtmdpbfghjdljiaaGreatV40
import Derived.Test.YtmdpbfghjdljiaaGreatV13
namespace Go.Proofs
open Go Go.W Go.V
theorem ref17_Fresh_d (lz : Bool) {ss : List (List Cls)} (ts : List Thing) (hsb : schemasB ss = true) {x : Thing} (hx : TOk ss x) : V.Spec Tryz.prog Fc.ref17_Fresh [wlA lz ss ts, thingA x] [] (thingA (freshT ss x)) [] := by
  obtain ⟨s, c, h1, h2, h3, h4, h5, h6⟩ := hx
  obtain ⟨x1, x2, x3⟩ := x
  dsimp only at h1 h2 h6
  subst h1 h2
  have h := s_ref17_Fresh lz ts hsb h3 h5 h6
  have h' := Spec.vwS (i := 0) (o := 2) Tryz.tabOK Tryz.mixed h rfl rfl
  refine Spec.drop h' (.ren ?_)
  rw [freshT]
  dsimp only
  rw [Int.toNat_natCast, Int.toNat_natCast]
  rfl
theorem ref17_SettleOf_d (lz : Bool) {ss : List (List Cls)} {ts : List Thing} (hs : ∀ s ∈ ss, Short s) (hsb : schemasB ss = true) (h40 : ts.length ≤ 40) (ht : ∀ x ∈ ts, TOk ss x) : V.Spec Tryz.prog Fc.ref17_SettleOf [wlA lz ss ts] [] (wlA lz ss (ts.map (freshT ss))) [] := by
  have h := s_ref17_SettleOf lz hs hsb h40 ht
  have h' := Spec.vwS (i := 0) (o := 1) Tryz.tabOK Tryz.mixed h rfl rfl
  have h'' := Spec.vwS (i := 1) (o := 2) Tryz.tabOK Tryz.mixed h' rfl rfl
  exact Spec.drop h'' (.ren rfl)
theorem thing_self (x : Thing) : V.Spec Tryz.prog Fc.ref17_SameThing [thingA x, thingA x] [] (V.bool true) [] := by
  have h := s_ref17_SameThing x x
  rwa [beq_self_eq_true] at h
set_option maxHeartbeats 2000000 in
theorem s_law17_TurnLooks (lz : Bool) (ss : List (List Cls)) (ts : List Thing) (hsh : ∀ s ∈ ss, Short s) (l : List Step) (c th fr to : Int) : V.Spec Tryz.prog Fc.law17_TurnLooks [givA lz ss ts l c th fr to] [] (V.bool true) [] := by
  have hlo := s_turn_Look lz ss ts hsh th
  have hse := s_turn_Settle lz ss ts hsh
  have hfo := s_ref17_Formed lz ss ts hsh
  have hkn := s_law17_known
  have hw0 := same_self false [] []
  have ht0 := thing_self (0, 0, [])
  rw [settleX] at hse
  rw [lookX] at hlo
  cases hf : formedB lz ss ts
  · rw [hf] at hse hfo hlo
    rw [if_neg (fun h => by cases h.1)] at hlo
    rw [if_neg Bool.false_ne_true] at hse
    refine V.Spec.enter Tryz.tabOK Tryz.mixed Fn.law17_TurnLooks rfl rfl rfl fun B hB => ?_
    repeat' (with_reducible first | refine OL.st ?_ | refine OL.box ?_ | refine TC.region ?_ | refine TC.seq ?_ | refine OL.nil ?_ | refine TX.thenN ?_ | refine OL.ldM ?_ | fail)
    refine OL.c hlo Fn.turn_Look ?_
    repeat' (with_reducible first | refine OL.st ?_ | refine OL.alloc ?_ | refine OL.storeAgg ?_ | refine TC.region ?_ | refine TC.seq ?_ | refine OL.nil ?_ | refine TX.thenN ?_ | refine OL.ldM ?_ | fail)
    refine OL.c hse Fn.turn_Settle ?_
    repeat' (with_reducible first | refine OL.st ?_ | refine OL.alloc ?_ | refine OL.storeAgg ?_ | refine TC.region ?_ | refine TC.seq ?_ | refine OL.nil ?_ | refine TX.thenN ?_ | refine OL.ldM ?_ | fail)
    refine OL.c hfo Fn.ref17_Formed ?_
    repeat' (with_reducible first | refine OL.st ?_ | refine OL.build ?_ | refine TC.region ?_ | refine TC.seq ?_ | refine OL.nil ?_ | refine TX.thenN ?_ | refine TC.ifT ?_ | refine OL.gOn ?_ | refine OL.gOff ?_ | fail)
    refine OL.c ht0 Fn.ref17_SameThing ?_ (hle := by with_unfolding_all exact ⟨.ren rfl, LE.th0, trivial⟩)
    repeat' (with_reducible first | refine OL.st ?_ | refine OL.build ?_ | refine TC.region ?_ | refine TC.seq ?_ | refine OL.nil ?_ | refine TX.thenN ?_ | refine TC.skip ?_ | refine TC.ifT ?_ | refine TC.ifF ?_ | refine OL.gOn ?_ | fail)
    refine OL.c hw0 Fn.ref17_Same ?_ (hle := by with_unfolding_all exact ⟨.ren rfl, LE.wl0, trivial⟩)
    repeat' (first | (with_reducible refine OL.st ?_) | (with_reducible refine OL.gOn ?_) | fail)
    refine OL.c hkn Fn.law17_known ?_
    repeat' (with_reducible first | refine OL.st ?_ | refine OL.nil ?_ | refine TX.thenN ?_ | refine TC.ret ?_ | refine TX.thenR ?_ | fail)
    exact TX.rt1 [] (.ren rfl)
  have hw := formedB_ok hsh hf
  have hst := ref17_SettleOf_d lz hsh hw.sb hw.n40 hw.tk
  have hws := same_self lz ss (ts.map (freshT ss))
  have h40 := hw.n40
  rw [hf] at hse hfo hlo
  rw [if_pos rfl] at hse
  by_cases hi : 0 ≤ th ∧ th < (ts.length : Int)
  · have hin : inB ts.length th = true := by rw [inB, decide_eq_true hi.1, decide_eq_true hi.2]; rfl
    rw [if_pos ⟨rfl, hin⟩, show thAt ts th = ts[th.toNat]'(by omega) from getD_lt (by omega)] at hlo
    have hfr := ref17_Fresh_d lz ts hw.sb (hw.tk (ts[th.toNat]'(by omega)) (List.getElem_mem _))
    have hts := thing_self (freshT ss (ts[th.toNat]'(by omega)))
    refine V.Spec.enter Tryz.tabOK Tryz.mixed Fn.law17_TurnLooks rfl rfl rfl fun B hB => ?_
    repeat' (with_reducible first | refine OL.st ?_ | refine OL.box ?_ | refine TC.region ?_ | refine TC.seq ?_ | refine OL.nil ?_ | refine TX.thenN ?_ | refine OL.ldM ?_ | fail)
    refine OL.c hlo Fn.turn_Look ?_
    repeat' (with_reducible first | refine OL.st ?_ | refine OL.alloc ?_ | refine OL.storeAgg ?_ | refine TC.region ?_ | refine TC.seq ?_ | refine OL.nil ?_ | refine TX.thenN ?_ | refine OL.ldM ?_ | fail)
    refine OL.c hse Fn.turn_Settle ?_
    repeat' (with_reducible first | refine OL.st ?_ | refine OL.alloc ?_ | refine OL.storeAgg ?_ | refine TC.region ?_ | refine TC.seq ?_ | refine OL.nil ?_ | refine TX.thenN ?_ | refine OL.ldM ?_ | fail)
    refine OL.c hfo Fn.ref17_Formed ?_
    repeat' (with_reducible first | refine OL.st ?_ | refine TC.region ?_ | refine TC.seq ?_ | refine OL.nil ?_ | refine TX.thenN ?_ | refine OL.gOn ?_ | refine TC.ifD ?_ ?_ <;> (intro hc; try (exfalso; omega)) | refine OL.gD ?_ ?_ <;> (intro hc; try (exfalso; omega)) | fail)
    (with_reducible refine TC.draw (id := 7) true 17 17 ?_ <;> refine OD.st 0 ?_ <;> refine OD.st 1 ?_ <;> refine OD.st 2 ?_ <;> refine OD.st 3 ?_ <;> refine OD.st 4 ?_ <;> refine OD.st 5 ?_ (h := gvM) <;> refine OD.st 6 ?_ <;> refine OD.st 7 ?_ <;> refine OD.st 8 ?_ <;> refine OD.st 9 ?_ <;> refine OD.st 10 ?_ <;> refine OD.st 11 ?_ <;> refine OD.st 12 ?_ <;> refine OD.c1 13 hfr Fn.ref17_Fresh ?_ <;> refine OD.c1 14 hts Fn.ref17_SameThing ?_ <;> refine OD.st 15 ?_ <;> refine OD.st 16 ?_ <;> refine OD.dn ?_)
    all_goals repeat' (with_reducible first | refine OL.st ?_ | refine TC.region ?_ | refine TC.seq ?_ | refine OL.nil ?_ | refine TX.thenN ?_ | refine TC.skip ?_ | refine TC.ifF ?_ | fail)
    all_goals (with_reducible refine TC.draw (id := 11) true 13 13 ?_ <;> refine OD.st 0 ?_ <;> refine OD.st 1 ?_ <;> refine OD.st 2 ?_ <;> refine OD.st 3 ?_ <;> refine OD.st 4 ?_ <;> refine OD.st 5 ?_ (h := gvM) <;> refine OD.c1 6 hst Fn.ref17_SettleOf ?_ <;> refine OD.c1 7 hws Fn.ref17_Same ?_ <;> refine OD.st 8 ?_ <;> refine OD.st 9 ?_ <;> refine OD.c1 10 hkn Fn.law17_known ?_ <;> refine OD.st 11 ?_ <;> refine OD.st 12 ?_ <;> refine OD.dn ?_)
    all_goals repeat' (first | (with_reducible refine TX.thenN ?_) | (with_reducible refine TC.ret ?_) | fail)
    all_goals exact TX.rt1 [] (.ren rfl)
  · have hin : ¬ inB ts.length th = true := by rw [inB, Bool.and_eq_true, decide_eq_true_eq, decide_eq_true_eq]; exact hi
    rw [if_neg (fun h => hin h.2)] at hlo
    by_cases h0 : 0 ≤ th
    all_goals refine V.Spec.enter Tryz.tabOK Tryz.mixed Fn.law17_TurnLooks rfl rfl rfl fun B hB => ?_
    all_goals repeat' (with_reducible first | refine OL.st ?_ | refine OL.box ?_ | refine TC.region ?_ | refine TC.seq ?_ | refine OL.nil ?_ | refine TX.thenN ?_ | refine OL.ldM ?_ | fail)
    all_goals refine OL.c hlo Fn.turn_Look ?_
    all_goals repeat' (with_reducible first | refine OL.st ?_ | refine OL.alloc ?_ | refine OL.storeAgg ?_ | refine TC.region ?_ | refine TC.seq ?_ | refine OL.nil ?_ | refine TX.thenN ?_ | refine OL.ldM ?_ | fail)
    all_goals refine OL.c hse Fn.turn_Settle ?_
    all_goals repeat' (with_reducible first | refine OL.st ?_ | refine OL.alloc ?_ | refine OL.storeAgg ?_ | refine TC.region ?_ | refine TC.seq ?_ | refine OL.nil ?_ | refine TX.thenN ?_ | refine OL.ldM ?_ | fail)
    all_goals refine OL.c hfo Fn.ref17_Formed ?_
    all_goals repeat' (with_reducible first | refine OL.st ?_ | refine OL.build ?_ | refine TC.region ?_ | refine TC.seq ?_ | refine OL.nil ?_ | refine TX.thenN ?_ | refine TC.ifT ?_ | refine OL.gOn ?_ | refine OL.gOff ?_ | refine TC.ifD ?_ ?_ <;> (intro hc; try (exfalso; omega)) | refine OL.gD ?_ ?_ <;> (intro hc; try (exfalso; omega)) | fail)
    all_goals refine OL.c ht0 Fn.ref17_SameThing ?_ (hle := by with_unfolding_all exact ⟨.ren rfl, LE.th0, trivial⟩)
    all_goals repeat' (with_reducible first | refine OL.st ?_ | refine TC.region ?_ | refine TC.seq ?_ | refine OL.nil ?_ | refine TX.thenN ?_ | refine TC.skip ?_ | refine TC.ifF ?_ | refine OL.gOn ?_ | fail)
    all_goals (with_reducible refine TC.draw (id := 11) true 13 13 ?_ <;> refine OD.st 0 ?_ <;> refine OD.st 1 ?_ <;> refine OD.st 2 ?_ <;> refine OD.st 3 ?_ <;> refine OD.st 4 ?_ <;> refine OD.st 5 ?_ (h := gvM) <;> refine OD.c1 6 hst Fn.ref17_SettleOf ?_ <;> refine OD.c1 7 hws Fn.ref17_Same ?_ <;> refine OD.st 8 ?_ <;> refine OD.st 9 ?_ <;> refine OD.c1 10 hkn Fn.law17_known ?_ <;> refine OD.st 11 ?_ <;> refine OD.st 12 ?_ <;> refine OD.dn ?_)
    all_goals repeat' (first | (with_reducible refine TX.thenN ?_) | (with_reducible refine TC.ret ?_) | fail)
    all_goals exact TX.rt1 [] (.ren rfl)
end Go.Proofs
