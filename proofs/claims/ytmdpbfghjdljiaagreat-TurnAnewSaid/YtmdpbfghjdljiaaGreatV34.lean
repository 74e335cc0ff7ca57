/- Part 34 of what the claim is proved by: lemmas on the model and walks through functions of the program; no conditions. -/
import Derived.Test.YtmdpbfghjdljiaaGreatV31
import Derived.Test.YtmdpbfghjdljiaaGreatV33
namespace Go.Proofs
open Go Go.W Go.V
theorem LE.wl1 {τ : Nat → Option Nat} (lz : Bool) (a b : AV) (h : V.ren τ a = b := by with_unfolding_all exact rfl) : LE τ (.st [V.bool lz, a, .raw (.slice none 0 0)]) (.st [V.bool lz, b, thingsA []]) := LE.st ⟨.ren rfl, .ren h, .nil (by decide), trivial⟩
theorem s_turn_Check (lz : Bool) (ss : List (List Cls)) (ts : List Thing) (hsh : ∀ s ∈ ss, Short s) : V.Spec Tryz.prog Fc.turn_Check [wlA lz ss ts] [] (V.int (if formedB lz ss ts then 0 else 2)) [] := by
  refine V.Spec.enter Tryz.tabOK Tryz.mixed Fn.turn_Check rfl rfl rfl fun B hB => ?_
  cases hf : formedB lz ss ts
  · have ho := turn_open_no hsh hf
    repeat' (with_reducible first | refine OL.st ?_ | refine OL.box ?_ | refine TC.region ?_ | refine TC.seq ?_ | refine OL.nil ?_ | refine TX.thenN ?_ | fail)
    refine OL.c ho Fn.turn_open ?_
    repeat' (with_reducible first | refine OL.st ?_ | refine TC.region ?_ | refine TC.seq ?_ | refine OL.nil ?_ | refine TX.thenN ?_ | refine TC.ifT ?_ | refine TC.ret ?_ | refine TX.thenR ?_ | fail)
    exact TX.rt1 [] (.ren rfl)
  · have ho := turn_open_yes hsh hf
    repeat' (with_reducible first | refine OL.st ?_ | refine OL.box ?_ | refine TC.region ?_ | refine TC.seq ?_ | refine OL.nil ?_ | refine TX.thenN ?_ | fail)
    refine OL.c ho Fn.turn_open ?_
    repeat' (with_reducible first | refine OL.st ?_ | refine TC.region ?_ | refine TC.seq ?_ | refine OL.nil ?_ | refine TX.thenN ?_ | refine TC.skip ?_ | refine TC.ifF ?_ | refine TC.ret ?_ | fail)
    exact TX.rt1 [] (.ren rfl)
set_option maxHeartbeats 1000000 in
theorem s_turn_Start (l : List Cls) (hs : Short l) (lz : Bool) : V.Spec Tryz.prog Fc.turn_Start [clssA l, V.bool lz] [] (.tp [wldA (startX l lz).1, V.int (startX l lz).2]) [] := by
  have hsc := s_turn_Schema l hs
  have hea := s_each_copied hs
  rw [startX]
  refine V.Spec.enter Tryz.tabOK Tryz.mixed Fn.turn_Start rfl rfl rfl fun B hB => ?_
  cases hg : goodB l
  · rw [hg, if_neg Bool.false_ne_true] at hsc
    rw [if_neg Bool.false_ne_true]
    repeat' (with_reducible first | refine OL.st ?_ | refine OL.alloc ?_ | refine TC.region ?_ | refine TC.seq ?_ | refine OL.nil ?_ | refine TX.thenN ?_ | fail)
    refine OL.c hsc Fn.turn_Schema ?_
    repeat' (with_reducible first | refine OL.st ?_ | refine OL.storeAgg ?_ | refine OL.build ?_ | refine TC.region ?_ | refine TC.seq ?_ | refine OL.nil ?_ | refine TX.thenN ?_ | refine TC.ifT ?_ | refine TC.ret ?_ | refine TX.thenR ?_ | fail)
    exact TX.rs2 [] LE.wl0 (.ren rfl)
  · rw [hg, if_pos rfl] at hsc
    rw [if_pos rfl]
    repeat' (with_reducible first | refine OL.st ?_ | refine OL.alloc ?_ | refine TC.region ?_ | refine TC.seq ?_ | refine OL.nil ?_ | refine TX.thenN ?_ | fail)
    refine OL.c hsc Fn.turn_Schema ?_
    repeat' (with_reducible first | refine OL.st ?_ | refine TC.region ?_ | refine TC.seq ?_ | refine OL.nil ?_ | refine TX.thenN ?_ | refine TC.skip ?_ | refine TC.ifF ?_ | fail)
    refine OL.c hea Fn.turn_each_api_BindClass_api_BindClass ?_ (hle := by exact ⟨.ren rfl, LE.fun_ (first' := []) (caps' := []) Fn.turn_copied rfl trivial trivial (fun x hx => s_turn_copied x (hs.2 x hx).1 (hs.2 x hx).2.1 (hs.2 x hx).2.2), trivial⟩)
    repeat' (with_reducible first | refine OL.st ?_ | refine OL.storeAgg ?_ | refine OL.lit ?_ | refine OL.build ?_ | refine OL.nil ?_ | refine TX.thenN ?_ | refine TC.ret ?_ | fail)
    refine TX.vwC 0 1 ?_
    exact TX.rs2 [] (LE.wl1 lz (schsA [l]) (schsA [l])) (.ren rfl)
theorem stepO_1 {lz : Bool} {ss : List (List Cls)} {ts : List Thing} {s : Step} (d : s.d = 1) : stepO lz ss ts s = [.cb Tc.turn_world [V.bool lz, .hs 3, .hs 2], .dead, .gs false Tc.api_TurnThing 3 none ((doT lz ss ts s).map thingA), .gs true Tc.Pturn_schema 1 none ((doS ss s).map schE)] := if_pos d
theorem stepO_2 {lz : Bool} {ss : List (List Cls)} {ts : List Thing} {s : Step} (d : s.d = 2) : stepO lz ss ts s = [.cb Tc.turn_world [V.bool lz, .hs 1, .hs 3], .gs true Tc.Pturn_schema 1 none ((doS ss s).map schE), .dead, .gs false Tc.api_TurnThing 3 none ((doT lz ss ts s).map thingA)] := by rw [stepO, if_neg (by omega), if_pos d]
theorem stepO_3 {lz : Bool} {ss : List (List Cls)} {ts : List Thing} {s : Step} (d1 : s.d ≠ 1) (d2 : s.d ≠ 2) : stepO lz ss ts s = worldO lz (doS ss s) (doT lz ss ts s) := by rw [stepO, if_neg d1, if_neg d2]
set_option maxHeartbeats 4000000 in
theorem s_turn_Do (lz : Bool) (ss : List (List Cls)) (ts : List Thing) (hsh : ∀ s ∈ ss, Short s) (s : Step) (hk : ShortC s.k) : V.Spec Tryz.prog Fc.turn_Do [wlA lz ss ts, stepA s] [] (doA (doX lz ss ts s)) [] := by
  rw [doX]
  cases hf : formedB lz ss ts
  · have ho := turn_open_no hsh hf
    rw [if_neg Bool.false_ne_true]
    refine V.Spec.enter Tryz.tabOK Tryz.mixed Fn.turn_Do rfl rfl rfl fun B hB => ?_
    repeat' (with_reducible first | refine OL.st ?_ | refine OL.box ?_ | refine OL.alloc ?_ | refine TC.region ?_ | refine TC.seq ?_ | refine OL.nil ?_ | refine TX.thenN ?_ | fail)
    refine OL.c ho Fn.turn_open ?_
    repeat' (with_reducible first | refine OL.st ?_ | refine OL.storeAgg ?_ | refine OL.build ?_ | refine TC.region ?_ | refine TC.seq ?_ | refine OL.nil ?_ | refine TX.thenN ?_ | refine TC.ifT ?_ | refine TC.ret ?_ | refine TX.thenR ?_ | fail)
    exact TX.rs3 [] LE.wl0 (.ren rfl) (.ren rfl)
  have ho := turn_open_yes hsh hf
  rw [if_pos rfl]
  have hw := formedB_ok hsh hf
  by_cases e0 : refusedE ss ts s = 0
  · rw [if_pos e0]
    have hst := turn_step_yes lz hw s hk e0
    have hw2 := step_ok (lz := lz) hw hk (refused_ok e0)
    have hsh := s_turn_shut lz hw2
    by_cases d1 : s.d = 1
    · rw [stepO_1 d1] at hst
      generalize doS ss s = s2 at *
      generalize doT lz ss ts s = t2 at *
      generalize doR ss ts s = r2 at *
      refine V.Spec.enter Tryz.tabOK Tryz.mixed Fn.turn_Do rfl rfl rfl fun B hB => ?_
      repeat' (with_reducible first | refine OL.st ?_ | refine OL.box ?_ | refine OL.alloc ?_ | refine TC.region ?_ | refine TC.seq ?_ | refine OL.nil ?_ | refine TX.thenN ?_ | fail)
      refine OL.c ho Fn.turn_open ?_
      repeat' (with_reducible first | refine OL.st ?_ | refine TC.region ?_ | refine TC.seq ?_ | refine OL.nil ?_ | refine TX.thenN ?_ | refine TC.skip ?_ | refine TC.ifF ?_ | fail)
      refine OL.ch [4, 5, 6] hst Fn.turn_world_step ?_
      repeat' (with_reducible first | refine OL.st ?_ | refine OL.alloc ?_ | refine OL.storeAgg ?_ | refine TC.region ?_ | refine TC.seq ?_ | refine OL.nil ?_ | refine TX.thenN ?_ | refine TC.skip ?_ | refine TC.ifF ?_ | fail)
      (with_reducible refine TC.draw (id := 7) false 6 6 ?_ <;> refine OD.st 0 ?_ <;> refine OD.n2 1 2 ?_ ?_) <;> (first | (with_reducible refine NextBy.at 1 ?_) <;> ((with_reducible refine NextBy.a ?_); refine OL.ch [4, 7, 6] hsh Fn.turn_world_shut ?_; refine OL.nil ?_; refine TX.od ?_) <;> (with_reducible refine OD.n2 2 3 ?_ ?_ <;> (first | refine NextBy.at 2 ?_ <;> refine NextBy.s ?_ <;> (refine OD.a1 3 ?_; refine OL.storeAgg ?_; refine OL.nil ?_; refine TX.od ?_) <;> (refine OD.a1 4 ?_; refine OL.storeAgg ?_; refine OL.nil ?_; refine TX.od ?_) <;> refine OD.st 5 ?_ <;> refine OD.dn ?_ | refine NextBy.at 3 ?_ <;> (refine NextBy.a ?_; refine OL.storeAgg ?_; refine OL.nil ?_; refine TX.od ?_) <;> refine OD.s1 2 ?_ <;> (refine OD.a1 4 ?_; refine OL.storeAgg ?_; refine OL.nil ?_; refine TX.od ?_) <;> refine OD.st 5 ?_ <;> refine OD.dn ?_)) | (with_reducible refine NextBy.at 2 ?_ <;> refine NextBy.s ?_) <;> ((with_reducible refine OD.a1 1 ?_); refine OL.ch [4, 7, 6] hsh Fn.turn_world_shut ?_; refine OL.nil ?_; refine TX.od ?_) <;> (with_reducible (refine OD.a1 3 ?_; refine OL.storeAgg ?_; refine OL.nil ?_; refine TX.od ?_) <;> (refine OD.a1 4 ?_; refine OL.storeAgg ?_; refine OL.nil ?_; refine TX.od ?_) <;> refine OD.st 5 ?_ <;> refine OD.dn ?_))
      all_goals repeat' (first | (with_reducible refine TX.thenN ?_) | (with_reducible refine TC.ret ?_) | fail)
      all_goals exact TX.rs3 [] (.ren rfl) (.ren rfl) (.ren rfl)
    by_cases d2 : s.d = 2
    · rw [stepO_2 d2] at hst
      generalize doS ss s = s2 at *
      generalize doT lz ss ts s = t2 at *
      generalize doR ss ts s = r2 at *
      refine V.Spec.enter Tryz.tabOK Tryz.mixed Fn.turn_Do rfl rfl rfl fun B hB => ?_
      repeat' (with_reducible first | refine OL.st ?_ | refine OL.box ?_ | refine OL.alloc ?_ | refine TC.region ?_ | refine TC.seq ?_ | refine OL.nil ?_ | refine TX.thenN ?_ | fail)
      refine OL.c ho Fn.turn_open ?_
      repeat' (with_reducible first | refine OL.st ?_ | refine TC.region ?_ | refine TC.seq ?_ | refine OL.nil ?_ | refine TX.thenN ?_ | refine TC.skip ?_ | refine TC.ifF ?_ | fail)
      refine OL.ch [4, 5, 6] hst Fn.turn_world_step ?_
      repeat' (with_reducible first | refine OL.st ?_ | refine OL.alloc ?_ | refine OL.storeAgg ?_ | refine TC.region ?_ | refine TC.seq ?_ | refine OL.nil ?_ | refine TX.thenN ?_ | refine TC.skip ?_ | refine TC.ifF ?_ | fail)
      (with_reducible refine TC.draw (id := 7) false 6 6 ?_ <;> refine OD.st 0 ?_ <;> refine OD.n2 1 2 ?_ ?_) <;> (first | (with_reducible refine NextBy.at 1 ?_) <;> ((with_reducible refine NextBy.a ?_); refine OL.ch [4, 5, 7] hsh Fn.turn_world_shut ?_; refine OL.nil ?_; refine TX.od ?_) <;> (with_reducible refine OD.n2 2 3 ?_ ?_ <;> (first | refine NextBy.at 2 ?_ <;> refine NextBy.s ?_ <;> (refine OD.a1 3 ?_; refine OL.storeAgg ?_; refine OL.nil ?_; refine TX.od ?_) <;> (refine OD.a1 4 ?_; refine OL.storeAgg ?_; refine OL.nil ?_; refine TX.od ?_) <;> refine OD.st 5 ?_ <;> refine OD.dn ?_ | refine NextBy.at 3 ?_ <;> (refine NextBy.a ?_; refine OL.storeAgg ?_; refine OL.nil ?_; refine TX.od ?_) <;> refine OD.s1 2 ?_ <;> (refine OD.a1 4 ?_; refine OL.storeAgg ?_; refine OL.nil ?_; refine TX.od ?_) <;> refine OD.st 5 ?_ <;> refine OD.dn ?_)) | (with_reducible refine NextBy.at 2 ?_ <;> refine NextBy.s ?_) <;> ((with_reducible refine OD.a1 1 ?_); refine OL.ch [4, 5, 7] hsh Fn.turn_world_shut ?_; refine OL.nil ?_; refine TX.od ?_) <;> (with_reducible (refine OD.a1 3 ?_; refine OL.storeAgg ?_; refine OL.nil ?_; refine TX.od ?_) <;> (refine OD.a1 4 ?_; refine OL.storeAgg ?_; refine OL.nil ?_; refine TX.od ?_) <;> refine OD.st 5 ?_ <;> refine OD.dn ?_))
      all_goals repeat' (first | (with_reducible refine TX.thenN ?_) | (with_reducible refine TC.ret ?_) | fail)
      all_goals exact TX.rs3 [] (.ren rfl) (.ren rfl) (.ren rfl)
    · rw [stepO_3 d1 d2] at hst
      generalize doS ss s = s2 at *
      generalize doT lz ss ts s = t2 at *
      generalize doR ss ts s = r2 at *
      refine V.Spec.enter Tryz.tabOK Tryz.mixed Fn.turn_Do rfl rfl rfl fun B hB => ?_
      repeat' (with_reducible first | refine OL.st ?_ | refine OL.box ?_ | refine OL.alloc ?_ | refine TC.region ?_ | refine TC.seq ?_ | refine OL.nil ?_ | refine TX.thenN ?_ | fail)
      refine OL.c ho Fn.turn_open ?_
      repeat' (with_reducible first | refine OL.st ?_ | refine TC.region ?_ | refine TC.seq ?_ | refine OL.nil ?_ | refine TX.thenN ?_ | refine TC.skip ?_ | refine TC.ifF ?_ | fail)
      refine OL.ch [4, 5, 6] hst Fn.turn_world_step ?_
      repeat' (with_reducible first | refine OL.st ?_ | refine OL.alloc ?_ | refine OL.storeAgg ?_ | refine TC.region ?_ | refine TC.seq ?_ | refine OL.nil ?_ | refine TX.thenN ?_ | refine TC.skip ?_ | refine TC.ifF ?_ | fail)
      (with_reducible refine TC.draw (id := 7) false 6 6 ?_ <;> refine OD.st 0 ?_ <;> refine OD.n2 1 2 ?_ ?_) <;> (first | (with_reducible refine NextBy.at 1 ?_) <;> ((with_reducible refine NextBy.a ?_); refine OL.ch [4, 5, 6] hsh Fn.turn_world_shut ?_; refine OL.nil ?_; refine TX.od ?_) <;> (with_reducible refine OD.n2 2 3 ?_ ?_ <;> (first | refine NextBy.at 2 ?_ <;> refine NextBy.s ?_ <;> (refine OD.a1 3 ?_; refine OL.storeAgg ?_; refine OL.nil ?_; refine TX.od ?_) <;> (refine OD.a1 4 ?_; refine OL.storeAgg ?_; refine OL.nil ?_; refine TX.od ?_) <;> refine OD.st 5 ?_ <;> refine OD.dn ?_ | refine NextBy.at 3 ?_ <;> (refine NextBy.a ?_; refine OL.storeAgg ?_; refine OL.nil ?_; refine TX.od ?_) <;> refine OD.s1 2 ?_ <;> (refine OD.a1 4 ?_; refine OL.storeAgg ?_; refine OL.nil ?_; refine TX.od ?_) <;> refine OD.st 5 ?_ <;> refine OD.dn ?_)) | (with_reducible refine NextBy.at 2 ?_ <;> refine NextBy.s ?_) <;> ((with_reducible refine OD.a1 1 ?_); refine OL.ch [4, 5, 6] hsh Fn.turn_world_shut ?_; refine OL.nil ?_; refine TX.od ?_) <;> (with_reducible (refine OD.a1 3 ?_; refine OL.storeAgg ?_; refine OL.nil ?_; refine TX.od ?_) <;> (refine OD.a1 4 ?_; refine OL.storeAgg ?_; refine OL.nil ?_; refine TX.od ?_) <;> refine OD.st 5 ?_ <;> refine OD.dn ?_))
      all_goals repeat' (first | (with_reducible refine TX.thenN ?_) | (with_reducible refine TC.ret ?_) | fail)
      all_goals exact TX.rs3 [] (.ren rfl) (.ren rfl) (.ren rfl)
  · rw [if_neg e0]
    have hst := turn_step_no lz hw s hk e0
    generalize refusedE ss ts s = e at *
    refine V.Spec.enter Tryz.tabOK Tryz.mixed Fn.turn_Do rfl rfl rfl fun B hB => ?_
    repeat' (with_reducible first | refine OL.st ?_ | refine OL.box ?_ | refine OL.alloc ?_ | refine TC.region ?_ | refine TC.seq ?_ | refine OL.nil ?_ | refine TX.thenN ?_ | fail)
    refine OL.c ho Fn.turn_open ?_
    repeat' (with_reducible first | refine OL.st ?_ | refine TC.region ?_ | refine TC.seq ?_ | refine OL.nil ?_ | refine TX.thenN ?_ | refine TC.skip ?_ | refine TC.ifF ?_ | fail)
    refine OL.ch [4, 5, 6] hst Fn.turn_world_step ?_
    repeat' (with_reducible first | refine OL.st ?_ | refine OL.alloc ?_ | refine OL.storeAgg ?_ | refine OL.build ?_ | refine TC.region ?_ | refine TC.seq ?_ | refine OL.nil ?_ | refine TX.thenN ?_ | refine TC.ifD ?_ ?_ <;> (intro hc; try (exfalso; omega)) | refine TC.ret ?_ | refine TX.thenR ?_ | fail)
    exact TX.rs3 [] LE.wl0 (.ren rfl) (.ren rfl)
set_option maxHeartbeats 1000000 in
theorem s_turn_Settle (lz : Bool) (ss : List (List Cls)) (ts : List Thing) (hsh : ∀ s ∈ ss, Short s) : V.Spec Tryz.prog Fc.turn_Settle [wlA lz ss ts] [] (.tp [wldA (settleX lz ss ts).1, V.int (settleX lz ss ts).2]) [] := by
  rw [settleX]
  cases hf : formedB lz ss ts
  · have ho := turn_open_no hsh hf
    rw [if_neg Bool.false_ne_true]
    refine V.Spec.enter Tryz.tabOK Tryz.mixed Fn.turn_Settle rfl rfl rfl fun B hB => ?_
    repeat' (with_reducible first | refine OL.st ?_ | refine OL.box ?_ | refine OL.alloc ?_ | refine TC.region ?_ | refine TC.seq ?_ | refine OL.nil ?_ | refine TX.thenN ?_ | fail)
    refine OL.c ho Fn.turn_open ?_
    repeat' (with_reducible first | refine OL.st ?_ | refine OL.storeAgg ?_ | refine OL.build ?_ | refine TC.region ?_ | refine TC.seq ?_ | refine OL.nil ?_ | refine TX.thenN ?_ | refine TC.ifT ?_ | refine TC.ret ?_ | refine TX.thenR ?_ | fail)
    exact TX.rs2 [] LE.wl0 (.ren rfl)
  · have ho := turn_open_yes hsh hf
    rw [if_pos rfl]
    have hw := formedB_ok hsh hf
    have hse := s_turn_settle lz hw
    have hw2 : WOk ss (ts.map (freshT ss)) := ⟨hw.sh, hw.sb, by simpa using hw.n40, fun x hx => by
      obtain ⟨y, hy, rfl⟩ := List.mem_map.1 hx
      exact (hw.tk y hy).fresh hw.sb⟩
    have hsh := s_turn_shut lz hw2
    generalize ts.map (freshT ss) = t2 at *
    refine V.Spec.enter Tryz.tabOK Tryz.mixed Fn.turn_Settle rfl rfl rfl fun B hB => ?_
    repeat' (with_reducible first | refine OL.st ?_ | refine OL.box ?_ | refine OL.alloc ?_ | refine TC.region ?_ | refine TC.seq ?_ | refine OL.nil ?_ | refine TX.thenN ?_ | fail)
    refine OL.c ho Fn.turn_open ?_
    repeat' (with_reducible first | refine OL.st ?_ | refine TC.region ?_ | refine TC.seq ?_ | refine OL.nil ?_ | refine TX.thenN ?_ | refine TC.skip ?_ | refine TC.ifF ?_ | fail)
    refine OL.ch [2, 3, 4] hse Fn.turn_world_settle ?_
    repeat' (with_reducible first | refine OL.st ?_ | refine TC.region ?_ | refine TC.seq ?_ | refine OL.nil ?_ | refine TX.thenN ?_ | fail)
    refine OL.ch [2, 3, 4] hsh Fn.turn_world_shut ?_
    repeat' (with_reducible first | refine OL.st ?_ | refine OL.storeAgg ?_ | refine OL.nil ?_ | refine TX.thenN ?_ | refine TC.ret ?_ | fail)
    exact TX.rs2 [] (.ren rfl) (.ren rfl)
theorem LE.th0 {τ : Nat → Option Nat} : LE τ (.st [.raw (.int .i64 0), .raw (.int .i64 0), .raw (.slice none 0 0)]) (thingA (0, 0, [])) := LE.st ⟨.ren rfl, .ren rfl, .nil (by decide), trivial⟩
set_option maxHeartbeats 1000000 in
theorem s_turn_Look (lz : Bool) (ss : List (List Cls)) (ts : List Thing) (hsh : ∀ s ∈ ss, Short s) (i : Int) : V.Spec Tryz.prog Fc.turn_Look [wlA lz ss ts, V.int i] [] (.tp [thingA (lookX lz ss ts i).1, V.int (lookX lz ss ts i).2]) [] := by
  rw [lookX]
  cases hf : formedB lz ss ts
  · have ho := turn_open_no hsh hf
    rw [if_neg (fun h => by cases h.1)]
    refine V.Spec.enter Tryz.tabOK Tryz.mixed Fn.turn_Look rfl rfl rfl fun B hB => ?_
    repeat' (with_reducible first | refine OL.st ?_ | refine OL.box ?_ | refine OL.alloc ?_ | refine TC.region ?_ | refine TC.seq ?_ | refine OL.nil ?_ | refine TX.thenN ?_ | fail)
    refine OL.c ho Fn.turn_open ?_
    repeat' (with_reducible first | refine OL.st ?_ | refine OL.storeAgg ?_ | refine OL.build ?_ | refine TC.region ?_ | refine TC.seq ?_ | refine OL.nil ?_ | refine TX.thenN ?_ | refine TC.ifT ?_ | refine OL.gOff ?_ | refine TC.ret ?_ | refine TX.thenR ?_ | fail)
    exact TX.rs2 [] LE.th0 (.ren rfl)
  have ho := turn_open_yes hsh hf
  have hw := formedB_ok hsh hf
  have h40 := hw.n40
  by_cases hi : 0 ≤ i ∧ i < (ts.length : Int)
  · have hin : inB ts.length i = true := by rw [inB, decide_eq_true hi.1, decide_eq_true hi.2]; rfl
    rw [if_pos ⟨rfl, hin⟩, show thAt ts i = ts[i.toNat]'(by omega) from getD_lt (by omega)]
    have hfr := s_turn_fresh lz hw.sb (hw.tk (ts[i.toNat]'(by omega)) (List.getElem_mem _))
    refine V.Spec.enter Tryz.tabOK Tryz.mixed Fn.turn_Look rfl rfl rfl fun B hB => ?_
    repeat' (with_reducible first | refine OL.st ?_ | refine OL.box ?_ | refine OL.alloc ?_ | refine TC.region ?_ | refine TC.seq ?_ | refine OL.nil ?_ | refine TX.thenN ?_ | fail)
    refine OL.c ho Fn.turn_open ?_
    repeat' (with_reducible first | refine OL.st ?_ | refine TC.region ?_ | refine TC.seq ?_ | refine OL.nil ?_ | refine TX.thenN ?_ | refine TC.skip ?_ | refine OL.gOn ?_ | refine TC.ifD ?_ ?_ <;> (intro hc; try (exfalso; omega)) | refine OL.gD ?_ ?_ <;> (intro hc; try (exfalso; omega)) | fail)
    refine OL.lendI (WkI.trans (WkI.viewCell (i := 2) (o := 1) (k := 3) (by with_unfolding_all exact rfl) (by with_unfolding_all exact rfl) (by with_unfolding_all exact rfl) (noInt_schE ss)) (WkI.frzBox (t := 27) (i := 2) (by with_unfolding_all exact rfl) (by with_unfolding_all exact rfl) (by with_unfolding_all exact rfl))) hfr Fn.turn_world_fresh (relP_thing _) ?_
    repeat' (with_reducible first | refine OL.st ?_ | refine OL.storeAgg ?_ | refine OL.nil ?_ | refine TX.thenN ?_ | refine TC.ret ?_ | fail)
    exact TX.rs2 [] (.ren rfl) (.ren rfl)
  · have hin : ¬ inB ts.length i = true := by rw [inB, Bool.and_eq_true, decide_eq_true_eq, decide_eq_true_eq]; exact hi
    rw [if_neg (fun h => hin h.2)]
    by_cases h0 : 0 ≤ i
    · refine V.Spec.enter Tryz.tabOK Tryz.mixed Fn.turn_Look rfl rfl rfl fun B hB => ?_
      repeat' (with_reducible first | refine OL.st ?_ | refine OL.box ?_ | refine OL.alloc ?_ | refine TC.region ?_ | refine TC.seq ?_ | refine OL.nil ?_ | refine TX.thenN ?_ | fail)
      refine OL.c ho Fn.turn_open ?_
      repeat' (with_reducible first | refine OL.st ?_ | refine OL.storeAgg ?_ | refine OL.build ?_ | refine TC.region ?_ | refine TC.seq ?_ | refine OL.nil ?_ | refine TX.thenN ?_ | refine OL.gOn ?_ | refine TC.ifD ?_ ?_ <;> (intro hc; try (exfalso; omega)) | refine OL.gD ?_ ?_ <;> (intro hc; try (exfalso; omega)) | refine TC.ret ?_ | refine TX.thenR ?_ | fail)
      exact TX.rs2 [] LE.th0 (.ren rfl)
    · refine V.Spec.enter Tryz.tabOK Tryz.mixed Fn.turn_Look rfl rfl rfl fun B hB => ?_
      repeat' (with_reducible first | refine OL.st ?_ | refine OL.box ?_ | refine OL.alloc ?_ | refine TC.region ?_ | refine TC.seq ?_ | refine OL.nil ?_ | refine TX.thenN ?_ | fail)
      refine OL.c ho Fn.turn_open ?_
      repeat' (with_reducible first | refine OL.st ?_ | refine OL.storeAgg ?_ | refine OL.build ?_ | refine TC.region ?_ | refine TC.seq ?_ | refine OL.nil ?_ | refine TX.thenN ?_ | refine TC.ifT ?_ | refine OL.gOn ?_ | refine OL.gOff ?_ | refine OL.gD ?_ ?_ <;> (intro hc; try (exfalso; omega)) | refine TC.ret ?_ | refine TX.thenR ?_ | fail)
      exact TX.rs2 [] LE.th0 (.ren rfl)
set_option maxHeartbeats 4000000 in
theorem s_turn_Play (lz : Bool) (ss : List (List Cls)) (ts : List Thing) (hsh : ∀ s ∈ ss, Short s) (l : List Step) (hk : ∀ s ∈ l, ShortC s.k) : V.Spec Tryz.prog Fc.turn_Play [wlA lz ss ts, stepsA l] [] (playA (playX lz ss ts l)) [] := by
  rw [playX]
  refine V.Spec.enter Tryz.tabOK Tryz.mixed Fn.turn_Play rfl rfl rfl fun B hB => ?_
  refine TC.bl 1 fun hll => ?_
  cases hf : formedB lz ss ts
  · have ho := turn_open_no hsh hf
    rw [if_neg (fun h => by cases h.1)]
    repeat' (with_reducible first | refine OL.st ?_ | refine OL.box ?_ | refine OL.alloc ?_ | refine TC.region ?_ | refine TC.seq ?_ | refine OL.nil ?_ | refine TX.thenN ?_ | fail)
    refine OL.c ho Fn.turn_open ?_
    repeat' (with_reducible first | refine OL.st ?_ | refine OL.storeAgg ?_ | refine OL.build ?_ | refine TC.region ?_ | refine TC.seq ?_ | refine OL.nil ?_ | refine TX.thenN ?_ | refine TC.ifT ?_ | refine OL.gOff ?_ | refine TC.ret ?_ | refine TX.thenR ?_ | fail)
    exact TX.rs4 [] LE.wl0 (.nil (by decide)) (.nil (by decide)) (.ren rfl)
  have ho := turn_open_yes hsh hf
  by_cases h60 : l.length ≤ 60
  · rw [if_pos ⟨rfl, h60⟩]
    have hw := formedB_ok hsh hf
    obtain ⟨P, hP⟩ : ∃ P, P = fun k => playV lz ss ts (l.take k) := ⟨_, rfl⟩
    have hP0 : P 0 = (ss, ts, [], []) := by rw [hP]; rfl
    have hPl : playV lz ss ts l = P l.length := by rw [hP]; simp
    have hPw : ∀ k, WOk (P k).1 (P k).2.1 := fun k => by rw [hP]; exact play_ok lz _ ss ts hw (fun s hs => hk s (List.mem_of_mem_take hs))
    have hPn : ∀ k, (P k).2.2.1.length ≤ 60 ∧ (P k).2.2.2.length ≤ 60 := fun k => by
      rw [hP]
      have := play_lens lz (l.take k) ss ts
      rw [this.1, this.2]
      simp; omega
    have hPs : ∀ k (hkl : k < l.length), P (k + 1) = if refusedE (P k).1 (P k).2.1 l[k] = 0 then (doS (P k).1 l[k], doT lz (P k).1 (P k).2.1 l[k], (P k).2.2.1 ++ [doR (P k).1 (P k).2.1 l[k]], (P k).2.2.2 ++ [0]) else ((P k).1, (P k).2.1, (P k).2.2.1 ++ [(0, 0)], (P k).2.2.2 ++ [refusedE (P k).1 (P k).2.1 l[k]]) := fun k hkl => by
      rw [hP]
      dsimp only
      rw [take_succ hkl, playV_snoc]
    rw [hPl]
    clear hP hPl
    repeat' (with_reducible first | refine OL.st ?_ | refine OL.box ?_ | refine OL.alloc ?_ | refine TC.region ?_ | refine TC.seq ?_ | refine OL.nil ?_ | refine TX.thenN ?_ | fail)
    refine OL.c ho Fn.turn_open ?_
    repeat' (with_reducible first | refine OL.st ?_ | refine TC.region ?_ | refine TC.seq ?_ | refine OL.nil ?_ | refine TX.thenN ?_ | refine TC.block ?_ | refine TC.skip ?_ | refine OL.gOn ?_ | refine TC.ifD ?_ ?_ <;> (intro hc; try (exfalso; omega)) | fail)
    refine TC.adp 10 Tc.api_MeanVal 2 ?_
    refine TC.adp 11 Tc.api_Errno 1 ?_
    refine TC.lp (fun k : Nat => [(4, .bp 0 0), (8, .bp 1 0), (10, .hs 4), (11, .hs 5), (29, stepsA l), (30, V.int l.length), (31, V.int k)]) (fun k => [.cb Tc.api_TurnWorld [.raw (.bool false), .raw (.slice none 0 0), .raw (.slice none 0 0)], .cb Tc.turn_world [V.bool lz, .hs 2, .hs 3], .gs true Tc.Pturn_schema 1 none ((P k).1.map schE), .gs false Tc.api_TurnThing 3 none ((P k).2.1.map thingA), .gs false Tc.api_MeanVal 2 none ((P k).2.2.1.map valA), .gs false Tc.api_Errno 1 none ((P k).2.2.2.map V.int)]) (fun k => k ≤ l.length) (fun k => l.length - k) 0 [1, 2, 3, 4, 5, 6] (Nat.zero_le _) ?_ (ho := by rw [hP0]; exact ⟨⟨_, rfl, OE.ren rfl⟩, ⟨_, rfl, OE.ren rfl⟩, ⟨_, rfl, OE.ren rfl⟩, ⟨_, rfl, OE.ren rfl⟩, ⟨_, rfl, OE.gs⟩, ⟨_, rfl, OE.gs⟩, trivial⟩)
    rintro k hkk
    have hw := hPw k
    obtain ⟨q1, q2⟩ := hPn k
    by_cases hkl : k < l.length
    · have hps := hPs k hkl
      by_cases e0 : refusedE (P k).1 (P k).2.1 l[k] = 0
      · have hst := turn_step_yes lz hw l[k] (hk _ (List.getElem_mem _)) e0
        rw [if_pos e0] at hps
        have e1 : (P (k + 1)).1 = doS (P k).1 l[k] := by rw [hps]
        have e2 : (P (k + 1)).2.1 = doT lz (P k).1 (P k).2.1 l[k] := by rw [hps]
        have e3 : (P k).2.2.1.map valA ++ [valA (doR (P k).1 (P k).2.1 l[k])] = (P (k + 1)).2.2.1.map valA := by rw [hps]; exact map_snoc _ _ _
        have e4 : (P k).2.2.2.map V.int ++ [V.int 0] = (P (k + 1)).2.2.2.map V.int := by rw [hps]; exact map_snoc _ _ _
        by_cases d1 : l[k].d = 1
        · rw [stepO_1 d1, ← e1, ← e2] at hst
          generalize (P k).2.2.1 = vl at *
          generalize (P k).2.2.2 = el at *
          generalize doR (P k).1 (P k).2.1 l[k] = rv at *
          repeat' (with_reducible first | refine OL.st ?_ | refine OL.alloc ?_ | refine OL.storeAgg ?_ | refine TC.region ?_ | refine TC.seq ?_ | refine OL.nil ?_ | refine TX.thenN ?_ | refine TC.block ?_ | refine TC.skip ?_ | refine TC.ifD ?_ ?_ <;> (intro hc; try (exfalso; omega)) | fail)
          refine OL.ch [1, 2, 3] hst Fn.turn_world_step ?_
          repeat' (with_reducible first | refine OL.st ?_ | refine OL.alloc ?_ | refine OL.storeAgg ?_ | refine OL.lit ?_ | refine OL.appO ?_ | refine TC.region ?_ | refine OL.nil ?_ | refine TX.thenN ?_ | refine TX.blkN ?_ | fail)
          exact TX.rd (k + 1) [0, 1, 7, 3, 10, 12] (by omega) (by omega)
        by_cases d2 : l[k].d = 2
        · rw [stepO_2 d2, ← e1, ← e2] at hst
          generalize (P k).2.2.1 = vl at *
          generalize (P k).2.2.2 = el at *
          generalize doR (P k).1 (P k).2.1 l[k] = rv at *
          repeat' (with_reducible first | refine OL.st ?_ | refine OL.alloc ?_ | refine OL.storeAgg ?_ | refine TC.region ?_ | refine TC.seq ?_ | refine OL.nil ?_ | refine TX.thenN ?_ | refine TC.block ?_ | refine TC.skip ?_ | refine TC.ifD ?_ ?_ <;> (intro hc; try (exfalso; omega)) | fail)
          refine OL.ch [1, 2, 3] hst Fn.turn_world_step ?_
          repeat' (with_reducible first | refine OL.st ?_ | refine OL.alloc ?_ | refine OL.storeAgg ?_ | refine OL.lit ?_ | refine OL.appO ?_ | refine TC.region ?_ | refine OL.nil ?_ | refine TX.thenN ?_ | refine TX.blkN ?_ | fail)
          exact TX.rd (k + 1) [0, 1, 2, 7, 10, 12] (by omega) (by omega)
        · rw [stepO_3 d1 d2, ← e1, ← e2] at hst
          generalize (P k).2.2.1 = vl at *
          generalize (P k).2.2.2 = el at *
          generalize doR (P k).1 (P k).2.1 l[k] = rv at *
          repeat' (with_reducible first | refine OL.st ?_ | refine OL.alloc ?_ | refine OL.storeAgg ?_ | refine TC.region ?_ | refine TC.seq ?_ | refine OL.nil ?_ | refine TX.thenN ?_ | refine TC.block ?_ | refine TC.skip ?_ | refine TC.ifD ?_ ?_ <;> (intro hc; try (exfalso; omega)) | fail)
          refine OL.ch [1, 2, 3] hst Fn.turn_world_step ?_
          repeat' (with_reducible first | refine OL.st ?_ | refine OL.alloc ?_ | refine OL.storeAgg ?_ | refine OL.lit ?_ | refine OL.appO ?_ | refine TC.region ?_ | refine OL.nil ?_ | refine TX.thenN ?_ | refine TX.blkN ?_ | fail)
          exact TX.rd (k + 1) [0, 1, 2, 3, 9, 11] (by omega) (by omega)
      · rw [if_neg e0] at hps
        have hst := turn_step_no lz hw l[k] (hk _ (List.getElem_mem _)) e0
        have e1 : (P (k + 1)).1 = (P k).1 := by rw [hps]
        have e2 : (P (k + 1)).2.1 = (P k).2.1 := by rw [hps]
        have e3 : (P k).2.2.1.map valA ++ [valA (0, 0)] = (P (k + 1)).2.2.1.map valA := by rw [hps]; exact map_snoc _ _ _
        have e4 : (P k).2.2.2.map V.int ++ [V.int (refusedE (P k).1 (P k).2.1 l[k])] = (P (k + 1)).2.2.2.map V.int := by rw [hps]; exact map_snoc _ _ _
        rw [← e1, ← e2] at hst e0 e4
        rw [← e1, ← e2]
        generalize refusedE (P (k + 1)).1 (P (k + 1)).2.1 l[k] = er at *
        generalize (P k).2.2.1 = vl at *
        generalize (P k).2.2.2 = el at *
        repeat' (with_reducible first | refine OL.st ?_ | refine OL.alloc ?_ | refine OL.storeAgg ?_ | refine TC.region ?_ | refine TC.seq ?_ | refine OL.nil ?_ | refine TX.thenN ?_ | refine TC.block ?_ | refine TC.skip ?_ | refine TC.ifD ?_ ?_ <;> (intro hc; try (exfalso; omega)) | fail)
        refine OL.ch [1, 2, 3] hst Fn.turn_world_step ?_
        repeat' (with_reducible first | refine OL.st ?_ | refine OL.alloc ?_ | refine OL.storeAgg ?_ | refine OL.lit ?_ | refine OL.appO ?_ | refine TC.region ?_ | refine OL.nil ?_ | refine TX.thenN ?_ | refine TX.blkN ?_ | fail)
        exact TX.rd (k + 1) [0, 1, 2, 3, 9, 11] (by omega) (by omega)
    · obtain rfl : k = l.length := by omega
      have hsu := s_turn_shut lz hw
      repeat' (with_reducible first | refine OL.st ?_ | refine TC.region ?_ | refine TC.seq ?_ | refine OL.nil ?_ | refine TX.thenN ?_ | refine TC.exit ?_ | refine TX.hit ?_ | refine TX.thenX ?_ | refine TC.ifD ?_ ?_ <;> (intro hc; try (exfalso; omega)) | fail)
      refine OL.ch [1, 2, 3] hsu Fn.turn_world_shut ?_
      repeat' (with_reducible first | refine OL.st ?_ | refine OL.storeAgg ?_ | refine OL.nil ?_ | refine TX.thenN ?_ | refine TC.ret ?_ | fail)
      refine TX.vw 5 ?_
      refine TX.vw 6 ?_
      exact TX.rs4 [] (.ren rfl) (.ren rfl) (.ren rfl) (.ren rfl)
  · rw [if_neg (fun h => h60 h.2)]
    repeat' (with_reducible first | refine OL.st ?_ | refine OL.box ?_ | refine OL.alloc ?_ | refine TC.region ?_ | refine TC.seq ?_ | refine OL.nil ?_ | refine TX.thenN ?_ | fail)
    refine OL.c ho Fn.turn_open ?_
    repeat' (with_reducible first | refine OL.st ?_ | refine OL.storeAgg ?_ | refine OL.build ?_ | refine TC.region ?_ | refine TC.seq ?_ | refine OL.nil ?_ | refine TX.thenN ?_ | refine OL.gOn ?_ | refine TC.ifD ?_ ?_ <;> (intro hc; try (exfalso; omega)) | refine TC.ret ?_ | refine TX.thenR ?_ | fail)
    exact TX.rs4 [] LE.wl0 (.nil (by decide)) (.nil (by decide)) (.ren rfl)
end Go.Proofs
