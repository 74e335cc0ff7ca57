/- Part 25 of what the claim is proved by: lemmas on the model and walks through functions of the program; no conditions. -/
import Derived.Test.YtmdpbfghjdljiaaGreatV21
import Derived.Test.YtmdpbfghjdljiaaGreatV24
import Derived.Test.YtmdpbfghjdljiaaGreatV12
namespace Go.Proofs
open Go Go.W Go.V
abbrev worldO (lz : Bool) (ss : List (List Cls)) (ts : List Thing) : Eta := [.cb Tc.turn_world [V.bool lz, .hs 1, .hs 2], .gs true Tc.Pturn_schema 1 none (ss.map schE), .gs false Tc.api_TurnThing 3 none (ts.map thingA)]
theorem s_turn_none : V.Spec Tryz.prog Fc.turn_none [] [] (valA (2, 0)) [] := by
  refine V.Spec.enter Tryz.tabOK Tryz.mixed Fn.turn_none rfl rfl rfl fun B hB => ?_
  repeat' (with_reducible first | refine OL.alloc ?_ | refine OL.storeAgg ?_ | refine OL.build ?_ | refine TC.region ?_ | refine TC.seq ?_ | refine OL.nil ?_ | refine TX.thenN ?_ | refine TC.ret ?_ | fail)
  exact TX.rtc [] (.ren rfl)
theorem clone_v (l : List (Int × Int)) (hb : l.length * 16 ≤ 140737488355328) : V.Spec Tryz.prog Fc.slices_Clone_Lapi_MeanVal_api_MeanVal [valsA l] [] (valsA l) [] := by
  refine V.Spec.enter Tryz.tabOK Tryz.mixed Fn.slices_Clone_Lapi_MeanVal_api_MeanVal rfl rfl rfl fun B hB => ?_
  repeat' (with_reducible first | refine OL.st ?_ | refine TC.region ?_ | refine TC.seq ?_ | refine OL.nil ?_ | refine TX.thenN ?_ | fail)
  refine OL.isNil (fun h => ?_) ?_
  · repeat' (with_reducible first | refine OL.st ?_ | refine TC.region ?_ | refine TC.seq ?_ | refine OL.nil ?_ | refine TX.thenN ?_ | refine TC.ifT ?_ | refine TC.ret ?_ | refine TX.thenR ?_ | fail)
    have e : l.map valA = [] := h
    exact TX.rt1 [] (.nil' e)
  · repeat' (with_reducible first | refine OL.st ?_ | refine OL.lit0 ?_ | refine OL.app ?_ | refine TC.region ?_ | refine TC.seq ?_ | refine OL.nil ?_ | refine TX.thenN ?_ | refine TC.skip ?_ | refine TC.ifF ?_ | refine TC.ret ?_ | fail)
    refine TX.vw 2 ?_
    exact TX.rt1 [] (.ren rfl)
theorem s_turn_value (v : Int × Int) (n : Int) : V.Spec Tryz.prog Fc.turn_value [valA v, V.int n] [] (V.bool (valB v n)) [] := by
  have hno := s_turn_none
  rw [valB]
  refine V.Spec.enter Tryz.tabOK Tryz.mixed Fn.turn_value rfl rfl rfl fun B hB => ?_
  by_cases h1 : v.1 = 1
  · rw [if_pos h1]
    repeat' (with_reducible first | refine OL.st ?_ | refine OL.box ?_ | refine TC.region ?_ | refine TC.seq ?_ | refine OL.nil ?_ | refine TX.thenN ?_ | refine TC.block ?_ | refine OL.gOn ?_ | refine OL.gOff ?_ | refine TC.ifD ?_ ?_ <;> (intro hc; try (exfalso; omega)) | refine OL.gD ?_ ?_ <;> (intro hc; try (exfalso; omega)) | refine TC.ret ?_ | refine TX.thenR ?_ | refine TX.blkR ?_ | fail)
    all_goals refine TX.rt1 [] (.bool ?_)
    · have : -1000000000 ≤ v.2 := by omega
      simp [this]
    · have : ¬ -1000000000 ≤ v.2 := by omega
      simp [this]
  · rw [if_neg h1]
    by_cases h3 : v.1 = 3
    · rw [if_neg (by omega), if_pos h3]
      repeat' (with_reducible first | refine OL.st ?_ | refine OL.box ?_ | refine TC.region ?_ | refine TC.seq ?_ | refine OL.nil ?_ | refine TX.thenN ?_ | refine TC.block ?_ | refine OL.gOn ?_ | refine OL.gOff ?_ | refine TC.ifD ?_ ?_ <;> (intro hc; try (exfalso; omega)) | refine OL.gD ?_ ?_ <;> (intro hc; try (exfalso; omega)) | refine TC.ret ?_ | refine TX.thenR ?_ | refine TX.blkR ?_ | fail)
      all_goals refine TX.rt1 [] (.bool ?_)
      · have : 0 ≤ v.2 := by omega
        simp [this]
      · have : ¬ 0 ≤ v.2 := by omega
        simp [this]
    · rw [if_neg h3]
      repeat' (with_reducible first | refine OL.st ?_ | refine OL.box ?_ | refine TC.region ?_ | refine TC.seq ?_ | refine OL.nil ?_ | refine TX.thenN ?_ | refine TC.block ?_ | refine TC.skip ?_ | refine TX.blkN ?_ | refine TC.ifD ?_ ?_ <;> (intro hc; try (exfalso; omega)) | fail)
      (with_reducible refine TC.draw (id := 6) false 4 4 ?_ <;> refine OD.n2 0 1 ?_ ?_ <;> (first | refine NextBy.at 0 ?_ <;> refine NextBy.s ?_ <;> refine OD.c1 1 hno Fn.turn_none ?_ <;> (refine OD.a1 2 ?_; refine OL.eqD2 eqMV ?_; refine OL.nil ?_; refine TX.od ?_) <;> refine OD.st 3 ?_ <;> refine OD.dn ?_ | refine NextBy.at 1 ?_ <;> refine NextBy.c hno Fn.turn_none ?_ <;> refine OD.s1 0 ?_ <;> (refine OD.a1 2 ?_; refine OL.eqD2 eqMV ?_; refine OL.nil ?_; refine TX.od ?_) <;> refine OD.st 3 ?_ <;> refine OD.dn ?_))
      all_goals repeat' (first | (with_reducible refine TX.thenN ?_) | (with_reducible refine TC.ret ?_) | fail)
      all_goals refine TX.rt1 [] (.bool ?_)
      all_goals
        by_cases h2 : v.1 = 2
        · rw [if_pos h2, h2, Bool.eq_iff_iff]; simp
        · rw [if_neg h2]; simp [h2]
theorem s_turn_open_1 (v : Int × Int) (lz : Bool) (ss : List (List Cls)) (ts : List Thing) : V.Spec Tryz.prog Fc.turn_open_1 [valA v, .ep [V.bool lz, schsA ss, thingsA ts] 0] [] (V.bool (!valB v ts.length)) [] := by
  have h := s_turn_value v ts.length
  refine V.Spec.enter Tryz.tabOK Tryz.mixed Fn.turn_open_1 rfl rfl rfl fun B hB => ?_
  repeat' (with_reducible first | refine OL.st ?_ | refine OL.box ?_ | refine TC.region ?_ | refine TC.seq ?_ | refine OL.nil ?_ | refine TX.thenN ?_ | fail)
  refine OL.c h Fn.turn_value ?_
  repeat' (with_reducible first | refine OL.st ?_ | refine OL.nil ?_ | refine TX.thenN ?_ | refine TC.ret ?_ | fail)
  exact TX.rt1 [] (.ren rfl)
theorem all_not {α : Type} (p : α → Bool) : ∀ l : List α, l.any (fun v => !p v) = !l.all p
  | [] => rfl
  | x :: r => by rw [List.any_cons, List.all_cons, all_not p r]; cases p x <;> rfl
abbrev openA (b : Bool) : AV := if b then .tp [.bp 0 0, V.bool true] else .tp [.raw (.pointer none), V.bool false]
abbrev openO (b lz : Bool) (ss : List (List Cls)) (ts : List Thing) : Eta := if b then worldO lz ss ts else []
set_option maxHeartbeats 4000000 in
theorem s_turn_open (lz : Bool) (ss : List (List Cls)) (ts : List Thing) (hs : ∀ s ∈ ss, Short s) : V.Spec Tryz.prog Fc.turn_open [wlA lz ss ts] [] (openA (formedB lz ss ts)) (openO (formedB lz ss ts) lz ss ts) := by
  rw [openA, openO, formedB]
  refine V.Spec.enter Tryz.tabOK Tryz.mixed Fn.turn_open rfl rfl rfl fun B hB => ?_
  cases hsb : schemasB ss
  · have hsc := schemas_no hs hsb
    rw [Bool.false_and, if_neg Bool.false_ne_true, if_neg Bool.false_ne_true]
    repeat' (with_reducible first | refine OL.st ?_ | refine OL.box ?_ | refine TC.region ?_ | refine TC.seq ?_ | refine OL.nil ?_ | refine TX.thenN ?_ | fail)
    refine OL.c hsc Fn.turn_schemas ?_
    repeat' (with_reducible first | refine OL.st ?_ | refine TC.region ?_ | refine TC.seq ?_ | refine OL.nil ?_ | refine TX.thenN ?_ | refine TC.ifT ?_ | refine OL.gOff ?_ | refine TC.ret ?_ | refine TX.thenR ?_ | fail)
    exact TX.rt2 [] (.ren rfl) (.ren rfl)
  have hsc := schemas_ok hs hsb
  rw [Bool.true_and]
  by_cases h40 : ts.length ≤ 40
  · rw [decide_eq_true h40, Bool.true_and]
    obtain ⟨n1, n12⟩ := schemasB_len hsb
    obtain ⟨P, hP⟩ : ∃ P, P = thingOk lz ss ts.length := ⟨_, rfl⟩
    rw [← hP]
    obtain ⟨res, hres⟩ : ∃ res, res = ts.all P := ⟨_, rfl⟩
    rw [← hres]
    repeat' (with_reducible first | refine OL.st ?_ | refine OL.box ?_ | refine TC.region ?_ | refine TC.seq ?_ | refine OL.nil ?_ | refine TX.thenN ?_ | fail)
    refine OL.frzA 0 ?_
    refine OL.c hsc Fn.turn_schemas ?_
    repeat' (with_reducible first | refine OL.st ?_ | refine OL.box ?_ | refine OL.build ?_ | refine TC.region ?_ | refine TC.seq ?_ | refine OL.nil ?_ | refine TX.thenN ?_ | refine TC.block ?_ | refine TC.skip ?_ | refine OL.gOn ?_ | refine TC.ifD ?_ ?_ <;> (intro hc; try (exfalso; omega)) | fail)
    refine TC.adpC 2 2 Tc.api_TurnThing 3 ?_
    refine TC.frz 1 ?_
    refine TC.lp (fun k : Nat => [(1, .ep [V.bool lz, schsA ss, thingsA ts] 0), (4, .hs 0), (6, .bp 1 0), (29, thingsA ts), (30, V.int ts.length), (31, V.int k)]) (fun k => [.gs true Tc.Pturn_schema 1 none (ss.map schE), .cb Tc.turn_world [V.bool lz, .hs 0, .hs 2], .gs false Tc.api_TurnThing 3 none ((ts.take k).map thingA)]) (fun k => k ≤ ts.length ∧ res = (ts.drop k).all P) (fun k => ts.length - k) 0 [1, 2, 3] ⟨Nat.zero_le _, hres⟩ ?_
    rintro k ⟨hk, hinv⟩
    by_cases hkl : k < ts.length
    · rw [drop_cons hkl, List.all_cons] at hinv
      have no : P ts[k] = false → res = false := fun h => by rw [hinv, h, Bool.false_and]
      by_cases h1 : 0 ≤ ts[k].2.1 ∧ ts[k].2.1 < (ss.length : Int)
      · have hsi : schAt ss ts[k].2.1.toNat = ss[ts[k].2.1.toNat]'(by omega) := getD_lt (by omega)
        have hgf := goodB_fine (schemasB_good hsb (i := ts[k].2.1.toNat) (by omega))
        rw [hsi] at hgf
        have hsl10 := slotsOf_len (schemasB_good hsb (i := ts[k].2.1.toNat) (by omega))
        rw [hsi] at hsl10
        have hP2 : P ts[k] = ((lz || decide (ts[k].2.1 = (ss.length : Int) - 1)) && (ownB (ss[ts[k].2.1.toNat]'(by omega)).length ts[k].1 && (decide (ts[k].2.2.length = (slotsOf (ss[ts[k].2.1.toNat]'(by omega)) ts[k].1.toNat).length) && ts[k].2.2.all (valB · ts.length)))) := by
          rw [hP, thingOk, decide_eq_true h1.1, decide_eq_true h1.2, hsi, Bool.true_and, Bool.true_and]
        have hcs := s_turn_class (ss[ts[k].2.1.toNat]'(by omega)) ts[k].1 (by omega)
        by_cases h2 : lz = true ∨ ts[k].2.1 = (ss.length : Int) - 1
        · have h2b : (lz || decide (ts[k].2.1 = (ss.length : Int) - 1)) = true := by simpa using h2
          rw [h2b, Bool.true_and] at hP2
          cases ho : ownB (ss[ts[k].2.1.toNat]'(by omega)).length ts[k].1
          · rw [ho, Bool.false_and] at hP2
            rw [ho] at hcs
            obtain rfl := no hP2
            rw [if_neg Bool.false_ne_true, if_neg Bool.false_ne_true]
            cases hlz : lz
            all_goals (try (rw [hlz] at h2; simp only [Bool.false_eq_true, false_or] at h2))
            all_goals repeat' (with_reducible first | refine OL.st ?_ | refine OL.alloc ?_ | refine OL.storeAgg ?_ | refine TC.region ?_ | refine TC.seq ?_ | refine OL.nil ?_ | refine TX.thenN ?_ | refine TC.block ?_ | refine TC.skip ?_ | refine TC.ifD ?_ ?_ <;> (intro hc; try (exfalso; omega)) | fail)
            all_goals (with_reducible refine TC.draw (id := 8) true 49 49 ?_ <;> refine OD.st 0 ?_ <;> refine OD.st 1 ?_ <;> refine OD.st 2 ?_ <;> refine OD.st 3 ?_ <;> refine OD.sD 38 ?_ ?_ <;> (intro hc; try (exfalso; omega)) <;> (first | (with_reducible refine OD.st 4 ?_) | (with_reducible refine OD.of 4 ?_)) <;> refine OD.st 5 ?_ <;> refine OD.st 6 ?_ <;> refine OD.st 7 ?_ <;> refine OD.st 8 ?_ <;> refine OD.st 9 ?_ <;> refine OD.st 10 ?_ <;> refine OD.sD 45 ?_ ?_ <;> (intro hc; try (exfalso; omega)) <;> (first | (with_reducible refine OD.st 11 ?_) | (with_reducible refine OD.of 11 ?_)) <;> refine OD.st 12 ?_ <;> refine OD.st 13 ?_ <;> refine OD.st 14 ?_ <;> (first | refine OD.st 15 ?_ | refine OD.of 15 ?_) <;> (first | refine OD.st 16 ?_ | refine OD.of 16 ?_) <;> (first | refine OD.st 17 ?_ | refine OD.of 17 ?_) <;> (first | refine OD.st 18 ?_ | refine OD.of 18 ?_) <;> (first | refine OD.st 19 ?_ | refine OD.of 19 ?_) <;> (first | refine OD.st 20 ?_ | refine OD.of 20 ?_) <;> refine OD.st 21 ?_ <;> refine OD.st 22 ?_ <;> refine OD.st 23 ?_ <;> (first | refine OD.st 24 ?_ | refine OD.sD 58 ?_ ?_ <;> (intro hc; try (exfalso; omega)) <;> (first | (with_reducible refine OD.st 24 ?_) | (with_reducible refine OD.of 24 ?_))) <;> refine OD.st 25 ?_ <;> refine OD.st 26 ?_ <;> refine OD.st 27 ?_ <;> refine OD.st 28 ?_ <;> refine OD.st 29 ?_ <;> refine OD.st 30 ?_ <;> refine OD.c1 31 hcs Fn.turn_schema_class ?_ <;> refine OD.st 32 ?_ <;> refine OD.st 33 ?_ <;> refine OD.st 34 ?_ <;> refine OD.of 35 ?_ <;> refine OD.of 36 ?_ <;> refine OD.of 37 ?_ <;> refine OD.of 38 ?_ <;> refine OD.of 39 ?_ <;> refine OD.of 40 ?_ <;> refine OD.of 41 ?_ <;> refine OD.of 42 ?_ <;> refine OD.of 43 ?_ <;> refine OD.of 44 ?_ <;> refine OD.of 45 ?_ <;> refine OD.of 46 ?_ <;> refine OD.of 47 ?_ <;> refine OD.st 48 ?_ <;> refine OD.dn ?_)
            all_goals repeat' (with_reducible first | refine OL.st ?_ | refine TC.region ?_ | refine TC.seq ?_ | refine OL.nil ?_ | refine TX.thenN ?_ | refine TC.ifT ?_ | refine TC.ret ?_ | refine TX.thenR ?_ | refine TX.blkR ?_ | fail)
            all_goals exact TX.rt2 [] (.ren rfl) (.ren rfl)
          · obtain ⟨c, hc⟩ : ∃ c : Nat, ts[k].1 = (c : Int) := ⟨ts[k].1.toNat, by simp only [ownB, Bool.and_eq_true, decide_eq_true_eq] at ho; omega⟩
            have hcl : 3 ≤ c ∧ c < 3 + (ss[ts[k].2.1.toNat]'(by omega)).length := by simp only [ownB, Bool.and_eq_true, decide_eq_true_eq] at ho; omega
            have hha := s_turn_has (ss[ts[k].2.1.toNat]'(by omega)) (by omega) hcl.1 hcl.2
            rw [← hc] at hha
            rw [ho, Bool.true_and, hc, Int.toNat_natCast] at hP2
            rw [ho] at hcs
            have hsl10 := hsl10 c
            by_cases h3 : ts[k].2.2.length = (slotsOf (ss[ts[k].2.1.toNat]'(by omega)) c).length
            · rw [decide_eq_true h3, Bool.true_and] at hP2
              have hcf := s_slices_ContainsFunc_Lapi_MeanVal_api_MeanVal ts[k].2.2 (fun v => !valB v ts.length)
              rw [all_not, ← hP2] at hcf
              cases hva : P ts[k]
              · rw [hva] at hcf
                obtain rfl := no hva
                rw [if_neg Bool.false_ne_true, if_neg Bool.false_ne_true]
                cases hlz : lz
                all_goals (try (rw [hlz] at h2; simp only [Bool.false_eq_true, false_or] at h2))
                all_goals repeat' (with_reducible first | refine OL.st ?_ | refine OL.alloc ?_ | refine OL.storeAgg ?_ | refine TC.region ?_ | refine TC.seq ?_ | refine OL.nil ?_ | refine TX.thenN ?_ | refine TC.block ?_ | refine TC.skip ?_ | refine TC.ifD ?_ ?_ <;> (intro hc; try (exfalso; omega)) | fail)
                all_goals (with_reducible refine TC.draw (id := 8) true 49 49 ?_ <;> refine OD.st 0 ?_ <;> refine OD.st 1 ?_ <;> refine OD.st 2 ?_ <;> refine OD.st 3 ?_ <;> refine OD.sD 38 ?_ ?_ <;> (intro hc; try (exfalso; omega)) <;> (first | (with_reducible refine OD.st 4 ?_) | (with_reducible refine OD.of 4 ?_)) <;> refine OD.st 5 ?_ <;> refine OD.st 6 ?_ <;> refine OD.st 7 ?_ <;> refine OD.st 8 ?_ <;> refine OD.st 9 ?_ <;> refine OD.st 10 ?_ <;> refine OD.sD 45 ?_ ?_ <;> (intro hc; try (exfalso; omega)) <;> (first | (with_reducible refine OD.st 11 ?_) | (with_reducible refine OD.of 11 ?_)) <;> refine OD.st 12 ?_ <;> refine OD.st 13 ?_ <;> refine OD.st 14 ?_ <;> (first | refine OD.st 15 ?_ | refine OD.of 15 ?_) <;> (first | refine OD.st 16 ?_ | refine OD.of 16 ?_) <;> (first | refine OD.st 17 ?_ | refine OD.of 17 ?_) <;> (first | refine OD.st 18 ?_ | refine OD.of 18 ?_) <;> (first | refine OD.st 19 ?_ | refine OD.of 19 ?_) <;> (first | refine OD.st 20 ?_ | refine OD.of 20 ?_) <;> refine OD.st 21 ?_ <;> refine OD.st 22 ?_ <;> refine OD.st 23 ?_ <;> (first | refine OD.st 24 ?_ | refine OD.sD 58 ?_ ?_ <;> (intro hc; try (exfalso; omega)) <;> (first | (with_reducible refine OD.st 24 ?_) | (with_reducible refine OD.of 24 ?_))) <;> refine OD.st 25 ?_ <;> refine OD.st 26 ?_ <;> refine OD.st 27 ?_ <;> refine OD.st 28 ?_ <;> refine OD.st 29 ?_ <;> refine OD.st 30 ?_ <;> refine OD.c1 31 hcs Fn.turn_schema_class ?_ <;> refine OD.st 32 ?_ <;> refine OD.st 33 ?_ <;> refine OD.st 34 ?_ <;> refine OD.st 35 ?_ <;> refine OD.st 36 ?_ <;> refine OD.st 37 ?_ <;> refine OD.st 38 ?_ <;> refine OD.st 39 ?_ <;> refine OD.st 40 ?_ <;> refine OD.st 41 ?_ <;> refine OD.st 42 ?_ <;> refine OD.st 43 ?_ <;> refine OD.st 44 ?_ <;> refine OD.c1 45 hha Fn.turn_schema_has ?_ <;> refine OD.st 46 ?_ <;> refine OD.st 47 ?_ <;> refine OD.st 48 ?_ <;> refine OD.dn ?_)
                all_goals repeat' (with_reducible first | refine OL.st ?_ | refine TC.region ?_ | refine TC.seq ?_ | refine TX.thenN ?_ | refine TC.skip ?_ | refine TC.ifD ?_ ?_ <;> (intro hc; try (exfalso; omega)) | fail)
                all_goals refine OL.c hcf Fn.slices_ContainsFunc_Lapi_MeanVal_api_MeanVal ?_ (hle := by exact ⟨.ren rfl, LE.fun_ (first' := []) (caps' := [.ep [V.bool _, schsA ss, thingsA ts] 0]) Fn.turn_open_1 rfl trivial ⟨.ren rfl, trivial⟩ (fun x hx => s_turn_open_1 x _ ss ts), trivial⟩)
                all_goals repeat' (with_reducible first | refine OL.st ?_ | refine TC.region ?_ | refine TC.seq ?_ | refine OL.nil ?_ | refine TX.thenN ?_ | refine TC.ifT ?_ | refine TC.ret ?_ | refine TX.thenR ?_ | refine TX.blkR ?_ | fail)
                all_goals exact TX.rt2 [] (.ren rfl) (.ren rfl)
              · rw [hva] at hcf
                rw [hva, Bool.true_and] at hinv
                have hcv := clone_v ts[k].2.2 (by omega)
                have hql : (ts.take k).length ≤ 1000 := by simp; omega
                have e : (ts.take k).map thingA ++ [thingA ts[k]] = (ts.take (k + 1)).map thingA := by rw [take_succ hkl]; exact map_snoc _ _ _
                generalize ts.take k = q at *
                cases hlz : lz
                all_goals (try (rw [hlz] at h2; simp only [Bool.false_eq_true, false_or] at h2))
                all_goals repeat' (with_reducible first | refine OL.st ?_ | refine OL.alloc ?_ | refine OL.storeAgg ?_ | refine TC.region ?_ | refine TC.seq ?_ | refine OL.nil ?_ | refine TX.thenN ?_ | refine TC.block ?_ | refine TC.skip ?_ | refine TC.ifD ?_ ?_ <;> (intro hc; try (exfalso; omega)) | fail)
                all_goals (with_reducible refine TC.draw (id := 8) true 49 49 ?_ <;> refine OD.st 0 ?_ <;> refine OD.st 1 ?_ <;> refine OD.st 2 ?_ <;> refine OD.st 3 ?_ <;> refine OD.sD 38 ?_ ?_ <;> (intro hc; try (exfalso; omega)) <;> (first | (with_reducible refine OD.st 4 ?_) | (with_reducible refine OD.of 4 ?_)) <;> refine OD.st 5 ?_ <;> refine OD.st 6 ?_ <;> refine OD.st 7 ?_ <;> refine OD.st 8 ?_ <;> refine OD.st 9 ?_ <;> refine OD.st 10 ?_ <;> refine OD.sD 45 ?_ ?_ <;> (intro hc; try (exfalso; omega)) <;> (first | (with_reducible refine OD.st 11 ?_) | (with_reducible refine OD.of 11 ?_)) <;> refine OD.st 12 ?_ <;> refine OD.st 13 ?_ <;> refine OD.st 14 ?_ <;> (first | refine OD.st 15 ?_ | refine OD.of 15 ?_) <;> (first | refine OD.st 16 ?_ | refine OD.of 16 ?_) <;> (first | refine OD.st 17 ?_ | refine OD.of 17 ?_) <;> (first | refine OD.st 18 ?_ | refine OD.of 18 ?_) <;> (first | refine OD.st 19 ?_ | refine OD.of 19 ?_) <;> (first | refine OD.st 20 ?_ | refine OD.of 20 ?_) <;> refine OD.st 21 ?_ <;> refine OD.st 22 ?_ <;> refine OD.st 23 ?_ <;> (first | refine OD.st 24 ?_ | refine OD.sD 58 ?_ ?_ <;> (intro hc; try (exfalso; omega)) <;> (first | (with_reducible refine OD.st 24 ?_) | (with_reducible refine OD.of 24 ?_))) <;> refine OD.st 25 ?_ <;> refine OD.st 26 ?_ <;> refine OD.st 27 ?_ <;> refine OD.st 28 ?_ <;> refine OD.st 29 ?_ <;> refine OD.st 30 ?_ <;> refine OD.c1 31 hcs Fn.turn_schema_class ?_ <;> refine OD.st 32 ?_ <;> refine OD.st 33 ?_ <;> refine OD.st 34 ?_ <;> refine OD.st 35 ?_ <;> refine OD.st 36 ?_ <;> refine OD.st 37 ?_ <;> refine OD.st 38 ?_ <;> refine OD.st 39 ?_ <;> refine OD.st 40 ?_ <;> refine OD.st 41 ?_ <;> refine OD.st 42 ?_ <;> refine OD.st 43 ?_ <;> refine OD.st 44 ?_ <;> refine OD.c1 45 hha Fn.turn_schema_has ?_ <;> refine OD.st 46 ?_ <;> refine OD.st 47 ?_ <;> refine OD.st 48 ?_ <;> refine OD.dn ?_)
                all_goals repeat' (with_reducible first | refine OL.st ?_ | refine TC.region ?_ | refine TC.seq ?_ | refine TX.thenN ?_ | refine TC.skip ?_ | refine TC.ifD ?_ ?_ <;> (intro hc; try (exfalso; omega)) | fail)
                all_goals refine OL.c hcf Fn.slices_ContainsFunc_Lapi_MeanVal_api_MeanVal ?_ (hle := by exact ⟨.ren rfl, LE.fun_ (first' := []) (caps' := [.ep [V.bool _, schsA ss, thingsA ts] 0]) Fn.turn_open_1 rfl trivial ⟨.ren rfl, trivial⟩ (fun x hx => s_turn_open_1 x _ ss ts), trivial⟩)
                all_goals repeat' (with_reducible first | refine OL.st ?_ | refine TC.region ?_ | refine TC.seq ?_ | refine OL.nil ?_ | refine TX.thenN ?_ | refine TC.skip ?_ | refine TC.ifF ?_ | fail)
                all_goals refine OL.c hcv Fn.slices_Clone_Lapi_MeanVal_api_MeanVal ?_
                all_goals repeat' (with_reducible first | refine OL.st ?_ | refine OL.store ?_ | refine OL.nil ?_ | refine TX.thenN ?_ | fail)
                all_goals (with_reducible refine TC.draw (id := 13) false 11 11 ?_ <;> refine OD.st 0 ?_ <;> refine OD.st 1 ?_ <;> refine OD.st 2 ?_ <;> refine OD.st 3 ?_ <;> refine OD.n2 4 5 ?_ ?_ <;> (first | refine NextBy.at 4 ?_ <;> refine NextBy.s ?_ <;> refine OD.s1 5 ?_ <;> (refine OD.a1 6 ?_; refine OL.lit ?_; refine OL.nil ?_; refine TX.od ?_) <;> (refine OD.a1 7 ?_; refine OL.appO ?_; refine OL.nil ?_; refine TX.od ?_) <;> refine OD.st 8 ?_ <;> refine OD.st 9 ?_ <;> (refine OD.a1 10 ?_; refine OL.store ?_; refine OL.nil ?_; refine TX.od ?_) <;> refine OD.dn ?_ | refine NextBy.at 5 ?_ <;> refine NextBy.s ?_ <;> refine OD.n2 4 6 ?_ ?_ <;> (first | refine NextBy.at 4 ?_ <;> refine NextBy.s ?_ <;> (refine OD.a1 6 ?_; refine OL.lit ?_; refine OL.nil ?_; refine TX.od ?_) <;> (refine OD.a1 7 ?_; refine OL.appO ?_; refine OL.nil ?_; refine TX.od ?_) <;> refine OD.st 8 ?_ <;> refine OD.st 9 ?_ <;> (refine OD.a1 10 ?_; refine OL.store ?_; refine OL.nil ?_; refine TX.od ?_) <;> refine OD.dn ?_ | refine NextBy.at 6 ?_ <;> (refine NextBy.a ?_; refine OL.lit ?_; refine OL.nil ?_; refine TX.od ?_) <;> refine OD.s1 4 ?_ <;> (refine OD.a1 7 ?_; refine OL.appO ?_; refine OL.nil ?_; refine TX.od ?_) <;> refine OD.st 8 ?_ <;> refine OD.st 9 ?_ <;> (refine OD.a1 10 ?_; refine OL.store ?_; refine OL.nil ?_; refine TX.od ?_) <;> refine OD.dn ?_)))
                all_goals repeat' (with_reducible first | refine OL.st ?_ | refine TC.region ?_ | refine OL.nil ?_ | refine TX.thenN ?_ | refine TX.blkN ?_ | fail)
                all_goals exact TX.rd (k + 1) [0, 1, 5] ⟨by omega, hinv⟩ (by omega)
            · rw [decide_eq_false h3, Bool.false_and] at hP2
              obtain rfl := no hP2
              rw [if_neg Bool.false_ne_true, if_neg Bool.false_ne_true]
              cases hlz : lz
              all_goals (try (rw [hlz] at h2; simp only [Bool.false_eq_true, false_or] at h2))
              all_goals repeat' (with_reducible first | refine OL.st ?_ | refine OL.alloc ?_ | refine OL.storeAgg ?_ | refine TC.region ?_ | refine TC.seq ?_ | refine OL.nil ?_ | refine TX.thenN ?_ | refine TC.block ?_ | refine TC.skip ?_ | refine TC.ifD ?_ ?_ <;> (intro hc; try (exfalso; omega)) | fail)
              all_goals (with_reducible refine TC.draw (id := 8) true 49 49 ?_ <;> refine OD.st 0 ?_ <;> refine OD.st 1 ?_ <;> refine OD.st 2 ?_ <;> refine OD.st 3 ?_ <;> refine OD.sD 38 ?_ ?_ <;> (intro hc; try (exfalso; omega)) <;> (first | (with_reducible refine OD.st 4 ?_) | (with_reducible refine OD.of 4 ?_)) <;> refine OD.st 5 ?_ <;> refine OD.st 6 ?_ <;> refine OD.st 7 ?_ <;> refine OD.st 8 ?_ <;> refine OD.st 9 ?_ <;> refine OD.st 10 ?_ <;> refine OD.sD 45 ?_ ?_ <;> (intro hc; try (exfalso; omega)) <;> (first | (with_reducible refine OD.st 11 ?_) | (with_reducible refine OD.of 11 ?_)) <;> refine OD.st 12 ?_ <;> refine OD.st 13 ?_ <;> refine OD.st 14 ?_ <;> (first | refine OD.st 15 ?_ | refine OD.of 15 ?_) <;> (first | refine OD.st 16 ?_ | refine OD.of 16 ?_) <;> (first | refine OD.st 17 ?_ | refine OD.of 17 ?_) <;> (first | refine OD.st 18 ?_ | refine OD.of 18 ?_) <;> (first | refine OD.st 19 ?_ | refine OD.of 19 ?_) <;> (first | refine OD.st 20 ?_ | refine OD.of 20 ?_) <;> refine OD.st 21 ?_ <;> refine OD.st 22 ?_ <;> refine OD.st 23 ?_ <;> (first | refine OD.st 24 ?_ | refine OD.sD 58 ?_ ?_ <;> (intro hc; try (exfalso; omega)) <;> (first | (with_reducible refine OD.st 24 ?_) | (with_reducible refine OD.of 24 ?_))) <;> refine OD.st 25 ?_ <;> refine OD.st 26 ?_ <;> refine OD.st 27 ?_ <;> refine OD.st 28 ?_ <;> refine OD.st 29 ?_ <;> refine OD.st 30 ?_ <;> refine OD.c1 31 hcs Fn.turn_schema_class ?_ <;> refine OD.st 32 ?_ <;> refine OD.st 33 ?_ <;> refine OD.st 34 ?_ <;> refine OD.st 35 ?_ <;> refine OD.st 36 ?_ <;> refine OD.st 37 ?_ <;> refine OD.st 38 ?_ <;> refine OD.st 39 ?_ <;> refine OD.st 40 ?_ <;> refine OD.st 41 ?_ <;> refine OD.st 42 ?_ <;> refine OD.st 43 ?_ <;> refine OD.st 44 ?_ <;> refine OD.c1 45 hha Fn.turn_schema_has ?_ <;> refine OD.st 46 ?_ <;> refine OD.st 47 ?_ <;> refine OD.st 48 ?_ <;> refine OD.dn ?_)
              all_goals repeat' (with_reducible first | refine OL.st ?_ | refine TC.region ?_ | refine TC.seq ?_ | refine OL.nil ?_ | refine TX.thenN ?_ | refine TC.ifD ?_ ?_ <;> (intro hc; try (exfalso; omega)) | refine TC.ret ?_ | refine TX.thenR ?_ | refine TX.blkR ?_ | fail)
              all_goals exact TX.rt2 [] (.ren rfl) (.ren rfl)
        · have h2b : (lz || decide (ts[k].2.1 = (ss.length : Int) - 1)) = false := by
            rw [Bool.eq_false_iff]; exact fun h => h2 (by simpa using h)
          rw [h2b, Bool.false_and] at hP2
          obtain rfl := no hP2
          rw [if_neg Bool.false_ne_true, if_neg Bool.false_ne_true]
          have hlz : lz = false := by cases hq : lz with
            | false => rfl
            | true => exact absurd (.inl hq) h2
          have hne : ¬ ts[k].2.1 = (ss.length : Int) - 1 := fun h => h2 (.inr h)
          rw [hlz]
          repeat' (with_reducible first | refine OL.st ?_ | refine OL.alloc ?_ | refine OL.storeAgg ?_ | refine TC.region ?_ | refine TC.seq ?_ | refine OL.nil ?_ | refine TX.thenN ?_ | refine TC.block ?_ | refine TC.skip ?_ | refine TC.ifD ?_ ?_ <;> (intro hc; try (exfalso; omega)) | fail)
          (with_reducible refine TC.draw (id := 8) true 49 49 ?_ <;> refine OD.st 0 ?_ <;> refine OD.st 1 ?_ <;> refine OD.st 2 ?_ <;> refine OD.st 3 ?_ <;> refine OD.sD 38 ?_ ?_ <;> (intro hc; try (exfalso; omega)) <;> (first | (with_reducible refine OD.st 4 ?_) | (with_reducible refine OD.of 4 ?_)) <;> refine OD.st 5 ?_ <;> refine OD.st 6 ?_ <;> refine OD.st 7 ?_ <;> refine OD.st 8 ?_ <;> refine OD.st 9 ?_ <;> refine OD.st 10 ?_ <;> refine OD.sD 45 ?_ ?_ <;> (intro hc; try (exfalso; omega)) <;> (first | (with_reducible refine OD.st 11 ?_) | (with_reducible refine OD.of 11 ?_)) <;> refine OD.st 12 ?_ <;> refine OD.st 13 ?_ <;> refine OD.st 14 ?_ <;> refine OD.st 15 ?_ <;> refine OD.st 16 ?_ <;> refine OD.st 17 ?_ <;> refine OD.st 18 ?_ <;> refine OD.st 19 ?_ <;> refine OD.st 20 ?_ <;> refine OD.st 21 ?_ <;> refine OD.st 22 ?_ <;> refine OD.st 23 ?_ <;> refine OD.sD 58 ?_ ?_ <;> (intro hc; try (exfalso; omega)) <;> (first | (with_reducible refine OD.st 24 ?_) | (with_reducible refine OD.of 24 ?_)) <;> refine OD.of 25 ?_ <;> refine OD.of 26 ?_ <;> refine OD.of 27 ?_ <;> refine OD.of 28 ?_ <;> refine OD.of 29 ?_ <;> refine OD.of 30 ?_ <;> refine OD.of 31 ?_ <;> refine OD.of 32 ?_ <;> refine OD.st 33 ?_ <;> refine OD.st 34 ?_ <;> refine OD.of 35 ?_ <;> refine OD.of 36 ?_ <;> refine OD.of 37 ?_ <;> refine OD.of 38 ?_ <;> refine OD.of 39 ?_ <;> refine OD.of 40 ?_ <;> refine OD.of 41 ?_ <;> refine OD.of 42 ?_ <;> refine OD.of 43 ?_ <;> refine OD.of 44 ?_ <;> refine OD.of 45 ?_ <;> refine OD.of 46 ?_ <;> refine OD.of 47 ?_ <;> refine OD.st 48 ?_ <;> refine OD.dn ?_)
          all_goals repeat' (with_reducible first | refine OL.st ?_ | refine TC.region ?_ | refine TC.seq ?_ | refine OL.nil ?_ | refine TX.thenN ?_ | refine TC.ifT ?_ | refine TC.ret ?_ | refine TX.thenR ?_ | refine TX.blkR ?_ | fail)
          all_goals exact TX.rt2 [] (.ren rfl) (.ren rfl)
      · have hto : P ts[k] = false := by
          have hz : (decide (0 ≤ ts[k].2.1) && decide (ts[k].2.1 < (ss.length : Int))) = false := by
            rw [Bool.eq_false_iff]; simp only [ne_eq, Bool.and_eq_true, decide_eq_true_eq]; exact h1
          rw [hP, thingOk, hz]; rfl
        obtain rfl := no hto
        rw [if_neg Bool.false_ne_true, if_neg Bool.false_ne_true]
        by_cases h0 : 0 ≤ ts[k].2.1
        all_goals repeat' (with_reducible first | refine OL.st ?_ | refine OL.alloc ?_ | refine OL.storeAgg ?_ | refine TC.region ?_ | refine TC.seq ?_ | refine OL.nil ?_ | refine TX.thenN ?_ | refine TC.block ?_ | refine TC.skip ?_ | refine TC.ifD ?_ ?_ <;> (intro hc; try (exfalso; omega)) | fail)
        all_goals (with_reducible refine TC.draw (id := 8) true 49 49 ?_ <;> refine OD.st 0 ?_ <;> refine OD.st 1 ?_ <;> refine OD.st 2 ?_ <;> refine OD.st 3 ?_ <;> refine OD.sD 38 ?_ ?_ <;> (intro hc; try (exfalso; omega)) <;> (first | (with_reducible refine OD.st 4 ?_) | (with_reducible refine OD.of 4 ?_)) <;> (first | refine OD.st 5 ?_ | refine OD.of 5 ?_) <;> (first | refine OD.st 6 ?_ | refine OD.of 6 ?_) <;> (first | refine OD.st 7 ?_ | refine OD.of 7 ?_) <;> (first | refine OD.st 8 ?_ | refine OD.of 8 ?_) <;> refine OD.st 9 ?_ <;> refine OD.st 10 ?_ <;> (first | refine OD.of 11 ?_ | refine OD.sD 45 ?_ ?_ <;> (intro hc; try (exfalso; omega)) <;> (first | (with_reducible refine OD.st 11 ?_) | (with_reducible refine OD.of 11 ?_))) <;> refine OD.of 12 ?_ <;> refine OD.of 13 ?_ <;> refine OD.of 14 ?_ <;> refine OD.un 15 ?_ <;> refine OD.un 16 ?_ <;> refine OD.un 17 ?_ <;> refine OD.un 18 ?_ <;> refine OD.un 19 ?_ <;> refine OD.un 20 ?_ <;> refine OD.of 21 ?_ <;> refine OD.st 22 ?_ <;> refine OD.st 23 ?_ <;> refine OD.of 24 ?_ <;> refine OD.of 25 ?_ <;> refine OD.of 26 ?_ <;> refine OD.of 27 ?_ <;> refine OD.of 28 ?_ <;> refine OD.of 29 ?_ <;> refine OD.of 30 ?_ <;> refine OD.of 31 ?_ <;> refine OD.of 32 ?_ <;> refine OD.st 33 ?_ <;> refine OD.st 34 ?_ <;> refine OD.of 35 ?_ <;> refine OD.of 36 ?_ <;> refine OD.of 37 ?_ <;> refine OD.of 38 ?_ <;> refine OD.of 39 ?_ <;> refine OD.of 40 ?_ <;> refine OD.of 41 ?_ <;> refine OD.of 42 ?_ <;> refine OD.of 43 ?_ <;> refine OD.of 44 ?_ <;> refine OD.of 45 ?_ <;> refine OD.of 46 ?_ <;> refine OD.of 47 ?_ <;> refine OD.st 48 ?_ <;> refine OD.dn ?_)
        all_goals repeat' (with_reducible first | refine OL.st ?_ | refine TC.region ?_ | refine TC.seq ?_ | refine OL.nil ?_ | refine TX.thenN ?_ | refine TC.ifT ?_ | refine TC.ret ?_ | refine TX.thenR ?_ | refine TX.blkR ?_ | fail)
        all_goals exact TX.rt2 [] (.ren rfl) (.ren rfl)
    · rw [drop_nil (by omega)] at hinv
      rw [hinv, List.all_nil, if_pos rfl, if_pos rfl, take_all (by omega)]
      repeat' (with_reducible first | refine OL.st ?_ | refine TC.region ?_ | refine TC.seq ?_ | refine OL.nil ?_ | refine TX.thenN ?_ | refine TC.exit ?_ | refine TX.hit ?_ | refine TX.thenX ?_ | refine TC.ifD ?_ ?_ <;> (intro hc; try (exfalso; omega)) | refine TC.ret ?_ | fail)
      exact TX.rt2 [1, 0, 2] (.ren rfl) (.ren rfl)
  · rw [decide_eq_false h40, Bool.false_and, if_neg Bool.false_ne_true, if_neg Bool.false_ne_true]
    repeat' (with_reducible first | refine OL.st ?_ | refine OL.box ?_ | refine TC.region ?_ | refine TC.seq ?_ | refine OL.nil ?_ | refine TX.thenN ?_ | fail)
    refine OL.c hsc Fn.turn_schemas ?_
    repeat' (with_reducible first | refine OL.st ?_ | refine TC.region ?_ | refine TC.seq ?_ | refine OL.nil ?_ | refine TX.thenN ?_ | refine OL.gOn ?_ | refine TC.ifD ?_ ?_ <;> (intro hc; try (exfalso; omega)) | refine TC.ret ?_ | refine TX.thenR ?_ | fail)
    exact TX.rt2 [] (.ren rfl) (.ren rfl)
theorem turn_open_yes {lz : Bool} {ss : List (List Cls)} {ts : List Thing} (hs : ∀ s ∈ ss, Short s) (hf : formedB lz ss ts = true) : V.Spec Tryz.prog Fc.turn_open [wlA lz ss ts] [] (.tp [.bp 0 0, V.bool true]) (worldO lz ss ts) := by
  have := s_turn_open lz ss ts hs
  rw [openA, openO, hf, if_pos rfl, if_pos rfl] at this
  exact this
theorem turn_open_no {lz : Bool} {ss : List (List Cls)} {ts : List Thing} (hs : ∀ s ∈ ss, Short s) (hf : formedB lz ss ts = false) : V.Spec Tryz.prog Fc.turn_open [wlA lz ss ts] [] (.tp [.raw (.pointer none), V.bool false]) [] := by
  have := s_turn_open lz ss ts hs
  rw [openA, openO, hf, if_neg Bool.false_ne_true, if_neg Bool.false_ne_true] at this
  exact this
end Go.Proofs
