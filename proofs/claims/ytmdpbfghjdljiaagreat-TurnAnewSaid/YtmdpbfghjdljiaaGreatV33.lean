/- Part 33 of what the claim is proved by: lemmas on the model and walks through functions of the program; no conditions. -/
import Derived.Test.YtmdpbfghjdljiaaGreatV32
import Derived.Test.YtmdpbfghjdljiaaGreatV29
namespace Go.Proofs
open Go Go.W Go.V
theorem s_ref17_DoOf (lz : Bool) {ss : List (List Cls)} {ts : List Thing} (h : WOk ss ts) (s : Step) (hk : ShortC s.k) (hs : StOk ss ts s) :
    V.Spec Tryz.prog Fc.ref17_DoOf [wlA lz ss ts, stepA s] [] (.tp [wlA lz (doS ss s) (doT lz ss ts s), valA (doR ss ts s)]) [] := by
  have hd := hs.d
  by_cases d1 : s.d = 1
  · exact s_ref17_DoOf_1 lz h s hk hs d1
  by_cases d2 : s.d = 2
  · exact s_ref17_DoOf_2 lz h s hs d2
  by_cases d3 : s.d = 3
  · exact s_ref17_DoOf_3 lz h s hs d3
  by_cases d4 : s.d = 4
  · exact s_ref17_DoOf_4 lz h s hs d4
  by_cases d5 : s.d = 5
  · exact s_ref17_DoOf_5 lz h s hs d5
  exact s_ref17_DoOf_6 lz h s hs (by omega)
theorem LE.wl0 {τ : Nat → Option Nat} : LE τ (.st [.raw (.bool false), .raw (.slice none 0 0), .raw (.slice none 0 0)]) (wldA (false, [], [])) := LE.st ⟨.ren rfl, .nil (by decide), .nil (by decide), trivial⟩
abbrev doA (r : Wld × (Int × Int) × Int) : AV := .tp [wldA r.1, valA r.2.1, V.int r.2.2]
abbrev playA (r : Wld × List (Int × Int) × List Int × Int) : AV := .tp [wldA r.1, valsA r.2.1, ints r.2.2.1, V.int r.2.2.2]
abbrev stepsA (l : List Step) : AV := .sl 9 none (l.map stepA)
set_option maxHeartbeats 1000000 in
theorem s_ref17_Do (lz : Bool) (ss : List (List Cls)) (ts : List Thing) (hsh : ∀ s ∈ ss, Short s) (s : Step) (hk : ShortC s.k) : V.Spec Tryz.prog Fc.ref17_Do [wlA lz ss ts, stepA s] [] (doA (doX lz ss ts s)) [] := by
  have hfo := s_ref17_Formed lz ss ts hsh
  rw [doX]
  refine V.Spec.enter Tryz.tabOK Tryz.mixed Fn.ref17_Do rfl rfl rfl fun B hB => ?_
  cases hf : formedB lz ss ts
  · rw [hf] at hfo
    rw [if_neg Bool.false_ne_true]
    repeat' (with_reducible first | refine OL.st ?_ | refine OL.box ?_ | refine OL.alloc ?_ | refine TC.region ?_ | refine TC.seq ?_ | refine OL.nil ?_ | refine TX.thenN ?_ | fail)
    refine OL.c hfo Fn.ref17_Formed ?_
    repeat' (with_reducible first | refine OL.st ?_ | refine OL.storeAgg ?_ | refine OL.build ?_ | refine TC.region ?_ | refine TC.seq ?_ | refine OL.nil ?_ | refine TX.thenN ?_ | refine TC.ifT ?_ | refine TC.ret ?_ | refine TX.thenR ?_ | fail)
    exact TX.rs3 [] LE.wl0 (.ren rfl) (.ren rfl)
  · rw [hf] at hfo
    rw [if_pos rfl]
    have hw := formedB_ok hsh hf
    have hre := s_ref17_Refused lz hw s hk
    by_cases e0 : refusedE ss ts s = 0
    · rw [if_pos e0]
      rw [e0] at hre
      have hdo := s_ref17_DoOf lz hw s hk (refused_ok e0)
      repeat' (with_reducible first | refine OL.st ?_ | refine OL.box ?_ | refine OL.alloc ?_ | refine TC.region ?_ | refine TC.seq ?_ | refine OL.nil ?_ | refine TX.thenN ?_ | fail)
      refine OL.c hfo Fn.ref17_Formed ?_
      repeat' (with_reducible first | refine OL.st ?_ | refine TC.region ?_ | refine TC.seq ?_ | refine OL.nil ?_ | refine TX.thenN ?_ | refine TC.skip ?_ | refine TC.ifF ?_ | fail)
      refine OL.c hre Fn.ref17_Refused ?_
      repeat' (with_reducible first | refine OL.st ?_ | refine TC.region ?_ | refine TC.seq ?_ | refine OL.nil ?_ | refine TX.thenN ?_ | refine TC.skip ?_ | refine TC.ifF ?_ | fail)
      refine OL.c hdo Fn.ref17_DoOf ?_
      repeat' (with_reducible first | refine OL.st ?_ | refine OL.alloc ?_ | refine OL.storeAgg ?_ | refine TC.seq ?_ | refine OL.nil ?_ | refine TX.thenN ?_ | fail)
      (with_reducible refine TC.draw (id := 7) false 5 5 ?_ <;> refine OD.n2 0 1 ?_ ?_ <;> (first | refine NextBy.at 0 ?_ <;> refine NextBy.s ?_ <;> refine OD.n2 1 2 ?_ ?_ <;> (first | refine NextBy.at 1 ?_ <;> refine NextBy.s ?_ <;> (refine OD.a1 2 ?_; refine OL.storeAgg ?_; refine OL.nil ?_; refine TX.od ?_) <;> (refine OD.a1 3 ?_; refine OL.storeAgg ?_; refine OL.nil ?_; refine TX.od ?_) <;> refine OD.st 4 ?_ <;> refine OD.dn ?_ | refine NextBy.at 2 ?_ <;> (refine NextBy.a ?_; refine OL.storeAgg ?_; refine OL.nil ?_; refine TX.od ?_) <;> refine OD.s1 1 ?_ <;> (refine OD.a1 3 ?_; refine OL.storeAgg ?_; refine OL.nil ?_; refine TX.od ?_) <;> refine OD.st 4 ?_ <;> refine OD.dn ?_) | refine NextBy.at 1 ?_ <;> refine NextBy.s ?_ <;> refine OD.s1 0 ?_ <;> (refine OD.a1 2 ?_; refine OL.storeAgg ?_; refine OL.nil ?_; refine TX.od ?_) <;> (refine OD.a1 3 ?_; refine OL.storeAgg ?_; refine OL.nil ?_; refine TX.od ?_) <;> refine OD.st 4 ?_ <;> refine OD.dn ?_))
      all_goals repeat' (first | (with_reducible refine TX.thenN ?_) | (with_reducible refine TC.ret ?_) | fail)
      all_goals exact TX.rs3 [] (.ren rfl) (.ren rfl) (.ren rfl)
    · rw [if_neg e0]
      generalize refusedE ss ts s = e at *
      repeat' (with_reducible first | refine OL.st ?_ | refine OL.box ?_ | refine OL.alloc ?_ | refine TC.region ?_ | refine TC.seq ?_ | refine OL.nil ?_ | refine TX.thenN ?_ | fail)
      refine OL.c hfo Fn.ref17_Formed ?_
      repeat' (with_reducible first | refine OL.st ?_ | refine TC.region ?_ | refine TC.seq ?_ | refine OL.nil ?_ | refine TX.thenN ?_ | refine TC.skip ?_ | refine TC.ifF ?_ | fail)
      refine OL.c hre Fn.ref17_Refused ?_
      repeat' (with_reducible first | refine OL.st ?_ | refine OL.storeAgg ?_ | refine OL.build ?_ | refine TC.region ?_ | refine TC.seq ?_ | refine OL.nil ?_ | refine TX.thenN ?_ | refine TC.ifD ?_ ?_ <;> (intro hc; try (exfalso; omega)) | refine TC.ret ?_ | refine TX.thenR ?_ | fail)
      exact TX.rs3 [] LE.wl0 (.ren rfl) (.ren rfl)
set_option maxHeartbeats 2000000 in
theorem s_ref17_Play (lz : Bool) (ss : List (List Cls)) (ts : List Thing) (hsh : ∀ s ∈ ss, Short s) (l : List Step) (hk : ∀ s ∈ l, ShortC s.k) : V.Spec Tryz.prog Fc.ref17_Play [wlA lz ss ts, stepsA l] [] (playA (playX lz ss ts l)) [] := by
  have hfo := s_ref17_Formed lz ss ts hsh
  rw [playX]
  refine V.Spec.enter Tryz.tabOK Tryz.mixed Fn.ref17_Play rfl rfl rfl fun B hB => ?_
  refine TC.bl 1 fun hll => ?_
  cases hf : formedB lz ss ts
  · rw [hf] at hfo
    rw [if_neg (fun h => by cases h.1)]
    repeat' (with_reducible first | refine OL.st ?_ | refine OL.box ?_ | refine OL.alloc ?_ | refine TC.region ?_ | refine TC.seq ?_ | refine OL.nil ?_ | refine TX.thenN ?_ | fail)
    refine OL.c hfo Fn.ref17_Formed ?_
    repeat' (with_reducible first | refine OL.st ?_ | refine OL.storeAgg ?_ | refine OL.build ?_ | refine TC.region ?_ | refine TC.seq ?_ | refine OL.nil ?_ | refine TX.thenN ?_ | refine TC.ifT ?_ | refine OL.gOff ?_ | refine TC.ret ?_ | refine TX.thenR ?_ | fail)
    exact TX.rs4 [] LE.wl0 (.nil (by decide)) (.nil (by decide)) (.ren rfl)
  · rw [hf] at hfo
    by_cases h60 : l.length ≤ 60
    · rw [if_pos ⟨rfl, h60⟩]
      have hw := formedB_ok hsh hf
      have h40 := hw.n40
      obtain ⟨n1, n12⟩ := schemasB_len hw.sb
      have hcp := s_ref17_Copy lz hw.sh n12 (by omega) (fun x hx => (hw.tk x hx).short hw.sb)
      obtain ⟨P, hP⟩ : ∃ P, P = fun k => playV lz ss ts (l.take k) := ⟨_, rfl⟩
      have hP0 : P 0 = (ss, ts, [], []) := by rw [hP]; rfl
      have hPl : playV lz ss ts l = P l.length := by rw [hP]; simp
      have hPw : ∀ k, WOk (P k).1 (P k).2.1 := fun k => by rw [hP]; exact play_ok lz _ ss ts hw (fun s hs => hk s (List.mem_of_mem_take hs))
      have hPn : ∀ k, (P k).2.2.1.length ≤ 60 ∧ (P k).2.2.2.length ≤ 60 := fun k => by
        rw [hP]
        have := play_lens lz (l.take k) ss ts
        rw [this.1, this.2]
        simp; omega
      have hPs : ∀ k (hkl : k < l.length), P (k + 1) = if refusedE (P k).1 (P k).2.1 l[k] = 0 then (doS (P k).1 l[k], doT lz (P k).1 (P k).2.1 l[k], (P k).2.2.1 ++ [doR (P k).1 (P k).2.1 l[k]], (P k).2.2.2 ++ [0]) else ((P k).1, (P k).2.1, (P k).2.2.1 ++ [(0, 0)], (P k).2.2.2 ++ [refusedE (P k).1 (P k).2.1 l[k]]) := fun k hkl => by
        rw [hP]
        dsimp only
        rw [take_succ hkl, playV_snoc]
      rw [hPl]
      clear hP hPl
      repeat' (with_reducible first | refine OL.st ?_ | refine OL.box ?_ | refine OL.alloc ?_ | refine TC.region ?_ | refine TC.seq ?_ | refine OL.nil ?_ | refine TX.thenN ?_ | fail)
      refine OL.c hfo Fn.ref17_Formed ?_
      repeat' (with_reducible first | refine OL.st ?_ | refine TC.region ?_ | refine TC.seq ?_ | refine OL.nil ?_ | refine TX.thenN ?_ | refine TC.skip ?_ | refine OL.gOn ?_ | refine TC.ifD ?_ ?_ <;> (intro hc; try (exfalso; omega)) | fail)
      refine OL.c hcp Fn.ref17_Copy ?_
      repeat' (with_reducible first | refine OL.st ?_ | refine OL.alloc ?_ | refine OL.storeAgg ?_ | refine TC.region ?_ | refine TC.seq ?_ | refine OL.nil ?_ | refine TX.thenN ?_ | refine TC.block ?_ | fail)
      refine TC.vwC 4 1 ?_
      refine TC.vwC 4 2 ?_
      refine TC.adp 9 Tc.api_MeanVal 2 ?_
      refine TC.adp 10 Tc.api_Errno 1 ?_
      refine TC.lp (fun k : Nat => [(4, .bp 0 0), (8, .bp 1 0), (9, .hs 2), (10, .hs 3), (26, stepsA l), (27, V.int l.length), (28, V.int k)]) (fun k => [.cb Tc.api_TurnWorld [.raw (.bool false), .raw (.slice none 0 0), .raw (.slice none 0 0)], .cb Tc.api_TurnWorld [V.bool lz, schsA (P k).1, thingsA (P k).2.1], .gs false Tc.api_MeanVal 2 none ((P k).2.2.1.map valA), .gs false Tc.api_Errno 1 none ((P k).2.2.2.map V.int)]) (fun k => k ≤ l.length) (fun k => l.length - k) 0 [1, 4, 5, 6] (Nat.zero_le _) ?_ (ho := by rw [hP0]; exact ⟨⟨_, rfl, OE.ren rfl⟩, ⟨_, rfl, OE.ren rfl⟩, ⟨_, rfl, OE.gs⟩, ⟨_, rfl, OE.gs⟩, trivial⟩)
      rintro k hkk
      have hw := hPw k
      obtain ⟨q1, q2⟩ := hPn k
      by_cases hkl : k < l.length
      · have hre := s_ref17_Refused lz hw l[k] (hk _ (List.getElem_mem _))
        have hps := hPs k hkl
        by_cases e0 : refusedE (P k).1 (P k).2.1 l[k] = 0
        · have hdo := s_ref17_DoOf lz hw l[k] (hk _ (List.getElem_mem _)) (refused_ok e0)
          rw [if_pos e0] at hps
          rw [e0] at hre
          have e1 : (P (k + 1)).1 = doS (P k).1 l[k] := by rw [hps]
          have e2 : (P (k + 1)).2.1 = doT lz (P k).1 (P k).2.1 l[k] := by rw [hps]
          have e3 : (P k).2.2.1.map valA ++ [valA (doR (P k).1 (P k).2.1 l[k])] = (P (k + 1)).2.2.1.map valA := by rw [hps]; exact map_snoc _ _ _
          have e4 : (P k).2.2.2.map V.int ++ [V.int 0] = (P (k + 1)).2.2.2.map V.int := by rw [hps]; exact map_snoc _ _ _
          rw [← e1, ← e2] at hdo
          generalize (P k).2.2.1 = vl at *
          generalize (P k).2.2.2 = el at *
          generalize doR (P k).1 (P k).2.1 l[k] = rv at *
          repeat' (with_reducible first | refine OL.st ?_ | refine OL.alloc ?_ | refine OL.storeAgg ?_ | refine TC.region ?_ | refine TC.seq ?_ | refine OL.nil ?_ | refine TX.thenN ?_ | refine TC.block ?_ | refine TC.skip ?_ | refine TC.ifD ?_ ?_ <;> (intro hc; try (exfalso; omega)) | fail)
          refine OL.c hre Fn.ref17_Refused ?_
          repeat' (with_reducible first | refine OL.st ?_ | refine TC.region ?_ | refine TC.seq ?_ | refine OL.nil ?_ | refine TX.thenN ?_ | refine TC.ifT ?_ | fail)
          refine OL.c hdo Fn.ref17_DoOf ?_
          repeat' (with_reducible first | refine OL.st ?_ | refine OL.storeAgg ?_ | refine OL.lit ?_ | refine OL.appO ?_ | refine TC.region ?_ | refine TC.seq ?_ | refine OL.nil ?_ | refine TX.thenN ?_ | refine TX.blkN ?_ | fail)
          exact TX.rd (k + 1) [0, 1, 7, 9] (by omega) (by omega)
        · rw [if_neg e0] at hps
          have e1 : (P (k + 1)).1 = (P k).1 := by rw [hps]
          have e2 : (P (k + 1)).2.1 = (P k).2.1 := by rw [hps]
          have e3 : (P k).2.2.1.map valA ++ [valA (0, 0)] = (P (k + 1)).2.2.1.map valA := by rw [hps]; exact map_snoc _ _ _
          have e4 : (P k).2.2.2.map V.int ++ [V.int (refusedE (P k).1 (P k).2.1 l[k])] = (P (k + 1)).2.2.2.map V.int := by rw [hps]; exact map_snoc _ _ _
          rw [← e1, ← e2] at hre
          rw [← e1, ← e2] at e0 e4
          rw [← e1, ← e2]
          generalize refusedE (P (k + 1)).1 (P (k + 1)).2.1 l[k] = er at *
          generalize (P k).2.2.1 = vl at *
          generalize (P k).2.2.2 = el at *
          repeat' (with_reducible first | refine OL.st ?_ | refine OL.alloc ?_ | refine OL.storeAgg ?_ | refine TC.region ?_ | refine TC.seq ?_ | refine OL.nil ?_ | refine TX.thenN ?_ | refine TC.block ?_ | refine TC.skip ?_ | refine TC.ifD ?_ ?_ <;> (intro hc; try (exfalso; omega)) | fail)
          refine OL.c hre Fn.ref17_Refused ?_
          repeat' (with_reducible first | refine OL.st ?_ | refine OL.lit ?_ | refine OL.appO ?_ | refine TC.region ?_ | refine TC.seq ?_ | refine OL.nil ?_ | refine TX.thenN ?_ | refine TC.skip ?_ | refine TX.blkN ?_ | refine TC.ifD ?_ ?_ <;> (intro hc; try (exfalso; omega)) | fail)
          exact TX.rd (k + 1) [0, 1, 7, 9] (by omega) (by omega)
      · obtain rfl : k = l.length := by omega
        repeat' (with_reducible first | refine OL.st ?_ | refine OL.storeAgg ?_ | refine TC.region ?_ | refine TC.seq ?_ | refine OL.nil ?_ | refine TX.thenN ?_ | refine TC.exit ?_ | refine TX.hit ?_ | refine TX.thenX ?_ | refine TC.ifD ?_ ?_ <;> (intro hc; try (exfalso; omega)) | refine TC.ret ?_ | fail)
        refine TX.vw 5 ?_
        refine TX.vw 6 ?_
        exact TX.rs4 [] (.ren rfl) (.ren rfl) (.ren rfl) (.ren rfl)
    · rw [if_neg (fun h => h60 h.2)]
      repeat' (with_reducible first | refine OL.st ?_ | refine OL.box ?_ | refine OL.alloc ?_ | refine TC.region ?_ | refine TC.seq ?_ | refine OL.nil ?_ | refine TX.thenN ?_ | fail)
      refine OL.c hfo Fn.ref17_Formed ?_
      repeat' (with_reducible first | refine OL.st ?_ | refine OL.storeAgg ?_ | refine OL.build ?_ | refine TC.region ?_ | refine TC.seq ?_ | refine OL.nil ?_ | refine TX.thenN ?_ | refine OL.gOn ?_ | refine TC.ifD ?_ ?_ <;> (intro hc; try (exfalso; omega)) | refine TC.ret ?_ | refine TX.thenR ?_ | fail)
      exact TX.rs4 [] LE.wl0 (.nil (by decide)) (.nil (by decide)) (.ren rfl)
end Go.Proofs
