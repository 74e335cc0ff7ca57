/- Part 1 of what the claim is proved by: lemmas on the model and walks through functions of the program; no conditions. -/
import Derived.Test.YtmdpbfghjdljiaaGreatV29
import Derived.Test.YtmdpbfghjdljiaaGreatV40
namespace Go.Proofs
open Go Go.W Go.V
theorem playV_app (lz : Bool) (m : List Step) : ∀ (l : List Step) (ss : List (List Cls)) (ts : List Thing), playV lz ss ts (l ++ m) =
    ((playV lz (playV lz ss ts l).1 (playV lz ss ts l).2.1 m).1, (playV lz (playV lz ss ts l).1 (playV lz ss ts l).2.1 m).2.1, (playV lz ss ts l).2.2.1 ++ (playV lz (playV lz ss ts l).1 (playV lz ss ts l).2.1 m).2.2.1, (playV lz ss ts l).2.2.2 ++ (playV lz (playV lz ss ts l).1 (playV lz ss ts l).2.1 m).2.2.2)
  | [], ss, ts => rfl
  | x :: l, ss, ts => by
    rw [List.cons_append]
    by_cases h : refusedE ss ts x = 0
    · have e : ∀ r, playV lz ss ts (x :: r) = ((playV lz (doS ss x) (doT lz ss ts x) r).1, (playV lz (doS ss x) (doT lz ss ts x) r).2.1, doR ss ts x :: (playV lz (doS ss x) (doT lz ss ts x) r).2.2.1, 0 :: (playV lz (doS ss x) (doT lz ss ts x) r).2.2.2) := fun r => by rw [playV, if_pos h]
      rw [e, e, playV_app lz m l]; rfl
    · have e : ∀ r, playV lz ss ts (x :: r) = ((playV lz ss ts r).1, (playV lz ss ts r).2.1, (0, 0) :: (playV lz ss ts r).2.2.1, refusedE ss ts x :: (playV lz ss ts r).2.2.2) := fun r => by rw [playV, if_neg h]
      rw [e, e, playV_app lz m l]; rfl
def stV (ss : List (List Cls)) (ts : List Thing) (s : Step) : Int × Int := if refusedE ss ts s = 0 then doR ss ts s else (0, 0)
theorem playV_at (lz : Bool) (l : List Step) (ss : List (List Cls)) (ts : List Thing) {k : Nat} (hk : k < l.length) :
    (playV lz ss ts l).2.2.1[k]? = some (stV (playV lz ss ts (l.take k)).1 (playV lz ss ts (l.take k)).2.1 l[k]) ∧ (playV lz ss ts l).2.2.2[k]? = some (refusedE (playV lz ss ts (l.take k)).1 (playV lz ss ts (l.take k)).2.1 l[k]) := by
  have e : playV lz ss ts l = playV lz ss ts (l.take k ++ l[k] :: l.drop (k + 1)) := by rw [← drop_cons hk, List.take_append_drop]
  have hlen : (l.take k).length = k := by simp; omega
  have hl := play_lens lz (l.take k) ss ts
  rw [hlen] at hl
  rw [e, playV_app]
  dsimp only
  generalize playV lz ss ts (l.take k) = r at *
  obtain ⟨s2, t2, v, es⟩ := r
  dsimp only at hl ⊢
  rw [List.getElem?_append_right (by omega), List.getElem?_append_right (by omega), hl.1, hl.2, Nat.sub_self]
  by_cases h : refusedE s2 t2 l[k] = 0
  · rw [playV, if_pos h, stV, if_pos h]; exact ⟨rfl, congrArg some h.symm⟩
  · rw [playV, if_neg h, stV, if_neg h]; exact ⟨rfl, rfl⟩
theorem FOk.lazy {lz : Bool} {ss : List (List Cls)} {ts : List Thing} (h : FOk lz ss ts) : FOk true ss ts := ⟨h.sb, h.n40, h.tk, fun e => (by cases e), h.vl⟩
theorem FOk.settled {ss : List (List Cls)} {ts : List Thing} (h : FOk false ss ts) : ts.map (freshT ss) = ts := by
  have := schemasB_len h.sb
  conv => rhs; rw [← List.map_id ts]
  exact List.map_congr_left fun x hx => freshT_upd this.1 (h.lt rfl x hx)
theorem lazy_main {lz : Bool} {ss : List (List Cls)} {ts : List Thing} (h : FOk lz ss ts) (hsh : ∀ s ∈ ss, Short s) (l : List Step) (hl : ∀ s ∈ l, ShortC s.k) :
    formedB false ss (ts.map (freshT ss)) = true ∧ formedB true ss ts = true ∧ FOk true (playV true ss ts l).1 (playV true ss ts l).2.1 ∧ FOk false (playV true ss ts l).1 ((playV true ss ts l).2.1.map (freshT (playV true ss ts l).1)) ∧
      playV false ss (ts.map (freshT ss)) l = ((playV true ss ts l).1, (playV true ss ts l).2.1.map (freshT (playV true ss ts l).1), (playV true ss ts l).2.2.1, (playV true ss ts l).2.2.2) := by
  have h1 : FOk false ss (ts.map (freshT ss)) := settled_ok h false
  have h2 := play_formed true l ss ts h.lazy hsh hl
  exact ⟨formedB_iff.2 h1, formedB_iff.2 h.lazy, h2, settled_ok h2 false, play_lazy l ss ts (h.w hsh) hl⟩
end Go.Proofs
namespace Go.Proofs
open Go Go.W Go.V
set_option maxHeartbeats 4000000 in
theorem s_law17_TurnFormed (lz : Bool) (ss : List (List Cls)) (ts : List Thing) (hsh : ∀ s ∈ ss, Short s) (l : List Step) (hk : ∀ s ∈ l, ShortC s.k) (c th fr to : Int) : V.Spec Tryz.prog Fc.law17_TurnFormed [givA lz ss ts l c th fr to] [] (V.bool true) [] := by
  have hch := s_turn_Check lz ss ts hsh
  have hkn := s_law17_known
  cases hf : formedB lz ss ts
  · rw [hf, if_neg Bool.false_ne_true] at hch
    refine V.Spec.enter Tryz.tabOK Tryz.mixed Fn.law17_TurnFormed rfl rfl rfl fun B hB => ?_
    repeat' (with_reducible first | refine OL.st ?_ | refine OL.box ?_ | refine OL.alloc ?_ | refine OL.storeAgg ?_ | refine TC.region ?_ | refine TC.seq ?_ | refine OL.nil ?_ | refine TX.thenN ?_ | refine OL.ldM ?_ | fail)
    refine OL.c hch Fn.turn_Check ?_
    repeat' (with_reducible first | refine OL.st ?_ | refine TC.region ?_ | refine TC.seq ?_ | refine OL.nil ?_ | refine TX.thenN ?_ | refine TC.ifT ?_ | refine OL.gOff ?_ | fail)
    refine OL.c hkn Fn.law17_known ?_
    repeat' (with_reducible first | refine OL.st ?_ | refine OL.nil ?_ | refine TX.thenN ?_ | refine TC.ret ?_ | refine TX.thenR ?_ | fail)
    exact TX.rt1 [] (.ren rfl)
  rw [hf, if_pos rfl] at hch
  have hF := formedB_iff.1 hf
  have hp := s_turn_Play lz ss ts hsh l hk
  rw [playX] at hp
  by_cases h60 : l.length ≤ 60
  · rw [if_pos ⟨hf, h60⟩] at hp
    obtain ⟨lv, le⟩ := play_lens lz l ss ts
    obtain ⟨P, hP⟩ : ∃ P, P = fun k => playV lz ss ts (l.take k) := ⟨_, rfl⟩
    have hP0 : P 0 = (ss, ts, [], []) := by rw [hP]; rfl
    have hPl : playV lz ss ts l = P l.length := by rw [hP]; simp
    have hPf : ∀ k, FOk lz (P k).1 (P k).2.1 := fun k => by rw [hP]; exact play_formed lz _ ss ts hF hsh (fun s hs => hk s (List.mem_of_mem_take hs))
    have hPh : ∀ k, ∀ s ∈ (P k).1, Short s := fun k => by rw [hP]; exact (play_ok lz _ ss ts (hF.w hsh) (fun s hs => hk s (List.mem_of_mem_take hs))).sh
    have hPs : ∀ k (hkl : k < l.length), refusedE (P k).1 (P k).2.1 l[k] = 0 → (P (k + 1)).1 = doS (P k).1 l[k] ∧ (P (k + 1)).2.1 = doT lz (P k).1 (P k).2.1 l[k] := fun k hkl e0 => by
      rw [hP] at e0 ⊢
      dsimp only at e0 ⊢
      rw [take_succ hkl, playV_snoc, if_pos e0]; exact ⟨rfl, rfl⟩
    have hPn : ∀ k (hkl : k < l.length), refusedE (P k).1 (P k).2.1 l[k] ≠ 0 → (P (k + 1)).1 = (P k).1 ∧ (P (k + 1)).2.1 = (P k).2.1 := fun k hkl e0 => by
      rw [hP] at e0 ⊢
      dsimp only at e0 ⊢
      rw [take_succ hkl, playV_snoc, if_neg e0]; exact ⟨rfl, rfl⟩
    have hPa : ∀ k (hkl : k < l.length), (playV lz ss ts l).2.2.1[k]? = some (stV (P k).1 (P k).2.1 l[k]) ∧ (playV lz ss ts l).2.2.2[k]? = some (refusedE (P k).1 (P k).2.1 l[k]) := fun k hkl => by rw [hP]; exact playV_at lz l ss ts hkl
    have hch2 := s_turn_Check lz (P l.length).1 (P l.length).2.1 (hPh _)
    rw [formedB_iff.2 (hPf _), if_pos rfl] at hch2
    rw [hPl] at hp hPa lv le
    clear hP hPl
    generalize (P l.length).2.2.1 = vals at *
    generalize (P l.length).2.2.2 = errs at *
    have hsm := same_self lz (P l.length).1 (P l.length).2.1
    refine V.Spec.enter Tryz.tabOK Tryz.mixed Fn.law17_TurnFormed rfl rfl rfl fun B hB => ?_
    repeat' (with_reducible first | refine OL.st ?_ | refine OL.box ?_ | refine OL.alloc ?_ | refine OL.storeAgg ?_ | refine TC.region ?_ | refine TC.seq ?_ | refine OL.nil ?_ | refine TX.thenN ?_ | refine OL.ldM ?_ | fail)
    refine OL.c hch Fn.turn_Check ?_
    repeat' (with_reducible first | refine OL.st ?_ | refine TC.region ?_ | refine TC.seq ?_ | refine OL.nil ?_ | refine TX.thenN ?_ | refine TC.skip ?_ | refine OL.gOn ?_ | refine TC.ifD ?_ ?_ <;> (intro hc; try (exfalso; omega)) | fail)
    refine OL.c hp Fn.turn_Play ?_
    repeat' (with_reducible first | refine OL.st ?_ | refine OL.alloc ?_ | refine OL.storeAgg ?_ | refine TC.region ?_ | refine TC.seq ?_ | refine OL.nil ?_ | refine TX.thenN ?_ | refine OL.gOn ?_ | refine OL.gD ?_ ?_ <;> (intro hc; try (exfalso; omega)) | fail)
    refine OL.c hch2 Fn.turn_Check ?_
    repeat' (with_reducible first | refine OL.st ?_ | refine TC.region ?_ | refine TC.seq ?_ | refine OL.nil ?_ | refine TX.thenN ?_ | refine TC.block ?_ | refine TC.skip ?_ | refine TC.ifF ?_ | refine OL.gOn ?_ | fail)
    refine TC.lp (fun k : Nat => [(1, .bp 0 0), (3, .bp 1 0), (4, .bp 2 0), (5, valsA vals), (6, ints errs), (58, stepsA l), (59, V.int l.length), (60, V.int k)]) (fun k => [.cb 28 [V.bool lz, schsA ss, thingsA ts, stepsA l, V.int c, V.int th, V.int fr, V.int to], .cb Tc.api_TurnWorld [V.bool lz, schsA (P k).1, thingsA (P k).2.1], .cb Tc.api_TurnWorld [V.bool lz, schsA (P l.length).1, thingsA (P l.length).2.1]]) (fun k => k ≤ l.length) (fun k => l.length - k) 0 [0, 1, 2] (Nat.zero_le _) ?_ (ho := by rw [hP0]; exact ⟨⟨_, rfl, OE.ren rfl⟩, ⟨_, rfl, OE.ren rfl⟩, ⟨_, rfl, OE.ren rfl⟩, trivial⟩)
    rintro k hkk
    by_cases hkl : k < l.length
    · obtain ⟨ev, ee⟩ := hPa k hkl
      have hvk : k < vals.length := by omega
      have hek : k < errs.length := by omega
      rw [List.getElem?_eq_getElem hvk, Option.some.injEq] at ev
      rw [List.getElem?_eq_getElem hek, Option.some.injEq] at ee
      have hd0 := s_turn_Do lz (P k).1 (P k).2.1 (hPh k) l[k] (hk _ (List.getElem_mem _))
      rw [doX, formedB_iff.2 (hPf k), if_pos rfl] at hd0
      by_cases e0 : refusedE (P k).1 (P k).2.1 l[k] = 0
      · obtain ⟨p1, p2⟩ := hPs k hkl e0
        rw [stV, if_pos e0] at ev
        rw [e0] at ee
        rw [if_pos e0, ← p1, ← p2, ← ev] at hd0
        have hd : V.Spec Tryz.prog Fc.turn_Do [wlA lz (P k).1 (P k).2.1, stepA l[k]] [] (doA ((lz, (P (k + 1)).1, (P (k + 1)).2.1), vals[k], errs[k])) [] := by rw [ee]; exact hd0
        clear hd0 hPa hPs hPn hPf hPh
        repeat' (with_reducible first | refine OL.st ?_ | refine OL.alloc ?_ | refine OL.storeAgg ?_ | refine TC.region ?_ | refine TC.seq ?_ | refine OL.nil ?_ | refine TX.thenN ?_ | refine TC.block ?_ | refine TC.skip ?_ | refine TC.ifD ?_ ?_ <;> (intro hc; try (exfalso; omega)) | fail)
        refine OL.c hd Fn.turn_Do ?_
        repeat' (with_reducible first | refine OL.st ?_ | refine OL.alloc ?_ | refine OL.storeAgg ?_ | refine TC.seq ?_ | refine OL.nil ?_ | refine TX.thenN ?_ | fail)
        (with_reducible refine TC.draw (id := 11) true 14 14 ?_ <;> refine OD.st 0 ?_ <;> refine OD.st 1 ?_ <;> refine OD.st 2 ?_ <;> refine OD.st 3 ?_ <;> refine OD.st 4 ?_ <;> refine OD.st 5 ?_ <;> refine OD.st 6 ?_ <;> refine OD.sD 78 ?_ ?_ <;> (intro hc; try (exfalso; omega)) <;> (first | (with_reducible refine OD.st 7 ?_) | (with_reducible refine OD.of 7 ?_)) <;> refine OD.st 8 ?_ <;> refine OD.st 9 ?_ <;> refine OD.st 10 ?_ <;> refine OD.st 11 ?_ <;> refine OD.s1 12 ?_ (h := gvNeD2 eqMV) <;> refine OD.st 13 ?_ <;> refine OD.dn ?_)
        all_goals repeat' (first | (with_reducible refine TX.thenN ?_) | fail)
        all_goals refine TC.ifB (fun h => ?_) (fun h => ?_)
        all_goals try (exfalso; simp at h; done)
        all_goals repeat' (with_reducible first | refine OL.st ?_ | refine OL.storeAgg ?_ | refine TC.region ?_ | refine TC.seq ?_ | refine OL.nil ?_ | refine TX.thenN ?_ | refine TC.skip ?_ | refine TX.blkN ?_ | refine TC.ifD ?_ ?_ <;> (intro hc; try (exfalso; omega)) | fail)
        all_goals exact TX.rd (k + 1) [0, 1, 2] (by omega) (by omega)
      · obtain ⟨p1, p2⟩ := hPn k hkl e0
        rw [stV, if_neg e0] at ev
        rw [if_neg e0, ← ee] at hd0
        have hd : V.Spec Tryz.prog Fc.turn_Do [wlA lz (P k).1 (P k).2.1, stepA l[k]] [] (doA ((false, [], []), vals[k], errs[k])) [] := by rw [ev]; exact hd0
        have hne : errs[k] ≠ 0 := by rw [ee]; exact e0
        clear hd0 hPa hPs hPn hPf hPh
        rw [← p1, ← p2] at hd
        rw [← p1, ← p2]
        repeat' (with_reducible first | refine OL.st ?_ | refine OL.alloc ?_ | refine OL.storeAgg ?_ | refine TC.region ?_ | refine TC.seq ?_ | refine OL.nil ?_ | refine TX.thenN ?_ | refine TC.block ?_ | refine TC.skip ?_ | refine TC.ifD ?_ ?_ <;> (intro hc; try (exfalso; omega)) | fail)
        refine OL.c hd Fn.turn_Do ?_
        repeat' (with_reducible first | refine OL.st ?_ | refine OL.alloc ?_ | refine OL.storeAgg ?_ | refine TC.seq ?_ | refine OL.nil ?_ | refine TX.thenN ?_ | fail)
        (with_reducible refine TC.draw (id := 11) true 14 14 ?_ <;> refine OD.st 0 ?_ <;> refine OD.st 1 ?_ <;> refine OD.st 2 ?_ <;> refine OD.st 3 ?_ <;> refine OD.st 4 ?_ <;> refine OD.st 5 ?_ <;> refine OD.st 6 ?_ <;> refine OD.sD 78 ?_ ?_ <;> (intro hc; try (exfalso; omega)) <;> (first | (with_reducible refine OD.st 7 ?_) | (with_reducible refine OD.of 7 ?_)) <;> refine OD.st 8 ?_ <;> refine OD.st 9 ?_ <;> refine OD.st 10 ?_ <;> refine OD.st 11 ?_ <;> refine OD.s1 12 ?_ (h := gvNeD2 eqMV) <;> refine OD.st 13 ?_ <;> refine OD.dn ?_)
        all_goals repeat' (first | (with_reducible refine TX.thenN ?_) | fail)
        all_goals refine TC.ifB (fun h => ?_) (fun h => ?_)
        all_goals try (exfalso; simp at h; done)
        all_goals repeat' (with_reducible first | refine OL.st ?_ | refine TC.region ?_ | refine TC.seq ?_ | refine OL.nil ?_ | refine TX.thenN ?_ | refine TC.skip ?_ | refine TX.blkN ?_ | refine TC.ifD ?_ ?_ <;> (intro hc; try (exfalso; omega)) | fail)
        all_goals exact TX.rd (k + 1) [0, 1, 2] (by omega) (by omega)
    · obtain rfl : k = l.length := by omega
      repeat' (with_reducible first | refine OL.st ?_ | refine TC.region ?_ | refine TC.seq ?_ | refine OL.nil ?_ | refine TX.thenN ?_ | refine TC.exit ?_ | refine TX.hit ?_ | refine TX.thenX ?_ | refine TC.ifD ?_ ?_ <;> (intro hc; try (exfalso; omega)) | fail)
      refine OL.c hsm Fn.ref17_Same ?_
      repeat' (first | (with_reducible refine OL.st ?_) | (with_reducible refine OL.gOn ?_) | fail)
      refine OL.c hkn Fn.law17_known ?_
      repeat' (with_reducible first | refine OL.st ?_ | refine OL.nil ?_ | refine TX.thenN ?_ | refine TC.ret ?_ | fail)
      exact TX.rt1 [] (.ren rfl)
  · refine V.Spec.enter Tryz.tabOK Tryz.mixed Fn.law17_TurnFormed rfl rfl rfl fun B hB => ?_
    repeat' (with_reducible first | refine OL.st ?_ | refine OL.box ?_ | refine OL.alloc ?_ | refine OL.storeAgg ?_ | refine TC.region ?_ | refine TC.seq ?_ | refine OL.nil ?_ | refine TX.thenN ?_ | refine OL.ldM ?_ | fail)
    refine OL.c hch Fn.turn_Check ?_
    repeat' (with_reducible first | refine OL.st ?_ | refine TC.region ?_ | refine TC.seq ?_ | refine OL.nil ?_ | refine TX.thenN ?_ | refine OL.gOn ?_ | refine TC.ifD ?_ ?_ <;> (intro hc; try (exfalso; omega)) | fail)
    refine OL.c hkn Fn.law17_known ?_
    repeat' (with_reducible first | refine OL.st ?_ | refine OL.nil ?_ | refine TX.thenN ?_ | refine TC.ret ?_ | refine TX.thenR ?_ | fail)
    exact TX.rt1 [] (.ren rfl)
end Go.Proofs
