/- Part 1 of what the claim is proved by: lemmas on the model and walks through functions of the program; no conditions. -/
import Derived.Test.YtmdpbfghjdljiaaGreatV29
import Derived.Test.YtmdpbfghjdljiaaGreatV40
import Derived.Test.YtmdpbfghjdljiaaGreatV41
namespace Go.Proofs
open Go Go.W Go.V
theorem playV_app (lz : Bool) (m : List Step) : ∀ (l : List Step) (ss : List (List Cls)) (ts : List Thing), playV lz ss ts (l ++ m) =
    ((playV lz (playV lz ss ts l).1 (playV lz ss ts l).2.1 m).1, (playV lz (playV lz ss ts l).1 (playV lz ss ts l).2.1 m).2.1, (playV lz ss ts l).2.2.1 ++ (playV lz (playV lz ss ts l).1 (playV lz ss ts l).2.1 m).2.2.1, (playV lz ss ts l).2.2.2 ++ (playV lz (playV lz ss ts l).1 (playV lz ss ts l).2.1 m).2.2.2)
  | [], ss, ts => rfl
  | x :: l, ss, ts => by
    rw [List.cons_append]
    by_cases h : refusedE ss ts x = 0
    · have e : ∀ r, playV lz ss ts (x :: r) = ((playV lz (doS ss x) (doT lz ss ts x) r).1, (playV lz (doS ss x) (doT lz ss ts x) r).2.1, doR ss ts x :: (playV lz (doS ss x) (doT lz ss ts x) r).2.2.1, 0 :: (playV lz (doS ss x) (doT lz ss ts x) r).2.2.2) := fun r => by rw [playV, if_pos h]
      rw [e, e, playV_app lz m l]; rfl
    · have e : ∀ r, playV lz ss ts (x :: r) = ((playV lz ss ts r).1, (playV lz ss ts r).2.1, (0, 0) :: (playV lz ss ts r).2.2.1, refusedE ss ts x :: (playV lz ss ts r).2.2.2) := fun r => by rw [playV, if_neg h]
      rw [e, e, playV_app lz m l]; rfl
def stV (ss : List (List Cls)) (ts : List Thing) (s : Step) : Int × Int := if refusedE ss ts s = 0 then doR ss ts s else (0, 0)
theorem playV_at (lz : Bool) (l : List Step) (ss : List (List Cls)) (ts : List Thing) {k : Nat} (hk : k < l.length) :
    (playV lz ss ts l).2.2.1[k]? = some (stV (playV lz ss ts (l.take k)).1 (playV lz ss ts (l.take k)).2.1 l[k]) ∧ (playV lz ss ts l).2.2.2[k]? = some (refusedE (playV lz ss ts (l.take k)).1 (playV lz ss ts (l.take k)).2.1 l[k]) := by
  have e : playV lz ss ts l = playV lz ss ts (l.take k ++ l[k] :: l.drop (k + 1)) := by rw [← drop_cons hk, List.take_append_drop]
  have hlen : (l.take k).length = k := by simp; omega
  have hl := play_lens lz (l.take k) ss ts
  rw [hlen] at hl
  rw [e, playV_app]
  dsimp only
  generalize playV lz ss ts (l.take k) = r at *
  obtain ⟨s2, t2, v, es⟩ := r
  dsimp only at hl ⊢
  rw [List.getElem?_append_right (by omega), List.getElem?_append_right (by omega), hl.1, hl.2, Nat.sub_self]
  by_cases h : refusedE s2 t2 l[k] = 0
  · rw [playV, if_pos h, stV, if_pos h]; exact ⟨rfl, congrArg some h.symm⟩
  · rw [playV, if_neg h, stV, if_neg h]; exact ⟨rfl, rfl⟩
theorem FOk.lazy {lz : Bool} {ss : List (List Cls)} {ts : List Thing} (h : FOk lz ss ts) : FOk true ss ts := ⟨h.sb, h.n40, h.tk, fun e => (by cases e), h.vl⟩
theorem FOk.settled {ss : List (List Cls)} {ts : List Thing} (h : FOk false ss ts) : ts.map (freshT ss) = ts := by
  have := schemasB_len h.sb
  conv => rhs; rw [← List.map_id ts]
  exact List.map_congr_left fun x hx => freshT_upd this.1 (h.lt rfl x hx)
theorem lazy_main {lz : Bool} {ss : List (List Cls)} {ts : List Thing} (h : FOk lz ss ts) (hsh : ∀ s ∈ ss, Short s) (l : List Step) (hl : ∀ s ∈ l, ShortC s.k) :
    formedB false ss (ts.map (freshT ss)) = true ∧ formedB true ss ts = true ∧ FOk true (playV true ss ts l).1 (playV true ss ts l).2.1 ∧ FOk false (playV true ss ts l).1 ((playV true ss ts l).2.1.map (freshT (playV true ss ts l).1)) ∧
      playV false ss (ts.map (freshT ss)) l = ((playV true ss ts l).1, (playV true ss ts l).2.1.map (freshT (playV true ss ts l).1), (playV true ss ts l).2.2.1, (playV true ss ts l).2.2.2) := by
  have h1 : FOk false ss (ts.map (freshT ss)) := settled_ok h false
  have h2 := play_formed true l ss ts h.lazy hsh hl
  exact ⟨formedB_iff.2 h1, formedB_iff.2 h.lazy, h2, settled_ok h2 false, play_lazy l ss ts (h.w hsh) hl⟩
end Go.Proofs
namespace Go.Proofs
open Go Go.W Go.V
theorem but_self (la lb : Bool) (ss : List (List Cls)) (ts : List Thing) : V.Spec Tryz.prog Fc.ref17_SameBut [wlA la ss ts, wlA lb ss ts] [] (V.bool true) [] := by
  have h := sameBut la lb ss ss ts ts
  rwa [beq_self_eq_true, beq_self_eq_true] at h
set_option maxHeartbeats 4000000 in
theorem s_law17_TurnLazy (lz : Bool) (ss : List (List Cls)) (ts : List Thing) (hsh : ∀ s ∈ ss, Short s) (l : List Step) (hk : ∀ s ∈ l, ShortC s.k) (c th fr to : Int) : V.Spec Tryz.prog Fc.law17_TurnLazy [givA lz ss ts l c th fr to] [] (V.bool true) [] := by
  have hch := s_turn_Check lz ss ts hsh
  have hkn := s_law17_known
  have hse := s_turn_Settle lz ss ts hsh
  rw [settleX] at hse
  cases hf : formedB lz ss ts
  · rw [hf, if_neg Bool.false_ne_true] at hch
    refine V.Spec.enter Tryz.tabOK Tryz.mixed Fn.law17_TurnLazy rfl rfl rfl fun B hB => ?_
    repeat' (with_reducible first | refine OL.st ?_ | refine OL.box ?_ | refine TC.region ?_ | refine TC.seq ?_ | refine OL.nil ?_ | refine TX.thenN ?_ | refine OL.ldM ?_ | fail)
    refine OL.c hch Fn.turn_Check ?_
    repeat' (with_reducible first | refine OL.st ?_ | refine TC.region ?_ | refine TC.seq ?_ | refine OL.nil ?_ | refine TX.thenN ?_ | refine TC.ifT ?_ | fail)
    refine OL.c hkn Fn.law17_known ?_
    repeat' (with_reducible first | refine OL.st ?_ | refine OL.nil ?_ | refine TX.thenN ?_ | refine TC.ret ?_ | refine TX.thenR ?_ | fail)
    exact TX.rt1 [] (.ren rfl)
  rw [hf, if_pos rfl] at hch hse
  have hF := formedB_iff.1 hf
  obtain ⟨f1, f2, f3, f4, hpl⟩ := lazy_main hF hsh l hk
  have hp1 := s_turn_Play false ss (ts.map (freshT ss)) hsh l hk
  have hp2 := s_turn_Play true ss ts hsh l hk
  rw [playX] at hp1 hp2
  by_cases h60 : l.length ≤ 60
  · have hok := play_ok true l ss ts (hF.w hsh) hk
    have hid := settled_idem hok
    rw [settledT, settledT] at hid
    rw [if_pos ⟨f1, h60⟩, hpl] at hp1
    rw [if_pos ⟨f2, h60⟩] at hp2
    have hs1 := s_turn_Settle false (playV true ss ts l).1 ((playV true ss ts l).2.1.map (freshT (playV true ss ts l).1)) hok.sh
    have hs2 := s_turn_Settle true (playV true ss ts l).1 (playV true ss ts l).2.1 hok.sh
    rw [settleX, formedB_iff.2 f4, if_pos rfl, hid] at hs1
    rw [settleX, formedB_iff.2 f3, if_pos rfl] at hs2
    clear hpl f1 f2 f3 f4 hok hid
    generalize (playV true ss ts l).2.1.map (freshT (playV true ss ts l).1) = T2 at *
    generalize (playV true ss ts l).2.1 = T at *
    generalize (playV true ss ts l).2.2.1 = v at *
    generalize (playV true ss ts l).2.2.2 = es at *
    generalize (playV true ss ts l).1 = S at *
    generalize ts.map (freshT ss) = t2 at *
    have hv := vals_eq v
    have he := errs_eq es
    have hb1 := but_self false true S T2
    have hb2 := but_self false false S T2
    refine V.Spec.enter Tryz.tabOK Tryz.mixed Fn.law17_TurnLazy rfl rfl rfl fun B hB => ?_
    repeat' (with_reducible first | refine OL.st ?_ | refine OL.box ?_ | refine TC.region ?_ | refine TC.seq ?_ | refine OL.nil ?_ | refine TX.thenN ?_ | refine OL.ldM ?_ | fail)
    refine OL.c hch Fn.turn_Check ?_
    repeat' (with_reducible first | refine OL.st ?_ | refine TC.region ?_ | refine TC.seq ?_ | refine OL.nil ?_ | refine TX.thenN ?_ | refine TC.skip ?_ | refine TC.ifF ?_ | refine OL.ldM ?_ | fail)
    refine OL.c hse Fn.turn_Settle ?_
    repeat' (with_reducible first | refine OL.st ?_ | refine OL.alloc ?_ | refine OL.store ?_ | refine OL.storeAgg ?_ | refine TC.region ?_ | refine TC.seq ?_ | refine OL.nil ?_ | refine TX.thenN ?_ | refine TC.skip ?_ | refine TC.ifF ?_ | refine OL.ldM ?_ | fail)
    refine OL.c hp1 Fn.turn_Play ?_
    repeat' (with_reducible first | refine OL.st ?_ | refine OL.alloc ?_ | refine OL.storeAgg ?_ | refine TC.region ?_ | refine TC.seq ?_ | refine OL.nil ?_ | refine TX.thenN ?_ | fail)
    refine OL.c hp2 Fn.turn_Play ?_
    repeat' (with_reducible first | refine OL.st ?_ | refine OL.alloc ?_ | refine OL.storeAgg ?_ | refine TC.region ?_ | refine TC.seq ?_ | refine OL.nil ?_ | refine TX.thenN ?_ | refine OL.gOn ?_ | fail)
    refine OL.c hv Fn.slices_Equal_Lapi_MeanVal_api_MeanVal ?_
    repeat' (first | (with_reducible refine OL.st ?_) | (with_reducible refine OL.gOn ?_) | fail)
    refine OL.c he Fn.slices_Equal_Lapi_Errno_api_Errno ?_
    repeat' (with_reducible first | refine OL.st ?_ | refine TC.region ?_ | refine TC.seq ?_ | refine OL.nil ?_ | refine TX.thenN ?_ | refine TC.skip ?_ | refine TC.ifF ?_ | refine OL.gOn ?_ | fail)
    refine OL.c hs1 Fn.turn_Settle ?_
    repeat' (with_reducible first | refine OL.st ?_ | refine OL.alloc ?_ | refine OL.storeAgg ?_ | refine TC.region ?_ | refine TC.seq ?_ | refine OL.nil ?_ | refine TX.thenN ?_ | fail)
    refine OL.c hs2 Fn.turn_Settle ?_
    repeat' (with_reducible first | refine OL.st ?_ | refine OL.alloc ?_ | refine OL.storeAgg ?_ | refine TC.region ?_ | refine TC.seq ?_ | refine OL.nil ?_ | refine TX.thenN ?_ | refine OL.gOn ?_ | fail)
    refine OL.c hb1 Fn.ref17_SameBut ?_
    repeat' (first | (with_reducible refine OL.st ?_) | (with_reducible refine OL.gOn ?_) | fail)
    refine OL.c hb2 Fn.ref17_SameBut ?_
    repeat' (first | (with_reducible refine OL.st ?_) | (with_reducible refine OL.gOn ?_) | fail)
    refine OL.c hkn Fn.law17_known ?_
    repeat' (with_reducible first | refine OL.st ?_ | refine OL.nil ?_ | refine TX.thenN ?_ | refine TC.ret ?_ | fail)
    exact TX.rt1 [] (.ren rfl)
  · rw [if_neg (fun h => h60 h.2)] at hp1 hp2
    have hv := vals_eq []
    have he := errs_eq []
    generalize ts.map (freshT ss) = t2 at *
    refine V.Spec.enter Tryz.tabOK Tryz.mixed Fn.law17_TurnLazy rfl rfl rfl fun B hB => ?_
    repeat' (with_reducible first | refine OL.st ?_ | refine OL.box ?_ | refine TC.region ?_ | refine TC.seq ?_ | refine OL.nil ?_ | refine TX.thenN ?_ | refine OL.ldM ?_ | fail)
    refine OL.c hch Fn.turn_Check ?_
    repeat' (with_reducible first | refine OL.st ?_ | refine TC.region ?_ | refine TC.seq ?_ | refine OL.nil ?_ | refine TX.thenN ?_ | refine TC.skip ?_ | refine TC.ifF ?_ | refine OL.ldM ?_ | fail)
    refine OL.c hse Fn.turn_Settle ?_
    repeat' (with_reducible first | refine OL.st ?_ | refine OL.alloc ?_ | refine OL.store ?_ | refine OL.storeAgg ?_ | refine TC.region ?_ | refine TC.seq ?_ | refine OL.nil ?_ | refine TX.thenN ?_ | refine TC.skip ?_ | refine TC.ifF ?_ | refine OL.ldM ?_ | fail)
    refine OL.c hp1 Fn.turn_Play ?_
    repeat' (with_reducible first | refine OL.st ?_ | refine OL.alloc ?_ | refine OL.storeAgg ?_ | refine TC.region ?_ | refine TC.seq ?_ | refine OL.nil ?_ | refine TX.thenN ?_ | fail)
    refine OL.c hp2 Fn.turn_Play ?_
    repeat' (with_reducible first | refine OL.st ?_ | refine OL.alloc ?_ | refine OL.storeAgg ?_ | refine TC.region ?_ | refine TC.seq ?_ | refine OL.nil ?_ | refine TX.thenN ?_ | refine OL.gOn ?_ | fail)
    refine OL.c hv Fn.slices_Equal_Lapi_MeanVal_api_MeanVal ?_
    repeat' (first | (with_reducible refine OL.st ?_) | (with_reducible refine OL.gOn ?_) | fail)
    refine OL.c he Fn.slices_Equal_Lapi_Errno_api_Errno ?_
    repeat' (with_reducible first | refine OL.st ?_ | refine TC.region ?_ | refine TC.seq ?_ | refine OL.nil ?_ | refine TX.thenN ?_ | refine TC.skip ?_ | refine TC.ifT ?_ | refine TC.ifF ?_ | refine OL.gOn ?_ | refine OL.gD ?_ ?_ <;> (intro hc; try (exfalso; omega)) | fail)
    refine OL.c hkn Fn.law17_known ?_
    repeat' (with_reducible first | refine OL.st ?_ | refine OL.nil ?_ | refine TX.thenN ?_ | refine TC.ret ?_ | refine TX.thenR ?_ | fail)
    exact TX.rt1 [] (.ren rfl)
end Go.Proofs
