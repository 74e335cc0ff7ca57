/- Part 29 of what the claim is proved by: lemmas on the model and walks through functions of the program; no conditions. -/
import Derived.Test.YtmdpbfghjdljiaaGreatV26
namespace Go.Proofs
open Go Go.W Go.V
theorem thAt_map {ss : List (List Cls)} {ts : List Thing} {i : Int} (h : i.toNat < ts.length) : thAt (ts.map (freshT ss)) i = freshT ss (thAt ts i) := by
  rw [thAt, thAt, getD_lt h, getD_lt (by simpa using h), List.getElem_map]
theorem thAt_map_fst (ss : List (List Cls)) (ts : List Thing) (i : Int) : (thAt (ts.map (freshT ss)) i).1 = (thAt ts i).1 := by
  by_cases h : i.toNat < ts.length
  · rw [thAt_map h]; rfl
  · rw [thAt, thAt, List.getD_eq_getElem?_getD, List.getD_eq_getElem?_getD, List.getElem?_eq_none (by simpa using h), List.getElem?_eq_none (by omega)]
theorem refusedE_map (ss : List (List Cls)) (ts : List Thing) (s : Step) : refusedE ss (ts.map (freshT ss)) s = refusedE ss ts s := by
  rw [refusedE, refusedE, List.length_map, thAt_map_fst]
theorem upT_map {ss : List (List Cls)} {ts : List Thing} {s : Step} (h : WOk ss ts) (ht : 0 ≤ s.th ∧ s.th < (ts.length : Int)) : upT ss (ts.map (freshT ss)) s = upT ss ts s := by
  rw [upT, upT, thAt_map (by omega), freshT_idem (h.tk _ (thAt_mem ht))]
theorem doR_map {ss : List (List Cls)} {ts : List Thing} {s : Step} (h : WOk ss ts) (hs : StOk ss ts s) : doR ss (ts.map (freshT ss)) s = doR ss ts s := by
  rw [doR, doR, List.length_map]
  by_cases h1 : s.d = 1
  · rw [if_pos h1, if_pos h1]
  rw [if_neg h1, if_neg h1]
  by_cases h2 : s.d = 2
  · rw [if_pos h2, if_pos h2]
  rw [if_neg h2, if_neg h2, slotAt, slotAt, upT_map h (hs.t (by have := hs.d; omega))]
theorem putT_snd (ss : List (List Cls)) (ts : List Thing) (s : Step) : (putT ss ts s).2.1 = (ss.length : Int) - 1 := by
  rw [putT]; split
  · rfl
  · split <;> rfl
theorem doT_map {ss : List (List Cls)} {ts : List Thing} {s : Step} (h : WOk ss ts) (hs : StOk ss ts s) : doT false ss (ts.map (freshT ss)) s = (doT true ss ts s).map (freshT (doS ss s)) := by
  obtain ⟨n1, _⟩ := schemasB_len h.sb
  rw [doT, doT]
  by_cases h1 : s.d = 1
  · rw [if_pos h1, if_pos h1, if_neg Bool.false_ne_true, if_pos rfl, List.map_map]
    refine List.map_congr_left fun x hx => ?_
    rw [doS, if_pos h1]
    exact freshT_trans (by simp) (fun i hi => schAt_snoc hi) (h.tk x hx)
  rw [if_neg h1, if_neg h1, doS, if_neg h1]
  by_cases h2 : s.d = 2
  · rw [if_pos h2, if_pos h2, List.map_append]
    congr 1
    show [newT ss s] = [freshT ss (newT ss s)]
    rw [freshT_upd n1 rfl]
  rw [if_neg h2, if_neg h2, List.map_set, freshT_upd n1 (putT_snd ss ts s), putT, putT, slotAt, slotAt, upT_map h (hs.t (by have := hs.d; omega))]
theorem play_lazy : ∀ (l : List Step) (ss : List (List Cls)) (ts : List Thing), WOk ss ts → (∀ s ∈ l, ShortC s.k) →
    playV false ss (ts.map (freshT ss)) l = ((playV true ss ts l).1, (playV true ss ts l).2.1.map (freshT (playV true ss ts l).1), (playV true ss ts l).2.2.1, (playV true ss ts l).2.2.2)
  | [], _, _, _, _ => rfl
  | s :: l, ss, ts, h, hl => by
    rw [playV, playV, refusedE_map]
    by_cases hr : refusedE ss ts s = 0
    · rw [if_pos hr, if_pos hr]
      have hs := refused_ok hr
      have ih := play_lazy l (doS ss s) (doT true ss ts s) (step_ok h (hl s (by simp)) hs) (fun x hx => hl x (by simp [hx]))
      dsimp only
      rw [doT_map h hs, doR_map h hs, ih]
    · rw [if_neg hr, if_neg hr]
      have ih := play_lazy l ss ts h (fun x hx => hl x (by simp [hx]))
      dsimp only
      rw [ih]
theorem doS_short {ss : List (List Cls)} {ts : List Thing} {s : Step} (h : WOk ss ts) (hk : ShortC s.k) : ∀ x ∈ doS ss s, Short x := by
  obtain ⟨n1, n12, lg, lsh, _⟩ := h.last
  rw [doS]
  split
  · intro x hx
    rw [List.mem_append, List.mem_singleton] at hx
    rcases hx with hx | rfl
    · exact h.sh x hx
    · exact madeV_short lsh (goodB_fine lg).1 hk
  · exact h.sh
theorem play_ok (lz : Bool) : ∀ (l : List Step) (ss : List (List Cls)) (ts : List Thing), WOk ss ts → (∀ s ∈ l, ShortC s.k) → WOk (playV lz ss ts l).1 (playV lz ss ts l).2.1
  | [], _, _, h, _ => h
  | s :: l, ss, ts, h, hl => by
    rw [playV]
    by_cases hr : refusedE ss ts s = 0
    · rw [if_pos hr]
      exact play_ok lz l _ _ (step_ok h (hl s (by simp)) (refused_ok hr)) (fun x hx => hl x (by simp [hx]))
    · rw [if_neg hr]
      exact play_ok lz l _ _ h (fun x hx => hl x (by simp [hx]))
theorem play_formed (lz : Bool) : ∀ (l : List Step) (ss : List (List Cls)) (ts : List Thing), FOk lz ss ts → (∀ s ∈ ss, Short s) → (∀ s ∈ l, ShortC s.k) → FOk lz (playV lz ss ts l).1 (playV lz ss ts l).2.1
  | [], _, _, h, _, _ => h
  | s :: l, ss, ts, h, hsh, hl => by
    rw [playV]
    by_cases hr : refusedE ss ts s = 0
    · rw [if_pos hr]
      exact play_formed lz l _ _ (h.step hsh (hl s (by simp)) (refused_ok hr)) (doS_short (h.w hsh) (hl s (by simp))) (fun x hx => hl x (by simp [hx]))
    · rw [if_neg hr]
      exact play_formed lz l _ _ h hsh (fun x hx => hl x (by simp [hx]))
theorem play_lens (lz : Bool) : ∀ (l : List Step) (ss : List (List Cls)) (ts : List Thing), (playV lz ss ts l).2.2.1.length = l.length ∧ (playV lz ss ts l).2.2.2.length = l.length
  | [], _, _ => ⟨rfl, rfl⟩
  | s :: l, ss, ts => by
    rw [playV]
    by_cases hr : refusedE ss ts s = 0
    · rw [if_pos hr]
      have := play_lens lz l (doS ss s) (doT lz ss ts s)
      exact ⟨by dsimp only; rw [List.length_cons, List.length_cons, this.1], by dsimp only; rw [List.length_cons, List.length_cons, this.2]⟩
    · rw [if_neg hr]
      have := play_lens lz l ss ts
      exact ⟨by dsimp only; rw [List.length_cons, List.length_cons, this.1], by dsimp only; rw [List.length_cons, List.length_cons, this.2]⟩
def settledT (ss : List (List Cls)) (ts : List Thing) : List Thing := ts.map (freshT ss)
theorem settled_idem {ss : List (List Cls)} {ts : List Thing} (h : WOk ss ts) : settledT ss (settledT ss ts) = settledT ss ts := by
  rw [settledT, settledT, List.map_map]
  exact List.map_congr_left fun x hx => freshT_idem (h.tk x hx)
theorem settled_ok {lz : Bool} {ss : List (List Cls)} {ts : List Thing} (h : FOk lz ss ts) (lz' : Bool) : FOk lz' ss (settledT ss ts) := by
  refine ⟨h.sb, by rw [settledT, List.length_map]; exact h.n40, fun x hx => ?_, fun _ x hx => ?_, fun x hx => ?_⟩
  all_goals obtain ⟨y, hy, rfl⟩ := List.mem_map.1 hx
  · exact (h.tk y hy).fresh h.sb
  · rfl
  · rw [settledT, List.length_map]; exact freshT_ok h.sb (h.tk y hy) (h.vl y hy)
end Go.Proofs
namespace Go.Proofs
open Go Go.W Go.V
def doX (lz : Bool) (ss : List (List Cls)) (ts : List Thing) (s : Step) : Wld × (Int × Int) × Int :=
  if formedB lz ss ts then (if refusedE ss ts s = 0 then ((lz, doS ss s, doT lz ss ts s), doR ss ts s, 0) else ((false, [], []), (0, 0), refusedE ss ts s)) else ((false, [], []), (0, 0), 2)
def playX (lz : Bool) (ss : List (List Cls)) (ts : List Thing) (l : List Step) : Wld × List (Int × Int) × List Int × Int :=
  if formedB lz ss ts = true ∧ l.length ≤ 60 then ((lz, (playV lz ss ts l).1, (playV lz ss ts l).2.1), (playV lz ss ts l).2.2.1, (playV lz ss ts l).2.2.2, 0) else ((false, [], []), [], [], 2)
def startX (l : List Cls) (lz : Bool) : Wld × Int := if goodB l then ((lz, [l], []), 0) else ((false, [], []), 2)
def lookX (lz : Bool) (ss : List (List Cls)) (ts : List Thing) (i : Int) : Thing × Int := if formedB lz ss ts = true ∧ inB ts.length i = true then (freshT ss (thAt ts i), 0) else ((0, 0, []), 2)
def settleX (lz : Bool) (ss : List (List Cls)) (ts : List Thing) : Wld × Int := if formedB lz ss ts then ((lz, ss, ts.map (freshT ss)), 0) else ((false, [], []), 2)
theorem playV_snoc (lz : Bool) (s : Step) : ∀ (l : List Step) (ss : List (List Cls)) (ts : List Thing), playV lz ss ts (l ++ [s]) =
    if refusedE (playV lz ss ts l).1 (playV lz ss ts l).2.1 s = 0 then
      (doS (playV lz ss ts l).1 s, doT lz (playV lz ss ts l).1 (playV lz ss ts l).2.1 s, (playV lz ss ts l).2.2.1 ++ [doR (playV lz ss ts l).1 (playV lz ss ts l).2.1 s], (playV lz ss ts l).2.2.2 ++ [0])
    else ((playV lz ss ts l).1, (playV lz ss ts l).2.1, (playV lz ss ts l).2.2.1 ++ [(0, 0)], (playV lz ss ts l).2.2.2 ++ [refusedE (playV lz ss ts l).1 (playV lz ss ts l).2.1 s])
  | [], ss, ts => by
    by_cases h : refusedE ss ts s = 0 <;> simp [playV, h]
  | x :: l, ss, ts => by
    rw [List.cons_append]
    by_cases h : refusedE ss ts x = 0
    · have e : ∀ r, playV lz ss ts (x :: r) = ((playV lz (doS ss x) (doT lz ss ts x) r).1, (playV lz (doS ss x) (doT lz ss ts x) r).2.1, doR ss ts x :: (playV lz (doS ss x) (doT lz ss ts x) r).2.2.1, 0 :: (playV lz (doS ss x) (doT lz ss ts x) r).2.2.2) := fun r => by rw [playV, if_pos h]
      rw [e, e, playV_snoc lz s l]
      by_cases h2 : refusedE (playV lz (doS ss x) (doT lz ss ts x) l).1 (playV lz (doS ss x) (doT lz ss ts x) l).2.1 s = 0
      · rw [if_pos h2]; dsimp only; rw [if_pos h2]; rfl
      · rw [if_neg h2]; dsimp only; rw [if_neg h2]; rfl
    · have e : ∀ r, playV lz ss ts (x :: r) = ((playV lz ss ts r).1, (playV lz ss ts r).2.1, (0, 0) :: (playV lz ss ts r).2.2.1, refusedE ss ts x :: (playV lz ss ts r).2.2.2) := fun r => by rw [playV, if_neg h]
      rw [e, e, playV_snoc lz s l]
      by_cases h2 : refusedE (playV lz ss ts l).1 (playV lz ss ts l).2.1 s = 0
      · rw [if_pos h2]; dsimp only; rw [if_pos h2]; rfl
      · rw [if_neg h2]; dsimp only; rw [if_neg h2]; rfl
end Go.Proofs
