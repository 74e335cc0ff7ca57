/- Part 30 of what the claim is proved by: lemmas on the model and walks through functions of the program; no conditions. -/
import Derived.Test.YtmdpbfghjdljiaaGreatV28
import Derived.Test.YtmdpbfghjdljiaaGreatV13
import Derived.Test.YtmdpbfghjdljiaaGreatV29
namespace Go.Proofs
open Go Go.W Go.V
theorem pure_things (ts : List Thing) : ∀ x ∈ ts.map thingA, x.cells.all pureA = true := fun x hx => by
  obtain ⟨l, _, rfl⟩ := List.mem_map.1 hx
  rfl
theorem ren_thing (τ : Nat → Option Nat) (t : Thing) : V.ren τ (thingA t) = thingA t := rfl
theorem ren_set {τ : Nat → Option Nat} {ts : List Thing} {n : Nat} {e e' : AV} (h : V.ren τ e = e') : ((ts.map thingA).set n e).map (V.ren τ) = (ts.map thingA).set n e' := by
  rw [List.map_set, List.map_map, h]
  exact congrArg (fun l => List.set l n e') (List.map_congr_left fun t _ => ren_thing τ t)
abbrev stepO (lz : Bool) (ss : List (List Cls)) (ts : List Thing) (s : Step) : Eta :=
  if s.d = 1 then [.cb Tc.turn_world [V.bool lz, .hs 3, .hs 2], .dead, .gs false Tc.api_TurnThing 3 none ((doT lz ss ts s).map thingA), .gs true Tc.Pturn_schema 1 none ((doS ss s).map schE)]
  else if s.d = 2 then [.cb Tc.turn_world [V.bool lz, .hs 1, .hs 3], .gs true Tc.Pturn_schema 1 none ((doS ss s).map schE), .dead, .gs false Tc.api_TurnThing 3 none ((doT lz ss ts s).map thingA)]
  else worldO lz (doS ss s) (doT lz ss ts s)
set_option maxHeartbeats 2000000 in
theorem s_turn_doMake (lz : Bool) {ss : List (List Cls)} {ts : List Thing} (h : WOk ss ts) (s : Step) (hk : ShortC s.k) (hs : StOk ss ts s) (d1 : s.d = 1) :
    V.Spec Tryz.prog Fc.turn_world_doMake [.bp 0 0, stepA s] (worldO lz ss ts) (valA (doR ss ts s)) (stepO lz ss ts s) := by
  obtain ⟨n1, n12, lg, lsh, _⟩ := h.last
  obtain ⟨l10, lf⟩ := goodB_fine lg
  obtain ⟨m1, m2, m3⟩ := hs.m d1
  have hw' := step_ok (lz := lz) h hk hs
  have hmd := s_turn_made lz h s hk m1
  have hrd := s_turn_read (madeV (lastS ss) s.c s.k) (madeV_short lsh l10 hk)
  rw [readA, m3, if_pos rfl] at hrd
  have e1 : doS ss s = ss ++ [madeV (lastS ss) s.c s.k] := by rw [doS, if_pos d1]
  have hws : WOk (doS ss s) ts := by
    have := (step_ok (lz := true) h hk hs)
    rwa [doT, if_pos d1, if_pos rfl] at this
  have hse := s_turn_settle lz hws
  have hno := s_turn_none
  rw [stepO, if_pos d1, doT, if_pos d1, doR, if_pos d1]
  have e : ss.map schE ++ [schE (madeV (lastS ss) s.c s.k)] = (doS ss s).map schE := by rw [e1]; exact map_snoc _ _ _
  generalize madeV (lastS ss) s.c s.k = mk at *
  generalize doS ss s = s2 at *
  cases lz
  · refine V.Spec.enter Tryz.tabOK Tryz.mixed Fn.turn_world_doMake rfl rfl rfl fun B hB => ?_
    repeat' (with_reducible first | refine OL.st ?_ | refine OL.box ?_ | refine OL.alloc ?_ | refine TC.region ?_ | refine TC.seq ?_ | refine OL.nil ?_ | refine TX.thenN ?_ | fail)
    refine OL.ch [0, 1, 2] hmd Fn.turn_world_made ?_
    skip
    refine OL.c hrd Fn.turn_read ?_
    repeat' (with_reducible first | refine OL.st ?_ | refine OL.store ?_ | refine OL.lit ?_ | refine OL.appO ?_ | refine TC.region ?_ | refine TC.seq ?_ | refine OL.nil ?_ | refine TX.thenN ?_ | refine TC.ifT ?_ | fail)
    refine OL.eqG 6 e ?_
    refine OL.frz 6 ?_
    refine OL.ch [0, 6, 2] hse Fn.turn_world_settle ?_
    repeat' (with_reducible first | refine TC.region ?_ | refine TC.seq ?_ | refine OL.nil ?_ | refine TX.thenN ?_ | fail)
    refine OL.c hno Fn.turn_none ?_
    repeat' (with_reducible first | refine OL.storeAgg ?_ | refine OL.nil ?_ | refine TX.thenN ?_ | refine TC.ret ?_ | fail)
    exact TX.rtc [0, 1, 2, 6] (.ren rfl)
  · refine V.Spec.enter Tryz.tabOK Tryz.mixed Fn.turn_world_doMake rfl rfl rfl fun B hB => ?_
    repeat' (with_reducible first | refine OL.st ?_ | refine OL.box ?_ | refine OL.alloc ?_ | refine TC.region ?_ | refine TC.seq ?_ | refine OL.nil ?_ | refine TX.thenN ?_ | fail)
    refine OL.ch [0, 1, 2] hmd Fn.turn_world_made ?_
    skip
    refine OL.c hrd Fn.turn_read ?_
    repeat' (with_reducible first | refine OL.st ?_ | refine OL.store ?_ | refine OL.lit ?_ | refine OL.appO ?_ | refine TC.region ?_ | refine TC.seq ?_ | refine OL.nil ?_ | refine TX.thenN ?_ | refine TC.skip ?_ | refine TC.ifF ?_ | fail)
    refine OL.eqG 6 e ?_
    refine OL.frz 6 ?_
    refine OL.c hno Fn.turn_none ?_
    repeat' (with_reducible first | refine OL.storeAgg ?_ | refine OL.nil ?_ | refine TX.thenN ?_ | refine TC.ret ?_ | fail)
    exact TX.rtc [0, 1, 2, 6] (.ren rfl)
set_option maxHeartbeats 2000000 in
theorem s_turn_doNew (lz : Bool) {ss : List (List Cls)} {ts : List Thing} (h : WOk ss ts) (s : Step) (hs : StOk ss ts s) (d2 : s.d = 2) :
    V.Spec Tryz.prog Fc.turn_world_doNew [.bp 0 0, stepA s] (worldO lz ss ts) (valA (doR ss ts s)) (stepO lz ss ts s) := by
  obtain ⟨n1, n12, lg, lsh, _⟩ := h.last
  obtain ⟨l10, lf⟩ := goodB_fine lg
  have h40 := h.n40
  obtain ⟨m1, m2⟩ := hs.n d2
  have hlw := turn_last_w n1 n12
  have hle := last_schE n1
  obtain ⟨c, hc⟩ : ∃ c : Nat, s.c = (c : Int) := ⟨s.c.toNat, by omega⟩
  have hke := s_turn_kept lf l10 (c := c) (slots := []) (vals := []) (by omega) (by omega) (by simp)
  have e1 : doS ss s = ss := by rw [doS, if_neg (by omega)]
  have e2 : newT ss s = (s.c, (ss.length : Int) - 1, turnedV (lastS ss) c [] []) := by rw [newT, hc, Int.toNat_natCast]
  rw [stepO, if_neg (by omega), if_pos d2, doT, if_neg (by omega), if_pos d2, doR, if_neg (by omega), if_pos d2, e1, e2]
  rw [← hc] at hke
  generalize lastS ss = L at *
  generalize turnedV L c [] [] = tv at *
  obtain ⟨t2, ht2⟩ : ∃ t2, t2 = ts ++ [(s.c, (ss.length : Int) - 1, tv)] := ⟨_, rfl⟩
  have hl2 : t2.length = ts.length + 1 := by rw [ht2]; simp
  have e4 : ts.map thingA ++ [thingA (s.c, (ss.length : Int) - 1, tv)] = t2.map thingA := by rw [ht2]; exact map_snoc _ _ _
  rw [← ht2, show ((ts.length : Nat) : Int) = (t2.length : Int) - 1 by omega]
  refine V.Spec.enter Tryz.tabOK Tryz.mixed Fn.turn_world_doNew rfl rfl rfl fun B hB => ?_
  repeat' (with_reducible first | refine OL.box ?_ | refine OL.alloc ?_ | refine TC.region ?_ | refine TC.seq ?_ | refine OL.nil ?_ | refine TX.thenN ?_ | fail)
  (with_reducible refine TC.draw (id := 1) true 20 24 ?_ <;> refine OD.stT 0 ?_ <;> refine OD.st 1 ?_ <;> refine OD.st 2 ?_ <;> refine OD.st 3 ?_ <;> refine OD.st 4 ?_ <;> refine OD.st 5 ?_ <;> refine OD.st 6 ?_ <;> refine OD.st 7 ?_ <;> refine OD.st 8 ?_ <;> refine OD.st 9 ?_ <;> refine OD.st 10 ?_ <;> refine OD.st 11 ?_ <;> refine OD.st 12 ?_ <;> refine OD.st 13 ?_ <;> refine OD.st 15 ?_ <;> refine OD.st 16 ?_ <;> refine OD.e1 14 (ss.length - 1) hlw Fn.turn_world_last hle ?_ <;> refine OD.c1 17 hke Fn.turn_schema_kept ?_ <;> refine OD.s1 18 ?_ (h := gvBuild) <;> refine OD.li 19 ?_ <;> (refine OD.a1 20 ?_; refine OL.appO ?_; refine OL.nil ?_; refine TX.od ?_) <;> refine OD.st 21 ?_ <;> refine OD.st 22 ?_ <;> (refine OD.a1 23 ?_; refine OL.store ?_; refine OL.nil ?_; refine TX.od ?_) <;> refine OD.dn ?_)
  all_goals refine TX.eqG 6 e4 ?_
  all_goals repeat' (with_reducible first | refine OL.st ?_ | refine OL.storeAgg ?_ | refine OL.build ?_ | refine TC.region ?_ | refine TC.seq ?_ | refine OL.nil ?_ | refine TX.thenN ?_ | refine TC.ret ?_ | fail)
  all_goals exact TX.rtc [0, 1, 2, 6] (.ren rfl)
theorem touch_step (lz : Bool) {ss : List (List Cls)} {ts : List Thing} (h : WOk ss ts) (s : Step) (ht : 0 ≤ s.th ∧ s.th < (ts.length : Int)) :
    V.Spec Tryz.prog Fc.turn_world_touch [.bp 0 0, V.int s.th] (worldO lz ss ts) (.gp 2 3 s.th.toNat 0) (worldO lz ss (ts.set s.th.toNat (upT ss ts s))) := by
  have hn : s.th.toNat < ts.length := by omega
  have hto := s_turn_touch lz h.sb hn (h.tk _ (List.getElem_mem _))
  have hth : thAt ts s.th = ts[s.th.toNat] := getD_lt hn
  rw [upT, hth]
  rwa [show ((s.th.toNat : Nat) : Int) = s.th by omega] at hto
set_option maxHeartbeats 1000000 in
theorem s_turn_doTouch (lz : Bool) {ss : List (List Cls)} {ts : List Thing} (h : WOk ss ts) (s : Step) (hs : StOk ss ts s) (d6 : s.d = 6) :
    V.Spec Tryz.prog Fc.turn_world_doTouch [.bp 0 0, stepA s] (worldO lz ss ts) (valA (doR ss ts s)) (stepO lz ss ts s) := by
  have hto := touch_step lz h s (hs.t (by omega))
  have e1 : doS ss s = ss := by rw [doS, if_neg (by omega)]
  rw [stepO, if_neg (by omega), if_neg (by omega), doT, if_neg (by omega), if_neg (by omega), doR, if_neg (by omega), if_neg (by omega), if_neg (by omega), if_neg (by omega), putT, if_neg (by omega), if_neg (by omega), e1]
  generalize ts.set s.th.toNat (upT ss ts s) = t1 at *
  refine V.Spec.enter Tryz.tabOK Tryz.mixed Fn.turn_world_doTouch rfl rfl rfl fun B hB => ?_
  repeat' (with_reducible first | refine OL.st ?_ | refine OL.box ?_ | refine OL.alloc ?_ | refine TC.region ?_ | refine TC.seq ?_ | refine OL.nil ?_ | refine TX.thenN ?_ | fail)
  refine OL.ch [0, 1, 2] hto Fn.turn_world_touch ?_
  repeat' (with_reducible first | refine OL.st ?_ | refine OL.storeAgg ?_ | refine OL.build ?_ | refine TC.region ?_ | refine TC.seq ?_ | refine OL.nil ?_ | refine TX.thenN ?_ | refine TC.ret ?_ | fail)
  exact TX.rtc [0, 1, 2] (.ren rfl)
theorem getset {l : List AV} {n : Nat} (h : n < l.length) (x : AV) : (l.set n x)[n]? = some x := by rw [List.getElem?_set_self h]
set_option maxHeartbeats 2000000 in
theorem s_turn_doTo (lz : Bool) {ss : List (List Cls)} {ts : List Thing} (h : WOk ss ts) (s : Step) (hs : StOk ss ts s) (d5 : s.d = 5) :
    V.Spec Tryz.prog Fc.turn_world_doTo [.bp 0 0, stepA s] (worldO lz ss ts) (valA (doR ss ts s)) (stepO lz ss ts s) := by
  obtain ⟨n1, n12, lg, lsh, _⟩ := h.last
  obtain ⟨l10, lf⟩ := goodB_fine lg
  have ht := hs.t (by omega)
  have hto := touch_step lz h s ht
  have hul := upT_len h ht
  have hlw := turn_last_w n1 n12
  have hle := last_schE n1
  obtain ⟨o1, o2⟩ := hs.o d5
  obtain ⟨c2, hc2⟩ : ∃ c2 : Nat, s.c = (c2 : Int) := ⟨s.c.toNat, by omega⟩
  obtain ⟨c, hc, c3, cl⟩ := h.cls (thAt_mem ht)
  rw [← upT_fst ss ts s] at hc
  have e1 : doS ss s = ss := by rw [doS, if_neg (by omega)]
  have hn : s.th.toNat < ts.length := by omega
  rw [stepO, if_neg (by omega), if_neg (by omega), doT, if_neg (by omega), if_neg (by omega), doR, if_neg (by omega), if_neg (by omega), if_neg (by omega), if_neg (by omega), putT, if_neg (by omega), if_pos d5, e1]
  generalize upT ss ts s = u at *
  rw [hc, Int.toNat_natCast] at hul
  rw [hc, hc2, Int.toNat_natCast, Int.toNat_natCast]
  have hha := s_turn_has (lastS ss) (by omega) c3 cl
  have hke := s_turn_kept lf l10 (c := c2) (slots := slotsOf (lastS ss) c) (vals := u.2.2) (by omega) (by omega) (by omega)
  rw [← hc2] at hke ⊢
  rw [← hc] at hha
  obtain ⟨t1, ht1⟩ : ∃ t1, t1 = ts.set s.th.toNat u := ⟨_, rfl⟩
  have hl1 : t1.length = ts.length := by rw [ht1]; simp
  have hu : t1[s.th.toNat]'(by omega) = u := by simp only [ht1]; simp
  rw [← ht1] at hto
  generalize turnedV (lastS ss) c2 (slotsOf (lastS ss) c) u.2.2 = tv at *
  have e : ((t1.map thingA).set s.th.toNat (.st [V.int u.1, V.int u.2.1, .sl 2 none (tv.map valA)])).set s.th.toNat (.st [V.int s.c, V.int u.2.1, .sl 2 none (tv.map valA)]) = (ts.set s.th.toNat (s.c, u.2.1, tv)).map thingA := by
    rw [List.set_set, ht1, ← List.map_set (f := thingA) (a := (s.c, u.2.1, tv)), List.set_set]
  have hg : (t1.map thingA)[s.th.toNat]? = some (thingA u) := by rw [List.getElem?_map, List.getElem?_eq_getElem (by omega), hu]; rfl
  have hgl : s.th.toNat < (t1.map thingA).length := by rw [List.length_map]; omega
  generalize lastS ss = L at *
  refine V.Spec.enter Tryz.tabOK Tryz.mixed Fn.turn_world_doTo rfl rfl rfl fun B hB => ?_
  repeat' (with_reducible first | refine OL.st ?_ | refine OL.box ?_ | refine OL.alloc ?_ | refine TC.region ?_ | refine TC.seq ?_ | refine OL.nil ?_ | refine TX.thenN ?_ | fail)
  refine OL.ch [0, 1, 2] hto Fn.turn_world_touch ?_
  repeat' (with_reducible first | refine OL.st ?_ | refine TC.seq ?_ | refine OL.nil ?_ | refine TX.thenN ?_ | fail)
  refine TC.toG 2 ?_
  (with_reducible refine TC.draw (id := 2) true 19 20 ?_ <;> refine OD.st 0 ?_ <;> refine OD.st 1 ?_ <;> refine OD.st 3 ?_ <;> refine OD.st 4 ?_ <;> refine OD.st 5 ?_ <;> refine OD.st 7 ?_ <;> refine OD.st 8 ?_ <;> refine OD.st 9 ?_ <;> refine OD.st 12 ?_ <;> refine OD.st 13 ?_ <;> refine OD.st 14 ?_ <;> refine OD.n3 2 10 15 ?_ ?_ ?_ <;> (first | refine NextBy.at 2 ?_ <;> refine NextBy.e (ss.length - 1) hlw Fn.turn_world_last hle ?_ <;> refine OD.n3 6 10 15 ?_ ?_ ?_ <;> (first | refine NextBy.at 6 ?_ <;> refine NextBy.e (ss.length - 1) hlw Fn.turn_world_last hle ?_ <;> refine OD.n2 10 15 ?_ ?_ <;> (first | refine NextBy.at 10 ?_ <;> refine NextBy.s ?_ (h := gvW hg) <;> refine OD.n2 11 15 ?_ ?_ <;> (first | refine NextBy.at 11 ?_ <;> refine NextBy.c hha Fn.turn_schema_has ?_ <;> refine OD.s1 15 ?_ (h := gvW hg) <;> refine OD.c1 16 hke Fn.turn_schema_kept ?_ <;> refine OD.st 17 ?_ <;> refine OD.st 18 ?_ <;> (refine OD.a1 19 ?_; refine OL.storeW (e' := .st [V.int u.1, V.int u.2.1, .sl 2 none (tv.map valA)]) ?_ (hk := hg); refine OL.nil ?_; refine TX.od ?_) <;> refine OD.dn ?_ | refine NextBy.at 15 ?_ <;> refine NextBy.s ?_ (h := gvW hg) <;> refine OD.c1 11 hha Fn.turn_schema_has ?_ <;> refine OD.c1 16 hke Fn.turn_schema_kept ?_ <;> refine OD.st 17 ?_ <;> refine OD.st 18 ?_ <;> (refine OD.a1 19 ?_; refine OL.storeW (e' := .st [V.int u.1, V.int u.2.1, .sl 2 none (tv.map valA)]) ?_ (hk := hg); refine OL.nil ?_; refine TX.od ?_) <;> refine OD.dn ?_) | refine NextBy.at 15 ?_ <;> refine NextBy.s ?_ (h := gvW hg) <;> refine OD.s1 10 ?_ (h := gvW hg) <;> refine OD.c1 11 hha Fn.turn_schema_has ?_ <;> refine OD.c1 16 hke Fn.turn_schema_kept ?_ <;> refine OD.st 17 ?_ <;> refine OD.st 18 ?_ <;> (refine OD.a1 19 ?_; refine OL.storeW (e' := .st [V.int u.1, V.int u.2.1, .sl 2 none (tv.map valA)]) ?_ (hk := hg); refine OL.nil ?_; refine TX.od ?_) <;> refine OD.dn ?_) | refine NextBy.at 10 ?_ <;> refine NextBy.s ?_ (h := gvW hg) <;> refine OD.n2 6 15 ?_ ?_ <;> (first | refine NextBy.at 6 ?_ <;> refine NextBy.e (ss.length - 1) hlw Fn.turn_world_last hle ?_ <;> refine OD.n2 11 15 ?_ ?_ <;> (first | refine NextBy.at 11 ?_ <;> refine NextBy.c hha Fn.turn_schema_has ?_ <;> refine OD.s1 15 ?_ (h := gvW hg) <;> refine OD.c1 16 hke Fn.turn_schema_kept ?_ <;> refine OD.st 17 ?_ <;> refine OD.st 18 ?_ <;> (refine OD.a1 19 ?_; refine OL.storeW (e' := .st [V.int u.1, V.int u.2.1, .sl 2 none (tv.map valA)]) ?_ (hk := hg); refine OL.nil ?_; refine TX.od ?_) <;> refine OD.dn ?_ | refine NextBy.at 15 ?_ <;> refine NextBy.s ?_ (h := gvW hg) <;> refine OD.c1 11 hha Fn.turn_schema_has ?_ <;> refine OD.c1 16 hke Fn.turn_schema_kept ?_ <;> refine OD.st 17 ?_ <;> refine OD.st 18 ?_ <;> (refine OD.a1 19 ?_; refine OL.storeW (e' := .st [V.int u.1, V.int u.2.1, .sl 2 none (tv.map valA)]) ?_ (hk := hg); refine OL.nil ?_; refine TX.od ?_) <;> refine OD.dn ?_) | refine NextBy.at 15 ?_ <;> refine NextBy.s ?_ (h := gvW hg) <;> refine OD.e1 6 (ss.length - 1) hlw Fn.turn_world_last hle ?_ <;> refine OD.c1 11 hha Fn.turn_schema_has ?_ <;> refine OD.c1 16 hke Fn.turn_schema_kept ?_ <;> refine OD.st 17 ?_ <;> refine OD.st 18 ?_ <;> (refine OD.a1 19 ?_; refine OL.storeW (e' := .st [V.int u.1, V.int u.2.1, .sl 2 none (tv.map valA)]) ?_ (hk := hg); refine OL.nil ?_; refine TX.od ?_) <;> refine OD.dn ?_) | refine NextBy.at 15 ?_ <;> refine NextBy.s ?_ (h := gvW hg) <;> refine OD.n2 6 10 ?_ ?_ <;> (first | refine NextBy.at 6 ?_ <;> refine NextBy.e (ss.length - 1) hlw Fn.turn_world_last hle ?_ <;> refine OD.s1 10 ?_ (h := gvW hg) <;> refine OD.c1 11 hha Fn.turn_schema_has ?_ <;> refine OD.c1 16 hke Fn.turn_schema_kept ?_ <;> refine OD.st 17 ?_ <;> refine OD.st 18 ?_ <;> (refine OD.a1 19 ?_; refine OL.storeW (e' := .st [V.int u.1, V.int u.2.1, .sl 2 none (tv.map valA)]) ?_ (hk := hg); refine OL.nil ?_; refine TX.od ?_) <;> refine OD.dn ?_ | refine NextBy.at 10 ?_ <;> refine NextBy.s ?_ (h := gvW hg) <;> refine OD.e1 6 (ss.length - 1) hlw Fn.turn_world_last hle ?_ <;> refine OD.c1 11 hha Fn.turn_schema_has ?_ <;> refine OD.c1 16 hke Fn.turn_schema_kept ?_ <;> refine OD.st 17 ?_ <;> refine OD.st 18 ?_ <;> (refine OD.a1 19 ?_; refine OL.storeW (e' := .st [V.int u.1, V.int u.2.1, .sl 2 none (tv.map valA)]) ?_ (hk := hg); refine OL.nil ?_; refine TX.od ?_) <;> refine OD.dn ?_)) | refine NextBy.at 10 ?_ <;> refine NextBy.s ?_ (h := gvW hg) <;> refine OD.n2 2 15 ?_ ?_ <;> (first | refine NextBy.at 2 ?_ <;> refine NextBy.e (ss.length - 1) hlw Fn.turn_world_last hle ?_ <;> refine OD.n2 6 15 ?_ ?_ <;> (first | refine NextBy.at 6 ?_ <;> refine NextBy.e (ss.length - 1) hlw Fn.turn_world_last hle ?_ <;> refine OD.n2 11 15 ?_ ?_ <;> (first | refine NextBy.at 11 ?_ <;> refine NextBy.c hha Fn.turn_schema_has ?_ <;> refine OD.s1 15 ?_ (h := gvW hg) <;> refine OD.c1 16 hke Fn.turn_schema_kept ?_ <;> refine OD.st 17 ?_ <;> refine OD.st 18 ?_ <;> (refine OD.a1 19 ?_; refine OL.storeW (e' := .st [V.int u.1, V.int u.2.1, .sl 2 none (tv.map valA)]) ?_ (hk := hg); refine OL.nil ?_; refine TX.od ?_) <;> refine OD.dn ?_ | refine NextBy.at 15 ?_ <;> refine NextBy.s ?_ (h := gvW hg) <;> refine OD.c1 11 hha Fn.turn_schema_has ?_ <;> refine OD.c1 16 hke Fn.turn_schema_kept ?_ <;> refine OD.st 17 ?_ <;> refine OD.st 18 ?_ <;> (refine OD.a1 19 ?_; refine OL.storeW (e' := .st [V.int u.1, V.int u.2.1, .sl 2 none (tv.map valA)]) ?_ (hk := hg); refine OL.nil ?_; refine TX.od ?_) <;> refine OD.dn ?_) | refine NextBy.at 15 ?_ <;> refine NextBy.s ?_ (h := gvW hg) <;> refine OD.e1 6 (ss.length - 1) hlw Fn.turn_world_last hle ?_ <;> refine OD.c1 11 hha Fn.turn_schema_has ?_ <;> refine OD.c1 16 hke Fn.turn_schema_kept ?_ <;> refine OD.st 17 ?_ <;> refine OD.st 18 ?_ <;> (refine OD.a1 19 ?_; refine OL.storeW (e' := .st [V.int u.1, V.int u.2.1, .sl 2 none (tv.map valA)]) ?_ (hk := hg); refine OL.nil ?_; refine TX.od ?_) <;> refine OD.dn ?_) | refine NextBy.at 15 ?_ <;> refine NextBy.s ?_ (h := gvW hg) <;> refine OD.e1 2 (ss.length - 1) hlw Fn.turn_world_last hle ?_ <;> refine OD.e1 6 (ss.length - 1) hlw Fn.turn_world_last hle ?_ <;> refine OD.c1 11 hha Fn.turn_schema_has ?_ <;> refine OD.c1 16 hke Fn.turn_schema_kept ?_ <;> refine OD.st 17 ?_ <;> refine OD.st 18 ?_ <;> (refine OD.a1 19 ?_; refine OL.storeW (e' := .st [V.int u.1, V.int u.2.1, .sl 2 none (tv.map valA)]) ?_ (hk := hg); refine OL.nil ?_; refine TX.od ?_) <;> refine OD.dn ?_) | refine NextBy.at 15 ?_ <;> refine NextBy.s ?_ (h := gvW hg) <;> refine OD.n2 2 10 ?_ ?_ <;> (first | refine NextBy.at 2 ?_ <;> refine NextBy.e (ss.length - 1) hlw Fn.turn_world_last hle ?_ <;> refine OD.n2 6 10 ?_ ?_ <;> (first | refine NextBy.at 6 ?_ <;> refine NextBy.e (ss.length - 1) hlw Fn.turn_world_last hle ?_ <;> refine OD.s1 10 ?_ (h := gvW hg) <;> refine OD.c1 11 hha Fn.turn_schema_has ?_ <;> refine OD.c1 16 hke Fn.turn_schema_kept ?_ <;> refine OD.st 17 ?_ <;> refine OD.st 18 ?_ <;> (refine OD.a1 19 ?_; refine OL.storeW (e' := .st [V.int u.1, V.int u.2.1, .sl 2 none (tv.map valA)]) ?_ (hk := hg); refine OL.nil ?_; refine TX.od ?_) <;> refine OD.dn ?_ | refine NextBy.at 10 ?_ <;> refine NextBy.s ?_ (h := gvW hg) <;> refine OD.e1 6 (ss.length - 1) hlw Fn.turn_world_last hle ?_ <;> refine OD.c1 11 hha Fn.turn_schema_has ?_ <;> refine OD.c1 16 hke Fn.turn_schema_kept ?_ <;> refine OD.st 17 ?_ <;> refine OD.st 18 ?_ <;> (refine OD.a1 19 ?_; refine OL.storeW (e' := .st [V.int u.1, V.int u.2.1, .sl 2 none (tv.map valA)]) ?_ (hk := hg); refine OL.nil ?_; refine TX.od ?_) <;> refine OD.dn ?_) | refine NextBy.at 10 ?_ <;> refine NextBy.s ?_ (h := gvW hg) <;> refine OD.e1 2 (ss.length - 1) hlw Fn.turn_world_last hle ?_ <;> refine OD.e1 6 (ss.length - 1) hlw Fn.turn_world_last hle ?_ <;> refine OD.c1 11 hha Fn.turn_schema_has ?_ <;> refine OD.c1 16 hke Fn.turn_schema_kept ?_ <;> refine OD.st 17 ?_ <;> refine OD.st 18 ?_ <;> (refine OD.a1 19 ?_; refine OL.storeW (e' := .st [V.int u.1, V.int u.2.1, .sl 2 none (tv.map valA)]) ?_ (hk := hg); refine OL.nil ?_; refine TX.od ?_) <;> refine OD.dn ?_)))
  all_goals repeat' (with_reducible first | refine OL.st ?_ | refine TC.region ?_ | refine TC.seq ?_ | refine TX.thenN ?_ | fail)
  all_goals refine OL.storeW (e' := .st [V.int s.c, V.int u.2.1, .sl 2 none (tv.map valA)]) ?_ (hk := getset hgl _)
  all_goals repeat' (with_reducible first | refine OL.st ?_ | refine OL.storeAgg ?_ | refine OL.build ?_ | refine TC.region ?_ | refine TC.seq ?_ | refine OL.nil ?_ | refine TX.thenN ?_ | refine TC.ret ?_ | fail)
  all_goals refine TX.ofG 2 e (pure_things _) ?_
  all_goals exact TX.rtc [0, 1, 2] (.ren rfl)
abbrev slotO (lz : Bool) (ss : List (List Cls)) (ts : List Thing) (s : Step) : Eta :=
  [.cb Tc.turn_world [V.bool lz, .hs 1, .hs 2], .gs true Tc.Pturn_schema 1 none (ss.map schE), .gw Tc.api_TurnThing 3 none (((ts.set s.th.toNat (upT ss ts s)).map thingA).set s.th.toNat (.st [V.int (upT ss ts s).1, V.int (upT ss ts s).2.1, .hs 3])), .gs false Tc.api_MeanVal 2 none ((upT ss ts s).2.2.map valA)]
theorem clone_vo (l : List (Int × Int)) (hb : l.length * 16 ≤ 140737488355328) : V.Spec Tryz.prog Fc.slices_Clone_Lapi_MeanVal_api_MeanVal [valsA l] [] (.hs 0) [.gs false Tc.api_MeanVal 2 none (l.map valA)] := by
  refine V.Spec.enter Tryz.tabOK Tryz.mixed Fn.slices_Clone_Lapi_MeanVal_api_MeanVal rfl rfl rfl fun B hB => ?_
  repeat' (with_reducible first | refine OL.st ?_ | refine TC.region ?_ | refine TC.seq ?_ | refine OL.nil ?_ | refine TX.thenN ?_ | fail)
  refine OL.isNil (fun h => ?_) ?_
  · repeat' (with_reducible first | refine OL.st ?_ | refine TC.region ?_ | refine TC.seq ?_ | refine OL.nil ?_ | refine TX.thenN ?_ | refine TC.ifT ?_ | refine TC.ret ?_ | refine TX.thenR ?_ | fail)
    have e : [] = l.map valA := h.symm
    refine TX.adp 2 Tc.api_MeanVal 2 ?_
    exact TX.rt1 [0] (.ren rfl)
  · repeat' (with_reducible first | refine OL.st ?_ | refine OL.lit0 ?_ | refine OL.app ?_ | refine TC.region ?_ | refine TC.seq ?_ | refine OL.nil ?_ | refine TX.thenN ?_ | refine TC.skip ?_ | refine TC.ifF ?_ | refine TC.ret ?_ | fail)
    exact TX.rt1 [1] (.ren rfl)
set_option maxHeartbeats 2000000 in
theorem s_turn_slot (lz : Bool) {ss : List (List Cls)} {ts : List Thing} (h : WOk ss ts) (s : Step) (hs : StOk ss ts s) (d : s.d = 3 ∨ s.d = 4) :
    V.Spec Tryz.prog Fc.turn_world_slot [.bp 0 0, stepA s] (worldO lz ss ts) (.gp 3 2 (slotAt ss ts s).toNat 0) (slotO lz ss ts s) := by
  obtain ⟨n1, n12, lg, lsh, _⟩ := h.last
  obtain ⟨l10, lf⟩ := goodB_fine lg
  have ht := hs.t (by omega)
  have hto := touch_step lz h s ht
  have hul := upT_len h ht
  have hux := (upT_ok h ht).short h.sb
  have hlw := turn_last_w n1 n12
  have hle := last_schE n1
  have hg0 := hs.g d
  obtain ⟨c, hc, c3, cl⟩ := h.cls (thAt_mem ht)
  rw [hc, Int.toNat_natCast] at hg0
  rw [← upT_fst ss ts s] at hc
  have hn : s.th.toNat < ts.length := by omega
  rw [slotO, slotAt]
  rw [hc, Int.toNat_natCast] at hul ⊢
  generalize upT ss ts s = u at *
  have hha := s_turn_has (lastS ss) (by omega) c3 cl
  have hix := s_slices_Index_Lint_int (slotsOf (lastS ss) c) s.sl
  have hpl := placeN_lt (slotsOf (lastS ss) c) s.sl
  have hfp := fidx_placeN s.sl (slotsOf (lastS ss) c) 0
  rw [Int.natCast_zero] at hfp
  rw [hfp] at hix
  rw [← hc] at hha ⊢
  obtain ⟨t1, ht1⟩ : ∃ t1, t1 = ts.set s.th.toNat u := ⟨_, rfl⟩
  have hl1 : t1.length = ts.length := by rw [ht1]; simp
  have hu : t1[s.th.toNat]'(by omega) = u := by simp only [ht1]; simp
  rw [← ht1] at hto ⊢
  have hcv := clone_vo u.2.2 (by omega)
  have hg : (t1.map thingA)[s.th.toNat]? = some (thingA u) := by rw [List.getElem?_map, List.getElem?_eq_getElem (by omega), hu]; rfl
  have hgl : s.th.toNat < (t1.map thingA).length := by rw [List.length_map]; omega
  have hgs := getset hgl (.st [V.int u.1, V.int u.2.1, .hs 4])
  generalize lastS ss = L at *
  generalize placeN (slotsOf L c) s.sl 0 = pl at *
  refine V.Spec.enter Tryz.tabOK Tryz.mixed Fn.turn_world_slot rfl rfl rfl fun B hB => ?_
  repeat' (with_reducible first | refine OL.st ?_ | refine OL.box ?_ | refine TC.region ?_ | refine TC.seq ?_ | refine OL.nil ?_ | refine TX.thenN ?_ | fail)
  refine OL.ch [0, 1, 2] hto Fn.turn_world_touch ?_
  repeat' (with_reducible first | refine OL.st ?_ | refine TC.region ?_ | refine TC.seq ?_ | refine OL.nil ?_ | refine TX.thenN ?_ | fail)
  simp only [hu]
  refine OL.c hcv Fn.slices_Clone_Lapi_MeanVal_api_MeanVal ?_
  repeat' (first | (with_reducible refine OL.st ?_) | fail)
  refine OL.toG 2 ?_
  refine OL.storeW (e' := .st [V.int u.1, V.int u.2.1, .hs 4]) ?_ (hk := hg)
  repeat' (with_reducible first | refine TC.seq ?_ | refine OL.nil ?_ | refine TX.thenN ?_ | fail)
  (with_reducible refine TC.draw (id := 3) true 16 16 ?_ <;> refine OD.st 0 ?_ <;> refine OD.st 1 ?_ <;> refine OD.st 2 ?_ <;> refine OD.st 4 ?_ <;> refine OD.st 6 ?_ <;> refine OD.st 7 ?_ <;> refine OD.st 8 ?_ <;> refine OD.st 11 ?_ <;> refine OD.st 12 ?_ <;> refine OD.n3 3 5 9 ?_ ?_ ?_ <;> (first | refine NextBy.at 3 ?_ <;> refine NextBy.s ?_ (h := gvW hgs) <;> refine OD.n2 5 9 ?_ ?_ <;> (first | refine NextBy.at 5 ?_ <;> refine NextBy.e (ss.length - 1) hlw Fn.turn_world_last hle ?_ <;> refine OD.s1 9 ?_ (h := gvW hgs) <;> refine OD.c1 10 hha Fn.turn_schema_has ?_ <;> refine OD.c1 13 hix Fn.slices_Index_Lint_int ?_ <;> refine OD.st 14 ?_ <;> refine OD.st 15 ?_ <;> refine OD.dn ?_ | refine NextBy.at 9 ?_ <;> refine NextBy.s ?_ (h := gvW hgs) <;> refine OD.e1 5 (ss.length - 1) hlw Fn.turn_world_last hle ?_ <;> refine OD.c1 10 hha Fn.turn_schema_has ?_ <;> refine OD.c1 13 hix Fn.slices_Index_Lint_int ?_ <;> refine OD.st 14 ?_ <;> refine OD.st 15 ?_ <;> refine OD.dn ?_) | refine NextBy.at 5 ?_ <;> refine NextBy.e (ss.length - 1) hlw Fn.turn_world_last hle ?_ <;> refine OD.n2 3 9 ?_ ?_ <;> (first | refine NextBy.at 3 ?_ <;> refine NextBy.s ?_ (h := gvW hgs) <;> refine OD.s1 9 ?_ (h := gvW hgs) <;> refine OD.c1 10 hha Fn.turn_schema_has ?_ <;> refine OD.c1 13 hix Fn.slices_Index_Lint_int ?_ <;> refine OD.st 14 ?_ <;> refine OD.st 15 ?_ <;> refine OD.dn ?_ | refine NextBy.at 9 ?_ <;> refine NextBy.s ?_ (h := gvW hgs) <;> refine OD.n2 3 10 ?_ ?_ <;> (first | refine NextBy.at 3 ?_ <;> refine NextBy.s ?_ (h := gvW hgs) <;> refine OD.c1 10 hha Fn.turn_schema_has ?_ <;> refine OD.c1 13 hix Fn.slices_Index_Lint_int ?_ <;> refine OD.st 14 ?_ <;> refine OD.st 15 ?_ <;> refine OD.dn ?_ | refine NextBy.at 10 ?_ <;> refine NextBy.c hha Fn.turn_schema_has ?_ <;> refine OD.n2 3 13 ?_ ?_ <;> (first | refine NextBy.at 3 ?_ <;> refine NextBy.s ?_ (h := gvW hgs) <;> refine OD.c1 13 hix Fn.slices_Index_Lint_int ?_ <;> refine OD.st 14 ?_ <;> refine OD.st 15 ?_ <;> refine OD.dn ?_ | refine NextBy.at 13 ?_ <;> refine NextBy.c hix Fn.slices_Index_Lint_int ?_ <;> refine OD.s1 3 ?_ (h := gvW hgs) <;> refine OD.st 14 ?_ <;> refine OD.st 15 ?_ <;> refine OD.dn ?_))) | refine NextBy.at 9 ?_ <;> refine NextBy.s ?_ (h := gvW hgs) <;> refine OD.n2 3 5 ?_ ?_ <;> (first | refine NextBy.at 3 ?_ <;> refine NextBy.s ?_ (h := gvW hgs) <;> refine OD.e1 5 (ss.length - 1) hlw Fn.turn_world_last hle ?_ <;> refine OD.c1 10 hha Fn.turn_schema_has ?_ <;> refine OD.c1 13 hix Fn.slices_Index_Lint_int ?_ <;> refine OD.st 14 ?_ <;> refine OD.st 15 ?_ <;> refine OD.dn ?_ | refine NextBy.at 5 ?_ <;> refine NextBy.e (ss.length - 1) hlw Fn.turn_world_last hle ?_ <;> refine OD.n2 3 10 ?_ ?_ <;> (first | refine NextBy.at 3 ?_ <;> refine NextBy.s ?_ (h := gvW hgs) <;> refine OD.c1 10 hha Fn.turn_schema_has ?_ <;> refine OD.c1 13 hix Fn.slices_Index_Lint_int ?_ <;> refine OD.st 14 ?_ <;> refine OD.st 15 ?_ <;> refine OD.dn ?_ | refine NextBy.at 10 ?_ <;> refine NextBy.c hha Fn.turn_schema_has ?_ <;> refine OD.n2 3 13 ?_ ?_ <;> (first | refine NextBy.at 3 ?_ <;> refine NextBy.s ?_ (h := gvW hgs) <;> refine OD.c1 13 hix Fn.slices_Index_Lint_int ?_ <;> refine OD.st 14 ?_ <;> refine OD.st 15 ?_ <;> refine OD.dn ?_ | refine NextBy.at 13 ?_ <;> refine NextBy.c hix Fn.slices_Index_Lint_int ?_ <;> refine OD.s1 3 ?_ (h := gvW hgs) <;> refine OD.st 14 ?_ <;> refine OD.st 15 ?_ <;> refine OD.dn ?_)))))
  all_goals repeat' (first | (with_reducible refine TX.thenN ?_) | (with_reducible refine TC.ret ?_) | fail)
  all_goals exact TX.rt1 [0, 1, 2, 4] (.ren rfl) (ho := by with_unfolding_all exact ⟨⟨_, rfl, OE.ren rfl⟩, ⟨_, rfl, OE.ren rfl⟩, ⟨_, rfl, OE.ren (congrArg (AO.gw Tc.api_TurnThing 3 none) (ren_set rfl))⟩, ⟨_, rfl, OE.ren rfl⟩, trivial⟩)
set_option maxHeartbeats 2000000 in
theorem s_turn_doGet (lz : Bool) {ss : List (List Cls)} {ts : List Thing} (h : WOk ss ts) (s : Step) (hs : StOk ss ts s) (d3 : s.d = 3) :
    V.Spec Tryz.prog Fc.turn_world_doGet [.bp 0 0, stepA s] (worldO lz ss ts) (valA (doR ss ts s)) (stepO lz ss ts s) := by
  have ht := hs.t (by omega)
  have hsl := s_turn_slot lz h s hs (.inl d3)
  have hul := upT_len h ht
  have hg0 := hs.g (.inl d3)
  rw [← upT_fst ss ts s, ← slotAt] at hg0
  have hpl := placeN_lt (slotsOf (lastS ss) (upT ss ts s).1.toNat) s.sl
  rw [← slotAt] at hpl
  have e1 : doS ss s = ss := by rw [doS, if_neg (by omega)]
  have hn : s.th.toNat < ts.length := by omega
  rw [stepO, if_neg (by omega), if_neg (by omega), doT, if_neg (by omega), if_neg (by omega), doR, if_neg (by omega), if_neg (by omega), if_pos d3, putT, if_neg (by omega), if_neg (by omega), e1]
  rw [slotO] at hsl
  generalize slotAt ss ts s = pl at *
  generalize upT ss ts s = u at *
  have hgd : u.2.2.getD pl.toNat (0, 0) = u.2.2[pl.toNat]'(by omega) := getD_lt (by omega)
  rw [hgd]
  have hgl : s.th.toNat < ((ts.set s.th.toNat u).map thingA).length := by simp; omega
  have hgs := getset hgl (.st [V.int u.1, V.int u.2.1, .hs 5])
  have e : ((((ts.set s.th.toNat u).map thingA).set s.th.toNat (.st [V.int u.1, V.int u.2.1, .hs 5])).set s.th.toNat (.st [V.int u.1, V.int u.2.1, .sl 2 none (u.2.2.map valA)])) = (ts.set s.th.toNat u).map thingA := by
    rw [List.set_set, ← List.map_set (f := thingA) (a := u), List.set_set]
  refine V.Spec.enter Tryz.tabOK Tryz.mixed Fn.turn_world_doGet rfl rfl rfl fun B hB => ?_
  repeat' (with_reducible first | refine OL.st ?_ | refine OL.box ?_ | refine OL.alloc ?_ | refine TC.region ?_ | refine TC.seq ?_ | refine OL.nil ?_ | refine TX.thenN ?_ | fail)
  refine OL.ch [0, 1, 2] hsl Fn.turn_world_slot ?_
  refine OL.eqW 2 (ren_set rfl) ?_
  repeat' (with_reducible first | refine OL.st ?_ | refine OL.storeAgg ?_ | refine OL.nil ?_ | refine TX.thenN ?_ | refine TC.ret ?_ | fail)
  refine TX.viewEl (i := 2) (o := 2) (j := 5) _ hgs ?_
  refine TX.ofG 2 e (pure_things _) ?_
  exact TX.rtc [0, 1, 2] (.ren rfl)
set_option maxHeartbeats 2000000 in
theorem s_turn_doPut (lz : Bool) {ss : List (List Cls)} {ts : List Thing} (h : WOk ss ts) (s : Step) (hs : StOk ss ts s) (d4 : s.d = 4) :
    V.Spec Tryz.prog Fc.turn_world_doPut [.bp 0 0, stepA s] (worldO lz ss ts) (valA (doR ss ts s)) (stepO lz ss ts s) := by
  have ht := hs.t (by omega)
  have hsl := s_turn_slot lz h s hs (.inr d4)
  have hul := upT_len h ht
  have hg0 := hs.g (.inr d4)
  rw [← upT_fst ss ts s, ← slotAt] at hg0
  have hpl := placeN_lt (slotsOf (lastS ss) (upT ss ts s).1.toNat) s.sl
  rw [← slotAt] at hpl
  have e1 : doS ss s = ss := by rw [doS, if_neg (by omega)]
  have hn : s.th.toNat < ts.length := by omega
  rw [stepO, if_neg (by omega), if_neg (by omega), doT, if_neg (by omega), if_neg (by omega), doR, if_neg (by omega), if_neg (by omega), if_neg (by omega), if_pos d4, putT, if_pos d4, e1]
  rw [slotO] at hsl
  generalize slotAt ss ts s = pl at *
  generalize upT ss ts s = u at *
  have hgl : s.th.toNat < ((ts.set s.th.toNat u).map thingA).length := by simp; omega
  have hgs := getset hgl (.st [V.int u.1, V.int u.2.1, .hs 5])
  have e : ((((ts.set s.th.toNat u).map thingA).set s.th.toNat (.st [V.int u.1, V.int u.2.1, .hs 5])).set s.th.toNat (.st [V.int u.1, V.int u.2.1, .sl 2 none ((u.2.2.map valA).set pl.toNat (valA s.v))])) = (ts.set s.th.toNat (u.1, u.2.1, u.2.2.set pl.toNat s.v)).map thingA := by
    rw [List.set_set, ← List.map_set (f := valA), ← List.map_set (f := thingA) (a := (u.1, u.2.1, u.2.2.set pl.toNat s.v)), List.set_set]
  refine V.Spec.enter Tryz.tabOK Tryz.mixed Fn.turn_world_doPut rfl rfl rfl fun B hB => ?_
  repeat' (with_reducible first | refine OL.box ?_ | refine OL.alloc ?_ | refine TC.region ?_ | refine TC.seq ?_ | refine OL.nil ?_ | refine TX.thenN ?_ | fail)
  (with_reducible refine TC.draw (id := 1) false 7 7 ?_ <;> refine OD.st 0 ?_ <;> refine OD.st 3 ?_ <;> refine OD.n2 1 4 ?_ ?_) <;> (first | (with_reducible refine NextBy.at 1 ?_ <;> refine NextBy.s ?_ <;> refine OD.n2 2 4 ?_ ?_) <;> (first | (with_reducible refine NextBy.at 2 ?_) <;> ((with_reducible refine NextBy.a ?_); refine OL.ch [0, 1, 2] hsl Fn.turn_world_slot ?_; refine OL.eqW 2 (ren_set rfl) ?_; refine OL.nil ?_; refine TX.od ?_) <;> (with_reducible refine OD.s1 4 ?_ (h := gvM) <;> refine OD.st 5 ?_ <;> (refine OD.a1 6 ?_; refine OL.storeEA ?_; refine OL.nil ?_; refine TX.od ?_) <;> refine OD.dn ?_) | (with_reducible refine NextBy.at 4 ?_ <;> refine NextBy.s ?_ (h := gvM)) <;> ((with_reducible refine OD.a1 2 ?_); refine OL.ch [0, 1, 2] hsl Fn.turn_world_slot ?_; refine OL.eqW 2 (ren_set rfl) ?_; refine OL.nil ?_; refine TX.od ?_) <;> (with_reducible refine OD.st 5 ?_ <;> (refine OD.a1 6 ?_; refine OL.storeEA ?_; refine OL.nil ?_; refine TX.od ?_) <;> refine OD.dn ?_)) | (with_reducible refine NextBy.at 4 ?_ <;> refine NextBy.s ?_ (h := gvM) <;> refine OD.s1 1 ?_) <;> ((with_reducible refine OD.a1 2 ?_); refine OL.ch [0, 1, 2] hsl Fn.turn_world_slot ?_; refine OL.eqW 2 (ren_set rfl) ?_; refine OL.nil ?_; refine TX.od ?_) <;> (with_reducible refine OD.st 5 ?_ <;> (refine OD.a1 6 ?_; refine OL.storeEA ?_; refine OL.nil ?_; refine TX.od ?_) <;> refine OD.dn ?_))
  all_goals repeat' (with_reducible first | refine OL.st ?_ | refine OL.storeAgg ?_ | refine TC.region ?_ | refine TC.seq ?_ | refine OL.nil ?_ | refine TX.thenN ?_ | refine TC.ret ?_ | refine OL.ldM ?_ | fail)
  all_goals refine TX.viewEl (i := 2) (o := 2) (j := 5) _ hgs ?_
  all_goals refine TX.ofG 2 e (pure_things _) ?_
  all_goals exact TX.rtc [0, 1, 2] (.ren rfl)
end Go.Proofs
