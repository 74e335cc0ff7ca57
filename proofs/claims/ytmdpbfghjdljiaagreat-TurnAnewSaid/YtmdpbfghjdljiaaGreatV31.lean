/- Part 31 of what the claim is proved by: lemmas on the model and walks through functions of the program; no conditions. -/
import Derived.Test.YtmdpbfghjdljiaaGreatV30
namespace Go.Proofs
open Go Go.W Go.V
abbrev deedA (fm fd : Nat) : AV := .st [.fn (.func fm) [] [], .fn (.func fd) [] []]
abbrev deedsE : List (Int × AV) := [(1, deedA Fc.turn_world_mayMake Fc.turn_world_doMake), (2, deedA Fc.turn_world_mayNew Fc.turn_world_doNew), (3, deedA Fc.turn_world_mayTouch Fc.turn_world_doGet), (4, deedA Fc.turn_world_mayTouch Fc.turn_world_doPut), (5, deedA Fc.turn_world_mayTouch Fc.turn_world_doTo), (6, deedA Fc.turn_world_mayTouch Fc.turn_world_doTouch)]
theorem s_turn_deeds : V.Spec Tryz.prog Fc.turn_deeds [] [] (.mp 0) [.mo deedsE] := by
  refine V.Spec.enter Tryz.tabOK Tryz.mixed Fn.turn_deeds rfl rfl rfl fun B hB => ?_
  repeat' (with_reducible first | refine OL.st ?_ | refine OL.makeMap ?_ | refine OL.build ?_ | refine TC.region ?_ | refine TC.seq ?_ | refine OL.nil ?_ | refine TX.thenN ?_ | fail)
  refine OL.mapIns ?_ rfl
  repeat' (first | (with_reducible refine OL.build ?_) | fail)
  refine OL.mapIns ?_ rfl
  repeat' (first | (with_reducible refine OL.build ?_) | fail)
  refine OL.mapIns ?_ rfl
  repeat' (first | (with_reducible refine OL.build ?_) | fail)
  refine OL.mapIns ?_ rfl
  repeat' (first | (with_reducible refine OL.build ?_) | fail)
  refine OL.mapIns ?_ rfl
  repeat' (first | (with_reducible refine OL.build ?_) | fail)
  refine OL.mapIns ?_ rfl
  repeat' (with_reducible first | refine OL.st ?_ | refine OL.nil ?_ | refine TX.thenN ?_ | refine TC.ret ?_ | fail)
  exact TX.rt1 [0] (.ren rfl)
set_option maxHeartbeats 2000000 in
theorem step_core1 (lz : Bool) (ss2 : List (List Cls)) (ts2 : List Thing) {ss : List (List Cls)} {ts : List Thing} {s : Step} {fm fd : Nat} {gm gd : Func} {rv : Int × Int} (hv : afind s.d deedsE = some (deedA fm fd)) (hfm : Tryz.prog.funcs[fm]? = some gm) (hbm : (gm.body.isNone || gm.name == "runtime.NumGoroutine") = false) (hfd : Tryz.prog.funcs[fd]? = some gd) (hbd : (gd.body.isNone || gd.name == "runtime.NumGoroutine") = false)
    (hmay : V.Spec Tryz.prog fm [.bp 0 0, stepA s] (worldO lz ss ts) (V.int 0) (worldO lz ss ts)) (hdo : V.Spec Tryz.prog fd [.bp 0 0, stepA s] (worldO lz ss ts) (valA rv) ([.cb Tc.turn_world [V.bool lz, .hs 3, .hs 2], .dead, .gs false Tc.api_TurnThing 3 none (ts2.map thingA), .gs true Tc.Pturn_schema 1 none (ss2.map schE)])) :
    V.Spec Tryz.prog Fc.turn_world_step [.bp 0 0, stepA s] (worldO lz ss ts) (.tp [valA rv, V.int 0]) ([.cb Tc.turn_world [V.bool lz, .hs 3, .hs 2], .dead, .gs false Tc.api_TurnThing 3 none (ts2.map thingA), .gs true Tc.Pturn_schema 1 none (ss2.map schE)]) := by
  have hde := s_turn_deeds
  refine V.Spec.enter Tryz.tabOK Tryz.mixed Fn.turn_world_step rfl rfl rfl fun B hB => ?_
  repeat' (with_reducible first | refine OL.st ?_ | refine OL.box ?_ | refine OL.alloc ?_ | refine TC.region ?_ | refine TC.seq ?_ | refine OL.nil ?_ | refine TX.thenN ?_ | fail)
  (with_reducible refine TC.draw (id := 1) true 8 10 ?_ <;> refine OD.st 1 ?_ <;> refine OD.st 2 ?_ <;> refine OD.n2 0 7 ?_ ?_ <;> (first | refine NextBy.at 0 ?_ <;> refine NextBy.c hde Fn.turn_deeds ?_ <;> refine OD.n2 3 7 ?_ ?_ <;> (first | refine NextBy.at 3 ?_ <;> refine NextBy.s ?_ (h := gvLk (.inl ⟨rfl, hv⟩)) <;> refine OD.st 4 ?_ <;> refine OD.st 5 ?_ <;> refine OD.stT 6 ?_ <;> refine OD.al 7 ?_ <;> (refine OD.a1 8 ?_; refine OL.storeAgg ?_; refine OL.nil ?_; refine TX.od ?_) <;> refine OD.st 9 ?_ <;> refine OD.dn ?_ | refine NextBy.at 7 ?_ <;> refine NextBy.al ?_ <;> refine OD.s1 3 ?_ (h := gvLk (.inl ⟨rfl, hv⟩)) <;> refine OD.st 4 ?_ <;> refine OD.st 5 ?_ <;> refine OD.stT 6 ?_ <;> (refine OD.a1 8 ?_; refine OL.storeAgg ?_; refine OL.nil ?_; refine TX.od ?_) <;> refine OD.st 9 ?_ <;> refine OD.dn ?_) | refine NextBy.at 7 ?_ <;> refine NextBy.al ?_ <;> refine OD.c1 0 hde Fn.turn_deeds ?_ <;> refine OD.s1 3 ?_ (h := gvLk (.inl ⟨rfl, hv⟩)) <;> refine OD.st 4 ?_ <;> refine OD.st 5 ?_ <;> refine OD.stT 6 ?_ <;> (refine OD.a1 8 ?_; refine OL.storeAgg ?_; refine OL.nil ?_; refine TX.od ?_) <;> refine OD.st 9 ?_ <;> refine OD.dn ?_))
  all_goals repeat' (with_reducible first | refine OL.st ?_ | refine TC.region ?_ | refine TC.seq ?_ | refine OL.nil ?_ | refine TX.thenN ?_ | refine TC.skip ?_ | refine TC.ifF ?_ | fail)
  all_goals refine OL.chv [0, 1, 2] hmay hfm ?_ (hb := hbm)
  all_goals repeat' (with_reducible first | refine OL.st ?_ | refine TC.region ?_ | refine TC.seq ?_ | refine OL.nil ?_ | refine TX.thenN ?_ | refine TC.skip ?_ | refine TC.ifF ?_ | fail)
  all_goals refine OL.chv [0, 1, 2] hdo hfd ?_ (hb := hbd)
  all_goals repeat' (with_reducible first | refine OL.st ?_ | refine OL.storeAgg ?_ | refine OL.nil ?_ | refine TX.thenN ?_ | refine TC.ret ?_ | fail)
  all_goals exact TX.rs2 [0, 1, 2, 7] (.ren rfl) (.ren rfl)
set_option maxHeartbeats 2000000 in
theorem step_core2 (lz : Bool) (ss2 : List (List Cls)) (ts2 : List Thing) {ss : List (List Cls)} {ts : List Thing} {s : Step} {fm fd : Nat} {gm gd : Func} {rv : Int × Int} (hv : afind s.d deedsE = some (deedA fm fd)) (hfm : Tryz.prog.funcs[fm]? = some gm) (hbm : (gm.body.isNone || gm.name == "runtime.NumGoroutine") = false) (hfd : Tryz.prog.funcs[fd]? = some gd) (hbd : (gd.body.isNone || gd.name == "runtime.NumGoroutine") = false)
    (hmay : V.Spec Tryz.prog fm [.bp 0 0, stepA s] (worldO lz ss ts) (V.int 0) (worldO lz ss ts)) (hdo : V.Spec Tryz.prog fd [.bp 0 0, stepA s] (worldO lz ss ts) (valA rv) ([.cb Tc.turn_world [V.bool lz, .hs 1, .hs 3], .gs true Tc.Pturn_schema 1 none (ss2.map schE), .dead, .gs false Tc.api_TurnThing 3 none (ts2.map thingA)])) :
    V.Spec Tryz.prog Fc.turn_world_step [.bp 0 0, stepA s] (worldO lz ss ts) (.tp [valA rv, V.int 0]) ([.cb Tc.turn_world [V.bool lz, .hs 1, .hs 3], .gs true Tc.Pturn_schema 1 none (ss2.map schE), .dead, .gs false Tc.api_TurnThing 3 none (ts2.map thingA)]) := by
  have hde := s_turn_deeds
  refine V.Spec.enter Tryz.tabOK Tryz.mixed Fn.turn_world_step rfl rfl rfl fun B hB => ?_
  repeat' (with_reducible first | refine OL.st ?_ | refine OL.box ?_ | refine OL.alloc ?_ | refine TC.region ?_ | refine TC.seq ?_ | refine OL.nil ?_ | refine TX.thenN ?_ | fail)
  (with_reducible refine TC.draw (id := 1) true 8 10 ?_ <;> refine OD.st 1 ?_ <;> refine OD.st 2 ?_ <;> refine OD.n2 0 7 ?_ ?_ <;> (first | refine NextBy.at 0 ?_ <;> refine NextBy.c hde Fn.turn_deeds ?_ <;> refine OD.n2 3 7 ?_ ?_ <;> (first | refine NextBy.at 3 ?_ <;> refine NextBy.s ?_ (h := gvLk (.inl ⟨rfl, hv⟩)) <;> refine OD.st 4 ?_ <;> refine OD.st 5 ?_ <;> refine OD.stT 6 ?_ <;> refine OD.al 7 ?_ <;> (refine OD.a1 8 ?_; refine OL.storeAgg ?_; refine OL.nil ?_; refine TX.od ?_) <;> refine OD.st 9 ?_ <;> refine OD.dn ?_ | refine NextBy.at 7 ?_ <;> refine NextBy.al ?_ <;> refine OD.s1 3 ?_ (h := gvLk (.inl ⟨rfl, hv⟩)) <;> refine OD.st 4 ?_ <;> refine OD.st 5 ?_ <;> refine OD.stT 6 ?_ <;> (refine OD.a1 8 ?_; refine OL.storeAgg ?_; refine OL.nil ?_; refine TX.od ?_) <;> refine OD.st 9 ?_ <;> refine OD.dn ?_) | refine NextBy.at 7 ?_ <;> refine NextBy.al ?_ <;> refine OD.c1 0 hde Fn.turn_deeds ?_ <;> refine OD.s1 3 ?_ (h := gvLk (.inl ⟨rfl, hv⟩)) <;> refine OD.st 4 ?_ <;> refine OD.st 5 ?_ <;> refine OD.stT 6 ?_ <;> (refine OD.a1 8 ?_; refine OL.storeAgg ?_; refine OL.nil ?_; refine TX.od ?_) <;> refine OD.st 9 ?_ <;> refine OD.dn ?_))
  all_goals repeat' (with_reducible first | refine OL.st ?_ | refine TC.region ?_ | refine TC.seq ?_ | refine OL.nil ?_ | refine TX.thenN ?_ | refine TC.skip ?_ | refine TC.ifF ?_ | fail)
  all_goals refine OL.chv [0, 1, 2] hmay hfm ?_ (hb := hbm)
  all_goals repeat' (with_reducible first | refine OL.st ?_ | refine TC.region ?_ | refine TC.seq ?_ | refine OL.nil ?_ | refine TX.thenN ?_ | refine TC.skip ?_ | refine TC.ifF ?_ | fail)
  all_goals refine OL.chv [0, 1, 2] hdo hfd ?_ (hb := hbd)
  all_goals repeat' (with_reducible first | refine OL.st ?_ | refine OL.storeAgg ?_ | refine OL.nil ?_ | refine TX.thenN ?_ | refine TC.ret ?_ | fail)
  all_goals exact TX.rs2 [0, 1, 2, 7] (.ren rfl) (.ren rfl)
set_option maxHeartbeats 2000000 in
theorem step_core3 (lz : Bool) (ss2 : List (List Cls)) (ts2 : List Thing) {ss : List (List Cls)} {ts : List Thing} {s : Step} {fm fd : Nat} {gm gd : Func} {rv : Int × Int} (hv : afind s.d deedsE = some (deedA fm fd)) (hfm : Tryz.prog.funcs[fm]? = some gm) (hbm : (gm.body.isNone || gm.name == "runtime.NumGoroutine") = false) (hfd : Tryz.prog.funcs[fd]? = some gd) (hbd : (gd.body.isNone || gd.name == "runtime.NumGoroutine") = false)
    (hmay : V.Spec Tryz.prog fm [.bp 0 0, stepA s] (worldO lz ss ts) (V.int 0) (worldO lz ss ts)) (hdo : V.Spec Tryz.prog fd [.bp 0 0, stepA s] (worldO lz ss ts) (valA rv) (worldO lz ss2 ts2)) :
    V.Spec Tryz.prog Fc.turn_world_step [.bp 0 0, stepA s] (worldO lz ss ts) (.tp [valA rv, V.int 0]) (worldO lz ss2 ts2) := by
  have hde := s_turn_deeds
  refine V.Spec.enter Tryz.tabOK Tryz.mixed Fn.turn_world_step rfl rfl rfl fun B hB => ?_
  repeat' (with_reducible first | refine OL.st ?_ | refine OL.box ?_ | refine OL.alloc ?_ | refine TC.region ?_ | refine TC.seq ?_ | refine OL.nil ?_ | refine TX.thenN ?_ | fail)
  (with_reducible refine TC.draw (id := 1) true 8 10 ?_ <;> refine OD.st 1 ?_ <;> refine OD.st 2 ?_ <;> refine OD.n2 0 7 ?_ ?_ <;> (first | refine NextBy.at 0 ?_ <;> refine NextBy.c hde Fn.turn_deeds ?_ <;> refine OD.n2 3 7 ?_ ?_ <;> (first | refine NextBy.at 3 ?_ <;> refine NextBy.s ?_ (h := gvLk (.inl ⟨rfl, hv⟩)) <;> refine OD.st 4 ?_ <;> refine OD.st 5 ?_ <;> refine OD.stT 6 ?_ <;> refine OD.al 7 ?_ <;> (refine OD.a1 8 ?_; refine OL.storeAgg ?_; refine OL.nil ?_; refine TX.od ?_) <;> refine OD.st 9 ?_ <;> refine OD.dn ?_ | refine NextBy.at 7 ?_ <;> refine NextBy.al ?_ <;> refine OD.s1 3 ?_ (h := gvLk (.inl ⟨rfl, hv⟩)) <;> refine OD.st 4 ?_ <;> refine OD.st 5 ?_ <;> refine OD.stT 6 ?_ <;> (refine OD.a1 8 ?_; refine OL.storeAgg ?_; refine OL.nil ?_; refine TX.od ?_) <;> refine OD.st 9 ?_ <;> refine OD.dn ?_) | refine NextBy.at 7 ?_ <;> refine NextBy.al ?_ <;> refine OD.c1 0 hde Fn.turn_deeds ?_ <;> refine OD.s1 3 ?_ (h := gvLk (.inl ⟨rfl, hv⟩)) <;> refine OD.st 4 ?_ <;> refine OD.st 5 ?_ <;> refine OD.stT 6 ?_ <;> (refine OD.a1 8 ?_; refine OL.storeAgg ?_; refine OL.nil ?_; refine TX.od ?_) <;> refine OD.st 9 ?_ <;> refine OD.dn ?_))
  all_goals repeat' (with_reducible first | refine OL.st ?_ | refine TC.region ?_ | refine TC.seq ?_ | refine OL.nil ?_ | refine TX.thenN ?_ | refine TC.skip ?_ | refine TC.ifF ?_ | fail)
  all_goals refine OL.chv [0, 1, 2] hmay hfm ?_ (hb := hbm)
  all_goals repeat' (with_reducible first | refine OL.st ?_ | refine TC.region ?_ | refine TC.seq ?_ | refine OL.nil ?_ | refine TX.thenN ?_ | refine TC.skip ?_ | refine TC.ifF ?_ | fail)
  all_goals refine OL.chv [0, 1, 2] hdo hfd ?_ (hb := hbd)
  all_goals repeat' (with_reducible first | refine OL.st ?_ | refine OL.storeAgg ?_ | refine OL.nil ?_ | refine TX.thenN ?_ | refine TC.ret ?_ | fail)
  all_goals exact TX.rs2 [0, 1, 2] (.ren rfl) (.ren rfl)
set_option maxHeartbeats 2000000 in
theorem step_core0 (lz : Bool) {ss : List (List Cls)} {ts : List Thing} {s : Step} {fm fd : Nat} {gm : Func} {er : Int} (he : er ≠ 0) (hv : afind s.d deedsE = some (deedA fm fd)) (hfm : Tryz.prog.funcs[fm]? = some gm) (hbm : (gm.body.isNone || gm.name == "runtime.NumGoroutine") = false)
    (hmay : V.Spec Tryz.prog fm [.bp 0 0, stepA s] (worldO lz ss ts) (V.int er) (worldO lz ss ts)) :
    V.Spec Tryz.prog Fc.turn_world_step [.bp 0 0, stepA s] (worldO lz ss ts) (.tp [valA (0, 0), V.int er]) (worldO lz ss ts) := by
  have hde := s_turn_deeds
  refine V.Spec.enter Tryz.tabOK Tryz.mixed Fn.turn_world_step rfl rfl rfl fun B hB => ?_
  repeat' (with_reducible first | refine OL.st ?_ | refine OL.box ?_ | refine OL.alloc ?_ | refine TC.region ?_ | refine TC.seq ?_ | refine OL.nil ?_ | refine TX.thenN ?_ | fail)
  (with_reducible refine TC.draw (id := 1) true 8 10 ?_ <;> refine OD.st 1 ?_ <;> refine OD.st 2 ?_ <;> refine OD.n2 0 7 ?_ ?_ <;> (first | refine NextBy.at 0 ?_ <;> refine NextBy.c hde Fn.turn_deeds ?_ <;> refine OD.n2 3 7 ?_ ?_ <;> (first | refine NextBy.at 3 ?_ <;> refine NextBy.s ?_ (h := gvLk (.inl ⟨rfl, hv⟩)) <;> refine OD.st 4 ?_ <;> refine OD.st 5 ?_ <;> refine OD.stT 6 ?_ <;> refine OD.al 7 ?_ <;> (refine OD.a1 8 ?_; refine OL.storeAgg ?_; refine OL.nil ?_; refine TX.od ?_) <;> refine OD.st 9 ?_ <;> refine OD.dn ?_ | refine NextBy.at 7 ?_ <;> refine NextBy.al ?_ <;> refine OD.s1 3 ?_ (h := gvLk (.inl ⟨rfl, hv⟩)) <;> refine OD.st 4 ?_ <;> refine OD.st 5 ?_ <;> refine OD.stT 6 ?_ <;> (refine OD.a1 8 ?_; refine OL.storeAgg ?_; refine OL.nil ?_; refine TX.od ?_) <;> refine OD.st 9 ?_ <;> refine OD.dn ?_) | refine NextBy.at 7 ?_ <;> refine NextBy.al ?_ <;> refine OD.c1 0 hde Fn.turn_deeds ?_ <;> refine OD.s1 3 ?_ (h := gvLk (.inl ⟨rfl, hv⟩)) <;> refine OD.st 4 ?_ <;> refine OD.st 5 ?_ <;> refine OD.stT 6 ?_ <;> (refine OD.a1 8 ?_; refine OL.storeAgg ?_; refine OL.nil ?_; refine TX.od ?_) <;> refine OD.st 9 ?_ <;> refine OD.dn ?_))
  all_goals repeat' (with_reducible first | refine OL.st ?_ | refine TC.region ?_ | refine TC.seq ?_ | refine OL.nil ?_ | refine TX.thenN ?_ | refine TC.skip ?_ | refine TC.ifF ?_ | fail)
  all_goals refine OL.chv [0, 1, 2] hmay hfm ?_ (hb := hbm)
  all_goals repeat' (with_reducible first | refine OL.st ?_ | refine OL.storeAgg ?_ | refine OL.build ?_ | refine TC.region ?_ | refine TC.seq ?_ | refine OL.nil ?_ | refine TX.thenN ?_ | refine TC.ifD ?_ ?_ <;> (intro hc; try (exfalso; omega)) | refine TC.ret ?_ | refine TX.thenR ?_ | fail)
  all_goals exact TX.rs2 [0, 1, 2] (.ren rfl) (.ren rfl)
set_option maxHeartbeats 2000000 in
theorem step_coreN (lz : Bool) {ss : List (List Cls)} {ts : List Thing} {s : Step} (hv : afind s.d deedsE = none) :
    V.Spec Tryz.prog Fc.turn_world_step [.bp 0 0, stepA s] (worldO lz ss ts) (.tp [valA (0, 0), V.int 2]) (worldO lz ss ts) := by
  have hde := s_turn_deeds
  have hz : ∀ (te : TyE), Tryz.tab Tc.turn_deed = some te → ∀ m w γ, Rep m w γ te.zero (.st [.raw .nilFunc, .raw .nilFunc]) := fun te h m w γ => by
    cases h
    exact .st (vs := [.nilFunc, .nilFunc]) rfl (by simp [Value.oneCell']) fun j v c a b => by
      match j with
      | 0 => simp at a b; subst a b; exact .raw rfl
      | 1 => simp at a b; subst a b; exact .raw rfl
      | j + 2 => simp at a
  refine V.Spec.enter Tryz.tabOK Tryz.mixed Fn.turn_world_step rfl rfl rfl fun B hB => ?_
  repeat' (with_reducible first | refine OL.st ?_ | refine OL.box ?_ | refine OL.alloc ?_ | refine TC.region ?_ | refine TC.seq ?_ | refine OL.nil ?_ | refine TX.thenN ?_ | fail)
  (with_reducible refine TC.draw (id := 1) true 8 10 ?_ <;> refine OD.st 1 ?_ <;> refine OD.st 2 ?_ <;> refine OD.n2 0 7 ?_ ?_ <;> (first | refine NextBy.at 0 ?_ <;> refine NextBy.c hde Fn.turn_deeds ?_ <;> refine OD.n2 3 7 ?_ ?_ <;> (first | refine NextBy.at 3 ?_ <;> refine NextBy.s ?_ (h := gvLk (v := .st [.raw .nilFunc, .raw .nilFunc]) (.inr ⟨rfl, hv, hz _ rfl⟩)) <;> refine OD.st 4 ?_ <;> refine OD.st 5 ?_ <;> refine OD.stT 6 ?_ <;> refine OD.al 7 ?_ <;> (refine OD.a1 8 ?_; refine OL.storeAgg ?_; refine OL.nil ?_; refine TX.od ?_) <;> refine OD.st 9 ?_ <;> refine OD.dn ?_ | refine NextBy.at 7 ?_ <;> refine NextBy.al ?_ <;> refine OD.s1 3 ?_ (h := gvLk (v := .st [.raw .nilFunc, .raw .nilFunc]) (.inr ⟨rfl, hv, hz _ rfl⟩)) <;> refine OD.st 4 ?_ <;> refine OD.st 5 ?_ <;> refine OD.stT 6 ?_ <;> (refine OD.a1 8 ?_; refine OL.storeAgg ?_; refine OL.nil ?_; refine TX.od ?_) <;> refine OD.st 9 ?_ <;> refine OD.dn ?_) | refine NextBy.at 7 ?_ <;> refine NextBy.al ?_ <;> refine OD.c1 0 hde Fn.turn_deeds ?_ <;> refine OD.s1 3 ?_ (h := gvLk (v := .st [.raw .nilFunc, .raw .nilFunc]) (.inr ⟨rfl, hv, hz _ rfl⟩)) <;> refine OD.st 4 ?_ <;> refine OD.st 5 ?_ <;> refine OD.stT 6 ?_ <;> (refine OD.a1 8 ?_; refine OL.storeAgg ?_; refine OL.nil ?_; refine TX.od ?_) <;> refine OD.st 9 ?_ <;> refine OD.dn ?_))
  all_goals repeat' (with_reducible first | refine OL.st ?_ | refine OL.storeAgg ?_ | refine OL.build ?_ | refine TC.region ?_ | refine TC.seq ?_ | refine OL.nil ?_ | refine TX.thenN ?_ | refine TC.ifT ?_ | refine TC.ret ?_ | refine TX.thenR ?_ | fail)
  all_goals exact TX.rs2 [0, 1, 2] (.ren rfl) (.ren rfl)
theorem turn_step_yes (lz : Bool) {ss : List (List Cls)} {ts : List Thing} (h : WOk ss ts) (s : Step) (hk : ShortC s.k) (h0 : refusedE ss ts s = 0) :
    V.Spec Tryz.prog Fc.turn_world_step [.bp 0 0, stepA s] (worldO lz ss ts) (.tp [valA (doR ss ts s), V.int 0]) (stepO lz ss ts s) := by
  have hs := refused_ok h0
  have hd := hs.d
  by_cases d1 : s.d = 1
  · have hm := s_turn_mayMake lz h s hk d1
    have hdo := s_turn_doMake lz h s hk hs d1
    rw [h0] at hm
    rw [stepO, if_pos d1] at hdo ⊢
    exact step_core1 lz _ _ (by rw [d1]; rfl) Fn.turn_world_mayMake rfl Fn.turn_world_doMake rfl hm hdo
  by_cases d2 : s.d = 2
  · have hm := s_turn_mayNew lz h s d2
    have hdo := s_turn_doNew lz h s hs d2
    rw [h0] at hm
    rw [stepO, if_neg d1, if_pos d2] at hdo ⊢
    exact step_core2 lz _ _ (by rw [d2]; rfl) Fn.turn_world_mayNew rfl Fn.turn_world_doNew rfl hm hdo
  have hm := s_turn_mayTouch lz h s (by omega)
  rw [h0] at hm
  by_cases d3 : s.d = 3
  · have hdo := s_turn_doGet lz h s hs d3
    rw [stepO, if_neg d1, if_neg d2] at hdo ⊢
    exact step_core3 lz _ _ (by rw [d3]; rfl) Fn.turn_world_mayTouch rfl Fn.turn_world_doGet rfl hm hdo
  by_cases d4 : s.d = 4
  · have hdo := s_turn_doPut lz h s hs d4
    rw [stepO, if_neg d1, if_neg d2] at hdo ⊢
    exact step_core3 lz _ _ (by rw [d4]; rfl) Fn.turn_world_mayTouch rfl Fn.turn_world_doPut rfl hm hdo
  by_cases d5 : s.d = 5
  · have hdo := s_turn_doTo lz h s hs d5
    rw [stepO, if_neg d1, if_neg d2] at hdo ⊢
    exact step_core3 lz _ _ (by rw [d5]; rfl) Fn.turn_world_mayTouch rfl Fn.turn_world_doTo rfl hm hdo
  have d6 : s.d = 6 := by omega
  have hdo := s_turn_doTouch lz h s hs d6
  rw [stepO, if_neg d1, if_neg d2] at hdo ⊢
  exact step_core3 lz _ _ (by rw [d6]; rfl) Fn.turn_world_mayTouch rfl Fn.turn_world_doTouch rfl hm hdo
theorem turn_step_no (lz : Bool) {ss : List (List Cls)} {ts : List Thing} (h : WOk ss ts) (s : Step) (hk : ShortC s.k) (h0 : refusedE ss ts s ≠ 0) :
    V.Spec Tryz.prog Fc.turn_world_step [.bp 0 0, stepA s] (worldO lz ss ts) (.tp [valA (0, 0), V.int (refusedE ss ts s)]) (worldO lz ss ts) := by
  by_cases d1 : s.d = 1
  · exact step_core0 lz h0 (fd := Fc.turn_world_doMake) (by rw [d1]; rfl) Fn.turn_world_mayMake rfl (s_turn_mayMake lz h s hk d1)
  by_cases d2 : s.d = 2
  · exact step_core0 lz h0 (fd := Fc.turn_world_doNew) (by rw [d2]; rfl) Fn.turn_world_mayNew rfl (s_turn_mayNew lz h s d2)
  by_cases d3 : s.d = 3
  · exact step_core0 lz h0 (fd := Fc.turn_world_doGet) (by rw [d3]; rfl) Fn.turn_world_mayTouch rfl (s_turn_mayTouch lz h s (by omega))
  by_cases d4 : s.d = 4
  · exact step_core0 lz h0 (fd := Fc.turn_world_doPut) (by rw [d4]; rfl) Fn.turn_world_mayTouch rfl (s_turn_mayTouch lz h s (by omega))
  by_cases d5 : s.d = 5
  · exact step_core0 lz h0 (fd := Fc.turn_world_doTo) (by rw [d5]; rfl) Fn.turn_world_mayTouch rfl (s_turn_mayTouch lz h s (by omega))
  by_cases d6 : s.d = 6
  · exact step_core0 lz h0 (fd := Fc.turn_world_doTouch) (by rw [d6]; rfl) Fn.turn_world_mayTouch rfl (s_turn_mayTouch lz h s (by omega))
  have e : refusedE ss ts s = 2 := by rw [refusedE, if_neg d1, if_neg d2, if_neg (by omega), if_neg d5, if_neg d6]
  rw [e]
  refine step_coreN lz ?_
  have hb : ∀ n : Int, s.d ≠ n → (s.d == n) = false := fun n hn => by simpa using hn
  simp only [afind, hb 1 d1, hb 2 d2, hb 3 d3, hb 4 d4, hb 5 d5, hb 6 d6]
  rfl
end Go.Proofs
