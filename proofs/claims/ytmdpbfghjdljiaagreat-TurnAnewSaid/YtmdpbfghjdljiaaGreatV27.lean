/- Part 27 of what the claim is proved by: lemmas on the model and walks through functions of the program; no conditions. -/
import Derived.Test.YtmdpbfghjdljiaaGreatV26
namespace Go.Proofs
open Go Go.W Go.V
theorem relP_thing (x : Thing) : RelP (thingA x) := by
  intro y hy
  simp only [List.mem_cons, List.not_mem_nil, or_false] at hy
  rcases hy with rfl | rfl | rfl
  · trivial
  · trivial
  · intro z hz
    obtain ⟨v, _, rfl⟩ := List.mem_map.1 hz
    exact ⟨⟨_, _, _, rfl⟩, fun y hy => by
      simp only [AV.cells, List.mem_cons, List.not_mem_nil, or_false] at hy
      rcases hy with rfl | rfl <;> exact ⟨_, rfl⟩⟩
theorem noInt_schE (ss : List (List Cls)) : ∀ x ∈ ss.map schE, x.cells.all noInt = true := fun x hx => by
  obtain ⟨l, _, rfl⟩ := List.mem_map.1 hx
  rfl
set_option maxHeartbeats 2000000 in
theorem s_turn_touch (lz : Bool) {ss : List (List Cls)} {ts : List Thing} (hsb : schemasB ss = true) {n : Nat} (hn : n < ts.length) (hx : TOk ss ts[n]) :
    V.Spec Tryz.prog Fc.turn_world_touch [.bp 0 0, V.int n] (worldO lz ss ts) (.gp 2 3 n 0) (worldO lz ss (ts.set n (freshT ss ts[n]))) := by
  have hfr := s_turn_fresh lz hsb hx
  have e : (ts.map thingA).set n (thingA (freshT ss ts[n])) = (ts.set n (freshT ss ts[n])).map thingA := List.map_set.symm
  have hl : (ts.set n (freshT ss ts[n])).length = ts.length := List.length_set
  refine V.Spec.enter Tryz.tabOK Tryz.mixed Fn.turn_world_touch rfl rfl rfl fun B hB => ?_
  repeat' (with_reducible first | refine OL.st ?_ | refine TC.region ?_ | refine TC.seq ?_ | refine OL.nil ?_ | refine TX.thenN ?_ | fail)
  (with_reducible refine TC.draw (id := 1) false 16 16 ?_ <;> refine OD.st 0 ?_ <;> refine OD.st 1 ?_ <;> refine OD.st 2 ?_ <;> refine OD.st 4 ?_ <;> refine OD.st 5 ?_ <;> refine OD.st 6 ?_ <;> refine OD.st 7 ?_ <;> refine OD.st 8 ?_ <;> refine OD.st 10 ?_ <;> refine OD.n2 3 9 ?_ ?_) <;> (first | (with_reducible refine NextBy.at 3 ?_ <;> refine NextBy.s ?_ <;> refine OD.s1 9 ?_ <;> refine OD.st 11 ?_ <;> refine OD.s1 12 ?_) <;> ((with_reducible refine OD.a1 13 ?_); refine OL.lendI (WkI.trans (WkI.viewCell (i := 0) (o := 1) (k := 1) (by with_unfolding_all exact rfl) (by with_unfolding_all exact rfl) (by with_unfolding_all exact rfl) (noInt_schE ss)) (WkI.frzBox (t := 10) (i := 0) (by with_unfolding_all exact rfl) (by with_unfolding_all exact rfl) (by with_unfolding_all exact rfl))) hfr Fn.turn_world_fresh (relP_thing _) ?_; refine OL.nil ?_; refine TX.od ?_) <;> (with_reducible refine OD.st 14 ?_ <;> (refine OD.a1 15 ?_; refine OL.storeEA ?_; refine OL.nil ?_; refine TX.od ?_) <;> refine OD.dn ?_) | (with_reducible refine NextBy.at 9 ?_ <;> refine NextBy.s ?_ <;> refine OD.st 11 ?_ <;> refine OD.n2 3 12 ?_ ?_) <;> (first | (with_reducible refine NextBy.at 3 ?_ <;> refine NextBy.s ?_ <;> refine OD.s1 12 ?_) <;> ((with_reducible refine OD.a1 13 ?_); refine OL.lendI (WkI.trans (WkI.viewCell (i := 0) (o := 1) (k := 1) (by with_unfolding_all exact rfl) (by with_unfolding_all exact rfl) (by with_unfolding_all exact rfl) (noInt_schE ss)) (WkI.frzBox (t := 10) (i := 0) (by with_unfolding_all exact rfl) (by with_unfolding_all exact rfl) (by with_unfolding_all exact rfl))) hfr Fn.turn_world_fresh (relP_thing _) ?_; refine OL.nil ?_; refine TX.od ?_) <;> (with_reducible refine OD.st 14 ?_ <;> (refine OD.a1 15 ?_; refine OL.storeEA ?_; refine OL.nil ?_; refine TX.od ?_) <;> refine OD.dn ?_) | (with_reducible refine NextBy.at 12 ?_ <;> refine NextBy.s ?_ <;> refine OD.n2 3 13 ?_ ?_) <;> (first | (with_reducible refine NextBy.at 3 ?_ <;> refine NextBy.s ?_) <;> ((with_reducible refine OD.a1 13 ?_); refine OL.lendI (WkI.trans (WkI.viewCell (i := 0) (o := 1) (k := 1) (by with_unfolding_all exact rfl) (by with_unfolding_all exact rfl) (by with_unfolding_all exact rfl) (noInt_schE ss)) (WkI.frzBox (t := 10) (i := 0) (by with_unfolding_all exact rfl) (by with_unfolding_all exact rfl) (by with_unfolding_all exact rfl))) hfr Fn.turn_world_fresh (relP_thing _) ?_; refine OL.nil ?_; refine TX.od ?_) <;> (with_reducible refine OD.st 14 ?_ <;> (refine OD.a1 15 ?_; refine OL.storeEA ?_; refine OL.nil ?_; refine TX.od ?_) <;> refine OD.dn ?_) | (with_reducible refine NextBy.at 13 ?_) <;> ((with_reducible refine NextBy.a ?_); refine OL.lendI (WkI.trans (WkI.viewCell (i := 0) (o := 1) (k := 1) (by with_unfolding_all exact rfl) (by with_unfolding_all exact rfl) (by with_unfolding_all exact rfl) (noInt_schE ss)) (WkI.frzBox (t := 10) (i := 0) (by with_unfolding_all exact rfl) (by with_unfolding_all exact rfl) (by with_unfolding_all exact rfl))) hfr Fn.turn_world_fresh (relP_thing _) ?_; refine OL.nil ?_; refine TX.od ?_) <;> (with_reducible refine OD.s1 3 ?_ <;> refine OD.st 14 ?_ <;> (refine OD.a1 15 ?_; refine OL.storeEA ?_; refine OL.nil ?_; refine TX.od ?_) <;> refine OD.dn ?_))))
  all_goals refine TX.eqG 2 e ?_
  all_goals generalize ts.set n (freshT ss ts[n]) = t2 at *
  all_goals repeat' (with_reducible first | refine OL.st ?_ | refine TC.region ?_ | refine TC.seq ?_ | refine OL.nil ?_ | refine TX.thenN ?_ | refine TC.ret ?_ | fail)
  all_goals exact TX.rt1 [0, 1, 2] (.ren rfl)
theorem WOk.settled {ss : List (List Cls)} {ts : List Thing} (h : WOk ss ts) (k : Nat) : ∀ x ∈ (ts.take k).map (freshT ss) ++ ts.drop k, TOk ss x := fun x hx => by
  rcases List.mem_append.1 hx with hx | hx
  · obtain ⟨y, hy, rfl⟩ := List.mem_map.1 hx
    exact (h.tk y (List.mem_of_mem_take hy)).fresh h.sb
  · exact h.tk x (List.mem_of_mem_drop hx)
theorem settle_step {f : Thing → Thing} {ts : List Thing} {k : Nat} (hk : k < ts.length) (hl : k < ((ts.take k).map f ++ ts.drop k).length) :
    ((ts.take k).map f ++ ts.drop k).set k (f ((ts.take k).map f ++ ts.drop k)[k]) = (ts.take (k + 1)).map f ++ ts.drop (k + 1) := by
  have e : ((ts.take k).map f ++ ts.drop k)[k] = ts[k] := by
    rw [List.getElem_append_right (by simp; omega)]
    simp only [List.getElem_drop]
    congr 1; simp; omega
  rw [e, List.set_append_right _ _ (by simp; omega), drop_cons hk, take_succ hk, List.map_append, List.append_assoc]
  congr 1
  rw [show k - ((ts.take k).map f).length = 0 by simp; omega]
  rfl
set_option maxHeartbeats 1000000 in
theorem s_turn_settle (lz : Bool) {ss : List (List Cls)} {ts : List Thing} (h : WOk ss ts) : V.Spec Tryz.prog Fc.turn_world_settle [.bp 0 0] (worldO lz ss ts) (.tp []) (worldO lz ss (ts.map (freshT ss))) := by
  have h40 := h.n40
  refine V.Spec.enter Tryz.tabOK Tryz.mixed Fn.turn_world_settle rfl rfl rfl fun B hB => ?_
  repeat' (with_reducible first | refine OL.st ?_ | refine TC.region ?_ | refine TC.seq ?_ | refine OL.nil ?_ | refine TX.thenN ?_ | refine TC.block ?_ | fail)
  refine TC.lp (fun k : Nat => [(0, .bp 0 0), (7, V.int ts.length), (8, V.int k)]) (fun k => worldO lz ss ((ts.take k).map (freshT ss) ++ ts.drop k)) (fun k => k ≤ ts.length) (fun k => ts.length - k) 0 [0, 1, 2] (Nat.zero_le _) ?_
  rintro k hk
  by_cases hkl : k < ts.length
  · have hl : k < ((ts.take k).map (freshT ss) ++ ts.drop k).length := by simp; omega
    have hto := s_turn_touch lz h.sb hl (h.settled k _ (List.getElem_mem _))
    rw [settle_step hkl hl] at hto
    generalize (ts.take k).map (freshT ss) ++ ts.drop k = t1 at *
    repeat' (with_reducible first | refine OL.st ?_ | refine TC.region ?_ | refine TC.seq ?_ | refine OL.nil ?_ | refine TX.thenN ?_ | refine TC.block ?_ | refine TC.skip ?_ | refine TC.ifD ?_ ?_ <;> (intro hc; try (exfalso; omega)) | fail)
    refine OL.ch [0, 1, 2] hto Fn.turn_world_touch ?_
    repeat' (with_reducible first | refine OL.st ?_ | refine TC.region ?_ | refine OL.nil ?_ | refine TX.thenN ?_ | refine TX.blkN ?_ | fail)
    exact TX.rd (k + 1) [0, 1, 2] (by omega) (by omega)
  · obtain rfl : k = ts.length := by omega
    rw [List.take_length, List.drop_length, List.append_nil]
    generalize ts.map (freshT ss) = t1 at *
    repeat' (with_reducible first | refine OL.st ?_ | refine TC.region ?_ | refine TC.seq ?_ | refine OL.nil ?_ | refine TX.thenN ?_ | refine TC.exit ?_ | refine TX.hit ?_ | refine TX.thenX ?_ | refine TC.ifD ?_ ?_ <;> (intro hc; try (exfalso; omega)) | refine TX.end_ ?_ | fail)
    exact TX.rt0 [0, 1, 2]
theorem s_each_CCO (l : List Cls) (hb : l.length * 72 ≤ 140737488355328) : V.Spec Tryz.prog Fc.turn_each_api_BindClass_api_BindClass [clssA l, funC Tryz.prog (· ∈ l) (fun c => clsA (id c))] [] (.hs 0) [.gs false Tc.api_BindClass 3 none (l.map clsA)] := by
  refine V.Spec.enter Tryz.tabOK Tryz.mixed Fn.turn_each_api_BindClass_api_BindClass rfl rfl rfl fun B hB => ?_
  repeat' (with_reducible first | refine OL.st ?_ | refine TC.region ?_ | refine TC.seq ?_ | refine OL.nil ?_ | refine TX.thenN ?_ | refine TC.block ?_ | fail)
  refine TC.adp 5 Tc.api_BindClass 3 ?_
  refine TC.lp (fun k : Nat => [(1, funC Tryz.prog (· ∈ l) (fun c => clsA (id c))), (5, .hs 0), (8, clssA l), (9, V.int l.length), (10, V.int k)]) (fun k => [.gs false Tc.api_BindClass 3 none ((l.take k).map clsA)]) (fun k => k ≤ l.length) (fun k => l.length - k) 0 [0] (Nat.zero_le _) ?_
  rintro k hk
  by_cases hkl : k < l.length
  · have hlen : (l.take k).length = k := by simp; omega
    have e : (l.take k).map clsA ++ [clsA (id l[k])] = (l.take (k + 1)).map clsA := by rw [take_succ hkl, List.map_append]; rfl
    generalize l.take k = gk at *
    repeat' (with_reducible first | refine OL.st ?_ | refine OL.alloc ?_ | refine OL.storeAgg ?_ | refine TC.region ?_ | refine TC.seq ?_ | refine OL.nil ?_ | refine TX.thenN ?_ | refine TC.block ?_ | refine TC.skip ?_ | refine TC.ifD ?_ ?_ <;> (intro hc; try (exfalso; omega)) | fail)
    refine OL.cf l[k] (List.getElem_mem _) ?_
    repeat' (with_reducible first | refine OL.st ?_ | refine OL.lit ?_ | refine OL.appO ?_ | refine TC.region ?_ | refine OL.nil ?_ | refine TX.thenN ?_ | refine TX.blkN ?_ | fail)
    exact TX.rd (k + 1) [3] (by omega) (by omega)
  · rw [take_all (by omega)]
    repeat' (with_reducible first | refine OL.st ?_ | refine TC.region ?_ | refine TC.seq ?_ | refine OL.nil ?_ | refine TX.thenN ?_ | refine TC.exit ?_ | refine TX.hit ?_ | refine TX.thenX ?_ | refine TC.ifD ?_ ?_ <;> (intro hc; try (exfalso; omega)) | refine TC.ret ?_ | fail)
    exact TX.rt1 [0] (.ren rfl)
set_option maxHeartbeats 1000000 in
theorem s_turn_made (lz : Bool) {ss : List (List Cls)} {ts : List Thing} (h : WOk ss ts) (s : Step) (hk : ShortC s.k) (hc : 3 ≤ s.c ∧ s.c ≤ 3 + ((lastS ss).length : Int)) :
    V.Spec Tryz.prog Fc.turn_world_made [.bp 0 0, stepA s] (worldO lz ss ts) (clssA (madeV (lastS ss) s.c s.k)) (worldO lz ss ts) := by
  obtain ⟨n1, n12, lg, lsh, _⟩ := h.last
  obtain ⟨l10, lf⟩ := goodB_fine lg
  have hlw := turn_last_w n1 n12
  have hle := last_schE n1
  have hea := s_each_CCO (lastS ss) lsh.1
  have hcp := s_turn_copied s.k hk.1 hk.2.1 hk.2.2
  rw [madeV]
  generalize lastS ss = L at *
  refine V.Spec.enter Tryz.tabOK Tryz.mixed Fn.turn_world_made rfl rfl rfl fun B hB => ?_
  repeat' (with_reducible first | refine OL.st ?_ | refine OL.box ?_ | refine TC.region ?_ | refine TC.seq ?_ | refine OL.nil ?_ | refine TX.thenN ?_ | fail)
  refine OL.elem (ss.length - 1) hlw Fn.turn_world_last hle ?_
  repeat' (first | (with_reducible refine OL.st ?_) | fail)
  refine OL.c hea Fn.turn_each_api_BindClass_api_BindClass ?_ (hle := by exact ⟨.ren rfl, LE.fun_ (first' := []) (caps' := []) Fn.turn_copied rfl trivial trivial (fun x hx => s_turn_copied x (lsh.2 x hx).1 (lsh.2 x hx).2.1 (lsh.2 x hx).2.2), trivial⟩)
  by_cases he : s.c - 3 = (L.length : Int)
  · rw [if_pos he]
    repeat' (with_reducible first | refine OL.st ?_ | refine TC.region ?_ | refine TC.seq ?_ | refine OL.nil ?_ | refine TX.thenN ?_ | refine TC.ifD ?_ ?_ <;> (intro hc; try (exfalso; omega)) | fail)
    refine OL.c hcp Fn.turn_copied ?_
    repeat' (with_reducible first | refine OL.st ?_ | refine OL.lit ?_ | refine OL.appO ?_ | refine OL.nil ?_ | refine TX.thenN ?_ | refine TC.ret ?_ | refine TX.thenR ?_ | fail)
    rw [map_snoc]
    refine TX.vw 4 ?_
    exact TX.rt1 [0, 1, 2] (.ren rfl)
  · rw [if_neg he]
    repeat' (with_reducible first | refine OL.st ?_ | refine TC.region ?_ | refine TC.seq ?_ | refine OL.nil ?_ | refine TX.thenN ?_ | refine TC.skip ?_ | refine TC.ifD ?_ ?_ <;> (intro hc; try (exfalso; omega)) | fail)
    (with_reducible refine TC.draw (id := 4) false 9 9 ?_ <;> refine OD.st 0 ?_ <;> refine OD.st 1 ?_ <;> refine OD.st 4 ?_ <;> refine OD.n2 2 5 ?_ ?_ <;> (first | refine NextBy.at 2 ?_ <;> refine NextBy.s ?_ <;> refine OD.st 3 ?_ <;> refine OD.s1 5 ?_ (h := gvM) <;> refine OD.c1 6 hcp Fn.turn_copied ?_ <;> refine OD.st 7 ?_ <;> (refine OD.a1 8 ?_; refine OL.storeEA ?_; refine OL.nil ?_; refine TX.od ?_) <;> refine OD.dn ?_ | refine NextBy.at 5 ?_ <;> refine NextBy.s ?_ (h := gvM) <;> refine OD.n2 2 6 ?_ ?_ <;> (first | refine NextBy.at 2 ?_ <;> refine NextBy.s ?_ <;> refine OD.st 3 ?_ <;> refine OD.c1 6 hcp Fn.turn_copied ?_ <;> refine OD.st 7 ?_ <;> (refine OD.a1 8 ?_; refine OL.storeEA ?_; refine OL.nil ?_; refine TX.od ?_) <;> refine OD.dn ?_ | refine NextBy.at 6 ?_ <;> refine NextBy.c hcp Fn.turn_copied ?_ <;> refine OD.s1 2 ?_ <;> refine OD.st 3 ?_ <;> refine OD.st 7 ?_ <;> (refine OD.a1 8 ?_; refine OL.storeEA ?_; refine OL.nil ?_; refine TX.od ?_) <;> refine OD.dn ?_)))
    all_goals repeat' (with_reducible first | refine OL.st ?_ | refine TC.region ?_ | refine TC.seq ?_ | refine OL.nil ?_ | refine TX.thenN ?_ | refine TC.ret ?_ | fail)
    all_goals refine TX.vw 4 ?_
    all_goals exact TX.rt1 [0, 1, 2] (.sl' (by rw [List.map_set]))
theorem contains_placeN (n : Int) : ∀ (l : List Int) (k : Int), 0 ≤ k → (l.contains n = true ↔ 0 ≤ placeN l n k)
  | [], k, _ => by simp [placeN]
  | x :: r, k, hk => by
    rw [placeN]
    by_cases e : x = n
    · subst e; simp [hk]
    · rw [if_neg e, ← contains_placeN n r (k + 1) (by omega)]
      simp only [List.contains_eq_mem, List.mem_cons, decide_eq_true_eq]
      exact ⟨fun h => h.resolve_left (fun h => e h.symm), .inr⟩
set_option maxHeartbeats 2000000 in
theorem s_turn_mayMake (lz : Bool) {ss : List (List Cls)} {ts : List Thing} (h : WOk ss ts) (s : Step) (hk : ShortC s.k) (d1 : s.d = 1) :
    V.Spec Tryz.prog Fc.turn_world_mayMake [.bp 0 0, stepA s] (worldO lz ss ts) (V.int (refusedE ss ts s)) (worldO lz ss ts) := by
  obtain ⟨n1, n12, lg, lsh, _⟩ := h.last
  obtain ⟨l10, lf⟩ := goodB_fine lg
  have hlw := turn_last_w n1 n12
  have hle := last_schE n1
  have hcs := s_turn_class (lastS ss) s.c (by omega)
  have hmd : 3 ≤ s.c ∧ s.c ≤ 3 + ((lastS ss).length : Int) → _ := s_turn_made lz h s hk
  have hrd := s_turn_read (madeV (lastS ss) s.c s.k) (madeV_short lsh l10 hk)
  rw [readA] at hrd
  have howd : ownB (lastS ss).length s.c = true ↔ 3 ≤ s.c ∧ s.c < 3 + ((lastS ss).length : Int) := by rw [ownB, Bool.and_eq_true, decide_eq_true_eq, decide_eq_true_eq]
  rw [refusedE, if_pos d1]
  generalize lastS ss = L at *
  refine V.Spec.enter Tryz.tabOK Tryz.mixed Fn.turn_world_mayMake rfl rfl rfl fun B hB => ?_
  by_cases hcc : s.c = 3 + (L.length : Int) ∨ ownB L.length s.c = true
  · have hmd := hmd (by rw [howd] at hcc; omega)
    rw [if_pos hcc]
    by_cases h12 : 12 ≤ ss.length
    · rw [if_pos h12]
      cases ho : ownB L.length s.c
      all_goals (try (have hc3 : s.c = 3 + (L.length : Int) := by rw [ho] at hcc; simpa using hcc))
      all_goals rw [ho] at hcs
      all_goals repeat' (with_reducible first | refine OL.st ?_ | refine OL.box ?_ | refine TC.region ?_ | refine TC.seq ?_ | refine OL.nil ?_ | refine TX.thenN ?_ | fail)
      all_goals (with_reducible refine TC.draw (id := 1) true 18 18 ?_ <;> refine OD.st 0 ?_ <;> refine OD.st 2 ?_ <;> refine OD.st 3 ?_ <;> refine OD.e1 1 (ss.length - 1) hlw Fn.turn_world_last hle ?_ <;> refine OD.c1 4 hcs Fn.turn_schema_class ?_ <;> refine OD.st 5 ?_ <;> refine OD.st 6 ?_ <;> (first | refine OD.st 7 ?_ | refine OD.of 7 ?_) <;> (first | refine OD.st 8 ?_ | refine OD.of 8 ?_) <;> (first | refine OD.st 9 ?_ | refine OD.of 9 ?_) <;> (first | refine OD.e1 10 (ss.length - 1) hlw Fn.turn_world_last hle ?_ | refine OD.of 10 ?_) <;> (first | refine OD.st 11 ?_ | refine OD.of 11 ?_) <;> (first | refine OD.st 12 ?_ | refine OD.of 12 ?_) <;> (first | refine OD.st 13 ?_ | refine OD.of 13 ?_) <;> (first | refine OD.st 14 ?_ | refine OD.of 14 ?_) <;> (first | refine OD.st 15 ?_ | refine OD.of 15 ?_) <;> (first | refine OD.st 16 ?_ | refine OD.of 16 ?_) <;> refine OD.st 17 ?_ <;> refine OD.dn ?_)
      all_goals repeat' (with_reducible first | refine OL.st ?_ | refine TC.region ?_ | refine TC.seq ?_ | refine OL.nil ?_ | refine TX.thenN ?_ | refine TC.skip ?_ | refine TC.ifF ?_ | refine TC.ifD ?_ ?_ <;> (intro hc; try (exfalso; omega)) | refine TC.ret ?_ | refine TX.thenR ?_ | fail)
      all_goals exact TX.rt1 [0, 1, 2] (.ren rfl)
    · rw [if_neg h12]
      cases hgd : goodB (madeV L s.c s.k)
      all_goals rw [hgd] at hrd
      all_goals (try rw [if_pos rfl] at hrd)
      all_goals (try rw [if_neg Bool.false_ne_true] at hrd)
      all_goals cases ho : ownB L.length s.c
      all_goals (try (have hc3 : s.c = 3 + (L.length : Int) := by rw [ho] at hcc; simpa using hcc))
      all_goals rw [ho] at hcs
      all_goals repeat' (with_reducible first | refine OL.st ?_ | refine OL.box ?_ | refine TC.region ?_ | refine TC.seq ?_ | refine OL.nil ?_ | refine TX.thenN ?_ | fail)
      all_goals (with_reducible refine TC.draw (id := 1) true 18 18 ?_ <;> refine OD.st 0 ?_ <;> refine OD.st 2 ?_ <;> refine OD.st 3 ?_ <;> refine OD.e1 1 (ss.length - 1) hlw Fn.turn_world_last hle ?_ <;> refine OD.c1 4 hcs Fn.turn_schema_class ?_ <;> refine OD.st 5 ?_ <;> refine OD.st 6 ?_ <;> (first | refine OD.st 7 ?_ | refine OD.of 7 ?_) <;> (first | refine OD.st 8 ?_ | refine OD.of 8 ?_) <;> (first | refine OD.st 9 ?_ | refine OD.of 9 ?_) <;> (first | refine OD.e1 10 (ss.length - 1) hlw Fn.turn_world_last hle ?_ | refine OD.of 10 ?_) <;> (first | refine OD.st 11 ?_ | refine OD.of 11 ?_) <;> (first | refine OD.st 12 ?_ | refine OD.of 12 ?_) <;> (first | refine OD.st 13 ?_ | refine OD.of 13 ?_) <;> (first | refine OD.st 14 ?_ | refine OD.of 14 ?_) <;> (first | refine OD.st 15 ?_ | refine OD.of 15 ?_) <;> (first | refine OD.st 16 ?_ | refine OD.of 16 ?_) <;> refine OD.st 17 ?_ <;> refine OD.dn ?_)
      all_goals repeat' (with_reducible first | refine OL.st ?_ | refine TC.region ?_ | refine TC.seq ?_ | refine OL.nil ?_ | refine TX.thenN ?_ | refine TC.skip ?_ | refine TC.ifF ?_ | refine TC.ifD ?_ ?_ <;> (intro hc; try (exfalso; omega)) | fail)
      all_goals refine OL.ch [0, 1, 2] hmd Fn.turn_world_made ?_
      all_goals skip
      all_goals refine OL.c hrd Fn.turn_read ?_
      all_goals repeat' (with_reducible first | refine OL.st ?_ | refine TC.region ?_ | refine TC.seq ?_ | refine OL.nil ?_ | refine TX.thenN ?_ | refine TC.skip ?_ | refine TC.ifT ?_ | refine TC.ifF ?_ | refine TC.ret ?_ | refine TX.thenR ?_ | fail)
      all_goals exact TX.rt1 [0, 1, 2] (.ren rfl)
  · rw [if_neg hcc]
    have hc1 : ¬ s.c = 3 + (L.length : Int) := fun h => hcc (.inl h)
    have ho : ownB L.length s.c = false := by cases q : ownB L.length s.c with
      | false => rfl
      | true => exact absurd (.inr q) hcc
    rw [ho] at hcs
    repeat' (with_reducible first | refine OL.st ?_ | refine OL.box ?_ | refine TC.region ?_ | refine TC.seq ?_ | refine OL.nil ?_ | refine TX.thenN ?_ | fail)
    (with_reducible refine TC.draw (id := 1) true 18 18 ?_ <;> refine OD.st 0 ?_ <;> refine OD.st 2 ?_ <;> refine OD.st 3 ?_ <;> refine OD.e1 1 (ss.length - 1) hlw Fn.turn_world_last hle ?_ <;> refine OD.c1 4 hcs Fn.turn_schema_class ?_ <;> refine OD.st 5 ?_ <;> refine OD.st 6 ?_ <;> refine OD.st 7 ?_ <;> refine OD.st 8 ?_ <;> refine OD.st 9 ?_ <;> refine OD.e1 10 (ss.length - 1) hlw Fn.turn_world_last hle ?_ <;> refine OD.st 11 ?_ <;> refine OD.st 12 ?_ <;> refine OD.st 13 ?_ <;> refine OD.st 14 ?_ <;> refine OD.st 15 ?_ <;> refine OD.st 16 ?_ <;> refine OD.st 17 ?_ <;> refine OD.dn ?_)
    repeat' (with_reducible first | refine OL.st ?_ | refine TC.region ?_ | refine TC.seq ?_ | refine OL.nil ?_ | refine TX.thenN ?_ | refine TC.ifD ?_ ?_ <;> (intro hc; try (exfalso; omega)) | refine TC.ret ?_ | refine TX.thenR ?_ | fail)
    exact TX.rt1 [0, 1, 2] (.ren rfl)
end Go.Proofs
