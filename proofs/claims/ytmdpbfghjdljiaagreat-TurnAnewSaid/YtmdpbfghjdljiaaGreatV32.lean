/- Part 32 of what the claim is proved by: lemmas on the model and walks through functions of the program; no conditions. -/
import Derived.Test.YtmdpbfghjdljiaaGreatV24
import Derived.Test.YtmdpbfghjdljiaaGreatV12
namespace Go.Proofs
open Go Go.W Go.V
set_option maxHeartbeats 2000000 in
theorem s_ref17_DoOf_1 (lz : Bool) {ss : List (List Cls)} {ts : List Thing} (h : WOk ss ts) (s : Step) (hk : ShortC s.k) (hs : StOk ss ts s) (d1 : s.d = 1) :
    V.Spec Tryz.prog Fc.ref17_DoOf [wlA lz ss ts, stepA s] [] (.tp [wlA lz (doS ss s) (doT lz ss ts s), valA (doR ss ts s)]) [] := by
  obtain ⟨n1, n12, lg, lsh, lix⟩ := h.last
  obtain ⟨l10, lf⟩ := goodB_fine lg
  have lix := lix _ rfl (by omega)
  have h40 := h.n40
  obtain ⟨m1, m2, m3⟩ := hs.m d1
  have hcp := s_ref17_Copy lz h.sh n12 (by omega) (fun x hx => (h.tk x hx).short h.sb)
  have hmd := s_ref17_made lsh l10 s hk m1
  have hsb' : schemasB (ss ++ [madeV (lastS ss) s.c s.k]) = true := schemasB_snoc h.sb m2 m3 madeV_length.1
  have hsh' : ∀ x ∈ ss ++ [madeV (lastS ss) s.c s.k], Short x := fun x hx => by
    rw [List.mem_append, List.mem_singleton] at hx
    rcases hx with hx | rfl
    · exact h.sh x hx
    · exact madeV_short lsh l10 hk
  have hse := s_ref17_SettleOf false hsh' hsb' h40 (fun x hx => (h.tk x hx).snoc _)
  have e1 : doS ss s = ss ++ [madeV (lastS ss) s.c s.k] := by rw [doS, if_pos d1]
  rw [doT, if_pos d1, doR, if_pos d1, e1]
  generalize madeV (lastS ss) s.c s.k = mk at *
  cases lz
  · refine V.Spec.enter Tryz.tabOK Tryz.mixed Fn.ref17_DoOf rfl rfl rfl fun B hB => ?_
    repeat' (with_reducible first | refine OL.st ?_ | refine OL.box ?_ | refine OL.alloc ?_ | refine TC.region ?_ | refine TC.seq ?_ | refine OL.nil ?_ | refine TX.thenN ?_ | fail)
    refine OL.c hcp Fn.ref17_Copy ?_
    repeat' (with_reducible first | refine OL.st ?_ | refine OL.alloc ?_ | refine OL.storeAgg ?_ | refine OL.build ?_ | refine TC.region ?_ | refine TC.seq ?_ | refine OL.nil ?_ | refine TX.thenN ?_ | refine TC.block ?_ | refine TC.ifD ?_ ?_ <;> (intro hc; try (exfalso; omega)) | fail)
    simp only [lix]
    skip
    (with_reducible refine TC.draw (id := 7) false 9 9 ?_ <;> refine OD.st 0 ?_ <;> refine OD.st 2 ?_ <;> refine OD.n2 1 3 ?_ ?_ <;> (first | refine NextBy.at 1 ?_ <;> refine NextBy.s ?_ <;> refine OD.s1 3 ?_ <;> refine OD.c1 4 hmd Fn.ref17_made ?_ <;> (refine OD.a1 5 ?_; refine OL.lit ?_; refine OL.nil ?_; refine TX.od ?_) <;> (refine OD.a1 6 ?_; refine OL.appO ?_; refine OL.nil ?_; refine TX.od ?_) <;> refine OD.st 7 ?_ <;> (refine OD.a1 8 ?_; refine OL.store ?_; refine OL.nil ?_; refine TX.od ?_) <;> refine OD.dn ?_ | refine NextBy.at 3 ?_ <;> refine NextBy.s ?_ <;> refine OD.n2 1 4 ?_ ?_ <;> (first | refine NextBy.at 1 ?_ <;> refine NextBy.s ?_ <;> refine OD.c1 4 hmd Fn.ref17_made ?_ <;> (refine OD.a1 5 ?_; refine OL.lit ?_; refine OL.nil ?_; refine TX.od ?_) <;> (refine OD.a1 6 ?_; refine OL.appO ?_; refine OL.nil ?_; refine TX.od ?_) <;> refine OD.st 7 ?_ <;> (refine OD.a1 8 ?_; refine OL.store ?_; refine OL.nil ?_; refine TX.od ?_) <;> refine OD.dn ?_ | refine NextBy.at 4 ?_ <;> refine NextBy.c hmd Fn.ref17_made ?_ <;> refine OD.n2 1 5 ?_ ?_ <;> (first | refine NextBy.at 1 ?_ <;> refine NextBy.s ?_ <;> (refine OD.a1 5 ?_; refine OL.lit ?_; refine OL.nil ?_; refine TX.od ?_) <;> (refine OD.a1 6 ?_; refine OL.appO ?_; refine OL.nil ?_; refine TX.od ?_) <;> refine OD.st 7 ?_ <;> (refine OD.a1 8 ?_; refine OL.store ?_; refine OL.nil ?_; refine TX.od ?_) <;> refine OD.dn ?_ | refine NextBy.at 5 ?_ <;> (refine NextBy.a ?_; refine OL.lit ?_; refine OL.nil ?_; refine TX.od ?_) <;> refine OD.s1 1 ?_ <;> (refine OD.a1 6 ?_; refine OL.appO ?_; refine OL.nil ?_; refine TX.od ?_) <;> refine OD.st 7 ?_ <;> (refine OD.a1 8 ?_; refine OL.store ?_; refine OL.nil ?_; refine TX.od ?_) <;> refine OD.dn ?_))))
    all_goals rw [map_snoc]
    all_goals repeat' (with_reducible first | refine OL.st ?_ | refine TC.region ?_ | refine TC.seq ?_ | refine OL.nil ?_ | refine TX.thenN ?_ | refine TC.ifT ?_ | fail)
    all_goals refine OL.vwS 41 1 ?_
    all_goals refine OL.vwS 41 2 ?_
    all_goals refine OL.c hse Fn.ref17_SettleOf ?_
    all_goals repeat' (with_reducible first | refine OL.storeAgg ?_ | refine TC.seq ?_ | refine OL.nil ?_ | refine TX.thenN ?_ | fail)
    all_goals refine TC.vwC 6 1 ?_
    all_goals refine TC.vwC 6 2 ?_
    all_goals (with_reducible refine TC.draw (id := 10) false 4 4 ?_ <;> refine OD.n2 0 1 ?_ ?_ <;> (first | refine NextBy.at 0 ?_ <;> refine NextBy.s ?_ <;> refine OD.n2 1 2 ?_ ?_ <;> (first | refine NextBy.at 1 ?_ <;> refine NextBy.s ?_ <;> (refine OD.a1 2 ?_; refine OL.storeAgg ?_; refine OL.nil ?_; refine TX.od ?_) <;> (refine OD.a1 3 ?_; refine OL.storeAgg ?_; refine OL.nil ?_; refine TX.od ?_) <;> refine OD.dn ?_ | refine NextBy.at 2 ?_ <;> (refine NextBy.a ?_; refine OL.storeAgg ?_; refine OL.nil ?_; refine TX.od ?_) <;> refine OD.s1 1 ?_ <;> (refine OD.a1 3 ?_; refine OL.storeAgg ?_; refine OL.nil ?_; refine TX.od ?_) <;> refine OD.dn ?_) | refine NextBy.at 1 ?_ <;> refine NextBy.s ?_ <;> refine OD.s1 0 ?_ <;> (refine OD.a1 2 ?_; refine OL.storeAgg ?_; refine OL.nil ?_; refine TX.od ?_) <;> (refine OD.a1 3 ?_; refine OL.storeAgg ?_; refine OL.nil ?_; refine TX.od ?_) <;> refine OD.dn ?_))
    all_goals repeat' (with_reducible first | refine TX.thenN ?_ | refine TC.ret ?_ | refine TX.thenR ?_ | refine TX.blkR ?_ | fail)
    all_goals exact TX.rs2 [] (.ren rfl) (.ren rfl)
  · refine V.Spec.enter Tryz.tabOK Tryz.mixed Fn.ref17_DoOf rfl rfl rfl fun B hB => ?_
    repeat' (with_reducible first | refine OL.st ?_ | refine OL.box ?_ | refine OL.alloc ?_ | refine TC.region ?_ | refine TC.seq ?_ | refine OL.nil ?_ | refine TX.thenN ?_ | fail)
    refine OL.c hcp Fn.ref17_Copy ?_
    repeat' (with_reducible first | refine OL.st ?_ | refine OL.alloc ?_ | refine OL.storeAgg ?_ | refine OL.build ?_ | refine TC.region ?_ | refine TC.seq ?_ | refine OL.nil ?_ | refine TX.thenN ?_ | refine TC.block ?_ | refine TC.ifD ?_ ?_ <;> (intro hc; try (exfalso; omega)) | fail)
    simp only [lix]
    skip
    (with_reducible refine TC.draw (id := 7) false 9 9 ?_ <;> refine OD.st 0 ?_ <;> refine OD.st 2 ?_ <;> refine OD.n2 1 3 ?_ ?_ <;> (first | refine NextBy.at 1 ?_ <;> refine NextBy.s ?_ <;> refine OD.s1 3 ?_ <;> refine OD.c1 4 hmd Fn.ref17_made ?_ <;> (refine OD.a1 5 ?_; refine OL.lit ?_; refine OL.nil ?_; refine TX.od ?_) <;> (refine OD.a1 6 ?_; refine OL.appO ?_; refine OL.nil ?_; refine TX.od ?_) <;> refine OD.st 7 ?_ <;> (refine OD.a1 8 ?_; refine OL.store ?_; refine OL.nil ?_; refine TX.od ?_) <;> refine OD.dn ?_ | refine NextBy.at 3 ?_ <;> refine NextBy.s ?_ <;> refine OD.n2 1 4 ?_ ?_ <;> (first | refine NextBy.at 1 ?_ <;> refine NextBy.s ?_ <;> refine OD.c1 4 hmd Fn.ref17_made ?_ <;> (refine OD.a1 5 ?_; refine OL.lit ?_; refine OL.nil ?_; refine TX.od ?_) <;> (refine OD.a1 6 ?_; refine OL.appO ?_; refine OL.nil ?_; refine TX.od ?_) <;> refine OD.st 7 ?_ <;> (refine OD.a1 8 ?_; refine OL.store ?_; refine OL.nil ?_; refine TX.od ?_) <;> refine OD.dn ?_ | refine NextBy.at 4 ?_ <;> refine NextBy.c hmd Fn.ref17_made ?_ <;> refine OD.n2 1 5 ?_ ?_ <;> (first | refine NextBy.at 1 ?_ <;> refine NextBy.s ?_ <;> (refine OD.a1 5 ?_; refine OL.lit ?_; refine OL.nil ?_; refine TX.od ?_) <;> (refine OD.a1 6 ?_; refine OL.appO ?_; refine OL.nil ?_; refine TX.od ?_) <;> refine OD.st 7 ?_ <;> (refine OD.a1 8 ?_; refine OL.store ?_; refine OL.nil ?_; refine TX.od ?_) <;> refine OD.dn ?_ | refine NextBy.at 5 ?_ <;> (refine NextBy.a ?_; refine OL.lit ?_; refine OL.nil ?_; refine TX.od ?_) <;> refine OD.s1 1 ?_ <;> (refine OD.a1 6 ?_; refine OL.appO ?_; refine OL.nil ?_; refine TX.od ?_) <;> refine OD.st 7 ?_ <;> (refine OD.a1 8 ?_; refine OL.store ?_; refine OL.nil ?_; refine TX.od ?_) <;> refine OD.dn ?_))))
    all_goals rw [map_snoc]
    all_goals repeat' (with_reducible first | refine OL.st ?_ | refine TC.region ?_ | refine TC.seq ?_ | refine OL.nil ?_ | refine TX.thenN ?_ | refine TC.skip ?_ | refine TC.ifF ?_ | fail)
    all_goals refine TC.vwC 6 1 ?_
    all_goals refine TC.vwC 6 2 ?_
    all_goals (with_reducible refine TC.draw (id := 10) false 4 4 ?_ <;> refine OD.n2 0 1 ?_ ?_ <;> (first | refine NextBy.at 0 ?_ <;> refine NextBy.s ?_ <;> refine OD.n2 1 2 ?_ ?_ <;> (first | refine NextBy.at 1 ?_ <;> refine NextBy.s ?_ <;> (refine OD.a1 2 ?_; refine OL.storeAgg ?_; refine OL.nil ?_; refine TX.od ?_) <;> (refine OD.a1 3 ?_; refine OL.storeAgg ?_; refine OL.nil ?_; refine TX.od ?_) <;> refine OD.dn ?_ | refine NextBy.at 2 ?_ <;> (refine NextBy.a ?_; refine OL.storeAgg ?_; refine OL.nil ?_; refine TX.od ?_) <;> refine OD.s1 1 ?_ <;> (refine OD.a1 3 ?_; refine OL.storeAgg ?_; refine OL.nil ?_; refine TX.od ?_) <;> refine OD.dn ?_) | refine NextBy.at 1 ?_ <;> refine NextBy.s ?_ <;> refine OD.s1 0 ?_ <;> (refine OD.a1 2 ?_; refine OL.storeAgg ?_; refine OL.nil ?_; refine TX.od ?_) <;> (refine OD.a1 3 ?_; refine OL.storeAgg ?_; refine OL.nil ?_; refine TX.od ?_) <;> refine OD.dn ?_))
    all_goals repeat' (with_reducible first | refine TX.thenN ?_ | refine TC.ret ?_ | refine TX.thenR ?_ | refine TX.blkR ?_ | fail)
    all_goals exact TX.rs2 [] (.ren rfl) (.ren rfl)
set_option maxHeartbeats 2000000 in
theorem s_ref17_DoOf_2 (lz : Bool) {ss : List (List Cls)} {ts : List Thing} (h : WOk ss ts) (s : Step) (hs : StOk ss ts s) (d2 : s.d = 2) :
    V.Spec Tryz.prog Fc.ref17_DoOf [wlA lz ss ts, stepA s] [] (.tp [wlA lz (doS ss s) (doT lz ss ts s), valA (doR ss ts s)]) [] := by
  obtain ⟨n1, n12, lg, lsh, lix⟩ := h.last
  obtain ⟨l10, lf⟩ := goodB_fine lg
  have lix := lix _ rfl (by omega)
  have h40 := h.n40
  obtain ⟨m1, m2⟩ := hs.n d2
  have hcp := s_ref17_Copy lz h.sh n12 (by omega) (fun x hx => (h.tk x hx).short h.sb)
  obtain ⟨c, hc⟩ : ∃ c : Nat, s.c = (c : Int) := ⟨s.c.toNat, by omega⟩
  have htu := s_ref17_turned lf (c := c) (slots := []) (vals := []) (by omega) (by simp)
  have e1 : doS ss s = ss := by rw [doS, if_neg (by omega)]
  have e2 : newT ss s = (s.c, (ss.length : Int) - 1, turnedV (lastS ss) c [] []) := by rw [newT, hc, Int.toNat_natCast]
  rw [doT, if_neg (by omega), if_pos d2, doR, if_neg (by omega), if_pos d2, e1, e2]
  rw [← hc] at htu
  generalize lastS ss = L at *
  generalize turnedV L c [] [] = tv at *
  obtain ⟨t2, ht2⟩ : ∃ t2, t2 = ts ++ [(s.c, (ss.length : Int) - 1, tv)] := ⟨_, rfl⟩
  have hl2 : t2.length = ts.length + 1 := by rw [ht2]; simp
  have e4 : ts.map thingA ++ [thingA (s.c, (ss.length : Int) - 1, tv)] = t2.map thingA := by rw [ht2]; exact map_snoc _ _ _
  rw [← ht2, show ((ts.length : Nat) : Int) = (t2.length : Int) - 1 by omega]
  refine V.Spec.enter Tryz.tabOK Tryz.mixed Fn.ref17_DoOf rfl rfl rfl fun B hB => ?_
  repeat' (with_reducible first | refine OL.st ?_ | refine OL.box ?_ | refine OL.alloc ?_ | refine TC.region ?_ | refine TC.seq ?_ | refine OL.nil ?_ | refine TX.thenN ?_ | fail)
  refine OL.c hcp Fn.ref17_Copy ?_
  repeat' (with_reducible first | refine OL.st ?_ | refine OL.alloc ?_ | refine OL.storeAgg ?_ | refine OL.build ?_ | refine TC.region ?_ | refine TC.seq ?_ | refine OL.nil ?_ | refine TX.thenN ?_ | refine TC.block ?_ | refine TC.ifD ?_ ?_ <;> (intro hc; try (exfalso; omega)) | fail)
  simp only [lix]
  skip
  (with_reducible refine TC.draw (id := 12) true 9 10 ?_ <;> refine OD.st 0 ?_ <;> refine OD.st 1 ?_ <;> refine OD.st 2 ?_ <;> refine OD.st 3 ?_ <;> refine OD.st 4 ?_ <;> refine OD.st 5 ?_ <;> refine OD.n2 6 8 ?_ ?_ <;> (first | refine NextBy.at 6 ?_ <;> refine NextBy.c htu Fn.ref17_turned ?_ <;> refine OD.n2 7 8 ?_ ?_ <;> (first | refine NextBy.at 7 ?_ <;> refine NextBy.s ?_ (h := gvBuild) <;> refine OD.al 8 ?_ <;> (refine OD.a1 9 ?_; refine OL.storeAgg ?_; refine OL.nil ?_; refine TX.od ?_) <;> refine OD.dn ?_ | refine NextBy.at 8 ?_ <;> refine NextBy.al ?_ <;> refine OD.s1 7 ?_ (h := gvBuild) <;> (refine OD.a1 9 ?_; refine OL.storeAgg ?_; refine OL.nil ?_; refine TX.od ?_) <;> refine OD.dn ?_) | refine NextBy.at 8 ?_ <;> refine NextBy.al ?_ <;> refine OD.c1 6 htu Fn.ref17_turned ?_ <;> refine OD.s1 7 ?_ (h := gvBuild) <;> (refine OD.a1 9 ?_; refine OL.storeAgg ?_; refine OL.nil ?_; refine TX.od ?_) <;> refine OD.dn ?_))
  all_goals repeat' (with_reducible first | refine OL.st ?_ | refine OL.store ?_ | refine OL.lit ?_ | refine OL.appO ?_ | refine TC.region ?_ | refine TC.seq ?_ | refine OL.nil ?_ | refine TX.thenN ?_ | fail)
  all_goals refine TC.eqG 10 e4 ?_
  all_goals refine TC.vwC 6 1 ?_
  all_goals refine TC.vwC 6 2 ?_
  all_goals (with_reducible refine TC.draw (id := 14) false 8 8 ?_ <;> refine OD.st 1 ?_ <;> refine OD.n2 0 2 ?_ ?_ <;> (first | refine NextBy.at 0 ?_ <;> refine NextBy.s ?_ <;> refine OD.n2 2 6 ?_ ?_ <;> (first | refine NextBy.at 2 ?_ <;> refine NextBy.s ?_ <;> refine OD.st 3 ?_ <;> refine OD.st 4 ?_ <;> refine OD.n2 5 6 ?_ ?_ <;> (first | refine NextBy.at 5 ?_ <;> refine NextBy.s ?_ (h := gvBuild) <;> (refine OD.a1 6 ?_; refine OL.storeAgg ?_; refine OL.nil ?_; refine TX.od ?_) <;> (refine OD.a1 7 ?_; refine OL.storeAgg ?_; refine OL.nil ?_; refine TX.od ?_) <;> refine OD.dn ?_ | refine NextBy.at 6 ?_ <;> (refine NextBy.a ?_; refine OL.storeAgg ?_; refine OL.nil ?_; refine TX.od ?_) <;> refine OD.s1 5 ?_ (h := gvBuild) <;> (refine OD.a1 7 ?_; refine OL.storeAgg ?_; refine OL.nil ?_; refine TX.od ?_) <;> refine OD.dn ?_) | refine NextBy.at 6 ?_ <;> (refine NextBy.a ?_; refine OL.storeAgg ?_; refine OL.nil ?_; refine TX.od ?_) <;> refine OD.s1 2 ?_ <;> refine OD.st 3 ?_ <;> refine OD.st 4 ?_ <;> refine OD.s1 5 ?_ (h := gvBuild) <;> (refine OD.a1 7 ?_; refine OL.storeAgg ?_; refine OL.nil ?_; refine TX.od ?_) <;> refine OD.dn ?_) | refine NextBy.at 2 ?_ <;> refine NextBy.s ?_ <;> refine OD.st 3 ?_ <;> refine OD.st 4 ?_ <;> refine OD.n2 0 5 ?_ ?_ <;> (first | refine NextBy.at 0 ?_ <;> refine NextBy.s ?_ <;> refine OD.n2 5 6 ?_ ?_ <;> (first | refine NextBy.at 5 ?_ <;> refine NextBy.s ?_ (h := gvBuild) <;> (refine OD.a1 6 ?_; refine OL.storeAgg ?_; refine OL.nil ?_; refine TX.od ?_) <;> (refine OD.a1 7 ?_; refine OL.storeAgg ?_; refine OL.nil ?_; refine TX.od ?_) <;> refine OD.dn ?_ | refine NextBy.at 6 ?_ <;> (refine NextBy.a ?_; refine OL.storeAgg ?_; refine OL.nil ?_; refine TX.od ?_) <;> refine OD.s1 5 ?_ (h := gvBuild) <;> (refine OD.a1 7 ?_; refine OL.storeAgg ?_; refine OL.nil ?_; refine TX.od ?_) <;> refine OD.dn ?_) | refine NextBy.at 5 ?_ <;> refine NextBy.s ?_ (h := gvBuild) <;> refine OD.s1 0 ?_ <;> (refine OD.a1 6 ?_; refine OL.storeAgg ?_; refine OL.nil ?_; refine TX.od ?_) <;> (refine OD.a1 7 ?_; refine OL.storeAgg ?_; refine OL.nil ?_; refine TX.od ?_) <;> refine OD.dn ?_)))
  all_goals repeat' (with_reducible first | refine TX.thenN ?_ | refine TC.ret ?_ | refine TX.thenR ?_ | refine TX.blkR ?_ | fail)
  all_goals exact TX.rs2 [] (.ren rfl) (.ren rfl)
set_option maxHeartbeats 2000000 in
theorem s_ref17_DoOf_3 (lz : Bool) {ss : List (List Cls)} {ts : List Thing} (h : WOk ss ts) (s : Step) (hs : StOk ss ts s) (d : s.d = 3) :
    V.Spec Tryz.prog Fc.ref17_DoOf [wlA lz ss ts, stepA s] [] (.tp [wlA lz (doS ss s) (doT lz ss ts s), valA (doR ss ts s)]) [] := by
  obtain ⟨n1, n12, lg, lsh, lix⟩ := h.last
  obtain ⟨l10, lf⟩ := goodB_fine lg
  have lix := lix _ rfl (by omega)
  have h40 := h.n40
  have ht := hs.t (by omega)
  have hcp := s_ref17_Copy lz h.sh n12 (by omega) (fun x hx => (h.tk x hx).short h.sb)
  have hul := upT_len h ht
  obtain ⟨s0, c, x1, x2, x3, x4, x5, x6⟩ := h.tk _ (thAt_mem ht)
  have hcl := schemasB_le h.sb (i := s0) (ss.length - 1) (by omega) (by omega)
  have hth : ∀ hi : s.th.toNat < ts.length, ts[s.th.toNat] = ((c : Int), (s0 : Int), (thAt ts s.th).2.2) := fun hi => by
    rw [show ts[s.th.toNat] = thAt ts s.th from (getD_lt hi).symm]
    exact Prod.ext x2 (Prod.ext x1 rfl)
  have hth := hth (by omega)
  have hfr := s_ref17_Fresh lz ts h.sb x3 x5 x6
  rw [← hth] at hfr
  have hff : upT ss ts s = ((c : Int), (ss.length : Int) - 1, freshV ss c (ss.length - 1 - s0) s0 (thAt ts s.th).2.2) := by rw [upT, freshT, x2, x1]; simp
  have hsa : slotAt ss ts s = placeN (slotsOf (lastS ss) c) s.sl 0 := by rw [slotAt, hff, Int.toNat_natCast]
  have hc2 : c < 3 + (lastS ss).length := by rw [lastS]; omega
  have hso := s_ref17_SlotsOf lf hc2
  have hpl := s_ref17_place (slotsOf (lastS ss) c) s.sl
  have hpn := placeN_lt (slotsOf (lastS ss) c) s.sl
  have e1 : doS ss s = ss := by rw [doS, if_neg (by omega)]
  rw [doT, if_neg (by omega), if_neg (by omega), e1]
  rw [hff, Int.toNat_natCast] at hul
  dsimp only at hul
  have hg := hs.g (.inl d)
  rw [x2, Int.toNat_natCast] at hg
  rw [doR, if_neg (by omega), if_neg (by omega), if_pos d, putT, if_neg (by omega), if_neg (by omega), hsa, hff]
  generalize freshV ss c (ss.length - 1 - s0) s0 (thAt ts s.th).2.2 = fv0 at *
  have e5 : (ts.map thingA).set s.th.toNat (.st [V.int c, V.int ((ss.length : Int) - 1), .sl 2 none (fv0.map valA)]) = (ts.set s.th.toNat ((c : Int), (ss.length : Int) - 1, fv0)).map thingA := by rw [List.map_set]
  generalize lastS ss = L at *
  generalize placeN (slotsOf L c) s.sl 0 = pl at *
  have hgd : fv0.getD pl.toNat (0, 0) = fv0[pl.toNat]'(by omega) := getD_lt (by omega)
  rw [hgd]
  refine V.Spec.enter Tryz.tabOK Tryz.mixed Fn.ref17_DoOf rfl rfl rfl fun B hB => ?_
  repeat' (with_reducible first | refine OL.st ?_ | refine OL.box ?_ | refine OL.alloc ?_ | refine TC.region ?_ | refine TC.seq ?_ | refine OL.nil ?_ | refine TX.thenN ?_ | fail)
  refine OL.c hcp Fn.ref17_Copy ?_
  repeat' (with_reducible first | refine OL.st ?_ | refine OL.alloc ?_ | refine OL.storeAgg ?_ | refine OL.build ?_ | refine TC.region ?_ | refine TC.seq ?_ | refine OL.nil ?_ | refine TX.thenN ?_ | refine TC.block ?_ | refine TC.skip ?_ | refine TX.blkN ?_ | refine TC.ifD ?_ ?_ <;> (intro hc; try (exfalso; omega)) | fail)
  simp only [lix]
  skip
  all_goals (with_reducible refine TC.draw (id := 15) true 9 10 ?_ <;> refine OD.st 0 ?_ <;> refine OD.st 1 ?_ <;> refine OD.st 2 ?_ <;> refine OD.st 3 ?_ <;> refine OD.st 4 ?_ <;> refine OD.st 5 ?_ <;> refine OD.st 6 ?_ <;> refine OD.n2 7 8 ?_ ?_ <;> (first | refine NextBy.at 7 ?_ <;> refine NextBy.c hfr Fn.ref17_Fresh ?_ <;> refine OD.al 8 ?_ <;> (refine OD.a1 9 ?_; refine OL.storeAgg ?_; refine OL.nil ?_; refine TX.od ?_) <;> refine OD.dn ?_ | refine NextBy.at 8 ?_ <;> refine NextBy.al ?_ <;> refine OD.c1 7 hfr Fn.ref17_Fresh ?_ <;> (refine OD.a1 9 ?_; refine OL.storeAgg ?_; refine OL.nil ?_; refine TX.od ?_) <;> refine OD.dn ?_))
  all_goals repeat' (first | (with_reducible refine TC.seq ?_) | (with_reducible refine TX.thenN ?_) | fail)
  all_goals (with_reducible refine TC.draw (id := 16) true 8 8 ?_ <;> refine OD.st 0 ?_ <;> refine OD.st 1 ?_ <;> refine OD.st 2 ?_ <;> refine OD.st 4 ?_ <;> refine OD.st 5 ?_ <;> refine OD.c1 3 hso Fn.ref17_SlotsOf ?_ <;> refine OD.c1 6 hpl Fn.ref17_place ?_ <;> refine OD.st 7 ?_ <;> refine OD.dn ?_)
  all_goals repeat' (with_reducible first | refine OL.st ?_ | refine OL.alloc ?_ | refine OL.storeAgg ?_ | refine OL.build ?_ | refine TC.region ?_ | refine TC.seq ?_ | refine OL.nil ?_ | refine TX.thenN ?_ | refine TC.block ?_ | refine TX.blkN ?_ | refine TC.ifD ?_ ?_ <;> (intro hc; try (exfalso; omega)) | fail)
  all_goals refine OL.vwS 123 2 ?_
  all_goals refine OL.storeEA ?_
  all_goals refine OL.eqG 5 e5 ?_
  all_goals repeat' (with_reducible first | refine TC.seq ?_ | refine OL.nil ?_ | refine TX.thenN ?_ | fail)
  all_goals refine TC.vwC 6 1 ?_
  all_goals refine TC.vwC 6 2 ?_
  all_goals (with_reducible refine TC.draw (id := 28) false 4 4 ?_ <;> refine OD.n2 0 1 ?_ ?_ <;> (first | refine NextBy.at 0 ?_ <;> refine NextBy.s ?_ <;> refine OD.n2 1 2 ?_ ?_ <;> (first | refine NextBy.at 1 ?_ <;> refine NextBy.s ?_ <;> (refine OD.a1 2 ?_; refine OL.storeAgg ?_; refine OL.nil ?_; refine TX.od ?_) <;> (refine OD.a1 3 ?_; refine OL.storeAgg ?_; refine OL.nil ?_; refine TX.od ?_) <;> refine OD.dn ?_ | refine NextBy.at 2 ?_ <;> (refine NextBy.a ?_; refine OL.storeAgg ?_; refine OL.nil ?_; refine TX.od ?_) <;> refine OD.s1 1 ?_ <;> (refine OD.a1 3 ?_; refine OL.storeAgg ?_; refine OL.nil ?_; refine TX.od ?_) <;> refine OD.dn ?_) | refine NextBy.at 1 ?_ <;> refine NextBy.s ?_ <;> refine OD.s1 0 ?_ <;> (refine OD.a1 2 ?_; refine OL.storeAgg ?_; refine OL.nil ?_; refine TX.od ?_) <;> (refine OD.a1 3 ?_; refine OL.storeAgg ?_; refine OL.nil ?_; refine TX.od ?_) <;> refine OD.dn ?_))
  all_goals repeat' (first | (with_reducible refine TX.thenN ?_) | (with_reducible refine TC.ret ?_) | fail)
  all_goals exact TX.rs2 [] (.ren rfl) (.ren rfl)
set_option maxHeartbeats 2000000 in
theorem s_ref17_DoOf_4 (lz : Bool) {ss : List (List Cls)} {ts : List Thing} (h : WOk ss ts) (s : Step) (hs : StOk ss ts s) (d : s.d = 4) :
    V.Spec Tryz.prog Fc.ref17_DoOf [wlA lz ss ts, stepA s] [] (.tp [wlA lz (doS ss s) (doT lz ss ts s), valA (doR ss ts s)]) [] := by
  obtain ⟨n1, n12, lg, lsh, lix⟩ := h.last
  obtain ⟨l10, lf⟩ := goodB_fine lg
  have lix := lix _ rfl (by omega)
  have h40 := h.n40
  have ht := hs.t (by omega)
  have hcp := s_ref17_Copy lz h.sh n12 (by omega) (fun x hx => (h.tk x hx).short h.sb)
  have hul := upT_len h ht
  obtain ⟨s0, c, x1, x2, x3, x4, x5, x6⟩ := h.tk _ (thAt_mem ht)
  have hcl := schemasB_le h.sb (i := s0) (ss.length - 1) (by omega) (by omega)
  have hth : ∀ hi : s.th.toNat < ts.length, ts[s.th.toNat] = ((c : Int), (s0 : Int), (thAt ts s.th).2.2) := fun hi => by
    rw [show ts[s.th.toNat] = thAt ts s.th from (getD_lt hi).symm]
    exact Prod.ext x2 (Prod.ext x1 rfl)
  have hth := hth (by omega)
  have hfr := s_ref17_Fresh lz ts h.sb x3 x5 x6
  rw [← hth] at hfr
  have hff : upT ss ts s = ((c : Int), (ss.length : Int) - 1, freshV ss c (ss.length - 1 - s0) s0 (thAt ts s.th).2.2) := by rw [upT, freshT, x2, x1]; simp
  have hsa : slotAt ss ts s = placeN (slotsOf (lastS ss) c) s.sl 0 := by rw [slotAt, hff, Int.toNat_natCast]
  have hc2 : c < 3 + (lastS ss).length := by rw [lastS]; omega
  have hso := s_ref17_SlotsOf lf hc2
  have hpl := s_ref17_place (slotsOf (lastS ss) c) s.sl
  have hpn := placeN_lt (slotsOf (lastS ss) c) s.sl
  have e1 : doS ss s = ss := by rw [doS, if_neg (by omega)]
  rw [doT, if_neg (by omega), if_neg (by omega), e1]
  rw [hff, Int.toNat_natCast] at hul
  dsimp only at hul
  have hg := hs.g (.inr d)
  rw [x2, Int.toNat_natCast] at hg
  rw [doR, if_neg (by omega), if_neg (by omega), if_neg (by omega), if_pos d, putT, if_pos d, hsa, hff]
  generalize freshV ss c (ss.length - 1 - s0) s0 (thAt ts s.th).2.2 = fv at *
  have e5 : (ts.map thingA).set s.th.toNat (.st [V.int c, V.int ((ss.length : Int) - 1), .sl 2 none ((fv.map valA).set (placeN (slotsOf (lastS ss) c) s.sl 0).toNat (valA s.v))]) = (ts.set s.th.toNat ((c : Int), (ss.length : Int) - 1, fv.set (placeN (slotsOf (lastS ss) c) s.sl 0).toNat s.v)).map thingA := by
    rw [← List.map_set (f := valA), List.map_set (f := thingA)]
  generalize lastS ss = L at *
  generalize placeN (slotsOf L c) s.sl 0 = pl at *
  refine V.Spec.enter Tryz.tabOK Tryz.mixed Fn.ref17_DoOf rfl rfl rfl fun B hB => ?_
  repeat' (with_reducible first | refine OL.st ?_ | refine OL.box ?_ | refine OL.alloc ?_ | refine TC.region ?_ | refine TC.seq ?_ | refine OL.nil ?_ | refine TX.thenN ?_ | fail)
  refine OL.c hcp Fn.ref17_Copy ?_
  repeat' (with_reducible first | refine OL.st ?_ | refine OL.alloc ?_ | refine OL.storeAgg ?_ | refine OL.build ?_ | refine TC.region ?_ | refine TC.seq ?_ | refine OL.nil ?_ | refine TX.thenN ?_ | refine TC.block ?_ | refine TC.skip ?_ | refine TX.blkN ?_ | refine TC.ifD ?_ ?_ <;> (intro hc; try (exfalso; omega)) | fail)
  simp only [lix]
  skip
  all_goals (with_reducible refine TC.draw (id := 15) true 9 10 ?_ <;> refine OD.st 0 ?_ <;> refine OD.st 1 ?_ <;> refine OD.st 2 ?_ <;> refine OD.st 3 ?_ <;> refine OD.st 4 ?_ <;> refine OD.st 5 ?_ <;> refine OD.st 6 ?_ <;> refine OD.n2 7 8 ?_ ?_ <;> (first | refine NextBy.at 7 ?_ <;> refine NextBy.c hfr Fn.ref17_Fresh ?_ <;> refine OD.al 8 ?_ <;> (refine OD.a1 9 ?_; refine OL.storeAgg ?_; refine OL.nil ?_; refine TX.od ?_) <;> refine OD.dn ?_ | refine NextBy.at 8 ?_ <;> refine NextBy.al ?_ <;> refine OD.c1 7 hfr Fn.ref17_Fresh ?_ <;> (refine OD.a1 9 ?_; refine OL.storeAgg ?_; refine OL.nil ?_; refine TX.od ?_) <;> refine OD.dn ?_))
  all_goals repeat' (first | (with_reducible refine TC.seq ?_) | (with_reducible refine TX.thenN ?_) | fail)
  all_goals (with_reducible refine TC.draw (id := 16) true 8 8 ?_ <;> refine OD.st 0 ?_ <;> refine OD.st 1 ?_ <;> refine OD.st 2 ?_ <;> refine OD.st 4 ?_ <;> refine OD.st 5 ?_ <;> refine OD.c1 3 hso Fn.ref17_SlotsOf ?_ <;> refine OD.c1 6 hpl Fn.ref17_place ?_ <;> refine OD.st 7 ?_ <;> refine OD.dn ?_)
  all_goals repeat' (with_reducible first | refine OL.st ?_ | refine OL.alloc ?_ | refine OL.storeAgg ?_ | refine OL.build ?_ | refine TC.region ?_ | refine TC.seq ?_ | refine OL.nil ?_ | refine TX.thenN ?_ | refine TC.block ?_ | refine TC.ifD ?_ ?_ <;> (intro hc; try (exfalso; omega)) | refine OL.ldM ?_ | fail)
  all_goals refine OL.storeEA ?_
  all_goals repeat' (with_reducible first | refine OL.st ?_ | refine TC.region ?_ | refine TC.seq ?_ | refine OL.nil ?_ | refine TX.thenN ?_ | refine TX.blkN ?_ | fail)
  all_goals refine OL.vwS 123 2 ?_
  all_goals refine OL.storeEA ?_
  all_goals refine OL.eqG 5 e5 ?_
  all_goals repeat' (with_reducible first | refine TC.seq ?_ | refine OL.nil ?_ | refine TX.thenN ?_ | fail)
  all_goals refine TC.vwC 6 1 ?_
  all_goals refine TC.vwC 6 2 ?_
  all_goals (with_reducible refine TC.draw (id := 28) false 4 4 ?_ <;> refine OD.n2 0 1 ?_ ?_ <;> (first | refine NextBy.at 0 ?_ <;> refine NextBy.s ?_ <;> refine OD.n2 1 2 ?_ ?_ <;> (first | refine NextBy.at 1 ?_ <;> refine NextBy.s ?_ <;> (refine OD.a1 2 ?_; refine OL.storeAgg ?_; refine OL.nil ?_; refine TX.od ?_) <;> (refine OD.a1 3 ?_; refine OL.storeAgg ?_; refine OL.nil ?_; refine TX.od ?_) <;> refine OD.dn ?_ | refine NextBy.at 2 ?_ <;> (refine NextBy.a ?_; refine OL.storeAgg ?_; refine OL.nil ?_; refine TX.od ?_) <;> refine OD.s1 1 ?_ <;> (refine OD.a1 3 ?_; refine OL.storeAgg ?_; refine OL.nil ?_; refine TX.od ?_) <;> refine OD.dn ?_) | refine NextBy.at 1 ?_ <;> refine NextBy.s ?_ <;> refine OD.s1 0 ?_ <;> (refine OD.a1 2 ?_; refine OL.storeAgg ?_; refine OL.nil ?_; refine TX.od ?_) <;> (refine OD.a1 3 ?_; refine OL.storeAgg ?_; refine OL.nil ?_; refine TX.od ?_) <;> refine OD.dn ?_))
  all_goals repeat' (first | (with_reducible refine TX.thenN ?_) | (with_reducible refine TC.ret ?_) | fail)
  all_goals exact TX.rs2 [] (.ren rfl) (.ren rfl)
set_option maxHeartbeats 2000000 in
theorem s_ref17_DoOf_5 (lz : Bool) {ss : List (List Cls)} {ts : List Thing} (h : WOk ss ts) (s : Step) (hs : StOk ss ts s) (d : s.d = 5) :
    V.Spec Tryz.prog Fc.ref17_DoOf [wlA lz ss ts, stepA s] [] (.tp [wlA lz (doS ss s) (doT lz ss ts s), valA (doR ss ts s)]) [] := by
  obtain ⟨n1, n12, lg, lsh, lix⟩ := h.last
  obtain ⟨l10, lf⟩ := goodB_fine lg
  have lix := lix _ rfl (by omega)
  have h40 := h.n40
  have ht := hs.t (by omega)
  have hcp := s_ref17_Copy lz h.sh n12 (by omega) (fun x hx => (h.tk x hx).short h.sb)
  have hul := upT_len h ht
  obtain ⟨s0, c, x1, x2, x3, x4, x5, x6⟩ := h.tk _ (thAt_mem ht)
  have hcl := schemasB_le h.sb (i := s0) (ss.length - 1) (by omega) (by omega)
  have hth : ∀ hi : s.th.toNat < ts.length, ts[s.th.toNat] = ((c : Int), (s0 : Int), (thAt ts s.th).2.2) := fun hi => by
    rw [show ts[s.th.toNat] = thAt ts s.th from (getD_lt hi).symm]
    exact Prod.ext x2 (Prod.ext x1 rfl)
  have hth := hth (by omega)
  have hfr := s_ref17_Fresh lz ts h.sb x3 x5 x6
  rw [← hth] at hfr
  have hff : upT ss ts s = ((c : Int), (ss.length : Int) - 1, freshV ss c (ss.length - 1 - s0) s0 (thAt ts s.th).2.2) := by rw [upT, freshT, x2, x1]; simp
  have hsa : slotAt ss ts s = placeN (slotsOf (lastS ss) c) s.sl 0 := by rw [slotAt, hff, Int.toNat_natCast]
  have hc2 : c < 3 + (lastS ss).length := by rw [lastS]; omega
  have hso := s_ref17_SlotsOf lf hc2
  have hpl := s_ref17_place (slotsOf (lastS ss) c) s.sl
  have hpn := placeN_lt (slotsOf (lastS ss) c) s.sl
  have e1 : doS ss s = ss := by rw [doS, if_neg (by omega)]
  rw [doT, if_neg (by omega), if_neg (by omega), e1]
  rw [hff, Int.toNat_natCast] at hul
  dsimp only at hul
  obtain ⟨o1, o2⟩ := hs.o d
  obtain ⟨c2, hc22⟩ : ∃ c2 : Nat, s.c = (c2 : Int) := ⟨s.c.toNat, by omega⟩
  have htu := s_ref17_turned lf (c := c2) (slots := slotsOf (lastS ss) c) (vals := freshV ss c (ss.length - 1 - s0) s0 (thAt ts s.th).2.2) (by omega) (by omega)
  rw [doR, if_neg (by omega), if_neg (by omega), if_neg (by omega), if_neg (by omega), putT, if_neg (by omega), if_pos d, hff, Int.toNat_natCast]
  have e6 : turnedV (lastS ss) s.c.toNat (slotsOf (lastS ss) c) (freshV ss c (ss.length - 1 - s0) s0 (thAt ts s.th).2.2) = turnedV (lastS ss) c2 (slotsOf (lastS ss) c) (freshV ss c (ss.length - 1 - s0) s0 (thAt ts s.th).2.2) := by rw [hc22, Int.toNat_natCast]
  dsimp only
  rw [e6]
  rw [← hc22] at htu
  generalize turnedV (lastS ss) c2 (slotsOf (lastS ss) c) (freshV ss c (ss.length - 1 - s0) s0 (thAt ts s.th).2.2) = tv at *
  have e5 : (ts.map thingA).set s.th.toNat (.st [V.int s.c, V.int ((ss.length : Int) - 1), .sl 2 none (tv.map valA)]) = (ts.set s.th.toNat (s.c, (ss.length : Int) - 1, tv)).map thingA := by rw [List.map_set]
  generalize lastS ss = L at *
  generalize freshV ss c (ss.length - 1 - s0) s0 (thAt ts s.th).2.2 = fv at *
  generalize placeN (slotsOf L c) s.sl 0 = pl at *
  refine V.Spec.enter Tryz.tabOK Tryz.mixed Fn.ref17_DoOf rfl rfl rfl fun B hB => ?_
  repeat' (with_reducible first | refine OL.st ?_ | refine OL.box ?_ | refine OL.alloc ?_ | refine TC.region ?_ | refine TC.seq ?_ | refine OL.nil ?_ | refine TX.thenN ?_ | fail)
  refine OL.c hcp Fn.ref17_Copy ?_
  repeat' (with_reducible first | refine OL.st ?_ | refine OL.alloc ?_ | refine OL.storeAgg ?_ | refine OL.build ?_ | refine TC.region ?_ | refine TC.seq ?_ | refine OL.nil ?_ | refine TX.thenN ?_ | refine TC.block ?_ | refine TC.skip ?_ | refine TX.blkN ?_ | refine TC.ifD ?_ ?_ <;> (intro hc; try (exfalso; omega)) | fail)
  simp only [lix]
  skip
  all_goals (with_reducible refine TC.draw (id := 15) true 9 10 ?_ <;> refine OD.st 0 ?_ <;> refine OD.st 1 ?_ <;> refine OD.st 2 ?_ <;> refine OD.st 3 ?_ <;> refine OD.st 4 ?_ <;> refine OD.st 5 ?_ <;> refine OD.st 6 ?_ <;> refine OD.n2 7 8 ?_ ?_ <;> (first | refine NextBy.at 7 ?_ <;> refine NextBy.c hfr Fn.ref17_Fresh ?_ <;> refine OD.al 8 ?_ <;> (refine OD.a1 9 ?_; refine OL.storeAgg ?_; refine OL.nil ?_; refine TX.od ?_) <;> refine OD.dn ?_ | refine NextBy.at 8 ?_ <;> refine NextBy.al ?_ <;> refine OD.c1 7 hfr Fn.ref17_Fresh ?_ <;> (refine OD.a1 9 ?_; refine OL.storeAgg ?_; refine OL.nil ?_; refine TX.od ?_) <;> refine OD.dn ?_))
  all_goals repeat' (first | (with_reducible refine TC.seq ?_) | (with_reducible refine TX.thenN ?_) | fail)
  all_goals (with_reducible refine TC.draw (id := 16) true 8 8 ?_ <;> refine OD.st 0 ?_ <;> refine OD.st 1 ?_ <;> refine OD.st 2 ?_ <;> refine OD.st 4 ?_ <;> refine OD.st 5 ?_ <;> refine OD.c1 3 hso Fn.ref17_SlotsOf ?_ <;> refine OD.c1 6 hpl Fn.ref17_place ?_ <;> refine OD.st 7 ?_ <;> refine OD.dn ?_)
  all_goals repeat' (with_reducible first | refine OL.st ?_ | refine OL.alloc ?_ | refine OL.storeAgg ?_ | refine OL.build ?_ | refine TC.region ?_ | refine TC.seq ?_ | refine OL.nil ?_ | refine TX.thenN ?_ | refine TC.block ?_ | refine TC.ifD ?_ ?_ <;> (intro hc; try (exfalso; omega)) | fail)
  all_goals first | refine TC.vwC 9 2 ?_ | refine TC.vwC 8 2 ?_ | fail
  all_goals (with_reducible refine TC.draw (id := 25) true 11 12 ?_ <;> refine OD.st 0 ?_ <;> refine OD.st 1 ?_ <;> refine OD.st 2 ?_ <;> refine OD.st 3 ?_ <;> refine OD.st 4 ?_ <;> refine OD.st 5 ?_ <;> refine OD.st 7 ?_ <;> refine OD.st 8 ?_ <;> refine OD.c1 6 hso Fn.ref17_SlotsOf ?_ <;> refine OD.c1 9 htu Fn.ref17_turned ?_ <;> refine OD.st 10 ?_ <;> (refine OD.a1 11 ?_; refine OL.store ?_; refine OL.nil ?_; refine TX.od ?_) <;> refine OD.dn ?_)
  all_goals repeat' (with_reducible first | refine OL.st ?_ | refine OL.store ?_ | refine TC.region ?_ | refine TC.seq ?_ | refine OL.nil ?_ | refine TX.thenN ?_ | refine TX.blkN ?_ | fail)
  all_goals refine OL.storeEA ?_
  all_goals refine OL.eqG 5 e5 ?_
  all_goals repeat' (with_reducible first | refine TC.seq ?_ | refine OL.nil ?_ | refine TX.thenN ?_ | fail)
  all_goals refine TC.vwC 6 1 ?_
  all_goals refine TC.vwC 6 2 ?_
  all_goals (with_reducible refine TC.draw (id := 28) false 4 4 ?_ <;> refine OD.n2 0 1 ?_ ?_ <;> (first | refine NextBy.at 0 ?_ <;> refine NextBy.s ?_ <;> refine OD.n2 1 2 ?_ ?_ <;> (first | refine NextBy.at 1 ?_ <;> refine NextBy.s ?_ <;> (refine OD.a1 2 ?_; refine OL.storeAgg ?_; refine OL.nil ?_; refine TX.od ?_) <;> (refine OD.a1 3 ?_; refine OL.storeAgg ?_; refine OL.nil ?_; refine TX.od ?_) <;> refine OD.dn ?_ | refine NextBy.at 2 ?_ <;> (refine NextBy.a ?_; refine OL.storeAgg ?_; refine OL.nil ?_; refine TX.od ?_) <;> refine OD.s1 1 ?_ <;> (refine OD.a1 3 ?_; refine OL.storeAgg ?_; refine OL.nil ?_; refine TX.od ?_) <;> refine OD.dn ?_) | refine NextBy.at 1 ?_ <;> refine NextBy.s ?_ <;> refine OD.s1 0 ?_ <;> (refine OD.a1 2 ?_; refine OL.storeAgg ?_; refine OL.nil ?_; refine TX.od ?_) <;> (refine OD.a1 3 ?_; refine OL.storeAgg ?_; refine OL.nil ?_; refine TX.od ?_) <;> refine OD.dn ?_))
  all_goals repeat' (first | (with_reducible refine TX.thenN ?_) | (with_reducible refine TC.ret ?_) | fail)
  all_goals exact TX.rs2 [] (.ren rfl) (.ren rfl)
set_option maxHeartbeats 2000000 in
theorem s_ref17_DoOf_6 (lz : Bool) {ss : List (List Cls)} {ts : List Thing} (h : WOk ss ts) (s : Step) (hs : StOk ss ts s) (d : s.d = 6) :
    V.Spec Tryz.prog Fc.ref17_DoOf [wlA lz ss ts, stepA s] [] (.tp [wlA lz (doS ss s) (doT lz ss ts s), valA (doR ss ts s)]) [] := by
  obtain ⟨n1, n12, lg, lsh, lix⟩ := h.last
  obtain ⟨l10, lf⟩ := goodB_fine lg
  have lix := lix _ rfl (by omega)
  have h40 := h.n40
  have ht := hs.t (by omega)
  have hcp := s_ref17_Copy lz h.sh n12 (by omega) (fun x hx => (h.tk x hx).short h.sb)
  have hul := upT_len h ht
  obtain ⟨s0, c, x1, x2, x3, x4, x5, x6⟩ := h.tk _ (thAt_mem ht)
  have hcl := schemasB_le h.sb (i := s0) (ss.length - 1) (by omega) (by omega)
  have hth : ∀ hi : s.th.toNat < ts.length, ts[s.th.toNat] = ((c : Int), (s0 : Int), (thAt ts s.th).2.2) := fun hi => by
    rw [show ts[s.th.toNat] = thAt ts s.th from (getD_lt hi).symm]
    exact Prod.ext x2 (Prod.ext x1 rfl)
  have hth := hth (by omega)
  have hfr := s_ref17_Fresh lz ts h.sb x3 x5 x6
  rw [← hth] at hfr
  have hff : upT ss ts s = ((c : Int), (ss.length : Int) - 1, freshV ss c (ss.length - 1 - s0) s0 (thAt ts s.th).2.2) := by rw [upT, freshT, x2, x1]; simp
  have hsa : slotAt ss ts s = placeN (slotsOf (lastS ss) c) s.sl 0 := by rw [slotAt, hff, Int.toNat_natCast]
  have hc2 : c < 3 + (lastS ss).length := by rw [lastS]; omega
  have hso := s_ref17_SlotsOf lf hc2
  have hpl := s_ref17_place (slotsOf (lastS ss) c) s.sl
  have hpn := placeN_lt (slotsOf (lastS ss) c) s.sl
  have e1 : doS ss s = ss := by rw [doS, if_neg (by omega)]
  rw [doT, if_neg (by omega), if_neg (by omega), e1]
  rw [hff, Int.toNat_natCast] at hul
  dsimp only at hul
  rw [doR, if_neg (by omega), if_neg (by omega), if_neg (by omega), if_neg (by omega), putT, if_neg (by omega), if_neg (by omega), hff]
  generalize freshV ss c (ss.length - 1 - s0) s0 (thAt ts s.th).2.2 = fv at *
  have e5 : (ts.map thingA).set s.th.toNat (.st [V.int c, V.int ((ss.length : Int) - 1), .sl 2 none (fv.map valA)]) = (ts.set s.th.toNat ((c : Int), (ss.length : Int) - 1, fv)).map thingA := by rw [List.map_set]
  generalize lastS ss = L at *
  generalize placeN (slotsOf L c) s.sl 0 = pl at *
  refine V.Spec.enter Tryz.tabOK Tryz.mixed Fn.ref17_DoOf rfl rfl rfl fun B hB => ?_
  repeat' (with_reducible first | refine OL.st ?_ | refine OL.box ?_ | refine OL.alloc ?_ | refine TC.region ?_ | refine TC.seq ?_ | refine OL.nil ?_ | refine TX.thenN ?_ | fail)
  refine OL.c hcp Fn.ref17_Copy ?_
  repeat' (with_reducible first | refine OL.st ?_ | refine OL.alloc ?_ | refine OL.storeAgg ?_ | refine OL.build ?_ | refine TC.region ?_ | refine TC.seq ?_ | refine OL.nil ?_ | refine TX.thenN ?_ | refine TC.block ?_ | refine TC.skip ?_ | refine TX.blkN ?_ | refine TC.ifD ?_ ?_ <;> (intro hc; try (exfalso; omega)) | fail)
  simp only [lix]
  skip
  all_goals (with_reducible refine TC.draw (id := 15) true 9 10 ?_ <;> refine OD.st 0 ?_ <;> refine OD.st 1 ?_ <;> refine OD.st 2 ?_ <;> refine OD.st 3 ?_ <;> refine OD.st 4 ?_ <;> refine OD.st 5 ?_ <;> refine OD.st 6 ?_ <;> refine OD.n2 7 8 ?_ ?_ <;> (first | refine NextBy.at 7 ?_ <;> refine NextBy.c hfr Fn.ref17_Fresh ?_ <;> refine OD.al 8 ?_ <;> (refine OD.a1 9 ?_; refine OL.storeAgg ?_; refine OL.nil ?_; refine TX.od ?_) <;> refine OD.dn ?_ | refine NextBy.at 8 ?_ <;> refine NextBy.al ?_ <;> refine OD.c1 7 hfr Fn.ref17_Fresh ?_ <;> (refine OD.a1 9 ?_; refine OL.storeAgg ?_; refine OL.nil ?_; refine TX.od ?_) <;> refine OD.dn ?_))
  all_goals repeat' (first | (with_reducible refine TC.seq ?_) | (with_reducible refine TX.thenN ?_) | fail)
  all_goals (with_reducible refine TC.draw (id := 16) true 8 8 ?_ <;> refine OD.st 0 ?_ <;> refine OD.st 1 ?_ <;> refine OD.st 2 ?_ <;> refine OD.st 4 ?_ <;> refine OD.st 5 ?_ <;> refine OD.c1 3 hso Fn.ref17_SlotsOf ?_ <;> refine OD.c1 6 hpl Fn.ref17_place ?_ <;> refine OD.st 7 ?_ <;> refine OD.dn ?_)
  all_goals repeat' (with_reducible first | refine OL.st ?_ | refine OL.alloc ?_ | refine OL.storeAgg ?_ | refine OL.build ?_ | refine TC.region ?_ | refine TC.seq ?_ | refine OL.nil ?_ | refine TX.thenN ?_ | refine TC.block ?_ | refine TC.skip ?_ | refine TX.blkN ?_ | refine TC.ifD ?_ ?_ <;> (intro hc; try (exfalso; omega)) | fail)
  all_goals refine OL.vwS 123 2 ?_
  all_goals refine OL.storeEA ?_
  all_goals refine OL.eqG 5 e5 ?_
  all_goals repeat' (with_reducible first | refine TC.seq ?_ | refine OL.nil ?_ | refine TX.thenN ?_ | fail)
  all_goals refine TC.vwC 6 1 ?_
  all_goals refine TC.vwC 6 2 ?_
  all_goals (with_reducible refine TC.draw (id := 28) false 4 4 ?_ <;> refine OD.n2 0 1 ?_ ?_ <;> (first | refine NextBy.at 0 ?_ <;> refine NextBy.s ?_ <;> refine OD.n2 1 2 ?_ ?_ <;> (first | refine NextBy.at 1 ?_ <;> refine NextBy.s ?_ <;> (refine OD.a1 2 ?_; refine OL.storeAgg ?_; refine OL.nil ?_; refine TX.od ?_) <;> (refine OD.a1 3 ?_; refine OL.storeAgg ?_; refine OL.nil ?_; refine TX.od ?_) <;> refine OD.dn ?_ | refine NextBy.at 2 ?_ <;> (refine NextBy.a ?_; refine OL.storeAgg ?_; refine OL.nil ?_; refine TX.od ?_) <;> refine OD.s1 1 ?_ <;> (refine OD.a1 3 ?_; refine OL.storeAgg ?_; refine OL.nil ?_; refine TX.od ?_) <;> refine OD.dn ?_) | refine NextBy.at 1 ?_ <;> refine NextBy.s ?_ <;> refine OD.s1 0 ?_ <;> (refine OD.a1 2 ?_; refine OL.storeAgg ?_; refine OL.nil ?_; refine TX.od ?_) <;> (refine OD.a1 3 ?_; refine OL.storeAgg ?_; refine OL.nil ?_; refine TX.od ?_) <;> refine OD.dn ?_))
  all_goals repeat' (first | (with_reducible refine TX.thenN ?_) | (with_reducible refine TC.ret ?_) | fail)
  all_goals exact TX.rs2 [] (.ren rfl) (.ren rfl)
end Go.Proofs
