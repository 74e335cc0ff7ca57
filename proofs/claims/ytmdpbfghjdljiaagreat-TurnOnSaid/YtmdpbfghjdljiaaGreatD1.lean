/- Part 1 of what the claim is proved by: lemmas on the model and walks through functions of the program; no conditions. -/
import Derived.Test.YtmdpbfghjdljiaaGreatV29
import Derived.Test.YtmdpbfghjdljiaaGreatV35
import Derived.Test.YtmdpbfghjdljiaaGreatV40
import Derived.Test.YtmdpbfghjdljiaaGreatV13
namespace Go.Proofs
open Go Go.W Go.V
theorem playV_app (lz : Bool) (m : List Step) : ∀ (l : List Step) (ss : List (List Cls)) (ts : List Thing), playV lz ss ts (l ++ m) =
    ((playV lz (playV lz ss ts l).1 (playV lz ss ts l).2.1 m).1, (playV lz (playV lz ss ts l).1 (playV lz ss ts l).2.1 m).2.1, (playV lz ss ts l).2.2.1 ++ (playV lz (playV lz ss ts l).1 (playV lz ss ts l).2.1 m).2.2.1, (playV lz ss ts l).2.2.2 ++ (playV lz (playV lz ss ts l).1 (playV lz ss ts l).2.1 m).2.2.2)
  | [], ss, ts => rfl
  | x :: l, ss, ts => by
    rw [List.cons_append]
    by_cases h : refusedE ss ts x = 0
    · have e : ∀ r, playV lz ss ts (x :: r) = ((playV lz (doS ss x) (doT lz ss ts x) r).1, (playV lz (doS ss x) (doT lz ss ts x) r).2.1, doR ss ts x :: (playV lz (doS ss x) (doT lz ss ts x) r).2.2.1, 0 :: (playV lz (doS ss x) (doT lz ss ts x) r).2.2.2) := fun r => by rw [playV, if_pos h]
      rw [e, e, playV_app lz m l]; rfl
    · have e : ∀ r, playV lz ss ts (x :: r) = ((playV lz ss ts r).1, (playV lz ss ts r).2.1, (0, 0) :: (playV lz ss ts r).2.2.1, refusedE ss ts x :: (playV lz ss ts r).2.2.2) := fun r => by rw [playV, if_neg h]
      rw [e, e, playV_app lz m l]; rfl
def stV (ss : List (List Cls)) (ts : List Thing) (s : Step) : Int × Int := if refusedE ss ts s = 0 then doR ss ts s else (0, 0)
theorem playV_at (lz : Bool) (l : List Step) (ss : List (List Cls)) (ts : List Thing) {k : Nat} (hk : k < l.length) :
    (playV lz ss ts l).2.2.1[k]? = some (stV (playV lz ss ts (l.take k)).1 (playV lz ss ts (l.take k)).2.1 l[k]) ∧ (playV lz ss ts l).2.2.2[k]? = some (refusedE (playV lz ss ts (l.take k)).1 (playV lz ss ts (l.take k)).2.1 l[k]) := by
  have e : playV lz ss ts l = playV lz ss ts (l.take k ++ l[k] :: l.drop (k + 1)) := by rw [← drop_cons hk, List.take_append_drop]
  have hlen : (l.take k).length = k := by simp; omega
  have hl := play_lens lz (l.take k) ss ts
  rw [hlen] at hl
  rw [e, playV_app]
  dsimp only
  generalize playV lz ss ts (l.take k) = r at *
  obtain ⟨s2, t2, v, es⟩ := r
  dsimp only at hl ⊢
  rw [List.getElem?_append_right (by omega), List.getElem?_append_right (by omega), hl.1, hl.2, Nat.sub_self]
  by_cases h : refusedE s2 t2 l[k] = 0
  · rw [playV, if_pos h, stV, if_pos h]; exact ⟨rfl, congrArg some h.symm⟩
  · rw [playV, if_neg h, stV, if_neg h]; exact ⟨rfl, rfl⟩
theorem FOk.lazy {lz : Bool} {ss : List (List Cls)} {ts : List Thing} (h : FOk lz ss ts) : FOk true ss ts := ⟨h.sb, h.n40, h.tk, fun e => (by cases e), h.vl⟩
theorem FOk.settled {ss : List (List Cls)} {ts : List Thing} (h : FOk false ss ts) : ts.map (freshT ss) = ts := by
  have := schemasB_len h.sb
  conv => rhs; rw [← List.map_id ts]
  exact List.map_congr_left fun x hx => freshT_upd this.1 (h.lt rfl x hx)
theorem lazy_main {lz : Bool} {ss : List (List Cls)} {ts : List Thing} (h : FOk lz ss ts) (hsh : ∀ s ∈ ss, Short s) (l : List Step) (hl : ∀ s ∈ l, ShortC s.k) :
    formedB false ss (ts.map (freshT ss)) = true ∧ formedB true ss ts = true ∧ FOk true (playV true ss ts l).1 (playV true ss ts l).2.1 ∧ FOk false (playV true ss ts l).1 ((playV true ss ts l).2.1.map (freshT (playV true ss ts l).1)) ∧
      playV false ss (ts.map (freshT ss)) l = ((playV true ss ts l).1, (playV true ss ts l).2.1.map (freshT (playV true ss ts l).1), (playV true ss ts l).2.2.1, (playV true ss ts l).2.2.2) := by
  have h1 : FOk false ss (ts.map (freshT ss)) := settled_ok h false
  have h2 := play_formed true l ss ts h.lazy hsh hl
  exact ⟨formedB_iff.2 h1, formedB_iff.2 h.lazy, h2, settled_ok h2 false, play_lazy l ss ts (h.w hsh) hl⟩
end Go.Proofs
namespace Go.Proofs
open Go Go.W Go.V
theorem mapOk_iff {ss : List (List Cls)} {c fr to : Int} : mapOkB ss c fr to = true ↔ schemasB ss = true ∧ (0 ≤ fr ∧ fr ≤ to) ∧ to < (ss.length : Int) ∧ 3 ≤ c ∧ c < 3 + ((schAt ss fr.toNat).length : Int) := by
  simp only [mapOkB, ownB, Bool.and_eq_true, decide_eq_true_eq]
theorem on_look {ss : List (List Cls)} (hsb : schemasB ss = true) {x : Thing} (h : TOk ss x) : ∃ m : List From, mapX ss x.1 x.2.1 ((ss.length : Int) - 1) = (m, 0) ∧ freshT ss x = (x.1, (ss.length : Int) - 1, m.map (pickV x.2.2)) := by
  obtain ⟨s, c, a1, a2, a3, a4, a5, a6⟩ := h
  obtain ⟨n1, n12⟩ := schemasB_len hsb
  refine ⟨mapV ss c s (ss.length - 1 - s), ?_, ?_⟩
  · rw [mapX, if_pos (mapOk_iff.2 ⟨hsb, by omega, by omega, by omega, by rw [a1, Int.toNat_natCast]; omega⟩), a1, a2, Int.toNat_natCast, Int.toNat_natCast, show ((ss.length : Int) - 1).toNat = ss.length - 1 by omega]
  · rw [freshT, a1, a2, Int.toNat_natCast, Int.toNat_natCast, freshV_map ss c s x.2.2 a6]
theorem on_main {ss : List (List Cls)} {c fr to : Int} (h : mapOkB ss c fr to = true) : ∃ b : List From, mapX ss c to ((ss.length : Int) - 1) = (b, 0) ∧ mapX ss c fr ((ss.length : Int) - 1) = (b.map (goOn (mapX ss c fr to).1), 0) ∧
    ∀ x ∈ b, 0 ≤ x.2.1 → ∃ hx : x.2.1.toNat < (mapX ss c fr to).1.length, (mapX ss c fr to).1[x.2.1.toNat].1 = x.1 := by
  have ha : mapX ss c fr to = (mapV ss c.toNat fr.toNat (to.toNat - fr.toNat), 0) := by rw [mapX, if_pos h]
  obtain ⟨hsb, h1, h2, h3, h4⟩ := mapOk_iff.1 h
  have hle := schemasB_le hsb (i := fr.toNat) to.toNat (by omega) (by omega)
  obtain ⟨m1, m2⟩ := mapV_on ss c.toNat fr.toNat (to.toNat - fr.toNat) (ss.length - 1 - to.toNat)
  rw [show fr.toNat + (to.toNat - fr.toNat) = to.toNat by omega, show to.toNat - fr.toNat + (ss.length - 1 - to.toNat) = ss.length - 1 - fr.toNat by omega] at m1
  rw [show fr.toNat + (to.toNat - fr.toNat) = to.toNat by omega] at m2
  refine ⟨mapV ss c.toNat to.toNat (ss.length - 1 - to.toNat), ?_, ?_, ?_⟩
  · rw [mapX, if_pos (mapOk_iff.2 ⟨hsb, by omega, by omega, h3, by omega⟩), show ((ss.length : Int) - 1).toNat = ss.length - 1 by omega]
  · rw [mapX, if_pos (mapOk_iff.2 ⟨hsb, by omega, by omega, h3, h4⟩), show ((ss.length : Int) - 1).toNat = ss.length - 1 by omega, ha, m1]
  · rw [ha]; exact m2
end Go.Proofs
namespace Go.Proofs
open Go Go.W Go.V
theorem goOn_eq (a : List From) (x : From) : goOn a x = if 0 ≤ x.2.1 then (x.1, (a.getD x.2.1.toNat (0, 0, 0, 0)).2) else x := rfl
set_option maxHeartbeats 8000000 in
theorem s_law17_TurnOn (lz : Bool) (ss : List (List Cls)) (ts : List Thing) (hsh : ∀ s ∈ ss, Short s) (l : List Step) (c th fr to : Int) : V.Spec Tryz.prog Fc.law17_TurnOn [givA lz ss ts l c th fr to] [] (V.bool true) [] := by
  have hch := s_turn_Check lz ss ts hsh
  have hkn := s_law17_known
  cases hf : formedB lz ss ts
  · rw [hf, if_neg Bool.false_ne_true] at hch
    refine V.Spec.enter Tryz.tabOK Tryz.mixed Fn.law17_TurnOn rfl rfl rfl fun B hB => ?_
    repeat' (with_reducible first | refine OL.st ?_ | refine OL.box ?_ | refine TC.region ?_ | refine TC.seq ?_ | refine OL.nil ?_ | refine TX.thenN ?_ | fail)
    refine OL.bl 23 fun hsl => ?_
    repeat' (with_reducible first | refine OL.st ?_ | refine TC.region ?_ | refine TC.seq ?_ | refine OL.nil ?_ | refine TX.thenN ?_ | refine OL.ldM ?_ | fail)
    refine OL.c hch Fn.turn_Check ?_
    repeat' (with_reducible first | refine OL.st ?_ | refine TC.region ?_ | refine TC.seq ?_ | refine OL.nil ?_ | refine TX.thenN ?_ | refine TC.ifT ?_ | fail)
    refine OL.c hkn Fn.law17_known ?_
    repeat' (with_reducible first | refine OL.st ?_ | refine OL.nil ?_ | refine TX.thenN ?_ | refine TC.ret ?_ | refine TX.thenR ?_ | fail)
    exact TX.rt1 [] (.ren rfl)
  rw [hf, if_pos rfl] at hch
  have hF := formedB_iff.1 hf
  obtain ⟨n1, n12⟩ := schemasB_len hF.sb
  have h40 := hF.n40
  have hma := s_turn_Map hsh c fr to
  generalize hA : mapX ss c fr to = A at *
  have hmF : A.2 = 0 → mapOkB ss c fr to = true := fun hc => by
    cases hq : mapOkB ss c fr to
    · exfalso
      rw [← hA, mapX, hq, if_neg Bool.false_ne_true] at hc
      exact absurd hc (by decide)
    · rfl
  refine V.Spec.enter Tryz.tabOK Tryz.mixed Fn.law17_TurnOn rfl rfl rfl fun B hB => ?_
  repeat' (with_reducible first | refine OL.st ?_ | refine OL.box ?_ | refine TC.region ?_ | refine TC.seq ?_ | refine OL.nil ?_ | refine TX.thenN ?_ | refine OL.ldM ?_ | fail)
  refine OL.c hch Fn.turn_Check ?_
  with_reducible refine OL.st ?_
  with_reducible refine OL.nil ?_
  with_reducible refine TX.thenN ?_
  with_reducible refine TC.ifF ?_
  with_reducible refine TC.skip ?_
  with_reducible refine TX.thenN ?_
  with_reducible refine TC.seq ?_
  refine TC.cut [(1, .bp 0 0), (3, V.int ((ss.length : Int) - 1))] [.cb 28 [V.bool lz, schsA ss, thingsA ts, stepsA l, V.int c, V.int th, V.int fr, V.int to]] ?_ ?_
  · by_cases hi : 0 ≤ th ∧ th < (ts.length : Int)
    · obtain ⟨xx, hxx⟩ : ∃ xx, xx = ts[th.toNat]'(by omega) := ⟨_, rfl⟩
      have hx : TOk ss xx := hxx ▸ hF.tk (ts[th.toNat]'(by omega)) (List.getElem_mem _)
      obtain ⟨m, hm, hfx⟩ := on_look hF.sb hx
      have hmp := s_turn_Map hsh xx.1 xx.2.1 ((ss.length : Int) - 1)
      rw [hm] at hmp
      have hlo := s_turn_Look lz ss ts hsh th
      have hin : inB ts.length th = true := by rw [inB, decide_eq_true hi.1, decide_eq_true hi.2]; rfl
      rw [lookX, if_pos ⟨hf, hin⟩, show thAt ts th = xx from (getD_lt (by omega)).trans hxx.symm, hfx] at hlo
      have hxl := hx.short hF.sb
      obtain ⟨vs, hvs⟩ : ∃ vs, vs = m.map (pickV xx.2.2) := ⟨_, rfl⟩
      have hvl : vs.length = m.length := by rw [hvs]; simp
      have hve : ∀ i (h1 : i < vs.length) (h2 : i < m.length), vs[i] = pickV xx.2.2 m[i] := fun i h1 h2 => by simp only [hvs, List.getElem_map]
      rw [← hvs] at hlo
      clear hvs hfx hm
      repeat' (with_reducible first | refine OL.st ?_ | refine OL.alloc ?_ | refine OL.storeAgg ?_ | refine TC.region ?_ | refine TC.seq ?_ | refine OL.nil ?_ | refine TX.thenN ?_ | refine OL.gOn ?_ | refine TC.ifD ?_ ?_ <;> (intro hc; try (exfalso; omega)) | refine OL.gD ?_ ?_ <;> (intro hc; try (exfalso; omega)) | fail)
      simp only [← hxx]
      refine OL.c hmp Fn.turn_Map ?_
      repeat' (with_reducible first | refine OL.st ?_ | refine TC.region ?_ | refine TC.seq ?_ | refine OL.nil ?_ | refine TX.thenN ?_ | refine OL.ldM ?_ | fail)
      refine OL.c hlo Fn.turn_Look ?_
      repeat' (with_reducible first | refine OL.st ?_ | refine OL.alloc ?_ | refine OL.storeAgg ?_ | refine TC.region ?_ | refine TC.seq ?_ | refine OL.nil ?_ | refine TX.thenN ?_ | refine TC.block ?_ | refine TC.skip ?_ | refine OL.gOn ?_ | refine TC.ifD ?_ ?_ <;> (intro hc; try (exfalso; omega)) | refine OL.gD ?_ ?_ <;> (intro hc; try (exfalso; omega)) | fail)
      refine TC.bl 98 fun hvb => ?_
      refine TC.lp (fun i : Nat => [(1, .bp 0 0), (3, V.int ((ss.length : Int) - 1)), (4, .bp 1 0), (5, fromsA m), (7, .bp 2 0), (98, valsA vs), (99, V.int vs.length), (100, V.int i)]) (fun _ => [.cb 28 [V.bool lz, schsA ss, thingsA ts, stepsA l, V.int c, V.int th, V.int fr, V.int to], .cb 58 [V.int xx.1, V.int xx.2.1, valsA xx.2.2], .cb 58 [V.int xx.1, V.int ((ss.length : Int) - 1), valsA vs]]) (fun i => i ≤ vs.length) (fun i => vs.length - i) 0 [0, 1, 2] (Nat.zero_le _) ?_
      rintro i hii
      rcases Nat.lt_or_ge i vs.length with hil | hil
      · have hil2 : i < m.length := by omega
        have hv := hve i hil hil2
        rw [pickV] at hv
        by_cases hp : 0 ≤ m[i].2.1 ∧ m[i].2.1 < (xx.2.2.length : Int)
        · rw [if_pos hp, getD_lt (by omega)] at hv
          repeat' (with_reducible first | refine OL.st ?_ | refine OL.alloc ?_ | refine OL.storeAgg ?_ | refine TC.region ?_ | refine TC.seq ?_ | refine OL.nil ?_ | refine TX.thenN ?_ | refine TC.block ?_ | refine TC.skip ?_ | refine OL.gOn ?_ | refine TC.ifD ?_ ?_ <;> (intro hc; try (exfalso; omega)) | refine OL.gD ?_ ?_ <;> (intro hc; try (exfalso; omega)) | fail)
          refine OL.st ?_ (h := gvNeD2 eqMV)
          repeat' (first | (with_reducible refine OL.nil ?_) | (with_reducible refine TX.thenN ?_) | fail)
          refine TC.ifB (fun h => ?_) (fun h => ?_)
          · exfalso; rw [hv] at h; simp at h
          repeat' (with_reducible first | refine OL.st ?_ | refine TC.region ?_ | refine OL.nil ?_ | refine TX.thenN ?_ | refine TC.skip ?_ | refine TX.blkN ?_ | fail)
          exact TX.rd (i + 1) [0, 1, 2] (by omega) (by omega)
        · rw [if_neg hp] at hv
          by_cases h0 : 0 ≤ m[i].2.1
          all_goals repeat' (with_reducible first | refine OL.st ?_ | refine OL.alloc ?_ | refine OL.storeAgg ?_ | refine TC.region ?_ | refine TC.seq ?_ | refine OL.nil ?_ | refine TX.thenN ?_ | refine TC.block ?_ | refine TC.skip ?_ | refine TC.ifF ?_ | refine OL.gOn ?_ | refine OL.gOff ?_ | refine TC.ifD ?_ ?_ <;> (intro hc; try (exfalso; omega)) | refine OL.gD ?_ ?_ <;> (intro hc; try (exfalso; omega)) | fail)
          all_goals refine OL.st ?_ (h := gvNeD2 eqMV)
          all_goals repeat' (first | (with_reducible refine OL.nil ?_) | (with_reducible refine TX.thenN ?_) | fail)
          all_goals refine TC.ifB (fun h => ?_) (fun h => ?_)
          all_goals try (exfalso; rw [hv] at h; simp at h; done)
          all_goals repeat' (with_reducible first | refine OL.st ?_ | refine TC.region ?_ | refine OL.nil ?_ | refine TX.thenN ?_ | refine TC.skip ?_ | refine TX.blkN ?_ | fail)
          all_goals exact TX.rd (i + 1) [0, 1, 2] (by omega) (by omega)
      obtain rfl : i = vs.length := by omega
      repeat' (with_reducible first | refine OL.st ?_ | refine TC.region ?_ | refine TC.seq ?_ | refine OL.nil ?_ | refine TX.thenN ?_ | refine TC.exit ?_ | refine TX.hit ?_ | refine TX.thenX ?_ | refine TC.ifD ?_ ?_ <;> (intro hc; try (exfalso; omega)) | fail)
      exact TX.ct [0]
    · by_cases h0 : 0 ≤ th
      all_goals repeat' (with_reducible first | refine OL.st ?_ | refine TC.region ?_ | refine TC.seq ?_ | refine OL.nil ?_ | refine TX.thenN ?_ | refine TC.skip ?_ | refine TC.ifF ?_ | refine OL.gOn ?_ | refine OL.gOff ?_ | refine TC.ifD ?_ ?_ <;> (intro hc; try (exfalso; omega)) | refine OL.gD ?_ ?_ <;> (intro hc; try (exfalso; omega)) | fail)
      all_goals exact TX.ct [0]
  by_cases hA2 : ¬ A.2 = 0
  · repeat' (with_reducible first | refine OL.st ?_ | refine TC.region ?_ | refine TC.seq ?_ | refine TX.thenN ?_ | fail)
    refine OL.c hma Fn.turn_Map ?_
    repeat' (with_reducible first | refine OL.st ?_ | refine TC.region ?_ | refine TC.seq ?_ | refine OL.nil ?_ | refine TX.thenN ?_ | refine TC.ifD ?_ ?_ <;> (intro hc; try (exfalso; omega)) | fail)
    refine OL.c hkn Fn.law17_known ?_
    repeat' (with_reducible first | refine OL.st ?_ | refine OL.nil ?_ | refine TX.thenN ?_ | refine TC.ret ?_ | refine TX.thenR ?_ | fail)
    exact TX.rt1 [] (.ren rfl)
  have hA2 : A.2 = 0 := by omega
  repeat' (with_reducible first | refine OL.st ?_ | refine TC.region ?_ | refine TC.seq ?_ | refine TX.thenN ?_ | fail)
  refine OL.c hma Fn.turn_Map ?_
  repeat' (with_reducible first | refine OL.st ?_ | refine TC.region ?_ | refine TC.seq ?_ | refine OL.nil ?_ | refine TX.thenN ?_ | refine TC.skip ?_ | refine TC.ifD ?_ ?_ <;> (intro hc; try (exfalso; omega)) | fail)
  have hmo := hmF hA2
  obtain ⟨b, hb, hb2, hb3⟩ := on_main hmo
  rw [hA] at hb2 hb3
  have hbm : (b.map (goOn A.1)).length = b.length := by simp
  have h1 := s_turn_Map hsh c to ((ss.length : Int) - 1)
  have h2 := s_turn_Map hsh c fr ((ss.length : Int) - 1)
  rw [hb] at h1
  rw [hb2] at h2
  refine OL.c h1 Fn.turn_Map ?_
  repeat' (with_reducible first | refine OL.st ?_ | refine TC.region ?_ | refine TC.seq ?_ | refine OL.nil ?_ | refine TX.thenN ?_ | fail)
  refine OL.c h2 Fn.turn_Map ?_
  repeat' (with_reducible first | refine OL.st ?_ | refine TC.region ?_ | refine TC.seq ?_ | refine OL.nil ?_ | refine TX.thenN ?_ | refine TC.block ?_ | refine TC.skip ?_ | refine OL.gOn ?_ | refine TC.ifD ?_ ?_ <;> (intro hc; try (exfalso; omega)) | fail)
  refine TC.bl 186 fun hbl => ?_
  refine TC.lp (fun i : Nat => [(1, .bp 0 0), (13, fromsA A.1), (17, fromsA (b.map (goOn A.1))), (186, fromsA b), (187, V.int b.length), (188, V.int i)]) (fun _ => [.cb 28 [V.bool lz, schsA ss, thingsA ts, stepsA l, V.int c, V.int th, V.int fr, V.int to]]) (fun i => i ≤ b.length) (fun i => b.length - i) 0 [0] (Nat.zero_le _) ?_
  rintro i hii
  by_cases hil : i < b.length
  · have hg : (b.map (goOn A.1))[i]'(by simpa using hil) = goOn A.1 b[i] := List.getElem_map _
    by_cases h0 : 0 ≤ b[i].2.1
    · obtain ⟨hx1, hx2⟩ := hb3 b[i] (List.getElem_mem _) h0
      rw [goOn, if_pos h0, getD_lt hx1] at hg
      repeat' (first | (with_reducible first | refine OL.st ?_ | refine OL.alloc ?_ | refine OL.storeAgg ?_ | refine TC.region ?_ | refine TC.seq ?_ | refine OL.nil ?_ | refine TX.thenN ?_ | refine TC.block ?_ | refine TC.skip ?_ | refine TC.ifD ?_ ?_ <;> (intro hc; try (exfalso; omega))) | ((with_reducible refine TC.draw (id := 31) true 16 16 ?_) <;> (with_reducible refine OD.st 0 ?_) <;> (with_reducible refine OD.st 1 ?_) <;> (with_reducible refine OD.st 2 ?_) <;> (with_reducible refine OD.st 3 ?_) <;> (with_reducible refine OD.st 4 ?_) <;> (with_reducible refine OD.st 5 ?_) <;> (with_reducible refine OD.sD 201 ?_ ?_ <;> (intro hc; try (exfalso; omega)) <;> (first | (with_reducible refine OD.st 6 ?_) | (with_reducible refine OD.of 6 ?_))) <;> (with_reducible refine OD.st 7 ?_) <;> (with_reducible refine OD.st 8 ?_) <;> (with_reducible refine OD.st 9 ?_) <;> (with_reducible refine OD.st 10 ?_) <;> (with_reducible refine OD.st 11 ?_) <;> (with_reducible refine OD.st 12 ?_) <;> (with_reducible refine OD.st 13 ?_) <;> (with_reducible refine OD.st 14 ?_) <;> (with_reducible refine OD.st 15 ?_) <;> (with_reducible refine OD.dn ?_)) | fail)
      refine TC.cut [(1, .bp 0 0), (13, fromsA A.1), (17, fromsA (b.map (goOn A.1))), (19, V.int i), (20, .bp 1 0), (186, fromsA b), (187, V.int b.length), (188, V.int i)] [.cb 28 [V.bool lz, schsA ss, thingsA ts, stepsA l, V.int c, V.int th, V.int fr, V.int to], .cb 78 [V.int b[i].1, V.int A.1[b[i].2.1.toNat].2.1, V.int A.1[b[i].2.1.toNat].2.2.1, V.int A.1[b[i].2.1.toNat].2.2.2]] ?_ ?_
      · (with_reducible refine TC.draw (id := 33) false 16 16 ?_ <;> refine OD.st 0 ?_ <;> refine OD.st 1 ?_ <;> refine OD.st 6 ?_ <;> refine OD.st 7 ?_ <;> refine OD.n2 2 8 ?_ ?_ <;> (first | refine NextBy.at 2 ?_ <;> refine NextBy.s ?_ <;> refine OD.st 3 ?_ <;> refine OD.st 4 ?_ <;> refine OD.n2 5 8 ?_ ?_ <;> (first | refine NextBy.at 5 ?_ <;> refine NextBy.s ?_ <;> refine OD.s1 8 ?_ <;> refine OD.st 9 ?_ <;> refine OD.st 10 ?_ <;> refine OD.st 12 ?_ <;> refine OD.n2 11 13 ?_ ?_ <;> (first | refine NextBy.at 11 ?_ <;> refine NextBy.s ?_ (h := gvM) <;> (refine OD.a1 13 ?_; refine OL.store ?_; refine OL.nil ?_; refine TX.od ?_) <;> refine OD.st 14 ?_ <;> (refine OD.a1 15 ?_; refine OL.storeAt ?_; refine OL.nil ?_; refine TX.od ?_) <;> refine OD.dn ?_ | refine NextBy.at 13 ?_ <;> (refine NextBy.a ?_; refine OL.store ?_; refine OL.nil ?_; refine TX.od ?_) <;> refine OD.s1 11 ?_ (h := gvM) <;> refine OD.st 14 ?_ <;> (refine OD.a1 15 ?_; refine OL.storeAt ?_; refine OL.nil ?_; refine TX.od ?_) <;> refine OD.dn ?_) | refine NextBy.at 8 ?_ <;> refine NextBy.s ?_ <;> refine OD.st 9 ?_ <;> refine OD.st 10 ?_ <;> refine OD.n2 5 11 ?_ ?_ <;> (first | refine NextBy.at 5 ?_ <;> refine NextBy.s ?_ <;> refine OD.st 12 ?_ <;> refine OD.n2 11 13 ?_ ?_ <;> (first | refine NextBy.at 11 ?_ <;> refine NextBy.s ?_ (h := gvM) <;> (refine OD.a1 13 ?_; refine OL.store ?_; refine OL.nil ?_; refine TX.od ?_) <;> refine OD.st 14 ?_ <;> (refine OD.a1 15 ?_; refine OL.storeAt ?_; refine OL.nil ?_; refine TX.od ?_) <;> refine OD.dn ?_ | refine NextBy.at 13 ?_ <;> (refine NextBy.a ?_; refine OL.store ?_; refine OL.nil ?_; refine TX.od ?_) <;> refine OD.s1 11 ?_ (h := gvM) <;> refine OD.st 14 ?_ <;> (refine OD.a1 15 ?_; refine OL.storeAt ?_; refine OL.nil ?_; refine TX.od ?_) <;> refine OD.dn ?_) | refine NextBy.at 11 ?_ <;> refine NextBy.s ?_ (h := gvM) <;> refine OD.s1 5 ?_ <;> refine OD.st 12 ?_ <;> (refine OD.a1 13 ?_; refine OL.store ?_; refine OL.nil ?_; refine TX.od ?_) <;> refine OD.st 14 ?_ <;> (refine OD.a1 15 ?_; refine OL.storeAt ?_; refine OL.nil ?_; refine TX.od ?_) <;> refine OD.dn ?_)) | refine NextBy.at 8 ?_ <;> refine NextBy.s ?_ <;> refine OD.st 9 ?_ <;> refine OD.st 10 ?_ <;> refine OD.n2 2 11 ?_ ?_ <;> (first | refine NextBy.at 2 ?_ <;> refine NextBy.s ?_ <;> refine OD.st 3 ?_ <;> refine OD.st 4 ?_ <;> refine OD.n2 5 11 ?_ ?_ <;> (first | refine NextBy.at 5 ?_ <;> refine NextBy.s ?_ <;> refine OD.st 12 ?_ <;> refine OD.n2 11 13 ?_ ?_ <;> (first | refine NextBy.at 11 ?_ <;> refine NextBy.s ?_ (h := gvM) <;> (refine OD.a1 13 ?_; refine OL.store ?_; refine OL.nil ?_; refine TX.od ?_) <;> refine OD.st 14 ?_ <;> (refine OD.a1 15 ?_; refine OL.storeAt ?_; refine OL.nil ?_; refine TX.od ?_) <;> refine OD.dn ?_ | refine NextBy.at 13 ?_ <;> (refine NextBy.a ?_; refine OL.store ?_; refine OL.nil ?_; refine TX.od ?_) <;> refine OD.s1 11 ?_ (h := gvM) <;> refine OD.st 14 ?_ <;> (refine OD.a1 15 ?_; refine OL.storeAt ?_; refine OL.nil ?_; refine TX.od ?_) <;> refine OD.dn ?_) | refine NextBy.at 11 ?_ <;> refine NextBy.s ?_ (h := gvM) <;> refine OD.s1 5 ?_ <;> refine OD.st 12 ?_ <;> (refine OD.a1 13 ?_; refine OL.store ?_; refine OL.nil ?_; refine TX.od ?_) <;> refine OD.st 14 ?_ <;> (refine OD.a1 15 ?_; refine OL.storeAt ?_; refine OL.nil ?_; refine TX.od ?_) <;> refine OD.dn ?_) | refine NextBy.at 11 ?_ <;> refine NextBy.s ?_ (h := gvM) <;> refine OD.s1 2 ?_ <;> refine OD.st 3 ?_ <;> refine OD.st 4 ?_ <;> refine OD.s1 5 ?_ <;> refine OD.st 12 ?_ <;> (refine OD.a1 13 ?_; refine OL.store ?_; refine OL.nil ?_; refine TX.od ?_) <;> refine OD.st 14 ?_ <;> (refine OD.a1 15 ?_; refine OL.storeAt ?_; refine OL.nil ?_; refine TX.od ?_) <;> refine OD.dn ?_)))
        all_goals exact TX.ctk 20 [0]
      repeat' (first | (with_reducible refine TC.seq ?_) | (with_reducible refine TX.thenN ?_) | fail)
      (with_reducible refine TC.draw (id := 34) true 6 6 ?_ <;> refine OD.st 0 ?_ <;> refine OD.st 1 ?_ <;> refine OD.st 2 ?_ <;> refine OD.st 3 ?_ <;> refine OD.st 4 ?_ <;> refine OD.s1 5 ?_ (h := gvNeF4 eqMF) <;> refine OD.dn ?_)
      all_goals repeat' (first | (with_reducible refine TX.thenN ?_) | fail)
      all_goals refine TC.ifB (fun h => ?_) (fun h => ?_)
      all_goals try (exfalso; rw [hg] at h; simp at h; done)
      all_goals repeat' (with_reducible first | refine OL.st ?_ | refine TC.region ?_ | refine OL.nil ?_ | refine TX.thenN ?_ | refine TC.skip ?_ | refine TX.blkN ?_ | fail)
      all_goals exact TX.rd (i + 1) [0] (by omega) (by omega)
    · rw [goOn, if_neg h0] at hg
      repeat' (with_reducible first | refine OL.st ?_ | refine OL.alloc ?_ | refine OL.storeAgg ?_ | refine TC.region ?_ | refine TC.seq ?_ | refine OL.nil ?_ | refine TX.thenN ?_ | refine TC.block ?_ | refine TC.skip ?_ | refine TC.ifD ?_ ?_ <;> (intro hc; try (exfalso; omega)) | fail)
      (with_reducible refine TC.draw (id := 34) true 6 6 ?_ <;> refine OD.st 0 ?_ <;> refine OD.st 1 ?_ <;> refine OD.st 2 ?_ <;> refine OD.st 3 ?_ <;> refine OD.st 4 ?_ <;> refine OD.s1 5 ?_ (h := gvNeF4 eqMF) <;> refine OD.dn ?_)
      all_goals repeat' (first | (with_reducible refine TX.thenN ?_) | fail)
      all_goals refine TC.ifB (fun h => ?_) (fun h => ?_)
      all_goals try (exfalso; rw [hg] at h; simp at h; done)
      all_goals repeat' (with_reducible first | refine OL.st ?_ | refine TC.region ?_ | refine OL.nil ?_ | refine TX.thenN ?_ | refine TC.skip ?_ | refine TX.blkN ?_ | fail)
      all_goals exact TX.rd (i + 1) [0] (by omega) (by omega)
  · repeat' (with_reducible first | refine OL.st ?_ | refine TC.region ?_ | refine TC.seq ?_ | refine OL.nil ?_ | refine TX.thenN ?_ | refine TC.exit ?_ | refine TX.hit ?_ | refine TX.thenX ?_ | refine TC.ifD ?_ ?_ <;> (intro hc; try (exfalso; omega)) | fail)
    refine OL.c hkn Fn.law17_known ?_
    repeat' (with_reducible first | refine OL.st ?_ | refine OL.nil ?_ | refine TX.thenN ?_ | refine TC.ret ?_ | fail)
    exact TX.rt1 [] (.ren rfl)
end Go.Proofs
