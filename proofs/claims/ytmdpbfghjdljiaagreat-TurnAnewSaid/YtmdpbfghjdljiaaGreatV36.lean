/- Part 36 of what the claim is proved by: lemmas on the model and walks through functions of the program; no conditions. -/
import Derived.Test.YtmdpbfghjdljiaaGreatV35
import Derived.Test.YtmdpbfghjdljiaaGreatV13
import Derived.Test.YtmdpbfghjdljiaaGreatV23
namespace Go.Proofs
open Go Go.W Go.V
theorem eqMF : EqF4 Tryz.prog Tc.api_TurnFrom 3 Tc.api_MeanVal Tc.api_MeanKind 3 .i64 := ⟨by kernel_rfl, by kernel_rfl, by kernel_rfl, Tryz.underlying3, eqMV, let ⟨i, h, _⟩ := (Tryz.tabOK Tc.api_MeanVal _ rfl).info; ⟨i, h⟩, by kernel_rfl, by kernel_rfl⟩
theorem s_ref17_SameMap (la lb : List From) : V.Spec Tryz.prog Fc.ref17_SameMap [fromsA la, fromsA lb] [] (V.bool (la == lb)) [] := by
  refine V.Spec.enter Tryz.tabOK Tryz.mixed Fn.ref17_SameMap rfl rfl rfl fun B hB => ?_
  refine TC.bl 0 fun hla => TC.bl 1 fun hlb => ?_
  by_cases hl : la.length = lb.length
  · repeat' (with_reducible first | refine OL.st ?_ | refine TC.region ?_ | refine TC.seq ?_ | refine OL.nil ?_ | refine TX.thenN ?_ | refine TC.block ?_ | refine TC.skip ?_ | refine TC.ifD ?_ ?_ <;> (intro hc; try (exfalso; omega)) | fail)
    refine TC.lp (fun k : Nat => [(0, fromsA la), (1, fromsA lb), (12, V.int la.length), (13, V.int k)]) (fun _ => []) (fun k => k ≤ la.length ∧ la.take k = lb.take k) (fun k => la.length - k) 0 [] ⟨Nat.zero_le _, by simp⟩ ?_
    rintro k ⟨hk, hpre⟩
    by_cases hkl : k < la.length
    · obtain ⟨a1, a2⟩ : ∃ t : Bool, t = (la[k].1 == (lb[k]'(by omega)).1 && (la[k].2.1 == (lb[k]'(by omega)).2.1 && (la[k].2.2.1 == (lb[k]'(by omega)).2.2.1 && la[k].2.2.2 == (lb[k]'(by omega)).2.2.2))) := ⟨_, rfl⟩
      repeat' (with_reducible first | refine OL.st ?_ | refine TC.region ?_ | refine TC.seq ?_ | refine OL.nil ?_ | refine TX.thenN ?_ | refine TC.block ?_ | refine TC.skip ?_ | refine TC.ifD ?_ ?_ <;> (intro hc; try (exfalso; omega)) | fail)
      (with_reducible refine TC.draw (id := 6) true 8 9 ?_ <;> refine OD.st 0 ?_ <;> refine OD.st 1 ?_ <;> refine OD.st 2 ?_ <;> refine OD.st 3 ?_ <;> refine OD.st 4 ?_ <;> refine OD.st 5 ?_ <;> refine OD.st 6 ?_ <;> refine OD.st 7 ?_ <;> (refine OD.a1 8 ?_; refine OL.neF4 eqMF ?_; rw [← a2]; refine OL.nil ?_; refine TX.od ?_) <;> refine OD.dn ?_)
      repeat' (first | (with_reducible refine TX.thenN ?_) | fail)
      cases a1
      · repeat' (with_reducible first | refine OL.st ?_ | refine TC.region ?_ | refine TC.seq ?_ | refine OL.nil ?_ | refine TX.thenN ?_ | refine TC.ifT ?_ | refine TC.ret ?_ | refine TX.thenR ?_ | refine TX.blkR ?_ | fail)
        refine TX.rt1 [] (.bool ?_)
        have : la ≠ lb := fun e => by subst e; simp at a2
        simp [this]
      · have h : la[k] = lb[k]'(by omega) := by
          have := a2.symm
          simp only [Bool.and_eq_true, beq_iff_eq] at this
          exact Prod.ext this.1 (Prod.ext this.2.1 (Prod.ext this.2.2.1 this.2.2.2))
        repeat' (with_reducible first | refine OL.st ?_ | refine TC.region ?_ | refine OL.nil ?_ | refine TX.thenN ?_ | refine TC.skip ?_ | refine TX.blkN ?_ | refine TC.ifF ?_ | fail)
        refine TX.rd (k + 1) [] ⟨by omega, ?_⟩ (by omega)
        rw [take_succ (by omega), take_succ (by omega), hpre, h]
    · repeat' (with_reducible first | refine OL.st ?_ | refine TC.region ?_ | refine TC.seq ?_ | refine OL.nil ?_ | refine TX.thenN ?_ | refine TC.exit ?_ | refine TX.hit ?_ | refine TX.thenX ?_ | refine TC.ifD ?_ ?_ <;> (intro hc; try (exfalso; omega)) | refine TC.ret ?_ | fail)
      refine TX.rt1 [] (.bool ?_)
      have e : la = lb := by
        rw [← take_all (l := la) (k := k) (by omega), ← take_all (l := lb) (k := k) (by omega)]
        exact hpre
      simp [e]
  · repeat' (with_reducible first | refine OL.st ?_ | refine TC.region ?_ | refine TC.seq ?_ | refine OL.nil ?_ | refine TX.thenN ?_ | refine TC.ifD ?_ ?_ <;> (intro hc; try (exfalso; omega)) | refine TC.ret ?_ | refine TX.thenR ?_ | fail)
    refine TX.rt1 [] (.bool ?_)
    have : la ≠ lb := fun e => by subst e; exact hl rfl
    simp [this]
theorem mapFrom_snoc : ∀ (l : List Int) (k : Nat) (s : Int), mapFrom k (l ++ [s]) = mapFrom k l ++ [(s, ((k + l.length : Nat) : Int), 0, 0)]
  | [], k, s => rfl
  | x :: r, k, s => by
    rw [List.cons_append, mapFrom, mapFrom_snoc r (k + 1) s, mapFrom, List.length_cons, show k + 1 + r.length = k + (r.length + 1) by omega]; rfl
set_option maxHeartbeats 4000000 in
theorem s_ref17_MapOf {ss : List (List Cls)} (hsb : schemasB ss = true) {c fr to : Nat} (h1 : fr ≤ to) (h2 : to < ss.length) (_h3 : 3 ≤ c) (hc : c < 3 + (schAt ss fr).length) :
    V.Spec Tryz.prog Fc.ref17_MapOf [schsA ss, V.int c, V.int fr, V.int to] [] (fromsA (mapV ss c fr (to - fr))) [] := by
  obtain ⟨n1, n12⟩ := schemasB_len hsb
  have hcl : ∀ i, fr ≤ i → i < ss.length → c < 3 + (schAt ss i).length := fun i a b => by have := schemasB_le hsb i a b; omega
  have hso := fun i (a : fr ≤ i) (b : i < ss.length) => s_ref17_SlotsOf (goodB_fine (schemasB_good hsb b)).2 (hcl i a b)
  have hbe := fun i (a : fr ≤ i) (b : i < ss.length) => s_ref17_Begin (goodB_fine (schemasB_good hsb b)).2 (hcl i a b)
  have hll := fun i (b : i < ss.length) => slotsOf_len (schemasB_good hsb b) c
  have hnd := fun i (b : i < ss.length) => good_slots_nodup (schemasB_good hsb b) c
  have hat : ∀ i (b : i < ss.length), schAt ss i = ss[i] := fun i b => getD_lt b
  have hso0 := hso fr (Nat.le_refl _) (by omega)
  have hl0 := hll fr (by omega)
  have hm0 : mapV ss c fr 0 = mapFrom 0 (slotsOf (schAt ss fr) c) := rfl
  rw [hat fr (by omega)] at hso0
  rw [hat fr (by omega)] at hl0 hm0
  generalize slotsOf ss[fr] c = sl0 at *
  refine V.Spec.enter Tryz.tabOK Tryz.mixed Fn.ref17_MapOf rfl rfl rfl fun B hB => ?_
  repeat' (with_reducible first | refine OL.st ?_ | refine TC.region ?_ | refine TC.seq ?_ | refine OL.nil ?_ | refine TX.thenN ?_ | fail)
  refine OL.c hso0 Fn.ref17_SlotsOf ?_
  repeat' (with_reducible first | refine OL.st ?_ | refine OL.nil ?_ | refine TX.thenN ?_ | refine TC.block ?_ | fail)
  refine TC.adp 9 Tc.api_TurnFrom 4 ?_
  refine TC.lp (fun k : Nat => [(0, schsA ss), (1, V.int c), (2, V.int fr), (3, V.int to), (9, .hs 0), (24, ints sl0), (25, V.int sl0.length), (26, V.int k)]) (fun k => [.gs false Tc.api_TurnFrom 4 none ((mapFrom 0 (sl0.take k)).map fromA)]) (fun k => k ≤ sl0.length) (fun k => sl0.length - k) 0 [0] (Nat.zero_le _) ?_
  rintro k hk
  have hql : (mapFrom 0 (sl0.take k)).length ≤ 1000 := by rw [mapFrom_length]; simp; omega
  by_cases hkl : k < sl0.length
  · have e : (mapFrom 0 (sl0.take k)).map fromA ++ [fromA (sl0[k], (k : Int), 0, 0)] = (mapFrom 0 (sl0.take (k + 1))).map fromA := by
      rw [take_succ hkl, mapFrom_snoc, List.length_take, show 0 + min k sl0.length = k by omega]; exact map_snoc _ _ _
    generalize mapFrom 0 (sl0.take k) = q at *
    repeat' (with_reducible first | refine OL.st ?_ | refine OL.lit ?_ | refine OL.appO ?_ | refine OL.build ?_ | refine TC.region ?_ | refine TC.seq ?_ | refine OL.nil ?_ | refine TX.thenN ?_ | refine TC.block ?_ | refine TC.skip ?_ | refine TX.blkN ?_ | refine TC.ifD ?_ ?_ <;> (intro hc; try (exfalso; omega)) | fail)
    exact TX.rd (k + 1) [2] (by omega) (by omega)
  · rw [take_all (by omega), ← hm0]
    clear hql hm0
    repeat' (with_reducible first | refine OL.st ?_ | refine TC.region ?_ | refine TC.seq ?_ | refine OL.nil ?_ | refine TX.thenN ?_ | refine TC.block ?_ | refine TC.exit ?_ | refine TX.hit ?_ | refine TX.thenX ?_ | refine TC.ifD ?_ ?_ <;> (intro hc; try (exfalso; omega)) | fail)
    refine TC.lp (fun j : Nat => [(0, schsA ss), (1, V.int c), (3, V.int to), (9, .hs 0), (12, V.int ((fr : Int) + 1 + j))]) (fun j => [.gs false Tc.api_TurnFrom 4 none ((mapV ss c fr j).map fromA)]) (fun j => fr + j ≤ to) (fun j => to - fr - j) 0 [0] (by omega) ?_
    rintro j hj
    have hml := mapV_length ss c fr j
    have hmf := mapV_fst ss c fr j
    have hml2 := hll (fr + j) (by omega)
    by_cases hjt : fr + j < to
    · have e12 : ((fr : Int) + 1 + j).toNat = fr + (j + 1) := by omega
      have hsj := hso (fr + (j + 1)) (by omega) (by omega)
      have hbj := hbe (fr + (j + 1)) (by omega) (by omega)
      have hlj := hll (fr + (j + 1)) (by omega)
      have hx : ss[((fr : Int) + 1 + j).toNat]'(by omega) = schAt ss (fr + (j + 1)) := by rw [hat _ (by omega)]; congr 1
      have hmn : mapV ss c fr (j + 1) = mapNext (schAt ss (fr + (j + 1))) c (mapV ss c fr j) := rfl
      have hnj := hnd (fr + j) (by omega)
      rw [← hmf] at hnj
      rw [mapNext] at hmn
      rw [← hx] at hsj hbj hlj hmn
      generalize mapV ss c fr j = was at *
      generalize hsl : slotsOf (ss[((fr : Int) + 1 + j).toNat]'(by omega)) c = sl at *
      repeat' (with_reducible first | refine OL.st ?_ | refine TC.region ?_ | refine TC.seq ?_ | refine OL.nil ?_ | refine TX.thenN ?_ | refine TC.block ?_ | refine TC.skip ?_ | refine TC.ifD ?_ ?_ <;> (intro hc; try (exfalso; omega)) | fail)
      refine OL.c hsj Fn.ref17_SlotsOf ?_
      repeat' (with_reducible first | refine OL.st ?_ | refine OL.nil ?_ | refine TX.thenN ?_ | refine TC.block ?_ | fail)
      refine TC.adp 13 Tc.api_TurnFrom 4 ?_
      refine TC.lp (fun q : Nat => [(0, schsA ss), (1, V.int c), (3, V.int to), (9, .hs 0), (12, V.int ((fr : Int) + 1 + j)), (13, .hs 1), (50, ints sl), (51, V.int sl.length), (52, V.int q)]) (fun q => [.gs false Tc.api_TurnFrom 4 none (was.map fromA), .gs false Tc.api_TurnFrom 4 none (((sl.take q).map (mapOne (ss[((fr : Int) + 1 + j).toNat]'(by omega)) c was)).map fromA)]) (fun q => q ≤ sl.length) (fun q => sl.length - q) 0 [0, 1] (Nat.zero_le _) ?_
      rintro q hq
      have hql : ((sl.take q).map (mapOne (ss[((fr : Int) + 1 + j).toNat]'(by omega)) c was)).length ≤ 1000 := by simp; omega
      by_cases hqs : q < sl.length
      · have hb := hbj sl[q]
        have e : ((sl.take q).map (mapOne (ss[((fr : Int) + 1 + j).toNat]'(by omega)) c was)).map fromA ++ [fromA (lastF sl[q] (sl[q], -1, beginV (ss[((fr : Int) + 1 + j).toNat]'(by omega)) c sl[q]) was)] = ((sl.take (q + 1)).map (mapOne (ss[((fr : Int) + 1 + j).toNat]'(by omega)) c was)).map fromA := by
          rw [take_succ hqs, List.map_append, lastF_find _ _ _ hnj]
          exact map_snoc _ _ _
        generalize (sl.take q).map (mapOne (ss[((fr : Int) + 1 + j).toNat]'(by omega)) c was) = nx at *
        generalize beginV (ss[((fr : Int) + 1 + j).toNat]'(by omega)) c sl[q] = bv at *
        obtain ⟨F, hF⟩ : ∃ F : Nat → From, F = fun r => lastF sl[q] (sl[q], -1, bv) (was.take r) := ⟨_, rfl⟩
        have hF0 : F 0 = (sl[q], -1, bv) := by rw [hF]; rfl
        have hFl : lastF sl[q] (sl[q], -1, bv) was = F was.length := by rw [hF]; simp
        have hFs : ∀ r (hr : r < was.length), F (r + 1) = if was[r].1 = sl[q] then was[r] else F r := fun r hr => by
          rw [hF]; dsimp only; rw [take_succ hr, lastF, List.foldl_append]; rfl
        rw [hFl] at e
        clear hF hFl
        repeat' (with_reducible first | refine OL.st ?_ | refine TC.region ?_ | refine TC.seq ?_ | refine OL.nil ?_ | refine TX.thenN ?_ | refine TC.block ?_ | refine TC.skip ?_ | refine TC.ifD ?_ ?_ <;> (intro hc; try (exfalso; omega)) | fail)
        refine OL.c hb Fn.ref17_Begin ?_
        repeat' (with_reducible first | refine OL.st ?_ | refine OL.alloc ?_ | refine OL.storeAgg ?_ | refine OL.build ?_ | refine TC.region ?_ | refine TC.seq ?_ | refine OL.nil ?_ | refine TX.thenN ?_ | refine TC.block ?_ | fail)
        refine TC.lp (fun r : Nat => [(0, schsA ss), (1, V.int c), (3, V.int to), (9, .hs 0), (12, V.int ((fr : Int) + 1 + j)), (13, .hs 1), (15, V.int sl[q]), (16, .bp 2 0), (50, ints sl), (51, V.int sl.length), (52, V.int q), (65, .hs 0), (66, V.int was.length), (67, V.int r)]) (fun r => [.gs false Tc.api_TurnFrom 4 none (was.map fromA), .gs false Tc.api_TurnFrom 4 none (nx.map fromA), .cb Tc.api_TurnFrom [V.int (F r).1, V.int (F r).2.1, V.int (F r).2.2.1, V.int (F r).2.2.2]]) (fun r => r ≤ was.length) (fun r => was.length - r) 0 [0, 1, 2] (Nat.zero_le _) ?_ (ho := by rw [hF0]; exact ⟨⟨_, rfl, OE.ren rfl⟩, ⟨_, rfl, OE.ren rfl⟩, ⟨_, rfl, OE.ren rfl⟩, trivial⟩)
        rintro r hr
        by_cases hrl : r < was.length
        · have hfs := hFs r hrl
          by_cases he : was[r].1 = sl[q]
          · rw [if_pos he] at hfs
            have a1 : was[r].1 = (F (r + 1)).1 := by rw [hfs]
            have a2 : was[r].2.1 = (F (r + 1)).2.1 := by rw [hfs]
            have a3 : was[r].2.2.1 = (F (r + 1)).2.2.1 := by rw [hfs]
            have a4 : was[r].2.2.2 = (F (r + 1)).2.2.2 := by rw [hfs]
            repeat' (with_reducible first | refine OL.st ?_ | refine OL.alloc ?_ | refine OL.storeAgg ?_ | refine TC.region ?_ | refine TC.seq ?_ | refine OL.nil ?_ | refine TX.thenN ?_ | refine TC.block ?_ | refine TC.skip ?_ | refine TX.blkN ?_ | refine TC.ifD ?_ ?_ <;> (intro hc; try (exfalso; omega)) | fail)
            exact TX.rd (r + 1) [0, 1, 2] (by omega) (by omega) (ho := by rw [hfs]; exact ⟨⟨_, rfl, OE.ren rfl⟩, ⟨_, rfl, OE.ren rfl⟩, ⟨_, rfl, OE.ren rfl⟩, trivial⟩)
          · rw [if_neg he] at hfs
            repeat' (with_reducible first | refine OL.st ?_ | refine OL.alloc ?_ | refine OL.storeAgg ?_ | refine TC.region ?_ | refine TC.seq ?_ | refine OL.nil ?_ | refine TX.thenN ?_ | refine TC.block ?_ | refine TC.skip ?_ | refine TX.blkN ?_ | refine TC.ifD ?_ ?_ <;> (intro hc; try (exfalso; omega)) | fail)
            exact TX.rd (r + 1) [0, 1, 2] (by omega) (by omega) (ho := by rw [hfs]; exact ⟨⟨_, rfl, OE.ren rfl⟩, ⟨_, rfl, OE.ren rfl⟩, ⟨_, rfl, OE.ren rfl⟩, trivial⟩)
        · obtain rfl : r = was.length := by omega
          repeat' (with_reducible first | refine OL.st ?_ | refine OL.lit ?_ | refine OL.appO ?_ | refine TC.region ?_ | refine TC.seq ?_ | refine OL.nil ?_ | refine TX.thenN ?_ | refine TX.blkN ?_ | refine TC.exit ?_ | refine TX.hit ?_ | refine TX.thenX ?_ | refine TC.ifD ?_ ?_ <;> (intro hc; try (exfalso; omega)) | fail)
          exact TX.rd (q + 1) [0, 4] (by omega) (by omega)
      · rw [take_all (by omega), ← hmn]
        repeat' (with_reducible first | refine OL.st ?_ | refine TC.region ?_ | refine TC.seq ?_ | refine OL.nil ?_ | refine TX.thenN ?_ | refine TX.blkN ?_ | refine TC.exit ?_ | refine TX.hit ?_ | refine TX.thenX ?_ | refine TC.ifD ?_ ?_ <;> (intro hc; try (exfalso; omega)) | fail)
        exact TX.rd (j + 1) [1] (by omega) (by omega)
    · obtain rfl : j = to - fr := by omega
      repeat' (with_reducible first | refine OL.st ?_ | refine TC.region ?_ | refine TC.seq ?_ | refine OL.nil ?_ | refine TX.thenN ?_ | refine TC.exit ?_ | refine TX.hit ?_ | refine TX.thenX ?_ | refine TC.ifD ?_ ?_ <;> (intro hc; try (exfalso; omega)) | refine TC.ret ?_ | fail)
      refine TX.vw 8 ?_
      exact TX.rt1 [] (.ren rfl)
set_option maxHeartbeats 2000000 in
theorem s_ref17_Map {ss : List (List Cls)} (hs : ∀ s ∈ ss, Short s) (c fr to : Int) : V.Spec Tryz.prog Fc.ref17_Map [schsA ss, V.int c, V.int fr, V.int to] [] (.tp [fromsA (mapX ss c fr to).1, V.int (mapX ss c fr to).2]) [] := by
  have hsc := s_ref17_Schemas ss hs
  rw [mapX]
  refine V.Spec.enter Tryz.tabOK Tryz.mixed Fn.ref17_Map rfl rfl rfl fun B hB => ?_
  refine TC.bl 0 fun hll => ?_
  cases hsb : schemasB ss
  · rw [hsb] at hsc
    rw [if_neg (by rw [mapOkB, hsb]; simp)]
    repeat' (with_reducible first | refine OL.st ?_ | refine TC.region ?_ | refine TC.seq ?_ | refine OL.nil ?_ | refine TX.thenN ?_ | fail)
    refine OL.c hsc Fn.ref17_Schemas ?_
    repeat' (with_reducible first | refine OL.st ?_ | refine TC.region ?_ | refine TC.seq ?_ | refine OL.nil ?_ | refine TX.thenN ?_ | refine TC.ifT ?_ | refine OL.gOff ?_ | refine TC.ret ?_ | refine TX.thenR ?_ | fail)
    exact TX.rt2 [] (.nil (by decide)) (.ren rfl)
  rw [hsb] at hsc
  obtain ⟨n1, n12⟩ := schemasB_len hsb
  by_cases hr : (0 ≤ fr ∧ fr ≤ to) ∧ to < (ss.length : Int)
  · have hat : schAt ss fr.toNat = ss[fr.toNat]'(by omega) := getD_lt (by omega)
    have hg10 := (goodB_fine (schemasB_good hsb (i := fr.toNat) (by omega))).1
    have hown := s_ref17_Own (ss[fr.toNat]'(by omega)) c (by rw [← hat]; omega)
    rw [← ownB] at hown
    have hok : mapOkB ss c fr to = ownB (ss[fr.toNat]'(by omega)).length c := by
      rw [mapOkB, hsb, decide_eq_true hr.1.1, decide_eq_true hr.1.2, decide_eq_true hr.2, hat]; rfl
    rw [hok]
    cases ho : ownB (ss[fr.toNat]'(by omega)).length c
    · rw [ho] at hown
      rw [if_neg Bool.false_ne_true]
      repeat' (with_reducible first | refine OL.st ?_ | refine TC.region ?_ | refine TC.seq ?_ | refine OL.nil ?_ | refine TX.thenN ?_ | fail)
      refine OL.c hsc Fn.ref17_Schemas ?_
      repeat' (with_reducible first | refine OL.st ?_ | refine OL.gOn ?_ | refine OL.gD ?_ ?_ <;> (intro hc; try (exfalso; omega)) | fail)
      refine OL.c hown Fn.ref17_Own ?_
      repeat' (with_reducible first | refine OL.st ?_ | refine TC.region ?_ | refine TC.seq ?_ | refine OL.nil ?_ | refine TX.thenN ?_ | refine TC.ifT ?_ | refine OL.gOn ?_ | refine TC.ret ?_ | refine TX.thenR ?_ | fail)
      exact TX.rt2 [] (.nil (by decide)) (.ren rfl)
    · rw [ho] at hown
      rw [if_pos rfl]
      have hcc : 3 ≤ c ∧ c < 3 + ((ss[fr.toNat]'(by omega)).length : Int) := by simpa only [ownB, Bool.and_eq_true, decide_eq_true_eq] using ho
      have hm := s_ref17_MapOf hsb (c := c.toNat) (fr := fr.toNat) (to := to.toNat) (by omega) (by omega) (by omega) (by rw [hat]; omega)
      rw [show ((c.toNat : Nat) : Int) = c by omega, show ((fr.toNat : Nat) : Int) = fr by omega, show ((to.toNat : Nat) : Int) = to by omega] at hm
      repeat' (with_reducible first | refine OL.st ?_ | refine TC.region ?_ | refine TC.seq ?_ | refine OL.nil ?_ | refine TX.thenN ?_ | fail)
      refine OL.c hsc Fn.ref17_Schemas ?_
      repeat' (with_reducible first | refine OL.st ?_ | refine OL.gOn ?_ | refine OL.gD ?_ ?_ <;> (intro hc; try (exfalso; omega)) | fail)
      refine OL.c hown Fn.ref17_Own ?_
      repeat' (with_reducible first | refine OL.st ?_ | refine TC.region ?_ | refine TC.seq ?_ | refine OL.nil ?_ | refine TX.thenN ?_ | refine TC.skip ?_ | refine TC.ifF ?_ | refine OL.gOn ?_ | fail)
      refine OL.c hm Fn.ref17_MapOf ?_
      repeat' (with_reducible first | refine OL.st ?_ | refine OL.nil ?_ | refine TX.thenN ?_ | refine TC.ret ?_ | fail)
      exact TX.rt2 [] (.ren rfl) (.ren rfl)
  · rw [if_neg (by rw [mapOkB]; simp only [Bool.and_eq_true, decide_eq_true_eq]; omega)]
    by_cases h0 : 0 ≤ fr
    all_goals by_cases h1 : fr ≤ to
    all_goals repeat' (with_reducible first | refine OL.st ?_ | refine TC.region ?_ | refine TC.seq ?_ | refine OL.nil ?_ | refine TX.thenN ?_ | fail)
    all_goals refine OL.c hsc Fn.ref17_Schemas ?_
    all_goals repeat' (with_reducible first | refine OL.st ?_ | refine TC.region ?_ | refine TC.seq ?_ | refine OL.nil ?_ | refine TX.thenN ?_ | refine TC.ifT ?_ | refine OL.gOn ?_ | refine OL.gOff ?_ | refine OL.gD ?_ ?_ <;> (intro hc; try (exfalso; omega)) | refine TC.ret ?_ | refine TX.thenR ?_ | fail)
    all_goals exact TX.rt2 [] (.nil (by decide)) (.ren rfl)
end Go.Proofs
