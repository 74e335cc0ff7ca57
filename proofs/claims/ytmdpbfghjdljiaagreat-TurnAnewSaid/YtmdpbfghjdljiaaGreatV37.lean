/- Part 37 of what the claim is proved by: lemmas on the model and walks through functions of the program; no conditions. -/
import Derived.Test.YtmdpbfghjdljiaaGreatV21
import Derived.Test.YtmdpbfghjdljiaaGreatV25
import Derived.Test.YtmdpbfghjdljiaaGreatV35
import Derived.Test.YtmdpbfghjdljiaaGreatV36
import Derived.Test.YtmdpbfghjdljiaaGreatV13
namespace Go.Proofs
open Go Go.W Go.V
theorem fidx_any {α : Type} (p : α → Bool) : ∀ (l : List α) (k : Nat), (fidx p k l = -1 ∧ l.find? p = none) ∨ ∃ i : Nat, ∃ h : i < l.length, fidx p k l = (k : Int) + i ∧ l.find? p = some l[i]
  | [], k => .inl ⟨rfl, rfl⟩
  | x :: r, k => by
    rw [fidx, List.find?_cons]
    cases hp : p x with
    | true => exact .inr ⟨0, by simp, by simp, by simp⟩
    | false =>
      rcases fidx_any p r (k + 1) with ⟨h1, h2⟩ | ⟨i, h1, h2, h3⟩
      · exact .inl ⟨by simpa using h1, by simpa using h2⟩
      · refine .inr ⟨i + 1, by simpa using h1, ?_, by simpa using h3⟩
        simp only [Bool.false_eq_true, if_false]; rw [h2]; push_cast; omega
theorem s_IndexFunc_F (l : List From) (p : From → Bool) : V.Spec Tryz.prog Fc.slices_IndexFunc_Lapi_TurnFrom_api_TurnFrom [fromsA l, predE Tryz.prog fromA (· ∈ l) p] [] (V.int (fidx p 0 l)) [] := by
  refine V.Spec.enter Tryz.tabOK Tryz.mixed Fn.slices_IndexFunc_Lapi_TurnFrom_api_TurnFrom rfl rfl rfl fun B hB => ?_
  refine TC.bl 0 fun hl => ?_
  repeat' (with_reducible first | refine OL.st ?_ | refine TC.region ?_ | refine TC.seq ?_ | refine OL.nil ?_ | refine TX.thenN ?_ | refine TC.block ?_ | fail)
  refine TC.lp (fun k : Nat => [(0, fromsA l), (1, predE Tryz.prog fromA (· ∈ l) p), (7, V.int l.length), (8, V.int k)]) (fun _ => []) (fun k => k ≤ l.length ∧ fidx p 0 l = fidx p k (l.drop k)) (fun k => l.length - k) 0 [] ⟨Nat.zero_le _, rfl⟩ ?_
  rintro k ⟨hk, hinv⟩
  repeat' (with_reducible first | refine OL.st ?_ | refine TC.region ?_ | refine TC.seq ?_ | refine OL.nil ?_ | refine TX.thenN ?_ | refine TC.block ?_ | refine TC.skip ?_ | refine TC.exit ?_ | refine TX.hit ?_ | refine TX.thenX ?_ | refine TC.ifD ?_ ?_ <;> (intro hc; try (exfalso; omega)) | refine TC.ret ?_ | fail)
  · refine OL.cf l[k] (List.getElem_mem _) ?_
    repeat' (first | (with_reducible refine OL.nil ?_) | (with_reducible refine TX.thenN ?_) | fail)
    refine TC.ifB (fun hp => ?_) (fun hp => ?_)
    · repeat' (with_reducible first | refine OL.st ?_ | refine TC.region ?_ | refine TC.seq ?_ | refine OL.nil ?_ | refine TX.thenN ?_ | refine TC.ret ?_ | refine TX.thenR ?_ | refine TX.blkR ?_ | fail)
      refine TX.rt1 [] (.int ?_)
      rw [hinv, drop_cons (by omega)]
      simp [fidx, hp]
    · repeat' (with_reducible first | refine OL.st ?_ | refine TC.region ?_ | refine OL.nil ?_ | refine TX.thenN ?_ | refine TC.skip ?_ | refine TX.blkN ?_ | fail)
      refine TX.rd (k + 1) [] ⟨by omega, ?_⟩ (by omega)
      rw [hinv, drop_cons (by omega)]
      simp [fidx, hp]
  · refine TX.rt1 [] (.int ?_)
    rw [hinv, drop_nil (by omega)]
    rfl
theorem s_each_int_F (l : List Int) (f : Int → From) (hb : l.length ≤ 1000000000) : V.Spec Tryz.prog Fc.turn_each_int_api_TurnFrom [ints l, funI Tryz.prog (· ∈ l) (fun c => fromA (f c))] [] (fromsA (l.map f)) [] := by
  refine V.Spec.enter Tryz.tabOK Tryz.mixed Fn.turn_each_int_api_TurnFrom rfl rfl rfl fun B hB => ?_
  repeat' (with_reducible first | refine OL.st ?_ | refine TC.region ?_ | refine TC.seq ?_ | refine OL.nil ?_ | refine TX.thenN ?_ | refine TC.block ?_ | fail)
  refine TC.adp 5 Tc.api_TurnFrom 4 ?_
  refine TC.lp (fun k : Nat => [(1, funI Tryz.prog (· ∈ l) (fun c => fromA (f c))), (5, .hs 0), (8, ints l), (9, V.int l.length), (10, V.int k)]) (fun k => [.gs false Tc.api_TurnFrom 4 none (((l.take k).map f).map fromA)]) (fun k => k ≤ l.length) (fun k => l.length - k) 0 [0] (Nat.zero_le _) ?_
  rintro k hk
  by_cases hkl : k < l.length
  · have hlen : ((l.take k).map f).length = k := by simp; omega
    have e : ((l.take k).map f).map fromA ++ [fromA (f l[k])] = ((l.take (k + 1)).map f).map fromA := by rw [take_succ hkl, List.map_append, List.map_append]; rfl
    generalize (l.take k).map f = gk at *
    repeat' (with_reducible first | refine OL.st ?_ | refine TC.region ?_ | refine TC.seq ?_ | refine OL.nil ?_ | refine TX.thenN ?_ | refine TC.block ?_ | refine TC.skip ?_ | refine TC.ifD ?_ ?_ <;> (intro hc; try (exfalso; omega)) | fail)
    refine OL.cf l[k] (List.getElem_mem _) ?_
    repeat' (with_reducible first | refine OL.st ?_ | refine OL.lit ?_ | refine OL.appO ?_ | refine TC.region ?_ | refine OL.nil ?_ | refine TX.thenN ?_ | refine TX.blkN ?_ | fail)
    exact TX.rd (k + 1) [2] (by omega) (by omega)
  · rw [take_all (by omega)]
    repeat' (with_reducible first | refine OL.st ?_ | refine TC.region ?_ | refine TC.seq ?_ | refine OL.nil ?_ | refine TX.thenN ?_ | refine TC.exit ?_ | refine TX.hit ?_ | refine TX.thenX ?_ | refine TC.ifD ?_ ?_ <;> (intro hc; try (exfalso; omega)) | refine TC.ret ?_ | fail)
    refine TX.vw 4 ?_
    exact TX.rt1 [] (.ren rfl)
theorem s_Map_1_1 (y : From) (s : Int) : V.Spec Tryz.prog Fc.turn_Map_1_1 [fromA y, .ep [V.int s] 0] [] (V.bool (y.1 == s)) [] := by
  refine V.Spec.enter Tryz.tabOK Tryz.mixed Fn.turn_Map_1_1 rfl rfl rfl fun B hB => ?_
  repeat' (with_reducible first | refine OL.st ?_ | refine OL.box ?_ | refine TC.region ?_ | refine TC.seq ?_ | refine OL.nil ?_ | refine TX.thenN ?_ | refine TC.ret ?_ | fail)
  all_goals refine TX.rt1 [] (.bool ?_)
  all_goals rw [Bool.eq_iff_iff, decide_eq_true_eq, beq_iff_eq]
set_option maxHeartbeats 1000000 in
theorem s_Map_1 {l : List Cls} (hf : fine (graphOf l) = true) {c : Nat} (h3 : 3 ≤ c) (hc : c < 3 + l.length) (was : List From) (s : Int) :
    V.Spec Tryz.prog Fc.turn_Map_1 [V.int s, .ep [fromsA was] 0, .ep [schE l] 0, .ep [V.int c] 0] [] (fromA (mapOne l c was s)) [] := by
  have hix := s_IndexFunc_F was (fun y => y.1 == s)
  have hbe := s_turn_begin hf h3 hc s
  have hle : LEs (V.ts []) [fromsA was, .fn (.func Fc.turn_Map_1_1) [] [.ep [V.int s] 0]] [fromsA was, predE Tryz.prog fromA (· ∈ was) (fun y => y.1 == s)] := ⟨.ren rfl, LE.fun_ (first' := []) (caps' := [.ep [V.int s] 0]) Fn.turn_Map_1_1 rfl trivial ⟨.ren rfl, trivial⟩ (fun x _ => s_Map_1_1 x s), trivial⟩
  rw [mapOne, mapNew]
  rcases fidx_any (fun y : From => y.1 == s) was 0 with ⟨f1, f2⟩ | ⟨i, f1, f2, f3⟩
  · rw [f2]
    rw [f1] at hix
    refine V.Spec.enter Tryz.tabOK Tryz.mixed Fn.turn_Map_1 rfl rfl rfl fun B hB => ?_
    repeat' (with_reducible first | refine OL.st ?_ | refine OL.box ?_ | refine OL.alloc ?_ | refine TC.region ?_ | refine TC.seq ?_ | refine OL.nil ?_ | refine TX.thenN ?_ | fail)
    refine OL.frzA 0 ?_
    refine OL.c hix Fn.slices_IndexFunc_Lapi_TurnFrom_api_TurnFrom ?_ (hle := hle)
    repeat' (with_reducible first | refine OL.st ?_ | refine TC.region ?_ | refine TC.seq ?_ | refine OL.nil ?_ | refine TX.thenN ?_ | refine TC.skip ?_ | refine TC.ifF ?_ | fail)
    (with_reducible refine TC.draw (id := 4) true 6 7 ?_ <;> refine OD.st 0 ?_ <;> refine OD.st 1 ?_ <;> refine OD.st 2 ?_ <;> refine OD.st 3 ?_ <;> refine OD.c1 4 hbe Fn.turn_schema_begin ?_ <;> refine OD.s1 5 ?_ (h := gvBuild) <;> (refine OD.a1 6 ?_; refine OL.storeAgg ?_; refine OL.nil ?_; refine TX.od ?_) <;> refine OD.dn ?_)
    repeat' (first | (with_reducible refine TX.thenN ?_) | (with_reducible refine TC.ret ?_) | fail)
    exact TX.rtc [] (.ren rfl)
  · rw [f3]
    rw [f2] at hix
    refine V.Spec.enter Tryz.tabOK Tryz.mixed Fn.turn_Map_1 rfl rfl rfl fun B hB => ?_
    repeat' (with_reducible first | refine OL.st ?_ | refine OL.box ?_ | refine OL.alloc ?_ | refine TC.region ?_ | refine TC.seq ?_ | refine OL.nil ?_ | refine TX.thenN ?_ | fail)
    refine OL.frzA 0 ?_
    refine OL.c hix Fn.slices_IndexFunc_Lapi_TurnFrom_api_TurnFrom ?_ (hle := hle)
    repeat' (with_reducible first | refine OL.st ?_ | refine OL.storeAgg ?_ | refine TC.region ?_ | refine TC.seq ?_ | refine OL.nil ?_ | refine TX.thenN ?_ | refine TC.ifT ?_ | refine TC.ret ?_ | refine TX.thenR ?_ | fail)
    simp only [Nat.zero_add]
    exact TX.rtc [] (.ren rfl)
set_option maxHeartbeats 4000000 in
theorem s_turn_Map {ss : List (List Cls)} (hs : ∀ s ∈ ss, Short s) (c fr to : Int) : V.Spec Tryz.prog Fc.turn_Map [schsA ss, V.int c, V.int fr, V.int to] [] (.tp [fromsA (mapX ss c fr to).1, V.int (mapX ss c fr to).2]) [] := by
  rw [mapX]
  refine V.Spec.enter Tryz.tabOK Tryz.mixed Fn.turn_Map rfl rfl rfl fun B hB => ?_
  refine TC.bl 0 fun hll => ?_
  cases hsb : schemasB ss
  · have hsc := schemas_no hs hsb
    rw [if_neg (by rw [mapOkB, hsb]; simp)]
    repeat' (with_reducible first | refine OL.st ?_ | refine OL.box ?_ | refine TC.region ?_ | refine TC.seq ?_ | refine OL.nil ?_ | refine TX.thenN ?_ | fail)
    refine OL.c hsc Fn.turn_schemas ?_
    repeat' (with_reducible first | refine OL.st ?_ | refine TC.seq ?_ | refine OL.nil ?_ | refine TX.thenN ?_ | fail)
    (with_reducible refine TC.draw (id := 2) true 26 26 ?_ <;> refine OD.st 0 ?_ <;> refine OD.st 1 ?_ <;> refine OD.st 2 ?_ <;> refine OD.of 3 ?_ <;> refine OD.of 4 ?_ <;> refine OD.st 5 ?_ <;> refine OD.st 6 ?_ <;> refine OD.of 7 ?_ <;> refine OD.of 8 ?_ <;> refine OD.of 9 ?_ <;> refine OD.st 10 ?_ <;> refine OD.st 11 ?_ <;> refine OD.of 12 ?_ <;> refine OD.of 13 ?_ <;> refine OD.of 14 ?_ <;> refine OD.of 15 ?_ <;> refine OD.st 16 ?_ <;> refine OD.st 17 ?_ <;> refine OD.of 18 ?_ <;> refine OD.of 19 ?_ <;> refine OD.of 20 ?_ <;> refine OD.of 21 ?_ <;> refine OD.of 22 ?_ <;> refine OD.of 23 ?_ <;> refine OD.of 24 ?_ <;> refine OD.st 25 ?_ <;> refine OD.dn ?_)
    all_goals repeat' (with_reducible first | refine OL.st ?_ | refine TC.region ?_ | refine TC.seq ?_ | refine OL.nil ?_ | refine TX.thenN ?_ | refine TC.ifT ?_ | refine TC.ret ?_ | refine TX.thenR ?_ | fail)
    all_goals exact TX.rt2 [] (.nil (by decide)) (.ren rfl)
  have hsc := schemas_ok hs hsb
  obtain ⟨n1, n12⟩ := schemasB_len hsb
  by_cases hr : (0 ≤ fr ∧ fr ≤ to) ∧ to < (ss.length : Int)
  · have hat0 : schAt ss fr.toNat = ss[fr.toNat]'(by omega) := getD_lt (by omega)
    have hg10 := (goodB_fine (schemasB_good hsb (i := fr.toNat) (by omega))).1
    have hcs := s_turn_class (ss[fr.toNat]'(by omega)) c (by rw [← hat0]; omega)
    have hok : mapOkB ss c fr to = ownB (ss[fr.toNat]'(by omega)).length c := by
      rw [mapOkB, hsb, decide_eq_true hr.1.1, decide_eq_true hr.1.2, decide_eq_true hr.2, hat0]; rfl
    rw [hok]
    cases ho : ownB (ss[fr.toNat]'(by omega)).length c
    · rw [ho] at hcs
      rw [if_neg Bool.false_ne_true]
      repeat' (with_reducible first | refine OL.st ?_ | refine OL.box ?_ | refine TC.region ?_ | refine TC.seq ?_ | refine OL.nil ?_ | refine TX.thenN ?_ | fail)
      refine OL.frzA 0 ?_
      refine OL.c hsc Fn.turn_schemas ?_
      repeat' (with_reducible first | refine OL.st ?_ | refine TC.seq ?_ | refine OL.nil ?_ | refine TX.thenN ?_ | fail)
      refine TC.vw 10 ?_
      (with_reducible refine TC.draw (id := 2) true 26 26 ?_ <;> refine OD.st 0 ?_ <;> refine OD.st 1 ?_ <;> refine OD.st 2 ?_ <;> refine OD.st 3 ?_ <;> refine OD.st 4 ?_ <;> refine OD.st 5 ?_ <;> refine OD.st 6 ?_ <;> refine OD.sD 29 ?_ ?_ <;> (intro hc; try (exfalso; omega)) <;> (first | (with_reducible refine OD.st 7 ?_) | (with_reducible refine OD.of 7 ?_)) <;> refine OD.st 8 ?_ <;> refine OD.st 9 ?_ <;> refine OD.st 10 ?_ <;> refine OD.st 11 ?_ <;> refine OD.sD 34 ?_ ?_ <;> (intro hc; try (exfalso; omega)) <;> (first | (with_reducible refine OD.st 12 ?_) | (with_reducible refine OD.of 12 ?_)) <;> refine OD.st 13 ?_ <;> refine OD.st 14 ?_ <;> refine OD.st 15 ?_ <;> refine OD.st 16 ?_ <;> refine OD.st 17 ?_ <;> refine OD.sD 40 ?_ ?_ <;> (intro hc; try (exfalso; omega)) <;> (first | (with_reducible refine OD.st 18 ?_) | (with_reducible refine OD.of 18 ?_)) <;> refine OD.st 19 ?_ <;> refine OD.st 20 ?_ <;> refine OD.st 21 ?_ <;> refine OD.st 22 ?_ <;> refine OD.c1 23 hcs Fn.turn_schema_class ?_ <;> refine OD.st 24 ?_ <;> refine OD.st 25 ?_ <;> refine OD.dn ?_)
      all_goals repeat' (with_reducible first | refine OL.st ?_ | refine TC.region ?_ | refine TC.seq ?_ | refine OL.nil ?_ | refine TX.thenN ?_ | refine TC.ifT ?_ | refine TC.ret ?_ | refine TX.thenR ?_ | fail)
      all_goals exact TX.rt2 [] (.nil (by decide)) (.ren rfl)
    · rw [ho] at hcs
      rw [if_pos rfl]
      have hcc : 3 ≤ c ∧ c < 3 + ((ss[fr.toNat]'(by omega)).length : Int) := by simpa only [ownB, Bool.and_eq_true, decide_eq_true_eq] using ho
      obtain ⟨c, rfl⟩ : ∃ c' : Nat, c = (c' : Int) := ⟨c.toNat, by omega⟩
      obtain ⟨fr, rfl⟩ : ∃ f' : Nat, fr = (f' : Int) := ⟨fr.toNat, by omega⟩
      obtain ⟨to, rfl⟩ : ∃ t' : Nat, to = (t' : Int) := ⟨to.toNat, by omega⟩
      simp only [Int.toNat_natCast] at *
      have hcl : ∀ i, fr ≤ i → i < ss.length → 3 ≤ c ∧ c < 3 + (schAt ss i).length := fun i a b => by have := schemasB_le hsb i a b; rw [hat0] at this; omega
      have hha := fun i (a : fr ≤ i) (b : i < ss.length) => s_turn_has (schAt ss i) (by have := (goodB_fine (schemasB_good hsb b)).1; omega) (hcl i a b).1 (hcl i a b).2
      have hll := fun i (b : i < ss.length) => slotsOf_len (schemasB_good hsb b) c
      have hha0 := hha fr (Nat.le_refl _) (by omega)
      have hl0 := hll fr (by omega)
      have hm0 : mapV ss c fr 0 = mapFrom 0 (slotsOf (schAt ss fr) c) := rfl
      rw [hat0] at hha0 hl0 hm0
      generalize slotsOf ss[fr] c = sl0 at *
      repeat' (with_reducible first | refine OL.st ?_ | refine OL.box ?_ | refine TC.region ?_ | refine TC.seq ?_ | refine OL.nil ?_ | refine TX.thenN ?_ | fail)
      refine OL.frzA 0 ?_
      refine OL.c hsc Fn.turn_schemas ?_
      repeat' (with_reducible first | refine OL.st ?_ | refine TC.seq ?_ | refine OL.nil ?_ | refine TX.thenN ?_ | fail)
      refine TC.vw 10 ?_
      (with_reducible refine TC.draw (id := 2) true 26 26 ?_ <;> refine OD.st 0 ?_ <;> refine OD.st 1 ?_ <;> refine OD.st 2 ?_ <;> refine OD.st 3 ?_ <;> refine OD.st 4 ?_ <;> refine OD.st 5 ?_ <;> refine OD.st 6 ?_ <;> refine OD.st 7 ?_ <;> refine OD.st 8 ?_ <;> refine OD.st 9 ?_ <;> refine OD.st 10 ?_ <;> refine OD.st 11 ?_ <;> refine OD.sD 34 ?_ ?_ <;> (intro hc; try (exfalso; omega)) <;> (first | (with_reducible refine OD.st 12 ?_) | (with_reducible refine OD.of 12 ?_)) <;> refine OD.st 13 ?_ <;> refine OD.st 14 ?_ <;> refine OD.st 15 ?_ <;> refine OD.st 16 ?_ <;> refine OD.st 17 ?_ <;> refine OD.sD 40 ?_ ?_ <;> (intro hc; try (exfalso; omega)) <;> (first | (with_reducible refine OD.st 18 ?_) | (with_reducible refine OD.of 18 ?_)) <;> refine OD.st 19 ?_ <;> refine OD.st 20 ?_ <;> refine OD.st 21 ?_ <;> refine OD.st 22 ?_ <;> refine OD.c1 23 hcs Fn.turn_schema_class ?_ <;> refine OD.st 24 ?_ <;> refine OD.st 25 ?_ <;> refine OD.dn ?_)
      all_goals repeat' (with_reducible first | refine OL.st ?_ | refine TC.region ?_ | refine TC.seq ?_ | refine OL.nil ?_ | refine TX.thenN ?_ | refine TC.skip ?_ | refine TC.ifF ?_ | fail)
      all_goals (with_reducible refine TC.draw (id := 5) true 8 8 ?_ <;> refine OD.st 0 ?_ <;> refine OD.st 1 ?_ <;> refine OD.st 2 ?_ <;> refine OD.st 3 ?_ <;> refine OD.st 4 ?_ <;> refine OD.st 7 ?_ <;> refine OD.c1 5 hha0 Fn.turn_schema_has ?_ <;> refine OD.st 6 ?_ <;> refine OD.dn ?_)
      all_goals repeat' (first | (with_reducible refine TX.thenN ?_) | (with_reducible refine TC.block ?_) | fail)
      all_goals refine TC.adp 12 Tc.api_TurnFrom 4 ?_
      all_goals refine TC.lp (fun k : Nat => [(2, V.int fr), (3, V.int to), (5, .ep [V.int c] 0), (10, schEs ss), (12, .hs 0), (54, ints sl0), (55, V.int sl0.length), (56, V.int k)]) (fun k => [.gs false Tc.api_TurnFrom 4 none ((mapFrom 0 (sl0.take k)).map fromA)]) (fun k => k ≤ sl0.length) (fun k => sl0.length - k) 0 [2] (Nat.zero_le _) ?_
      all_goals rintro k hk
      all_goals have hql : (mapFrom 0 (sl0.take k)).length ≤ 1000 := by rw [mapFrom_length]; simp; omega
      all_goals by_cases hkl : k < sl0.length
      · have e : (mapFrom 0 (sl0.take k)).map fromA ++ [fromA (sl0[k], (k : Int), 0, 0)] = (mapFrom 0 (sl0.take (k + 1))).map fromA := by
          rw [take_succ hkl, mapFrom_snoc, List.length_take, show 0 + min k sl0.length = k by omega]; exact map_snoc _ _ _
        generalize mapFrom 0 (sl0.take k) = q at *
        repeat' (with_reducible first | refine OL.st ?_ | refine OL.lit ?_ | refine OL.appO ?_ | refine OL.build ?_ | refine TC.region ?_ | refine TC.seq ?_ | refine OL.nil ?_ | refine TX.thenN ?_ | refine TC.block ?_ | refine TC.skip ?_ | refine TX.blkN ?_ | refine TC.ifD ?_ ?_ <;> (intro hc; try (exfalso; omega)) | fail)
        exact TX.rd (k + 1) [2] (by omega) (by omega)
      · rw [take_all (by omega), ← hm0]
        clear hql hm0
        repeat' (with_reducible first | refine OL.st ?_ | refine TC.region ?_ | refine TC.seq ?_ | refine OL.nil ?_ | refine TX.thenN ?_ | refine TC.exit ?_ | refine TX.hit ?_ | refine TX.thenX ?_ | refine TC.ifD ?_ ?_ <;> (intro hc; try (exfalso; omega)) | fail)
        refine OL.sl2 (fr + 1) (to + 1) ?_
        repeat' (with_reducible first | refine OL.st ?_ | refine OL.nil ?_ | refine TX.thenN ?_ | refine TC.block ?_ | fail)
        refine TC.vw 12 ?_
        obtain ⟨sub, hsub⟩ : ∃ sub, sub = (ss.take (to + 1)).drop (fr + 1) := ⟨_, rfl⟩
        have hsubl : sub.length = to - fr := by rw [hsub]; simp; omega
        have hsubg : ∀ q (h : q < sub.length), sub[q] = schAt ss (fr + (q + 1)) := fun q h => by
          simp only [hsub, List.getElem_drop, List.getElem_take]
          rw [schAt, getD_lt (by omega)]; congr 1; omega
        rw [← hsub]
        refine TC.lp (fun j : Nat => [(5, .ep [V.int c] 0), (12, fromsA (mapV ss c fr j)), (73, schEs sub), (74, V.int sub.length), (75, V.int j)]) (fun _ => []) (fun j => j ≤ to - fr) (fun j => to - fr - j) 0 [] (Nat.zero_le _) ?_
        rintro j hj
        by_cases hjt : j < to - fr
        · have hx := hsubg j (by omega)
          have hhj := hha (fr + (j + 1)) (by omega) (by omega)
          have hlj := hll (fr + (j + 1)) (by omega)
          have hclj := hcl (fr + (j + 1)) (by omega) (by omega)
          have hgf := (goodB_fine (schemasB_good hsb (i := fr + (j + 1)) (by omega))).2
          have hea := s_each_int_F (slotsOf (schAt ss (fr + (j + 1))) c) (mapOne (schAt ss (fr + (j + 1))) c (mapV ss c fr j)) (by omega)
          have hmn : (slotsOf (schAt ss (fr + (j + 1))) c).map (mapOne (schAt ss (fr + (j + 1))) c (mapV ss c fr j)) = mapV ss c fr (j + 1) := rfl
          rw [hmn] at hea
          rw [← hx] at hhj hea hgf hclj
          repeat' (with_reducible first | refine OL.st ?_ | refine OL.alloc ?_ | refine OL.store ?_ | refine TC.region ?_ | refine TC.seq ?_ | refine OL.nil ?_ | refine TX.thenN ?_ | refine TC.block ?_ | refine TC.skip ?_ | refine TC.ifD ?_ ?_ <;> (intro hc; try (exfalso; omega)) | fail)
          refine OL.frzA 0 ?_
          refine OL.frzA 1 ?_
          refine OL.c hhj Fn.turn_schema_has ?_
          repeat' (first | (with_reducible refine OL.st ?_) | fail)
          refine OL.c hea Fn.turn_each_int_api_TurnFrom ?_ (hle := by exact ⟨.ren rfl, LE.fun_ (first' := []) (caps' := [.ep [fromsA (mapV ss c fr j)] 0, .ep [schE sub[j]] 0, .ep [V.int c] 0]) Fn.turn_Map_1 rfl trivial ⟨.ren rfl, .ren rfl, .ren rfl, trivial⟩ (fun x _ => s_Map_1 hgf hclj.1 hclj.2 _ x), trivial⟩)
          repeat' (with_reducible first | refine OL.st ?_ | refine TC.region ?_ | refine OL.nil ?_ | refine TX.thenN ?_ | refine TX.blkN ?_ | fail)
          exact TX.rd (j + 1) [] (by omega) (by omega)
        · obtain rfl : j = to - fr := by omega
          repeat' (with_reducible first | refine OL.st ?_ | refine TC.region ?_ | refine TC.seq ?_ | refine OL.nil ?_ | refine TX.thenN ?_ | refine TC.exit ?_ | refine TX.hit ?_ | refine TX.thenX ?_ | refine TC.ifD ?_ ?_ <;> (intro hc; try (exfalso; omega)) | refine TC.ret ?_ | fail)
          exact TX.rt2 [] (.ren rfl) (.ren rfl)
  · rw [if_neg (by rw [mapOkB]; simp only [Bool.and_eq_true, decide_eq_true_eq]; omega)]
    by_cases h0 : 0 ≤ fr
    all_goals by_cases h1 : fr ≤ to
    all_goals repeat' (with_reducible first | refine OL.st ?_ | refine OL.box ?_ | refine TC.region ?_ | refine TC.seq ?_ | refine OL.nil ?_ | refine TX.thenN ?_ | fail)
    all_goals refine OL.c hsc Fn.turn_schemas ?_
    all_goals repeat' (with_reducible first | refine OL.st ?_ | refine TC.seq ?_ | refine OL.nil ?_ | refine TX.thenN ?_ | fail)
    all_goals refine TC.vw 10 ?_
    all_goals (with_reducible refine TC.draw (id := 2) true 26 26 ?_ <;> refine OD.st 0 ?_ <;> refine OD.st 1 ?_ <;> refine OD.st 2 ?_ <;> refine OD.st 3 ?_ <;> refine OD.st 4 ?_ <;> refine OD.st 5 ?_ <;> refine OD.st 6 ?_ <;> refine OD.sD 29 ?_ ?_ <;> (intro hc; try (exfalso; omega)) <;> (first | (with_reducible refine OD.st 7 ?_) | (with_reducible refine OD.of 7 ?_)) <;> (first | refine OD.st 8 ?_ | refine OD.of 8 ?_) <;> (first | refine OD.st 9 ?_ | refine OD.of 9 ?_) <;> refine OD.st 10 ?_ <;> refine OD.st 11 ?_ <;> (first | refine OD.of 12 ?_ | refine OD.sD 34 ?_ ?_ <;> (intro hc; try (exfalso; omega)) <;> (first | (with_reducible refine OD.st 12 ?_) | (with_reducible refine OD.of 12 ?_))) <;> (first | refine OD.st 13 ?_ | refine OD.of 13 ?_) <;> (first | refine OD.st 14 ?_ | refine OD.of 14 ?_) <;> (first | refine OD.st 15 ?_ | refine OD.of 15 ?_) <;> refine OD.st 16 ?_ <;> refine OD.st 17 ?_ <;> (first | refine OD.of 18 ?_ | refine OD.sD 40 ?_ ?_ <;> (intro hc; try (exfalso; omega)) <;> (first | (with_reducible refine OD.st 18 ?_) | (with_reducible refine OD.of 18 ?_))) <;> refine OD.of 19 ?_ <;> refine OD.of 20 ?_ <;> refine OD.of 21 ?_ <;> refine OD.of 22 ?_ <;> refine OD.of 23 ?_ <;> refine OD.of 24 ?_ <;> refine OD.st 25 ?_ <;> refine OD.dn ?_)
    all_goals repeat' (with_reducible first | refine OL.st ?_ | refine TC.region ?_ | refine TC.seq ?_ | refine OL.nil ?_ | refine TX.thenN ?_ | refine TC.ifT ?_ | refine TC.ret ?_ | refine TX.thenR ?_ | fail)
    all_goals exact TX.rt2 [] (.nil (by decide)) (.ren rfl)
end Go.Proofs
