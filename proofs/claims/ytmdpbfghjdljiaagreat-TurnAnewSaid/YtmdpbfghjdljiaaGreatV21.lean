/- Part 21 of what the claim is proved by: lemmas on the model and walks through functions of the program; no conditions. -/
import Derived.Test.YtmdpbfghjdljiaaGreatV20
import Derived.Test.YtmdpbfghjdljiaaGreatV18
namespace Go.Proofs
open Go Go.W Go.V
abbrev schEs (ss : List (List Cls)) : AV := .sl 1 none (ss.map schE)
abbrev schemasA (ss : List (List Cls)) : AV := if schemasB ss then .tp [.hs 0, V.bool true] else .tp [.raw (.slice none 0 0), V.bool false]
abbrev schemasO (ss : List (List Cls)) : Eta := if schemasB ss then [.gs false Tc.Pturn_schema 1 none (ss.map schE)] else []
theorem s_turn_Schema (l : List Cls) (hs : Short l) : V.Spec Tryz.prog Fc.turn_Schema [clssA l] [] (V.int (if goodB l then 0 else 2)) [] := by
  have hr := s_turn_read l hs
  rw [readA] at hr
  cases hg : goodB l
  · rw [hg, if_neg Bool.false_ne_true] at hr
    refine V.Spec.enter Tryz.tabOK Tryz.mixed Fn.turn_Schema rfl rfl rfl fun B hB => ?_
    repeat' (with_reducible first | refine OL.st ?_ | refine TC.region ?_ | refine TC.seq ?_ | refine OL.nil ?_ | refine TX.thenN ?_ | fail)
    refine OL.c hr Fn.turn_read ?_
    repeat' (with_reducible first | refine OL.st ?_ | refine TC.region ?_ | refine TC.seq ?_ | refine OL.nil ?_ | refine TX.thenN ?_ | refine TC.ifT ?_ | refine TC.ret ?_ | refine TX.thenR ?_ | fail)
    exact TX.rt1 [] (.ren rfl)
  · rw [hg, if_pos rfl] at hr
    refine V.Spec.enter Tryz.tabOK Tryz.mixed Fn.turn_Schema rfl rfl rfl fun B hB => ?_
    repeat' (with_reducible first | refine OL.st ?_ | refine TC.region ?_ | refine TC.seq ?_ | refine OL.nil ?_ | refine TX.thenN ?_ | fail)
    refine OL.c hr Fn.turn_read ?_
    repeat' (with_reducible first | refine OL.st ?_ | refine TC.region ?_ | refine TC.seq ?_ | refine OL.nil ?_ | refine TX.thenN ?_ | refine TC.skip ?_ | refine TC.ifF ?_ | refine TC.ret ?_ | fail)
    exact TX.rt1 [] (.ren rfl)
set_option maxHeartbeats 2000000 in
theorem s_turn_schemas (ss : List (List Cls)) (hs : ∀ s ∈ ss, Short s) : V.Spec Tryz.prog Fc.turn_schemas [schsA ss] [] (schemasA ss) (schemasO ss) := by
  rw [schemasA, schemasO, schemasB]
  refine V.Spec.enter Tryz.tabOK Tryz.mixed Fn.turn_schemas rfl rfl rfl fun B hB => ?_
  refine TC.bl 0 fun hl => ?_
  by_cases hb : 1 ≤ ss.length ∧ ss.length ≤ 12
  · rw [decide_eq_true hb.1, decide_eq_true hb.2, Bool.true_and, Bool.true_and]
    repeat' (with_reducible first | refine OL.st ?_ | refine TC.region ?_ | refine TC.seq ?_ | refine OL.nil ?_ | refine TX.thenN ?_ | refine TC.block ?_ | refine TC.skip ?_ | refine OL.gOn ?_ | refine TC.ifD ?_ ?_ <;> (intro hc; try (exfalso; omega)) | refine OL.gD ?_ ?_ <;> (intro hc; try (exfalso; omega)) | fail)
    refine TC.adp 4 Tc.Pturn_schema 1 ?_
    refine TC.lp (fun k : Nat => [(0, schsA ss), (2, .raw (.slice none 0 0)), (3, V.bool false), (4, .hs 0), (17, schsA ss), (18, V.int ss.length), (19, V.int k)]) (fun k => [.gs false Tc.Pturn_schema 1 none ((ss.take k).map schE)]) (fun k => k ≤ ss.length ∧ ∀ i, i < k → schOk ss i = true) (fun k => ss.length - k) 0 [0] ⟨Nat.zero_le _, fun i h => by omega⟩ ?_
    rintro k ⟨hk, hpre⟩
    by_cases hkl : k < ss.length
    · have hsh := hs _ (List.getElem_mem hkl)
      have hg := s_turn_read ss[k] hsh
      have hcc := s_each_CC ss[k] id hsh.1
      rw [List.map_id] at hcc
      have hsk : schAt ss k = ss[k] := getD_lt hkl
      have e : (ss.take k).map schE ++ [schE ss[k]] = (ss.take (k + 1)).map schE := by rw [take_succ hkl]; exact map_snoc _ _ _
      have hlen : (ss.take k).length ≤ 12 := by simp; omega
      generalize ss.take k = q at *
      rw [readA] at hg
      cases hgb : goodB ss[k]
      · have ho : schOk ss k = false := by rw [schOk, hsk, hgb, Bool.and_false]
        rw [all_false hkl ho, if_neg Bool.false_ne_true, if_neg Bool.false_ne_true]
        rw [hgb, if_neg Bool.false_ne_true] at hg
        repeat' (with_reducible first | refine OL.st ?_ | refine TC.region ?_ | refine TC.seq ?_ | refine OL.nil ?_ | refine TX.thenN ?_ | refine TC.block ?_ | refine TC.skip ?_ | refine TC.ifD ?_ ?_ <;> (intro hc; try (exfalso; omega)) | fail)
        refine OL.c hcc Fn.turn_each_api_BindClass_api_BindClass ?_ (hle := by exact ⟨.ren rfl, LE.fun_ (first' := []) (caps' := []) Fn.turn_copied rfl trivial trivial (fun x hx => s_turn_copied x (hsh.2 x hx).1 (hsh.2 x hx).2.1 (hsh.2 x hx).2.2), trivial⟩)
        skip
        refine OL.c hg Fn.turn_read ?_
        repeat' (with_reducible first | refine OL.st ?_ | refine TC.region ?_ | refine TC.seq ?_ | refine OL.nil ?_ | refine TX.thenN ?_ | refine TC.ifT ?_ | refine OL.gOff ?_ | refine OL.gUn ?_ | refine TC.ret ?_ | refine TX.thenR ?_ | refine TX.blkR ?_ | fail)
        exact TX.rt2 [] (.ren rfl) (.ren rfl)
      · rw [hgb, if_pos rfl] at hg
        by_cases h0 : k = 0
        · subst h0
          have ho : schOk ss 0 = true := by rw [schOk, hsk, hgb]; rfl
          repeat' (with_reducible first | refine OL.st ?_ | refine TC.region ?_ | refine TC.seq ?_ | refine OL.nil ?_ | refine TX.thenN ?_ | refine TC.block ?_ | refine TC.skip ?_ | refine TC.ifD ?_ ?_ <;> (intro hc; try (exfalso; omega)) | fail)
          refine OL.c hcc Fn.turn_each_api_BindClass_api_BindClass ?_ (hle := by exact ⟨.ren rfl, LE.fun_ (first' := []) (caps' := []) Fn.turn_copied rfl trivial trivial (fun x hx => s_turn_copied x (hsh.2 x hx).1 (hsh.2 x hx).2.1 (hsh.2 x hx).2.2), trivial⟩)
          skip
          refine OL.c hg Fn.turn_read ?_
          repeat' (with_reducible first | refine OL.st ?_ | refine OL.lit ?_ | refine OL.appO ?_ | refine TC.region ?_ | refine TC.seq ?_ | refine OL.nil ?_ | refine TX.thenN ?_ | refine TC.skip ?_ | refine TX.blkN ?_ | refine TC.ifF ?_ | refine OL.gOn ?_ | refine OL.gOff ?_ | fail)
          exact TX.rd 1 [2] ⟨by omega, fun i hi => by obtain rfl : i = 0 := by omega
                                                      exact ho⟩ (by omega)
        · have hsp : schAt ss (k - 1) = ss[k - 1]'(by omega) := getD_lt (by omega)
          have hix : ss[((k : Int) - 1).toNat]'(by omega) = ss[k - 1]'(by omega) := by congr 1; omega
          have ho : schOk ss k = (decide ((ss[k - 1]'(by omega)).length ≤ ss[k].length) && goodB ss[k]) := by rw [schOk, hsk, hsp, decide_eq_false h0]; rfl
          by_cases hlt : (ss[k - 1]'(by omega)).length ≤ ss[k].length
          · rw [decide_eq_true hlt, Bool.true_and, hgb] at ho
            rw [← hix] at hlt
            repeat' (with_reducible first | refine OL.st ?_ | refine TC.region ?_ | refine TC.seq ?_ | refine OL.nil ?_ | refine TX.thenN ?_ | refine TC.block ?_ | refine TC.skip ?_ | refine TC.ifD ?_ ?_ <;> (intro hc; try (exfalso; omega)) | fail)
            refine OL.c hcc Fn.turn_each_api_BindClass_api_BindClass ?_ (hle := by exact ⟨.ren rfl, LE.fun_ (first' := []) (caps' := []) Fn.turn_copied rfl trivial trivial (fun x hx => s_turn_copied x (hsh.2 x hx).1 (hsh.2 x hx).2.1 (hsh.2 x hx).2.2), trivial⟩)
            skip
            refine OL.c hg Fn.turn_read ?_
            repeat' (with_reducible first | refine OL.st ?_ | refine OL.lit ?_ | refine OL.appO ?_ | refine TC.region ?_ | refine TC.seq ?_ | refine OL.nil ?_ | refine TX.thenN ?_ | refine TC.skip ?_ | refine TX.blkN ?_ | refine OL.gOn ?_ | refine TC.ifD ?_ ?_ <;> (intro hc; try (exfalso; omega)) | refine OL.gD ?_ ?_ <;> (intro hc; try (exfalso; omega)) | fail)
            exact TX.rd (k + 1) [2] ⟨by omega, fun i hi => by
              by_cases e : i = k
              · rw [e]; exact ho
              · exact hpre i (by omega)⟩ (by omega)
          · rw [decide_eq_false hlt, Bool.false_and] at ho
            rw [all_false hkl ho, if_neg Bool.false_ne_true, if_neg Bool.false_ne_true]
            rw [← hix] at hlt
            repeat' (with_reducible first | refine OL.st ?_ | refine TC.region ?_ | refine TC.seq ?_ | refine OL.nil ?_ | refine TX.thenN ?_ | refine TC.block ?_ | refine TC.skip ?_ | refine TC.ifD ?_ ?_ <;> (intro hc; try (exfalso; omega)) | fail)
            refine OL.c hcc Fn.turn_each_api_BindClass_api_BindClass ?_ (hle := by exact ⟨.ren rfl, LE.fun_ (first' := []) (caps' := []) Fn.turn_copied rfl trivial trivial (fun x hx => s_turn_copied x (hsh.2 x hx).1 (hsh.2 x hx).2.1 (hsh.2 x hx).2.2), trivial⟩)
            skip
            refine OL.c hg Fn.turn_read ?_
            repeat' (with_reducible first | refine OL.st ?_ | refine TC.region ?_ | refine TC.seq ?_ | refine OL.nil ?_ | refine TX.thenN ?_ | refine OL.gOn ?_ | refine TC.ifD ?_ ?_ <;> (intro hc; try (exfalso; omega)) | refine OL.gD ?_ ?_ <;> (intro hc; try (exfalso; omega)) | refine TC.ret ?_ | refine TX.thenR ?_ | refine TX.blkR ?_ | fail)
            exact TX.rt2 [] (.ren rfl) (.ren rfl)
    · rw [all_true (fun i hi => hpre i (by omega)), if_pos rfl, if_pos rfl, take_all (by omega)]
      repeat' (with_reducible first | refine OL.st ?_ | refine TC.region ?_ | refine TC.seq ?_ | refine OL.nil ?_ | refine TX.thenN ?_ | refine TC.exit ?_ | refine TX.hit ?_ | refine TX.thenX ?_ | refine TC.ifD ?_ ?_ <;> (intro hc; try (exfalso; omega)) | refine TC.ret ?_ | fail)
      exact TX.rt2 [0] (.ren rfl) (.ren rfl)
  · have hz : (decide (1 ≤ ss.length) && decide (ss.length ≤ 12)) = false := by
      rw [Bool.eq_false_iff]; simp only [ne_eq, Bool.and_eq_true, decide_eq_true_eq]; exact hb
    rw [hz, Bool.false_and, if_neg Bool.false_ne_true, if_neg Bool.false_ne_true]
    by_cases h1 : 1 ≤ ss.length
    · repeat' (with_reducible first | refine OL.st ?_ | refine TC.region ?_ | refine TC.seq ?_ | refine OL.nil ?_ | refine TX.thenN ?_ | refine OL.gOn ?_ | refine TC.ifD ?_ ?_ <;> (intro hc; try (exfalso; omega)) | refine OL.gD ?_ ?_ <;> (intro hc; try (exfalso; omega)) | refine TC.ret ?_ | refine TX.thenR ?_ | fail)
      exact TX.rt2 [] (.ren rfl) (.ren rfl)
    · repeat' (with_reducible first | refine OL.st ?_ | refine TC.region ?_ | refine TC.seq ?_ | refine OL.nil ?_ | refine TX.thenN ?_ | refine TC.ifT ?_ | refine OL.gOff ?_ | refine OL.gD ?_ ?_ <;> (intro hc; try (exfalso; omega)) | refine TC.ret ?_ | refine TX.thenR ?_ | fail)
      exact TX.rt2 [] (.ren rfl) (.ren rfl)
theorem schemas_ok {ss : List (List Cls)} (hs : ∀ s ∈ ss, Short s) (h : schemasB ss = true) : V.Spec Tryz.prog Fc.turn_schemas [schsA ss] [] (.tp [.hs 0, V.bool true]) [.gs false Tc.Pturn_schema 1 none (ss.map schE)] := by
  have := s_turn_schemas ss hs
  rw [schemasA, schemasO, if_pos h, if_pos h] at this
  exact this
theorem schemas_no {ss : List (List Cls)} (hs : ∀ s ∈ ss, Short s) (h : schemasB ss = false) : V.Spec Tryz.prog Fc.turn_schemas [schsA ss] [] (.tp [.raw (.slice none 0 0), V.bool false]) [] := by
  have := s_turn_schemas ss hs
  rw [schemasA, schemasO, h, if_neg Bool.false_ne_true, if_neg Bool.false_ne_true] at this
  exact this
end Go.Proofs
