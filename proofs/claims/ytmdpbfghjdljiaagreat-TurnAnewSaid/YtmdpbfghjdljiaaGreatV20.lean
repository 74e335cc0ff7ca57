/- Part 20 of what the claim is proved by: lemmas on the model and walks through functions of the program; no conditions. -/
import Derived.Test.YtmdpbfghjdljiaaGreatV19
import Derived.Test.YtmdpbfghjdljiaaGreatV12
namespace Go.V
open Go Go.W
section
variable {C : Cx} {ρ : Ro} {η : Eta} {X : Nat} {x y : Operand} {M : Bool}
theorem gvBareS {E : Nat} {nl : Option Bool} {i : Int} {l l0 : List Int} (h : l = l0 ++ [0]) (hs : (C.tab X).map (·.sh) = some (.slice E) := by with_unfolding_all exact rfl) (hz : (C.tab E).map (·.size) = some 1 := by with_unfolding_all exact rfl)
    (hx : ev2 ρ x = some (.sl 1 nl (l.map int)) := by with_unfolding_all exact rfl) (hy : ev2 ρ y = some (.raw (.int .i64 i)) := by with_unfolding_all exact rfl) (hi : i = (l.length : Int) - 1 := by with_unfolding_all exact rfl) : Gives C.P C.N C.D (.slice X x none (some y) none) ρ η (ints l0) M := by
  have hl : l.length = l0.length + 1 := by rw [h]; simp
  have := give_slice_h (P := C.P) (N := C.N) (D := C.D) (η := η) (M := M) (h := l0.length) (Cx.hT _) hs hz hx hy (by omega) (by omega)
  rwa [show l.take l0.length = l0 by rw [h]; simp] at this
end
end Go.V
namespace Go.Proofs
open Go Go.W Go.V
abbrev readA (l : List Cls) : AV := if goodB l then .tp [schE l, V.bool true] else .tp [.raw (.pointer none), V.bool false]
theorem metOf_len {l : List Cls} : ∀ {k : Nat}, k ≤ l.length → (∀ j (h : j < l.length), j < k → l[j].2.1.length ≤ 4) → (metOf (l.take k)).length ≤ 4 * k
  | 0, _, _ => by simp [metOf]
  | k + 1, hk, h => by
    rw [metOf_succ l hk, List.length_append]
    have := metOf_len (l := l) (k := k) (by omega) (fun j hj hjk => h j hj (by omega))
    have := h k (by omega) (by omega)
    omega
set_option maxHeartbeats 4000000 in
theorem s_turn_read (l : List Cls) (hs : Short l) : V.Spec Tryz.prog Fc.turn_read [clssA l] [] (readA l) [] := by
  have hea := s_each_CL l (·.1) hs.1
  have hck := s_line_Check (graphOf l)
  have hgl : (graphOf l).length = l.length := by simp [graphOf]
  have hgb : goodB l = (decide (l.length ≤ 10) && (fine (graphOf l) && (clsOk (graphOf l) 0 [] l && (List.range l.length).all (iniAt l)))) := rfl
  rw [readA, hgb]
  refine V.Spec.enter Tryz.tabOK Tryz.mixed Fn.turn_read rfl rfl rfl fun B hB => ?_
  repeat' (with_reducible first | refine OL.st ?_ | refine OL.box ?_ | refine TC.region ?_ | refine TC.seq ?_ | refine OL.nil ?_ | refine TX.thenN ?_ | fail)
  refine OL.frzA 0 ?_
  refine OL.c hea Fn.turn_each_api_BindClass_Lint ?_ (hle := by exact ⟨.ren rfl, LE.fun_ (first' := []) (caps' := []) Fn.turn_read_1 rfl trivial trivial (fun x hx => s_turn_read_1 x), trivial⟩)
  by_cases h10 : l.length ≤ 10
  · rw [decide_eq_true h10, Bool.true_and]
    repeat' (with_reducible first | refine OL.st ?_ | refine TC.region ?_ | refine TC.seq ?_ | refine OL.nil ?_ | refine TX.thenN ?_ | refine OL.gOn ?_ | refine OL.gD ?_ ?_ <;> (intro hc; try (exfalso; omega)) | fail)
    refine OL.c hck Fn.line_Check ?_
    cases hf : fine (graphOf l)
    · repeat' (with_reducible first | refine OL.st ?_ | refine TC.region ?_ | refine TC.seq ?_ | refine OL.nil ?_ | refine TX.thenN ?_ | refine TC.ifT ?_ | refine OL.gOn ?_ | refine TC.ret ?_ | refine TX.thenR ?_ | fail)
      exact TX.rt2 [] (.ren rfl) (.ren rfl)
    · rw [Bool.true_and]
      have hlin := fun k (hk : k < l.length) => s_line_Lin (graphOf l) (3 + (k : Int))
      have hok : ∀ k, k < l.length → okc (graphOf l) (3 + (k : Int)) = true := fun k hk => by
        rw [okc, hf, Bool.true_and, Bool.and_eq_true, decide_eq_true_eq, decide_eq_true_eq, hgl]; omega
      have hcf := clsOk_iff (graphOf l) l 0 []
      repeat' (with_reducible first | refine OL.st ?_ | refine OL.box ?_ | refine OL.build ?_ | refine TC.region ?_ | refine TC.seq ?_ | refine OL.nil ?_ | refine TX.thenN ?_ | refine TC.block ?_ | refine TC.skip ?_ | refine TC.ifF ?_ | refine OL.gOn ?_ | fail)
      refine TC.adpC 1 1 Tc.Lint 1 ?_
      refine TC.adpC 1 2 Tc.Lint 1 ?_
      refine TC.adp 6 Tc.int 1 ?_
      refine TC.lp (fun k : Nat => [(1, .ep [clssA l] 0), (4, rows (graphOf l)), (5, .bp 0 0), (6, .hs 3), (27, clssA l), (28, V.int l.length), (29, V.int k)]) (fun k => [.cb Tc.turn_schema [clssA l, .hs 1, .hs 2], .gs false Tc.Lint 1 none (((ordsOf l).take k).map ints), .gs false Tc.Lint 1 none [], .gs false Tc.int 1 none ((metOf (l.take k)).map V.int)]) (fun k => k ≤ l.length ∧ ∀ j (h : j < l.length), j < k → 0 < (at_ (orders (graphOf l)) (3 + (j : Int))).length ∧ l[j].2.1.length ≤ 4) (fun k => l.length - k) 0 [1, 2, 3, 4] ⟨Nat.zero_le _, fun j h h2 => by omega⟩ ?_
      rintro k ⟨hk, hpre⟩
      have hol := ordsOf_length l
      by_cases hkl : k < l.length
      · have hlk := hlin k hkl
        rw [linL, linE, hok k hkl, if_pos rfl, if_pos rfl] at hlk
        have e3 : ((3 + k : Nat) : Int) = 3 + (k : Int) := by omega
        by_cases ho : 0 < (at_ (orders (graphOf l)) (3 + (k : Int))).length
        · by_cases h4 : l[k].2.1.length ≤ 4
          · have hne : at_ (orders (graphOf l)) ((3 + k : Nat) : Int) ≠ [] := fun h => by rw [e3] at h; rw [h] at ho; simp at ho
            have hba := ord_bare hf (c := 3 + k) (by omega) (by omega) hne
            rw [e3] at hba
            have hml := metOf_len (l := l) (k := k) hk (fun j h h2 => (hpre j h h2).2)
            have hms := metOf_succ l hkl
            have hsmall := (orders_ok hf).1.small (by rw [(orders_ok hf).2]; omega)
            have htl : ((ordsOf l).take k).length = k := by simp; omega
            have hto : (ordsOf l).take (k + 1) = (ordsOf l).take k ++ [bare (at_ (orders (graphOf l)) (3 + (k : Int)))] := by rw [take_succ (by omega), ordsOf_get, e3]
            have e1 : ((ordsOf l).take k).map ints ++ [ints (bare (at_ (orders (graphOf l)) (3 + (k : Int))))] = ((ordsOf l).take (k + 1)).map ints := by rw [hto]; exact map_snoc _ _ _
            have e2 : (metOf (l.take k)).map V.int ++ l[k].2.1.map V.int = (metOf (l.take (k + 1))).map V.int := by rw [hms, List.map_append]
            have hnext : ∀ j (h : j < l.length), j < k + 1 → 0 < (at_ (orders (graphOf l)) (3 + (j : Int))).length ∧ l[j].2.1.length ≤ 4 := fun j h h2 => by
              by_cases e : j = k
              · subst e; exact ⟨ho, h4⟩
              · exact hpre j h (by omega)
            have hol2 : (at_ (orders (graphOf l)) (3 + (k : Int))).length ≤ 1000 := by
              have := (orders_ok hf).2
              rw [at_, getD_lt (by omega)]
              exact hsmall _ (List.getElem_mem _)
            clear hms hto hsmall hne
            generalize metOf (l.take k) = met at *
            generalize (ordsOf l).take k = ot at *
            generalize at_ (orders (graphOf l)) (3 + (k : Int)) = o at *
            rw [if_neg (by omega)] at hlk
            repeat' (with_reducible first | refine OL.st ?_ | refine OL.alloc ?_ | refine OL.storeAgg ?_ | refine TC.region ?_ | refine TC.seq ?_ | refine OL.nil ?_ | refine TX.thenN ?_ | refine TC.block ?_ | refine TC.skip ?_ | refine TC.ifD ?_ ?_ <;> (intro hc; try (exfalso; omega)) | fail)
            refine OL.c hlk Fn.line_Lin ?_
            repeat' (with_reducible first | refine OL.st ?_ | refine TC.region ?_ | refine TC.seq ?_ | refine OL.nil ?_ | refine TX.thenN ?_ | refine TC.skip ?_ | refine OL.gOn ?_ | refine TC.ifD ?_ ?_ <;> (intro hc; try (exfalso; omega)) | fail)
            (with_reducible refine TC.draw (id := 12) false 15 15 ?_ <;> refine OD.st 0 ?_ <;> refine OD.st 1 ?_ <;> refine OD.st 2 ?_ <;> refine OD.st 3 ?_ <;> refine OD.st 5 ?_ <;> refine OD.st 6 ?_ <;> refine OD.st 7 ?_ <;> refine OD.st 8 ?_ <;> refine OD.n2 4 9 ?_ ?_ <;> (first | refine NextBy.at 4 ?_ <;> refine NextBy.s ?_ <;> refine OD.s1 9 ?_ (h := gvBareS hba) <;> (refine OD.a1 10 ?_; refine OL.lit ?_; refine OL.nil ?_; refine TX.od ?_) <;> (refine OD.a1 11 ?_; refine OL.appO ?_; refine OL.nil ?_; refine TX.od ?_) <;> refine OD.st 12 ?_ <;> refine OD.st 13 ?_ <;> (refine OD.a1 14 ?_; refine OL.store ?_; refine OL.nil ?_; refine TX.od ?_) <;> refine OD.dn ?_ | refine NextBy.at 9 ?_ <;> refine NextBy.s ?_ (h := gvBareS hba) <;> refine OD.n2 4 10 ?_ ?_ <;> (first | refine NextBy.at 4 ?_ <;> refine NextBy.s ?_ <;> (refine OD.a1 10 ?_; refine OL.lit ?_; refine OL.nil ?_; refine TX.od ?_) <;> (refine OD.a1 11 ?_; refine OL.appO ?_; refine OL.nil ?_; refine TX.od ?_) <;> refine OD.st 12 ?_ <;> refine OD.st 13 ?_ <;> (refine OD.a1 14 ?_; refine OL.store ?_; refine OL.nil ?_; refine TX.od ?_) <;> refine OD.dn ?_ | refine NextBy.at 10 ?_ <;> (refine NextBy.a ?_; refine OL.lit ?_; refine OL.nil ?_; refine TX.od ?_) <;> refine OD.s1 4 ?_ <;> (refine OD.a1 11 ?_; refine OL.appO ?_; refine OL.nil ?_; refine TX.od ?_) <;> refine OD.st 12 ?_ <;> refine OD.st 13 ?_ <;> (refine OD.a1 14 ?_; refine OL.store ?_; refine OL.nil ?_; refine TX.od ?_) <;> refine OD.dn ?_)))
            all_goals repeat' (with_reducible first | refine OL.st ?_ | refine OL.app ?_ | refine TC.region ?_ | refine OL.nil ?_ | refine TX.thenN ?_ | refine TX.blkN ?_ | fail)
            all_goals exact TX.rd (k + 1) [0, 6, 2, 7] ⟨by omega, hnext⟩ (by omega)
          · have hz : clsOk (graphOf l) 0 [] l = false := by
              rw [Bool.eq_false_iff]; intro h
              exact h4 (by simpa using ((hcf.1 h).1 k hkl).2)
            rw [hz, Bool.false_and]
            rw [if_neg (by omega)] at hlk
            repeat' (with_reducible first | refine OL.st ?_ | refine OL.alloc ?_ | refine OL.storeAgg ?_ | refine TC.region ?_ | refine TC.seq ?_ | refine OL.nil ?_ | refine TX.thenN ?_ | refine TC.block ?_ | refine TC.skip ?_ | refine TC.ifD ?_ ?_ <;> (intro hc; try (exfalso; omega)) | fail)
            refine OL.c hlk Fn.line_Lin ?_
            repeat' (with_reducible first | refine OL.st ?_ | refine TC.region ?_ | refine TC.seq ?_ | refine OL.nil ?_ | refine TX.thenN ?_ | refine OL.gOn ?_ | refine TC.ifD ?_ ?_ <;> (intro hc; try (exfalso; omega)) | refine TC.ret ?_ | refine TX.thenR ?_ | refine TX.blkR ?_ | fail)
            exact TX.rt2 [] (.ren rfl) (.ren rfl)
        · have hz : clsOk (graphOf l) 0 [] l = false := by
            rw [Bool.eq_false_iff]; intro h
            have := ((hcf.1 h).1 k hkl).1
            rw [Nat.zero_add, e3] at this
            exact ho this
          rw [hz, Bool.false_and]
          rw [if_pos (by omega)] at hlk
          repeat' (with_reducible first | refine OL.st ?_ | refine OL.alloc ?_ | refine OL.storeAgg ?_ | refine TC.region ?_ | refine TC.seq ?_ | refine OL.nil ?_ | refine TX.thenN ?_ | refine TC.block ?_ | refine TC.skip ?_ | refine TC.ifD ?_ ?_ <;> (intro hc; try (exfalso; omega)) | fail)
          refine OL.c hlk Fn.line_Lin ?_
          repeat' (with_reducible first | refine OL.st ?_ | refine TC.region ?_ | refine TC.seq ?_ | refine OL.nil ?_ | refine TX.thenN ?_ | refine TC.ifT ?_ | refine OL.gOff ?_ | refine TC.ret ?_ | refine TX.thenR ?_ | refine TX.blkR ?_ | fail)
          exact TX.rt2 [] (.ren rfl) (.ren rfl)
      · have ek : k = l.length := by omega
        subst ek
        have hml := metOf_len (l := l) (k := l.length) hk (fun j h h2 => (hpre j h h2).2)
        rw [List.take_length] at hml ⊢
        rw [show (ordsOf l).take l.length = ordsOf l from take_all (by omega)]
        have hon := s_turn_once (metOf l) (by omega)
        have hcn := s_slices_ContainsFunc_Lint_int (metOf l) (fun n => !slotR n)
        have hclsP : clsP (graphOf l) l 0 := fun j hj => by
          have := hpre j hj hj
          rwa [show ((3 + (0 + j) : Nat) : Int) = 3 + (j : Int) by omega]
        by_cases hnd : (metOf l).Nodup
        · rw [decide_eq_true hnd] at hon
          cases hcb : (metOf l).any (fun n => !slotR n)
          · have hall : ∀ s ∈ metOf l, slotR s = true := fun s h => by
              have := List.any_eq_false.1 hcb s h
              simpa using this
            have hz : clsOk (graphOf l) 0 [] l = true := hcf.2 ⟨hclsP, hnd, fun s h => ⟨hall s h, by simp⟩⟩
            rw [hz, Bool.true_and]
            rw [hcb] at hcn
            have hsl := slsOf_length l
            refine TC.vw 6 ?_
            refine TC.vwC 0 1 ?_
            repeat' (with_reducible first | refine OL.st ?_ | refine TC.region ?_ | refine TC.seq ?_ | refine OL.nil ?_ | refine TX.thenN ?_ | refine TC.exit ?_ | refine TX.hit ?_ | refine TX.thenX ?_ | refine TC.ifD ?_ ?_ <;> (intro hc; try (exfalso; omega)) | fail)
            refine OL.c hon Fn.turn_once ?_
            repeat' (first | (with_reducible refine OL.st ?_) | (with_reducible refine OL.gOn ?_) | fail)
            refine OL.c hcn Fn.slices_ContainsFunc_Lint_int ?_ (hle := by exact ⟨.ren rfl, LE.fun_ (first' := []) (caps' := []) Fn.turn_read_2 rfl trivial trivial (fun x hx => s_read_2 x), trivial⟩)
            repeat' (with_reducible first | refine OL.st ?_ | refine TC.region ?_ | refine TC.seq ?_ | refine OL.nil ?_ | refine TX.thenN ?_ | refine TC.block ?_ | refine TC.skip ?_ | refine TC.ifF ?_ | fail)
            refine TC.lp (fun k : Nat => [(1, .ep [clssA l] 0), (5, .bp 0 0), (78, rows (ordsOf l)), (79, V.int (ordsOf l).length), (80, V.int k)]) (fun k => [.cb Tc.turn_schema [clssA l, rows (ordsOf l), .hs 1], .gs false Tc.Lint 1 none (((slsOf l).take k).map ints)]) (fun k => k ≤ l.length ∧ ∀ j, j < k → iniAt l j = true) (fun k => l.length - k) 0 [0, 2] ⟨Nat.zero_le _, fun j h => by omega⟩ ?_
            rintro k ⟨hk, hpre2⟩
            by_cases hkl : k < l.length
            · have hne : at_ (orders (graphOf l)) ((3 + k : Nat) : Int) ≠ [] := fun h => by
                have := (hclsP k hkl).1
                rw [Nat.zero_add, h] at this
                simp at this
              have hso := slots_sorted hf hnd hall (c := 3 + k) (by omega) (by omega) hne
              have hb3 := bare_three hf (c := 3 + k) (by omega) (by omega)
              have hog : (ordsOf l)[k]'(by omega) = bare (at_ (orders (graphOf l)) ((3 + k : Nat) : Int)) := ordsOf_get _
              rw [← hog] at hso hb3
              have hsl4 : (slotsOf l (3 + k)).length ≤ 400 := Nat.le_trans (slotsTo_len l (3 + k) 40) (by omega)
              have horl : ((ordsOf l)[k]'(by omega)).length ≤ 1000 := by
                have h1 := (orders_ok hf).1.small (by rw [(orders_ok hf).2]; omega)
                have h2 := without_length (at_ (orders (graphOf l)) ((3 + k : Nat) : Int)) 0
                have h3 := (orders_ok hf).2
                have h4 := h1 _ (List.getElem_mem (l := orders (graphOf l)) (n := 3 + k) (by omega))
                rw [hog, bare]
                rw [at_, Int.toNat_natCast, getD_lt (by omega)] at h2 ⊢
                omega
              have hel := s_each_int_Lint ((ordsOf l)[k]'(by omega)) (fun x => (clsAt l (x - 3).toNat).2.1) (by omega)
              have hfl : (((ordsOf l)[k]'(by omega)).map fun x => (clsAt l (x - 3).toNat).2.1).flatten.length ≤ 400 := by
                rw [← List.flatMap_def, ← sortI_len, hso]; exact hsl4
              have hco := s_slices_Concat (((ordsOf l)[k]'(by omega)).map fun x => (clsAt l (x - 3).toNat).2.1) (fun j => by
                have : ∀ ls : List (List Int), (ls.take j).flatten.length ≤ ls.flatten.length := fun ls => by
                  have h : ls.flatten = (ls.take j).flatten ++ (ls.drop j).flatten := by rw [← List.flatten_append, List.take_append_drop]
                  rw [h, List.length_append]; omega
                exact Nat.le_trans (this _) (by omega)) (by rw [List.length_map]; omega)
              have hst := s_slices_Sort (((ordsOf l)[k]'(by omega)).map fun x => (clsAt l (x - 3).toNat).2.1).flatten (by omega)
              rw [← List.flatMap_def, hso] at hst
              rw [← List.flatMap_def] at hco
              have htl : ((slsOf l).take k).length = k := by simp; omega
              have hts : (slsOf l).take (k + 1) = (slsOf l).take k ++ [slotsOf l (3 + k)] := by rw [take_succ (by omega), slsOf_get]
              have e1 : ((slsOf l).take k).map ints ++ [ints (slotsOf l (3 + k))] = ((slsOf l).take (k + 1)).map ints := by rw [hts]; exact map_snoc _ _ _
              have hss := s_starts l hs (ordsOf l) ((slsOf l).take (k + 1)) (k := k) (by simp; omega) hkl (by simp; omega)
              have hgk : ((slsOf l).take (k + 1))[k]'(by simp; omega) = slotsOf l (3 + k) := by rw [List.getElem_take, slsOf_get]
              rw [hgk, ← iniAt_eq] at hss
              generalize slotsOf l (3 + k) = sk at *
              generalize hork : (ordsOf l)[k]'(by omega) = ork at *
              generalize (ork.map fun x => (clsAt l (x - 3).toNat).2.1) = ls at *
              generalize (ork.flatMap fun x => (clsAt l (x - 3).toNat).2.1) = fl at *
              repeat' (with_reducible first | refine OL.st ?_ | refine TC.region ?_ | refine TC.seq ?_ | refine OL.nil ?_ | refine TX.thenN ?_ | refine TC.block ?_ | refine TC.skip ?_ | refine TC.ifD ?_ ?_ <;> (intro hc; try (exfalso; omega)) | fail)
              simp only [hork]
              skip
              refine OL.c hel Fn.turn_each_int_Lint ?_ (hle := by exact ⟨.ren rfl, LE.fun_ (first' := []) (caps' := [.ep [clssA l] 0]) Fn.turn_read_3 rfl trivial ⟨.ren rfl, trivial⟩ (fun x hx => s_read_3 l (by omega) (hb3 x hx)), trivial⟩)
              skip
              refine OL.c hco Fn.slices_Concat_Lint_int ?_
              repeat' (with_reducible first | refine OL.st ?_ | refine TC.region ?_ | refine TC.seq ?_ | refine OL.nil ?_ | refine TX.thenN ?_ | fail)
              refine OL.ch [2] hst Fn.slices_Sort_Lint_int ?_
              refine OL.vw 13 ?_
              repeat' (with_reducible first | refine OL.st ?_ | refine OL.store ?_ | refine OL.lit ?_ | refine OL.appO ?_ | refine TC.region ?_ | refine TC.seq ?_ | refine OL.nil ?_ | refine TX.thenN ?_ | fail)
              all_goals rw [e1]
              all_goals skip
              all_goals refine OL.lend ((Wk.viewCell (i := 0) (o := 2) (by with_unfolding_all exact rfl) (by with_unfolding_all exact rfl) (by with_unfolding_all exact rfl)).trans (Wk.frzBox (t := 101) (by with_unfolding_all exact rfl) (by with_unfolding_all exact rfl) (by with_unfolding_all exact rfl))) hss Fn.turn_schema_starts ?_
              all_goals cases hia : iniAt l k
              all_goals try rw [all_false hkl hia]
              all_goals repeat' (with_reducible first | refine OL.st ?_ | refine TC.region ?_ | refine TC.seq ?_ | refine OL.nil ?_ | refine TX.thenN ?_ | refine TC.skip ?_ | refine TX.blkN ?_ | refine TC.ifT ?_ | refine TC.ifF ?_ | refine TC.ret ?_ | refine TX.thenR ?_ | refine TX.blkR ?_ | fail)
              all_goals first
                | exact TX.rt2 [] (.ren rfl) (.ren rfl)
                | exact TX.rd (k + 1) [0, 4] ⟨by omega, fun j hj => by
                    by_cases e : j = k
                    · rw [e]; exact hia
                    · exact hpre2 j (by omega)⟩ (by omega)
            · rw [all_true (fun i hi => hpre2 i (by omega)), show (slsOf l).take k = slsOf l from take_all (by omega)]
              refine TC.vwC 0 2 ?_
              refine TC.frzB 5 ?_
              repeat' (with_reducible first | refine OL.st ?_ | refine TC.region ?_ | refine TC.seq ?_ | refine OL.nil ?_ | refine TX.thenN ?_ | refine TC.exit ?_ | refine TX.hit ?_ | refine TX.thenX ?_ | refine TC.ifD ?_ ?_ <;> (intro hc; try (exfalso; omega)) | refine TC.ret ?_ | fail)
              exact TX.rt2 [] (.ren rfl) (.ren rfl)
          · have hz : clsOk (graphOf l) 0 [] l = false := by
              rw [Bool.eq_false_iff]; intro h
              rw [List.any_eq_true] at hcb
              obtain ⟨s, h1, h2⟩ := hcb
              rw [((hcf.1 h).2.2 s h1).1] at h2; cases h2
            rw [hz, Bool.false_and]
            rw [hcb] at hcn
            refine TC.vw 6 ?_
            repeat' (with_reducible first | refine OL.st ?_ | refine TC.region ?_ | refine TC.seq ?_ | refine OL.nil ?_ | refine TX.thenN ?_ | refine TC.exit ?_ | refine TX.hit ?_ | refine TX.thenX ?_ | refine TC.ifD ?_ ?_ <;> (intro hc; try (exfalso; omega)) | fail)
            refine OL.c hon Fn.turn_once ?_
            repeat' (first | (with_reducible refine OL.st ?_) | (with_reducible refine OL.gOn ?_) | fail)
            refine OL.c hcn Fn.slices_ContainsFunc_Lint_int ?_ (hle := by exact ⟨.ren rfl, LE.fun_ (first' := []) (caps' := []) Fn.turn_read_2 rfl trivial trivial (fun x hx => s_read_2 x), trivial⟩)
            repeat' (with_reducible first | refine OL.st ?_ | refine TC.region ?_ | refine TC.seq ?_ | refine OL.nil ?_ | refine TX.thenN ?_ | refine TC.ifT ?_ | refine TC.ret ?_ | refine TX.thenR ?_ | fail)
            exact TX.rt2 [] (.ren rfl) (.ren rfl)
        · have hz : clsOk (graphOf l) 0 [] l = false := by
            rw [Bool.eq_false_iff]; intro h
            exact hnd (hcf.1 h).2.1
          rw [hz, Bool.false_and]
          rw [decide_eq_false hnd] at hon
          refine TC.vw 6 ?_
          repeat' (with_reducible first | refine OL.st ?_ | refine TC.region ?_ | refine TC.seq ?_ | refine OL.nil ?_ | refine TX.thenN ?_ | refine TC.exit ?_ | refine TX.hit ?_ | refine TX.thenX ?_ | refine TC.ifD ?_ ?_ <;> (intro hc; try (exfalso; omega)) | fail)
          refine OL.c hon Fn.turn_once ?_
          repeat' (with_reducible first | refine OL.st ?_ | refine TC.region ?_ | refine TC.seq ?_ | refine OL.nil ?_ | refine TX.thenN ?_ | refine TC.ifT ?_ | refine OL.gOff ?_ | refine TC.ret ?_ | refine TX.thenR ?_ | fail)
          exact TX.rt2 [] (.ren rfl) (.ren rfl)
  · rw [decide_eq_false h10, Bool.false_and]
    repeat' (with_reducible first | refine OL.st ?_ | refine TC.region ?_ | refine TC.seq ?_ | refine OL.nil ?_ | refine TX.thenN ?_ | refine TC.ifT ?_ | refine OL.gOff ?_ | refine OL.gD ?_ ?_ <;> (intro hc; try (exfalso; omega)) | refine TC.ret ?_ | refine TX.thenR ?_ | fail)
    exact TX.rt2 [] (.ren rfl) (.ren rfl)
end Go.Proofs
