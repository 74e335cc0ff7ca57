/- Part 18 of what the claim is proved by: lemmas on the model and walks through functions of the program; no conditions. -/
import Derived.Test.YtmdpbfghjdljiaaGreatV17
import Derived.Test.YtmdpbfghjdljiaaGreatV11
namespace Go.Proofs
open Go Go.W Go.V
def initOf (l : List Cls) (s c : Int) : Option Int := if c < 3 then none else ((clsAt l (c - 3).toNat).2.2.find? fun p => p.1 == s).map (·.2)
def beginO (l : List Cls) (o : List Int) (s : Int) : Option Int := o.findSome? (initOf l s)
theorem beginO_cons (l : List Cls) (c : Int) (r : List Int) (s : Int) : beginO l (c :: r) s = match initOf l s c with | some n => some n | none => beginO l r s := by
  rw [beginO, List.findSome?_cons]; cases initOf l s c <;> rfl
def optV : Option Int → Int × Int
  | some n => (1, n)
  | none => (2, 0)
def beginV (l : List Cls) (c : Nat) (s : Int) : Int × Int := optV (beginO l (at_ (orders (graphOf l)) c) s)
theorem s_ref17_Begin {l : List Cls} (hf : fine (graphOf l) = true) {c : Nat} (hc : c < 3 + l.length) (s : Int) : V.Spec Tryz.prog Fc.ref17_Begin [clssA l, V.int c, V.int s] [] (valA (beginV l c s)) [] := by
  have h16 := fine_len hf
  have hgl : (graphOf l).length = l.length := by simp [graphOf]
  rw [hgl] at h16
  have hg := s_ref17_Graph l (by omega)
  have hlo := s_ref03_LinOf (graphOf l) c hf (by omega) (by omega)
  have hmem := ((orders_ok hf).1.at c).2
  rw [beginV]
  generalize graphOf l = g at *
  generalize at_ (orders g) c = o at *
  refine V.Spec.enter Tryz.tabOK Tryz.mixed Fn.ref17_Begin rfl rfl rfl fun B hB => ?_
  repeat' (with_reducible first | refine OL.st ?_ | refine OL.alloc ?_ | refine TC.region ?_ | refine TC.seq ?_ | refine OL.nil ?_ | refine TX.thenN ?_ | fail)
  refine OL.c hg Fn.ref17_Graph ?_
  repeat' (first | (with_reducible refine OL.st ?_) | fail)
  refine OL.c hlo Fn.ref03_LinOf ?_
  repeat' (with_reducible first | refine OL.st ?_ | refine TC.region ?_ | refine TC.seq ?_ | refine OL.nil ?_ | refine TX.thenN ?_ | refine TC.block ?_ | fail)
  refine TC.bl 20 fun hol => ?_
  refine TC.lp (fun k : Nat => [(0, clssA l), (2, V.int s), (6, .bp 0 0), (20, ints o), (21, V.int o.length), (22, V.int k)]) (fun _ => [.cb Tc.api_MeanVal [.raw (.int .i64 0), .raw (.int .i64 0)]]) (fun k => k ≤ o.length ∧ beginO l o s = beginO l (o.drop k) s) (fun k => o.length - k) 0 [0] ⟨Nat.zero_le _, rfl⟩ ?_
  rintro k ⟨hk, hinv⟩
  by_cases hkl : k < o.length
  · have hb := hmem o[k] (List.getElem_mem _)
    rw [drop_cons hkl, beginO_cons] at hinv
    by_cases h3 : o[k] < 3
    · rw [initOf, if_pos h3] at hinv
      repeat' (with_reducible first | refine OL.st ?_ | refine TC.region ?_ | refine TC.seq ?_ | refine OL.nil ?_ | refine TX.thenN ?_ | refine TC.block ?_ | refine TC.skip ?_ | refine TC.exit ?_ | refine TX.hit ?_ | refine TX.thenX ?_ | refine TC.ifD ?_ ?_ <;> (intro hc; try (exfalso; omega)) | fail)
      exact TX.rd (k + 1) [0] ⟨by omega, hinv⟩ (by omega)
    · have hci : clsAt l (o[k] - 3).toNat = l[(o[k] - 3).toNat]'(by omega) := by rw [clsAt, getD_lt]
      rw [initOf, if_neg h3, hci] at hinv
      repeat' (with_reducible first | refine OL.st ?_ | refine TC.region ?_ | refine TC.seq ?_ | refine OL.nil ?_ | refine TX.thenN ?_ | refine TC.block ?_ | refine TC.skip ?_ | refine TC.ifD ?_ ?_ <;> (intro hc; try (exfalso; omega)) | fail)
      refine TC.bl 33 fun hil => ?_
      generalize (l[(o[k] - 3).toNat]'(by omega)).2.2 = is at *
      refine TC.lp (fun j : Nat => [(0, clssA l), (2, V.int s), (6, .bp 0 0), (20, ints o), (21, V.int o.length), (22, V.int k), (33, initsA is), (34, V.int is.length), (35, V.int j)]) (fun _ => [.cb Tc.api_MeanVal [.raw (.int .i64 0), .raw (.int .i64 0)]]) (fun j => j ≤ is.length ∧ is.find? (fun p => p.1 == s) = (is.drop j).find? (fun p => p.1 == s)) (fun j => is.length - j) 0 [0] ⟨Nat.zero_le _, rfl⟩ ?_
      rintro j ⟨hj, hinv2⟩
      by_cases hjl : j < is.length
      · rw [drop_cons hjl, List.find?_cons] at hinv2
        by_cases he : is[j].1 = s
        · rw [show (is[j].1 == s) = true by simpa using he] at hinv2
          rw [hinv2] at hinv
          have e : beginO l o s = some is[j].2 := hinv
          rw [e]
          repeat' (with_reducible first | refine OL.st ?_ | refine OL.alloc ?_ | refine OL.storeAgg ?_ | refine OL.build ?_ | refine TC.region ?_ | refine TC.seq ?_ | refine OL.nil ?_ | refine TX.thenN ?_ | refine TC.block ?_ | refine TC.skip ?_ | refine TC.ifD ?_ ?_ <;> (intro hc; try (exfalso; omega)) | refine TC.ret ?_ | refine TX.thenR ?_ | refine TX.blkR ?_ | fail)
          exact TX.rtc [] (.ren rfl)
        · rw [show (is[j].1 == s) = false by simpa using he] at hinv2
          repeat' (with_reducible first | refine OL.st ?_ | refine OL.alloc ?_ | refine OL.storeAgg ?_ | refine TC.region ?_ | refine TC.seq ?_ | refine OL.nil ?_ | refine TX.thenN ?_ | refine TC.block ?_ | refine TC.skip ?_ | refine TX.blkN ?_ | refine TC.ifD ?_ ?_ <;> (intro hc; try (exfalso; omega)) | fail)
          exact TX.rd (j + 1) [0] ⟨by omega, hinv2⟩ (by omega)
      · rw [drop_nil (by omega)] at hinv2
        rw [hinv2] at hinv
        repeat' (with_reducible first | refine OL.st ?_ | refine TC.region ?_ | refine TC.seq ?_ | refine OL.nil ?_ | refine TX.thenN ?_ | refine TX.blkN ?_ | refine TC.exit ?_ | refine TX.hit ?_ | refine TX.thenX ?_ | refine TC.ifD ?_ ?_ <;> (intro hc; try (exfalso; omega)) | fail)
        exact TX.rd (k + 1) [0] ⟨by omega, hinv⟩ (by omega)
  · rw [drop_nil (by omega)] at hinv
    have e : beginO l o s = none := hinv
    rw [e]
    repeat' (with_reducible first | refine OL.st ?_ | refine OL.storeAgg ?_ | refine OL.build ?_ | refine TC.region ?_ | refine TC.seq ?_ | refine OL.nil ?_ | refine TX.thenN ?_ | refine TC.exit ?_ | refine TX.hit ?_ | refine TX.thenX ?_ | refine TC.ifD ?_ ?_ <;> (intro hc; try (exfalso; omega)) | refine TC.ret ?_ | fail)
    exact TX.rtc [] (.ren rfl)
def valB (v : Int × Int) (n : Int) : Bool :=
  if v.1 = 1 then decide (-1000000000 ≤ v.2) && decide (v.2 ≤ 1000000000) else if v.1 = 2 then decide (v.2 = 0) else if v.1 = 3 then decide (0 ≤ v.2) && decide (v.2 < n) else false
theorem s_ref04_Val (v : Int × Int) (n : Int) : V.Spec Tryz.prog Fc.ref04_Val [valA v, V.int n] [] (V.bool (valB v n)) [] := by
  rw [valB]
  refine V.Spec.enter Tryz.tabOK Tryz.mixed Fn.ref04_Val rfl rfl rfl fun B hB => ?_
  by_cases h1 : v.1 = 1
  · rw [if_pos h1]
    repeat' (with_reducible first | refine OL.st ?_ | refine OL.box ?_ | refine TC.region ?_ | refine TC.seq ?_ | refine OL.nil ?_ | refine TX.thenN ?_ | refine TC.block ?_ | refine OL.gOn ?_ | refine OL.gOff ?_ | refine TC.ifD ?_ ?_ <;> (intro hc; try (exfalso; omega)) | refine OL.gD ?_ ?_ <;> (intro hc; try (exfalso; omega)) | refine TC.ret ?_ | refine TX.thenR ?_ | refine TX.blkR ?_ | fail)
    all_goals refine TX.rt1 [] (.bool ?_)
    · have : -1000000000 ≤ v.2 := by omega
      simp [this]
    · have : ¬ -1000000000 ≤ v.2 := by omega
      simp [this]
  · rw [if_neg h1]
    by_cases h2 : v.1 = 2
    · rw [if_pos h2]
      repeat' (with_reducible first | refine OL.st ?_ | refine OL.box ?_ | refine TC.region ?_ | refine TC.seq ?_ | refine OL.nil ?_ | refine TX.thenN ?_ | refine TC.block ?_ | refine TC.ifD ?_ ?_ <;> (intro hc; try (exfalso; omega)) | refine TC.ret ?_ | refine TX.thenR ?_ | refine TX.blkR ?_ | fail)
      exact TX.rt1 [] (.bool rfl)
    · rw [if_neg h2]
      by_cases h3 : v.1 = 3
      · rw [if_pos h3]
        repeat' (with_reducible first | refine OL.st ?_ | refine OL.box ?_ | refine TC.region ?_ | refine TC.seq ?_ | refine OL.nil ?_ | refine TX.thenN ?_ | refine TC.block ?_ | refine OL.gOn ?_ | refine OL.gOff ?_ | refine TC.ifD ?_ ?_ <;> (intro hc; try (exfalso; omega)) | refine OL.gD ?_ ?_ <;> (intro hc; try (exfalso; omega)) | refine TC.ret ?_ | refine TX.thenR ?_ | refine TX.blkR ?_ | fail)
        all_goals refine TX.rt1 [] (.bool ?_)
        · have : 0 ≤ v.2 := by omega
          simp [this]
        · have : ¬ 0 ≤ v.2 := by omega
          simp [this]
      · rw [if_neg h3]
        repeat' (with_reducible first | refine OL.st ?_ | refine OL.box ?_ | refine TC.region ?_ | refine TC.seq ?_ | refine OL.nil ?_ | refine TX.thenN ?_ | refine TC.block ?_ | refine TC.skip ?_ | refine TX.blkN ?_ | refine TC.ifD ?_ ?_ <;> (intro hc; try (exfalso; omega)) | refine TC.ret ?_ | fail)
        exact TX.rt1 [] (.bool rfl)
theorem s_ref04_Vals (l : List (Int × Int)) (n : Int) : V.Spec Tryz.prog Fc.ref04_Vals [valsA l, V.int n] [] (V.bool (l.all (valB · n))) [] := by
  refine V.Spec.enter Tryz.tabOK Tryz.mixed Fn.ref04_Vals rfl rfl rfl fun B hB => ?_
  refine TC.bl 0 fun hll => ?_
  repeat' (with_reducible first | refine OL.st ?_ | refine TC.region ?_ | refine TC.seq ?_ | refine OL.nil ?_ | refine TX.thenN ?_ | refine TC.block ?_ | fail)
  refine TC.lp (fun k : Nat => [(1, V.int n), (7, valsA l), (8, V.int l.length), (9, V.int k)]) (fun _ => []) (fun k => k ≤ l.length ∧ l.all (valB · n) = (l.drop k).all (valB · n)) (fun k => l.length - k) 0 [] ⟨Nat.zero_le _, rfl⟩ ?_
  rintro k ⟨hk, hinv⟩
  by_cases hkl : k < l.length
  · have hv := s_ref04_Val l[k] n
    rw [drop_cons hkl, List.all_cons] at hinv
    repeat' (with_reducible first | refine OL.st ?_ | refine OL.alloc ?_ | refine OL.storeAgg ?_ | refine TC.region ?_ | refine TC.seq ?_ | refine OL.nil ?_ | refine TX.thenN ?_ | refine TC.block ?_ | refine TC.skip ?_ | refine TC.ifD ?_ ?_ <;> (intro hc; try (exfalso; omega)) | fail)
    refine OL.c hv Fn.ref04_Val ?_
    cases h : valB l[k] n
    · rw [h, Bool.false_and] at hinv
      repeat' (with_reducible first | refine OL.st ?_ | refine TC.region ?_ | refine TC.seq ?_ | refine OL.nil ?_ | refine TX.thenN ?_ | refine TC.ifT ?_ | refine TC.ret ?_ | refine TX.thenR ?_ | refine TX.blkR ?_ | fail)
      exact TX.rt1 [] (.bool hinv.symm)
    · rw [h, Bool.true_and] at hinv
      repeat' (with_reducible first | refine OL.st ?_ | refine TC.region ?_ | refine OL.nil ?_ | refine TX.thenN ?_ | refine TC.skip ?_ | refine TX.blkN ?_ | refine TC.ifF ?_ | fail)
      exact TX.rd (k + 1) [] ⟨by omega, hinv⟩ (by omega)
  · rw [drop_nil (by omega)] at hinv
    repeat' (with_reducible first | refine OL.st ?_ | refine TC.region ?_ | refine TC.seq ?_ | refine OL.nil ?_ | refine TX.thenN ?_ | refine TC.exit ?_ | refine TX.hit ?_ | refine TX.thenX ?_ | refine TC.ifD ?_ ?_ <;> (intro hc; try (exfalso; omega)) | refine TC.ret ?_ | fail)
    exact TX.rt1 [] (.bool hinv.symm)
end Go.Proofs
namespace Go.Proofs
open Go Go.W Go.V
theorem map_snoc {α β : Type} (f : α → β) (a : List α) (x : α) : a.map f ++ [f x] = (a ++ [x]).map f := by simp
def slotsOk : List Int → List Int → Bool
  | _, [] => true
  | met, s :: r => ((decide (0 ≤ s) && decide (s < 40)) && !met.contains s) && slotsOk (met ++ [s]) r
def clsOk (g : List (List Int)) : Nat → List Int → List Cls → Bool
  | _, _, [] => true
  | k, met, x :: r => (decide (0 < (at_ (orders g) ((3 + k : Nat) : Int)).length) && decide (x.2.1.length ≤ 4)) && (slotsOk met x.2.1 && clsOk g (k + 1) (met ++ x.2.1) r)
def initsOk (has : List Int) : List Int → List (Int × Int) → Bool
  | _, [] => true
  | own, i :: r => ((has.contains i.1 && !own.contains i.1) && (decide (-1000000000 ≤ i.2) && decide (i.2 ≤ 1000000000))) && initsOk has (own ++ [i.1]) r
def iniAt (l : List Cls) (k : Nat) : Bool := initsOk (slotsOf l (3 + k)) [] (clsAt l k).2.2
def goodB (l : List Cls) : Bool := decide (l.length ≤ 10) && (fine (graphOf l) && (clsOk (graphOf l) 0 [] l && (List.range l.length).all (iniAt l)))
theorem all_false {p : Nat → Bool} {n k : Nat} (hk : k < n) (h : p k = false) : (List.range n).all p = false := by
  rw [List.all_eq_false]; exact ⟨k, List.mem_range.2 hk, by simp [h]⟩
theorem all_true {p : Nat → Bool} {n : Nat} (h : ∀ k, k < n → p k = true) : (List.range n).all p = true := by
  rw [List.all_eq_true]; exact fun k hk => h k (List.mem_range.1 hk)
def metOf (l : List Cls) : List Int := l.flatMap (·.2.1)
theorem metOf_succ (l : List Cls) {k : Nat} (h : k < l.length) : metOf (l.take (k + 1)) = metOf (l.take k) ++ l[k].2.1 := by rw [metOf, take_succ h, List.flatMap_append, ← metOf]; simp
set_option maxHeartbeats 2000000 in
theorem s_ref17_Good (l : List Cls) (hs : Short l) : V.Spec Tryz.prog Fc.ref17_Good [clssA l] [] (V.bool (goodB l)) [] := by
  have hg := s_ref17_Graph l hs.1
  have hgo := s_ref03_Good (graphOf l)
  have hgl : (graphOf l).length = l.length := by simp [graphOf]
  rw [goodB]
  refine V.Spec.enter Tryz.tabOK Tryz.mixed Fn.ref17_Good rfl rfl rfl fun B hB => ?_
  repeat' (with_reducible first | refine OL.st ?_ | refine TC.region ?_ | refine TC.seq ?_ | refine OL.nil ?_ | refine TX.thenN ?_ | fail)
  refine OL.c hg Fn.ref17_Graph ?_
  by_cases h10 : l.length ≤ 10
  · rw [decide_eq_true h10, Bool.true_and]
    repeat' (with_reducible first | refine OL.st ?_ | refine TC.region ?_ | refine TC.seq ?_ | refine OL.nil ?_ | refine TX.thenN ?_ | refine OL.gOn ?_ | refine OL.gD ?_ ?_ <;> (intro hc; try (exfalso; omega)) | fail)
    refine OL.c hgo Fn.ref03_Good ?_
    cases hf : fine (graphOf l)
    · repeat' (with_reducible first | refine OL.st ?_ | refine TC.region ?_ | refine TC.seq ?_ | refine OL.nil ?_ | refine TX.thenN ?_ | refine TC.ifT ?_ | refine OL.gOn ?_ | refine TC.ret ?_ | refine TX.thenR ?_ | fail)
      exact TX.rt1 [] (.ren rfl)
    · rw [Bool.true_and]
      have hlo := fun (c : Nat) (hc : c < 3 + l.length) => s_ref03_LinOf (graphOf l) c hf (by omega) (by omega)
      have hso := fun k (hk : k < l.length) => s_ref17_SlotsOf hf (c := 3 + k) (by omega)
      repeat' (with_reducible first | refine OL.st ?_ | refine TC.region ?_ | refine TC.seq ?_ | refine OL.nil ?_ | refine TX.thenN ?_ | refine TC.block ?_ | refine TC.skip ?_ | refine TC.ifF ?_ | refine OL.gOn ?_ | fail)
      refine TC.adp 4 Tc.int 1 ?_
      refine TC.lp (fun k : Nat => [(0, clssA l), (3, rows (graphOf l)), (4, .hs 0), (27, clssA l), (28, V.int l.length), (29, V.int k)]) (fun k => [.gs false Tc.int 1 none ((metOf (l.take k)).map V.int)]) (fun k => k ≤ l.length ∧ clsOk (graphOf l) 0 [] l = clsOk (graphOf l) k (metOf (l.take k)) (l.drop k) ∧ (metOf (l.take k)).length ≤ 4 * k) (fun k => l.length - k) 0 [0] ⟨Nat.zero_le _, rfl, by simp [metOf]⟩ ?_
      rintro k ⟨hk, hinv, hml⟩
      by_cases hkl : k < l.length
      · have hlk := hlo (3 + k) (by omega)
        have hms := metOf_succ l hkl
        have hsk := (hs.2 l[k] (List.getElem_mem _)).2.1
        rw [drop_cons hkl, clsOk] at hinv
        have e3 : ((3 + k : Nat) : Int) = 3 + (k : Int) := by omega
        rw [e3] at hlk hinv
        generalize metOf (l.take k) = met at *
        repeat' (with_reducible first | refine OL.st ?_ | refine OL.alloc ?_ | refine OL.storeAgg ?_ | refine TC.region ?_ | refine TC.seq ?_ | refine OL.nil ?_ | refine TX.thenN ?_ | refine TC.block ?_ | refine TC.skip ?_ | refine TC.ifD ?_ ?_ <;> (intro hc; try (exfalso; omega)) | fail)
        refine OL.c hlk Fn.ref03_LinOf ?_
        by_cases ho : 0 < (at_ (orders (graphOf l)) (3 + (k : Int))).length
        · rw [decide_eq_true ho] at hinv ⊢
          by_cases h4 : l[k].2.1.length ≤ 4
          · rw [decide_eq_true h4, Bool.true_and, Bool.true_and] at hinv
            repeat' (with_reducible first | refine OL.st ?_ | refine TC.region ?_ | refine TC.seq ?_ | refine OL.nil ?_ | refine TX.thenN ?_ | refine TC.block ?_ | refine TC.skip ?_ | refine OL.gOn ?_ | refine TC.ifD ?_ ?_ <;> (intro hc; try (exfalso; omega)) | fail)
            refine TC.lp (fun j : Nat => [(0, clssA l), (3, rows (graphOf l)), (4, .hs 0), (27, clssA l), (28, V.int l.length), (29, V.int k), (50, ints l[k].2.1), (51, V.int l[k].2.1.length), (52, V.int j)]) (fun j => [.gs false Tc.int 1 none ((met ++ l[k].2.1.take j).map V.int)]) (fun j => j ≤ l[k].2.1.length ∧ slotsOk met l[k].2.1 = slotsOk (met ++ l[k].2.1.take j) (l[k].2.1.drop j)) (fun j => l[k].2.1.length - j) 0 [0] ⟨Nat.zero_le _, by simp⟩ ?_ (ho := ⟨⟨_, rfl, OE.gsS (by simp)⟩, trivial⟩)
            rintro j ⟨hj, hinv2⟩
            have hql : (met ++ l[k].2.1.take j).length ≤ 1000 := by simp; omega
            by_cases hjl : j < l[k].2.1.length
            · rw [drop_cons hjl, slotsOk] at hinv2
              have e2 : (met ++ l[k].2.1.take j) ++ [l[k].2.1[j]] = met ++ l[k].2.1.take (j + 1) := by rw [take_succ hjl, List.append_assoc]
              have e : (met ++ l[k].2.1.take j).map V.int ++ [V.int l[k].2.1[j]] = (met ++ l[k].2.1.take (j + 1)).map V.int := by rw [← e2]; exact map_snoc _ _ _
              rw [e2] at hinv2
              have hha := s_ref03_Has (met ++ l[k].2.1.take j) l[k].2.1[j]
              generalize met ++ l[k].2.1.take j = q at *
              by_cases h0 : 0 ≤ l[k].2.1[j] ∧ l[k].2.1[j] < 40
              · rw [decide_eq_true h0.1, decide_eq_true h0.2, Bool.true_and, Bool.true_and] at hinv2
                repeat' (with_reducible first | refine OL.st ?_ | refine TC.region ?_ | refine TC.seq ?_ | refine OL.nil ?_ | refine TX.thenN ?_ | refine TC.block ?_ | refine TC.skip ?_ | refine OL.gOn ?_ | refine TC.ifD ?_ ?_ <;> (intro hc; try (exfalso; omega)) | refine OL.gD ?_ ?_ <;> (intro hc; try (exfalso; omega)) | fail)
                refine OL.lend (Wk.view (t := 63) (by with_unfolding_all exact rfl) (by with_unfolding_all exact rfl)) hha Fn.ref03_Has ?_
                cases hc : q.contains l[k].2.1[j]
                · rw [hc, Bool.not_false, Bool.true_and] at hinv2
                  repeat' (with_reducible first | refine OL.st ?_ | refine OL.lit ?_ | refine OL.appO ?_ | refine TC.region ?_ | refine OL.nil ?_ | refine TX.thenN ?_ | refine TC.skip ?_ | refine TX.blkN ?_ | refine TC.ifF ?_ | fail)
                  exact TX.rd (j + 1) [2] ⟨by omega, hinv2⟩ (by omega)
                · rw [hc, Bool.not_true, Bool.false_and] at hinv2
                  rw [hinv2, Bool.false_and] at hinv
                  rw [hinv, Bool.false_and]
                  repeat' (with_reducible first | refine OL.st ?_ | refine TC.region ?_ | refine TC.seq ?_ | refine OL.nil ?_ | refine TX.thenN ?_ | refine TC.ifT ?_ | refine TC.ret ?_ | refine TX.thenR ?_ | refine TX.blkR ?_ | fail)
                  exact TX.rt1 [] (.ren rfl)
              · have hz : (decide (0 ≤ l[k].2.1[j]) && decide (l[k].2.1[j] < 40)) = false := by
                  rw [Bool.eq_false_iff]; simp only [ne_eq, Bool.and_eq_true, decide_eq_true_eq]; exact h0
                rw [hz, Bool.false_and, Bool.false_and] at hinv2
                rw [hinv2, Bool.false_and] at hinv
                rw [hinv, Bool.false_and]
                repeat' (with_reducible first | refine OL.st ?_ | refine TC.region ?_ | refine TC.seq ?_ | refine OL.nil ?_ | refine TX.thenN ?_ | refine TC.block ?_ | refine TC.skip ?_ | refine TC.ifT ?_ | refine OL.gOn ?_ | refine OL.gOff ?_ | refine TC.ifD ?_ ?_ <;> (intro hc; try (exfalso; omega)) | refine OL.gD ?_ ?_ <;> (intro hc; try (exfalso; omega)) | refine TC.ret ?_ | refine TX.thenR ?_ | refine TX.blkR ?_ | fail)
                all_goals exact TX.rt1 [] (.ren rfl)
            · have ej : j = l[k].2.1.length := by omega
              rw [drop_nil (by omega), slotsOk] at hinv2
              rw [hinv2, Bool.true_and] at hinv
              have e : (met ++ l[k].2.1.take j).map V.int = (metOf (l.take (k + 1))).map V.int := by rw [hms, take_all (by omega)]
              generalize l[k].2.1.take j = tj at *
              repeat' (with_reducible first | refine OL.st ?_ | refine TC.region ?_ | refine TC.seq ?_ | refine OL.nil ?_ | refine TX.thenN ?_ | refine TX.blkN ?_ | refine TC.exit ?_ | refine TX.hit ?_ | refine TX.thenX ?_ | refine TC.ifD ?_ ?_ <;> (intro hc; try (exfalso; omega)) | fail)
              exact TX.rd (k + 1) [0] ⟨by omega, by rw [hms]; exact hinv, by rw [hms]; simp; omega⟩ (by omega)
          · rw [decide_eq_false h4] at hinv
            simp only [Bool.and_false, Bool.false_and] at hinv
            rw [hinv, Bool.false_and]
            repeat' (with_reducible first | refine OL.st ?_ | refine TC.region ?_ | refine TC.seq ?_ | refine OL.nil ?_ | refine TX.thenN ?_ | refine OL.gOn ?_ | refine TC.ifD ?_ ?_ <;> (intro hc; try (exfalso; omega)) | refine TC.ret ?_ | refine TX.thenR ?_ | refine TX.blkR ?_ | fail)
            exact TX.rt1 [] (.ren rfl)
        · rw [decide_eq_false ho] at hinv ⊢
          simp only [Bool.false_and] at hinv
          rw [hinv, Bool.false_and]
          repeat' (with_reducible first | refine OL.st ?_ | refine TC.region ?_ | refine TC.seq ?_ | refine OL.nil ?_ | refine TX.thenN ?_ | refine TC.ifT ?_ | refine OL.gOff ?_ | refine TC.ret ?_ | refine TX.thenR ?_ | refine TX.blkR ?_ | fail)
          exact TX.rt1 [] (.ren rfl)
      · rw [drop_nil (by omega), clsOk] at hinv
        rw [hinv, Bool.true_and]
        clear hlo hml hinv
        repeat' (with_reducible first | refine OL.st ?_ | refine TC.region ?_ | refine TC.seq ?_ | refine OL.nil ?_ | refine TX.thenN ?_ | refine TC.block ?_ | refine TC.exit ?_ | refine TX.hit ?_ | refine TX.thenX ?_ | refine TC.ifD ?_ ?_ <;> (intro hc; try (exfalso; omega)) | fail)
        refine TC.lp (fun k : Nat => [(0, clssA l), (73, clssA l), (74, V.int l.length), (75, V.int k)]) (fun _ => []) (fun k => k ≤ l.length ∧ ∀ i, i < k → iniAt l i = true) (fun k => l.length - k) 0 [] ⟨Nat.zero_le _, fun i h => by omega⟩ ?_
        rintro k ⟨hk, hpre⟩
        by_cases hkl : k < l.length
        · have hsk := (hs.2 l[k] (List.getElem_mem _)).2.2
          have hso := hso k hkl
          have hia : iniAt l k = initsOk (slotsOf l (3 + k)) [] l[k].2.2 := by rw [iniAt, clsAt, getD_lt hkl]
          have hhas := fun s => s_ref03_Has (slotsOf l (3 + k)) s
          have e3 : ((3 + k : Nat) : Int) = 3 + (k : Int) := by omega
          rw [e3] at hso
          generalize slotsOf l (3 + k) = has at *
          repeat' (with_reducible first | refine OL.st ?_ | refine OL.alloc ?_ | refine OL.storeAgg ?_ | refine TC.region ?_ | refine TC.seq ?_ | refine OL.nil ?_ | refine TX.thenN ?_ | refine TC.block ?_ | refine TC.skip ?_ | refine TC.ifD ?_ ?_ <;> (intro hc; try (exfalso; omega)) | fail)
          refine OL.c hso Fn.ref17_SlotsOf ?_
          repeat' (with_reducible first | refine OL.st ?_ | refine TC.region ?_ | refine TC.seq ?_ | refine OL.nil ?_ | refine TX.thenN ?_ | refine TC.block ?_ | fail)
          refine TC.adp 14 Tc.int 1 ?_
          generalize hie : l[k].2.2 = is at *
          refine TC.lp (fun j : Nat => [(0, clssA l), (13, ints has), (14, .hs 0), (73, clssA l), (74, V.int l.length), (75, V.int k), (85, initsA is), (86, V.int is.length), (87, V.int j)]) (fun j => [.gs false Tc.int 1 none (((is.take j).map (·.1)).map V.int)]) (fun j => j ≤ is.length ∧ iniAt l k = initsOk has ((is.take j).map (·.1)) (is.drop j)) (fun j => is.length - j) 0 [1] ⟨Nat.zero_le _, hia⟩ ?_
          rintro j ⟨hj, hinv⟩
          have hql : ((is.take j).map (·.1)).length = j := by simp; omega
          by_cases hjl : j < is.length
          · rw [drop_cons hjl, initsOk] at hinv
            have e2 : ((is.take j).map (·.1)) ++ [is[j].1] = (is.take (j + 1)).map (·.1) := by rw [take_succ hjl, List.map_append]; rfl
            rw [e2] at hinv
            have e : ((is.take j).map (·.1)).map V.int ++ [V.int is[j].1] = ((is.take (j + 1)).map (·.1)).map V.int := by rw [← e2]; exact map_snoc _ _ _
            have hh1 := hhas is[j].1
            have hh2 := s_ref03_Has ((is.take j).map (·.1)) is[j].1
            generalize (is.take j).map (·.1) = own at *
            cases c1 : has.contains is[j].1
            · rw [c1] at hinv hh1
              simp only [Bool.false_and] at hinv
              rw [all_false hkl hinv]
              repeat' (with_reducible first | refine OL.st ?_ | refine OL.alloc ?_ | refine OL.storeAgg ?_ | refine TC.region ?_ | refine TC.seq ?_ | refine OL.nil ?_ | refine TX.thenN ?_ | refine TC.block ?_ | refine TC.skip ?_ | refine TC.ifD ?_ ?_ <;> (intro hc; try (exfalso; omega)) | fail)
              refine OL.c hh1 Fn.ref03_Has ?_
              repeat' (with_reducible first | refine OL.st ?_ | refine TC.region ?_ | refine TC.seq ?_ | refine OL.nil ?_ | refine TX.thenN ?_ | refine TC.ifT ?_ | refine OL.gOff ?_ | refine TC.ret ?_ | refine TX.thenR ?_ | refine TX.blkR ?_ | fail)
              exact TX.rt1 [] (.ren rfl)
            · rw [c1] at hinv hh1
              cases c2 : own.contains is[j].1
              · rw [c2] at hinv hh2
                by_cases c3 : -1000000000 ≤ is[j].2 ∧ is[j].2 ≤ 1000000000
                · rw [decide_eq_true c3.1, decide_eq_true c3.2] at hinv
                  simp only [Bool.not_false, Bool.true_and, Bool.and_true] at hinv
                  repeat' (with_reducible first | refine OL.st ?_ | refine OL.alloc ?_ | refine OL.storeAgg ?_ | refine TC.region ?_ | refine TC.seq ?_ | refine OL.nil ?_ | refine TX.thenN ?_ | refine TC.block ?_ | refine TC.skip ?_ | refine TC.ifD ?_ ?_ <;> (intro hc; try (exfalso; omega)) | fail)
                  refine OL.c hh1 Fn.ref03_Has ?_
                  repeat' (first | (with_reducible refine OL.st ?_) | (with_reducible refine OL.gOn ?_) | fail)
                  refine OL.lend (Wk.view (t := 97) (by with_unfolding_all exact rfl) (by with_unfolding_all exact rfl)) hh2 Fn.ref03_Has ?_
                  repeat' (with_reducible first | refine OL.st ?_ | refine OL.lit ?_ | refine OL.appO ?_ | refine TC.region ?_ | refine OL.nil ?_ | refine TX.thenN ?_ | refine TC.skip ?_ | refine TX.blkN ?_ | refine OL.gOn ?_ | refine TC.ifD ?_ ?_ <;> (intro hc; try (exfalso; omega)) | refine OL.gD ?_ ?_ <;> (intro hc; try (exfalso; omega)) | fail)
                  exact TX.rd (j + 1) [3] ⟨by omega, hinv⟩ (by omega)
                · have hz : (decide (-1000000000 ≤ is[j].2) && decide (is[j].2 ≤ 1000000000)) = false := by
                    rw [Bool.eq_false_iff]; simp only [ne_eq, Bool.and_eq_true, decide_eq_true_eq]; exact c3
                  rw [hz] at hinv
                  simp only [Bool.and_false, Bool.false_and] at hinv
                  rw [all_false hkl hinv]
                  repeat' (with_reducible first | refine OL.st ?_ | refine OL.alloc ?_ | refine OL.storeAgg ?_ | refine TC.region ?_ | refine TC.seq ?_ | refine OL.nil ?_ | refine TX.thenN ?_ | refine TC.block ?_ | refine TC.skip ?_ | refine TC.ifD ?_ ?_ <;> (intro hc; try (exfalso; omega)) | fail)
                  refine OL.c hh1 Fn.ref03_Has ?_
                  repeat' (first | (with_reducible refine OL.st ?_) | (with_reducible refine OL.gOn ?_) | fail)
                  refine OL.lend (Wk.view (t := 97) (by with_unfolding_all exact rfl) (by with_unfolding_all exact rfl)) hh2 Fn.ref03_Has ?_
                  repeat' (with_reducible first | refine OL.st ?_ | refine TC.region ?_ | refine TC.seq ?_ | refine OL.nil ?_ | refine TX.thenN ?_ | refine TC.ifT ?_ | refine OL.gOn ?_ | refine OL.gOff ?_ | refine TC.ifD ?_ ?_ <;> (intro hc; try (exfalso; omega)) | refine OL.gD ?_ ?_ <;> (intro hc; try (exfalso; omega)) | refine TC.ret ?_ | refine TX.thenR ?_ | refine TX.blkR ?_ | fail)
                  all_goals exact TX.rt1 [] (.ren rfl)
              · rw [c2] at hinv hh2
                simp only [Bool.not_true, Bool.and_false, Bool.false_and] at hinv
                rw [all_false hkl hinv]
                repeat' (with_reducible first | refine OL.st ?_ | refine OL.alloc ?_ | refine OL.storeAgg ?_ | refine TC.region ?_ | refine TC.seq ?_ | refine OL.nil ?_ | refine TX.thenN ?_ | refine TC.block ?_ | refine TC.skip ?_ | refine TC.ifD ?_ ?_ <;> (intro hc; try (exfalso; omega)) | fail)
                refine OL.c hh1 Fn.ref03_Has ?_
                repeat' (first | (with_reducible refine OL.st ?_) | (with_reducible refine OL.gOn ?_) | fail)
                refine OL.lend (Wk.view (t := 97) (by with_unfolding_all exact rfl) (by with_unfolding_all exact rfl)) hh2 Fn.ref03_Has ?_
                repeat' (with_reducible first | refine OL.st ?_ | refine TC.region ?_ | refine TC.seq ?_ | refine OL.nil ?_ | refine TX.thenN ?_ | refine TC.ifT ?_ | refine OL.gOff ?_ | refine TC.ret ?_ | refine TX.thenR ?_ | refine TX.blkR ?_ | fail)
                exact TX.rt1 [] (.ren rfl)
          · rw [drop_nil (by omega), initsOk] at hinv
            generalize (is.take j).map (·.1) = own at *
            repeat' (with_reducible first | refine OL.st ?_ | refine TC.region ?_ | refine TC.seq ?_ | refine OL.nil ?_ | refine TX.thenN ?_ | refine TX.blkN ?_ | refine TC.exit ?_ | refine TX.hit ?_ | refine TX.thenX ?_ | refine TC.ifD ?_ ?_ <;> (intro hc; try (exfalso; omega)) | fail)
            exact TX.rd (k + 1) [] ⟨by omega, fun i hi => by
              by_cases e : i = k
              · rw [e]; exact hinv
              · exact hpre i (by omega)⟩ (by omega)
        · rw [all_true (fun i hi => hpre i (by omega))]
          repeat' (with_reducible first | refine OL.st ?_ | refine TC.region ?_ | refine TC.seq ?_ | refine OL.nil ?_ | refine TX.thenN ?_ | refine TC.exit ?_ | refine TX.hit ?_ | refine TX.thenX ?_ | refine TC.ifD ?_ ?_ <;> (intro hc; try (exfalso; omega)) | refine TC.ret ?_ | fail)
          exact TX.rt1 [] (.ren rfl)
  · rw [decide_eq_false h10, Bool.false_and]
    repeat' (with_reducible first | refine OL.st ?_ | refine TC.region ?_ | refine TC.seq ?_ | refine OL.nil ?_ | refine TX.thenN ?_ | refine TC.ifT ?_ | refine OL.gOff ?_ | refine OL.gD ?_ ?_ <;> (intro hc; try (exfalso; omega)) | refine TC.ret ?_ | refine TX.thenR ?_ | fail)
    exact TX.rt1 [] (.ren rfl)
end Go.Proofs
namespace Go.Proofs
open Go Go.W Go.V
def schAt (ss : List (List Cls)) (i : Nat) : List Cls := ss.getD i []
def schOk (ss : List (List Cls)) (i : Nat) : Bool := (decide (i = 0) || decide ((schAt ss (i - 1)).length ≤ (schAt ss i).length)) && goodB (schAt ss i)
def schemasB (ss : List (List Cls)) : Bool := (decide (1 ≤ ss.length) && decide (ss.length ≤ 12)) && (List.range ss.length).all (schOk ss)
theorem s_ref17_Schemas (ss : List (List Cls)) (hs : ∀ s ∈ ss, Short s) : V.Spec Tryz.prog Fc.ref17_Schemas [schsA ss] [] (V.bool (schemasB ss)) [] := by
  rw [schemasB]
  refine V.Spec.enter Tryz.tabOK Tryz.mixed Fn.ref17_Schemas rfl rfl rfl fun B hB => ?_
  refine TC.bl 0 fun hl => ?_
  by_cases hb : 1 ≤ ss.length ∧ ss.length ≤ 12
  · rw [decide_eq_true hb.1, decide_eq_true hb.2, Bool.true_and, Bool.true_and]
    repeat' (with_reducible first | refine OL.st ?_ | refine TC.region ?_ | refine TC.seq ?_ | refine OL.nil ?_ | refine TX.thenN ?_ | refine TC.block ?_ | refine TC.skip ?_ | refine OL.gOn ?_ | refine TC.ifD ?_ ?_ <;> (intro hc; try (exfalso; omega)) | refine OL.gD ?_ ?_ <;> (intro hc; try (exfalso; omega)) | fail)
    refine TC.lp (fun k : Nat => [(0, schsA ss), (13, schsA ss), (14, V.int ss.length), (15, V.int k)]) (fun _ => []) (fun k => k ≤ ss.length ∧ ∀ i, i < k → schOk ss i = true) (fun k => ss.length - k) 0 [] ⟨Nat.zero_le _, fun i h => by omega⟩ ?_
    rintro k ⟨hk, hpre⟩
    by_cases hkl : k < ss.length
    · have hg := s_ref17_Good ss[k] (hs _ (List.getElem_mem _))
      have hsk : schAt ss k = ss[k] := getD_lt hkl
      by_cases h0 : k = 0
      · subst h0
        have ho : schOk ss 0 = goodB ss[0] := by rw [schOk, hsk]; rfl
        repeat' (with_reducible first | refine OL.st ?_ | refine TC.region ?_ | refine TC.seq ?_ | refine OL.nil ?_ | refine TX.thenN ?_ | refine TC.block ?_ | refine TC.skip ?_ | refine TC.ifF ?_ | refine OL.gOff ?_ | refine TC.ifD ?_ ?_ <;> (intro hc; try (exfalso; omega)) | fail)
        refine OL.c hg Fn.ref17_Good ?_
        cases hgb : goodB ss[0]
        · rw [all_false hkl (ho.trans hgb)]
          repeat' (with_reducible first | refine OL.st ?_ | refine TC.region ?_ | refine TC.seq ?_ | refine OL.nil ?_ | refine TX.thenN ?_ | refine TC.ifT ?_ | refine TC.ret ?_ | refine TX.thenR ?_ | refine TX.blkR ?_ | fail)
          exact TX.rt1 [] (.ren rfl)
        · repeat' (with_reducible first | refine OL.st ?_ | refine TC.region ?_ | refine OL.nil ?_ | refine TX.thenN ?_ | refine TC.skip ?_ | refine TX.blkN ?_ | refine TC.ifF ?_ | fail)
          exact TX.rd 1 [] ⟨by omega, fun i hi => by obtain rfl : i = 0 := by omega
                                                     exact ho.trans hgb⟩ (by omega)
      · have hsp : schAt ss (k - 1) = ss[k - 1]'(by omega) := getD_lt (by omega)
        have hix : ss[((k : Int) - 1).toNat]'(by omega) = ss[k - 1]'(by omega) := by congr 1; omega
        have ho : schOk ss k = (decide ((ss[k - 1]'(by omega)).length ≤ ss[k].length) && goodB ss[k]) := by rw [schOk, hsk, hsp, decide_eq_false h0]; rfl
        by_cases hlt : (ss[k - 1]'(by omega)).length ≤ ss[k].length
        · rw [decide_eq_true hlt, Bool.true_and] at ho
          rw [← hix] at hlt
          repeat' (with_reducible first | refine OL.st ?_ | refine TC.region ?_ | refine TC.seq ?_ | refine OL.nil ?_ | refine TX.thenN ?_ | refine TC.block ?_ | refine TC.skip ?_ | refine OL.gOn ?_ | refine TC.ifD ?_ ?_ <;> (intro hc; try (exfalso; omega)) | refine OL.gD ?_ ?_ <;> (intro hc; try (exfalso; omega)) | fail)
          refine OL.c hg Fn.ref17_Good ?_
          cases hgb : goodB ss[k]
          · rw [all_false hkl (ho.trans hgb)]
            repeat' (with_reducible first | refine OL.st ?_ | refine TC.region ?_ | refine TC.seq ?_ | refine OL.nil ?_ | refine TX.thenN ?_ | refine TC.ifT ?_ | refine TC.ret ?_ | refine TX.thenR ?_ | refine TX.blkR ?_ | fail)
            exact TX.rt1 [] (.ren rfl)
          · repeat' (with_reducible first | refine OL.st ?_ | refine TC.region ?_ | refine OL.nil ?_ | refine TX.thenN ?_ | refine TC.skip ?_ | refine TX.blkN ?_ | refine TC.ifF ?_ | fail)
            exact TX.rd (k + 1) [] ⟨by omega, fun i hi => by
              by_cases e : i = k
              · rw [e]; exact ho.trans hgb
              · exact hpre i (by omega)⟩ (by omega)
        · rw [decide_eq_false hlt, Bool.false_and] at ho
          rw [all_false hkl ho]
          rw [← hix] at hlt
          repeat' (with_reducible first | refine OL.st ?_ | refine TC.region ?_ | refine TC.seq ?_ | refine OL.nil ?_ | refine TX.thenN ?_ | refine TC.block ?_ | refine TC.skip ?_ | refine OL.gOn ?_ | refine TC.ifD ?_ ?_ <;> (intro hc; try (exfalso; omega)) | refine OL.gD ?_ ?_ <;> (intro hc; try (exfalso; omega)) | refine TC.ret ?_ | refine TX.thenR ?_ | refine TX.blkR ?_ | fail)
          exact TX.rt1 [] (.ren rfl)
    · rw [all_true (fun i hi => hpre i (by omega))]
      repeat' (with_reducible first | refine OL.st ?_ | refine TC.region ?_ | refine TC.seq ?_ | refine OL.nil ?_ | refine TX.thenN ?_ | refine TC.exit ?_ | refine TX.hit ?_ | refine TX.thenX ?_ | refine TC.ifD ?_ ?_ <;> (intro hc; try (exfalso; omega)) | refine TC.ret ?_ | fail)
      exact TX.rt1 [] (.ren rfl)
  · have hz : (decide (1 ≤ ss.length) && decide (ss.length ≤ 12)) = false := by
      rw [Bool.eq_false_iff]; simp only [ne_eq, Bool.and_eq_true, decide_eq_true_eq]; exact hb
    rw [hz, Bool.false_and]
    repeat' (with_reducible first | refine OL.st ?_ | refine TC.region ?_ | refine TC.seq ?_ | refine OL.nil ?_ | refine TX.thenN ?_ | refine TC.ifT ?_ | refine OL.gOn ?_ | refine OL.gOff ?_ | refine TC.ifD ?_ ?_ <;> (intro hc; try (exfalso; omega)) | refine OL.gD ?_ ?_ <;> (intro hc; try (exfalso; omega)) | refine TC.ret ?_ | refine TX.thenR ?_ | fail)
    all_goals exact TX.rt1 [] (.ren rfl)
def ownB (n : Nat) (c : Int) : Bool := decide (3 ≤ c) && decide (c < 3 + (n : Int))
def thingOk (lz : Bool) (ss : List (List Cls)) (n : Int) (x : Thing) : Bool :=
  ((decide (0 ≤ x.2.1) && decide (x.2.1 < (ss.length : Int))) && (lz || decide (x.2.1 = (ss.length : Int) - 1))) &&
    (ownB (schAt ss x.2.1.toNat).length x.1 && (decide (x.2.2.length = (slotsOf (schAt ss x.2.1.toNat) x.1.toNat).length) && x.2.2.all (valB · n)))
def formedB (lz : Bool) (ss : List (List Cls)) (ts : List Thing) : Bool := schemasB ss && (decide (ts.length ≤ 40) && ts.all (thingOk lz ss ts.length))
theorem schemasB_len {ss : List (List Cls)} (h : schemasB ss = true) : 1 ≤ ss.length ∧ ss.length ≤ 12 := by
  simp only [schemasB, Bool.and_eq_true, decide_eq_true_eq] at h; exact h.1
theorem schemasB_good {ss : List (List Cls)} (h : schemasB ss = true) {i : Nat} (hi : i < ss.length) : goodB (schAt ss i) = true := by
  simp only [schemasB, Bool.and_eq_true, List.all_eq_true, List.mem_range] at h
  have := h.2 i hi
  simp only [schOk, Bool.and_eq_true] at this
  exact this.2
theorem goodB_fine {l : List Cls} (h : goodB l = true) : l.length ≤ 10 ∧ fine (graphOf l) = true := by
  simp only [goodB, Bool.and_eq_true, decide_eq_true_eq] at h; exact ⟨h.1, h.2.1⟩
abbrev wlA (lz : Bool) (ss : List (List Cls)) (ts : List Thing) : AV := .st [V.bool lz, schsA ss, thingsA ts]
set_option maxHeartbeats 2000000 in
theorem s_ref17_Formed (lz : Bool) (ss : List (List Cls)) (ts : List Thing) (hs : ∀ s ∈ ss, Short s) : V.Spec Tryz.prog Fc.ref17_Formed [wlA lz ss ts] [] (V.bool (formedB lz ss ts)) [] := by
  have hsc := s_ref17_Schemas ss hs
  rw [formedB]
  refine V.Spec.enter Tryz.tabOK Tryz.mixed Fn.ref17_Formed rfl rfl rfl fun B hB => ?_
  repeat' (with_reducible first | refine OL.st ?_ | refine OL.box ?_ | refine TC.region ?_ | refine TC.seq ?_ | refine OL.nil ?_ | refine TX.thenN ?_ | fail)
  refine OL.c hsc Fn.ref17_Schemas ?_
  cases hsb : schemasB ss
  · repeat' (with_reducible first | refine OL.st ?_ | refine TC.region ?_ | refine TC.seq ?_ | refine OL.nil ?_ | refine TX.thenN ?_ | refine TC.ifT ?_ | refine OL.gOff ?_ | refine TC.ret ?_ | refine TX.thenR ?_ | fail)
    exact TX.rt1 [] (.ren rfl)
  · rw [Bool.true_and]
    by_cases h40 : ts.length ≤ 40
    · rw [decide_eq_true h40, Bool.true_and]
      obtain ⟨n1, n12⟩ := schemasB_len hsb
      obtain ⟨P, hP⟩ : ∃ P, P = thingOk lz ss ts.length := ⟨_, rfl⟩
      rw [← hP]
      obtain ⟨res, hres⟩ : ∃ res, res = ts.all P := ⟨_, rfl⟩
      rw [← hres]
      repeat' (with_reducible first | refine OL.st ?_ | refine TC.region ?_ | refine TC.seq ?_ | refine OL.nil ?_ | refine TX.thenN ?_ | refine TC.block ?_ | refine TC.skip ?_ | refine OL.gOn ?_ | refine TC.ifD ?_ ?_ <;> (intro hc; try (exfalso; omega)) | fail)
      refine TC.lp (fun k : Nat => [(1, .bp 0 0), (17, thingsA ts), (18, V.int ts.length), (19, V.int k)]) (fun _ => [.cb Tc.api_TurnWorld [V.bool lz, schsA ss, thingsA ts]]) (fun k => k ≤ ts.length ∧ res = (ts.drop k).all P) (fun k => ts.length - k) 0 [0] ⟨Nat.zero_le _, hres⟩ ?_
      rintro k ⟨hk, hinv⟩
      by_cases hkl : k < ts.length
      · rw [drop_cons hkl, List.all_cons] at hinv
        by_cases h1 : 0 ≤ ts[k].2.1 ∧ ts[k].2.1 < (ss.length : Int)
        · by_cases h2 : lz = true ∨ ts[k].2.1 = (ss.length : Int) - 1
          · have hsi : schAt ss ts[k].2.1.toNat = ss[ts[k].2.1.toNat]'(by omega) := getD_lt (by omega)
            have hgd := schemasB_good hsb (i := ts[k].2.1.toNat) (by omega)
            obtain ⟨g10, gf⟩ := goodB_fine hgd
            have hto : P ts[k] = (ownB (schAt ss ts[k].2.1.toNat).length ts[k].1 && (decide (ts[k].2.2.length = (slotsOf (schAt ss ts[k].2.1.toNat) ts[k].1.toNat).length) && ts[k].2.2.all (valB · ts.length))) := by
              rw [hP, thingOk, decide_eq_true h1.1, decide_eq_true h1.2]
              have : (lz || decide (ts[k].2.1 = (ss.length : Int) - 1)) = true := by rcases h2 with h | h <;> simp [h]
              rw [this]; rfl
            have hown := s_ref17_Own (schAt ss ts[k].2.1.toNat) ts[k].1 (by omega)
            rw [← ownB] at hown
            rw [hsi] at hto hown g10 gf
            generalize hse : ss[ts[k].2.1.toNat]'(by omega) = s at *
            rw [hto] at hinv
            have hva := s_ref04_Vals ts[k].2.2 ts.length
            cases ho : ownB s.length ts[k].1
            · rw [ho] at hinv hown
              simp only [Bool.false_and] at hinv
              have tail : ∀ {C : V.Cx} {Q : V.Qt} {A : Code} {ρ : V.Ro} {η : V.Eta}, True := trivial
              cases hlz : lz
              all_goals (try (rw [hlz] at h2; simp only [Bool.false_eq_true, false_or] at h2))
              all_goals repeat' (with_reducible first | refine OL.st ?_ | refine OL.alloc ?_ | refine OL.storeAgg ?_ | refine TC.region ?_ | refine TC.seq ?_ | refine OL.nil ?_ | refine TX.thenN ?_ | refine TC.block ?_ | refine TC.skip ?_ | refine TC.ifF ?_ | refine OL.gOn ?_ | refine OL.gOff ?_ | refine TC.ifD ?_ ?_ <;> (intro hc; try (exfalso; omega)) | refine OL.gD ?_ ?_ <;> (intro hc; try (exfalso; omega)) | fail)
              all_goals rw [hse]
              all_goals (with_reducible refine TC.draw (id := 9) true 25 25 ?_ <;> refine OD.st 0 ?_ <;> refine OD.st 1 ?_ <;> refine OD.st 2 ?_ <;> refine OD.c1 3 hown Fn.ref17_Own ?_ <;> refine OD.st 4 ?_ <;> refine OD.st 5 ?_ <;> refine OD.of 6 ?_ <;> refine OD.of 7 ?_ <;> refine OD.of 8 ?_ <;> refine OD.of 9 ?_ <;> refine OD.of 10 ?_ <;> refine OD.of 11 ?_ <;> refine OD.of 12 ?_ <;> refine OD.of 13 ?_ <;> refine OD.of 14 ?_ <;> refine OD.st 15 ?_ <;> refine OD.st 16 ?_ <;> refine OD.of 17 ?_ <;> refine OD.of 18 ?_ <;> refine OD.of 19 ?_ <;> refine OD.of 20 ?_ <;> refine OD.of 21 ?_ <;> refine OD.of 22 ?_ <;> refine OD.of 23 ?_ <;> refine OD.st 24 ?_ <;> refine OD.dn ?_)
              all_goals repeat' (with_reducible first | refine OL.st ?_ | refine TC.region ?_ | refine TC.seq ?_ | refine OL.nil ?_ | refine TX.thenN ?_ | refine TC.ifT ?_ | refine TC.ret ?_ | refine TX.thenR ?_ | refine TX.blkR ?_ | fail)
              all_goals exact TX.rt1 [] (.bool hinv.symm)
            · obtain ⟨c, hc⟩ : ∃ c : Nat, ts[k].1 = (c : Int) := ⟨ts[k].1.toNat, by simp only [ownB, Bool.and_eq_true, decide_eq_true_eq] at ho; omega⟩
              have hcl : c < 3 + s.length := by simp only [ownB, Bool.and_eq_true, decide_eq_true_eq] at ho; omega
              have hso := s_ref17_SlotsOf gf hcl
              rw [← hc] at hso
              rw [ho] at hinv hown
              rw [Bool.true_and, hc, Int.toNat_natCast] at hinv
              by_cases h3 : ts[k].2.2.length = (slotsOf s c).length
              · rw [decide_eq_true h3, Bool.true_and] at hinv
                cases hvb : ts[k].2.2.all (valB · ts.length)
                · rw [hvb] at hinv hva
                  rw [Bool.false_and] at hinv
                  cases hlz : lz
                  all_goals (try (rw [hlz] at h2; simp only [Bool.false_eq_true, false_or] at h2))
                  all_goals repeat' (with_reducible first | refine OL.st ?_ | refine OL.alloc ?_ | refine OL.storeAgg ?_ | refine TC.region ?_ | refine TC.seq ?_ | refine OL.nil ?_ | refine TX.thenN ?_ | refine TC.block ?_ | refine TC.skip ?_ | refine TC.ifF ?_ | refine OL.gOn ?_ | refine OL.gOff ?_ | refine TC.ifD ?_ ?_ <;> (intro hc; try (exfalso; omega)) | refine OL.gD ?_ ?_ <;> (intro hc; try (exfalso; omega)) | fail)
                  all_goals rw [hse]
                  all_goals (with_reducible refine TC.draw (id := 9) true 25 25 ?_ <;> refine OD.st 0 ?_ <;> refine OD.st 1 ?_ <;> refine OD.st 2 ?_ <;> refine OD.c1 3 hown Fn.ref17_Own ?_ <;> refine OD.st 4 ?_ <;> refine OD.st 5 ?_ <;> refine OD.st 6 ?_ <;> refine OD.st 7 ?_ <;> refine OD.st 8 ?_ <;> refine OD.st 9 ?_ <;> refine OD.st 10 ?_ <;> refine OD.st 11 ?_ <;> refine OD.c1 12 hso Fn.ref17_SlotsOf ?_ <;> refine OD.st 13 ?_ <;> refine OD.st 14 ?_ <;> refine OD.st 15 ?_ <;> refine OD.st 16 ?_ <;> refine OD.sD 70 ?_ ?_ <;> (intro hc; try (exfalso; omega)) <;> (first | (with_reducible refine OD.st 17 ?_) | (with_reducible refine OD.of 17 ?_)) <;> refine OD.st 18 ?_ <;> refine OD.st 19 ?_ <;> refine OD.st 20 ?_ <;> refine OD.st 21 ?_ <;> refine OD.c1 22 hva Fn.ref04_Vals ?_ <;> refine OD.st 23 ?_ <;> refine OD.st 24 ?_ <;> refine OD.dn ?_)
                  all_goals repeat' (with_reducible first | refine OL.st ?_ | refine TC.region ?_ | refine TC.seq ?_ | refine OL.nil ?_ | refine TX.thenN ?_ | refine TC.ifT ?_ | refine TC.ret ?_ | refine TX.thenR ?_ | refine TX.blkR ?_ | fail)
                  all_goals exact TX.rt1 [] (.bool hinv.symm)
                · rw [hvb] at hinv hva
                  rw [Bool.true_and] at hinv
                  cases hlz : lz
                  all_goals (try (rw [hlz] at h2; simp only [Bool.false_eq_true, false_or] at h2))
                  all_goals repeat' (with_reducible first | refine OL.st ?_ | refine OL.alloc ?_ | refine OL.storeAgg ?_ | refine TC.region ?_ | refine TC.seq ?_ | refine OL.nil ?_ | refine TX.thenN ?_ | refine TC.block ?_ | refine TC.skip ?_ | refine TC.ifF ?_ | refine OL.gOn ?_ | refine OL.gOff ?_ | refine TC.ifD ?_ ?_ <;> (intro hc; try (exfalso; omega)) | refine OL.gD ?_ ?_ <;> (intro hc; try (exfalso; omega)) | fail)
                  all_goals rw [hse]
                  all_goals (with_reducible refine TC.draw (id := 9) true 25 25 ?_ <;> refine OD.st 0 ?_ <;> refine OD.st 1 ?_ <;> refine OD.st 2 ?_ <;> refine OD.c1 3 hown Fn.ref17_Own ?_ <;> refine OD.st 4 ?_ <;> refine OD.st 5 ?_ <;> refine OD.st 6 ?_ <;> refine OD.st 7 ?_ <;> refine OD.st 8 ?_ <;> refine OD.st 9 ?_ <;> refine OD.st 10 ?_ <;> refine OD.st 11 ?_ <;> refine OD.c1 12 hso Fn.ref17_SlotsOf ?_ <;> refine OD.st 13 ?_ <;> refine OD.st 14 ?_ <;> refine OD.st 15 ?_ <;> refine OD.st 16 ?_ <;> refine OD.sD 70 ?_ ?_ <;> (intro hc; try (exfalso; omega)) <;> (first | (with_reducible refine OD.st 17 ?_) | (with_reducible refine OD.of 17 ?_)) <;> refine OD.st 18 ?_ <;> refine OD.st 19 ?_ <;> refine OD.st 20 ?_ <;> refine OD.st 21 ?_ <;> refine OD.c1 22 hva Fn.ref04_Vals ?_ <;> refine OD.st 23 ?_ <;> refine OD.st 24 ?_ <;> refine OD.dn ?_)
                  all_goals repeat' (with_reducible first | refine OL.st ?_ | refine TC.region ?_ | refine OL.nil ?_ | refine TX.thenN ?_ | refine TC.skip ?_ | refine TX.blkN ?_ | refine TC.ifF ?_ | fail)
                  all_goals exact TX.rd (k + 1) [0] ⟨by omega, hinv⟩ (by omega)
              · rw [decide_eq_false h3, Bool.false_and, Bool.false_and] at hinv
                cases hlz : lz
                all_goals (try (rw [hlz] at h2; simp only [Bool.false_eq_true, false_or] at h2))
                all_goals repeat' (with_reducible first | refine OL.st ?_ | refine OL.alloc ?_ | refine OL.storeAgg ?_ | refine TC.region ?_ | refine TC.seq ?_ | refine OL.nil ?_ | refine TX.thenN ?_ | refine TC.block ?_ | refine TC.skip ?_ | refine TC.ifF ?_ | refine OL.gOn ?_ | refine OL.gOff ?_ | refine TC.ifD ?_ ?_ <;> (intro hc; try (exfalso; omega)) | refine OL.gD ?_ ?_ <;> (intro hc; try (exfalso; omega)) | fail)
                all_goals rw [hse]
                all_goals (with_reducible refine TC.draw (id := 9) true 25 25 ?_ <;> refine OD.st 0 ?_ <;> refine OD.st 1 ?_ <;> refine OD.st 2 ?_ <;> refine OD.c1 3 hown Fn.ref17_Own ?_ <;> refine OD.st 4 ?_ <;> refine OD.st 5 ?_ <;> refine OD.st 6 ?_ <;> refine OD.st 7 ?_ <;> refine OD.st 8 ?_ <;> refine OD.st 9 ?_ <;> refine OD.st 10 ?_ <;> refine OD.st 11 ?_ <;> refine OD.c1 12 hso Fn.ref17_SlotsOf ?_ <;> refine OD.st 13 ?_ <;> refine OD.st 14 ?_ <;> refine OD.st 15 ?_ <;> refine OD.st 16 ?_ <;> refine OD.sD 70 ?_ ?_ <;> (intro hc; try (exfalso; omega)) <;> (first | (with_reducible refine OD.st 17 ?_) | (with_reducible refine OD.of 17 ?_)) <;> refine OD.of 18 ?_ <;> refine OD.of 19 ?_ <;> refine OD.of 20 ?_ <;> refine OD.of 21 ?_ <;> refine OD.of 22 ?_ <;> refine OD.of 23 ?_ <;> refine OD.st 24 ?_ <;> refine OD.dn ?_)
                all_goals repeat' (with_reducible first | refine OL.st ?_ | refine TC.region ?_ | refine TC.seq ?_ | refine OL.nil ?_ | refine TX.thenN ?_ | refine TC.ifT ?_ | refine TC.ret ?_ | refine TX.thenR ?_ | refine TX.blkR ?_ | fail)
                all_goals exact TX.rt1 [] (.bool hinv.symm)
          · have hlz : lz = false := by cases hq : lz with
              | false => rfl
              | true => exact absurd (.inl hq) h2
            have hne : ¬ ts[k].2.1 = (ss.length : Int) - 1 := fun h => h2 (.inr h)
            have hto : P ts[k] = false := by rw [hP, thingOk, hlz, decide_eq_false hne]; simp
            rw [hto, Bool.false_and] at hinv
            rw [hlz]
            rw [hinv]
            repeat' (with_reducible first | refine OL.st ?_ | refine OL.alloc ?_ | refine OL.storeAgg ?_ | refine TC.region ?_ | refine TC.seq ?_ | refine OL.nil ?_ | refine TX.thenN ?_ | refine TC.block ?_ | refine TC.skip ?_ | refine OL.gOn ?_ | refine TC.ifD ?_ ?_ <;> (intro hc; try (exfalso; omega)) | refine OL.gD ?_ ?_ <;> (intro hc; try (exfalso; omega)) | refine TC.ret ?_ | refine TX.thenR ?_ | refine TX.blkR ?_ | fail)
            exact TX.rt1 [] (.ren rfl)
        · have hto : P ts[k] = false := by
            have hz : (decide (0 ≤ ts[k].2.1) && decide (ts[k].2.1 < (ss.length : Int))) = false := by
              rw [Bool.eq_false_iff]; simp only [ne_eq, Bool.and_eq_true, decide_eq_true_eq]; exact h1
            rw [hP, thingOk, hz]; rfl
          rw [hto, Bool.false_and] at hinv
          rw [hinv]
          repeat' (with_reducible first | refine OL.st ?_ | refine OL.alloc ?_ | refine OL.storeAgg ?_ | refine TC.region ?_ | refine TC.seq ?_ | refine OL.nil ?_ | refine TX.thenN ?_ | refine TC.block ?_ | refine TC.skip ?_ | refine TC.ifT ?_ | refine OL.gOn ?_ | refine OL.gOff ?_ | refine OL.gUn ?_ | refine TC.ifD ?_ ?_ <;> (intro hc; try (exfalso; omega)) | refine OL.gD ?_ ?_ <;> (intro hc; try (exfalso; omega)) | refine TC.ret ?_ | refine TX.thenR ?_ | refine TX.blkR ?_ | fail)
          all_goals exact TX.rt1 [] (.ren rfl)
      · rw [drop_nil (by omega)] at hinv
        rw [hinv]
        repeat' (with_reducible first | refine OL.st ?_ | refine TC.region ?_ | refine TC.seq ?_ | refine OL.nil ?_ | refine TX.thenN ?_ | refine TC.exit ?_ | refine TX.hit ?_ | refine TX.thenX ?_ | refine TC.ifD ?_ ?_ <;> (intro hc; try (exfalso; omega)) | refine TC.ret ?_ | fail)
        exact TX.rt1 [] (.ren rfl)
    · rw [decide_eq_false h40, Bool.false_and]
      repeat' (with_reducible first | refine OL.st ?_ | refine TC.region ?_ | refine TC.seq ?_ | refine OL.nil ?_ | refine TX.thenN ?_ | refine OL.gOn ?_ | refine TC.ifD ?_ ?_ <;> (intro hc; try (exfalso; omega)) | refine TC.ret ?_ | refine TX.thenR ?_ | fail)
      exact TX.rt1 [] (.ren rfl)
end Go.Proofs
namespace Go.Proofs
open Go Go.W Go.V
theorem placeN_spec (n : Int) : ∀ (l : List Int) (k : Int), placeN l n k = -1 ∨ (k ≤ placeN l n k ∧ placeN l n k < k + l.length) ∨ k < 0
  | [], _ => .inl rfl
  | x :: r, k => by
    rw [placeN]
    split
    · exact .inr (.inl ⟨by omega, by simp; omega⟩)
    · rcases placeN_spec n r (k + 1) with h | h | h
      · exact .inl h
      · refine .inr (.inl ⟨by omega, ?_⟩)
        simp; omega
      · by_cases h0 : k < 0
        · exact .inr (.inr h0)
        · omega
theorem placeN_lt (l : List Int) (n : Int) : placeN l n 0 = -1 ∨ (0 ≤ placeN l n 0 ∧ placeN l n 0 < l.length) := by
  rcases placeN_spec n l 0 with h | h | h
  · exact .inl h
  · exact .inr (by omega)
  · omega
def keptV (l : List Cls) (c : Nat) (slots : List Int) (vals : List (Int × Int)) (s : Int) : Int × Int := if 0 ≤ placeN slots s 0 then vals.getD (placeN slots s 0).toNat (0, 0) else beginV l c s
def turnedV (l : List Cls) (c : Nat) (slots : List Int) (vals : List (Int × Int)) : List (Int × Int) := (slotsOf l c).map (keptV l c slots vals)
theorem turnedV_length (l : List Cls) (c : Nat) (slots : List Int) (vals : List (Int × Int)) : (turnedV l c slots vals).length = (slotsOf l c).length := by rw [turnedV, List.length_map]
theorem s_ref17_turned {l : List Cls} (hf : fine (graphOf l) = true) {c : Nat} (hc : c < 3 + l.length) {slots : List Int} {vals : List (Int × Int)} (hsv : slots.length ≤ vals.length) : V.Spec Tryz.prog Fc.ref17_turned [clssA l, V.int c, ints slots, valsA vals] [] (valsA (turnedV l c slots vals)) [] := by
  have h16 := fine_len hf
  rw [show (graphOf l).length = l.length by simp [graphOf]] at h16
  have hso := s_ref17_SlotsOf hf hc
  have hbe := s_ref17_Begin hf hc
  have hsl : (slotsOf l c).length ≤ 40 * 16 := Nat.le_trans (slotsTo_len l c 40) (Nat.mul_le_mul_left _ h16)
  have hpl := fun s => s_ref17_place slots s
  rw [turnedV]
  generalize slotsOf l c = ss at *
  refine V.Spec.enter Tryz.tabOK Tryz.mixed Fn.ref17_turned rfl rfl rfl fun B hB => ?_
  repeat' (with_reducible first | refine OL.st ?_ | refine TC.region ?_ | refine TC.seq ?_ | refine OL.nil ?_ | refine TX.thenN ?_ | fail)
  refine OL.c hso Fn.ref17_SlotsOf ?_
  repeat' (with_reducible first | refine OL.st ?_ | refine OL.nil ?_ | refine TX.thenN ?_ | refine TC.block ?_ | fail)
  refine TC.adp 9 Tc.api_MeanVal 2 ?_
  refine TC.lp (fun k : Nat => [(0, clssA l), (1, V.int c), (2, ints slots), (3, valsA vals), (9, .hs 0), (15, ints ss), (16, V.int ss.length), (17, V.int k)]) (fun k => [.gs false Tc.api_MeanVal 2 none (((ss.take k).map (keptV l c slots vals)).map valA)]) (fun k => k ≤ ss.length) (fun k => ss.length - k) 0 [0] (Nat.zero_le _) ?_
  rintro k hk
  have hql : ((ss.take k).map (keptV l c slots vals)).length ≤ 1000 := by simp; omega
  by_cases hkl : k < ss.length
  · have hp := hpl ss[k]
    have hpn := placeN_lt slots ss[k]
    have hsn : (ss.take (k + 1)).map (keptV l c slots vals) = (ss.take k).map (keptV l c slots vals) ++ [keptV l c slots vals ss[k]] := by rw [take_succ hkl, List.map_append]; rfl
    have hkv : keptV l c slots vals ss[k] = if 0 ≤ placeN slots ss[k] 0 then vals.getD (placeN slots ss[k] 0).toNat (0, 0) else beginV l c ss[k] := rfl
    have hb := hbe ss[k]
    generalize (ss.take k).map (keptV l c slots vals) = q at *
    generalize placeN slots ss[k] 0 = at_ at *
    by_cases h0 : 0 ≤ at_
    · rw [if_pos h0, getD_lt (by omega)] at hkv
      have e : q.map valA ++ [valA (vals[at_.toNat]'(by omega))] = ((ss.take (k + 1)).map (keptV l c slots vals)).map valA := by rw [hsn, hkv]; exact map_snoc _ _ _
      repeat' (with_reducible first | refine OL.st ?_ | refine TC.region ?_ | refine TC.seq ?_ | refine OL.nil ?_ | refine TX.thenN ?_ | refine TC.block ?_ | refine TC.skip ?_ | refine TC.ifD ?_ ?_ <;> (intro hc; try (exfalso; omega)) | fail)
      refine OL.c hp Fn.ref17_place ?_
      repeat' (with_reducible first | refine OL.st ?_ | refine OL.lit ?_ | refine OL.appO ?_ | refine TC.region ?_ | refine TC.seq ?_ | refine OL.nil ?_ | refine TX.thenN ?_ | refine TX.blkN ?_ | refine TC.ifD ?_ ?_ <;> (intro hc; try (exfalso; omega)) | fail)
      exact TX.rd (k + 1) [2] (by omega) (by omega)
    · rw [if_neg h0] at hkv
      have e : q.map valA ++ [valA (beginV l c ss[k])] = ((ss.take (k + 1)).map (keptV l c slots vals)).map valA := by rw [hsn, hkv]; exact map_snoc _ _ _
      repeat' (with_reducible first | refine OL.st ?_ | refine TC.region ?_ | refine TC.seq ?_ | refine OL.nil ?_ | refine TX.thenN ?_ | refine TC.block ?_ | refine TC.skip ?_ | refine TC.ifD ?_ ?_ <;> (intro hc; try (exfalso; omega)) | fail)
      refine OL.c hp Fn.ref17_place ?_
      repeat' (with_reducible first | refine OL.st ?_ | refine TC.region ?_ | refine TC.seq ?_ | refine OL.nil ?_ | refine TX.thenN ?_ | refine TC.ifD ?_ ?_ <;> (intro hc; try (exfalso; omega)) | fail)
      refine OL.c hb Fn.ref17_Begin ?_
      repeat' (with_reducible first | refine OL.st ?_ | refine OL.lit ?_ | refine OL.appO ?_ | refine TC.region ?_ | refine OL.nil ?_ | refine TX.thenN ?_ | refine TX.blkN ?_ | fail)
      exact TX.rd (k + 1) [2] (by omega) (by omega)
  · rw [take_all (by omega)]
    repeat' (with_reducible first | refine OL.st ?_ | refine TC.region ?_ | refine TC.seq ?_ | refine OL.nil ?_ | refine TX.thenN ?_ | refine TC.exit ?_ | refine TX.hit ?_ | refine TX.thenX ?_ | refine TC.ifD ?_ ?_ <;> (intro hc; try (exfalso; omega)) | refine TC.ret ?_ | fail)
    refine TX.vw 8 ?_
    exact TX.rt1 [] (.ren rfl)
end Go.Proofs
