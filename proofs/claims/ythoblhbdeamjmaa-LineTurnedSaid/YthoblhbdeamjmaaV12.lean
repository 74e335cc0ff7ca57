/- Part 12 of what the claim is proved by: lemmas on the model and walks through functions of the program; no conditions. -/
import Derived.Test.YthoblhbdeamjmaaV11
import Derived.Test.YthoblhbdeamjmaaV8
import Derived.Test.YthoblhbdeamjmaaV9
import Derived.Test.YthoblhbdeamjmaaV10
/- The reference's Good, Check, ListsOf, LinOf, Lin. -/
namespace Go.Proofs
open Go Go.W Go.V
set_option maxHeartbeats 2000000 in
theorem s_ref03_Good (g : List (List Int)) : V.Spec Try.prog Fc.ref03_Good [rows g] [] (V.bool (fine g)) [] := by
  refine V.Spec.enter Try.tabOK Try.mixed Fn.ref03_Good rfl rfl rfl fun B hB => ?_
  refine TC.bl 0 fun hlen => ?_
  repeat' (first
   | (with_reducible refine OL.st ?_)
   | (with_reducible refine TC.region ?_)
   | (with_reducible refine TC.seq ?_)
   | (with_reducible refine OL.nil ?_)
   | (with_reducible refine TX.thenN ?_)
   | (with_reducible refine TC.block ?_)
   | (with_reducible refine TC.skip ?_)
   | (with_reducible refine TC.ifD ?_ ?_ <;> (intro hc; try (exfalso; omega)))
   | (with_reducible refine TC.ret ?_)
   | (with_reducible refine TX.thenR ?_)
   | fail)
  · refine TX.rt1 [] (.bool ?_)
    have : decide (g.length ≤ 16) = false := by simp; omega
    simp [fine, this]
  have hfine : fine g = okRows 0 g := by
    have : decide (g.length ≤ 16) = true := by simp; omega
    simp [fine, this]
  have h16 : g.length ≤ 16 := by omega
  refine TC.lp (fun i : Nat => [(0, rows g), (3, V.int i)]) (fun _ => []) (fun i => i ≤ g.length ∧ okRows 0 g = okRows i (g.drop i)) (fun i => g.length - i) 0 [] ⟨Nat.zero_le _, rfl⟩ ?_
  rintro i ⟨hi, hinv⟩
  by_cases hlt : i < g.length
  · have hst : ∀ b, okRow i [] g[i] = b → g[i].length ≤ 3 → okRows i (g.drop i) = (b && okRows (i + 1) (g.drop (i + 1))) := by
      intro b hb h3
      rw [drop_cons hlt]
      have : decide (g[i].length ≤ 3) = true := by simp; omega
      simp [okRows, this, hb]
    repeat' (first
     | (with_reducible refine OL.st ?_)
     | (with_reducible refine TC.region ?_)
     | (with_reducible refine TC.seq ?_)
     | (with_reducible refine OL.nil ?_)
     | (with_reducible refine TX.thenN ?_)
     | (with_reducible refine TC.block ?_)
     | (with_reducible refine TC.skip ?_)
     | (with_reducible refine TC.ifD ?_ ?_ <;> (intro hc; try (exfalso; omega)))
     | (with_reducible refine TC.ret ?_)
     | (with_reducible refine TX.thenR ?_)
     | (with_reducible refine TX.blkR ?_)
     | fail)
    · refine TX.rt1 [] (.bool ?_)
      rw [hfine, hinv, drop_cons hlt]
      have : decide (g[i].length ≤ 3) = false := by simp; omega
      simp [okRows, this]
    · have hr3 : g[i].length ≤ 3 := by omega
      refine TC.lp (fun k : Nat => [(0, rows g), (3, V.int i), (4, V.int k)]) (fun _ => []) (fun k => k ≤ g[i].length ∧ okRow i [] g[i] = okRow i (g[i].take k) (g[i].drop k)) (fun k => g[i].length - k) 0 [] ⟨Nat.zero_le _, rfl⟩ ?_
      rintro k ⟨hk, hki⟩
      have hfail : okRow i (g[i].take k) (g[i].drop k) = false → fine g = false := fun hb => by rw [hfine, hinv, hst _ (hki.trans hb) hr3]; rfl
      repeat' (first
       | (with_reducible refine OL.st ?_)
       | (with_reducible refine TC.region ?_)
       | (with_reducible refine TC.seq ?_)
       | (with_reducible refine OL.nil ?_)
       | (with_reducible refine TX.thenN ?_)
       | (with_reducible refine TC.block ?_)
       | (with_reducible refine TC.skip ?_)
       | (with_reducible refine TX.blkN ?_)
       | (with_reducible refine TC.exit ?_)
       | (with_reducible refine TX.hit ?_)
       | (with_reducible refine TX.thenX ?_)
       | (with_reducible refine TC.ifD ?_ ?_ <;> (intro hc; try (exfalso; omega)))
       | fail)
      · have hkl : k < g[i].length := by omega
        (with_reducible refine TC.draw (id := 11) true 36 36 ?_) <;> (with_reducible refine OD.st 0 ?_) <;> (with_reducible refine OD.st 1 ?_) <;> (with_reducible refine OD.st 2 ?_) <;> (with_reducible refine OD.st 3 ?_) <;> (with_reducible refine OD.st 4 ?_) <;> (with_reducible refine OD.st 5 ?_) <;> (with_reducible refine OD.st 6 ?_) <;> (with_reducible refine OD.st 7 ?_) <;> (with_reducible refine OD.st 8 ?_) <;> (with_reducible refine OD.sD 37 ?_ ?_ <;> (intro hc; try (exfalso; omega)) <;> (first | (with_reducible refine OD.st 9 ?_) | (with_reducible refine OD.of 9 ?_))) <;> (first | (with_reducible refine OD.st 10 ?_) | (with_reducible refine OD.of 10 ?_)) <;> (first | (with_reducible refine OD.st 11 ?_) | (with_reducible refine OD.of 11 ?_)) <;> (first | (with_reducible refine OD.st 12 ?_) | (with_reducible refine OD.of 12 ?_)) <;> (first | (with_reducible refine OD.st 13 ?_) | (with_reducible refine OD.of 13 ?_)) <;> (first | (with_reducible refine OD.st 14 ?_) | (with_reducible refine OD.of 14 ?_)) <;> (first | (with_reducible refine OD.st 15 ?_) | (with_reducible refine OD.of 15 ?_)) <;> (first | (with_reducible refine OD.st 16 ?_) | (with_reducible refine OD.of 16 ?_)) <;> (first | (with_reducible refine OD.st 17 ?_) | (with_reducible refine OD.of 17 ?_)) <;> (first | (with_reducible refine OD.st 18 ?_) | (with_reducible refine OD.of 18 ?_)) <;> (with_reducible refine OD.st 19 ?_) <;> (with_reducible refine OD.st 20 ?_) <;> (first | (with_reducible refine OD.of 21 ?_) | (with_reducible refine OD.sD 49 ?_ ?_ <;> (intro hc; try (exfalso; omega)) <;> (first | (with_reducible refine OD.st 21 ?_) | (with_reducible refine OD.of 21 ?_)))) <;> (first | (with_reducible refine OD.st 22 ?_) | (with_reducible refine OD.of 22 ?_)) <;> (first | (with_reducible refine OD.st 23 ?_) | (with_reducible refine OD.of 23 ?_)) <;> (first | (with_reducible refine OD.st 24 ?_) | (with_reducible refine OD.of 24 ?_)) <;> (first | (with_reducible refine OD.st 25 ?_) | (with_reducible refine OD.of 25 ?_)) <;> (first | (with_reducible refine OD.st 26 ?_) | (with_reducible refine OD.of 26 ?_)) <;> (first | (with_reducible refine OD.st 27 ?_) | (with_reducible refine OD.of 27 ?_)) <;> (first | (with_reducible refine OD.st 28 ?_) | (with_reducible refine OD.of 28 ?_)) <;> (first | (with_reducible refine OD.st 29 ?_) | (with_reducible refine OD.of 29 ?_)) <;> (first | (with_reducible refine OD.st 30 ?_) | (with_reducible refine OD.of 30 ?_)) <;> (first | (with_reducible refine OD.st 31 ?_) | (with_reducible refine OD.of 31 ?_)) <;> (first | (with_reducible refine OD.st 32 ?_) | (with_reducible refine OD.of 32 ?_)) <;> (first | (with_reducible refine OD.st 33 ?_) | (with_reducible refine OD.of 33 ?_)) <;> (first | (with_reducible refine OD.c1 34 (s_ref03_Has (g[i].take k) g[i][k]) Fn.ref03_Has ?_) | (with_reducible refine OD.of 34 ?_)) <;> (with_reducible refine OD.st 35 ?_) <;> (with_reducible refine OD.dn ?_)
        · repeat' (first
           | (with_reducible refine OL.st ?_)
           | (with_reducible refine TC.region ?_)
           | (with_reducible refine TC.seq ?_)
           | (with_reducible refine OL.nil ?_)
           | (with_reducible refine TX.thenN ?_)
           | (with_reducible refine TC.ifT ?_)
           | (with_reducible refine TC.ret ?_)
           | (with_reducible refine TX.thenR ?_)
           | (with_reducible refine TX.blkR ?_)
           | fail)
          refine TX.rt1 [] (.bool ?_)
          rw [hfail]
          rw [drop_cons hkl]; simp only [okRow]
          rw [decide_eq_false (by omega : ¬ 3 ≤ g[i][k])]; rfl
        · repeat' (first
           | (with_reducible refine OL.st ?_)
           | (with_reducible refine TC.region ?_)
           | (with_reducible refine TC.seq ?_)
           | (with_reducible refine OL.nil ?_)
           | (with_reducible refine TX.thenN ?_)
           | (with_reducible refine TC.ifT ?_)
           | (with_reducible refine TC.ret ?_)
           | (with_reducible refine TX.thenR ?_)
           | (with_reducible refine TX.blkR ?_)
           | fail)
          refine TX.rt1 [] (.bool ?_)
          rw [hfail]
          rw [drop_cons hkl]; simp only [okRow]
          rw [decide_eq_false (by omega : ¬ g[i][k] < 3 + (i : Int))]; simp
        · repeat' (first | (with_reducible refine TX.thenN ?_) | fail)
          refine TC.ifB (fun hct => ?_) (fun hct => ?_)
          · repeat' (first
             | (with_reducible refine OL.st ?_)
             | (with_reducible refine TC.region ?_)
             | (with_reducible refine TC.seq ?_)
             | (with_reducible refine OL.nil ?_)
             | (with_reducible refine TX.thenN ?_)
             | (with_reducible refine TC.ret ?_)
             | (with_reducible refine TX.thenR ?_)
             | (with_reducible refine TX.blkR ?_)
             | fail)
            refine TX.rt1 [] (.bool ?_)
            rw [hfail]
            rw [drop_cons hkl]; simp only [okRow]
            rw [hct]; simp
          · have hs1 : okRow i (g[i].take k) (g[i].drop k) = okRow i (g[i].take (k + 1)) (g[i].drop (k + 1)) := by
              rw [drop_cons hkl, take_succ hkl]; simp only [okRow]
              rw [decide_eq_true (by omega : 3 ≤ g[i][k]), decide_eq_true (by omega : g[i][k] < 3 + (i : Int)), hct]; simp
            repeat' (first
             | (with_reducible refine OL.st ?_)
             | (with_reducible refine TC.region ?_)
             | (with_reducible refine OL.nil ?_)
             | (with_reducible refine TX.thenN ?_)
             | (with_reducible refine TC.skip ?_)
             | (with_reducible refine TX.blkN ?_)
             | fail)
            exact TX.rd (k + 1) [] ⟨by omega, hki.trans hs1⟩ (by omega)
      · refine TX.rd (i + 1) [] ⟨by omega, ?_⟩ (by omega)
        rw [hinv, hst _ hki hr3, drop_nil (l := g[i]) (by omega)]
        rfl
  · repeat' (first
     | (with_reducible refine OL.st ?_)
     | (with_reducible refine TC.region ?_)
     | (with_reducible refine TC.seq ?_)
     | (with_reducible refine OL.nil ?_)
     | (with_reducible refine TX.thenN ?_)
     | (with_reducible refine TC.exit ?_)
     | (with_reducible refine TX.hit ?_)
     | (with_reducible refine TX.thenX ?_)
     | (with_reducible refine TC.ifD ?_ ?_ <;> (intro hc; try (exfalso; omega)))
     | (with_reducible refine TC.ret ?_)
     | fail)
    refine TX.rt1 [] (.bool ?_)
    rw [hfine, hinv, drop_nil (by omega)]
    rfl
theorem s_ref03_Check (g : List (List Int)) : V.Spec Try.prog Fc.ref03_Check [rows g] [] (V.int (if fine g then 0 else 2)) [] := by
  refine V.Spec.enter Try.tabOK Try.mixed Fn.ref03_Check rfl rfl rfl fun B hB => ?_
  repeat' (first
   | (with_reducible refine OL.st ?_)
   | (with_reducible refine TC.region ?_)
   | (with_reducible refine TC.seq ?_)
   | (with_reducible refine OL.nil ?_)
   | (with_reducible refine TX.thenN ?_)
   | fail)
  refine OL.c (s_ref03_Good g) Fn.ref03_Good ?_
  repeat' (first
   | (with_reducible refine OL.st ?_)
   | (with_reducible refine OL.nil ?_)
   | (with_reducible refine TX.thenN ?_)
   | fail)
  refine TC.ifB (fun h => ?_) (fun h => ?_)
  all_goals repeat' (first
             | (with_reducible refine OL.st ?_)
             | (with_reducible refine TC.region ?_)
             | (with_reducible refine TC.seq ?_)
             | (with_reducible refine OL.nil ?_)
             | (with_reducible refine TX.thenN ?_)
             | (with_reducible refine TC.skip ?_)
             | (with_reducible refine TC.ret ?_)
             | (with_reducible refine TX.thenR ?_)
             | fail)
  all_goals refine TX.rt1 [] (.int ?_)
  all_goals simp at h
  all_goals simp [h]
theorem s_ref03_ListsOf (g : List (List Int)) (c : Int) (hf : fine g = true) (h0 : 0 ≤ c) (h1 : c < 3 + (g.length : Int)) : V.Spec Try.prog Fc.ref03_ListsOf [rows g, V.int c] [] (lsR (listsOf (orders g) (pOf g c))) (lsE (listsOf (orders g) (pOf g c))) := by
  refine V.Spec.enter Try.tabOK Try.mixed Fn.ref03_ListsOf rfl rfl rfl fun B hB => ?_
  have h16 := fine_len hf
  have hol := (orders_ok hf).2
  have hsm := (orders_ok hf).1.small (by omega)
  obtain ⟨hp1, hp2, hp3⟩ := fine_pOf hf h1
  have hs := s_ref03_lists g (orders g) c h0 h1 (by omega) (fun p hp => by have := hp2 p hp; omega) (fun o ho => by have := hsm o ho; omega) (by omega)
  repeat' (first
   | (with_reducible refine OL.st ?_)
   | (with_reducible refine TC.region ?_)
   | (with_reducible refine TC.seq ?_)
   | (with_reducible refine OL.nil ?_)
   | (with_reducible refine TX.thenN ?_)
   | fail)
  refine OL.c (s_ref03_OrdersOf g hf) Fn.ref03_OrdersOf ?_
  repeat' (first | (with_reducible refine OL.st ?_) | fail)
  refine OL.vwA 1 ?_
  cases hls : listsOf (orders g) (pOf g c) with
  | none =>
    rw [hls] at hs
    simp only [lsR, lsE] at hs ⊢
    refine OL.c hs Fn.ref03_lists ?_
    repeat' (first
     | (with_reducible refine OL.st ?_)
     | (with_reducible refine OL.nil ?_)
     | (with_reducible refine TX.thenN ?_)
     | (with_reducible refine TC.ret ?_)
     | fail)
    exact TX.rt2 [] (.ren rfl) (.ren rfl)
  | some all =>
    rw [hls] at hs
    simp only [lsR, lsE] at hs ⊢
    refine OL.c hs Fn.ref03_lists ?_
    repeat' (first
     | (with_reducible refine OL.st ?_)
     | (with_reducible refine OL.nil ?_)
     | (with_reducible refine TX.thenN ?_)
     | (with_reducible refine TC.ret ?_)
     | fail)
    exact TX.rt2 [1] (.ren rfl) (.ren rfl)
theorem s_ref03_LinOf (g : List (List Int)) (c : Int) (hf : fine g = true) (h0 : 0 ≤ c) (h1 : c < 3 + (g.length : Int)) : V.Spec Try.prog Fc.ref03_LinOf [rows g, V.int c] [] (.tp [ints (at_ (orders g) c), V.bool (decide (0 < (at_ (orders g) c).length))]) [] := by
  refine V.Spec.enter Try.tabOK Try.mixed Fn.ref03_LinOf rfl rfl rfl fun B hB => ?_
  have hol := (orders_ok hf).2
  have hlt : c.toNat < (orders g).length := by omega
  rw [at_, getD_lt hlt]
  repeat' (first
   | (with_reducible refine OL.st ?_)
   | (with_reducible refine TC.region ?_)
   | (with_reducible refine TC.seq ?_)
   | (with_reducible refine OL.nil ?_)
   | (with_reducible refine TX.thenN ?_)
   | fail)
  refine OL.c (s_ref03_OrdersOf g hf) Fn.ref03_OrdersOf ?_
  repeat' (first
   | (with_reducible refine OL.st ?_)
   | (with_reducible refine TC.region ?_)
   | (with_reducible refine TC.seq ?_)
   | (with_reducible refine OL.nil ?_)
   | (with_reducible refine TX.thenN ?_)
   | (with_reducible refine TC.ret ?_)
   | fail)
  refine TX.rt2 [] (.ren rfl) (.bool ?_)
  simp
def okc (g : List (List Int)) (c : Int) : Bool := fine g && (decide (0 ≤ c) && decide (c < 3 + (g.length : Int)))
def linL (g : List (List Int)) (c : Int) : List Int := if okc g c then at_ (orders g) c else []
def linE (g : List (List Int)) (c : Int) : Int := if okc g c then (if (at_ (orders g) c).length = 0 then 7 else 0) else 2
theorem s_ref03_Lin (g : List (List Int)) (c : Int) : V.Spec Try.prog Fc.ref03_Lin [rows g, V.int c] [] (.tp [ints (linL g c), V.int (linE g c)]) [] := by
  refine V.Spec.enter Try.tabOK Try.mixed Fn.ref03_Lin rfl rfl rfl fun B hB => ?_
  repeat' (first
   | (with_reducible refine OL.st ?_)
   | (with_reducible refine TC.region ?_)
   | (with_reducible refine TC.seq ?_)
   | (with_reducible refine OL.nil ?_)
   | (with_reducible refine TX.thenN ?_)
   | fail)
  refine OL.c (s_ref03_Good g) Fn.ref03_Good ?_
  cases hf : fine g
  · repeat' (first
     | (with_reducible refine OL.st ?_)
     | (with_reducible refine TC.region ?_)
     | (with_reducible refine TC.seq ?_)
     | (with_reducible refine OL.nil ?_)
     | (with_reducible refine TX.thenN ?_)
     | (with_reducible refine TC.ifT ?_)
     | (with_reducible refine OL.gOff ?_)
     | (with_reducible refine TC.ret ?_)
     | (with_reducible refine TX.thenR ?_)
     | fail)
    refine TX.rt2 [] (.nil' ?_) (.int ?_)
    · simp [linL, okc, hf]
    · simp [linE, okc, hf]
  have h16 := fine_len hf
  repeat' (first | (with_reducible refine OL.st ?_) | (with_reducible refine OL.gOn ?_) | fail)
  refine OL.c (s_ref03_class g c (by omega)) Fn.ref03_class ?_
  cases hcl : isClass g c
  · repeat' (first
     | (with_reducible refine OL.st ?_)
     | (with_reducible refine TC.region ?_)
     | (with_reducible refine TC.seq ?_)
     | (with_reducible refine OL.nil ?_)
     | (with_reducible refine TX.thenN ?_)
     | (with_reducible refine TC.ifT ?_)
     | (with_reducible refine OL.gOn ?_)
     | (with_reducible refine TC.ret ?_)
     | (with_reducible refine TX.thenR ?_)
     | fail)
    refine TX.rt2 [] (.nil' ?_) (.int ?_)
    · simp [linL, okc, hf, ← isClass_eq, hcl]
    · simp [linE, okc, hf, ← isClass_eq, hcl]
  have hok : okc g c = true := by simp [okc, hf, ← isClass_eq, hcl]
  have hc2 : 0 ≤ c ∧ c < 3 + (g.length : Int) := by simpa [isClass] using hcl
  repeat' (first
   | (with_reducible refine OL.st ?_)
   | (with_reducible refine TC.region ?_)
   | (with_reducible refine TC.seq ?_)
   | (with_reducible refine OL.nil ?_)
   | (with_reducible refine TX.thenN ?_)
   | (with_reducible refine TC.skip ?_)
   | (with_reducible refine TC.ifF ?_)
   | (with_reducible refine OL.gOn ?_)
   | fail)
  refine OL.c (s_ref03_LinOf g c hf hc2.1 hc2.2) Fn.ref03_LinOf ?_
  by_cases hz : (at_ (orders g) c).length = 0
  · rw [decide_eq_false (by omega : ¬ 0 < (at_ (orders g) c).length)]
    repeat' (first
     | (with_reducible refine OL.st ?_)
     | (with_reducible refine TC.region ?_)
     | (with_reducible refine TC.seq ?_)
     | (with_reducible refine OL.nil ?_)
     | (with_reducible refine TX.thenN ?_)
     | (with_reducible refine TC.ifT ?_)
     | (with_reducible refine TC.ret ?_)
     | (with_reducible refine TX.thenR ?_)
     | fail)
    refine TX.rt2 [] (.nil' ?_) (.int ?_)
    · simp only [linL, hok, if_true, List.map_eq_nil_iff]; exact List.eq_nil_of_length_eq_zero hz
    · simp [linE, hok, hz]
  · rw [decide_eq_true (by omega : 0 < (at_ (orders g) c).length)]
    repeat' (first
     | (with_reducible refine OL.st ?_)
     | (with_reducible refine TC.region ?_)
     | (with_reducible refine TC.seq ?_)
     | (with_reducible refine OL.nil ?_)
     | (with_reducible refine TX.thenN ?_)
     | (with_reducible refine TC.skip ?_)
     | (with_reducible refine TC.ifF ?_)
     | (with_reducible refine TC.ret ?_)
     | fail)
    refine TX.rt2 [] (.sl' ?_) (.int ?_)
    · simp [linL, hok]
    · simp [linE, hok, hz]
end Go.Proofs
/- line's graphs: lists, order. -/
namespace Go.Proofs
open Go Go.W Go.V
/-- The orders that are known, as a map. -/
def omapF : Nat → List (List Int) → List (Int × AV)
  | _, [] => []
  | c, o :: r => (if o.isEmpty then [] else [((c : Int), ints o)]) ++ omapF (c + 1) r
def omap (ords : List (List Int)) : List (Int × AV) := omapF 0 ords
theorem omapF_snoc : ∀ (l : List (List Int)) (c : Nat) (o : List Int), omapF c (l ++ [o]) = omapF c l ++ (if o.isEmpty then [] else [(((c + l.length : Nat) : Int), ints o)])
  | [], c, o => by simp [omapF]
  | p :: r, c, o => by
    simp only [List.cons_append, omapF, omapF_snoc r (c + 1) o, List.append_assoc, List.length_cons]
    rw [show c + 1 + r.length = c + (r.length + 1) by omega]
theorem omap_snoc (l : List (List Int)) (o : List Int) : omap (l ++ [o]) = omap l ++ (if o.isEmpty then [] else [((l.length : Int), ints o)]) := by
  rw [omap, omapF_snoc]; simp [omap]
theorem afind_app (k : Int) : ∀ (a b : List (Int × AV)), afind k (a ++ b) = (afind k a).or (afind k b)
  | [], b => by simp [afind]
  | p :: r, b => by
    simp only [List.cons_append, afind]
    cases h : k == p.1
    · simpa using afind_app k r b
    · simp
theorem afind_omapF : ∀ (l : List (List Int)) (c : Nat) (k : Int), (c : Int) ≤ k → afind k (omapF c l) = if (l.getD (k - c).toNat []).isEmpty then none else some (ints (l.getD (k - c).toNat []))
  | [], c, k, _ => by simp [omapF, afind]
  | o :: r, c, k, h => by
    simp only [omapF, afind_app]
    by_cases e : k = c
    · subst e
      simp only [Int.sub_self, Int.toNat_zero, List.getD_cons_zero]
      cases ho : o.isEmpty
      · simp [afind]
      · have hlow : ∀ (r : List (List Int)) (n : Nat) (k : Int), k < n → afind k (omapF n r) = none := by
          intro r
          induction r with
          | nil => intro n k _; rfl
          | cons p r ih =>
            intro n k hk
            simp only [omapF, afind_app, ih (n + 1) k (by omega), Option.or_none]
            split
            · rfl
            · simp only [afind]
              rw [if_neg (by simp; omega)]
        simp [afind, hlow r (c + 1) c (by omega)]
    · have h1 : (c : Int) + 1 ≤ k := by omega
      have := afind_omapF r (c + 1) k (by omega)
      rw [this]
      have e2 : (k - c).toNat = (k - ((c + 1 : Nat) : Int)).toNat + 1 := by omega
      rw [e2, List.getD_cons_succ]
      have e3 : afind k (if o.isEmpty then [] else [((c : Int), ints o)]) = none := by
        split
        · rfl
        · simp only [afind]; rw [if_neg (by simp; omega)]
      rw [e3]; rfl
theorem afind_omap (ords : List (List Int)) (k : Int) (h : 0 ≤ k) : afind k (omap ords) = if (at_ ords k).isEmpty then none else some (ints (at_ ords k)) := by
  have := afind_omapF ords 0 k (by omega)
  simpa [omap, at_] using this
theorem look_omap (ords : List (List Int)) (k : Int) (h : 0 ≤ k) : afind k (omap ords) = some (ints (at_ ords k)) ∨ (afind k (omap ords) = none ∧ ∀ m w γ, Rep m w γ (.slice none 0 0) (ints (at_ ords k))) := by
  rw [afind_omap ords k h]
  cases he : at_ ords k with
  | nil => exact .inr ⟨rfl, fun m w γ => .nil nofun⟩
  | cons a r => exact .inl rfl
theorem new_omap (ords : List (List Int)) (k : Int) (h : (ords.length : Int) ≤ k) : afind k (omap ords) = none := by
  rw [afind_omap ords k (by omega)]
  have : at_ ords k = [] := by unfold at_; rw [List.getD_eq_getElem?_getD, List.getElem?_eq_none (by omega)]; rfl
  rw [this]; rfl
abbrev sets (us : List Nat) : AV := .sl 1 none (us.map setA)
abbrev graphO (pss : List (List Int)) (us : List Nat) (k : Nat) : AO := .cb Tc.line_graph [rows pss, sets us, .mp k]
set_option maxHeartbeats 1000000 in
theorem s_line_graph_lists (pss : List (List Int)) (us : List Nat) (ords : List (List Int)) (c : Nat) (hc : c < pss.length)
    (hps : ∀ p ∈ pss[c], 0 ≤ p) (hol : ∀ o ∈ ords, o.length ≤ 1000000) (hpl : pss[c].length ≤ 1000000) :
    V.Spec Try.prog Fc.line_graph_lists [.bp 0 0, V.int c] [graphO pss us 1, .mo (omap ords)] (.tp [rows ((listsOf ords pss[c]).getD []), V.bool (listsOf ords pss[c]).isSome]) [graphO pss us 1, .mo (omap ords)] := by
  refine V.Spec.enter Try.tabOK Try.mixed Fn.line_graph_lists rfl rfl rfl fun B hB => ?_
  repeat' (first
   | (with_reducible refine OL.st ?_)
   | (with_reducible refine TC.region ?_)
   | (with_reducible refine TC.seq ?_)
   | (with_reducible refine OL.nil ?_)
   | (with_reducible refine TX.thenN ?_)
   | (with_reducible refine TC.block ?_)
   | fail)
  generalize hpe : pss[c] = ps at *
  refine TC.adp 6 Tc.Lint 1 ?_
  refine TC.lp (fun i : Nat => [(0, .bp 0 0), (1, V.int c), (6, .hs 2), (15, ints ps), (16, V.int ps.length), (17, V.int i)]) (fun i => [graphO pss us 1, .mo (omap ords), .gs false Tc.Lint 1 none (((ps.take i).map fun p => bare (at_ ords p)).map ints)]) (fun i => i ≤ ps.length ∧ (ps.take i).all (fun p => !(at_ ords p).isEmpty) = true) (fun i => ps.length - i) 0 [0, 1, 2] ⟨Nat.zero_le _, rfl⟩ ?_
  rintro i ⟨hi, hall⟩
  by_cases hlt : i < ps.length
  · have hpi := hps ps[i] (List.getElem_mem _)
    have hlo : (at_ ords ps[i]).length ≤ 1000000 := by
      rcases at_mem (ords := ords) (p := ps[i]) with e | e
      · rw [e]; simp
      · exact hol _ e
    repeat' (first
     | (with_reducible refine OL.st ?_)
     | (with_reducible refine TC.region ?_)
     | (with_reducible refine TC.seq ?_)
     | (with_reducible refine OL.nil ?_)
     | (with_reducible refine TX.thenN ?_)
     | (with_reducible refine TC.block ?_)
     | (with_reducible refine TC.skip ?_)
     | (with_reducible refine TC.ifD ?_ ?_ <;> (intro hc; try (exfalso; omega)))
     | fail)
    refine OL.lookup ?_ (look_omap ords ps[i] hpi)
    repeat' (first
     | (with_reducible refine OL.st ?_)
     | (with_reducible refine TC.region ?_)
     | (with_reducible refine TC.seq ?_)
     | (with_reducible refine OL.nil ?_)
     | (with_reducible refine TX.thenN ?_)
     | (with_reducible refine TC.skip ?_)
     | (with_reducible refine TC.ifD ?_ ?_ <;> (intro hc; try (exfalso; omega)))
     | (with_reducible refine TC.ret ?_)
     | (with_reducible refine TX.thenR ?_)
     | (with_reducible refine TX.blkR ?_)
     | fail)
    · have he : at_ ords ps[i] = [] := List.eq_nil_of_length_eq_zero (by omega)
      have : listsOf ords ps = none := by
        rw [listsOf, if_neg]
        intro h
        have := List.all_eq_true.1 h ps[i] (List.getElem_mem _)
        rw [he] at this
        cases this
      rw [this]
      exact TX.rt2 [0, 1] (.nil (by decide)) (.ren rfl)
    · have hne : (at_ ords ps[i]).isEmpty = false := by
        cases hq : at_ ords ps[i] with
        | nil => rw [hq] at hc; simp at hc
        | cons _ _ => rfl
      refine OL.lookup ?_ (look_omap ords ps[i] hpi)
      skip
      refine OL.c (s_line_bare (at_ ords ps[i]) (by omega)) Fn.line_bare ?_
      repeat' (first
       | (with_reducible refine OL.st ?_)
       | (with_reducible refine OL.litV ?_)
       | (with_reducible refine OL.lit ?_)
       | (with_reducible refine OL.appO ?_)
       | (with_reducible refine TC.region ?_)
       | (with_reducible refine OL.nil ?_)
       | (with_reducible refine TX.thenN ?_)
       | (with_reducible refine TX.blkN ?_)
       | fail)
      have e : (((ps.take i).map fun p => bare (at_ ords p)).map ints) ++ [ints (bare (at_ ords ps[i]))] = (((ps.take (i + 1)).map fun p => bare (at_ ords p)).map ints) := by
        rw [take_succ hlt]; simp only [List.map_append, List.map_cons, List.map_nil]
      refine TX.rd (i + 1) [0, 1, 5] ⟨by omega, ?_⟩ (by omega)
      rw [take_succ hlt, List.all_append, hall]
      simp [hne]
  · repeat' (first
     | (with_reducible refine OL.st ?_)
     | (with_reducible refine OL.lit ?_)
     | (with_reducible refine OL.appO ?_)
     | (with_reducible refine TC.region ?_)
     | (with_reducible refine TC.seq ?_)
     | (with_reducible refine OL.nil ?_)
     | (with_reducible refine TX.thenN ?_)
     | (with_reducible refine TC.exit ?_)
     | (with_reducible refine TX.hit ?_)
     | (with_reducible refine TX.thenX ?_)
     | (with_reducible refine TC.ifD ?_ ?_ <;> (intro hc; try (exfalso; omega)))
     | (with_reducible refine TC.ret ?_)
     | fail)
    rw [take_all (by omega)] at hall ⊢
    rw [listsOf, if_pos hall]
    have e : (ps.map fun p => bare (at_ ords p)).map ints ++ [ints pss[c]] = ((ps.map fun p => bare (at_ ords p)) ++ [ps]).map ints := by rw [List.map_append, hpe]; rfl
    refine TX.vw 4 ?_
    exact TX.rt2 [0, 1] (.sl' e) (.ren rfl)
end Go.Proofs
/- line's order. -/
namespace Go.Proofs
open Go Go.W Go.V
/-- The order of a class, by those of the classes below its number. -/
def ordOf (ords : List (List Int)) (ps : List Int) (c : Nat) : List Int := if c = 0 then [0] else orderOf ords ps c
set_option maxHeartbeats 1000000 in
theorem s_line_graph_order (pss : List (List Int)) (us : List Nat) (ords : List (List Int)) (c : Nat) (hcl : c < pss.length) (hoc : ords.length = c) (hcs : c ≤ 100)
    (hps : ∀ p ∈ pss[c], 0 ≤ p) (hok : OrdOK ords) (hpl : pss[c].length ≤ 3) :
    V.Spec Try.prog Fc.line_graph_order [.bp 0 0, V.int c] [graphO pss us 1, .mo (omap ords)] (.tp []) [graphO pss us 1, .mo (omap (ords ++ [ordOf ords pss[c] c]))] := by
  refine V.Spec.enter Try.tabOK Try.mixed Fn.line_graph_order rfl rfl rfl fun B hB => ?_
  rw [omap_snoc, hoc]
  have hnew := new_omap ords c (by omega)
  repeat' (first
   | (with_reducible refine OL.st ?_)
   | (with_reducible refine OL.lit ?_)
   | (with_reducible refine TC.region ?_)
   | (with_reducible refine TC.seq ?_)
   | (with_reducible refine OL.nil ?_)
   | (with_reducible refine TX.thenN ?_)
   | (with_reducible refine TC.skip ?_)
   | (with_reducible refine TC.ifD ?_ ?_ <;> (intro hc; try (exfalso; omega)))
   | fail)
  · have h0 : c = 0 := by omega
    subst h0
    skip
    refine OL.vw 14 ?_
    refine OL.mapNew ?_ hnew
    repeat' (first
     | (with_reducible refine OL.nil ?_)
     | (with_reducible refine TX.thenN ?_)
     | (with_reducible refine TC.ret ?_)
     | (with_reducible refine TX.thenR ?_)
     | fail)
    exact TX.rt0 [0, 1]
  · have hc0 : c ≠ 0 := by omega
    have hol := hok.small (by omega)
    have hb := fun all (h : listsOf ords pss[c] = some all) => listsOf_bounds h hok (by omega) (by omega) hps
    have hs := s_line_graph_lists pss us ords c hcl hps (fun o ho => Nat.le_trans (hol o ho) (by omega)) (by omega)
    rw [ordOf, if_neg hc0, orderOf]
    cases hls : listsOf ords pss[c] with
    | none =>
      rw [hls] at hs
      simp only [Option.getD_none, Option.isSome_none] at hs
      simp only [List.append_nil, List.isEmpty_nil, if_true]
      refine OL.ch [0, 1] hs Fn.line_graph_lists ?_
      repeat' (first
       | (with_reducible refine OL.st ?_)
       | (with_reducible refine TC.region ?_)
       | (with_reducible refine TC.seq ?_)
       | (with_reducible refine OL.nil ?_)
       | (with_reducible refine TX.thenN ?_)
       | (with_reducible refine TC.ifT ?_)
       | (with_reducible refine TC.ret ?_)
       | (with_reducible refine TX.thenR ?_)
       | fail)
      exact TX.rt0 [0, 1]
    | some all =>
      obtain ⟨hb1, hb2, hb3⟩ := hb all hls
      have hlen : (merge all).1.length ≤ 1000000 := Nat.le_trans (merge_length all) (by omega)
      rw [hls] at hs
      simp only [Option.getD_some, Option.isSome_some] at hs
      refine OL.ch [0, 1] hs Fn.line_graph_lists ?_
      repeat' (first
       | (with_reducible refine OL.st ?_)
       | (with_reducible refine TC.region ?_)
       | (with_reducible refine TC.seq ?_)
       | (with_reducible refine OL.nil ?_)
       | (with_reducible refine TX.thenN ?_)
       | (with_reducible refine TC.skip ?_)
       | (with_reducible refine TC.ifF ?_)
       | fail)
      refine OL.c (s_line_merge all (by omega) (by omega)) Fn.line_merge ?_
      repeat' (first
       | (with_reducible refine OL.st ?_)
       | (with_reducible refine TC.region ?_)
       | (with_reducible refine TC.seq ?_)
       | (with_reducible refine OL.nil ?_)
       | (with_reducible refine TX.thenN ?_)
       | fail)
      refine TC.ifB (fun hm => ?_) (fun hm => ?_)
      · have e : (if (if (merge all).2 = true then (c : Int) :: ((merge all).1 ++ [0]) else []).isEmpty = true then [] else [((c : Int), ints (if (merge all).2 = true then (c : Int) :: ((merge all).1 ++ [0]) else []))]) = [((c : Int), AV.sl 1 none (V.int c :: ((merge all).1.map V.int ++ [V.int 0])))] := by simp [hm]
        rw [e, hm]
        skip
        refine TC.vw 6 ?_
        (with_reducible refine TC.draw (id := 6) false 12 12 ?_) <;> (with_reducible refine OD.st 0 ?_) <;> (with_reducible refine OD.st 1 ?_) <;> (with_reducible refine OD.st 2 ?_) <;> (with_reducible refine OD.st 4 ?_) <;> (with_reducible refine OD.st 5 ?_) <;> (with_reducible refine OD.st 7 ?_) <;> ((with_reducible refine OD.n3 3 6 9 ?_ ?_ ?_) <;> (first | ((with_reducible refine NextBy.at 3 ?_) <;> (with_reducible refine NextBy.s ?_) <;> ((with_reducible refine OD.n2 6 9 ?_ ?_) <;> (first | ((with_reducible refine NextBy.at 6 ?_) <;> (with_reducible refine NextBy.a ?_; with_reducible refine OL.lit ?_; with_reducible refine OL.nil ?_; with_reducible refine TX.od ?_) <;> ((with_reducible refine OD.n2 8 9 ?_ ?_) <;> (first | ((with_reducible refine NextBy.at 8 ?_) <;> (with_reducible refine NextBy.a ?_; with_reducible refine OL.app ?_; with_reducible refine OL.nil ?_; with_reducible refine TX.od ?_) <;> (with_reducible refine OD.a1 9 ?_; with_reducible refine OL.lit ?_; with_reducible refine OL.nil ?_; with_reducible refine TX.od ?_) <;> (with_reducible refine OD.a1 10 ?_; with_reducible refine OL.appO ?_; with_reducible refine OL.nil ?_; with_reducible refine TX.od ?_) <;> (with_reducible refine OD.a1 11 ?_; with_reducible refine OL.vw 39 ?_; refine OL.mapNew ?_ hnew; with_reducible refine OL.nil ?_; with_reducible refine TX.od ?_) <;> (with_reducible refine OD.dn ?_)) | ((with_reducible refine NextBy.at 9 ?_) <;> (with_reducible refine NextBy.a ?_; with_reducible refine OL.lit ?_; with_reducible refine OL.nil ?_; with_reducible refine TX.od ?_) <;> (with_reducible refine OD.a1 8 ?_; with_reducible refine OL.app ?_; with_reducible refine OL.nil ?_; with_reducible refine TX.od ?_) <;> (with_reducible refine OD.a1 10 ?_; with_reducible refine OL.appO ?_; with_reducible refine OL.nil ?_; with_reducible refine TX.od ?_) <;> (with_reducible refine OD.a1 11 ?_; with_reducible refine OL.vw 39 ?_; refine OL.mapNew ?_ hnew; with_reducible refine OL.nil ?_; with_reducible refine TX.od ?_) <;> (with_reducible refine OD.dn ?_))))) | ((with_reducible refine NextBy.at 9 ?_) <;> (with_reducible refine NextBy.a ?_; with_reducible refine OL.lit ?_; with_reducible refine OL.nil ?_; with_reducible refine TX.od ?_) <;> (with_reducible refine OD.a1 6 ?_; with_reducible refine OL.lit ?_; with_reducible refine OL.nil ?_; with_reducible refine TX.od ?_) <;> (with_reducible refine OD.a1 8 ?_; with_reducible refine OL.app ?_; with_reducible refine OL.nil ?_; with_reducible refine TX.od ?_) <;> (with_reducible refine OD.a1 10 ?_; with_reducible refine OL.appO ?_; with_reducible refine OL.nil ?_; with_reducible refine TX.od ?_) <;> (with_reducible refine OD.a1 11 ?_; with_reducible refine OL.vw 39 ?_; refine OL.mapNew ?_ hnew; with_reducible refine OL.nil ?_; with_reducible refine TX.od ?_) <;> (with_reducible refine OD.dn ?_))))) | ((with_reducible refine NextBy.at 6 ?_) <;> (with_reducible refine NextBy.a ?_; with_reducible refine OL.lit ?_; with_reducible refine OL.nil ?_; with_reducible refine TX.od ?_) <;> ((with_reducible refine OD.n3 3 8 9 ?_ ?_ ?_) <;> (first | ((with_reducible refine NextBy.at 3 ?_) <;> (with_reducible refine NextBy.s ?_) <;> ((with_reducible refine OD.n2 8 9 ?_ ?_) <;> (first | ((with_reducible refine NextBy.at 8 ?_) <;> (with_reducible refine NextBy.a ?_; with_reducible refine OL.app ?_; with_reducible refine OL.nil ?_; with_reducible refine TX.od ?_) <;> (with_reducible refine OD.a1 9 ?_; with_reducible refine OL.lit ?_; with_reducible refine OL.nil ?_; with_reducible refine TX.od ?_) <;> (with_reducible refine OD.a1 10 ?_; with_reducible refine OL.appO ?_; with_reducible refine OL.nil ?_; with_reducible refine TX.od ?_) <;> (with_reducible refine OD.a1 11 ?_; with_reducible refine OL.vw 39 ?_; refine OL.mapNew ?_ hnew; with_reducible refine OL.nil ?_; with_reducible refine TX.od ?_) <;> (with_reducible refine OD.dn ?_)) | ((with_reducible refine NextBy.at 9 ?_) <;> (with_reducible refine NextBy.a ?_; with_reducible refine OL.lit ?_; with_reducible refine OL.nil ?_; with_reducible refine TX.od ?_) <;> (with_reducible refine OD.a1 8 ?_; with_reducible refine OL.app ?_; with_reducible refine OL.nil ?_; with_reducible refine TX.od ?_) <;> (with_reducible refine OD.a1 10 ?_; with_reducible refine OL.appO ?_; with_reducible refine OL.nil ?_; with_reducible refine TX.od ?_) <;> (with_reducible refine OD.a1 11 ?_; with_reducible refine OL.vw 39 ?_; refine OL.mapNew ?_ hnew; with_reducible refine OL.nil ?_; with_reducible refine TX.od ?_) <;> (with_reducible refine OD.dn ?_))))) | ((with_reducible refine NextBy.at 8 ?_) <;> (with_reducible refine NextBy.a ?_; with_reducible refine OL.app ?_; with_reducible refine OL.nil ?_; with_reducible refine TX.od ?_) <;> ((with_reducible refine OD.n2 3 9 ?_ ?_) <;> (first | ((with_reducible refine NextBy.at 3 ?_) <;> (with_reducible refine NextBy.s ?_) <;> (with_reducible refine OD.a1 9 ?_; with_reducible refine OL.lit ?_; with_reducible refine OL.nil ?_; with_reducible refine TX.od ?_) <;> (with_reducible refine OD.a1 10 ?_; with_reducible refine OL.appO ?_; with_reducible refine OL.nil ?_; with_reducible refine TX.od ?_) <;> (with_reducible refine OD.a1 11 ?_; with_reducible refine OL.vw 39 ?_; refine OL.mapNew ?_ hnew; with_reducible refine OL.nil ?_; with_reducible refine TX.od ?_) <;> (with_reducible refine OD.dn ?_)) | ((with_reducible refine NextBy.at 9 ?_) <;> (with_reducible refine NextBy.a ?_; with_reducible refine OL.lit ?_; with_reducible refine OL.nil ?_; with_reducible refine TX.od ?_) <;> ((with_reducible refine OD.n2 3 10 ?_ ?_) <;> (first | ((with_reducible refine NextBy.at 3 ?_) <;> (with_reducible refine NextBy.s ?_) <;> (with_reducible refine OD.a1 10 ?_; with_reducible refine OL.appO ?_; with_reducible refine OL.nil ?_; with_reducible refine TX.od ?_) <;> (with_reducible refine OD.a1 11 ?_; with_reducible refine OL.vw 39 ?_; refine OL.mapNew ?_ hnew; with_reducible refine OL.nil ?_; with_reducible refine TX.od ?_) <;> (with_reducible refine OD.dn ?_)) | ((with_reducible refine NextBy.at 10 ?_) <;> (with_reducible refine NextBy.a ?_; with_reducible refine OL.appO ?_; with_reducible refine OL.nil ?_; with_reducible refine TX.od ?_) <;> (with_reducible refine OD.s1 3 ?_) <;> (with_reducible refine OD.a1 11 ?_; with_reducible refine OL.vw 39 ?_; refine OL.mapNew ?_ hnew; with_reducible refine OL.nil ?_; with_reducible refine TX.od ?_) <;> (with_reducible refine OD.dn ?_)))))))) | ((with_reducible refine NextBy.at 9 ?_) <;> (with_reducible refine NextBy.a ?_; with_reducible refine OL.lit ?_; with_reducible refine OL.nil ?_; with_reducible refine TX.od ?_) <;> ((with_reducible refine OD.n2 3 8 ?_ ?_) <;> (first | ((with_reducible refine NextBy.at 3 ?_) <;> (with_reducible refine NextBy.s ?_) <;> (with_reducible refine OD.a1 8 ?_; with_reducible refine OL.app ?_; with_reducible refine OL.nil ?_; with_reducible refine TX.od ?_) <;> (with_reducible refine OD.a1 10 ?_; with_reducible refine OL.appO ?_; with_reducible refine OL.nil ?_; with_reducible refine TX.od ?_) <;> (with_reducible refine OD.a1 11 ?_; with_reducible refine OL.vw 39 ?_; refine OL.mapNew ?_ hnew; with_reducible refine OL.nil ?_; with_reducible refine TX.od ?_) <;> (with_reducible refine OD.dn ?_)) | ((with_reducible refine NextBy.at 8 ?_) <;> (with_reducible refine NextBy.a ?_; with_reducible refine OL.app ?_; with_reducible refine OL.nil ?_; with_reducible refine TX.od ?_) <;> ((with_reducible refine OD.n2 3 10 ?_ ?_) <;> (first | ((with_reducible refine NextBy.at 3 ?_) <;> (with_reducible refine NextBy.s ?_) <;> (with_reducible refine OD.a1 10 ?_; with_reducible refine OL.appO ?_; with_reducible refine OL.nil ?_; with_reducible refine TX.od ?_) <;> (with_reducible refine OD.a1 11 ?_; with_reducible refine OL.vw 39 ?_; refine OL.mapNew ?_ hnew; with_reducible refine OL.nil ?_; with_reducible refine TX.od ?_) <;> (with_reducible refine OD.dn ?_)) | ((with_reducible refine NextBy.at 10 ?_) <;> (with_reducible refine NextBy.a ?_; with_reducible refine OL.appO ?_; with_reducible refine OL.nil ?_; with_reducible refine TX.od ?_) <;> (with_reducible refine OD.s1 3 ?_) <;> (with_reducible refine OD.a1 11 ?_; with_reducible refine OL.vw 39 ?_; refine OL.mapNew ?_ hnew; with_reducible refine OL.nil ?_; with_reducible refine TX.od ?_) <;> (with_reducible refine OD.dn ?_))))))))))) | ((with_reducible refine NextBy.at 9 ?_) <;> (with_reducible refine NextBy.a ?_; with_reducible refine OL.lit ?_; with_reducible refine OL.nil ?_; with_reducible refine TX.od ?_) <;> ((with_reducible refine OD.n2 3 6 ?_ ?_) <;> (first | ((with_reducible refine NextBy.at 3 ?_) <;> (with_reducible refine NextBy.s ?_) <;> (with_reducible refine OD.a1 6 ?_; with_reducible refine OL.lit ?_; with_reducible refine OL.nil ?_; with_reducible refine TX.od ?_) <;> (with_reducible refine OD.a1 8 ?_; with_reducible refine OL.app ?_; with_reducible refine OL.nil ?_; with_reducible refine TX.od ?_) <;> (with_reducible refine OD.a1 10 ?_; with_reducible refine OL.appO ?_; with_reducible refine OL.nil ?_; with_reducible refine TX.od ?_) <;> (with_reducible refine OD.a1 11 ?_; with_reducible refine OL.vw 39 ?_; refine OL.mapNew ?_ hnew; with_reducible refine OL.nil ?_; with_reducible refine TX.od ?_) <;> (with_reducible refine OD.dn ?_)) | ((with_reducible refine NextBy.at 6 ?_) <;> (with_reducible refine NextBy.a ?_; with_reducible refine OL.lit ?_; with_reducible refine OL.nil ?_; with_reducible refine TX.od ?_) <;> ((with_reducible refine OD.n2 3 8 ?_ ?_) <;> (first | ((with_reducible refine NextBy.at 3 ?_) <;> (with_reducible refine NextBy.s ?_) <;> (with_reducible refine OD.a1 8 ?_; with_reducible refine OL.app ?_; with_reducible refine OL.nil ?_; with_reducible refine TX.od ?_) <;> (with_reducible refine OD.a1 10 ?_; with_reducible refine OL.appO ?_; with_reducible refine OL.nil ?_; with_reducible refine TX.od ?_) <;> (with_reducible refine OD.a1 11 ?_; with_reducible refine OL.vw 39 ?_; refine OL.mapNew ?_ hnew; with_reducible refine OL.nil ?_; with_reducible refine TX.od ?_) <;> (with_reducible refine OD.dn ?_)) | ((with_reducible refine NextBy.at 8 ?_) <;> (with_reducible refine NextBy.a ?_; with_reducible refine OL.app ?_; with_reducible refine OL.nil ?_; with_reducible refine TX.od ?_) <;> ((with_reducible refine OD.n2 3 10 ?_ ?_) <;> (first | ((with_reducible refine NextBy.at 3 ?_) <;> (with_reducible refine NextBy.s ?_) <;> (with_reducible refine OD.a1 10 ?_; with_reducible refine OL.appO ?_; with_reducible refine OL.nil ?_; with_reducible refine TX.od ?_) <;> (with_reducible refine OD.a1 11 ?_; with_reducible refine OL.vw 39 ?_; refine OL.mapNew ?_ hnew; with_reducible refine OL.nil ?_; with_reducible refine TX.od ?_) <;> (with_reducible refine OD.dn ?_)) | ((with_reducible refine NextBy.at 10 ?_) <;> (with_reducible refine NextBy.a ?_; with_reducible refine OL.appO ?_; with_reducible refine OL.nil ?_; with_reducible refine TX.od ?_) <;> (with_reducible refine OD.s1 3 ?_) <;> (with_reducible refine OD.a1 11 ?_; with_reducible refine OL.vw 39 ?_; refine OL.mapNew ?_ hnew; with_reducible refine OL.nil ?_; with_reducible refine TX.od ?_) <;> (with_reducible refine OD.dn ?_)))))))))))))
        all_goals repeat' (first | (with_reducible refine TX.end_ ?_) | fail)
        all_goals exact TX.rt0 [0, 1]
      · have e : (if (if (merge all).2 = true then (c : Int) :: ((merge all).1 ++ [0]) else []).isEmpty = true then [] else [((c : Int), ints (if (merge all).2 = true then (c : Int) :: ((merge all).1 ++ [0]) else []))]) = [] := by simp [hm]
        rw [e, hm, List.append_nil]
        repeat' (first | (with_reducible refine TC.skip ?_) | (with_reducible refine TX.end_ ?_) | fail)
        exact TX.rt0 [0, 1]
end Go.Proofs
/- line's open. -/
namespace Go.Proofs
open Go Go.W Go.V
/-! ### What open finds -/
def upK (us : List Nat) (ps : List Int) (c : Nat) (i : Nat) : Nat := (ps.take i).foldl (fun s p => s ||| us.getD p.toNat 0) (setWith (setWith 0 c) 0)
def upOf (us : List Nat) (ps : List Int) (c : Nat) : Nat := upK us ps c ps.length
theorem upK_succ {us ps c i} (h : i < ps.length) (hp : ps[i].toNat < us.length) : upK us ps c (i + 1) = upK us ps c i ||| us[ps[i].toNat] := by
  unfold upK; rw [take_succ h, List.foldl_append, List.foldl_cons, List.foldl_nil, getD_lt hp]
def upsF : List Nat → List (List Int) → List Nat
  | us, [] => us
  | us, ps :: r => upsF (us ++ [upOf us ps us.length]) r
def ups (g : List (List Int)) : List Nat := upsF [] (parentsOf g)
def oks (g : List (List Int)) (l : List Int) : Bool := fine g && l.all fun c => decide (0 ≤ c) && decide (c < 3 + (g.length : Int))
def openR (g : List (List Int)) (l : List Int) : AV := if oks g l then .tp [.bp 0 0, V.bool true] else .tp [.raw (.pointer none), V.bool false]
def openE (g : List (List Int)) (l : List Int) : V.Eta := if oks g l then [graphO (parentsOf g) (ups g) 1, .mo (omap (orders g))] else []
set_option maxHeartbeats 2000000 in
theorem s_line_open (g : List (List Int)) (l : List Int) : V.Spec Try.prog Fc.line_open [rows g, ints l] [] (openR g l) (openE g l) := by
  refine V.Spec.enter Try.tabOK Try.mixed Fn.line_open rfl rfl rfl fun B hB => ?_
  repeat' (first
   | (with_reducible refine OL.st ?_)
   | (with_reducible refine TC.region ?_)
   | (with_reducible refine TC.seq ?_)
   | (with_reducible refine OL.nil ?_)
   | (with_reducible refine TX.thenN ?_)
   | fail)
  refine OL.c (s_line_fine g) Fn.line_fine ?_
  cases hf : fine g
  · have ho : oks g l = false := by simp [oks, hf]
    rw [openR, openE, ho]
    repeat' (first
     | (with_reducible refine OL.st ?_)
     | (with_reducible refine TC.region ?_)
     | (with_reducible refine TC.seq ?_)
     | (with_reducible refine OL.nil ?_)
     | (with_reducible refine TX.thenN ?_)
     | (with_reducible refine TC.ifT ?_)
     | (with_reducible refine TC.ret ?_)
     | (with_reducible refine TX.thenR ?_)
     | fail)
    exact TX.rt2 [] (.ren rfl) (.ren rfl)
  have h16 := fine_len hf
  repeat' (first
   | (with_reducible refine OL.st ?_)
   | (with_reducible refine TC.region ?_)
   | (with_reducible refine TC.seq ?_)
   | (with_reducible refine OL.nil ?_)
   | (with_reducible refine TX.thenN ?_)
   | (with_reducible refine TC.block ?_)
   | (with_reducible refine TC.skip ?_)
   | (with_reducible refine TC.ifF ?_)
   | fail)
  refine TC.bl 18 fun hbl => ?_
  refine TC.lp (fun i : Nat => [(0, rows g), (18, ints l), (19, V.int l.length), (20, V.int i)]) (fun _ => []) (fun i => i ≤ l.length ∧ (l.take i).all (fun c => decide (0 ≤ c) && decide (c < 3 + (g.length : Int))) = true) (fun i => l.length - i) 0 [] ⟨Nat.zero_le _, rfl⟩ ?_
  rintro i ⟨hi, hall⟩
  have hbad : ∀ h : i < l.length, (decide (0 ≤ l[i]) && decide (l[i] < 3 + (g.length : Int))) = false → oks g l = false := by
    intro h hb
    rw [oks, hf, Bool.true_and, List.all_eq_false]
    exact ⟨l[i], List.getElem_mem h, by rw [hb]; simp⟩
  repeat' (first
   | (with_reducible refine OL.st ?_)
   | (with_reducible refine TC.region ?_)
   | (with_reducible refine TC.seq ?_)
   | (with_reducible refine OL.nil ?_)
   | (with_reducible refine TX.thenN ?_)
   | (with_reducible refine TC.block ?_)
   | (with_reducible refine TC.skip ?_)
   | (with_reducible refine TX.blkN ?_)
   | (with_reducible refine TC.exit ?_)
   | (with_reducible refine TX.hit ?_)
   | (with_reducible refine TX.thenX ?_)
   | (with_reducible refine TC.ifT ?_)
   | (with_reducible refine OL.gOn ?_)
   | (with_reducible refine OL.gOff ?_)
   | (with_reducible refine TC.ifD ?_ ?_ <;> (intro hc; try (exfalso; omega)))
   | (with_reducible refine OL.gD ?_ ?_ <;> (intro hc; try (exfalso; omega)))
   | (with_reducible refine TC.ret ?_)
   | (with_reducible refine TX.thenR ?_)
   | (with_reducible refine TX.blkR ?_)
   | fail)
  · have ho := hbad (by omega) (by rw [decide_eq_false (by omega : ¬ 0 ≤ l[i])]; rfl)
    rw [openR, openE, ho]
    exact TX.rt2 [] (.ren rfl) (.ren rfl)
  · have ho := hbad (by omega) (by rw [decide_eq_false (by omega : ¬ l[i] < 3 + (g.length : Int)), Bool.and_false])
    rw [openR, openE, ho]
    exact TX.rt2 [] (.ren rfl) (.ren rfl)
  · refine TX.rd (i + 1) [] ⟨by omega, ?_⟩ (by omega)
    rw [take_succ (by omega), List.all_append, hall]
    simp
    omega
  · rw [take_all (by omega)] at hall
    have hoks : oks g l = true := by rw [oks, hf, hall]; rfl
    have hokc : OrdOK [] := fun c o h => by simp at h
    rw [openR, openE, hoks, if_pos rfl, if_pos rfl]
    skip
    refine OL.make (l := 3) (c := 3 + g.length) (u := ints []) (u0 := ints []) ?_ (fun m w γ => .nil nofun)
    repeat' (first
     | (with_reducible refine OL.st ?_)
     | (with_reducible refine OL.box ?_)
     | (with_reducible refine OL.store ?_)
     | (with_reducible refine OL.app ?_)
     | (with_reducible refine OL.makeMap ?_)
     | (with_reducible refine OL.build ?_)
     | (with_reducible refine TC.region ?_)
     | (with_reducible refine TC.seq ?_)
     | (with_reducible refine OL.nil ?_)
     | (with_reducible refine TX.thenN ?_)
     | (with_reducible refine TC.block ?_)
     | fail)
    have hpe : ints [] :: ints [] :: ints [] :: g.map ints = (parentsOf g).map ints := by simp [parentsOf]
    have hpl : (parentsOf g).length = 3 + g.length := parentsOf_length g
    have hpl2 : ((parentsOf g).map ints).length = 3 + g.length := by rw [List.length_map, hpl]
    refine TC.vw 53 ?_
    refine TC.vwC 2 0 ?_
    rw [hpe]
    skip
    refine TC.adpC 2 1 Tc.line_set 1 ?_
    refine TC.lp (fun s : List Nat => [(8, .bp 0 0), (53, rows (parentsOf g)), (54, V.int ((parentsOf g).map ints).length), (55, V.int s.length)]) (fun s => [.cb Tc.line_graph [rows (parentsOf g), .hs 2, .mp 1], .mo [], .gs false Tc.line_set 1 none (s.map setA)])
      (fun s => s.length ≤ 3 + g.length ∧ ups g = upsF s ((parentsOf g).drop s.length) ∧ (∀ u ∈ s, u < 2 ^ 64)) (fun s => 3 + g.length - s.length) [] [2, 1, 4] ⟨Nat.zero_le _, rfl, by simp⟩ ?_
    rintro us ⟨hcl, hus, hu64⟩
    repeat' (first
     | (with_reducible refine OL.st ?_)
     | (with_reducible refine TC.region ?_)
     | (with_reducible refine TC.seq ?_)
     | (with_reducible refine OL.nil ?_)
     | (with_reducible refine TX.thenN ?_)
     | (with_reducible refine TC.block ?_)
     | (with_reducible refine TC.skip ?_)
     | (with_reducible refine TC.exit ?_)
     | (with_reducible refine TX.hit ?_)
     | (with_reducible refine TX.thenX ?_)
     | (with_reducible refine TC.ifD ?_ ?_ <;> (intro hc; try (exfalso; omega)))
     | fail)
    · have hclt : us.length < 3 + g.length := by omega
      have hpq : (parentsOf g)[us.length]'(by omega) = pOf g us.length := by
        have := parentsOf_get hclt
        rw [List.getElem?_eq_getElem (by omega)] at this
        simpa using this
      obtain ⟨hp3, hpr, hpn⟩ := fine_pOf hf (c := (us.length : Int)) (by omega)
      rw [← hpq] at hp3 hpr hpn
      have hdrop : (parentsOf g).drop us.length = (parentsOf g)[us.length] :: (parentsOf g).drop (us.length + 1) := drop_cons (by omega)
      rw [hdrop] at hus
      generalize (parentsOf g)[us.length] = ps at *
      have hs1 := s_line_set_with 0 (by decide) us.length (by omega) (by omega)
      have hlt1 : setWith 0 us.length < 2 ^ 64 := setWith_lt (by decide) (by omega)
      have hs2 := s_line_set_with (setWith 0 us.length) hlt1 0 (by omega) (by omega)
      have hlt2 : setWith (setWith 0 us.length) 0 < 2 ^ 64 := setWith_lt hlt1 (by omega)
      rw [Int.toNat_natCast] at hs1
      rw [Int.toNat_zero] at hs2
      refine OL.buildA ?_
      repeat' (first | (with_reducible refine OL.st ?_) | fail)
      refine OL.c hs1 Fn.line_set_with ?_
      skip
      refine OL.c hs2 Fn.line_set_with ?_
      repeat' (first
       | (with_reducible refine OL.st ?_)
       | (with_reducible refine OL.alloc ?_)
       | (with_reducible refine OL.storeAgg ?_)
       | (with_reducible refine TC.region ?_)
       | (with_reducible refine TC.seq ?_)
       | (with_reducible refine OL.nil ?_)
       | (with_reducible refine TX.thenN ?_)
       | (with_reducible refine TC.block ?_)
       | fail)
      have e0 : setWith (setWith 0 us.length) 0 = upK us ps us.length 0 := rfl
      rw [e0]
      refine TC.lp (fun i : Nat => [(8, .bp 0 0), (11, .bp 3 0), (53, rows (parentsOf g)), (54, V.int ((parentsOf g).map ints).length), (55, V.int us.length), (64, ints ps), (65, V.int ps.length), (66, V.int i)]) (fun i => [.cb Tc.line_graph [rows (parentsOf g), .hs 2, .mp 1], .mo [], .gs false Tc.line_set 1 none (us.map setA), .cb Tc.line_set [V.u64 (upK us ps us.length i)]])
        (fun i => i ≤ ps.length ∧ upK us ps us.length i < 2 ^ 64) (fun i => ps.length - i) 0 [0, 1, 2, 3] ⟨Nat.zero_le _, hlt2⟩ ?_
      rintro i ⟨hi', hs64⟩
      repeat' (first
       | (with_reducible refine OL.st ?_)
       | (with_reducible refine TC.region ?_)
       | (with_reducible refine TC.seq ?_)
       | (with_reducible refine OL.nil ?_)
       | (with_reducible refine TX.thenN ?_)
       | (with_reducible refine TC.block ?_)
       | (with_reducible refine TC.skip ?_)
       | (with_reducible refine TC.exit ?_)
       | (with_reducible refine TX.hit ?_)
       | (with_reducible refine TX.thenX ?_)
       | (with_reducible refine TC.ifD ?_ ?_ <;> (intro hc; try (exfalso; omega)))
       | fail)
      · have hpi := hpr ps[i] (List.getElem_mem _)
        have hpu : ps[i].toNat < us.length := by omega
        have hx64 := hu64 _ (List.getElem_mem hpu)
        have hor := s_line_set_or (upK us ps us.length i) us[ps[i].toNat] hs64 hx64
        have hlt := Nat.or_lt_two_pow hs64 hx64
        rw [← upK_succ (by omega) hpu] at hor hlt
        (with_reducible refine TC.draw (id := 18) true 9 10 ?_) <;> (with_reducible refine OD.st 0 ?_) <;> (with_reducible refine OD.st 1 ?_) <;> (with_reducible refine OD.st 2 ?_) <;> (with_reducible refine OD.st 3 ?_) <;> (with_reducible refine OD.st 4 ?_) <;> (with_reducible refine OD.st 5 ?_) <;> (with_reducible refine OD.st 6 ?_) <;> (with_reducible refine OD.st 7 ?_) <;> (with_reducible refine OD.c1 8 hor Fn.line_set_or ?_) <;> (with_reducible refine OD.a1 9 ?_; with_reducible refine OL.storeAgg ?_; with_reducible refine OL.nil ?_; with_reducible refine TX.od ?_) <;> (with_reducible refine OD.dn ?_)
        repeat' (first
         | (with_reducible refine OL.st ?_)
         | (with_reducible refine TC.region ?_)
         | (with_reducible refine OL.nil ?_)
         | (with_reducible refine TX.thenN ?_)
         | (with_reducible refine TX.blkN ?_)
         | fail)
        exact TX.rd (i + 1) [0, 1, 2, 3] ⟨by omega, hlt⟩ (by omega)
      · have e1 : upK us ps us.length i = upOf us ps us.length := by rw [upOf, show i = ps.length by omega]
        rw [e1] at hs64
        rw [e1]
        rw [upsF] at hus
        have e : us.map setA ++ [setA (upOf us ps us.length)] = (us ++ [upOf us ps us.length]).map setA := by simp
        have e2 : ((us.length : Int) + 1) = ((us ++ [upOf us ps us.length]).length : Nat) := by simp
        (with_reducible refine TC.draw (id := 20) false 11 11 ?_) <;> (with_reducible refine OD.st 0 ?_) <;> (with_reducible refine OD.st 1 ?_) <;> (with_reducible refine OD.st 2 ?_) <;> (with_reducible refine OD.st 3 ?_) <;> ((with_reducible refine OD.n2 4 5 ?_ ?_) <;> (first | ((with_reducible refine NextBy.at 4 ?_) <;> (with_reducible refine NextBy.s ?_) <;> (with_reducible refine OD.s1 5 ?_) <;> (with_reducible refine OD.a1 6 ?_; with_reducible refine OL.lit ?_; with_reducible refine OL.nil ?_; with_reducible refine TX.od ?_) <;> (with_reducible refine OD.a1 7 ?_; with_reducible refine OL.appO ?_; with_reducible refine OL.nil ?_; with_reducible refine TX.od ?_) <;> (with_reducible refine OD.st 8 ?_) <;> (with_reducible refine OD.st 9 ?_) <;> (with_reducible refine OD.a1 10 ?_; with_reducible refine OL.store ?_; with_reducible refine OL.nil ?_; with_reducible refine TX.od ?_) <;> (with_reducible refine OD.dn ?_)) | ((with_reducible refine NextBy.at 5 ?_) <;> (with_reducible refine NextBy.s ?_) <;> ((with_reducible refine OD.n2 4 6 ?_ ?_) <;> (first | ((with_reducible refine NextBy.at 4 ?_) <;> (with_reducible refine NextBy.s ?_) <;> (with_reducible refine OD.a1 6 ?_; with_reducible refine OL.lit ?_; with_reducible refine OL.nil ?_; with_reducible refine TX.od ?_) <;> (with_reducible refine OD.a1 7 ?_; with_reducible refine OL.appO ?_; with_reducible refine OL.nil ?_; with_reducible refine TX.od ?_) <;> (with_reducible refine OD.st 8 ?_) <;> (with_reducible refine OD.st 9 ?_) <;> (with_reducible refine OD.a1 10 ?_; with_reducible refine OL.store ?_; with_reducible refine OL.nil ?_; with_reducible refine TX.od ?_) <;> (with_reducible refine OD.dn ?_)) | ((with_reducible refine NextBy.at 6 ?_) <;> (with_reducible refine NextBy.a ?_; with_reducible refine OL.lit ?_; with_reducible refine OL.nil ?_; with_reducible refine TX.od ?_) <;> (with_reducible refine OD.s1 4 ?_) <;> (with_reducible refine OD.a1 7 ?_; with_reducible refine OL.appO ?_; with_reducible refine OL.nil ?_; with_reducible refine TX.od ?_) <;> (with_reducible refine OD.st 8 ?_) <;> (with_reducible refine OD.st 9 ?_) <;> (with_reducible refine OD.a1 10 ?_; with_reducible refine OL.store ?_; with_reducible refine OL.nil ?_; with_reducible refine TX.od ?_) <;> (with_reducible refine OD.dn ?_)))))))
        all_goals repeat' (first
                   | (with_reducible refine OL.st ?_)
                   | (with_reducible refine TC.region ?_)
                   | (with_reducible refine OL.nil ?_)
                   | (with_reducible refine TX.thenN ?_)
                   | (with_reducible refine TX.blkN ?_)
                   | fail)
        all_goals refine TX.rd (us ++ [upOf us ps us.length]) [0, 1, 5] ⟨by simp; omega, by simpa using hus, fun u hu => (List.mem_append.1 hu).elim (hu64 u) fun h => by rw [List.mem_singleton.1 h]; exact hs64⟩ (by simp; omega)
    · have hue : ups g = us := by rw [hus, drop_nil (by omega)]; rfl
      rw [hue]
      refine TC.vwC 0 1 ?_
      refine TC.lp (fun s : List (List Int) => [(8, .bp 0 0), (95, V.int (parentsOf g).length), (96, V.int s.length)]) (fun s => [graphO (parentsOf g) us 1, .mo (omap s)])
        (fun s => s.length ≤ (parentsOf g).length ∧ OrdOK s ∧ ((s.length = 0 ∧ s = []) ∨ (0 < s.length ∧ orders g = ordersF s ((parentsOf g).drop s.length)))) (fun s => (parentsOf g).length - s.length) [] [0, 1] ⟨Nat.zero_le _, hokc, .inl ⟨rfl, rfl⟩⟩ ?_
      rintro ords ⟨hcl', hok, hor⟩
      repeat' (first
       | (with_reducible refine OL.st ?_)
       | (with_reducible refine TC.region ?_)
       | (with_reducible refine TC.seq ?_)
       | (with_reducible refine OL.nil ?_)
       | (with_reducible refine TX.thenN ?_)
       | (with_reducible refine TC.block ?_)
       | (with_reducible refine TC.skip ?_)
       | (with_reducible refine TC.exit ?_)
       | (with_reducible refine TX.hit ?_)
       | (with_reducible refine TX.thenX ?_)
       | (with_reducible refine TC.ifD ?_ ?_ <;> (intro hc; try (exfalso; omega)))
       | (with_reducible refine TC.ret ?_)
       | fail)
      · have hclt : ords.length < 3 + g.length := by omega
        have hpq : (parentsOf g)[ords.length]'(by omega) = pOf g ords.length := by
          have := parentsOf_get hclt
          rw [List.getElem?_eq_getElem (by omega)] at this
          simpa using this
        obtain ⟨hp3, hpr, hpn⟩ := fine_pOf hf (c := (ords.length : Int)) (by omega)
        have hs := s_line_graph_order (parentsOf g) us ords ords.length (by omega) rfl (by omega) (by rw [hpq]; intro p hp; have := hpr p hp; omega) hok (by rw [hpq]; exact hp3)
        rw [hpq] at hs
        refine OL.ch [0, 1] hs Fn.line_graph_order ?_
        repeat' (first
         | (with_reducible refine OL.st ?_)
         | (with_reducible refine TC.region ?_)
         | (with_reducible refine OL.nil ?_)
         | (with_reducible refine TX.thenN ?_)
         | (with_reducible refine TX.blkN ?_)
         | fail)
        have e2 : ((ords.length : Int) + 1) = ((ords ++ [ordOf ords (pOf g ords.length) ords.length]).length : Nat) := by simp
        refine TX.rd (ords ++ [ordOf ords (pOf g ords.length) ords.length]) [0, 1] ⟨by simp; omega, ?_, .inr ⟨by simp, ?_⟩⟩ (by simp; omega)
        · rcases hor with ⟨h0, rfl⟩ | ⟨h0, h1⟩
          · exact OrdOK.start
          · rw [ordOf, if_neg (by omega)]
            refine hok.snoc (orderOf_ok hok (fun p hp => ?_) (by omega))
            have := hpr p hp
            omega
        · rcases hor with ⟨h0, rfl⟩ | ⟨h0, h1⟩
          · rw [orders_start]; rfl
          · rw [h1, parentsOf_drop hclt, ordersF_cons, ordOf, if_neg (by omega)]
            simp
      · rcases hor with ⟨h0, rfl⟩ | ⟨h0, h1⟩
        · omega
        · rw [drop_nil (by omega)] at h1
          have h1 : orders g = ords := h1
          rw [h1]
          exact TX.rt2 [0, 1] (.ren rfl) (.ren rfl)
end Go.Proofs
/- slices.Clone; line's Lin. -/
namespace Go.Proofs
open Go Go.W Go.V
theorem s_slices_Clone_Lint_int (l : List Int) (hb : l.length ≤ 1000000000) : V.Spec Try.prog Fc.slices_Clone_Lint_int [ints l] [] (.hs 0) [.gs false Tc.int 1 none (l.map V.int)] := by
  refine V.Spec.enter Try.tabOK Try.mixed Fn.slices_Clone_Lint_int rfl rfl rfl fun B hB => ?_
  repeat' (first
   | (with_reducible refine OL.st ?_)
   | (with_reducible refine TC.region ?_)
   | (with_reducible refine TC.seq ?_)
   | (with_reducible refine OL.nil ?_)
   | (with_reducible refine TX.thenN ?_)
   | fail)
  refine OL.isNil (fun h => ?_) ?_
  · repeat' (first
     | (with_reducible refine OL.st ?_)
     | (with_reducible refine TC.region ?_)
     | (with_reducible refine TC.seq ?_)
     | (with_reducible refine OL.nil ?_)
     | (with_reducible refine TX.thenN ?_)
     | (with_reducible refine TC.ifT ?_)
     | (with_reducible refine TC.ret ?_)
     | (with_reducible refine TX.thenR ?_)
     | fail)
    have e : [] = l.map V.int := h.symm
    refine TX.adp 2 Tc.int 1 ?_
    exact TX.rt1 [0] (.ren rfl)
  · repeat' (first
     | (with_reducible refine OL.st ?_)
     | (with_reducible refine OL.lit0 ?_)
     | (with_reducible refine OL.app ?_)
     | (with_reducible refine TC.region ?_)
     | (with_reducible refine TC.seq ?_)
     | (with_reducible refine OL.nil ?_)
     | (with_reducible refine TX.thenN ?_)
     | (with_reducible refine TC.skip ?_)
     | (with_reducible refine TC.ifF ?_)
     | (with_reducible refine TC.ret ?_)
     | fail)
    exact TX.rt1 [1] (.ren rfl)
theorem oks_one (g : List (List Int)) (c : Int) : oks g [c] = okc g c := by simp [oks, okc]
theorem s_line_Lin (g : List (List Int)) (c : Int) : V.Spec Try.prog Fc.line_Lin [rows g, V.int c] [] (.tp [ints (linL g c), V.int (linE g c)]) [] := by
  refine V.Spec.enter Try.tabOK Try.mixed Fn.line_Lin rfl rfl rfl fun B hB => ?_
  have ho := s_line_open g [c]
  rw [openR, openE, oks_one] at ho
  repeat' (first
   | (with_reducible refine OL.st ?_)
   | (with_reducible refine OL.lit ?_)
   | (with_reducible refine TC.region ?_)
   | (with_reducible refine TC.seq ?_)
   | (with_reducible refine OL.nil ?_)
   | (with_reducible refine TX.thenN ?_)
   | fail)
  refine OL.vwA 1 ?_
  cases hok : okc g c
  · rw [hok] at ho
    simp only [Bool.false_eq_true, if_false] at ho
    refine OL.c ho Fn.line_open ?_
    repeat' (first
     | (with_reducible refine OL.st ?_)
     | (with_reducible refine TC.region ?_)
     | (with_reducible refine TC.seq ?_)
     | (with_reducible refine OL.nil ?_)
     | (with_reducible refine TX.thenN ?_)
     | (with_reducible refine TC.ifT ?_)
     | (with_reducible refine TC.ret ?_)
     | (with_reducible refine TX.thenR ?_)
     | fail)
    refine TX.rt2 [] (.nil' ?_) (.int ?_)
    · rw [linL, hok]; rfl
    · rw [linE, hok]; rfl
  · rw [hok] at ho
    simp only [if_true] at ho
    refine OL.c ho Fn.line_open ?_
    have h0 : 0 ≤ c := by
      simp only [okc, Bool.and_eq_true, decide_eq_true_eq] at hok
      exact hok.2.1
    have hf : fine g = true := by
      simp only [okc, Bool.and_eq_true] at hok
      exact hok.1
    have h16 := fine_len hf
    have hlen : (at_ (orders g) c).length ≤ 1000000000 := by
      have hs := (orders_ok hf).1.small (by have := (orders_ok hf).2; omega)
      rcases at_mem (ords := orders g) (p := c) with e | e
      · rw [e]; simp
      · exact Nat.le_trans (hs _ e) (by omega)
    repeat' (first
     | (with_reducible refine OL.st ?_)
     | (with_reducible refine TC.region ?_)
     | (with_reducible refine TC.seq ?_)
     | (with_reducible refine OL.nil ?_)
     | (with_reducible refine TX.thenN ?_)
     | (with_reducible refine TC.skip ?_)
     | (with_reducible refine TC.ifF ?_)
     | fail)
    refine OL.lookup ?_ (look_omap (orders g) c h0)
    repeat' (first
     | (with_reducible refine OL.st ?_)
     | (with_reducible refine TC.region ?_)
     | (with_reducible refine TC.seq ?_)
     | (with_reducible refine OL.nil ?_)
     | (with_reducible refine TX.thenN ?_)
     | (with_reducible refine TC.skip ?_)
     | (with_reducible refine TC.ifD ?_ ?_ <;> (intro hc; try (exfalso; omega)))
     | (with_reducible refine TC.ret ?_)
     | (with_reducible refine TX.thenR ?_)
     | fail)
    · have he : at_ (orders g) c = [] := List.eq_nil_of_length_eq_zero (by omega)
      refine TX.rt2 [] (.nil' ?_) (.int ?_)
      · rw [linL, if_pos hok, he]; rfl
      · rw [linE, if_pos hok, he]; rfl
    · refine OL.lookup ?_ (look_omap (orders g) c h0)
      skip
      refine OL.c (s_slices_Clone_Lint_int _ hlen) Fn.slices_Clone_Lint_int ?_
      repeat' (first
       | (with_reducible refine OL.st ?_)
       | (with_reducible refine OL.nil ?_)
       | (with_reducible refine TX.thenN ?_)
       | (with_reducible refine TC.ret ?_)
       | fail)
      refine TX.vw 4 ?_
      refine TX.rt2 [] (.sl' ?_) (.int ?_)
      · rw [linL, if_pos hok]
      · rw [linE, if_pos hok, if_neg (by omega)]
end Go.Proofs
/- line's after. -/
namespace Go.Proofs
open Go Go.W Go.V
/-! ### What after finds -/
/-- One list's part, from place i on. -/
def aftL (ss : List Nat) (l : List Int) : List Int → Nat → List Nat
  | [], _ => ss
  | c :: r, i => aftL (ss.set c.toNat (ss.getD c.toNat 0 ||| ofL (l.drop (i + 1)))) l r (i + 1)
def aftF (ss : List Nat) : List (List Int) → List Nat
  | [] => ss
  | l :: r => aftF (aftL ss l l 0) r
def aft (n : Nat) (all : List (List Int)) : List Nat := aftF (List.replicate n 0) all
set_option maxHeartbeats 1000000 in
theorem s_line_graph_after (pss : List (List Int)) (us : List Nat) (es : List (Int × AV)) (all : List (List Int)) (h0 : 0 < pss.length) (hn : pss.length ≤ 19) (hr : ∀ l ∈ all, ∀ c ∈ l, 0 ≤ c ∧ c < pss.length) :
    V.Spec Try.prog Fc.line_graph_after [.bp 0 0, rows all] [graphO pss us 1, .mo es] (sets (aft pss.length all)) [graphO pss us 1, .mo es] := by
  refine V.Spec.enter Try.tabOK Try.mixed Fn.line_graph_after rfl rfl rfl fun B hB => ?_
  refine TC.bl 1 fun hla => ?_
  repeat' (first
   | (with_reducible refine OL.st ?_)
   | (with_reducible refine TC.region ?_)
   | (with_reducible refine TC.seq ?_)
   | (with_reducible refine OL.nil ?_)
   | (with_reducible refine TX.thenN ?_)
   | fail)
  refine OL.make (l := pss.length) (c := pss.length) (u := setA 0) (u0 := V.u64 0) ?_ (fun m w γ => .raw rfl)
  repeat' (first
   | (with_reducible refine OL.st ?_)
   | (with_reducible refine TC.region ?_)
   | (with_reducible refine TC.seq ?_)
   | (with_reducible refine OL.nil ?_)
   | (with_reducible refine TX.thenN ?_)
   | (with_reducible refine TC.block ?_)
   | fail)
  have e0 : List.replicate pss.length (setA 0) = (List.replicate pss.length 0).map setA := by simp
  rw [e0]
  refine TC.lp (fun s : Nat × List Nat => [(5, .hs 2), (16, rows all), (17, V.int all.length), (18, V.int s.1)]) (fun s => [graphO pss us 1, .mo es, .gs false Tc.line_set 1 none (s.2.map setA)])
    (fun s => s.2.length = pss.length ∧ (∀ u ∈ s.2, u < 2 ^ 64) ∧ s.1 ≤ all.length ∧ aft pss.length all = aftF s.2 (all.drop s.1)) (fun s => all.length - s.1) (0, List.replicate pss.length 0) [0, 1, 2] ⟨by simp, by simp, Nat.zero_le _, rfl⟩ ?_
  rintro ⟨i, ss⟩ ⟨hsl, hs64, hi, hinv⟩
  simp only at hsl hs64 hi hinv ⊢
  repeat' (first
   | (with_reducible refine OL.st ?_)
   | (with_reducible refine TC.region ?_)
   | (with_reducible refine TC.seq ?_)
   | (with_reducible refine OL.nil ?_)
   | (with_reducible refine TX.thenN ?_)
   | (with_reducible refine TC.block ?_)
   | (with_reducible refine TC.skip ?_)
   | (with_reducible refine TC.exit ?_)
   | (with_reducible refine TX.hit ?_)
   | (with_reducible refine TX.thenX ?_)
   | (with_reducible refine TC.ifD ?_ ?_ <;> (intro hc; try (exfalso; omega)))
   | (with_reducible refine TC.ret ?_)
   | fail)
  · have hil : i < all.length := by omega
    have hrl := hr all[i] (List.getElem_mem _)
    rw [drop_cons hil, aftF] at hinv
    generalize hle : all[i] = l at *
    refine TC.bl 22 fun hll => ?_
    refine TC.lp (fun s : Nat × List Nat => [(5, .hs 2), (7, ints l), (16, rows all), (17, V.int all.length), (18, V.int i), (22, ints l), (23, V.int l.length), (24, V.int s.1)]) (fun s => [graphO pss us 1, .mo es, .gs false Tc.line_set 1 none (s.2.map setA)])
      (fun s => s.2.length = pss.length ∧ (∀ u ∈ s.2, u < 2 ^ 64) ∧ s.1 ≤ l.length ∧ aft pss.length all = aftF (aftL s.2 l (l.drop s.1) s.1) (all.drop (i + 1))) (fun s => l.length - s.1) (0, ss) [0, 1, 2] ⟨hsl, hs64, Nat.zero_le _, hinv⟩ ?_
    clear hs64 hinv hsl
    rintro ⟨k, ss⟩ ⟨hsl, hs64, hk, hinv⟩
    simp only at hsl hs64 hk hinv ⊢
    repeat' (first
     | (with_reducible refine OL.st ?_)
     | (with_reducible refine TC.region ?_)
     | (with_reducible refine TC.seq ?_)
     | (with_reducible refine OL.nil ?_)
     | (with_reducible refine TX.thenN ?_)
     | (with_reducible refine TC.block ?_)
     | (with_reducible refine TC.skip ?_)
     | (with_reducible refine TX.blkN ?_)
     | (with_reducible refine TC.exit ?_)
     | (with_reducible refine TX.hit ?_)
     | (with_reducible refine TX.thenX ?_)
     | (with_reducible refine TC.ifD ?_ ?_ <;> (intro hc; try (exfalso; omega)))
     | fail)
    · have hkl : k < l.length := by omega
      have hck := hrl l[k] (List.getElem_mem _)
      have hcs : l[k].toNat < ss.length := by omega
      have hs0 : ss[l[k].toNat] < 2 ^ 64 := hs64 _ (List.getElem_mem _)
      have hof := s_line_of (l.drop (k + 1)) (fun c hc => by have := hrl c (List.mem_of_mem_drop hc); omega)
      have hofl : ofL (l.drop (k + 1)) < 2 ^ 64 := ofL_lt (l.drop (k + 1)) (fun c hc => by have := hrl c (List.mem_of_mem_drop hc); omega)
      have hor := s_line_set_or ss[l[k].toNat] (ofL (l.drop (k + 1))) hs0 hofl
      have hlt := Nat.or_lt_two_pow hs0 hofl
      rw [drop_cons hkl, aftL, getD_lt hcs] at hinv
      generalize ss[l[k].toNat] ||| ofL (l.drop (k + 1)) = q at *
      have e : (ss.map setA).set l[k].toNat (setA q) = (ss.set l[k].toNat q).map setA := by rw [List.map_set]
      (with_reducible refine TC.draw (id := 8) true 13 14 ?_) <;> (with_reducible refine OD.st 0 ?_) <;> (with_reducible refine OD.st 1 ?_) <;> (with_reducible refine OD.st 2 ?_) <;> (with_reducible refine OD.st 3 ?_) <;> (with_reducible refine OD.st 4 ?_) <;> (with_reducible refine OD.st 5 ?_) <;> (with_reducible refine OD.st 6 ?_) <;> (with_reducible refine OD.st 7 ?_) <;> (with_reducible refine OD.st 8 ?_) <;> (with_reducible refine OD.st 9 ?_) <;> (with_reducible refine OD.c1 10 hof Fn.line_of ?_) <;> (with_reducible refine OD.c1 11 hor Fn.line_set_or ?_) <;> (with_reducible refine OD.st 12 ?_) <;> (with_reducible refine OD.a1 13 ?_; with_reducible refine OL.storeEA ?_; with_reducible refine OL.nil ?_; with_reducible refine TX.od ?_) <;> (with_reducible refine OD.dn ?_)
      repeat' (first
       | (with_reducible refine OL.st ?_)
       | (with_reducible refine TC.region ?_)
       | (with_reducible refine OL.nil ?_)
       | (with_reducible refine TX.thenN ?_)
       | (with_reducible refine TX.blkN ?_)
       | fail)
      refine TX.rd (k + 1, ss.set l[k].toNat q) [0, 1, 2] ⟨by simpa using hsl, fun u hu => ?_, by omega, hinv⟩ (by omega)
      rcases List.mem_or_eq_of_mem_set hu with h | h
      · exact hs64 u h
      · rw [h]; exact hlt
    · rw [drop_nil (by omega)] at hinv
      exact TX.rd (i + 1, ss) [0, 1, 2] ⟨hsl, hs64, by omega, hinv⟩ (by omega)
  · rw [drop_nil (by omega)] at hinv
    have hinv : aft pss.length all = ss := hinv
    rw [hinv]
    skip
    refine TX.vw 4 ?_
    exact TX.rt1 [0, 1] (.ren rfl)
end Go.Proofs
/- line's rings. -/
namespace Go.Proofs
open Go Go.W Go.V
/-- The classes of a graph. -/
def upto (n : Nat) : List Int := (List.range n).map fun (k : Nat) => (k : Int)
theorem upto_succ (n : Nat) : upto (n + 1) = upto n ++ [(n : Int)] := by simp [upto, List.range_succ]
theorem upto_length (n : Nat) : (upto n).length = n := by simp [upto]
theorem mem_upto {n : Nat} {c : Int} : c ∈ upto n ↔ 0 ≤ c ∧ c < n := by
  simp only [upto, List.mem_map, List.mem_range]
  constructor
  · rintro ⟨k, h, rfl⟩; omega
  · intro h; exact ⟨c.toNat, by omega, by omega⟩
def hasB (x : Nat) (c : Int) : Bool := decide (0 ≤ c) && decide (c < 64) && x.testBit c.toNat
def lastI (l : List Int) : Int := l.getD (l.length - 1) 0
theorem lastI_eq {l : List Int} (h : ((l.length : Int) - 1).toNat < l.length) : l[((l.length : Int) - 1).toNat] = lastI l := by
  have e : ((l.length : Int) - 1).toNat = l.length - 1 := by omega
  rw [lastI, getD_lt (by omega)]
  simp only [e]
/-- A class may come next. -/
def okNext (ss : List Nat) (begun : List Int) (c : Int) : Bool := begun.length == 0 || (!begun.contains c && hasB (ss.getD (lastI begun).toNat 0) c)
def ringsF (ss : List Nat) : Nat → List Int → Option (List Int)
  | 0, begun => if hasB (ss.getD (lastI begun).toNat 0) (begun.getD 0 0) then some begun else none
  | n + 1, begun => ((upto ss.length).drop 3).findSome? fun c => if okNext ss begun c then ringsF ss n (begun ++ [c]) else none
def ringA : Option (List Int) → AV
  | none => .raw (.slice none 0 0)
  | some l => ints l
theorem ringsF_ne (ss : List Nat) : ∀ (n : Nat) (b l : List Int), 0 < n + b.length → ringsF ss n b = some l → l ≠ []
  | 0, b, l, h, e => by
    simp only [ringsF] at e
    split at e
    · cases e; intro e; rw [e] at h; simp at h
    · cases e
  | n + 1, b, l, h, e => by
    simp only [ringsF] at e
    obtain ⟨c, _, hc⟩ := List.exists_of_findSome?_eq_some e
    split at hc
    · exact ringsF_ne ss n _ _ (by simp; omega) hc
    · cases hc
set_option maxHeartbeats 1000000 in
theorem s_line_rings (ss : List Nat) (hu : ∀ u ∈ ss, u < 2 ^ 64) (hs64 : ss.length ≤ 19) (n : Nat) (hn : 1 ≤ n) (hn2 : n ≤ 1000) : ∀ (f : Nat) (begun : List Int), f + begun.length = n → (∀ c ∈ begun, 0 ≤ c ∧ c < ss.length) →
    V.Spec Try.prog Fc.line_rings [sets ss, ints begun, V.int n] [] (ringA (ringsF ss f begun)) [] := by
  intro f
  induction f with
  | zero =>
    intro begun hf hr
    refine V.Spec.enter Try.tabOK Try.mixed Fn.line_rings rfl rfl rfl fun B hB => ?_
    have hlt0 : ((begun.length : Int) - 1).toNat < begun.length := by omega
    have hl := hr begun[((begun.length : Int) - 1).toNat] (List.getElem_mem _)
    have hle := lastI_eq hlt0
    have hlu : (begun[((begun.length : Int) - 1).toNat]).toNat < ss.length := by omega
    have hres : ringsF ss 0 begun = if hasB ss[(begun[((begun.length : Int) - 1).toNat]).toNat] begun[0] then some begun else none := by
      rw [ringsF, ← hle, getD_lt (by omega), getD_lt (by omega)]
    have hh := s_line_set_has ss[(begun[((begun.length : Int) - 1).toNat]).toNat] (hu _ (List.getElem_mem _)) begun[0]
    change V.Spec _ _ _ _ (V.bool (hasB _ _)) _ at hh
    rw [hres]
    repeat' (first
     | (with_reducible refine OL.st ?_)
     | (with_reducible refine TC.region ?_)
     | (with_reducible refine TC.seq ?_)
     | (with_reducible refine OL.nil ?_)
     | (with_reducible refine TX.thenN ?_)
     | (with_reducible refine TC.ifD ?_ ?_ <;> (intro hc; try (exfalso; omega)))
     | fail)
    · (with_reducible refine TC.draw (id := 3) true 12 12 ?_) <;> (with_reducible refine OD.st 0 ?_) <;> (with_reducible refine OD.st 1 ?_) <;> (with_reducible refine OD.st 2 ?_) <;> (with_reducible refine OD.st 3 ?_) <;> (with_reducible refine OD.st 4 ?_) <;> (with_reducible refine OD.st 5 ?_) <;> (with_reducible refine OD.st 6 ?_) <;> (with_reducible refine OD.st 7 ?_) <;> (with_reducible refine OD.st 8 ?_) <;> (with_reducible refine OD.st 9 ?_) <;> (with_reducible refine OD.st 10 ?_) <;> (with_reducible refine OD.c1 11 hh Fn.line_set_has ?_) <;> (with_reducible refine OD.dn ?_)
      refine TC.ifB (fun h => ?_) (fun h => ?_)
      · rw [h]
        repeat' (first
         | (with_reducible refine OL.st ?_)
         | (with_reducible refine TC.region ?_)
         | (with_reducible refine TC.seq ?_)
         | (with_reducible refine OL.nil ?_)
         | (with_reducible refine TX.thenN ?_)
         | (with_reducible refine TC.ret ?_)
         | (with_reducible refine TX.thenR ?_)
         | fail)
        exact TX.rt1 [] (.ren rfl)
      · rw [h]
        repeat' (first
         | (with_reducible refine OL.st ?_)
         | (with_reducible refine TC.region ?_)
         | (with_reducible refine TC.seq ?_)
         | (with_reducible refine OL.nil ?_)
         | (with_reducible refine TX.thenN ?_)
         | (with_reducible refine TC.skip ?_)
         | (with_reducible refine TC.ret ?_)
         | (with_reducible refine TX.thenR ?_)
         | fail)
        exact TX.rt1 [] (.ren rfl)
  | succ f ih =>
    intro begun hf hr
    refine V.Spec.enter Try.tabOK Try.mixed Fn.line_rings rfl rfl rfl fun B hB => ?_
    have hbl : begun.length ≤ 1000 := by omega
    have hssl := upto_length ss.length
    repeat' (first
     | (with_reducible refine OL.st ?_)
     | (with_reducible refine TC.region ?_)
     | (with_reducible refine TC.seq ?_)
     | (with_reducible refine OL.nil ?_)
     | (with_reducible refine TX.thenN ?_)
     | (with_reducible refine TC.block ?_)
     | (with_reducible refine TC.skip ?_)
     | (with_reducible refine TC.ifD ?_ ?_ <;> (intro hc; try (exfalso; omega)))
     | fail)
    refine TC.lp (fun c : Nat => [(0, sets ss), (1, ints begun), (2, V.int n), (7, V.int begun.length), (8, V.int c)]) (fun _ => []) (fun c => 3 ≤ c ∧ ringsF ss (f + 1) begun = ((upto ss.length).drop c).findSome? (fun c => if okNext ss begun c then ringsF ss f (begun ++ [c]) else none)) (fun c => ss.length - c) 3 [] ⟨Nat.le_refl _, rfl⟩ ?_
    rintro c ⟨hc3, hinv⟩
    have hstep : ∀ h : c < ss.length, (if okNext ss begun (c : Int) then ringsF ss f (begun ++ [(c : Int)]) else none) = none → ringsF ss (f + 1) begun = ((upto ss.length).drop (c + 1)).findSome? (fun c => if okNext ss begun c then ringsF ss f (begun ++ [c]) else none) := by
      intro h hn0
      have hg : (upto ss.length)[c]'(by omega) = (c : Int) := by simp [upto]
      rw [hinv, drop_cons (by omega), List.findSome?_cons, hg, hn0]
    have hg : ∀ h : c < ss.length, (upto ss.length)[c]'(by omega) = (c : Int) := fun h => by simp [upto]
    have e1 : begun.map V.int ++ [V.int c] = (begun ++ [(c : Int)]).map V.int := by simp
    repeat' (first
     | (with_reducible refine OL.st ?_)
     | (with_reducible refine TC.region ?_)
     | (with_reducible refine TC.seq ?_)
     | (with_reducible refine OL.nil ?_)
     | (with_reducible refine TX.thenN ?_)
     | (with_reducible refine TC.block ?_)
     | (with_reducible refine TC.skip ?_)
     | (with_reducible refine TC.exit ?_)
     | (with_reducible refine TX.hit ?_)
     | (with_reducible refine TX.thenX ?_)
     | (with_reducible refine TC.ifF ?_)
     | (with_reducible refine OL.gOn ?_)
     | (with_reducible refine OL.gOff ?_)
     | (with_reducible refine OL.gUn ?_)
     | (with_reducible refine TC.ifD ?_ ?_ <;> (intro hc; try (exfalso; omega)))
     | (with_reducible refine OL.gD ?_ ?_ <;> (intro hc; try (exfalso; omega)))
     | (with_reducible refine TC.ret ?_)
     | fail)
    · have hcl : c < ss.length := by omega
      replace hg := hg hcl
      have hlt0 : ((begun.length : Int) - 1).toNat < begun.length := by omega
      have hl := hr begun[((begun.length : Int) - 1).toNat] (List.getElem_mem _)
      have hle := lastI_eq hlt0
      have hlu : (begun[((begun.length : Int) - 1).toNat]).toNat < ss.length := by omega
      have hnx : okNext ss begun (c : Int) = (!begun.contains (c : Int) && hasB ss[(begun[((begun.length : Int) - 1).toNat]).toNat] (c : Int)) := by
        have : (begun.length == 0) = false := by simp; intro e; rw [e] at hc; simp at hc
        rw [okNext, this, ← hle, getD_lt (by omega)]; rfl
      have hh := s_line_set_has ss[(begun[((begun.length : Int) - 1).toNat]).toNat] (hu _ (List.getElem_mem _)) c
      change V.Spec _ _ _ _ (V.bool (hasB _ _)) _ at hh
      have hr' : ∀ x ∈ begun ++ [(c : Int)], 0 ≤ x ∧ x < ss.length := by
        intro x hx
        rcases List.mem_append.1 hx with h | h
        · exact hr x h
        · have : x = (c : Int) := by simpa using h
          omega
      refine OL.c (s_slices_Contains_Lint_int begun c) Fn.slices_Contains_Lint_int ?_
      cases hct : begun.contains (c : Int) <;> rw [hct] at hnx
      · repeat' (first | (with_reducible refine OL.st ?_) | (with_reducible refine OL.gOn ?_) | fail)
        refine OL.c hh Fn.line_set_has ?_
        cases hhb : hasB ss[(begun[((begun.length : Int) - 1).toNat]).toNat] (c : Int) <;> rw [hhb] at hnx
        · repeat' (first
           | (with_reducible refine OL.st ?_)
           | (with_reducible refine TC.region ?_)
           | (with_reducible refine OL.nil ?_)
           | (with_reducible refine TX.thenN ?_)
           | (with_reducible refine TC.exit ?_)
           | (with_reducible refine TX.hit ?_)
           | (with_reducible refine TX.thenX ?_)
           | (with_reducible refine TC.ifT ?_)
           | (with_reducible refine OL.gOn ?_)
           | fail)
          have hok : okNext ss begun (c : Int) = false := hnx
          exact TX.rd (c + 1) [] ⟨by omega, hstep hcl (by rw [hok]; rfl)⟩ (by omega)
        · repeat' (first
           | (with_reducible refine OL.st ?_)
           | (with_reducible refine TC.region ?_)
           | (with_reducible refine TC.seq ?_)
           | (with_reducible refine OL.nil ?_)
           | (with_reducible refine TX.thenN ?_)
           | (with_reducible refine TC.skip ?_)
           | (with_reducible refine TC.ifF ?_)
           | (with_reducible refine OL.gOn ?_)
           | fail)
          have hok : okNext ss begun (c : Int) = true := hnx
          refine OL.c (s_slices_Clone_Lint_int begun (by omega)) Fn.slices_Clone_Lint_int ?_
          repeat' (first
           | (with_reducible refine OL.st ?_)
           | (with_reducible refine OL.lit ?_)
           | (with_reducible refine OL.appO ?_)
           | fail)
          refine OL.vwA 1 ?_
          rw [e1]
          refine OL.c (ih (begun ++ [(c : Int)]) (by simp; omega) hr') Fn.line_rings ?_
          cases hres : ringsF ss f (begun ++ [(c : Int)]) with
          | none =>
            repeat' (first
             | (with_reducible refine OL.st ?_)
             | (with_reducible refine TC.region ?_)
             | (with_reducible refine TC.seq ?_)
             | (with_reducible refine OL.nil ?_)
             | (with_reducible refine TX.thenN ?_)
             | fail)
            refine OL.nilNeq ?_
            repeat' (first
             | (with_reducible refine OL.st ?_)
             | (with_reducible refine TC.region ?_)
             | (with_reducible refine OL.nil ?_)
             | (with_reducible refine TX.thenN ?_)
             | (with_reducible refine TC.skip ?_)
             | (with_reducible refine TX.blkN ?_)
             | (with_reducible refine TC.ifF ?_)
             | fail)
            exact TX.rd (c + 1) [] ⟨by omega, hstep hcl (by rw [hres, ite_self])⟩ (by omega)
          | some l =>
            have hfin : ringsF ss (f + 1) begun = some l := by rw [hinv, drop_cons (by omega), List.findSome?_cons, hg, hok, if_pos rfl, hres]
            have hne := ringsF_ne ss f _ _ (by simp; omega) hres
            repeat' (first
             | (with_reducible refine OL.st ?_)
             | (with_reducible refine TC.region ?_)
             | (with_reducible refine TC.seq ?_)
             | (with_reducible refine OL.nil ?_)
             | (with_reducible refine TX.thenN ?_)
             | fail)
            refine OL.notNil (fun h => absurd (List.map_eq_nil_iff.1 h) hne) ?_
            repeat' (first
             | (with_reducible refine OL.st ?_)
             | (with_reducible refine TC.region ?_)
             | (with_reducible refine TC.seq ?_)
             | (with_reducible refine OL.nil ?_)
             | (with_reducible refine TX.thenN ?_)
             | (with_reducible refine TC.ifT ?_)
             | (with_reducible refine TC.ret ?_)
             | (with_reducible refine TX.thenR ?_)
             | (with_reducible refine TX.blkR ?_)
             | fail)
            rw [hfin]
            exact TX.rt1 [] (.ren rfl)
      · repeat' (first
         | (with_reducible refine OL.st ?_)
         | (with_reducible refine TC.region ?_)
         | (with_reducible refine OL.nil ?_)
         | (with_reducible refine TX.thenN ?_)
         | (with_reducible refine TC.exit ?_)
         | (with_reducible refine TX.hit ?_)
         | (with_reducible refine TX.thenX ?_)
         | (with_reducible refine TC.ifT ?_)
         | (with_reducible refine OL.gOn ?_)
         | (with_reducible refine OL.gOff ?_)
         | fail)
        have hok : okNext ss begun (c : Int) = false := hnx
        exact TX.rd (c + 1) [] ⟨by omega, hstep hcl (by rw [hok]; rfl)⟩ (by omega)
    · have hcl : c < ss.length := by omega
      replace hg := hg hcl
      have hb0 : begun = [] := List.eq_nil_of_length_eq_zero (by omega)
      have hok : okNext ss begun (c : Int) = true := by rw [hb0]; rfl
      have hr' : ∀ x ∈ begun ++ [(c : Int)], 0 ≤ x ∧ x < ss.length := by
        intro x hx
        rw [hb0] at hx
        have : x = (c : Int) := by simpa using hx
        omega
      refine OL.c (s_slices_Clone_Lint_int begun (by omega)) Fn.slices_Clone_Lint_int ?_
      repeat' (first
       | (with_reducible refine OL.st ?_)
       | (with_reducible refine OL.lit ?_)
       | (with_reducible refine OL.appO ?_)
       | fail)
      refine OL.vwA 1 ?_
      rw [e1]
      refine OL.c (ih (begun ++ [(c : Int)]) (by simp; omega) hr') Fn.line_rings ?_
      cases hres : ringsF ss f (begun ++ [(c : Int)]) with
      | none =>
        repeat' (first
         | (with_reducible refine OL.st ?_)
         | (with_reducible refine TC.region ?_)
         | (with_reducible refine TC.seq ?_)
         | (with_reducible refine OL.nil ?_)
         | (with_reducible refine TX.thenN ?_)
         | fail)
        refine OL.nilNeq ?_
        repeat' (first
         | (with_reducible refine OL.st ?_)
         | (with_reducible refine TC.region ?_)
         | (with_reducible refine OL.nil ?_)
         | (with_reducible refine TX.thenN ?_)
         | (with_reducible refine TC.skip ?_)
         | (with_reducible refine TX.blkN ?_)
         | (with_reducible refine TC.ifF ?_)
         | fail)
        exact TX.rd (c + 1) [] ⟨by omega, hstep hcl (by rw [hres, ite_self])⟩ (by omega)
      | some l =>
        have hfin : ringsF ss (f + 1) begun = some l := by rw [hinv, drop_cons (by omega), List.findSome?_cons, hg, hok, if_pos rfl, hres]
        have hne := ringsF_ne ss f _ _ (by simp; omega) hres
        repeat' (first
         | (with_reducible refine OL.st ?_)
         | (with_reducible refine TC.region ?_)
         | (with_reducible refine TC.seq ?_)
         | (with_reducible refine OL.nil ?_)
         | (with_reducible refine TX.thenN ?_)
         | fail)
        refine OL.notNil (fun h => absurd (List.map_eq_nil_iff.1 h) hne) ?_
        repeat' (first
         | (with_reducible refine OL.st ?_)
         | (with_reducible refine TC.region ?_)
         | (with_reducible refine TC.seq ?_)
         | (with_reducible refine OL.nil ?_)
         | (with_reducible refine TX.thenN ?_)
         | (with_reducible refine TC.ifT ?_)
         | (with_reducible refine TC.ret ?_)
         | (with_reducible refine TX.thenR ?_)
         | (with_reducible refine TX.blkR ?_)
         | fail)
        rw [hfin]
        exact TX.rt1 [] (.ren rfl)
    · rw [drop_nil (by omega)] at hinv
      rw [hinv]
      exact TX.rt1 [] (.ren rfl)
end Go.Proofs
/- line's all, of a graph that is read for good. -/
namespace Go.Proofs
open Go Go.W Go.V
abbrev graphP (pss : List (List Int)) (us : List Nat) : AV := .ep [rows pss, sets us, .junk] 0
theorem s_line_graph_all (pss : List (List Int)) (us : List Nat) (p : Int → Bool) (hn : pss.length ≤ 1000) :
    V.Spec Try.prog Fc.line_graph_all [graphP pss us, predI Try.prog (· ∈ upto pss.length) p] [] (ints ((upto pss.length).filter p)) [] := by
  refine V.Spec.enter Try.tabOK Try.mixed Fn.line_graph_all rfl rfl rfl fun B hB => ?_
  repeat' (first
   | (with_reducible refine OL.st ?_)
   | (with_reducible refine TC.region ?_)
   | (with_reducible refine TC.seq ?_)
   | (with_reducible refine OL.nil ?_)
   | (with_reducible refine TX.thenN ?_)
   | (with_reducible refine TC.block ?_)
   | fail)
  refine TC.adp 5 Tc.int 1 ?_
  refine TC.lp (fun k : Nat => [(0, graphP pss us), (1, predI Try.prog (· ∈ upto pss.length) p), (5, .hs 0), (11, V.int pss.length), (12, V.int k)]) (fun k => [.gs false Tc.int 1 none ((upto k).map V.int)]) (fun k => k ≤ pss.length) (fun k => pss.length - k) 0 [0] (Nat.zero_le _) ?_
  rintro k hk
  have hul := upto_length k
  repeat' (first
   | (with_reducible refine OL.st ?_)
   | (with_reducible refine OL.lit ?_)
   | (with_reducible refine OL.appO ?_)
   | (with_reducible refine TC.region ?_)
   | (with_reducible refine TC.seq ?_)
   | (with_reducible refine OL.nil ?_)
   | (with_reducible refine TX.thenN ?_)
   | (with_reducible refine TC.block ?_)
   | (with_reducible refine TC.skip ?_)
   | (with_reducible refine TX.blkN ?_)
   | (with_reducible refine TC.exit ?_)
   | (with_reducible refine TX.hit ?_)
   | (with_reducible refine TX.thenX ?_)
   | (with_reducible refine TC.ifD ?_ ?_ <;> (intro hc; try (exfalso; omega)))
   | fail)
  · have e : (upto k).map V.int ++ [V.int k] = (upto (k + 1)).map V.int := by rw [upto_succ]; simp
    exact TX.rd (k + 1) [2] (by omega) (by omega)
  · obtain rfl : k = pss.length := by omega
    refine OL.vwA 0 ?_
    refine OL.c (s_line_keep_int (upto pss.length) p (by omega)) Fn.line_keep_int ?_
    repeat' (first
     | (with_reducible refine OL.st ?_)
     | (with_reducible refine OL.nil ?_)
     | (with_reducible refine TX.thenN ?_)
     | (with_reducible refine TC.ret ?_)
     | fail)
    refine TX.vw 4 ?_
    exact TX.rt1 [] (.ren rfl)
end Go.Proofs
/- line's Conflict. -/
namespace Go.Proofs
open Go Go.W Go.V
/-- The lists of a class of a formed graph; none: an empty one. -/
def allOf (g : List (List Int)) (c : Nat) : List (List Int) := (listsOf (orders g) (pOf g c)).getD []
def ringN (ss : List Nat) (ns : List Nat) : Option (List Int) := ns.findSome? fun n => ringsF ss n []
def conflAt (g : List (List Int)) (c : Nat) : Option (Int × List Int) :=
  if (at_ (orders g) c).length = 0 then (ringN (aft (3 + g.length) (allOf g c)) ((List.range (4 + g.length)).drop 2)).map fun l => ((c : Int), l) else none
def confl (g : List (List Int)) : Option (Int × List Int) := (List.range (3 + g.length)).findSome? (conflAt g)
def conflR (g : List (List Int)) : Int × List Int × Int := if fine g then (match confl g with | some (c, l) => (c, l, 0) | none => (0, [], 5)) else (0, [], 2)
theorem allOf_mem {g : List (List Int)} {c : Nat} (hf : fine g = true) (hc : c < 3 + g.length) : ∀ l ∈ allOf g c, ∀ x ∈ l, 0 ≤ x ∧ x < 3 + (g.length : Int) := by
  intro l hl x hx
  unfold allOf at hl
  cases h : listsOf (orders g) (pOf g c) with
  | none => rw [h] at hl; simp at hl
  | some all =>
    rw [h, Option.getD_some, listsOf_some h] at hl
    obtain ⟨hok, hol⟩ := orders_ok hf
    obtain ⟨_, hp, _⟩ := fine_pOf hf (c := (c : Int)) (by omega)
    rcases List.mem_append.1 hl with h1 | h1
    · obtain ⟨p, hpm, rfl⟩ := List.mem_map.1 h1
      have h2 := (hok.at p).2 x (mem_without.1 hx).1
      have h3 := hp p hpm
      omega
    · simp at h1
      subst h1
      have := hp x hx
      omega
theorem aftL_length (l : List Int) : ∀ (r : List Int) (ss : List Nat) (i : Nat), (aftL ss l r i).length = ss.length
  | [], _, _ => rfl
  | c :: r, ss, i => by rw [aftL, aftL_length l r]; simp
theorem aftF_length : ∀ (all : List (List Int)) (ss : List Nat), (aftF ss all).length = ss.length
  | [], _ => rfl
  | l :: r, ss => by rw [aftF, aftF_length r, aftL_length]
theorem aft_length (n : Nat) (all : List (List Int)) : (aft n all).length = n := by rw [aft, aftF_length]; simp
theorem aft_lt (n : Nat) (all : List (List Int)) (hr : ∀ l ∈ all, ∀ c ∈ l, 0 ≤ c ∧ c < 64) : ∀ u ∈ aft n all, u < 2 ^ 64 := by
  have k1 : ∀ (l r : List Int) (ss : List Nat) (i : Nat), (∀ c ∈ l, 0 ≤ c ∧ c < 64) → (∀ u ∈ ss, u < 2 ^ 64) → ∀ u ∈ aftL ss l r i, u < 2 ^ 64 := by
    intro l r
    induction r with
    | nil => exact fun ss i _ h => h
    | cons c r ih =>
      intro ss i hl h
      refine ih _ _ hl fun u hu => ?_
      rcases List.mem_or_eq_of_mem_set hu with hu | hu
      · exact h u hu
      · rw [hu]
        refine Nat.or_lt_two_pow ?_ (ofL_lt _ fun c hc => hl c (List.mem_of_mem_drop hc))
        rw [List.getD_eq_getElem?_getD]
        cases hq : ss[c.toNat]? with
        | none => simp
        | some v => exact h v (List.mem_of_getElem? hq)
  have k2 : ∀ (all : List (List Int)) (ss : List Nat), (∀ l ∈ all, ∀ c ∈ l, 0 ≤ c ∧ c < 64) → (∀ u ∈ ss, u < 2 ^ 64) → ∀ u ∈ aftF ss all, u < 2 ^ 64 := by
    intro all
    induction all with
    | nil => exact fun ss _ h => h
    | cons l r ih => exact fun ss hr h => ih _ (fun l' hl' => hr l' (by simp [hl'])) (k1 l l ss 0 (hr l (by simp)) h)
  exact k2 all _ hr (by simp)
theorem s_line_graph_listsG (g : List (List Int)) (c : Nat) (hf : fine g = true) (hc : c < 3 + g.length) :
    V.Spec Try.prog Fc.line_graph_lists [.bp 0 0, V.int c] [graphO (parentsOf g) (ups g) 1, .mo (omap (orders g))] (.tp [rows (allOf g c), V.bool (listsOf (orders g) (pOf g c)).isSome]) [graphO (parentsOf g) (ups g) 1, .mo (omap (orders g))] := by
  have hpl := parentsOf_length g
  have hpe : (parentsOf g)[c]'(by omega) = pOf g c := by
    have := parentsOf_get hc
    rw [List.getElem?_eq_getElem (by omega)] at this
    simpa using this
  obtain ⟨hok, hol⟩ := orders_ok hf
  have h16 := fine_len hf
  obtain ⟨hp3, hp, _⟩ := fine_pOf hf (c := (c : Int)) (by omega)
  have h := s_line_graph_lists (parentsOf g) (ups g) (orders g) c (by omega) (by rw [hpe]; intro p h; have := hp p h; omega) (fun o ho => Nat.le_trans (hok.small (by omega) o ho) (by omega)) (by rw [hpe]; omega)
  rw [hpe] at h
  exact h
set_option maxHeartbeats 2000000 in
theorem s_line_Conflict (g : List (List Int)) : V.Spec Try.prog Fc.line_Conflict [rows g] [] (.tp [V.int (conflR g).1, ints (conflR g).2.1, V.int (conflR g).2.2]) [] := by
  refine V.Spec.enter Try.tabOK Try.mixed Fn.line_Conflict rfl rfl rfl fun B hB => ?_
  have ho := s_line_open g []
  have hoks : oks g [] = fine g := by simp [oks]
  rw [openR, openE, hoks] at ho
  repeat' (first
   | (with_reducible refine OL.st ?_)
   | (with_reducible refine TC.region ?_)
   | (with_reducible refine TC.seq ?_)
   | (with_reducible refine OL.nil ?_)
   | (with_reducible refine TX.thenN ?_)
   | fail)
  cases hok : fine g
  · rw [hok] at ho
    simp only [Bool.false_eq_true, if_false] at ho
    refine OL.c ho Fn.line_open ?_
    repeat' (first
     | (with_reducible refine OL.st ?_)
     | (with_reducible refine TC.region ?_)
     | (with_reducible refine TC.seq ?_)
     | (with_reducible refine OL.nil ?_)
     | (with_reducible refine TX.thenN ?_)
     | (with_reducible refine TC.ifT ?_)
     | (with_reducible refine TC.ret ?_)
     | (with_reducible refine TX.thenR ?_)
     | fail)
    refine TX.rt3 [] (.int ?_) (.nil' ?_) (.int ?_) <;> rw [conflR, hok] <;> rfl
  · rw [hok] at ho
    simp only [if_true] at ho
    refine OL.c ho Fn.line_open ?_
    have h16 := fine_len hok
    have hpl : (parentsOf g).length = 3 + g.length := parentsOf_length g
    repeat' (first
     | (with_reducible refine OL.st ?_)
     | (with_reducible refine TC.region ?_)
     | (with_reducible refine TC.seq ?_)
     | (with_reducible refine OL.nil ?_)
     | (with_reducible refine TX.thenN ?_)
     | (with_reducible refine TC.block ?_)
     | (with_reducible refine TC.skip ?_)
     | (with_reducible refine TC.ifF ?_)
     | fail)
    refine TC.lp (fun c : Nat => [(5, .bp 0 0), (24, V.int (parentsOf g).length), (25, V.int c)]) (fun _ => [graphO (parentsOf g) (ups g) 1, .mo (omap (orders g))])
      (fun c => c ≤ (parentsOf g).length ∧ confl g = ((List.range (3 + g.length)).drop c).findSome? (conflAt g)) (fun c => (parentsOf g).length - c) 0 [0, 1] ⟨Nat.zero_le _, rfl⟩ ?_
    rintro c ⟨hc', hinv⟩
    have hstep : ∀ h : c < 3 + g.length, conflAt g c = none → confl g = ((List.range (3 + g.length)).drop (c + 1)).findSome? (conflAt g) := by
      intro h hn
      rw [hinv, drop_cons (by simpa using h), List.findSome?_cons]
      simp only [List.getElem_range, hn]
    have hfound : ∀ (h : c < 3 + g.length) x, conflAt g c = some x → confl g = some x := by
      intro h x hn
      rw [hinv, drop_cons (by simpa using h), List.findSome?_cons]
      simp only [List.getElem_range, hn]
    repeat' (first
     | (with_reducible refine OL.st ?_)
     | (with_reducible refine TC.region ?_)
     | (with_reducible refine TC.seq ?_)
     | (with_reducible refine OL.nil ?_)
     | (with_reducible refine TX.thenN ?_)
     | (with_reducible refine TC.block ?_)
     | (with_reducible refine TC.skip ?_)
     | (with_reducible refine TC.exit ?_)
     | (with_reducible refine TX.hit ?_)
     | (with_reducible refine TX.thenX ?_)
     | (with_reducible refine TC.ifD ?_ ?_ <;> (intro hc; try (exfalso; omega)))
     | (with_reducible refine TC.ret ?_)
     | fail)
    · refine OL.lookup ?_ (look_omap (orders g) c (by omega))
      repeat' (first
       | (with_reducible refine OL.st ?_)
       | (with_reducible refine TC.region ?_)
       | (with_reducible refine TC.seq ?_)
       | (with_reducible refine OL.nil ?_)
       | (with_reducible refine TX.thenN ?_)
       | (with_reducible refine TC.skip ?_)
       | (with_reducible refine TC.exit ?_)
       | (with_reducible refine TX.hit ?_)
       | (with_reducible refine TX.thenX ?_)
       | (with_reducible refine TC.ifD ?_ ?_ <;> (intro hc; try (exfalso; omega)))
       | fail)
      · refine TX.rd (c + 1) [0, 1] ⟨by omega, hstep (by omega) ?_⟩ (by omega)
        rw [conflAt, if_neg (by omega)]
      · have hclt : c < 3 + g.length := by omega
        refine OL.ch [0, 1] (s_line_graph_listsG g c hok hclt) Fn.line_graph_lists ?_
        repeat' (first
         | (with_reducible refine OL.st ?_)
         | (with_reducible refine TC.region ?_)
         | (with_reducible refine TC.seq ?_)
         | (with_reducible refine OL.nil ?_)
         | (with_reducible refine TX.thenN ?_)
         | fail)
        have haf := s_line_graph_after (parentsOf g) (ups g) (omap (orders g)) (allOf g c) (by omega) (by omega) (fun l hl x hx => by have := allOf_mem hok hclt l hl x hx; omega)
        refine OL.ch [0, 1] haf Fn.line_graph_after ?_
        repeat' (first
         | (with_reducible refine OL.st ?_)
         | (with_reducible refine TC.region ?_)
         | (with_reducible refine TC.seq ?_)
         | (with_reducible refine OL.nil ?_)
         | (with_reducible refine TX.thenN ?_)
         | (with_reducible refine TC.block ?_)
         | fail)
        have hcA : conflAt g c = (ringN (aft (3 + g.length) (allOf g c)) ((List.range (4 + g.length)).drop 2)).map fun l => ((c : Int), l) := by rw [conflAt, if_pos (by omega)]
        have hu64 := aft_lt (parentsOf g).length (allOf g c) (fun l hl x hx => by have := allOf_mem hok hclt l hl x hx; omega)
        have hssl := aft_length (parentsOf g).length (allOf g c)
        rw [← hpl] at hcA
        generalize hss : aft (parentsOf g).length (allOf g c) = ss at *
        refine TC.lp (fun n : Nat => [(5, .bp 0 0), (7, V.int c), (10, sets ss), (11, V.int n), (24, V.int (parentsOf g).length), (25, V.int c)]) (fun _ => [graphO (parentsOf g) (ups g) 1, .mo (omap (orders g))])
          (fun n => 2 ≤ n ∧ ringN ss ((List.range (4 + g.length)).drop 2) = ringN ss ((List.range (4 + g.length)).drop n)) (fun n => 4 + g.length - n) 2 [0, 1] ⟨Nat.le_refl _, rfl⟩ ?_
        rintro n ⟨hn2, hrn⟩
        repeat' (first
         | (with_reducible refine OL.st ?_)
         | (with_reducible refine TC.region ?_)
         | (with_reducible refine TC.seq ?_)
         | (with_reducible refine OL.nil ?_)
         | (with_reducible refine TX.thenN ?_)
         | (with_reducible refine TC.block ?_)
         | (with_reducible refine TC.skip ?_)
         | (with_reducible refine TX.blkN ?_)
         | (with_reducible refine TC.exit ?_)
         | (with_reducible refine TX.hit ?_)
         | (with_reducible refine TX.thenX ?_)
         | (with_reducible refine TC.ifD ?_ ?_ <;> (intro hc; try (exfalso; omega)))
         | fail)
        · have hng : (List.range (4 + g.length))[n]'(by simp; omega) = n := by simp
          have hrs : ringN ss ((List.range (4 + g.length)).drop n) = match ringsF ss n [] with | some l => some l | none => ringN ss ((List.range (4 + g.length)).drop (n + 1)) := by
            rw [ringN, drop_cons (by simp; omega), List.findSome?_cons, hng]; cases ringsF ss n [] <;> rfl
          refine OL.c (s_line_rings ss hu64 (by omega) n (by omega) (by omega) n [] (by simp) (by simp)) Fn.line_rings ?_
          cases hres : ringsF ss n [] with
          | none =>
            rw [hres] at hrs
            repeat' (first
             | (with_reducible refine OL.st ?_)
             | (with_reducible refine TC.region ?_)
             | (with_reducible refine TC.seq ?_)
             | (with_reducible refine OL.nil ?_)
             | (with_reducible refine TX.thenN ?_)
             | fail)
            refine OL.nilNeq ?_
            repeat' (first
             | (with_reducible refine OL.st ?_)
             | (with_reducible refine TC.region ?_)
             | (with_reducible refine OL.nil ?_)
             | (with_reducible refine TX.thenN ?_)
             | (with_reducible refine TC.skip ?_)
             | (with_reducible refine TX.blkN ?_)
             | (with_reducible refine TC.ifF ?_)
             | fail)
            exact TX.rd (n + 1) [0, 1] ⟨by omega, hrn.trans hrs⟩ (by omega)
          | some l =>
            rw [hres] at hrs
            have hne := ringsF_ne ss n _ _ (by simp; omega) hres
            have hcf := hfound hclt ((c : Int), l) (by rw [hcA, hrn, hrs]; rfl)
            repeat' (first
             | (with_reducible refine OL.st ?_)
             | (with_reducible refine TC.region ?_)
             | (with_reducible refine TC.seq ?_)
             | (with_reducible refine OL.nil ?_)
             | (with_reducible refine TX.thenN ?_)
             | fail)
            refine OL.notNil (fun h => absurd (List.map_eq_nil_iff.1 h) hne) ?_
            repeat' (first
             | (with_reducible refine OL.st ?_)
             | (with_reducible refine TC.region ?_)
             | (with_reducible refine TC.seq ?_)
             | (with_reducible refine OL.nil ?_)
             | (with_reducible refine TX.thenN ?_)
             | (with_reducible refine TC.ifT ?_)
             | (with_reducible refine TC.ret ?_)
             | (with_reducible refine TX.thenR ?_)
             | (with_reducible refine TX.blkR ?_)
             | fail)
            rw [conflR, if_pos hok, hcf]
            exact TX.rt3 [] (.ren rfl) (.ren rfl) (.ren rfl)
        · have : ringN ss ((List.range (4 + g.length)).drop 2) = none := by rw [hrn, drop_nil (by simp; omega)]; rfl
          exact TX.rd (c + 1) [0, 1] ⟨by omega, hstep hclt (by rw [hcA, this]; rfl)⟩ (by omega)
    · have hnone : confl g = none := by rw [hinv, drop_nil (by simp; omega)]; rfl
      refine TX.rt3 [] (.int ?_) (.nil' ?_) (.int ?_) <;> rw [conflR, if_pos hok, hnone] <;> rfl
end Go.Proofs
/- line's asked and Least. -/
namespace Go.Proofs
open Go Go.W Go.V
def asks (g : List (List Int)) (l : List Int) : Bool := decide (l.length ≤ 16) && oks g l
theorem s_line_asked (g : List (List Int)) (l : List Int) : V.Spec Try.prog Fc.line_asked [rows g, ints l] [] (if asks g l then .tp [.bp 0 0, V.bool true] else .tp [.raw (.pointer none), V.bool false]) (if asks g l then [graphO (parentsOf g) (ups g) 1, .mo (omap (orders g))] else []) := by
  refine V.Spec.enter Try.tabOK Try.mixed Fn.line_asked rfl rfl rfl fun B hB => ?_
  have ho := s_line_open g l
  rw [openR, openE] at ho
  repeat' (first
   | (with_reducible refine OL.st ?_)
   | (with_reducible refine TC.region ?_)
   | (with_reducible refine TC.seq ?_)
   | (with_reducible refine OL.nil ?_)
   | (with_reducible refine TX.thenN ?_)
   | (with_reducible refine TC.skip ?_)
   | (with_reducible refine TC.ifD ?_ ?_ <;> (intro hc; try (exfalso; omega)))
   | (with_reducible refine TC.ret ?_)
   | (with_reducible refine TX.thenR ?_)
   | fail)
  · have : asks g l = false := by
      have : decide (l.length ≤ 16) = false := by simp; omega
      rw [asks, this]; rfl
    rw [this]
    exact TX.rt2 [] (.ren rfl) (.ren rfl)
  · have : asks g l = oks g l := by
      have : decide (l.length ≤ 16) = true := by simp; omega
      rw [asks, this]; rfl
    rw [this]
    cases hok : oks g l <;> rw [hok] at ho
    · simp only [Bool.false_eq_true, if_false] at ho ⊢
      refine OL.c ho Fn.line_open ?_
      repeat' (first
       | (with_reducible refine OL.st ?_)
       | (with_reducible refine OL.nil ?_)
       | (with_reducible refine TX.thenN ?_)
       | (with_reducible refine TC.ret ?_)
       | fail)
      exact TX.rt2 [] (.ren rfl) (.ren rfl)
    · simp only [if_true] at ho ⊢
      refine OL.c ho Fn.line_open ?_
      repeat' (first
       | (with_reducible refine OL.st ?_)
       | (with_reducible refine OL.nil ?_)
       | (with_reducible refine TX.thenN ?_)
       | (with_reducible refine TC.ret ?_)
       | fail)
      exact TX.rt2 [0, 1] (.ren rfl) (.ren rfl)
def commonOf (g : List (List Int)) (l : List Int) : Nat := l.foldl (fun s c => s &&& (ups g).getD c.toNat 0) (ofL (upto (3 + g.length)))
def comK (g : List (List Int)) (l : List Int) (i : Nat) : Nat := (l.take i).foldl (fun s c => s &&& (ups g).getD c.toNat 0) (ofL (upto (3 + g.length)))
theorem comK_succ {g l i} (h : i < l.length) (hp : l[i].toNat < (ups g).length) : comK g l (i + 1) = comK g l i &&& (ups g)[l[i].toNat] := by
  unfold comK; rw [take_succ h, List.foldl_append, List.foldl_cons, List.foldl_nil, getD_lt hp]
def upHas (g : List (List Int)) (b c : Int) : Bool := hasB ((ups g).getD b.toNat 0) c
def leastP (g : List (List Int)) (s : Nat) (c : Int) : Bool := hasB s c && !((upto (3 + g.length)).filter (hasB s)).any fun b => b != c && upHas g b c
def leastL (g : List (List Int)) (l : List Int) : List Int := if asks g l then (upto (3 + g.length)).filter (leastP g (commonOf g l)) else []
def leastE (g : List (List Int)) (l : List Int) : Int := if asks g l then 0 else 2
theorem upsF_length : ∀ (r : List (List Int)) (us : List Nat), (upsF us r).length = us.length + r.length
  | [], us => by simp [upsF]
  | p :: r, us => by rw [upsF, upsF_length r]; simp; omega
theorem ups_length (g : List (List Int)) : (ups g).length = 3 + g.length := by rw [ups, upsF_length, parentsOf_length]; simp
theorem asks_mem {g : List (List Int)} {l : List Int} (h : asks g l = true) : l.length ≤ 16 ∧ fine g = true ∧ ∀ c ∈ l, 0 ≤ c ∧ c < 3 + (g.length : Int) := by
  simp only [asks, oks, Bool.and_eq_true, decide_eq_true_eq, List.all_eq_true] at h
  exact ⟨h.1, h.2.1, h.2.2⟩
theorem ofL_upto {g : List (List Int)} (hf : fine g = true) : ∀ c ∈ upto (3 + g.length), 0 ≤ c ∧ c < 64 := by
  intro c hc
  have := mem_upto.1 hc
  have := fine_len hf
  omega
theorem and_lt {x y : Nat} (hx : x < 2 ^ 64) : x &&& y < 2 ^ 64 := Nat.lt_of_le_of_lt Nat.and_le_left hx
/-- All sets of a formed graph fit their words. -/
theorem upsF_lt : ∀ (r : List (List Int)) (us : List Nat), us.length + r.length ≤ 64 → (∀ u ∈ us, u < 2 ^ 64) → ∀ u ∈ upsF us r, u < 2 ^ 64
  | [], us, _, h => h
  | p :: r, us, hl, h => by
    rw [upsF]
    refine upsF_lt r _ (by simp at hl ⊢; omega) fun u hu => ?_
    rcases List.mem_append.1 hu with hu | hu
    · exact h u hu
    · rw [List.mem_singleton.1 hu]
      unfold upOf upK
      have key : ∀ (l : List Int) (s : Nat), s < 2 ^ 64 → l.foldl (fun s p => s ||| us.getD p.toNat 0) s < 2 ^ 64 := by
        intro l
        induction l with
        | nil => exact fun s hs => hs
        | cons a l ih =>
          intro s hs
          refine ih _ (Nat.or_lt_two_pow hs ?_)
          rw [List.getD_eq_getElem?_getD]
          cases hq : us[a.toNat]? with
          | none => simp
          | some v => exact h v (List.mem_of_getElem? hq)
      exact key _ _ (setWith_lt (setWith_lt (by decide) (by simp at hl; omega)) (by omega))
theorem ups_lt {g : List (List Int)} (hf : fine g = true) : ∀ u ∈ ups g, u < 2 ^ 64 := upsF_lt _ [] (by have := fine_len hf; rw [parentsOf_length]; simp; omega) (by simp)
theorem comK_lt {g : List (List Int)} (hf : fine g = true) (l : List Int) (i : Nat) : comK g l i < 2 ^ 64 := by
  have key : ∀ (l : List Int) (s : Nat), s < 2 ^ 64 → l.foldl (fun s c => s &&& (ups g).getD c.toNat 0) s < 2 ^ 64 := by
    intro l
    induction l with
    | nil => exact fun s hs => hs
    | cons a l ih => exact fun s hs => ih _ (and_lt hs)
  exact key _ _ (ofL_lt _ (ofL_upto hf))
theorem s_line_Least_1 (c : Int) : V.Spec Try.prog Fc.line_Least_1 [V.int c] [] (V.bool true) [] := by
  refine V.Spec.enter Try.tabOK Try.mixed Fn.line_Least_1 rfl rfl rfl fun B hB => ?_
  repeat' (first
   | (with_reducible refine OL.st ?_)
   | (with_reducible refine TC.region ?_)
   | (with_reducible refine TC.seq ?_)
   | (with_reducible refine OL.nil ?_)
   | (with_reducible refine TX.thenN ?_)
   | (with_reducible refine TC.ret ?_)
   | fail)
  exact TX.rt1 [] (.ren rfl)
theorem s_has (s : Nat) (hs : s < 2 ^ 64) (c : Int) : V.Spec Try.prog Fc.line_set_has [setA s, V.int c] [] (V.bool (hasB s c)) [] := s_line_set_has s hs c
abbrev gP (g : List (List Int)) : AV := graphP (parentsOf g) (ups g)
theorem s_line_Least_2_1 (g : List (List Int)) (hf : fine g = true) (b c : Int) (hb : 0 ≤ b ∧ b < 3 + (g.length : Int)) :
    V.Spec Try.prog Fc.line_Least_2_1 [V.int b, .ep [V.int c] 0, .ep [gP g] 0] [] (V.bool (b != c && upHas g b c)) [] := by
  refine V.Spec.enter Try.tabOK Try.mixed Fn.line_Least_2_1 rfl rfl rfl fun B hB => ?_
  have hul := ups_length g
  have hlt : b.toNat < (ups g).length := by omega
  have hh := s_has (ups g)[b.toNat] (ups_lt hf _ (List.getElem_mem _)) c
  repeat' (first
   | (with_reducible refine OL.st ?_)
   | (with_reducible refine TC.region ?_)
   | (with_reducible refine TC.seq ?_)
   | (with_reducible refine OL.nil ?_)
   | (with_reducible refine TX.thenN ?_)
   | fail)
  (with_reducible refine TC.draw (id := 1) true 15 15 ?_) <;> (with_reducible refine OD.st 0 ?_) <;> (with_reducible refine OD.st 1 ?_) <;> (with_reducible refine OD.st 2 ?_) <;> (with_reducible refine OD.st 3 ?_) <;> (with_reducible refine OD.sD 8 ?_ ?_ <;> (intro hc; try (exfalso; omega)) <;> (first | (with_reducible refine OD.st 4 ?_) | (with_reducible refine OD.of 4 ?_))) <;> (first | (with_reducible refine OD.st 5 ?_) | (with_reducible refine OD.of 5 ?_)) <;> (first | (with_reducible refine OD.st 6 ?_) | (with_reducible refine OD.of 6 ?_)) <;> (first | (with_reducible refine OD.st 7 ?_) | (with_reducible refine OD.of 7 ?_)) <;> (first | (with_reducible refine OD.st 8 ?_) | (with_reducible refine OD.of 8 ?_)) <;> (first | (with_reducible refine OD.st 9 ?_) | (with_reducible refine OD.of 9 ?_)) <;> (first | (with_reducible refine OD.st 10 ?_) | (with_reducible refine OD.of 10 ?_)) <;> (first | (with_reducible refine OD.st 11 ?_) | (with_reducible refine OD.of 11 ?_)) <;> (first | (with_reducible refine OD.c1 12 hh Fn.line_set_has ?_) | (with_reducible refine OD.of 12 ?_)) <;> (with_reducible refine OD.st 13 ?_) <;> (with_reducible refine OD.st 14 ?_) <;> (with_reducible refine OD.dn ?_)
  all_goals repeat' (first | (with_reducible refine TX.thenN ?_) | (with_reducible refine TC.ret ?_) | fail)
  · refine TX.rt1 [] (.bool ?_)
    have : (b != c) = true := by simpa using hc
    rw [this, upHas, getD_lt (by omega)]; rfl
  · refine TX.rt1 [] (.bool ?_)
    have : (b != c) = false := by simpa using hc
    rw [this]; rfl
theorem s_line_Least_2 (g : List (List Int)) (hf : fine g = true) (s : Nat) (hs : s < 2 ^ 64) (c : Int) :
    V.Spec Try.prog Fc.line_Least_2 [V.int c, .ep [V.u64 s] 0, .ep [gP g] 0] [] (V.bool (leastP g s c)) [] := by
  refine V.Spec.enter Try.tabOK Try.mixed Fn.line_Least_2 rfl rfl rfl fun B hB => ?_
  have h16 := fine_len hf
  have hpl := parentsOf_length g
  have hh := s_has s hs c
  have hul := upto_length (parentsOf g).length
  repeat' (first
   | (with_reducible refine OL.st ?_)
   | (with_reducible refine OL.box ?_)
   | (with_reducible refine TC.region ?_)
   | (with_reducible refine TC.seq ?_)
   | (with_reducible refine OL.nil ?_)
   | (with_reducible refine TX.thenN ?_)
   | fail)
  refine OL.frzB 3 ?_
  refine OL.c hh Fn.line_set_has ?_
  cases hb : hasB s c
  · repeat' (first
     | (with_reducible refine OL.st ?_)
     | (with_reducible refine OL.nil ?_)
     | (with_reducible refine TX.thenN ?_)
     | (with_reducible refine OL.gOff ?_)
     | (with_reducible refine TC.ret ?_)
     | fail)
    refine TX.rt1 [] (.bool ?_)
    rw [leastP, hb]; rfl
  · repeat' (first | (with_reducible refine OL.st ?_) | (with_reducible refine OL.gOn ?_) | fail)
    refine OL.c (s_line_graph_all (parentsOf g) (ups g) (hasB s) (by omega)) Fn.line_graph_all ?_ (hle := by exact ⟨.ren rfl, LE.fun_ (first' := [setA s]) (caps' := []) Fn.line_set_has rfl ⟨.ren rfl, trivial⟩ trivial (fun x _ => s_has s hs x), trivial⟩)
    repeat' (first | (with_reducible refine OL.st ?_) | (with_reducible refine OL.gOn ?_) | fail)
    refine OL.c (s_slices_ContainsFunc_Lint_int ((upto (parentsOf g).length).filter (hasB s)) (fun b => b != c && upHas g b c)) Fn.slices_ContainsFunc_Lint_int ?_ (hle := by exact ⟨.ren rfl, LE.fun_ (first' := []) (caps' := [.ep [V.int c] 0, .ep [gP g] 0]) Fn.line_Least_2_1 rfl trivial ⟨.ren rfl, .ren rfl, trivial⟩ (fun x hx => s_line_Least_2_1 g hf x c (by have := mem_upto.1 (List.mem_filter.1 hx).1; omega)), trivial⟩)
    repeat' (first
     | (with_reducible refine OL.st ?_)
     | (with_reducible refine OL.nil ?_)
     | (with_reducible refine TX.thenN ?_)
     | (with_reducible refine OL.gOn ?_)
     | (with_reducible refine TC.ret ?_)
     | fail)
    refine TX.rt1 [] (.bool ?_)
    rw [leastP, hb, hpl]; rfl
set_option maxHeartbeats 1000000 in
theorem s_line_Least (g : List (List Int)) (l : List Int) : V.Spec Try.prog Fc.line_Least [rows g, ints l] [] (.tp [ints (leastL g l), V.int (leastE g l)]) [] := by
  refine V.Spec.enter Try.tabOK Try.mixed Fn.line_Least rfl rfl rfl fun B hB => ?_
  refine TC.bl 1 fun hll => ?_
  have ho := s_line_asked g l
  repeat' (first
   | (with_reducible refine OL.st ?_)
   | (with_reducible refine TC.region ?_)
   | (with_reducible refine TC.seq ?_)
   | (with_reducible refine OL.nil ?_)
   | (with_reducible refine TX.thenN ?_)
   | fail)
  cases hok : asks g l
  · rw [hok] at ho
    simp only [Bool.false_eq_true, if_false] at ho
    refine OL.c ho Fn.line_asked ?_
    repeat' (first
     | (with_reducible refine OL.st ?_)
     | (with_reducible refine OL.alloc ?_)
     | (with_reducible refine OL.store ?_)
     | (with_reducible refine TC.region ?_)
     | (with_reducible refine TC.seq ?_)
     | (with_reducible refine OL.nil ?_)
     | (with_reducible refine TX.thenN ?_)
     | (with_reducible refine TC.ifT ?_)
     | (with_reducible refine TC.ret ?_)
     | (with_reducible refine TX.thenR ?_)
     | fail)
    refine TX.rt2 [] (.nil' ?_) (.int ?_)
    · rw [leastL, hok]; rfl
    · rw [leastE, hok]; rfl
  · rw [hok] at ho
    simp only [if_true] at ho
    obtain ⟨hl16, hf, hlm⟩ := asks_mem hok
    have hpl := parentsOf_length g
    have hul := ups_length g
    have h16 := fine_len hf
    have hall := ofL_lt (upto (3 + g.length)) (ofL_upto hf)
    refine OL.c ho Fn.line_asked ?_
    with_reducible refine OL.st ?_
    with_reducible refine OL.st ?_
    refine OL.frzJ 15 ?_
    repeat' (first
     | (with_reducible refine OL.st ?_)
     | (with_reducible refine OL.alloc ?_)
     | (with_reducible refine OL.store ?_)
     | (with_reducible refine TC.region ?_)
     | (with_reducible refine TC.seq ?_)
     | (with_reducible refine OL.nil ?_)
     | (with_reducible refine TX.thenN ?_)
     | (with_reducible refine TC.skip ?_)
     | (with_reducible refine TC.ifF ?_)
     | fail)
    refine OL.c (s_line_graph_all (parentsOf g) (ups g) (fun _ => true) (by omega)) Fn.line_graph_all ?_ (hle := by exact ⟨.ren rfl, .fun0 Fn.line_Least_1 (fun c _ => s_line_Least_1 c), trivial⟩)
    have hflt : ((upto (parentsOf g).length).filter fun _ => true) = upto (3 + g.length) := by rw [hpl]; simp
    rw [hflt]
    refine OL.c (s_line_of (upto (3 + g.length)) (ofL_upto hf)) Fn.line_of ?_
    repeat' (first
     | (with_reducible refine OL.st ?_)
     | (with_reducible refine OL.alloc ?_)
     | (with_reducible refine OL.storeAgg ?_)
     | (with_reducible refine TC.region ?_)
     | (with_reducible refine TC.seq ?_)
     | (with_reducible refine OL.nil ?_)
     | (with_reducible refine TX.thenN ?_)
     | (with_reducible refine TC.block ?_)
     | fail)
    refine TC.lp (fun i : Nat => [(6, .bp 0 0), (8, .bp 1 0), (22, ints l), (23, V.int l.length), (24, V.int i)]) (fun i => [.cb 71 [gP g], .cb Tc.line_set [V.u64 (comK g l i)]])
      (fun i => i ≤ l.length) (fun i => l.length - i) 0 [2, 3] (Nat.zero_le _) ?_
    rintro i hi
    have hcl : comK g l i < 2 ^ 64 := comK_lt hf l i
    repeat' (first
     | (with_reducible refine OL.st ?_)
     | (with_reducible refine TC.region ?_)
     | (with_reducible refine TC.seq ?_)
     | (with_reducible refine OL.nil ?_)
     | (with_reducible refine TX.thenN ?_)
     | (with_reducible refine TC.block ?_)
     | (with_reducible refine TC.skip ?_)
     | (with_reducible refine TC.exit ?_)
     | (with_reducible refine TX.hit ?_)
     | (with_reducible refine TX.thenX ?_)
     | (with_reducible refine TC.ifD ?_ ?_ <;> (intro hc; try (exfalso; omega)))
     | fail)
    · have hci := hlm l[i] (List.getElem_mem _)
      have hlt : l[i].toNat < (ups g).length := by omega
      have han := s_line_set_and (comK g l i) (ups g)[l[i].toNat] hcl (ups_lt hf _ (List.getElem_mem _))
      rw [← comK_succ (by omega) hlt] at han
      (with_reducible refine TC.draw (id := 8) true 9 10 ?_) <;> (with_reducible refine OD.st 0 ?_) <;> (with_reducible refine OD.st 1 ?_) <;> (with_reducible refine OD.st 2 ?_) <;> (with_reducible refine OD.st 3 ?_) <;> (with_reducible refine OD.st 4 ?_) <;> (with_reducible refine OD.st 5 ?_) <;> (with_reducible refine OD.st 6 ?_) <;> (with_reducible refine OD.st 7 ?_) <;> (with_reducible refine OD.c1 8 han Fn.line_set_and ?_) <;> (with_reducible refine OD.a1 9 ?_; with_reducible refine OL.storeAgg ?_; with_reducible refine OL.nil ?_; with_reducible refine TX.od ?_) <;> (with_reducible refine OD.dn ?_)
      repeat' (first
       | (with_reducible refine OL.st ?_)
       | (with_reducible refine TC.region ?_)
       | (with_reducible refine OL.nil ?_)
       | (with_reducible refine TX.thenN ?_)
       | (with_reducible refine TX.blkN ?_)
       | fail)
      exact TX.rd (i + 1) [0, 1] (by omega) (by omega)
    · have e1 : comK g l i = commonOf g l := by rw [show i = l.length by omega, comK, take_all (by omega)]; rfl
      rw [e1] at hcl ⊢
      refine OL.frzA 0 ?_
      refine OL.frzA 1 ?_
      refine OL.c (s_line_graph_all (parentsOf g) (ups g) (leastP g (commonOf g l)) (by omega)) Fn.line_graph_all ?_ (hle := by exact ⟨.ren rfl, LE.fun_ (first' := []) (caps' := [.ep [V.u64 (commonOf g l)] 0, .ep [gP g] 0]) Fn.line_Least_2 rfl trivial ⟨.ren rfl, .ren rfl, trivial⟩ (fun x _ => s_line_Least_2 g hf (commonOf g l) hcl x), trivial⟩)
      repeat' (first
       | (with_reducible refine OL.st ?_)
       | (with_reducible refine OL.nil ?_)
       | (with_reducible refine TX.thenN ?_)
       | (with_reducible refine TC.ret ?_)
       | fail)
      refine TX.rt2 [] (.sl' ?_) (.int ?_)
      · rw [leastL, if_pos hok, hpl]
      · rw [leastE, if_pos hok]
end Go.Proofs
/- line's Spans. -/
namespace Go.Proofs
open Go Go.W Go.V
abbrev spA (p : Int × Int) : AV := .st [V.int p.1, V.int p.2]
abbrev spansA (l : List (Int × Int)) : AV := .sl 2 none (l.map spA)
abbrev spanRows (g : List (List (Int × Int))) : AV := .sl 1 none (g.map spansA)
def spanStep (l : List (Int × Int)) (i : Int) : List (Int × Int) :=
  if 0 < l.length ∧ (l.getD (l.length - 1) (0, 0)).2 = i - 1 then l.set (l.length - 1) ((l.getD (l.length - 1) (0, 0)).1, i) else l ++ [(i, i)]
def spanOf (is : Int → Bool) : List Int → Int → List (Int × Int) → List (Int × Int)
  | [], _, l => l
  | b :: r, i, l => spanOf is r (i + 1) (if is b then spanStep l i else l)
def spansOk (g : List (List Int)) (num : List Int) : Bool := decide (num.length = 3 + g.length) && (oks g num && ofL num == ofL (upto (3 + g.length)))
def spansL (g : List (List Int)) (num : List Int) : List (List (Int × Int)) := if spansOk g num then (upto (3 + g.length)).map fun c => spanOf (fun b => upHas g b c) num 0 [] else []
def spansE (g : List (List Int)) (num : List Int) : Int := if spansOk g num then 0 else 2
theorem s_line_Spans_1 (c : Int) : V.Spec Try.prog Fc.line_Spans_1 [V.int c] [] (V.bool true) [] := by
  refine V.Spec.enter Try.tabOK Try.mixed Fn.line_Spans_1 rfl rfl rfl fun B hB => ?_
  repeat' (first
   | (with_reducible refine OL.st ?_)
   | (with_reducible refine TC.region ?_)
   | (with_reducible refine TC.seq ?_)
   | (with_reducible refine OL.nil ?_)
   | (with_reducible refine TX.thenN ?_)
   | (with_reducible refine TC.ret ?_)
   | fail)
  exact TX.rt1 [] (.ren rfl)
theorem eqGuard82 : Try.prog.eqGuardType Try.prog.depth 82 = false := by kernel_rfl
theorem spanStep_length (l : List (Int × Int)) (i : Int) : (spanStep l i).length ≤ l.length + 1 := by
  unfold spanStep; split <;> simp
set_option maxHeartbeats 2000000 in
theorem s_line_Spans (g : List (List Int)) (num : List Int) (hgl : g.length ≤ 1000000) : V.Spec Try.prog Fc.line_Spans [rows g, ints num] [] (.tp [spanRows (spansL g num), V.int (spansE g num)]) [] := by
  refine V.Spec.enter Try.tabOK Try.mixed Fn.line_Spans rfl rfl rfl fun B hB => ?_
  refine TC.bl 1 fun hnl => ?_
  have ho := s_line_open g num
  rw [openR, openE] at ho
  repeat' (first
   | (with_reducible refine OL.st ?_)
   | (with_reducible refine TC.region ?_)
   | (with_reducible refine TC.seq ?_)
   | (with_reducible refine OL.nil ?_)
   | (with_reducible refine TX.thenN ?_)
   | (with_reducible refine TC.skip ?_)
   | (with_reducible refine TC.ifD ?_ ?_ <;> (intro hc; try (exfalso; omega)))
   | (with_reducible refine TC.ret ?_)
   | (with_reducible refine TX.thenR ?_)
   | fail)
  · have : spansOk g num = false := by
      have : decide (num.length = 3 + g.length) = false := by simp; omega
      rw [spansOk, this]; rfl
    refine TX.rt2 [] (.nil' ?_) (.int ?_)
    · rw [spansL, this]; rfl
    · rw [spansE, this]; rfl
  · have hlen : num.length = 3 + g.length := by omega
    have hd : decide (num.length = 3 + g.length) = true := by simpa using hlen
    cases hok : oks g num
    · rw [hok] at ho
      simp only [Bool.false_eq_true, if_false] at ho
      refine OL.c ho Fn.line_open ?_
      repeat' (first
       | (with_reducible refine OL.st ?_)
       | (with_reducible refine TC.region ?_)
       | (with_reducible refine TC.seq ?_)
       | (with_reducible refine OL.nil ?_)
       | (with_reducible refine TX.thenN ?_)
       | (with_reducible refine TC.ifT ?_)
       | (with_reducible refine OL.gOff ?_)
       | (with_reducible refine TC.ret ?_)
       | (with_reducible refine TX.thenR ?_)
       | fail)
      have : spansOk g num = false := by rw [spansOk, hd, hok]; rfl
      refine TX.rt2 [] (.nil' ?_) (.int ?_)
      · rw [spansL, this]; rfl
      · rw [spansE, this]; rfl
    · rw [hok] at ho
      simp only [if_true] at ho
      have hf : fine g = true := by simp only [oks, Bool.and_eq_true] at hok; exact hok.1
      have hm : ∀ c ∈ num, 0 ≤ c ∧ c < 3 + (g.length : Int) := by
        simp only [oks, Bool.and_eq_true, List.all_eq_true, decide_eq_true_eq] at hok
        exact hok.2
      have h16 := fine_len hf
      have hpl := parentsOf_length g
      have hul := ups_length g
      have h1 := s_line_of num (fun c hc => by have := hm c hc; omega)
      have h2 := s_line_of (upto (3 + g.length)) (ofL_upto hf)
      refine OL.c ho Fn.line_open ?_
      with_reducible refine OL.st ?_
      with_reducible refine OL.st ?_
      refine OL.frzJ 24 ?_
      repeat' (first
       | (with_reducible refine OL.st ?_)
       | (with_reducible refine TC.region ?_)
       | (with_reducible refine TC.seq ?_)
       | (with_reducible refine OL.nil ?_)
       | (with_reducible refine TX.thenN ?_)
       | (with_reducible refine OL.gOn ?_)
       | fail)
      refine OL.c h1 Fn.line_of ?_
      repeat' (first | (with_reducible refine OL.st ?_) | (with_reducible refine OL.gOn ?_) | fail)
      refine OL.c (s_line_graph_all (parentsOf g) (ups g) (fun _ => true) (by omega)) Fn.line_graph_all ?_ (hle := by exact ⟨.ren rfl, .fun0 Fn.line_Spans_1 (fun c _ => s_line_Spans_1 c), trivial⟩)
      have hflt : ((upto (parentsOf g).length).filter fun _ => true) = upto (3 + g.length) := by rw [hpl]; simp
      rw [hflt]
      repeat' (first | (with_reducible refine OL.gOn ?_) | fail)
      refine OL.c h2 Fn.line_of ?_
      repeat' (first | (with_reducible refine OL.gOn ?_) | fail)
      refine OL.neA1 ?_ eqGuard82
      cases heq : (((ofL num : Nat) : Int) == ((ofL (upto (3 + g.length)) : Nat) : Int))
      · repeat' (first
         | (with_reducible refine OL.st ?_)
         | (with_reducible refine TC.region ?_)
         | (with_reducible refine TC.seq ?_)
         | (with_reducible refine OL.nil ?_)
         | (with_reducible refine TX.thenN ?_)
         | (with_reducible refine TC.ifT ?_)
         | (with_reducible refine TC.ret ?_)
         | (with_reducible refine TX.thenR ?_)
         | fail)
        have : spansOk g num = false := by
          have : (ofL num == ofL (upto (3 + g.length))) = false := by
            rw [beq_eq_false_iff_ne]; intro e; rw [e] at heq; simp at heq
          rw [spansOk, hd, hok, this]; rfl
        refine TX.rt2 [] (.nil' ?_) (.int ?_)
        · rw [spansL, this]; rfl
        · rw [spansE, this]; rfl
      · have hso : spansOk g num = true := by
          have : (ofL num == ofL (upto (3 + g.length))) = true := by
            rw [beq_iff_eq]; exact Int.ofNat.inj (by simpa using heq)
          rw [spansOk, hd, hok, this]; rfl
        rw [spansL, spansE, if_pos hso, if_pos hso]
        repeat' (first
         | (with_reducible refine OL.st ?_)
         | (with_reducible refine TC.region ?_)
         | (with_reducible refine TC.seq ?_)
         | (with_reducible refine OL.nil ?_)
         | (with_reducible refine TX.thenN ?_)
         | (with_reducible refine TC.block ?_)
         | (with_reducible refine TC.skip ?_)
         | (with_reducible refine TC.ifF ?_)
         | fail)
        refine TC.adp 8 40 1 ?_
        clear ho h1 h2
        refine TC.lp (fun c : Nat => [(1, ints num), (6, gP g), (8, .hs 0), (40, V.int (parentsOf g).length), (41, V.int c)]) (fun c => [.gs false 40 1 none (((upto c).map fun c => spanOf (fun b => upHas g b c) num 0 []).map spansA)])
          (fun c => c ≤ 3 + g.length) (fun c => 3 + g.length - c) 0 [2] (Nat.zero_le _) ?_
        rintro c hc
        have hcu := upto_length c
        repeat' (first
         | (with_reducible refine OL.st ?_)
         | (with_reducible refine TC.region ?_)
         | (with_reducible refine TC.seq ?_)
         | (with_reducible refine OL.nil ?_)
         | (with_reducible refine TX.thenN ?_)
         | (with_reducible refine TC.block ?_)
         | (with_reducible refine TC.skip ?_)
         | (with_reducible refine TC.exit ?_)
         | (with_reducible refine TX.hit ?_)
         | (with_reducible refine TX.thenX ?_)
         | (with_reducible refine TC.ifD ?_ ?_ <;> (intro hc; try (exfalso; omega)))
         | (with_reducible refine TC.ret ?_)
         | fail)
        · refine TC.adp 10 70 2 ?_
          refine TC.lp (fun s : Nat × List (Int × Int) => [(1, ints num), (6, gP g), (8, .hs 0), (9, V.int c), (10, .hs 1), (40, V.int (parentsOf g).length), (41, V.int c), (44, ints num), (45, V.int num.length), (46, V.int s.1)]) (fun s => [.gs false 40 1 none (((upto c).map fun c => spanOf (fun b => upHas g b c) num 0 []).map spansA), .gs false 70 2 none (s.2.map spA)])
            (fun s => s.1 ≤ num.length ∧ s.2.length ≤ s.1 ∧ spanOf (fun b => upHas g b c) num 0 [] = spanOf (fun b => upHas g b c) (num.drop s.1) s.1 s.2) (fun s => num.length - s.1) (0, []) [0, 1] ⟨Nat.zero_le _, Nat.le_refl _, rfl⟩ ?_
          rintro ⟨i, l⟩ ⟨hi, hll, hinv⟩
          simp only at hi hll hinv ⊢
          by_cases hil : i < num.length
          · have hni := hm num[i] (List.getElem_mem _)
            rw [drop_cons hil, spanOf] at hinv
            have hbl : num[i].toNat < (ups g).length := by omega
            have hh := s_has (ups g)[num[i].toNat] (ups_lt hf _ (List.getElem_mem _)) c
            have hup : upHas g num[i] c = hasB (ups g)[num[i].toNat] c := by rw [upHas, getD_lt hbl]
            rw [← hup] at hh
            repeat' (first
             | (with_reducible refine OL.st ?_)
             | (with_reducible refine TC.region ?_)
             | (with_reducible refine TC.seq ?_)
             | (with_reducible refine OL.nil ?_)
             | (with_reducible refine TX.thenN ?_)
             | (with_reducible refine TC.block ?_)
             | (with_reducible refine TC.skip ?_)
             | (with_reducible refine TC.ifD ?_ ?_ <;> (intro hc; try (exfalso; omega)))
             | fail)
            refine OL.c hh Fn.line_set_has ?_
            cases hu : upHas g num[i] c
            · rw [hu] at hinv
              simp only [Bool.false_eq_true, if_false] at hinv
              repeat' (first
               | (with_reducible refine OL.st ?_)
               | (with_reducible refine TC.region ?_)
               | (with_reducible refine OL.nil ?_)
               | (with_reducible refine TX.thenN ?_)
               | (with_reducible refine TC.exit ?_)
               | (with_reducible refine TX.hit ?_)
               | (with_reducible refine TX.thenX ?_)
               | (with_reducible refine TC.ifT ?_)
               | fail)
              exact TX.rd (i + 1, l) [0, 1] ⟨by omega, Nat.le_trans hll (Nat.le_succ _), by simpa using hinv⟩ (by omega)
            · rw [hu] at hinv
              simp only [if_true] at hinv
              have hsl := spanStep_length l i
              have hnext : num.length - (i + 1) < num.length - i := by omega
              have hlast : ∀ h : ((l.length : Int) - 1).toNat < l.length, l.getD (l.length - 1) (0, 0) = l[((l.length : Int) - 1).toNat] := by
                intro h
                have : ((l.length : Int) - 1).toNat = l.length - 1 := by omega
                rw [List.getD_eq_getElem?_getD, List.getElem?_eq_getElem (by omega)]
                simp only [this, Option.getD_some]
              have eB : ¬(0 < l.length ∧ (l.getD (l.length - 1) (0, 0)).2 = (i : Int) - 1) → l.map spA ++ [spA ((i : Int), (i : Int))] = (spanStep l i).map spA := by
                intro h
                rw [spanStep, if_neg h]; simp
              repeat' (first
               | (with_reducible refine OL.st ?_)
               | (with_reducible refine OL.lit ?_)
               | (with_reducible refine OL.appO ?_)
               | (with_reducible refine OL.build ?_)
               | (with_reducible refine TC.region ?_)
               | (with_reducible refine TC.seq ?_)
               | (with_reducible refine OL.nil ?_)
               | (with_reducible refine TX.thenN ?_)
               | (with_reducible refine TC.skip ?_)
               | (with_reducible refine TX.blkN ?_)
               | (with_reducible refine TC.ifF ?_)
               | (with_reducible refine OL.gOn ?_)
               | (with_reducible refine OL.gOff ?_)
               | (with_reducible refine TC.ifD ?_ ?_ <;> (intro hc; try (exfalso; omega)))
               | (with_reducible refine OL.gD ?_ ?_ <;> (intro hc; try (exfalso; omega)))
               | fail)
              · have hlt : ((l.length : Int) - 1).toNat < l.length := by omega
                have e : (l.map spA).set ((l.length : Int) - 1).toNat (.st [V.int l[((l.length : Int) - 1).toNat].1, V.int i]) = (spanStep l i).map spA := by
                  rw [spanStep, if_pos ⟨by omega, by rw [hlast hlt]; omega⟩, hlast hlt, List.map_set]
                  congr 1
                  omega
                refine OL.storeE (e' := .st [V.int l[((l.length : Int) - 1).toNat].1, V.int i]) ?_
                repeat' (first
                 | (with_reducible refine OL.st ?_)
                 | (with_reducible refine TC.region ?_)
                 | (with_reducible refine OL.nil ?_)
                 | (with_reducible refine TX.thenN ?_)
                 | (with_reducible refine TC.exit ?_)
                 | (with_reducible refine TX.hit ?_)
                 | (with_reducible refine TX.thenX ?_)
                 | fail)
                exact TX.rd (i + 1, spanStep l i) [0, 1] ⟨by omega, Nat.le_trans hsl (by omega), by simpa using hinv⟩ hnext
              · have e := eB (fun h => by
                  have hlt : ((l.length : Int) - 1).toNat < l.length := by omega
                  rw [hlast hlt] at h; omega)
                exact TX.rd (i + 1, spanStep l i) [0, 3] ⟨by omega, Nat.le_trans hsl (by omega), by simpa using hinv⟩ hnext
              · have e := eB (fun h => by omega)
                exact TX.rd (i + 1, spanStep l i) [0, 3] ⟨by omega, Nat.le_trans hsl (by omega), by simpa using hinv⟩ hnext
          · rw [drop_nil (by omega), spanOf] at hinv
            have e : ((upto c).map fun c => spanOf (fun b => upHas g b c) num 0 []).map spansA ++ [spansA l] = ((upto (c + 1)).map fun c => spanOf (fun b => upHas g b c) num 0 []).map spansA := by
              rw [upto_succ, ← hinv]; simp
            repeat' (first
             | (with_reducible refine OL.st ?_)
             | (with_reducible refine OL.litV ?_)
             | (with_reducible refine OL.lit ?_)
             | (with_reducible refine OL.appO ?_)
             | (with_reducible refine TC.region ?_)
             | (with_reducible refine TC.seq ?_)
             | (with_reducible refine OL.nil ?_)
             | (with_reducible refine TX.thenN ?_)
             | (with_reducible refine TX.blkN ?_)
             | (with_reducible refine TC.exit ?_)
             | (with_reducible refine TX.hit ?_)
             | (with_reducible refine TX.thenX ?_)
             | (with_reducible refine TC.ifD ?_ ?_ <;> (intro hc; try (exfalso; omega)))
             | fail)
            exact TX.rd (c + 1) [3] (by omega) (by omega)
        · obtain rfl : c = 3 + g.length := by omega
          refine TX.vw 4 ?_
          exact TX.rt2 [] (.sl' rfl) (.int rfl)
end Go.Proofs
/- The laws' small functions. -/
namespace Go.Proofs
open Go Go.W Go.V
def largeR (g : List (List Int)) : Bool := g.any fun l => decide (60 < l.length)
def wideR (g : List (List Int)) : Bool := decide (60 < g.length) || largeR g
theorem s_law03_large (g : List (List Int)) : V.Spec Try.prog Fc.law03_large [rows g] [] (V.bool (largeR g)) [] := by
  refine V.Spec.enter Try.tabOK Try.mixed Fn.law03_large rfl rfl rfl fun B hB => ?_
  refine TC.bl 0 fun hl => ?_
  repeat' (first
   | (with_reducible refine OL.st ?_)
   | (with_reducible refine TC.region ?_)
   | (with_reducible refine TC.seq ?_)
   | (with_reducible refine OL.nil ?_)
   | (with_reducible refine TX.thenN ?_)
   | (with_reducible refine TC.block ?_)
   | fail)
  refine TC.lp (fun i : Nat => [(0, rows g), (3, V.int i)]) (fun _ => []) (fun i => i ≤ g.length ∧ (g.take i).any (fun l => decide (60 < l.length)) = false) (fun i => g.length - i) 0 [] ⟨Nat.zero_le _, rfl⟩ ?_
  rintro i ⟨hi, hinv⟩
  have hnext : ∀ h : i < g.length, (g.take (i + 1)).any (fun l => decide (60 < l.length)) = decide (60 < g[i].length) := by
    intro h
    rw [take_succ h, List.any_append, hinv]; simp
  repeat' (first
   | (with_reducible refine OL.st ?_)
   | (with_reducible refine TC.region ?_)
   | (with_reducible refine TC.seq ?_)
   | (with_reducible refine OL.nil ?_)
   | (with_reducible refine TX.thenN ?_)
   | (with_reducible refine TC.block ?_)
   | (with_reducible refine TC.skip ?_)
   | (with_reducible refine TX.blkN ?_)
   | (with_reducible refine TC.exit ?_)
   | (with_reducible refine TX.hit ?_)
   | (with_reducible refine TX.thenX ?_)
   | (with_reducible refine TC.ifD ?_ ?_ <;> (intro hc; try (exfalso; omega)))
   | (with_reducible refine TC.ret ?_)
   | (with_reducible refine TX.thenR ?_)
   | (with_reducible refine TX.blkR ?_)
   | fail)
  · have : largeR g = true := by
      rw [largeR, List.any_eq_true]
      exact ⟨g[i], List.getElem_mem _, by simp; omega⟩
    rw [this]
    exact TX.rt1 [] (.ren rfl)
  · refine TX.rd (i + 1) [] ⟨by omega, ?_⟩ (by omega)
    rw [hnext (by omega)]
    simp; omega
  · rw [take_all (by omega)] at hinv
    rw [largeR, hinv]
    exact TX.rt1 [] (.ren rfl)
theorem s_law03_wide (g : List (List Int)) : V.Spec Try.prog Fc.law03_wide [rows g] [] (V.bool (wideR g)) [] := by
  refine V.Spec.enter Try.tabOK Try.mixed Fn.law03_wide rfl rfl rfl fun B hB => ?_
  repeat' (first
   | (with_reducible refine OL.st ?_)
   | (with_reducible refine TC.region ?_)
   | (with_reducible refine TC.seq ?_)
   | (with_reducible refine OL.nil ?_)
   | (with_reducible refine TX.thenN ?_)
   | (with_reducible refine OL.gOn ?_)
   | (with_reducible refine OL.gOff ?_)
   | (with_reducible refine OL.gD ?_ ?_ <;> (intro hc; try (exfalso; omega)))
   | (with_reducible refine TC.ret ?_)
   | fail)
  · refine TX.rt1 [] (.bool ?_)
    have : decide (60 < g.length) = true := by simp; omega
    rw [wideR, this]; rfl
  · refine OL.c (s_law03_large g) Fn.law03_large ?_
    repeat' (first
     | (with_reducible refine OL.st ?_)
     | (with_reducible refine OL.nil ?_)
     | (with_reducible refine TX.thenN ?_)
     | (with_reducible refine TC.ret ?_)
     | fail)
    refine TX.rt1 [] (.bool ?_)
    have : decide (60 < g.length) = false := by simp; omega
    rw [wideR, this]; rfl
def small : List (List Int) := [[], [3], [3], [4, 5]]
def twice : List (List Int) := [[], [3], [3], [4, 5], [5, 4], [6, 7]]
theorem s_law03_Small : V.Spec Try.prog Fc.law03_Small [] [] (.hs 0) [.gs false Tc.Lint 1 none [.raw (.slice none 0 0), ints [3], ints [3], ints [4, 5]]] := by
  refine V.Spec.enter Try.tabOK Try.mixed Fn.law03_Small rfl rfl rfl fun B hB => ?_
  repeat' (first
   | (with_reducible refine OL.st ?_)
   | (with_reducible refine OL.lit ?_)
   | (with_reducible refine TC.region ?_)
   | (with_reducible refine TC.seq ?_)
   | (with_reducible refine OL.nil ?_)
   | (with_reducible refine TX.thenN ?_)
   | fail)
  refine OL.vw 1 ?_
  refine OL.vw 2 ?_
  refine OL.vw 3 ?_
  repeat' (first
   | (with_reducible refine OL.st ?_)
   | (with_reducible refine OL.lit ?_)
   | (with_reducible refine OL.nil ?_)
   | (with_reducible refine TX.thenN ?_)
   | (with_reducible refine TC.ret ?_)
   | fail)
  exact TX.rt1 [3] (.ren rfl)
theorem s_law03_Twice : V.Spec Try.prog Fc.law03_Twice [] [] (rows twice) [] := by
  refine V.Spec.enter Try.tabOK Try.mixed Fn.law03_Twice rfl rfl rfl fun B hB => ?_
  repeat' (first
   | (with_reducible refine OL.st ?_)
   | (with_reducible refine TC.region ?_)
   | (with_reducible refine TC.seq ?_)
   | (with_reducible refine OL.nil ?_)
   | (with_reducible refine TX.thenN ?_)
   | fail)
  refine OL.c s_law03_Small Fn.law03_Small ?_
  repeat' (first | (with_reducible refine OL.lit ?_) | fail)
  refine OL.vw 2 ?_
  refine OL.vw 3 ?_
  repeat' (first
   | (with_reducible refine OL.st ?_)
   | (with_reducible refine OL.lit ?_)
   | (with_reducible refine OL.appO ?_)
   | (with_reducible refine OL.nil ?_)
   | (with_reducible refine TX.thenN ?_)
   | (with_reducible refine TC.ret ?_)
   | fail)
  refine TX.vw 0 ?_
  have e : rows twice = .sl 1 none [ints [], ints [3], ints [3], ints [4, 5], ints [5, 4], ints [6, 7]] := rfl
  rw [e]
  exact TX.rt1 [] (LE.sls (xs := [.raw (.slice none 0 0), ints [3], ints [3], ints [4, 5], ints [5, 4], ints [6, 7]]) ⟨.nil (by decide), .ren rfl, .ren rfl, .ren rfl, .ren rfl, .ren rfl, trivial⟩ rfl rfl)
end Go.Proofs
