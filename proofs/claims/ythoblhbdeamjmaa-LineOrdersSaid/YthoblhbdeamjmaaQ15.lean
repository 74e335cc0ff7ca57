/- Part 15 of what the claim is proved by: lemmas on the model and walks through functions of the program; no conditions. -/
import Derived.Test.YthoblhbdeamjmaaQ14
import Derived.Test.YthoblhbdeamjmaaQ8
import Derived.Test.YthoblhbdeamjmaaQ13
import Derived.Test.YthoblhbdeamjmaaQ10
/- Whether lists are rings; LineConflicts. -/
namespace Go.Proofs
open Go Go.W Go.V
/-! ### Plain: the orders of classes from 3 on hold no class below 3 but 0 -/
def OrdU (acc : List (List Int)) : Prop := ∀ (c : Nat) o, acc[c]? = some o → ∀ x ∈ o, x = 0 ∨ x = (c : Int) ∨ 3 ≤ x
theorem orderOf_U {acc : List (List Int)} (h : OrdU acc) {ps : List Int} (hps : ∀ p ∈ ps, 3 ≤ p) (c : Int) : ∀ x ∈ orderOf acc ps c, x = 0 ∨ x = c ∨ 3 ≤ x := by
  intro x hx
  unfold orderOf at hx
  split at hx
  · simp at hx
  · rename_i all hls
    split at hx
    · rw [List.mem_cons, List.mem_append] at hx
      rcases hx with hx | hx | hx
      · exact .inr (.inl hx)
      · obtain ⟨m, hm, hxm⟩ := merge_mem hx
        rw [listsOf_some hls, List.mem_append] at hm
        rcases hm with hm | hm
        · obtain ⟨p, hp, rfl⟩ := List.mem_map.1 hm
          obtain ⟨h1, h2⟩ := mem_without.1 hxm
          have hp3 := hps p hp
          unfold at_ at h1
          rw [List.getD_eq_getElem?_getD] at h1
          cases hq : acc[p.toNat]? with
          | none => rw [hq] at h1; simp at h1
          | some o =>
            rw [hq] at h1
            rcases h p.toNat o hq x h1 with e | e | e
            · exact absurd e h2
            · right; right; omega
            · exact .inr (.inr e)
        · simp at hm; subst hm
          exact .inr (.inr (hps x hxm))
      · left; simpa using hx
    · simp at hx
theorem ordersF_U : ∀ (r acc : List (List Int)), OrdU acc → (∀ ps ∈ r, ∀ p ∈ ps, 3 ≤ p) → OrdU (ordersF acc r)
  | [], acc, h, _ => h
  | ps :: r, acc, h, hr => by
    rw [ordersF]
    refine ordersF_U r _ (fun c o ho => ?_) (fun q hq => hr q (by simp [hq]))
    rw [List.getElem?_append] at ho
    split at ho
    · exact h c o ho
    · have hc : c = acc.length := by
        have := (List.getElem?_eq_some_iff.1 ho).1
        simp at this; omega
      subst hc
      simp at ho; subst ho
      exact orderOf_U h (hr ps (by simp)) _
theorem orders_U {g : List (List Int)} (hf : fine g = true) : OrdU (orders g) := by
  refine ordersF_U _ _ (fun c o ho x hx => ?_) (fun ps hps p hp => ?_)
  · cases c with
    | zero => simp at ho; subst ho; left; simpa using hx
    | succ c => simp at ho
  · rcases List.mem_append.1 hps with h | h
    · simp at h; subst h; simp at hp
    · obtain ⟨i, hi, rfl⟩ := List.mem_iff_getElem.1 h
      have := (fine_pOf hf (c := ((3 + i : Nat) : Int)) (by omega)).2.1 p
      rw [pOf_ge (by omega), show (((3 + i : Nat) : Int) - 3).toNat = i by omega, getD_lt hi] at this
      exact (this hp).1
theorem allOf_three {g : List (List Int)} {c : Nat} (hf : fine g = true) (hc : c < 3 + g.length) : ∀ l ∈ allOf g c, ∀ x ∈ l, 3 ≤ x ∧ x < 3 + (g.length : Int) := by
  intro l hl x hx
  refine ⟨?_, (allOf_mem hf hc l hl x hx).2⟩
  unfold allOf at hl
  cases h : listsOf (orders g) (pOf g c) with
  | none => rw [h] at hl; simp at hl
  | some all =>
    have hps := (fine_pOf hf (c := (c : Int)) (by omega)).2.1
    rw [h, Option.getD_some, listsOf_some h, List.mem_append] at hl
    rcases hl with hl | hl
    · obtain ⟨p, hp, rfl⟩ := List.mem_map.1 hl
      obtain ⟨h1, h2⟩ := mem_without.1 hx
      have hp3 := hps p hp
      unfold at_ at h1
      rw [List.getD_eq_getElem?_getD] at h1
      cases hq : (orders g)[p.toNat]? with
      | none => rw [hq] at h1; simp at h1
      | some o =>
        rw [hq] at h1
        rcases orders_U hf p.toNat o hq x h1 with e | e | e
        · exact absurd e h2
        · omega
        · exact e
    · simp at hl; subst hl
      exact (hps x hx).1
theorem precB_mem {all : List (List Int)} {a b : Int} (h : precB all a b = true) : ∃ l ∈ all, a ∈ l ∧ b ∈ l := by
  rw [precB, List.any_eq_true] at h
  obtain ⟨l, hl, hp⟩ := h
  simp only [pairP, Bool.and_eq_true, decide_eq_true_eq] at hp
  refine ⟨l, hl, ?_, ?_⟩
  · rcases placeI_ge l a 0 with h | h
    · omega
    · exact h.2
  · rcases placeI_ge l b 0 with h | h
    · omega
    · exact h.2
theorem aft_has {N : Nat} {all : List (List Int)} (hr : ∀ l ∈ all, ∀ c ∈ l, 0 ≤ c ∧ c < (N : Int)) (hn : ∀ l ∈ all, l.Nodup) (hN : N ≤ 64) {a : Int} (ha : 0 ≤ a) (b : Int) : hasB ((aft N all).getD a.toNat 0) b = precB all a b := by
  by_cases hb : 0 ≤ b ∧ b < N
  · exact aft_prec hr hn hN ha hb
  · have e : precB all a b = false := by
      cases h : precB all a b with
      | false => rfl
      | true => obtain ⟨l, hl, _, h2⟩ := precB_mem h; exact absurd (hr l hl b h2) hb
    rw [e]
    by_cases h6 : 0 ≤ b ∧ b < 64
    · obtain ⟨b, rfl⟩ := Int.eq_ofNat_of_zero_le h6.1
      obtain ⟨a, rfl⟩ := Int.eq_ofNat_of_zero_le ha
      have h1 : decide ((b : Int) < 64) = true := by simp; omega
      have h2 : decide (0 ≤ (b : Int)) = true := by simp
      rw [hasB, h1, h2, Bool.true_and, Bool.true_and, aft, Int.toNat_natCast, Int.toNat_natCast, aftF_bit a b all _ (by simpa using hr)]
      have h0 : ((List.replicate N 0).getD a 0).testBit b = false := by
        rw [List.getD_eq_getElem?_getD, List.getElem?_replicate]; split <;> simp
      rw [h0, Bool.false_or, List.any_eq_false]
      intro l hl hq
      exact hb (hr l hl _ (aftP_mem l _ _ hq).2)
    · rw [hasB]
      by_cases h1 : 0 ≤ b
      · have : decide (b < 64) = false := by simp; omega
        rw [this]; simp
      · have : decide (0 ≤ b) = false := by simp; omega
        rw [this]; simp
/-! ### Rings, as the program looks at them -/
def lnAt (ss : List Nat) (N : Int) (l : List Int) (i : Nat) : Bool := (decide (3 ≤ l.getD i 0) && decide (l.getD i 0 < N)) && (!(l.take i).contains (l.getD i 0) && hasB (ss.getD (l.getD i 0).toNat 0) (l.getD (nxt l i) 0))
def lnRing (ss : List Nat) (N : Int) (l : List Int) : Bool := decide (2 ≤ l.length) && (decide ((l.length : Int) ≤ N) && (List.range l.length).all (lnAt ss N l))
theorem nodup_takes {l : List Int} (h : ∀ i, i < l.length → (l.take i).contains (l.getD i 0) = false) : l.Nodup := by
  rw [List.Nodup, List.pairwise_iff_getElem]
  intro i j hi hj hij e
  have h1 := h j hj
  have : (l.take j).contains (l.getD j 0) = true := by
    rw [List.contains_iff_mem, getD_lt hj, ← e]
    exact List.mem_iff_getElem.2 ⟨i, by simp; omega, by rw [List.getElem_take]⟩
  rw [this] at h1; cases h1
theorem lnRing_eq {g : List (List Int)} {c : Nat} (hf : fine g = true) (hc : c < 3 + g.length) (l : List Int) : lnRing (aft (3 + g.length) (allOf g c)) (3 + (g.length : Int)) l = ringB (allOf g c) l := by
  have h16 := fine_len hf
  have h3 := allOf_three hf hc
  have hat : ∀ i, lnAt (aft (3 + g.length) (allOf g c)) (3 + (g.length : Int)) l i = rgAt (allOf g c) l i := fun i => by
    unfold lnAt rgAt
    by_cases hr : 3 ≤ l.getD i 0 ∧ l.getD i 0 < 3 + (g.length : Int)
    · have e1 : decide (3 ≤ l.getD i 0) = true := by simpa using hr.1
      have e2 : decide (l.getD i 0 < 3 + (g.length : Int)) = true := by simpa using hr.2
      rw [e1, e2, Bool.true_and, Bool.true_and, aft_has (fun l' hl' x hx => by have := h3 l' hl' x hx; omega) (allOf_nodup hf hc) (by omega) (by omega)]
    · have e1 : (decide (3 ≤ l.getD i 0) && decide (l.getD i 0 < 3 + (g.length : Int))) = false := by
        rw [Bool.and_eq_false_iff]
        by_cases h : 3 ≤ l.getD i 0
        · exact .inr (decide_eq_false (by omega))
        · exact .inl (decide_eq_false h)
      have e2 : precB (allOf g c) (l.getD i 0) (l.getD (nxt l i) 0) = false := by
        cases h : precB (allOf g c) (l.getD i 0) (l.getD (nxt l i) 0) with
        | false => rfl
        | true => obtain ⟨l', hl', h1, _⟩ := precB_mem h; exact absurd (h3 l' hl' _ h1) hr
      rw [e1, e2]; simp
  rw [lnRing, ringB, show lnAt (aft (3 + g.length) (allOf g c)) (3 + (g.length : Int)) l = rgAt (allOf g c) l from funext hat]
  congr 1
  cases hq : (List.range l.length).all (rgAt (allOf g c) l) with
  | false => simp
  | true =>
    rw [List.all_eq_true] at hq
    have hi : ∀ i, i < l.length → (l.take i).contains (l.getD i 0) = false ∧ precB (allOf g c) (l.getD i 0) (l.getD (nxt l i) 0) = true := fun i h => by
      have := hq i (List.mem_range.2 h)
      simpa [rgAt] using this
    have hnd := nodup_takes fun i h => (hi i h).1
    have := nodup_length (3 + g.length) l hnd (fun x hx => by
      obtain ⟨i, h, rfl⟩ := List.mem_iff_getElem.1 hx
      obtain ⟨l', hl', h1, _⟩ := precB_mem (hi i h).2
      rw [getD_lt h] at h1
      have := h3 l' hl' _ h1
      omega)
    have e : decide ((l.length : Int) ≤ 3 + (g.length : Int)) = true := by simp; omega
    rw [e]; rfl
/-! ### What the API says -/
def irE (g : List (List Int)) (c : Int) : Int := if oks g [c] then (if 3 ≤ c ∧ (listsOf (orders g) (pOf g c)).isSome = true then 0 else 7) else 2
def irB (g : List (List Int)) (c : Int) (l : List Int) : Bool := oks g [c] && (decide (3 ≤ c) && (match listsOf (orders g) (pOf g c) with | some all => ringB all l | none => false))
set_option maxHeartbeats 2000000 in
theorem s_line_IsRing (g : List (List Int)) (c : Int) (l : List Int) : V.Spec Try.prog Fc.line_IsRing [rows g, V.int c, ints l] [] (.tp [V.bool (irB g c l), V.int (irE g c)]) [] := by
  have ho := s_line_open g [c]
  rw [openR, openE] at ho
  rw [irB, irE]
  refine V.Spec.enter Try.tabOK Try.mixed Fn.line_IsRing rfl rfl rfl fun B hB => ?_
  refine TC.bl 2 fun hll => ?_
  repeat' (first
   | (with_reducible refine OL.st ?_)
   | (with_reducible refine OL.lit ?_)
   | (with_reducible refine TC.region ?_)
   | (with_reducible refine TC.seq ?_)
   | (with_reducible refine OL.nil ?_)
   | (with_reducible refine TX.thenN ?_)
   | fail)
  refine OL.vwA 1 ?_
  cases hok : oks g [c] <;> rw [hok] at ho
  · simp only [Bool.false_eq_true, if_false] at ho
    refine OL.c ho Fn.line_open ?_
    repeat' (first
     | (with_reducible refine OL.st ?_)
     | (with_reducible refine TC.region ?_)
     | (with_reducible refine TC.seq ?_)
     | (with_reducible refine OL.nil ?_)
     | (with_reducible refine TX.thenN ?_)
     | (with_reducible refine TC.ifT ?_)
     | (with_reducible refine TC.ret ?_)
     | (with_reducible refine TX.thenR ?_)
     | fail)
    exact TX.rt2 [] (.ren rfl) (.ren rfl)
  · simp only [if_true] at ho
    simp only [Bool.true_and, if_true]
    rw [oks_cls] at hok
    simp only [List.all_cons, List.all_nil, Bool.and_true, Bool.and_eq_true] at hok
    obtain ⟨hf, ha⟩ := hok
    have hac := isClass_iff ha
    have hpl := parentsOf_length g
    have h16 := fine_len hf
    obtain ⟨c, rfl⟩ := Int.eq_ofNat_of_zero_le hac.1
    have hcN : c < 3 + g.length := by omega
    refine OL.c ho Fn.line_open ?_
    repeat' (first
     | (with_reducible refine OL.st ?_)
     | (with_reducible refine TC.region ?_)
     | (with_reducible refine TC.seq ?_)
     | (with_reducible refine OL.nil ?_)
     | (with_reducible refine TX.thenN ?_)
     | (with_reducible refine TC.skip ?_)
     | (with_reducible refine TC.ifF ?_)
     | fail)
    refine OL.ch [1, 2] (s_line_graph_listsG g c hf hcN) Fn.line_graph_lists ?_
    have hln := lnRing_eq hf hcN l
    cases hls : listsOf (orders g) (pOf g c) with
    | none =>
      repeat' (first
       | (with_reducible refine OL.st ?_)
       | (with_reducible refine TC.region ?_)
       | (with_reducible refine TC.seq ?_)
       | (with_reducible refine OL.nil ?_)
       | (with_reducible refine TX.thenN ?_)
       | (with_reducible refine TC.ifT ?_)
       | (with_reducible refine OL.gOn ?_)
       | (with_reducible refine OL.gOff ?_)
       | (with_reducible refine OL.gD ?_ ?_ <;> (intro hc; try (exfalso; omega)))
       | (with_reducible refine TC.ret ?_)
       | (with_reducible refine TX.thenR ?_)
       | fail)
      all_goals refine TX.rt2 [] (.bool ?_) (.int ?_)
      all_goals simp
    | some all =>
      have hall : allOf g c = all := by rw [allOf, hls]; rfl
      rw [hall] at hln ⊢
      have hmem := allOf_mem hf hcN
      rw [hall] at hmem
      dsimp only [Option.isSome_some]
      repeat' (first
       | (with_reducible refine OL.st ?_)
       | (with_reducible refine TC.region ?_)
       | (with_reducible refine TC.seq ?_)
       | (with_reducible refine OL.nil ?_)
       | (with_reducible refine TX.thenN ?_)
       | (with_reducible refine TC.skip ?_)
       | (with_reducible refine TC.ifT ?_)
       | (with_reducible refine TC.ifF ?_)
       | (with_reducible refine OL.gOn ?_)
       | (with_reducible refine OL.gOff ?_)
       | (with_reducible refine TC.ifD ?_ ?_ <;> (intro hc; try (exfalso; omega)))
       | (with_reducible refine OL.gD ?_ ?_ <;> (intro hc; try (exfalso; omega)))
       | (with_reducible refine TC.ret ?_)
       | (with_reducible refine TX.thenR ?_)
       | fail)
      · refine TX.rt2 [] (.bool ?_) (.int ?_)
        · have : decide (3 ≤ (c : Int)) = false := by simp; omega
          rw [this]; rfl
        · rw [if_neg (by omega)]
      all_goals
        have h3 : decide (3 ≤ (c : Int)) = true := by simp; omega
        rw [h3, Bool.true_and, if_pos ⟨by omega, rfl⟩, ← hln, lnRing]
      · have : decide (2 ≤ l.length) = false := by simp; omega
        rw [this, Bool.false_and]
        exact TX.rt2 [] (.ren rfl) (.ren rfl)
      · have : decide ((l.length : Int) ≤ 3 + (g.length : Int)) = false := by simp; omega
        rw [this, Bool.false_and, Bool.and_false]
        exact TX.rt2 [] (.ren rfl) (.ren rfl)
      have e2 : decide (2 ≤ l.length) = true := by simp; omega
      have e3 : decide ((l.length : Int) ≤ 3 + (g.length : Int)) = true := by simp; omega
      rw [e2, e3, Bool.true_and, Bool.true_and]
      have haf := s_line_graph_after (parentsOf g) (ups g) (omap (orders g)) all (by omega) (by omega) (fun l hl x hx => by have := hmem l hl x hx; omega)
      have hu64 := aft_lt (parentsOf g).length all (fun l hl x hx => by have := hmem l hl x hx; omega)
      have hssl := aft_length (parentsOf g).length all
      refine OL.ch [1, 2] haf Fn.line_graph_after ?_
      rw [← hpl]
      generalize hss : aft (parentsOf g).length all = ss at *
      repeat' (first
       | (with_reducible refine OL.st ?_)
       | (with_reducible refine TC.region ?_)
       | (with_reducible refine TC.seq ?_)
       | (with_reducible refine OL.nil ?_)
       | (with_reducible refine TX.thenN ?_)
       | (with_reducible refine TC.block ?_)
       | fail)
      refine TC.lp (fun i : Nat => [(2, ints l), (11, sets ss), (51, ints l), (52, V.int l.length), (53, V.int i)]) (fun _ => []) (fun i => i ≤ l.length ∧ (List.range i).all (lnAt ss (3 + (g.length : Int)) l) = true) (fun i => l.length - i) 0 [] ⟨Nat.zero_le _, rfl⟩ ?_
      rintro i ⟨hi, hinv⟩
      repeat' (first
       | (with_reducible refine OL.st ?_)
       | (with_reducible refine TC.region ?_)
       | (with_reducible refine TC.seq ?_)
       | (with_reducible refine OL.nil ?_)
       | (with_reducible refine TX.thenN ?_)
       | (with_reducible refine TC.block ?_)
       | (with_reducible refine TC.skip ?_)
       | (with_reducible refine TC.exit ?_)
       | (with_reducible refine TX.hit ?_)
       | (with_reducible refine TX.thenX ?_)
       | (with_reducible refine TC.ifD ?_ ?_ <;> (intro hc; try (exfalso; omega)))
       | (with_reducible refine TC.ret ?_)
       | fail)
      · have hil : i < l.length := by omega
        have hnl := nxt_lt hil
        have hnm := nxt_mod hil
        have hg : l[(((i : Int) + 1) % (l.length : Int)).toNat]'(by omega) = l.getD (nxt l i) 0 := by
          rw [getD_lt hnl]; congr 1; omega
        have hh := s_slices_Contains_Lint_int (l.take i) l[i]
        have hbad : lnAt ss (3 + (g.length : Int)) l i = false → (List.range l.length).all (lnAt ss (3 + (g.length : Int)) l) = false := fun h => by
          rw [List.all_eq_false]; exact ⟨i, List.mem_range.2 hil, by simp [h]⟩
        have hat0 : lnAt ss (3 + (g.length : Int)) l i = ((decide (3 ≤ l[i]) && decide (l[i] < 3 + (g.length : Int))) && (!(l.take i).contains l[i] && hasB (ss.getD l[i].toNat 0) (l[(((i : Int) + 1) % (l.length : Int)).toNat]'(by omega)))) := by rw [lnAt, hg, getD_lt hil]
        by_cases hr : 3 ≤ l[i] ∧ l[i] < 3 + (g.length : Int)
        · have hlt : l[i].toNat < ss.length := by omega
          have hs := s_has ss[l[i].toNat] (hu64 _ (List.getElem_mem _)) (l[(((i : Int) + 1) % (l.length : Int)).toNat]'(by omega))
          have d1 : decide (3 ≤ l[i]) = true := by simpa using hr.1
          have d2 : decide (l[i] < 3 + (g.length : Int)) = true := by simpa using hr.2
          rw [d1, d2, Bool.true_and, Bool.true_and, getD_lt hlt] at hat0
          cases hct : (l.take i).contains l[i]
          · rw [hct] at hh hat0
            cases hp : hasB ss[l[i].toNat] (l[(((i : Int) + 1) % (l.length : Int)).toNat]'(by omega))
            · rw [hp] at hs hat0
              rw [hbad hat0]
              (with_reducible refine TC.draw (id := 13) true 31 31 ?_) <;> (with_reducible refine OD.st 0 ?_) <;> (with_reducible refine OD.st 1 ?_) <;> (with_reducible refine OD.st 2 ?_) <;> (with_reducible refine OD.sD 60 ?_ ?_ <;> (intro hc; try (exfalso; omega)) <;> (first | (with_reducible refine OD.st 3 ?_) | (with_reducible refine OD.of 3 ?_))) <;> (with_reducible refine OD.st 4 ?_) <;> (with_reducible refine OD.st 5 ?_) <;> (with_reducible refine OD.st 6 ?_) <;> (with_reducible refine OD.st 7 ?_) <;> (with_reducible refine OD.st 8 ?_) <;> (with_reducible refine OD.sD 66 ?_ ?_ <;> (intro hc; try (exfalso; omega)) <;> (first | (with_reducible refine OD.st 9 ?_) | (with_reducible refine OD.of 9 ?_))) <;> (with_reducible refine OD.st 10 ?_) <;> (with_reducible refine OD.st 11 ?_) <;> (with_reducible refine OD.st 12 ?_) <;> (with_reducible refine OD.c1 13 hh Fn.slices_Contains_Lint_int ?_) <;> (with_reducible refine OD.st 14 ?_) <;> (with_reducible refine OD.st 15 ?_) <;> (with_reducible refine OD.st 16 ?_) <;> (with_reducible refine OD.st 17 ?_) <;> (with_reducible refine OD.st 18 ?_) <;> (with_reducible refine OD.st 19 ?_) <;> (with_reducible refine OD.st 20 ?_) <;> (with_reducible refine OD.st 21 ?_) <;> (with_reducible refine OD.st 22 ?_) <;> (with_reducible refine OD.st 23 ?_) <;> (with_reducible refine OD.st 24 ?_) <;> (with_reducible refine OD.st 25 ?_) <;> (with_reducible refine OD.st 26 ?_) <;> (with_reducible refine OD.st 27 ?_) <;> (with_reducible refine OD.c1 28 hs Fn.line_set_has ?_) <;> (with_reducible refine OD.st 29 ?_) <;> (with_reducible refine OD.st 30 ?_) <;> (with_reducible refine OD.dn ?_)
              all_goals repeat' (first
                         | (with_reducible refine OL.st ?_)
                         | (with_reducible refine TC.region ?_)
                         | (with_reducible refine TC.seq ?_)
                         | (with_reducible refine OL.nil ?_)
                         | (with_reducible refine TX.thenN ?_)
                         | (with_reducible refine TC.ifT ?_)
                         | (with_reducible refine TC.ret ?_)
                         | (with_reducible refine TX.thenR ?_)
                         | (with_reducible refine TX.blkR ?_)
                         | fail)
              all_goals exact TX.rt2 [] (.ren rfl) (.ren rfl)
            · rw [hp] at hs hat0
              (with_reducible refine TC.draw (id := 13) true 31 31 ?_) <;> (with_reducible refine OD.st 0 ?_) <;> (with_reducible refine OD.st 1 ?_) <;> (with_reducible refine OD.st 2 ?_) <;> (with_reducible refine OD.sD 60 ?_ ?_ <;> (intro hc; try (exfalso; omega)) <;> (first | (with_reducible refine OD.st 3 ?_) | (with_reducible refine OD.of 3 ?_))) <;> (with_reducible refine OD.st 4 ?_) <;> (with_reducible refine OD.st 5 ?_) <;> (with_reducible refine OD.st 6 ?_) <;> (with_reducible refine OD.st 7 ?_) <;> (with_reducible refine OD.st 8 ?_) <;> (with_reducible refine OD.sD 66 ?_ ?_ <;> (intro hc; try (exfalso; omega)) <;> (first | (with_reducible refine OD.st 9 ?_) | (with_reducible refine OD.of 9 ?_))) <;> (with_reducible refine OD.st 10 ?_) <;> (with_reducible refine OD.st 11 ?_) <;> (with_reducible refine OD.st 12 ?_) <;> (with_reducible refine OD.c1 13 hh Fn.slices_Contains_Lint_int ?_) <;> (with_reducible refine OD.st 14 ?_) <;> (with_reducible refine OD.st 15 ?_) <;> (with_reducible refine OD.st 16 ?_) <;> (with_reducible refine OD.st 17 ?_) <;> (with_reducible refine OD.st 18 ?_) <;> (with_reducible refine OD.st 19 ?_) <;> (with_reducible refine OD.st 20 ?_) <;> (with_reducible refine OD.st 21 ?_) <;> (with_reducible refine OD.st 22 ?_) <;> (with_reducible refine OD.st 23 ?_) <;> (with_reducible refine OD.st 24 ?_) <;> (with_reducible refine OD.st 25 ?_) <;> (with_reducible refine OD.st 26 ?_) <;> (with_reducible refine OD.st 27 ?_) <;> (with_reducible refine OD.c1 28 hs Fn.line_set_has ?_) <;> (with_reducible refine OD.st 29 ?_) <;> (with_reducible refine OD.st 30 ?_) <;> (with_reducible refine OD.dn ?_)
              all_goals repeat' (first
                         | (with_reducible refine OL.st ?_)
                         | (with_reducible refine TC.region ?_)
                         | (with_reducible refine OL.nil ?_)
                         | (with_reducible refine TX.thenN ?_)
                         | (with_reducible refine TC.skip ?_)
                         | (with_reducible refine TX.blkN ?_)
                         | (with_reducible refine TC.ifF ?_)
                         | fail)
              all_goals exact TX.rd (i + 1) [] ⟨by omega, by rw [all_range_succ, hinv, hat0]; rfl⟩ (by omega)
          · rw [hct] at hh hat0
            rw [hbad hat0]
            (with_reducible refine TC.draw (id := 13) true 31 31 ?_) <;> (with_reducible refine OD.st 0 ?_) <;> (with_reducible refine OD.st 1 ?_) <;> (with_reducible refine OD.st 2 ?_) <;> (with_reducible refine OD.sD 60 ?_ ?_ <;> (intro hc; try (exfalso; omega)) <;> (first | (with_reducible refine OD.st 3 ?_) | (with_reducible refine OD.of 3 ?_))) <;> (with_reducible refine OD.st 4 ?_) <;> (with_reducible refine OD.st 5 ?_) <;> (with_reducible refine OD.st 6 ?_) <;> (with_reducible refine OD.st 7 ?_) <;> (with_reducible refine OD.st 8 ?_) <;> (with_reducible refine OD.sD 66 ?_ ?_ <;> (intro hc; try (exfalso; omega)) <;> (first | (with_reducible refine OD.st 9 ?_) | (with_reducible refine OD.of 9 ?_))) <;> (with_reducible refine OD.st 10 ?_) <;> (with_reducible refine OD.st 11 ?_) <;> (with_reducible refine OD.st 12 ?_) <;> (with_reducible refine OD.c1 13 hh Fn.slices_Contains_Lint_int ?_) <;> (with_reducible refine OD.st 14 ?_) <;> (with_reducible refine OD.st 15 ?_) <;> (with_reducible refine OD.of 16 ?_) <;> (with_reducible refine OD.of 17 ?_) <;> (with_reducible refine OD.of 18 ?_) <;> (with_reducible refine OD.of 19 ?_) <;> (with_reducible refine OD.of 20 ?_) <;> (with_reducible refine OD.of 21 ?_) <;> (with_reducible refine OD.of 22 ?_) <;> (with_reducible refine OD.of 23 ?_) <;> (with_reducible refine OD.of 24 ?_) <;> (with_reducible refine OD.of 25 ?_) <;> (with_reducible refine OD.of 26 ?_) <;> (with_reducible refine OD.of 27 ?_) <;> (with_reducible refine OD.of 28 ?_) <;> (with_reducible refine OD.of 29 ?_) <;> (with_reducible refine OD.st 30 ?_) <;> (with_reducible refine OD.dn ?_)
            all_goals repeat' (first
                       | (with_reducible refine OL.st ?_)
                       | (with_reducible refine TC.region ?_)
                       | (with_reducible refine TC.seq ?_)
                       | (with_reducible refine OL.nil ?_)
                       | (with_reducible refine TX.thenN ?_)
                       | (with_reducible refine TC.ifT ?_)
                       | (with_reducible refine TC.ret ?_)
                       | (with_reducible refine TX.thenR ?_)
                       | (with_reducible refine TX.blkR ?_)
                       | fail)
            all_goals exact TX.rt2 [] (.ren rfl) (.ren rfl)
        · have d : (decide (3 ≤ l[i]) && decide (l[i] < 3 + (g.length : Int))) = false := by
            rw [Bool.and_eq_false_iff]
            by_cases h : 3 ≤ l[i]
            · exact .inr (decide_eq_false (by omega))
            · exact .inl (decide_eq_false h)
          rw [d, Bool.false_and] at hat0
          rw [hbad hat0]
          (with_reducible refine TC.draw (id := 13) true 31 31 ?_) <;> (with_reducible refine OD.st 0 ?_) <;> (with_reducible refine OD.st 1 ?_) <;> (with_reducible refine OD.st 2 ?_) <;> (with_reducible refine OD.sD 60 ?_ ?_ <;> (intro hc; try (exfalso; omega)) <;> (first | (with_reducible refine OD.st 3 ?_) | (with_reducible refine OD.of 3 ?_))) <;> (first | (with_reducible refine OD.st 4 ?_) | (with_reducible refine OD.of 4 ?_)) <;> (first | (with_reducible refine OD.st 5 ?_) | (with_reducible refine OD.of 5 ?_)) <;> (first | (with_reducible refine OD.st 6 ?_) | (with_reducible refine OD.of 6 ?_)) <;> (with_reducible refine OD.st 7 ?_) <;> (with_reducible refine OD.st 8 ?_) <;> (first | (with_reducible refine OD.of 9 ?_) | (with_reducible refine OD.sD 66 ?_ ?_ <;> (intro hc; try (exfalso; omega)) <;> (first | (with_reducible refine OD.st 9 ?_) | (with_reducible refine OD.of 9 ?_)))) <;> (with_reducible refine OD.of 10 ?_) <;> (with_reducible refine OD.of 11 ?_) <;> (with_reducible refine OD.of 12 ?_) <;> (with_reducible refine OD.of 13 ?_) <;> (with_reducible refine OD.st 14 ?_) <;> (with_reducible refine OD.st 15 ?_) <;> (with_reducible refine OD.of 16 ?_) <;> (with_reducible refine OD.of 17 ?_) <;> (with_reducible refine OD.of 18 ?_) <;> (with_reducible refine OD.of 19 ?_) <;> (with_reducible refine OD.of 20 ?_) <;> (with_reducible refine OD.of 21 ?_) <;> (with_reducible refine OD.of 22 ?_) <;> (with_reducible refine OD.of 23 ?_) <;> (with_reducible refine OD.of 24 ?_) <;> (with_reducible refine OD.of 25 ?_) <;> (with_reducible refine OD.of 26 ?_) <;> (with_reducible refine OD.of 27 ?_) <;> (with_reducible refine OD.of 28 ?_) <;> (with_reducible refine OD.of 29 ?_) <;> (with_reducible refine OD.st 30 ?_) <;> (with_reducible refine OD.dn ?_)
          all_goals repeat' (first
                     | (with_reducible refine OL.st ?_)
                     | (with_reducible refine TC.region ?_)
                     | (with_reducible refine TC.seq ?_)
                     | (with_reducible refine OL.nil ?_)
                     | (with_reducible refine TX.thenN ?_)
                     | (with_reducible refine TC.ifT ?_)
                     | (with_reducible refine TC.ret ?_)
                     | (with_reducible refine TX.thenR ?_)
                     | (with_reducible refine TX.blkR ?_)
                     | fail)
          all_goals exact TX.rt2 [] (.ren rfl) (.ren rfl)
      · have e : i = l.length := by omega
        rw [e] at hinv
        rw [hinv]
        exact TX.rt2 [] (.ren rfl) (.ren rfl)
end Go.Proofs
/- Which lists agree with a class: plain law, and the reference. -/
namespace Go.Proofs
open Go Go.W Go.V
/-! ### Plain -/
def agAt (all : List (List Int)) (ab l : List Int) (i : Nat) : Bool := (ab.contains (l.getD i 0) && !(l.take i).contains (l.getD i 0)) && (List.range i).all fun k => !precB all (l.getD i 0) (l.getD k 0)
def agB (all : List (List Int)) (ab : List Int) (c : Int) (l : List Int) : Bool := (decide (l.length = ab.length) && (decide (l.getD 0 0 = c) && decide (lastI l = 0))) && (List.range l.length).all (agAt all ab l)
def abOf (g : List (List Int)) (c : Int) : List Int := clsL g (upHas g c)
theorem abOf_spec (g : List (List Int)) (c : Int) : (abOf g c).Nodup ∧ (abOf g c).length ≤ 3 + g.length ∧ ∀ x, x ∈ abOf g c ↔ (0 ≤ x ∧ x < 3 + (g.length : Int)) ∧ upHas g c x = true := by
  refine ⟨(upto_nodup _).filter _, Nat.le_trans (List.length_filter_le _ _) (by rw [upto_length]; exact Nat.le_refl _), fun x => ?_⟩
  rw [abOf, clsL, List.mem_filter, mem_upto]
  constructor
  · rintro ⟨h, h2⟩; exact ⟨by omega, h2⟩
  · rintro ⟨h, h2⟩; exact ⟨by omega, h2⟩
theorem nodup_sub_length : ∀ (l m : List Int), l.Nodup → (∀ x ∈ l, x ∈ m) → l.length ≤ m.length
  | [], _, _, _ => Nat.zero_le _
  | x :: r, m, hn, h => by
    obtain ⟨hx, hn'⟩ := List.nodup_cons.1 hn
    have := nodup_sub_length r (m.erase x) hn' (fun y hy => (List.mem_erase_of_ne (fun e => by subst e; exact hx hy)).2 (h y (by simp [hy])))
    have hm := h x (by simp)
    rw [List.length_erase_of_mem hm] at this
    have h0 := List.length_pos_of_mem hm
    simp; omega
end Go.Proofs
/- Which lists agree with a class: the reference, the program; LineAgrees. -/
namespace Go.Proofs
open Go Go.W Go.V
def agE (g : List (List Int)) (c : Int) : Int := if oks g [c] then (if (listsOf (orders g) (pOf g c)).isSome = true then 0 else 7) else 2
def agR (g : List (List Int)) (c : Int) (l : List Int) : Bool := oks g [c] && (match listsOf (orders g) (pOf g c) with | some all => agB all (abOf g c) c l | none => false)
end Go.Proofs
/- LineKnown. -/
namespace Go.Proofs
open Go Go.W Go.V
end Go.Proofs
/- Graphs that are formed, and graphs with one more class: plain laws, rules for min and conversions. -/
namespace Go.V
open Go Go.W
section
variable {C : Cx} {ops : Array Oper} {Q : Qt} {ρ : Ro} {η η2 : Eta} {rest : List Oper} {T d X Y : Nat} {pos : String} {af : Array Edge} {x y : Operand} {at_ : Array TypeId}
theorem OL.neBl {Z : Nat} {a b : Bool} (hu : C.P.underlying X = some .bool) (k : OL C ops Q rest ((d, V.bool (!(a == b))) :: ρ) η) (hx : ev2 ρ x = some (.raw (.bool a)) := by with_unfolding_all exact rfl) (hy : ev2 ρ y = some (.raw (.bool b)) := by with_unfolding_all exact rfl) (hd : Nat.blt d C.N = true := by with_unfolding_all exact rfl) : OL C ops Q (⟨some d, .binOp .neq X x y Z, T, pos, af, none⟩ :: rest) ρ η :=
  OL.give (fun m w γ ρc a' hE hR hH => ⟨_, .raw rfl, fun _ _ _ _ _ _ => by simp [execOp, hE.ev (hR.raw hx), hE.ev (hR.raw hy), eqGuard, run_neq_bool, hu]⟩) hd k
end
end Go.V
namespace Go.Proofs
open Go Go.W Go.V
theorem s_law03_formed (g : List (List Int)) : V.Spec Try.prog Fc.law03_formed [rows g] [] (V.bool (fine g)) [] := by
  refine V.Spec.enter Try.tabOK Try.mixed Fn.law03_formed rfl rfl rfl fun B hB => ?_
  refine TC.bl 0 fun hlen => ?_
  repeat' (first
   | (with_reducible refine OL.st ?_)
   | (with_reducible refine TC.region ?_)
   | (with_reducible refine TC.seq ?_)
   | (with_reducible refine OL.nil ?_)
   | (with_reducible refine TX.thenN ?_)
   | (with_reducible refine TC.block ?_)
   | (with_reducible refine TC.skip ?_)
   | (with_reducible refine TC.ifD ?_ ?_ <;> (intro hc; try (exfalso; omega)))
   | (with_reducible refine TC.ret ?_)
   | (with_reducible refine TX.thenR ?_)
   | fail)
  · refine TX.rt1 [] (.bool ?_)
    have : decide (g.length ≤ 16) = false := by simp; omega
    simp [fine, this]
  have hfine : fine g = okRows 0 g := by
    have : decide (g.length ≤ 16) = true := by simp; omega
    simp [fine, this]
  have h16 : g.length ≤ 16 := by omega
  refine TC.lp (fun i : Nat => [(10, rows g), (11, V.int g.length), (12, V.int i)]) (fun _ => []) (fun i => i ≤ g.length ∧ okRows 0 g = okRows i (g.drop i)) (fun i => g.length - i) 0 [] ⟨Nat.zero_le _, rfl⟩ ?_
  rintro i ⟨hi, hinv⟩
  repeat' (first
   | (with_reducible refine OL.st ?_)
   | (with_reducible refine TC.region ?_)
   | (with_reducible refine TC.seq ?_)
   | (with_reducible refine OL.nil ?_)
   | (with_reducible refine TX.thenN ?_)
   | (with_reducible refine TC.block ?_)
   | (with_reducible refine TC.skip ?_)
   | (with_reducible refine TC.exit ?_)
   | (with_reducible refine TX.hit ?_)
   | (with_reducible refine TX.thenX ?_)
   | (with_reducible refine TC.ifD ?_ ?_ <;> (intro hc; try (exfalso; omega)))
   | (with_reducible refine TC.ret ?_)
   | (with_reducible refine TX.thenR ?_)
   | (with_reducible refine TX.blkR ?_)
   | fail)
  · refine TX.rt1 [] (.bool ?_)
    rw [hfine, hinv, drop_cons (by omega)]
    have : decide (g[i].length ≤ 3) = false := by simp; omega
    simp [okRows, this]
  · have hr3 : g[i].length ≤ 3 := by omega
    have hst : okRows i (g.drop i) = (okRow i [] g[i] && okRows (i + 1) (g.drop (i + 1))) := by
      rw [drop_cons (by omega)]
      have : decide (g[i].length ≤ 3) = true := by simp; omega
      simp [okRows, this]
    generalize g[i] = r at *
    refine TC.lp (fun k : Nat => [(3, V.int i), (4, ints r), (20, ints r), (21, V.int r.length), (22, V.int k), (10, rows g), (11, V.int g.length), (12, V.int i)]) (fun _ => []) (fun k => k ≤ r.length ∧ okRow i [] r = okRow i (r.take k) (r.drop k)) (fun k => r.length - k) 0 [] ⟨Nat.zero_le _, rfl⟩ ?_
    rintro k ⟨hk, hki⟩
    have hfail : okRow i (r.take k) (r.drop k) = false → fine g = false := fun hb => by rw [hfine, hinv, hst, hki.trans hb]; rfl
    repeat' (first
     | (with_reducible refine OL.st ?_)
     | (with_reducible refine TC.region ?_)
     | (with_reducible refine TC.seq ?_)
     | (with_reducible refine OL.nil ?_)
     | (with_reducible refine TX.thenN ?_)
     | (with_reducible refine TC.block ?_)
     | (with_reducible refine TC.skip ?_)
     | (with_reducible refine TX.blkN ?_)
     | (with_reducible refine TC.exit ?_)
     | (with_reducible refine TX.hit ?_)
     | (with_reducible refine TX.thenX ?_)
     | (with_reducible refine TC.ifT ?_)
     | (with_reducible refine OL.gOn ?_)
     | (with_reducible refine OL.gOff ?_)
     | (with_reducible refine TC.ifD ?_ ?_ <;> (intro hc; try (exfalso; omega)))
     | (with_reducible refine OL.gD ?_ ?_ <;> (intro hc; try (exfalso; omega)))
     | (with_reducible refine TC.ret ?_)
     | (with_reducible refine TX.thenR ?_)
     | (with_reducible refine TX.blkR ?_)
     | fail)
    · refine TX.rt1 [] (.bool ?_)
      rw [hfail]
      rw [drop_cons (by omega)]
      have : decide (3 ≤ r[k]) = false := by simp; omega
      simp [okRow, this]
    · refine TX.rt1 [] (.bool ?_)
      rw [hfail]
      rw [drop_cons (by omega)]
      have : decide (r[k] < 3 + (i : Int)) = false := by simp; omega
      simp [okRow, this]
    · refine OL.c (s_slices_Contains_Lint_int (r.take k) r[k]) Fn.slices_Contains_Lint_int ?_
      have e1 : decide (3 ≤ r[k]) = true := by simp; omega
      have e2 : decide (r[k] < 3 + (i : Int)) = true := by simp; omega
      repeat' (first
       | (with_reducible refine OL.st ?_)
       | (with_reducible refine OL.nil ?_)
       | (with_reducible refine TX.thenN ?_)
       | fail)
      refine TC.ifB (fun hct => ?_) (fun hct => ?_)
      · repeat' (first
         | (with_reducible refine OL.st ?_)
         | (with_reducible refine TC.region ?_)
         | (with_reducible refine TC.seq ?_)
         | (with_reducible refine OL.nil ?_)
         | (with_reducible refine TX.thenN ?_)
         | (with_reducible refine TC.ret ?_)
         | (with_reducible refine TX.thenR ?_)
         | (with_reducible refine TX.blkR ?_)
         | fail)
        refine TX.rt1 [] (.bool ?_)
        rw [hfail]
        rw [drop_cons (by omega), okRow, hct]
        simp
      · repeat' (first
         | (with_reducible refine OL.st ?_)
         | (with_reducible refine TC.region ?_)
         | (with_reducible refine OL.nil ?_)
         | (with_reducible refine TX.thenN ?_)
         | (with_reducible refine TC.skip ?_)
         | (with_reducible refine TX.blkN ?_)
         | fail)
        refine TX.rd (k + 1) [] ⟨by omega, ?_⟩ (by omega)
        rw [hki, drop_cons (by omega), take_succ (by omega)]
        rw [okRow, e1, e2, hct]
        rfl
    · refine TX.rd (i + 1) [] ⟨by omega, ?_⟩ (by omega)
      rw [hinv, hst, hki, drop_nil (by omega)]
      rfl
  · refine TX.rt1 [] (.bool ?_)
    rw [hfine, hinv, drop_nil (by omega)]
    rfl
end Go.Proofs
/- The laws' own: what is above a class, by its parents. -/
namespace Go.V
open Go Go.W
section
variable {C : Cx} {ops : Array Oper} {Q : Qt} {ρ : Ro} {η η2 : Eta} {rest : List Oper} {T d X : Nat} {pos : String} {af : Array Edge} {x y : Operand}
theorem OL.stG {i k E : Nat} {ab : List Bool} {t : Bool} {nl : Option Bool} (hk : k < ab.length) (kk : OL C ops Q rest ρ η2) (hs : (C.tab X).map (fun e => (e.sh.agg, e.size)) = some (false, 1) := by with_unfolding_all exact rfl)
    (hx : ev2 ρ x = some (.gp i 1 k 0) := by with_unfolding_all exact rfl) (hy : ev2 ρ y = some (.raw (.bool t)) := by with_unfolding_all exact rfl) (ho : η[i]? = some (.gs false E 1 nl (ab.map V.bool)) := by with_unfolding_all exact rfl) (hη : η.set i (.gs false E 1 nl ((ab.set k t).map V.bool)) = η2 := by (try dsimp only [List.set]) <;> exact rfl) : OL C ops Q (⟨none, .store X x y, T, pos, af, none⟩ :: rest) ρ η :=
  OL.storeE (e := V.bool ab[k]) (e' := V.bool t) kk hs hx hy ho (map_get hk) rfl (by decide) (by rw [← List.map_set]; exact hη)
end
end Go.V
namespace Go.Proofs
open Go Go.W Go.V
def upStep (a : Nat) (ab : List Bool) (ps : List Int) : List Bool := ps.foldl (fun ab p => ab.set p.toNat (ab.getD p.toNat false || ab.getD a false)) ab
def upAll (g : List (List Int)) : Nat → List Bool → List Bool
  | 0, ab => ab
  | a + 1, ab => if 3 ≤ a + 1 then upAll g a (upStep (a + 1) ab (pOf g ((a + 1 : Nat) : Int))) else ab
theorem getD_set_b (ab : List Bool) (p x : Nat) (v : Bool) (hp : p < ab.length) : (ab.set p v).getD x false = if p = x then v else ab.getD x false := by
  rw [List.getD_eq_getElem?_getD, List.getD_eq_getElem?_getD, List.getElem?_set]
  by_cases h : p = x
  · subst h; simp [hp]
  · simp [h]
theorem upStep_length (a : Nat) : ∀ (ps : List Int) (ab : List Bool), (upStep a ab ps).length = ab.length
  | [], _ => rfl
  | p :: r, ab => by rw [upStep, List.foldl_cons]; exact (upStep_length a r _).trans (by simp)
theorem upStep_eq (a : Nat) : ∀ (ps : List Int) (ab : List Bool), (∀ p ∈ ps, 0 ≤ p ∧ p.toNat < ab.length ∧ p.toNat ≠ a) → upStep a ab ps = if ab.getD a false then markPs ab ps else ab
  | [], ab, _ => by simp [upStep, markPs]
  | p :: r, ab, h => by
    obtain ⟨h0, h1, h2⟩ := h p (by simp)
    have e : upStep a ab (p :: r) = upStep a (ab.set p.toNat (ab.getD p.toNat false || ab.getD a false)) r := rfl
    rw [e, upStep_eq a r _ (fun q hq => by have := h q (by simp [hq]); simpa using this), getD_set_b _ _ _ _ h1, if_neg h2]
    cases hq : ab.getD a false with
    | true => simp only [Bool.or_true, if_true]; rfl
    | false =>
      simp only [Bool.or_false, Bool.false_eq_true, if_false]
      rw [getD_lt h1]
      exact List.set_getElem_self h1
theorem upAll_length (g : List (List Int)) : ∀ (c : Nat) (ab : List Bool), (upAll g c ab).length = ab.length
  | 0, _ => rfl
  | c + 1, ab => by
    rw [upAll]; split
    · rw [upAll_length g c, upStep_length]
    · rfl
theorem upAll_keep {g : List (List Int)} (hf : fine g = true) {N : Nat} (hN : N = 3 + g.length) : ∀ (c : Nat) (ab : List Bool) (b : Nat), ab.length = N → c < N → (b < 3 ∨ c ≤ b) → (upAll g c ab).getD b false = ab.getD b false
  | 0, _, _, _, _, _ => rfl
  | c + 1, ab, b, hl, hc, hb => by
    rw [upAll]
    split
    · have hps := (fine_pOf hf (c := ((c + 1 : Nat) : Int)) (by omega)).2.1
      rw [upAll_keep hf hN c _ b (by rw [upStep_length]; exact hl) (by omega) (by omega), upStep_eq _ _ _ (fun p hp => by have := hps p hp; omega)]
      split
      · rw [markPs_get _ _ _ (fun p hp => by have := hps p hp; omega)]
        have : (pOf g ((c + 1 : Nat) : Int)).any (fun p => p == (b : Int)) = false := by
          rw [List.any_eq_false]; intro p hp; have := hps p hp; simp; omega
        rw [this, Bool.or_false]
      · rfl
    · rfl
theorem upAll_mark {g : List (List Int)} (hf : fine g = true) {N : Nat} (hN : N = 3 + g.length) {b : Nat} (hb : 3 ≤ b) : ∀ (c : Nat) (ab : List Bool), ab.length = N → c < N → (upAll g c ab).getD b false = (markTo g b c ab).getD b false
  | 0, _, _, _ => rfl
  | c + 1, ab, hl, hc => by
    by_cases h : b < c + 1
    · have hps := (fine_pOf hf (c := ((c + 1 : Nat) : Int)) (by omega)).2.1
      rw [markTo, if_pos h, upAll, if_pos (by omega), upAll_mark hf hN hb c _ (by rw [upStep_length]; exact hl) (by omega), upStep_eq _ _ _ (fun p hp => by have := hps p hp; omega)]
    · rw [upAll_keep hf hN (c + 1) ab b hl hc (.inr (by omega)), markTo, if_neg h]
def up0 (N c : Nat) : List Bool := ((List.replicate N false).set 0 true).set c true
theorem up0_get {N c : Nat} (hc : c < N) (x : Nat) : (up0 N c).getD x false = (decide (x = 0) || decide (x = c)) := by
  rw [up0, getD_set_b _ _ _ _ (by simpa using hc), getD_set_b _ _ _ _ (by simp; omega)]
  have h0 : (List.replicate N false).getD x false = false := by
    rw [List.getD_eq_getElem?_getD, List.getElem?_replicate]; split <;> rfl
  rw [h0]
  by_cases h1 : c = x
  · subst h1; simp
  · by_cases h2 : 0 = x
    · subst h2; simp [h1]
    · have e1 : ¬ x = c := fun e => h1 e.symm
      have e2 : ¬ x = 0 := fun e => h2 e.symm
      simp [h1, h2, e1, e2]
theorem upAll_law {g : List (List Int)} (hf : fine g = true) {c b : Nat} (hc : c < 3 + g.length) (hb : b < 3 + g.length) : (upAll g c (up0 (3 + g.length) c)).getD b false = upHas g c b := by
  have h16 := fine_len hf
  have hl : (up0 (3 + g.length) c).length = 3 + g.length := by simp [up0]
  by_cases hbc : b = c
  · subst hbc
    rw [upAll_keep hf rfl b _ b hl hc (.inr (Nat.le_refl _)), up0_get hc, upHas_self hf hc]; simp
  by_cases hb3 : b < 3
  · rw [upAll_keep hf rfl c _ b hl hc (.inl hb3), up0_get hc]
    by_cases h0 : b = 0
    · subst h0; rw [show ((0 : Nat) : Int) = 0 from rfl, upHas_zero hf hc]; rfl
    · rw [upHas_small hf hc (by omega) (fun e => hbc e.symm) h0 (.inr hb3)]; simp [h0, hbc]
  · rw [upAll_mark hf rfl (by omega) c _ hl hc]
    by_cases hle : b ≤ c
    · rw [Bool.eq_iff_iff, markTo_law hf (by omega) c _ hle hc (by omega)]
      constructor
      · rintro ⟨x, h1, h2, h3, h4⟩
        rw [up0_get hc] at h3
        have : x = c := by simp at h3; omega
        subst this; exact h4
      · intro h; exact ⟨c, hle, Nat.le_refl _, by rw [up0_get hc]; simp, h⟩
    · have e : upHas g c b = false := by
        cases h : upHas g c b with
        | false => rfl
        | true => have := upHas_le hf hc (b := (b : Int)) (by omega) (by omega) h; omega
      rw [e, show (markTo g b c (up0 (3 + g.length) c)) = up0 (3 + g.length) c from by
        cases c with
        | zero => rfl
        | succ c => rw [markTo, if_neg (by omega)], up0_get hc]
      simp; omega
/-- What is above a class, as a list of truths. -/
def abB (g : List (List Int)) (c : Int) : List Bool := (upto (3 + g.length)).map (upHas g c)
theorem abB_eq {g : List (List Int)} (hf : fine g = true) {c : Nat} (hc : c < 3 + g.length) : upAll g c (up0 (3 + g.length) c) = abB g c := by
  have hl : (upAll g c (up0 (3 + g.length) c)).length = 3 + g.length := by rw [upAll_length]; simp [up0]
  refine List.ext_getElem (by rw [hl, abB, List.length_map, upto_length]) fun b h1 h2 => ?_
  have := upAll_law hf hc (b := b) (by omega)
  rw [getD_lt h1] at this
  rw [this]
  simp [abB, upto]
end Go.Proofs
/- The laws' own above: the walk. -/
namespace Go.Proofs
open Go Go.W Go.V
abbrev bsl (l : List Bool) : AV := .sl 1 none (l.map V.bool)
theorem upStep_snoc (a : Nat) (ab : List Bool) (ps : List Int) {i : Nat} (h : i < ps.length) : upStep a ab (ps.take (i + 1)) = (upStep a ab (ps.take i)).set ps[i].toNat ((upStep a ab (ps.take i)).getD ps[i].toNat false || (upStep a ab (ps.take i)).getD a false) := by
  rw [upStep, take_succ h, List.foldl_append]; rfl
set_option maxHeartbeats 1000000 in
theorem s_law03_above {g : List (List Int)} (hf : fine g = true) {c : Nat} (hc : c < 3 + g.length) : V.Spec Try.prog Fc.law03_above [rows g, V.int c] [] (bsl (abB g c)) [] := by
  have h16 := fine_len hf
  rw [← abB_eq hf hc]
  obtain ⟨N, hN⟩ : ∃ N, N = 3 + g.length := ⟨_, rfl⟩
  rw [← hN]
  refine V.Spec.enter Try.tabOK Try.mixed Fn.law03_above rfl rfl rfl fun B hB => ?_
  repeat' (first
   | (with_reducible refine OL.st ?_)
   | (with_reducible refine TC.region ?_)
   | (with_reducible refine TC.seq ?_)
   | (with_reducible refine OL.nil ?_)
   | (with_reducible refine TX.thenN ?_)
   | fail)
  refine OL.make (l := N) (c := N) (i := 3 + (g.length : Int)) (j := 3 + (g.length : Int)) (u := V.bool false) (u0 := V.bool false) ?_ (fun m w γ => .raw rfl) (hi := by omega) (hj := by omega)
  have e0 : List.replicate N (V.bool false) = (List.replicate N false).map V.bool := by simp
  rw [e0]
  have hl0 : (List.replicate N false).length = N := by simp
  have hl1 : ((List.replicate N false).set 0 true).length = N := by simp
  have hl2 : (up0 N c).length = N := by simp [up0]
  repeat' (first
   | (with_reducible refine OL.st ?_)
   | (with_reducible refine TC.region ?_)
   | (with_reducible refine TC.seq ?_)
   | (with_reducible refine OL.nil ?_)
   | (with_reducible refine TX.thenN ?_)
   | fail)
  refine OL.stG (k := 0) (ab := List.replicate N false) (by omega) ?_
  repeat' (first | (with_reducible refine OL.st ?_) | fail)
  refine OL.stG (k := c) (ab := (List.replicate N false).set 0 true) (by omega) ?_
  rw [show ((List.replicate N false).set 0 true).set c true = up0 N c from rfl]
  repeat' (first
   | (with_reducible refine OL.st ?_)
   | (with_reducible refine TC.region ?_)
   | (with_reducible refine TC.seq ?_)
   | (with_reducible refine OL.nil ?_)
   | (with_reducible refine TX.thenN ?_)
   | (with_reducible refine TC.block ?_)
   | fail)
  refine TC.lp (fun s : Nat × List Bool => [(0, rows g), (5, .hs 0), (6, V.int s.1)]) (fun s => [.gs false 4 1 none (s.2.map V.bool)]) (fun s => s.2.length = N ∧ s.1 < N ∧ upAll g s.1 s.2 = upAll g c (up0 N c)) (fun s => s.1) (c, up0 N c) [0] ⟨hl2, by dsimp only; omega, rfl⟩ ?_
  rintro ⟨a, ab⟩ ⟨hl, ha, hinv⟩
  dsimp only at hl ha hinv ⊢
  by_cases ha3 : 3 ≤ a
  · obtain ⟨a, rfl⟩ : ∃ a', a = a' + 1 := ⟨a - 1, by omega⟩
    have hps := (fine_pOf hf (c := ((a + 1 : Nat) : Int)) (by omega))
    have hpi : g[((a + 1 : Nat) - 3 : Int).toNat]'(by omega) = pOf g ((a + 1 : Nat) : Int) := by rw [pOf_ge (by omega), getD_lt (by omega)]
    rw [upAll, if_pos ha3] at hinv
    repeat' (first
     | (with_reducible refine OL.st ?_)
     | (with_reducible refine TC.region ?_)
     | (with_reducible refine TC.seq ?_)
     | (with_reducible refine OL.nil ?_)
     | (with_reducible refine TX.thenN ?_)
     | (with_reducible refine TC.block ?_)
     | (with_reducible refine TC.skip ?_)
     | (with_reducible refine TC.ifD ?_ ?_ <;> (intro hc; try (exfalso; omega)))
     | fail)
    rw [hpi]
    generalize pOf g ((a + 1 : Nat) : Int) = ps at *
    refine TC.lp (fun i : Nat => [(0, rows g), (5, .hs 0), (6, V.int ((a + 1 : Nat) : Int)), (27, ints ps), (28, V.int ps.length), (29, V.int i)]) (fun i => [.gs false 4 1 none ((upStep (a + 1) ab (ps.take i)).map V.bool)]) (fun i => i ≤ ps.length) (fun i => ps.length - i) 0 [0] (Nat.zero_le _) ?_
    rintro i hi
    have hli : (upStep (a + 1) ab (ps.take i)).length = N := by rw [upStep_length]; exact hl
    by_cases hil : i < ps.length
    · have hp := hps.2.1 ps[i] (List.getElem_mem _)
      have hsn := upStep_snoc (a + 1) ab ps hil
      generalize hub : upStep (a + 1) ab (ps.take i) = ub at *
      have hg1 : ub.getD ps[i].toNat false = ub[ps[i].toNat]'(by omega) := getD_lt (by omega)
      have hg2 : ub.getD (a + 1) false = ub[a + 1]'(by omega) := getD_lt (by omega)
      rw [hg1, hg2] at hsn
      repeat' (first
       | (with_reducible refine OL.st ?_)
       | (with_reducible refine TC.region ?_)
       | (with_reducible refine TC.seq ?_)
       | (with_reducible refine OL.nil ?_)
       | (with_reducible refine TX.thenN ?_)
       | (with_reducible refine TC.block ?_)
       | (with_reducible refine TC.skip ?_)
       | (with_reducible refine TC.ifD ?_ ?_ <;> (intro hc; try (exfalso; omega)))
       | fail)
      cases hq : ub[ps[i].toNat]'(by omega)
      · rw [hq, Bool.false_or] at hsn
        repeat' (first | (with_reducible refine OL.st ?_) | (with_reducible refine OL.gOn ?_) | fail)
        refine OL.stG (k := ps[i].toNat) (ab := ub) (by omega) ?_
        have e := congrArg (List.map V.bool) hsn.symm
        repeat' (first
         | (with_reducible refine OL.st ?_)
         | (with_reducible refine TC.region ?_)
         | (with_reducible refine OL.nil ?_)
         | (with_reducible refine TX.thenN ?_)
         | (with_reducible refine TX.blkN ?_)
         | fail)
        exact TX.rd (i + 1) [0] (by omega) (by omega)
      · rw [hq, Bool.true_or] at hsn
        repeat' (first | (with_reducible refine OL.st ?_) | (with_reducible refine OL.gOff ?_) | fail)
        refine OL.stG (k := ps[i].toNat) (ab := ub) (by omega) ?_
        have e := congrArg (List.map V.bool) hsn.symm
        repeat' (first
         | (with_reducible refine OL.st ?_)
         | (with_reducible refine TC.region ?_)
         | (with_reducible refine OL.nil ?_)
         | (with_reducible refine TX.thenN ?_)
         | (with_reducible refine TX.blkN ?_)
         | fail)
        exact TX.rd (i + 1) [0] (by omega) (by omega)
    · have e : (upStep (a + 1) ab (ps.take i)).map V.bool = (upStep (a + 1) ab ps).map V.bool := by rw [take_all (by omega)]
      repeat' (first
       | (with_reducible refine OL.st ?_)
       | (with_reducible refine TC.region ?_)
       | (with_reducible refine TC.seq ?_)
       | (with_reducible refine OL.nil ?_)
       | (with_reducible refine TX.thenN ?_)
       | (with_reducible refine TX.blkN ?_)
       | (with_reducible refine TC.exit ?_)
       | (with_reducible refine TX.hit ?_)
       | (with_reducible refine TX.thenX ?_)
       | (with_reducible refine TC.ifD ?_ ?_ <;> (intro hc; try (exfalso; omega)))
       | fail)
      exact TX.rd (a, upStep (a + 1) ab ps) [0] ⟨by dsimp only; rw [upStep_length]; exact hl, by dsimp only; omega, hinv⟩ (by dsimp only; omega)
  · have e : upAll g a ab = ab := by
      cases a with
      | zero => rfl
      | succ a => rw [upAll, if_neg (by omega)]
    rw [← hinv, e]
    repeat' (first
     | (with_reducible refine OL.st ?_)
     | (with_reducible refine TC.region ?_)
     | (with_reducible refine TC.seq ?_)
     | (with_reducible refine OL.nil ?_)
     | (with_reducible refine TX.thenN ?_)
     | (with_reducible refine TC.exit ?_)
     | (with_reducible refine TX.hit ?_)
     | (with_reducible refine TX.thenX ?_)
     | (with_reducible refine TC.ifD ?_ ?_ <;> (intro hc; try (exfalso; omega)))
     | (with_reducible refine TC.ret ?_)
     | fail)
    refine TX.vw 4 ?_
    exact TX.rt1 [] (.ren rfl)
end Go.Proofs
/- LineHeirs, LineBelows. -/
namespace Go.Proofs
open Go Go.W Go.V
end Go.Proofs
/- LineCommon. -/
namespace Go.Proofs
open Go Go.W Go.V
/-! ### Plain -/
/-! ### Walks -/
theorem abB_length (g : List (List Int)) (c : Int) : (abB g c).length = 3 + g.length := by rw [abB, List.length_map, upto_length]
theorem abB_get {g : List (List Int)} {c : Int} {b : Nat} (h : b < (abB g c).length) : (abB g c)[b] = upHas g c b := by simp [abB, upto]
theorem s_above {g : List (List Int)} (hf : fine g = true) {c : Int} (hc : 0 ≤ c ∧ c < 3 + (g.length : Int)) : V.Spec Try.prog Fc.law03_above [rows g, V.int c] [] (bsl (abB g c)) [] := by
  obtain ⟨c, rfl⟩ := Int.eq_ofNat_of_zero_le hc.1
  exact s_law03_above hf (by omega)
section
variable {g : List (List Int)} (hf : fine g = true) {c : Int} (hc : 0 ≤ c ∧ c < 3 + (g.length : Int)) {b : Nat} (hb : b < 3 + g.length)
include hf hc hb
end
end Go.Proofs
/- LineCommon. -/
namespace Go.Proofs
open Go Go.W Go.V
end Go.Proofs
/- Plain laws on linear orders: what is kept, and why there is none. -/
namespace Go.Proofs
open Go Go.W Go.V
/-! ### One class ahead of another one -/
theorem aftP_sub : ∀ (l : List Int) (a b : Int), aftP l a b = true ↔ [a, b].Sublist l
  | [], a, b => by simp [aftP]
  | x :: r, a, b => by
    rw [aftP, Bool.or_eq_true, Bool.and_eq_true, beq_iff_eq, List.contains_iff_mem, aftP_sub r a b]
    constructor
    · rintro (⟨rfl, h⟩ | h)
      · exact List.Sublist.cons_cons _ (List.singleton_sublist.2 h)
      · exact h.cons _
    · intro h
      cases h with
      | cons _ h => exact .inr h
      | cons_cons _ h => exact .inl ⟨rfl, List.singleton_sublist.1 h⟩
theorem pair_sub {l : List Int} (hn : l.Nodup) {a b : Int} : pairP l a b 0 = true ↔ [a, b].Sublist l := by rw [← aftP_pair l a b 0 hn (by omega), aftP_sub]
theorem prec_sub {all : List (List Int)} (hn : ∀ l ∈ all, l.Nodup) {a b : Int} : precB all a b = true ↔ ∃ l ∈ all, [a, b].Sublist l := by
  rw [precB, List.any_eq_true]
  constructor
  · rintro ⟨l, hl, h⟩; exact ⟨l, hl, (pair_sub (hn l hl)).1 h⟩
  · rintro ⟨l, hl, h⟩; exact ⟨l, hl, (pair_sub (hn l hl)).2 h⟩
theorem pair_ne {l : List Int} (hn : l.Nodup) {a b : Int} (h : [a, b].Sublist l) : a ≠ b := by
  have := h.nodup hn
  intro e; subst e; simp at this
/-! ### Merges -/
theorem without_not {l : List Int} {n : Int} (h : n ∉ l) : without l n = l := by
  rw [without, List.filter_eq_self]
  intro x hx; rw [bne_iff_ne]; intro e; subst e; exact h hx
theorem anyNE_false {all : List (List Int)} : anyNE all = false ↔ ∀ m ∈ all, m = [] := by
  rw [anyNE, List.any_eq_false]
  constructor
  · intro h m hm; have := h m hm; simpa using this
  · intro h m hm; rw [h m hm]; simp
theorem free_cons {all : List (List Int)} {h : Int} (hf : free all h = true) {m : List Int} (hm : m ∈ all) (hh : h ∈ m) : ∃ t, m = h :: t ∧ h ∉ t := by
  rw [free, List.all_eq_true] at hf
  have := hf m hm
  match m, hh with
  | x :: t, hh =>
    have h1 : h ∉ t := by simpa using this
    have : h = x := by rcases List.mem_cons.1 hh with e | e; exact e; exact absurd e h1
    subst this
    exact ⟨t, rfl, h1⟩
theorem mergeF_sub : ∀ (n : Nat) (all : List (List Int)) (out : List Int), total all ≤ n → (mergeF n all out).2 = true → ∃ e, (mergeF n all out).1 = out ++ e ∧ e.Nodup ∧ (∀ m ∈ all, m.Sublist e) ∧ ∀ x ∈ e, ∃ m ∈ all, x ∈ m
  | 0, all, out, hn, h => by
    rw [mergeF] at h ⊢
    have h0 : anyNE all = false := by simpa using h
    exact ⟨[], by simp, by simp, fun m hm => by rw [anyNE_false.1 h0 m hm]; exact List.Sublist.refl _, by simp⟩
  | n + 1, all, out, hn, h => by
    rw [mergeF] at h ⊢
    cases hx : nextOf all all with
    | none =>
      rw [hx] at h
      have h0 : anyNE all = false := by simpa using h
      exact ⟨[], by simp, by simp, fun m hm => by rw [anyNE_false.1 h0 m hm]; exact List.Sublist.refl _, by simp⟩
    | some x =>
      rw [hx] at h
      obtain ⟨t, ht, hf⟩ := nextOf_mem all all x hx
      have hlt := total_without_lt all x t ht
      dsimp only at h ⊢
      obtain ⟨e, e1, e2, e3, e4⟩ := mergeF_sub n _ _ (by omega) h
      have hxe : x ∉ e := fun hx => by
        obtain ⟨m, hm, hxm⟩ := e4 x hx
        obtain ⟨l, _, rfl⟩ := List.mem_map.1 hm
        exact (mem_without.1 hxm).2 rfl
      refine ⟨x :: e, by rw [e1]; simp, List.nodup_cons.2 ⟨hxe, e2⟩, fun m hm => ?_, fun y hy => ?_⟩
      · have hs := e3 _ (List.mem_map_of_mem (f := (without · x)) hm)
        by_cases hxm : x ∈ m
        · obtain ⟨r, rfl, hr⟩ := free_cons hf hm hxm
          have : without (x :: r) x = r := by
            rw [show without (x :: r) x = without r x by simp [without]]; exact without_not hr
          rw [this] at hs
          exact hs.cons_cons _
        · rw [without_not hxm] at hs
          exact hs.cons _
      · rcases List.mem_cons.1 hy with rfl | hy
        · exact ⟨_, ht, by simp⟩
        · obtain ⟨m, hm, hxm⟩ := e4 y hy
          obtain ⟨l, hl, rfl⟩ := List.mem_map.1 hm
          exact ⟨l, hl, (mem_without.1 hxm).1⟩
theorem merge_keeps {all : List (List Int)} (h : (merge all).2 = true) : (merge all).1.Nodup ∧ (∀ m ∈ all, m.Sublist (merge all).1) ∧ ∀ x, x ∈ (merge all).1 ↔ ∃ m ∈ all, x ∈ m := by
  obtain ⟨e, e1, e2, e3, e4⟩ := mergeF_sub (total all) all [] (Nat.le_refl _) h
  rw [List.nil_append] at e1
  rw [merge, e1]
  exact ⟨e2, e3, fun x => ⟨e4 x, fun ⟨m, hm, hx⟩ => (e3 m hm).subset hx⟩⟩
theorem mergeF_stuck : ∀ (n : Nat) (all : List (List Int)) (out : List Int), total all ≤ n → (mergeF n all out).2 = false → ∃ rest : List (List Int), anyNE rest = true ∧ nextOf rest rest = none ∧ ∀ m' ∈ rest, ∃ m ∈ all, m'.Sublist m
  | 0, all, out, hn, h => by
    rw [mergeF] at h
    have h0 : anyNE all = true := by simpa using h
    exact ⟨all, h0, nextOf_none_of_empty all all (by omega), fun m hm => ⟨m, hm, List.Sublist.refl _⟩⟩
  | n + 1, all, out, hn, h => by
    rw [mergeF] at h
    cases hx : nextOf all all with
    | none =>
      rw [hx] at h
      have h0 : anyNE all = true := by simpa using h
      exact ⟨all, h0, hx, fun m hm => ⟨m, hm, List.Sublist.refl _⟩⟩
    | some x =>
      rw [hx] at h
      obtain ⟨t, ht, hf⟩ := nextOf_mem all all x hx
      have hlt := total_without_lt all x t ht
      dsimp only at h
      obtain ⟨r, r1, r2, r3⟩ := mergeF_stuck n _ _ (by omega) h
      refine ⟨r, r1, r2, fun m' hm' => ?_⟩
      obtain ⟨m, hm, hs⟩ := r3 m' hm'
      obtain ⟨l, hl, rfl⟩ := List.mem_map.1 hm
      exact ⟨l, hl, hs.trans List.filter_sublist⟩
theorem nextOf_none {all : List (List Int)} : ∀ r : List (List Int), nextOf all r = none → ∀ h t, (h :: t) ∈ r → free all h = false
  | [], _, h, t, hm => by simp at hm
  | [] :: r, hn, h, t, hm => by
    rw [nextOf_nil] at hn
    exact nextOf_none r hn h t (by simpa using hm)
  | (x :: s) :: r, hn, h, t, hm => by
    cases hf : free all x with
    | true => rw [nextOf_t hf] at hn; cases hn
    | false =>
      rw [nextOf_f hf] at hn
      rcases List.mem_cons.1 hm with e | hm
      · cases e; exact hf
      · exact nextOf_none r hn h t hm
theorem Chain.cons {rel} {b : List Int} {c : Int} (h : Chain rel b) (hc : c ∉ b) (h0 : 0 < b.length) (hr : rel c (b[0]'h0) = true) : Chain rel (c :: b) := by
  refine ⟨List.nodup_cons.2 ⟨hc, h.1⟩, fun i hi => ?_⟩
  cases i with
  | zero => exact hr
  | succ i => exact h.2 i (by simpa using hi)
theorem Chain.take {rel} {b : List Int} (h : Chain rel b) (k : Nat) : Chain rel (b.take k) := by
  refine ⟨(List.take_sublist k b).nodup h.1, fun i hi => ?_⟩
  simp only [List.getElem_take]
  exact h.2 i (by simp at hi; omega)
/-- Where each of some classes is preceded by another one of them, there is a ring. -/
theorem ring_of_pred {rel : Int → Int → Bool} {N : Nat} {H : Int → Prop} (hr : ∀ x, H x → 3 ≤ x ∧ x < (N : Int)) (hp : ∀ x, H x → ∃ y, H y ∧ y ≠ x ∧ rel y x = true) {x0 : Int} (h0 : H x0) : ∃ r, Ring rel N r ∧ 2 ≤ r.length := by
  refine Classical.byContradiction fun hno => ?_
  have key : ∀ n : Nat, ∃ l, Chain rel l ∧ l.length = n + 1 ∧ ∀ x ∈ l, H x := by
    intro n
    induction n with
    | zero => exact ⟨[x0], ⟨by simp, fun i hi => by simp at hi⟩, rfl, by simpa using h0⟩
    | succ n ih =>
      obtain ⟨l, h1, h2, h3⟩ := ih
      have hl : 0 < l.length := by omega
      obtain ⟨y, y1, y2, y3⟩ := hp l[0] (h3 _ (List.getElem_mem _))
      by_cases hy : y ∈ l
      · obtain ⟨k, hk, rfl⟩ := List.mem_iff_getElem.1 hy
        have hk0 : k ≠ 0 := fun e => by subst e; exact y2 rfl
        have hlen : (l.take (k + 1)).length = k + 1 := by simp; omega
        refine absurd ⟨l.take (k + 1), ⟨h1.take _, ?_, fun x hx => hr x (h3 x (List.mem_of_mem_take hx))⟩, by omega⟩ hno
        rw [lastI_get (by omega), getD_lt (by omega), List.getElem_take, List.getElem_take]
        have : (l.take (k + 1)).length - 1 = k := by omega
        simp only [this]
        exact y3
      · exact ⟨y :: l, h1.cons hy hl y3, by simp [h2], fun x hx => by rcases List.mem_cons.1 hx with rfl | hx; exact y1; exact h3 x hx⟩
  obtain ⟨l, h1, h2, h3⟩ := key N
  have := nodup_length N l h1.1 (fun x hx => by have := hr x (h3 x hx); omega)
  omega
/-- Where there is no merge there is a ring. -/
theorem stuck_ring {all : List (List Int)} {N : Nat} (hn : ∀ l ∈ all, l.Nodup) (hr : ∀ l ∈ all, ∀ x ∈ l, 3 ≤ x ∧ x < (N : Int)) (h : (merge all).2 = false) : ∃ r, Ring (precB all) N r ∧ 2 ≤ r.length := by
  obtain ⟨rest, r1, r2, r3⟩ := mergeF_stuck (total all) all [] (Nat.le_refl _) h
  have hin : ∀ x t, (x :: t) ∈ rest → 3 ≤ x ∧ x < (N : Int) := fun x t hx => by
    obtain ⟨m, hm, hs⟩ := r3 _ hx
    exact hr m hm x (hs.subset (by simp))
  obtain ⟨l, hl, hne⟩ : ∃ l ∈ rest, l ≠ [] := by
    rw [anyNE, List.any_eq_true] at r1
    obtain ⟨l, hl, h⟩ := r1
    exact ⟨l, hl, by simpa using h⟩
  obtain ⟨x0, t0, rfl⟩ := List.exists_cons_of_ne_nil hne
  refine ring_of_pred (H := fun x => ∃ t, (x :: t) ∈ rest) (x0 := x0) (fun x ⟨t, hx⟩ => hin x t hx) (fun x ⟨t, hx⟩ => ?_) ⟨t0, hl⟩
  have hf := nextOf_none rest r2 x t hx
  simp only [free, List.all_eq_false, Bool.not_eq_true', Bool.not_eq_false, List.contains_iff_mem] at hf
  obtain ⟨m, hm, hxm⟩ := hf
  obtain ⟨m0, hm0, hs⟩ := r3 m hm
  match m, hxm with
  | y :: s, hxm =>
    have hxs : x ∈ s := by simpa using hxm
    have hsub : [y, x].Sublist (y :: s) := (List.singleton_sublist.2 hxs).cons_cons _
    have hsub := hsub.trans hs
    exact ⟨y, ⟨s, hm⟩, pair_ne (hn m0 hm0) hsub, (prec_sub hn).2 ⟨m0, hm0, hsub⟩⟩
/-- Where all lists stand in one list there is no ring. -/
theorem no_ring {all : List (List Int)} {N : Nat} {e : List Int} (hn : ∀ l ∈ all, l.Nodup) (he : e.Nodup) (hs : ∀ m ∈ all, m.Sublist e) {r : List Int} (h : Ring (precB all) N r) (h2 : 2 ≤ r.length) : False := by
  have hlt : ∀ a b, precB all a b = true → placeI e a 0 < placeI e b 0 := fun a b hab => by
    obtain ⟨l, hl, hab⟩ := (prec_sub hn).1 hab
    have := (pair_sub he).2 (hab.trans (hs l hl))
    rw [pairP, Bool.and_eq_true, decide_eq_true_eq, decide_eq_true_eq] at this
    exact this.2
  obtain ⟨⟨h1, hc⟩, hl, _⟩ := h
  have key : ∀ k (hk : k < r.length), placeI e (r[0]'(by omega)) 0 + k ≤ placeI e r[k] 0 := by
    intro k
    induction k with
    | zero => intro hk; simp
    | succ k ih =>
      intro hk
      have := ih (by omega)
      have := hlt _ _ (hc k hk)
      omega
  have := key (r.length - 1) (by omega)
  have hl := hlt _ _ hl
  rw [lastI_get (by omega), getD_lt (by omega)] at hl
  omega
/-! ### Linear orders -/
theorem ordersF_app : ∀ (a b acc : List (List Int)), ordersF acc (a ++ b) = ordersF (ordersF acc a) b
  | [], b, acc => rfl
  | p :: a, b, acc => by rw [List.cons_append, ordersF_cons, ordersF_cons, ordersF_app a b]
theorem ordersF_pre : ∀ (r acc : List (List Int)), ∃ t, ordersF acc r = acc ++ t ∧ t.length = r.length
  | [], acc => ⟨[], by simp [ordersF], rfl⟩
  | p :: r, acc => by
    obtain ⟨t, h1, h2⟩ := ordersF_pre r (acc ++ [orderOf acc p acc.length])
    exact ⟨orderOf acc p acc.length :: t, by rw [ordersF_cons, h1]; simp, by simp [h2]⟩
theorem at_app {acc t : List (List Int)} {p : Int} (h : p.toNat < acc.length) : at_ (acc ++ t) p = at_ acc p := by
  rw [at_, at_, List.getD_eq_getElem?_getD, List.getD_eq_getElem?_getD, List.getElem?_append_left h]
theorem listsOf_congr {a b : List (List Int)} {ps : List Int} (h : ∀ p ∈ ps, at_ a p = at_ b p) : listsOf a ps = listsOf b ps := by
  have h1 : (ps.all fun p => !(at_ a p).isEmpty) = ps.all fun p => !(at_ b p).isEmpty := by
    rw [Bool.eq_iff_iff, List.all_eq_true, List.all_eq_true]
    exact ⟨fun q p hp => by rw [← h p hp]; exact q p hp, fun q p hp => by rw [h p hp]; exact q p hp⟩
  have h2 : ps.map (fun p => bare (at_ a p)) = ps.map fun p => bare (at_ b p) := List.map_congr_left fun p hp => by rw [h p hp]
  rw [listsOf, listsOf, h1, h2]
theorem at_orders {g : List (List Int)} (hf : fine g = true) {c : Nat} (h1 : 1 ≤ c) (hc : c < 3 + g.length) : at_ (orders g) c = orderOf (orders g) (pOf g c) c := by
  have hd := parentsOf_drop hc
  have hpl := parentsOf_length g
  have hsp : (parentsOf g).drop 1 = ((parentsOf g).drop 1).take (c - 1) ++ (pOf g c :: (parentsOf g).drop (c + 1)) := by
    rw [← hd]
    have := (List.take_append_drop (c - 1) ((parentsOf g).drop 1)).symm
    rw [List.drop_drop, show 1 + (c - 1) = c by omega] at this
    exact this
  obtain ⟨t, e, hlen⟩ := ordersF_pre (((parentsOf g).drop 1).take (c - 1)) [[0]]
  have hl : (ordersF [[0]] (((parentsOf g).drop 1).take (c - 1))).length = c := by
    rw [e]; simp [hlen]; omega
  generalize hA : ordersF [[0]] (((parentsOf g).drop 1).take (c - 1)) = A at *
  have ho : orders g = ordersF (A ++ [orderOf A (pOf g c) c]) ((parentsOf g).drop (c + 1)) := by
    rw [orders_start, hsp, ordersF_app]
    rw [hA, ordersF_cons, hl]
  obtain ⟨u, e2, _⟩ := ordersF_pre ((parentsOf g).drop (c + 1)) (A ++ [orderOf A (pOf g c) c])
  rw [e2] at ho
  have hp := (fine_pOf hf (c := (c : Int)) (by omega)).2.1
  have hcg : listsOf A (pOf g c) = listsOf (orders g) (pOf g c) := listsOf_congr fun p hpm => by
    have := hp p hpm
    rw [ho, List.append_assoc, at_app (by omega)]
  have hoo : orderOf (orders g) (pOf g c) c = orderOf A (pOf g c) c := by rw [orderOf, orderOf, hcg]
  rw [hoo, ho, at_app (by simp; omega), at_, Int.toNat_natCast, List.getD_eq_getElem?_getD, ← hl]
  simp
end Go.Proofs
/- Plain laws on linear orders: what stands in them, in which order; and 'within'. -/
namespace Go.Proofs
open Go Go.W Go.V
theorem at_zero (g : List (List Int)) : at_ (orders g) 0 = [0] := by
  obtain ⟨t, e, _⟩ := ordersF_pre ((parentsOf g).drop 1) [[0]]
  rw [orders_start, e]; rfl
theorem ord_cons {g : List (List Int)} (hf : fine g = true) {c : Nat} (h1 : 1 ≤ c) (hc : c < 3 + g.length) (hne : at_ (orders g) c ≠ []) : ∃ all, listsOf (orders g) (pOf g c) = some all ∧ (merge all).2 = true ∧ at_ (orders g) c = (c : Int) :: ((merge all).1 ++ [0]) := by
  rw [at_orders hf h1 hc, orderOf] at hne
  rw [at_orders hf h1 hc, orderOf]
  cases hl : listsOf (orders g) (pOf g c) with
  | none => rw [hl] at hne; exact absurd rfl hne
  | some all =>
    rw [hl] at hne
    dsimp only at hne ⊢
    cases hm : (merge all).2 with
    | false => rw [hm] at hne; simp at hne
    | true => exact ⟨all, rfl, hm, by simp⟩
theorem listsOf_has {ords : List (List Int)} {ps : List Int} {all : List (List Int)} (h : listsOf ords ps = some all) : ∀ p ∈ ps, at_ ords p ≠ [] := by
  rw [listsOf] at h
  split at h
  · rename_i h1
    intro p hp
    have := List.all_eq_true.1 h1 p hp
    simpa using this
  · cases h
theorem listsOf_of {ords : List (List Int)} {ps : List Int} (h : ∀ p ∈ ps, at_ ords p ≠ []) : listsOf ords ps = some (ps.map (fun p => bare (at_ ords p)) ++ [ps]) := by
  rw [listsOf, if_pos]
  rw [List.all_eq_true]
  intro p hp
  have := h p hp
  simpa using this
/-- A linear order is its class, what stands between, and any. -/
theorem ord_bare {g : List (List Int)} (hf : fine g = true) {c : Nat} (h1 : 1 ≤ c) (hc : c < 3 + g.length) (hne : at_ (orders g) c ≠ []) : at_ (orders g) c = bare (at_ (orders g) c) ++ [0] := by
  obtain ⟨all, _, _, e⟩ := ord_cons hf h1 hc hne
  have hn := ((orders_ok hf).1.at c).1
  rw [e] at hn ⊢
  rw [← List.cons_append] at hn ⊢
  have h0 : (0 : Int) ∉ (c : Int) :: (merge all).1 := fun h => by
    rw [List.nodup_append] at hn
    exact hn.2.2 0 h 0 (by simp) rfl
  rw [bare, show without ((c : Int) :: (merge all).1 ++ [0]) 0 = (c : Int) :: (merge all).1 by
    have := without_not h0
    rw [without] at this ⊢
    rw [List.filter_append, this]; simp]
theorem ord_main {g : List (List Int)} (hf : fine g = true) : ∀ (n c : Nat), c < n → c < 3 + g.length → at_ (orders g) c ≠ [] →
    (∀ x : Int, x ∈ at_ (orders g) c ↔ (0 ≤ x ∧ x < 3 + (g.length : Int)) ∧ upHas g c x = true) ∧
    (∀ a : Int, (0 ≤ a ∧ a < 3 + (g.length : Int)) → upHas g c a = true → at_ (orders g) a ≠ [] ∧ (at_ (orders g) a).Sublist (at_ (orders g) c)) ∧ (pOf g c).Sublist (at_ (orders g) c) := by
  have h16 := fine_len hf
  intro n
  induction n with
  | zero => intro c h; omega
  | succ n ih =>
    intro c hcn hc hne
    by_cases h0 : c = 0
    · subst h0
      have hz := at_zero g
      have hle : ∀ x : Int, (0 ≤ x ∧ x < 3 + (g.length : Int)) → upHas g (0 : Nat) x = true → x = 0 := fun x hx h => by
        have := upHas_le hf hc (b := x) (by omega) (by omega) h; omega
      refine ⟨fun x => ?_, fun a ha h => ?_, ?_⟩
      · rw [show ((0 : Nat) : Int) = 0 from rfl, hz, List.mem_singleton]
        constructor
        · rintro rfl; exact ⟨by omega, upHas_zero hf (a := 0) (by omega)⟩
        · rintro ⟨h1, h2⟩; exact hle x h1 h2
      · rw [hle a ha h]
        rw [show ((0 : Nat) : Int) = 0 from rfl] at hne ⊢
        exact ⟨hne, List.Sublist.refl _⟩
      · rw [pOf_lt (by omega)]; exact List.nil_sublist _
    · have h1 : 1 ≤ c := by omega
      obtain ⟨all, hl, hm, e⟩ := ord_cons hf h1 hc hne
      have hps := fine_pOf hf (c := (c : Int)) (by omega)
      obtain ⟨k1, k2, k3⟩ := merge_keeps hm
      have hall := listsOf_some hl
      have hhas := listsOf_has hl
      have hpar : ∀ p ∈ pOf g c, (∀ x : Int, x ∈ at_ (orders g) p ↔ (0 ≤ x ∧ x < 3 + (g.length : Int)) ∧ upHas g p x = true) ∧
          (∀ a : Int, (0 ≤ a ∧ a < 3 + (g.length : Int)) → upHas g p a = true → at_ (orders g) a ≠ [] ∧ (at_ (orders g) a).Sublist (at_ (orders g) p)) ∧ at_ (orders g) p = bare (at_ (orders g) p) ++ [0] := fun p hp => by
        have hb := hps.2.1 p hp
        obtain ⟨q, rfl⟩ : ∃ q : Nat, p = (q : Int) := ⟨p.toNat, by omega⟩
        obtain ⟨a1, a2, _⟩ := ih q (by omega) (by omega) (hhas _ hp)
        exact ⟨a1, a2, ord_bare hf (by omega) (by omega) (hhas _ hp)⟩
      have hsubp : ∀ p ∈ pOf g c, (at_ (orders g) p).Sublist (at_ (orders g) c) := fun p hp => by
        have := k2 (bare (at_ (orders g) p)) (by rw [hall]; exact List.mem_append_left _ (List.mem_map_of_mem (f := fun p => bare (at_ (orders g) p)) hp))
        rw [(hpar p hp).2.2, e]
        exact (this.append_right [0]).cons _
      refine ⟨fun x => ?_, fun a ha h => ?_, ?_⟩
      · rw [e, List.mem_cons, List.mem_append, List.mem_singleton, k3]
        constructor
        · intro h
          have hx : x = (c : Int) ∨ x = 0 ∨ ∃ p ∈ pOf g c, (0 ≤ x ∧ x < 3 + (g.length : Int)) ∧ upHas g p x = true := by
            rcases h with h | ⟨m, hm, hx⟩ | h
            · exact .inl h
            · right; right
              rw [hall, List.mem_append, List.mem_map, List.mem_singleton] at hm
              rcases hm with ⟨p, hp, rfl⟩ | rfl
              · exact ⟨p, hp, ((hpar p hp).1 x).1 (mem_without.1 hx).1⟩
              · have := hps.2.1 x hx
                obtain ⟨q, rfl⟩ : ∃ q : Nat, x = (q : Int) := ⟨x.toNat, by omega⟩
                exact ⟨_, hx, by omega, upHas_self hf (by omega)⟩
            · exact .inr (.inl h)
          have hxr : 0 ≤ x ∧ x < 3 + (g.length : Int) := by
            rcases hx with h | h | ⟨_, _, h, _⟩ <;> omega
          refine ⟨hxr, ?_⟩
          rw [upHas_step hf hc (by omega) (by omega)]
          simp only [Bool.or_eq_true, decide_eq_true_eq, List.any_eq_true]
          rcases hx with h | h | ⟨p, hp, _, h⟩
          · exact .inl (.inl h)
          · exact .inl (.inr h)
          · exact .inr ⟨p, hp, h⟩
        · rintro ⟨hxr, h⟩
          rw [upHas_step hf hc (by omega) (by omega)] at h
          simp only [Bool.or_eq_true, decide_eq_true_eq, List.any_eq_true] at h
          rcases h with (h | h) | ⟨p, hp, h⟩
          · exact .inl h
          · exact .inr (.inr h)
          · by_cases hx0 : x = 0
            · exact .inr (.inr hx0)
            · exact .inr (.inl ⟨bare (at_ (orders g) p), by rw [hall]; exact List.mem_append_left _ (List.mem_map_of_mem (f := fun p => bare (at_ (orders g) p)) hp), mem_without.2 ⟨((hpar p hp).1 x).2 ⟨hxr, h⟩, hx0⟩⟩)
      · rw [upHas_step hf hc (by omega) (by omega)] at h
        simp only [Bool.or_eq_true, decide_eq_true_eq, List.any_eq_true] at h
        rcases h with (h | h) | ⟨p, hp, h⟩
        · subst h; exact ⟨hne, List.Sublist.refl _⟩
        · subst h
          rw [at_zero, e]
          exact ⟨by simp, ((List.sublist_append_right _ _).cons _)⟩
        · obtain ⟨h2, h3⟩ := (hpar p hp).2.1 a ha h
          exact ⟨h2, h3.trans (hsubp p hp)⟩
      · rw [e]
        have := k2 (pOf g c) (by rw [hall]; simp)
        exact ((this.trans (List.sublist_append_left _ _)).cons _)
/-! ### Within -/
def wStep (l : List Int) (i : Nat) (c : Int) : Nat := if i < l.length ∧ l.getD i 0 = c then i + 1 else i
def wIn (l inn : List Int) : Nat := inn.foldl (wStep l) 0
def withinB (l inn : List Int) : Bool := decide (wIn l inn = l.length)
theorem wIn_snoc (l inn : List Int) {k : Nat} (h : k < inn.length) : wIn l (inn.take (k + 1)) = wStep l (wIn l (inn.take k)) inn[k] := by rw [wIn, take_succ h, List.foldl_append]; rfl
theorem wStep_le {l : List Int} {i : Nat} (c : Int) (h : i ≤ l.length) : wStep l i c ≤ l.length := by unfold wStep; split <;> omega
theorem wFold_le (l : List Int) : ∀ (inn : List Int) (i : Nat), i ≤ l.length → inn.foldl (wStep l) i ≤ l.length
  | [], i, h => h
  | c :: r, i, h => wFold_le l r _ (wStep_le c h)
theorem wIn_le (l inn : List Int) : wIn l inn ≤ l.length := wFold_le l inn 0 (by omega)
theorem wFold_sub (l : List Int) : ∀ (inn : List Int) (i : Nat), i ≤ l.length → (inn.foldl (wStep l) i = l.length ↔ (l.drop i).Sublist inn)
  | [], i, h => by
    rw [List.foldl_nil, List.sublist_nil, List.drop_eq_nil_iff]; omega
  | c :: r, i, h => by
    rw [List.foldl_cons, wFold_sub l r _ (wStep_le c h)]
    by_cases hi : i < l.length
    · rw [drop_cons hi]
      by_cases e : l[i] = c
      · rw [wStep, if_pos ⟨hi, by rw [getD_lt hi]; exact e⟩, e, List.cons_sublist_cons]
      · rw [wStep, if_neg (fun h => e (by rw [← getD_lt hi (d := 0)]; exact h.2)), drop_cons hi]
        constructor
        · intro h; exact h.cons _
        · intro h
          cases h with
          | cons _ h => exact h
          | cons_cons _ h => exact absurd rfl e
    · rw [wStep, if_neg (fun h => hi h.1), List.drop_of_length_le (by omega)]
      simp
theorem within_sub {l inn : List Int} : withinB l inn = true ↔ l.Sublist inn := by
  rw [withinB, decide_eq_true_eq, wIn, wFold_sub l inn 0 (by omega), List.drop_zero]
end Go.Proofs
/- LineAgreed: plain laws: which lists agree. -/
namespace Go.Proofs
open Go Go.W Go.V
theorem nodup_take_not {l : List Int} (h : l.Nodup) {i : Nat} (hi : i < l.length) : (l.take i).contains (l.getD i 0) = false := by
  cases hc : (l.take i).contains (l.getD i 0) with
  | false => rfl
  | true =>
    rw [List.contains_iff_mem, getD_lt hi] at hc
    obtain ⟨k, hk, e⟩ := List.mem_iff_getElem.1 hc
    rw [List.getElem_take] at e
    simp at hk
    have := (List.getElem_inj h).1 e
    omega
theorem agB_iff {all : List (List Int)} {ab : List Int} {c : Int} {l : List Int} : agB all ab c l = true ↔ (l.length = ab.length ∧ l.getD 0 0 = c ∧ lastI l = 0) ∧ l.Nodup ∧ (∀ x ∈ l, x ∈ ab) ∧ l.Pairwise fun a b => precB all b a = false := by
  simp only [agB, Bool.and_eq_true, decide_eq_true_eq, List.all_eq_true, List.mem_range, agAt, Bool.not_eq_true']
  constructor
  · rintro ⟨⟨h1, h2, h3⟩, h⟩
    refine ⟨⟨h1, h2, h3⟩, nodup_takes fun i hi => (h i hi).1.2, fun x hx => ?_, ?_⟩
    · obtain ⟨i, hi, rfl⟩ := List.mem_iff_getElem.1 hx
      have := (h i hi).1.1
      rwa [getD_lt hi, List.contains_iff_mem] at this
    · rw [List.pairwise_iff_getElem]
      intro i j hi hj hij
      have := (h j hj).2 i hij
      rwa [getD_lt hi, getD_lt hj] at this
  · rintro ⟨h0, h1, h2, h3⟩
    refine ⟨⟨h0.1, h0.2.1, h0.2.2⟩, fun i hi => ⟨⟨?_, nodup_take_not h1 hi⟩, fun k hk => ?_⟩⟩
    · rw [getD_lt hi, List.contains_iff_mem]; exact h2 _ (List.getElem_mem _)
    · rw [getD_lt hi, getD_lt (by omega)]
      exact List.pairwise_iff_getElem.1 h3 k i (by omega) hi hk
/-- What is ahead stays ahead where all lists stand in one. -/
theorem ahead_pairs {all : List (List Int)} {e : List Int} (hn : ∀ l ∈ all, l.Nodup) (he : e.Nodup) (hs : ∀ m ∈ all, m.Sublist e) : e.Pairwise fun a b => precB all b a = false := by
  rw [List.pairwise_iff_getElem]
  intro i j hi hj hij
  cases h : precB all e[j] e[i] with
  | false => rfl
  | true =>
    obtain ⟨l, hl, hab⟩ := (prec_sub hn).1 h
    have hsub := hab.trans (hs l hl)
    have hp := List.pairwise_iff_getElem.1 (List.Pairwise.imp (R := fun a b => placeI e a 0 < placeI e b 0) (fun h => h) (by
      rw [List.pairwise_iff_getElem]
      intro i j hi hj hij
      have : [e[i], e[j]].Sublist e := by
        have h1 : e = e.take i ++ e[i] :: e.drop (i + 1) := by rw [← drop_cons hi, List.take_append_drop]
        have h2 : e[j] ∈ e.drop (i + 1) := List.mem_drop_iff_getElem.2 ⟨j - (i + 1), by omega, by congr 1; omega⟩
        have h3 : [e[i], e[j]].Sublist (e[i] :: e.drop (i + 1)) := (List.singleton_sublist.2 h2).cons_cons _
        have h4 := h3.trans (List.sublist_append_right (e.take i) _)
        rwa [← h1] at h4
      have := (pair_sub he).2 this
      rw [pairP, Bool.and_eq_true, decide_eq_true_eq, decide_eq_true_eq] at this
      exact this.2)) i j hi hj hij
    have hq := (pair_sub he).2 hsub
    rw [pairP, Bool.and_eq_true, decide_eq_true_eq, decide_eq_true_eq] at hq
    omega
theorem nodup_len_eq {l m : List Int} (h1 : l.Nodup) (h2 : m.Nodup) (h : ∀ x, x ∈ l ↔ x ∈ m) : l.length = m.length :=
  Nat.le_antisymm (nodup_sub_length l m h1 fun x hx => (h x).1 hx) (nodup_sub_length m l h2 fun x hx => (h x).2 hx)
/-- What is known of a class that has a linear order. -/
structure Has (g : List (List Int)) (c : Nat) (all : List (List Int)) (l : List Int) : Prop where
  eq : at_ (orders g) c = l
  lists : listsOf (orders g) (pOf g c) = some all
  nodup : l.Nodup
  mem : ∀ x : Int, x ∈ l ↔ x ∈ abOf g c
  head : l.getD 0 0 = c
  last : lastI l = 0
  anod : ∀ m ∈ all, m.Nodup
  keeps : ∀ m ∈ all, m.Sublist l
  pos : 0 < l.length
theorem lastI_snoc (l : List Int) (x : Int) : lastI (l ++ [x]) = x := by simp [lastI, List.getD_eq_getElem?_getD]
theorem lists_zero (g : List (List Int)) : listsOf (orders g) (pOf g 0) = some [[]] := by rw [pOf_lt (by omega)]; rfl
theorem allOf_eq {g : List (List Int)} {c : Nat} {all : List (List Int)} (h : listsOf (orders g) (pOf g c) = some all) : allOf g c = all := by rw [allOf, h]; rfl
theorem has_of {g : List (List Int)} (hf : fine g = true) {c : Nat} (hc : c < 3 + g.length) (hne : at_ (orders g) c ≠ []) : ∃ all, Has g c all (at_ (orders g) c) := by
  obtain ⟨m1, m2, m3⟩ := ord_main hf (c + 1) c (by omega) hc hne
  have hn := ((orders_ok hf).1.at c).1
  have hmem : ∀ x : Int, x ∈ at_ (orders g) c ↔ x ∈ abOf g c := fun x => by rw [m1, (abOf_spec g c).2.2]
  by_cases h0 : c = 0
  · subst h0
    have hz := at_zero g
    refine ⟨[[]], rfl, lists_zero g, hn, hmem, ?_, ?_, by simp, by simp, ?_⟩ <;> rw [show ((0 : Nat) : Int) = 0 from rfl, hz] <;> simp [lastI]
  · obtain ⟨all, hl, hm, e⟩ := ord_cons hf (by omega) hc hne
    obtain ⟨k1, k2, k3⟩ := merge_keeps hm
    refine ⟨all, rfl, hl, hn, hmem, ?_, ?_, ?_, fun m hm => ?_, ?_⟩
    · rw [e]; rfl
    · rw [e, ← List.cons_append, lastI_snoc]
    · have := allOf_nodup hf hc
      rwa [allOf_eq hl] at this
    · rw [e]; exact ((k2 m hm).trans (List.sublist_append_left _ _)).cons _
    · rw [e]; simp
theorem Has.agrees {g : List (List Int)} {c : Nat} {all : List (List Int)} {l : List Int} (h : Has g c all l) : agB all (abOf g c) c l = true := by
  rw [agB_iff]
  exact ⟨⟨nodup_len_eq h.nodup (abOf_spec g c).1 h.mem, h.head, h.last⟩, h.nodup, fun x hx => (h.mem x).1 hx, ahead_pairs h.anod h.nodup h.keeps⟩
theorem Has.no_ring {g : List (List Int)} {c : Nat} {all : List (List Int)} {l : List Int} (h : Has g c all l) (r : List Int) : ringB all r = false := by
  cases hr : ringB all r with
  | false => rfl
  | true =>
    rw [ringB, Bool.and_eq_true, decide_eq_true_eq, List.all_eq_true] at hr
    obtain ⟨h2, hr⟩ := hr
    have he : ∀ i, i < r.length → precB all (r.getD i 0) (r.getD (nxt r i) 0) = true := fun i hi => by
      have := hr i (List.mem_range.2 hi)
      simp only [rgAt, Bool.and_eq_true] at this
      exact this.2
    have hlt : ∀ a b, precB all a b = true → placeI l a 0 < placeI l b 0 := fun a b hab => by
      obtain ⟨m, hm, hab⟩ := (prec_sub h.anod).1 hab
      have := (pair_sub h.nodup).2 (hab.trans (h.keeps m hm))
      rw [pairP, Bool.and_eq_true, decide_eq_true_eq, decide_eq_true_eq] at this
      exact this.2
    have key : ∀ k, k < r.length → placeI l (r.getD 0 0) 0 + k ≤ placeI l (r.getD k 0) 0 := by
      intro k
      induction k with
      | zero => intro _; simp
      | succ k ih =>
        intro hk
        have := ih (by omega)
        have := hlt _ _ (he k (by omega))
        rw [nxt, if_pos hk] at this
        omega
    have := key (r.length - 1) (by omega)
    have hl := hlt _ _ (he (r.length - 1) (by omega))
    rw [nxt, if_neg (by omega)] at hl
    omega
theorem sub_bare {x y : Int} {l : List Int} (h : [x, y].Sublist l) (hx : x ≠ 0) (hy : y ≠ 0) : [x, y].Sublist (bare l) := by
  have := h.filter (fun c => c != (0 : Int))
  simpa [bare, without, hx, hy] using this
/-- What stands ahead in the lists of a class: what does so in its parents, or in an order above it. -/
theorem prec_above {g : List (List Int)} (hf : fine g = true) {c : Nat} (h3 : 3 ≤ c) (hc : c < 3 + g.length) {all : List (List Int)} {l : List Int} (h : Has g c all l) {x y : Int} (hx : x ≠ 0) (hy : y ≠ 0) :
    precB all x y = true ↔ [x, y].Sublist (pOf g c) ∨ ∃ a : Nat, a < 3 + g.length ∧ a ≠ c ∧ 3 ≤ a ∧ upHas g c a = true ∧ at_ (orders g) a ≠ [] ∧ [x, y].Sublist (at_ (orders g) a) := by
  have h16 := fine_len hf
  have hall := listsOf_some h.lists
  have hhas := listsOf_has h.lists
  have hps := (fine_pOf hf (c := (c : Int)) (by omega)).2.1
  rw [prec_sub h.anod]
  constructor
  · rintro ⟨m, hm, hs⟩
    rw [hall, List.mem_append, List.mem_map, List.mem_singleton] at hm
    rcases hm with ⟨p, hp, rfl⟩ | rfl
    · have hb := hps p hp
      obtain ⟨q, rfl⟩ : ∃ q : Nat, p = (q : Int) := ⟨p.toNat, by omega⟩
      refine .inr ⟨q, by omega, by omega, by omega, ?_, hhas _ hp, hs.trans List.filter_sublist⟩
      rw [upHas_step hf hc (by omega) (by omega)]
      simp only [Bool.or_eq_true, decide_eq_true_eq, List.any_eq_true]
      exact .inr ⟨_, hp, upHas_self hf (by omega)⟩
    · exact .inl hs
  · rintro (hs | ⟨a, ha, hac, ha3, hu, _, hs⟩)
    · exact ⟨_, by rw [hall]; simp, hs⟩
    · rw [upHas_step hf hc (by omega) (by omega)] at hu
      simp only [Bool.or_eq_true, decide_eq_true_eq, List.any_eq_true] at hu
      rcases hu with (hu | hu) | ⟨p, hp, hu⟩
      · omega
      · omega
      · have hb := hps p hp
        have hpn := hhas p hp
        have hin : bare (at_ (orders g) p) ∈ all := by rw [hall]; exact List.mem_append_left _ (List.mem_map_of_mem (f := fun p => bare (at_ (orders g) p)) hp)
        obtain ⟨q, rfl⟩ : ∃ q : Nat, p = (q : Int) := ⟨p.toNat, by omega⟩
        obtain ⟨_, m2, _⟩ := ord_main hf (q + 1) q (by omega) (by omega) hpn
        exact ⟨_, hin, sub_bare (hs.trans (m2 a (by omega) hu).2) hx hy⟩
theorem swap_parts {l : List Int} {i : Nat} (h1 : 1 ≤ i) (hi : i < l.length) : l = l.take (i - 1) ++ l[i - 1] :: l[i] :: l.drop (i + 1) ∧ (l.set (i - 1) l[i]).set i l[i - 1] = l.take (i - 1) ++ l[i] :: l[i - 1] :: l.drop (i + 1) := by
  obtain ⟨i, rfl⟩ : ∃ k, i = k + 1 := ⟨i - 1, by omega⟩
  simp only [Nat.add_sub_cancel]
  have e : l = l.take i ++ l[i] :: l[i + 1] :: l.drop (i + 2) := by
    rw [← drop_cons (show i + 1 < l.length by omega), ← drop_cons (show i < l.length by omega), List.take_append_drop]
  refine ⟨e, ?_⟩
  have hl : (l.take i).length = i := by simp; omega
  generalize l[i] = x at *
  generalize l[i + 1] = y at *
  generalize l.take i = A at *
  generalize l.drop (i + 2) = B at *
  subst e
  rw [List.set_append_right _ _ (by omega), List.set_append_right _ _ (by omega), hl]
  simp
/-- Two neighbours exchanged. -/
theorem Has.swapped {g : List (List Int)} {c : Nat} {all : List (List Int)} {l : List Int} (h : Has g c all l) {i : Nat} (h1 : 1 ≤ i) (hi : i + 1 < l.length) :
    agB all (abOf g c) c ((l.set (i - 1) l[i]).set i l[i - 1]) = (!decide (i = 1) && !precB all l[i - 1] l[i]) := by
  have hlen : ((l.set (i - 1) l[i]).set i l[i - 1]).length = l.length := by simp
  have hget : ∀ k (hk : k < l.length), ((l.set (i - 1) l[i]).set i l[i - 1]).getD k 0 = if i = k then l[i - 1] else if i - 1 = k then l[i] else l[k] := fun k hk => by
    rw [getD_lt (by omega)]; simp only [List.getElem_set]
  have hhead := h.head
  rw [getD_lt (by omega)] at hhead
  obtain ⟨p1, p2⟩ := swap_parts h1 (show i < l.length by omega)
  have hag := agB_iff.1 h.agrees
  have hne : l[i - 1] ≠ l[i] := fun e => by have := (List.getElem_inj h.nodup).1 e; omega
  rw [Bool.eq_iff_iff, agB_iff, Bool.and_eq_true, Bool.not_eq_true', Bool.not_eq_true', decide_eq_false_iff_not]
  have hpw := hag.2.2.2
  have hnd := h.nodup
  have hin := hag.2.2.1
  constructor
  · rintro ⟨⟨_, q2, _⟩, _, _, q3⟩
    refine ⟨fun e => ?_, ?_⟩
    · subst e
      rw [hget 0 (by omega), if_neg (by omega), if_pos rfl] at q2
      have := (List.getElem_inj h.nodup (i := 0) (j := 1) (h₀ := by omega) (h₁ := by omega)).1 (by rw [hhead, q2])
      omega
    · rw [p2] at q3
      rw [List.pairwise_append] at q3
      obtain ⟨_, q4, _⟩ := q3
      rw [List.pairwise_cons] at q4
      exact q4.1 _ (by simp)
  · rintro ⟨hi1, hpr⟩
    refine ⟨⟨by rw [hlen]; exact hag.1.1, ?_, ?_⟩, ?_, ?_, ?_⟩
    · rw [hget 0 (by omega), if_neg (by omega), if_neg (by omega)]; exact hhead
    · have := h.last
      rw [lastI, getD_lt (by omega)] at this
      rw [lastI, hlen, hget _ (by omega), if_neg (by omega), if_neg (by omega)]; exact this
    · rw [p2]
      rw [p1] at hnd
      have hp : (l.take (i - 1) ++ l[i] :: l[i - 1] :: l.drop (i + 1)).Perm (l.take (i - 1) ++ l[i - 1] :: l[i] :: l.drop (i + 1)) := List.Perm.append_left _ (List.Perm.swap _ _ _)
      exact hp.nodup_iff.2 hnd
    · intro x hx
      rw [p2] at hx
      refine hin x ?_
      rw [p1]
      simp only [List.mem_append, List.mem_cons] at hx ⊢
      rcases hx with h | h | h | h <;> simp [h]
    · rw [p2]
      rw [p1] at hpw
      rw [List.pairwise_append] at hpw ⊢
      obtain ⟨w1, w2, w3⟩ := hpw
      rw [List.pairwise_cons, List.pairwise_cons] at w2
      obtain ⟨w4, w5, w6⟩ := w2
      refine ⟨w1, ?_, fun a ha b hb => w3 a ha b ?_⟩
      · rw [List.pairwise_cons, List.pairwise_cons]
        refine ⟨fun b hb => ?_, fun b hb => w4 b (List.mem_cons_of_mem _ hb), w6⟩
        rcases List.mem_cons.1 hb with rfl | hb
        · exact hpr
        · exact w5 b hb
      · simp only [List.mem_cons] at hb ⊢
        rcases hb with h | h | h <;> simp [h]
end Go.Proofs
/- LineOrders: plain laws: why a class has no linear order. -/
namespace Go.Proofs
open Go Go.W Go.V
theorem at_low {g : List (List Int)} (hf : fine g = true) {c : Nat} (hc : c < 3) : at_ (orders g) c ≠ [] := by
  by_cases h0 : c = 0
  · subst h0
    rw [show ((0 : Nat) : Int) = 0 from rfl, at_zero]; simp
  · rw [at_orders hf (by omega) (by omega), pOf_lt (by omega)]
    have : listsOf (orders g) [] = some [[]] := rfl
    rw [orderOf, this]
    have h2 : (merge [[]]).2 = true := rfl
    simp [h2]
theorem first_none {g : List (List Int)} (hf : fine g = true) : ∀ (n c : Nat), c < n → at_ (orders g) c = [] → ∃ c0 : Nat, c0 ≤ c ∧ 3 ≤ c0 ∧ at_ (orders g) c0 = [] ∧ ∀ a : Nat, a < c0 → at_ (orders g) a ≠ [] := by
  intro n
  induction n with
  | zero => intro c h; omega
  | succ n ih =>
    intro c hcn h
    by_cases hall : ∀ a : Nat, a < c → at_ (orders g) a ≠ []
    · refine ⟨c, Nat.le_refl _, ?_, h, hall⟩
      refine Classical.byContradiction fun h3 => at_low hf (show c < 3 by omega) h
    · obtain ⟨a, ha, hn⟩ : ∃ a : Nat, a < c ∧ at_ (orders g) a = [] := by
        refine Classical.byContradiction fun hno => hall fun a ha hn => hno ⟨a, ha, hn⟩
      obtain ⟨c0, h1, h2⟩ := ih a (by omega) hn
      exact ⟨c0, by omega, h2⟩
theorem stuck_of {g : List (List Int)} (hf : fine g = true) {c : Nat} (h1 : 1 ≤ c) (hc : c < 3 + g.length) (h : at_ (orders g) c = []) (hp : ∀ p ∈ pOf g c, at_ (orders g) p ≠ []) : (merge ((pOf g c).map (fun p => bare (at_ (orders g) p)) ++ [pOf g c])).2 = false := by
  rw [at_orders hf h1 hc, orderOf, listsOf_of hp] at h
  dsimp only at h
  split at h
  · cases h
  · rename_i hm; simpa using hm
theorem ringB_of {all : List (List Int)} {N : Nat} {r : List Int} (h : Ring (precB all) N r) (h2 : 2 ≤ r.length) : ringB all r = true := by
  rw [ringB, decide_eq_true h2, Bool.true_and, List.all_eq_true]
  intro i hi
  rw [List.mem_range] at hi
  rw [rgAt, nodup_take_not h.1.1 hi, h.edge hi]; rfl
/-- Of a class without an order, all of whose parents have one, there is a ring. -/
theorem ring_of {g : List (List Int)} (hf : fine g = true) {c : Nat} (h3 : 3 ≤ c) (hc : c < 3 + g.length) (h : at_ (orders g) c = []) (hp : ∀ p ∈ pOf g c, at_ (orders g) p ≠ []) :
    ∃ r, Ring (precB (allOf g c)) (3 + g.length) r ∧ 2 ≤ r.length := by
  have hs := stuck_of hf (by omega) hc h hp
  rw [← allOf_eq (listsOf_of hp)] at hs
  exact stuck_ring (allOf_nodup hf hc) (fun l hl x hx => by have := allOf_three hf hc l hl x hx; omega) hs
theorem confl_first {g : List (List Int)} (hf : fine g = true) {c : Nat} (h3 : 3 ≤ c) (hc : c < 3 + g.length) (h : at_ (orders g) c = []) (hmin : ∀ a : Nat, a < c → at_ (orders g) a ≠ []) :
    ∃ r, conflR g = ((c : Int), r, 0) ∧ Ring (precB (allOf g c)) (3 + g.length) r ∧ 2 ≤ r.length := by
  have hps := (fine_pOf hf (c := (c : Int)) (by omega)).2.1
  have hp : ∀ p ∈ pOf g c, at_ (orders g) p ≠ [] := fun p hpm => by
    have := hps p hpm
    obtain ⟨q, rfl⟩ : ∃ q : Nat, p = (q : Int) := ⟨p.toNat, by omega⟩
    exact hmin q (by omega)
  obtain ⟨r0, hr0, hl0⟩ := ring_of hf h3 hc h hp
  have hls := listsOf_of hp
  have hca : confAt g c = (srN (allOf g c) (3 + g.length) ((List.range ((allOf g c).length + 1)).drop 2)).map fun l => ((c : Int), l) := by
    rw [confAt, hls, allOf_eq hls, h]; rfl
  obtain ⟨r, hr⟩ : ∃ r, srN (allOf g c) (3 + g.length) ((List.range ((allOf g c).length + 1)).drop 2) = some r := by
    cases hq : srN (allOf g c) (3 + g.length) ((List.range ((allOf g c).length + 1)).drop 2) with
    | some r => exact ⟨r, rfl⟩
    | none =>
      have := srch_none_long hq r0.length hl0
      exact absurd this (srch_complete r0 [] hr0)
  have hrs : Ring (precB (allOf g c)) (3 + g.length) r ∧ 2 ≤ r.length := by
    rw [srN] at hr
    obtain ⟨n, hn, hs⟩ := List.exists_of_findSome?_eq_some hr
    obtain ⟨h1, h2⟩ := srch_sound n [] r hs (.nil _) (by simp)
    rw [List.mem_drop_iff_getElem] at hn
    obtain ⟨i, hi, e⟩ := hn
    simp at e h2
    exact ⟨h1, by omega⟩
  refine ⟨r, ?_, hrs⟩
  have hcr : confR g = some ((c : Int), r) := by
    have hsp : (List.range (3 + g.length)).drop 3 = ((List.range (3 + g.length)).take c).drop 3 ++ (c :: (List.range (3 + g.length)).drop (c + 1)) := by
      have h1 : (List.range (3 + g.length)).drop c = c :: (List.range (3 + g.length)).drop (c + 1) := by rw [drop_cons (by simp; omega)]; simp
      rw [← h1, ← List.drop_append_of_le_length (by simp; omega), List.take_append_drop]
    rw [confR, hsp, List.findSome?_append, List.findSome?_cons, hca, hr]
    have hn : (((List.range (3 + g.length)).take c).drop 3).findSome? (confAt g) = none := by
      rw [List.findSome?_eq_none_iff]
      intro a ha
      have ha := List.mem_of_mem_drop ha
      obtain ⟨i, hi, e⟩ := List.mem_iff_getElem.1 ha
      simp at hi e
      have hne := hmin a (by omega)
      rw [confAt]
      split
      · rfl
      · rw [if_pos (List.length_pos_iff.2 hne)]
    rw [hn]; rfl
  rw [conflR, hf, if_pos rfl, confl_eq hf, hcr]
/-! ### What 'turned' and 'own' ask -/
theorem fidx_place (n : Int) : ∀ (l : List Int) (k : Nat), fidx (fun x => n == x) k l = placeI l n k
  | [], k => rfl
  | x :: r, k => by
    rw [fidx, placeI]
    by_cases h : x = n
    · subst h; simp
    · have : (n == x) = false := by rw [beq_eq_false_iff_ne]; exact fun e => h e.symm
      rw [this, if_neg h]
      have := fidx_place n r (k + 1)
      simpa using this
def ahead (a b : Int) (l : List Int) : Bool := decide (0 ≤ fidx (fun x => a == x) 0 l) && decide (fidx (fun x => a == x) 0 l < fidx (fun x => b == x) 0 l)
theorem ahead_pair (a b : Int) (l : List Int) : ahead a b l = pairP l a b 0 := by rw [ahead, pairP, fidx_place, fidx_place]; rfl
def turnedB (ls : List (List Int)) (r : List Int) : Bool := (List.range r.length).all fun i => ls.any (ahead (r.getD i 0) (r.getD (nxt r i) 0)) && !(r.take i).contains (r.getD i 0)
/-- The lists of a class, with any. -/
def wholeOf (g : List (List Int)) (c : Nat) : List (List Int) := [pOf g c] ++ (pOf g c).map (at_ (orders g))
theorem prec_whole {g : List (List Int)} (hf : fine g = true) {c : Nat} (hc : c < 3 + g.length) (hp : ∀ p ∈ pOf g c, at_ (orders g) p ≠ []) {a b : Int} (h : precB (allOf g c) a b = true) : ∃ l ∈ wholeOf g c, ahead a b l = true := by
  obtain ⟨l, hl, hs⟩ := (prec_sub (allOf_nodup hf hc)).1 h
  rw [allOf_eq (listsOf_of hp), List.mem_append, List.mem_map, List.mem_singleton] at hl
  rcases hl with ⟨p, hpm, rfl⟩ | rfl
  · refine ⟨at_ (orders g) p, by rw [wholeOf, List.mem_append]; exact .inr (List.mem_map_of_mem hpm), ?_⟩
    rw [ahead_pair, pair_sub ((orders_ok hf).1.at p).1]
    exact hs.trans List.filter_sublist
  · refine ⟨pOf g c, by simp [wholeOf], ?_⟩
    rw [ahead_pair, pair_sub (fine_pOf hf (c := (c : Int)) (by omega)).2.2]; exact hs
theorem turned_true {g : List (List Int)} (hf : fine g = true) {c : Nat} (hc : c < 3 + g.length) (hp : ∀ p ∈ pOf g c, at_ (orders g) p ≠ []) {r : List Int} (h : Ring (precB (allOf g c)) (3 + g.length) r) : turnedB (wholeOf g c) r = true := by
  rw [turnedB, List.all_eq_true]
  intro i hi
  rw [List.mem_range] at hi
  rw [nodup_take_not h.1.1 hi, Bool.not_false, Bool.and_true, List.any_eq_true]
  exact prec_whole hf hc hp (h.edge hi)
def ownStep (ls : List (List Int)) (a : Int) : List (List Int) := if ls.any (fun l => decide (0 < fidx (fun x => a == x) 0 l)) then ls else ls.map (without · a)
def ownRow (N : Nat) (ls : List (List Int)) : List (List Int) := (upto N).foldl ownStep ls
def ownN (N : Nat) : Nat → List (List Int) → List (List Int)
  | 0, ls => ls
  | k + 1, ls => ownRow N (ownN N k ls)
def RingIn (r : List Int) (ls : List (List Int)) : Prop := ∀ i, i < r.length → ∃ l ∈ ls, l.Nodup ∧ [r.getD i 0, r.getD (nxt r i) 0].Sublist l
theorem nxt_onto {r : List Int} {i : Nat} (hi : i < r.length) : ∃ j, j < r.length ∧ nxt r j = i := by
  by_cases h0 : i = 0
  · exact ⟨r.length - 1, by omega, by rw [nxt, if_neg (by omega)]; exact h0.symm⟩
  · exact ⟨i - 1, by omega, by rw [nxt, if_pos (by omega)]; omega⟩
theorem ownStep_ring {r : List Int} {ls : List (List Int)} (h : RingIn r ls) (a : Int) : RingIn r (ownStep ls a) := by
  rw [ownStep]
  split
  · exact h
  · rename_i hb
    have hb : ∀ l ∈ ls, ¬ 0 < fidx (fun x => a == x) 0 l := fun l hl hq => hb (List.any_eq_true.2 ⟨l, hl, decide_eq_true hq⟩)
    have hna : ∀ i, i < r.length → r.getD i 0 ≠ a := fun i hi e => by
      obtain ⟨j, hj, rfl⟩ := nxt_onto hi
      obtain ⟨l, hl, hn, hs⟩ := h j hj
      rw [e] at hs
      have := (pair_sub hn).2 hs
      have hfp := fidx_place a l 0
      rw [Int.natCast_zero] at hfp
      rw [pairP, Bool.and_eq_true, decide_eq_true_eq, decide_eq_true_eq, ← hfp] at this
      exact hb l hl (by omega)
    intro i hi
    obtain ⟨l, hl, hn, hs⟩ := h i hi
    refine ⟨without l a, List.mem_map_of_mem (f := (without · a)) hl, List.filter_sublist.nodup hn, ?_⟩
    have h1 := hna i hi
    have h2 := hna _ (show nxt r i < r.length by unfold nxt; split <;> omega)
    have := hs.filter (fun x => x != a)
    rw [List.filter_cons, if_pos (bne_iff_ne.2 h1), List.filter_cons, if_pos (bne_iff_ne.2 h2), List.filter_nil] at this
    exact this
theorem ownRow_ring {r : List Int} (N : Nat) {ls : List (List Int)} (h : RingIn r ls) : RingIn r (ownRow N ls) := by
  rw [ownRow]
  generalize upto N = cs
  induction cs generalizing ls with
  | nil => exact h
  | cons c cs ih => exact ih (ownStep_ring h c)
theorem ownN_ring {r : List Int} (N : Nat) {ls : List (List Int)} (h : RingIn r ls) : ∀ k, RingIn r (ownN N k ls)
  | 0 => h
  | k + 1 => ownRow_ring N (ownN_ring N h k)
/-- Some list is left. -/
theorem own_left {g : List (List Int)} (hf : fine g = true) {c : Nat} (h3 : 3 ≤ c) (hc : c < 3 + g.length) (h : at_ (orders g) c = []) (hp : ∀ p ∈ pOf g c, at_ (orders g) p ≠ []) (N k : Nat) :
    (ownN N k ([pOf g c] ++ (pOf g c).map fun p => bare (at_ (orders g) p))).any (fun l => decide (0 < l.length)) = true := by
  obtain ⟨r, hr, hl⟩ := ring_of hf h3 hc h hp
  have hn := allOf_nodup hf hc
  have hin : RingIn r ([pOf g c] ++ (pOf g c).map fun p => bare (at_ (orders g) p)) := fun i hi => by
    obtain ⟨l, hl, hs⟩ := (prec_sub hn).1 (hr.edge hi)
    refine ⟨l, ?_, hn l hl, hs⟩
    rw [allOf_eq (listsOf_of hp), List.mem_append] at hl
    rw [List.mem_append]; exact hl.symm
  obtain ⟨l, hl2, _, hs⟩ := ownN_ring N hin k 0 (by omega)
  rw [List.any_eq_true]
  refine ⟨l, hl2, decide_eq_true ?_⟩
  have := hs.length_le
  simp at this
  omega
end Go.Proofs
/- LineOrders: each class of a ring stands ahead of the next one in an order that has to be kept. -/
namespace Go.Proofs
open Go Go.W Go.V
theorem s_law03_turned_1 (l : List Int) (a b : Int) : V.Spec Try.prog Fc.law03_turned_1 [ints l, .ep [V.int a] 0, .ep [V.int b] 0] [] (V.bool (ahead a b l)) [] := by
  have ha := s_slices_Index_Lint_int l a
  have hb := s_slices_Index_Lint_int l b
  rw [ahead]
  generalize fidx (fun x => a == x) 0 l = x at *
  generalize fidx (fun x => b == x) 0 l = y at *
  refine V.Spec.enter Try.tabOK Try.mixed Fn.law03_turned_1 rfl rfl rfl fun B hB => ?_
  repeat' (first
   | (with_reducible refine OL.st ?_)
   | (with_reducible refine TC.region ?_)
   | (with_reducible refine TC.seq ?_)
   | (with_reducible refine OL.nil ?_)
   | (with_reducible refine TX.thenN ?_)
   | fail)
  (with_reducible refine TC.draw (id := 1) true 8 8 ?_) <;> (with_reducible refine OD.st 0 ?_) <;> (with_reducible refine OD.st 1 ?_) <;> (with_reducible refine OD.st 3 ?_) <;> (with_reducible refine OD.st 4 ?_) <;> (with_reducible refine OD.c1 2 ha Fn.slices_Index_Lint_int ?_) <;> (with_reducible refine OD.c1 5 hb Fn.slices_Index_Lint_int ?_) <;> (with_reducible refine OD.st 6 ?_) <;> (with_reducible refine OD.st 7 ?_) <;> (with_reducible refine OD.dn ?_)
  repeat' (first
   | (with_reducible refine OL.st ?_)
   | (with_reducible refine TC.region ?_)
   | (with_reducible refine TC.seq ?_)
   | (with_reducible refine OL.nil ?_)
   | (with_reducible refine TX.thenN ?_)
   | (with_reducible refine OL.gOn ?_)
   | (with_reducible refine OL.gOff ?_)
   | (with_reducible refine OL.gD ?_ ?_ <;> (intro hc; try (exfalso; omega)))
   | (with_reducible refine TC.ret ?_)
   | fail)
  all_goals refine TX.rt1 [] (.bool ?_)
  · have : 0 ≤ x := by omega
    simp [this]
  · have : ¬ 0 ≤ x := by omega
    simp [this]
theorem s_law03_turned {g os : List (List Int)} {c : Nat} (h3 : 3 ≤ c) (hc : c < 3 + g.length) (ho : os.length = 3 + g.length) (hg : g.length ≤ 1000) {P : List Int} (hP : P = pOf g c) (hps : ∀ p ∈ P, 0 ≤ p ∧ p < (os.length : Int)) (f : Int → List Int) (hf : ∀ p ∈ P, os.getD p.toNat [] = f p) (hpl : P.length ≤ 1000) {r : List Int} (hr : turnedB ([P] ++ P.map f) r = true) :
    V.Spec Try.prog Fc.law03_turned [rows g, rows os, V.int c, ints r] [] (V.bool true) [] := by
  have hP : P = g[((c : Int) - 3).toNat]'(by omega) := by rw [hP, pOf_ge (by omega), getD_lt (by omega)]
  rw [turnedB, List.all_eq_true] at hr
  refine V.Spec.enter Try.tabOK Try.mixed Fn.law03_turned rfl rfl rfl fun B hB => ?_
  refine TC.bl 3 fun hrl => ?_
  repeat' (first
   | (with_reducible refine OL.st ?_)
   | (with_reducible refine OL.lit ?_)
   | (with_reducible refine TC.region ?_)
   | (with_reducible refine TC.seq ?_)
   | (with_reducible refine OL.nil ?_)
   | (with_reducible refine TX.thenN ?_)
   | (with_reducible refine TC.block ?_)
   | fail)
  rw [← hP]
  refine TC.lp (fun k : Nat => [(1, rows os), (3, ints r), (9, .hs 0), (26, ints P), (27, V.int P.length), (28, V.int k)]) (fun k => [.gs false Tc.Lint 1 none (([P] ++ (P.take k).map f).map ints)]) (fun k => k ≤ P.length) (fun k => P.length - k) 0 [0] (Nat.zero_le _) ?_ (ho := ⟨⟨_, rfl, OE.gsS (by simp)⟩, trivial⟩)
  rintro k hk
  by_cases hkl : k < P.length
  · have h1 := hps P[k] (List.getElem_mem _)
    have h2 : os[P[k].toNat]'(by omega) = f P[k] := by rw [← hf P[k] (List.getElem_mem _), getD_lt (by omega)]
    have e : ([P] ++ (P.take k).map f).map ints ++ [ints (os[P[k].toNat]'(by omega))] = ([P] ++ (P.take (k + 1)).map f).map ints := by rw [h2, take_succ hkl]; simp only [List.map_append, List.map_cons, List.map_nil, List.append_assoc]
    have hlen : ([P] ++ (P.take k).map f).length = k + 1 := by simp; omega
    generalize [P] ++ (P.take k).map f = W at *
    repeat' (first
     | (with_reducible refine OL.st ?_)
     | (with_reducible refine OL.lit ?_)
     | (with_reducible refine OL.appO ?_)
     | (with_reducible refine TC.region ?_)
     | (with_reducible refine TC.seq ?_)
     | (with_reducible refine OL.nil ?_)
     | (with_reducible refine TX.thenN ?_)
     | (with_reducible refine TC.block ?_)
     | (with_reducible refine TC.skip ?_)
     | (with_reducible refine TX.blkN ?_)
     | (with_reducible refine TC.ifD ?_ ?_ <;> (intro hc; try (exfalso; omega)))
     | fail)
    exact TX.rd (k + 1) [2] (by omega) (by omega)
  · rw [take_all (by omega)]
    generalize [P] ++ P.map f = W at *
    repeat' (first
     | (with_reducible refine OL.st ?_)
     | (with_reducible refine TC.region ?_)
     | (with_reducible refine TC.seq ?_)
     | (with_reducible refine OL.nil ?_)
     | (with_reducible refine TX.thenN ?_)
     | (with_reducible refine TC.block ?_)
     | (with_reducible refine TC.exit ?_)
     | (with_reducible refine TX.hit ?_)
     | (with_reducible refine TX.thenX ?_)
     | (with_reducible refine TC.ifD ?_ ?_ <;> (intro hc; try (exfalso; omega)))
     | fail)
    refine TC.vw 9 ?_
    refine TC.lp (fun i : Nat => [(3, ints r), (9, rows W), (40, ints r), (41, V.int r.length), (42, V.int i)]) (fun _ => []) (fun i => i ≤ r.length) (fun i => r.length - i) 0 [] (Nat.zero_le _) ?_
    rintro i hi
    by_cases hil : i < r.length
    · have hri := hr i (List.mem_range.2 hil)
      rw [Bool.and_eq_true] at hri
      have hm := nxt_mod hil
      have hm1 := nxt_lt hil
      rw [getD_lt hil, getD_lt hm1] at hri
      obtain ⟨a, ha⟩ : ∃ a, a = r[i] := ⟨_, rfl⟩
      obtain ⟨b, hb⟩ : ∃ b, b = r[nxt r i] := ⟨_, rfl⟩
      rw [← ha, ← hb] at hri
      have hcf := s_slices_ContainsFunc_LLint_Lint W (ahead a b)
      have hcn := s_slices_Contains_Lint_int (r.take i) a
      rw [hri.1] at hcf
      rw [show (r.take i).contains a = false by simpa using hri.2] at hcn
      have hx : r[(((i : Int) + 1) % (r.length : Int)).toNat]'(by rw [hm]; simpa using hm1) = b := by rw [hb]; congr 1; rw [hm]; simp
      have hm0 : 0 ≤ ((i : Int) + 1) % (r.length : Int) := by omega
      have hm2 : ((i : Int) + 1) % (r.length : Int) < (r.length : Int) := by omega
      repeat' (first
       | (with_reducible refine OL.st ?_)
       | (with_reducible refine OL.alloc ?_)
       | (with_reducible refine OL.store ?_)
       | (with_reducible refine TC.region ?_)
       | (with_reducible refine TC.seq ?_)
       | (with_reducible refine OL.nil ?_)
       | (with_reducible refine TX.thenN ?_)
       | (with_reducible refine TC.block ?_)
       | (with_reducible refine TC.skip ?_)
       | (with_reducible refine TC.ifD ?_ ?_ <;> (intro hc; try (exfalso; omega)))
       | fail)
      simp only [hx, ← ha]
      refine OL.frzA 0 ?_
      refine OL.frzA 1 ?_
      refine OL.c hcf Fn.slices_ContainsFunc_LLint_Lint ?_ (hle := by exact ⟨.ren rfl, LE.fun_ (first' := []) (caps' := [.ep [V.int a] 0, .ep [V.int b] 0]) Fn.law03_turned_1 rfl trivial ⟨.ren rfl, .ren rfl, trivial⟩ (fun x hx => s_law03_turned_1 x a b), trivial⟩)
      repeat' (first
       | (with_reducible refine OL.st ?_)
       | (with_reducible refine TC.seq ?_)
       | (with_reducible refine OL.nil ?_)
       | (with_reducible refine TX.thenN ?_)
       | fail)
      (with_reducible refine TC.draw (id := 12) true 9 9 ?_) <;> (with_reducible refine OD.st 0 ?_) <;> (with_reducible refine OD.st 1 ?_) <;> (with_reducible refine OD.st 2 ?_) <;> (with_reducible refine OD.st 3 ?_) <;> (with_reducible refine OD.st 4 ?_) <;> (with_reducible refine OD.st 5 ?_) <;> (with_reducible refine OD.st 6 ?_) <;> (with_reducible refine OD.c1 7 hcn Fn.slices_Contains_Lint_int ?_) <;> (with_reducible refine OD.st 8 ?_) <;> (with_reducible refine OD.dn ?_)
      repeat' (first
       | (with_reducible refine OL.st ?_)
       | (with_reducible refine TC.region ?_)
       | (with_reducible refine OL.nil ?_)
       | (with_reducible refine TX.thenN ?_)
       | (with_reducible refine TC.skip ?_)
       | (with_reducible refine TX.blkN ?_)
       | (with_reducible refine TC.ifF ?_)
       | fail)
      exact TX.rd (i + 1) [] (by omega) (by omega)
    · repeat' (first
       | (with_reducible refine OL.st ?_)
       | (with_reducible refine TC.region ?_)
       | (with_reducible refine TC.seq ?_)
       | (with_reducible refine OL.nil ?_)
       | (with_reducible refine TX.thenN ?_)
       | (with_reducible refine TC.exit ?_)
       | (with_reducible refine TX.hit ?_)
       | (with_reducible refine TX.thenX ?_)
       | (with_reducible refine TC.ifD ?_ ?_ <;> (intro hc; try (exfalso; omega)))
       | (with_reducible refine TC.ret ?_)
       | fail)
      exact TX.rt1 [] (.ren rfl)
end Go.Proofs
/- Level 2: an integer is stored into a slice of the call's own; a part of a slice, by both ends. -/
namespace Go.V
open Go Go.W
section
variable {C : Cx} {ops : Array Oper} {Q : Qt} {ρ : Ro} {η η2 : Eta} {rest : List Oper} {T d X : Nat} {pos : String} {af : Array Edge} {x y : Operand}
theorem OL.stI {i k E : Nat} {ab : List Int} {t : Int} {nl : Option Bool} (hk : k < ab.length) (kk : OL C ops Q rest ρ η2) (hs : (C.tab X).map (fun e => (e.sh.agg, e.size)) = some (false, 1) := by with_unfolding_all exact rfl)
    (hx : ev2 ρ x = some (.gp i 1 k 0) := by with_unfolding_all exact rfl) (hy : ev2 ρ y = some (V.int t) := by with_unfolding_all exact rfl) (ho : η[i]? = some (.gs false E 1 nl (ab.map V.int)) := by with_unfolding_all exact rfl) (hη : η.set i (.gs false E 1 nl ((ab.set k t).map V.int)) = η2 := by (try dsimp only [List.set]) <;> exact rfl) : OL C ops Q (⟨none, .store X x y, T, pos, af, none⟩ :: rest) ρ η :=
  OL.storeE (e := V.int ab[k]) (e' := V.int t) kk hs hx hy ho (map_get hk) rfl (by decide) (by rw [← List.map_set]; exact hη)
variable {z : Operand} {M : Bool}
end
end Go.V
/- LineOrders: slices.DeleteFunc; the closures of own; own, in plain Lean. -/
namespace Go.Proofs
open Go Go.W Go.V
theorem fidx_first (p : Int → Bool) : ∀ (l : List Int) (k : Nat), (fidx p k l = -1 ∧ ∀ x ∈ l, p x = false) ∨ ∃ i : Nat, i < l.length ∧ fidx p k l = (k : Int) + i ∧ p (l.getD i 0) = true ∧ ∀ x ∈ l.take i, p x = false
  | [], k => .inl ⟨rfl, by simp⟩
  | x :: r, k => by
    rw [fidx]
    cases hp : p x with
    | true => exact .inr ⟨0, by simp, by simp, by simpa using hp, by simp⟩
    | false =>
      rcases fidx_first p r (k + 1) with ⟨h1, h2⟩ | ⟨i, h1, h2, h3, h4⟩
      · exact .inl ⟨by simpa using h1, by simpa [hp] using h2⟩
      · refine .inr ⟨i + 1, by simpa using h1, by simp only [Bool.false_eq_true, if_false]; rw [h2]; push_cast; omega, by simpa using h3, ?_⟩
        simpa [hp] using h4
def keepF (p : Int → Bool) (l : List Int) : List Int := l.filter fun x => !p x
theorem keepF_all {p : Int → Bool} {l : List Int} (h : ∀ x ∈ l, p x = false) : keepF p l = l := by
  rw [keepF, List.filter_eq_self]; intro x hx; rw [h x hx]; rfl
theorem keepF_succ (p : Int → Bool) {l : List Int} {k : Nat} (h : k < l.length) : keepF p (l.take (k + 1)) = keepF p (l.take k) ++ (if p l[k] then [] else [l[k]]) := by
  rw [keepF, take_succ h, List.filter_append, keepF]
  congr 1
  cases hp : p l[k] <;> simp [List.filter_cons, hp]
theorem keepF_len (p : Int → Bool) (l : List Int) (k : Nat) : (keepF p (l.take k)).length ≤ k := by
  have := List.length_filter_le (fun x => !p x) (l.take k)
  rw [List.length_take] at this
  show (List.filter _ _).length ≤ k
  omega
set_option maxHeartbeats 1000000 in
theorem s_slices_DeleteFunc_Lint_int (l : List Int) (p : Int → Bool) (hll : l.length ≤ 1000) : V.Spec Try.prog Fc.slices_DeleteFunc_Lint_int [.hs 0, predE Try.prog V.int (· ∈ l) p] [.gs false Tc.int 1 none (l.map V.int)] (.hs 1) [.dead, .gs false Tc.int 1 none ((keepF p l).map V.int)] := by
  have hif := s_slices_IndexFunc_Lint_int l p
  refine V.Spec.enter Try.tabOK Try.mixed Fn.slices_DeleteFunc_Lint_int rfl rfl rfl fun B hB => ?_
  rcases fidx_first p l 0 with ⟨h1, h2⟩ | ⟨i, h1, h2, h3, h4⟩
  · rw [h1] at hif
    rw [keepF_all h2]
    repeat' (first
     | (with_reducible refine OL.st ?_)
     | (with_reducible refine TC.region ?_)
     | (with_reducible refine TC.seq ?_)
     | (with_reducible refine OL.nil ?_)
     | (with_reducible refine TX.thenN ?_)
     | fail)
    refine OL.lend (Wk.view (t := 8) rfl rfl) hif Fn.slices_IndexFunc_Lint_int ?_
    repeat' (first
     | (with_reducible refine OL.st ?_)
     | (with_reducible refine TC.region ?_)
     | (with_reducible refine TC.seq ?_)
     | (with_reducible refine OL.nil ?_)
     | (with_reducible refine TX.thenN ?_)
     | (with_reducible refine TC.ifT ?_)
     | (with_reducible refine TC.ret ?_)
     | (with_reducible refine TX.thenR ?_)
     | fail)
    refine TX.mv 4 ?_
    exact TX.rt1 [0, 1] (.ren rfl)
  · rw [h2] at hif
    simp only [Int.natCast_zero, Int.zero_add] at hif
    repeat' (first
     | (with_reducible refine OL.st ?_)
     | (with_reducible refine TC.region ?_)
     | (with_reducible refine TC.seq ?_)
     | (with_reducible refine OL.nil ?_)
     | (with_reducible refine TX.thenN ?_)
     | fail)
    refine OL.lend (Wk.view (t := 8) rfl rfl) hif Fn.slices_IndexFunc_Lint_int ?_
    repeat' (first
     | (with_reducible refine OL.st ?_)
     | (with_reducible refine TC.region ?_)
     | (with_reducible refine TC.seq ?_)
     | (with_reducible refine OL.nil ?_)
     | (with_reducible refine TX.thenN ?_)
     | (with_reducible refine TC.block ?_)
     | (with_reducible refine TC.skip ?_)
     | (with_reducible refine TC.ifF ?_)
     | fail)
    have hi1 : keepF p (l.take (i + 1)) = l.take i := by
      rw [keepF_succ p h1, keepF_all h4, ← getD_lt (d := 0) h1, h3]; simp
    have e0 : (i : Int) = ((keepF p (l.take (i + 1))).length : Nat) := by rw [hi1]; simp; omega
    refine TC.lp (fun s : Nat × List Int => [(0, .hs 0), (1, predE Try.prog V.int (· ∈ l) p), (5, V.int (keepF p (l.take s.1)).length), (6, V.int s.1)]) (fun s => [.gs false Tc.int 1 none (s.2.map V.int)]) (fun s => s.1 ≤ l.length ∧ s.2.length = l.length ∧ s.2.take (keepF p (l.take s.1)).length = keepF p (l.take s.1) ∧ s.2.drop s.1 = l.drop s.1) (fun s => l.length - s.1) (i + 1, l) [0] ⟨h1, rfl, ?_, rfl⟩ ?_ (hr := ⟨⟨_, rfl, .ren rfl⟩, ⟨_, rfl, .ren rfl⟩, ⟨_, rfl, LE.int e0⟩, ⟨_, rfl, .ren rfl⟩, trivial⟩)
    · dsimp only; rw [hi1]; simp
    · rintro ⟨j, cur⟩ ⟨g1, g2, g3, g4⟩
      dsimp only at g1 g2 g3 g4 ⊢
      have hfl := keepF_len p l j
      by_cases hj : j < l.length
      · have hcj : cur[j]'(by omega) = l[j] := by
          have h9 := g4
          rw [drop_cons hj, drop_cons (by omega)] at h9
          exact (List.cons.inj h9).1
        have hks := keepF_succ p hj
        have hdr : ∀ (c2 : List Int), c2.drop j = l.drop j → c2.drop (j + 1) = l.drop (j + 1) := fun c2 h => by
          rw [← List.drop_drop, ← List.drop_drop, h]
        generalize hF : keepF p (l.take j) = F at *
        repeat' (first
         | (with_reducible refine OL.st ?_)
         | (with_reducible refine TC.region ?_)
         | (with_reducible refine TC.seq ?_)
         | (with_reducible refine OL.nil ?_)
         | (with_reducible refine TX.thenN ?_)
         | (with_reducible refine TC.block ?_)
         | (with_reducible refine TC.skip ?_)
         | (with_reducible refine TC.ifD ?_ ?_ <;> (intro hc; try (exfalso; omega)))
         | fail)
        rw [hcj]
        refine OL.cf l[j] (List.getElem_mem _) ?_
        repeat' (first
         | (with_reducible refine OL.st ?_)
         | (with_reducible refine OL.nil ?_)
         | (with_reducible refine TX.thenN ?_)
         | fail)
        cases hp : p l[j]
        · rw [hp] at hks
          repeat' (first
           | (with_reducible refine OL.st ?_)
           | (with_reducible refine TC.region ?_)
           | (with_reducible refine TC.seq ?_)
           | (with_reducible refine TC.ifT ?_)
           | fail)
          refine OL.stI (k := F.length) (ab := cur) (by omega) ?_
          repeat' (first
           | (with_reducible refine OL.st ?_)
           | (with_reducible refine TC.region ?_)
           | (with_reducible refine OL.nil ?_)
           | (with_reducible refine TX.thenN ?_)
           | (with_reducible refine TX.blkN ?_)
           | fail)
          have e : ((F.length : Int) + 1) = ((keepF p (l.take (j + 1))).length : Nat) := by rw [hks]; simp
          refine TX.rd (j + 1, cur.set F.length l[j]) [0] ⟨by omega, by simpa using g2, ?_, ?_⟩ (by dsimp only; omega)
          · dsimp only
            rw [hks]
            simp only [Bool.false_eq_true, if_false, List.length_append, List.length_singleton]
            rw [take_succ (by simp; omega), List.take_set_of_le (by omega), g3]
            simp
          · dsimp only
            rw [List.drop_set_of_lt (by omega)]
            exact hdr cur g4
        · rw [hp] at hks
          simp only [if_true, List.append_nil] at hks
          repeat' (first
           | (with_reducible refine OL.st ?_)
           | (with_reducible refine TC.region ?_)
           | (with_reducible refine OL.nil ?_)
           | (with_reducible refine TX.thenN ?_)
           | (with_reducible refine TC.skip ?_)
           | (with_reducible refine TX.blkN ?_)
           | (with_reducible refine TC.ifF ?_)
           | fail)
          have e : (F.length : Int) = ((keepF p (l.take (j + 1))).length : Nat) := by rw [hks]
          exact TX.rd (j + 1, cur) [0] ⟨by omega, g2, by dsimp only; rw [hks]; exact g3, hdr cur g4⟩ (by dsimp only; omega)
      · obtain rfl : j = l.length := by omega
        rw [List.take_length] at *
        generalize keepF p l = F at *
        repeat' (first
         | (with_reducible refine OL.st ?_)
         | (with_reducible refine TC.region ?_)
         | (with_reducible refine TC.seq ?_)
         | (with_reducible refine OL.nil ?_)
         | (with_reducible refine TX.thenN ?_)
         | (with_reducible refine TC.exit ?_)
         | (with_reducible refine TX.hit ?_)
         | (with_reducible refine TX.thenX ?_)
         | (with_reducible refine TC.ifD ?_ ?_ <;> (intro hc; try (exfalso; omega)))
         | fail)
        refine OL.clearT (n := F.length) (u := V.int 0) (u0 := V.int 0) ?_ (fun m w γ => .raw rfl)
        repeat' (first
         | (with_reducible refine OL.st ?_)
         | (with_reducible refine TC.region ?_)
         | (with_reducible refine TC.seq ?_)
         | (with_reducible refine OL.nil ?_)
         | (with_reducible refine TX.thenN ?_)
         | fail)
        refine OL.cut (n := F.length) ?_ (hn := by simp; omega)
        repeat' (first
         | (with_reducible refine OL.st ?_)
         | (with_reducible refine OL.nil ?_)
         | (with_reducible refine TX.thenN ?_)
         | (with_reducible refine TC.ret ?_)
         | fail)
        have e2 : (cur.map V.int).take F.length = F.map V.int := by rw [← List.map_take, g3]
        refine TX.rt1 [0, 1] (.ren rfl) (ho := ⟨⟨_, rfl, OE.ren rfl⟩, ⟨_, rfl, OE.gsS ?_⟩, trivial⟩)
        rw [List.take_append_of_le_length (by simp; omega), List.take_take, Nat.min_self, e2]
end Go.Proofs
/- LineOrders: own: the lists of a class, from which what nothing precedes is taken away, again and again. -/
namespace Go.V
open Go Go.W
section
variable {C : Cx} {ρ : Ro} {η : Eta} {X : Nat} {x y : Operand} {M : Bool}
theorem gvCut {E : Nat} {nl : Option Bool} {i : Int} {l l0 : List Int} (h : l = l0 ++ [0]) (hs : (C.tab X).map (·.sh) = some (.slice E) := by with_unfolding_all exact rfl) (hz : (C.tab E).map (·.size) = some 1 := by with_unfolding_all exact rfl)
    (hx : ev2 ρ x = some (.sl 1 nl (l.map int)) := by with_unfolding_all exact rfl) (hy : ev2 ρ y = some (.raw (.int .i64 i)) := by with_unfolding_all exact rfl) (hi : i = (l.length : Int) - 1 := by with_unfolding_all exact rfl) : Gives C.P C.N C.D (.slice X x none (some y) none) ρ η (ints l0) M := by
  have hl : l.length = l0.length + 1 := by rw [h]; simp
  have := give_slice_h (P := C.P) (N := C.N) (D := C.D) (η := η) (M := M) (h := l0.length) (Cx.hT _) hs hz hx hy (by omega) (by omega)
  rwa [show l.take l0.length = l0 by rw [h]; simp] at this
end
end Go.V
namespace Go.Proofs
open Go Go.W Go.V
def hsR : Nat → Nat → List AV
  | _, 0 => []
  | j, k + 1 => .hs j :: hsR (j + 1) k
def gsR (Z : Nat → List Int) : Nat → Nat → List AO
  | _, 0 => []
  | j, k + 1 => .gs false Tc.int 1 none ((Z j).map V.int) :: gsR Z (j + 1) k
/-- The slice of the lists, and the lists. -/
def ownE (Z : Nat → List Int) (k : Nat) : Eta := .gw Tc.Lint 1 none (hsR 1 k) :: gsR Z 0 k
def behindB (a : Nat) (l : List Int) : Bool := decide (0 < fidx (fun x => (a : Int) == x) 0 l)
def oX (m : Nat) (Y : Nat → List Int) : Nat → Nat → List Int
  | 0, i => Y i
  | a + 1, i => if ((List.range m).map (oX m Y a)).any (behindB a) then oX m Y a i else without (oX m Y a i) a
def oY (m N : Nat) (Z : Nat → List Int) : Nat → Nat → List Int
  | 0, i => Z i
  | j + 1, i => oX m (oY m N Z j) N i
theorem oX_len {m : Nat} {Y : Nat → List Int} (h : ∀ i, (Y i).length ≤ 1000) : ∀ (a i : Nat), (oX m Y a i).length ≤ 1000
  | 0, i => h i
  | a + 1, i => by
    rw [oX]
    split
    · exact oX_len h a i
    · have := without_length (oX m Y a i) a
      have := oX_len (m := m) h a i
      omega
theorem oY_len {m N : Nat} {Z : Nat → List Int} (h : ∀ i, (Z i).length ≤ 1000) : ∀ (j i : Nat), (oY m N Z j i).length ≤ 1000
  | 0, i => h i
  | j + 1, i => oX_len (oY_len h j) N i
theorem oX_row (m : Nat) (Y : Nat → List Int) : ∀ a : Nat, (upto a).foldl ownStep ((List.range m).map Y) = (List.range m).map (oX m Y a)
  | 0 => rfl
  | a + 1 => by
    rw [upto_succ, List.foldl_append, oX_row m Y a]
    show ownStep _ _ = _
    rw [ownStep]
    show (if ((List.range m).map (oX m Y a)).any (behindB a) then _ else _) = _
    have e : ∀ b : Bool, ((List.range m).map (oX m Y a)).any (behindB a) = b → (List.range m).map (oX m Y (a + 1)) = if b then (List.range m).map (oX m Y a) else ((List.range m).map (oX m Y a)).map (without · a) := fun b hb => by
      cases b
      · rw [if_neg (by simp), List.map_map]
        refine List.map_congr_left fun i _ => ?_
        rw [oX, hb, if_neg (by simp)]; rfl
      · rw [if_pos rfl]
        refine List.map_congr_left fun i _ => ?_
        rw [oX, hb, if_pos rfl]
    exact (e _ rfl).symm
theorem oY_own (m N : Nat) (Z : Nat → List Int) : ∀ j : Nat, ownN N j ((List.range m).map Z) = (List.range m).map (oY m N Z j)
  | 0 => rfl
  | j + 1 => by
    rw [ownN, oY_own m N Z j, ownRow, oX_row]; rfl
theorem s_law03_own_1 (l : List Int) (a : Nat) : V.Spec Try.prog Fc.law03_own_1 [ints l, .ep [V.int a] 0] [] (V.bool (behindB a l)) [] := by
  have h := s_slices_Index_Lint_int l a
  refine V.Spec.enter Try.tabOK Try.mixed Fn.law03_own_1 rfl rfl rfl fun B hB => ?_
  repeat' (first
   | (with_reducible refine OL.st ?_)
   | (with_reducible refine OL.box ?_)
   | (with_reducible refine OL.alloc ?_)
   | (with_reducible refine OL.store ?_)
   | (with_reducible refine OL.storeAgg ?_)
   | (with_reducible refine OL.litV ?_)
   | (with_reducible refine OL.litN ?_)
   | (with_reducible refine OL.lit ?_)
   | (with_reducible refine OL.lit0 ?_)
   | (with_reducible refine OL.appO ?_)
   | (with_reducible refine OL.app ?_)
   | (with_reducible refine OL.makeMap ?_)
   | (with_reducible refine OL.build ?_)
   | (with_reducible refine TC.region ?_)
   | (with_reducible refine TC.seq ?_)
   | (with_reducible refine OL.nil ?_)
   | (with_reducible refine TX.thenN ?_)
   | (with_reducible refine TC.block ?_)
   | (with_reducible refine TC.skip ?_)
   | (with_reducible refine TX.blkN ?_)
   | (with_reducible refine TC.exit ?_)
   | (with_reducible refine TX.hit ?_)
   | (with_reducible refine TX.thenX ?_)
   | (with_reducible refine TX.miss ?_ rfl)
   | (with_reducible refine TC.ifT ?_)
   | (with_reducible refine TC.ifF ?_)
   | (with_reducible refine OL.gOn ?_)
   | (with_reducible refine OL.gOff ?_)
   | (with_reducible refine OL.gUn ?_)
   | (with_reducible refine OL.pkT ?_)
   | (with_reducible refine OL.pkF ?_)
   | (with_reducible refine TC.ifD ?_ ?_ <;> (intro hc; try (exfalso; omega)))
   | (with_reducible refine OL.gD ?_ ?_ <;> (intro hc; try (exfalso; omega)))
   | (with_reducible refine OL.pkD ?_ ?_ <;> (intro hc; try (exfalso; omega)))
   | (with_reducible refine TC.ret ?_)
   | (with_reducible refine TX.thenR ?_)
   | (with_reducible refine TX.blkR ?_)
   | (with_reducible refine TC.scope ?_)
   | (with_reducible refine TC.label ?_)
   | (with_reducible refine TX.ngN ?_)
   | (with_reducible refine TX.ngX ?_)
   | (with_reducible refine TX.ngR ?_)
   | (with_reducible refine TX.end_ ?_))
  refine OL.c h Fn.slices_Index_Lint_int ?_
  repeat' (first
   | (with_reducible refine OL.st ?_)
   | (with_reducible refine OL.box ?_)
   | (with_reducible refine OL.alloc ?_)
   | (with_reducible refine OL.store ?_)
   | (with_reducible refine OL.storeAgg ?_)
   | (with_reducible refine OL.litV ?_)
   | (with_reducible refine OL.litN ?_)
   | (with_reducible refine OL.lit ?_)
   | (with_reducible refine OL.lit0 ?_)
   | (with_reducible refine OL.appO ?_)
   | (with_reducible refine OL.app ?_)
   | (with_reducible refine OL.makeMap ?_)
   | (with_reducible refine OL.build ?_)
   | (with_reducible refine TC.region ?_)
   | (with_reducible refine TC.seq ?_)
   | (with_reducible refine OL.nil ?_)
   | (with_reducible refine TX.thenN ?_)
   | (with_reducible refine TC.block ?_)
   | (with_reducible refine TC.skip ?_)
   | (with_reducible refine TX.blkN ?_)
   | (with_reducible refine TC.exit ?_)
   | (with_reducible refine TX.hit ?_)
   | (with_reducible refine TX.thenX ?_)
   | (with_reducible refine TX.miss ?_ rfl)
   | (with_reducible refine TC.ifT ?_)
   | (with_reducible refine TC.ifF ?_)
   | (with_reducible refine OL.gOn ?_)
   | (with_reducible refine OL.gOff ?_)
   | (with_reducible refine OL.gUn ?_)
   | (with_reducible refine OL.pkT ?_)
   | (with_reducible refine OL.pkF ?_)
   | (with_reducible refine TC.ifD ?_ ?_ <;> (intro hc; try (exfalso; omega)))
   | (with_reducible refine OL.gD ?_ ?_ <;> (intro hc; try (exfalso; omega)))
   | (with_reducible refine OL.pkD ?_ ?_ <;> (intro hc; try (exfalso; omega)))
   | (with_reducible refine TC.ret ?_)
   | (with_reducible refine TX.thenR ?_)
   | (with_reducible refine TX.blkR ?_)
   | (with_reducible refine TC.scope ?_)
   | (with_reducible refine TC.label ?_)
   | (with_reducible refine TX.ngN ?_)
   | (with_reducible refine TX.ngX ?_)
   | (with_reducible refine TX.ngR ?_)
   | (with_reducible refine TX.end_ ?_))
  exact TX.rt1 [] (.ren rfl)
theorem s_law03_own_2 (b : Int) (a : Nat) : V.Spec Try.prog Fc.law03_own_2 [V.int b, .ep [V.int a] 0] [] (V.bool (b == (a : Int))) [] := by
  refine V.Spec.enter Try.tabOK Try.mixed Fn.law03_own_2 rfl rfl rfl fun B hB => ?_
  repeat' (first
   | (with_reducible refine OL.st ?_)
   | (with_reducible refine OL.box ?_)
   | (with_reducible refine OL.alloc ?_)
   | (with_reducible refine OL.store ?_)
   | (with_reducible refine OL.storeAgg ?_)
   | (with_reducible refine OL.litV ?_)
   | (with_reducible refine OL.litN ?_)
   | (with_reducible refine OL.lit ?_)
   | (with_reducible refine OL.lit0 ?_)
   | (with_reducible refine OL.appO ?_)
   | (with_reducible refine OL.app ?_)
   | (with_reducible refine OL.makeMap ?_)
   | (with_reducible refine OL.build ?_)
   | (with_reducible refine TC.region ?_)
   | (with_reducible refine TC.seq ?_)
   | (with_reducible refine OL.nil ?_)
   | (with_reducible refine TX.thenN ?_)
   | (with_reducible refine TC.block ?_)
   | (with_reducible refine TC.skip ?_)
   | (with_reducible refine TX.blkN ?_)
   | (with_reducible refine TC.exit ?_)
   | (with_reducible refine TX.hit ?_)
   | (with_reducible refine TX.thenX ?_)
   | (with_reducible refine TX.miss ?_ rfl)
   | (with_reducible refine TC.ifT ?_)
   | (with_reducible refine TC.ifF ?_)
   | (with_reducible refine OL.gOn ?_)
   | (with_reducible refine OL.gOff ?_)
   | (with_reducible refine OL.gUn ?_)
   | (with_reducible refine OL.pkT ?_)
   | (with_reducible refine OL.pkF ?_)
   | (with_reducible refine TC.ifD ?_ ?_ <;> (intro hc; try (exfalso; omega)))
   | (with_reducible refine OL.gD ?_ ?_ <;> (intro hc; try (exfalso; omega)))
   | (with_reducible refine OL.pkD ?_ ?_ <;> (intro hc; try (exfalso; omega)))
   | (with_reducible refine TC.ret ?_)
   | (with_reducible refine TX.thenR ?_)
   | (with_reducible refine TX.blkR ?_)
   | (with_reducible refine TC.scope ?_)
   | (with_reducible refine TC.label ?_)
   | (with_reducible refine TX.ngN ?_)
   | (with_reducible refine TX.ngX ?_)
   | (with_reducible refine TX.ngR ?_)
   | (with_reducible refine TX.end_ ?_))
  refine TX.rt1 [] (.bool ?_)
  rw [Bool.eq_iff_iff, decide_eq_true_eq, beq_iff_eq]
theorem s_law03_own_3 (l : List Int) : V.Spec Try.prog Fc.law03_own_3 [ints l] [] (V.bool (decide (0 < l.length))) [] := by
  refine V.Spec.enter Try.tabOK Try.mixed Fn.law03_own_3 rfl rfl rfl fun B hB => ?_
  refine TC.bl 0 fun hl => ?_
  repeat' (first
   | (with_reducible refine OL.st ?_)
   | (with_reducible refine OL.box ?_)
   | (with_reducible refine OL.alloc ?_)
   | (with_reducible refine OL.store ?_)
   | (with_reducible refine OL.storeAgg ?_)
   | (with_reducible refine OL.litV ?_)
   | (with_reducible refine OL.litN ?_)
   | (with_reducible refine OL.lit ?_)
   | (with_reducible refine OL.lit0 ?_)
   | (with_reducible refine OL.appO ?_)
   | (with_reducible refine OL.app ?_)
   | (with_reducible refine OL.makeMap ?_)
   | (with_reducible refine OL.build ?_)
   | (with_reducible refine TC.region ?_)
   | (with_reducible refine TC.seq ?_)
   | (with_reducible refine OL.nil ?_)
   | (with_reducible refine TX.thenN ?_)
   | (with_reducible refine TC.block ?_)
   | (with_reducible refine TC.skip ?_)
   | (with_reducible refine TX.blkN ?_)
   | (with_reducible refine TC.exit ?_)
   | (with_reducible refine TX.hit ?_)
   | (with_reducible refine TX.thenX ?_)
   | (with_reducible refine TX.miss ?_ rfl)
   | (with_reducible refine TC.ifT ?_)
   | (with_reducible refine TC.ifF ?_)
   | (with_reducible refine OL.gOn ?_)
   | (with_reducible refine OL.gOff ?_)
   | (with_reducible refine OL.gUn ?_)
   | (with_reducible refine OL.pkT ?_)
   | (with_reducible refine OL.pkF ?_)
   | (with_reducible refine TC.ifD ?_ ?_ <;> (intro hc; try (exfalso; omega)))
   | (with_reducible refine OL.gD ?_ ?_ <;> (intro hc; try (exfalso; omega)))
   | (with_reducible refine OL.pkD ?_ ?_ <;> (intro hc; try (exfalso; omega)))
   | (with_reducible refine TC.ret ?_)
   | (with_reducible refine TX.thenR ?_)
   | (with_reducible refine TX.blkR ?_)
   | (with_reducible refine TC.scope ?_)
   | (with_reducible refine TC.label ?_)
   | (with_reducible refine TX.ngN ?_)
   | (with_reducible refine TX.ngX ?_)
   | (with_reducible refine TX.ngR ?_)
   | (with_reducible refine TX.end_ ?_))
  refine TX.rt1 [] (.bool ?_)
  rw [decide_eq_decide]; omega
theorem pureN : ∀ {l : List AV}, l.all (fun x => x.cells.all pureA) = true → ∀ x ∈ l, x.cells.all pureA = true := fun h x hx => List.all_eq_true.1 h x hx
end Go.Proofs
