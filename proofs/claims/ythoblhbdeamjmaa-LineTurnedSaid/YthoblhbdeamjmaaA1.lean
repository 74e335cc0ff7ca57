/- Part 1 of what the claim is proved by: lemmas on the model and walks through functions of the program; no conditions. -/
import Derived.Test.YthoblhbdeamjmaaX1
import Derived.Test.YthoblhbdeamjmaaV13
/- Which lists agree with a class: plain law, and the reference. -/
namespace Go.Proofs
open Go Go.W Go.V
/-! ### Plain -/
def agAt (all : List (List Int)) (ab l : List Int) (i : Nat) : Bool := (ab.contains (l.getD i 0) && !(l.take i).contains (l.getD i 0)) && (List.range i).all fun k => !precB all (l.getD i 0) (l.getD k 0)
def agB (all : List (List Int)) (ab : List Int) (c : Int) (l : List Int) : Bool := (decide (l.length = ab.length) && (decide (l.getD 0 0 = c) && decide (lastI l = 0))) && (List.range l.length).all (agAt all ab l)
def abOf (g : List (List Int)) (c : Int) : List Int := clsL g (upHas g c)
theorem abOf_spec (g : List (List Int)) (c : Int) : (abOf g c).Nodup ∧ (abOf g c).length ≤ 3 + g.length ∧ ∀ x, x ∈ abOf g c ↔ (0 ≤ x ∧ x < 3 + (g.length : Int)) ∧ upHas g c x = true := by
  refine ⟨(upto_nodup _).filter _, Nat.le_trans (List.length_filter_le _ _) (by rw [upto_length]; exact Nat.le_refl _), fun x => ?_⟩
  rw [abOf, clsL, List.mem_filter, mem_upto]
  constructor
  · rintro ⟨h, h2⟩; exact ⟨by omega, h2⟩
  · rintro ⟨h, h2⟩; exact ⟨by omega, h2⟩
theorem nodup_sub_length : ∀ (l m : List Int), l.Nodup → (∀ x ∈ l, x ∈ m) → l.length ≤ m.length
  | [], _, _, _ => Nat.zero_le _
  | x :: r, m, hn, h => by
    obtain ⟨hx, hn'⟩ := List.nodup_cons.1 hn
    have := nodup_sub_length r (m.erase x) hn' (fun y hy => (List.mem_erase_of_ne (fun e => by subst e; exact hx hy)).2 (h y (by simp [hy])))
    have hm := h x (by simp)
    rw [List.length_erase_of_mem hm] at this
    have h0 := List.length_pos_of_mem hm
    simp; omega
theorem mem_of_full {l m : List Int} (hn : l.Nodup) (h : ∀ x ∈ l, x ∈ m) (hl : l.length = m.length) : ∀ x ∈ m, x ∈ l := fun x hx => by
  refine Classical.byContradiction fun hc => ?_
  have := nodup_sub_length (x :: l) m (List.nodup_cons.2 ⟨hc, hn⟩) (fun y hy => by
    rcases List.mem_cons.1 hy with rfl | hy
    · exact hx
    · exact h y hy)
  simp at this; omega
/-- As the program looks at it. -/
def lgAt (up : Nat) (ss : List Nat) (l : List Int) (i : Nat) : Bool := (hasB up (l.getD i 0) && !hasB (ofL (l.take i)) (l.getD i 0)) && (ss.getD (l.getD i 0).toNat 0 &&& ofL (l.take i) == 0)
def lgB (up : Nat) (ss : List Nat) (N : Int) (c : Int) (l : List Int) : Bool := ((decide (0 < l.length) && decide ((l.length : Int) ≤ N)) && (decide (l.getD 0 0 = c) && decide (lastI l = 0))) && ((List.range l.length).all (lgAt up ss l) && ofL l == up)
theorem hasB_ofL {l : List Int} (hl : ∀ x ∈ l, 0 ≤ x ∧ x < 64) {x : Int} (hx : 0 ≤ x ∧ x < 64) : hasB (ofL l) x = l.contains x := by
  have h1 : decide (0 ≤ x) = true := by simpa using hx.1
  have h2 : decide (x < 64) = true := by simpa using hx.2
  obtain ⟨x, rfl⟩ := Int.eq_ofNat_of_zero_le hx.1
  rw [hasB, h1, h2, Bool.true_and, Bool.true_and, Int.toNat_natCast, ofL_bit, any_toNat (fun y hy => (hl y hy).1)]
theorem and_zero {p : Nat} {l : List Int} (hl : ∀ x ∈ l, 0 ≤ x ∧ x < 64) : (p &&& ofL l == 0) = l.all fun y => !hasB p y := by
  rw [Bool.eq_iff_iff, beq_iff_eq, List.all_eq_true]
  constructor
  · intro h x hx
    have hb := congrArg (fun n => Nat.testBit n x.toNat) h
    have h1 : (ofL l).testBit x.toNat = true := by rw [ofL_bit, List.any_eq_true]; exact ⟨x, hx, by simp⟩
    simp only [Nat.testBit_and, h1, Bool.and_true, Nat.zero_testBit] at hb
    simp [hasB, hb]
  · intro h
    refine Nat.eq_of_testBit_eq fun i => ?_
    rw [Nat.testBit_and, Nat.zero_testBit]
    cases hq : (ofL l).testBit i with
    | false => simp
    | true =>
      rw [ofL_bit, List.any_eq_true] at hq
      obtain ⟨x, hx, he⟩ := hq
      have e : x.toNat = i := by simpa using he
      have h2 := hl x hx
      have h3 := h x hx
      have d1 : decide (0 ≤ x) = true := by simpa using h2.1
      have d2 : decide (x < 64) = true := by simpa using h2.2
      rw [hasB, d1, d2, e] at h3
      simpa using h3
theorem up_mem {g : List (List Int)} (hf : fine g = true) {c : Nat} (hc : c < 3 + g.length) (x : Int) : upHas g c x = (abOf g c).contains x := by
  have h16 := fine_len hf
  obtain ⟨_, _, hm⟩ := abOf_spec g c
  rw [Bool.eq_iff_iff, List.contains_iff_mem, hm]
  constructor
  · intro h
    refine ⟨?_, h⟩
    have h6 : 0 ≤ x ∧ x < 64 := by
      have h' := h
      rw [upHas, hasB, Bool.and_eq_true, Bool.and_eq_true, decide_eq_true_eq, decide_eq_true_eq] at h'
      exact h'.1
    have := upHas_le hf hc h6.1 h6.2 h
    omega
  · exact fun h => h.2
theorem lg_eq {g : List (List Int)} (hf : fine g = true) {c : Nat} (hc : c < 3 + g.length) (l : List Int) : lgB ((ups g).getD c 0) (aft (3 + g.length) (allOf g c)) (3 + (g.length : Int)) c l = agB (allOf g c) (abOf g c) c l := by
  have h16 := fine_len hf
  have h3 := allOf_mem hf hc
  obtain ⟨hn, hal, hm⟩ := abOf_spec g c
  have hup : ∀ x, hasB ((ups g).getD c 0) x = (abOf g c).contains x := fun x => by rw [← up_mem hf hc]; rfl
  have hrange : ∀ x ∈ abOf g c, 0 ≤ x ∧ x < 3 + (g.length : Int) := fun x hx => ((hm x).1 hx).1
  -- as long as all before are above the class, each place is looked at alike
  have hat : ∀ i, i < l.length → (∀ x ∈ l.take i, x ∈ abOf g c) → lgAt ((ups g).getD c 0) (aft (3 + g.length) (allOf g c)) l i = agAt (allOf g c) (abOf g c) l i := fun i hil ht => by
    have hr : ∀ x ∈ l.take i, 0 ≤ x ∧ x < 64 := fun x hx => by have := hrange x (ht x hx); omega
    rw [lgAt, agAt, hup]
    cases hq : (abOf g c).contains (l.getD i 0) with
    | false => simp
    | true =>
      have hx := hrange _ (List.contains_iff_mem.1 hq)
      rw [hasB_ofL hr (by omega), and_zero hr]
      congr 1
      rw [Bool.eq_iff_iff, List.all_eq_true, List.all_eq_true]
      have key : ∀ y, hasB ((aft (3 + g.length) (allOf g c)).getD (l.getD i 0).toNat 0) y = precB (allOf g c) (l.getD i 0) y := fun y => aft_has (fun l' hl' x hx => by have := h3 l' hl' x hx; omega) (allOf_nodup hf hc) (by omega) hx.1 y
      constructor
      · intro h k hk
        have hk' := List.mem_range.1 hk
        have hkl : k < l.length := by omega
        rw [← key]
        refine h _ (List.mem_iff_getElem.2 ⟨k, by simp; omega, ?_⟩)
        rw [List.getElem_take, getD_lt hkl]
      · intro h y hy
        rw [key]
        obtain ⟨k, hk, rfl⟩ := List.mem_iff_getElem.1 hy
        rw [List.length_take] at hk
        have := h k (List.mem_range.2 (by omega))
        rw [getD_lt (show k < l.length by omega)] at this
        rw [List.getElem_take]; exact this
  have hpre : ∀ n, n ≤ l.length → ((List.range n).all (lgAt ((ups g).getD c 0) (aft (3 + g.length) (allOf g c)) l) = (List.range n).all (agAt (allOf g c) (abOf g c) l)) ∧ ((List.range n).all (agAt (allOf g c) (abOf g c) l) = true → ∀ x ∈ l.take n, x ∈ abOf g c) := by
    intro n
    induction n with
    | zero => intro _; exact ⟨rfl, by simp⟩
    | succ n ih =>
      intro hnl
      obtain ⟨i1, i2⟩ := ih (by omega)
      rw [all_range_succ, all_range_succ, i1]
      cases hq : (List.range n).all (agAt (allOf g c) (abOf g c) l) with
      | false => simp
      | true =>
        have ht := i2 hq
        refine ⟨by rw [hat n (by omega) ht], fun h x hx => ?_⟩
        rw [take_succ (by omega)] at hx
        rcases List.mem_append.1 hx with hx | hx
        · exact ht x hx
        · have e : x = l[n] := by simpa using hx
          rw [Bool.true_and, agAt, Bool.and_eq_true, Bool.and_eq_true] at h
          rw [e, ← getD_lt (d := 0) (show n < l.length by omega)]
          exact List.contains_iff_mem.1 h.1.1
  obtain ⟨p1, p2⟩ := hpre l.length (Nat.le_refl _)
  rw [lgB, agB, p1]
  cases hq : (List.range l.length).all (agAt (allOf g c) (abOf g c) l) with
  | false => simp
  | true =>
    have hsub := p2 hq
    rw [List.take_length] at hsub
    rw [List.all_eq_true] at hq
    have hnd := nodup_takes (l := l) fun i hi => by
      have := hq i (List.mem_range.2 hi)
      rw [agAt, Bool.and_eq_true, Bool.and_eq_true] at this
      simpa using this.1.2
    have hle := nodup_sub_length l (abOf g c) hnd hsub
    have hpos : 0 < (abOf g c).length := List.length_pos_of_mem ((hm 0).2 ⟨by omega, upHas_zero hf hc⟩)
    have e1 : decide ((l.length : Int) ≤ 3 + (g.length : Int)) = true := by simp; omega
    have hsame : (ofL l == (ups g).getD c 0) = decide (l.length = (abOf g c).length) := by
      have hr : ∀ x ∈ l, 0 ≤ x ∧ x < 64 := fun x hx => by have := hrange x (hsub x hx); omega
      rw [Bool.eq_iff_iff, beq_iff_eq, decide_eq_true_eq]
      constructor
      · intro h
        refine Nat.le_antisymm hle (nodup_sub_length _ _ hn fun x hx => ?_)
        have hx' := hrange x hx
        have h2 : hasB ((ups g).getD c 0) x = true := by rw [hup]; exact List.contains_iff_mem.2 hx
        rw [← h, hasB_ofL hr (by omega)] at h2
        exact List.contains_iff_mem.1 h2
      · intro h
        have hfull := mem_of_full hnd hsub h
        refine Nat.eq_of_testBit_eq fun b => ?_
        rw [ofL_bit, any_toNat (fun y hy => (hr y hy).1)]
        have h64 : (ups g).getD c 0 < 2 ^ 64 := by
          have hul := ups_length g
          rw [getD_lt (by omega)]; exact ups_lt hf _ (List.getElem_mem _)
        by_cases hb : b < 64
        · have h2 := hup (b : Int)
          have d1 : decide (0 ≤ (b : Int)) = true := by simp
          have d2 : decide ((b : Int) < 64) = true := by simp; omega
          rw [hasB, d1, d2, Bool.true_and, Bool.true_and, Int.toNat_natCast] at h2
          rw [h2, Bool.eq_iff_iff, List.contains_iff_mem, List.contains_iff_mem]
          exact ⟨hsub _, hfull _⟩
        · rw [Nat.testBit_lt_two_pow (Nat.lt_of_lt_of_le h64 (Nat.pow_le_pow_right (by decide) (by omega)))]
          cases h3 : l.contains (b : Int) with
          | false => rfl
          | true => have := hr _ (List.contains_iff_mem.1 h3); omega
    rw [hsame, e1]
    cases hd : decide (l.length = (abOf g c).length) with
    | false => simp
    | true =>
      have : decide (0 < l.length) = true := by simp at hd ⊢; omega
      rw [this]; simp
end Go.Proofs
/- Which lists agree with a class: the reference, the program; LineAgrees. -/
namespace Go.Proofs
open Go Go.W Go.V
def agE (g : List (List Int)) (c : Int) : Int := if oks g [c] then (if (listsOf (orders g) (pOf g c)).isSome = true then 0 else 7) else 2
def agR (g : List (List Int)) (c : Int) (l : List Int) : Bool := oks g [c] && (match listsOf (orders g) (pOf g c) with | some all => agB all (abOf g c) c l | none => false)
set_option maxHeartbeats 2000000 in
theorem s_ref03_Agrees (g : List (List Int)) (c : Int) (l : List Int) : V.Spec Try.prog Fc.ref03_Agrees [rows g, V.int c, ints l] [] (.tp [V.bool (agR g c l), V.int (agE g c)]) [] := by
  have e : oks g [c] = (fine g && isClass g c) := by simp [oks_cls]
  rw [agR, agE, e]
  refine V.Spec.enter Try.tabOK Try.mixed Fn.ref03_Agrees rfl rfl rfl fun B hB => ?_
  refine TC.bl 2 fun hll => ?_
  repeat' (first
   | (with_reducible refine OL.st ?_)
   | (with_reducible refine TC.region ?_)
   | (with_reducible refine TC.seq ?_)
   | (with_reducible refine OL.nil ?_)
   | (with_reducible refine TX.thenN ?_)
   | fail)
  refine OL.c (s_ref03_Good g) Fn.ref03_Good ?_
  cases hf : fine g
  · repeat' (first
     | (with_reducible refine OL.st ?_)
     | (with_reducible refine TC.region ?_)
     | (with_reducible refine TC.seq ?_)
     | (with_reducible refine OL.nil ?_)
     | (with_reducible refine TX.thenN ?_)
     | (with_reducible refine TC.ifT ?_)
     | (with_reducible refine OL.gOff ?_)
     | (with_reducible refine TC.ret ?_)
     | (with_reducible refine TX.thenR ?_)
     | fail)
    exact TX.rt2 [] (.ren rfl) (.ren rfl)
  · have h16 := fine_len hf
    repeat' (first | (with_reducible refine OL.st ?_) | (with_reducible refine OL.gOn ?_) | fail)
    refine OL.c (s_ref03_class g c (by omega)) Fn.ref03_class ?_
    cases ha : isClass g c
    · repeat' (first
       | (with_reducible refine OL.st ?_)
       | (with_reducible refine TC.region ?_)
       | (with_reducible refine TC.seq ?_)
       | (with_reducible refine OL.nil ?_)
       | (with_reducible refine TX.thenN ?_)
       | (with_reducible refine TC.ifT ?_)
       | (with_reducible refine OL.gOn ?_)
       | (with_reducible refine TC.ret ?_)
       | (with_reducible refine TX.thenR ?_)
       | fail)
      exact TX.rt2 [] (.ren rfl) (.ren rfl)
    · obtain ⟨h0, h1⟩ := isClass_iff ha
      have hs := s_ref03_ListsOf g c hf h0 h1
      simp only [Bool.and_true, Bool.true_and, if_true]
      repeat' (first
       | (with_reducible refine OL.st ?_)
       | (with_reducible refine TC.region ?_)
       | (with_reducible refine TC.seq ?_)
       | (with_reducible refine OL.nil ?_)
       | (with_reducible refine TX.thenN ?_)
       | (with_reducible refine TC.skip ?_)
       | (with_reducible refine TC.ifF ?_)
       | (with_reducible refine OL.gOn ?_)
       | fail)
      cases hls : listsOf (orders g) (pOf g c) with
      | none =>
        rw [hls] at hs
        simp only [lsR, lsE] at hs
        refine OL.c hs Fn.ref03_ListsOf ?_
        repeat' (first
         | (with_reducible refine OL.st ?_)
         | (with_reducible refine TC.region ?_)
         | (with_reducible refine TC.seq ?_)
         | (with_reducible refine OL.nil ?_)
         | (with_reducible refine TX.thenN ?_)
         | (with_reducible refine TC.ifT ?_)
         | (with_reducible refine TC.ret ?_)
         | (with_reducible refine TX.thenR ?_)
         | fail)
        exact TX.rt2 [] (.ren rfl) (.ren rfl)
      | some all =>
        rw [hls] at hs
        simp only [lsR, lsE] at hs
        refine OL.c hs Fn.ref03_ListsOf ?_
        repeat' (first
         | (with_reducible refine OL.st ?_)
         | (with_reducible refine TC.region ?_)
         | (with_reducible refine TC.seq ?_)
         | (with_reducible refine OL.nil ?_)
         | (with_reducible refine TX.thenN ?_)
         | (with_reducible refine TC.skip ?_)
         | (with_reducible refine TC.ifF ?_)
         | fail)
        have hab := s_ref03_AboveOf hf ⟨h0, h1⟩
        obtain ⟨_, hal, hm⟩ := abOf_spec g c
        rw [show clsL g (upHas g c) = abOf g c from rfl] at hab
        have hpos : 0 < (abOf g c).length := by
          obtain ⟨c, rfl⟩ := Int.eq_ofNat_of_zero_le h0
          exact List.length_pos_of_mem ((hm 0).2 ⟨by omega, upHas_zero hf (by omega)⟩)
        generalize abOf g c = ab at *
        simp only [Option.isSome_some, if_true]
        refine OL.c hab Fn.ref03_AboveOf ?_
        have hfalse : (decide (l.length = ab.length) && (decide (l.getD 0 0 = c) && decide (lastI l = 0))) = false → agB all ab c l = false := fun h => by rw [agB, h, Bool.false_and]
        have hl0 : ∀ h : 0 < l.length, l.getD 0 0 = l[0] := fun h => getD_lt h
        repeat' (first
         | (with_reducible refine OL.st ?_)
         | (with_reducible refine TC.region ?_)
         | (with_reducible refine TC.seq ?_)
         | (with_reducible refine OL.nil ?_)
         | (with_reducible refine TX.thenN ?_)
         | (with_reducible refine TC.block ?_)
         | (with_reducible refine TC.skip ?_)
         | (with_reducible refine TC.ifT ?_)
         | (with_reducible refine OL.gOn ?_)
         | (with_reducible refine OL.gOff ?_)
         | (with_reducible refine TC.ifD ?_ ?_ <;> (intro hc; try (exfalso; omega)))
         | (with_reducible refine OL.gD ?_ ?_ <;> (intro hc; try (exfalso; omega)))
         | (with_reducible refine TC.ret ?_)
         | (with_reducible refine TX.thenR ?_)
         | fail)
        · rw [hfalse (by rw [show decide (l.length = ab.length) = false by simp; omega]; rfl)]
          exact TX.rt2 [] (.ren rfl) (.ren rfl)
        · rw [hfalse (by rw [hl0 (by omega), show decide (l[0]'(by omega) = c) = false from decide_eq_false (by assumption)]; simp)]
          exact TX.rt2 [] (.ren rfl) (.ren rfl)
        · rw [hfalse (by rw [← lastI_eq (by omega), show decide (l[((l.length : Int) - 1).toNat]'(by omega) = 0) = false from decide_eq_false (by assumption)]; simp)]
          exact TX.rt2 [] (.ren rfl) (.ren rfl)
        have hall : agB all ab c l = (List.range l.length).all (agAt all ab l) := by
          have d1 : decide (l.length = ab.length) = true := by simp; omega
          have d2 : decide (l.getD 0 0 = c) = true := by rw [hl0 (by omega)]; exact decide_eq_true (by omega)
          have d3 : decide (lastI l = 0) = true := by rw [← lastI_eq (by omega)]; exact decide_eq_true (by omega)
          rw [agB, d1, d2, d3]; rfl
        rw [hall]
        refine TC.vw 8 ?_
        refine TC.lp (fun i : Nat => [(2, ints l), (8, rows all), (10, ints ab), (11, V.int i)]) (fun _ => []) (fun i => i ≤ l.length ∧ (List.range i).all (agAt all ab l) = true) (fun i => l.length - i) 0 [] ⟨Nat.zero_le _, rfl⟩ ?_
        rintro i ⟨hi, hinv⟩
        have hbad : i < l.length → agAt all ab l i = false → (List.range l.length).all (agAt all ab l) = false := fun hil h => by
          rw [List.all_eq_false]; exact ⟨i, List.mem_range.2 hil, by simp [h]⟩
        repeat' (first
         | (with_reducible refine OL.st ?_)
         | (with_reducible refine TC.region ?_)
         | (with_reducible refine TC.seq ?_)
         | (with_reducible refine OL.nil ?_)
         | (with_reducible refine TX.thenN ?_)
         | (with_reducible refine TC.block ?_)
         | (with_reducible refine TC.skip ?_)
         | (with_reducible refine TC.exit ?_)
         | (with_reducible refine TX.hit ?_)
         | (with_reducible refine TX.thenX ?_)
         | (with_reducible refine TC.ifD ?_ ?_ <;> (intro hc; try (exfalso; omega)))
         | (with_reducible refine TC.ret ?_)
         | fail)
        · have hil : i < l.length := by omega
          replace hbad := hbad hil
          have h1 := s_ref03_Has ab l[i]
          have h2 := s_ref03_Has (l.take i) l[i]
          have hat : agAt all ab l i = ((ab.contains l[i] && !(l.take i).contains l[i]) && (List.range i).all fun k => !precB all l[i] (l.getD k 0)) := by rw [agAt, getD_lt hil]
          cases c1 : ab.contains l[i]
          · rw [c1] at h1 hat
            rw [hbad hat]
            (with_reducible refine TC.draw (id := 12) true 17 17 ?_) <;> (with_reducible refine OD.st 0 ?_) <;> (with_reducible refine OD.st 1 ?_) <;> (with_reducible refine OD.st 2 ?_) <;> (with_reducible refine OD.st 3 ?_) <;> (with_reducible refine OD.st 4 ?_) <;> (with_reducible refine OD.c1 5 h1 Fn.ref03_Has ?_) <;> (with_reducible refine OD.st 6 ?_) <;> (with_reducible refine OD.st 7 ?_) <;> (with_reducible refine OD.of 8 ?_) <;> (with_reducible refine OD.of 9 ?_) <;> (with_reducible refine OD.of 10 ?_) <;> (with_reducible refine OD.of 11 ?_) <;> (with_reducible refine OD.of 12 ?_) <;> (with_reducible refine OD.of 13 ?_) <;> (with_reducible refine OD.of 14 ?_) <;> (with_reducible refine OD.of 15 ?_) <;> (with_reducible refine OD.st 16 ?_) <;> (with_reducible refine OD.dn ?_)
            all_goals repeat' (first
                       | (with_reducible refine OL.st ?_)
                       | (with_reducible refine TC.region ?_)
                       | (with_reducible refine TC.seq ?_)
                       | (with_reducible refine OL.nil ?_)
                       | (with_reducible refine TX.thenN ?_)
                       | (with_reducible refine TC.ifT ?_)
                       | (with_reducible refine TC.ret ?_)
                       | (with_reducible refine TX.thenR ?_)
                       | (with_reducible refine TX.blkR ?_)
                       | fail)
            all_goals exact TX.rt2 [] (.ren rfl) (.ren rfl)
          · rw [c1] at h1 hat
            cases c2 : (l.take i).contains l[i]
            · rw [c2] at h2 hat
              replace hat : agAt all ab l i = (List.range i).all fun k => !precB all l[i] (l.getD k 0) := hat
              (with_reducible refine TC.draw (id := 12) true 17 17 ?_) <;> (with_reducible refine OD.st 0 ?_) <;> (with_reducible refine OD.st 1 ?_) <;> (with_reducible refine OD.st 2 ?_) <;> (with_reducible refine OD.st 3 ?_) <;> (with_reducible refine OD.st 4 ?_) <;> (with_reducible refine OD.c1 5 h1 Fn.ref03_Has ?_) <;> (with_reducible refine OD.st 6 ?_) <;> (with_reducible refine OD.st 7 ?_) <;> (with_reducible refine OD.st 8 ?_) <;> (with_reducible refine OD.st 9 ?_) <;> (with_reducible refine OD.st 10 ?_) <;> (with_reducible refine OD.st 11 ?_) <;> (with_reducible refine OD.st 12 ?_) <;> (with_reducible refine OD.st 13 ?_) <;> (with_reducible refine OD.st 14 ?_) <;> (with_reducible refine OD.c1 15 h2 Fn.ref03_Has ?_) <;> (with_reducible refine OD.st 16 ?_) <;> (with_reducible refine OD.dn ?_)
              all_goals repeat' (first
                         | (with_reducible refine OL.st ?_)
                         | (with_reducible refine TC.region ?_)
                         | (with_reducible refine TC.seq ?_)
                         | (with_reducible refine OL.nil ?_)
                         | (with_reducible refine TX.thenN ?_)
                         | (with_reducible refine TC.block ?_)
                         | (with_reducible refine TC.skip ?_)
                         | (with_reducible refine TC.ifF ?_)
                         | fail)
              all_goals
                refine TC.lp (fun k : Nat => [(2, ints l), (8, rows all), (10, ints ab), (11, V.int i), (12, V.int k)]) (fun _ => []) (fun k => k ≤ i ∧ ((List.range k).all fun k => !precB all l[i] (l.getD k 0)) = true) (fun k => i - k) 0 [] ⟨Nat.zero_le _, rfl⟩ ?_
                rintro k ⟨hk, hkv⟩
                repeat' (first
                 | (with_reducible refine OL.st ?_)
                 | (with_reducible refine TC.region ?_)
                 | (with_reducible refine TC.seq ?_)
                 | (with_reducible refine OL.nil ?_)
                 | (with_reducible refine TX.thenN ?_)
                 | (with_reducible refine TC.block ?_)
                 | (with_reducible refine TC.skip ?_)
                 | (with_reducible refine TX.blkN ?_)
                 | (with_reducible refine TC.exit ?_)
                 | (with_reducible refine TX.hit ?_)
                 | (with_reducible refine TX.thenX ?_)
                 | (with_reducible refine TC.ifD ?_ ?_ <;> (intro hc; try (exfalso; omega)))
                 | fail)
                · have hkl : k < l.length := by omega
                  have h3 := s_ref03_precedes all l[i] l[k]
                  cases c3 : precB all l[i] l[k]
                  · rw [c3] at h3
                    (with_reducible refine TC.draw (id := 17) true 10 10 ?_) <;> (with_reducible refine OD.st 0 ?_) <;> (with_reducible refine OD.st 1 ?_) <;> (with_reducible refine OD.st 2 ?_) <;> (with_reducible refine OD.st 3 ?_) <;> (with_reducible refine OD.st 4 ?_) <;> (with_reducible refine OD.st 5 ?_) <;> (with_reducible refine OD.st 6 ?_) <;> (with_reducible refine OD.st 7 ?_) <;> (with_reducible refine OD.st 8 ?_) <;> (with_reducible refine OD.c1 9 h3 Fn.ref03_precedes ?_) <;> (with_reducible refine OD.dn ?_)
                    all_goals repeat' (first
                               | (with_reducible refine OL.st ?_)
                               | (with_reducible refine TC.region ?_)
                               | (with_reducible refine OL.nil ?_)
                               | (with_reducible refine TX.thenN ?_)
                               | (with_reducible refine TC.skip ?_)
                               | (with_reducible refine TX.blkN ?_)
                               | (with_reducible refine TC.ifF ?_)
                               | fail)
                    all_goals exact TX.rd (k + 1) [] ⟨by omega, by rw [all_range_succ, hkv, getD_lt hkl, c3]; rfl⟩ (by omega)
                  · rw [c3] at h3
                    rw [hbad (by rw [hat, List.all_eq_false]; exact ⟨k, List.mem_range.2 (by omega), by rw [getD_lt hkl, c3]; simp⟩)]
                    (with_reducible refine TC.draw (id := 17) true 10 10 ?_) <;> (with_reducible refine OD.st 0 ?_) <;> (with_reducible refine OD.st 1 ?_) <;> (with_reducible refine OD.st 2 ?_) <;> (with_reducible refine OD.st 3 ?_) <;> (with_reducible refine OD.st 4 ?_) <;> (with_reducible refine OD.st 5 ?_) <;> (with_reducible refine OD.st 6 ?_) <;> (with_reducible refine OD.st 7 ?_) <;> (with_reducible refine OD.st 8 ?_) <;> (with_reducible refine OD.c1 9 h3 Fn.ref03_precedes ?_) <;> (with_reducible refine OD.dn ?_)
                    all_goals repeat' (first
                               | (with_reducible refine OL.st ?_)
                               | (with_reducible refine TC.region ?_)
                               | (with_reducible refine TC.seq ?_)
                               | (with_reducible refine OL.nil ?_)
                               | (with_reducible refine TX.thenN ?_)
                               | (with_reducible refine TC.ifT ?_)
                               | (with_reducible refine TC.ret ?_)
                               | (with_reducible refine TX.thenR ?_)
                               | (with_reducible refine TX.blkR ?_)
                               | fail)
                    all_goals exact TX.rt2 [] (.ren rfl) (.ren rfl)
                · have ek : k = i := by omega
                  rw [ek] at hkv
                  exact TX.rd (i + 1) [] ⟨by omega, by rw [all_range_succ, hinv, hat, hkv]; rfl⟩ (by omega)
            · rw [c2] at h2 hat
              rw [hbad (by rw [hat]; simp)]
              (with_reducible refine TC.draw (id := 12) true 17 17 ?_) <;> (with_reducible refine OD.st 0 ?_) <;> (with_reducible refine OD.st 1 ?_) <;> (with_reducible refine OD.st 2 ?_) <;> (with_reducible refine OD.st 3 ?_) <;> (with_reducible refine OD.st 4 ?_) <;> (with_reducible refine OD.c1 5 h1 Fn.ref03_Has ?_) <;> (with_reducible refine OD.st 6 ?_) <;> (with_reducible refine OD.st 7 ?_) <;> (with_reducible refine OD.st 8 ?_) <;> (with_reducible refine OD.st 9 ?_) <;> (with_reducible refine OD.st 10 ?_) <;> (with_reducible refine OD.st 11 ?_) <;> (with_reducible refine OD.st 12 ?_) <;> (with_reducible refine OD.st 13 ?_) <;> (with_reducible refine OD.st 14 ?_) <;> (with_reducible refine OD.c1 15 h2 Fn.ref03_Has ?_) <;> (with_reducible refine OD.st 16 ?_) <;> (with_reducible refine OD.dn ?_)
              all_goals repeat' (first
                         | (with_reducible refine OL.st ?_)
                         | (with_reducible refine TC.region ?_)
                         | (with_reducible refine TC.seq ?_)
                         | (with_reducible refine OL.nil ?_)
                         | (with_reducible refine TX.thenN ?_)
                         | (with_reducible refine TC.ifT ?_)
                         | (with_reducible refine TC.ret ?_)
                         | (with_reducible refine TX.thenR ?_)
                         | (with_reducible refine TX.blkR ?_)
                         | fail)
              all_goals exact TX.rt2 [] (.ren rfl) (.ren rfl)
        · have ei : i = l.length := by omega
          rw [ei] at hinv
          rw [hinv]
          exact TX.rt2 [] (.ren rfl) (.ren rfl)
set_option maxHeartbeats 2000000 in
theorem s_line_Agrees (g : List (List Int)) (c : Int) (l : List Int) : V.Spec Try.prog Fc.line_Agrees [rows g, V.int c, ints l] [] (.tp [V.bool (agR g c l), V.int (agE g c)]) [] := by
  have ho := s_line_open g [c]
  rw [openR, openE] at ho
  rw [agR, agE]
  refine V.Spec.enter Try.tabOK Try.mixed Fn.line_Agrees rfl rfl rfl fun B hB => ?_
  refine TC.bl 2 fun hll => ?_
  repeat' (first
   | (with_reducible refine OL.st ?_)
   | (with_reducible refine OL.lit ?_)
   | (with_reducible refine TC.region ?_)
   | (with_reducible refine TC.seq ?_)
   | (with_reducible refine OL.nil ?_)
   | (with_reducible refine TX.thenN ?_)
   | fail)
  refine OL.vwA 1 ?_
  cases hok : oks g [c] <;> rw [hok] at ho
  · simp only [Bool.false_eq_true, if_false] at ho
    refine OL.c ho Fn.line_open ?_
    repeat' (first
     | (with_reducible refine OL.st ?_)
     | (with_reducible refine TC.region ?_)
     | (with_reducible refine TC.seq ?_)
     | (with_reducible refine OL.nil ?_)
     | (with_reducible refine TX.thenN ?_)
     | (with_reducible refine TC.ifT ?_)
     | (with_reducible refine TC.ret ?_)
     | (with_reducible refine TX.thenR ?_)
     | fail)
    exact TX.rt2 [] (.ren rfl) (.ren rfl)
  · simp only [if_true] at ho
    simp only [Bool.true_and, if_true]
    rw [oks_cls] at hok
    simp only [List.all_cons, List.all_nil, Bool.and_true, Bool.and_eq_true] at hok
    obtain ⟨hf, ha⟩ := hok
    have hac := isClass_iff ha
    have hpl := parentsOf_length g
    have h16 := fine_len hf
    obtain ⟨c, rfl⟩ := Int.eq_ofNat_of_zero_le hac.1
    have hcN : c < 3 + g.length := by omega
    have hul := ups_length g
    refine OL.c ho Fn.line_open ?_
    repeat' (first
     | (with_reducible refine OL.st ?_)
     | (with_reducible refine TC.region ?_)
     | (with_reducible refine TC.seq ?_)
     | (with_reducible refine OL.nil ?_)
     | (with_reducible refine TX.thenN ?_)
     | (with_reducible refine TC.skip ?_)
     | (with_reducible refine TC.ifF ?_)
     | fail)
    refine OL.ch [1, 2] (s_line_graph_listsG g c hf hcN) Fn.line_graph_lists ?_
    have hlg := lg_eq hf hcN l
    have hup := up_mem hf hcN
    cases hls : listsOf (orders g) (pOf g c) with
    | none =>
      repeat' (first
       | (with_reducible refine OL.st ?_)
       | (with_reducible refine TC.region ?_)
       | (with_reducible refine TC.seq ?_)
       | (with_reducible refine OL.nil ?_)
       | (with_reducible refine TX.thenN ?_)
       | (with_reducible refine TC.ifT ?_)
       | (with_reducible refine TC.ret ?_)
       | (with_reducible refine TX.thenR ?_)
       | fail)
      exact TX.rt2 [] (.ren rfl) (.ren rfl)
    | some all =>
      have hall : allOf g c = all := by rw [allOf, hls]; rfl
      rw [hall] at hlg ⊢
      have hmem := allOf_mem hf hcN
      rw [hall] at hmem
      simp only [Option.isSome_some, if_true]
      rw [← hlg]
      have hfalse : ((decide (0 < l.length) && decide ((l.length : Int) ≤ 3 + (g.length : Int))) && (decide (l.getD 0 0 = (c : Int)) && decide (lastI l = 0))) = false → lgB ((ups g).getD c 0) (aft (3 + g.length) all) (3 + (g.length : Int)) c l = false := fun h => by rw [lgB, h, Bool.false_and]
      have hl0 : ∀ h : 0 < l.length, l.getD 0 0 = l[0] := fun h => getD_lt h
      repeat' (first
       | (with_reducible refine OL.st ?_)
       | (with_reducible refine TC.region ?_)
       | (with_reducible refine TC.seq ?_)
       | (with_reducible refine OL.nil ?_)
       | (with_reducible refine TX.thenN ?_)
       | (with_reducible refine TC.skip ?_)
       | (with_reducible refine TC.ifT ?_)
       | (with_reducible refine TC.ifF ?_)
       | (with_reducible refine OL.gOn ?_)
       | (with_reducible refine OL.gOff ?_)
       | (with_reducible refine TC.ifD ?_ ?_ <;> (intro hc; try (exfalso; omega)))
       | (with_reducible refine OL.gD ?_ ?_ <;> (intro hc; try (exfalso; omega)))
       | (with_reducible refine TC.ret ?_)
       | (with_reducible refine TX.thenR ?_)
       | fail)
      · rw [hfalse (by rw [show decide (0 < l.length) = false from decide_eq_false (by omega)]; rfl)]
        exact TX.rt2 [] (.ren rfl) (.ren rfl)
      · rw [hfalse (by rw [show decide ((l.length : Int) ≤ 3 + (g.length : Int)) = false from decide_eq_false (by omega)]; simp)]
        exact TX.rt2 [] (.ren rfl) (.ren rfl)
      · rw [hfalse (by rw [hl0 (by omega), show decide (l[0]'(by omega) = (c : Int)) = false from decide_eq_false (by assumption)]; simp)]
        exact TX.rt2 [] (.ren rfl) (.ren rfl)
      · rw [hfalse (by rw [← lastI_eq (by omega), show decide (l[((l.length : Int) - 1).toNat]'(by omega) = 0) = false from decide_eq_false (by assumption)]; simp)]
        exact TX.rt2 [] (.ren rfl) (.ren rfl)
      have hlB : lgB ((ups g).getD c 0) (aft (3 + g.length) all) (3 + (g.length : Int)) c l = ((List.range l.length).all (lgAt ((ups g).getD c 0) (aft (3 + g.length) all) l) && ofL l == (ups g).getD c 0) := by
        have d1 : decide (0 < l.length) = true := decide_eq_true (by omega)
        have d2 : decide ((l.length : Int) ≤ 3 + (g.length : Int)) = true := decide_eq_true (by omega)
        have d3 : decide (l.getD 0 0 = (c : Int)) = true := by rw [hl0 (by omega)]; exact decide_eq_true (by omega)
        have d4 : decide (lastI l = 0) = true := by rw [← lastI_eq (by omega)]; exact decide_eq_true (by omega)
        rw [lgB, d1, d2, d3, d4]; rfl
      rw [hlB]
      have haf := s_line_graph_after (parentsOf g) (ups g) (omap (orders g)) all (by omega) (by omega) (fun l hl x hx => by have := hmem l hl x hx; omega)
      have hu64 := aft_lt (parentsOf g).length all (fun l hl x hx => by have := hmem l hl x hx; omega)
      have hssl := aft_length (parentsOf g).length all
      refine OL.ch [1, 2] haf Fn.line_graph_after ?_
      rw [← hpl]
      generalize hss : aft (parentsOf g).length all = ss at *
      have hug : (ups g).getD c 0 = (ups g)[c]'(by omega) := getD_lt (by omega)
      have hupl : (ups g)[c]'(by omega) < 2 ^ 64 := ups_lt hf _ (List.getElem_mem _)
      rw [hug]
      repeat' (first
       | (with_reducible refine OL.st ?_)
       | (with_reducible refine OL.alloc ?_)
       | (with_reducible refine TC.region ?_)
       | (with_reducible refine TC.seq ?_)
       | (with_reducible refine OL.nil ?_)
       | (with_reducible refine TX.thenN ?_)
       | (with_reducible refine TC.block ?_)
       | fail)
      refine TC.frzJ 8 ?_
      refine TC.lp (fun i : Nat => [(1, V.int c), (8, gP g), (11, sets ss), (12, .bp 0 0), (64, ints l), (65, V.int l.length), (66, V.int i)]) (fun i => [.cb Tc.line_set [V.u64 (ofL (l.take i))]]) (fun i => i ≤ l.length ∧ (List.range i).all (lgAt ((ups g)[c]'(by omega)) ss l) = true ∧ ∀ x ∈ l.take i, 0 ≤ x ∧ x < 3 + (g.length : Int)) (fun i => l.length - i) 0 [3] ⟨Nat.zero_le _, rfl, by simp⟩ ?_
      rintro i ⟨hi, hinv, hrg⟩
      have hlt := ofL_lt (l.take i) (fun x hx => by have := hrg x hx; omega)
      have hbad : i < l.length → lgAt ((ups g)[c]'(by omega)) ss l i = false → ((List.range l.length).all (lgAt ((ups g)[c]'(by omega)) ss l) && ofL l == (ups g)[c]'(by omega)) = false := fun hil h => by
        have : (List.range l.length).all (lgAt ((ups g)[c]'(by omega)) ss l) = false := by
          rw [List.all_eq_false]; exact ⟨i, List.mem_range.2 hil, by simp [h]⟩
        rw [this]; rfl
      repeat' (first
       | (with_reducible refine OL.st ?_)
       | (with_reducible refine TC.region ?_)
       | (with_reducible refine TC.seq ?_)
       | (with_reducible refine OL.nil ?_)
       | (with_reducible refine TX.thenN ?_)
       | (with_reducible refine TC.block ?_)
       | (with_reducible refine TC.skip ?_)
       | (with_reducible refine TC.exit ?_)
       | (with_reducible refine TX.hit ?_)
       | (with_reducible refine TX.thenX ?_)
       | (with_reducible refine TC.ifD ?_ ?_ <;> (intro hc; try (exfalso; omega)))
       | fail)
      · have hil : i < l.length := by omega
        replace hbad := hbad hil
        have h1 := s_has ((ups g)[c]'(by omega)) hupl l[i]
        have h2 := s_has (ofL (l.take i)) hlt l[i]
        have hat : lgAt ((ups g)[c]'(by omega)) ss l i = ((hasB ((ups g)[c]'(by omega)) l[i] && !hasB (ofL (l.take i)) l[i]) && (ss.getD l[i].toNat 0 &&& ofL (l.take i) == 0)) := by rw [lgAt, getD_lt hil]
        cases b1 : hasB ((ups g)[c]'(by omega)) l[i]
        · rw [b1] at h1 hat
          rw [hbad hat]
          (with_reducible refine TC.draw (id := 14) false 25 25 ?_) <;> (with_reducible refine OD.st 0 ?_) <;> (with_reducible refine OD.st 1 ?_) <;> (with_reducible refine OD.st 2 ?_) <;> (with_reducible refine OD.st 4 ?_) <;> (with_reducible refine OD.st 7 ?_) <;> (with_reducible refine OD.s1 3 ?_) <;> (with_reducible refine OD.st 5 ?_) <;> (with_reducible refine OD.s1 6 ?_) <;> (with_reducible refine OD.c1 8 h1 Fn.line_set_has ?_) <;> (with_reducible refine OD.st 9 ?_) <;> (with_reducible refine OD.st 10 ?_) <;> (with_reducible refine OD.of 12 ?_) <;> (with_reducible refine OD.of 11 ?_) <;> (with_reducible refine OD.of 13 ?_) <;> (with_reducible refine OD.st 14 ?_) <;> (with_reducible refine OD.st 15 ?_) <;> (with_reducible refine OD.of 16 ?_) <;> (with_reducible refine OD.of 17 ?_) <;> (with_reducible refine OD.of 18 ?_) <;> ((with_reducible refine OD.n3 19 20 22 ?_ ?_ ?_) <;> (first | ((with_reducible refine NextBy.at 19 ?_) <;> (with_reducible refine NextBy.f ?_) <;> ((with_reducible refine OD.n2 20 22 ?_ ?_) <;> (first | ((with_reducible refine NextBy.at 20 ?_) <;> (with_reducible refine NextBy.f ?_) <;> ((with_reducible refine OD.n2 21 22 ?_ ?_) <;> (first | ((with_reducible refine NextBy.at 21 ?_) <;> (with_reducible refine NextBy.f ?_) <;> (with_reducible refine OD.of 22 ?_) <;> (with_reducible refine OD.of 23 ?_) <;> (with_reducible refine OD.st 24 ?_) <;> (with_reducible refine OD.dn ?_)) | ((with_reducible refine NextBy.at 22 ?_) <;> (with_reducible refine NextBy.f ?_) <;> (with_reducible refine OD.of 21 ?_) <;> (with_reducible refine OD.of 23 ?_) <;> (with_reducible refine OD.st 24 ?_) <;> (with_reducible refine OD.dn ?_))))) | ((with_reducible refine NextBy.at 22 ?_) <;> (with_reducible refine NextBy.f ?_) <;> (with_reducible refine OD.of 20 ?_) <;> (with_reducible refine OD.of 21 ?_) <;> (with_reducible refine OD.of 23 ?_) <;> (with_reducible refine OD.st 24 ?_) <;> (with_reducible refine OD.dn ?_))))) | ((with_reducible refine NextBy.at 20 ?_) <;> (with_reducible refine NextBy.f ?_) <;> ((with_reducible refine OD.n2 19 22 ?_ ?_) <;> (first | ((with_reducible refine NextBy.at 19 ?_) <;> (with_reducible refine NextBy.f ?_) <;> ((with_reducible refine OD.n2 21 22 ?_ ?_) <;> (first | ((with_reducible refine NextBy.at 21 ?_) <;> (with_reducible refine NextBy.f ?_) <;> (with_reducible refine OD.of 22 ?_) <;> (with_reducible refine OD.of 23 ?_) <;> (with_reducible refine OD.st 24 ?_) <;> (with_reducible refine OD.dn ?_)) | ((with_reducible refine NextBy.at 22 ?_) <;> (with_reducible refine NextBy.f ?_) <;> (with_reducible refine OD.of 21 ?_) <;> (with_reducible refine OD.of 23 ?_) <;> (with_reducible refine OD.st 24 ?_) <;> (with_reducible refine OD.dn ?_))))) | ((with_reducible refine NextBy.at 22 ?_) <;> (with_reducible refine NextBy.f ?_) <;> (with_reducible refine OD.of 19 ?_) <;> (with_reducible refine OD.of 21 ?_) <;> (with_reducible refine OD.of 23 ?_) <;> (with_reducible refine OD.st 24 ?_) <;> (with_reducible refine OD.dn ?_))))) | ((with_reducible refine NextBy.at 22 ?_) <;> (with_reducible refine NextBy.f ?_) <;> ((with_reducible refine OD.n2 19 20 ?_ ?_) <;> (first | ((with_reducible refine NextBy.at 19 ?_) <;> (with_reducible refine NextBy.f ?_) <;> (with_reducible refine OD.of 20 ?_) <;> (with_reducible refine OD.of 21 ?_) <;> (with_reducible refine OD.of 23 ?_) <;> (with_reducible refine OD.st 24 ?_) <;> (with_reducible refine OD.dn ?_)) | ((with_reducible refine NextBy.at 20 ?_) <;> (with_reducible refine NextBy.f ?_) <;> (with_reducible refine OD.of 19 ?_) <;> (with_reducible refine OD.of 21 ?_) <;> (with_reducible refine OD.of 23 ?_) <;> (with_reducible refine OD.st 24 ?_) <;> (with_reducible refine OD.dn ?_)))))))
          all_goals repeat' (first
                     | (with_reducible refine OL.st ?_)
                     | (with_reducible refine TC.region ?_)
                     | (with_reducible refine TC.seq ?_)
                     | (with_reducible refine OL.nil ?_)
                     | (with_reducible refine TX.thenN ?_)
                     | (with_reducible refine TC.ifT ?_)
                     | (with_reducible refine TC.ret ?_)
                     | (with_reducible refine TX.thenR ?_)
                     | (with_reducible refine TX.blkR ?_)
                     | fail)
          all_goals exact TX.rt2 [] (.ren rfl) (.ren rfl)
        · rw [b1] at h1 hat
          have hli : 0 ≤ l[i] ∧ l[i] < 3 + (g.length : Int) := by
            have h := hup l[i]
            rw [upHas, Int.toNat_natCast, hug, b1] at h
            exact (((abOf_spec g c).2.2 _).1 (List.contains_iff_mem.1 h.symm)).1
          have hls' : l[i].toNat < ss.length := by omega
          have h3 := s_line_set_and ss[l[i].toNat] (ofL (l.take i)) (hu64 _ (List.getElem_mem _)) hlt
          rw [getD_lt hls'] at hat
          cases b2 : hasB (ofL (l.take i)) l[i]
          · rw [b2] at h2 hat
            have e : (!(((ss[l[i].toNat] &&& ofL (l.take i) : Nat) : Int) == 0)) = !(ss[l[i].toNat] &&& ofL (l.take i) == 0) := by
              congr 1
              rw [Bool.eq_iff_iff, beq_iff_eq, beq_iff_eq]; omega
            cases b3 : (ss[l[i].toNat] &&& ofL (l.take i) == 0)
            · rw [b3] at e hat
              rw [hbad hat]
              (with_reducible refine TC.draw (id := 14) false 25 25 ?_) <;> (with_reducible refine OD.st 0 ?_) <;> (with_reducible refine OD.st 1 ?_) <;> (with_reducible refine OD.st 2 ?_) <;> (with_reducible refine OD.st 4 ?_) <;> (with_reducible refine OD.st 7 ?_) <;> (with_reducible refine OD.s1 3 ?_) <;> (with_reducible refine OD.st 5 ?_) <;> (with_reducible refine OD.s1 6 ?_) <;> (with_reducible refine OD.c1 8 h1 Fn.line_set_has ?_) <;> (with_reducible refine OD.st 9 ?_) <;> (with_reducible refine OD.st 10 ?_) <;> (with_reducible refine OD.st 12 ?_) <;> (with_reducible refine OD.s1 11 ?_) <;> (with_reducible refine OD.c1 13 h2 Fn.line_set_has ?_) <;> (with_reducible refine OD.st 14 ?_) <;> (with_reducible refine OD.st 15 ?_) <;> (with_reducible refine OD.st 16 ?_) <;> (with_reducible refine OD.st 17 ?_) <;> (with_reducible refine OD.st 18 ?_) <;> ((with_reducible refine OD.n3 19 20 22 ?_ ?_ ?_) <;> (first | ((with_reducible refine NextBy.at 19 ?_) <;> (with_reducible refine NextBy.s ?_) <;> ((with_reducible refine OD.n2 20 22 ?_ ?_) <;> (first | ((with_reducible refine NextBy.at 20 ?_) <;> (with_reducible refine NextBy.s ?_) <;> ((with_reducible refine OD.n2 21 22 ?_ ?_) <;> (first | ((with_reducible refine NextBy.at 21 ?_) <;> (with_reducible refine NextBy.c h3 Fn.line_set_and ?_) <;> (with_reducible refine OD.a1 22 ?_; refine OL.buildA ?_; with_reducible refine OL.nil ?_; with_reducible refine TX.od ?_) <;> (with_reducible refine OD.a1 23 ?_; refine OL.neA1 ?_ eqGuard82; rw [e]; with_reducible refine OL.nil ?_; with_reducible refine TX.od ?_) <;> (with_reducible refine OD.st 24 ?_) <;> (with_reducible refine OD.dn ?_)) | ((with_reducible refine NextBy.at 22 ?_) <;> (with_reducible refine NextBy.a ?_; refine OL.buildA ?_; with_reducible refine OL.nil ?_; with_reducible refine TX.od ?_) <;> (with_reducible refine OD.c1 21 h3 Fn.line_set_and ?_) <;> (with_reducible refine OD.a1 23 ?_; refine OL.neA1 ?_ eqGuard82; rw [e]; with_reducible refine OL.nil ?_; with_reducible refine TX.od ?_) <;> (with_reducible refine OD.st 24 ?_) <;> (with_reducible refine OD.dn ?_))))) | ((with_reducible refine NextBy.at 22 ?_) <;> (with_reducible refine NextBy.a ?_; refine OL.buildA ?_; with_reducible refine OL.nil ?_; with_reducible refine TX.od ?_) <;> (with_reducible refine OD.s1 20 ?_) <;> (with_reducible refine OD.c1 21 h3 Fn.line_set_and ?_) <;> (with_reducible refine OD.a1 23 ?_; refine OL.neA1 ?_ eqGuard82; rw [e]; with_reducible refine OL.nil ?_; with_reducible refine TX.od ?_) <;> (with_reducible refine OD.st 24 ?_) <;> (with_reducible refine OD.dn ?_))))) | ((with_reducible refine NextBy.at 20 ?_) <;> (with_reducible refine NextBy.s ?_) <;> ((with_reducible refine OD.n2 19 22 ?_ ?_) <;> (first | ((with_reducible refine NextBy.at 19 ?_) <;> (with_reducible refine NextBy.s ?_) <;> ((with_reducible refine OD.n2 21 22 ?_ ?_) <;> (first | ((with_reducible refine NextBy.at 21 ?_) <;> (with_reducible refine NextBy.c h3 Fn.line_set_and ?_) <;> (with_reducible refine OD.a1 22 ?_; refine OL.buildA ?_; with_reducible refine OL.nil ?_; with_reducible refine TX.od ?_) <;> (with_reducible refine OD.a1 23 ?_; refine OL.neA1 ?_ eqGuard82; rw [e]; with_reducible refine OL.nil ?_; with_reducible refine TX.od ?_) <;> (with_reducible refine OD.st 24 ?_) <;> (with_reducible refine OD.dn ?_)) | ((with_reducible refine NextBy.at 22 ?_) <;> (with_reducible refine NextBy.a ?_; refine OL.buildA ?_; with_reducible refine OL.nil ?_; with_reducible refine TX.od ?_) <;> (with_reducible refine OD.c1 21 h3 Fn.line_set_and ?_) <;> (with_reducible refine OD.a1 23 ?_; refine OL.neA1 ?_ eqGuard82; rw [e]; with_reducible refine OL.nil ?_; with_reducible refine TX.od ?_) <;> (with_reducible refine OD.st 24 ?_) <;> (with_reducible refine OD.dn ?_))))) | ((with_reducible refine NextBy.at 22 ?_) <;> (with_reducible refine NextBy.a ?_; refine OL.buildA ?_; with_reducible refine OL.nil ?_; with_reducible refine TX.od ?_) <;> (with_reducible refine OD.s1 19 ?_) <;> (with_reducible refine OD.c1 21 h3 Fn.line_set_and ?_) <;> (with_reducible refine OD.a1 23 ?_; refine OL.neA1 ?_ eqGuard82; rw [e]; with_reducible refine OL.nil ?_; with_reducible refine TX.od ?_) <;> (with_reducible refine OD.st 24 ?_) <;> (with_reducible refine OD.dn ?_))))) | ((with_reducible refine NextBy.at 22 ?_) <;> (with_reducible refine NextBy.a ?_; refine OL.buildA ?_; with_reducible refine OL.nil ?_; with_reducible refine TX.od ?_) <;> ((with_reducible refine OD.n2 19 20 ?_ ?_) <;> (first | ((with_reducible refine NextBy.at 19 ?_) <;> (with_reducible refine NextBy.s ?_) <;> (with_reducible refine OD.s1 20 ?_) <;> (with_reducible refine OD.c1 21 h3 Fn.line_set_and ?_) <;> (with_reducible refine OD.a1 23 ?_; refine OL.neA1 ?_ eqGuard82; rw [e]; with_reducible refine OL.nil ?_; with_reducible refine TX.od ?_) <;> (with_reducible refine OD.st 24 ?_) <;> (with_reducible refine OD.dn ?_)) | ((with_reducible refine NextBy.at 20 ?_) <;> (with_reducible refine NextBy.s ?_) <;> (with_reducible refine OD.s1 19 ?_) <;> (with_reducible refine OD.c1 21 h3 Fn.line_set_and ?_) <;> (with_reducible refine OD.a1 23 ?_; refine OL.neA1 ?_ eqGuard82; rw [e]; with_reducible refine OL.nil ?_; with_reducible refine TX.od ?_) <;> (with_reducible refine OD.st 24 ?_) <;> (with_reducible refine OD.dn ?_)))))))
              all_goals repeat' (first
                         | (with_reducible refine OL.st ?_)
                         | (with_reducible refine TC.region ?_)
                         | (with_reducible refine TC.seq ?_)
                         | (with_reducible refine OL.nil ?_)
                         | (with_reducible refine TX.thenN ?_)
                         | (with_reducible refine TC.ifT ?_)
                         | (with_reducible refine TC.ret ?_)
                         | (with_reducible refine TX.thenR ?_)
                         | (with_reducible refine TX.blkR ?_)
                         | fail)
              all_goals exact TX.rt2 [] (.ren rfl) (.ren rfl)
            · rw [b3] at e hat
              (with_reducible refine TC.draw (id := 14) false 25 25 ?_) <;> (with_reducible refine OD.st 0 ?_) <;> (with_reducible refine OD.st 1 ?_) <;> (with_reducible refine OD.st 2 ?_) <;> (with_reducible refine OD.st 4 ?_) <;> (with_reducible refine OD.st 7 ?_) <;> (with_reducible refine OD.s1 3 ?_) <;> (with_reducible refine OD.st 5 ?_) <;> (with_reducible refine OD.s1 6 ?_) <;> (with_reducible refine OD.c1 8 h1 Fn.line_set_has ?_) <;> (with_reducible refine OD.st 9 ?_) <;> (with_reducible refine OD.st 10 ?_) <;> (with_reducible refine OD.st 12 ?_) <;> (with_reducible refine OD.s1 11 ?_) <;> (with_reducible refine OD.c1 13 h2 Fn.line_set_has ?_) <;> (with_reducible refine OD.st 14 ?_) <;> (with_reducible refine OD.st 15 ?_) <;> (with_reducible refine OD.st 16 ?_) <;> (with_reducible refine OD.st 17 ?_) <;> (with_reducible refine OD.st 18 ?_) <;> ((with_reducible refine OD.n3 19 20 22 ?_ ?_ ?_) <;> (first | ((with_reducible refine NextBy.at 19 ?_) <;> (with_reducible refine NextBy.s ?_) <;> ((with_reducible refine OD.n2 20 22 ?_ ?_) <;> (first | ((with_reducible refine NextBy.at 20 ?_) <;> (with_reducible refine NextBy.s ?_) <;> ((with_reducible refine OD.n2 21 22 ?_ ?_) <;> (first | ((with_reducible refine NextBy.at 21 ?_) <;> (with_reducible refine NextBy.c h3 Fn.line_set_and ?_) <;> (with_reducible refine OD.a1 22 ?_; refine OL.buildA ?_; with_reducible refine OL.nil ?_; with_reducible refine TX.od ?_) <;> (with_reducible refine OD.a1 23 ?_; refine OL.neA1 ?_ eqGuard82; rw [e]; with_reducible refine OL.nil ?_; with_reducible refine TX.od ?_) <;> (with_reducible refine OD.st 24 ?_) <;> (with_reducible refine OD.dn ?_)) | ((with_reducible refine NextBy.at 22 ?_) <;> (with_reducible refine NextBy.a ?_; refine OL.buildA ?_; with_reducible refine OL.nil ?_; with_reducible refine TX.od ?_) <;> (with_reducible refine OD.c1 21 h3 Fn.line_set_and ?_) <;> (with_reducible refine OD.a1 23 ?_; refine OL.neA1 ?_ eqGuard82; rw [e]; with_reducible refine OL.nil ?_; with_reducible refine TX.od ?_) <;> (with_reducible refine OD.st 24 ?_) <;> (with_reducible refine OD.dn ?_))))) | ((with_reducible refine NextBy.at 22 ?_) <;> (with_reducible refine NextBy.a ?_; refine OL.buildA ?_; with_reducible refine OL.nil ?_; with_reducible refine TX.od ?_) <;> (with_reducible refine OD.s1 20 ?_) <;> (with_reducible refine OD.c1 21 h3 Fn.line_set_and ?_) <;> (with_reducible refine OD.a1 23 ?_; refine OL.neA1 ?_ eqGuard82; rw [e]; with_reducible refine OL.nil ?_; with_reducible refine TX.od ?_) <;> (with_reducible refine OD.st 24 ?_) <;> (with_reducible refine OD.dn ?_))))) | ((with_reducible refine NextBy.at 20 ?_) <;> (with_reducible refine NextBy.s ?_) <;> ((with_reducible refine OD.n2 19 22 ?_ ?_) <;> (first | ((with_reducible refine NextBy.at 19 ?_) <;> (with_reducible refine NextBy.s ?_) <;> ((with_reducible refine OD.n2 21 22 ?_ ?_) <;> (first | ((with_reducible refine NextBy.at 21 ?_) <;> (with_reducible refine NextBy.c h3 Fn.line_set_and ?_) <;> (with_reducible refine OD.a1 22 ?_; refine OL.buildA ?_; with_reducible refine OL.nil ?_; with_reducible refine TX.od ?_) <;> (with_reducible refine OD.a1 23 ?_; refine OL.neA1 ?_ eqGuard82; rw [e]; with_reducible refine OL.nil ?_; with_reducible refine TX.od ?_) <;> (with_reducible refine OD.st 24 ?_) <;> (with_reducible refine OD.dn ?_)) | ((with_reducible refine NextBy.at 22 ?_) <;> (with_reducible refine NextBy.a ?_; refine OL.buildA ?_; with_reducible refine OL.nil ?_; with_reducible refine TX.od ?_) <;> (with_reducible refine OD.c1 21 h3 Fn.line_set_and ?_) <;> (with_reducible refine OD.a1 23 ?_; refine OL.neA1 ?_ eqGuard82; rw [e]; with_reducible refine OL.nil ?_; with_reducible refine TX.od ?_) <;> (with_reducible refine OD.st 24 ?_) <;> (with_reducible refine OD.dn ?_))))) | ((with_reducible refine NextBy.at 22 ?_) <;> (with_reducible refine NextBy.a ?_; refine OL.buildA ?_; with_reducible refine OL.nil ?_; with_reducible refine TX.od ?_) <;> (with_reducible refine OD.s1 19 ?_) <;> (with_reducible refine OD.c1 21 h3 Fn.line_set_and ?_) <;> (with_reducible refine OD.a1 23 ?_; refine OL.neA1 ?_ eqGuard82; rw [e]; with_reducible refine OL.nil ?_; with_reducible refine TX.od ?_) <;> (with_reducible refine OD.st 24 ?_) <;> (with_reducible refine OD.dn ?_))))) | ((with_reducible refine NextBy.at 22 ?_) <;> (with_reducible refine NextBy.a ?_; refine OL.buildA ?_; with_reducible refine OL.nil ?_; with_reducible refine TX.od ?_) <;> ((with_reducible refine OD.n2 19 20 ?_ ?_) <;> (first | ((with_reducible refine NextBy.at 19 ?_) <;> (with_reducible refine NextBy.s ?_) <;> (with_reducible refine OD.s1 20 ?_) <;> (with_reducible refine OD.c1 21 h3 Fn.line_set_and ?_) <;> (with_reducible refine OD.a1 23 ?_; refine OL.neA1 ?_ eqGuard82; rw [e]; with_reducible refine OL.nil ?_; with_reducible refine TX.od ?_) <;> (with_reducible refine OD.st 24 ?_) <;> (with_reducible refine OD.dn ?_)) | ((with_reducible refine NextBy.at 20 ?_) <;> (with_reducible refine NextBy.s ?_) <;> (with_reducible refine OD.s1 19 ?_) <;> (with_reducible refine OD.c1 21 h3 Fn.line_set_and ?_) <;> (with_reducible refine OD.a1 23 ?_; refine OL.neA1 ?_ eqGuard82; rw [e]; with_reducible refine OL.nil ?_; with_reducible refine TX.od ?_) <;> (with_reducible refine OD.st 24 ?_) <;> (with_reducible refine OD.dn ?_)))))))
              all_goals repeat' (first
                         | (with_reducible refine OL.st ?_)
                         | (with_reducible refine TC.region ?_)
                         | (with_reducible refine TX.thenN ?_)
                         | (with_reducible refine TC.skip ?_)
                         | (with_reducible refine TC.ifF ?_)
                         | fail)
              all_goals
                refine OL.c (s_line_set_with _ hlt l[i] hli.1 (by omega)) Fn.line_set_with ?_
                repeat' (first
                 | (with_reducible refine OL.st ?_)
                 | (with_reducible refine OL.storeAgg ?_)
                 | (with_reducible refine TC.region ?_)
                 | (with_reducible refine OL.nil ?_)
                 | (with_reducible refine TX.thenN ?_)
                 | (with_reducible refine TX.blkN ?_)
                 | fail)
                rw [← ofL_snoc, ← take_succ hil]
                refine TX.rd (i + 1) [0] ⟨by omega, by rw [all_range_succ, hinv, hat]; rfl, fun x hx => ?_⟩ (by omega)
                rw [take_succ hil] at hx
                rcases List.mem_append.1 hx with hx | hx
                · exact hrg x hx
                · have : x = l[i] := by simpa using hx
                  rw [this]; exact hli
          · rw [b2] at h2 hat
            rw [hbad hat]
            (with_reducible refine TC.draw (id := 14) false 25 25 ?_) <;> (with_reducible refine OD.st 0 ?_) <;> (with_reducible refine OD.st 1 ?_) <;> (with_reducible refine OD.st 2 ?_) <;> (with_reducible refine OD.st 4 ?_) <;> (with_reducible refine OD.st 7 ?_) <;> (with_reducible refine OD.s1 3 ?_) <;> (with_reducible refine OD.st 5 ?_) <;> (with_reducible refine OD.s1 6 ?_) <;> (with_reducible refine OD.c1 8 h1 Fn.line_set_has ?_) <;> (with_reducible refine OD.st 9 ?_) <;> (with_reducible refine OD.st 10 ?_) <;> (with_reducible refine OD.st 12 ?_) <;> (with_reducible refine OD.s1 11 ?_) <;> (with_reducible refine OD.c1 13 h2 Fn.line_set_has ?_) <;> (with_reducible refine OD.st 14 ?_) <;> (with_reducible refine OD.st 15 ?_) <;> (with_reducible refine OD.of 16 ?_) <;> (with_reducible refine OD.of 17 ?_) <;> (with_reducible refine OD.of 18 ?_) <;> ((with_reducible refine OD.n3 19 20 22 ?_ ?_ ?_) <;> (first | ((with_reducible refine NextBy.at 19 ?_) <;> (with_reducible refine NextBy.f ?_) <;> ((with_reducible refine OD.n2 20 22 ?_ ?_) <;> (first | ((with_reducible refine NextBy.at 20 ?_) <;> (with_reducible refine NextBy.f ?_) <;> ((with_reducible refine OD.n2 21 22 ?_ ?_) <;> (first | ((with_reducible refine NextBy.at 21 ?_) <;> (with_reducible refine NextBy.f ?_) <;> (with_reducible refine OD.of 22 ?_) <;> (with_reducible refine OD.of 23 ?_) <;> (with_reducible refine OD.st 24 ?_) <;> (with_reducible refine OD.dn ?_)) | ((with_reducible refine NextBy.at 22 ?_) <;> (with_reducible refine NextBy.f ?_) <;> (with_reducible refine OD.of 21 ?_) <;> (with_reducible refine OD.of 23 ?_) <;> (with_reducible refine OD.st 24 ?_) <;> (with_reducible refine OD.dn ?_))))) | ((with_reducible refine NextBy.at 22 ?_) <;> (with_reducible refine NextBy.f ?_) <;> (with_reducible refine OD.of 20 ?_) <;> (with_reducible refine OD.of 21 ?_) <;> (with_reducible refine OD.of 23 ?_) <;> (with_reducible refine OD.st 24 ?_) <;> (with_reducible refine OD.dn ?_))))) | ((with_reducible refine NextBy.at 20 ?_) <;> (with_reducible refine NextBy.f ?_) <;> ((with_reducible refine OD.n2 19 22 ?_ ?_) <;> (first | ((with_reducible refine NextBy.at 19 ?_) <;> (with_reducible refine NextBy.f ?_) <;> ((with_reducible refine OD.n2 21 22 ?_ ?_) <;> (first | ((with_reducible refine NextBy.at 21 ?_) <;> (with_reducible refine NextBy.f ?_) <;> (with_reducible refine OD.of 22 ?_) <;> (with_reducible refine OD.of 23 ?_) <;> (with_reducible refine OD.st 24 ?_) <;> (with_reducible refine OD.dn ?_)) | ((with_reducible refine NextBy.at 22 ?_) <;> (with_reducible refine NextBy.f ?_) <;> (with_reducible refine OD.of 21 ?_) <;> (with_reducible refine OD.of 23 ?_) <;> (with_reducible refine OD.st 24 ?_) <;> (with_reducible refine OD.dn ?_))))) | ((with_reducible refine NextBy.at 22 ?_) <;> (with_reducible refine NextBy.f ?_) <;> (with_reducible refine OD.of 19 ?_) <;> (with_reducible refine OD.of 21 ?_) <;> (with_reducible refine OD.of 23 ?_) <;> (with_reducible refine OD.st 24 ?_) <;> (with_reducible refine OD.dn ?_))))) | ((with_reducible refine NextBy.at 22 ?_) <;> (with_reducible refine NextBy.f ?_) <;> ((with_reducible refine OD.n2 19 20 ?_ ?_) <;> (first | ((with_reducible refine NextBy.at 19 ?_) <;> (with_reducible refine NextBy.f ?_) <;> (with_reducible refine OD.of 20 ?_) <;> (with_reducible refine OD.of 21 ?_) <;> (with_reducible refine OD.of 23 ?_) <;> (with_reducible refine OD.st 24 ?_) <;> (with_reducible refine OD.dn ?_)) | ((with_reducible refine NextBy.at 20 ?_) <;> (with_reducible refine NextBy.f ?_) <;> (with_reducible refine OD.of 19 ?_) <;> (with_reducible refine OD.of 21 ?_) <;> (with_reducible refine OD.of 23 ?_) <;> (with_reducible refine OD.st 24 ?_) <;> (with_reducible refine OD.dn ?_)))))))
            all_goals repeat' (first
                       | (with_reducible refine OL.st ?_)
                       | (with_reducible refine TC.region ?_)
                       | (with_reducible refine TC.seq ?_)
                       | (with_reducible refine OL.nil ?_)
                       | (with_reducible refine TX.thenN ?_)
                       | (with_reducible refine TC.ifT ?_)
                       | (with_reducible refine TC.ret ?_)
                       | (with_reducible refine TX.thenR ?_)
                       | (with_reducible refine TX.blkR ?_)
                       | fail)
            all_goals exact TX.rt2 [] (.ren rfl) (.ren rfl)
      · have ei : i = l.length := by omega
        subst ei
        rw [hinv, Bool.true_and]
        have e : (((ofL l : Nat) : Int) == ((ups g)[c]'(by omega) : Nat)) = (ofL l == (ups g)[c]'(by omega)) := by
          rw [Bool.eq_iff_iff, beq_iff_eq, beq_iff_eq]; omega
        rw [List.take_length]
        (with_reducible refine TC.draw (id := 18) false 11 11 ?_) <;> (with_reducible refine OD.st 1 ?_) <;> (with_reducible refine OD.st 2 ?_) <;> (with_reducible refine OD.st 3 ?_) <;> (with_reducible refine OD.st 5 ?_) <;> ((with_reducible refine OD.n2 0 4 ?_ ?_) <;> (first | ((with_reducible refine NextBy.at 0 ?_) <;> (with_reducible refine NextBy.s ?_) <;> (with_reducible refine OD.s1 4 ?_) <;> (with_reducible refine OD.st 6 ?_) <;> (with_reducible refine OD.s1 7 ?_) <;> (with_reducible refine OD.a1 8 ?_; refine OL.eqA1 ?_ eqGuard82; rw [e]; with_reducible refine OL.nil ?_; with_reducible refine TX.od ?_) <;> (with_reducible refine OD.st 9 ?_) <;> (with_reducible refine OD.st 10 ?_) <;> (with_reducible refine OD.dn ?_)) | ((with_reducible refine NextBy.at 4 ?_) <;> (with_reducible refine NextBy.s ?_) <;> (with_reducible refine OD.st 6 ?_) <;> ((with_reducible refine OD.n2 0 7 ?_ ?_) <;> (first | ((with_reducible refine NextBy.at 0 ?_) <;> (with_reducible refine NextBy.s ?_) <;> (with_reducible refine OD.s1 7 ?_) <;> (with_reducible refine OD.a1 8 ?_; refine OL.eqA1 ?_ eqGuard82; rw [e]; with_reducible refine OL.nil ?_; with_reducible refine TX.od ?_) <;> (with_reducible refine OD.st 9 ?_) <;> (with_reducible refine OD.st 10 ?_) <;> (with_reducible refine OD.dn ?_)) | ((with_reducible refine NextBy.at 7 ?_) <;> (with_reducible refine NextBy.s ?_) <;> (with_reducible refine OD.s1 0 ?_) <;> (with_reducible refine OD.a1 8 ?_; refine OL.eqA1 ?_ eqGuard82; rw [e]; with_reducible refine OL.nil ?_; with_reducible refine TX.od ?_) <;> (with_reducible refine OD.st 9 ?_) <;> (with_reducible refine OD.st 10 ?_) <;> (with_reducible refine OD.dn ?_)))))))
        all_goals repeat' (first | (with_reducible refine TX.thenN ?_) | (with_reducible refine TC.ret ?_) | fail)
        all_goals exact TX.rt2 [] (.ren rfl) (.ren rfl)
set_option maxHeartbeats 1000000 in
theorem s_law03_LineAgrees (g : List (List Int)) (c : Int) (l : List Int) : V.Spec Try.prog Fc.law03_LineAgrees [rows g, V.int c, ints l] [] (V.bool true) [] := by
  refine V.Spec.enter Try.tabOK Try.mixed Fn.law03_LineAgrees rfl rfl rfl fun B hB => ?_
  repeat' (first
   | (with_reducible refine OL.st ?_)
   | (with_reducible refine TC.region ?_)
   | (with_reducible refine TC.seq ?_)
   | (with_reducible refine OL.nil ?_)
   | (with_reducible refine TX.thenN ?_)
   | fail)
  refine OL.c (s_law03_wide g) Fn.law03_wide ?_
  cases hw : wideR g
  · repeat' (first
     | (with_reducible refine OL.st ?_)
     | (with_reducible refine OL.lit ?_)
     | (with_reducible refine OL.gOn ?_)
     | fail)
    refine OL.vwA 0 ?_
    refine OL.c (s_law03_large [l]) Fn.law03_large ?_
    cases hl : largeR [l]
    · repeat' (first
       | (with_reducible refine OL.st ?_)
       | (with_reducible refine TC.region ?_)
       | (with_reducible refine TC.seq ?_)
       | (with_reducible refine OL.nil ?_)
       | (with_reducible refine TX.thenN ?_)
       | (with_reducible refine TC.skip ?_)
       | (with_reducible refine TC.ifF ?_)
       | fail)
      refine OL.c (s_line_Agrees g c l) Fn.line_Agrees ?_
      repeat' (first
       | (with_reducible refine OL.st ?_)
       | (with_reducible refine TC.region ?_)
       | (with_reducible refine TC.seq ?_)
       | (with_reducible refine OL.nil ?_)
       | (with_reducible refine TX.thenN ?_)
       | fail)
      refine OL.c (s_ref03_Agrees g c l) Fn.ref03_Agrees ?_
      repeat' (first
       | (with_reducible refine OL.st ?_)
       | (with_reducible refine TC.region ?_)
       | (with_reducible refine TC.seq ?_)
       | (with_reducible refine OL.nil ?_)
       | (with_reducible refine TX.thenN ?_)
       | fail)
      refine OL.eqBl Try.underlying4 ?_
      rw [beq_self_eq_true]
      repeat' (first
       | (with_reducible refine OL.st ?_)
       | (with_reducible refine OL.gOn ?_)
       | (with_reducible refine OL.gD ?_ ?_ <;> (intro hc; try (exfalso; omega)))
       | fail)
      refine OL.c s_law03_works Fn.law03_works ?_
      repeat' (first
       | (with_reducible refine OL.st ?_)
       | (with_reducible refine OL.nil ?_)
       | (with_reducible refine TX.thenN ?_)
       | (with_reducible refine TC.ret ?_)
       | fail)
      exact TX.rt1 [] (.ren rfl)
    · repeat' (first
       | (with_reducible refine OL.st ?_)
       | (with_reducible refine TC.region ?_)
       | (with_reducible refine TC.seq ?_)
       | (with_reducible refine OL.nil ?_)
       | (with_reducible refine TX.thenN ?_)
       | (with_reducible refine TC.ifT ?_)
       | fail)
      refine OL.c s_law03_works Fn.law03_works ?_
      repeat' (first
       | (with_reducible refine OL.st ?_)
       | (with_reducible refine OL.nil ?_)
       | (with_reducible refine TX.thenN ?_)
       | (with_reducible refine TC.ret ?_)
       | (with_reducible refine TX.thenR ?_)
       | fail)
      exact TX.rt1 [] (.ren rfl)
  · repeat' (first
     | (with_reducible refine OL.st ?_)
     | (with_reducible refine TC.region ?_)
     | (with_reducible refine TC.seq ?_)
     | (with_reducible refine OL.nil ?_)
     | (with_reducible refine TX.thenN ?_)
     | (with_reducible refine TC.ifT ?_)
     | (with_reducible refine OL.gOff ?_)
     | fail)
    refine OL.c s_law03_works Fn.law03_works ?_
    repeat' (first
     | (with_reducible refine OL.st ?_)
     | (with_reducible refine OL.nil ?_)
     | (with_reducible refine TX.thenN ?_)
     | (with_reducible refine TC.ret ?_)
     | (with_reducible refine TX.thenR ?_)
     | fail)
    exact TX.rt1 [] (.ren rfl)
end Go.Proofs
