/- Part 14 of what the claim is proved by: lemmas on the model and walks through functions of the program; no conditions. -/
import Derived.Test.YthoblhbdeamjmaaQ13
import Derived.Test.YthoblhbdeamjmaaQ9
import Derived.Test.YthoblhbdeamjmaaQ10
import Derived.Test.YthoblhbdeamjmaaQ8
/- line's rings. -/
namespace Go.Proofs
open Go Go.W Go.V
/-- The classes of a graph. -/
def upto (n : Nat) : List Int := (List.range n).map fun (k : Nat) => (k : Int)
theorem upto_succ (n : Nat) : upto (n + 1) = upto n ++ [(n : Int)] := by simp [upto, List.range_succ]
theorem upto_length (n : Nat) : (upto n).length = n := by simp [upto]
theorem mem_upto {n : Nat} {c : Int} : c ∈ upto n ↔ 0 ≤ c ∧ c < n := by
  simp only [upto, List.mem_map, List.mem_range]
  constructor
  · rintro ⟨k, h, rfl⟩; omega
  · intro h; exact ⟨c.toNat, by omega, by omega⟩
def hasB (x : Nat) (c : Int) : Bool := decide (0 ≤ c) && decide (c < 64) && x.testBit c.toNat
def lastI (l : List Int) : Int := l.getD (l.length - 1) 0
theorem lastI_eq {l : List Int} (h : ((l.length : Int) - 1).toNat < l.length) : l[((l.length : Int) - 1).toNat] = lastI l := by
  have e : ((l.length : Int) - 1).toNat = l.length - 1 := by omega
  rw [lastI, getD_lt (by omega)]
  simp only [e]
/-- A class may come next. -/
def okNext (ss : List Nat) (begun : List Int) (c : Int) : Bool := begun.length == 0 || (!begun.contains c && hasB (ss.getD (lastI begun).toNat 0) c)
def ringsF (ss : List Nat) : Nat → List Int → Option (List Int)
  | 0, begun => if hasB (ss.getD (lastI begun).toNat 0) (begun.getD 0 0) then some begun else none
  | n + 1, begun => ((upto ss.length).drop 3).findSome? fun c => if okNext ss begun c then ringsF ss n (begun ++ [c]) else none
def ringA : Option (List Int) → AV
  | none => .raw (.slice none 0 0)
  | some l => ints l
theorem ringsF_ne (ss : List Nat) : ∀ (n : Nat) (b l : List Int), 0 < n + b.length → ringsF ss n b = some l → l ≠ []
  | 0, b, l, h, e => by
    simp only [ringsF] at e
    split at e
    · cases e; intro e; rw [e] at h; simp at h
    · cases e
  | n + 1, b, l, h, e => by
    simp only [ringsF] at e
    obtain ⟨c, _, hc⟩ := List.exists_of_findSome?_eq_some e
    split at hc
    · exact ringsF_ne ss n _ _ (by simp; omega) hc
    · cases hc
set_option maxHeartbeats 1000000 in
theorem s_line_rings (ss : List Nat) (hu : ∀ u ∈ ss, u < 2 ^ 64) (hs64 : ss.length ≤ 19) (n : Nat) (hn : 1 ≤ n) (hn2 : n ≤ 1000) : ∀ (f : Nat) (begun : List Int), f + begun.length = n → (∀ c ∈ begun, 0 ≤ c ∧ c < ss.length) →
    V.Spec Try.prog Fc.line_rings [sets ss, ints begun, V.int n] [] (ringA (ringsF ss f begun)) [] := by
  intro f
  induction f with
  | zero =>
    intro begun hf hr
    refine V.Spec.enter Try.tabOK Try.mixed Fn.line_rings rfl rfl rfl fun B hB => ?_
    have hlt0 : ((begun.length : Int) - 1).toNat < begun.length := by omega
    have hl := hr begun[((begun.length : Int) - 1).toNat] (List.getElem_mem _)
    have hle := lastI_eq hlt0
    have hlu : (begun[((begun.length : Int) - 1).toNat]).toNat < ss.length := by omega
    have hres : ringsF ss 0 begun = if hasB ss[(begun[((begun.length : Int) - 1).toNat]).toNat] begun[0] then some begun else none := by
      rw [ringsF, ← hle, getD_lt (by omega), getD_lt (by omega)]
    have hh := s_line_set_has ss[(begun[((begun.length : Int) - 1).toNat]).toNat] (hu _ (List.getElem_mem _)) begun[0]
    change V.Spec _ _ _ _ (V.bool (hasB _ _)) _ at hh
    rw [hres]
    repeat' (first
     | (with_reducible refine OL.st ?_)
     | (with_reducible refine TC.region ?_)
     | (with_reducible refine TC.seq ?_)
     | (with_reducible refine OL.nil ?_)
     | (with_reducible refine TX.thenN ?_)
     | (with_reducible refine TC.ifD ?_ ?_ <;> (intro hc; try (exfalso; omega)))
     | fail)
    · (with_reducible refine TC.draw (id := 3) true 12 12 ?_) <;> (with_reducible refine OD.st 0 ?_) <;> (with_reducible refine OD.st 1 ?_) <;> (with_reducible refine OD.st 2 ?_) <;> (with_reducible refine OD.st 3 ?_) <;> (with_reducible refine OD.st 4 ?_) <;> (with_reducible refine OD.st 5 ?_) <;> (with_reducible refine OD.st 6 ?_) <;> (with_reducible refine OD.st 7 ?_) <;> (with_reducible refine OD.st 8 ?_) <;> (with_reducible refine OD.st 9 ?_) <;> (with_reducible refine OD.st 10 ?_) <;> (with_reducible refine OD.c1 11 hh Fn.line_set_has ?_) <;> (with_reducible refine OD.dn ?_)
      refine TC.ifB (fun h => ?_) (fun h => ?_)
      · rw [h]
        repeat' (first
         | (with_reducible refine OL.st ?_)
         | (with_reducible refine TC.region ?_)
         | (with_reducible refine TC.seq ?_)
         | (with_reducible refine OL.nil ?_)
         | (with_reducible refine TX.thenN ?_)
         | (with_reducible refine TC.ret ?_)
         | (with_reducible refine TX.thenR ?_)
         | fail)
        exact TX.rt1 [] (.ren rfl)
      · rw [h]
        repeat' (first
         | (with_reducible refine OL.st ?_)
         | (with_reducible refine TC.region ?_)
         | (with_reducible refine TC.seq ?_)
         | (with_reducible refine OL.nil ?_)
         | (with_reducible refine TX.thenN ?_)
         | (with_reducible refine TC.skip ?_)
         | (with_reducible refine TC.ret ?_)
         | (with_reducible refine TX.thenR ?_)
         | fail)
        exact TX.rt1 [] (.ren rfl)
  | succ f ih =>
    intro begun hf hr
    refine V.Spec.enter Try.tabOK Try.mixed Fn.line_rings rfl rfl rfl fun B hB => ?_
    have hbl : begun.length ≤ 1000 := by omega
    have hssl := upto_length ss.length
    repeat' (first
     | (with_reducible refine OL.st ?_)
     | (with_reducible refine TC.region ?_)
     | (with_reducible refine TC.seq ?_)
     | (with_reducible refine OL.nil ?_)
     | (with_reducible refine TX.thenN ?_)
     | (with_reducible refine TC.block ?_)
     | (with_reducible refine TC.skip ?_)
     | (with_reducible refine TC.ifD ?_ ?_ <;> (intro hc; try (exfalso; omega)))
     | fail)
    refine TC.lp (fun c : Nat => [(0, sets ss), (1, ints begun), (2, V.int n), (7, V.int begun.length), (8, V.int c)]) (fun _ => []) (fun c => 3 ≤ c ∧ ringsF ss (f + 1) begun = ((upto ss.length).drop c).findSome? (fun c => if okNext ss begun c then ringsF ss f (begun ++ [c]) else none)) (fun c => ss.length - c) 3 [] ⟨Nat.le_refl _, rfl⟩ ?_
    rintro c ⟨hc3, hinv⟩
    have hstep : ∀ h : c < ss.length, (if okNext ss begun (c : Int) then ringsF ss f (begun ++ [(c : Int)]) else none) = none → ringsF ss (f + 1) begun = ((upto ss.length).drop (c + 1)).findSome? (fun c => if okNext ss begun c then ringsF ss f (begun ++ [c]) else none) := by
      intro h hn0
      have hg : (upto ss.length)[c]'(by omega) = (c : Int) := by simp [upto]
      rw [hinv, drop_cons (by omega), List.findSome?_cons, hg, hn0]
    have hg : ∀ h : c < ss.length, (upto ss.length)[c]'(by omega) = (c : Int) := fun h => by simp [upto]
    have e1 : begun.map V.int ++ [V.int c] = (begun ++ [(c : Int)]).map V.int := by simp
    repeat' (first
     | (with_reducible refine OL.st ?_)
     | (with_reducible refine TC.region ?_)
     | (with_reducible refine TC.seq ?_)
     | (with_reducible refine OL.nil ?_)
     | (with_reducible refine TX.thenN ?_)
     | (with_reducible refine TC.block ?_)
     | (with_reducible refine TC.skip ?_)
     | (with_reducible refine TC.exit ?_)
     | (with_reducible refine TX.hit ?_)
     | (with_reducible refine TX.thenX ?_)
     | (with_reducible refine TC.ifF ?_)
     | (with_reducible refine OL.gOn ?_)
     | (with_reducible refine OL.gOff ?_)
     | (with_reducible refine OL.gUn ?_)
     | (with_reducible refine TC.ifD ?_ ?_ <;> (intro hc; try (exfalso; omega)))
     | (with_reducible refine OL.gD ?_ ?_ <;> (intro hc; try (exfalso; omega)))
     | (with_reducible refine TC.ret ?_)
     | fail)
    · have hcl : c < ss.length := by omega
      replace hg := hg hcl
      have hlt0 : ((begun.length : Int) - 1).toNat < begun.length := by omega
      have hl := hr begun[((begun.length : Int) - 1).toNat] (List.getElem_mem _)
      have hle := lastI_eq hlt0
      have hlu : (begun[((begun.length : Int) - 1).toNat]).toNat < ss.length := by omega
      have hnx : okNext ss begun (c : Int) = (!begun.contains (c : Int) && hasB ss[(begun[((begun.length : Int) - 1).toNat]).toNat] (c : Int)) := by
        have : (begun.length == 0) = false := by simp; intro e; rw [e] at hc; simp at hc
        rw [okNext, this, ← hle, getD_lt (by omega)]; rfl
      have hh := s_line_set_has ss[(begun[((begun.length : Int) - 1).toNat]).toNat] (hu _ (List.getElem_mem _)) c
      change V.Spec _ _ _ _ (V.bool (hasB _ _)) _ at hh
      have hr' : ∀ x ∈ begun ++ [(c : Int)], 0 ≤ x ∧ x < ss.length := by
        intro x hx
        rcases List.mem_append.1 hx with h | h
        · exact hr x h
        · have : x = (c : Int) := by simpa using h
          omega
      refine OL.c (s_slices_Contains_Lint_int begun c) Fn.slices_Contains_Lint_int ?_
      cases hct : begun.contains (c : Int) <;> rw [hct] at hnx
      · repeat' (first | (with_reducible refine OL.st ?_) | (with_reducible refine OL.gOn ?_) | fail)
        refine OL.c hh Fn.line_set_has ?_
        cases hhb : hasB ss[(begun[((begun.length : Int) - 1).toNat]).toNat] (c : Int) <;> rw [hhb] at hnx
        · repeat' (first
           | (with_reducible refine OL.st ?_)
           | (with_reducible refine TC.region ?_)
           | (with_reducible refine OL.nil ?_)
           | (with_reducible refine TX.thenN ?_)
           | (with_reducible refine TC.exit ?_)
           | (with_reducible refine TX.hit ?_)
           | (with_reducible refine TX.thenX ?_)
           | (with_reducible refine TC.ifT ?_)
           | (with_reducible refine OL.gOn ?_)
           | fail)
          have hok : okNext ss begun (c : Int) = false := hnx
          exact TX.rd (c + 1) [] ⟨by omega, hstep hcl (by rw [hok]; rfl)⟩ (by omega)
        · repeat' (first
           | (with_reducible refine OL.st ?_)
           | (with_reducible refine TC.region ?_)
           | (with_reducible refine TC.seq ?_)
           | (with_reducible refine OL.nil ?_)
           | (with_reducible refine TX.thenN ?_)
           | (with_reducible refine TC.skip ?_)
           | (with_reducible refine TC.ifF ?_)
           | (with_reducible refine OL.gOn ?_)
           | fail)
          have hok : okNext ss begun (c : Int) = true := hnx
          refine OL.c (s_slices_Clone_Lint_int begun (by omega)) Fn.slices_Clone_Lint_int ?_
          repeat' (first
           | (with_reducible refine OL.st ?_)
           | (with_reducible refine OL.lit ?_)
           | (with_reducible refine OL.appO ?_)
           | fail)
          refine OL.vwA 1 ?_
          rw [e1]
          refine OL.c (ih (begun ++ [(c : Int)]) (by simp; omega) hr') Fn.line_rings ?_
          cases hres : ringsF ss f (begun ++ [(c : Int)]) with
          | none =>
            repeat' (first
             | (with_reducible refine OL.st ?_)
             | (with_reducible refine TC.region ?_)
             | (with_reducible refine TC.seq ?_)
             | (with_reducible refine OL.nil ?_)
             | (with_reducible refine TX.thenN ?_)
             | fail)
            refine OL.nilNeq ?_
            repeat' (first
             | (with_reducible refine OL.st ?_)
             | (with_reducible refine TC.region ?_)
             | (with_reducible refine OL.nil ?_)
             | (with_reducible refine TX.thenN ?_)
             | (with_reducible refine TC.skip ?_)
             | (with_reducible refine TX.blkN ?_)
             | (with_reducible refine TC.ifF ?_)
             | fail)
            exact TX.rd (c + 1) [] ⟨by omega, hstep hcl (by rw [hres, ite_self])⟩ (by omega)
          | some l =>
            have hfin : ringsF ss (f + 1) begun = some l := by rw [hinv, drop_cons (by omega), List.findSome?_cons, hg, hok, if_pos rfl, hres]
            have hne := ringsF_ne ss f _ _ (by simp; omega) hres
            repeat' (first
             | (with_reducible refine OL.st ?_)
             | (with_reducible refine TC.region ?_)
             | (with_reducible refine TC.seq ?_)
             | (with_reducible refine OL.nil ?_)
             | (with_reducible refine TX.thenN ?_)
             | fail)
            refine OL.notNil (fun h => absurd (List.map_eq_nil_iff.1 h) hne) ?_
            repeat' (first
             | (with_reducible refine OL.st ?_)
             | (with_reducible refine TC.region ?_)
             | (with_reducible refine TC.seq ?_)
             | (with_reducible refine OL.nil ?_)
             | (with_reducible refine TX.thenN ?_)
             | (with_reducible refine TC.ifT ?_)
             | (with_reducible refine TC.ret ?_)
             | (with_reducible refine TX.thenR ?_)
             | (with_reducible refine TX.blkR ?_)
             | fail)
            rw [hfin]
            exact TX.rt1 [] (.ren rfl)
      · repeat' (first
         | (with_reducible refine OL.st ?_)
         | (with_reducible refine TC.region ?_)
         | (with_reducible refine OL.nil ?_)
         | (with_reducible refine TX.thenN ?_)
         | (with_reducible refine TC.exit ?_)
         | (with_reducible refine TX.hit ?_)
         | (with_reducible refine TX.thenX ?_)
         | (with_reducible refine TC.ifT ?_)
         | (with_reducible refine OL.gOn ?_)
         | (with_reducible refine OL.gOff ?_)
         | fail)
        have hok : okNext ss begun (c : Int) = false := hnx
        exact TX.rd (c + 1) [] ⟨by omega, hstep hcl (by rw [hok]; rfl)⟩ (by omega)
    · have hcl : c < ss.length := by omega
      replace hg := hg hcl
      have hb0 : begun = [] := List.eq_nil_of_length_eq_zero (by omega)
      have hok : okNext ss begun (c : Int) = true := by rw [hb0]; rfl
      have hr' : ∀ x ∈ begun ++ [(c : Int)], 0 ≤ x ∧ x < ss.length := by
        intro x hx
        rw [hb0] at hx
        have : x = (c : Int) := by simpa using hx
        omega
      refine OL.c (s_slices_Clone_Lint_int begun (by omega)) Fn.slices_Clone_Lint_int ?_
      repeat' (first
       | (with_reducible refine OL.st ?_)
       | (with_reducible refine OL.lit ?_)
       | (with_reducible refine OL.appO ?_)
       | fail)
      refine OL.vwA 1 ?_
      rw [e1]
      refine OL.c (ih (begun ++ [(c : Int)]) (by simp; omega) hr') Fn.line_rings ?_
      cases hres : ringsF ss f (begun ++ [(c : Int)]) with
      | none =>
        repeat' (first
         | (with_reducible refine OL.st ?_)
         | (with_reducible refine TC.region ?_)
         | (with_reducible refine TC.seq ?_)
         | (with_reducible refine OL.nil ?_)
         | (with_reducible refine TX.thenN ?_)
         | fail)
        refine OL.nilNeq ?_
        repeat' (first
         | (with_reducible refine OL.st ?_)
         | (with_reducible refine TC.region ?_)
         | (with_reducible refine OL.nil ?_)
         | (with_reducible refine TX.thenN ?_)
         | (with_reducible refine TC.skip ?_)
         | (with_reducible refine TX.blkN ?_)
         | (with_reducible refine TC.ifF ?_)
         | fail)
        exact TX.rd (c + 1) [] ⟨by omega, hstep hcl (by rw [hres, ite_self])⟩ (by omega)
      | some l =>
        have hfin : ringsF ss (f + 1) begun = some l := by rw [hinv, drop_cons (by omega), List.findSome?_cons, hg, hok, if_pos rfl, hres]
        have hne := ringsF_ne ss f _ _ (by simp; omega) hres
        repeat' (first
         | (with_reducible refine OL.st ?_)
         | (with_reducible refine TC.region ?_)
         | (with_reducible refine TC.seq ?_)
         | (with_reducible refine OL.nil ?_)
         | (with_reducible refine TX.thenN ?_)
         | fail)
        refine OL.notNil (fun h => absurd (List.map_eq_nil_iff.1 h) hne) ?_
        repeat' (first
         | (with_reducible refine OL.st ?_)
         | (with_reducible refine TC.region ?_)
         | (with_reducible refine TC.seq ?_)
         | (with_reducible refine OL.nil ?_)
         | (with_reducible refine TX.thenN ?_)
         | (with_reducible refine TC.ifT ?_)
         | (with_reducible refine TC.ret ?_)
         | (with_reducible refine TX.thenR ?_)
         | (with_reducible refine TX.blkR ?_)
         | fail)
        rw [hfin]
        exact TX.rt1 [] (.ren rfl)
    · rw [drop_nil (by omega)] at hinv
      rw [hinv]
      exact TX.rt1 [] (.ren rfl)
end Go.Proofs
/- line's all, of a graph that is read for good. -/
namespace Go.Proofs
open Go Go.W Go.V
abbrev graphP (pss : List (List Int)) (us : List Nat) : AV := .ep [rows pss, sets us, .junk] 0
theorem s_line_graph_all (pss : List (List Int)) (us : List Nat) (p : Int → Bool) (hn : pss.length ≤ 1000) :
    V.Spec Try.prog Fc.line_graph_all [graphP pss us, predI Try.prog (· ∈ upto pss.length) p] [] (ints ((upto pss.length).filter p)) [] := by
  refine V.Spec.enter Try.tabOK Try.mixed Fn.line_graph_all rfl rfl rfl fun B hB => ?_
  repeat' (first
   | (with_reducible refine OL.st ?_)
   | (with_reducible refine TC.region ?_)
   | (with_reducible refine TC.seq ?_)
   | (with_reducible refine OL.nil ?_)
   | (with_reducible refine TX.thenN ?_)
   | (with_reducible refine TC.block ?_)
   | fail)
  refine TC.adp 5 Tc.int 1 ?_
  refine TC.lp (fun k : Nat => [(0, graphP pss us), (1, predI Try.prog (· ∈ upto pss.length) p), (5, .hs 0), (11, V.int pss.length), (12, V.int k)]) (fun k => [.gs false Tc.int 1 none ((upto k).map V.int)]) (fun k => k ≤ pss.length) (fun k => pss.length - k) 0 [0] (Nat.zero_le _) ?_
  rintro k hk
  have hul := upto_length k
  repeat' (first
   | (with_reducible refine OL.st ?_)
   | (with_reducible refine OL.lit ?_)
   | (with_reducible refine OL.appO ?_)
   | (with_reducible refine TC.region ?_)
   | (with_reducible refine TC.seq ?_)
   | (with_reducible refine OL.nil ?_)
   | (with_reducible refine TX.thenN ?_)
   | (with_reducible refine TC.block ?_)
   | (with_reducible refine TC.skip ?_)
   | (with_reducible refine TX.blkN ?_)
   | (with_reducible refine TC.exit ?_)
   | (with_reducible refine TX.hit ?_)
   | (with_reducible refine TX.thenX ?_)
   | (with_reducible refine TC.ifD ?_ ?_ <;> (intro hc; try (exfalso; omega)))
   | fail)
  · have e : (upto k).map V.int ++ [V.int k] = (upto (k + 1)).map V.int := by rw [upto_succ]; simp
    exact TX.rd (k + 1) [2] (by omega) (by omega)
  · obtain rfl : k = pss.length := by omega
    refine OL.vwA 0 ?_
    refine OL.c (s_line_keep_int (upto pss.length) p (by omega)) Fn.line_keep_int ?_
    repeat' (first
     | (with_reducible refine OL.st ?_)
     | (with_reducible refine OL.nil ?_)
     | (with_reducible refine TX.thenN ?_)
     | (with_reducible refine TC.ret ?_)
     | fail)
    refine TX.vw 4 ?_
    exact TX.rt1 [] (.ren rfl)
end Go.Proofs
/- line's Conflict. -/
namespace Go.Proofs
open Go Go.W Go.V
/-- The lists of a class of a formed graph; none: an empty one. -/
def allOf (g : List (List Int)) (c : Nat) : List (List Int) := (listsOf (orders g) (pOf g c)).getD []
def ringN (ss : List Nat) (ns : List Nat) : Option (List Int) := ns.findSome? fun n => ringsF ss n []
def conflAt (g : List (List Int)) (c : Nat) : Option (Int × List Int) :=
  if (at_ (orders g) c).length = 0 then (ringN (aft (3 + g.length) (allOf g c)) ((List.range (4 + g.length)).drop 2)).map fun l => ((c : Int), l) else none
def confl (g : List (List Int)) : Option (Int × List Int) := (List.range (3 + g.length)).findSome? (conflAt g)
def conflR (g : List (List Int)) : Int × List Int × Int := if fine g then (match confl g with | some (c, l) => (c, l, 0) | none => (0, [], 5)) else (0, [], 2)
theorem allOf_mem {g : List (List Int)} {c : Nat} (hf : fine g = true) (hc : c < 3 + g.length) : ∀ l ∈ allOf g c, ∀ x ∈ l, 0 ≤ x ∧ x < 3 + (g.length : Int) := by
  intro l hl x hx
  unfold allOf at hl
  cases h : listsOf (orders g) (pOf g c) with
  | none => rw [h] at hl; simp at hl
  | some all =>
    rw [h, Option.getD_some, listsOf_some h] at hl
    obtain ⟨hok, hol⟩ := orders_ok hf
    obtain ⟨_, hp, _⟩ := fine_pOf hf (c := (c : Int)) (by omega)
    rcases List.mem_append.1 hl with h1 | h1
    · obtain ⟨p, hpm, rfl⟩ := List.mem_map.1 h1
      have h2 := (hok.at p).2 x (mem_without.1 hx).1
      have h3 := hp p hpm
      omega
    · simp at h1
      subst h1
      have := hp x hx
      omega
theorem aftL_length (l : List Int) : ∀ (r : List Int) (ss : List Nat) (i : Nat), (aftL ss l r i).length = ss.length
  | [], _, _ => rfl
  | c :: r, ss, i => by rw [aftL, aftL_length l r]; simp
theorem aftF_length : ∀ (all : List (List Int)) (ss : List Nat), (aftF ss all).length = ss.length
  | [], _ => rfl
  | l :: r, ss => by rw [aftF, aftF_length r, aftL_length]
theorem aft_length (n : Nat) (all : List (List Int)) : (aft n all).length = n := by rw [aft, aftF_length]; simp
theorem aft_lt (n : Nat) (all : List (List Int)) (hr : ∀ l ∈ all, ∀ c ∈ l, 0 ≤ c ∧ c < 64) : ∀ u ∈ aft n all, u < 2 ^ 64 := by
  have k1 : ∀ (l r : List Int) (ss : List Nat) (i : Nat), (∀ c ∈ l, 0 ≤ c ∧ c < 64) → (∀ u ∈ ss, u < 2 ^ 64) → ∀ u ∈ aftL ss l r i, u < 2 ^ 64 := by
    intro l r
    induction r with
    | nil => exact fun ss i _ h => h
    | cons c r ih =>
      intro ss i hl h
      refine ih _ _ hl fun u hu => ?_
      rcases List.mem_or_eq_of_mem_set hu with hu | hu
      · exact h u hu
      · rw [hu]
        refine Nat.or_lt_two_pow ?_ (ofL_lt _ fun c hc => hl c (List.mem_of_mem_drop hc))
        rw [List.getD_eq_getElem?_getD]
        cases hq : ss[c.toNat]? with
        | none => simp
        | some v => exact h v (List.mem_of_getElem? hq)
  have k2 : ∀ (all : List (List Int)) (ss : List Nat), (∀ l ∈ all, ∀ c ∈ l, 0 ≤ c ∧ c < 64) → (∀ u ∈ ss, u < 2 ^ 64) → ∀ u ∈ aftF ss all, u < 2 ^ 64 := by
    intro all
    induction all with
    | nil => exact fun ss _ h => h
    | cons l r ih => exact fun ss hr h => ih _ (fun l' hl' => hr l' (by simp [hl'])) (k1 l l ss 0 (hr l (by simp)) h)
  exact k2 all _ hr (by simp)
theorem s_line_graph_listsG (g : List (List Int)) (c : Nat) (hf : fine g = true) (hc : c < 3 + g.length) :
    V.Spec Try.prog Fc.line_graph_lists [.bp 0 0, V.int c] [graphO (parentsOf g) (ups g) 1, .mo (omap (orders g))] (.tp [rows (allOf g c), V.bool (listsOf (orders g) (pOf g c)).isSome]) [graphO (parentsOf g) (ups g) 1, .mo (omap (orders g))] := by
  have hpl := parentsOf_length g
  have hpe : (parentsOf g)[c]'(by omega) = pOf g c := by
    have := parentsOf_get hc
    rw [List.getElem?_eq_getElem (by omega)] at this
    simpa using this
  obtain ⟨hok, hol⟩ := orders_ok hf
  have h16 := fine_len hf
  obtain ⟨hp3, hp, _⟩ := fine_pOf hf (c := (c : Int)) (by omega)
  have h := s_line_graph_lists (parentsOf g) (ups g) (orders g) c (by omega) (by rw [hpe]; intro p h; have := hp p h; omega) (fun o ho => Nat.le_trans (hok.small (by omega) o ho) (by omega)) (by rw [hpe]; omega)
  rw [hpe] at h
  exact h
set_option maxHeartbeats 2000000 in
theorem s_line_Conflict (g : List (List Int)) : V.Spec Try.prog Fc.line_Conflict [rows g] [] (.tp [V.int (conflR g).1, ints (conflR g).2.1, V.int (conflR g).2.2]) [] := by
  refine V.Spec.enter Try.tabOK Try.mixed Fn.line_Conflict rfl rfl rfl fun B hB => ?_
  have ho := s_line_open g []
  have hoks : oks g [] = fine g := by simp [oks]
  rw [openR, openE, hoks] at ho
  repeat' (first
   | (with_reducible refine OL.st ?_)
   | (with_reducible refine TC.region ?_)
   | (with_reducible refine TC.seq ?_)
   | (with_reducible refine OL.nil ?_)
   | (with_reducible refine TX.thenN ?_)
   | fail)
  cases hok : fine g
  · rw [hok] at ho
    simp only [Bool.false_eq_true, if_false] at ho
    refine OL.c ho Fn.line_open ?_
    repeat' (first
     | (with_reducible refine OL.st ?_)
     | (with_reducible refine TC.region ?_)
     | (with_reducible refine TC.seq ?_)
     | (with_reducible refine OL.nil ?_)
     | (with_reducible refine TX.thenN ?_)
     | (with_reducible refine TC.ifT ?_)
     | (with_reducible refine TC.ret ?_)
     | (with_reducible refine TX.thenR ?_)
     | fail)
    refine TX.rt3 [] (.int ?_) (.nil' ?_) (.int ?_) <;> rw [conflR, hok] <;> rfl
  · rw [hok] at ho
    simp only [if_true] at ho
    refine OL.c ho Fn.line_open ?_
    have h16 := fine_len hok
    have hpl : (parentsOf g).length = 3 + g.length := parentsOf_length g
    repeat' (first
     | (with_reducible refine OL.st ?_)
     | (with_reducible refine TC.region ?_)
     | (with_reducible refine TC.seq ?_)
     | (with_reducible refine OL.nil ?_)
     | (with_reducible refine TX.thenN ?_)
     | (with_reducible refine TC.block ?_)
     | (with_reducible refine TC.skip ?_)
     | (with_reducible refine TC.ifF ?_)
     | fail)
    refine TC.lp (fun c : Nat => [(5, .bp 0 0), (24, V.int (parentsOf g).length), (25, V.int c)]) (fun _ => [graphO (parentsOf g) (ups g) 1, .mo (omap (orders g))])
      (fun c => c ≤ (parentsOf g).length ∧ confl g = ((List.range (3 + g.length)).drop c).findSome? (conflAt g)) (fun c => (parentsOf g).length - c) 0 [0, 1] ⟨Nat.zero_le _, rfl⟩ ?_
    rintro c ⟨hc', hinv⟩
    have hstep : ∀ h : c < 3 + g.length, conflAt g c = none → confl g = ((List.range (3 + g.length)).drop (c + 1)).findSome? (conflAt g) := by
      intro h hn
      rw [hinv, drop_cons (by simpa using h), List.findSome?_cons]
      simp only [List.getElem_range, hn]
    have hfound : ∀ (h : c < 3 + g.length) x, conflAt g c = some x → confl g = some x := by
      intro h x hn
      rw [hinv, drop_cons (by simpa using h), List.findSome?_cons]
      simp only [List.getElem_range, hn]
    repeat' (first
     | (with_reducible refine OL.st ?_)
     | (with_reducible refine TC.region ?_)
     | (with_reducible refine TC.seq ?_)
     | (with_reducible refine OL.nil ?_)
     | (with_reducible refine TX.thenN ?_)
     | (with_reducible refine TC.block ?_)
     | (with_reducible refine TC.skip ?_)
     | (with_reducible refine TC.exit ?_)
     | (with_reducible refine TX.hit ?_)
     | (with_reducible refine TX.thenX ?_)
     | (with_reducible refine TC.ifD ?_ ?_ <;> (intro hc; try (exfalso; omega)))
     | (with_reducible refine TC.ret ?_)
     | fail)
    · refine OL.lookup ?_ (look_omap (orders g) c (by omega))
      repeat' (first
       | (with_reducible refine OL.st ?_)
       | (with_reducible refine TC.region ?_)
       | (with_reducible refine TC.seq ?_)
       | (with_reducible refine OL.nil ?_)
       | (with_reducible refine TX.thenN ?_)
       | (with_reducible refine TC.skip ?_)
       | (with_reducible refine TC.exit ?_)
       | (with_reducible refine TX.hit ?_)
       | (with_reducible refine TX.thenX ?_)
       | (with_reducible refine TC.ifD ?_ ?_ <;> (intro hc; try (exfalso; omega)))
       | fail)
      · refine TX.rd (c + 1) [0, 1] ⟨by omega, hstep (by omega) ?_⟩ (by omega)
        rw [conflAt, if_neg (by omega)]
      · have hclt : c < 3 + g.length := by omega
        refine OL.ch [0, 1] (s_line_graph_listsG g c hok hclt) Fn.line_graph_lists ?_
        repeat' (first
         | (with_reducible refine OL.st ?_)
         | (with_reducible refine TC.region ?_)
         | (with_reducible refine TC.seq ?_)
         | (with_reducible refine OL.nil ?_)
         | (with_reducible refine TX.thenN ?_)
         | fail)
        have haf := s_line_graph_after (parentsOf g) (ups g) (omap (orders g)) (allOf g c) (by omega) (by omega) (fun l hl x hx => by have := allOf_mem hok hclt l hl x hx; omega)
        refine OL.ch [0, 1] haf Fn.line_graph_after ?_
        repeat' (first
         | (with_reducible refine OL.st ?_)
         | (with_reducible refine TC.region ?_)
         | (with_reducible refine TC.seq ?_)
         | (with_reducible refine OL.nil ?_)
         | (with_reducible refine TX.thenN ?_)
         | (with_reducible refine TC.block ?_)
         | fail)
        have hcA : conflAt g c = (ringN (aft (3 + g.length) (allOf g c)) ((List.range (4 + g.length)).drop 2)).map fun l => ((c : Int), l) := by rw [conflAt, if_pos (by omega)]
        have hu64 := aft_lt (parentsOf g).length (allOf g c) (fun l hl x hx => by have := allOf_mem hok hclt l hl x hx; omega)
        have hssl := aft_length (parentsOf g).length (allOf g c)
        rw [← hpl] at hcA
        generalize hss : aft (parentsOf g).length (allOf g c) = ss at *
        refine TC.lp (fun n : Nat => [(5, .bp 0 0), (7, V.int c), (10, sets ss), (11, V.int n), (24, V.int (parentsOf g).length), (25, V.int c)]) (fun _ => [graphO (parentsOf g) (ups g) 1, .mo (omap (orders g))])
          (fun n => 2 ≤ n ∧ ringN ss ((List.range (4 + g.length)).drop 2) = ringN ss ((List.range (4 + g.length)).drop n)) (fun n => 4 + g.length - n) 2 [0, 1] ⟨Nat.le_refl _, rfl⟩ ?_
        rintro n ⟨hn2, hrn⟩
        repeat' (first
         | (with_reducible refine OL.st ?_)
         | (with_reducible refine TC.region ?_)
         | (with_reducible refine TC.seq ?_)
         | (with_reducible refine OL.nil ?_)
         | (with_reducible refine TX.thenN ?_)
         | (with_reducible refine TC.block ?_)
         | (with_reducible refine TC.skip ?_)
         | (with_reducible refine TX.blkN ?_)
         | (with_reducible refine TC.exit ?_)
         | (with_reducible refine TX.hit ?_)
         | (with_reducible refine TX.thenX ?_)
         | (with_reducible refine TC.ifD ?_ ?_ <;> (intro hc; try (exfalso; omega)))
         | fail)
        · have hng : (List.range (4 + g.length))[n]'(by simp; omega) = n := by simp
          have hrs : ringN ss ((List.range (4 + g.length)).drop n) = match ringsF ss n [] with | some l => some l | none => ringN ss ((List.range (4 + g.length)).drop (n + 1)) := by
            rw [ringN, drop_cons (by simp; omega), List.findSome?_cons, hng]; cases ringsF ss n [] <;> rfl
          refine OL.c (s_line_rings ss hu64 (by omega) n (by omega) (by omega) n [] (by simp) (by simp)) Fn.line_rings ?_
          cases hres : ringsF ss n [] with
          | none =>
            rw [hres] at hrs
            repeat' (first
             | (with_reducible refine OL.st ?_)
             | (with_reducible refine TC.region ?_)
             | (with_reducible refine TC.seq ?_)
             | (with_reducible refine OL.nil ?_)
             | (with_reducible refine TX.thenN ?_)
             | fail)
            refine OL.nilNeq ?_
            repeat' (first
             | (with_reducible refine OL.st ?_)
             | (with_reducible refine TC.region ?_)
             | (with_reducible refine OL.nil ?_)
             | (with_reducible refine TX.thenN ?_)
             | (with_reducible refine TC.skip ?_)
             | (with_reducible refine TX.blkN ?_)
             | (with_reducible refine TC.ifF ?_)
             | fail)
            exact TX.rd (n + 1) [0, 1] ⟨by omega, hrn.trans hrs⟩ (by omega)
          | some l =>
            rw [hres] at hrs
            have hne := ringsF_ne ss n _ _ (by simp; omega) hres
            have hcf := hfound hclt ((c : Int), l) (by rw [hcA, hrn, hrs]; rfl)
            repeat' (first
             | (with_reducible refine OL.st ?_)
             | (with_reducible refine TC.region ?_)
             | (with_reducible refine TC.seq ?_)
             | (with_reducible refine OL.nil ?_)
             | (with_reducible refine TX.thenN ?_)
             | fail)
            refine OL.notNil (fun h => absurd (List.map_eq_nil_iff.1 h) hne) ?_
            repeat' (first
             | (with_reducible refine OL.st ?_)
             | (with_reducible refine TC.region ?_)
             | (with_reducible refine TC.seq ?_)
             | (with_reducible refine OL.nil ?_)
             | (with_reducible refine TX.thenN ?_)
             | (with_reducible refine TC.ifT ?_)
             | (with_reducible refine TC.ret ?_)
             | (with_reducible refine TX.thenR ?_)
             | (with_reducible refine TX.blkR ?_)
             | fail)
            rw [conflR, if_pos hok, hcf]
            exact TX.rt3 [] (.ren rfl) (.ren rfl) (.ren rfl)
        · have : ringN ss ((List.range (4 + g.length)).drop 2) = none := by rw [hrn, drop_nil (by simp; omega)]; rfl
          exact TX.rd (c + 1) [0, 1] ⟨by omega, hstep hclt (by rw [hcA, this]; rfl)⟩ (by omega)
    · have hnone : confl g = none := by rw [hinv, drop_nil (by simp; omega)]; rfl
      refine TX.rt3 [] (.int ?_) (.nil' ?_) (.int ?_) <;> rw [conflR, if_pos hok, hnone] <;> rfl
end Go.Proofs
/- line's asked and Least. -/
namespace Go.Proofs
open Go Go.W Go.V
def asks (g : List (List Int)) (l : List Int) : Bool := decide (l.length ≤ 16) && oks g l
theorem s_line_asked (g : List (List Int)) (l : List Int) : V.Spec Try.prog Fc.line_asked [rows g, ints l] [] (if asks g l then .tp [.bp 0 0, V.bool true] else .tp [.raw (.pointer none), V.bool false]) (if asks g l then [graphO (parentsOf g) (ups g) 1, .mo (omap (orders g))] else []) := by
  refine V.Spec.enter Try.tabOK Try.mixed Fn.line_asked rfl rfl rfl fun B hB => ?_
  have ho := s_line_open g l
  rw [openR, openE] at ho
  repeat' (first
   | (with_reducible refine OL.st ?_)
   | (with_reducible refine TC.region ?_)
   | (with_reducible refine TC.seq ?_)
   | (with_reducible refine OL.nil ?_)
   | (with_reducible refine TX.thenN ?_)
   | (with_reducible refine TC.skip ?_)
   | (with_reducible refine TC.ifD ?_ ?_ <;> (intro hc; try (exfalso; omega)))
   | (with_reducible refine TC.ret ?_)
   | (with_reducible refine TX.thenR ?_)
   | fail)
  · have : asks g l = false := by
      have : decide (l.length ≤ 16) = false := by simp; omega
      rw [asks, this]; rfl
    rw [this]
    exact TX.rt2 [] (.ren rfl) (.ren rfl)
  · have : asks g l = oks g l := by
      have : decide (l.length ≤ 16) = true := by simp; omega
      rw [asks, this]; rfl
    rw [this]
    cases hok : oks g l <;> rw [hok] at ho
    · simp only [Bool.false_eq_true, if_false] at ho ⊢
      refine OL.c ho Fn.line_open ?_
      repeat' (first
       | (with_reducible refine OL.st ?_)
       | (with_reducible refine OL.nil ?_)
       | (with_reducible refine TX.thenN ?_)
       | (with_reducible refine TC.ret ?_)
       | fail)
      exact TX.rt2 [] (.ren rfl) (.ren rfl)
    · simp only [if_true] at ho ⊢
      refine OL.c ho Fn.line_open ?_
      repeat' (first
       | (with_reducible refine OL.st ?_)
       | (with_reducible refine OL.nil ?_)
       | (with_reducible refine TX.thenN ?_)
       | (with_reducible refine TC.ret ?_)
       | fail)
      exact TX.rt2 [0, 1] (.ren rfl) (.ren rfl)
def commonOf (g : List (List Int)) (l : List Int) : Nat := l.foldl (fun s c => s &&& (ups g).getD c.toNat 0) (ofL (upto (3 + g.length)))
def comK (g : List (List Int)) (l : List Int) (i : Nat) : Nat := (l.take i).foldl (fun s c => s &&& (ups g).getD c.toNat 0) (ofL (upto (3 + g.length)))
theorem comK_succ {g l i} (h : i < l.length) (hp : l[i].toNat < (ups g).length) : comK g l (i + 1) = comK g l i &&& (ups g)[l[i].toNat] := by
  unfold comK; rw [take_succ h, List.foldl_append, List.foldl_cons, List.foldl_nil, getD_lt hp]
def upHas (g : List (List Int)) (b c : Int) : Bool := hasB ((ups g).getD b.toNat 0) c
def leastP (g : List (List Int)) (s : Nat) (c : Int) : Bool := hasB s c && !((upto (3 + g.length)).filter (hasB s)).any fun b => b != c && upHas g b c
def leastL (g : List (List Int)) (l : List Int) : List Int := if asks g l then (upto (3 + g.length)).filter (leastP g (commonOf g l)) else []
def leastE (g : List (List Int)) (l : List Int) : Int := if asks g l then 0 else 2
theorem upsF_length : ∀ (r : List (List Int)) (us : List Nat), (upsF us r).length = us.length + r.length
  | [], us => by simp [upsF]
  | p :: r, us => by rw [upsF, upsF_length r]; simp; omega
theorem ups_length (g : List (List Int)) : (ups g).length = 3 + g.length := by rw [ups, upsF_length, parentsOf_length]; simp
theorem asks_mem {g : List (List Int)} {l : List Int} (h : asks g l = true) : l.length ≤ 16 ∧ fine g = true ∧ ∀ c ∈ l, 0 ≤ c ∧ c < 3 + (g.length : Int) := by
  simp only [asks, oks, Bool.and_eq_true, decide_eq_true_eq, List.all_eq_true] at h
  exact ⟨h.1, h.2.1, h.2.2⟩
theorem ofL_upto {g : List (List Int)} (hf : fine g = true) : ∀ c ∈ upto (3 + g.length), 0 ≤ c ∧ c < 64 := by
  intro c hc
  have := mem_upto.1 hc
  have := fine_len hf
  omega
theorem and_lt {x y : Nat} (hx : x < 2 ^ 64) : x &&& y < 2 ^ 64 := Nat.lt_of_le_of_lt Nat.and_le_left hx
/-- All sets of a formed graph fit their words. -/
theorem upsF_lt : ∀ (r : List (List Int)) (us : List Nat), us.length + r.length ≤ 64 → (∀ u ∈ us, u < 2 ^ 64) → ∀ u ∈ upsF us r, u < 2 ^ 64
  | [], us, _, h => h
  | p :: r, us, hl, h => by
    rw [upsF]
    refine upsF_lt r _ (by simp at hl ⊢; omega) fun u hu => ?_
    rcases List.mem_append.1 hu with hu | hu
    · exact h u hu
    · rw [List.mem_singleton.1 hu]
      unfold upOf upK
      have key : ∀ (l : List Int) (s : Nat), s < 2 ^ 64 → l.foldl (fun s p => s ||| us.getD p.toNat 0) s < 2 ^ 64 := by
        intro l
        induction l with
        | nil => exact fun s hs => hs
        | cons a l ih =>
          intro s hs
          refine ih _ (Nat.or_lt_two_pow hs ?_)
          rw [List.getD_eq_getElem?_getD]
          cases hq : us[a.toNat]? with
          | none => simp
          | some v => exact h v (List.mem_of_getElem? hq)
      exact key _ _ (setWith_lt (setWith_lt (by decide) (by simp at hl; omega)) (by omega))
theorem ups_lt {g : List (List Int)} (hf : fine g = true) : ∀ u ∈ ups g, u < 2 ^ 64 := upsF_lt _ [] (by have := fine_len hf; rw [parentsOf_length]; simp; omega) (by simp)
theorem comK_lt {g : List (List Int)} (hf : fine g = true) (l : List Int) (i : Nat) : comK g l i < 2 ^ 64 := by
  have key : ∀ (l : List Int) (s : Nat), s < 2 ^ 64 → l.foldl (fun s c => s &&& (ups g).getD c.toNat 0) s < 2 ^ 64 := by
    intro l
    induction l with
    | nil => exact fun s hs => hs
    | cons a l ih => exact fun s hs => ih _ (and_lt hs)
  exact key _ _ (ofL_lt _ (ofL_upto hf))
theorem s_line_Least_1 (c : Int) : V.Spec Try.prog Fc.line_Least_1 [V.int c] [] (V.bool true) [] := by
  refine V.Spec.enter Try.tabOK Try.mixed Fn.line_Least_1 rfl rfl rfl fun B hB => ?_
  repeat' (first
   | (with_reducible refine OL.st ?_)
   | (with_reducible refine TC.region ?_)
   | (with_reducible refine TC.seq ?_)
   | (with_reducible refine OL.nil ?_)
   | (with_reducible refine TX.thenN ?_)
   | (with_reducible refine TC.ret ?_)
   | fail)
  exact TX.rt1 [] (.ren rfl)
theorem s_has (s : Nat) (hs : s < 2 ^ 64) (c : Int) : V.Spec Try.prog Fc.line_set_has [setA s, V.int c] [] (V.bool (hasB s c)) [] := s_line_set_has s hs c
abbrev gP (g : List (List Int)) : AV := graphP (parentsOf g) (ups g)
theorem s_line_Least_2_1 (g : List (List Int)) (hf : fine g = true) (b c : Int) (hb : 0 ≤ b ∧ b < 3 + (g.length : Int)) :
    V.Spec Try.prog Fc.line_Least_2_1 [V.int b, .ep [V.int c] 0, .ep [gP g] 0] [] (V.bool (b != c && upHas g b c)) [] := by
  refine V.Spec.enter Try.tabOK Try.mixed Fn.line_Least_2_1 rfl rfl rfl fun B hB => ?_
  have hul := ups_length g
  have hlt : b.toNat < (ups g).length := by omega
  have hh := s_has (ups g)[b.toNat] (ups_lt hf _ (List.getElem_mem _)) c
  repeat' (first
   | (with_reducible refine OL.st ?_)
   | (with_reducible refine TC.region ?_)
   | (with_reducible refine TC.seq ?_)
   | (with_reducible refine OL.nil ?_)
   | (with_reducible refine TX.thenN ?_)
   | fail)
  (with_reducible refine TC.draw (id := 1) true 15 15 ?_) <;> (with_reducible refine OD.st 0 ?_) <;> (with_reducible refine OD.st 1 ?_) <;> (with_reducible refine OD.st 2 ?_) <;> (with_reducible refine OD.st 3 ?_) <;> (with_reducible refine OD.sD 8 ?_ ?_ <;> (intro hc; try (exfalso; omega)) <;> (first | (with_reducible refine OD.st 4 ?_) | (with_reducible refine OD.of 4 ?_))) <;> (first | (with_reducible refine OD.st 5 ?_) | (with_reducible refine OD.of 5 ?_)) <;> (first | (with_reducible refine OD.st 6 ?_) | (with_reducible refine OD.of 6 ?_)) <;> (first | (with_reducible refine OD.st 7 ?_) | (with_reducible refine OD.of 7 ?_)) <;> (first | (with_reducible refine OD.st 8 ?_) | (with_reducible refine OD.of 8 ?_)) <;> (first | (with_reducible refine OD.st 9 ?_) | (with_reducible refine OD.of 9 ?_)) <;> (first | (with_reducible refine OD.st 10 ?_) | (with_reducible refine OD.of 10 ?_)) <;> (first | (with_reducible refine OD.st 11 ?_) | (with_reducible refine OD.of 11 ?_)) <;> (first | (with_reducible refine OD.c1 12 hh Fn.line_set_has ?_) | (with_reducible refine OD.of 12 ?_)) <;> (with_reducible refine OD.st 13 ?_) <;> (with_reducible refine OD.st 14 ?_) <;> (with_reducible refine OD.dn ?_)
  all_goals repeat' (first | (with_reducible refine TX.thenN ?_) | (with_reducible refine TC.ret ?_) | fail)
  · refine TX.rt1 [] (.bool ?_)
    have : (b != c) = true := by simpa using hc
    rw [this, upHas, getD_lt (by omega)]; rfl
  · refine TX.rt1 [] (.bool ?_)
    have : (b != c) = false := by simpa using hc
    rw [this]; rfl
theorem s_line_Least_2 (g : List (List Int)) (hf : fine g = true) (s : Nat) (hs : s < 2 ^ 64) (c : Int) :
    V.Spec Try.prog Fc.line_Least_2 [V.int c, .ep [V.u64 s] 0, .ep [gP g] 0] [] (V.bool (leastP g s c)) [] := by
  refine V.Spec.enter Try.tabOK Try.mixed Fn.line_Least_2 rfl rfl rfl fun B hB => ?_
  have h16 := fine_len hf
  have hpl := parentsOf_length g
  have hh := s_has s hs c
  have hul := upto_length (parentsOf g).length
  repeat' (first
   | (with_reducible refine OL.st ?_)
   | (with_reducible refine OL.box ?_)
   | (with_reducible refine TC.region ?_)
   | (with_reducible refine TC.seq ?_)
   | (with_reducible refine OL.nil ?_)
   | (with_reducible refine TX.thenN ?_)
   | fail)
  refine OL.frzB 3 ?_
  refine OL.c hh Fn.line_set_has ?_
  cases hb : hasB s c
  · repeat' (first
     | (with_reducible refine OL.st ?_)
     | (with_reducible refine OL.nil ?_)
     | (with_reducible refine TX.thenN ?_)
     | (with_reducible refine OL.gOff ?_)
     | (with_reducible refine TC.ret ?_)
     | fail)
    refine TX.rt1 [] (.bool ?_)
    rw [leastP, hb]; rfl
  · repeat' (first | (with_reducible refine OL.st ?_) | (with_reducible refine OL.gOn ?_) | fail)
    refine OL.c (s_line_graph_all (parentsOf g) (ups g) (hasB s) (by omega)) Fn.line_graph_all ?_ (hle := by exact ⟨.ren rfl, LE.fun_ (first' := [setA s]) (caps' := []) Fn.line_set_has rfl ⟨.ren rfl, trivial⟩ trivial (fun x _ => s_has s hs x), trivial⟩)
    repeat' (first | (with_reducible refine OL.st ?_) | (with_reducible refine OL.gOn ?_) | fail)
    refine OL.c (s_slices_ContainsFunc_Lint_int ((upto (parentsOf g).length).filter (hasB s)) (fun b => b != c && upHas g b c)) Fn.slices_ContainsFunc_Lint_int ?_ (hle := by exact ⟨.ren rfl, LE.fun_ (first' := []) (caps' := [.ep [V.int c] 0, .ep [gP g] 0]) Fn.line_Least_2_1 rfl trivial ⟨.ren rfl, .ren rfl, trivial⟩ (fun x hx => s_line_Least_2_1 g hf x c (by have := mem_upto.1 (List.mem_filter.1 hx).1; omega)), trivial⟩)
    repeat' (first
     | (with_reducible refine OL.st ?_)
     | (with_reducible refine OL.nil ?_)
     | (with_reducible refine TX.thenN ?_)
     | (with_reducible refine OL.gOn ?_)
     | (with_reducible refine TC.ret ?_)
     | fail)
    refine TX.rt1 [] (.bool ?_)
    rw [leastP, hb, hpl]; rfl
set_option maxHeartbeats 1000000 in
theorem s_line_Least (g : List (List Int)) (l : List Int) : V.Spec Try.prog Fc.line_Least [rows g, ints l] [] (.tp [ints (leastL g l), V.int (leastE g l)]) [] := by
  refine V.Spec.enter Try.tabOK Try.mixed Fn.line_Least rfl rfl rfl fun B hB => ?_
  refine TC.bl 1 fun hll => ?_
  have ho := s_line_asked g l
  repeat' (first
   | (with_reducible refine OL.st ?_)
   | (with_reducible refine TC.region ?_)
   | (with_reducible refine TC.seq ?_)
   | (with_reducible refine OL.nil ?_)
   | (with_reducible refine TX.thenN ?_)
   | fail)
  cases hok : asks g l
  · rw [hok] at ho
    simp only [Bool.false_eq_true, if_false] at ho
    refine OL.c ho Fn.line_asked ?_
    repeat' (first
     | (with_reducible refine OL.st ?_)
     | (with_reducible refine OL.alloc ?_)
     | (with_reducible refine OL.store ?_)
     | (with_reducible refine TC.region ?_)
     | (with_reducible refine TC.seq ?_)
     | (with_reducible refine OL.nil ?_)
     | (with_reducible refine TX.thenN ?_)
     | (with_reducible refine TC.ifT ?_)
     | (with_reducible refine TC.ret ?_)
     | (with_reducible refine TX.thenR ?_)
     | fail)
    refine TX.rt2 [] (.nil' ?_) (.int ?_)
    · rw [leastL, hok]; rfl
    · rw [leastE, hok]; rfl
  · rw [hok] at ho
    simp only [if_true] at ho
    obtain ⟨hl16, hf, hlm⟩ := asks_mem hok
    have hpl := parentsOf_length g
    have hul := ups_length g
    have h16 := fine_len hf
    have hall := ofL_lt (upto (3 + g.length)) (ofL_upto hf)
    refine OL.c ho Fn.line_asked ?_
    with_reducible refine OL.st ?_
    with_reducible refine OL.st ?_
    refine OL.frzJ 15 ?_
    repeat' (first
     | (with_reducible refine OL.st ?_)
     | (with_reducible refine OL.alloc ?_)
     | (with_reducible refine OL.store ?_)
     | (with_reducible refine TC.region ?_)
     | (with_reducible refine TC.seq ?_)
     | (with_reducible refine OL.nil ?_)
     | (with_reducible refine TX.thenN ?_)
     | (with_reducible refine TC.skip ?_)
     | (with_reducible refine TC.ifF ?_)
     | fail)
    refine OL.c (s_line_graph_all (parentsOf g) (ups g) (fun _ => true) (by omega)) Fn.line_graph_all ?_ (hle := by exact ⟨.ren rfl, .fun0 Fn.line_Least_1 (fun c _ => s_line_Least_1 c), trivial⟩)
    have hflt : ((upto (parentsOf g).length).filter fun _ => true) = upto (3 + g.length) := by rw [hpl]; simp
    rw [hflt]
    refine OL.c (s_line_of (upto (3 + g.length)) (ofL_upto hf)) Fn.line_of ?_
    repeat' (first
     | (with_reducible refine OL.st ?_)
     | (with_reducible refine OL.alloc ?_)
     | (with_reducible refine OL.storeAgg ?_)
     | (with_reducible refine TC.region ?_)
     | (with_reducible refine TC.seq ?_)
     | (with_reducible refine OL.nil ?_)
     | (with_reducible refine TX.thenN ?_)
     | (with_reducible refine TC.block ?_)
     | fail)
    refine TC.lp (fun i : Nat => [(6, .bp 0 0), (8, .bp 1 0), (22, ints l), (23, V.int l.length), (24, V.int i)]) (fun i => [.cb 71 [gP g], .cb Tc.line_set [V.u64 (comK g l i)]])
      (fun i => i ≤ l.length) (fun i => l.length - i) 0 [2, 3] (Nat.zero_le _) ?_
    rintro i hi
    have hcl : comK g l i < 2 ^ 64 := comK_lt hf l i
    repeat' (first
     | (with_reducible refine OL.st ?_)
     | (with_reducible refine TC.region ?_)
     | (with_reducible refine TC.seq ?_)
     | (with_reducible refine OL.nil ?_)
     | (with_reducible refine TX.thenN ?_)
     | (with_reducible refine TC.block ?_)
     | (with_reducible refine TC.skip ?_)
     | (with_reducible refine TC.exit ?_)
     | (with_reducible refine TX.hit ?_)
     | (with_reducible refine TX.thenX ?_)
     | (with_reducible refine TC.ifD ?_ ?_ <;> (intro hc; try (exfalso; omega)))
     | fail)
    · have hci := hlm l[i] (List.getElem_mem _)
      have hlt : l[i].toNat < (ups g).length := by omega
      have han := s_line_set_and (comK g l i) (ups g)[l[i].toNat] hcl (ups_lt hf _ (List.getElem_mem _))
      rw [← comK_succ (by omega) hlt] at han
      (with_reducible refine TC.draw (id := 8) true 9 10 ?_) <;> (with_reducible refine OD.st 0 ?_) <;> (with_reducible refine OD.st 1 ?_) <;> (with_reducible refine OD.st 2 ?_) <;> (with_reducible refine OD.st 3 ?_) <;> (with_reducible refine OD.st 4 ?_) <;> (with_reducible refine OD.st 5 ?_) <;> (with_reducible refine OD.st 6 ?_) <;> (with_reducible refine OD.st 7 ?_) <;> (with_reducible refine OD.c1 8 han Fn.line_set_and ?_) <;> (with_reducible refine OD.a1 9 ?_; with_reducible refine OL.storeAgg ?_; with_reducible refine OL.nil ?_; with_reducible refine TX.od ?_) <;> (with_reducible refine OD.dn ?_)
      repeat' (first
       | (with_reducible refine OL.st ?_)
       | (with_reducible refine TC.region ?_)
       | (with_reducible refine OL.nil ?_)
       | (with_reducible refine TX.thenN ?_)
       | (with_reducible refine TX.blkN ?_)
       | fail)
      exact TX.rd (i + 1) [0, 1] (by omega) (by omega)
    · have e1 : comK g l i = commonOf g l := by rw [show i = l.length by omega, comK, take_all (by omega)]; rfl
      rw [e1] at hcl ⊢
      refine OL.frzA 0 ?_
      refine OL.frzA 1 ?_
      refine OL.c (s_line_graph_all (parentsOf g) (ups g) (leastP g (commonOf g l)) (by omega)) Fn.line_graph_all ?_ (hle := by exact ⟨.ren rfl, LE.fun_ (first' := []) (caps' := [.ep [V.u64 (commonOf g l)] 0, .ep [gP g] 0]) Fn.line_Least_2 rfl trivial ⟨.ren rfl, .ren rfl, trivial⟩ (fun x _ => s_line_Least_2 g hf (commonOf g l) hcl x), trivial⟩)
      repeat' (first
       | (with_reducible refine OL.st ?_)
       | (with_reducible refine OL.nil ?_)
       | (with_reducible refine TX.thenN ?_)
       | (with_reducible refine TC.ret ?_)
       | fail)
      refine TX.rt2 [] (.sl' ?_) (.int ?_)
      · rw [leastL, if_pos hok, hpl]
      · rw [leastE, if_pos hok]
end Go.Proofs
/- Plain laws on what is above a class. -/
namespace Go.Proofs
open Go Go.W Go.V
theorem foldl_or_bit {α : Type} (f : α → Nat) (b : Nat) : ∀ (l : List α) (s : Nat), (l.foldl (fun s p => s ||| f p) s).testBit b = (s.testBit b || l.any fun p => (f p).testBit b)
  | [], s => by simp
  | p :: r, s => by rw [List.foldl_cons, foldl_or_bit f b r, Nat.testBit_or, List.any_cons, Bool.or_assoc]
theorem setWith_bit (x c b : Nat) : (setWith x c).testBit b = (x.testBit b || decide (c = b)) := by
  rw [setWith, Nat.testBit_or, Nat.one_shiftLeft, Nat.testBit_two_pow]
theorem foldl_congr_mem {α β : Type} {f f' : β → α → β} : ∀ (l : List α) (s : β), (∀ a ∈ l, ∀ s, f s a = f' s a) → l.foldl f s = l.foldl f' s
  | [], _, _ => rfl
  | a :: r, s, h => by rw [List.foldl_cons, List.foldl_cons, h a (by simp), foldl_congr_mem r _ (fun b hb => h b (by simp [hb]))]
theorem upOf_eq (us : List Nat) (ps : List Int) (c : Nat) : upOf us ps c = ps.foldl (fun s p => s ||| us.getD p.toNat 0) (setWith (setWith 0 c) 0) := by rw [upOf, upK, List.take_length]
theorem upsF_pre : ∀ (r : List (List Int)) (us : List Nat) (i : Nat), i < us.length → (upsF us r)[i]? = us[i]?
  | [], _, _, _ => rfl
  | p :: r, us, i, h => by rw [upsF, upsF_pre r _ i (by simp; omega), List.getElem?_append_left h]
theorem upsF_get : ∀ (r : List (List Int)) (us : List Nat) (k : Nat) (ps : List Int), r[k]? = some ps → (∀ p ∈ ps, p.toNat < us.length + k) → (upsF us r)[us.length + k]? = some (upOf (upsF us r) ps (us.length + k))
  | [], us, k, ps, h, _ => by simp at h
  | q :: r, us, 0, ps, h, hp => by
    simp at h; subst h
    have e1 : (us ++ [upOf us q us.length])[us.length]? = some (upOf us q us.length) := by simp
    rw [Nat.add_zero, upsF, upsF_pre r _ us.length (by simp), e1]
    congr 1
    rw [upOf_eq, upOf_eq]
    refine foldl_congr_mem _ _ fun p hpm s => ?_
    have hlt : p.toNat < us.length := by have := hp p hpm; omega
    rw [List.getD_eq_getElem?_getD, List.getD_eq_getElem?_getD, upsF_pre r _ p.toNat (by simp; omega), List.getElem?_append_left hlt]
  | q :: r, us, k + 1, ps, h, hp => by
    have := upsF_get r (us ++ [upOf us q us.length]) k ps (by simpa using h) (fun p hpm => by have := hp p hpm; simp; omega)
    simp only [List.length_append, List.length_cons, List.length_nil, Nat.zero_add] at this
    rw [show us.length + 1 + k = us.length + (k + 1) by omega] at this
    exact this
theorem ups_get {g : List (List Int)} (hf : fine g = true) {c : Nat} (hc : c < 3 + g.length) : (ups g).getD c 0 = upOf (ups g) (pOf g c) c := by
  have h := upsF_get (parentsOf g) [] c (pOf g c) (parentsOf_get hc) (fun p hp => by
    have := (fine_pOf hf (c := (c : Int)) (by omega)).2.1 p hp
    simp; omega)
  rw [List.length_nil, Nat.zero_add] at h
  rw [List.getD_eq_getElem?_getD, ups, h]; rfl
/-- What is above a class: it, 0, and what is above its parents. -/
theorem upHas_step {g : List (List Int)} (hf : fine g = true) {a : Nat} (ha : a < 3 + g.length) {b : Int} (h0 : 0 ≤ b) (h1 : b < 64) : upHas g a b = (decide (b = a) || decide (b = 0) || (pOf g a).any fun p => upHas g p b) := by
  have e : ∀ x : Nat, hasB x b = x.testBit b.toNat := fun x => by simp [hasB, h0, h1]
  have h2 : (pOf g a).any (fun p => upHas g p b) = (pOf g a).any (fun p => ((ups g).getD p.toNat 0).testBit b.toNat) := by
    congr 1; funext p; rw [upHas, e]
  have d1 : decide (b = (a : Int)) = decide (a = b.toNat) := by simp only [decide_eq_decide]; omega
  have d2 : decide (b = 0) = decide (0 = b.toNat) := by simp only [decide_eq_decide]; omega
  rw [h2, upHas, e, Int.toNat_natCast, ups_get hf ha, upOf_eq, foldl_or_bit, setWith_bit, setWith_bit, Nat.zero_testBit, Bool.false_or, d1, d2]
theorem upHas_self {g : List (List Int)} (hf : fine g = true) {a : Nat} (ha : a < 3 + g.length) : upHas g a a = true := by
  have := fine_len hf
  rw [upHas_step hf ha (by omega) (by omega)]; simp
theorem upHas_zero {g : List (List Int)} (hf : fine g = true) {a : Nat} (ha : a < 3 + g.length) : upHas g a 0 = true := by
  rw [upHas_step hf ha (by omega) (by omega)]; simp
theorem upHas_down {g : List (List Int)} (hf : fine g = true) : ∀ (n a : Nat), a < n → a < 3 + g.length → ∀ b : Int, 0 ≤ b → b < 64 → upHas g a b = true → b = 0 ∨ b = a ∨ (3 ≤ b ∧ b < a) := by
  intro n
  induction n with
  | zero => intro a h; omega
  | succ n ih =>
    intro a han ha b h0 h1 h
    rw [upHas_step hf ha h0 h1] at h
    simp only [Bool.or_eq_true, decide_eq_true_eq, List.any_eq_true] at h
    rcases h with (h | h) | ⟨p, hp, h⟩
    · exact .inr (.inl h)
    · exact .inl h
    · have hpp := (fine_pOf hf (c := (a : Int)) (by omega)).2.1 p hp
      obtain ⟨q, rfl⟩ : ∃ q : Nat, p = (q : Int) := ⟨p.toNat, by omega⟩
      rcases ih q (by omega) (by omega) b h0 h1 h with e | e | e
      · exact .inl e
      · right; right; omega
      · right; right; omega
theorem upHas_le {g : List (List Int)} (hf : fine g = true) {a : Nat} (ha : a < 3 + g.length) {b : Int} (h0 : 0 ≤ b) (h1 : b < 64) (h : upHas g a b = true) : b = 0 ∨ b = a ∨ (3 ≤ b ∧ b < a) := upHas_down hf (a + 1) a (by omega) ha b h0 h1 h
/-! ### The reference's marks -/
def markPs (ab : List Bool) (ps : List Int) : List Bool := ps.foldl (fun ab p => ab.set p.toNat true) ab
def markTo (g : List (List Int)) (b : Nat) : Nat → List Bool → List Bool
  | 0, ab => ab
  | c + 1, ab => if b < c + 1 then markTo g b c (if ab.getD (c + 1) false then markPs ab (pOf g ((c + 1 : Nat) : Int)) else ab) else ab
theorem markPs_length : ∀ (ps : List Int) (ab : List Bool), (markPs ab ps).length = ab.length
  | [], _ => rfl
  | p :: r, ab => by rw [markPs, List.foldl_cons]; exact (markPs_length r _).trans (by simp)
theorem getD_set_true (ab : List Bool) (p x : Nat) (hp : p < ab.length) : (ab.set p true).getD x false = (ab.getD x false || decide (x = p)) := by
  rw [List.getD_eq_getElem?_getD, List.getD_eq_getElem?_getD, List.getElem?_set]
  by_cases h : p = x
  · subst h; simp [hp]
  · have : ¬ x = p := fun e => h e.symm
    simp [h, this]
theorem markPs_get : ∀ (ps : List Int) (ab : List Bool) (x : Nat), (∀ p ∈ ps, 0 ≤ p ∧ p.toNat < ab.length) → (markPs ab ps).getD x false = (ab.getD x false || ps.any fun p => p == (x : Int))
  | [], ab, x, _ => by simp [markPs]
  | p :: r, ab, x, h => by
    have hp := h p (by simp)
    have := markPs_get r (ab.set p.toNat true) x (fun q hq => by simpa using h q (by simp [hq]))
    rw [markPs, List.foldl_cons]
    rw [markPs] at this
    rw [this, getD_set_true _ _ _ hp.2, List.any_cons, Bool.or_assoc]
    congr 2
    rw [Bool.eq_iff_iff]; simp; omega
theorem markTo_law {g : List (List Int)} (hf : fine g = true) {b : Nat} (hb : 3 ≤ b) : ∀ (c : Nat) (ab : List Bool), b ≤ c → c < 3 + g.length → c < ab.length →
    ((markTo g b c ab).getD b false = true ↔ ∃ x : Nat, b ≤ x ∧ x ≤ c ∧ ab.getD x false = true ∧ upHas g x b = true) := by
  have h16 := fine_len hf
  intro c
  induction c with
  | zero => intro ab h; omega
  | succ c ih =>
    intro ab hbc hc hl
    simp only [markTo]
    have hps : ∀ p ∈ pOf g ((c + 1 : Nat) : Int), 3 ≤ p ∧ p < ((c + 1 : Nat) : Int) := (fine_pOf hf (c := ((c + 1 : Nat) : Int)) (by omega)).2.1
    by_cases h : b < c + 1
    · rw [if_pos h]
      by_cases hm : ab.getD (c + 1) false = true
      · rw [if_pos hm, ih _ (by omega) (by omega) (by rw [markPs_length]; omega)]
        have hg : ∀ x, (markPs ab (pOf g ((c + 1 : Nat) : Int))).getD x false = (ab.getD x false || (pOf g ((c + 1 : Nat) : Int)).any fun p => p == (x : Int)) := fun x => markPs_get _ _ _ fun p hp => by have := hps p hp; omega
        have hst := upHas_step hf hc (b := (b : Int)) (by omega) (by omega)
        constructor
        · rintro ⟨x, h1, h2, h3, h4⟩
          rw [hg] at h3
          simp only [Bool.or_eq_true, List.any_eq_true, beq_iff_eq] at h3
          rcases h3 with h3 | ⟨p, hp, rfl⟩
          · exact ⟨x, h1, by omega, h3, h4⟩
          · refine ⟨c + 1, by omega, Nat.le_refl _, hm, ?_⟩
            rw [hst]
            simp only [Bool.or_eq_true, List.any_eq_true]
            exact .inr ⟨_, hp, h4⟩
        · rintro ⟨x, h1, h2, h3, h4⟩
          by_cases e : x = c + 1
          · subst e
            rw [hst] at h4
            simp only [Bool.or_eq_true, decide_eq_true_eq, List.any_eq_true] at h4
            rcases h4 with (h4 | h4) | ⟨p, hp, h4⟩
            · omega
            · omega
            · have hpp := hps p hp
              obtain ⟨q, rfl⟩ : ∃ q : Nat, p = (q : Int) := ⟨p.toNat, by omega⟩
              have := upHas_le hf (a := q) (by omega) (b := (b : Int)) (by omega) (by omega) h4
              refine ⟨q, by omega, by omega, ?_, h4⟩
              rw [hg]
              simp only [Bool.or_eq_true, List.any_eq_true, beq_iff_eq]
              exact .inr ⟨_, hp, rfl⟩
          · exact ⟨x, h1, by omega, by rw [hg, h3]; rfl, h4⟩
      · rw [if_neg hm, ih _ (by omega) (by omega) (by omega)]
        constructor
        · rintro ⟨x, h1, h2, h3, h4⟩; exact ⟨x, h1, by omega, h3, h4⟩
        · rintro ⟨x, h1, h2, h3, h4⟩
          have : x ≠ c + 1 := fun e => by subst e; exact hm h3
          exact ⟨x, h1, by omega, h3, h4⟩
    · rw [if_neg h]
      obtain rfl : b = c + 1 := by omega
      constructor
      · intro h1; exact ⟨c + 1, Nat.le_refl _, Nat.le_refl _, h1, upHas_self hf hc⟩
      · rintro ⟨x, h1, h2, h3, _⟩
        obtain rfl : x = c + 1 := by omega
        exact h3
theorem upHas_small {g : List (List Int)} (hf : fine g = true) {a b : Nat} (ha : a < 3 + g.length) (hb : b < 64) (hne : a ≠ b) (hb0 : b ≠ 0) (h : a < 3 ∨ b < 3) : upHas g a b = false := by
  cases hq : upHas g a b with
  | false => rfl
  | true => have := upHas_le hf ha (b := (b : Int)) (by omega) (by omega) hq; omega
end Go.Proofs
/- What the reference says of below and above. -/
namespace Go.Proofs
open Go Go.W Go.V
/-- The classes of which something is so. -/
def clsL (g : List (List Int)) (p : Int → Bool) : List Int := (upto (3 + g.length)).filter p
end Go.Proofs
/- What the reference says of common classes. -/
namespace Go.Proofs
open Go Go.W Go.V
theorem upto_nodup (n : Nat) : (upto n).Nodup := by
  rw [upto]
  exact List.Pairwise.map _ (fun a b (h : a ≠ b) => by show ((a : Nat) : Int) ≠ ((b : Nat) : Int); omega) List.nodup_range
end Go.Proofs
/- line's Spans. -/
namespace Go.Proofs
open Go Go.W Go.V
abbrev spA (p : Int × Int) : AV := .st [V.int p.1, V.int p.2]
abbrev spansA (l : List (Int × Int)) : AV := .sl 2 none (l.map spA)
abbrev spanRows (g : List (List (Int × Int))) : AV := .sl 1 none (g.map spansA)
def spanStep (l : List (Int × Int)) (i : Int) : List (Int × Int) :=
  if 0 < l.length ∧ (l.getD (l.length - 1) (0, 0)).2 = i - 1 then l.set (l.length - 1) ((l.getD (l.length - 1) (0, 0)).1, i) else l ++ [(i, i)]
def spanOf (is : Int → Bool) : List Int → Int → List (Int × Int) → List (Int × Int)
  | [], _, l => l
  | b :: r, i, l => spanOf is r (i + 1) (if is b then spanStep l i else l)
def spansOk (g : List (List Int)) (num : List Int) : Bool := decide (num.length = 3 + g.length) && (oks g num && ofL num == ofL (upto (3 + g.length)))
def spansL (g : List (List Int)) (num : List Int) : List (List (Int × Int)) := if spansOk g num then (upto (3 + g.length)).map fun c => spanOf (fun b => upHas g b c) num 0 [] else []
def spansE (g : List (List Int)) (num : List Int) : Int := if spansOk g num then 0 else 2
theorem s_line_Spans_1 (c : Int) : V.Spec Try.prog Fc.line_Spans_1 [V.int c] [] (V.bool true) [] := by
  refine V.Spec.enter Try.tabOK Try.mixed Fn.line_Spans_1 rfl rfl rfl fun B hB => ?_
  repeat' (first
   | (with_reducible refine OL.st ?_)
   | (with_reducible refine TC.region ?_)
   | (with_reducible refine TC.seq ?_)
   | (with_reducible refine OL.nil ?_)
   | (with_reducible refine TX.thenN ?_)
   | (with_reducible refine TC.ret ?_)
   | fail)
  exact TX.rt1 [] (.ren rfl)
theorem eqGuard82 : Try.prog.eqGuardType Try.prog.depth 82 = false := by kernel_rfl
theorem spanStep_length (l : List (Int × Int)) (i : Int) : (spanStep l i).length ≤ l.length + 1 := by
  unfold spanStep; split <;> simp
set_option maxHeartbeats 2000000 in
theorem s_line_Spans (g : List (List Int)) (num : List Int) (hgl : g.length ≤ 1000000) : V.Spec Try.prog Fc.line_Spans [rows g, ints num] [] (.tp [spanRows (spansL g num), V.int (spansE g num)]) [] := by
  refine V.Spec.enter Try.tabOK Try.mixed Fn.line_Spans rfl rfl rfl fun B hB => ?_
  refine TC.bl 1 fun hnl => ?_
  have ho := s_line_open g num
  rw [openR, openE] at ho
  repeat' (first
   | (with_reducible refine OL.st ?_)
   | (with_reducible refine TC.region ?_)
   | (with_reducible refine TC.seq ?_)
   | (with_reducible refine OL.nil ?_)
   | (with_reducible refine TX.thenN ?_)
   | (with_reducible refine TC.skip ?_)
   | (with_reducible refine TC.ifD ?_ ?_ <;> (intro hc; try (exfalso; omega)))
   | (with_reducible refine TC.ret ?_)
   | (with_reducible refine TX.thenR ?_)
   | fail)
  · have : spansOk g num = false := by
      have : decide (num.length = 3 + g.length) = false := by simp; omega
      rw [spansOk, this]; rfl
    refine TX.rt2 [] (.nil' ?_) (.int ?_)
    · rw [spansL, this]; rfl
    · rw [spansE, this]; rfl
  · have hlen : num.length = 3 + g.length := by omega
    have hd : decide (num.length = 3 + g.length) = true := by simpa using hlen
    cases hok : oks g num
    · rw [hok] at ho
      simp only [Bool.false_eq_true, if_false] at ho
      refine OL.c ho Fn.line_open ?_
      repeat' (first
       | (with_reducible refine OL.st ?_)
       | (with_reducible refine TC.region ?_)
       | (with_reducible refine TC.seq ?_)
       | (with_reducible refine OL.nil ?_)
       | (with_reducible refine TX.thenN ?_)
       | (with_reducible refine TC.ifT ?_)
       | (with_reducible refine OL.gOff ?_)
       | (with_reducible refine TC.ret ?_)
       | (with_reducible refine TX.thenR ?_)
       | fail)
      have : spansOk g num = false := by rw [spansOk, hd, hok]; rfl
      refine TX.rt2 [] (.nil' ?_) (.int ?_)
      · rw [spansL, this]; rfl
      · rw [spansE, this]; rfl
    · rw [hok] at ho
      simp only [if_true] at ho
      have hf : fine g = true := by simp only [oks, Bool.and_eq_true] at hok; exact hok.1
      have hm : ∀ c ∈ num, 0 ≤ c ∧ c < 3 + (g.length : Int) := by
        simp only [oks, Bool.and_eq_true, List.all_eq_true, decide_eq_true_eq] at hok
        exact hok.2
      have h16 := fine_len hf
      have hpl := parentsOf_length g
      have hul := ups_length g
      have h1 := s_line_of num (fun c hc => by have := hm c hc; omega)
      have h2 := s_line_of (upto (3 + g.length)) (ofL_upto hf)
      refine OL.c ho Fn.line_open ?_
      with_reducible refine OL.st ?_
      with_reducible refine OL.st ?_
      refine OL.frzJ 24 ?_
      repeat' (first
       | (with_reducible refine OL.st ?_)
       | (with_reducible refine TC.region ?_)
       | (with_reducible refine TC.seq ?_)
       | (with_reducible refine OL.nil ?_)
       | (with_reducible refine TX.thenN ?_)
       | (with_reducible refine OL.gOn ?_)
       | fail)
      refine OL.c h1 Fn.line_of ?_
      repeat' (first | (with_reducible refine OL.st ?_) | (with_reducible refine OL.gOn ?_) | fail)
      refine OL.c (s_line_graph_all (parentsOf g) (ups g) (fun _ => true) (by omega)) Fn.line_graph_all ?_ (hle := by exact ⟨.ren rfl, .fun0 Fn.line_Spans_1 (fun c _ => s_line_Spans_1 c), trivial⟩)
      have hflt : ((upto (parentsOf g).length).filter fun _ => true) = upto (3 + g.length) := by rw [hpl]; simp
      rw [hflt]
      repeat' (first | (with_reducible refine OL.gOn ?_) | fail)
      refine OL.c h2 Fn.line_of ?_
      repeat' (first | (with_reducible refine OL.gOn ?_) | fail)
      refine OL.neA1 ?_ eqGuard82
      cases heq : (((ofL num : Nat) : Int) == ((ofL (upto (3 + g.length)) : Nat) : Int))
      · repeat' (first
         | (with_reducible refine OL.st ?_)
         | (with_reducible refine TC.region ?_)
         | (with_reducible refine TC.seq ?_)
         | (with_reducible refine OL.nil ?_)
         | (with_reducible refine TX.thenN ?_)
         | (with_reducible refine TC.ifT ?_)
         | (with_reducible refine TC.ret ?_)
         | (with_reducible refine TX.thenR ?_)
         | fail)
        have : spansOk g num = false := by
          have : (ofL num == ofL (upto (3 + g.length))) = false := by
            rw [beq_eq_false_iff_ne]; intro e; rw [e] at heq; simp at heq
          rw [spansOk, hd, hok, this]; rfl
        refine TX.rt2 [] (.nil' ?_) (.int ?_)
        · rw [spansL, this]; rfl
        · rw [spansE, this]; rfl
      · have hso : spansOk g num = true := by
          have : (ofL num == ofL (upto (3 + g.length))) = true := by
            rw [beq_iff_eq]; exact Int.ofNat.inj (by simpa using heq)
          rw [spansOk, hd, hok, this]; rfl
        rw [spansL, spansE, if_pos hso, if_pos hso]
        repeat' (first
         | (with_reducible refine OL.st ?_)
         | (with_reducible refine TC.region ?_)
         | (with_reducible refine TC.seq ?_)
         | (with_reducible refine OL.nil ?_)
         | (with_reducible refine TX.thenN ?_)
         | (with_reducible refine TC.block ?_)
         | (with_reducible refine TC.skip ?_)
         | (with_reducible refine TC.ifF ?_)
         | fail)
        refine TC.adp 8 40 1 ?_
        clear ho h1 h2
        refine TC.lp (fun c : Nat => [(1, ints num), (6, gP g), (8, .hs 0), (40, V.int (parentsOf g).length), (41, V.int c)]) (fun c => [.gs false 40 1 none (((upto c).map fun c => spanOf (fun b => upHas g b c) num 0 []).map spansA)])
          (fun c => c ≤ 3 + g.length) (fun c => 3 + g.length - c) 0 [2] (Nat.zero_le _) ?_
        rintro c hc
        have hcu := upto_length c
        repeat' (first
         | (with_reducible refine OL.st ?_)
         | (with_reducible refine TC.region ?_)
         | (with_reducible refine TC.seq ?_)
         | (with_reducible refine OL.nil ?_)
         | (with_reducible refine TX.thenN ?_)
         | (with_reducible refine TC.block ?_)
         | (with_reducible refine TC.skip ?_)
         | (with_reducible refine TC.exit ?_)
         | (with_reducible refine TX.hit ?_)
         | (with_reducible refine TX.thenX ?_)
         | (with_reducible refine TC.ifD ?_ ?_ <;> (intro hc; try (exfalso; omega)))
         | (with_reducible refine TC.ret ?_)
         | fail)
        · refine TC.adp 10 70 2 ?_
          refine TC.lp (fun s : Nat × List (Int × Int) => [(1, ints num), (6, gP g), (8, .hs 0), (9, V.int c), (10, .hs 1), (40, V.int (parentsOf g).length), (41, V.int c), (44, ints num), (45, V.int num.length), (46, V.int s.1)]) (fun s => [.gs false 40 1 none (((upto c).map fun c => spanOf (fun b => upHas g b c) num 0 []).map spansA), .gs false 70 2 none (s.2.map spA)])
            (fun s => s.1 ≤ num.length ∧ s.2.length ≤ s.1 ∧ spanOf (fun b => upHas g b c) num 0 [] = spanOf (fun b => upHas g b c) (num.drop s.1) s.1 s.2) (fun s => num.length - s.1) (0, []) [0, 1] ⟨Nat.zero_le _, Nat.le_refl _, rfl⟩ ?_
          rintro ⟨i, l⟩ ⟨hi, hll, hinv⟩
          simp only at hi hll hinv ⊢
          by_cases hil : i < num.length
          · have hni := hm num[i] (List.getElem_mem _)
            rw [drop_cons hil, spanOf] at hinv
            have hbl : num[i].toNat < (ups g).length := by omega
            have hh := s_has (ups g)[num[i].toNat] (ups_lt hf _ (List.getElem_mem _)) c
            have hup : upHas g num[i] c = hasB (ups g)[num[i].toNat] c := by rw [upHas, getD_lt hbl]
            rw [← hup] at hh
            repeat' (first
             | (with_reducible refine OL.st ?_)
             | (with_reducible refine TC.region ?_)
             | (with_reducible refine TC.seq ?_)
             | (with_reducible refine OL.nil ?_)
             | (with_reducible refine TX.thenN ?_)
             | (with_reducible refine TC.block ?_)
             | (with_reducible refine TC.skip ?_)
             | (with_reducible refine TC.ifD ?_ ?_ <;> (intro hc; try (exfalso; omega)))
             | fail)
            refine OL.c hh Fn.line_set_has ?_
            cases hu : upHas g num[i] c
            · rw [hu] at hinv
              simp only [Bool.false_eq_true, if_false] at hinv
              repeat' (first
               | (with_reducible refine OL.st ?_)
               | (with_reducible refine TC.region ?_)
               | (with_reducible refine OL.nil ?_)
               | (with_reducible refine TX.thenN ?_)
               | (with_reducible refine TC.exit ?_)
               | (with_reducible refine TX.hit ?_)
               | (with_reducible refine TX.thenX ?_)
               | (with_reducible refine TC.ifT ?_)
               | fail)
              exact TX.rd (i + 1, l) [0, 1] ⟨by omega, Nat.le_trans hll (Nat.le_succ _), by simpa using hinv⟩ (by omega)
            · rw [hu] at hinv
              simp only [if_true] at hinv
              have hsl := spanStep_length l i
              have hnext : num.length - (i + 1) < num.length - i := by omega
              have hlast : ∀ h : ((l.length : Int) - 1).toNat < l.length, l.getD (l.length - 1) (0, 0) = l[((l.length : Int) - 1).toNat] := by
                intro h
                have : ((l.length : Int) - 1).toNat = l.length - 1 := by omega
                rw [List.getD_eq_getElem?_getD, List.getElem?_eq_getElem (by omega)]
                simp only [this, Option.getD_some]
              have eB : ¬(0 < l.length ∧ (l.getD (l.length - 1) (0, 0)).2 = (i : Int) - 1) → l.map spA ++ [spA ((i : Int), (i : Int))] = (spanStep l i).map spA := by
                intro h
                rw [spanStep, if_neg h]; simp
              repeat' (first
               | (with_reducible refine OL.st ?_)
               | (with_reducible refine OL.lit ?_)
               | (with_reducible refine OL.appO ?_)
               | (with_reducible refine OL.build ?_)
               | (with_reducible refine TC.region ?_)
               | (with_reducible refine TC.seq ?_)
               | (with_reducible refine OL.nil ?_)
               | (with_reducible refine TX.thenN ?_)
               | (with_reducible refine TC.skip ?_)
               | (with_reducible refine TX.blkN ?_)
               | (with_reducible refine TC.ifF ?_)
               | (with_reducible refine OL.gOn ?_)
               | (with_reducible refine OL.gOff ?_)
               | (with_reducible refine TC.ifD ?_ ?_ <;> (intro hc; try (exfalso; omega)))
               | (with_reducible refine OL.gD ?_ ?_ <;> (intro hc; try (exfalso; omega)))
               | fail)
              · have hlt : ((l.length : Int) - 1).toNat < l.length := by omega
                have e : (l.map spA).set ((l.length : Int) - 1).toNat (.st [V.int l[((l.length : Int) - 1).toNat].1, V.int i]) = (spanStep l i).map spA := by
                  rw [spanStep, if_pos ⟨by omega, by rw [hlast hlt]; omega⟩, hlast hlt, List.map_set]
                  congr 1
                  omega
                refine OL.storeE (e' := .st [V.int l[((l.length : Int) - 1).toNat].1, V.int i]) ?_
                repeat' (first
                 | (with_reducible refine OL.st ?_)
                 | (with_reducible refine TC.region ?_)
                 | (with_reducible refine OL.nil ?_)
                 | (with_reducible refine TX.thenN ?_)
                 | (with_reducible refine TC.exit ?_)
                 | (with_reducible refine TX.hit ?_)
                 | (with_reducible refine TX.thenX ?_)
                 | fail)
                exact TX.rd (i + 1, spanStep l i) [0, 1] ⟨by omega, Nat.le_trans hsl (by omega), by simpa using hinv⟩ hnext
              · have e := eB (fun h => by
                  have hlt : ((l.length : Int) - 1).toNat < l.length := by omega
                  rw [hlast hlt] at h; omega)
                exact TX.rd (i + 1, spanStep l i) [0, 3] ⟨by omega, Nat.le_trans hsl (by omega), by simpa using hinv⟩ hnext
              · have e := eB (fun h => by omega)
                exact TX.rd (i + 1, spanStep l i) [0, 3] ⟨by omega, Nat.le_trans hsl (by omega), by simpa using hinv⟩ hnext
          · rw [drop_nil (by omega), spanOf] at hinv
            have e : ((upto c).map fun c => spanOf (fun b => upHas g b c) num 0 []).map spansA ++ [spansA l] = ((upto (c + 1)).map fun c => spanOf (fun b => upHas g b c) num 0 []).map spansA := by
              rw [upto_succ, ← hinv]; simp
            repeat' (first
             | (with_reducible refine OL.st ?_)
             | (with_reducible refine OL.litV ?_)
             | (with_reducible refine OL.lit ?_)
             | (with_reducible refine OL.appO ?_)
             | (with_reducible refine TC.region ?_)
             | (with_reducible refine TC.seq ?_)
             | (with_reducible refine OL.nil ?_)
             | (with_reducible refine TX.thenN ?_)
             | (with_reducible refine TX.blkN ?_)
             | (with_reducible refine TC.exit ?_)
             | (with_reducible refine TX.hit ?_)
             | (with_reducible refine TX.thenX ?_)
             | (with_reducible refine TC.ifD ?_ ?_ <;> (intro hc; try (exfalso; omega)))
             | fail)
            exact TX.rd (c + 1) [3] (by omega) (by omega)
        · obtain rfl : c = 3 + g.length := by omega
          refine TX.vw 4 ?_
          exact TX.rt2 [] (.sl' rfl) (.int rfl)
end Go.Proofs
/- Below, above, under, and common classes: the program's and the reference's API. -/
namespace Go.Proofs
open Go Go.W Go.V
theorem oks_cls (g : List (List Int)) (l : List Int) : oks g l = (fine g && l.all (isClass g)) := rfl
theorem isClass_iff {g : List (List Int)} {c : Int} (h : isClass g c = true) : 0 ≤ c ∧ c < 3 + (g.length : Int) := by
  simpa [isClass] using h
/-! ### The reference -/
/-! ### The program -/
theorem ofL_bit (l : List Int) (b : Nat) : (ofL l).testBit b = l.any fun c => decide (c.toNat = b) := by
  show (l.foldl (fun s (c : Int) => s ||| 1 <<< c.toNat) 0).testBit b = _
  rw [foldl_or_bit, Nat.zero_testBit, Bool.false_or]
  congr 1; funext c
  rw [Nat.one_shiftLeft, Nat.testBit_two_pow]
end Go.Proofs
/- Plain laws on what stands ahead of what, and on rings. -/
namespace Go.Proofs
open Go Go.W Go.V
/-! ### Where a number stands -/
def placeI : List Int → Int → Int → Int
  | [], _, _ => -1
  | x :: r, n, k => if x = n then k else placeI r n (k + 1)
theorem placeI_ge : ∀ (l : List Int) (n k : Int), (placeI l n k = -1 ∧ n ∉ l) ∨ (k ≤ placeI l n k ∧ n ∈ l)
  | [], n, k => .inl ⟨rfl, by simp⟩
  | x :: r, n, k => by
    by_cases h : x = n
    · right; subst h; simp [placeI]
    · rw [placeI, if_neg h]
      rcases placeI_ge r n (k + 1) with ⟨a, b⟩ | ⟨a, b⟩
      · left; exact ⟨a, by simp [b, Ne.symm h]⟩
      · right; exact ⟨by omega, by simp [b]⟩
def pairP (l : List Int) (a b k : Int) : Bool := decide (0 ≤ placeI l a k) && decide (placeI l a k < placeI l b k)
def aftP : List Int → Int → Int → Bool
  | [], _, _ => false
  | x :: r, a, b => (x == a && r.contains b) || aftP r a b
theorem aftP_mem : ∀ (l : List Int) (a b : Int), aftP l a b = true → a ∈ l ∧ b ∈ l
  | x :: r, a, b, h => by
    simp only [aftP, Bool.or_eq_true, Bool.and_eq_true, beq_iff_eq, List.contains_iff_mem] at h
    rcases h with ⟨h1, h2⟩ | h
    · exact ⟨by simp [h1], by simp [h2]⟩
    · obtain ⟨h1, h2⟩ := aftP_mem r a b h
      exact ⟨by simp [h1], by simp [h2]⟩
theorem aftP_pair : ∀ (l : List Int) (a b k : Int), l.Nodup → 0 ≤ k → aftP l a b = pairP l a b k
  | [], a, b, k, _, _ => by simp [aftP, pairP, placeI]
  | x :: r, a, b, k, hn, hk => by
    obtain ⟨hx, hn'⟩ := List.nodup_cons.1 hn
    have ih := aftP_pair r a b (k + 1) hn' (by omega)
    have hm := aftP_mem r a b
    rw [aftP, pairP, placeI, placeI]
    by_cases ha : x = a
    · subst ha
      have h0 : aftP r x b = false := by
        cases h : aftP r x b with
        | false => rfl
        | true => exact absurd (hm h).1 hx
      rw [h0, if_pos rfl]
      by_cases hb : x = b
      · subst hb
        simp [hx]
      · rw [if_neg hb]
        rcases placeI_ge r b (k + 1) with ⟨p, q⟩ | ⟨p, q⟩
        · simp [q, p]; omega
        · simp [q]; omega
    · rw [if_neg ha]
      by_cases hb : x = b
      · subst hb
        have h0 : aftP r a x = false := by
          cases h : aftP r a x with
          | false => rfl
          | true => exact absurd (hm h).2 hx
        rw [h0, if_pos rfl]
        rcases placeI_ge r a (k + 1) with ⟨p, q⟩ | ⟨p, q⟩
        · simp [ha, p]
        · have h1 : ¬ placeI r a (k + 1) < k := by omega
          simp [ha, h1]
      · rw [if_neg hb, ih]
        simp [ha, pairP]
theorem any_toNat {r : List Int} (hr : ∀ x ∈ r, 0 ≤ x) (b : Nat) : (r.any fun c => decide (c.toNat = b)) = r.contains (b : Int) := by
  rw [Bool.eq_iff_iff, List.any_eq_true, List.contains_iff_mem]
  constructor
  · rintro ⟨x, hx, he⟩
    have := hr x hx
    have e : x.toNat = b := by simpa using he
    have : x = (b : Int) := by omega
    rw [← this]; exact hx
  · intro h; exact ⟨_, h, by simp⟩
theorem getD_set_nat (ss : List Nat) (i a v : Nat) (hi : i < ss.length) : (ss.set i v).getD a 0 = if i = a then v else ss.getD a 0 := by
  rw [List.getD_eq_getElem?_getD, List.getD_eq_getElem?_getD, List.getElem?_set]
  by_cases h : i = a
  · subst h; simp [hi]
  · simp [h]
theorem aftL_bit (l : List Int) (a b : Nat) : ∀ (r : List Int) (ss : List Nat) (i : Nat), l.drop i = r → (∀ c ∈ r, 0 ≤ c ∧ c < ss.length) → ((aftL ss l r i).getD a 0).testBit b = ((ss.getD a 0).testBit b || aftP r a b)
  | [], ss, i, _, _ => by simp [aftL, aftP]
  | c :: r, ss, i, hd, hr => by
    have hd' : l.drop (i + 1) = r := by
      have : l.drop (i + 1) = (l.drop i).drop 1 := by rw [List.drop_drop]
      rw [this, hd]; rfl
    have hc := hr c (by simp)
    have ih := aftL_bit l a b r (ss.set c.toNat (ss.getD c.toNat 0 ||| ofL (l.drop (i + 1)))) (i + 1) hd' (fun x hx => by have := hr x (by simp [hx]); simpa using this)
    rw [aftL, ih, aftP, getD_set_nat _ _ _ _ (by omega), hd', ← Bool.or_assoc]
    congr 1
    by_cases e : c.toNat = a
    · have e2 : c = (a : Int) := by omega
      rw [if_pos e, e, Nat.testBit_or, ofL_bit, any_toNat (fun x hx => (hr x (by simp [hx])).1)]
      simp [e2]
    · have e2 : (c == (a : Int)) = false := by simp; omega
      rw [if_neg e, e2]; simp
theorem aftF_bit (a b : Nat) : ∀ (all : List (List Int)) (ss : List Nat), (∀ l ∈ all, ∀ c ∈ l, 0 ≤ c ∧ c < ss.length) → ((aftF ss all).getD a 0).testBit b = ((ss.getD a 0).testBit b || all.any fun l => aftP l a b)
  | [], ss, _ => by simp [aftF]
  | l :: r, ss, h => by
    rw [aftF, aftF_bit a b r _ (fun l' hl' c hc => by rw [aftL_length]; exact h l' (by simp [hl']) c hc), aftL_bit l a b l ss 0 rfl (h l (by simp)), List.any_cons, Bool.or_assoc]
/-- Whether one of the lists has a ahead of b. -/
def precB (all : List (List Int)) (a b : Int) : Bool := all.any fun l => pairP l a b 0
theorem aft_prec {N : Nat} {all : List (List Int)} (hr : ∀ l ∈ all, ∀ c ∈ l, 0 ≤ c ∧ c < (N : Int)) (hn : ∀ l ∈ all, l.Nodup) (hN : N ≤ 64) {a b : Int} (ha : 0 ≤ a) (hb : 0 ≤ b ∧ b < N) : hasB ((aft N all).getD a.toNat 0) b = precB all a b := by
  obtain ⟨a, rfl⟩ := Int.eq_ofNat_of_zero_le ha
  obtain ⟨b, rfl⟩ := Int.eq_ofNat_of_zero_le hb.1
  have h1 : decide ((b : Int) < 64) = true := by simp; omega
  have h2 : decide (0 ≤ (b : Int)) = true := by simp
  rw [hasB, h1, h2, Bool.true_and, Bool.true_and, aft, Int.toNat_natCast, Int.toNat_natCast, aftF_bit a b all _ (by simpa using hr)]
  have h0 : ((List.replicate N 0).getD a 0).testBit b = false := by
    rw [List.getD_eq_getElem?_getD, List.getElem?_replicate]; split <;> simp
  rw [h0, Bool.false_or, precB]
  rw [Bool.eq_iff_iff, List.any_eq_true, List.any_eq_true]
  constructor
  · rintro ⟨l, hl, h⟩; exact ⟨l, hl, by rw [← aftP_pair l _ _ 0 (hn l hl) (Int.le_refl _)]; exact h⟩
  · rintro ⟨l, hl, h⟩; exact ⟨l, hl, by rw [aftP_pair l _ _ 0 (hn l hl) (Int.le_refl _)]; exact h⟩
/-! ### The search for rings -/
def nextB (rel : Int → Int → Bool) (b : List Int) (c : Int) : Bool := b.length == 0 || (!b.contains c && rel (lastI b) c)
def srch (rel : Int → Int → Bool) (N : Nat) : Nat → List Int → Option (List Int)
  | 0, b => if rel (lastI b) (b.getD 0 0) then some b else none
  | n + 1, b => ((upto N).drop 3).findSome? fun c => if nextB rel b c then srch rel N n (b ++ [c]) else none
theorem ringsF_srch (ss : List Nat) : ∀ (f : Nat) (b : List Int), ringsF ss f b = srch (fun a b => hasB (ss.getD a.toNat 0) b) ss.length f b
  | 0, b => rfl
  | f + 1, b => by
    rw [ringsF, srch]
    congr 1; funext c
    rw [ringsF_srch ss f]; rfl
theorem lastI_mem {b : List Int} (h : b ≠ []) : lastI b ∈ b := by
  have : 0 < b.length := List.length_pos_iff.2 h
  rw [lastI, getD_lt (by omega)]; exact List.getElem_mem _
theorem mem_drop3 {N : Nat} {c : Int} : c ∈ (upto N).drop 3 ↔ 3 ≤ c ∧ c < N := by
  rw [List.mem_drop_iff_getElem]
  constructor
  · rintro ⟨i, hi, rfl⟩
    rw [upto_length] at hi
    simp [upto]; omega
  · rintro ⟨h1, h2⟩
    refine ⟨c.toNat - 3, by rw [upto_length]; omega, ?_⟩
    simp [upto]; omega
theorem findSome_congr {α β : Type} {f g : α → Option β} : ∀ {l : List α}, (∀ a ∈ l, f a = g a) → l.findSome? f = l.findSome? g
  | [], _ => rfl
  | a :: r, h => by
    rw [List.findSome?_cons, List.findSome?_cons, h a (by simp), findSome_congr fun b hb => h b (by simp [hb])]
theorem srch_congr {rel rel' : Int → Int → Bool} {N : Nat} (h : ∀ a b : Int, 0 ≤ a → a < N → 0 ≤ b → b < N → rel a b = rel' a b) : ∀ (f : Nat) (b : List Int), (∀ x ∈ b, 0 ≤ x ∧ x < (N : Int)) → 0 < f + b.length → srch rel N f b = srch rel' N f b
  | 0, b, hb, hl => by
    have hne : b ≠ [] := by intro e; subst e; simp at hl
    have h1 := hb _ (lastI_mem hne)
    have h0 : 0 < b.length := List.length_pos_iff.2 hne
    have h2 := hb _ (show b.getD 0 0 ∈ b by rw [getD_lt h0]; exact List.getElem_mem _)
    rw [srch, srch, h _ _ h1.1 h1.2 h2.1 h2.2]
  | f + 1, b, hb, hl => by
    rw [srch, srch]
    refine findSome_congr fun c hc => ?_
    have hc' := mem_drop3.1 hc
    have e : nextB rel b c = nextB rel' b c := by
      unfold nextB
      by_cases hne : b = []
      · subst hne; rfl
      · have h1 := hb _ (lastI_mem hne)
        rw [h _ _ h1.1 h1.2 (by omega) hc'.2]
    rw [e, srch_congr h f (b ++ [c]) (fun x hx => by rcases List.mem_append.1 hx with hx | hx; exact hb x hx; simp at hx; omega) (by simp; omega)]
/-- One after the other, each once. -/
def Chain (rel : Int → Int → Bool) (l : List Int) : Prop := l.Nodup ∧ ∀ (i : Nat) (h : i + 1 < l.length), rel l[i] l[i + 1] = true
theorem Chain.nil (rel) : Chain rel [] := ⟨List.nodup_nil, fun i h => by simp at h⟩
theorem lastI_get {b : List Int} (h : 0 < b.length) : lastI b = b[b.length - 1] := by rw [lastI, getD_lt (by omega)]
theorem Chain.snoc {rel} {b : List Int} {c : Int} (h : Chain rel b) (hn : nextB rel b c = true) : Chain rel (b ++ [c]) := by
  simp only [nextB, Bool.or_eq_true, beq_iff_eq, Bool.and_eq_true, Bool.not_eq_true', List.length_eq_zero_iff] at hn
  rcases hn with rfl | ⟨h1, h2⟩
  · exact ⟨by simp, fun i h => by simp at h⟩
  · have hc : c ∉ b := by
      intro hm; rw [← List.contains_iff_mem] at hm; rw [hm] at h1; cases h1
    refine ⟨List.nodup_append.2 ⟨h.1, by simp, fun a ha b' hb' e => ?_⟩, fun i hi => ?_⟩
    · simp at hb'; subst e hb'; exact hc ha
    · simp at hi
      by_cases e : i + 1 < b.length
      · rw [List.getElem_append_left (by omega), List.getElem_append_left e]; exact h.2 i e
      · have e1 : i = b.length - 1 := by omega
        rw [List.getElem_append_left (by omega), List.getElem_append_right (by omega)]
        rw [lastI_get (by omega)] at h2
        simpa [e1] using h2
def Ring (rel : Int → Int → Bool) (N : Nat) (l : List Int) : Prop := Chain rel l ∧ rel (lastI l) (l.getD 0 0) = true ∧ ∀ x ∈ l, 3 ≤ x ∧ x < (N : Int)
theorem srch_sound {rel N} : ∀ (f : Nat) (b l : List Int), srch rel N f b = some l → Chain rel b → (∀ x ∈ b, 3 ≤ x ∧ x < (N : Int)) → Ring rel N l ∧ l.length = b.length + f
  | 0, b, l, h, hc, hb => by
    rw [srch] at h
    split at h
    · cases h; rename_i hr; exact ⟨⟨hc, hr, hb⟩, rfl⟩
    · cases h
  | f + 1, b, l, h, hc, hb => by
    rw [srch] at h
    obtain ⟨c, hcm, h⟩ := List.exists_of_findSome?_eq_some h
    have hc' := mem_drop3.1 hcm
    split at h
    · rename_i hn
      obtain ⟨h1, h2⟩ := srch_sound f (b ++ [c]) l h (hc.snoc hn) (fun x hx => by rcases List.mem_append.1 hx with hx | hx; exact hb x hx; simp at hx; omega)
      exact ⟨h1, by simp at h2; omega⟩
    · cases h
theorem srch_complete {rel N} : ∀ (e b : List Int), Ring rel N (b ++ e) → srch rel N e.length b ≠ none
  | [], b, h => by
    rw [List.append_nil] at h
    rw [List.length_nil, srch, if_pos h.2.1]; simp
  | c :: e, b, h => by
    intro hn
    rw [List.length_cons, srch, List.findSome?_eq_none_iff] at hn
    have hc := h.2.2 c (by simp)
    have h1 := hn c (mem_drop3.2 hc)
    have hnx : nextB rel b c = true := by
      unfold nextB
      by_cases hne : b = []
      · subst hne; rfl
      · have h0 : 0 < b.length := List.length_pos_iff.2 hne
        have hnd := List.nodup_append.1 h.1.1
        have hcb : b.contains c = false := by
          cases hq : b.contains c with
          | false => rfl
          | true => exact absurd rfl (hnd.2.2 c (List.contains_iff_mem.1 hq) c (by simp))
        have hr := h.1.2 (b.length - 1) (by simp; omega)
        rw [List.getElem_append_left (by omega), List.getElem_append_right (by omega)] at hr
        have hz : b.length - 1 + 1 - b.length = 0 := by omega
        simp only [hz, List.getElem_cons_zero] at hr
        rw [hcb, lastI_get h0, hr]; simp
    rw [if_pos hnx] at h1
    exact srch_complete e (b ++ [c]) (by simpa using h) h1
end Go.Proofs
/- Plain laws on rings: a shortest one needs each list once; conflicts. -/
namespace Go.Proofs
open Go Go.W Go.V
theorem pigeon {n m : Nat} (f : Nat → Nat) (hf : ∀ i, i < n → f i < m) (h : m < n) : ∃ i j, i < j ∧ j < n ∧ f i = f j := by
  refine Classical.byContradiction fun hno => ?_
  have hnd : ((List.range n).map fun i => (f i : Int)).Nodup := by
    rw [List.Nodup, List.pairwise_iff_getElem]
    intro i j hi hj hij
    simp only [List.length_map, List.length_range] at hi hj
    simp only [List.getElem_map, List.getElem_range]
    intro e
    exact hno ⟨i, j, hij, hj, by omega⟩
  have := nodup_length m _ hnd (fun x hx => by
    obtain ⟨i, hi, rfl⟩ := List.mem_map.1 hx
    have := hf i (List.mem_range.1 hi)
    omega)
  simp at this; omega
/-- Round a list. -/
def nxt (l : List Int) (i : Nat) : Nat := if i + 1 < l.length then i + 1 else 0
theorem Ring.edge {rel N} {l : List Int} (h : Ring rel N l) {i : Nat} (hi : i < l.length) : rel (l.getD i 0) (l.getD (nxt l i) 0) = true := by
  unfold nxt
  split
  · rename_i h1
    rw [getD_lt hi, getD_lt h1]; exact h.1.2 i h1
  · have e : i = l.length - 1 := by omega
    rw [e]; exact h.2.1
theorem Ring.of {rel : Int → Int → Bool} {N : Nat} {l : List Int} (h0 : 0 < l.length) (hn : l.Nodup) (he : ∀ i, i < l.length → rel (l.getD i 0) (l.getD (nxt l i) 0) = true) (hr : ∀ x ∈ l, 3 ≤ x ∧ x < (N : Int)) : Ring rel N l := by
  refine ⟨⟨hn, fun i h => ?_⟩, ?_, hr⟩
  · have := he i (by omega)
    rwa [nxt, if_pos h, getD_lt (show i < l.length by omega), getD_lt h] at this
  · have := he (l.length - 1) (by omega)
    rwa [nxt, if_neg (by omega)] at this
theorem ring_short {all : List (List Int)} {N : Nat} : ∀ (n : Nat) (l : List Int), l.length ≤ n → Ring (precB all) N l → 2 ≤ l.length → ∃ m, Ring (precB all) N m ∧ 2 ≤ m.length ∧ m.length ≤ all.length := by
  intro n
  induction n with
  | zero => intro l h _ h2; omega
  | succ n ih =>
    intro l hl hr h2
    by_cases hle : l.length ≤ all.length
    · exact ⟨l, hr, h2, hle⟩
    have hedge : ∀ i, i < l.length → ∃ k, ∃ h : k < all.length, pairP all[k] (l.getD i 0) (l.getD (nxt l i) 0) 0 = true := fun i hi => by
      have := hr.edge hi
      rw [precB, List.any_eq_true] at this
      obtain ⟨L, hL, hp⟩ := this
      obtain ⟨k, hk, rfl⟩ := List.mem_iff_getElem.1 hL
      exact ⟨k, hk, hp⟩
    obtain ⟨f, hfe⟩ : ∃ f : Nat → Nat, ∀ i, i < l.length → ∃ h : f i < all.length, pairP all[f i] (l.getD i 0) (l.getD (nxt l i) 0) 0 = true :=
      ⟨fun i => if h : i < l.length then (hedge i h).choose else 0, fun i hi => by simp only [dif_pos hi]; exact (hedge i hi).choose_spec⟩
    obtain ⟨i, j, hij, hj, hfij⟩ := pigeon f (fun i hi => (hfe i hi).1) (show all.length < l.length by omega)
    obtain ⟨hk, pi⟩ := hfe i (by omega)
    obtain ⟨hk', pj⟩ := hfe j hj
    have eL : all[f j] = all[f i] := by simp only [hfij]
    rw [eL] at pj
    generalize hLe : all[f i] = L at pi pj
    have hLm : L ∈ all := by rw [← hLe]; exact List.getElem_mem _
    have hni : nxt l i = i + 1 := by rw [nxt, if_pos (by omega)]
    rw [hni] at pi
    simp only [pairP, Bool.and_eq_true, decide_eq_true_eq] at pi pj
    have hrel : ∀ a b : Int, 0 ≤ placeI L a 0 → placeI L a 0 < placeI L b 0 → precB all a b = true := fun a b h1 h2 => by
      rw [precB, List.any_eq_true]; exact ⟨L, hLm, by simp [pairP, h1, h2]⟩
    by_cases hA : placeI L (l.getD i 0) 0 < placeI L (l.getD (nxt l j) 0) 0
    · have hrij := hrel _ _ pi.1 hA
      obtain ⟨m, hme⟩ : ∃ m, m = l.take (i + 1) ++ l.drop (j + 1) := ⟨_, rfl⟩
      have hml : m.length = i + 1 + (l.length - (j + 1)) := by rw [hme]; simp; omega
      have hm : ∀ t, t < m.length → m.getD t 0 = l.getD (if t ≤ i then t else t - i + j) 0 := fun t ht => by
        rw [List.getD_eq_getElem?_getD, List.getD_eq_getElem?_getD, hme, List.getElem?_append, List.length_take]
        have hmin : min (i + 1) l.length = i + 1 := by omega
        rw [hmin]
        by_cases h : t ≤ i
        · rw [if_pos (by omega), if_pos h, List.getElem?_take, if_pos (by omega)]
        · rw [if_neg (by omega), if_neg h, List.getElem?_drop, show j + 1 + (t - (i + 1)) = t - i + j by omega]
      have hm2 : 2 ≤ m.length := by
        refine Classical.byContradiction fun hc => ?_
        have e1 : i = 0 := by omega
        have e2 : nxt l j = 0 := by rw [nxt, if_neg (by omega)]
        rw [e2, e1] at hA
        omega
      have hsub : m.Sublist l := by
        rw [hme]
        have h1 : (l.drop (j + 1)).Sublist (l.drop (i + 1)) := by
          rw [show l.drop (j + 1) = (l.drop (i + 1)).drop (j - i) by rw [List.drop_drop]; congr 1; omega]
          exact List.drop_sublist _ _
        have h2 := List.Sublist.append (List.Sublist.refl (l.take (i + 1))) h1
        rwa [List.take_append_drop] at h2
      refine ih m (by omega) (Ring.of (by omega) (hsub.nodup hr.1.1) (fun t ht => ?_) (fun x hx => hr.2.2 x (hsub.subset hx))) hm2
      have hnx : nxt m t < m.length := by unfold nxt; split <;> omega
      rw [hm t ht, hm _ hnx]
      by_cases h1 : t + 1 < m.length
      · rw [show nxt m t = t + 1 by rw [nxt, if_pos h1]]
        by_cases h2 : t < i
        · rw [if_pos (by omega), if_pos (by omega)]
          have := hr.edge (i := t) (by omega)
          rwa [nxt, if_pos (by omega)] at this
        · by_cases h3 : t = i
          · subst h3
            rw [if_pos (Nat.le_refl _), if_neg (by omega), show t + 1 - t + j = j + 1 by omega]
            rwa [nxt, if_pos (by omega)] at hrij
          · rw [if_neg (by omega), if_neg (by omega)]
            have := hr.edge (i := t - i + j) (by omega)
            rwa [nxt, if_pos (by omega), show t - i + j + 1 = t + 1 - i + j by omega] at this
      · rw [show nxt m t = 0 by rw [nxt, if_neg h1], if_pos (Nat.zero_le _)]
        by_cases h2 : t ≤ i
        · have e : t = i := by omega
          rw [if_pos h2, e]
          rwa [nxt, if_neg (by omega)] at hrij
        · rw [if_neg h2]
          have := hr.edge (i := t - i + j) (by omega)
          rwa [nxt, if_neg (by omega)] at this
    · have hrji := hrel (l.getD j 0) (l.getD (i + 1) 0) pj.1 (by omega)
      obtain ⟨m, hme⟩ : ∃ m, m = (l.drop (i + 1)).take (j - i) := ⟨_, rfl⟩
      have hml : m.length = j - i := by rw [hme]; simp; omega
      have hm : ∀ t, t < m.length → m.getD t 0 = l.getD (i + 1 + t) 0 := fun t ht => by
        rw [List.getD_eq_getElem?_getD, List.getD_eq_getElem?_getD, hme, List.getElem?_take, if_pos (by omega), List.getElem?_drop]
      have hm2 : 2 ≤ m.length := by
        refine Classical.byContradiction fun hc => ?_
        have e1 : j = i + 1 := by omega
        rw [e1] at pj hA
        omega
      have hsub : m.Sublist l := by rw [hme]; exact (List.take_sublist _ _).trans (List.drop_sublist _ _)
      refine ih m (by omega) (Ring.of (by omega) (hsub.nodup hr.1.1) (fun t ht => ?_) (fun x hx => hr.2.2 x (hsub.subset hx))) hm2
      have hnx : nxt m t < m.length := by unfold nxt; split <;> omega
      rw [hm t ht, hm _ hnx]
      by_cases h1 : t + 1 < m.length
      · rw [show nxt m t = t + 1 by rw [nxt, if_pos h1]]
        have := hr.edge (i := i + 1 + t) (by omega)
        rw [nxt, if_pos (by omega)] at this
        exact this
      · rw [show nxt m t = 0 by rw [nxt, if_neg h1], show i + 1 + t = j by omega, Nat.add_zero]
        exact hrji
/-! ### Conflicts -/
def srN (all : List (List Int)) (N : Nat) (ns : List Nat) : Option (List Int) := ns.findSome? fun n => srch (precB all) N n []
def confAt (g : List (List Int)) (c : Nat) : Option (Int × List Int) := match listsOf (orders g) (pOf g c) with
  | none => none
  | some all => if 0 < (at_ (orders g) c).length then none else (srN all (3 + g.length) ((List.range (all.length + 1)).drop 2)).map fun l => ((c : Int), l)
theorem srch_none_long {all : List (List Int)} {N : Nat} (h : srN all N ((List.range (all.length + 1)).drop 2) = none) (n : Nat) (hn : 2 ≤ n) : srch (precB all) N n [] = none := by
  cases hq : srch (precB all) N n [] with
  | none => rfl
  | some l =>
    obtain ⟨hr, hl⟩ := srch_sound n [] l hq (.nil _) (by simp)
    simp at hl
    obtain ⟨m, hm, hm2, hma⟩ := ring_short l.length l (Nat.le_refl _) hr (by omega)
    have hc := srch_complete m [] hm
    rw [srN, List.findSome?_eq_none_iff] at h
    refine absurd (h m.length ?_) hc
    rw [List.mem_drop_iff_getElem]
    exact ⟨m.length - 2, by simp; omega, by simp; omega⟩
theorem srN_long {all : List (List Int)} {N M : Nat} (hM : all.length ≤ M) (h1 : 1 ≤ all.length) : srN all N ((List.range (M + 1)).drop 2) = srN all N ((List.range (all.length + 1)).drop 2) := by
  obtain ⟨d, rfl⟩ : ∃ d, M = all.length + d := ⟨M - all.length, by omega⟩
  rw [show all.length + d + 1 = (all.length + 1) + d by omega, List.range_add, List.drop_append_of_le_length (by simp; omega)]
  cases h : srN all N ((List.range (all.length + 1)).drop 2) with
  | some l => rw [srN, List.findSome?_append]; rw [srN] at h; rw [h]; rfl
  | none =>
    have := srch_none_long h
    rw [srN, List.findSome?_append]; rw [srN] at h; rw [h, Option.none_or, List.findSome?_eq_none_iff]
    intro n hn
    obtain ⟨x, _, rfl⟩ := List.mem_map.1 hn
    exact this _ (by omega)
theorem allOf_nodup {g : List (List Int)} {c : Nat} (hf : fine g = true) (hc : c < 3 + g.length) : ∀ l ∈ allOf g c, l.Nodup := by
  intro l hl
  unfold allOf at hl
  cases h : listsOf (orders g) (pOf g c) with
  | none => rw [h] at hl; simp at hl
  | some all =>
    rw [h, Option.getD_some, listsOf_some h] at hl
    obtain ⟨hok, hol⟩ := orders_ok hf
    obtain ⟨_, _, hp⟩ := fine_pOf hf (c := (c : Int)) (by omega)
    rcases List.mem_append.1 hl with h1 | h1
    · obtain ⟨p, _, rfl⟩ := List.mem_map.1 h1
      exact ((hok.at p).1).filter _
    · simp at h1; subst h1; exact hp
theorem ringN_srN {g : List (List Int)} {c : Nat} (hf : fine g = true) (hc : c < 3 + g.length) (M : Nat) : ringN (aft (3 + g.length) (allOf g c)) ((List.range M).drop 2) = srN (allOf g c) (3 + g.length) ((List.range M).drop 2) := by
  have h16 := fine_len hf
  refine findSome_congr fun n hn => ?_
  have hn2 : 2 ≤ n := by
    rw [List.mem_drop_iff_getElem] at hn
    obtain ⟨i, hi, rfl⟩ := hn
    simp
  have hal := aft_length (3 + g.length) (allOf g c)
  rw [ringsF_srch, hal]
  refine srch_congr (fun a b h1 h2 h3 h4 => ?_) n [] (by simp) (by simp; omega)
  exact aft_prec (fun l hl x hx => by have := allOf_mem hf hc l hl x hx; omega) (allOf_nodup hf hc) (by omega) h1 ⟨h3, h4⟩
theorem srN_edgeless {all : List (List Int)} {N M : Nat} (h : ∀ a b, precB all a b = false) : srN all N ((List.range M).drop 2) = none := by
  rw [srN, List.findSome?_eq_none_iff]
  intro n hn
  have hn2 : 2 ≤ n := by
    rw [List.mem_drop_iff_getElem] at hn
    obtain ⟨i, hi, rfl⟩ := hn
    simp
  cases hq : srch (precB all) N n [] with
  | none => rfl
  | some l =>
    obtain ⟨hr, hl⟩ := srch_sound n [] l hq (.nil _) (by simp)
    have := hr.edge (i := 0) (by simp at hl; omega)
    rw [h] at this; cases this
theorem conflAt_eq {g : List (List Int)} {c : Nat} (hf : fine g = true) (h3 : 3 ≤ c) (hc : c < 3 + g.length) : conflAt g c = confAt g c := by
  rw [conflAt, ringN_srN hf hc, confAt, allOf]
  cases h : listsOf (orders g) (pOf g c) with
  | none =>
    rw [Option.getD_none, srN_edgeless (fun a b => rfl)]
    split <;> rfl
  | some all =>
    have hp := fine_pOf hf (c := (c : Int)) (by omega)
    have hal : all.length = (pOf g c).length + 1 := by rw [listsOf_some h]; simp
    simp only [Option.getD_some]
    rw [show 4 + g.length = 3 + g.length + 1 by omega, srN_long (by omega) (by omega)]
    by_cases h0 : (at_ (orders g) c).length = 0
    · rw [if_pos h0, if_neg (by omega)]
    · rw [if_neg h0, if_pos (by omega)]
theorem conflAt_low {g : List (List Int)} {c : Nat} (hf : fine g = true) (h3 : c < 3) : conflAt g c = none := by
  have e : allOf g c = [[]] := by rw [allOf, pOf_lt (by omega)]; rfl
  rw [conflAt, ringN_srN hf (by omega), e, srN_edgeless (fun a b => rfl)]
  split <;> rfl
def confR (g : List (List Int)) : Option (Int × List Int) := ((List.range (3 + g.length)).drop 3).findSome? (confAt g)
theorem confl_eq {g : List (List Int)} (hf : fine g = true) : confl g = confR g := by
  have e : List.range (3 + g.length) = [0, 1, 2] ++ (List.range (3 + g.length)).drop 3 := by
    rw [List.range_add]; rfl
  rw [confl, e, List.findSome?_append, confR]
  have h0 : [0, 1, 2].findSome? (conflAt g) = none := by
    rw [List.findSome?_eq_none_iff]
    intro n hn
    simp at hn
    exact conflAt_low hf (by omega)
  rw [h0, Option.none_or]
  refine findSome_congr fun n hn => ?_
  rw [List.mem_drop_iff_getElem] at hn
  obtain ⟨i, hi, rfl⟩ := hn
  simp at hi ⊢
  exact conflAt_eq hf (by omega) (by omega)
end Go.Proofs
/- The reference's rings and conflicts. -/
namespace Go.Proofs
open Go Go.W Go.V
def rgAt (all : List (List Int)) (l : List Int) (i : Nat) : Bool := !(l.take i).contains (l.getD i 0) && precB all (l.getD i 0) (l.getD (nxt l i) 0)
def ringB (all : List (List Int)) (l : List Int) : Bool := decide (2 ≤ l.length) && (List.range l.length).all (rgAt all l)
theorem all_range_succ (p : Nat → Bool) (n : Nat) : (List.range (n + 1)).all p = ((List.range n).all p && p n) := by
  rw [List.range_succ, List.all_append]; simp
theorem nxt_lt {l : List Int} {i : Nat} (h : i < l.length) : nxt l i < l.length := by unfold nxt; split <;> omega
theorem nxt_mod {l : List Int} {i : Nat} (h : i < l.length) : ((i : Int) + 1) % (l.length : Int) = (nxt l i : Nat) := by
  unfold nxt
  split
  · rw [Int.emod_eq_of_lt (by omega) (by omega)]; omega
  · rw [show ((i : Int) + 1) = (l.length : Int) by omega, Int.emod_self]; rfl
end Go.Proofs
/- The laws' small functions. -/
namespace Go.Proofs
open Go Go.W Go.V
def largeR (g : List (List Int)) : Bool := g.any fun l => decide (60 < l.length)
def wideR (g : List (List Int)) : Bool := decide (60 < g.length) || largeR g
theorem s_law03_large (g : List (List Int)) : V.Spec Try.prog Fc.law03_large [rows g] [] (V.bool (largeR g)) [] := by
  refine V.Spec.enter Try.tabOK Try.mixed Fn.law03_large rfl rfl rfl fun B hB => ?_
  refine TC.bl 0 fun hl => ?_
  repeat' (first
   | (with_reducible refine OL.st ?_)
   | (with_reducible refine TC.region ?_)
   | (with_reducible refine TC.seq ?_)
   | (with_reducible refine OL.nil ?_)
   | (with_reducible refine TX.thenN ?_)
   | (with_reducible refine TC.block ?_)
   | fail)
  refine TC.lp (fun i : Nat => [(0, rows g), (3, V.int i)]) (fun _ => []) (fun i => i ≤ g.length ∧ (g.take i).any (fun l => decide (60 < l.length)) = false) (fun i => g.length - i) 0 [] ⟨Nat.zero_le _, rfl⟩ ?_
  rintro i ⟨hi, hinv⟩
  have hnext : ∀ h : i < g.length, (g.take (i + 1)).any (fun l => decide (60 < l.length)) = decide (60 < g[i].length) := by
    intro h
    rw [take_succ h, List.any_append, hinv]; simp
  repeat' (first
   | (with_reducible refine OL.st ?_)
   | (with_reducible refine TC.region ?_)
   | (with_reducible refine TC.seq ?_)
   | (with_reducible refine OL.nil ?_)
   | (with_reducible refine TX.thenN ?_)
   | (with_reducible refine TC.block ?_)
   | (with_reducible refine TC.skip ?_)
   | (with_reducible refine TX.blkN ?_)
   | (with_reducible refine TC.exit ?_)
   | (with_reducible refine TX.hit ?_)
   | (with_reducible refine TX.thenX ?_)
   | (with_reducible refine TC.ifD ?_ ?_ <;> (intro hc; try (exfalso; omega)))
   | (with_reducible refine TC.ret ?_)
   | (with_reducible refine TX.thenR ?_)
   | (with_reducible refine TX.blkR ?_)
   | fail)
  · have : largeR g = true := by
      rw [largeR, List.any_eq_true]
      exact ⟨g[i], List.getElem_mem _, by simp; omega⟩
    rw [this]
    exact TX.rt1 [] (.ren rfl)
  · refine TX.rd (i + 1) [] ⟨by omega, ?_⟩ (by omega)
    rw [hnext (by omega)]
    simp; omega
  · rw [take_all (by omega)] at hinv
    rw [largeR, hinv]
    exact TX.rt1 [] (.ren rfl)
theorem s_law03_wide (g : List (List Int)) : V.Spec Try.prog Fc.law03_wide [rows g] [] (V.bool (wideR g)) [] := by
  refine V.Spec.enter Try.tabOK Try.mixed Fn.law03_wide rfl rfl rfl fun B hB => ?_
  repeat' (first
   | (with_reducible refine OL.st ?_)
   | (with_reducible refine TC.region ?_)
   | (with_reducible refine TC.seq ?_)
   | (with_reducible refine OL.nil ?_)
   | (with_reducible refine TX.thenN ?_)
   | (with_reducible refine OL.gOn ?_)
   | (with_reducible refine OL.gOff ?_)
   | (with_reducible refine OL.gD ?_ ?_ <;> (intro hc; try (exfalso; omega)))
   | (with_reducible refine TC.ret ?_)
   | fail)
  · refine TX.rt1 [] (.bool ?_)
    have : decide (60 < g.length) = true := by simp; omega
    rw [wideR, this]; rfl
  · refine OL.c (s_law03_large g) Fn.law03_large ?_
    repeat' (first
     | (with_reducible refine OL.st ?_)
     | (with_reducible refine OL.nil ?_)
     | (with_reducible refine TX.thenN ?_)
     | (with_reducible refine TC.ret ?_)
     | fail)
    refine TX.rt1 [] (.bool ?_)
    have : decide (60 < g.length) = false := by simp; omega
    rw [wideR, this]; rfl
def small : List (List Int) := [[], [3], [3], [4, 5]]
def twice : List (List Int) := [[], [3], [3], [4, 5], [5, 4], [6, 7]]
theorem s_law03_Small : V.Spec Try.prog Fc.law03_Small [] [] (.hs 0) [.gs false Tc.Lint 1 none [.raw (.slice none 0 0), ints [3], ints [3], ints [4, 5]]] := by
  refine V.Spec.enter Try.tabOK Try.mixed Fn.law03_Small rfl rfl rfl fun B hB => ?_
  repeat' (first
   | (with_reducible refine OL.st ?_)
   | (with_reducible refine OL.lit ?_)
   | (with_reducible refine TC.region ?_)
   | (with_reducible refine TC.seq ?_)
   | (with_reducible refine OL.nil ?_)
   | (with_reducible refine TX.thenN ?_)
   | fail)
  refine OL.vw 1 ?_
  refine OL.vw 2 ?_
  refine OL.vw 3 ?_
  repeat' (first
   | (with_reducible refine OL.st ?_)
   | (with_reducible refine OL.lit ?_)
   | (with_reducible refine OL.nil ?_)
   | (with_reducible refine TX.thenN ?_)
   | (with_reducible refine TC.ret ?_)
   | fail)
  exact TX.rt1 [3] (.ren rfl)
theorem s_law03_Twice : V.Spec Try.prog Fc.law03_Twice [] [] (rows twice) [] := by
  refine V.Spec.enter Try.tabOK Try.mixed Fn.law03_Twice rfl rfl rfl fun B hB => ?_
  repeat' (first
   | (with_reducible refine OL.st ?_)
   | (with_reducible refine TC.region ?_)
   | (with_reducible refine TC.seq ?_)
   | (with_reducible refine OL.nil ?_)
   | (with_reducible refine TX.thenN ?_)
   | fail)
  refine OL.c s_law03_Small Fn.law03_Small ?_
  repeat' (first | (with_reducible refine OL.lit ?_) | fail)
  refine OL.vw 2 ?_
  refine OL.vw 3 ?_
  repeat' (first
   | (with_reducible refine OL.st ?_)
   | (with_reducible refine OL.lit ?_)
   | (with_reducible refine OL.appO ?_)
   | (with_reducible refine OL.nil ?_)
   | (with_reducible refine TX.thenN ?_)
   | (with_reducible refine TC.ret ?_)
   | fail)
  refine TX.vw 0 ?_
  have e : rows twice = .sl 1 none [ints [], ints [3], ints [3], ints [4, 5], ints [5, 4], ints [6, 7]] := rfl
  rw [e]
  exact TX.rt1 [] (LE.sls (xs := [.raw (.slice none 0 0), ints [3], ints [3], ints [4, 5], ints [5, 4], ints [6, 7]]) ⟨.nil (by decide), .ren rfl, .ren rfl, .ren rfl, .ren rfl, .ren rfl, trivial⟩ rfl rfl)
end Go.Proofs
/- line's tree. -/
namespace Go.V
open Go Go.W
theorem LE.seq {τ} {P : Program} {f : Nat} {fn : Func} {caps : List AV} {α : Type} {ar : α → List AV} {L : List α} (hf : P.funcs[f]? = some fn) (hs : ∀ m w vs, VL m w [] vs caps → SeqV P f vs.toArray ar L m w) (hc : caps.all pureA = true := by with_unfolding_all exact rfl)
    (hb : (fn.body.isNone || fn.name == "runtime.NumGoroutine") = false := by with_unfolding_all exact rfl) : LE τ (.fn (.func f) [] caps) (.pr (SeqMP P ar L)) := by
  intro m w γ γ' _ v hr
  cases hr with
  | @fn _ _ fv cv _ _ l1 l2 h1 h2 =>
    obtain rfl : fv = [] := List.length_eq_zero_iff.1 l1
    exact .pr ⟨f, cv.toArray, fn, rfl, hf, hb, hs m w cv (VL.of l2 fun j v c a b => pureA_rep (h2 j v c a b) (List.all_eq_true.1 hc c (List.mem_of_getElem? b)))⟩
section
variable {C : Cx} {Q : Qt} {ρ ρ2 : Ro} {η η2 : Eta} {e : Exit}
theorem TX.frzA {E : Nat} {cs : List AV} (i : Nat) (k : TX C Q e ρ2 η2) (ho : η[i]? = some (.cb E cs) := by with_unfolding_all exact rfl) (hp : cs.all pureA = true := by with_unfolding_all exact rfl) (hρ : sbr i cs ρ = ρ2 := by (try dsimp only [sbr, sbp, sb0, List.map, Nat.beq, Nat.add_zero, Nat.zero_add, Nat.reduceAdd, cond_true, cond_false]) <;> exact rfl) (hη : η.set i .dead = η2 := by (try dsimp only [List.set]) <;> exact rfl) : TX C Q e ρ η := by
  subst hρ hη; exact TX.wk (Wk.frzA ho hp) k
end
theorem At.mono {P : Program} {α : Type} {ar : α → List AV} {L : List α} {I : It P ar L} {K K' : (Nat → Nat) → World → Prop} {ds B} (h : At I K ds B) (hk : ∀ m w, K m w → K' m w) (hs : ∀ m w m' w', K' m w → StepOK I.W.heap.size m w m' w' → K' m' w') : At I K' ds B :=
  ⟨h.ext, h.noS, h.noγ, hs, hk _ _ h.holds, h.marks, h.nodup⟩
end Go.V
namespace Go.Proofs
open Go Go.W Go.V
abbrev oneI : Int → List AV := fun x => [V.int x]
abbrev treeC (pss : List (List Int)) (us : List Nat) (c : Int) : List AV := [.ep [V.int c] 0, .ep [graphP pss us] 0]
theorem s_line_graph_tree (pss : List (List Int)) (us : List Nat) (c : Int) (L : List Int) (hs : ∀ m w vs, VL m w [] vs (treeC pss us c) → SeqV Try.prog Fc.line_graph_tree_1 vs.toArray oneI L m w) : V.Spec Try.prog Fc.line_graph_tree [graphP pss us, V.int c] [] (.pr (SeqMP Try.prog oneI L)) [] := by
  refine V.Spec.enter Try.tabOK Try.mixed Fn.line_graph_tree rfl rfl rfl fun B hB => ?_
  repeat' (first
   | (with_reducible refine OL.st ?_)
   | (with_reducible refine OL.box ?_)
   | (with_reducible refine TC.region ?_)
   | (with_reducible refine TC.seq ?_)
   | (with_reducible refine OL.nil ?_)
   | (with_reducible refine TX.thenN ?_)
   | (with_reducible refine TC.ret ?_)
   | fail)
  refine TX.frzA 0 ?_
  refine TX.frzA 1 ?_
  exact TX.rt1 [] (LE.seq Fn.line_graph_tree_1 hs)
def segT (pss : List (List Int)) (Br : Nat → List Int) (c : Int) (N : Nat) : List Int := ((List.range N).drop 1).flatMap fun a => if stemOf pss a = c then Br a else []
theorem segT_succ (pss : List (List Int)) (Br : Nat → List Int) (c : Int) {a : Nat} (h : 1 ≤ a) : segT pss Br c (a + 1) = segT pss Br c a ++ (if stemOf pss a = c then Br a else []) := by
  unfold segT
  rw [List.range_succ, List.drop_append_of_le_length (by simp; omega), List.flatMap_append]; simp
theorem segT_split (pss : List (List Int)) (Br : Nat → List Int) (c : Int) {a : Nat} (h : 1 ≤ a) : ∀ N : Nat, a < N → ∃ r, segT pss Br c N = segT pss Br c a ++ ((if stemOf pss a = c then Br a else []) ++ r)
  | 0, hN => by omega
  | N + 1, hN => by
    rw [segT_succ pss Br c (show 1 ≤ N by omega)]
    by_cases e : a = N
    · subst e; exact ⟨[], by simp⟩
    · obtain ⟨r, hr⟩ := segT_split pss Br c h N (by omega)
      exact ⟨r ++ (if stemOf pss N = c then Br N else []), by rw [hr]; simp only [List.append_assoc]⟩
structure TrS where
  a : Nat
  ds : List Nat
  B : Base
  hB : B.γ.length = 0
theorem s_line_graph_tree_1 (pss : List (List Int)) (us : List Nat) (hn : pss.length ≤ 1000) (hn1 : 1 ≤ pss.length) (c : Int) (Br : Nat → List Int)
    (hBr : ∀ a : Nat, 1 ≤ a → a < pss.length → stemOf pss a = c → V.Spec Try.prog Fc.line_graph_tree [graphP pss us, V.int a] [] (.pr (SeqMP Try.prog oneI (Br a))) []) (m : Nat → Nat) (w : World) (vs : List Value) (hv : VL m w [] vs (treeC pss us c)) :
    SeqV Try.prog Fc.line_graph_tree_1 vs.toArray oneI (c :: segT pss Br c pss.length) m w := by
  refine SeqV.enter hv Try.tabOK Try.mixed Fn.line_graph_tree_1 rfl rfl rfl fun I B hB hA => ?_
  repeat' (first
   | (with_reducible refine OL.st ?_)
   | (with_reducible refine OL.box ?_)
   | (with_reducible refine TC.region ?_)
   | (with_reducible refine TC.seq ?_)
   | (with_reducible refine OL.nil ?_)
   | (with_reducible refine TX.thenN ?_)
   | fail)
  refine OL.frzA 0 ?_
  refine OL.yield (pre := []) (y := c) hA ⟨_, rfl⟩ (fun B1 hB1 hA1 _ _ => ?_) (fun B1 hB1 hA1 _ _ => ?_)
  rotate_left
  · repeat' (first
     | (with_reducible refine OL.st ?_)
     | (with_reducible refine OL.nil ?_)
     | (with_reducible refine TC.ifT ?_)
     | (with_reducible refine TC.ret ?_)
     | (with_reducible refine TX.thenR ?_)
     | (with_reducible refine TX.thenW ?_)
     | fail)
    exact TX.rtIt (ds := []) hA1 (fun m w h => .inr ⟨[c], h⟩)
  repeat' (first
   | (with_reducible refine OL.st ?_)
   | (with_reducible refine TC.region ?_)
   | (with_reducible refine TC.seq ?_)
   | (with_reducible refine OL.nil ?_)
   | (with_reducible refine TX.thenN ?_)
   | (with_reducible refine TC.block ?_)
   | (with_reducible refine TC.skip ?_)
   | (with_reducible refine TC.ifF ?_)
   | (with_reducible refine TX.thenW ?_)
   | fail)
  refine TC.loopC (S := TrS) (fun s => ⟨Try.prog, Try.tab, Try.tabOK, Try.mixed, 45, s.ds.map markD, s.B, 0, s.hB, some none, 0⟩) (fun s => [(1, .ep [V.int c] 0), (2, .ep [graphP pss us] 0), (3, .ep [.raw (.func (.yield I.l) #[] #[])] 0), (4, V.int s.a)]) (fun _ => [.dead])
    (fun s => (1 ≤ s.a ∧ s.a ≤ pss.length) ∧ At I (I.J (c :: segT pss Br c s.a)) s.ds s.B) (fun s => pss.length - s.a) ⟨1, [], B1, hB1⟩ ⟨⟨Nat.le_refl _, hn1⟩, hA1⟩ rfl (fun _ _ => rfl) [0] rfl rfl ?_ ?_ ?_
  · with_unfolding_all exact ⟨⟨_, rfl, OE.ren rfl⟩, trivial⟩
  · repeat' (first | with_unfolding_all exact trivial | exact LE.ren (by with_unfolding_all exact rfl) | with_unfolding_all refine And.intro ⟨_, by with_unfolding_all exact rfl, ?_⟩ ?_)
  rintro ⟨a, ds, B2, hB2⟩ ⟨⟨ha1, han⟩, hA2⟩
  dsimp only at ha1 han hA2 ⊢
  have hst : ∀ (h : a < pss.length) (h0 : 0 < pss[a].length), stemOf pss a = pss[a][0] := fun h h0 => by
    rw [stemOf, getD_lt h, List.headD_eq_head?_getD, List.head?_eq_getElem?, List.getElem?_eq_getElem h0]; rfl
  have hst0 : ∀ (h : a < pss.length), pss[a].length = 0 → stemOf pss a = 0 := fun h h0 => by
    rw [stemOf, getD_lt h, List.length_eq_zero_iff.1 h0]; rfl
  have hskip : stemOf pss a ≠ c → segT pss Br c (a + 1) = segT pss Br c a := fun h => by rw [segT_succ _ _ _ ha1, if_neg h, List.append_nil]
  have htake : stemOf pss a = c → c :: segT pss Br c (a + 1) = (c :: segT pss Br c a) ++ Br a := fun h => by rw [segT_succ _ _ _ ha1, if_pos h]; rfl
  have hpre : ∀ (h : a < pss.length), stemOf pss a = c → ∀ pre' x, (∃ r, pre' ++ x :: r = Br a) → ∃ r, ((c :: segT pss Br c a) ++ pre') ++ x :: r = c :: segT pss Br c pss.length := fun h hc pre' x ⟨r, hr⟩ => by
    obtain ⟨r2, hr2⟩ := segT_split pss Br c ha1 pss.length h
    rw [if_pos hc, ← hr] at hr2
    exact ⟨r ++ r2, by rw [hr2]; simp⟩
  repeat' (first
   | (with_reducible refine OL.st ?_)
   | (with_reducible refine TC.region ?_)
   | (with_reducible refine TC.seq ?_)
   | (with_reducible refine OL.nil ?_)
   | (with_reducible refine TX.thenN ?_)
   | (with_reducible refine TC.block ?_)
   | (with_reducible refine TC.skip ?_)
   | (with_reducible refine TC.exit ?_)
   | (with_reducible refine TX.hit ?_)
   | (with_reducible refine TX.thenX ?_)
   | (with_reducible refine TC.ifD ?_ ?_ <;> (intro hc; try (exfalso; omega)))
   | fail)
  · have h0 : 0 < pss[a].length := by omega
    have e := hskip (by rw [hst (by omega) h0]; assumption)
    exact TX.rdC ⟨a + 1, ds, B2, hB2⟩ [0] ⟨⟨by dsimp only; omega, by dsimp only; omega⟩, by dsimp only; rw [e]; exact hA2⟩ (by dsimp only; omega)
  rotate_left
  · have e := hskip (by rw [hst0 (by omega) (by omega)]; assumption)
    exact TX.rdC ⟨a + 1, ds, B2, hB2⟩ [0] ⟨⟨by dsimp only; omega, by dsimp only; omega⟩, by dsimp only; rw [e]; exact hA2⟩ (by dsimp only; omega)
  rotate_left
  · obtain rfl : a = pss.length := by omega
    refine TX.endM ?_
    exact TX.rtIt (ds := ds) hA2 (fun m w h => .inl h)
  all_goals
    have hs : stemOf pss a = c := by
      first
      | (rw [hst (by omega) (by omega)]; omega)
      | (rw [hst0 (by omega) (by omega)]; omega)
    refine OL.c (hBr a ha1 (by omega) hs) Fn.line_graph_tree ?_
    repeat' (first
     | (with_reducible refine OL.nil ?_)
     | (with_reducible refine TX.thenN ?_)
     | (with_reducible refine TC.block ?_)
     | fail)
    refine TC.rfI (u := V.int) (pre := c :: segT pss Br c a) id rfl hA2 (fun pre' x B3 hB3 l hA3 hx => ?_) (fun B3 hB3 D hA3 => ?_) (fun B3 hB3 D hA3 => ?_)
    · repeat' (first
       | (with_reducible refine OL.st ?_)
       | (with_reducible refine TC.region ?_)
       | (with_reducible refine TC.seq ?_)
       | (with_reducible refine TC.block ?_)
       | fail)
      refine OL.yield (pre := (c :: segT pss Br c a) ++ pre') (y := x) hA3 (hpre (by omega) hs pre' x hx) (fun B4 hB4 hA4 he4 hk4 => ?_) (fun B4 hB4 hA4 he4 hk4 => ?_)
      · repeat' (first
         | (with_reducible refine OL.st ?_)
         | (with_reducible refine OL.nil ?_)
         | (with_reducible refine TC.skip ?_)
         | (with_reducible refine TX.blkN ?_)
         | (with_reducible refine TC.ifF ?_)
         | (with_reducible refine TX.thenW ?_)
         | fail)
        exact TX.rqiN (by simpa using hA4) he4 hk4
      · repeat' (first
         | (with_reducible refine OL.st ?_)
         | (with_reducible refine OL.nil ?_)
         | (with_reducible refine TC.ifT ?_)
         | (with_reducible refine TC.ret ?_)
         | (with_reducible refine TX.blkR ?_)
         | (with_reducible refine TX.thenW ?_)
         | fail)
        exact TX.rqiR (hA4.mono (fun m w h => ⟨_, h⟩) (fun m w m' w' ⟨p, h⟩ hs => ⟨p, I.sJx p m w m' w' h hs⟩)) he4 hk4
    · repeat' (first
       | (with_reducible refine OL.st ?_)
       | (with_reducible refine TC.region ?_)
       | (with_reducible refine OL.nil ?_)
       | (with_reducible refine TX.blkN ?_)
       | (with_reducible refine TX.thenW ?_)
       | fail)
      exact TX.rdC ⟨a + 1, D :: ds, B3, hB3⟩ [0] ⟨⟨by dsimp only; omega, by dsimp only; omega⟩, by dsimp only; rw [htake hs]; exact hA3⟩ (by dsimp only; omega)
    · repeat' (first | (with_reducible refine TX.thenR ?_) | (with_reducible refine TX.blkR ?_) | fail)
      exact TX.rtIt (ds := D :: ds) hA3 (fun m w h => .inr h)
end Go.Proofs
/- line's Number. -/
namespace Go.Proofs
open Go Go.W Go.V
theorem s_tree {g : List (List Int)} (hf : fine g = true) : ∀ (n c : Nat), 3 + g.length ≤ c + n + 1 → c < 3 + g.length → V.Spec Try.prog Fc.line_graph_tree [graphP (parentsOf g) (ups g), V.int c] [] (.pr (SeqMP Try.prog oneI (treeF (parentsOf g) n c))) [] := by
  have h16 := fine_len hf
  have hpl := parentsOf_length g
  intro n
  induction n with
  | zero =>
    intro c h1 h2
    have e : treeF (parentsOf g) 0 (c : Int) = (c : Int) :: segT (parentsOf g) (fun _ => []) c (parentsOf g).length := by simp [treeF, segT]
    rw [e]
    refine s_line_graph_tree _ _ _ _ (s_line_graph_tree_1 _ _ (by omega) (by omega) c _ fun a ha hl hst => ?_)
    have := stem_lt hf ha (by omega)
    omega
  | succ n ih =>
    intro c h1 h2
    refine s_line_graph_tree _ _ _ _ (s_line_graph_tree_1 _ _ (by omega) (by omega) c (fun a => treeF (parentsOf g) n a) fun a ha hl hst => ?_)
    have := stem_lt hf ha (by omega)
    exact ih a (by omega) (by omega)
theorem segT_nil (pss : List (List Int)) (Br : Nat → List Int) (c N : Nat) (hst : ∀ a : Nat, 1 ≤ a → a < N → stemOf pss a < a) : ∀ k, k ≤ c + 1 → k ≤ N → segT pss Br c k = []
  | 0, _, _ => rfl
  | 1, _, _ => rfl
  | k + 2, h, hN => by
    have := hst (k + 1) (by omega) (by omega)
    rw [segT_succ pss Br c (show 1 ≤ k + 1 by omega), segT_nil pss Br c N hst (k + 1) (by omega) (by omega), if_neg (by omega)]; rfl
theorem segT_len (pss : List (List Int)) (Br : Nat → List Int) (c N : Nat) (hst : ∀ a : Nat, 1 ≤ a → a < N → stemOf pss a < a) (hB : ∀ a, c < a → a < N → (Br a).length ≤ 2 ^ (N - 1 - a)) (hc : c < N) : ∀ d, c + 1 + d ≤ N → (segT pss Br c (c + 1 + d)).length + 2 ^ (N - (c + 1 + d)) ≤ 2 ^ (N - 1 - c)
  | 0, h => by
    rw [segT_nil pss Br c N hst _ (by omega) h, show N - (c + 1 + 0) = N - 1 - c by omega]; simp
  | d + 1, h => by
    have ih := segT_len pss Br c N hst hB hc d (by omega)
    have e : N - (c + 1 + d) = (N - (c + 1 + (d + 1))) + 1 := by omega
    rw [e, Nat.pow_succ] at ih
    rw [show c + 1 + (d + 1) = (c + 1 + d) + 1 by omega, segT_succ pss Br c (show 1 ≤ c + 1 + d by omega), List.length_append, show N - (c + 1 + d + 1) = N - (c + 1 + (d + 1)) by omega]
    split
    · have := hB (c + 1 + d) (by omega) (by omega)
      rw [show N - 1 - (c + 1 + d) = N - (c + 1 + (d + 1)) by omega] at this
      omega
    · simp; omega
theorem treeF_len (pss : List (List Int)) (hst : ∀ a : Nat, 1 ≤ a → a < pss.length → stemOf pss a < a) : ∀ (n c : Nat), c < pss.length → (treeF pss n c).length ≤ 2 ^ (pss.length - 1 - c)
  | 0, c, _ => by
    have := Nat.one_le_two_pow (n := pss.length - 1 - c)
    simpa [treeF] using this
  | n + 1, c, hc => by
    have h := segT_len pss (fun a => treeF pss n a) c pss.length hst (fun a _ ha => treeF_len pss hst n a ha) hc (pss.length - (c + 1)) (by omega)
    rw [show c + 1 + (pss.length - (c + 1)) = pss.length by omega, Nat.sub_self] at h
    show (segT pss (fun a => treeF pss n a) c pss.length).length + 1 ≤ _
    omega
def numL (g : List (List Int)) : List Int := if fine g then numbering g else []
theorem numL_len (g : List (List Int)) : (numL g).length ≤ 262144 := by
  unfold numL
  split
  · rename_i hf
    have h16 := fine_len hf
    have hpl := parentsOf_length g
    have := treeF_len (parentsOf g) (fun a h1 h2 => (stem_lt hf h1 (by omega)).2) (3 + g.length) 0 (by omega)
    exact Nat.le_trans this (show _ ≤ 2 ^ 18 from Nat.pow_le_pow_right (by decide) (by omega))
  · simp
def numE (g : List (List Int)) : Int := if fine g then 0 else 2
set_option maxHeartbeats 1000000 in
theorem s_line_Number (g : List (List Int)) : V.Spec Try.prog Fc.line_Number [rows g] [] (.tp [ints (numL g), V.int (numE g)]) [] := by
  have ho := s_line_open g []
  rw [openR, openE] at ho
  have hoks : oks g [] = fine g := by simp [oks]
  rw [hoks] at ho
  refine Spec.enterM Try.tabOK Try.mixed Fn.line_Number rfl rfl rfl fun B hB => ?_
  repeat' (first
   | (with_reducible refine OL.st ?_)
   | (with_reducible refine TC.region ?_)
   | (with_reducible refine TC.seq ?_)
   | (with_reducible refine OL.nil ?_)
   | (with_reducible refine TX.thenN ?_)
   | fail)
  cases hf : fine g
  · rw [hf] at ho
    simp only [Bool.false_eq_true, if_false] at ho
    refine OL.c ho Fn.line_open ?_
    repeat' (first
     | (with_reducible refine OL.st ?_)
     | (with_reducible refine TC.region ?_)
     | (with_reducible refine TC.seq ?_)
     | (with_reducible refine OL.nil ?_)
     | (with_reducible refine TX.thenN ?_)
     | (with_reducible refine TC.ifT ?_)
     | (with_reducible refine TC.ret ?_)
     | (with_reducible refine TX.thenR ?_)
     | fail)
    have e1 : numL g = [] := by rw [numL, hf]; rfl
    have e2 : numE g = 2 := by rw [numE, hf]; rfl
    rw [e1, e2]
    exact TX.rtN2 [] (.nil (by decide)) (.ren rfl)
  · rw [hf] at ho
    simp only [if_true] at ho
    have hpl := parentsOf_length g
    have ht := s_tree hf (3 + g.length) 0 (by omega) (by omega)
    have e : treeF (parentsOf g) (3 + g.length) ((0 : Nat) : Int) = numL g := by rw [numL, hf]; rfl
    rw [e] at ht
    refine OL.c ho Fn.line_open ?_
    with_reducible refine OL.st ?_
    with_reducible refine OL.st ?_
    refine OL.frzJ 11 ?_
    repeat' (first
     | (with_reducible refine OL.st ?_)
     | (with_reducible refine OL.alloc ?_)
     | (with_reducible refine TC.region ?_)
     | (with_reducible refine TC.seq ?_)
     | (with_reducible refine OL.nil ?_)
     | (with_reducible refine TX.thenN ?_)
     | (with_reducible refine TC.skip ?_)
     | (with_reducible refine TC.ifF ?_)
     | fail)
    refine OL.c ht Fn.line_graph_tree ?_
    repeat' (first
     | (with_reducible refine OL.nil ?_)
     | (with_reducible refine TX.thenN ?_)
     | (with_reducible refine TC.block ?_)
     | fail)
    refine TC.adpC 2 0 Tc.int 1 ?_
    refine TC.rfV (u := V.int) [(6, .bp 0 0)] (fun pre => [.cb Tc.Lint [.hs 1], .gs false Tc.int 1 none (pre.map V.int)]) 1 [2, 3] rfl rfl rfl (fun _ => rfl) rfl rfl ?_ ?_ ?_ (Nat.zero_le _) (by simp) rfl rfl (fun pre x Bx hBx l hx => ?_) (fun B3 hB3 D hM => ?_)
    · with_unfolding_all exact ⟨⟨_, rfl, OE.ren rfl⟩, ⟨_, rfl, OE.gs⟩, trivial⟩
    · with_unfolding_all exact ⟨⟨_, rfl, LE.ren rfl⟩, trivial⟩
    · with_unfolding_all exact ⟨⟨_, rfl, LE.ren rfl⟩, trivial⟩
    · have hpl : pre.length ≤ 262144 := by
        obtain ⟨r, hr⟩ := hx
        have := numL_len g
        rw [← hr] at this
        simp at this; omega
      have e : pre.map V.int ++ [V.int x] = (pre ++ [x]).map V.int := by simp
      dsimp only
      repeat' (first
       | (with_reducible refine OL.st ?_)
       | (with_reducible refine OL.store ?_)
       | (with_reducible refine OL.lit ?_)
       | (with_reducible refine OL.appO ?_)
       | (with_reducible refine TC.region ?_)
       | (with_reducible refine OL.nil ?_)
       | (with_reducible refine TC.block ?_)
       | (with_reducible refine TX.blkN ?_)
       | fail)
      exact TX.rq [0, 3] (by repeat' (first | with_unfolding_all exact trivial | exact OE.gsS e | exact OE.ren (by with_unfolding_all exact rfl) | with_unfolding_all refine And.intro ⟨_, by with_unfolding_all exact rfl, ?_⟩ ?_))
    · have : numE g = 0 := by rw [numE, hf]; rfl
      rw [this]
      repeat' (first
       | (with_reducible refine OL.st ?_)
       | (with_reducible refine TC.region ?_)
       | (with_reducible refine TC.seq ?_)
       | (with_reducible refine OL.nil ?_)
       | (with_reducible refine TX.thenN ?_)
       | (with_reducible refine TX.blkN ?_)
       | (with_reducible refine TC.ret ?_)
       | (with_reducible refine TX.thenW ?_)
       | fail)
      refine TX.vw 2 ?_
      exact TX.rtM2 hM hB [] (.ren rfl) (.ren rfl)
end Go.Proofs
/- The laws' works. -/
namespace Go.Proofs
open Go Go.W Go.V
theorem eqS70 : EqS2 Try.prog 70 3 .i64 := ⟨by kernel_rfl, by kernel_rfl, by kernel_rfl, Try.underlying3, by kernel_rfl⟩
theorem v_lin1 : (linL small 6, linE small 6) = ([6, 4, 5, 3, 0], 0) := by decide +kernel
theorem v_lin2 : (linL twice 7, linE twice 7) = ([7, 5, 4, 3, 0], 0) := by decide +kernel
theorem v_lin3 : (linL twice 8, linE twice 8) = ([], 7) := by decide +kernel
theorem v_con1 : conflR twice = (8, [4, 5], 0) := by decide +kernel
theorem v_con2 : conflR small = (0, [], 5) := by decide +kernel
theorem v_least : (leastL twice [6, 7], leastE twice [6, 7]) = ([4, 5], 0) := by decide +kernel
theorem v_num : (numL small, numE small) = ([0, 1, 2, 3, 4, 6, 5], 0) := by decide +kernel
theorem v_spans : ((spansL small [0, 1, 2, 3, 4, 5, 6]).length, (spansL small [0, 1, 2, 3, 4, 5, 6]).getD 4 [], spansE small [0, 1, 2, 3, 4, 5, 6]) = (7, [(4, 4), (6, 6)], 0) := by decide +kernel
theorem same_t (l : List Int) : V.Spec Try.prog Fc.ref03_Same [ints l, ints l] [] (V.bool true) [] := by
  have := s_ref03_Same l l
  rwa [beq_self_eq_true] at this
set_option maxHeartbeats 2000000 in
theorem s_law03_works : V.Spec Try.prog Fc.law03_works [] [] (V.bool true) [] := by
  refine V.Spec.enter Try.tabOK Try.mixed Fn.law03_works rfl rfl rfl fun B hB => ?_
  have h1 := s_line_Lin small 6
  have h2 := s_line_Lin twice 7
  have h3 := s_line_Lin twice 8
  have h4 := s_line_Conflict twice
  have h5 := s_line_Conflict small
  have h6 := s_line_Least twice [6, 7]
  have h7 := s_line_Number small
  have h8 := s_line_Spans small [0, 1, 2, 3, 4, 5, 6] (by decide)
  rw [(Prod.mk.inj v_lin1).1, (Prod.mk.inj v_lin1).2] at h1
  rw [(Prod.mk.inj v_lin2).1, (Prod.mk.inj v_lin2).2] at h2
  rw [(Prod.mk.inj v_lin3).1, (Prod.mk.inj v_lin3).2] at h3
  rw [v_con1] at h4
  rw [v_con2] at h5
  rw [(Prod.mk.inj v_least).1, (Prod.mk.inj v_least).2] at h6
  rw [(Prod.mk.inj v_num).1, (Prod.mk.inj v_num).2] at h7
  obtain ⟨hl, hr⟩ := Prod.mk.inj v_spans
  obtain ⟨h4', he⟩ := Prod.mk.inj hr
  rw [he] at h8
  generalize spansL small [0, 1, 2, 3, 4, 5, 6] = S at *
  have hS : S[4]'(by omega) = [(4, 4), (6, 6)] := by rw [← h4', getD_lt]
  have hS2 : (S[Int.toNat 4]'(by show 4 < S.length; omega)).length = 2 := by show (S[4]'(by omega)).length = 2; rw [hS]; rfl
  repeat' (first
   | (with_reducible refine OL.st ?_)
   | (with_reducible refine TC.region ?_)
   | (with_reducible refine TC.seq ?_)
   | (with_reducible refine OL.nil ?_)
   | (with_reducible refine TX.thenN ?_)
   | fail)
  refine OL.c s_law03_Small Fn.law03_Small ?_
  refine OL.c s_law03_Twice Fn.law03_Twice ?_
  refine OL.vw 18 ?_
  refine OL.kn (x := .sl 1 none [.raw (.slice none 0 0), ints [3], ints [3], ints [4, 5]]) (y := rows small) 18 (LE.sls ⟨.nil (by decide), .ren rfl, .ren rfl, .ren rfl, trivial⟩ rfl rfl) ?_
  repeat' (first
   | (with_reducible refine OL.st ?_)
   | (with_reducible refine TC.region ?_)
   | (with_reducible refine TC.seq ?_)
   | (with_reducible refine OL.nil ?_)
   | (with_reducible refine TX.thenN ?_)
   | fail)
  refine OL.c h1 Fn.line_Lin ?_
  repeat' (first
   | (with_reducible refine OL.st ?_)
   | (with_reducible refine TC.region ?_)
   | (with_reducible refine TC.seq ?_)
   | (with_reducible refine OL.nil ?_)
   | (with_reducible refine TX.thenN ?_)
   | fail)
  refine OL.c h2 Fn.line_Lin ?_
  repeat' (first
   | (with_reducible refine OL.st ?_)
   | (with_reducible refine TC.region ?_)
   | (with_reducible refine TC.seq ?_)
   | (with_reducible refine OL.nil ?_)
   | (with_reducible refine TX.thenN ?_)
   | fail)
  refine OL.c h3 Fn.line_Lin ?_
  repeat' (first
   | (with_reducible refine OL.st ?_)
   | (with_reducible refine TC.region ?_)
   | (with_reducible refine TC.seq ?_)
   | (with_reducible refine OL.nil ?_)
   | (with_reducible refine TX.thenN ?_)
   | fail)
  refine OL.c h4 Fn.line_Conflict ?_
  repeat' (first
   | (with_reducible refine OL.st ?_)
   | (with_reducible refine TC.region ?_)
   | (with_reducible refine TC.seq ?_)
   | (with_reducible refine OL.nil ?_)
   | (with_reducible refine TX.thenN ?_)
   | fail)
  refine OL.c h5 Fn.line_Conflict ?_
  repeat' (first
   | (with_reducible refine OL.st ?_)
   | (with_reducible refine OL.lit ?_)
   | (with_reducible refine TC.region ?_)
   | (with_reducible refine TC.seq ?_)
   | (with_reducible refine OL.nil ?_)
   | (with_reducible refine TX.thenN ?_)
   | (with_reducible refine OL.gOn ?_)
   | fail)
  refine OL.vwA 1 ?_
  refine OL.c (same_t [6, 4, 5, 3, 0]) Fn.ref03_Same ?_
  repeat' (first
   | (with_reducible refine OL.st ?_)
   | (with_reducible refine OL.lit ?_)
   | (with_reducible refine OL.gOn ?_)
   | fail)
  refine OL.vwA 1 ?_
  refine OL.c (same_t [7, 5, 4, 3, 0]) Fn.ref03_Same ?_
  repeat' (first
   | (with_reducible refine OL.st ?_)
   | (with_reducible refine OL.lit ?_)
   | (with_reducible refine OL.gOn ?_)
   | fail)
  refine OL.vwA 1 ?_
  refine OL.c (same_t [4, 5]) Fn.ref03_Same ?_
  repeat' (first
   | (with_reducible refine OL.st ?_)
   | (with_reducible refine OL.lit ?_)
   | (with_reducible refine TC.region ?_)
   | (with_reducible refine TC.seq ?_)
   | (with_reducible refine OL.nil ?_)
   | (with_reducible refine TX.thenN ?_)
   | (with_reducible refine TC.skip ?_)
   | (with_reducible refine TC.ifF ?_)
   | (with_reducible refine OL.gOn ?_)
   | fail)
  refine OL.vwA 1 ?_
  refine OL.c h6 Fn.line_Least ?_
  repeat' (first
   | (with_reducible refine OL.st ?_)
   | (with_reducible refine TC.region ?_)
   | (with_reducible refine TC.seq ?_)
   | (with_reducible refine OL.nil ?_)
   | (with_reducible refine TX.thenN ?_)
   | fail)
  refine OL.c h7 Fn.line_Number ?_
  repeat' (first
   | (with_reducible refine OL.st ?_)
   | (with_reducible refine OL.lit ?_)
   | (with_reducible refine TC.region ?_)
   | (with_reducible refine TC.seq ?_)
   | (with_reducible refine OL.nil ?_)
   | (with_reducible refine TX.thenN ?_)
   | fail)
  refine OL.vwA 1 ?_
  refine OL.c h8 Fn.line_Spans ?_
  repeat' (first
   | (with_reducible refine OL.st ?_)
   | (with_reducible refine OL.lit ?_)
   | (with_reducible refine TC.region ?_)
   | (with_reducible refine TC.seq ?_)
   | (with_reducible refine OL.nil ?_)
   | (with_reducible refine TX.thenN ?_)
   | (with_reducible refine OL.gOn ?_)
   | fail)
  refine OL.vwA 1 ?_
  refine OL.c (same_t [4, 5]) Fn.ref03_Same ?_
  repeat' (first
   | (with_reducible refine OL.st ?_)
   | (with_reducible refine OL.lit ?_)
   | (with_reducible refine OL.gOn ?_)
   | fail)
  refine OL.vwA 1 ?_
  refine OL.c (same_t [0, 1, 2, 3, 4, 6, 5]) Fn.ref03_Same ?_
  repeat' (first
   | (with_reducible refine OL.st ?_)
   | (with_reducible refine OL.build ?_)
   | (with_reducible refine OL.gOn ?_)
   | (with_reducible refine OL.gD ?_ ?_ <;> (intro hc; try (exfalso; omega)))
   | fail)
  refine OL.eqS2 eqS70 ?_
  repeat' (first
   | (with_reducible refine OL.st ?_)
   | (with_reducible refine OL.nil ?_)
   | (with_reducible refine TX.thenN ?_)
   | (with_reducible refine TC.ret ?_)
   | fail)
  refine TX.rt1 [] (.bool ?_)
  have e : S[Int.toNat 4]'(by show 4 < S.length; omega) = [(4, 4), (6, 6)] := hS
  simp only [e]
  rfl
end Go.Proofs
