/- Part 1 of what the claim is proved by: lemmas on the model and walks through functions of the program; no conditions. -/
import Derived.Test.YthoblhbdeamjmaaW2
import Derived.Test.YthoblhbdeamjmaaV13
/- How spans are read. -/
namespace Go.V
open Go Go.W Go.ChangeShapes Go.WideShapes Go.ChangeAt Go.RowKit Go.Deep
section
variable {H : Type} {enc : TypeId × Value → H} {P : Program} {w : World} {spare : Nat → Bool} {held : Bool}
theorem Rd.pair {t e : Nat} {k : IntKind} {f0 f1 : Field} (ht : P.underlying t = some (.struct #[f0, f1])) (ct : P.cellsOf t = 2) (h0 : f0.type = e) (h1 : f1.type = e) (o0 : f0.offset = 0) (o1 : f1.offset = 1) (he : P.underlying e = some (.int k)) (ce : P.cellsOf e = 1) :
    Rd enc P w spare held t 2 (fun p : Int × Int => .st [.raw (.int k p.1), .raw (.int k p.2)]) (fun _ => True) := by
  intro n cs y h
  obtain ⟨xs, m, hm, hxy, hcl, hxl, hf⟩ := DataW.trod_struct ht h
  rw [ct] at hcl
  match xs, hxl, cs, hcl with
  | [y0, y1], _, [v0, v1], _ =>
    have g0 := hf 0 f0 rfl
    have g1 := hf 1 f1 rfl
    simp [o0, o1, h0, h1, ce] at g0 g1
    obtain ⟨i0, r0, _, _⟩ := DataW.trod_int he g0
    obtain ⟨i1, r1, _, _⟩ := DataW.trod_int he g1
    cases r0
    cases r1
    refine ⟨(i0, i1), ⟨rfl, by simp [Value.oneCell'], fun j v c hv hc => ?_⟩, rfl, trivial⟩
    match j with
    | 0 => simp [AV.cells] at hv hc; subst hv hc; exact .raw rfl
    | 1 => simp [AV.cells] at hv hc; subst hv hc; exact .raw rfl
    | j + 2 => simp at hv
end
end Go.V
namespace Go.Proofs.Ythoblhbdeamjmaa
open Go Go.V
theorem lSpan {H : Type} {enc : TypeId × Value → H} {w : World} {spare : Nat → Bool} {held : Bool} : Rd enc Try.prog w spare held 70 2 (fun p : Int × Int => .st [.raw (.int .i64 p.1), .raw (.int .i64 p.2)]) (fun _ => True) :=
  Rd.pair Try.underlying70 lCells70 rfl rfl rfl rfl Try.underlying3 lCells3
end Go.Proofs.Ythoblhbdeamjmaa
/- The reference's numberings and spans; In. -/
namespace Go.Proofs
open Go Go.W Go.V
/-! ### Numberings -/
theorem stemOf_eq {g : List (List Int)} {a : Nat} (ha : a < 3 + g.length) : stemOf (parentsOf g) a = (pOf g a).headD 0 := by
  rw [stemOf, List.getD_eq_getElem?_getD, parentsOf_get ha]; rfl
theorem s_ref03_stem {g : List (List Int)} (h16 : g.length ≤ 16) {a : Nat} (ha : a < 3 + g.length) : V.Spec Try.prog Fc.ref03_stem [rows g, V.int a] [] (V.int (stemOf (parentsOf g) a)) [] := by
  rw [stemOf_eq ha]
  refine V.Spec.enter Try.tabOK Try.mixed Fn.ref03_stem rfl rfl rfl fun B hB => ?_
  repeat' (first
   | (with_reducible refine OL.st ?_)
   | (with_reducible refine TC.region ?_)
   | (with_reducible refine TC.seq ?_)
   | (with_reducible refine OL.nil ?_)
   | (with_reducible refine TX.thenN ?_)
   | fail)
  refine OL.c (s_ref03_parents g a (by omega) (by omega) (by omega)) Fn.ref03_parents ?_
  generalize pOf g a = ps
  repeat' (first
   | (with_reducible refine OL.st ?_)
   | (with_reducible refine TC.region ?_)
   | (with_reducible refine TC.seq ?_)
   | (with_reducible refine OL.nil ?_)
   | (with_reducible refine TX.thenN ?_)
   | (with_reducible refine TC.skip ?_)
   | (with_reducible refine TC.ifD ?_ ?_ <;> (intro hc; try (exfalso; omega)))
   | (with_reducible refine TC.ret ?_)
   | (with_reducible refine TX.thenR ?_)
   | fail)
  · have e : ps = [] := List.length_eq_zero_iff.1 (by omega)
    rw [e]
    exact TX.rt1 [] (.ren rfl)
  · have h0 : 0 < ps.length := by omega
    refine TX.rt1 [] (.int ?_)
    rw [List.headD_eq_head?_getD, List.head?_eq_getElem?, List.getElem?_eq_getElem h0]; rfl
theorem s_ref03_laid_step {g : List (List Int)} (hf : fine g = true) {c : Nat} (_hc : c < 3 + g.length) (Br : Nat → List Int) (hlen : ((c : Int) :: segT (parentsOf g) Br c (3 + g.length)).length ≤ 262144)
    (hBr : ∀ a : Nat, 1 ≤ a → a < 3 + g.length → stemOf (parentsOf g) a = c → V.Spec Try.prog Fc.ref03_laid [rows g, V.int a] [] (ints (Br a)) []) :
    V.Spec Try.prog Fc.ref03_laid [rows g, V.int c] [] (ints ((c : Int) :: segT (parentsOf g) Br c (3 + g.length))) [] := by
  have h16 := fine_len hf
  refine V.Spec.enter Try.tabOK Try.mixed Fn.ref03_laid rfl rfl rfl fun B hB => ?_
  repeat' (first
   | (with_reducible refine OL.st ?_)
   | (with_reducible refine OL.lit ?_)
   | (with_reducible refine TC.region ?_)
   | (with_reducible refine TC.seq ?_)
   | (with_reducible refine OL.nil ?_)
   | (with_reducible refine TX.thenN ?_)
   | (with_reducible refine TC.block ?_)
   | fail)
  have e1 : [V.int c] = ((c : Int) :: segT (parentsOf g) Br c 1).map V.int := rfl
  refine TC.lp (fun a : Nat => [(0, rows g), (1, V.int c), (5, .hs 0), (6, V.int a)]) (fun a => [.gs false Tc.int 1 none (((c : Int) :: segT (parentsOf g) Br c a).map V.int)]) (fun a => 1 ≤ a ∧ a ≤ 3 + g.length) (fun a => 3 + g.length - a) 1 [0] ⟨Nat.le_refl _, by omega⟩ ?_ (ho := ⟨⟨_, rfl, OE.gsS e1⟩, trivial⟩)
  rintro a ⟨ha1, ha⟩
  have hskip : stemOf (parentsOf g) a ≠ c → ((c : Int) :: segT (parentsOf g) Br c a).map V.int = ((c : Int) :: segT (parentsOf g) Br c (a + 1)).map V.int := fun h => by rw [segT_succ _ _ _ ha1, if_neg h, List.append_nil]
  have htake : stemOf (parentsOf g) a = c → ((c : Int) :: segT (parentsOf g) Br c a).map V.int ++ (Br a).map V.int = ((c : Int) :: segT (parentsOf g) Br c (a + 1)).map V.int := fun h => by rw [segT_succ _ _ _ ha1, if_pos h, ← List.cons_append, List.map_append]
  have hbnd : a < 3 + g.length → stemOf (parentsOf g) a = c → ((c : Int) :: segT (parentsOf g) Br c a).length + (Br a).length ≤ 262144 := fun h hs => by
    obtain ⟨r, hr⟩ := segT_split (parentsOf g) Br c ha1 (3 + g.length) h
    rw [if_pos hs] at hr
    rw [hr] at hlen
    simp at hlen ⊢; omega
  repeat' (first
   | (with_reducible refine OL.st ?_)
   | (with_reducible refine TC.region ?_)
   | (with_reducible refine TC.seq ?_)
   | (with_reducible refine OL.nil ?_)
   | (with_reducible refine TX.thenN ?_)
   | (with_reducible refine TC.block ?_)
   | (with_reducible refine TC.skip ?_)
   | (with_reducible refine TX.blkN ?_)
   | (with_reducible refine TC.exit ?_)
   | (with_reducible refine TX.hit ?_)
   | (with_reducible refine TX.thenX ?_)
   | (with_reducible refine TC.ifF ?_)
   | (with_reducible refine OL.gOn ?_)
   | (with_reducible refine OL.gOff ?_)
   | (with_reducible refine TC.ifD ?_ ?_ <;> (intro hc; try (exfalso; omega)))
   | (with_reducible refine OL.gD ?_ ?_ <;> (intro hc; try (exfalso; omega)))
   | (with_reducible refine TC.ret ?_)
   | fail)
  · refine OL.c (s_ref03_stem (a := a) h16 (by omega)) Fn.ref03_stem ?_
    repeat' (first
     | (with_reducible refine OL.st ?_)
     | (with_reducible refine TC.region ?_)
     | (with_reducible refine OL.nil ?_)
     | (with_reducible refine TX.thenN ?_)
     | (with_reducible refine TC.skip ?_)
     | (with_reducible refine TX.blkN ?_)
     | (with_reducible refine OL.gOn ?_)
     | (with_reducible refine TC.ifD ?_ ?_ <;> (intro hc; try (exfalso; omega)))
     | fail)
    · have hs : stemOf (parentsOf g) a = c := by omega
      have e := htake hs
      have hb := hbnd (by omega) hs
      rw [List.length_cons] at hb
      refine OL.c (hBr a ha1 (by omega) hs) Fn.ref03_laid ?_
      repeat' (first
       | (with_reducible refine OL.st ?_)
       | (with_reducible refine OL.app ?_)
       | (with_reducible refine TC.region ?_)
       | (with_reducible refine OL.nil ?_)
       | (with_reducible refine TX.thenN ?_)
       | (with_reducible refine TX.blkN ?_)
       | fail)
      exact TX.rd (a + 1) [1] ⟨by omega, by omega⟩ (by omega)
    · have e := hskip (by omega)
      exact TX.rd (a + 1) [0] ⟨by omega, by omega⟩ (by omega)
  · have e := hskip (by have := stem_lt hf ha1 (by omega); omega)
    exact TX.rd (a + 1) [0] ⟨by omega, by omega⟩ (by omega)
  · obtain rfl : a = 3 + g.length := by omega
    refine TX.vw 4 ?_
    exact TX.rt1 [] (.ren rfl)
theorem s_laid {g : List (List Int)} (hf : fine g = true) : ∀ (n c : Nat), 3 + g.length ≤ c + n + 1 → c < 3 + g.length → V.Spec Try.prog Fc.ref03_laid [rows g, V.int c] [] (ints (treeF (parentsOf g) n c)) [] := by
  have h16 := fine_len hf
  have hpl := parentsOf_length g
  have hst : ∀ a : Nat, 1 ≤ a → a < (parentsOf g).length → stemOf (parentsOf g) a < a := fun a h1 h2 => (stem_lt hf h1 (by omega)).2
  have hle : ∀ n c : Nat, c < 3 + g.length → (treeF (parentsOf g) n c).length ≤ 262144 := fun n c hc =>
    Nat.le_trans (treeF_len (parentsOf g) hst n c (by omega)) (show _ ≤ 2 ^ 18 from Nat.pow_le_pow_right (by decide) (by omega))
  intro n
  induction n with
  | zero =>
    intro c h1 h2
    have e : treeF (parentsOf g) 0 (c : Int) = (c : Int) :: segT (parentsOf g) (fun _ => []) c (3 + g.length) := by simp [treeF, segT]
    have hl := hle 0 c h2
    rw [e] at hl ⊢
    exact s_ref03_laid_step hf h2 _ hl fun a ha hl hs => by
      have := stem_lt hf ha hl
      omega
  | succ n ih =>
    intro c h1 h2
    have e : treeF (parentsOf g) (n + 1) (c : Int) = (c : Int) :: segT (parentsOf g) (fun a => treeF (parentsOf g) n a) c (3 + g.length) := by rw [← hpl]; rfl
    have hl := hle (n + 1) c h2
    rw [e] at hl ⊢
    exact s_ref03_laid_step hf h2 _ hl fun a ha hl hs => by
      have := stem_lt hf ha hl
      exact ih a (by omega) hl
theorem s_ref03_Number (g : List (List Int)) : V.Spec Try.prog Fc.ref03_Number [rows g] [] (.tp [ints (numL g), V.int (numE g)]) [] := by
  refine V.Spec.enter Try.tabOK Try.mixed Fn.ref03_Number rfl rfl rfl fun B hB => ?_
  repeat' (first
   | (with_reducible refine OL.st ?_)
   | (with_reducible refine TC.region ?_)
   | (with_reducible refine TC.seq ?_)
   | (with_reducible refine OL.nil ?_)
   | (with_reducible refine TX.thenN ?_)
   | fail)
  refine OL.c (s_ref03_Good g) Fn.ref03_Good ?_
  cases hf : fine g
  · have e1 : numL g = [] := by rw [numL, hf]; rfl
    have e2 : numE g = 2 := by rw [numE, hf]; rfl
    rw [e1, e2]
    repeat' (first
     | (with_reducible refine OL.st ?_)
     | (with_reducible refine TC.region ?_)
     | (with_reducible refine TC.seq ?_)
     | (with_reducible refine OL.nil ?_)
     | (with_reducible refine TX.thenN ?_)
     | (with_reducible refine TC.ifT ?_)
     | (with_reducible refine TC.ret ?_)
     | (with_reducible refine TX.thenR ?_)
     | fail)
    exact TX.rt2 [] (.nil (by decide)) (.ren rfl)
  · have e1 : numL g = treeF (parentsOf g) (3 + g.length) ((0 : Nat) : Int) := by rw [numL, hf]; rfl
    have e2 : numE g = 0 := by rw [numE, hf]; rfl
    rw [e1, e2]
    repeat' (first
     | (with_reducible refine OL.st ?_)
     | (with_reducible refine TC.region ?_)
     | (with_reducible refine TC.seq ?_)
     | (with_reducible refine OL.nil ?_)
     | (with_reducible refine TX.thenN ?_)
     | (with_reducible refine TC.skip ?_)
     | (with_reducible refine TC.ifF ?_)
     | fail)
    refine OL.c (s_laid hf (3 + g.length) 0 (by omega) (by omega)) Fn.ref03_laid ?_
    repeat' (first
     | (with_reducible refine OL.st ?_)
     | (with_reducible refine OL.nil ?_)
     | (with_reducible refine TX.thenN ?_)
     | (with_reducible refine TC.ret ?_)
     | fail)
    exact TX.rt2 [] (.ren rfl) (.ren rfl)
/-! ### Whether positions are in spans -/
def badAt (l : List (Int × Int)) (i : Nat) : Bool := decide ((l.getD i (0, 0)).2 < (l.getD i (0, 0)).1) || (decide (0 < i) && decide ((l.getD i (0, 0)).1 ≤ (l.getD (i - 1) (0, 0)).2))
def badSp (l : List (Int × Int)) : Bool := (List.range l.length).any (badAt l)
def inP (at_ : Int) (s : Int × Int) : Bool := decide (s.1 ≤ at_) && decide (at_ ≤ s.2)
def inR (l : List (Int × Int)) (at_ : Int) : Bool := !badSp l && l.any (inP at_)
theorem any_range_succ (p : Nat → Bool) (n : Nat) : (List.range (n + 1)).any p = ((List.range n).any p || p n) := by
  rw [List.range_succ, List.any_append]; simp
theorem badSp_of {l : List (Int × Int)} {i : Nat} (hi : i < l.length) (h : badAt l i = true) : badSp l = true := by
  rw [badSp, List.any_eq_true]; exact ⟨i, List.mem_range.2 hi, h⟩
theorem badAt_eq {l : List (Int × Int)} {i : Nat} (hi : i < l.length) : badAt l i = (decide (l[i].2 < l[i].1) || (decide (0 < i) && decide (l[i].1 ≤ (l[i - 1]'(by omega)).2))) := by
  rw [badAt, getD_lt hi, getD_lt (show i - 1 < l.length by omega)]
set_option maxHeartbeats 1000000 in
theorem s_ref03_In (l : List (Int × Int)) (at_ : Int) : V.Spec Try.prog Fc.ref03_In [spansA l, V.int at_] [] (.tp [V.bool (inR l at_), V.int (okE (!badSp l))]) [] := by
  refine V.Spec.enter Try.tabOK Try.mixed Fn.ref03_In rfl rfl rfl fun B hB => ?_
  refine TC.bl 0 fun hll => ?_
  repeat' (first
   | (with_reducible refine OL.st ?_)
   | (with_reducible refine TC.region ?_)
   | (with_reducible refine TC.seq ?_)
   | (with_reducible refine OL.nil ?_)
   | (with_reducible refine TX.thenN ?_)
   | (with_reducible refine TC.block ?_)
   | fail)
  refine TC.lp (fun i : Nat => [(0, spansA l), (1, V.int at_), (6, V.int i)]) (fun _ => []) (fun i => i ≤ l.length ∧ (List.range i).any (badAt l) = false) (fun i => l.length - i) 0 [] ⟨Nat.zero_le _, rfl⟩ ?_
  rintro i ⟨hi, hinv⟩
  repeat' (first
   | (with_reducible refine OL.st ?_)
   | (with_reducible refine TC.region ?_)
   | (with_reducible refine TC.seq ?_)
   | (with_reducible refine OL.nil ?_)
   | (with_reducible refine TX.thenN ?_)
   | (with_reducible refine TC.block ?_)
   | (with_reducible refine TC.skip ?_)
   | (with_reducible refine TC.exit ?_)
   | (with_reducible refine TX.hit ?_)
   | (with_reducible refine TX.thenX ?_)
   | (with_reducible refine TC.ifD ?_ ?_ <;> (intro hc; try (exfalso; omega)))
   | fail)
  · have hil : i < l.length := by omega
    have hb := badAt_eq hil
    have hix : ∀ h : ((i : Int) - 1).toNat < l.length, l[((i : Int) - 1).toNat] = l[i - 1]'(by omega) := fun h => by congr 1; omega
    repeat' (first
     | (with_reducible refine OL.st ?_)
     | (with_reducible refine TC.region ?_)
     | (with_reducible refine TC.seq ?_)
     | (with_reducible refine OL.nil ?_)
     | (with_reducible refine TX.thenN ?_)
     | (with_reducible refine TC.skip ?_)
     | (with_reducible refine TX.blkN ?_)
     | (with_reducible refine TC.ifT ?_)
     | (with_reducible refine TC.ifF ?_)
     | (with_reducible refine TC.ifD ?_ ?_ <;> (intro hc; try (exfalso; omega)))
     | (with_reducible refine TC.ret ?_)
     | (with_reducible refine TX.thenR ?_)
     | (with_reducible refine TX.blkR ?_)
     | ((with_reducible refine TC.draw (id := 4) true 29 29 ?_) <;> (with_reducible refine OD.st 0 ?_) <;> (with_reducible refine OD.st 1 ?_) <;> (with_reducible refine OD.st 2 ?_) <;> (with_reducible refine OD.st 3 ?_) <;> (with_reducible refine OD.st 4 ?_) <;> (with_reducible refine OD.st 5 ?_) <;> (with_reducible refine OD.st 6 ?_) <;> (with_reducible refine OD.st 7 ?_) <;> (with_reducible refine OD.st 8 ?_) <;> (with_reducible refine OD.st 9 ?_) <;> (with_reducible refine OD.st 10 ?_) <;> (with_reducible refine OD.st 11 ?_) <;> (with_reducible refine OD.sD 25 ?_ ?_ <;> (intro hc; try (exfalso; omega)) <;> (first | (with_reducible refine OD.st 12 ?_) | (with_reducible refine OD.of 12 ?_))) <;> (first | (with_reducible refine OD.st 13 ?_) | (with_reducible refine OD.of 13 ?_)) <;> (first | (with_reducible refine OD.st 14 ?_) | (with_reducible refine OD.of 14 ?_)) <;> (first | (with_reducible refine OD.sD 28 ?_ ?_ <;> (intro hc; try (exfalso; omega)) <;> (first | (with_reducible refine OD.st 15 ?_) | (with_reducible refine OD.of 15 ?_))) | (with_reducible refine OD.un 15 ?_)) <;> (first | (with_reducible refine OD.st 16 ?_) | (with_reducible refine OD.of 16 ?_) | (with_reducible refine OD.un 16 ?_)) <;> (first | (with_reducible refine OD.st 17 ?_) | (with_reducible refine OD.of 17 ?_) | (with_reducible refine OD.un 17 ?_)) <;> (first | (with_reducible refine OD.st 18 ?_) | (with_reducible refine OD.of 18 ?_) | (with_reducible refine OD.un 18 ?_)) <;> (first | (with_reducible refine OD.st 19 ?_) | (with_reducible refine OD.of 19 ?_) | (with_reducible refine OD.un 19 ?_)) <;> (first | (with_reducible refine OD.st 20 ?_) | (with_reducible refine OD.of 20 ?_) | (with_reducible refine OD.un 20 ?_)) <;> (first | (with_reducible refine OD.st 21 ?_) | (with_reducible refine OD.of 21 ?_) | (with_reducible refine OD.un 21 ?_)) <;> (first | (with_reducible refine OD.st 22 ?_) | (with_reducible refine OD.of 22 ?_) | (with_reducible refine OD.un 22 ?_)) <;> (first | (with_reducible refine OD.st 23 ?_) | (with_reducible refine OD.of 23 ?_) | (with_reducible refine OD.un 23 ?_)) <;> (first | (with_reducible refine OD.st 24 ?_) | (with_reducible refine OD.of 24 ?_) | (with_reducible refine OD.un 24 ?_)) <;> (first | (with_reducible refine OD.st 25 ?_) | (with_reducible refine OD.of 25 ?_) | (with_reducible refine OD.un 25 ?_)) <;> (first | (with_reducible refine OD.st 26 ?_) | (with_reducible refine OD.of 26 ?_) | (with_reducible refine OD.un 26 ?_)) <;> (first | (with_reducible refine OD.st 27 ?_) | (with_reducible refine OD.of 27 ?_)) <;> (with_reducible refine OD.st 28 ?_) <;> (with_reducible refine OD.dn ?_))
     | fail)
    · have e : badSp l = true := badSp_of hil (by rw [hb, decide_eq_true (by assumption), Bool.true_or])
      rw [inR, e]
      exact TX.rt2 [] (.ren rfl) (.ren rfl)
    · rw [hix (by omega)] at hc
      have e : badSp l = true := badSp_of hil (by rw [hb, decide_eq_true hc, decide_eq_true (show 0 < i by omega)]; simp)
      rw [inR, e]
      exact TX.rt2 [] (.ren rfl) (.ren rfl)
    · rw [hix (by omega)] at hc
      refine TX.rd (i + 1) [] ⟨by omega, ?_⟩ (by omega)
      rw [any_range_succ, hinv, hb, decide_eq_false (by assumption), decide_eq_false hc]; simp
    · refine TX.rd (i + 1) [] ⟨by omega, ?_⟩ (by omega)
      rw [any_range_succ, hinv, hb, decide_eq_false (by assumption), decide_eq_false (show ¬ 0 < i by omega)]; rfl
  · have hbad : badSp l = false := by rw [badSp, show l.length = i by omega]; exact hinv
    rw [inR, hbad]
    clear hinv
    refine TC.lp (fun i : Nat => [(0, spansA l), (1, V.int at_), (7, V.int i)]) (fun _ => []) (fun i => i ≤ l.length ∧ (l.take i).any (inP at_) = false) (fun i => l.length - i) 0 [] ⟨Nat.zero_le _, rfl⟩ ?_
    rintro i ⟨hi, hinv⟩
    have hstep : ∀ h : i < l.length, (l.take (i + 1)).any (inP at_) = inP at_ l[i] := fun h => by rw [take_succ h, List.any_append, hinv]; simp
    repeat' (first
     | (with_reducible refine OL.st ?_)
     | (with_reducible refine TC.region ?_)
     | (with_reducible refine TC.seq ?_)
     | (with_reducible refine OL.nil ?_)
     | (with_reducible refine TX.thenN ?_)
     | (with_reducible refine TC.block ?_)
     | (with_reducible refine TC.skip ?_)
     | (with_reducible refine TX.blkN ?_)
     | (with_reducible refine TC.exit ?_)
     | (with_reducible refine TX.hit ?_)
     | (with_reducible refine TX.thenX ?_)
     | (with_reducible refine TC.ifF ?_)
     | (with_reducible refine OL.gOn ?_)
     | (with_reducible refine OL.gOff ?_)
     | (with_reducible refine TC.ifD ?_ ?_ <;> (intro hc; try (exfalso; omega)))
     | (with_reducible refine OL.gD ?_ ?_ <;> (intro hc; try (exfalso; omega)))
     | (with_reducible refine TC.ret ?_)
     | (with_reducible refine TX.thenR ?_)
     | (with_reducible refine TX.blkR ?_)
     | fail)
    · have e : l.any (inP at_) = true := by
        rw [List.any_eq_true]; exact ⟨l[i], List.getElem_mem _, by simp [inP]; omega⟩
      rw [e]
      exact TX.rt2 [] (.ren rfl) (.ren rfl)
    · refine TX.rd (i + 1) [] ⟨by omega, ?_⟩ (by omega)
      rw [hstep (by omega), inP, decide_eq_true (by omega), decide_eq_false (by omega)]; rfl
    · refine TX.rd (i + 1) [] ⟨by omega, ?_⟩ (by omega)
      rw [hstep (by omega), inP, decide_eq_false (by omega)]; rfl
    · rw [take_all (by omega)] at hinv
      rw [hinv]
      exact TX.rt2 [] (.ren rfl) (.ren rfl)
/-! ### The program's In -/
theorem s_line_In_1 (s : Int × Int) (at_ : Int) : V.Spec Try.prog Fc.line_In_1 [spA s, .ep [V.int at_] 0] [] (V.bool (inP at_ s)) [] := by
  refine V.Spec.enter Try.tabOK Try.mixed Fn.line_In_1 rfl rfl rfl fun B hB => ?_
  repeat' (first
   | (with_reducible refine OL.st ?_)
   | (with_reducible refine OL.box ?_)
   | (with_reducible refine TC.region ?_)
   | (with_reducible refine TC.seq ?_)
   | (with_reducible refine OL.nil ?_)
   | (with_reducible refine TX.thenN ?_)
   | (with_reducible refine OL.gOn ?_)
   | (with_reducible refine OL.gOff ?_)
   | (with_reducible refine OL.gD ?_ ?_ <;> (intro hc; try (exfalso; omega)))
   | (with_reducible refine TC.ret ?_)
   | fail)
  all_goals refine TX.rt1 [] (.bool ?_)
  · rw [inP, show decide (s.1 ≤ at_) = true from decide_eq_true hc, Bool.true_and]
  · rw [inP, show decide (s.1 ≤ at_) = false from decide_eq_false hc, Bool.false_and]
theorem s_slices_IndexFunc_Span (l : List (Int × Int)) (p : Int × Int → Bool) : V.Spec Try.prog Fc.slices_IndexFunc_Lapi_LineSpan_api_LineSpan [spansA l, predE Try.prog spA (· ∈ l) p] [] (V.int (fidx p 0 l)) [] := by
  refine V.Spec.enter Try.tabOK Try.mixed Fn.slices_IndexFunc_Lapi_LineSpan_api_LineSpan rfl rfl rfl fun B hB => ?_
  refine TC.bl 0 fun hl => ?_
  repeat' (first
   | (with_reducible refine OL.st ?_)
   | (with_reducible refine TC.region ?_)
   | (with_reducible refine TC.seq ?_)
   | (with_reducible refine OL.nil ?_)
   | (with_reducible refine TX.thenN ?_)
   | (with_reducible refine TC.block ?_)
   | fail)
  refine TC.lp (fun k : Nat => [(0, spansA l), (1, predE Try.prog spA (· ∈ l) p), (7, V.int l.length), (8, V.int k)]) (fun _ => []) (fun k => k ≤ l.length ∧ fidx p 0 l = fidx p k (l.drop k)) (fun k => l.length - k) 0 [] ⟨Nat.zero_le _, rfl⟩ ?_
  rintro k ⟨hk, hinv⟩
  repeat' (first
   | (with_reducible refine OL.st ?_)
   | (with_reducible refine TC.region ?_)
   | (with_reducible refine TC.seq ?_)
   | (with_reducible refine OL.nil ?_)
   | (with_reducible refine TX.thenN ?_)
   | (with_reducible refine TC.block ?_)
   | (with_reducible refine TC.skip ?_)
   | (with_reducible refine TC.exit ?_)
   | (with_reducible refine TX.hit ?_)
   | (with_reducible refine TX.thenX ?_)
   | (with_reducible refine TC.ifD ?_ ?_ <;> (intro hc; try (exfalso; omega)))
   | (with_reducible refine TC.ret ?_)
   | fail)
  · refine OL.cf l[k] (List.getElem_mem _) ?_
    repeat' (first | (with_reducible refine OL.nil ?_) | (with_reducible refine TX.thenN ?_) | fail)
    refine TC.ifB (fun hp => ?_) (fun hp => ?_)
    · repeat' (first
       | (with_reducible refine OL.st ?_)
       | (with_reducible refine TC.region ?_)
       | (with_reducible refine TC.seq ?_)
       | (with_reducible refine OL.nil ?_)
       | (with_reducible refine TX.thenN ?_)
       | (with_reducible refine TC.ret ?_)
       | (with_reducible refine TX.thenR ?_)
       | (with_reducible refine TX.blkR ?_)
       | fail)
      refine TX.rt1 [] (.int ?_)
      rw [hinv, drop_cons (by omega)]
      simp [fidx, hp]
    · repeat' (first
       | (with_reducible refine OL.st ?_)
       | (with_reducible refine TC.region ?_)
       | (with_reducible refine OL.nil ?_)
       | (with_reducible refine TX.thenN ?_)
       | (with_reducible refine TC.skip ?_)
       | (with_reducible refine TX.blkN ?_)
       | fail)
      refine TX.rd (k + 1) [] ⟨by omega, ?_⟩ (by omega)
      rw [hinv, drop_cons (by omega)]
      simp [fidx, hp]
  · refine TX.rt1 [] (.int ?_)
    rw [hinv, drop_nil (by omega)]
    rfl
theorem s_slices_ContainsFunc_Span (l : List (Int × Int)) (p : Int × Int → Bool) : V.Spec Try.prog Fc.slices_ContainsFunc_Lapi_LineSpan_api_LineSpan [spansA l, predE Try.prog spA (· ∈ l) p] [] (V.bool (l.any p)) [] := by
  refine V.Spec.enter Try.tabOK Try.mixed Fn.slices_ContainsFunc_Lapi_LineSpan_api_LineSpan rfl rfl rfl fun B hB => ?_
  repeat' (first
   | (with_reducible refine OL.st ?_)
   | (with_reducible refine TC.region ?_)
   | (with_reducible refine TC.seq ?_)
   | (with_reducible refine OL.nil ?_)
   | (with_reducible refine TX.thenN ?_)
   | fail)
  refine OL.c (s_slices_IndexFunc_Span l p) Fn.slices_IndexFunc_Lapi_LineSpan_api_LineSpan ?_
  repeat' (first
   | (with_reducible refine OL.st ?_)
   | (with_reducible refine OL.nil ?_)
   | (with_reducible refine TX.thenN ?_)
   | (with_reducible refine TC.ret ?_)
   | fail)
  refine TX.rt1 [] (.bool ?_)
  cases h : l.any p
  · rw [decide_eq_false]; intro h'; rw [(fidx_nonneg _ _ _).1 h'] at h; cases h
  · exact decide_eq_true ((fidx_nonneg _ _ _).2 h)
set_option maxHeartbeats 1000000 in
theorem s_line_In (l : List (Int × Int)) (at_ : Int) : V.Spec Try.prog Fc.line_In [spansA l, V.int at_] [] (.tp [V.bool (inR l at_), V.int (okE (!badSp l))]) [] := by
  refine V.Spec.enter Try.tabOK Try.mixed Fn.line_In rfl rfl rfl fun B hB => ?_
  refine TC.bl 0 fun hll => ?_
  repeat' (first
   | (with_reducible refine OL.st ?_)
   | (with_reducible refine OL.box ?_)
   | (with_reducible refine TC.region ?_)
   | (with_reducible refine TC.seq ?_)
   | (with_reducible refine OL.nil ?_)
   | (with_reducible refine TX.thenN ?_)
   | (with_reducible refine TC.block ?_)
   | fail)
  refine TC.lp (fun i : Nat => [(0, spansA l), (3, .bp 0 0), (8, spansA l), (9, V.int l.length), (10, V.int i)]) (fun _ => [.cb 3 [V.int at_]]) (fun i => i ≤ l.length ∧ (List.range i).any (badAt l) = false) (fun i => l.length - i) 0 [0] ⟨Nat.zero_le _, rfl⟩ ?_
  rintro i ⟨hi, hinv⟩
  repeat' (first
   | (with_reducible refine OL.st ?_)
   | (with_reducible refine OL.alloc ?_)
   | (with_reducible refine OL.storeAgg ?_)
   | (with_reducible refine TC.region ?_)
   | (with_reducible refine TC.seq ?_)
   | (with_reducible refine OL.nil ?_)
   | (with_reducible refine TX.thenN ?_)
   | (with_reducible refine TC.block ?_)
   | (with_reducible refine TC.skip ?_)
   | (with_reducible refine TC.exit ?_)
   | (with_reducible refine TX.hit ?_)
   | (with_reducible refine TX.thenX ?_)
   | (with_reducible refine TC.ifD ?_ ?_ <;> (intro hc; try (exfalso; omega)))
   | fail)
  · have hil : i < l.length := by omega
    have hb := badAt_eq hil
    have hix : ∀ h : ((i : Int) - 1).toNat < l.length, l[((i : Int) - 1).toNat] = l[i - 1]'(by omega) := fun h => by congr 1; omega
    repeat' (first
     | (with_reducible refine OL.st ?_)
     | (with_reducible refine TC.region ?_)
     | (with_reducible refine TC.seq ?_)
     | (with_reducible refine OL.nil ?_)
     | (with_reducible refine TX.thenN ?_)
     | (with_reducible refine TC.skip ?_)
     | (with_reducible refine TX.blkN ?_)
     | (with_reducible refine TC.ifT ?_)
     | (with_reducible refine TC.ifF ?_)
     | (with_reducible refine TC.ifD ?_ ?_ <;> (intro hc; try (exfalso; omega)))
     | (with_reducible refine TC.ret ?_)
     | (with_reducible refine TX.thenR ?_)
     | (with_reducible refine TX.blkR ?_)
     | ((with_reducible refine TC.draw (id := 4) true 20 20 ?_) <;> (with_reducible refine OD.st 0 ?_) <;> (with_reducible refine OD.st 1 ?_) <;> (with_reducible refine OD.st 2 ?_) <;> (with_reducible refine OD.st 3 ?_) <;> (with_reducible refine OD.st 4 ?_) <;> (with_reducible refine OD.st 5 ?_) <;> (with_reducible refine OD.sD 20 ?_ ?_ <;> (intro hc; try (exfalso; omega)) <;> (first | (with_reducible refine OD.st 6 ?_) | (with_reducible refine OD.of 6 ?_))) <;> (first | (with_reducible refine OD.st 7 ?_) | (with_reducible refine OD.of 7 ?_)) <;> (first | (with_reducible refine OD.st 8 ?_) | (with_reducible refine OD.of 8 ?_)) <;> (first | (with_reducible refine OD.sD 23 ?_ ?_ <;> (intro hc; try (exfalso; omega)) <;> (first | (with_reducible refine OD.st 9 ?_) | (with_reducible refine OD.of 9 ?_))) | (with_reducible refine OD.un 9 ?_)) <;> (first | (with_reducible refine OD.st 10 ?_) | (with_reducible refine OD.of 10 ?_) | (with_reducible refine OD.un 10 ?_)) <;> (first | (with_reducible refine OD.st 11 ?_) | (with_reducible refine OD.of 11 ?_) | (with_reducible refine OD.un 11 ?_)) <;> (first | (with_reducible refine OD.st 12 ?_) | (with_reducible refine OD.of 12 ?_) | (with_reducible refine OD.un 12 ?_)) <;> (first | (with_reducible refine OD.st 13 ?_) | (with_reducible refine OD.of 13 ?_) | (with_reducible refine OD.un 13 ?_)) <;> (first | (with_reducible refine OD.st 14 ?_) | (with_reducible refine OD.of 14 ?_) | (with_reducible refine OD.un 14 ?_)) <;> (first | (with_reducible refine OD.st 15 ?_) | (with_reducible refine OD.of 15 ?_) | (with_reducible refine OD.un 15 ?_)) <;> (first | (with_reducible refine OD.st 16 ?_) | (with_reducible refine OD.of 16 ?_) | (with_reducible refine OD.un 16 ?_)) <;> (first | (with_reducible refine OD.st 17 ?_) | (with_reducible refine OD.of 17 ?_) | (with_reducible refine OD.un 17 ?_)) <;> (first | (with_reducible refine OD.st 18 ?_) | (with_reducible refine OD.of 18 ?_)) <;> (with_reducible refine OD.st 19 ?_) <;> (with_reducible refine OD.dn ?_))
     | fail)
    · have e : badSp l = true := badSp_of hil (by rw [hb, decide_eq_true (by assumption), Bool.true_or])
      rw [inR, e]
      exact TX.rt2 [] (.ren rfl) (.ren rfl)
    · rw [hix (by omega)] at hc
      have e : badSp l = true := badSp_of hil (by rw [hb, decide_eq_true hc, decide_eq_true (show 0 < i by omega)]; simp)
      rw [inR, e]
      exact TX.rt2 [] (.ren rfl) (.ren rfl)
    · rw [hix (by omega)] at hc
      refine TX.rd (i + 1) [0] ⟨by omega, ?_⟩ (by omega)
      rw [any_range_succ, hinv, hb, decide_eq_false (by assumption), decide_eq_false hc]; simp
    · refine TX.rd (i + 1) [0] ⟨by omega, ?_⟩ (by omega)
      rw [any_range_succ, hinv, hb, decide_eq_false (by assumption), decide_eq_false (show ¬ 0 < i by omega)]; rfl
  · have hbad : badSp l = false := by rw [badSp, show l.length = i by omega]; exact hinv
    rw [inR, hbad]
    refine OL.frzA 0 ?_
    refine OL.c (s_slices_ContainsFunc_Span l (inP at_)) Fn.slices_ContainsFunc_Lapi_LineSpan_api_LineSpan ?_ (hle := by exact ⟨.ren rfl, LE.fun_ (first' := []) (caps' := [.ep [V.int at_] 0]) Fn.line_In_1 rfl trivial ⟨.ren rfl, trivial⟩ (fun x _ => s_line_In_1 x at_), trivial⟩)
    repeat' (first
     | (with_reducible refine OL.st ?_)
     | (with_reducible refine OL.nil ?_)
     | (with_reducible refine TX.thenN ?_)
     | (with_reducible refine TC.ret ?_)
     | fail)
    exact TX.rt2 [] (.ren rfl) (.ren rfl)
end Go.Proofs
/- The reference's Spans; LineSpans. -/
namespace Go.Proofs
open Go Go.W Go.V
/-! ### Numberings: each class once, or all classes -/
def okPre (g : List (List Int)) : List Int → List Int → Bool
  | _, [] => true
  | pre, x :: r => (isClass g x && !pre.contains x) && okPre g (pre ++ [x]) r
theorem okPre_iff (g : List (List Int)) : ∀ (r pre : List Int), okPre g pre r = true ↔ (∀ x ∈ r, isClass g x = true ∧ x ∉ pre) ∧ r.Nodup
  | [], pre => by simp [okPre]
  | x :: r, pre => by
    rw [okPre, Bool.and_eq_true, Bool.and_eq_true, okPre_iff g r (pre ++ [x]), List.nodup_cons]
    constructor
    · rintro ⟨⟨h1, h2⟩, h3, h4⟩
      have hx : x ∉ pre := fun h => by rw [List.contains_iff_mem.2 h] at h2; cases h2
      refine ⟨fun y hy => ?_, fun hm => (h3 x hm).2 (by simp), h4⟩
      rcases List.mem_cons.1 hy with rfl | hy
      · exact ⟨h1, hx⟩
      · exact ⟨(h3 y hy).1, fun hm => (h3 y hy).2 (by simp [hm])⟩
    · rintro ⟨h1, h2, h3⟩
      refine ⟨⟨(h1 x (by simp)).1, ?_⟩, fun y hy => ⟨(h1 y (by simp [hy])).1, fun hm => ?_⟩, h3⟩
      · cases hq : pre.contains x with
        | false => rfl
        | true => exact absurd (List.contains_iff_mem.1 hq) (h1 x (by simp)).2
      · rcases List.mem_append.1 hm with hm | hm
        · exact (h1 y (by simp [hy])).2 hm
        · simp at hm; subst hm; exact h2 hy
theorem cover_of_nodup : ∀ (N : Nat) (l : List Int), l.Nodup → (∀ x ∈ l, 0 ≤ x ∧ x < (N : Int)) → l.length = N → ∀ b : Int, 0 ≤ b → b < N → b ∈ l := by
  intro N l hn hr hl b h0 h1
  refine Classical.byContradiction fun hb => ?_
  have := nodup_length N (b :: l) (List.nodup_cons.2 ⟨hb, hn⟩) (fun x hx => by
    rcases List.mem_cons.1 hx with rfl | hx
    · exact ⟨h0, h1⟩
    · exact hr x hx)
  simp at this; omega
theorem cover_length : ∀ (N : Nat) (l : List Int), (∀ b : Int, 0 ≤ b → b < N → b ∈ l) → N ≤ l.length
  | 0, _, _ => Nat.zero_le _
  | N + 1, l, h => by
    have h1 := cover_length N (l.erase (N : Int)) (fun b h0 hb => (List.mem_erase_of_ne (by omega)).2 (h b h0 (by omega)))
    rw [List.length_erase_of_mem (h N (by omega) (by omega))] at h1
    have : 0 < l.length := List.length_pos_of_mem (h N (by omega) (by omega))
    omega
theorem nodup_of_cover {N : Nat} {l : List Int} (h : ∀ b : Int, 0 ≤ b → b < N → b ∈ l) (_hr : ∀ x ∈ l, 0 ≤ x ∧ x < (N : Int)) (hl : l.length = N) : l.Nodup := by
  rw [List.Nodup, List.pairwise_iff_getElem]
  intro i j hi hj hij e
  have h1 := cover_length N (l.eraseIdx j) (fun b h0 hb => by
    obtain ⟨k, hk, rfl⟩ := List.mem_iff_getElem.1 (h b h0 hb)
    by_cases hkj : k = j
    · subst hkj
      rw [← e, List.mem_eraseIdx_iff_getElem]
      exact ⟨i, by omega, by omega, rfl⟩
    · rw [List.mem_eraseIdx_iff_getElem]
      exact ⟨k, hk, hkj, rfl⟩)
  rw [List.length_eraseIdx_of_lt hj] at h1
  omega
theorem spansOk_eq {g : List (List Int)} (hf : fine g = true) {num : List Int} (hl : num.length = 3 + g.length) : spansOk g num = okPre g [] num := by
  have h16 := fine_len hf
  have hd : decide (num.length = 3 + g.length) = true := by simpa using hl
  rw [spansOk, hd, Bool.true_and, oks_cls, hf, Bool.true_and, Bool.eq_iff_iff, okPre_iff, Bool.and_eq_true, List.all_eq_true, beq_iff_eq]
  have key : (∀ x ∈ num, isClass g x = true) → (ofL num = ofL (upto (3 + g.length)) ↔ num.Nodup) := by
    intro hc
    have hr : ∀ x ∈ num, 0 ≤ x ∧ x < ((3 + g.length : Nat) : Int) := fun x hx => by have := isClass_iff (hc x hx); omega
    have hbit : ∀ (l : List Int) (b : Nat), (∀ x ∈ l, 0 ≤ x) → ((ofL l).testBit b = true ↔ (b : Int) ∈ l) := fun l b h => by
      rw [ofL_bit, List.any_eq_true]
      constructor
      · rintro ⟨x, hx, he⟩
        have := h x hx
        have e : x.toNat = b := by simpa using he
        rw [show (b : Int) = x by omega]; exact hx
      · intro hm; exact ⟨_, hm, by simp⟩
    constructor
    · intro he
      refine nodup_of_cover (N := 3 + g.length) (fun b h0 h1 => ?_) hr hl
      obtain ⟨b, rfl⟩ := Int.eq_ofNat_of_zero_le h0
      have h2 : (ofL (upto (3 + g.length))).testBit b = true := (hbit _ b (fun x hx => (mem_upto.1 hx).1)).2 (mem_upto.2 ⟨h0, h1⟩)
      rw [← he] at h2
      exact (hbit _ b (fun x hx => (hr x hx).1)).1 h2
    · intro hn
      refine Nat.eq_of_testBit_eq fun b => ?_
      rw [Bool.eq_iff_iff, hbit _ b (fun x hx => (hr x hx).1), hbit _ b (fun x hx => (mem_upto.1 hx).1), mem_upto]
      constructor
      · intro hm; exact hr _ hm
      · rintro ⟨h0, h1⟩; exact cover_of_nodup _ num hn hr hl _ h0 h1
  constructor
  · rintro ⟨h1, h2⟩; exact ⟨fun x hx => ⟨h1 x hx, by simp⟩, (key h1).1 h2⟩
  · rintro ⟨h1, h2⟩; exact ⟨fun x hx => (h1 x hx).1, (key fun x hx => (h1 x hx).1).2 h2⟩
theorem spansOk_len {g : List (List Int)} {num : List Int} (h : ¬ num.length = 3 + g.length) : spansOk g num = false := by
  have : decide (num.length = 3 + g.length) = false := by simpa using h
  rw [spansOk, this]; rfl
theorem spansOk_fine {g : List (List Int)} (hf : fine g = false) (num : List Int) : spansOk g num = false := by
  rw [spansOk, oks_cls, hf]; simp
set_option maxHeartbeats 2000000 in
theorem s_ref03_Spans (g : List (List Int)) (num : List Int) : V.Spec Try.prog Fc.ref03_Spans [rows g, ints num] [] (.tp [spanRows (spansL g num), V.int (spansE g num)]) [] := by
  have hfail : spansOk g num = false → spansL g num = [] ∧ spansE g num = 2 := fun h => by rw [spansL, spansE, h]; exact ⟨rfl, rfl⟩
  refine V.Spec.enter Try.tabOK Try.mixed Fn.ref03_Spans rfl rfl rfl fun B hB => ?_
  refine TC.bl 1 fun hnl => ?_
  repeat' (first
   | (with_reducible refine OL.st ?_)
   | (with_reducible refine TC.region ?_)
   | (with_reducible refine TC.seq ?_)
   | (with_reducible refine OL.nil ?_)
   | (with_reducible refine TX.thenN ?_)
   | fail)
  refine OL.c (s_ref03_Good g) Fn.ref03_Good ?_
  cases hf : fine g
  · obtain ⟨e1, e2⟩ := hfail (spansOk_fine hf num)
    rw [e1, e2]
    repeat' (first
     | (with_reducible refine OL.st ?_)
     | (with_reducible refine TC.region ?_)
     | (with_reducible refine TC.seq ?_)
     | (with_reducible refine OL.nil ?_)
     | (with_reducible refine TX.thenN ?_)
     | (with_reducible refine TC.ifT ?_)
     | (with_reducible refine OL.gOff ?_)
     | (with_reducible refine TC.ret ?_)
     | (with_reducible refine TX.thenR ?_)
     | fail)
    exact TX.rt2 [] (.nil (by decide)) (.ren rfl)
  · have h16 := fine_len hf
    repeat' (first
     | (with_reducible refine OL.st ?_)
     | (with_reducible refine TC.region ?_)
     | (with_reducible refine TC.seq ?_)
     | (with_reducible refine OL.nil ?_)
     | (with_reducible refine TX.thenN ?_)
     | (with_reducible refine TC.block ?_)
     | (with_reducible refine TC.skip ?_)
     | (with_reducible refine OL.gOn ?_)
     | (with_reducible refine TC.ifD ?_ ?_ <;> (intro hc; try (exfalso; omega)))
     | (with_reducible refine TC.ret ?_)
     | (with_reducible refine TX.thenR ?_)
     | fail)
    · obtain ⟨e1, e2⟩ := hfail (spansOk_len (by omega))
      rw [e1, e2]
      exact TX.rt2 [] (.nil (by decide)) (.ren rfl)
    have hlen : num.length = 3 + g.length := by omega
    have hso := spansOk_eq hf hlen
    refine TC.lp (fun i : Nat => [(0, rows g), (1, ints num), (6, V.int i)]) (fun _ => []) (fun i => i ≤ num.length ∧ okPre g [] num = okPre g (num.take i) (num.drop i)) (fun i => num.length - i) 0 [] ⟨Nat.zero_le _, rfl⟩ ?_
    rintro i ⟨hi, hinv⟩
    repeat' (first
     | (with_reducible refine OL.st ?_)
     | (with_reducible refine TC.region ?_)
     | (with_reducible refine TC.seq ?_)
     | (with_reducible refine OL.nil ?_)
     | (with_reducible refine TX.thenN ?_)
     | (with_reducible refine TC.block ?_)
     | (with_reducible refine TC.skip ?_)
     | (with_reducible refine TC.exit ?_)
     | (with_reducible refine TX.hit ?_)
     | (with_reducible refine TX.thenX ?_)
     | (with_reducible refine TC.ifD ?_ ?_ <;> (intro hc; try (exfalso; omega)))
     | fail)
    · have hil : i < num.length := by omega
      rw [drop_cons hil, okPre] at hinv
      have hcl := s_ref03_class g num[i] (by omega)
      have hh := s_ref03_Has (num.take i) num[i]
      cases hq : isClass g num[i]
      · rw [hq] at hcl hinv
        obtain ⟨e1, e2⟩ := hfail (by rw [hso, hinv]; simp)
        rw [e1, e2]
        (with_reducible refine TC.draw (id := 6) true 17 17 ?_) <;> (with_reducible refine OD.st 0 ?_) <;> (with_reducible refine OD.st 1 ?_) <;> (with_reducible refine OD.st 2 ?_) <;> (with_reducible refine OD.st 3 ?_) <;> (with_reducible refine OD.st 4 ?_) <;> (with_reducible refine OD.c1 5 hcl Fn.ref03_class ?_) <;> (with_reducible refine OD.st 6 ?_) <;> (with_reducible refine OD.st 7 ?_) <;> (with_reducible refine OD.of 8 ?_) <;> (with_reducible refine OD.of 9 ?_) <;> (with_reducible refine OD.of 10 ?_) <;> (with_reducible refine OD.of 11 ?_) <;> (with_reducible refine OD.of 12 ?_) <;> (with_reducible refine OD.of 13 ?_) <;> (with_reducible refine OD.of 14 ?_) <;> (with_reducible refine OD.of 15 ?_) <;> (with_reducible refine OD.st 16 ?_) <;> (with_reducible refine OD.dn ?_)
        all_goals repeat' (first
                   | (with_reducible refine OL.st ?_)
                   | (with_reducible refine TC.region ?_)
                   | (with_reducible refine TC.seq ?_)
                   | (with_reducible refine OL.nil ?_)
                   | (with_reducible refine TX.thenN ?_)
                   | (with_reducible refine TC.ifT ?_)
                   | (with_reducible refine TC.ret ?_)
                   | (with_reducible refine TX.thenR ?_)
                   | (with_reducible refine TX.blkR ?_)
                   | fail)
        all_goals exact TX.rt2 [] (.nil (by decide)) (.ren rfl)
      · rw [hq] at hcl hinv
        cases hct : (num.take i).contains num[i]
        · rw [hct] at hh hinv
          (with_reducible refine TC.draw (id := 6) true 17 17 ?_) <;> (with_reducible refine OD.st 0 ?_) <;> (with_reducible refine OD.st 1 ?_) <;> (with_reducible refine OD.st 2 ?_) <;> (with_reducible refine OD.st 3 ?_) <;> (with_reducible refine OD.st 4 ?_) <;> (with_reducible refine OD.c1 5 hcl Fn.ref03_class ?_) <;> (with_reducible refine OD.st 6 ?_) <;> (with_reducible refine OD.st 7 ?_) <;> (with_reducible refine OD.st 8 ?_) <;> (with_reducible refine OD.st 9 ?_) <;> (with_reducible refine OD.st 10 ?_) <;> (with_reducible refine OD.st 11 ?_) <;> (with_reducible refine OD.st 12 ?_) <;> (with_reducible refine OD.st 13 ?_) <;> (with_reducible refine OD.st 14 ?_) <;> (with_reducible refine OD.c1 15 hh Fn.ref03_Has ?_) <;> (with_reducible refine OD.st 16 ?_) <;> (with_reducible refine OD.dn ?_)
          all_goals repeat' (first
                     | (with_reducible refine OL.st ?_)
                     | (with_reducible refine TC.region ?_)
                     | (with_reducible refine OL.nil ?_)
                     | (with_reducible refine TX.thenN ?_)
                     | (with_reducible refine TC.skip ?_)
                     | (with_reducible refine TX.blkN ?_)
                     | (with_reducible refine TC.ifF ?_)
                     | fail)
          all_goals exact TX.rd (i + 1) [] ⟨by omega, by rw [hinv, take_succ hil]; simp⟩ (by omega)
        · rw [hct] at hh hinv
          obtain ⟨e1, e2⟩ := hfail (by rw [hso, hinv]; simp)
          rw [e1, e2]
          (with_reducible refine TC.draw (id := 6) true 17 17 ?_) <;> (with_reducible refine OD.st 0 ?_) <;> (with_reducible refine OD.st 1 ?_) <;> (with_reducible refine OD.st 2 ?_) <;> (with_reducible refine OD.st 3 ?_) <;> (with_reducible refine OD.st 4 ?_) <;> (with_reducible refine OD.c1 5 hcl Fn.ref03_class ?_) <;> (with_reducible refine OD.st 6 ?_) <;> (with_reducible refine OD.st 7 ?_) <;> (with_reducible refine OD.st 8 ?_) <;> (with_reducible refine OD.st 9 ?_) <;> (with_reducible refine OD.st 10 ?_) <;> (with_reducible refine OD.st 11 ?_) <;> (with_reducible refine OD.st 12 ?_) <;> (with_reducible refine OD.st 13 ?_) <;> (with_reducible refine OD.st 14 ?_) <;> (with_reducible refine OD.c1 15 hh Fn.ref03_Has ?_) <;> (with_reducible refine OD.st 16 ?_) <;> (with_reducible refine OD.dn ?_)
          all_goals repeat' (first
                     | (with_reducible refine OL.st ?_)
                     | (with_reducible refine TC.region ?_)
                     | (with_reducible refine TC.seq ?_)
                     | (with_reducible refine OL.nil ?_)
                     | (with_reducible refine TX.thenN ?_)
                     | (with_reducible refine TC.ifT ?_)
                     | (with_reducible refine TC.ret ?_)
                     | (with_reducible refine TX.thenR ?_)
                     | (with_reducible refine TX.blkR ?_)
                     | fail)
          all_goals exact TX.rt2 [] (.nil (by decide)) (.ren rfl)
    · rw [drop_nil (by omega), okPre] at hinv
      have hso' : spansOk g num = true := hso.trans hinv
      have hm : ∀ c ∈ num, 0 ≤ c ∧ c < 3 + (g.length : Int) := fun c hc => isClass_iff (((okPre_iff g num []).1 hinv).1 c hc).1
      rw [spansL, spansE, if_pos hso', if_pos hso']
      refine TC.adp 7 40 1 ?_
      refine TC.lp (fun c : Nat => [(0, rows g), (1, ints num), (7, .hs 0), (8, V.int c)]) (fun c => [.gs false 40 1 none (((upto c).map fun c => spanOf (fun b => upHas g b c) num 0 []).map spansA)])
        (fun c => c ≤ 3 + g.length) (fun c => 3 + g.length - c) 0 [0] (Nat.zero_le _) ?_
      rintro c hc
      have hcu := upto_length c
      repeat' (first
       | (with_reducible refine OL.st ?_)
       | (with_reducible refine TC.region ?_)
       | (with_reducible refine TC.seq ?_)
       | (with_reducible refine OL.nil ?_)
       | (with_reducible refine TX.thenN ?_)
       | (with_reducible refine TC.block ?_)
       | (with_reducible refine TC.skip ?_)
       | (with_reducible refine TC.exit ?_)
       | (with_reducible refine TX.hit ?_)
       | (with_reducible refine TX.thenX ?_)
       | (with_reducible refine TC.ifD ?_ ?_ <;> (intro hc; try (exfalso; omega)))
       | (with_reducible refine TC.ret ?_)
       | fail)
      · refine TC.adp 9 70 2 ?_
        refine TC.lp (fun s : Nat × List (Int × Int) => [(0, rows g), (1, ints num), (7, .hs 0), (8, V.int c), (9, .hs 1), (10, V.int s.1)]) (fun s => [.gs false 40 1 none (((upto c).map fun c => spanOf (fun b => upHas g b c) num 0 []).map spansA), .gs false 70 2 none (s.2.map spA)])
          (fun s => s.1 ≤ num.length ∧ s.2.length ≤ s.1 ∧ spanOf (fun b => upHas g b c) num 0 [] = spanOf (fun b => upHas g b c) (num.drop s.1) s.1 s.2) (fun s => num.length - s.1) (0, []) [0, 1] ⟨Nat.zero_le _, Nat.le_refl _, rfl⟩ ?_
        rintro ⟨i, l⟩ ⟨hi, hll, hinv⟩
        simp only at hi hll hinv ⊢
        by_cases hil : i < num.length
        · have hni := hm num[i] (List.getElem_mem _)
          rw [drop_cons hil, spanOf] at hinv
          have hb := s_belowOf hf (a := num[i]) (b := c) hni (by omega)
          repeat' (first
           | (with_reducible refine OL.st ?_)
           | (with_reducible refine TC.region ?_)
           | (with_reducible refine TC.seq ?_)
           | (with_reducible refine OL.nil ?_)
           | (with_reducible refine TX.thenN ?_)
           | (with_reducible refine TC.block ?_)
           | (with_reducible refine TC.skip ?_)
           | (with_reducible refine TC.ifD ?_ ?_ <;> (intro hc; try (exfalso; omega)))
           | fail)
          refine OL.c hb Fn.ref03_BelowOf ?_
          cases hu : upHas g num[i] c
          · rw [hu] at hinv
            simp only [Bool.false_eq_true, if_false] at hinv
            repeat' (first
             | (with_reducible refine OL.st ?_)
             | (with_reducible refine TC.region ?_)
             | (with_reducible refine OL.nil ?_)
             | (with_reducible refine TX.thenN ?_)
             | (with_reducible refine TC.exit ?_)
             | (with_reducible refine TX.hit ?_)
             | (with_reducible refine TX.thenX ?_)
             | (with_reducible refine TC.ifT ?_)
             | fail)
            exact TX.rd (i + 1, l) [0, 1] ⟨by omega, Nat.le_trans hll (Nat.le_succ _), by simpa using hinv⟩ (by omega)
          · rw [hu] at hinv
            simp only [if_true] at hinv
            have hsl := spanStep_length l i
            have hnext : num.length - (i + 1) < num.length - i := by omega
            have hlast : ∀ h : ((l.length : Int) - 1).toNat < l.length, l.getD (l.length - 1) (0, 0) = l[((l.length : Int) - 1).toNat] := by
              intro h
              have : ((l.length : Int) - 1).toNat = l.length - 1 := by omega
              rw [List.getD_eq_getElem?_getD, List.getElem?_eq_getElem (by omega)]
              simp only [this, Option.getD_some]
            have eB : ¬(0 < l.length ∧ (l.getD (l.length - 1) (0, 0)).2 = (i : Int) - 1) → l.map spA ++ [spA ((i : Int), (i : Int))] = (spanStep l i).map spA := by
              intro h
              rw [spanStep, if_neg h]; simp
            repeat' (first
             | (with_reducible refine OL.st ?_)
             | (with_reducible refine OL.lit ?_)
             | (with_reducible refine OL.appO ?_)
             | (with_reducible refine OL.build ?_)
             | (with_reducible refine TC.region ?_)
             | (with_reducible refine TC.seq ?_)
             | (with_reducible refine OL.nil ?_)
             | (with_reducible refine TX.thenN ?_)
             | (with_reducible refine TC.skip ?_)
             | (with_reducible refine TX.blkN ?_)
             | (with_reducible refine TC.ifF ?_)
             | (with_reducible refine OL.gOn ?_)
             | (with_reducible refine OL.gOff ?_)
             | (with_reducible refine TC.ifD ?_ ?_ <;> (intro hc; try (exfalso; omega)))
             | (with_reducible refine OL.gD ?_ ?_ <;> (intro hc; try (exfalso; omega)))
             | fail)
            · have hlt : ((l.length : Int) - 1).toNat < l.length := by omega
              have e : (l.map spA).set ((l.length : Int) - 1).toNat (.st [V.int l[((l.length : Int) - 1).toNat].1, V.int i]) = (spanStep l i).map spA := by
                rw [spanStep, if_pos ⟨by omega, by rw [hlast hlt]; omega⟩, hlast hlt, List.map_set]
                congr 1
                omega
              refine OL.storeE (e' := .st [V.int l[((l.length : Int) - 1).toNat].1, V.int i]) ?_
              repeat' (first
               | (with_reducible refine OL.st ?_)
               | (with_reducible refine TC.region ?_)
               | (with_reducible refine OL.nil ?_)
               | (with_reducible refine TX.thenN ?_)
               | (with_reducible refine TX.blkN ?_)
               | fail)
              exact TX.rd (i + 1, spanStep l i) [0, 1] ⟨by omega, Nat.le_trans hsl (by omega), by simpa using hinv⟩ hnext
            · have e := eB (fun h => by
                have hlt : ((l.length : Int) - 1).toNat < l.length := by omega
                rw [hlast hlt] at h; omega)
              exact TX.rd (i + 1, spanStep l i) [0, 3] ⟨by omega, Nat.le_trans hsl (by omega), by simpa using hinv⟩ hnext
            · have e := eB (fun h => by omega)
              exact TX.rd (i + 1, spanStep l i) [0, 3] ⟨by omega, Nat.le_trans hsl (by omega), by simpa using hinv⟩ hnext
        · rw [drop_nil (by omega), spanOf] at hinv
          have e : ((upto c).map fun c => spanOf (fun b => upHas g b c) num 0 []).map spansA ++ [spansA l] = ((upto (c + 1)).map fun c => spanOf (fun b => upHas g b c) num 0 []).map spansA := by
            rw [upto_succ, ← hinv]; simp
          repeat' (first
           | (with_reducible refine OL.st ?_)
           | (with_reducible refine OL.litV ?_)
           | (with_reducible refine OL.lit ?_)
           | (with_reducible refine OL.appO ?_)
           | (with_reducible refine TC.region ?_)
           | (with_reducible refine TC.seq ?_)
           | (with_reducible refine OL.nil ?_)
           | (with_reducible refine TX.thenN ?_)
           | (with_reducible refine TX.blkN ?_)
           | (with_reducible refine TC.exit ?_)
           | (with_reducible refine TX.hit ?_)
           | (with_reducible refine TX.thenX ?_)
           | (with_reducible refine TC.ifD ?_ ?_ <;> (intro hc; try (exfalso; omega)))
           | fail)
          exact TX.rd (c + 1) [3] (by omega) (by omega)
      · obtain rfl : c = 3 + g.length := by omega
        refine TX.vw 4 ?_
        exact TX.rt2 [] (.sl' rfl) (.int rfl)
/-- Equal lists of spans are found equal. -/
theorem same_s (S : List (List (Int × Int))) : V.Spec Try.prog Fc.ref03_SameSpans [spanRows S, spanRows S] [] (V.bool true) [] := by
  refine V.Spec.enter Try.tabOK Try.mixed Fn.ref03_SameSpans rfl rfl rfl fun B hB => ?_
  refine TC.bl 0 fun hSl => ?_
  repeat' (first
   | (with_reducible refine OL.st ?_)
   | (with_reducible refine TC.region ?_)
   | (with_reducible refine TC.seq ?_)
   | (with_reducible refine OL.nil ?_)
   | (with_reducible refine TX.thenN ?_)
   | (with_reducible refine TC.block ?_)
   | (with_reducible refine TC.skip ?_)
   | (with_reducible refine TC.ifD ?_ ?_ <;> (intro hc; try (exfalso; omega)))
   | fail)
  refine TC.lp (fun i : Nat => [(0, spanRows S), (1, spanRows S), (5, V.int i)]) (fun _ => []) (fun i => i ≤ S.length) (fun i => S.length - i) 0 [] (Nat.zero_le _) ?_
  rintro i hi
  repeat' (first
   | (with_reducible refine OL.st ?_)
   | (with_reducible refine TC.region ?_)
   | (with_reducible refine TC.seq ?_)
   | (with_reducible refine OL.nil ?_)
   | (with_reducible refine TX.thenN ?_)
   | (with_reducible refine TC.block ?_)
   | (with_reducible refine TC.skip ?_)
   | (with_reducible refine TC.exit ?_)
   | (with_reducible refine TX.hit ?_)
   | (with_reducible refine TX.thenX ?_)
   | (with_reducible refine TC.ifD ?_ ?_ <;> (intro hc; try (exfalso; omega)))
   | (with_reducible refine TC.ret ?_)
   | fail)
  · have hil : i < S.length := by omega
    repeat' (first
     | (with_reducible refine OL.st ?_)
     | (with_reducible refine TC.region ?_)
     | (with_reducible refine TC.seq ?_)
     | (with_reducible refine OL.nil ?_)
     | (with_reducible refine TX.thenN ?_)
     | (with_reducible refine TC.block ?_)
     | (with_reducible refine TC.skip ?_)
     | (with_reducible refine TC.ifD ?_ ?_ <;> (intro hc; try (exfalso; omega)))
     | ((with_reducible refine TC.draw (id := 6) true 11 11 ?_) <;> (with_reducible refine OD.st 0 ?_) <;> (with_reducible refine OD.st 1 ?_) <;> (with_reducible refine OD.st 2 ?_) <;> (with_reducible refine OD.st 3 ?_) <;> (with_reducible refine OD.st 4 ?_) <;> (with_reducible refine OD.st 5 ?_) <;> (with_reducible refine OD.st 6 ?_) <;> (with_reducible refine OD.st 7 ?_) <;> (with_reducible refine OD.st 8 ?_) <;> (with_reducible refine OD.st 9 ?_) <;> (with_reducible refine OD.st 10 ?_) <;> (with_reducible refine OD.dn ?_))
     | fail)
    refine TC.bl 21 fun hbl => ?_
    refine TC.lp (fun k : Nat => [(0, spanRows S), (1, spanRows S), (5, V.int i), (6, V.int k)]) (fun _ => []) (fun k => k ≤ S[i].length) (fun k => S[i].length - k) 0 [] (Nat.zero_le _) ?_
    rintro k hk
    repeat' (first
     | (with_reducible refine OL.st ?_)
     | (with_reducible refine TC.region ?_)
     | (with_reducible refine TC.seq ?_)
     | (with_reducible refine OL.nil ?_)
     | (with_reducible refine TX.thenN ?_)
     | (with_reducible refine TC.block ?_)
     | (with_reducible refine TC.skip ?_)
     | (with_reducible refine TX.blkN ?_)
     | (with_reducible refine TC.exit ?_)
     | (with_reducible refine TX.hit ?_)
     | (with_reducible refine TX.thenX ?_)
     | (with_reducible refine TC.ifD ?_ ?_ <;> (intro hc; try (exfalso; omega)))
     | fail)
    · have hkl : k < S[i].length := by omega
      (with_reducible refine TC.draw (id := 11) true 14 15 ?_) <;> (with_reducible refine OD.st 0 ?_) <;> (with_reducible refine OD.st 1 ?_) <;> (with_reducible refine OD.st 2 ?_) <;> (with_reducible refine OD.st 3 ?_) <;> (with_reducible refine OD.st 4 ?_) <;> (with_reducible refine OD.st 5 ?_) <;> (with_reducible refine OD.st 6 ?_) <;> (with_reducible refine OD.st 7 ?_) <;> (with_reducible refine OD.st 8 ?_) <;> (with_reducible refine OD.st 9 ?_) <;> (with_reducible refine OD.st 10 ?_) <;> (with_reducible refine OD.st 11 ?_) <;> (with_reducible refine OD.st 12 ?_) <;> (with_reducible refine OD.st 13 ?_) <;> (with_reducible refine OD.a1 14 ?_; refine OL.neS2 eqS70 ?_; rw [show (!(S[i][k].1 == S[i][k].1 && S[i][k].2 == S[i][k].2)) = false by simp]; with_reducible refine OL.nil ?_; with_reducible refine TX.od ?_) <;> (with_reducible refine OD.dn ?_)
      all_goals repeat' (first
                 | (with_reducible refine OL.st ?_)
                 | (with_reducible refine TC.region ?_)
                 | (with_reducible refine OL.nil ?_)
                 | (with_reducible refine TX.thenN ?_)
                 | (with_reducible refine TC.skip ?_)
                 | (with_reducible refine TX.blkN ?_)
                 | (with_reducible refine TC.ifF ?_)
                 | fail)
      all_goals exact TX.rd (k + 1) [] (by omega) (by omega)
    · exact TX.rd (i + 1) [] (by omega) (by omega)
  · exact TX.rt1 [] (.ren rfl)
set_option maxHeartbeats 1000000 in
theorem s_law03_LineSpans (g : List (List Int)) (num : List Int) (sp : List (Int × Int)) (at_ : Int) : V.Spec Try.prog Fc.law03_LineSpans [rows g, ints num, spansA sp, V.int at_] [] (V.bool true) [] := by
  refine V.Spec.enter Try.tabOK Try.mixed Fn.law03_LineSpans rfl rfl rfl fun B hB => ?_
  repeat' (first
   | (with_reducible refine OL.st ?_)
   | (with_reducible refine TC.region ?_)
   | (with_reducible refine TC.seq ?_)
   | (with_reducible refine OL.nil ?_)
   | (with_reducible refine TX.thenN ?_)
   | fail)
  refine OL.c (s_law03_wide g) Fn.law03_wide ?_
  cases hw : wideR g
  · have hgl : g.length ≤ 1000000 := by
      simp only [wideR, Bool.or_eq_false_iff, decide_eq_false_iff_not] at hw
      omega
    repeat' (first
     | (with_reducible refine OL.st ?_)
     | (with_reducible refine OL.lit ?_)
     | (with_reducible refine OL.gOn ?_)
     | fail)
    refine OL.vwA 0 ?_
    refine OL.c (s_law03_large [num]) Fn.law03_large ?_
    cases hl : largeR [num]
    · repeat' (first
       | (with_reducible refine OL.st ?_)
       | (with_reducible refine TC.region ?_)
       | (with_reducible refine TC.seq ?_)
       | (with_reducible refine OL.nil ?_)
       | (with_reducible refine TX.thenN ?_)
       | (with_reducible refine TC.skip ?_)
       | (with_reducible refine OL.gOn ?_)
       | (with_reducible refine TC.ifD ?_ ?_ <;> (intro hc; try (exfalso; omega)))
       | fail)
      · refine OL.c s_law03_works Fn.law03_works ?_
        repeat' (first
         | (with_reducible refine OL.st ?_)
         | (with_reducible refine OL.nil ?_)
         | (with_reducible refine TX.thenN ?_)
         | (with_reducible refine TC.ret ?_)
         | (with_reducible refine TX.thenR ?_)
         | fail)
        exact TX.rt1 [] (.ren rfl)
      · refine OL.c (s_line_Number g) Fn.line_Number ?_
        repeat' (first
         | (with_reducible refine OL.st ?_)
         | (with_reducible refine TC.region ?_)
         | (with_reducible refine TC.seq ?_)
         | (with_reducible refine OL.nil ?_)
         | (with_reducible refine TX.thenN ?_)
         | fail)
        refine OL.c (s_ref03_Number g) Fn.ref03_Number ?_
        repeat' (first
         | (with_reducible refine OL.st ?_)
         | (with_reducible refine TC.region ?_)
         | (with_reducible refine TC.seq ?_)
         | (with_reducible refine OL.nil ?_)
         | (with_reducible refine TX.thenN ?_)
         | fail)
        refine OL.c (s_line_Spans g num hgl) Fn.line_Spans ?_
        repeat' (first
         | (with_reducible refine OL.st ?_)
         | (with_reducible refine TC.region ?_)
         | (with_reducible refine TC.seq ?_)
         | (with_reducible refine OL.nil ?_)
         | (with_reducible refine TX.thenN ?_)
         | fail)
        refine OL.c (s_ref03_Spans g num) Fn.ref03_Spans ?_
        repeat' (first
         | (with_reducible refine OL.st ?_)
         | (with_reducible refine TC.region ?_)
         | (with_reducible refine TC.seq ?_)
         | (with_reducible refine OL.nil ?_)
         | (with_reducible refine TX.thenN ?_)
         | fail)
        refine OL.c (s_line_In sp at_) Fn.line_In ?_
        repeat' (first
         | (with_reducible refine OL.st ?_)
         | (with_reducible refine TC.region ?_)
         | (with_reducible refine TC.seq ?_)
         | (with_reducible refine OL.nil ?_)
         | (with_reducible refine TX.thenN ?_)
         | fail)
        refine OL.c (s_ref03_In sp at_) Fn.ref03_In ?_
        repeat' (first
         | (with_reducible refine OL.st ?_)
         | (with_reducible refine TC.region ?_)
         | (with_reducible refine TC.seq ?_)
         | (with_reducible refine OL.nil ?_)
         | (with_reducible refine TX.thenN ?_)
         | fail)
        refine OL.c (same_t (numL g)) Fn.ref03_Same ?_
        repeat' (first
         | (with_reducible refine OL.st ?_)
         | (with_reducible refine OL.gOn ?_)
         | (with_reducible refine OL.gD ?_ ?_ <;> (intro hc; try (exfalso; omega)))
         | fail)
        refine OL.c (same_s (spansL g num)) Fn.ref03_SameSpans ?_
        repeat' (first
         | (with_reducible refine OL.st ?_)
         | (with_reducible refine OL.gOn ?_)
         | (with_reducible refine OL.gD ?_ ?_ <;> (intro hc; try (exfalso; omega)))
         | fail)
        refine OL.eqBl Try.underlying4 ?_
        rw [beq_self_eq_true]
        repeat' (first
         | (with_reducible refine OL.st ?_)
         | (with_reducible refine OL.gOn ?_)
         | (with_reducible refine OL.gD ?_ ?_ <;> (intro hc; try (exfalso; omega)))
         | fail)
        refine OL.c s_law03_works Fn.law03_works ?_
        repeat' (first
         | (with_reducible refine OL.st ?_)
         | (with_reducible refine OL.nil ?_)
         | (with_reducible refine TX.thenN ?_)
         | (with_reducible refine TC.ret ?_)
         | fail)
        exact TX.rt1 [] (.ren rfl)
    · repeat' (first
       | (with_reducible refine OL.st ?_)
       | (with_reducible refine TC.region ?_)
       | (with_reducible refine TC.seq ?_)
       | (with_reducible refine OL.nil ?_)
       | (with_reducible refine TX.thenN ?_)
       | (with_reducible refine TC.ifT ?_)
       | (with_reducible refine OL.gOff ?_)
       | fail)
      refine OL.c s_law03_works Fn.law03_works ?_
      repeat' (first
       | (with_reducible refine OL.st ?_)
       | (with_reducible refine OL.nil ?_)
       | (with_reducible refine TX.thenN ?_)
       | (with_reducible refine TC.ret ?_)
       | (with_reducible refine TX.thenR ?_)
       | fail)
      exact TX.rt1 [] (.ren rfl)
  · repeat' (first
     | (with_reducible refine OL.st ?_)
     | (with_reducible refine TC.region ?_)
     | (with_reducible refine TC.seq ?_)
     | (with_reducible refine OL.nil ?_)
     | (with_reducible refine TX.thenN ?_)
     | (with_reducible refine TC.ifT ?_)
     | (with_reducible refine OL.gOff ?_)
     | fail)
    refine OL.c s_law03_works Fn.law03_works ?_
    repeat' (first
     | (with_reducible refine OL.st ?_)
     | (with_reducible refine OL.nil ?_)
     | (with_reducible refine TX.thenN ?_)
     | (with_reducible refine TC.ret ?_)
     | (with_reducible refine TX.thenR ?_)
     | fail)
    exact TX.rt1 [] (.ren rfl)
end Go.Proofs
