/- Part 2 of what the claim is proved by: lemmas on the model and walks through functions of the program; no conditions. -/
import Derived.Test.YthoblhbdeamjmaaRows
import Derived.Test.YthoblhbdeamjmaaV8
import Derived.Test.YthoblhbdeamjmaaV11
import Derived.WalkKit
import Derived.ProofKit
import Derived.OpenShut
import Derived.ChangeSame
import Derived.Test.YthoblhbdeamjmaaV12
import Derived.Test.YthoblhbdeamjmaaW1
import Derived.Test.YthoblhbdeamjmaaV13
/- What the rows of all laws need of the program. -/
namespace Go.Proofs.Ythoblhbdeamjmaa
open Go Go.V Go.ChangeShapes Go.WideShapes Go.ChangeAt Go.RowKit Go.Deep
theorem lOwn : ownKnob Try.prog.godebug = none := by kernel_rfl
theorem lLaid : laidOutB Try.prog = true := by kernel_rfl
theorem lCells25 : Try.prog.cellsOf 25 = 1 := by kernel_rfl
theorem lCells3 : Try.prog.cellsOf 3 = 1 := by kernel_rfl
theorem lCells5 : Try.prog.cellsOf 5 = 1 := by kernel_rfl
theorem lCells70 : Try.prog.cellsOf 70 = 2 := by kernel_rfl
end Go.Proofs.Ythoblhbdeamjmaa
/- Plain laws on what is above a class. -/
namespace Go.Proofs
open Go Go.W Go.V
theorem foldl_or_bit {α : Type} (f : α → Nat) (b : Nat) : ∀ (l : List α) (s : Nat), (l.foldl (fun s p => s ||| f p) s).testBit b = (s.testBit b || l.any fun p => (f p).testBit b)
  | [], s => by simp
  | p :: r, s => by rw [List.foldl_cons, foldl_or_bit f b r, Nat.testBit_or, List.any_cons, Bool.or_assoc]
theorem setWith_bit (x c b : Nat) : (setWith x c).testBit b = (x.testBit b || decide (c = b)) := by
  rw [setWith, Nat.testBit_or, Nat.one_shiftLeft, Nat.testBit_two_pow]
theorem foldl_congr_mem {α β : Type} {f f' : β → α → β} : ∀ (l : List α) (s : β), (∀ a ∈ l, ∀ s, f s a = f' s a) → l.foldl f s = l.foldl f' s
  | [], _, _ => rfl
  | a :: r, s, h => by rw [List.foldl_cons, List.foldl_cons, h a (by simp), foldl_congr_mem r _ (fun b hb => h b (by simp [hb]))]
theorem upOf_eq (us : List Nat) (ps : List Int) (c : Nat) : upOf us ps c = ps.foldl (fun s p => s ||| us.getD p.toNat 0) (setWith (setWith 0 c) 0) := by rw [upOf, upK, List.take_length]
theorem upsF_pre : ∀ (r : List (List Int)) (us : List Nat) (i : Nat), i < us.length → (upsF us r)[i]? = us[i]?
  | [], _, _, _ => rfl
  | p :: r, us, i, h => by rw [upsF, upsF_pre r _ i (by simp; omega), List.getElem?_append_left h]
theorem upsF_get : ∀ (r : List (List Int)) (us : List Nat) (k : Nat) (ps : List Int), r[k]? = some ps → (∀ p ∈ ps, p.toNat < us.length + k) → (upsF us r)[us.length + k]? = some (upOf (upsF us r) ps (us.length + k))
  | [], us, k, ps, h, _ => by simp at h
  | q :: r, us, 0, ps, h, hp => by
    simp at h; subst h
    have e1 : (us ++ [upOf us q us.length])[us.length]? = some (upOf us q us.length) := by simp
    rw [Nat.add_zero, upsF, upsF_pre r _ us.length (by simp), e1]
    congr 1
    rw [upOf_eq, upOf_eq]
    refine foldl_congr_mem _ _ fun p hpm s => ?_
    have hlt : p.toNat < us.length := by have := hp p hpm; omega
    rw [List.getD_eq_getElem?_getD, List.getD_eq_getElem?_getD, upsF_pre r _ p.toNat (by simp; omega), List.getElem?_append_left hlt]
  | q :: r, us, k + 1, ps, h, hp => by
    have := upsF_get r (us ++ [upOf us q us.length]) k ps (by simpa using h) (fun p hpm => by have := hp p hpm; simp; omega)
    simp only [List.length_append, List.length_cons, List.length_nil, Nat.zero_add] at this
    rw [show us.length + 1 + k = us.length + (k + 1) by omega] at this
    exact this
theorem ups_get {g : List (List Int)} (hf : fine g = true) {c : Nat} (hc : c < 3 + g.length) : (ups g).getD c 0 = upOf (ups g) (pOf g c) c := by
  have h := upsF_get (parentsOf g) [] c (pOf g c) (parentsOf_get hc) (fun p hp => by
    have := (fine_pOf hf (c := (c : Int)) (by omega)).2.1 p hp
    simp; omega)
  rw [List.length_nil, Nat.zero_add] at h
  rw [List.getD_eq_getElem?_getD, ups, h]; rfl
/-- What is above a class: it, 0, and what is above its parents. -/
theorem upHas_step {g : List (List Int)} (hf : fine g = true) {a : Nat} (ha : a < 3 + g.length) {b : Int} (h0 : 0 ≤ b) (h1 : b < 64) : upHas g a b = (decide (b = a) || decide (b = 0) || (pOf g a).any fun p => upHas g p b) := by
  have e : ∀ x : Nat, hasB x b = x.testBit b.toNat := fun x => by simp [hasB, h0, h1]
  have h2 : (pOf g a).any (fun p => upHas g p b) = (pOf g a).any (fun p => ((ups g).getD p.toNat 0).testBit b.toNat) := by
    congr 1; funext p; rw [upHas, e]
  have d1 : decide (b = (a : Int)) = decide (a = b.toNat) := by simp only [decide_eq_decide]; omega
  have d2 : decide (b = 0) = decide (0 = b.toNat) := by simp only [decide_eq_decide]; omega
  rw [h2, upHas, e, Int.toNat_natCast, ups_get hf ha, upOf_eq, foldl_or_bit, setWith_bit, setWith_bit, Nat.zero_testBit, Bool.false_or, d1, d2]
theorem upHas_self {g : List (List Int)} (hf : fine g = true) {a : Nat} (ha : a < 3 + g.length) : upHas g a a = true := by
  have := fine_len hf
  rw [upHas_step hf ha (by omega) (by omega)]; simp
theorem upHas_zero {g : List (List Int)} (hf : fine g = true) {a : Nat} (ha : a < 3 + g.length) : upHas g a 0 = true := by
  rw [upHas_step hf ha (by omega) (by omega)]; simp
theorem upHas_down {g : List (List Int)} (hf : fine g = true) : ∀ (n a : Nat), a < n → a < 3 + g.length → ∀ b : Int, 0 ≤ b → b < 64 → upHas g a b = true → b = 0 ∨ b = a ∨ (3 ≤ b ∧ b < a) := by
  intro n
  induction n with
  | zero => intro a h; omega
  | succ n ih =>
    intro a han ha b h0 h1 h
    rw [upHas_step hf ha h0 h1] at h
    simp only [Bool.or_eq_true, decide_eq_true_eq, List.any_eq_true] at h
    rcases h with (h | h) | ⟨p, hp, h⟩
    · exact .inr (.inl h)
    · exact .inl h
    · have hpp := (fine_pOf hf (c := (a : Int)) (by omega)).2.1 p hp
      obtain ⟨q, rfl⟩ : ∃ q : Nat, p = (q : Int) := ⟨p.toNat, by omega⟩
      rcases ih q (by omega) (by omega) b h0 h1 h with e | e | e
      · exact .inl e
      · right; right; omega
      · right; right; omega
theorem upHas_le {g : List (List Int)} (hf : fine g = true) {a : Nat} (ha : a < 3 + g.length) {b : Int} (h0 : 0 ≤ b) (h1 : b < 64) (h : upHas g a b = true) : b = 0 ∨ b = a ∨ (3 ≤ b ∧ b < a) := upHas_down hf (a + 1) a (by omega) ha b h0 h1 h
/-! ### The reference's marks -/
def markPs (ab : List Bool) (ps : List Int) : List Bool := ps.foldl (fun ab p => ab.set p.toNat true) ab
def markTo (g : List (List Int)) (b : Nat) : Nat → List Bool → List Bool
  | 0, ab => ab
  | c + 1, ab => if b < c + 1 then markTo g b c (if ab.getD (c + 1) false then markPs ab (pOf g ((c + 1 : Nat) : Int)) else ab) else ab
theorem markPs_length : ∀ (ps : List Int) (ab : List Bool), (markPs ab ps).length = ab.length
  | [], _ => rfl
  | p :: r, ab => by rw [markPs, List.foldl_cons]; exact (markPs_length r _).trans (by simp)
theorem getD_set_true (ab : List Bool) (p x : Nat) (hp : p < ab.length) : (ab.set p true).getD x false = (ab.getD x false || decide (x = p)) := by
  rw [List.getD_eq_getElem?_getD, List.getD_eq_getElem?_getD, List.getElem?_set]
  by_cases h : p = x
  · subst h; simp [hp]
  · have : ¬ x = p := fun e => h e.symm
    simp [h, this]
theorem markPs_get : ∀ (ps : List Int) (ab : List Bool) (x : Nat), (∀ p ∈ ps, 0 ≤ p ∧ p.toNat < ab.length) → (markPs ab ps).getD x false = (ab.getD x false || ps.any fun p => p == (x : Int))
  | [], ab, x, _ => by simp [markPs]
  | p :: r, ab, x, h => by
    have hp := h p (by simp)
    have := markPs_get r (ab.set p.toNat true) x (fun q hq => by simpa using h q (by simp [hq]))
    rw [markPs, List.foldl_cons]
    rw [markPs] at this
    rw [this, getD_set_true _ _ _ hp.2, List.any_cons, Bool.or_assoc]
    congr 2
    rw [Bool.eq_iff_iff]; simp; omega
theorem markTo_law {g : List (List Int)} (hf : fine g = true) {b : Nat} (hb : 3 ≤ b) : ∀ (c : Nat) (ab : List Bool), b ≤ c → c < 3 + g.length → c < ab.length →
    ((markTo g b c ab).getD b false = true ↔ ∃ x : Nat, b ≤ x ∧ x ≤ c ∧ ab.getD x false = true ∧ upHas g x b = true) := by
  have h16 := fine_len hf
  intro c
  induction c with
  | zero => intro ab h; omega
  | succ c ih =>
    intro ab hbc hc hl
    simp only [markTo]
    have hps : ∀ p ∈ pOf g ((c + 1 : Nat) : Int), 3 ≤ p ∧ p < ((c + 1 : Nat) : Int) := (fine_pOf hf (c := ((c + 1 : Nat) : Int)) (by omega)).2.1
    by_cases h : b < c + 1
    · rw [if_pos h]
      by_cases hm : ab.getD (c + 1) false = true
      · rw [if_pos hm, ih _ (by omega) (by omega) (by rw [markPs_length]; omega)]
        have hg : ∀ x, (markPs ab (pOf g ((c + 1 : Nat) : Int))).getD x false = (ab.getD x false || (pOf g ((c + 1 : Nat) : Int)).any fun p => p == (x : Int)) := fun x => markPs_get _ _ _ fun p hp => by have := hps p hp; omega
        have hst := upHas_step hf hc (b := (b : Int)) (by omega) (by omega)
        constructor
        · rintro ⟨x, h1, h2, h3, h4⟩
          rw [hg] at h3
          simp only [Bool.or_eq_true, List.any_eq_true, beq_iff_eq] at h3
          rcases h3 with h3 | ⟨p, hp, rfl⟩
          · exact ⟨x, h1, by omega, h3, h4⟩
          · refine ⟨c + 1, by omega, Nat.le_refl _, hm, ?_⟩
            rw [hst]
            simp only [Bool.or_eq_true, List.any_eq_true]
            exact .inr ⟨_, hp, h4⟩
        · rintro ⟨x, h1, h2, h3, h4⟩
          by_cases e : x = c + 1
          · subst e
            rw [hst] at h4
            simp only [Bool.or_eq_true, decide_eq_true_eq, List.any_eq_true] at h4
            rcases h4 with (h4 | h4) | ⟨p, hp, h4⟩
            · omega
            · omega
            · have hpp := hps p hp
              obtain ⟨q, rfl⟩ : ∃ q : Nat, p = (q : Int) := ⟨p.toNat, by omega⟩
              have := upHas_le hf (a := q) (by omega) (b := (b : Int)) (by omega) (by omega) h4
              refine ⟨q, by omega, by omega, ?_, h4⟩
              rw [hg]
              simp only [Bool.or_eq_true, List.any_eq_true, beq_iff_eq]
              exact .inr ⟨_, hp, rfl⟩
          · exact ⟨x, h1, by omega, by rw [hg, h3]; rfl, h4⟩
      · rw [if_neg hm, ih _ (by omega) (by omega) (by omega)]
        constructor
        · rintro ⟨x, h1, h2, h3, h4⟩; exact ⟨x, h1, by omega, h3, h4⟩
        · rintro ⟨x, h1, h2, h3, h4⟩
          have : x ≠ c + 1 := fun e => by subst e; exact hm h3
          exact ⟨x, h1, by omega, h3, h4⟩
    · rw [if_neg h]
      obtain rfl : b = c + 1 := by omega
      constructor
      · intro h1; exact ⟨c + 1, Nat.le_refl _, Nat.le_refl _, h1, upHas_self hf hc⟩
      · rintro ⟨x, h1, h2, h3, _⟩
        obtain rfl : x = c + 1 := by omega
        exact h3
def mark0 (a : Nat) : List Bool := (List.replicate 19 false).set a true
theorem below_law {g : List (List Int)} (hf : fine g = true) {a b : Nat} (ha : a < 3 + g.length) (hb : 3 ≤ b) (hb6 : b < 64) (hne : a ≠ b) : (markTo g b a (mark0 a)).getD b false = upHas g a b := by
  have h16 := fine_len hf
  have hm : ∀ x : Nat, (mark0 a).getD x false = decide (x = a) := fun x => by
    rw [mark0, getD_set_true _ _ _ (by simp; omega)]
    have : (List.replicate 19 false).getD x false = false := by
      rw [List.getD_eq_getElem?_getD, List.getElem?_replicate]; split <;> rfl
    rw [this, Bool.false_or]
  by_cases hab : b ≤ a
  · rw [Bool.eq_iff_iff, markTo_law hf hb a _ hab ha (by simp [mark0]; omega)]
    constructor
    · rintro ⟨x, h1, h2, h3, h4⟩
      rw [hm] at h3
      have : x = a := by simpa using h3
      subst this; exact h4
    · intro h; exact ⟨a, hab, Nat.le_refl _, by rw [hm]; simp, h⟩
  · have e : upHas g a b = false := by
      cases h : upHas g a b with
      | false => rfl
      | true => have := upHas_le hf ha (b := (b : Int)) (by omega) (by omega) h; omega
    have hmt : markTo g b a (mark0 a) = mark0 a := by
      cases a with
      | zero => rfl
      | succ a => rw [markTo, if_neg (by omega)]
    rw [e, hmt, hm]; simp; omega
theorem upHas_small {g : List (List Int)} (hf : fine g = true) {a b : Nat} (ha : a < 3 + g.length) (hb : b < 64) (hne : a ≠ b) (hb0 : b ≠ 0) (h : a < 3 ∨ b < 3) : upHas g a b = false := by
  cases hq : upHas g a b with
  | false => rfl
  | true => have := upHas_le hf ha (b := (b : Int)) (by omega) (by omega) hq; omega
end Go.Proofs
/- What the reference says of below and above. -/
namespace Go.Proofs
open Go Go.W Go.V
theorem markPs_succ (ab : List Bool) (ps : List Int) {i : Nat} (h : i < ps.length) : markPs ab (ps.take (i + 1)) = (markPs ab (ps.take i)).set ps[i].toNat true := by
  rw [markPs, take_succ h, List.foldl_append]; rfl
theorem s_ref03_BelowOf {g : List (List Int)} (hf : fine g = true) {a b : Nat} (ha : a < 3 + g.length) (hb : b < 3 + g.length) : V.Spec Try.prog Fc.ref03_BelowOf [rows g, V.int a, V.int b] [] (V.bool (upHas g a b)) [] := by
  have h16 := fine_len hf
  refine V.Spec.enter Try.tabOK Try.mixed Fn.ref03_BelowOf rfl rfl rfl fun B hB => ?_
  repeat' (first
   | (with_reducible refine OL.st ?_)
   | (with_reducible refine OL.alloc ?_)
   | (with_reducible refine TC.region ?_)
   | (with_reducible refine TC.seq ?_)
   | (with_reducible refine OL.nil ?_)
   | (with_reducible refine TX.thenN ?_)
   | (with_reducible refine TC.skip ?_)
   | (with_reducible refine TC.ifT ?_)
   | (with_reducible refine OL.gOn ?_)
   | (with_reducible refine OL.gOff ?_)
   | (with_reducible refine TC.ifD ?_ ?_ <;> (intro hc; try (exfalso; omega)))
   | (with_reducible refine OL.gD ?_ ?_ <;> (intro hc; try (exfalso; omega)))
   | (with_reducible refine TC.ret ?_)
   | (with_reducible refine TX.thenR ?_)
   | fail)
  · obtain rfl : a = b := by omega
    rw [upHas_self hf ha]
    exact TX.rt1 [] (.ren rfl)
  · obtain rfl : b = 0 := by omega
    have e : upHas g a ((0 : Nat) : Int) = true := upHas_zero hf ha
    rw [e]
    exact TX.rt1 [] (.ren rfl)
  · have e : upHas g a b = false := upHas_small hf ha (by omega) (by omega) (by omega) (.inl (by omega))
    rw [e]
    exact TX.rt1 [] (.ren rfl)
  · have e : upHas g a b = false := upHas_small hf ha (by omega) (by omega) (by omega) (.inr (by omega))
    rw [e]
    exact TX.rt1 [] (.ren rfl)
  · have hl0 : (mark0 a).length = 19 := by simp [mark0]
    refine OL.eqη (η' := [.cb 111 ((List.replicate 19 false).map V.bool)]) rfl ?_
    refine OL.idxB (len := 19) a rfl (by omega) ?_
    refine OL.stB (n := a) (ab := List.replicate 19 false) (by simp; omega) ?_
    repeat' (first
     | (with_reducible refine OL.st ?_)
     | (with_reducible refine TC.region ?_)
     | (with_reducible refine TC.seq ?_)
     | (with_reducible refine OL.nil ?_)
     | (with_reducible refine TX.thenN ?_)
     | (with_reducible refine TC.block ?_)
     | fail)
    refine TC.lp (fun s : Nat × List Bool => [(0, rows g), (2, V.int b), (7, .bp 0 0), (8, V.int s.1)]) (fun s => [.cb 111 (s.2.map V.bool)]) (fun s => s.2.length = 19 ∧ s.1 < 3 + g.length ∧ markTo g b s.1 s.2 = markTo g b a (mark0 a)) (fun s => s.1) (a, mark0 a) [0] ⟨hl0, ha, rfl⟩ ?_ (ho := ⟨⟨_, rfl, OE.bools rfl⟩, trivial⟩)
    rintro ⟨c, ab⟩ ⟨hl, hc, hinv⟩
    dsimp only at hl hc hinv ⊢
    repeat' (first
     | (with_reducible refine OL.st ?_)
     | (with_reducible refine TC.region ?_)
     | (with_reducible refine TC.seq ?_)
     | (with_reducible refine OL.nil ?_)
     | (with_reducible refine TX.thenN ?_)
     | (with_reducible refine TC.block ?_)
     | (with_reducible refine TC.skip ?_)
     | (with_reducible refine TC.exit ?_)
     | (with_reducible refine TX.hit ?_)
     | (with_reducible refine TX.thenX ?_)
     | (with_reducible refine TC.ifD ?_ ?_ <;> (intro hc; try (exfalso; omega)))
     | fail)
    · obtain ⟨c, rfl⟩ : ∃ c', c = c' + 1 := ⟨c - 1, by omega⟩
      rw [markTo, if_pos (by omega)] at hinv
      have hps := fine_pOf hf (c := ((c + 1 : Nat) : Int)) (by omega)
      have hpg : ∀ h : ((c + 1 : Nat) - 3 : Int).toNat < g.length, g[((c + 1 : Nat) - 3 : Int).toNat]'h = pOf g ((c + 1 : Nat) : Int) := fun h => by
        rw [pOf_ge (by omega), getD_lt h]
      generalize hpe : pOf g ((c + 1 : Nat) : Int) = ps at *
      refine TC.lp (fun i : Nat => [(0, rows g), (2, V.int b), (7, .bp 0 0), (8, V.int ((c + 1 : Nat) : Int)), (9, V.int i)]) (fun i => [.cb 111 ((markPs ab (ps.take i)).map V.bool)]) (fun i => i ≤ ps.length ∧ (ab.getD (c + 1) false = false → i = 0)) (fun i => ps.length - i) 0 [0] ⟨Nat.zero_le _, fun _ => rfl⟩ ?_ (ho := ⟨⟨_, rfl, OE.bools rfl⟩, trivial⟩)
      rintro i ⟨hi, hz⟩
      have hml := markPs_length (ps.take i) ab
      have hmc : (markPs ab (ps.take i)).getD (c + 1) false = ab.getD (c + 1) false := by
        rw [markPs_get _ _ _ fun p hp => by have := hps.2.1 p (List.mem_of_mem_take hp); omega]
        have : (ps.take i).any (fun p => p == ((c + 1 : Nat) : Int)) = false := by
          rw [List.any_eq_false]
          intro p hp
          have := hps.2.1 p (List.mem_of_mem_take hp)
          simp; omega
        rw [this, Bool.or_false]
      repeat' (first
       | (with_reducible refine OL.st ?_)
       | (with_reducible refine TC.region ?_)
       | (with_reducible refine TC.seq ?_)
       | fail)
      refine OL.idxB (len := 19) (c + 1) rfl (by omega) ?_
      refine OL.ldB (n := c + 1) (ab := markPs ab (ps.take i)) (by omega) ?_
      rw [hmc]
      cases hm : ab.getD (c + 1) false
      · obtain rfl : i = 0 := hz hm
        rw [hm, if_neg (by decide)] at hinv
        repeat' (first
         | (with_reducible refine OL.st ?_)
         | (with_reducible refine TC.region ?_)
         | (with_reducible refine OL.nil ?_)
         | (with_reducible refine TX.thenN ?_)
         | (with_reducible refine TX.blkN ?_)
         | (with_reducible refine TC.exit ?_)
         | (with_reducible refine TX.hit ?_)
         | (with_reducible refine TX.thenX ?_)
         | (with_reducible refine TC.ifF ?_)
         | (with_reducible refine OL.gOff ?_)
         | fail)
        exact TX.rd (c, ab) [0] ⟨hl, by dsimp only; omega, hinv⟩ (by dsimp only; omega) (ho := ⟨⟨_, rfl, OE.bools rfl⟩, trivial⟩)
      · rw [hm, if_pos rfl] at hinv
        have hlt3 : ((c + 1 : Nat) - 3 : Int).toNat < g.length := by omega
        have hpi := hpg hlt3
        repeat' (first
         | (with_reducible refine OL.st ?_)
         | (with_reducible refine TC.region ?_)
         | (with_reducible refine TC.seq ?_)
         | (with_reducible refine OL.nil ?_)
         | (with_reducible refine TX.thenN ?_)
         | (with_reducible refine TC.block ?_)
         | (with_reducible refine TC.skip ?_)
         | (with_reducible refine TX.blkN ?_)
         | (with_reducible refine TC.exit ?_)
         | (with_reducible refine TX.hit ?_)
         | (with_reducible refine TX.thenX ?_)
         | (with_reducible refine OL.gOn ?_)
         | (with_reducible refine TC.ifD ?_ ?_ <;> (intro hc; try (exfalso; omega)))
         | fail)
        · simp only [hpi] at hc ⊢
          have hpb := hps.2.1 ps[i] (List.getElem_mem (by omega))
          refine OL.idxB (len := 19) (j := ps[i]'(by omega)) (ps[i]'(by omega)).toNat (by omega) (by omega) ?_
          refine OL.stB (n := (ps[i]'(by omega)).toNat) (ab := markPs ab (ps.take i)) (by omega) ?_
          rw [← markPs_succ ab ps (by omega)]
          repeat' (first
           | (with_reducible refine OL.st ?_)
           | (with_reducible refine TC.region ?_)
           | (with_reducible refine OL.nil ?_)
           | (with_reducible refine TX.thenN ?_)
           | (with_reducible refine TX.blkN ?_)
           | fail)
          exact TX.rd (i + 1) [0] ⟨by omega, fun h => by first | cases h | (rw [hm] at h; cases h)⟩ (by omega) (ho := ⟨⟨_, rfl, OE.bools rfl⟩, trivial⟩)
        · simp only [hpi] at hc
          exact TX.rd (c, markPs ab ps) [0] ⟨by dsimp only; rw [markPs_length]; exact hl, by dsimp only; omega, hinv⟩ (by dsimp only; omega) (ho := ⟨⟨_, rfl, OE.bools (by rw [take_all (by omega)])⟩, trivial⟩)
    · have e : ab.getD b false = upHas g a b := by
        rw [← below_law hf ha (by omega) (by omega) (by omega), ← hinv]
        cases c with
        | zero => rfl
        | succ c => rw [markTo, if_neg (by omega)]
      refine OL.idxB (len := 19) b rfl (by omega) ?_
      refine OL.ldB (n := b) (ab := ab) (by omega) ?_
      rw [e]
      repeat' (first
       | (with_reducible refine OL.st ?_)
       | (with_reducible refine OL.nil ?_)
       | (with_reducible refine TX.thenN ?_)
       | (with_reducible refine TC.ret ?_)
       | fail)
      exact TX.rt1 [] (.ren rfl)
theorem s_belowOf {g : List (List Int)} (hf : fine g = true) {a b : Int} (ha : 0 ≤ a ∧ a < 3 + (g.length : Int)) (hb : 0 ≤ b ∧ b < 3 + (g.length : Int)) : V.Spec Try.prog Fc.ref03_BelowOf [rows g, V.int a, V.int b] [] (V.bool (upHas g a b)) [] := by
  obtain ⟨a, rfl⟩ := Int.eq_ofNat_of_zero_le ha.1
  obtain ⟨b, rfl⟩ := Int.eq_ofNat_of_zero_le hb.1
  exact s_ref03_BelowOf hf (by omega) (by omega)
/-- The classes of which something is so. -/
def clsL (g : List (List Int)) (p : Int → Bool) : List Int := (upto (3 + g.length)).filter p
theorem upto_filter_succ (p : Int → Bool) (n : Nat) : (upto (n + 1)).filter p = (upto n).filter p ++ (if p n then [(n : Int)] else []) := by
  rw [upto_succ, List.filter_append, List.filter_cons, List.filter_nil]
theorem s_ref03_AboveOf {g : List (List Int)} (hf : fine g = true) {c : Int} (hcc : 0 ≤ c ∧ c < 3 + (g.length : Int)) : V.Spec Try.prog Fc.ref03_AboveOf [rows g, V.int c] [] (ints (clsL g (upHas g c))) [] := by
  have h16 := fine_len hf
  refine V.Spec.enter Try.tabOK Try.mixed Fn.ref03_AboveOf rfl rfl rfl fun B hB => ?_
  repeat' (first
   | (with_reducible refine OL.st ?_)
   | (with_reducible refine TC.region ?_)
   | (with_reducible refine TC.seq ?_)
   | (with_reducible refine OL.nil ?_)
   | (with_reducible refine TX.thenN ?_)
   | (with_reducible refine TC.block ?_)
   | fail)
  refine TC.adp 5 Tc.int 1 ?_
  refine TC.lp (fun b : Nat => [(0, rows g), (1, V.int c), (5, .hs 0), (6, V.int b)]) (fun b => [.gs false Tc.int 1 none (((upto b).filter (upHas g c)).map V.int)]) (fun b => b ≤ 3 + g.length) (fun b => 3 + g.length - b) 0 [0] (Nat.zero_le _) ?_
  rintro b hb
  have hle : ((upto b).filter (upHas g c)).length ≤ b := Nat.le_trans (List.length_filter_le _ _) (by rw [upto_length]; exact Nat.le_refl _)
  repeat' (first
   | (with_reducible refine OL.st ?_)
   | (with_reducible refine TC.region ?_)
   | (with_reducible refine TC.seq ?_)
   | (with_reducible refine OL.nil ?_)
   | (with_reducible refine TX.thenN ?_)
   | (with_reducible refine TC.block ?_)
   | (with_reducible refine TC.skip ?_)
   | (with_reducible refine TC.exit ?_)
   | (with_reducible refine TX.hit ?_)
   | (with_reducible refine TX.thenX ?_)
   | (with_reducible refine TC.ifD ?_ ?_ <;> (intro hc; try (exfalso; omega)))
   | (with_reducible refine TC.ret ?_)
   | fail)
  · refine OL.c (s_belowOf hf hcc (b := b) (by omega)) Fn.ref03_BelowOf ?_
    have e := congrArg (List.map V.int) (upto_filter_succ (upHas g c) b)
    rw [List.map_append] at e
    cases hu : upHas g c b
    · rw [hu] at e
      replace e : ((upto b).filter (upHas g c)).map V.int = ((upto (b + 1)).filter (upHas g c)).map V.int := by simpa using e.symm
      repeat' (first
       | (with_reducible refine OL.st ?_)
       | (with_reducible refine TC.region ?_)
       | (with_reducible refine OL.nil ?_)
       | (with_reducible refine TX.thenN ?_)
       | (with_reducible refine TC.skip ?_)
       | (with_reducible refine TX.blkN ?_)
       | (with_reducible refine TC.ifF ?_)
       | fail)
      exact TX.rd (b + 1) [0] (by omega) (by omega)
    · rw [hu] at e
      replace e : ((upto b).filter (upHas g c)).map V.int ++ [V.int b] = ((upto (b + 1)).filter (upHas g c)).map V.int := e.symm
      repeat' (first
       | (with_reducible refine OL.st ?_)
       | (with_reducible refine OL.lit ?_)
       | (with_reducible refine OL.appO ?_)
       | (with_reducible refine TC.region ?_)
       | (with_reducible refine OL.nil ?_)
       | (with_reducible refine TX.thenN ?_)
       | (with_reducible refine TX.blkN ?_)
       | (with_reducible refine TC.ifT ?_)
       | fail)
      exact TX.rd (b + 1) [2] (by omega) (by omega)
  · obtain rfl : b = 3 + g.length := by omega
    refine TX.vw 4 ?_
    exact TX.rt1 [] (.ren rfl)
theorem s_ref03_UnderOf {g : List (List Int)} (hf : fine g = true) {c : Int} (hcc : 0 ≤ c ∧ c < 3 + (g.length : Int)) : V.Spec Try.prog Fc.ref03_UnderOf [rows g, V.int c] [] (ints (clsL g fun a => upHas g a c)) [] := by
  have h16 := fine_len hf
  refine V.Spec.enter Try.tabOK Try.mixed Fn.ref03_UnderOf rfl rfl rfl fun B hB => ?_
  repeat' (first
   | (with_reducible refine OL.st ?_)
   | (with_reducible refine TC.region ?_)
   | (with_reducible refine TC.seq ?_)
   | (with_reducible refine OL.nil ?_)
   | (with_reducible refine TX.thenN ?_)
   | (with_reducible refine TC.block ?_)
   | fail)
  refine TC.adp 5 Tc.int 1 ?_
  refine TC.lp (fun b : Nat => [(0, rows g), (1, V.int c), (5, .hs 0), (6, V.int b)]) (fun b => [.gs false Tc.int 1 none (((upto b).filter fun a => upHas g a c).map V.int)]) (fun b => b ≤ 3 + g.length) (fun b => 3 + g.length - b) 0 [0] (Nat.zero_le _) ?_
  rintro b hb
  have hle : ((upto b).filter fun a => upHas g a c).length ≤ b := Nat.le_trans (List.length_filter_le _ _) (by rw [upto_length]; exact Nat.le_refl _)
  repeat' (first
   | (with_reducible refine OL.st ?_)
   | (with_reducible refine TC.region ?_)
   | (with_reducible refine TC.seq ?_)
   | (with_reducible refine OL.nil ?_)
   | (with_reducible refine TX.thenN ?_)
   | (with_reducible refine TC.block ?_)
   | (with_reducible refine TC.skip ?_)
   | (with_reducible refine TC.exit ?_)
   | (with_reducible refine TX.hit ?_)
   | (with_reducible refine TX.thenX ?_)
   | (with_reducible refine TC.ifD ?_ ?_ <;> (intro hc; try (exfalso; omega)))
   | (with_reducible refine TC.ret ?_)
   | fail)
  · refine OL.c (s_belowOf hf (a := b) (by omega) hcc) Fn.ref03_BelowOf ?_
    have e := congrArg (List.map V.int) (upto_filter_succ (fun a => upHas g a c) b)
    rw [List.map_append] at e
    cases hu : upHas g b c
    · rw [hu] at e
      replace e : ((upto b).filter fun a => upHas g a c).map V.int = ((upto (b + 1)).filter fun a => upHas g a c).map V.int := by simpa using e.symm
      repeat' (first
       | (with_reducible refine OL.st ?_)
       | (with_reducible refine TC.region ?_)
       | (with_reducible refine OL.nil ?_)
       | (with_reducible refine TX.thenN ?_)
       | (with_reducible refine TC.skip ?_)
       | (with_reducible refine TX.blkN ?_)
       | (with_reducible refine TC.ifF ?_)
       | fail)
      exact TX.rd (b + 1) [0] (by omega) (by omega)
    · rw [hu] at e
      replace e : ((upto b).filter fun a => upHas g a c).map V.int ++ [V.int b] = ((upto (b + 1)).filter fun a => upHas g a c).map V.int := e.symm
      repeat' (first
       | (with_reducible refine OL.st ?_)
       | (with_reducible refine OL.lit ?_)
       | (with_reducible refine OL.appO ?_)
       | (with_reducible refine TC.region ?_)
       | (with_reducible refine OL.nil ?_)
       | (with_reducible refine TX.thenN ?_)
       | (with_reducible refine TX.blkN ?_)
       | (with_reducible refine TC.ifT ?_)
       | fail)
      exact TX.rd (b + 1) [2] (by omega) (by omega)
  · obtain rfl : b = 3 + g.length := by omega
    refine TX.vw 4 ?_
    exact TX.rt1 [] (.ren rfl)
end Go.Proofs
/- What the reference says of common classes. -/
namespace Go.Proofs
open Go Go.W Go.V
theorem asks_eq {g : List (List Int)} (hf : fine g = true) (l : List Int) : asks g l = (decide (l.length ≤ 16) && l.all (isClass g)) := by
  rw [asks, oks, hf, Bool.true_and]; rfl
theorem s_ref03_classes {g : List (List Int)} (hf : fine g = true) (l : List Int) : V.Spec Try.prog Fc.ref03_classes [rows g, ints l] [] (V.bool (asks g l)) [] := by
  have h16 := fine_len hf
  rw [asks_eq hf]
  refine V.Spec.enter Try.tabOK Try.mixed Fn.ref03_classes rfl rfl rfl fun B hB => ?_
  refine TC.bl 1 fun hll => ?_
  repeat' (first
   | (with_reducible refine OL.st ?_)
   | (with_reducible refine TC.region ?_)
   | (with_reducible refine TC.seq ?_)
   | (with_reducible refine OL.nil ?_)
   | (with_reducible refine TX.thenN ?_)
   | (with_reducible refine TC.block ?_)
   | (with_reducible refine TC.skip ?_)
   | (with_reducible refine TC.ifD ?_ ?_ <;> (intro hc; try (exfalso; omega)))
   | (with_reducible refine TC.ret ?_)
   | (with_reducible refine TX.thenR ?_)
   | fail)
  · have : decide (l.length ≤ 16) = false := by simp; omega
    rw [this, Bool.false_and]
    exact TX.rt1 [] (.ren rfl)
  · have : decide (l.length ≤ 16) = true := by simp; omega
    rw [this, Bool.true_and]
    refine TC.lp (fun i : Nat => [(0, rows g), (1, ints l), (5, V.int i)]) (fun _ => []) (fun i => i ≤ l.length ∧ (l.take i).all (isClass g) = true) (fun i => l.length - i) 0 [] ⟨Nat.zero_le _, rfl⟩ ?_
    rintro i ⟨hi, hinv⟩
    repeat' (first
     | (with_reducible refine OL.st ?_)
     | (with_reducible refine TC.region ?_)
     | (with_reducible refine TC.seq ?_)
     | (with_reducible refine OL.nil ?_)
     | (with_reducible refine TX.thenN ?_)
     | (with_reducible refine TC.block ?_)
     | (with_reducible refine TC.skip ?_)
     | (with_reducible refine TC.exit ?_)
     | (with_reducible refine TX.hit ?_)
     | (with_reducible refine TX.thenX ?_)
     | (with_reducible refine TC.ifD ?_ ?_ <;> (intro hc; try (exfalso; omega)))
     | (with_reducible refine TC.ret ?_)
     | fail)
    · refine OL.c (s_ref03_class g l[i] (by omega)) Fn.ref03_class ?_
      have hstep : (l.take (i + 1)).all (isClass g) = isClass g l[i] := by rw [take_succ (by omega), List.all_append, hinv]; simp
      cases hq : isClass g l[i]
      · repeat' (first
         | (with_reducible refine OL.st ?_)
         | (with_reducible refine TC.region ?_)
         | (with_reducible refine TC.seq ?_)
         | (with_reducible refine OL.nil ?_)
         | (with_reducible refine TX.thenN ?_)
         | (with_reducible refine TC.ifT ?_)
         | (with_reducible refine TC.ret ?_)
         | (with_reducible refine TX.thenR ?_)
         | (with_reducible refine TX.blkR ?_)
         | fail)
        have : l.all (isClass g) = false := by
          rw [List.all_eq_false]; exact ⟨l[i], List.getElem_mem _, by simp [hq]⟩
        rw [this]
        exact TX.rt1 [] (.ren rfl)
      · repeat' (first
         | (with_reducible refine OL.st ?_)
         | (with_reducible refine TC.region ?_)
         | (with_reducible refine OL.nil ?_)
         | (with_reducible refine TX.thenN ?_)
         | (with_reducible refine TC.skip ?_)
         | (with_reducible refine TX.blkN ?_)
         | (with_reducible refine TC.ifF ?_)
         | fail)
        exact TX.rd (i + 1) [] ⟨by omega, by rw [hstep, hq]⟩ (by omega)
    · rw [take_all (by omega)] at hinv
      rw [hinv]
      exact TX.rt1 [] (.ren rfl)
theorem all_take_succ (p : Int → Bool) (l : List Int) {i : Nat} (h : i < l.length) : (l.take (i + 1)).all p = ((l.take i).all p && p l[i]) := by
  rw [take_succ h, List.all_append]; simp
theorem s_ref03_HeirsOf {g : List (List Int)} (hf : fine g = true) (l : List Int) (hl : ∀ x ∈ l, 0 ≤ x ∧ x < 3 + (g.length : Int)) : V.Spec Try.prog Fc.ref03_HeirsOf [rows g, ints l] [] (ints (clsL g fun a => l.all (upHas g a))) [] := by
  have h16 := fine_len hf
  refine V.Spec.enter Try.tabOK Try.mixed Fn.ref03_HeirsOf rfl rfl rfl fun B hB => ?_
  refine TC.bl 1 fun hll => ?_
  repeat' (first
   | (with_reducible refine OL.st ?_)
   | (with_reducible refine TC.region ?_)
   | (with_reducible refine TC.seq ?_)
   | (with_reducible refine OL.nil ?_)
   | (with_reducible refine TX.thenN ?_)
   | (with_reducible refine TC.block ?_)
   | fail)
  refine TC.adp 5 Tc.int 1 ?_
  refine TC.lp (fun b : Nat => [(0, rows g), (1, ints l), (5, .hs 0), (6, V.int b)]) (fun b => [.gs false Tc.int 1 none (((upto b).filter fun a => l.all (upHas g a)).map V.int)]) (fun b => b ≤ 3 + g.length) (fun b => 3 + g.length - b) 0 [0] (Nat.zero_le _) ?_
  rintro b hb
  have hle : ((upto b).filter fun a => l.all (upHas g a)).length ≤ b := Nat.le_trans (List.length_filter_le _ _) (by rw [upto_length]; exact Nat.le_refl _)
  repeat' (first
   | (with_reducible refine OL.st ?_)
   | (with_reducible refine TC.region ?_)
   | (with_reducible refine TC.seq ?_)
   | (with_reducible refine OL.nil ?_)
   | (with_reducible refine TX.thenN ?_)
   | (with_reducible refine TC.block ?_)
   | (with_reducible refine TC.skip ?_)
   | (with_reducible refine TC.exit ?_)
   | (with_reducible refine TX.hit ?_)
   | (with_reducible refine TX.thenX ?_)
   | (with_reducible refine TC.ifD ?_ ?_ <;> (intro hc; try (exfalso; omega)))
   | (with_reducible refine TC.ret ?_)
   | fail)
  · refine TC.lp (fun i : Nat => [(0, rows g), (1, ints l), (5, .hs 0), (6, V.int b), (7, V.bool ((l.take i).all (upHas g b))), (8, V.int i)]) (fun _ => [.gs false Tc.int 1 none (((upto b).filter fun a => l.all (upHas g a)).map V.int)]) (fun i => i ≤ l.length) (fun i => l.length - i) 0 [0] (Nat.zero_le _) ?_
    rintro i hi
    repeat' (first
     | (with_reducible refine OL.st ?_)
     | (with_reducible refine TC.region ?_)
     | (with_reducible refine TC.seq ?_)
     | (with_reducible refine OL.nil ?_)
     | (with_reducible refine TX.thenN ?_)
     | (with_reducible refine TC.block ?_)
     | (with_reducible refine TC.skip ?_)
     | (with_reducible refine TC.exit ?_)
     | (with_reducible refine TX.hit ?_)
     | (with_reducible refine TX.thenX ?_)
     | (with_reducible refine TC.ifD ?_ ?_ <;> (intro hc; try (exfalso; omega)))
     | fail)
    · have hlb := hl l[i] (List.getElem_mem _)
      have hs := s_belowOf hf (a := b) (b := l[i]) (by omega) hlb
      have hstep := all_take_succ (upHas g b) l (i := i) (by omega)
      cases hq : (l.take i).all (upHas g b)
      · rw [hq, Bool.false_and] at hstep
        repeat' (first
         | (with_reducible refine OL.st ?_)
         | (with_reducible refine TC.region ?_)
         | (with_reducible refine OL.nil ?_)
         | (with_reducible refine TX.thenN ?_)
         | (with_reducible refine TX.blkN ?_)
         | (with_reducible refine OL.gOff ?_)
         | fail)
        exact TX.rd (i + 1) [0] (by omega) (by omega)
      · rw [hq, Bool.true_and] at hstep
        repeat' (first | (with_reducible refine OL.st ?_) | (with_reducible refine OL.gOn ?_) | fail)
        refine OL.c hs Fn.ref03_BelowOf ?_
        repeat' (first
         | (with_reducible refine OL.st ?_)
         | (with_reducible refine TC.region ?_)
         | (with_reducible refine OL.nil ?_)
         | (with_reducible refine TX.thenN ?_)
         | (with_reducible refine TX.blkN ?_)
         | fail)
        exact TX.rd (i + 1) [0] (by omega) (by omega)
    · have e := congrArg (List.map V.int) (upto_filter_succ (fun a => l.all (upHas g a)) b)
      rw [List.map_append] at e
      rw [take_all (by omega)]
      cases hq : l.all (upHas g b)
      · rw [hq] at e
        replace e : ((upto b).filter fun a => l.all (upHas g a)).map V.int = ((upto (b + 1)).filter fun a => l.all (upHas g a)).map V.int := by simpa using e.symm
        repeat' (first
         | (with_reducible refine OL.st ?_)
         | (with_reducible refine TC.region ?_)
         | (with_reducible refine OL.nil ?_)
         | (with_reducible refine TX.thenN ?_)
         | (with_reducible refine TC.skip ?_)
         | (with_reducible refine TX.blkN ?_)
         | (with_reducible refine TC.ifF ?_)
         | fail)
        exact TX.rd (b + 1) [0] (by omega) (by omega)
      · rw [hq] at e
        replace e : ((upto b).filter fun a => l.all (upHas g a)).map V.int ++ [V.int b] = ((upto (b + 1)).filter fun a => l.all (upHas g a)).map V.int := e.symm
        repeat' (first
         | (with_reducible refine OL.st ?_)
         | (with_reducible refine OL.lit ?_)
         | (with_reducible refine OL.appO ?_)
         | (with_reducible refine TC.region ?_)
         | (with_reducible refine OL.nil ?_)
         | (with_reducible refine TX.thenN ?_)
         | (with_reducible refine TX.blkN ?_)
         | (with_reducible refine TC.ifT ?_)
         | fail)
        exact TX.rd (b + 1) [2] (by omega) (by omega)
  · obtain rfl : b = 3 + g.length := by omega
    refine TX.vw 4 ?_
    exact TX.rt1 [] (.ren rfl)
/-- The classes above all of some, and the least of these, as the reference finds them. -/
def comR (g : List (List Int)) (l : List Int) : List Int := clsL g fun b => l.all fun c => upHas g c b
def lstP (g : List (List Int)) (c d : Int) : Bool := d == c || !upHas g d c
def lstR (g : List (List Int)) (l : List Int) : List Int := (comR g l).filter fun c => (comR g l).all (lstP g c)
theorem upto_nodup (n : Nat) : (upto n).Nodup := by
  rw [upto]
  exact List.Pairwise.map _ (fun a b (h : a ≠ b) => by show ((a : Nat) : Int) ≠ ((b : Nat) : Int); omega) List.nodup_range
theorem comR_spec (g : List (List Int)) (l : List Int) : (comR g l).Nodup ∧ (comR g l).length ≤ 3 + g.length ∧ ∀ c ∈ comR g l, 0 ≤ c ∧ c < 3 + (g.length : Int) := by
  refine ⟨(upto_nodup _).filter _, Nat.le_trans (List.length_filter_le _ _) (by rw [upto_length]; exact Nat.le_refl _), fun c hc => ?_⟩
  have := mem_upto.1 (List.mem_filter.1 hc).1
  omega
theorem filter_take_succ (p : Int → Bool) (l : List Int) {i : Nat} (h : i < l.length) : ((l.take (i + 1)).filter p).map V.int = ((l.take i).filter p).map V.int ++ (if p l[i] then [V.int l[i]] else []) := by
  rw [take_succ h, List.filter_append, List.map_append, List.filter_cons, List.filter_nil]
  split <;> rfl
set_option maxHeartbeats 1000000 in
theorem s_ref03_LeastOf {g : List (List Int)} (hf : fine g = true) (l : List Int) (hl : ∀ x ∈ l, 0 ≤ x ∧ x < 3 + (g.length : Int)) : V.Spec Try.prog Fc.ref03_LeastOf [rows g, ints l] [] (ints (lstR g l)) [] := by
  have h16 := fine_len hf
  refine V.Spec.enter Try.tabOK Try.mixed Fn.ref03_LeastOf rfl rfl rfl fun B hB => ?_
  refine TC.bl 1 fun hll => ?_
  repeat' (first
   | (with_reducible refine OL.st ?_)
   | (with_reducible refine TC.region ?_)
   | (with_reducible refine TC.seq ?_)
   | (with_reducible refine OL.nil ?_)
   | (with_reducible refine TX.thenN ?_)
   | (with_reducible refine TC.block ?_)
   | fail)
  refine TC.adp 5 Tc.int 1 ?_
  refine TC.lp (fun b : Nat => [(0, rows g), (1, ints l), (5, .hs 0), (6, .raw (.slice none 0 0)), (7, V.int b)]) (fun b => [.gs false Tc.int 1 none (((upto b).filter fun b => l.all fun c => upHas g c b).map V.int)]) (fun b => b ≤ 3 + g.length) (fun b => 3 + g.length - b) 0 [0] (Nat.zero_le _) ?_
  rintro b hb
  have hle : ((upto b).filter fun b => l.all fun c => upHas g c b).length ≤ b := Nat.le_trans (List.length_filter_le _ _) (by rw [upto_length]; exact Nat.le_refl _)
  repeat' (first
   | (with_reducible refine OL.st ?_)
   | (with_reducible refine TC.region ?_)
   | (with_reducible refine TC.seq ?_)
   | (with_reducible refine OL.nil ?_)
   | (with_reducible refine TX.thenN ?_)
   | (with_reducible refine TC.block ?_)
   | (with_reducible refine TC.skip ?_)
   | (with_reducible refine TC.exit ?_)
   | (with_reducible refine TX.hit ?_)
   | (with_reducible refine TX.thenX ?_)
   | (with_reducible refine TC.ifD ?_ ?_ <;> (intro hc; try (exfalso; omega)))
   | fail)
  · refine TC.lp (fun i : Nat => [(0, rows g), (1, ints l), (5, .hs 0), (6, .raw (.slice none 0 0)), (7, V.int b), (8, V.bool ((l.take i).all fun c => upHas g c b)), (9, V.int i)]) (fun _ => [.gs false Tc.int 1 none (((upto b).filter fun b => l.all fun c => upHas g c b).map V.int)]) (fun i => i ≤ l.length) (fun i => l.length - i) 0 [0] (Nat.zero_le _) ?_
    rintro i hi
    repeat' (first
     | (with_reducible refine OL.st ?_)
     | (with_reducible refine TC.region ?_)
     | (with_reducible refine TC.seq ?_)
     | (with_reducible refine OL.nil ?_)
     | (with_reducible refine TX.thenN ?_)
     | (with_reducible refine TC.block ?_)
     | (with_reducible refine TC.skip ?_)
     | (with_reducible refine TC.exit ?_)
     | (with_reducible refine TX.hit ?_)
     | (with_reducible refine TX.thenX ?_)
     | (with_reducible refine TC.ifD ?_ ?_ <;> (intro hc; try (exfalso; omega)))
     | fail)
    · have hlb := hl l[i] (List.getElem_mem _)
      have hs := s_belowOf hf (a := l[i]) (b := b) hlb (by omega)
      have hstep := all_take_succ (fun c => upHas g c b) l (i := i) (by omega)
      cases hq : (l.take i).all fun c => upHas g c b
      · rw [hq, Bool.false_and] at hstep
        repeat' (first
         | (with_reducible refine OL.st ?_)
         | (with_reducible refine TC.region ?_)
         | (with_reducible refine OL.nil ?_)
         | (with_reducible refine TX.thenN ?_)
         | (with_reducible refine TX.blkN ?_)
         | (with_reducible refine OL.gOff ?_)
         | fail)
        exact TX.rd (i + 1) [0] (by omega) (by omega)
      · rw [hq, Bool.true_and] at hstep
        repeat' (first | (with_reducible refine OL.st ?_) | (with_reducible refine OL.gOn ?_) | fail)
        refine OL.c hs Fn.ref03_BelowOf ?_
        repeat' (first
         | (with_reducible refine OL.st ?_)
         | (with_reducible refine TC.region ?_)
         | (with_reducible refine OL.nil ?_)
         | (with_reducible refine TX.thenN ?_)
         | (with_reducible refine TX.blkN ?_)
         | fail)
        exact TX.rd (i + 1) [0] (by omega) (by omega)
    · have e := congrArg (List.map V.int) (upto_filter_succ (fun b => l.all fun c => upHas g c b) b)
      rw [List.map_append] at e
      rw [take_all (by omega)]
      cases hq : l.all fun c => upHas g c b
      · rw [hq] at e
        replace e : ((upto b).filter fun b => l.all fun c => upHas g c b).map V.int = ((upto (b + 1)).filter fun b => l.all fun c => upHas g c b).map V.int := by simpa using e.symm
        repeat' (first
         | (with_reducible refine OL.st ?_)
         | (with_reducible refine TC.region ?_)
         | (with_reducible refine OL.nil ?_)
         | (with_reducible refine TX.thenN ?_)
         | (with_reducible refine TC.skip ?_)
         | (with_reducible refine TX.blkN ?_)
         | (with_reducible refine TC.ifF ?_)
         | fail)
        exact TX.rd (b + 1) [0] (by omega) (by omega)
      · rw [hq] at e
        replace e : ((upto b).filter fun b => l.all fun c => upHas g c b).map V.int ++ [V.int b] = ((upto (b + 1)).filter fun b => l.all fun c => upHas g c b).map V.int := e.symm
        repeat' (first
         | (with_reducible refine OL.st ?_)
         | (with_reducible refine OL.lit ?_)
         | (with_reducible refine OL.appO ?_)
         | (with_reducible refine TC.region ?_)
         | (with_reducible refine OL.nil ?_)
         | (with_reducible refine TX.thenN ?_)
         | (with_reducible refine TX.blkN ?_)
         | (with_reducible refine TC.ifT ?_)
         | fail)
        exact TX.rd (b + 1) [2] (by omega) (by omega)
  · obtain rfl : b = 3 + g.length := by omega
    obtain ⟨hnd, hlc, hcm⟩ := comR_spec g l
    refine TC.vw 5 ?_
    refine TC.adp 6 Tc.int 1 ?_
    rw [show ((upto (3 + g.length)).filter fun b => l.all fun c => upHas g c b) = comR g l from rfl]
    rw [lstR]
    generalize comR g l = com at *
    refine TC.lp (fun i : Nat => [(0, rows g), (5, ints com), (6, .hs 0), (10, V.int i)]) (fun i => [.gs false Tc.int 1 none (((com.take i).filter fun c => com.all (lstP g c)).map V.int)]) (fun i => i ≤ com.length) (fun i => com.length - i) 0 [1] (Nat.zero_le _) ?_
    rintro i hi
    have hle2 : ((com.take i).filter fun c => com.all (lstP g c)).length ≤ i := Nat.le_trans (List.length_filter_le _ _) (by simp; omega)
    repeat' (first
     | (with_reducible refine OL.st ?_)
     | (with_reducible refine TC.region ?_)
     | (with_reducible refine TC.seq ?_)
     | (with_reducible refine OL.nil ?_)
     | (with_reducible refine TX.thenN ?_)
     | (with_reducible refine TC.block ?_)
     | (with_reducible refine TC.skip ?_)
     | (with_reducible refine TC.exit ?_)
     | (with_reducible refine TX.hit ?_)
     | (with_reducible refine TX.thenX ?_)
     | (with_reducible refine TC.ifD ?_ ?_ <;> (intro hc; try (exfalso; omega)))
     | (with_reducible refine TC.ret ?_)
     | fail)
    · have hbi := hcm com[i] (List.getElem_mem _)
      refine TC.lp (fun k : Nat => [(0, rows g), (5, ints com), (6, .hs 0), (10, V.int i), (11, V.bool ((com.take k).all (lstP g (com[i]'(by omega))))), (12, V.int k)]) (fun _ => [.gs false Tc.int 1 none (((com.take i).filter fun c => com.all (lstP g c)).map V.int)]) (fun k => k ≤ com.length) (fun k => com.length - k) 0 [0] (Nat.zero_le _) ?_
      rintro k hk
      repeat' (first
       | (with_reducible refine OL.st ?_)
       | (with_reducible refine TC.region ?_)
       | (with_reducible refine TC.seq ?_)
       | (with_reducible refine OL.nil ?_)
       | (with_reducible refine TX.thenN ?_)
       | (with_reducible refine TC.block ?_)
       | (with_reducible refine TC.skip ?_)
       | (with_reducible refine TC.exit ?_)
       | (with_reducible refine TX.hit ?_)
       | (with_reducible refine TX.thenX ?_)
       | (with_reducible refine TC.ifD ?_ ?_ <;> (intro hc; try (exfalso; omega)))
       | fail)
      · have hbk := hcm com[k] (List.getElem_mem _)
        have hs := s_belowOf hf (a := com[k]) (b := com[i]) hbk hbi
        have hstep := all_take_succ (lstP g (com[i]'(by omega))) com (i := k) (by omega)
        have hkl : k < com.length := by omega
        have hil : i < com.length := by omega
        cases hq : (com.take k).all (lstP g (com[i]'(by omega)))
        · rw [hq, Bool.false_and] at hstep
          (with_reducible refine TC.draw (id := 19) true 20 20 ?_) <;> (with_reducible refine OD.st 0 ?_) <;> (with_reducible refine OD.st 1 ?_) <;> (with_reducible refine OD.of 2 ?_) <;> (with_reducible refine OD.of 3 ?_) <;> (with_reducible refine OD.of 4 ?_) <;> (with_reducible refine OD.of 5 ?_) <;> (with_reducible refine OD.un 6 ?_) <;> (with_reducible refine OD.un 7 ?_) <;> (with_reducible refine OD.un 8 ?_) <;> (with_reducible refine OD.un 9 ?_) <;> (with_reducible refine OD.un 10 ?_) <;> (with_reducible refine OD.un 11 ?_) <;> (with_reducible refine OD.un 12 ?_) <;> (with_reducible refine OD.un 13 ?_) <;> (with_reducible refine OD.un 14 ?_) <;> (with_reducible refine OD.un 15 ?_) <;> (with_reducible refine OD.un 16 ?_) <;> (with_reducible refine OD.of 17 ?_) <;> (with_reducible refine OD.st 18 ?_) <;> (with_reducible refine OD.st 19 ?_) <;> (with_reducible refine OD.dn ?_)
          all_goals repeat' (first
                     | (with_reducible refine OL.st ?_)
                     | (with_reducible refine TC.region ?_)
                     | (with_reducible refine OL.nil ?_)
                     | (with_reducible refine TX.thenN ?_)
                     | (with_reducible refine TX.blkN ?_)
                     | fail)
          all_goals exact TX.rd (k + 1) [0] (by omega) (by omega)
        · rw [hq, Bool.true_and] at hstep
          by_cases hki : k = i
          · subst hki
            rw [show lstP g com[k] com[k] = true by simp [lstP]] at hstep
            (with_reducible refine TC.draw (id := 19) true 20 20 ?_) <;> (with_reducible refine OD.st 0 ?_) <;> (with_reducible refine OD.st 1 ?_) <;> (with_reducible refine OD.st 2 ?_) <;> (with_reducible refine OD.st 3 ?_) <;> (with_reducible refine OD.st 4 ?_) <;> (with_reducible refine OD.st 5 ?_) <;> (with_reducible refine OD.sD 58 ?_ ?_ <;> (intro hc; try (exfalso; omega)) <;> (first | (with_reducible refine OD.st 6 ?_) | (with_reducible refine OD.of 6 ?_))) <;> (with_reducible refine OD.of 7 ?_) <;> (with_reducible refine OD.of 8 ?_) <;> (with_reducible refine OD.of 9 ?_) <;> (with_reducible refine OD.of 10 ?_) <;> (with_reducible refine OD.of 11 ?_) <;> (with_reducible refine OD.of 12 ?_) <;> (with_reducible refine OD.of 13 ?_) <;> (with_reducible refine OD.of 14 ?_) <;> (with_reducible refine OD.of 15 ?_) <;> (with_reducible refine OD.of 16 ?_) <;> (with_reducible refine OD.st 17 ?_) <;> (with_reducible refine OD.st 18 ?_) <;> (with_reducible refine OD.st 19 ?_) <;> (with_reducible refine OD.dn ?_)
            all_goals repeat' (first
                       | (with_reducible refine OL.st ?_)
                       | (with_reducible refine TC.region ?_)
                       | (with_reducible refine OL.nil ?_)
                       | (with_reducible refine TX.thenN ?_)
                       | (with_reducible refine TX.blkN ?_)
                       | fail)
            all_goals exact TX.rd (k + 1) [0] (by omega) (by omega)
          · have hne : com[k] ≠ com[i] := fun e => hki ((List.getElem_inj hnd).1 e)
            rw [show lstP g com[i] com[k] = !upHas g com[k] com[i] by simp [lstP, hne]] at hstep
            (with_reducible refine TC.draw (id := 19) true 20 20 ?_) <;> (with_reducible refine OD.st 0 ?_) <;> (with_reducible refine OD.st 1 ?_) <;> (with_reducible refine OD.st 2 ?_) <;> (with_reducible refine OD.st 3 ?_) <;> (with_reducible refine OD.st 4 ?_) <;> (with_reducible refine OD.st 5 ?_) <;> (with_reducible refine OD.sD 58 ?_ ?_ <;> (intro hc; try (exfalso; omega)) <;> (first | (with_reducible refine OD.st 6 ?_) | (with_reducible refine OD.of 6 ?_))) <;> (with_reducible refine OD.st 7 ?_) <;> (with_reducible refine OD.st 8 ?_) <;> (with_reducible refine OD.st 9 ?_) <;> (with_reducible refine OD.st 10 ?_) <;> (with_reducible refine OD.st 11 ?_) <;> (with_reducible refine OD.st 12 ?_) <;> (with_reducible refine OD.st 13 ?_) <;> (with_reducible refine OD.st 14 ?_) <;> (with_reducible refine OD.c1 15 hs Fn.ref03_BelowOf ?_) <;> (with_reducible refine OD.st 16 ?_) <;> (with_reducible refine OD.st 17 ?_) <;> (with_reducible refine OD.st 18 ?_) <;> (with_reducible refine OD.st 19 ?_) <;> (with_reducible refine OD.dn ?_)
            all_goals repeat' (first
                       | (with_reducible refine OL.st ?_)
                       | (with_reducible refine TC.region ?_)
                       | (with_reducible refine OL.nil ?_)
                       | (with_reducible refine TX.thenN ?_)
                       | (with_reducible refine TX.blkN ?_)
                       | fail)
            all_goals exact TX.rd (k + 1) [0] (by omega) (by omega)
      · have ek : com.take k = com := take_all (by omega)
        rw [ek]
        have e := filter_take_succ (fun c => com.all (lstP g c)) com (i := i) (by omega)
        cases hq : com.all (lstP g (com[i]'(by omega)))
        · rw [hq] at e
          replace e : ((com.take i).filter fun c => com.all (lstP g c)).map V.int = ((com.take (i + 1)).filter fun c => com.all (lstP g c)).map V.int := by simpa using e.symm
          repeat' (first
           | (with_reducible refine OL.st ?_)
           | (with_reducible refine TC.region ?_)
           | (with_reducible refine OL.nil ?_)
           | (with_reducible refine TX.thenN ?_)
           | (with_reducible refine TC.skip ?_)
           | (with_reducible refine TX.blkN ?_)
           | (with_reducible refine TC.ifF ?_)
           | fail)
          exact TX.rd (i + 1) [0] (by omega) (by omega)
        · rw [hq] at e
          replace e : ((com.take i).filter fun c => com.all (lstP g c)).map V.int ++ [V.int com[i]] = ((com.take (i + 1)).filter fun c => com.all (lstP g c)).map V.int := e.symm
          repeat' (first
           | (with_reducible refine OL.st ?_)
           | (with_reducible refine OL.lit ?_)
           | (with_reducible refine OL.appO ?_)
           | (with_reducible refine TC.region ?_)
           | (with_reducible refine OL.nil ?_)
           | (with_reducible refine TX.thenN ?_)
           | (with_reducible refine TX.blkN ?_)
           | (with_reducible refine TC.ifT ?_)
           | fail)
          exact TX.rd (i + 1) [2] (by omega) (by omega)
    · have ei : com.take i = com := take_all (by omega)
      rw [ei]
      refine TX.vw 4 ?_
      exact TX.rt1 [] (.ren rfl)
end Go.Proofs
/- Below, above, under, and common classes: the program's and the reference's API. -/
namespace Go.Proofs
open Go Go.W Go.V
def okE (b : Bool) : Int := if b then 0 else 2
def belR (g : List (List Int)) (a b : Int) : Bool := oks g [a, b] && upHas g a b
def aboR (g : List (List Int)) (c : Int) : List Int := if oks g [c] then clsL g (upHas g c) else []
def undR (g : List (List Int)) (c : Int) : List Int := if oks g [c] then clsL g (fun a => upHas g a c) else []
def heirsR (g : List (List Int)) (l : List Int) : List Int := if asks g l then clsL g (fun a => l.all (upHas g a)) else []
def leastR (g : List (List Int)) (l : List Int) : List Int := if asks g l then lstR g l else []
theorem oks_cls (g : List (List Int)) (l : List Int) : oks g l = (fine g && l.all (isClass g)) := rfl
theorem isClass_iff {g : List (List Int)} {c : Int} (h : isClass g c = true) : 0 ≤ c ∧ c < 3 + (g.length : Int) := by
  simpa [isClass] using h
/-! ### The reference -/
theorem s_ref03_Below (g : List (List Int)) (a b : Int) : V.Spec Try.prog Fc.ref03_Below [rows g, V.int a, V.int b] [] (.tp [V.bool (belR g a b), V.int (okE (oks g [a, b]))]) [] := by
  have e : oks g [a, b] = (fine g && (isClass g a && isClass g b)) := by simp [oks_cls]
  rw [belR, e]
  refine V.Spec.enter Try.tabOK Try.mixed Fn.ref03_Below rfl rfl rfl fun B hB => ?_
  repeat' (first
   | (with_reducible refine OL.st ?_)
   | (with_reducible refine TC.region ?_)
   | (with_reducible refine TC.seq ?_)
   | (with_reducible refine OL.nil ?_)
   | (with_reducible refine TX.thenN ?_)
   | fail)
  refine OL.c (s_ref03_Good g) Fn.ref03_Good ?_
  cases hf : fine g
  · repeat' (first
     | (with_reducible refine OL.st ?_)
     | (with_reducible refine TC.region ?_)
     | (with_reducible refine TC.seq ?_)
     | (with_reducible refine OL.nil ?_)
     | (with_reducible refine TX.thenN ?_)
     | (with_reducible refine TC.ifT ?_)
     | (with_reducible refine OL.gOff ?_)
     | (with_reducible refine TC.ret ?_)
     | (with_reducible refine TX.thenR ?_)
     | fail)
    exact TX.rt2 [] (.ren rfl) (.ren rfl)
  · have h16 := fine_len hf
    repeat' (first | (with_reducible refine OL.st ?_) | (with_reducible refine OL.gOn ?_) | fail)
    refine OL.c (s_ref03_class g a (by omega)) Fn.ref03_class ?_
    cases ha : isClass g a
    · repeat' (first
       | (with_reducible refine OL.st ?_)
       | (with_reducible refine TC.region ?_)
       | (with_reducible refine TC.seq ?_)
       | (with_reducible refine OL.nil ?_)
       | (with_reducible refine TX.thenN ?_)
       | (with_reducible refine TC.ifT ?_)
       | (with_reducible refine OL.gOn ?_)
       | (with_reducible refine OL.gOff ?_)
       | (with_reducible refine TC.ret ?_)
       | (with_reducible refine TX.thenR ?_)
       | fail)
      exact TX.rt2 [] (.ren rfl) (.ren rfl)
    · repeat' (first | (with_reducible refine OL.st ?_) | (with_reducible refine OL.gOn ?_) | fail)
      refine OL.c (s_ref03_class g b (by omega)) Fn.ref03_class ?_
      cases hb : isClass g b
      · repeat' (first
         | (with_reducible refine OL.st ?_)
         | (with_reducible refine TC.region ?_)
         | (with_reducible refine TC.seq ?_)
         | (with_reducible refine OL.nil ?_)
         | (with_reducible refine TX.thenN ?_)
         | (with_reducible refine TC.ifT ?_)
         | (with_reducible refine OL.gOn ?_)
         | (with_reducible refine TC.ret ?_)
         | (with_reducible refine TX.thenR ?_)
         | fail)
        exact TX.rt2 [] (.ren rfl) (.ren rfl)
      · repeat' (first
         | (with_reducible refine OL.st ?_)
         | (with_reducible refine TC.region ?_)
         | (with_reducible refine TC.seq ?_)
         | (with_reducible refine OL.nil ?_)
         | (with_reducible refine TX.thenN ?_)
         | (with_reducible refine TC.skip ?_)
         | (with_reducible refine TC.ifF ?_)
         | (with_reducible refine OL.gOn ?_)
         | fail)
        refine OL.c (s_belowOf hf (isClass_iff ha) (isClass_iff hb)) Fn.ref03_BelowOf ?_
        repeat' (first
         | (with_reducible refine OL.st ?_)
         | (with_reducible refine OL.nil ?_)
         | (with_reducible refine TX.thenN ?_)
         | (with_reducible refine TC.ret ?_)
         | fail)
        exact TX.rt2 [] (.ren rfl) (.ren rfl)
theorem s_ref03_Above (g : List (List Int)) (c : Int) : V.Spec Try.prog Fc.ref03_Above [rows g, V.int c] [] (.tp [ints (aboR g c), V.int (okE (oks g [c]))]) [] := by
  have e : oks g [c] = (fine g && isClass g c) := by simp [oks_cls]
  rw [aboR, e]
  refine V.Spec.enter Try.tabOK Try.mixed Fn.ref03_Above rfl rfl rfl fun B hB => ?_
  repeat' (first
   | (with_reducible refine OL.st ?_)
   | (with_reducible refine TC.region ?_)
   | (with_reducible refine TC.seq ?_)
   | (with_reducible refine OL.nil ?_)
   | (with_reducible refine TX.thenN ?_)
   | fail)
  refine OL.c (s_ref03_Good g) Fn.ref03_Good ?_
  cases hf : fine g
  · repeat' (first
     | (with_reducible refine OL.st ?_)
     | (with_reducible refine TC.region ?_)
     | (with_reducible refine TC.seq ?_)
     | (with_reducible refine OL.nil ?_)
     | (with_reducible refine TX.thenN ?_)
     | (with_reducible refine TC.ifT ?_)
     | (with_reducible refine OL.gOff ?_)
     | (with_reducible refine TC.ret ?_)
     | (with_reducible refine TX.thenR ?_)
     | fail)
    exact TX.rt2 [] (.nil (by decide)) (.ren rfl)
  · have h16 := fine_len hf
    repeat' (first | (with_reducible refine OL.st ?_) | (with_reducible refine OL.gOn ?_) | fail)
    refine OL.c (s_ref03_class g c (by omega)) Fn.ref03_class ?_
    cases ha : isClass g c
    · repeat' (first
       | (with_reducible refine OL.st ?_)
       | (with_reducible refine TC.region ?_)
       | (with_reducible refine TC.seq ?_)
       | (with_reducible refine OL.nil ?_)
       | (with_reducible refine TX.thenN ?_)
       | (with_reducible refine TC.ifT ?_)
       | (with_reducible refine OL.gOn ?_)
       | (with_reducible refine TC.ret ?_)
       | (with_reducible refine TX.thenR ?_)
       | fail)
      exact TX.rt2 [] (.nil (by decide)) (.ren rfl)
    · repeat' (first
       | (with_reducible refine OL.st ?_)
       | (with_reducible refine TC.region ?_)
       | (with_reducible refine TC.seq ?_)
       | (with_reducible refine OL.nil ?_)
       | (with_reducible refine TX.thenN ?_)
       | (with_reducible refine TC.skip ?_)
       | (with_reducible refine TC.ifF ?_)
       | (with_reducible refine OL.gOn ?_)
       | fail)
      refine OL.c (s_ref03_AboveOf hf (isClass_iff ha)) Fn.ref03_AboveOf ?_
      repeat' (first
       | (with_reducible refine OL.st ?_)
       | (with_reducible refine OL.nil ?_)
       | (with_reducible refine TX.thenN ?_)
       | (with_reducible refine TC.ret ?_)
       | fail)
      exact TX.rt2 [] (.ren rfl) (.ren rfl)
theorem s_ref03_Under (g : List (List Int)) (c : Int) : V.Spec Try.prog Fc.ref03_Under [rows g, V.int c] [] (.tp [ints (undR g c), V.int (okE (oks g [c]))]) [] := by
  have e : oks g [c] = (fine g && isClass g c) := by simp [oks_cls]
  rw [undR, e]
  refine V.Spec.enter Try.tabOK Try.mixed Fn.ref03_Under rfl rfl rfl fun B hB => ?_
  repeat' (first
   | (with_reducible refine OL.st ?_)
   | (with_reducible refine TC.region ?_)
   | (with_reducible refine TC.seq ?_)
   | (with_reducible refine OL.nil ?_)
   | (with_reducible refine TX.thenN ?_)
   | fail)
  refine OL.c (s_ref03_Good g) Fn.ref03_Good ?_
  cases hf : fine g
  · repeat' (first
     | (with_reducible refine OL.st ?_)
     | (with_reducible refine TC.region ?_)
     | (with_reducible refine TC.seq ?_)
     | (with_reducible refine OL.nil ?_)
     | (with_reducible refine TX.thenN ?_)
     | (with_reducible refine TC.ifT ?_)
     | (with_reducible refine OL.gOff ?_)
     | (with_reducible refine TC.ret ?_)
     | (with_reducible refine TX.thenR ?_)
     | fail)
    exact TX.rt2 [] (.nil (by decide)) (.ren rfl)
  · have h16 := fine_len hf
    repeat' (first | (with_reducible refine OL.st ?_) | (with_reducible refine OL.gOn ?_) | fail)
    refine OL.c (s_ref03_class g c (by omega)) Fn.ref03_class ?_
    cases ha : isClass g c
    · repeat' (first
       | (with_reducible refine OL.st ?_)
       | (with_reducible refine TC.region ?_)
       | (with_reducible refine TC.seq ?_)
       | (with_reducible refine OL.nil ?_)
       | (with_reducible refine TX.thenN ?_)
       | (with_reducible refine TC.ifT ?_)
       | (with_reducible refine OL.gOn ?_)
       | (with_reducible refine TC.ret ?_)
       | (with_reducible refine TX.thenR ?_)
       | fail)
      exact TX.rt2 [] (.nil (by decide)) (.ren rfl)
    · repeat' (first
       | (with_reducible refine OL.st ?_)
       | (with_reducible refine TC.region ?_)
       | (with_reducible refine TC.seq ?_)
       | (with_reducible refine OL.nil ?_)
       | (with_reducible refine TX.thenN ?_)
       | (with_reducible refine TC.skip ?_)
       | (with_reducible refine TC.ifF ?_)
       | (with_reducible refine OL.gOn ?_)
       | fail)
      refine OL.c (s_ref03_UnderOf hf (isClass_iff ha)) Fn.ref03_UnderOf ?_
      repeat' (first
       | (with_reducible refine OL.st ?_)
       | (with_reducible refine OL.nil ?_)
       | (with_reducible refine TX.thenN ?_)
       | (with_reducible refine TC.ret ?_)
       | fail)
      exact TX.rt2 [] (.ren rfl) (.ren rfl)
theorem asks_unfine {g : List (List Int)} (hf : fine g = false) (l : List Int) : asks g l = false := by simp [asks, oks, hf]
theorem s_ref03_Heirs (g : List (List Int)) (l : List Int) : V.Spec Try.prog Fc.ref03_Heirs [rows g, ints l] [] (.tp [ints (heirsR g l), V.int (okE (asks g l))]) [] := by
  rw [heirsR]
  refine V.Spec.enter Try.tabOK Try.mixed Fn.ref03_Heirs rfl rfl rfl fun B hB => ?_
  repeat' (first
   | (with_reducible refine OL.st ?_)
   | (with_reducible refine TC.region ?_)
   | (with_reducible refine TC.seq ?_)
   | (with_reducible refine OL.nil ?_)
   | (with_reducible refine TX.thenN ?_)
   | fail)
  refine OL.c (s_ref03_Good g) Fn.ref03_Good ?_
  cases hf : fine g
  · rw [asks_unfine hf]
    repeat' (first
     | (with_reducible refine OL.st ?_)
     | (with_reducible refine TC.region ?_)
     | (with_reducible refine TC.seq ?_)
     | (with_reducible refine OL.nil ?_)
     | (with_reducible refine TX.thenN ?_)
     | (with_reducible refine TC.ifT ?_)
     | (with_reducible refine OL.gOff ?_)
     | (with_reducible refine TC.ret ?_)
     | (with_reducible refine TX.thenR ?_)
     | fail)
    exact TX.rt2 [] (.nil (by decide)) (.ren rfl)
  · repeat' (first | (with_reducible refine OL.st ?_) | (with_reducible refine OL.gOn ?_) | fail)
    refine OL.c (s_ref03_classes hf l) Fn.ref03_classes ?_
    cases hq : asks g l
    · repeat' (first
       | (with_reducible refine OL.st ?_)
       | (with_reducible refine TC.region ?_)
       | (with_reducible refine TC.seq ?_)
       | (with_reducible refine OL.nil ?_)
       | (with_reducible refine TX.thenN ?_)
       | (with_reducible refine TC.ifT ?_)
       | (with_reducible refine OL.gOn ?_)
       | (with_reducible refine TC.ret ?_)
       | (with_reducible refine TX.thenR ?_)
       | fail)
      exact TX.rt2 [] (.nil (by decide)) (.ren rfl)
    · repeat' (first
       | (with_reducible refine OL.st ?_)
       | (with_reducible refine TC.region ?_)
       | (with_reducible refine TC.seq ?_)
       | (with_reducible refine OL.nil ?_)
       | (with_reducible refine TX.thenN ?_)
       | (with_reducible refine TC.skip ?_)
       | (with_reducible refine TC.ifF ?_)
       | (with_reducible refine OL.gOn ?_)
       | fail)
      refine OL.c (s_ref03_HeirsOf hf l (asks_mem hq).2.2) Fn.ref03_HeirsOf ?_
      repeat' (first
       | (with_reducible refine OL.st ?_)
       | (with_reducible refine OL.nil ?_)
       | (with_reducible refine TX.thenN ?_)
       | (with_reducible refine TC.ret ?_)
       | fail)
      exact TX.rt2 [] (.ren rfl) (.ren rfl)
theorem s_ref03_Least (g : List (List Int)) (l : List Int) : V.Spec Try.prog Fc.ref03_Least [rows g, ints l] [] (.tp [ints (leastR g l), V.int (okE (asks g l))]) [] := by
  rw [leastR]
  refine V.Spec.enter Try.tabOK Try.mixed Fn.ref03_Least rfl rfl rfl fun B hB => ?_
  repeat' (first
   | (with_reducible refine OL.st ?_)
   | (with_reducible refine TC.region ?_)
   | (with_reducible refine TC.seq ?_)
   | (with_reducible refine OL.nil ?_)
   | (with_reducible refine TX.thenN ?_)
   | fail)
  refine OL.c (s_ref03_Good g) Fn.ref03_Good ?_
  cases hf : fine g
  · rw [asks_unfine hf]
    repeat' (first
     | (with_reducible refine OL.st ?_)
     | (with_reducible refine TC.region ?_)
     | (with_reducible refine TC.seq ?_)
     | (with_reducible refine OL.nil ?_)
     | (with_reducible refine TX.thenN ?_)
     | (with_reducible refine TC.ifT ?_)
     | (with_reducible refine OL.gOff ?_)
     | (with_reducible refine TC.ret ?_)
     | (with_reducible refine TX.thenR ?_)
     | fail)
    exact TX.rt2 [] (.nil (by decide)) (.ren rfl)
  · repeat' (first | (with_reducible refine OL.st ?_) | (with_reducible refine OL.gOn ?_) | fail)
    refine OL.c (s_ref03_classes hf l) Fn.ref03_classes ?_
    cases hq : asks g l
    · repeat' (first
       | (with_reducible refine OL.st ?_)
       | (with_reducible refine TC.region ?_)
       | (with_reducible refine TC.seq ?_)
       | (with_reducible refine OL.nil ?_)
       | (with_reducible refine TX.thenN ?_)
       | (with_reducible refine TC.ifT ?_)
       | (with_reducible refine OL.gOn ?_)
       | (with_reducible refine TC.ret ?_)
       | (with_reducible refine TX.thenR ?_)
       | fail)
      exact TX.rt2 [] (.nil (by decide)) (.ren rfl)
    · repeat' (first
       | (with_reducible refine OL.st ?_)
       | (with_reducible refine TC.region ?_)
       | (with_reducible refine TC.seq ?_)
       | (with_reducible refine OL.nil ?_)
       | (with_reducible refine TX.thenN ?_)
       | (with_reducible refine TC.skip ?_)
       | (with_reducible refine TC.ifF ?_)
       | (with_reducible refine OL.gOn ?_)
       | fail)
      refine OL.c (s_ref03_LeastOf hf l (asks_mem hq).2.2) Fn.ref03_LeastOf ?_
      repeat' (first
       | (with_reducible refine OL.st ?_)
       | (with_reducible refine OL.nil ?_)
       | (with_reducible refine TX.thenN ?_)
       | (with_reducible refine TC.ret ?_)
       | fail)
      exact TX.rt2 [] (.ren rfl) (.ren rfl)
/-! ### The program -/
theorem s_line_Check (g : List (List Int)) : V.Spec Try.prog Fc.line_Check [rows g] [] (V.int (if fine g then 0 else 2)) [] := by
  refine V.Spec.enter Try.tabOK Try.mixed Fn.line_Check rfl rfl rfl fun B hB => ?_
  repeat' (first
   | (with_reducible refine OL.st ?_)
   | (with_reducible refine TC.region ?_)
   | (with_reducible refine TC.seq ?_)
   | (with_reducible refine OL.nil ?_)
   | (with_reducible refine TX.thenN ?_)
   | fail)
  refine OL.c (s_line_fine g) Fn.line_fine ?_
  cases hf : fine g
  all_goals repeat' (first
             | (with_reducible refine OL.st ?_)
             | (with_reducible refine TC.region ?_)
             | (with_reducible refine TC.seq ?_)
             | (with_reducible refine OL.nil ?_)
             | (with_reducible refine TX.thenN ?_)
             | (with_reducible refine TC.skip ?_)
             | (with_reducible refine TC.ifT ?_)
             | (with_reducible refine TC.ifF ?_)
             | (with_reducible refine TC.ret ?_)
             | (with_reducible refine TX.thenR ?_)
             | fail)
  all_goals exact TX.rt1 [] (.ren rfl)
theorem s_line_Below (g : List (List Int)) (a b : Int) : V.Spec Try.prog Fc.line_Below [rows g, V.int a, V.int b] [] (.tp [V.bool (belR g a b), V.int (okE (oks g [a, b]))]) [] := by
  have ho := s_line_open g [a, b]
  rw [openR, openE] at ho
  rw [belR]
  refine V.Spec.enter Try.tabOK Try.mixed Fn.line_Below rfl rfl rfl fun B hB => ?_
  repeat' (first
   | (with_reducible refine OL.st ?_)
   | (with_reducible refine OL.lit ?_)
   | (with_reducible refine TC.region ?_)
   | (with_reducible refine TC.seq ?_)
   | (with_reducible refine OL.nil ?_)
   | (with_reducible refine TX.thenN ?_)
   | fail)
  refine OL.vwA 1 ?_
  cases hok : oks g [a, b] <;> rw [hok] at ho
  · simp only [Bool.false_eq_true, if_false] at ho
    refine OL.c ho Fn.line_open ?_
    repeat' (first
     | (with_reducible refine OL.st ?_)
     | (with_reducible refine TC.region ?_)
     | (with_reducible refine TC.seq ?_)
     | (with_reducible refine OL.nil ?_)
     | (with_reducible refine TX.thenN ?_)
     | (with_reducible refine TC.ifT ?_)
     | (with_reducible refine TC.ret ?_)
     | (with_reducible refine TX.thenR ?_)
     | fail)
    exact TX.rt2 [] (.ren rfl) (.ren rfl)
  · simp only [if_true] at ho
    rw [oks_cls] at hok
    simp only [List.all_cons, List.all_nil, Bool.and_true, Bool.and_eq_true] at hok
    obtain ⟨hf, ha, hb⟩ := hok
    have hac := isClass_iff ha
    have hul := ups_length g
    have hh := s_has (ups g)[a.toNat] (ups_lt hf _ (List.getElem_mem _)) b
    refine OL.c ho Fn.line_open ?_
    with_reducible refine OL.st ?_
    with_reducible refine OL.st ?_
    refine OL.frzJ 16 ?_
    repeat' (first
     | (with_reducible refine OL.st ?_)
     | (with_reducible refine TC.region ?_)
     | (with_reducible refine TC.seq ?_)
     | (with_reducible refine OL.nil ?_)
     | (with_reducible refine TX.thenN ?_)
     | (with_reducible refine TC.skip ?_)
     | (with_reducible refine TC.ifF ?_)
     | fail)
    refine OL.c hh Fn.line_set_has ?_
    repeat' (first
     | (with_reducible refine OL.st ?_)
     | (with_reducible refine OL.nil ?_)
     | (with_reducible refine TX.thenN ?_)
     | (with_reducible refine TC.ret ?_)
     | fail)
    refine TX.rt2 [] (.bool ?_) (.ren rfl)
    rw [upHas, getD_lt (by omega)]; rfl
theorem s_line_Above (g : List (List Int)) (c : Int) : V.Spec Try.prog Fc.line_Above [rows g, V.int c] [] (.tp [ints (aboR g c), V.int (okE (oks g [c]))]) [] := by
  have ho := s_line_open g [c]
  rw [openR, openE] at ho
  rw [aboR]
  refine V.Spec.enter Try.tabOK Try.mixed Fn.line_Above rfl rfl rfl fun B hB => ?_
  repeat' (first
   | (with_reducible refine OL.st ?_)
   | (with_reducible refine OL.lit ?_)
   | (with_reducible refine TC.region ?_)
   | (with_reducible refine TC.seq ?_)
   | (with_reducible refine OL.nil ?_)
   | (with_reducible refine TX.thenN ?_)
   | fail)
  refine OL.vwA 1 ?_
  cases hok : oks g [c] <;> rw [hok] at ho
  · simp only [Bool.false_eq_true, if_false] at ho
    refine OL.c ho Fn.line_open ?_
    repeat' (first
     | (with_reducible refine OL.st ?_)
     | (with_reducible refine TC.region ?_)
     | (with_reducible refine TC.seq ?_)
     | (with_reducible refine OL.nil ?_)
     | (with_reducible refine TX.thenN ?_)
     | (with_reducible refine TC.ifT ?_)
     | (with_reducible refine TC.ret ?_)
     | (with_reducible refine TX.thenR ?_)
     | fail)
    exact TX.rt2 [] (.nil (by decide)) (.ren rfl)
  · simp only [if_true] at ho
    rw [oks_cls] at hok
    simp only [List.all_cons, List.all_nil, Bool.and_true, Bool.and_eq_true] at hok
    obtain ⟨hf, ha⟩ := hok
    have hac := isClass_iff ha
    have hul := ups_length g
    have hpl := parentsOf_length g
    have h16 := fine_len hf
    have hs : (ups g)[c.toNat] < 2 ^ 64 := ups_lt hf _ (List.getElem_mem _)
    have ec : (upto (parentsOf g).length).filter (hasB (ups g)[c.toNat]) = clsL g (upHas g c) := by
      rw [hpl, clsL]; congr 1; funext b; rw [upHas, getD_lt (by omega)]
    have hall := s_line_graph_all (parentsOf g) (ups g) (hasB (ups g)[c.toNat]) (by omega)
    rw [ec] at hall
    refine OL.c ho Fn.line_open ?_
    with_reducible refine OL.st ?_
    with_reducible refine OL.st ?_
    refine OL.frzJ 13 ?_
    repeat' (first
     | (with_reducible refine OL.st ?_)
     | (with_reducible refine TC.region ?_)
     | (with_reducible refine TC.seq ?_)
     | (with_reducible refine OL.nil ?_)
     | (with_reducible refine TX.thenN ?_)
     | (with_reducible refine TC.skip ?_)
     | (with_reducible refine TC.ifF ?_)
     | fail)
    refine OL.c hall Fn.line_graph_all ?_ (hle := by exact ⟨.ren rfl, LE.fun_ (first' := [setA (ups g)[c.toNat]]) (caps' := []) Fn.line_set_has rfl ⟨.ren rfl, trivial⟩ trivial (fun x _ => s_has _ hs x), trivial⟩)
    repeat' (first
     | (with_reducible refine OL.st ?_)
     | (with_reducible refine OL.nil ?_)
     | (with_reducible refine TX.thenN ?_)
     | (with_reducible refine TC.ret ?_)
     | fail)
    exact TX.rt2 [] (.ren rfl) (.ren rfl)
theorem s_line_Under_1 (g : List (List Int)) (hf : fine g = true) (a c : Int) (ha : 0 ≤ a ∧ a < 3 + (g.length : Int)) :
    V.Spec Try.prog Fc.line_Under_1 [V.int a, .ep [gP g] 0, .ep [V.int c] 0] [] (V.bool (upHas g a c)) [] := by
  refine V.Spec.enter Try.tabOK Try.mixed Fn.line_Under_1 rfl rfl rfl fun B hB => ?_
  have hul := ups_length g
  have hlt : a.toNat < (ups g).length := by omega
  have hh := s_has (ups g)[a.toNat] (ups_lt hf _ (List.getElem_mem _)) c
  repeat' (first
   | (with_reducible refine OL.st ?_)
   | (with_reducible refine TC.region ?_)
   | (with_reducible refine TC.seq ?_)
   | (with_reducible refine OL.nil ?_)
   | (with_reducible refine TX.thenN ?_)
   | fail)
  (with_reducible refine TC.draw (id := 1) true 10 10 ?_) <;> (with_reducible refine OD.st 0 ?_) <;> (with_reducible refine OD.st 1 ?_) <;> (with_reducible refine OD.st 2 ?_) <;> (with_reducible refine OD.st 3 ?_) <;> (with_reducible refine OD.st 4 ?_) <;> (with_reducible refine OD.st 5 ?_) <;> (with_reducible refine OD.st 6 ?_) <;> (with_reducible refine OD.st 7 ?_) <;> (with_reducible refine OD.c1 8 hh Fn.line_set_has ?_) <;> (with_reducible refine OD.st 9 ?_) <;> (with_reducible refine OD.dn ?_)
  all_goals repeat' (first | (with_reducible refine TX.thenN ?_) | (with_reducible refine TC.ret ?_) | fail)
  all_goals refine TX.rt1 [] (.bool ?_)
  all_goals rw [upHas, getD_lt (by omega)]
theorem s_line_Under (g : List (List Int)) (c : Int) : V.Spec Try.prog Fc.line_Under [rows g, V.int c] [] (.tp [ints (undR g c), V.int (okE (oks g [c]))]) [] := by
  have ho := s_line_open g [c]
  rw [openR, openE] at ho
  rw [undR]
  refine V.Spec.enter Try.tabOK Try.mixed Fn.line_Under rfl rfl rfl fun B hB => ?_
  repeat' (first
   | (with_reducible refine OL.st ?_)
   | (with_reducible refine OL.box ?_)
   | (with_reducible refine OL.lit ?_)
   | (with_reducible refine TC.region ?_)
   | (with_reducible refine TC.seq ?_)
   | (with_reducible refine OL.nil ?_)
   | (with_reducible refine TX.thenN ?_)
   | fail)
  refine OL.vwA 1 ?_
  cases hok : oks g [c] <;> rw [hok] at ho
  · simp only [Bool.false_eq_true, if_false] at ho
    refine OL.c ho Fn.line_open ?_
    repeat' (first
     | (with_reducible refine OL.st ?_)
     | (with_reducible refine OL.alloc ?_)
     | (with_reducible refine OL.store ?_)
     | (with_reducible refine TC.region ?_)
     | (with_reducible refine TC.seq ?_)
     | (with_reducible refine OL.nil ?_)
     | (with_reducible refine TX.thenN ?_)
     | (with_reducible refine TC.ifT ?_)
     | (with_reducible refine TC.ret ?_)
     | (with_reducible refine TX.thenR ?_)
     | fail)
    exact TX.rt2 [] (.nil (by decide)) (.ren rfl)
  · simp only [if_true] at ho
    rw [oks_cls] at hok
    simp only [List.all_cons, List.all_nil, Bool.and_true, Bool.and_eq_true] at hok
    obtain ⟨hf, ha⟩ := hok
    have hpl := parentsOf_length g
    have h16 := fine_len hf
    have hall := s_line_graph_all (parentsOf g) (ups g) (fun a => upHas g a c) (by omega)
    have ec : ((upto (parentsOf g).length).filter fun a => upHas g a c) = clsL g fun a => upHas g a c := by rw [hpl, clsL]
    rw [ec] at hall
    refine OL.c ho Fn.line_open ?_
    with_reducible refine OL.st ?_
    with_reducible refine OL.st ?_
    refine OL.frzJ 13 ?_
    repeat' (first
     | (with_reducible refine OL.st ?_)
     | (with_reducible refine OL.alloc ?_)
     | (with_reducible refine OL.store ?_)
     | (with_reducible refine TC.region ?_)
     | (with_reducible refine TC.seq ?_)
     | (with_reducible refine OL.nil ?_)
     | (with_reducible refine TX.thenN ?_)
     | (with_reducible refine TC.skip ?_)
     | (with_reducible refine TC.ifF ?_)
     | fail)
    refine OL.frzA 0 ?_
    refine OL.frzA 4 ?_
    refine OL.c hall Fn.line_graph_all ?_ (hle := by exact ⟨.ren rfl, LE.fun_ (first' := []) (caps' := [.ep [gP g] 0, .ep [V.int c] 0]) Fn.line_Under_1 rfl trivial ⟨.ren rfl, .ren rfl, trivial⟩ (fun x hx => s_line_Under_1 g hf x c (by have := mem_upto.1 hx; omega)), trivial⟩)
    repeat' (first
     | (with_reducible refine OL.st ?_)
     | (with_reducible refine OL.nil ?_)
     | (with_reducible refine TX.thenN ?_)
     | (with_reducible refine TC.ret ?_)
     | fail)
    exact TX.rt2 [] (.ren rfl) (.ren rfl)
theorem ofL_bit (l : List Int) (b : Nat) : (ofL l).testBit b = l.any fun c => decide (c.toNat = b) := by
  show (l.foldl (fun s (c : Int) => s ||| 1 <<< c.toNat) 0).testBit b = _
  rw [foldl_or_bit, Nat.zero_testBit, Bool.false_or]
  congr 1; funext c
  rw [Nat.one_shiftLeft, Nat.testBit_two_pow]
theorem and_ofL (p : Nat) (l : List Int) (hl : ∀ x ∈ l, 0 ≤ x ∧ x < 64) : (p &&& ofL l == ofL l) = l.all (hasB p) := by
  rw [Bool.eq_iff_iff, beq_iff_eq, List.all_eq_true]
  constructor
  · intro h x hx
    have hb := congrArg (fun n => Nat.testBit n x.toNat) h
    have h1 : (ofL l).testBit x.toNat = true := by rw [ofL_bit, List.any_eq_true]; exact ⟨x, hx, by simp⟩
    simp only [Nat.testBit_and, h1, Bool.and_true] at hb
    have := hl x hx
    simp [hasB, this.1, this.2, hb]
  · intro h
    refine Nat.eq_of_testBit_eq fun i => ?_
    rw [Nat.testBit_and]
    cases hq : (ofL l).testBit i with
    | false => simp
    | true =>
      rw [ofL_bit, List.any_eq_true] at hq
      obtain ⟨x, hx, he⟩ := hq
      have := h x hx
      simp only [hasB, Bool.and_eq_true] at this
      simp only [decide_eq_true_eq] at he
      rw [← he, this.2]; rfl
theorem s_line_Heirs_1 (g : List (List Int)) (hf : fine g = true) (l : List Int) (hl : ∀ x ∈ l, 0 ≤ x ∧ x < 64) (a : Int) (ha : 0 ≤ a ∧ a < 3 + (g.length : Int)) :
    V.Spec Try.prog Fc.line_Heirs_1 [V.int a, .ep [gP g] 0, .ep [V.u64 (ofL l)] 0] [] (V.bool (l.all (upHas g a))) [] := by
  refine V.Spec.enter Try.tabOK Try.mixed Fn.line_Heirs_1 rfl rfl rfl fun B hB => ?_
  have hul := ups_length g
  have hlt : a.toNat < (ups g).length := by omega
  have hh := s_line_set_and (ups g)[a.toNat] (ofL l) (ups_lt hf _ (List.getElem_mem _)) (ofL_lt _ hl)
  have e : (((((ups g)[a.toNat] &&& ofL l : Nat) : Int)) == ((ofL l : Nat) : Int)) = l.all (upHas g a) := by
    rw [show upHas g a = hasB (ups g)[a.toNat] from by funext b; rw [upHas, getD_lt hlt], ← and_ofL _ _ hl, Bool.eq_iff_iff, beq_iff_eq, beq_iff_eq]
    omega
  repeat' (first
   | (with_reducible refine OL.st ?_)
   | (with_reducible refine TC.region ?_)
   | (with_reducible refine TC.seq ?_)
   | (with_reducible refine OL.nil ?_)
   | (with_reducible refine TX.thenN ?_)
   | fail)
  (with_reducible refine TC.draw (id := 1) false 12 12 ?_) <;> (with_reducible refine OD.st 4 ?_) <;> ((with_reducible refine OD.n3 0 7 9 ?_ ?_ ?_) <;> (first | ((with_reducible refine NextBy.at 0 ?_) <;> (with_reducible refine NextBy.s ?_) <;> (with_reducible refine OD.st 1 ?_) <;> (with_reducible refine OD.st 2 ?_) <;> ((with_reducible refine OD.n3 3 7 9 ?_ ?_ ?_) <;> (first | ((with_reducible refine NextBy.at 3 ?_) <;> (with_reducible refine NextBy.s ?_) <;> (with_reducible refine OD.st 5 ?_) <;> ((with_reducible refine OD.n3 6 7 9 ?_ ?_ ?_) <;> (first | ((with_reducible refine NextBy.at 6 ?_) <;> (with_reducible refine NextBy.s ?_) <;> ((with_reducible refine OD.n2 7 9 ?_ ?_) <;> (first | ((with_reducible refine NextBy.at 7 ?_) <;> (with_reducible refine NextBy.s ?_) <;> ((with_reducible refine OD.n2 8 9 ?_ ?_) <;> (first | ((with_reducible refine NextBy.at 8 ?_) <;> (with_reducible refine NextBy.c hh Fn.line_set_and ?_) <;> (with_reducible refine OD.s1 9 ?_) <;> (with_reducible refine OD.a1 10 ?_; refine OL.eqA1 ?_ eqGuard82; with_reducible refine OL.nil ?_; with_reducible refine TX.od ?_) <;> (with_reducible refine OD.st 11 ?_) <;> (with_reducible refine OD.dn ?_)) | ((with_reducible refine NextBy.at 9 ?_) <;> (with_reducible refine NextBy.s ?_) <;> (with_reducible refine OD.c1 8 hh Fn.line_set_and ?_) <;> (with_reducible refine OD.a1 10 ?_; refine OL.eqA1 ?_ eqGuard82; with_reducible refine OL.nil ?_; with_reducible refine TX.od ?_) <;> (with_reducible refine OD.st 11 ?_) <;> (with_reducible refine OD.dn ?_))))) | ((with_reducible refine NextBy.at 9 ?_) <;> (with_reducible refine NextBy.s ?_) <;> (with_reducible refine OD.s1 7 ?_) <;> (with_reducible refine OD.c1 8 hh Fn.line_set_and ?_) <;> (with_reducible refine OD.a1 10 ?_; refine OL.eqA1 ?_ eqGuard82; with_reducible refine OL.nil ?_; with_reducible refine TX.od ?_) <;> (with_reducible refine OD.st 11 ?_) <;> (with_reducible refine OD.dn ?_))))) | ((with_reducible refine NextBy.at 7 ?_) <;> (with_reducible refine NextBy.s ?_) <;> ((with_reducible refine OD.n2 6 9 ?_ ?_) <;> (first | ((with_reducible refine NextBy.at 6 ?_) <;> (with_reducible refine NextBy.s ?_) <;> ((with_reducible refine OD.n2 8 9 ?_ ?_) <;> (first | ((with_reducible refine NextBy.at 8 ?_) <;> (with_reducible refine NextBy.c hh Fn.line_set_and ?_) <;> (with_reducible refine OD.s1 9 ?_) <;> (with_reducible refine OD.a1 10 ?_; refine OL.eqA1 ?_ eqGuard82; with_reducible refine OL.nil ?_; with_reducible refine TX.od ?_) <;> (with_reducible refine OD.st 11 ?_) <;> (with_reducible refine OD.dn ?_)) | ((with_reducible refine NextBy.at 9 ?_) <;> (with_reducible refine NextBy.s ?_) <;> (with_reducible refine OD.c1 8 hh Fn.line_set_and ?_) <;> (with_reducible refine OD.a1 10 ?_; refine OL.eqA1 ?_ eqGuard82; with_reducible refine OL.nil ?_; with_reducible refine TX.od ?_) <;> (with_reducible refine OD.st 11 ?_) <;> (with_reducible refine OD.dn ?_))))) | ((with_reducible refine NextBy.at 9 ?_) <;> (with_reducible refine NextBy.s ?_) <;> (with_reducible refine OD.s1 6 ?_) <;> (with_reducible refine OD.c1 8 hh Fn.line_set_and ?_) <;> (with_reducible refine OD.a1 10 ?_; refine OL.eqA1 ?_ eqGuard82; with_reducible refine OL.nil ?_; with_reducible refine TX.od ?_) <;> (with_reducible refine OD.st 11 ?_) <;> (with_reducible refine OD.dn ?_))))) | ((with_reducible refine NextBy.at 9 ?_) <;> (with_reducible refine NextBy.s ?_) <;> ((with_reducible refine OD.n2 6 7 ?_ ?_) <;> (first | ((with_reducible refine NextBy.at 6 ?_) <;> (with_reducible refine NextBy.s ?_) <;> (with_reducible refine OD.s1 7 ?_) <;> (with_reducible refine OD.c1 8 hh Fn.line_set_and ?_) <;> (with_reducible refine OD.a1 10 ?_; refine OL.eqA1 ?_ eqGuard82; with_reducible refine OL.nil ?_; with_reducible refine TX.od ?_) <;> (with_reducible refine OD.st 11 ?_) <;> (with_reducible refine OD.dn ?_)) | ((with_reducible refine NextBy.at 7 ?_) <;> (with_reducible refine NextBy.s ?_) <;> (with_reducible refine OD.s1 6 ?_) <;> (with_reducible refine OD.c1 8 hh Fn.line_set_and ?_) <;> (with_reducible refine OD.a1 10 ?_; refine OL.eqA1 ?_ eqGuard82; with_reducible refine OL.nil ?_; with_reducible refine TX.od ?_) <;> (with_reducible refine OD.st 11 ?_) <;> (with_reducible refine OD.dn ?_)))))))) | ((with_reducible refine NextBy.at 7 ?_) <;> (with_reducible refine NextBy.s ?_) <;> ((with_reducible refine OD.n2 3 9 ?_ ?_) <;> (first | ((with_reducible refine NextBy.at 3 ?_) <;> (with_reducible refine NextBy.s ?_) <;> (with_reducible refine OD.st 5 ?_) <;> ((with_reducible refine OD.n2 6 9 ?_ ?_) <;> (first | ((with_reducible refine NextBy.at 6 ?_) <;> (with_reducible refine NextBy.s ?_) <;> ((with_reducible refine OD.n2 8 9 ?_ ?_) <;> (first | ((with_reducible refine NextBy.at 8 ?_) <;> (with_reducible refine NextBy.c hh Fn.line_set_and ?_) <;> (with_reducible refine OD.s1 9 ?_) <;> (with_reducible refine OD.a1 10 ?_; refine OL.eqA1 ?_ eqGuard82; with_reducible refine OL.nil ?_; with_reducible refine TX.od ?_) <;> (with_reducible refine OD.st 11 ?_) <;> (with_reducible refine OD.dn ?_)) | ((with_reducible refine NextBy.at 9 ?_) <;> (with_reducible refine NextBy.s ?_) <;> (with_reducible refine OD.c1 8 hh Fn.line_set_and ?_) <;> (with_reducible refine OD.a1 10 ?_; refine OL.eqA1 ?_ eqGuard82; with_reducible refine OL.nil ?_; with_reducible refine TX.od ?_) <;> (with_reducible refine OD.st 11 ?_) <;> (with_reducible refine OD.dn ?_))))) | ((with_reducible refine NextBy.at 9 ?_) <;> (with_reducible refine NextBy.s ?_) <;> (with_reducible refine OD.s1 6 ?_) <;> (with_reducible refine OD.c1 8 hh Fn.line_set_and ?_) <;> (with_reducible refine OD.a1 10 ?_; refine OL.eqA1 ?_ eqGuard82; with_reducible refine OL.nil ?_; with_reducible refine TX.od ?_) <;> (with_reducible refine OD.st 11 ?_) <;> (with_reducible refine OD.dn ?_))))) | ((with_reducible refine NextBy.at 9 ?_) <;> (with_reducible refine NextBy.s ?_) <;> (with_reducible refine OD.s1 3 ?_) <;> (with_reducible refine OD.st 5 ?_) <;> (with_reducible refine OD.s1 6 ?_) <;> (with_reducible refine OD.c1 8 hh Fn.line_set_and ?_) <;> (with_reducible refine OD.a1 10 ?_; refine OL.eqA1 ?_ eqGuard82; with_reducible refine OL.nil ?_; with_reducible refine TX.od ?_) <;> (with_reducible refine OD.st 11 ?_) <;> (with_reducible refine OD.dn ?_))))) | ((with_reducible refine NextBy.at 9 ?_) <;> (with_reducible refine NextBy.s ?_) <;> ((with_reducible refine OD.n2 3 7 ?_ ?_) <;> (first | ((with_reducible refine NextBy.at 3 ?_) <;> (with_reducible refine NextBy.s ?_) <;> (with_reducible refine OD.st 5 ?_) <;> ((with_reducible refine OD.n2 6 7 ?_ ?_) <;> (first | ((with_reducible refine NextBy.at 6 ?_) <;> (with_reducible refine NextBy.s ?_) <;> (with_reducible refine OD.s1 7 ?_) <;> (with_reducible refine OD.c1 8 hh Fn.line_set_and ?_) <;> (with_reducible refine OD.a1 10 ?_; refine OL.eqA1 ?_ eqGuard82; with_reducible refine OL.nil ?_; with_reducible refine TX.od ?_) <;> (with_reducible refine OD.st 11 ?_) <;> (with_reducible refine OD.dn ?_)) | ((with_reducible refine NextBy.at 7 ?_) <;> (with_reducible refine NextBy.s ?_) <;> (with_reducible refine OD.s1 6 ?_) <;> (with_reducible refine OD.c1 8 hh Fn.line_set_and ?_) <;> (with_reducible refine OD.a1 10 ?_; refine OL.eqA1 ?_ eqGuard82; with_reducible refine OL.nil ?_; with_reducible refine TX.od ?_) <;> (with_reducible refine OD.st 11 ?_) <;> (with_reducible refine OD.dn ?_))))) | ((with_reducible refine NextBy.at 7 ?_) <;> (with_reducible refine NextBy.s ?_) <;> (with_reducible refine OD.s1 3 ?_) <;> (with_reducible refine OD.st 5 ?_) <;> (with_reducible refine OD.s1 6 ?_) <;> (with_reducible refine OD.c1 8 hh Fn.line_set_and ?_) <;> (with_reducible refine OD.a1 10 ?_; refine OL.eqA1 ?_ eqGuard82; with_reducible refine OL.nil ?_; with_reducible refine TX.od ?_) <;> (with_reducible refine OD.st 11 ?_) <;> (with_reducible refine OD.dn ?_)))))))) | ((with_reducible refine NextBy.at 7 ?_) <;> (with_reducible refine NextBy.s ?_) <;> ((with_reducible refine OD.n2 0 9 ?_ ?_) <;> (first | ((with_reducible refine NextBy.at 0 ?_) <;> (with_reducible refine NextBy.s ?_) <;> (with_reducible refine OD.st 1 ?_) <;> (with_reducible refine OD.st 2 ?_) <;> ((with_reducible refine OD.n2 3 9 ?_ ?_) <;> (first | ((with_reducible refine NextBy.at 3 ?_) <;> (with_reducible refine NextBy.s ?_) <;> (with_reducible refine OD.st 5 ?_) <;> ((with_reducible refine OD.n2 6 9 ?_ ?_) <;> (first | ((with_reducible refine NextBy.at 6 ?_) <;> (with_reducible refine NextBy.s ?_) <;> ((with_reducible refine OD.n2 8 9 ?_ ?_) <;> (first | ((with_reducible refine NextBy.at 8 ?_) <;> (with_reducible refine NextBy.c hh Fn.line_set_and ?_) <;> (with_reducible refine OD.s1 9 ?_) <;> (with_reducible refine OD.a1 10 ?_; refine OL.eqA1 ?_ eqGuard82; with_reducible refine OL.nil ?_; with_reducible refine TX.od ?_) <;> (with_reducible refine OD.st 11 ?_) <;> (with_reducible refine OD.dn ?_)) | ((with_reducible refine NextBy.at 9 ?_) <;> (with_reducible refine NextBy.s ?_) <;> (with_reducible refine OD.c1 8 hh Fn.line_set_and ?_) <;> (with_reducible refine OD.a1 10 ?_; refine OL.eqA1 ?_ eqGuard82; with_reducible refine OL.nil ?_; with_reducible refine TX.od ?_) <;> (with_reducible refine OD.st 11 ?_) <;> (with_reducible refine OD.dn ?_))))) | ((with_reducible refine NextBy.at 9 ?_) <;> (with_reducible refine NextBy.s ?_) <;> (with_reducible refine OD.s1 6 ?_) <;> (with_reducible refine OD.c1 8 hh Fn.line_set_and ?_) <;> (with_reducible refine OD.a1 10 ?_; refine OL.eqA1 ?_ eqGuard82; with_reducible refine OL.nil ?_; with_reducible refine TX.od ?_) <;> (with_reducible refine OD.st 11 ?_) <;> (with_reducible refine OD.dn ?_))))) | ((with_reducible refine NextBy.at 9 ?_) <;> (with_reducible refine NextBy.s ?_) <;> (with_reducible refine OD.s1 3 ?_) <;> (with_reducible refine OD.st 5 ?_) <;> (with_reducible refine OD.s1 6 ?_) <;> (with_reducible refine OD.c1 8 hh Fn.line_set_and ?_) <;> (with_reducible refine OD.a1 10 ?_; refine OL.eqA1 ?_ eqGuard82; with_reducible refine OL.nil ?_; with_reducible refine TX.od ?_) <;> (with_reducible refine OD.st 11 ?_) <;> (with_reducible refine OD.dn ?_))))) | ((with_reducible refine NextBy.at 9 ?_) <;> (with_reducible refine NextBy.s ?_) <;> (with_reducible refine OD.s1 0 ?_) <;> (with_reducible refine OD.st 1 ?_) <;> (with_reducible refine OD.st 2 ?_) <;> (with_reducible refine OD.s1 3 ?_) <;> (with_reducible refine OD.st 5 ?_) <;> (with_reducible refine OD.s1 6 ?_) <;> (with_reducible refine OD.c1 8 hh Fn.line_set_and ?_) <;> (with_reducible refine OD.a1 10 ?_; refine OL.eqA1 ?_ eqGuard82; with_reducible refine OL.nil ?_; with_reducible refine TX.od ?_) <;> (with_reducible refine OD.st 11 ?_) <;> (with_reducible refine OD.dn ?_))))) | ((with_reducible refine NextBy.at 9 ?_) <;> (with_reducible refine NextBy.s ?_) <;> ((with_reducible refine OD.n2 0 7 ?_ ?_) <;> (first | ((with_reducible refine NextBy.at 0 ?_) <;> (with_reducible refine NextBy.s ?_) <;> (with_reducible refine OD.st 1 ?_) <;> (with_reducible refine OD.st 2 ?_) <;> ((with_reducible refine OD.n2 3 7 ?_ ?_) <;> (first | ((with_reducible refine NextBy.at 3 ?_) <;> (with_reducible refine NextBy.s ?_) <;> (with_reducible refine OD.st 5 ?_) <;> ((with_reducible refine OD.n2 6 7 ?_ ?_) <;> (first | ((with_reducible refine NextBy.at 6 ?_) <;> (with_reducible refine NextBy.s ?_) <;> (with_reducible refine OD.s1 7 ?_) <;> (with_reducible refine OD.c1 8 hh Fn.line_set_and ?_) <;> (with_reducible refine OD.a1 10 ?_; refine OL.eqA1 ?_ eqGuard82; with_reducible refine OL.nil ?_; with_reducible refine TX.od ?_) <;> (with_reducible refine OD.st 11 ?_) <;> (with_reducible refine OD.dn ?_)) | ((with_reducible refine NextBy.at 7 ?_) <;> (with_reducible refine NextBy.s ?_) <;> (with_reducible refine OD.s1 6 ?_) <;> (with_reducible refine OD.c1 8 hh Fn.line_set_and ?_) <;> (with_reducible refine OD.a1 10 ?_; refine OL.eqA1 ?_ eqGuard82; with_reducible refine OL.nil ?_; with_reducible refine TX.od ?_) <;> (with_reducible refine OD.st 11 ?_) <;> (with_reducible refine OD.dn ?_))))) | ((with_reducible refine NextBy.at 7 ?_) <;> (with_reducible refine NextBy.s ?_) <;> (with_reducible refine OD.s1 3 ?_) <;> (with_reducible refine OD.st 5 ?_) <;> (with_reducible refine OD.s1 6 ?_) <;> (with_reducible refine OD.c1 8 hh Fn.line_set_and ?_) <;> (with_reducible refine OD.a1 10 ?_; refine OL.eqA1 ?_ eqGuard82; with_reducible refine OL.nil ?_; with_reducible refine TX.od ?_) <;> (with_reducible refine OD.st 11 ?_) <;> (with_reducible refine OD.dn ?_))))) | ((with_reducible refine NextBy.at 7 ?_) <;> (with_reducible refine NextBy.s ?_) <;> (with_reducible refine OD.s1 0 ?_) <;> (with_reducible refine OD.st 1 ?_) <;> (with_reducible refine OD.st 2 ?_) <;> (with_reducible refine OD.s1 3 ?_) <;> (with_reducible refine OD.st 5 ?_) <;> (with_reducible refine OD.s1 6 ?_) <;> (with_reducible refine OD.c1 8 hh Fn.line_set_and ?_) <;> (with_reducible refine OD.a1 10 ?_; refine OL.eqA1 ?_ eqGuard82; with_reducible refine OL.nil ?_; with_reducible refine TX.od ?_) <;> (with_reducible refine OD.st 11 ?_) <;> (with_reducible refine OD.dn ?_)))))))
  all_goals repeat' (first | (with_reducible refine TX.thenN ?_) | (with_reducible refine TC.ret ?_) | fail)
  all_goals exact TX.rt1 [] (.bool e)
theorem s_line_Heirs (g : List (List Int)) (l : List Int) : V.Spec Try.prog Fc.line_Heirs [rows g, ints l] [] (.tp [ints (heirsR g l), V.int (okE (asks g l))]) [] := by
  have ho := s_line_asked g l
  rw [heirsR]
  refine V.Spec.enter Try.tabOK Try.mixed Fn.line_Heirs rfl rfl rfl fun B hB => ?_
  repeat' (first
   | (with_reducible refine OL.st ?_)
   | (with_reducible refine TC.region ?_)
   | (with_reducible refine TC.seq ?_)
   | (with_reducible refine OL.nil ?_)
   | (with_reducible refine TX.thenN ?_)
   | fail)
  cases hok : asks g l <;> rw [hok] at ho
  · simp only [Bool.false_eq_true, if_false] at ho
    refine OL.c ho Fn.line_asked ?_
    repeat' (first
     | (with_reducible refine OL.st ?_)
     | (with_reducible refine OL.alloc ?_)
     | (with_reducible refine OL.store ?_)
     | (with_reducible refine TC.region ?_)
     | (with_reducible refine TC.seq ?_)
     | (with_reducible refine OL.nil ?_)
     | (with_reducible refine TX.thenN ?_)
     | (with_reducible refine TC.ifT ?_)
     | (with_reducible refine TC.ret ?_)
     | (with_reducible refine TX.thenR ?_)
     | fail)
    exact TX.rt2 [] (.nil (by decide)) (.ren rfl)
  · simp only [if_true] at ho
    obtain ⟨hl16, hf, hlm⟩ := asks_mem hok
    have hpl := parentsOf_length g
    have h16 := fine_len hf
    have hl64 : ∀ x ∈ l, 0 ≤ x ∧ x < 64 := fun x hx => by have := hlm x hx; omega
    have hall := s_line_graph_all (parentsOf g) (ups g) (fun a => l.all (upHas g a)) (by omega)
    have ec : ((upto (parentsOf g).length).filter fun a => l.all (upHas g a)) = clsL g fun a => l.all (upHas g a) := by rw [hpl, clsL]
    rw [ec] at hall
    refine OL.c ho Fn.line_asked ?_
    with_reducible refine OL.st ?_
    with_reducible refine OL.st ?_
    refine OL.frzJ 13 ?_
    repeat' (first
     | (with_reducible refine OL.st ?_)
     | (with_reducible refine OL.alloc ?_)
     | (with_reducible refine OL.store ?_)
     | (with_reducible refine TC.region ?_)
     | (with_reducible refine TC.seq ?_)
     | (with_reducible refine OL.nil ?_)
     | (with_reducible refine TX.thenN ?_)
     | (with_reducible refine TC.skip ?_)
     | (with_reducible refine TC.ifF ?_)
     | fail)
    refine OL.c (s_line_of l hl64) Fn.line_of ?_
    repeat' (first
     | (with_reducible refine OL.st ?_)
     | (with_reducible refine OL.alloc ?_)
     | (with_reducible refine OL.storeAgg ?_)
     | (with_reducible refine TC.region ?_)
     | (with_reducible refine TC.seq ?_)
     | (with_reducible refine OL.nil ?_)
     | (with_reducible refine TX.thenN ?_)
     | fail)
    refine OL.frzA 2 ?_
    refine OL.frzA 3 ?_
    refine OL.c hall Fn.line_graph_all ?_ (hle := by exact ⟨.ren rfl, LE.fun_ (first' := []) (caps' := [.ep [gP g] 0, .ep [V.u64 (ofL l)] 0]) Fn.line_Heirs_1 rfl trivial ⟨.ren rfl, .ren rfl, trivial⟩ (fun x hx => s_line_Heirs_1 g hf l hl64 x (by have := mem_upto.1 hx; omega)), trivial⟩)
    repeat' (first
     | (with_reducible refine OL.st ?_)
     | (with_reducible refine OL.nil ?_)
     | (with_reducible refine TX.thenN ?_)
     | (with_reducible refine TC.ret ?_)
     | fail)
    exact TX.rt2 [] (.ren rfl) (.ren rfl)
end Go.Proofs
/- LineHeirs, LineBelows. -/
namespace Go.Proofs
open Go Go.W Go.V
theorem foldl_and_bit {α : Type} (f : α → Nat) (b : Nat) : ∀ (l : List α) (s : Nat), (l.foldl (fun s p => s &&& f p) s).testBit b = (s.testBit b && l.all fun p => (f p).testBit b)
  | [], s => by simp
  | p :: r, s => by rw [List.foldl_cons, foldl_and_bit f b r, Nat.testBit_and, List.all_cons, Bool.and_assoc]
theorem common_has {g : List (List Int)} (hf : fine g = true) (l : List Int) {b : Int} (hb : b ∈ upto (3 + g.length)) : hasB (commonOf g l) b = l.all fun c => upHas g c b := by
  have h := mem_upto.1 hb
  have h16 := fine_len hf
  have e : ∀ x : Nat, hasB x b = x.testBit b.toNat := fun x => by
    have h0 : 0 ≤ b := by omega
    have h1 : b < 64 := by omega
    simp [hasB, h0, h1]
  have h1 : (ofL (upto (3 + g.length))).testBit b.toNat = true := by rw [ofL_bit, List.any_eq_true]; exact ⟨b, hb, by simp⟩
  rw [e, commonOf, foldl_and_bit, h1, Bool.true_and]
  congr 1; funext c
  rw [upHas, e]
theorem leastL_eq (g : List (List Int)) (l : List Int) : leastL g l = leastR g l := by
  rw [leastL, leastR]
  cases hq : asks g l with
  | false => rfl
  | true =>
    obtain ⟨_, hf, _⟩ := asks_mem hq
    have hc : (upto (3 + g.length)).filter (hasB (commonOf g l)) = comR g l := List.filter_congr fun b hb => common_has hf l hb
    simp only [if_true]
    rw [lstR]
    have h1 : (upto (3 + g.length)).filter (leastP g (commonOf g l)) = (upto (3 + g.length)).filter fun c => (comR g l).all (lstP g c) && l.all fun d => upHas g d c := List.filter_congr fun c hm => by
      rw [leastP, hc, common_has hf l hm, Bool.and_comm]
      congr 1
      rw [List.not_any_eq_all_not]
      congr 1; funext d
      rw [lstP, Bool.not_and]; congr 1
      simp [bne]
    rw [h1, ← List.filter_filter]
    rfl
theorem leastE_eq (g : List (List Int)) (l : List Int) : leastE g l = okE (asks g l) := rfl
set_option maxHeartbeats 1000000 in
theorem s_law03_LineHeirs (g : List (List Int)) (l : List Int) : V.Spec Try.prog Fc.law03_LineHeirs [rows g, ints l] [] (V.bool true) [] := by
  have hle := s_line_Least g l
  rw [leastL_eq, leastE_eq] at hle
  refine V.Spec.enter Try.tabOK Try.mixed Fn.law03_LineHeirs rfl rfl rfl fun B hB => ?_
  repeat' (first
   | (with_reducible refine OL.st ?_)
   | (with_reducible refine TC.region ?_)
   | (with_reducible refine TC.seq ?_)
   | (with_reducible refine OL.nil ?_)
   | (with_reducible refine TX.thenN ?_)
   | fail)
  refine OL.c (s_law03_wide g) Fn.law03_wide ?_
  cases hw : wideR g
  · repeat' (first
     | (with_reducible refine OL.st ?_)
     | (with_reducible refine OL.lit ?_)
     | (with_reducible refine OL.gOn ?_)
     | fail)
    refine OL.vwA 0 ?_
    refine OL.c (s_law03_large [l]) Fn.law03_large ?_
    cases hl : largeR [l]
    · repeat' (first
       | (with_reducible refine OL.st ?_)
       | (with_reducible refine TC.region ?_)
       | (with_reducible refine TC.seq ?_)
       | (with_reducible refine OL.nil ?_)
       | (with_reducible refine TX.thenN ?_)
       | (with_reducible refine TC.skip ?_)
       | (with_reducible refine TC.ifF ?_)
       | fail)
      refine OL.c (s_line_Heirs g l) Fn.line_Heirs ?_
      repeat' (first
       | (with_reducible refine OL.st ?_)
       | (with_reducible refine TC.region ?_)
       | (with_reducible refine TC.seq ?_)
       | (with_reducible refine OL.nil ?_)
       | (with_reducible refine TX.thenN ?_)
       | fail)
      refine OL.c (s_ref03_Heirs g l) Fn.ref03_Heirs ?_
      repeat' (first
       | (with_reducible refine OL.st ?_)
       | (with_reducible refine TC.region ?_)
       | (with_reducible refine TC.seq ?_)
       | (with_reducible refine OL.nil ?_)
       | (with_reducible refine TX.thenN ?_)
       | fail)
      refine OL.c hle Fn.line_Least ?_
      repeat' (first
       | (with_reducible refine OL.st ?_)
       | (with_reducible refine TC.region ?_)
       | (with_reducible refine TC.seq ?_)
       | (with_reducible refine OL.nil ?_)
       | (with_reducible refine TX.thenN ?_)
       | fail)
      refine OL.c (s_ref03_Least g l) Fn.ref03_Least ?_
      repeat' (first
       | (with_reducible refine OL.st ?_)
       | (with_reducible refine TC.region ?_)
       | (with_reducible refine TC.seq ?_)
       | (with_reducible refine OL.nil ?_)
       | (with_reducible refine TX.thenN ?_)
       | fail)
      refine OL.c (same_t (heirsR g l)) Fn.ref03_Same ?_
      repeat' (first
       | (with_reducible refine OL.st ?_)
       | (with_reducible refine OL.gOn ?_)
       | (with_reducible refine OL.gD ?_ ?_ <;> (intro hc; try (exfalso; omega)))
       | fail)
      refine OL.c (same_t (leastR g l)) Fn.ref03_Same ?_
      repeat' (first
       | (with_reducible refine OL.st ?_)
       | (with_reducible refine OL.gOn ?_)
       | (with_reducible refine OL.gD ?_ ?_ <;> (intro hc; try (exfalso; omega)))
       | fail)
      refine OL.c s_law03_works Fn.law03_works ?_
      repeat' (first
       | (with_reducible refine OL.st ?_)
       | (with_reducible refine OL.nil ?_)
       | (with_reducible refine TX.thenN ?_)
       | (with_reducible refine TC.ret ?_)
       | fail)
      exact TX.rt1 [] (.ren rfl)
    · repeat' (first
       | (with_reducible refine OL.st ?_)
       | (with_reducible refine TC.region ?_)
       | (with_reducible refine TC.seq ?_)
       | (with_reducible refine OL.nil ?_)
       | (with_reducible refine TX.thenN ?_)
       | (with_reducible refine TC.ifT ?_)
       | fail)
      refine OL.c s_law03_works Fn.law03_works ?_
      repeat' (first
       | (with_reducible refine OL.st ?_)
       | (with_reducible refine OL.nil ?_)
       | (with_reducible refine TX.thenN ?_)
       | (with_reducible refine TC.ret ?_)
       | (with_reducible refine TX.thenR ?_)
       | fail)
      exact TX.rt1 [] (.ren rfl)
  · repeat' (first
     | (with_reducible refine OL.st ?_)
     | (with_reducible refine TC.region ?_)
     | (with_reducible refine TC.seq ?_)
     | (with_reducible refine OL.nil ?_)
     | (with_reducible refine TX.thenN ?_)
     | (with_reducible refine TC.ifT ?_)
     | (with_reducible refine OL.gOff ?_)
     | fail)
    refine OL.c s_law03_works Fn.law03_works ?_
    repeat' (first
     | (with_reducible refine OL.st ?_)
     | (with_reducible refine OL.nil ?_)
     | (with_reducible refine TX.thenN ?_)
     | (with_reducible refine TC.ret ?_)
     | (with_reducible refine TX.thenR ?_)
     | fail)
    exact TX.rt1 [] (.ren rfl)
set_option maxHeartbeats 1000000 in
theorem s_law03_LineBelows (g : List (List Int)) (a b : Int) : V.Spec Try.prog Fc.law03_LineBelows [rows g, V.int a, V.int b] [] (V.bool true) [] := by
  refine V.Spec.enter Try.tabOK Try.mixed Fn.law03_LineBelows rfl rfl rfl fun B hB => ?_
  repeat' (first
   | (with_reducible refine OL.st ?_)
   | (with_reducible refine TC.region ?_)
   | (with_reducible refine TC.seq ?_)
   | (with_reducible refine OL.nil ?_)
   | (with_reducible refine TX.thenN ?_)
   | fail)
  refine OL.c (s_law03_wide g) Fn.law03_wide ?_
  cases hw : wideR g
  · repeat' (first
     | (with_reducible refine OL.st ?_)
     | (with_reducible refine TC.region ?_)
     | (with_reducible refine TC.seq ?_)
     | (with_reducible refine OL.nil ?_)
     | (with_reducible refine TX.thenN ?_)
     | (with_reducible refine TC.skip ?_)
     | (with_reducible refine TC.ifF ?_)
     | fail)
    refine OL.c (s_line_Below g a b) Fn.line_Below ?_
    repeat' (first
     | (with_reducible refine OL.st ?_)
     | (with_reducible refine TC.region ?_)
     | (with_reducible refine TC.seq ?_)
     | (with_reducible refine OL.nil ?_)
     | (with_reducible refine TX.thenN ?_)
     | fail)
    refine OL.c (s_ref03_Below g a b) Fn.ref03_Below ?_
    repeat' (first
     | (with_reducible refine OL.st ?_)
     | (with_reducible refine TC.region ?_)
     | (with_reducible refine TC.seq ?_)
     | (with_reducible refine OL.nil ?_)
     | (with_reducible refine TX.thenN ?_)
     | fail)
    refine OL.c (s_line_Above g a) Fn.line_Above ?_
    repeat' (first
     | (with_reducible refine OL.st ?_)
     | (with_reducible refine TC.region ?_)
     | (with_reducible refine TC.seq ?_)
     | (with_reducible refine OL.nil ?_)
     | (with_reducible refine TX.thenN ?_)
     | fail)
    refine OL.c (s_ref03_Above g a) Fn.ref03_Above ?_
    repeat' (first
     | (with_reducible refine OL.st ?_)
     | (with_reducible refine TC.region ?_)
     | (with_reducible refine TC.seq ?_)
     | (with_reducible refine OL.nil ?_)
     | (with_reducible refine TX.thenN ?_)
     | fail)
    refine OL.c (s_line_Under g a) Fn.line_Under ?_
    repeat' (first
     | (with_reducible refine OL.st ?_)
     | (with_reducible refine TC.region ?_)
     | (with_reducible refine TC.seq ?_)
     | (with_reducible refine OL.nil ?_)
     | (with_reducible refine TX.thenN ?_)
     | fail)
    refine OL.c (s_ref03_Under g a) Fn.ref03_Under ?_
    repeat' (first
     | (with_reducible refine OL.st ?_)
     | (with_reducible refine TC.region ?_)
     | (with_reducible refine TC.seq ?_)
     | (with_reducible refine OL.nil ?_)
     | (with_reducible refine TX.thenN ?_)
     | fail)
    refine OL.c (s_line_Check g) Fn.line_Check ?_
    repeat' (first | (with_reducible refine OL.st ?_) | fail)
    refine OL.c (s_ref03_Check g) Fn.ref03_Check ?_
    repeat' (first
     | (with_reducible refine OL.st ?_)
     | (with_reducible refine OL.gOn ?_)
     | (with_reducible refine OL.gD ?_ ?_ <;> (intro hc; try (exfalso; omega)))
     | fail)
    refine OL.eqBl Try.underlying4 ?_
    rw [beq_self_eq_true]
    repeat' (first
     | (with_reducible refine OL.st ?_)
     | (with_reducible refine OL.gOn ?_)
     | (with_reducible refine OL.gD ?_ ?_ <;> (intro hc; try (exfalso; omega)))
     | fail)
    refine OL.c (same_t (aboR g a)) Fn.ref03_Same ?_
    repeat' (first
     | (with_reducible refine OL.st ?_)
     | (with_reducible refine OL.gOn ?_)
     | (with_reducible refine OL.gD ?_ ?_ <;> (intro hc; try (exfalso; omega)))
     | fail)
    refine OL.c (same_t (undR g a)) Fn.ref03_Same ?_
    repeat' (first
     | (with_reducible refine OL.st ?_)
     | (with_reducible refine OL.gOn ?_)
     | (with_reducible refine OL.gD ?_ ?_ <;> (intro hc; try (exfalso; omega)))
     | fail)
    refine OL.c s_law03_works Fn.law03_works ?_
    repeat' (first
     | (with_reducible refine OL.st ?_)
     | (with_reducible refine OL.nil ?_)
     | (with_reducible refine TX.thenN ?_)
     | (with_reducible refine TC.ret ?_)
     | fail)
    exact TX.rt1 [] (.ren rfl)
  · repeat' (first
     | (with_reducible refine TC.region ?_)
     | (with_reducible refine TC.seq ?_)
     | (with_reducible refine OL.nil ?_)
     | (with_reducible refine TX.thenN ?_)
     | (with_reducible refine TC.ifT ?_)
     | fail)
    refine OL.c s_law03_works Fn.law03_works ?_
    repeat' (first
     | (with_reducible refine OL.st ?_)
     | (with_reducible refine OL.nil ?_)
     | (with_reducible refine TX.thenN ?_)
     | (with_reducible refine TC.ret ?_)
     | (with_reducible refine TX.thenR ?_)
     | fail)
    exact TX.rt1 [] (.ren rfl)
end Go.Proofs
