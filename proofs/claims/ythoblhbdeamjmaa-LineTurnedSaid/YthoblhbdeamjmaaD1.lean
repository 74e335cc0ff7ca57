/- Part 1 of what the claim is proved by: lemmas on the model and walks through functions of the program; no conditions. -/
import Derived.Test.YthoblhbdeamjmaaC1
import Derived.Test.YthoblhbdeamjmaaW2
/- The laws' own: what is above a class, by its parents. -/
namespace Go.V
open Go Go.W
section
variable {C : Cx} {ops : Array Oper} {Q : Qt} {ρ : Ro} {η η2 : Eta} {rest : List Oper} {T d X : Nat} {pos : String} {af : Array Edge} {x y : Operand}
theorem OL.stG {i k E : Nat} {ab : List Bool} {t : Bool} {nl : Option Bool} (hk : k < ab.length) (kk : OL C ops Q rest ρ η2) (hs : (C.tab X).map (fun e => (e.sh.agg, e.size)) = some (false, 1) := by with_unfolding_all exact rfl)
    (hx : ev2 ρ x = some (.gp i 1 k 0) := by with_unfolding_all exact rfl) (hy : ev2 ρ y = some (.raw (.bool t)) := by with_unfolding_all exact rfl) (ho : η[i]? = some (.gs false E 1 nl (ab.map V.bool)) := by with_unfolding_all exact rfl) (hη : η.set i (.gs false E 1 nl ((ab.set k t).map V.bool)) = η2 := by (try dsimp only [List.set]) <;> exact rfl) : OL C ops Q (⟨none, .store X x y, T, pos, af, none⟩ :: rest) ρ η :=
  OL.storeE (e := V.bool ab[k]) (e' := V.bool t) kk hs hx hy ho (map_get hk) rfl (by decide) (by rw [← List.map_set]; exact hη)
end
end Go.V
namespace Go.Proofs
open Go Go.W Go.V
def upStep (a : Nat) (ab : List Bool) (ps : List Int) : List Bool := ps.foldl (fun ab p => ab.set p.toNat (ab.getD p.toNat false || ab.getD a false)) ab
def upAll (g : List (List Int)) : Nat → List Bool → List Bool
  | 0, ab => ab
  | a + 1, ab => if 3 ≤ a + 1 then upAll g a (upStep (a + 1) ab (pOf g ((a + 1 : Nat) : Int))) else ab
theorem getD_set_b (ab : List Bool) (p x : Nat) (v : Bool) (hp : p < ab.length) : (ab.set p v).getD x false = if p = x then v else ab.getD x false := by
  rw [List.getD_eq_getElem?_getD, List.getD_eq_getElem?_getD, List.getElem?_set]
  by_cases h : p = x
  · subst h; simp [hp]
  · simp [h]
theorem upStep_length (a : Nat) : ∀ (ps : List Int) (ab : List Bool), (upStep a ab ps).length = ab.length
  | [], _ => rfl
  | p :: r, ab => by rw [upStep, List.foldl_cons]; exact (upStep_length a r _).trans (by simp)
theorem upStep_eq (a : Nat) : ∀ (ps : List Int) (ab : List Bool), (∀ p ∈ ps, 0 ≤ p ∧ p.toNat < ab.length ∧ p.toNat ≠ a) → upStep a ab ps = if ab.getD a false then markPs ab ps else ab
  | [], ab, _ => by simp [upStep, markPs]
  | p :: r, ab, h => by
    obtain ⟨h0, h1, h2⟩ := h p (by simp)
    have e : upStep a ab (p :: r) = upStep a (ab.set p.toNat (ab.getD p.toNat false || ab.getD a false)) r := rfl
    rw [e, upStep_eq a r _ (fun q hq => by have := h q (by simp [hq]); simpa using this), getD_set_b _ _ _ _ h1, if_neg h2]
    cases hq : ab.getD a false with
    | true => simp only [Bool.or_true, if_true]; rfl
    | false =>
      simp only [Bool.or_false, Bool.false_eq_true, if_false]
      rw [getD_lt h1]
      exact List.set_getElem_self h1
theorem upAll_length (g : List (List Int)) : ∀ (c : Nat) (ab : List Bool), (upAll g c ab).length = ab.length
  | 0, _ => rfl
  | c + 1, ab => by
    rw [upAll]; split
    · rw [upAll_length g c, upStep_length]
    · rfl
theorem upAll_keep {g : List (List Int)} (hf : fine g = true) {N : Nat} (hN : N = 3 + g.length) : ∀ (c : Nat) (ab : List Bool) (b : Nat), ab.length = N → c < N → (b < 3 ∨ c ≤ b) → (upAll g c ab).getD b false = ab.getD b false
  | 0, _, _, _, _, _ => rfl
  | c + 1, ab, b, hl, hc, hb => by
    rw [upAll]
    split
    · have hps := (fine_pOf hf (c := ((c + 1 : Nat) : Int)) (by omega)).2.1
      rw [upAll_keep hf hN c _ b (by rw [upStep_length]; exact hl) (by omega) (by omega), upStep_eq _ _ _ (fun p hp => by have := hps p hp; omega)]
      split
      · rw [markPs_get _ _ _ (fun p hp => by have := hps p hp; omega)]
        have : (pOf g ((c + 1 : Nat) : Int)).any (fun p => p == (b : Int)) = false := by
          rw [List.any_eq_false]; intro p hp; have := hps p hp; simp; omega
        rw [this, Bool.or_false]
      · rfl
    · rfl
theorem upAll_mark {g : List (List Int)} (hf : fine g = true) {N : Nat} (hN : N = 3 + g.length) {b : Nat} (hb : 3 ≤ b) : ∀ (c : Nat) (ab : List Bool), ab.length = N → c < N → (upAll g c ab).getD b false = (markTo g b c ab).getD b false
  | 0, _, _, _ => rfl
  | c + 1, ab, hl, hc => by
    by_cases h : b < c + 1
    · have hps := (fine_pOf hf (c := ((c + 1 : Nat) : Int)) (by omega)).2.1
      rw [markTo, if_pos h, upAll, if_pos (by omega), upAll_mark hf hN hb c _ (by rw [upStep_length]; exact hl) (by omega), upStep_eq _ _ _ (fun p hp => by have := hps p hp; omega)]
    · rw [upAll_keep hf hN (c + 1) ab b hl hc (.inr (by omega)), markTo, if_neg h]
def up0 (N c : Nat) : List Bool := ((List.replicate N false).set 0 true).set c true
theorem up0_get {N c : Nat} (hc : c < N) (x : Nat) : (up0 N c).getD x false = (decide (x = 0) || decide (x = c)) := by
  rw [up0, getD_set_b _ _ _ _ (by simpa using hc), getD_set_b _ _ _ _ (by simp; omega)]
  have h0 : (List.replicate N false).getD x false = false := by
    rw [List.getD_eq_getElem?_getD, List.getElem?_replicate]; split <;> rfl
  rw [h0]
  by_cases h1 : c = x
  · subst h1; simp
  · by_cases h2 : 0 = x
    · subst h2; simp [h1]
    · have e1 : ¬ x = c := fun e => h1 e.symm
      have e2 : ¬ x = 0 := fun e => h2 e.symm
      simp [h1, h2, e1, e2]
theorem upAll_law {g : List (List Int)} (hf : fine g = true) {c b : Nat} (hc : c < 3 + g.length) (hb : b < 3 + g.length) : (upAll g c (up0 (3 + g.length) c)).getD b false = upHas g c b := by
  have h16 := fine_len hf
  have hl : (up0 (3 + g.length) c).length = 3 + g.length := by simp [up0]
  by_cases hbc : b = c
  · subst hbc
    rw [upAll_keep hf rfl b _ b hl hc (.inr (Nat.le_refl _)), up0_get hc, upHas_self hf hc]; simp
  by_cases hb3 : b < 3
  · rw [upAll_keep hf rfl c _ b hl hc (.inl hb3), up0_get hc]
    by_cases h0 : b = 0
    · subst h0; rw [show ((0 : Nat) : Int) = 0 from rfl, upHas_zero hf hc]; rfl
    · rw [upHas_small hf hc (by omega) (fun e => hbc e.symm) h0 (.inr hb3)]; simp [h0, hbc]
  · rw [upAll_mark hf rfl (by omega) c _ hl hc]
    by_cases hle : b ≤ c
    · rw [Bool.eq_iff_iff, markTo_law hf (by omega) c _ hle hc (by omega)]
      constructor
      · rintro ⟨x, h1, h2, h3, h4⟩
        rw [up0_get hc] at h3
        have : x = c := by simp at h3; omega
        subst this; exact h4
      · intro h; exact ⟨c, hle, Nat.le_refl _, by rw [up0_get hc]; simp, h⟩
    · have e : upHas g c b = false := by
        cases h : upHas g c b with
        | false => rfl
        | true => have := upHas_le hf hc (b := (b : Int)) (by omega) (by omega) h; omega
      rw [e, show (markTo g b c (up0 (3 + g.length) c)) = up0 (3 + g.length) c from by
        cases c with
        | zero => rfl
        | succ c => rw [markTo, if_neg (by omega)], up0_get hc]
      simp; omega
/-- What is above a class, as a list of truths. -/
def abB (g : List (List Int)) (c : Int) : List Bool := (upto (3 + g.length)).map (upHas g c)
theorem abB_eq {g : List (List Int)} (hf : fine g = true) {c : Nat} (hc : c < 3 + g.length) : upAll g c (up0 (3 + g.length) c) = abB g c := by
  have hl : (upAll g c (up0 (3 + g.length) c)).length = 3 + g.length := by rw [upAll_length]; simp [up0]
  refine List.ext_getElem (by rw [hl, abB, List.length_map, upto_length]) fun b h1 h2 => ?_
  have := upAll_law hf hc (b := b) (by omega)
  rw [getD_lt h1] at this
  rw [this]
  simp [abB, upto]
theorem upHas_trans {g : List (List Int)} (hf : fine g = true) : ∀ (n a : Nat), a < n → a < 3 + g.length → ∀ b c : Int, (0 ≤ b ∧ b < 3 + (g.length : Int)) → (0 ≤ c ∧ c < 3 + (g.length : Int)) → upHas g a b = true → upHas g b c = true → upHas g a c = true := by
  have h16 := fine_len hf
  intro n
  induction n with
  | zero => intro a h; omega
  | succ n ih =>
    intro a han ha b c hb hc h1 h2
    obtain ⟨b, rfl⟩ := Int.eq_ofNat_of_zero_le hb.1
    rw [upHas_step hf ha (by omega) (by omega)] at h1 ⊢
    simp only [Bool.or_eq_true, decide_eq_true_eq, List.any_eq_true] at h1 ⊢
    rcases h1 with (h1 | h1) | ⟨p, hp, h1⟩
    · have e : b = a := by omega
      subst e
      rw [upHas_step hf ha (by omega) (by omega)] at h2
      simp only [Bool.or_eq_true, decide_eq_true_eq, List.any_eq_true] at h2
      exact h2
    · have e : b = 0 := by omega
      subst e
      have := upHas_le hf (a := 0) (by omega) (b := c) (by omega) (by omega) h2
      left; right; omega
    · have hpp := (fine_pOf hf (c := (a : Int)) (by omega)).2.1 p hp
      obtain ⟨q, rfl⟩ : ∃ q : Nat, p = (q : Int) := ⟨p.toNat, by omega⟩
      exact .inr ⟨_, hp, ih q (by omega) (by omega) b c hb hc h1 h2⟩
end Go.Proofs
/- The laws' own above: the walk. -/
namespace Go.Proofs
open Go Go.W Go.V
abbrev bsl (l : List Bool) : AV := .sl 1 none (l.map V.bool)
theorem upStep_snoc (a : Nat) (ab : List Bool) (ps : List Int) {i : Nat} (h : i < ps.length) : upStep a ab (ps.take (i + 1)) = (upStep a ab (ps.take i)).set ps[i].toNat ((upStep a ab (ps.take i)).getD ps[i].toNat false || (upStep a ab (ps.take i)).getD a false) := by
  rw [upStep, take_succ h, List.foldl_append]; rfl
set_option maxHeartbeats 1000000 in
theorem s_law03_above {g : List (List Int)} (hf : fine g = true) {c : Nat} (hc : c < 3 + g.length) : V.Spec Try.prog Fc.law03_above [rows g, V.int c] [] (bsl (abB g c)) [] := by
  have h16 := fine_len hf
  rw [← abB_eq hf hc]
  obtain ⟨N, hN⟩ : ∃ N, N = 3 + g.length := ⟨_, rfl⟩
  rw [← hN]
  refine V.Spec.enter Try.tabOK Try.mixed Fn.law03_above rfl rfl rfl fun B hB => ?_
  repeat' (first
   | (with_reducible refine OL.st ?_)
   | (with_reducible refine TC.region ?_)
   | (with_reducible refine TC.seq ?_)
   | (with_reducible refine OL.nil ?_)
   | (with_reducible refine TX.thenN ?_)
   | fail)
  refine OL.make (l := N) (c := N) (i := 3 + (g.length : Int)) (j := 3 + (g.length : Int)) (u := V.bool false) (u0 := V.bool false) ?_ (fun m w γ => .raw rfl) (hi := by omega) (hj := by omega)
  have e0 : List.replicate N (V.bool false) = (List.replicate N false).map V.bool := by simp
  rw [e0]
  have hl0 : (List.replicate N false).length = N := by simp
  have hl1 : ((List.replicate N false).set 0 true).length = N := by simp
  have hl2 : (up0 N c).length = N := by simp [up0]
  repeat' (first
   | (with_reducible refine OL.st ?_)
   | (with_reducible refine TC.region ?_)
   | (with_reducible refine TC.seq ?_)
   | (with_reducible refine OL.nil ?_)
   | (with_reducible refine TX.thenN ?_)
   | fail)
  refine OL.stG (k := 0) (ab := List.replicate N false) (by omega) ?_
  repeat' (first | (with_reducible refine OL.st ?_) | fail)
  refine OL.stG (k := c) (ab := (List.replicate N false).set 0 true) (by omega) ?_
  rw [show ((List.replicate N false).set 0 true).set c true = up0 N c from rfl]
  repeat' (first
   | (with_reducible refine OL.st ?_)
   | (with_reducible refine TC.region ?_)
   | (with_reducible refine TC.seq ?_)
   | (with_reducible refine OL.nil ?_)
   | (with_reducible refine TX.thenN ?_)
   | (with_reducible refine TC.block ?_)
   | fail)
  refine TC.lp (fun s : Nat × List Bool => [(0, rows g), (5, .hs 0), (6, V.int s.1)]) (fun s => [.gs false 4 1 none (s.2.map V.bool)]) (fun s => s.2.length = N ∧ s.1 < N ∧ upAll g s.1 s.2 = upAll g c (up0 N c)) (fun s => s.1) (c, up0 N c) [0] ⟨hl2, by dsimp only; omega, rfl⟩ ?_
  rintro ⟨a, ab⟩ ⟨hl, ha, hinv⟩
  dsimp only at hl ha hinv ⊢
  by_cases ha3 : 3 ≤ a
  · obtain ⟨a, rfl⟩ : ∃ a', a = a' + 1 := ⟨a - 1, by omega⟩
    have hps := (fine_pOf hf (c := ((a + 1 : Nat) : Int)) (by omega))
    have hpi : g[((a + 1 : Nat) - 3 : Int).toNat]'(by omega) = pOf g ((a + 1 : Nat) : Int) := by rw [pOf_ge (by omega), getD_lt (by omega)]
    rw [upAll, if_pos ha3] at hinv
    repeat' (first
     | (with_reducible refine OL.st ?_)
     | (with_reducible refine TC.region ?_)
     | (with_reducible refine TC.seq ?_)
     | (with_reducible refine OL.nil ?_)
     | (with_reducible refine TX.thenN ?_)
     | (with_reducible refine TC.block ?_)
     | (with_reducible refine TC.skip ?_)
     | (with_reducible refine TC.ifD ?_ ?_ <;> (intro hc; try (exfalso; omega)))
     | fail)
    rw [hpi]
    generalize pOf g ((a + 1 : Nat) : Int) = ps at *
    refine TC.lp (fun i : Nat => [(0, rows g), (5, .hs 0), (6, V.int ((a + 1 : Nat) : Int)), (27, ints ps), (28, V.int ps.length), (29, V.int i)]) (fun i => [.gs false 4 1 none ((upStep (a + 1) ab (ps.take i)).map V.bool)]) (fun i => i ≤ ps.length) (fun i => ps.length - i) 0 [0] (Nat.zero_le _) ?_
    rintro i hi
    have hli : (upStep (a + 1) ab (ps.take i)).length = N := by rw [upStep_length]; exact hl
    by_cases hil : i < ps.length
    · have hp := hps.2.1 ps[i] (List.getElem_mem _)
      have hsn := upStep_snoc (a + 1) ab ps hil
      generalize hub : upStep (a + 1) ab (ps.take i) = ub at *
      have hg1 : ub.getD ps[i].toNat false = ub[ps[i].toNat]'(by omega) := getD_lt (by omega)
      have hg2 : ub.getD (a + 1) false = ub[a + 1]'(by omega) := getD_lt (by omega)
      rw [hg1, hg2] at hsn
      repeat' (first
       | (with_reducible refine OL.st ?_)
       | (with_reducible refine TC.region ?_)
       | (with_reducible refine TC.seq ?_)
       | (with_reducible refine OL.nil ?_)
       | (with_reducible refine TX.thenN ?_)
       | (with_reducible refine TC.block ?_)
       | (with_reducible refine TC.skip ?_)
       | (with_reducible refine TC.ifD ?_ ?_ <;> (intro hc; try (exfalso; omega)))
       | fail)
      cases hq : ub[ps[i].toNat]'(by omega)
      · rw [hq, Bool.false_or] at hsn
        repeat' (first | (with_reducible refine OL.st ?_) | (with_reducible refine OL.gOn ?_) | fail)
        refine OL.stG (k := ps[i].toNat) (ab := ub) (by omega) ?_
        have e := congrArg (List.map V.bool) hsn.symm
        repeat' (first
         | (with_reducible refine OL.st ?_)
         | (with_reducible refine TC.region ?_)
         | (with_reducible refine OL.nil ?_)
         | (with_reducible refine TX.thenN ?_)
         | (with_reducible refine TX.blkN ?_)
         | fail)
        exact TX.rd (i + 1) [0] (by omega) (by omega)
      · rw [hq, Bool.true_or] at hsn
        repeat' (first | (with_reducible refine OL.st ?_) | (with_reducible refine OL.gOff ?_) | fail)
        refine OL.stG (k := ps[i].toNat) (ab := ub) (by omega) ?_
        have e := congrArg (List.map V.bool) hsn.symm
        repeat' (first
         | (with_reducible refine OL.st ?_)
         | (with_reducible refine TC.region ?_)
         | (with_reducible refine OL.nil ?_)
         | (with_reducible refine TX.thenN ?_)
         | (with_reducible refine TX.blkN ?_)
         | fail)
        exact TX.rd (i + 1) [0] (by omega) (by omega)
    · have e : (upStep (a + 1) ab (ps.take i)).map V.bool = (upStep (a + 1) ab ps).map V.bool := by rw [take_all (by omega)]
      repeat' (first
       | (with_reducible refine OL.st ?_)
       | (with_reducible refine TC.region ?_)
       | (with_reducible refine TC.seq ?_)
       | (with_reducible refine OL.nil ?_)
       | (with_reducible refine TX.thenN ?_)
       | (with_reducible refine TX.blkN ?_)
       | (with_reducible refine TC.exit ?_)
       | (with_reducible refine TX.hit ?_)
       | (with_reducible refine TX.thenX ?_)
       | (with_reducible refine TC.ifD ?_ ?_ <;> (intro hc; try (exfalso; omega)))
       | fail)
      exact TX.rd (a, upStep (a + 1) ab ps) [0] ⟨by dsimp only; rw [upStep_length]; exact hl, by dsimp only; omega, hinv⟩ (by dsimp only; omega)
  · have e : upAll g a ab = ab := by
      cases a with
      | zero => rfl
      | succ a => rw [upAll, if_neg (by omega)]
    rw [← hinv, e]
    repeat' (first
     | (with_reducible refine OL.st ?_)
     | (with_reducible refine TC.region ?_)
     | (with_reducible refine TC.seq ?_)
     | (with_reducible refine OL.nil ?_)
     | (with_reducible refine TX.thenN ?_)
     | (with_reducible refine TC.exit ?_)
     | (with_reducible refine TX.hit ?_)
     | (with_reducible refine TX.thenX ?_)
     | (with_reducible refine TC.ifD ?_ ?_ <;> (intro hc; try (exfalso; omega)))
     | (with_reducible refine TC.ret ?_)
     | fail)
    refine TX.vw 4 ?_
    exact TX.rt1 [] (.ren rfl)
end Go.Proofs
/- LineCommon. -/
namespace Go.Proofs
open Go Go.W Go.V
/-! ### Plain -/
theorem mem_comR {g : List (List Int)} {l : List Int} {b : Int} : b ∈ comR g l ↔ (0 ≤ b ∧ b < 3 + (g.length : Int)) ∧ ∀ c ∈ l, upHas g c b = true := by
  rw [comR, clsL, List.mem_filter, mem_upto, List.all_eq_true]
  constructor
  · rintro ⟨h, h2⟩; exact ⟨by omega, h2⟩
  · rintro ⟨h, h2⟩; exact ⟨by omega, h2⟩
theorem mem_lstR {g : List (List Int)} {l : List Int} {c : Int} : c ∈ lstR g l ↔ c ∈ comR g l ∧ ∀ d ∈ comR g l, d = c ∨ upHas g d c = false := by
  rw [lstR, List.mem_filter, List.all_eq_true]
  constructor
  · rintro ⟨h, h2⟩
    refine ⟨h, fun d hd => ?_⟩
    have := h2 d hd
    simpa [lstP] using this
  · rintro ⟨h, h2⟩
    refine ⟨h, fun d hd => ?_⟩
    have := h2 d hd
    simpa [lstP] using this
theorem up_trans {g : List (List Int)} (hf : fine g = true) {a b c : Int} (ha : 0 ≤ a ∧ a < 3 + (g.length : Int)) (hb : 0 ≤ b ∧ b < 3 + (g.length : Int)) (hc : 0 ≤ c ∧ c < 3 + (g.length : Int)) (h1 : upHas g a b = true) (h2 : upHas g b c = true) : upHas g a c = true := by
  obtain ⟨a, rfl⟩ := Int.eq_ofNat_of_zero_le ha.1
  exact upHas_trans hf (a + 1) a (by omega) (by omega) b c hb hc h1 h2
theorem up_less {g : List (List Int)} (hf : fine g = true) {d x : Int} (hd : 0 ≤ d ∧ d < 3 + (g.length : Int)) (hx : 0 ≤ x ∧ x < 3 + (g.length : Int)) (h : upHas g d x = true) (hne : d ≠ x) : x < d := by
  have h16 := fine_len hf
  obtain ⟨d, rfl⟩ := Int.eq_ofNat_of_zero_le hd.1
  have := upHas_le hf (a := d) (by omega) (b := x) (by omega) (by omega) h
  omega
theorem least_ex {g : List (List Int)} (hf : fine g = true) {l : List Int} : ∀ (n : Nat) (b : Int), b ∈ comR g l → ((3 + g.length : Nat) : Int) ≤ b + n → ∃ c ∈ lstR g l, upHas g c b = true := by
  intro n
  induction n with
  | zero => intro b hb h; have := (mem_comR.1 hb).1; omega
  | succ n ih =>
    intro b hb h
    have hbr := (mem_comR.1 hb).1
    by_cases hmin : ∀ d ∈ comR g l, d = b ∨ upHas g d b = false
    · refine ⟨b, mem_lstR.2 ⟨hb, hmin⟩, ?_⟩
      obtain ⟨b, rfl⟩ := Int.eq_ofNat_of_zero_le hbr.1
      exact upHas_self hf (by omega)
    · obtain ⟨d, hd, hdb⟩ : ∃ d ∈ comR g l, d ≠ b ∧ upHas g d b = true := by
        refine Classical.byContradiction fun hno => hmin fun d hd => ?_
        by_cases e : d = b
        · exact .inl e
        · right
          cases hq : upHas g d b with
          | false => rfl
          | true => exact absurd ⟨d, hd, e, hq⟩ hno
      have hdr := (mem_comR.1 hd).1
      have hlt := up_less hf hdr hbr hdb.2 hdb.1
      obtain ⟨c, hc, hcd⟩ := ih d hd (by omega)
      have hcr := (mem_comR.1 (mem_lstR.1 hc).1).1
      exact ⟨c, hc, up_trans hf hcr hdr hbr hcd hdb.2⟩
/-- A class is above all just if it is above a least one. -/
theorem over_has {g : List (List Int)} (hf : fine g = true) {l : List Int} (hl : ∀ c ∈ l, 0 ≤ c ∧ c < 3 + (g.length : Int)) {b : Int} (hb : 0 ≤ b ∧ b < 3 + (g.length : Int)) : (!l.any fun c => !upHas g c b) = (lstR g l).any fun c => upHas g c b := by
  rw [Bool.eq_iff_iff, List.any_eq_true]
  have e : (!l.any fun c => !upHas g c b) = true ↔ ∀ c ∈ l, upHas g c b = true := by simp
  rw [e]
  constructor
  · intro h
    exact least_ex hf (3 + g.length) b (mem_comR.2 ⟨hb, h⟩) (by omega)
  · rintro ⟨c, hc, h⟩ s hs
    obtain ⟨hcr, hcs⟩ := mem_comR.1 (mem_lstR.1 hc).1
    exact up_trans hf (hl s hs) hcr hb (hcs s hs) h
theorem least_apart {g : List (List Int)} {l : List Int} {b : Int} (hb : b ∈ lstR g l) : ((lstR g l).any fun c => c != b && upHas g c b) = false := by
  rw [List.any_eq_false]
  intro c hc
  rcases (mem_lstR.1 hb).2 c (mem_lstR.1 hc).1 with e | e
  · simp [e]
  · simp [e]
theorem upto_sorted (n : Nat) : (upto n).Pairwise (· ≤ ·) := by
  rw [upto, List.pairwise_map]
  exact List.pairwise_lt_range.imp fun h => by omega
theorem sorted_get {l : List Int} (h : l.Pairwise (· ≤ ·)) (i : Nat) (hi : i + 1 < l.length) : l[i] ≤ l[i + 1] := (List.pairwise_iff_getElem.1 h) i (i + 1) (by omega) hi (by omega)
/-! ### Walks -/
theorem s_cmp_isNaN_int (a : Int) : V.Spec Try.prog Fc.cmp_isNaN_int [V.int a] [] (V.bool false) [] := by
  refine V.Spec.enter Try.tabOK Try.mixed Fn.cmp_isNaN_int rfl rfl rfl fun B hB => ?_
  repeat' (first
   | (with_reducible refine OL.st ?_)
   | (with_reducible refine TC.region ?_)
   | (with_reducible refine TC.seq ?_)
   | (with_reducible refine OL.nil ?_)
   | (with_reducible refine TX.thenN ?_)
   | (with_reducible refine TC.ret ?_)
   | fail)
  refine TX.rt1 [] (.bool ?_)
  simp
theorem s_cmp_Less_int (a b : Int) : V.Spec Try.prog Fc.cmp_Less_int [V.int a, V.int b] [] (V.bool (decide (a < b))) [] := by
  refine V.Spec.enter Try.tabOK Try.mixed Fn.cmp_Less_int rfl rfl rfl fun B hB => ?_
  repeat' (first
   | (with_reducible refine OL.st ?_)
   | (with_reducible refine TC.region ?_)
   | (with_reducible refine TC.seq ?_)
   | (with_reducible refine OL.nil ?_)
   | (with_reducible refine TX.thenN ?_)
   | fail)
  refine OL.c (s_cmp_isNaN_int a) Fn.cmp_isNaN_int ?_
  repeat' (first
   | (with_reducible refine OL.st ?_)
   | (with_reducible refine OL.nil ?_)
   | (with_reducible refine TX.thenN ?_)
   | (with_reducible refine OL.gOn ?_)
   | (with_reducible refine OL.gOff ?_)
   | (with_reducible refine TC.ret ?_)
   | fail)
  exact TX.rt1 [] (.ren rfl)
theorem s_slices_IsSorted_Lint_int (l : List Int) (h : l.Pairwise (· ≤ ·)) : V.Spec Try.prog Fc.slices_IsSorted_Lint_int [ints l] [] (V.bool true) [] := by
  refine V.Spec.enter Try.tabOK Try.mixed Fn.slices_IsSorted_Lint_int rfl rfl rfl fun B hB => ?_
  refine TC.bl 0 fun hl => ?_
  repeat' (first
   | (with_reducible refine OL.st ?_)
   | (with_reducible refine TC.region ?_)
   | (with_reducible refine TC.seq ?_)
   | (with_reducible refine OL.nil ?_)
   | (with_reducible refine TX.thenN ?_)
   | (with_reducible refine TC.block ?_)
   | fail)
  refine TC.lp (fun i : Int => [(0, ints l), (3, V.int i)]) (fun _ => []) (fun i => -1 ≤ i ∧ i < l.length) (fun i => (i + 1).toNat) ((l.length : Int) - 1) [] ⟨by omega, by omega⟩ ?_
  rintro i ⟨hi0, hi⟩
  by_cases h0 : 0 < i
  · have hs := s_cmp_Less_int (l[i.toNat]'(by omega)) (l[(i - 1).toNat]'(by omega))
    have hle := sorted_get h (i - 1).toNat (by omega)
    rw [show decide ((l[i.toNat]'(by omega)) < (l[(i - 1).toNat]'(by omega))) = false from decide_eq_false (by
      have e : l[i.toNat]'(by omega) = l[(i - 1).toNat + 1]'(by omega) := by congr 1; omega
      rw [e]; omega)] at hs
    repeat' (first
     | (with_reducible refine OL.st ?_)
     | (with_reducible refine TC.region ?_)
     | (with_reducible refine TC.seq ?_)
     | (with_reducible refine OL.nil ?_)
     | (with_reducible refine TX.thenN ?_)
     | (with_reducible refine TC.block ?_)
     | (with_reducible refine TC.skip ?_)
     | (with_reducible refine TC.ifD ?_ ?_ <;> (intro hc; try (exfalso; omega)))
     | fail)
    (with_reducible refine TC.draw (id := 4) true 10 10 ?_) <;> (with_reducible refine OD.st 0 ?_) <;> (with_reducible refine OD.st 1 ?_) <;> (with_reducible refine OD.st 2 ?_) <;> (with_reducible refine OD.st 3 ?_) <;> (with_reducible refine OD.st 4 ?_) <;> (with_reducible refine OD.st 5 ?_) <;> (with_reducible refine OD.st 6 ?_) <;> (with_reducible refine OD.st 7 ?_) <;> (with_reducible refine OD.st 8 ?_) <;> (with_reducible refine OD.c1 9 hs Fn.cmp_Less_int ?_) <;> (with_reducible refine OD.dn ?_)
    all_goals repeat' (first
               | (with_reducible refine OL.st ?_)
               | (with_reducible refine TC.region ?_)
               | (with_reducible refine OL.nil ?_)
               | (with_reducible refine TX.thenN ?_)
               | (with_reducible refine TC.skip ?_)
               | (with_reducible refine TX.blkN ?_)
               | (with_reducible refine TC.ifF ?_)
               | fail)
    all_goals exact TX.rd (i - 1) [] ⟨by omega, by omega⟩ (by omega)
  · repeat' (first
     | (with_reducible refine OL.st ?_)
     | (with_reducible refine TC.region ?_)
     | (with_reducible refine TC.seq ?_)
     | (with_reducible refine OL.nil ?_)
     | (with_reducible refine TX.thenN ?_)
     | (with_reducible refine TC.exit ?_)
     | (with_reducible refine TX.hit ?_)
     | (with_reducible refine TX.thenX ?_)
     | (with_reducible refine TC.ifD ?_ ?_ <;> (intro hc; try (exfalso; omega)))
     | (with_reducible refine TC.ret ?_)
     | fail)
    exact TX.rt1 [] (.ren rfl)
theorem abB_length (g : List (List Int)) (c : Int) : (abB g c).length = 3 + g.length := by rw [abB, List.length_map, upto_length]
theorem abB_get {g : List (List Int)} {c : Int} {b : Nat} (h : b < (abB g c).length) : (abB g c)[b] = upHas g c b := by simp [abB, upto]
theorem s_above {g : List (List Int)} (hf : fine g = true) {c : Int} (hc : 0 ≤ c ∧ c < 3 + (g.length : Int)) : V.Spec Try.prog Fc.law03_above [rows g, V.int c] [] (bsl (abB g c)) [] := by
  obtain ⟨c, rfl⟩ := Int.eq_ofNat_of_zero_le hc.1
  exact s_law03_above hf (by omega)
theorem s_law03_LineCommon_1 {g : List (List Int)} (hf : fine g = true) {c : Int} (hc : 0 ≤ c ∧ c < 3 + (g.length : Int)) : V.Spec Try.prog Fc.law03_LineCommon_1 [V.int c, .ep [rows g] 0] [] (V.bool false) [] := by
  have h16 := fine_len hf
  refine V.Spec.enter Try.tabOK Try.mixed Fn.law03_LineCommon_1 rfl rfl rfl fun B hB => ?_
  repeat' (first
   | (with_reducible refine OL.st ?_)
   | (with_reducible refine TC.region ?_)
   | (with_reducible refine TC.seq ?_)
   | (with_reducible refine OL.nil ?_)
   | (with_reducible refine TX.thenN ?_)
   | (with_reducible refine OL.gOn ?_)
   | (with_reducible refine OL.gD ?_ ?_ <;> (intro hc; try (exfalso; omega)))
   | (with_reducible refine TC.ret ?_)
   | fail)
  refine TX.rt1 [] (.bool ?_)
  exact decide_eq_false (by omega)
section
variable {g : List (List Int)} (hf : fine g = true) {c : Int} (hc : 0 ≤ c ∧ c < 3 + (g.length : Int)) {b : Nat} (hb : b < 3 + g.length)
include hf hc hb
theorem s_law03_LineCommon_2 : V.Spec Try.prog Fc.law03_LineCommon_2 [V.int c, .ep [rows g] 0, .ep [V.int b] 0] [] (V.bool (!upHas g c b)) [] := by
  have hs := s_above hf hc
  have hl := abB_length g c
  refine V.Spec.enter Try.tabOK Try.mixed Fn.law03_LineCommon_2 rfl rfl rfl fun B hB => ?_
  repeat' (first
   | (with_reducible refine OL.st ?_)
   | (with_reducible refine TC.region ?_)
   | (with_reducible refine TC.seq ?_)
   | (with_reducible refine OL.nil ?_)
   | (with_reducible refine TX.thenN ?_)
   | fail)
  (with_reducible refine TC.draw (id := 1) true 8 8 ?_) <;> (with_reducible refine OD.st 0 ?_) <;> (with_reducible refine OD.st 1 ?_) <;> (with_reducible refine OD.st 3 ?_) <;> (with_reducible refine OD.c1 2 hs Fn.law03_above ?_) <;> (with_reducible refine OD.st 4 ?_) <;> (with_reducible refine OD.st 5 ?_) <;> (with_reducible refine OD.st 6 ?_) <;> (with_reducible refine OD.st 7 ?_) <;> (with_reducible refine OD.dn ?_)
  all_goals repeat' (first | (with_reducible refine TX.thenN ?_) | (with_reducible refine TC.ret ?_) | fail)
  all_goals refine TX.rt1 [] (.bool ?_)
  all_goals rw [abB_get]
theorem s_law03_LineCommon_3 : V.Spec Try.prog Fc.law03_LineCommon_3 [V.int c, .ep [rows g] 0, .ep [V.int b] 0] [] (V.bool (!upHas g b c)) [] := by
  have hs := s_above hf (c := (b : Int)) (by omega)
  have hl := abB_length g b
  refine V.Spec.enter Try.tabOK Try.mixed Fn.law03_LineCommon_3 rfl rfl rfl fun B hB => ?_
  repeat' (first
   | (with_reducible refine OL.st ?_)
   | (with_reducible refine TC.region ?_)
   | (with_reducible refine TC.seq ?_)
   | (with_reducible refine OL.nil ?_)
   | (with_reducible refine TX.thenN ?_)
   | fail)
  refine OL.c hs Fn.law03_above ?_
  repeat' (first
   | (with_reducible refine OL.st ?_)
   | (with_reducible refine OL.nil ?_)
   | (with_reducible refine TX.thenN ?_)
   | (with_reducible refine TC.ret ?_)
   | fail)
  refine TX.rt1 [] (.bool ?_)
  rw [abB_get, Int.toNat_of_nonneg hc.1]
theorem s_law03_LineCommon_4 : V.Spec Try.prog Fc.law03_LineCommon_4 [V.int c, .ep [rows g] 0, .ep [V.int b] 0] [] (V.bool (upHas g c b)) [] := by
  have hs := s_above hf hc
  have hl := abB_length g c
  refine V.Spec.enter Try.tabOK Try.mixed Fn.law03_LineCommon_4 rfl rfl rfl fun B hB => ?_
  repeat' (first
   | (with_reducible refine OL.st ?_)
   | (with_reducible refine TC.region ?_)
   | (with_reducible refine TC.seq ?_)
   | (with_reducible refine OL.nil ?_)
   | (with_reducible refine TX.thenN ?_)
   | fail)
  (with_reducible refine TC.draw (id := 1) true 7 7 ?_) <;> (with_reducible refine OD.st 0 ?_) <;> (with_reducible refine OD.st 1 ?_) <;> (with_reducible refine OD.st 3 ?_) <;> (with_reducible refine OD.c1 2 hs Fn.law03_above ?_) <;> (with_reducible refine OD.st 4 ?_) <;> (with_reducible refine OD.st 5 ?_) <;> (with_reducible refine OD.st 6 ?_) <;> (with_reducible refine OD.dn ?_)
  all_goals repeat' (first | (with_reducible refine TX.thenN ?_) | (with_reducible refine TC.ret ?_) | fail)
  all_goals refine TX.rt1 [] (.bool ?_)
  all_goals rw [abB_get]
theorem s_law03_LineCommon_5 : V.Spec Try.prog Fc.law03_LineCommon_5 [V.int c, .ep [V.int b] 0, .ep [rows g] 0] [] (V.bool (c != (b : Int) && upHas g c b)) [] := by
  have hs := s_above hf hc
  have hl := abB_length g c
  refine V.Spec.enter Try.tabOK Try.mixed Fn.law03_LineCommon_5 rfl rfl rfl fun B hB => ?_
  repeat' (first
   | (with_reducible refine OL.st ?_)
   | (with_reducible refine TC.region ?_)
   | (with_reducible refine TC.seq ?_)
   | (with_reducible refine OL.nil ?_)
   | (with_reducible refine TX.thenN ?_)
   | fail)
  (with_reducible refine TC.draw (id := 1) true 12 12 ?_) <;> (with_reducible refine OD.st 0 ?_) <;> (with_reducible refine OD.st 1 ?_) <;> (with_reducible refine OD.st 2 ?_) <;> (with_reducible refine OD.st 3 ?_) <;> (with_reducible refine OD.sD 8 ?_ ?_ <;> (intro hc; try (exfalso; omega)) <;> (first | (with_reducible refine OD.st 4 ?_) | (with_reducible refine OD.of 4 ?_))) <;> (first | (with_reducible refine OD.st 5 ?_) | (with_reducible refine OD.of 5 ?_)) <;> (first | (with_reducible refine OD.st 7 ?_) | (with_reducible refine OD.of 7 ?_)) <;> (first | (with_reducible refine OD.c1 6 hs Fn.law03_above ?_) | (with_reducible refine OD.of 6 ?_)) <;> (first | (with_reducible refine OD.st 8 ?_) | (with_reducible refine OD.of 8 ?_)) <;> (first | (with_reducible refine OD.st 9 ?_) | (with_reducible refine OD.of 9 ?_)) <;> (with_reducible refine OD.st 10 ?_) <;> (with_reducible refine OD.st 11 ?_) <;> (with_reducible refine OD.dn ?_)
  all_goals repeat' (first | (with_reducible refine TX.thenN ?_) | (with_reducible refine TC.ret ?_) | fail)
  · refine TX.rt1 [] (.bool ?_)
    rw [abB_get, show (c != (b : Int)) = true by rw [bne_iff_ne]; omega]; rfl
  · refine TX.rt1 [] (.bool ?_)
    rw [show (c != (b : Int)) = false by rw [bne_eq_false_iff_eq]; omega]; rfl
end
end Go.Proofs
/- LineCommon. -/
namespace Go.Proofs
open Go Go.W Go.V
theorem u8_bnd {n : Int} (h : (Lit.int .u8 n).wf = true) : 0 ≤ n ∧ n ≤ 255 := by
  simp only [Lit.wf, Bool.and_eq_true, decide_eq_true_eq] at h
  exact h
set_option maxHeartbeats 4000000 in
theorem s_law03_LineCommon (g : List (List Int)) (ls : List Int) (kl : ∀ x ∈ ls, (Lit.int .u8 x).wf = true) : V.Spec Try.prog Fc.law03_LineCommon [rows g, u8s ls] [] (V.bool true) [] := by
  refine V.Spec.enter Try.tabOK Try.mixed Fn.law03_LineCommon rfl rfl rfl fun B hB => ?_
  refine TC.bl 1 fun hll => ?_
  repeat' (first
   | (with_reducible refine OL.st ?_)
   | (with_reducible refine OL.box ?_)
   | (with_reducible refine TC.region ?_)
   | (with_reducible refine TC.seq ?_)
   | (with_reducible refine OL.nil ?_)
   | (with_reducible refine TX.thenN ?_)
   | fail)
  refine OL.frzA 0 ?_
  refine OL.c (s_law03_wide g) Fn.law03_wide ?_
  cases hw : wideR g
  · repeat' (first | (with_reducible refine OL.st ?_) | (with_reducible refine OL.gOn ?_) | fail)
    refine OL.c (s_law03_formed g) Fn.law03_formed ?_
    cases hf : fine g
    · repeat' (first
       | (with_reducible refine OL.st ?_)
       | (with_reducible refine TC.region ?_)
       | (with_reducible refine TC.seq ?_)
       | (with_reducible refine OL.nil ?_)
       | (with_reducible refine TX.thenN ?_)
       | (with_reducible refine TC.ifT ?_)
       | (with_reducible refine OL.gOn ?_)
       | (with_reducible refine OL.gOff ?_)
       | fail)
      refine OL.c s_law03_works Fn.law03_works ?_
      repeat' (first
       | (with_reducible refine OL.st ?_)
       | (with_reducible refine OL.nil ?_)
       | (with_reducible refine TX.thenN ?_)
       | (with_reducible refine TC.ret ?_)
       | (with_reducible refine TX.thenR ?_)
       | fail)
      exact TX.rt1 [] (.ren rfl)
    · have h16 := fine_len hf
      repeat' (first
       | (with_reducible refine OL.st ?_)
       | (with_reducible refine TC.region ?_)
       | (with_reducible refine TC.seq ?_)
       | (with_reducible refine OL.nil ?_)
       | (with_reducible refine TX.thenN ?_)
       | (with_reducible refine TC.block ?_)
       | (with_reducible refine TC.skip ?_)
       | (with_reducible refine OL.gOn ?_)
       | (with_reducible refine TC.ifD ?_ ?_ <;> (intro hc; try (exfalso; omega)))
       | fail)
      · refine OL.c s_law03_works Fn.law03_works ?_
        repeat' (first
         | (with_reducible refine OL.st ?_)
         | (with_reducible refine OL.nil ?_)
         | (with_reducible refine TX.thenN ?_)
         | (with_reducible refine TC.ret ?_)
         | (with_reducible refine TX.thenR ?_)
         | fail)
        exact TX.rt1 [] (.ren rfl)
      · refine TC.adp 5 Tc.int 1 ?_
        refine TC.lp (fun i : Nat => [(2, .ep [rows g] 0), (5, .hs 0), (29, u8s ls), (30, V.int ls.length), (31, V.int i)]) (fun i => [.gs false Tc.int 1 none (((ls.take i).map fun p => p % (3 + (g.length : Int))).map V.int)]) (fun i => i ≤ ls.length) (fun i => ls.length - i) 0 [1] (Nat.zero_le _) ?_
        rintro k hk
        have hkl : ((ls.take k).map fun p => p % (3 + (g.length : Int))).length = k := by simp; omega
        repeat' (first
         | (with_reducible refine OL.st ?_)
         | (with_reducible refine TC.region ?_)
         | (with_reducible refine TC.seq ?_)
         | (with_reducible refine OL.nil ?_)
         | (with_reducible refine TX.thenN ?_)
         | (with_reducible refine TC.block ?_)
         | (with_reducible refine TC.skip ?_)
         | (with_reducible refine TC.exit ?_)
         | (with_reducible refine TX.hit ?_)
         | (with_reducible refine TX.thenX ?_)
         | (with_reducible refine TC.ifD ?_ ?_ <;> (intro hc; try (exfalso; omega)))
         | fail)
        · have hpb := u8_bnd (kl _ (List.getElem_mem (l := ls) (n := k) (by omega)))
          have e : ((ls.take k).map fun p => p % (3 + (g.length : Int))).map V.int ++ [V.int ((ls[k]'(by omega)) % (3 + (g.length : Int)))] = ((ls.take (k + 1)).map fun p => p % (3 + (g.length : Int))).map V.int := by
            rw [take_succ (by omega), List.map_append, List.map_append]; rfl
          refine OL.conv (n := ls[k]'(by omega)) Try.underlying5 Try.underlying3 (by omega) (by omega) ?_
          repeat' (first
           | (with_reducible refine OL.st ?_)
           | (with_reducible refine OL.lit ?_)
           | (with_reducible refine OL.appO ?_)
           | (with_reducible refine TC.region ?_)
           | (with_reducible refine OL.nil ?_)
           | (with_reducible refine TX.thenN ?_)
           | (with_reducible refine TX.blkN ?_)
           | fail)
          exact TX.rd (k + 1) [2] (by omega) (by omega)
        · have ek : ls.take k = ls := take_all (by omega)
          rw [ek] at hkl ⊢
          have hcl : ∀ c ∈ ls.map fun p => p % (3 + (g.length : Int)), 0 ≤ c ∧ c < 3 + (g.length : Int) := fun c hc => by
            obtain ⟨p, _, rfl⟩ := List.mem_map.1 hc
            exact ⟨Int.emod_nonneg _ (by omega), Int.emod_lt_of_pos _ (by omega)⟩
          generalize (ls.map fun p => p % (3 + (g.length : Int))) = so at *
          have ha : asks g so = true := by
            rw [asks_eq hf, decide_eq_true (show so.length ≤ 16 by omega), Bool.true_and, List.all_eq_true]
            intro c hc; have := hcl c hc; simp [isClass, this.1, this.2]
          have h1 := s_line_Least g so
          have h2 := s_line_Heirs g so
          rw [leastL_eq, leastE_eq, ha, show okE true = 0 from rfl, leastR, ha, if_pos rfl] at h1
          rw [ha, show okE true = 0 from rfl, heirsR, ha, if_pos rfl] at h2
          have hLr : ∀ c ∈ lstR g so, 0 ≤ c ∧ c < 3 + (g.length : Int) := fun c hc => (mem_comR.1 (mem_lstR.1 hc).1).1
          have hLs : (lstR g so).Pairwise (· ≤ ·) := ((upto_sorted _).filter _).filter _
          have hHs : (clsL g fun a => so.all (upHas g a)).Pairwise (· ≤ ·) := (upto_sorted _).filter _
          have hund : ∀ b : Nat, b < 3 + g.length → (!so.any fun c => !upHas g b c) = (clsL g fun a => so.all (upHas g a)).contains (b : Int) := fun b hb => by
            rw [Bool.eq_iff_iff, List.contains_iff_mem, clsL, List.mem_filter, mem_upto]
            simp; omega
          have hover : ∀ b : Nat, b < 3 + g.length → (!so.any fun c => !upHas g c b) = (lstR g so).any fun c => upHas g c b := fun b hb => over_has hf hcl (by omega)
          refine OL.vwA 1 ?_
          refine OL.c h1 Fn.line_Least ?_
          repeat' (first
           | (with_reducible refine OL.st ?_)
           | (with_reducible refine TC.region ?_)
           | (with_reducible refine TC.seq ?_)
           | (with_reducible refine OL.nil ?_)
           | (with_reducible refine TX.thenN ?_)
           | fail)
          refine OL.vwA 1 ?_
          refine OL.c h2 Fn.line_Heirs ?_
          generalize hLe : lstR g so = L at *
          generalize hHe : (clsL g fun a => so.all (upHas g a)) = H at *
          repeat' (first
           | (with_reducible refine OL.st ?_)
           | (with_reducible refine TC.region ?_)
           | (with_reducible refine TC.seq ?_)
           | (with_reducible refine OL.nil ?_)
           | (with_reducible refine TX.thenN ?_)
           | (with_reducible refine OL.gOn ?_)
           | fail)
          refine OL.c (s_slices_IsSorted_Lint_int L hLs) Fn.slices_IsSorted_Lint_int ?_
          repeat' (first | (with_reducible refine OL.st ?_) | (with_reducible refine OL.gOn ?_) | fail)
          refine OL.c (s_slices_IsSorted_Lint_int H hHs) Fn.slices_IsSorted_Lint_int ?_
          repeat' (first | (with_reducible refine OL.st ?_) | (with_reducible refine OL.gOn ?_) | fail)
          have hno : (L.any fun _ => false) = false := by simp
          refine OL.c (s_slices_ContainsFunc_Lint_int L (fun _ => false)) Fn.slices_ContainsFunc_Lint_int ?_ (hle := by exact ⟨.ren rfl, LE.fun_ (first' := []) (caps' := [.ep [rows g] 0]) Fn.law03_LineCommon_1 rfl trivial ⟨.ren rfl, trivial⟩ (fun x hx => s_law03_LineCommon_1 hf (hLr x hx)), trivial⟩)
          rw [hno]
          repeat' (first
           | (with_reducible refine OL.st ?_)
           | (with_reducible refine TC.region ?_)
           | (with_reducible refine TC.seq ?_)
           | (with_reducible refine OL.nil ?_)
           | (with_reducible refine TX.thenN ?_)
           | (with_reducible refine TC.block ?_)
           | (with_reducible refine TC.skip ?_)
           | (with_reducible refine TC.ifF ?_)
           | fail)
          refine TC.vw 5 ?_
          refine TC.lp (fun b : Nat => [(2, .ep [rows g] 0), (5, ints so), (8, ints L), (10, ints H), (80, V.int (3 + (g.length : Int))), (81, V.int b)]) (fun _ => []) (fun b => b ≤ 3 + g.length) (fun b => 3 + g.length - b) 0 [] (Nat.zero_le _) ?_
          rintro b hb
          repeat' (first
           | (with_reducible refine OL.st ?_)
           | (with_reducible refine OL.alloc ?_)
           | (with_reducible refine OL.store ?_)
           | (with_reducible refine TC.region ?_)
           | (with_reducible refine TC.seq ?_)
           | (with_reducible refine OL.nil ?_)
           | (with_reducible refine TX.thenN ?_)
           | (with_reducible refine TC.block ?_)
           | (with_reducible refine TC.skip ?_)
           | (with_reducible refine TC.exit ?_)
           | (with_reducible refine TX.hit ?_)
           | (with_reducible refine TX.thenX ?_)
           | (with_reducible refine TC.ifD ?_ ?_ <;> (intro hc; try (exfalso; omega)))
           | fail)
          · have hbN : b < 3 + g.length := by omega
            have hu := hund b hbN
            have ho := hover b hbN
            refine OL.frzA 0 ?_
            refine OL.c (s_slices_ContainsFunc_Lint_int so (fun c => !upHas g c b)) Fn.slices_ContainsFunc_Lint_int ?_ (hle := by exact ⟨.ren rfl, LE.fun_ (first' := []) (caps' := [.ep [rows g] 0, .ep [V.int b] 0]) Fn.law03_LineCommon_2 rfl trivial ⟨.ren rfl, .ren rfl, trivial⟩ (fun x hx => s_law03_LineCommon_2 hf (hcl x hx) hbN), trivial⟩)
            repeat' (first
             | (with_reducible refine OL.st ?_)
             | (with_reducible refine TC.region ?_)
             | (with_reducible refine TC.seq ?_)
             | (with_reducible refine OL.nil ?_)
             | (with_reducible refine TX.thenN ?_)
             | fail)
            refine OL.c (s_slices_ContainsFunc_Lint_int so (fun c => !upHas g b c)) Fn.slices_ContainsFunc_Lint_int ?_ (hle := by exact ⟨.ren rfl, LE.fun_ (first' := []) (caps' := [.ep [rows g] 0, .ep [V.int b] 0]) Fn.law03_LineCommon_3 rfl trivial ⟨.ren rfl, .ren rfl, trivial⟩ (fun x hx => s_law03_LineCommon_3 hf (hcl x hx) hbN), trivial⟩)
            repeat' (first
             | (with_reducible refine OL.st ?_)
             | (with_reducible refine TC.region ?_)
             | (with_reducible refine TC.seq ?_)
             | (with_reducible refine OL.nil ?_)
             | (with_reducible refine TX.thenN ?_)
             | fail)
            refine OL.c (s_slices_Contains_Lint_int H b) Fn.slices_Contains_Lint_int ?_
            refine OL.neBl Try.underlying4 ?_
            rw [hu, beq_self_eq_true]
            repeat' (first
             | (with_reducible refine OL.st ?_)
             | (with_reducible refine TC.region ?_)
             | (with_reducible refine TC.seq ?_)
             | (with_reducible refine OL.nil ?_)
             | (with_reducible refine TX.thenN ?_)
             | (with_reducible refine TC.skip ?_)
             | (with_reducible refine TC.ifF ?_)
             | fail)
            refine OL.c (s_slices_ContainsFunc_Lint_int L (fun c => upHas g c b)) Fn.slices_ContainsFunc_Lint_int ?_ (hle := by exact ⟨.ren rfl, LE.fun_ (first' := []) (caps' := [.ep [rows g] 0, .ep [V.int b] 0]) Fn.law03_LineCommon_4 rfl trivial ⟨.ren rfl, .ren rfl, trivial⟩ (fun x hx => s_law03_LineCommon_4 hf (hLr x hx) hbN), trivial⟩)
            repeat' (first
             | (with_reducible refine OL.st ?_)
             | (with_reducible refine TC.region ?_)
             | (with_reducible refine TC.seq ?_)
             | (with_reducible refine OL.nil ?_)
             | (with_reducible refine TX.thenN ?_)
             | fail)
            refine OL.neBl Try.underlying4 ?_
            rw [ho, beq_self_eq_true]
            repeat' (first | (with_reducible refine OL.st ?_) | (with_reducible refine OL.gOn ?_) | fail)
            refine OL.c (s_slices_Contains_Lint_int L b) Fn.slices_Contains_Lint_int ?_
            cases hcb : L.contains (b : Int)
            · repeat' (first
               | (with_reducible refine OL.st ?_)
               | (with_reducible refine TC.region ?_)
               | (with_reducible refine OL.nil ?_)
               | (with_reducible refine TX.thenN ?_)
               | (with_reducible refine TC.skip ?_)
               | (with_reducible refine TX.blkN ?_)
               | (with_reducible refine TC.ifF ?_)
               | (with_reducible refine OL.gOn ?_)
               | (with_reducible refine OL.gOff ?_)
               | fail)
              exact TX.rd (b + 1) [] (by omega) (by omega)
            · have hap : (L.any fun c => c != (b : Int) && upHas g c b) = false := by
                rw [← hLe] at hcb ⊢
                exact least_apart (List.contains_iff_mem.1 hcb)
              repeat' (first | (with_reducible refine OL.st ?_) | (with_reducible refine OL.gOn ?_) | fail)
              refine OL.c (s_slices_ContainsFunc_Lint_int L (fun c => c != (b : Int) && upHas g c b)) Fn.slices_ContainsFunc_Lint_int ?_ (hle := by exact ⟨.ren rfl, LE.fun_ (first' := []) (caps' := [.ep [V.int b] 0, .ep [rows g] 0]) Fn.law03_LineCommon_5 rfl trivial ⟨.ren rfl, .ren rfl, trivial⟩ (fun x hx => s_law03_LineCommon_5 hf (hLr x hx) hbN), trivial⟩)
              rw [hap]
              repeat' (first
               | (with_reducible refine OL.st ?_)
               | (with_reducible refine TC.region ?_)
               | (with_reducible refine OL.nil ?_)
               | (with_reducible refine TX.thenN ?_)
               | (with_reducible refine TC.skip ?_)
               | (with_reducible refine TX.blkN ?_)
               | (with_reducible refine TC.ifF ?_)
               | (with_reducible refine OL.gOn ?_)
               | fail)
              exact TX.rd (b + 1) [] (by omega) (by omega)
          · refine OL.c s_law03_works Fn.law03_works ?_
            repeat' (first
             | (with_reducible refine OL.st ?_)
             | (with_reducible refine OL.nil ?_)
             | (with_reducible refine TX.thenN ?_)
             | (with_reducible refine TC.ret ?_)
             | fail)
            exact TX.rt1 [] (.ren rfl)
  · repeat' (first
     | (with_reducible refine OL.st ?_)
     | (with_reducible refine TC.region ?_)
     | (with_reducible refine TC.seq ?_)
     | (with_reducible refine OL.nil ?_)
     | (with_reducible refine TX.thenN ?_)
     | (with_reducible refine TC.ifT ?_)
     | (with_reducible refine OL.gOff ?_)
     | fail)
    refine OL.c s_law03_works Fn.law03_works ?_
    repeat' (first
     | (with_reducible refine OL.st ?_)
     | (with_reducible refine OL.nil ?_)
     | (with_reducible refine TX.thenN ?_)
     | (with_reducible refine TC.ret ?_)
     | (with_reducible refine TX.thenR ?_)
     | fail)
    exact TX.rt1 [] (.ren rfl)
end Go.Proofs
