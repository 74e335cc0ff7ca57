/- Part 1 of what the claim is proved by: lemmas on the model and walks through functions of the program; no conditions. -/
import Derived.Test.YthoblhbdeamjmaaW2
import Derived.Test.YthoblhbdeamjmaaV13
/- Plain laws on what stands ahead of what, and on rings. -/
namespace Go.Proofs
open Go Go.W Go.V
/-! ### Where a number stands -/
def placeI : List Int → Int → Int → Int
  | [], _, _ => -1
  | x :: r, n, k => if x = n then k else placeI r n (k + 1)
theorem placeI_ge : ∀ (l : List Int) (n k : Int), (placeI l n k = -1 ∧ n ∉ l) ∨ (k ≤ placeI l n k ∧ n ∈ l)
  | [], n, k => .inl ⟨rfl, by simp⟩
  | x :: r, n, k => by
    by_cases h : x = n
    · right; subst h; simp [placeI]
    · rw [placeI, if_neg h]
      rcases placeI_ge r n (k + 1) with ⟨a, b⟩ | ⟨a, b⟩
      · left; exact ⟨a, by simp [b, Ne.symm h]⟩
      · right; exact ⟨by omega, by simp [b]⟩
def pairP (l : List Int) (a b k : Int) : Bool := decide (0 ≤ placeI l a k) && decide (placeI l a k < placeI l b k)
def aftP : List Int → Int → Int → Bool
  | [], _, _ => false
  | x :: r, a, b => (x == a && r.contains b) || aftP r a b
theorem aftP_mem : ∀ (l : List Int) (a b : Int), aftP l a b = true → a ∈ l ∧ b ∈ l
  | x :: r, a, b, h => by
    simp only [aftP, Bool.or_eq_true, Bool.and_eq_true, beq_iff_eq, List.contains_iff_mem] at h
    rcases h with ⟨h1, h2⟩ | h
    · exact ⟨by simp [h1], by simp [h2]⟩
    · obtain ⟨h1, h2⟩ := aftP_mem r a b h
      exact ⟨by simp [h1], by simp [h2]⟩
theorem aftP_pair : ∀ (l : List Int) (a b k : Int), l.Nodup → 0 ≤ k → aftP l a b = pairP l a b k
  | [], a, b, k, _, _ => by simp [aftP, pairP, placeI]
  | x :: r, a, b, k, hn, hk => by
    obtain ⟨hx, hn'⟩ := List.nodup_cons.1 hn
    have ih := aftP_pair r a b (k + 1) hn' (by omega)
    have hm := aftP_mem r a b
    rw [aftP, pairP, placeI, placeI]
    by_cases ha : x = a
    · subst ha
      have h0 : aftP r x b = false := by
        cases h : aftP r x b with
        | false => rfl
        | true => exact absurd (hm h).1 hx
      rw [h0, if_pos rfl]
      by_cases hb : x = b
      · subst hb
        simp [hx]
      · rw [if_neg hb]
        rcases placeI_ge r b (k + 1) with ⟨p, q⟩ | ⟨p, q⟩
        · simp [q, p]; omega
        · simp [q]; omega
    · rw [if_neg ha]
      by_cases hb : x = b
      · subst hb
        have h0 : aftP r a x = false := by
          cases h : aftP r a x with
          | false => rfl
          | true => exact absurd (hm h).2 hx
        rw [h0, if_pos rfl]
        rcases placeI_ge r a (k + 1) with ⟨p, q⟩ | ⟨p, q⟩
        · simp [ha, p]
        · have h1 : ¬ placeI r a (k + 1) < k := by omega
          simp [ha, h1]
      · rw [if_neg hb, ih]
        simp [ha, pairP]
theorem any_toNat {r : List Int} (hr : ∀ x ∈ r, 0 ≤ x) (b : Nat) : (r.any fun c => decide (c.toNat = b)) = r.contains (b : Int) := by
  rw [Bool.eq_iff_iff, List.any_eq_true, List.contains_iff_mem]
  constructor
  · rintro ⟨x, hx, he⟩
    have := hr x hx
    have e : x.toNat = b := by simpa using he
    have : x = (b : Int) := by omega
    rw [← this]; exact hx
  · intro h; exact ⟨_, h, by simp⟩
theorem getD_set_nat (ss : List Nat) (i a v : Nat) (hi : i < ss.length) : (ss.set i v).getD a 0 = if i = a then v else ss.getD a 0 := by
  rw [List.getD_eq_getElem?_getD, List.getD_eq_getElem?_getD, List.getElem?_set]
  by_cases h : i = a
  · subst h; simp [hi]
  · simp [h]
theorem aftL_bit (l : List Int) (a b : Nat) : ∀ (r : List Int) (ss : List Nat) (i : Nat), l.drop i = r → (∀ c ∈ r, 0 ≤ c ∧ c < ss.length) → ((aftL ss l r i).getD a 0).testBit b = ((ss.getD a 0).testBit b || aftP r a b)
  | [], ss, i, _, _ => by simp [aftL, aftP]
  | c :: r, ss, i, hd, hr => by
    have hd' : l.drop (i + 1) = r := by
      have : l.drop (i + 1) = (l.drop i).drop 1 := by rw [List.drop_drop]
      rw [this, hd]; rfl
    have hc := hr c (by simp)
    have ih := aftL_bit l a b r (ss.set c.toNat (ss.getD c.toNat 0 ||| ofL (l.drop (i + 1)))) (i + 1) hd' (fun x hx => by have := hr x (by simp [hx]); simpa using this)
    rw [aftL, ih, aftP, getD_set_nat _ _ _ _ (by omega), hd', ← Bool.or_assoc]
    congr 1
    by_cases e : c.toNat = a
    · have e2 : c = (a : Int) := by omega
      rw [if_pos e, e, Nat.testBit_or, ofL_bit, any_toNat (fun x hx => (hr x (by simp [hx])).1)]
      simp [e2]
    · have e2 : (c == (a : Int)) = false := by simp; omega
      rw [if_neg e, e2]; simp
theorem aftF_bit (a b : Nat) : ∀ (all : List (List Int)) (ss : List Nat), (∀ l ∈ all, ∀ c ∈ l, 0 ≤ c ∧ c < ss.length) → ((aftF ss all).getD a 0).testBit b = ((ss.getD a 0).testBit b || all.any fun l => aftP l a b)
  | [], ss, _ => by simp [aftF]
  | l :: r, ss, h => by
    rw [aftF, aftF_bit a b r _ (fun l' hl' c hc => by rw [aftL_length]; exact h l' (by simp [hl']) c hc), aftL_bit l a b l ss 0 rfl (h l (by simp)), List.any_cons, Bool.or_assoc]
/-- Whether one of the lists has a ahead of b. -/
def precB (all : List (List Int)) (a b : Int) : Bool := all.any fun l => pairP l a b 0
theorem aft_prec {N : Nat} {all : List (List Int)} (hr : ∀ l ∈ all, ∀ c ∈ l, 0 ≤ c ∧ c < (N : Int)) (hn : ∀ l ∈ all, l.Nodup) (hN : N ≤ 64) {a b : Int} (ha : 0 ≤ a) (hb : 0 ≤ b ∧ b < N) : hasB ((aft N all).getD a.toNat 0) b = precB all a b := by
  obtain ⟨a, rfl⟩ := Int.eq_ofNat_of_zero_le ha
  obtain ⟨b, rfl⟩ := Int.eq_ofNat_of_zero_le hb.1
  have h1 : decide ((b : Int) < 64) = true := by simp; omega
  have h2 : decide (0 ≤ (b : Int)) = true := by simp
  rw [hasB, h1, h2, Bool.true_and, Bool.true_and, aft, Int.toNat_natCast, Int.toNat_natCast, aftF_bit a b all _ (by simpa using hr)]
  have h0 : ((List.replicate N 0).getD a 0).testBit b = false := by
    rw [List.getD_eq_getElem?_getD, List.getElem?_replicate]; split <;> simp
  rw [h0, Bool.false_or, precB]
  rw [Bool.eq_iff_iff, List.any_eq_true, List.any_eq_true]
  constructor
  · rintro ⟨l, hl, h⟩; exact ⟨l, hl, by rw [← aftP_pair l _ _ 0 (hn l hl) (Int.le_refl _)]; exact h⟩
  · rintro ⟨l, hl, h⟩; exact ⟨l, hl, by rw [aftP_pair l _ _ 0 (hn l hl) (Int.le_refl _)]; exact h⟩
/-! ### The search for rings -/
def nextB (rel : Int → Int → Bool) (b : List Int) (c : Int) : Bool := b.length == 0 || (!b.contains c && rel (lastI b) c)
def srch (rel : Int → Int → Bool) (N : Nat) : Nat → List Int → Option (List Int)
  | 0, b => if rel (lastI b) (b.getD 0 0) then some b else none
  | n + 1, b => ((upto N).drop 3).findSome? fun c => if nextB rel b c then srch rel N n (b ++ [c]) else none
theorem ringsF_srch (ss : List Nat) : ∀ (f : Nat) (b : List Int), ringsF ss f b = srch (fun a b => hasB (ss.getD a.toNat 0) b) ss.length f b
  | 0, b => rfl
  | f + 1, b => by
    rw [ringsF, srch]
    congr 1; funext c
    rw [ringsF_srch ss f]; rfl
theorem lastI_mem {b : List Int} (h : b ≠ []) : lastI b ∈ b := by
  have : 0 < b.length := List.length_pos_iff.2 h
  rw [lastI, getD_lt (by omega)]; exact List.getElem_mem _
theorem mem_drop3 {N : Nat} {c : Int} : c ∈ (upto N).drop 3 ↔ 3 ≤ c ∧ c < N := by
  rw [List.mem_drop_iff_getElem]
  constructor
  · rintro ⟨i, hi, rfl⟩
    rw [upto_length] at hi
    simp [upto]; omega
  · rintro ⟨h1, h2⟩
    refine ⟨c.toNat - 3, by rw [upto_length]; omega, ?_⟩
    simp [upto]; omega
theorem findSome_congr {α β : Type} {f g : α → Option β} : ∀ {l : List α}, (∀ a ∈ l, f a = g a) → l.findSome? f = l.findSome? g
  | [], _ => rfl
  | a :: r, h => by
    rw [List.findSome?_cons, List.findSome?_cons, h a (by simp), findSome_congr fun b hb => h b (by simp [hb])]
theorem srch_congr {rel rel' : Int → Int → Bool} {N : Nat} (h : ∀ a b : Int, 0 ≤ a → a < N → 0 ≤ b → b < N → rel a b = rel' a b) : ∀ (f : Nat) (b : List Int), (∀ x ∈ b, 0 ≤ x ∧ x < (N : Int)) → 0 < f + b.length → srch rel N f b = srch rel' N f b
  | 0, b, hb, hl => by
    have hne : b ≠ [] := by intro e; subst e; simp at hl
    have h1 := hb _ (lastI_mem hne)
    have h0 : 0 < b.length := List.length_pos_iff.2 hne
    have h2 := hb _ (show b.getD 0 0 ∈ b by rw [getD_lt h0]; exact List.getElem_mem _)
    rw [srch, srch, h _ _ h1.1 h1.2 h2.1 h2.2]
  | f + 1, b, hb, hl => by
    rw [srch, srch]
    refine findSome_congr fun c hc => ?_
    have hc' := mem_drop3.1 hc
    have e : nextB rel b c = nextB rel' b c := by
      unfold nextB
      by_cases hne : b = []
      · subst hne; rfl
      · have h1 := hb _ (lastI_mem hne)
        rw [h _ _ h1.1 h1.2 (by omega) hc'.2]
    rw [e, srch_congr h f (b ++ [c]) (fun x hx => by rcases List.mem_append.1 hx with hx | hx; exact hb x hx; simp at hx; omega) (by simp; omega)]
/-- One after the other, each once. -/
def Chain (rel : Int → Int → Bool) (l : List Int) : Prop := l.Nodup ∧ ∀ (i : Nat) (h : i + 1 < l.length), rel l[i] l[i + 1] = true
theorem Chain.nil (rel) : Chain rel [] := ⟨List.nodup_nil, fun i h => by simp at h⟩
theorem lastI_get {b : List Int} (h : 0 < b.length) : lastI b = b[b.length - 1] := by rw [lastI, getD_lt (by omega)]
theorem Chain.snoc {rel} {b : List Int} {c : Int} (h : Chain rel b) (hn : nextB rel b c = true) : Chain rel (b ++ [c]) := by
  simp only [nextB, Bool.or_eq_true, beq_iff_eq, Bool.and_eq_true, Bool.not_eq_true', List.length_eq_zero_iff] at hn
  rcases hn with rfl | ⟨h1, h2⟩
  · exact ⟨by simp, fun i h => by simp at h⟩
  · have hc : c ∉ b := by
      intro hm; rw [← List.contains_iff_mem] at hm; rw [hm] at h1; cases h1
    refine ⟨List.nodup_append.2 ⟨h.1, by simp, fun a ha b' hb' e => ?_⟩, fun i hi => ?_⟩
    · simp at hb'; subst e hb'; exact hc ha
    · simp at hi
      by_cases e : i + 1 < b.length
      · rw [List.getElem_append_left (by omega), List.getElem_append_left e]; exact h.2 i e
      · have e1 : i = b.length - 1 := by omega
        rw [List.getElem_append_left (by omega), List.getElem_append_right (by omega)]
        rw [lastI_get (by omega)] at h2
        simpa [e1] using h2
def Ring (rel : Int → Int → Bool) (N : Nat) (l : List Int) : Prop := Chain rel l ∧ rel (lastI l) (l.getD 0 0) = true ∧ ∀ x ∈ l, 3 ≤ x ∧ x < (N : Int)
theorem srch_sound {rel N} : ∀ (f : Nat) (b l : List Int), srch rel N f b = some l → Chain rel b → (∀ x ∈ b, 3 ≤ x ∧ x < (N : Int)) → Ring rel N l ∧ l.length = b.length + f
  | 0, b, l, h, hc, hb => by
    rw [srch] at h
    split at h
    · cases h; rename_i hr; exact ⟨⟨hc, hr, hb⟩, rfl⟩
    · cases h
  | f + 1, b, l, h, hc, hb => by
    rw [srch] at h
    obtain ⟨c, hcm, h⟩ := List.exists_of_findSome?_eq_some h
    have hc' := mem_drop3.1 hcm
    split at h
    · rename_i hn
      obtain ⟨h1, h2⟩ := srch_sound f (b ++ [c]) l h (hc.snoc hn) (fun x hx => by rcases List.mem_append.1 hx with hx | hx; exact hb x hx; simp at hx; omega)
      exact ⟨h1, by simp at h2; omega⟩
    · cases h
theorem srch_complete {rel N} : ∀ (e b : List Int), Ring rel N (b ++ e) → srch rel N e.length b ≠ none
  | [], b, h => by
    rw [List.append_nil] at h
    rw [List.length_nil, srch, if_pos h.2.1]; simp
  | c :: e, b, h => by
    intro hn
    rw [List.length_cons, srch, List.findSome?_eq_none_iff] at hn
    have hc := h.2.2 c (by simp)
    have h1 := hn c (mem_drop3.2 hc)
    have hnx : nextB rel b c = true := by
      unfold nextB
      by_cases hne : b = []
      · subst hne; rfl
      · have h0 : 0 < b.length := List.length_pos_iff.2 hne
        have hnd := List.nodup_append.1 h.1.1
        have hcb : b.contains c = false := by
          cases hq : b.contains c with
          | false => rfl
          | true => exact absurd rfl (hnd.2.2 c (List.contains_iff_mem.1 hq) c (by simp))
        have hr := h.1.2 (b.length - 1) (by simp; omega)
        rw [List.getElem_append_left (by omega), List.getElem_append_right (by omega)] at hr
        have hz : b.length - 1 + 1 - b.length = 0 := by omega
        simp only [hz, List.getElem_cons_zero] at hr
        rw [hcb, lastI_get h0, hr]; simp
    rw [if_pos hnx] at h1
    exact srch_complete e (b ++ [c]) (by simpa using h) h1
end Go.Proofs
/- Plain laws on rings: a shortest one needs each list once; conflicts. -/
namespace Go.Proofs
open Go Go.W Go.V
theorem pigeon {n m : Nat} (f : Nat → Nat) (hf : ∀ i, i < n → f i < m) (h : m < n) : ∃ i j, i < j ∧ j < n ∧ f i = f j := by
  refine Classical.byContradiction fun hno => ?_
  have hnd : ((List.range n).map fun i => (f i : Int)).Nodup := by
    rw [List.Nodup, List.pairwise_iff_getElem]
    intro i j hi hj hij
    simp only [List.length_map, List.length_range] at hi hj
    simp only [List.getElem_map, List.getElem_range]
    intro e
    exact hno ⟨i, j, hij, hj, by omega⟩
  have := nodup_length m _ hnd (fun x hx => by
    obtain ⟨i, hi, rfl⟩ := List.mem_map.1 hx
    have := hf i (List.mem_range.1 hi)
    omega)
  simp at this; omega
/-- Round a list. -/
def nxt (l : List Int) (i : Nat) : Nat := if i + 1 < l.length then i + 1 else 0
theorem Ring.edge {rel N} {l : List Int} (h : Ring rel N l) {i : Nat} (hi : i < l.length) : rel (l.getD i 0) (l.getD (nxt l i) 0) = true := by
  unfold nxt
  split
  · rename_i h1
    rw [getD_lt hi, getD_lt h1]; exact h.1.2 i h1
  · have e : i = l.length - 1 := by omega
    rw [e]; exact h.2.1
theorem Ring.of {rel : Int → Int → Bool} {N : Nat} {l : List Int} (h0 : 0 < l.length) (hn : l.Nodup) (he : ∀ i, i < l.length → rel (l.getD i 0) (l.getD (nxt l i) 0) = true) (hr : ∀ x ∈ l, 3 ≤ x ∧ x < (N : Int)) : Ring rel N l := by
  refine ⟨⟨hn, fun i h => ?_⟩, ?_, hr⟩
  · have := he i (by omega)
    rwa [nxt, if_pos h, getD_lt (show i < l.length by omega), getD_lt h] at this
  · have := he (l.length - 1) (by omega)
    rwa [nxt, if_neg (by omega)] at this
theorem ring_short {all : List (List Int)} {N : Nat} : ∀ (n : Nat) (l : List Int), l.length ≤ n → Ring (precB all) N l → 2 ≤ l.length → ∃ m, Ring (precB all) N m ∧ 2 ≤ m.length ∧ m.length ≤ all.length := by
  intro n
  induction n with
  | zero => intro l h _ h2; omega
  | succ n ih =>
    intro l hl hr h2
    by_cases hle : l.length ≤ all.length
    · exact ⟨l, hr, h2, hle⟩
    have hedge : ∀ i, i < l.length → ∃ k, ∃ h : k < all.length, pairP all[k] (l.getD i 0) (l.getD (nxt l i) 0) 0 = true := fun i hi => by
      have := hr.edge hi
      rw [precB, List.any_eq_true] at this
      obtain ⟨L, hL, hp⟩ := this
      obtain ⟨k, hk, rfl⟩ := List.mem_iff_getElem.1 hL
      exact ⟨k, hk, hp⟩
    obtain ⟨f, hfe⟩ : ∃ f : Nat → Nat, ∀ i, i < l.length → ∃ h : f i < all.length, pairP all[f i] (l.getD i 0) (l.getD (nxt l i) 0) 0 = true :=
      ⟨fun i => if h : i < l.length then (hedge i h).choose else 0, fun i hi => by simp only [dif_pos hi]; exact (hedge i hi).choose_spec⟩
    obtain ⟨i, j, hij, hj, hfij⟩ := pigeon f (fun i hi => (hfe i hi).1) (show all.length < l.length by omega)
    obtain ⟨hk, pi⟩ := hfe i (by omega)
    obtain ⟨hk', pj⟩ := hfe j hj
    have eL : all[f j] = all[f i] := by simp only [hfij]
    rw [eL] at pj
    generalize hLe : all[f i] = L at pi pj
    have hLm : L ∈ all := by rw [← hLe]; exact List.getElem_mem _
    have hni : nxt l i = i + 1 := by rw [nxt, if_pos (by omega)]
    rw [hni] at pi
    simp only [pairP, Bool.and_eq_true, decide_eq_true_eq] at pi pj
    have hrel : ∀ a b : Int, 0 ≤ placeI L a 0 → placeI L a 0 < placeI L b 0 → precB all a b = true := fun a b h1 h2 => by
      rw [precB, List.any_eq_true]; exact ⟨L, hLm, by simp [pairP, h1, h2]⟩
    by_cases hA : placeI L (l.getD i 0) 0 < placeI L (l.getD (nxt l j) 0) 0
    · have hrij := hrel _ _ pi.1 hA
      obtain ⟨m, hme⟩ : ∃ m, m = l.take (i + 1) ++ l.drop (j + 1) := ⟨_, rfl⟩
      have hml : m.length = i + 1 + (l.length - (j + 1)) := by rw [hme]; simp; omega
      have hm : ∀ t, t < m.length → m.getD t 0 = l.getD (if t ≤ i then t else t - i + j) 0 := fun t ht => by
        rw [List.getD_eq_getElem?_getD, List.getD_eq_getElem?_getD, hme, List.getElem?_append, List.length_take]
        have hmin : min (i + 1) l.length = i + 1 := by omega
        rw [hmin]
        by_cases h : t ≤ i
        · rw [if_pos (by omega), if_pos h, List.getElem?_take, if_pos (by omega)]
        · rw [if_neg (by omega), if_neg h, List.getElem?_drop, show j + 1 + (t - (i + 1)) = t - i + j by omega]
      have hm2 : 2 ≤ m.length := by
        refine Classical.byContradiction fun hc => ?_
        have e1 : i = 0 := by omega
        have e2 : nxt l j = 0 := by rw [nxt, if_neg (by omega)]
        rw [e2, e1] at hA
        omega
      have hsub : m.Sublist l := by
        rw [hme]
        have h1 : (l.drop (j + 1)).Sublist (l.drop (i + 1)) := by
          rw [show l.drop (j + 1) = (l.drop (i + 1)).drop (j - i) by rw [List.drop_drop]; congr 1; omega]
          exact List.drop_sublist _ _
        have h2 := List.Sublist.append (List.Sublist.refl (l.take (i + 1))) h1
        rwa [List.take_append_drop] at h2
      refine ih m (by omega) (Ring.of (by omega) (hsub.nodup hr.1.1) (fun t ht => ?_) (fun x hx => hr.2.2 x (hsub.subset hx))) hm2
      have hnx : nxt m t < m.length := by unfold nxt; split <;> omega
      rw [hm t ht, hm _ hnx]
      by_cases h1 : t + 1 < m.length
      · rw [show nxt m t = t + 1 by rw [nxt, if_pos h1]]
        by_cases h2 : t < i
        · rw [if_pos (by omega), if_pos (by omega)]
          have := hr.edge (i := t) (by omega)
          rwa [nxt, if_pos (by omega)] at this
        · by_cases h3 : t = i
          · subst h3
            rw [if_pos (Nat.le_refl _), if_neg (by omega), show t + 1 - t + j = j + 1 by omega]
            rwa [nxt, if_pos (by omega)] at hrij
          · rw [if_neg (by omega), if_neg (by omega)]
            have := hr.edge (i := t - i + j) (by omega)
            rwa [nxt, if_pos (by omega), show t - i + j + 1 = t + 1 - i + j by omega] at this
      · rw [show nxt m t = 0 by rw [nxt, if_neg h1], if_pos (Nat.zero_le _)]
        by_cases h2 : t ≤ i
        · have e : t = i := by omega
          rw [if_pos h2, e]
          rwa [nxt, if_neg (by omega)] at hrij
        · rw [if_neg h2]
          have := hr.edge (i := t - i + j) (by omega)
          rwa [nxt, if_neg (by omega)] at this
    · have hrji := hrel (l.getD j 0) (l.getD (i + 1) 0) pj.1 (by omega)
      obtain ⟨m, hme⟩ : ∃ m, m = (l.drop (i + 1)).take (j - i) := ⟨_, rfl⟩
      have hml : m.length = j - i := by rw [hme]; simp; omega
      have hm : ∀ t, t < m.length → m.getD t 0 = l.getD (i + 1 + t) 0 := fun t ht => by
        rw [List.getD_eq_getElem?_getD, List.getD_eq_getElem?_getD, hme, List.getElem?_take, if_pos (by omega), List.getElem?_drop]
      have hm2 : 2 ≤ m.length := by
        refine Classical.byContradiction fun hc => ?_
        have e1 : j = i + 1 := by omega
        rw [e1] at pj hA
        omega
      have hsub : m.Sublist l := by rw [hme]; exact (List.take_sublist _ _).trans (List.drop_sublist _ _)
      refine ih m (by omega) (Ring.of (by omega) (hsub.nodup hr.1.1) (fun t ht => ?_) (fun x hx => hr.2.2 x (hsub.subset hx))) hm2
      have hnx : nxt m t < m.length := by unfold nxt; split <;> omega
      rw [hm t ht, hm _ hnx]
      by_cases h1 : t + 1 < m.length
      · rw [show nxt m t = t + 1 by rw [nxt, if_pos h1]]
        have := hr.edge (i := i + 1 + t) (by omega)
        rw [nxt, if_pos (by omega)] at this
        exact this
      · rw [show nxt m t = 0 by rw [nxt, if_neg h1], show i + 1 + t = j by omega, Nat.add_zero]
        exact hrji
/-! ### Conflicts -/
def srN (all : List (List Int)) (N : Nat) (ns : List Nat) : Option (List Int) := ns.findSome? fun n => srch (precB all) N n []
def confAt (g : List (List Int)) (c : Nat) : Option (Int × List Int) := match listsOf (orders g) (pOf g c) with
  | none => none
  | some all => if 0 < (at_ (orders g) c).length then none else (srN all (3 + g.length) ((List.range (all.length + 1)).drop 2)).map fun l => ((c : Int), l)
theorem srch_none_long {all : List (List Int)} {N : Nat} (h : srN all N ((List.range (all.length + 1)).drop 2) = none) (n : Nat) (hn : 2 ≤ n) : srch (precB all) N n [] = none := by
  cases hq : srch (precB all) N n [] with
  | none => rfl
  | some l =>
    obtain ⟨hr, hl⟩ := srch_sound n [] l hq (.nil _) (by simp)
    simp at hl
    obtain ⟨m, hm, hm2, hma⟩ := ring_short l.length l (Nat.le_refl _) hr (by omega)
    have hc := srch_complete m [] hm
    rw [srN, List.findSome?_eq_none_iff] at h
    refine absurd (h m.length ?_) hc
    rw [List.mem_drop_iff_getElem]
    exact ⟨m.length - 2, by simp; omega, by simp; omega⟩
theorem srN_long {all : List (List Int)} {N M : Nat} (hM : all.length ≤ M) (h1 : 1 ≤ all.length) : srN all N ((List.range (M + 1)).drop 2) = srN all N ((List.range (all.length + 1)).drop 2) := by
  obtain ⟨d, rfl⟩ : ∃ d, M = all.length + d := ⟨M - all.length, by omega⟩
  rw [show all.length + d + 1 = (all.length + 1) + d by omega, List.range_add, List.drop_append_of_le_length (by simp; omega)]
  cases h : srN all N ((List.range (all.length + 1)).drop 2) with
  | some l => rw [srN, List.findSome?_append]; rw [srN] at h; rw [h]; rfl
  | none =>
    have := srch_none_long h
    rw [srN, List.findSome?_append]; rw [srN] at h; rw [h, Option.none_or, List.findSome?_eq_none_iff]
    intro n hn
    obtain ⟨x, _, rfl⟩ := List.mem_map.1 hn
    exact this _ (by omega)
theorem allOf_nodup {g : List (List Int)} {c : Nat} (hf : fine g = true) (hc : c < 3 + g.length) : ∀ l ∈ allOf g c, l.Nodup := by
  intro l hl
  unfold allOf at hl
  cases h : listsOf (orders g) (pOf g c) with
  | none => rw [h] at hl; simp at hl
  | some all =>
    rw [h, Option.getD_some, listsOf_some h] at hl
    obtain ⟨hok, hol⟩ := orders_ok hf
    obtain ⟨_, _, hp⟩ := fine_pOf hf (c := (c : Int)) (by omega)
    rcases List.mem_append.1 hl with h1 | h1
    · obtain ⟨p, _, rfl⟩ := List.mem_map.1 h1
      exact ((hok.at p).1).filter _
    · simp at h1; subst h1; exact hp
theorem ringN_srN {g : List (List Int)} {c : Nat} (hf : fine g = true) (hc : c < 3 + g.length) (M : Nat) : ringN (aft (3 + g.length) (allOf g c)) ((List.range M).drop 2) = srN (allOf g c) (3 + g.length) ((List.range M).drop 2) := by
  have h16 := fine_len hf
  refine findSome_congr fun n hn => ?_
  have hn2 : 2 ≤ n := by
    rw [List.mem_drop_iff_getElem] at hn
    obtain ⟨i, hi, rfl⟩ := hn
    simp
  have hal := aft_length (3 + g.length) (allOf g c)
  rw [ringsF_srch, hal]
  refine srch_congr (fun a b h1 h2 h3 h4 => ?_) n [] (by simp) (by simp; omega)
  exact aft_prec (fun l hl x hx => by have := allOf_mem hf hc l hl x hx; omega) (allOf_nodup hf hc) (by omega) h1 ⟨h3, h4⟩
theorem srN_edgeless {all : List (List Int)} {N M : Nat} (h : ∀ a b, precB all a b = false) : srN all N ((List.range M).drop 2) = none := by
  rw [srN, List.findSome?_eq_none_iff]
  intro n hn
  have hn2 : 2 ≤ n := by
    rw [List.mem_drop_iff_getElem] at hn
    obtain ⟨i, hi, rfl⟩ := hn
    simp
  cases hq : srch (precB all) N n [] with
  | none => rfl
  | some l =>
    obtain ⟨hr, hl⟩ := srch_sound n [] l hq (.nil _) (by simp)
    have := hr.edge (i := 0) (by simp at hl; omega)
    rw [h] at this; cases this
theorem conflAt_eq {g : List (List Int)} {c : Nat} (hf : fine g = true) (h3 : 3 ≤ c) (hc : c < 3 + g.length) : conflAt g c = confAt g c := by
  rw [conflAt, ringN_srN hf hc, confAt, allOf]
  cases h : listsOf (orders g) (pOf g c) with
  | none =>
    rw [Option.getD_none, srN_edgeless (fun a b => rfl)]
    split <;> rfl
  | some all =>
    have hp := fine_pOf hf (c := (c : Int)) (by omega)
    have hal : all.length = (pOf g c).length + 1 := by rw [listsOf_some h]; simp
    simp only [Option.getD_some]
    rw [show 4 + g.length = 3 + g.length + 1 by omega, srN_long (by omega) (by omega)]
    by_cases h0 : (at_ (orders g) c).length = 0
    · rw [if_pos h0, if_neg (by omega)]
    · rw [if_neg h0, if_pos (by omega)]
theorem conflAt_low {g : List (List Int)} {c : Nat} (hf : fine g = true) (h3 : c < 3) : conflAt g c = none := by
  have e : allOf g c = [[]] := by rw [allOf, pOf_lt (by omega)]; rfl
  rw [conflAt, ringN_srN hf (by omega), e, srN_edgeless (fun a b => rfl)]
  split <;> rfl
def confR (g : List (List Int)) : Option (Int × List Int) := ((List.range (3 + g.length)).drop 3).findSome? (confAt g)
theorem confl_eq {g : List (List Int)} (hf : fine g = true) : confl g = confR g := by
  have e : List.range (3 + g.length) = [0, 1, 2] ++ (List.range (3 + g.length)).drop 3 := by
    rw [List.range_add]; rfl
  rw [confl, e, List.findSome?_append, confR]
  have h0 : [0, 1, 2].findSome? (conflAt g) = none := by
    rw [List.findSome?_eq_none_iff]
    intro n hn
    simp at hn
    exact conflAt_low hf (by omega)
  rw [h0, Option.none_or]
  refine findSome_congr fun n hn => ?_
  rw [List.mem_drop_iff_getElem] at hn
  obtain ⟨i, hi, rfl⟩ := hn
  simp at hi ⊢
  exact conflAt_eq hf (by omega) (by omega)
end Go.Proofs
/- The reference's rings and conflicts. -/
namespace Go.Proofs
open Go Go.W Go.V
theorem s_ref03_place (l : List Int) (n : Int) : V.Spec Try.prog Fc.ref03_place [ints l, V.int n] [] (V.int (placeI l n 0)) [] := by
  refine V.Spec.enter Try.tabOK Try.mixed Fn.ref03_place rfl rfl rfl fun B hB => ?_
  refine TC.bl 0 fun hll => ?_
  repeat' (first
   | (with_reducible refine OL.st ?_)
   | (with_reducible refine TC.region ?_)
   | (with_reducible refine TC.seq ?_)
   | (with_reducible refine OL.nil ?_)
   | (with_reducible refine TX.thenN ?_)
   | (with_reducible refine TC.block ?_)
   | fail)
  refine TC.lp (fun i : Nat => [(0, ints l), (1, V.int n), (5, V.int i)]) (fun _ => []) (fun i => i ≤ l.length ∧ placeI l n 0 = placeI (l.drop i) n i) (fun i => l.length - i) 0 [] ⟨Nat.zero_le _, rfl⟩ ?_
  rintro i ⟨hi, hinv⟩
  repeat' (first
   | (with_reducible refine OL.st ?_)
   | (with_reducible refine TC.region ?_)
   | (with_reducible refine TC.seq ?_)
   | (with_reducible refine OL.nil ?_)
   | (with_reducible refine TX.thenN ?_)
   | (with_reducible refine TC.block ?_)
   | (with_reducible refine TC.skip ?_)
   | (with_reducible refine TX.blkN ?_)
   | (with_reducible refine TC.exit ?_)
   | (with_reducible refine TX.hit ?_)
   | (with_reducible refine TX.thenX ?_)
   | (with_reducible refine TC.ifD ?_ ?_ <;> (intro hc; try (exfalso; omega)))
   | (with_reducible refine TC.ret ?_)
   | (with_reducible refine TX.thenR ?_)
   | (with_reducible refine TX.blkR ?_)
   | fail)
  · refine TX.rt1 [] (.int ?_)
    rw [hinv, drop_cons (by omega), placeI, if_pos (by assumption)]
  · refine TX.rd (i + 1) [] ⟨by omega, ?_⟩ (by omega)
    rw [hinv, drop_cons (by omega), placeI, if_neg (by assumption)]; rfl
  · refine TX.rt1 [] (.int ?_)
    rw [hinv, drop_nil (by omega)]; rfl
theorem s_ref03_precedes (all : List (List Int)) (a b : Int) : V.Spec Try.prog Fc.ref03_precedes [rows all, V.int a, V.int b] [] (V.bool (precB all a b)) [] := by
  refine V.Spec.enter Try.tabOK Try.mixed Fn.ref03_precedes rfl rfl rfl fun B hB => ?_
  refine TC.bl 0 fun hll => ?_
  repeat' (first
   | (with_reducible refine OL.st ?_)
   | (with_reducible refine TC.region ?_)
   | (with_reducible refine TC.seq ?_)
   | (with_reducible refine OL.nil ?_)
   | (with_reducible refine TX.thenN ?_)
   | (with_reducible refine TC.block ?_)
   | fail)
  refine TC.lp (fun i : Nat => [(0, rows all), (1, V.int a), (2, V.int b), (7, V.int i)]) (fun _ => []) (fun i => i ≤ all.length ∧ (all.take i).any (fun l => pairP l a b 0) = false) (fun i => all.length - i) 0 [] ⟨Nat.zero_le _, rfl⟩ ?_
  rintro i ⟨hi, hinv⟩
  repeat' (first
   | (with_reducible refine OL.st ?_)
   | (with_reducible refine TC.region ?_)
   | (with_reducible refine TC.seq ?_)
   | (with_reducible refine OL.nil ?_)
   | (with_reducible refine TX.thenN ?_)
   | (with_reducible refine TC.block ?_)
   | (with_reducible refine TC.skip ?_)
   | (with_reducible refine TC.exit ?_)
   | (with_reducible refine TX.hit ?_)
   | (with_reducible refine TX.thenX ?_)
   | (with_reducible refine TC.ifD ?_ ?_ <;> (intro hc; try (exfalso; omega)))
   | (with_reducible refine TC.ret ?_)
   | fail)
  · have hil : i < all.length := by omega
    have h1 := s_ref03_place all[i] a
    have h2 := s_ref03_place all[i] b
    have hstep : (all.take (i + 1)).any (fun l => pairP l a b 0) = pairP all[i] a b 0 := by rw [take_succ hil, List.any_append, hinv]; simp
    (with_reducible refine TC.draw (id := 4) true 14 14 ?_) <;> (with_reducible refine OD.st 0 ?_) <;> (with_reducible refine OD.st 1 ?_) <;> (with_reducible refine OD.st 2 ?_) <;> (with_reducible refine OD.st 3 ?_) <;> (with_reducible refine OD.st 4 ?_) <;> (with_reducible refine OD.st 6 ?_) <;> (with_reducible refine OD.st 7 ?_) <;> (with_reducible refine OD.st 8 ?_) <;> (with_reducible refine OD.st 9 ?_) <;> (with_reducible refine OD.st 10 ?_) <;> (with_reducible refine OD.c1 5 h1 Fn.ref03_place ?_) <;> (with_reducible refine OD.c1 11 h2 Fn.ref03_place ?_) <;> (with_reducible refine OD.st 12 ?_) <;> (with_reducible refine OD.st 13 ?_) <;> (with_reducible refine OD.dn ?_)
    all_goals repeat' (first
               | (with_reducible refine OL.st ?_)
               | (with_reducible refine TC.region ?_)
               | (with_reducible refine TC.seq ?_)
               | (with_reducible refine OL.nil ?_)
               | (with_reducible refine TX.thenN ?_)
               | (with_reducible refine TC.skip ?_)
               | (with_reducible refine TX.blkN ?_)
               | (with_reducible refine TC.ifF ?_)
               | (with_reducible refine OL.gOn ?_)
               | (with_reducible refine OL.gOff ?_)
               | (with_reducible refine TC.ifD ?_ ?_ <;> (intro hc; try (exfalso; omega)))
               | (with_reducible refine OL.gD ?_ ?_ <;> (intro hc; try (exfalso; omega)))
               | (with_reducible refine TC.ret ?_)
               | (with_reducible refine TX.thenR ?_)
               | (with_reducible refine TX.blkR ?_)
               | fail)
    all_goals first
      | (have e : precB all a b = true := by
           rw [precB, List.any_eq_true]; exact ⟨all[i], List.getElem_mem _, by simp [pairP]; omega⟩
         rw [e]
         exact TX.rt1 [] (.ren rfl))
      | (refine TX.rd (i + 1) [] ⟨by omega, ?_⟩ (by omega)
         rw [hstep]; simp [pairP]; omega)
  · rw [take_all (by omega)] at hinv
    rw [precB, hinv]
    exact TX.rt1 [] (.ren rfl)
def rgAt (all : List (List Int)) (l : List Int) (i : Nat) : Bool := !(l.take i).contains (l.getD i 0) && precB all (l.getD i 0) (l.getD (nxt l i) 0)
def ringB (all : List (List Int)) (l : List Int) : Bool := decide (2 ≤ l.length) && (List.range l.length).all (rgAt all l)
theorem all_range_succ (p : Nat → Bool) (n : Nat) : (List.range (n + 1)).all p = ((List.range n).all p && p n) := by
  rw [List.range_succ, List.all_append]; simp
theorem nxt_lt {l : List Int} {i : Nat} (h : i < l.length) : nxt l i < l.length := by unfold nxt; split <;> omega
theorem nxt_mod {l : List Int} {i : Nat} (h : i < l.length) : ((i : Int) + 1) % (l.length : Int) = (nxt l i : Nat) := by
  unfold nxt
  split
  · rw [Int.emod_eq_of_lt (by omega) (by omega)]; omega
  · rw [show ((i : Int) + 1) = (l.length : Int) by omega, Int.emod_self]; rfl
set_option maxHeartbeats 1000000 in
theorem s_ref03_ring (all : List (List Int)) (l : List Int) : V.Spec Try.prog Fc.ref03_ring [rows all, ints l] [] (V.bool (ringB all l)) [] := by
  refine V.Spec.enter Try.tabOK Try.mixed Fn.ref03_ring rfl rfl rfl fun B hB => ?_
  refine TC.bl 1 fun hll => ?_
  repeat' (first
   | (with_reducible refine OL.st ?_)
   | (with_reducible refine TC.region ?_)
   | (with_reducible refine TC.seq ?_)
   | (with_reducible refine OL.nil ?_)
   | (with_reducible refine TX.thenN ?_)
   | (with_reducible refine TC.block ?_)
   | (with_reducible refine TC.skip ?_)
   | (with_reducible refine TC.ifD ?_ ?_ <;> (intro hc; try (exfalso; omega)))
   | (with_reducible refine TC.ret ?_)
   | (with_reducible refine TX.thenR ?_)
   | fail)
  · have : decide (2 ≤ l.length) = false := by simp; omega
    rw [ringB, this, Bool.false_and]
    exact TX.rt1 [] (.ren rfl)
  have h2 : decide (2 ≤ l.length) = true := by simp; omega
  rw [ringB, h2, Bool.true_and]
  refine TC.lp (fun i : Nat => [(0, rows all), (1, ints l), (5, V.int i)]) (fun _ => []) (fun i => i ≤ l.length ∧ (List.range i).all (rgAt all l) = true) (fun i => l.length - i) 0 [] ⟨Nat.zero_le _, rfl⟩ ?_
  rintro i ⟨hi, hinv⟩
  repeat' (first
   | (with_reducible refine OL.st ?_)
   | (with_reducible refine TC.region ?_)
   | (with_reducible refine TC.seq ?_)
   | (with_reducible refine OL.nil ?_)
   | (with_reducible refine TX.thenN ?_)
   | (with_reducible refine TC.block ?_)
   | (with_reducible refine TC.skip ?_)
   | (with_reducible refine TC.exit ?_)
   | (with_reducible refine TX.hit ?_)
   | (with_reducible refine TX.thenX ?_)
   | (with_reducible refine TC.ifD ?_ ?_ <;> (intro hc; try (exfalso; omega)))
   | (with_reducible refine TC.ret ?_)
   | fail)
  · have hil : i < l.length := by omega
    have hnl := nxt_lt hil
    have hnm := nxt_mod hil
    have hg : l[(((i : Int) + 1) % (l.length : Int)).toNat]'(by omega) = l.getD (nxt l i) 0 := by
      rw [getD_lt hnl]; congr 1; omega
    have hh := s_ref03_Has (l.take i) l[i]
    have hs := s_ref03_precedes all l[i] (l[(((i : Int) + 1) % (l.length : Int)).toNat]'(by omega))
    have hat : rgAt all l i = (!(l.take i).contains l[i] && precB all l[i] (l[(((i : Int) + 1) % (l.length : Int)).toNat]'(by omega))) := by rw [rgAt, hg, getD_lt hil]
    have hbad : rgAt all l i = false → (List.range l.length).all (rgAt all l) = false := fun h => by
      rw [List.all_eq_false]; exact ⟨i, List.mem_range.2 hil, by simp [h]⟩
    cases hct : (l.take i).contains l[i]
    · rw [hct] at hh hat
      cases hp : precB all l[i] (l[(((i : Int) + 1) % (l.length : Int)).toNat]'(by omega))
      · rw [hp] at hs hat
        rw [hbad hat]
        (with_reducible refine TC.draw (id := 6) true 25 25 ?_) <;> (with_reducible refine OD.st 0 ?_) <;> (with_reducible refine OD.st 1 ?_) <;> (with_reducible refine OD.st 2 ?_) <;> (with_reducible refine OD.st 3 ?_) <;> (with_reducible refine OD.st 4 ?_) <;> (with_reducible refine OD.st 5 ?_) <;> (with_reducible refine OD.st 6 ?_) <;> (with_reducible refine OD.c1 7 hh Fn.ref03_Has ?_) <;> (with_reducible refine OD.st 8 ?_) <;> (with_reducible refine OD.st 9 ?_) <;> (with_reducible refine OD.st 10 ?_) <;> (with_reducible refine OD.st 11 ?_) <;> (with_reducible refine OD.st 12 ?_) <;> (with_reducible refine OD.st 13 ?_) <;> (with_reducible refine OD.st 14 ?_) <;> (with_reducible refine OD.st 15 ?_) <;> (with_reducible refine OD.st 16 ?_) <;> (with_reducible refine OD.st 17 ?_) <;> (with_reducible refine OD.st 18 ?_) <;> (with_reducible refine OD.st 19 ?_) <;> (with_reducible refine OD.st 20 ?_) <;> (with_reducible refine OD.st 21 ?_) <;> (with_reducible refine OD.c1 22 hs Fn.ref03_precedes ?_) <;> (with_reducible refine OD.st 23 ?_) <;> (with_reducible refine OD.st 24 ?_) <;> (with_reducible refine OD.dn ?_)
        all_goals repeat' (first
                   | (with_reducible refine OL.st ?_)
                   | (with_reducible refine TC.region ?_)
                   | (with_reducible refine TC.seq ?_)
                   | (with_reducible refine OL.nil ?_)
                   | (with_reducible refine TX.thenN ?_)
                   | (with_reducible refine TC.ifT ?_)
                   | (with_reducible refine TC.ret ?_)
                   | (with_reducible refine TX.thenR ?_)
                   | (with_reducible refine TX.blkR ?_)
                   | fail)
        all_goals exact TX.rt1 [] (.ren rfl)
      · rw [hp] at hs hat
        (with_reducible refine TC.draw (id := 6) true 25 25 ?_) <;> (with_reducible refine OD.st 0 ?_) <;> (with_reducible refine OD.st 1 ?_) <;> (with_reducible refine OD.st 2 ?_) <;> (with_reducible refine OD.st 3 ?_) <;> (with_reducible refine OD.st 4 ?_) <;> (with_reducible refine OD.st 5 ?_) <;> (with_reducible refine OD.st 6 ?_) <;> (with_reducible refine OD.c1 7 hh Fn.ref03_Has ?_) <;> (with_reducible refine OD.st 8 ?_) <;> (with_reducible refine OD.st 9 ?_) <;> (with_reducible refine OD.st 10 ?_) <;> (with_reducible refine OD.st 11 ?_) <;> (with_reducible refine OD.st 12 ?_) <;> (with_reducible refine OD.st 13 ?_) <;> (with_reducible refine OD.st 14 ?_) <;> (with_reducible refine OD.st 15 ?_) <;> (with_reducible refine OD.st 16 ?_) <;> (with_reducible refine OD.st 17 ?_) <;> (with_reducible refine OD.st 18 ?_) <;> (with_reducible refine OD.st 19 ?_) <;> (with_reducible refine OD.st 20 ?_) <;> (with_reducible refine OD.st 21 ?_) <;> (with_reducible refine OD.c1 22 hs Fn.ref03_precedes ?_) <;> (with_reducible refine OD.st 23 ?_) <;> (with_reducible refine OD.st 24 ?_) <;> (with_reducible refine OD.dn ?_)
        all_goals repeat' (first
                   | (with_reducible refine OL.st ?_)
                   | (with_reducible refine TC.region ?_)
                   | (with_reducible refine OL.nil ?_)
                   | (with_reducible refine TX.thenN ?_)
                   | (with_reducible refine TC.skip ?_)
                   | (with_reducible refine TX.blkN ?_)
                   | (with_reducible refine TC.ifF ?_)
                   | fail)
        all_goals exact TX.rd (i + 1) [] ⟨by omega, by rw [all_range_succ, hinv, hat]; rfl⟩ (by omega)
    · rw [hct] at hh hat
      rw [hbad hat]
      (with_reducible refine TC.draw (id := 6) true 25 25 ?_) <;> (with_reducible refine OD.st 0 ?_) <;> (with_reducible refine OD.st 1 ?_) <;> (with_reducible refine OD.st 2 ?_) <;> (with_reducible refine OD.st 3 ?_) <;> (with_reducible refine OD.st 4 ?_) <;> (with_reducible refine OD.st 5 ?_) <;> (with_reducible refine OD.st 6 ?_) <;> (with_reducible refine OD.c1 7 hh Fn.ref03_Has ?_) <;> (with_reducible refine OD.st 8 ?_) <;> (with_reducible refine OD.of 9 ?_) <;> (with_reducible refine OD.of 10 ?_) <;> (with_reducible refine OD.of 11 ?_) <;> (with_reducible refine OD.of 12 ?_) <;> (with_reducible refine OD.of 13 ?_) <;> (with_reducible refine OD.of 14 ?_) <;> (with_reducible refine OD.of 15 ?_) <;> (with_reducible refine OD.of 16 ?_) <;> (with_reducible refine OD.of 17 ?_) <;> (with_reducible refine OD.of 18 ?_) <;> (with_reducible refine OD.of 19 ?_) <;> (with_reducible refine OD.of 20 ?_) <;> (with_reducible refine OD.of 21 ?_) <;> (with_reducible refine OD.of 22 ?_) <;> (with_reducible refine OD.of 23 ?_) <;> (with_reducible refine OD.st 24 ?_) <;> (with_reducible refine OD.dn ?_)
      all_goals repeat' (first
                 | (with_reducible refine OL.st ?_)
                 | (with_reducible refine TC.region ?_)
                 | (with_reducible refine TC.seq ?_)
                 | (with_reducible refine OL.nil ?_)
                 | (with_reducible refine TX.thenN ?_)
                 | (with_reducible refine TC.ifT ?_)
                 | (with_reducible refine TC.ret ?_)
                 | (with_reducible refine TX.thenR ?_)
                 | (with_reducible refine TX.blkR ?_)
                 | fail)
      all_goals exact TX.rt1 [] (.ren rfl)
  · have e : i = l.length := by omega
    rw [e] at hinv
    rw [hinv]
    exact TX.rt1 [] (.ren rfl)
theorem ringB_chain {all : List (List Int)} {b : List Int} (h : Chain (precB all) b) (h2 : 2 ≤ b.length) : ringB all b = precB all (lastI b) (b.getD 0 0) := by
  have hd : decide (2 ≤ b.length) = true := by simpa using h2
  have hat : ∀ i (hi : i < b.length), rgAt all b i = precB all (b.getD i 0) (b.getD (nxt b i) 0) := fun i hi => by
    have : (b.take i).contains (b.getD i 0) = false := by
      cases hq : (b.take i).contains (b.getD i 0) with
      | false => rfl
      | true =>
        rw [List.contains_iff_mem, getD_lt hi] at hq
        obtain ⟨j, hj, he⟩ := List.mem_iff_getElem.1 hq
        simp at hj
        rw [List.getElem_take] at he
        have := (List.getElem_inj h.1).1 he
        omega
    rw [rgAt, this]; rfl
  rw [ringB, hd, Bool.true_and, Bool.eq_iff_iff, List.all_eq_true]
  constructor
  · intro hq
    have := hq (b.length - 1) (List.mem_range.2 (by omega))
    rw [hat _ (by omega), nxt, if_neg (by omega)] at this
    exact this
  · intro hq i hi
    have hi' := List.mem_range.1 hi
    rw [hat i hi']
    unfold nxt
    split
    · rename_i h1
      rw [getD_lt hi', getD_lt h1]; exact h.2 i h1
    · rw [show i = b.length - 1 by omega]; exact hq
theorem srch_ne {rel N} (n : Nat) (l : List Int) (hn : 0 < n) (b : List Int) (h : srch rel N n b = some l) (hc : Chain rel b) (hb : ∀ x ∈ b, 3 ≤ x ∧ x < (N : Int)) : l ≠ [] := by
  obtain ⟨_, h1⟩ := srch_sound n b l h hc hb
  intro e; subst e; simp at h1; omega
set_option maxHeartbeats 1000000 in
theorem s_ref03_grown (all : List (List Int)) (N : Nat) (hN : N ≤ 1000) (NI : Int) (hNI : NI = N) (n : Nat) (hn2 : 2 ≤ n) (hn : n ≤ 1000) : ∀ (f : Nat) (begun : List Int), f + begun.length = n → Chain (precB all) begun → (∀ c ∈ begun, 3 ≤ c ∧ c < (N : Int)) →
    V.Spec Try.prog Fc.ref03_grown [rows all, ints begun, V.int n, V.int NI] [] (ringA (srch (precB all) N f begun)) [] := by
  intro f
  induction f with
  | zero =>
    intro begun hf hch hr
    refine V.Spec.enter Try.tabOK Try.mixed Fn.ref03_grown rfl rfl rfl fun B hB => ?_
    repeat' (first
     | (with_reducible refine OL.st ?_)
     | (with_reducible refine TC.region ?_)
     | (with_reducible refine TC.seq ?_)
     | (with_reducible refine OL.nil ?_)
     | (with_reducible refine TX.thenN ?_)
     | (with_reducible refine TC.ifD ?_ ?_ <;> (intro hc; try (exfalso; omega)))
     | fail)
    refine OL.c (s_ref03_ring all begun) Fn.ref03_ring ?_
    rw [ringB_chain hch (by omega), srch]
    cases hq : precB all (lastI begun) (begun.getD 0 0)
    · repeat' (first
       | (with_reducible refine OL.st ?_)
       | (with_reducible refine TC.region ?_)
       | (with_reducible refine TC.seq ?_)
       | (with_reducible refine OL.nil ?_)
       | (with_reducible refine TX.thenN ?_)
       | (with_reducible refine TC.skip ?_)
       | (with_reducible refine TC.ifF ?_)
       | (with_reducible refine TC.ret ?_)
       | (with_reducible refine TX.thenR ?_)
       | fail)
      exact TX.rt1 [] (.ren rfl)
    · repeat' (first
       | (with_reducible refine OL.st ?_)
       | (with_reducible refine TC.region ?_)
       | (with_reducible refine TC.seq ?_)
       | (with_reducible refine OL.nil ?_)
       | (with_reducible refine TX.thenN ?_)
       | (with_reducible refine TC.ifT ?_)
       | (with_reducible refine TC.ret ?_)
       | (with_reducible refine TX.thenR ?_)
       | fail)
      exact TX.rt1 [] (.ren rfl)
  | succ f ih =>
    intro begun hf hch hr
    refine V.Spec.enter Try.tabOK Try.mixed Fn.ref03_grown rfl rfl rfl fun B hB => ?_
    have hul := upto_length N
    repeat' (first
     | (with_reducible refine OL.st ?_)
     | (with_reducible refine TC.region ?_)
     | (with_reducible refine TC.seq ?_)
     | (with_reducible refine OL.nil ?_)
     | (with_reducible refine TX.thenN ?_)
     | (with_reducible refine TC.block ?_)
     | (with_reducible refine TC.skip ?_)
     | (with_reducible refine TC.ifD ?_ ?_ <;> (intro hc; try (exfalso; omega)))
     | fail)
    refine TC.lp (fun c : Nat => [(0, rows all), (1, ints begun), (2, V.int n), (3, V.int NI), (9, V.int c)]) (fun _ => []) (fun c => 3 ≤ c ∧ srch (precB all) N (f + 1) begun = ((upto N).drop c).findSome? (fun c => if nextB (precB all) begun c then srch (precB all) N f (begun ++ [c]) else none)) (fun c => N - c) 3 [] ⟨Nat.le_refl _, rfl⟩ ?_
    rintro c ⟨hc3, hinv⟩
    have hg : ∀ h : c < N, (upto N)[c]'(by omega) = (c : Int) := fun h => by simp [upto]
    have hstep : ∀ h : c < N, (if nextB (precB all) begun (c : Int) then srch (precB all) N f (begun ++ [(c : Int)]) else none) = none → srch (precB all) N (f + 1) begun = ((upto N).drop (c + 1)).findSome? (fun c => if nextB (precB all) begun c then srch (precB all) N f (begun ++ [c]) else none) := by
      intro h hn0
      rw [hinv, drop_cons (by omega), List.findSome?_cons, hg h, hn0]
    have hfound : ∀ h : c < N, ∀ l, (if nextB (precB all) begun (c : Int) then srch (precB all) N f (begun ++ [(c : Int)]) else none) = some l → srch (precB all) N (f + 1) begun = some l := by
      intro h l hn0
      rw [hinv, drop_cons (by omega), List.findSome?_cons, hg h, hn0]
    have e1 : begun.map V.int ++ [V.int c] = (begun ++ [(c : Int)]).map V.int := by simp
    have hr' : c < N → ∀ x ∈ begun ++ [(c : Int)], 3 ≤ x ∧ x < (N : Int) := by
      intro h x hx
      rcases List.mem_append.1 hx with h' | h'
      · exact hr x h'
      · have : x = (c : Int) := by simpa using h'
        omega
    repeat' (first
     | (with_reducible refine OL.st ?_)
     | (with_reducible refine OL.lit ?_)
     | (with_reducible refine OL.lit0 ?_)
     | (with_reducible refine OL.appO ?_)
     | (with_reducible refine OL.app ?_)
     | (with_reducible refine TC.region ?_)
     | (with_reducible refine TC.seq ?_)
     | (with_reducible refine OL.nil ?_)
     | (with_reducible refine TX.thenN ?_)
     | (with_reducible refine TC.block ?_)
     | (with_reducible refine TC.skip ?_)
     | (with_reducible refine TC.exit ?_)
     | (with_reducible refine TX.hit ?_)
     | (with_reducible refine TX.thenX ?_)
     | (with_reducible refine TC.ifF ?_)
     | (with_reducible refine OL.gOn ?_)
     | (with_reducible refine OL.gOff ?_)
     | (with_reducible refine OL.gUn ?_)
     | (with_reducible refine TC.ifD ?_ ?_ <;> (intro hc; try (exfalso; omega)))
     | (with_reducible refine OL.gD ?_ ?_ <;> (intro hc; try (exfalso; omega)))
     | (with_reducible refine TC.ret ?_)
     | fail)
    · have hcl : c < N := by omega
      replace hr' := hr' hcl
      have hlt0 : ((begun.length : Int) - 1).toNat < begun.length := by omega
      have hle := lastI_eq hlt0
      have hnx : nextB (precB all) begun (c : Int) = (!begun.contains (c : Int) && precB all begun[((begun.length : Int) - 1).toNat] (c : Int)) := by
        have : (begun.length == 0) = false := by simp; intro e; rw [e] at hc; simp at hc
        rw [nextB, this, ← hle]; rfl
      refine OL.c (s_ref03_Has begun c) Fn.ref03_Has ?_
      cases hct : begun.contains (c : Int) <;> rw [hct] at hnx
      · repeat' (first | (with_reducible refine OL.st ?_) | (with_reducible refine OL.gOn ?_) | fail)
        refine OL.c (s_ref03_precedes all begun[((begun.length : Int) - 1).toNat] c) Fn.ref03_precedes ?_
        cases hp : precB all begun[((begun.length : Int) - 1).toNat] (c : Int) <;> rw [hp] at hnx
        · repeat' (first
           | (with_reducible refine OL.st ?_)
           | (with_reducible refine TC.region ?_)
           | (with_reducible refine OL.nil ?_)
           | (with_reducible refine TX.thenN ?_)
           | (with_reducible refine TC.exit ?_)
           | (with_reducible refine TX.hit ?_)
           | (with_reducible refine TX.thenX ?_)
           | (with_reducible refine TC.ifT ?_)
           | (with_reducible refine OL.gOn ?_)
           | fail)
          have hok : nextB (precB all) begun (c : Int) = false := hnx
          exact TX.rd (c + 1) [] ⟨by omega, hstep hcl (by rw [hok]; rfl)⟩ (by omega)
        · repeat' (first
           | (with_reducible refine OL.st ?_)
           | (with_reducible refine OL.lit ?_)
           | (with_reducible refine OL.lit0 ?_)
           | (with_reducible refine OL.appO ?_)
           | (with_reducible refine OL.app ?_)
           | (with_reducible refine TC.region ?_)
           | (with_reducible refine TC.seq ?_)
           | (with_reducible refine OL.nil ?_)
           | (with_reducible refine TX.thenN ?_)
           | (with_reducible refine TC.skip ?_)
           | (with_reducible refine TC.ifF ?_)
           | (with_reducible refine OL.gOn ?_)
           | fail)
          have hok : nextB (precB all) begun (c : Int) = true := hnx
          refine OL.vwA 1 ?_
          rw [e1]
          have hih := ih (begun ++ [(c : Int)]) (by simp; omega) (hch.snoc hok) hr'
          cases hres : srch (precB all) N f (begun ++ [(c : Int)]) with
          | none =>
            rw [hres] at hih
            refine OL.c hih Fn.ref03_grown ?_
            repeat' (first
             | (with_reducible refine OL.st ?_)
             | (with_reducible refine TC.region ?_)
             | (with_reducible refine TC.seq ?_)
             | (with_reducible refine OL.nil ?_)
             | (with_reducible refine TX.thenN ?_)
             | fail)
            refine OL.nilNeq ?_
            repeat' (first
             | (with_reducible refine OL.st ?_)
             | (with_reducible refine TC.region ?_)
             | (with_reducible refine OL.nil ?_)
             | (with_reducible refine TX.thenN ?_)
             | (with_reducible refine TC.skip ?_)
             | (with_reducible refine TX.blkN ?_)
             | (with_reducible refine TC.ifF ?_)
             | fail)
            exact TX.rd (c + 1) [] ⟨by omega, hstep hcl (by rw [if_pos hok]; exact hres)⟩ (by omega)
          | some l =>
            rw [hres] at hih
            have hne := srch_ne (f + 1) l (by omega) begun (hfound hcl l (by rw [if_pos hok]; exact hres)) hch hr
            rw [hfound hcl l (by rw [if_pos hok]; exact hres)]
            refine OL.c hih Fn.ref03_grown ?_
            repeat' (first
             | (with_reducible refine OL.st ?_)
             | (with_reducible refine TC.region ?_)
             | (with_reducible refine TC.seq ?_)
             | (with_reducible refine OL.nil ?_)
             | (with_reducible refine TX.thenN ?_)
             | fail)
            refine OL.notNil (fun h => absurd (List.map_eq_nil_iff.1 h) hne) ?_
            repeat' (first
             | (with_reducible refine OL.st ?_)
             | (with_reducible refine TC.region ?_)
             | (with_reducible refine TC.seq ?_)
             | (with_reducible refine OL.nil ?_)
             | (with_reducible refine TX.thenN ?_)
             | (with_reducible refine TC.ifT ?_)
             | (with_reducible refine TC.ret ?_)
             | (with_reducible refine TX.thenR ?_)
             | (with_reducible refine TX.blkR ?_)
             | fail)
            exact TX.rt1 [] (.ren rfl)
      · repeat' (first
         | (with_reducible refine OL.st ?_)
         | (with_reducible refine TC.region ?_)
         | (with_reducible refine OL.nil ?_)
         | (with_reducible refine TX.thenN ?_)
         | (with_reducible refine TC.exit ?_)
         | (with_reducible refine TX.hit ?_)
         | (with_reducible refine TX.thenX ?_)
         | (with_reducible refine TC.ifT ?_)
         | (with_reducible refine OL.gOn ?_)
         | (with_reducible refine OL.gOff ?_)
         | fail)
        have hok : nextB (precB all) begun (c : Int) = false := hnx
        exact TX.rd (c + 1) [] ⟨by omega, hstep hcl (by rw [hok]; rfl)⟩ (by omega)
    · have hcl : c < N := by omega
      replace hr' := hr' hcl
      have hok : nextB (precB all) begun (c : Int) = true := by
        have : begun.length = 0 := by omega
        rw [nextB, this]; rfl
      refine OL.vwA 1 ?_
      rw [e1]
      have hih := ih (begun ++ [(c : Int)]) (by simp; omega) (hch.snoc hok) hr'
      cases hres : srch (precB all) N f (begun ++ [(c : Int)]) with
      | none =>
        rw [hres] at hih
        refine OL.c hih Fn.ref03_grown ?_
        repeat' (first
         | (with_reducible refine OL.st ?_)
         | (with_reducible refine TC.region ?_)
         | (with_reducible refine TC.seq ?_)
         | (with_reducible refine OL.nil ?_)
         | (with_reducible refine TX.thenN ?_)
         | fail)
        refine OL.nilNeq ?_
        repeat' (first
         | (with_reducible refine OL.st ?_)
         | (with_reducible refine TC.region ?_)
         | (with_reducible refine OL.nil ?_)
         | (with_reducible refine TX.thenN ?_)
         | (with_reducible refine TC.skip ?_)
         | (with_reducible refine TX.blkN ?_)
         | (with_reducible refine TC.ifF ?_)
         | fail)
        exact TX.rd (c + 1) [] ⟨by omega, hstep hcl (by rw [if_pos hok]; exact hres)⟩ (by omega)
      | some l =>
        rw [hres] at hih
        have hne := srch_ne (f + 1) l (by omega) begun (hfound hcl l (by rw [if_pos hok]; exact hres)) hch hr
        rw [hfound hcl l (by rw [if_pos hok]; exact hres)]
        refine OL.c hih Fn.ref03_grown ?_
        repeat' (first
         | (with_reducible refine OL.st ?_)
         | (with_reducible refine TC.region ?_)
         | (with_reducible refine TC.seq ?_)
         | (with_reducible refine OL.nil ?_)
         | (with_reducible refine TX.thenN ?_)
         | fail)
        refine OL.notNil (fun h => absurd (List.map_eq_nil_iff.1 h) hne) ?_
        repeat' (first
         | (with_reducible refine OL.st ?_)
         | (with_reducible refine TC.region ?_)
         | (with_reducible refine TC.seq ?_)
         | (with_reducible refine OL.nil ?_)
         | (with_reducible refine TX.thenN ?_)
         | (with_reducible refine TC.ifT ?_)
         | (with_reducible refine TC.ret ?_)
         | (with_reducible refine TX.thenR ?_)
         | (with_reducible refine TX.blkR ?_)
         | fail)
        exact TX.rt1 [] (.ren rfl)
    · have e : srch (precB all) N (f + 1) begun = none := by rw [hinv, drop_nil (by omega)]; rfl
      rw [e]
      exact TX.rt1 [] (.ren rfl)
set_option maxHeartbeats 1000000 in
theorem s_ref03_Conflict (g : List (List Int)) : V.Spec Try.prog Fc.ref03_Conflict [rows g] [] (.tp [V.int (conflR g).1, ints (conflR g).2.1, V.int (conflR g).2.2]) [] := by
  refine V.Spec.enter Try.tabOK Try.mixed Fn.ref03_Conflict rfl rfl rfl fun B hB => ?_
  repeat' (first
   | (with_reducible refine OL.st ?_)
   | (with_reducible refine TC.region ?_)
   | (with_reducible refine TC.seq ?_)
   | (with_reducible refine OL.nil ?_)
   | (with_reducible refine TX.thenN ?_)
   | fail)
  refine OL.c (s_ref03_Good g) Fn.ref03_Good ?_
  cases hf : fine g
  · have e : conflR g = (0, [], 2) := by rw [conflR, hf]; rfl
    rw [e]
    repeat' (first
     | (with_reducible refine OL.st ?_)
     | (with_reducible refine TC.region ?_)
     | (with_reducible refine TC.seq ?_)
     | (with_reducible refine OL.nil ?_)
     | (with_reducible refine TX.thenN ?_)
     | (with_reducible refine TC.ifT ?_)
     | (with_reducible refine TC.ret ?_)
     | (with_reducible refine TX.thenR ?_)
     | fail)
    exact TX.rt3 [] (.ren rfl) (.nil (by decide)) (.ren rfl)
  · have e : conflR g = (match confR g with | some (c, l) => (c, l, 0) | none => (0, [], 5)) := by rw [conflR, if_pos hf, confl_eq hf]; cases confR g <;> rfl
    rw [e]
    have h16 := fine_len hf
    have hol := (orders_ok hf).2
    have hsm := (orders_ok hf).1.small (by omega)
    repeat' (first
     | (with_reducible refine OL.st ?_)
     | (with_reducible refine TC.region ?_)
     | (with_reducible refine TC.seq ?_)
     | (with_reducible refine OL.nil ?_)
     | (with_reducible refine TX.thenN ?_)
     | (with_reducible refine TC.skip ?_)
     | (with_reducible refine TC.ifF ?_)
     | fail)
    refine OL.c (s_ref03_OrdersOf g hf) Fn.ref03_OrdersOf ?_
    refine OL.vw 15 ?_
    repeat' (first
     | (with_reducible refine OL.st ?_)
     | (with_reducible refine TC.region ?_)
     | (with_reducible refine TC.seq ?_)
     | (with_reducible refine OL.nil ?_)
     | (with_reducible refine TX.thenN ?_)
     | (with_reducible refine TC.block ?_)
     | fail)
    refine TC.lp (fun c : Nat => [(0, rows g), (5, rows (orders g)), (6, V.int c)]) (fun _ => []) (fun c => 3 ≤ c ∧ c ≤ 3 + g.length ∧ confR g = ((List.range (3 + g.length)).drop c).findSome? (confAt g)) (fun c => 3 + g.length - c) 3 [] ⟨Nat.le_refl _, by omega, rfl⟩ ?_
    rintro c ⟨hc3, hcN, hinv⟩
    have hstep : ∀ h : c < 3 + g.length, confAt g c = none → confR g = ((List.range (3 + g.length)).drop (c + 1)).findSome? (confAt g) := by
      intro h hn
      rw [hinv, drop_cons (by simpa using h), List.findSome?_cons]
      simp only [List.getElem_range, hn]
    have hfound : ∀ (h : c < 3 + g.length) x, confAt g c = some x → confR g = some x := by
      intro h x hn
      rw [hinv, drop_cons (by simpa using h), List.findSome?_cons]
      simp only [List.getElem_range, hn]
    repeat' (first
     | (with_reducible refine OL.st ?_)
     | (with_reducible refine TC.region ?_)
     | (with_reducible refine TC.seq ?_)
     | (with_reducible refine OL.nil ?_)
     | (with_reducible refine TX.thenN ?_)
     | (with_reducible refine TC.block ?_)
     | (with_reducible refine TC.skip ?_)
     | (with_reducible refine TC.exit ?_)
     | (with_reducible refine TX.hit ?_)
     | (with_reducible refine TX.thenX ?_)
     | (with_reducible refine TC.ifD ?_ ?_ <;> (intro hc; try (exfalso; omega)))
     | (with_reducible refine TC.ret ?_)
     | fail)
    · have hclt : c < 3 + g.length := by omega
      obtain ⟨hp1, hp2, hp3⟩ := fine_pOf hf (c := (c : Int)) (by omega)
      have hs := s_ref03_lists g (orders g) c (by omega) (by omega) (by omega) (fun p hp => by have := hp2 p hp; omega) (fun o ho => by have := hsm o ho; omega) (by omega)
      have hca : ∀ all, listsOf (orders g) (pOf g c) = some all → confAt g c = if 0 < (at_ (orders g) c).length then none else (srN all (3 + g.length) ((List.range (all.length + 1)).drop 2)).map fun l => ((c : Int), l) := fun all h => by rw [confAt, h]
      cases hls : listsOf (orders g) (pOf g c) with
      | none =>
        rw [hls] at hs
        simp only [lsR, lsE] at hs
        refine OL.c hs Fn.ref03_lists ?_
        repeat' (first
         | (with_reducible refine OL.st ?_)
         | (with_reducible refine TC.region ?_)
         | (with_reducible refine TC.seq ?_)
         | (with_reducible refine OL.nil ?_)
         | (with_reducible refine TX.thenN ?_)
         | (with_reducible refine TC.exit ?_)
         | (with_reducible refine TX.hit ?_)
         | (with_reducible refine TX.thenX ?_)
         | (with_reducible refine TC.ifT ?_)
         | fail)
        exact TX.rd (c + 1) [] ⟨by omega, by omega, hstep hclt (by rw [confAt, hls])⟩ (by omega)
      | some all =>
        rw [hls] at hs
        simp only [lsR, lsE] at hs
        replace hca := hca all hls
        have hal : all.length = (pOf g c).length + 1 := by rw [listsOf_some hls]; simp
        have hat : at_ (orders g) c = (orders g)[c]'(by omega) := by rw [at_, Int.toNat_natCast, getD_lt (by omega)]
        refine OL.c hs Fn.ref03_lists ?_
        repeat' (first
         | (with_reducible refine OL.st ?_)
         | (with_reducible refine TC.region ?_)
         | (with_reducible refine TC.seq ?_)
         | (with_reducible refine OL.nil ?_)
         | (with_reducible refine TX.thenN ?_)
         | (with_reducible refine TC.block ?_)
         | (with_reducible refine TC.skip ?_)
         | (with_reducible refine TC.exit ?_)
         | (with_reducible refine TX.hit ?_)
         | (with_reducible refine TX.thenX ?_)
         | (with_reducible refine TC.ifF ?_)
         | (with_reducible refine TC.ifD ?_ ?_ <;> (intro hc; try (exfalso; omega)))
         | fail)
        · exact TX.rd (c + 1) [] ⟨by omega, by omega, hstep hclt (by rw [hca, if_pos (by rw [hat]; omega)])⟩ (by omega)
        · rw [if_neg (by rw [hat]; omega)] at hca
          refine TC.vw 7 ?_
          refine TC.lp (fun n : Nat => [(0, rows g), (5, rows (orders g)), (6, V.int c), (7, rows all), (9, V.int n)]) (fun _ => []) (fun n => 2 ≤ n ∧ srN all (3 + g.length) ((List.range (all.length + 1)).drop 2) = srN all (3 + g.length) ((List.range (all.length + 1)).drop n)) (fun n => all.length + 1 - n) 2 [] ⟨Nat.le_refl _, rfl⟩ ?_
          rintro n ⟨hn2, hrn⟩
          repeat' (first
           | (with_reducible refine OL.st ?_)
           | (with_reducible refine TC.region ?_)
           | (with_reducible refine TC.seq ?_)
           | (with_reducible refine OL.nil ?_)
           | (with_reducible refine TX.thenN ?_)
           | (with_reducible refine TC.block ?_)
           | (with_reducible refine TC.skip ?_)
           | (with_reducible refine TX.blkN ?_)
           | (with_reducible refine TC.exit ?_)
           | (with_reducible refine TX.hit ?_)
           | (with_reducible refine TX.thenX ?_)
           | (with_reducible refine TC.ifD ?_ ?_ <;> (intro hc; try (exfalso; omega)))
           | fail)
          · have hng : (List.range (all.length + 1))[n]'(by simp; omega) = n := by simp
            have hrs : srN all (3 + g.length) ((List.range (all.length + 1)).drop n) = match srch (precB all) (3 + g.length) n [] with | some l => some l | none => srN all (3 + g.length) ((List.range (all.length + 1)).drop (n + 1)) := by
              rw [srN, drop_cons (by simp; omega), List.findSome?_cons, hng]; cases srch (precB all) (3 + g.length) n [] <;> rfl
            have hgr := s_ref03_grown all (3 + g.length) (by omega) (3 + (g.length : Int)) (by omega) n hn2 (by omega) n [] (by simp) (.nil _) (by simp)
            cases hres : srch (precB all) (3 + g.length) n [] with
            | none =>
              rw [hres] at hrs hgr
              refine OL.c hgr Fn.ref03_grown ?_
              repeat' (first
               | (with_reducible refine OL.st ?_)
               | (with_reducible refine TC.region ?_)
               | (with_reducible refine TC.seq ?_)
               | (with_reducible refine OL.nil ?_)
               | (with_reducible refine TX.thenN ?_)
               | fail)
              refine OL.nilNeq ?_
              repeat' (first
               | (with_reducible refine OL.st ?_)
               | (with_reducible refine TC.region ?_)
               | (with_reducible refine OL.nil ?_)
               | (with_reducible refine TX.thenN ?_)
               | (with_reducible refine TC.skip ?_)
               | (with_reducible refine TX.blkN ?_)
               | (with_reducible refine TC.ifF ?_)
               | fail)
              exact TX.rd (n + 1) [] ⟨by omega, hrn.trans hrs⟩ (by omega)
            | some l =>
              have hne := srch_ne n l (by omega) [] hres (.nil _) (by simp)
              rw [hres] at hrs hgr
              have hcf := hfound hclt ((c : Int), l) (by rw [hca, hrn, hrs]; rfl)
              refine OL.c hgr Fn.ref03_grown ?_
              repeat' (first
               | (with_reducible refine OL.st ?_)
               | (with_reducible refine TC.region ?_)
               | (with_reducible refine TC.seq ?_)
               | (with_reducible refine OL.nil ?_)
               | (with_reducible refine TX.thenN ?_)
               | fail)
              refine OL.notNil (fun h => absurd (List.map_eq_nil_iff.1 h) hne) ?_
              repeat' (first
               | (with_reducible refine OL.st ?_)
               | (with_reducible refine TC.region ?_)
               | (with_reducible refine TC.seq ?_)
               | (with_reducible refine OL.nil ?_)
               | (with_reducible refine TX.thenN ?_)
               | (with_reducible refine TC.ifT ?_)
               | (with_reducible refine TC.ret ?_)
               | (with_reducible refine TX.thenR ?_)
               | (with_reducible refine TX.blkR ?_)
               | fail)
              rw [hcf]
              exact TX.rt3 [] (.ren rfl) (.ren rfl) (.ren rfl)
          · have : srN all (3 + g.length) ((List.range (all.length + 1)).drop 2) = none := by rw [hrn, drop_nil (by simp; omega)]; rfl
            exact TX.rd (c + 1) [] ⟨by omega, by omega, hstep hclt (by rw [hca, this]; rfl)⟩ (by omega)
    · have hnone : confR g = none := by rw [hinv, drop_nil (by simp; omega)]; rfl
      rw [hnone]
      exact TX.rt3 [] (.ren rfl) (.nil (by decide)) (.ren rfl)
end Go.Proofs
/- Whether lists are rings; LineConflicts. -/
namespace Go.Proofs
open Go Go.W Go.V
/-! ### Plain: the orders of classes from 3 on hold no class below 3 but 0 -/
def OrdU (acc : List (List Int)) : Prop := ∀ (c : Nat) o, acc[c]? = some o → ∀ x ∈ o, x = 0 ∨ x = (c : Int) ∨ 3 ≤ x
theorem orderOf_U {acc : List (List Int)} (h : OrdU acc) {ps : List Int} (hps : ∀ p ∈ ps, 3 ≤ p) (c : Int) : ∀ x ∈ orderOf acc ps c, x = 0 ∨ x = c ∨ 3 ≤ x := by
  intro x hx
  unfold orderOf at hx
  split at hx
  · simp at hx
  · rename_i all hls
    split at hx
    · rw [List.mem_cons, List.mem_append] at hx
      rcases hx with hx | hx | hx
      · exact .inr (.inl hx)
      · obtain ⟨m, hm, hxm⟩ := merge_mem hx
        rw [listsOf_some hls, List.mem_append] at hm
        rcases hm with hm | hm
        · obtain ⟨p, hp, rfl⟩ := List.mem_map.1 hm
          obtain ⟨h1, h2⟩ := mem_without.1 hxm
          have hp3 := hps p hp
          unfold at_ at h1
          rw [List.getD_eq_getElem?_getD] at h1
          cases hq : acc[p.toNat]? with
          | none => rw [hq] at h1; simp at h1
          | some o =>
            rw [hq] at h1
            rcases h p.toNat o hq x h1 with e | e | e
            · exact absurd e h2
            · right; right; omega
            · exact .inr (.inr e)
        · simp at hm; subst hm
          exact .inr (.inr (hps x hxm))
      · left; simpa using hx
    · simp at hx
theorem ordersF_U : ∀ (r acc : List (List Int)), OrdU acc → (∀ ps ∈ r, ∀ p ∈ ps, 3 ≤ p) → OrdU (ordersF acc r)
  | [], acc, h, _ => h
  | ps :: r, acc, h, hr => by
    rw [ordersF]
    refine ordersF_U r _ (fun c o ho => ?_) (fun q hq => hr q (by simp [hq]))
    rw [List.getElem?_append] at ho
    split at ho
    · exact h c o ho
    · have hc : c = acc.length := by
        have := (List.getElem?_eq_some_iff.1 ho).1
        simp at this; omega
      subst hc
      simp at ho; subst ho
      exact orderOf_U h (hr ps (by simp)) _
theorem orders_U {g : List (List Int)} (hf : fine g = true) : OrdU (orders g) := by
  refine ordersF_U _ _ (fun c o ho x hx => ?_) (fun ps hps p hp => ?_)
  · cases c with
    | zero => simp at ho; subst ho; left; simpa using hx
    | succ c => simp at ho
  · rcases List.mem_append.1 hps with h | h
    · simp at h; subst h; simp at hp
    · obtain ⟨i, hi, rfl⟩ := List.mem_iff_getElem.1 h
      have := (fine_pOf hf (c := ((3 + i : Nat) : Int)) (by omega)).2.1 p
      rw [pOf_ge (by omega), show (((3 + i : Nat) : Int) - 3).toNat = i by omega, getD_lt hi] at this
      exact (this hp).1
theorem allOf_three {g : List (List Int)} {c : Nat} (hf : fine g = true) (hc : c < 3 + g.length) : ∀ l ∈ allOf g c, ∀ x ∈ l, 3 ≤ x ∧ x < 3 + (g.length : Int) := by
  intro l hl x hx
  refine ⟨?_, (allOf_mem hf hc l hl x hx).2⟩
  unfold allOf at hl
  cases h : listsOf (orders g) (pOf g c) with
  | none => rw [h] at hl; simp at hl
  | some all =>
    have hps := (fine_pOf hf (c := (c : Int)) (by omega)).2.1
    rw [h, Option.getD_some, listsOf_some h, List.mem_append] at hl
    rcases hl with hl | hl
    · obtain ⟨p, hp, rfl⟩ := List.mem_map.1 hl
      obtain ⟨h1, h2⟩ := mem_without.1 hx
      have hp3 := hps p hp
      unfold at_ at h1
      rw [List.getD_eq_getElem?_getD] at h1
      cases hq : (orders g)[p.toNat]? with
      | none => rw [hq] at h1; simp at h1
      | some o =>
        rw [hq] at h1
        rcases orders_U hf p.toNat o hq x h1 with e | e | e
        · exact absurd e h2
        · omega
        · exact e
    · simp at hl; subst hl
      exact (hps x hx).1
theorem precB_mem {all : List (List Int)} {a b : Int} (h : precB all a b = true) : ∃ l ∈ all, a ∈ l ∧ b ∈ l := by
  rw [precB, List.any_eq_true] at h
  obtain ⟨l, hl, hp⟩ := h
  simp only [pairP, Bool.and_eq_true, decide_eq_true_eq] at hp
  refine ⟨l, hl, ?_, ?_⟩
  · rcases placeI_ge l a 0 with h | h
    · omega
    · exact h.2
  · rcases placeI_ge l b 0 with h | h
    · omega
    · exact h.2
theorem aft_has {N : Nat} {all : List (List Int)} (hr : ∀ l ∈ all, ∀ c ∈ l, 0 ≤ c ∧ c < (N : Int)) (hn : ∀ l ∈ all, l.Nodup) (hN : N ≤ 64) {a : Int} (ha : 0 ≤ a) (b : Int) : hasB ((aft N all).getD a.toNat 0) b = precB all a b := by
  by_cases hb : 0 ≤ b ∧ b < N
  · exact aft_prec hr hn hN ha hb
  · have e : precB all a b = false := by
      cases h : precB all a b with
      | false => rfl
      | true => obtain ⟨l, hl, _, h2⟩ := precB_mem h; exact absurd (hr l hl b h2) hb
    rw [e]
    by_cases h6 : 0 ≤ b ∧ b < 64
    · obtain ⟨b, rfl⟩ := Int.eq_ofNat_of_zero_le h6.1
      obtain ⟨a, rfl⟩ := Int.eq_ofNat_of_zero_le ha
      have h1 : decide ((b : Int) < 64) = true := by simp; omega
      have h2 : decide (0 ≤ (b : Int)) = true := by simp
      rw [hasB, h1, h2, Bool.true_and, Bool.true_and, aft, Int.toNat_natCast, Int.toNat_natCast, aftF_bit a b all _ (by simpa using hr)]
      have h0 : ((List.replicate N 0).getD a 0).testBit b = false := by
        rw [List.getD_eq_getElem?_getD, List.getElem?_replicate]; split <;> simp
      rw [h0, Bool.false_or, List.any_eq_false]
      intro l hl hq
      exact hb (hr l hl _ (aftP_mem l _ _ hq).2)
    · rw [hasB]
      by_cases h1 : 0 ≤ b
      · have : decide (b < 64) = false := by simp; omega
        rw [this]; simp
      · have : decide (0 ≤ b) = false := by simp; omega
        rw [this]; simp
/-! ### Rings, as the program looks at them -/
def lnAt (ss : List Nat) (N : Int) (l : List Int) (i : Nat) : Bool := (decide (3 ≤ l.getD i 0) && decide (l.getD i 0 < N)) && (!(l.take i).contains (l.getD i 0) && hasB (ss.getD (l.getD i 0).toNat 0) (l.getD (nxt l i) 0))
def lnRing (ss : List Nat) (N : Int) (l : List Int) : Bool := decide (2 ≤ l.length) && (decide ((l.length : Int) ≤ N) && (List.range l.length).all (lnAt ss N l))
theorem nodup_takes {l : List Int} (h : ∀ i, i < l.length → (l.take i).contains (l.getD i 0) = false) : l.Nodup := by
  rw [List.Nodup, List.pairwise_iff_getElem]
  intro i j hi hj hij e
  have h1 := h j hj
  have : (l.take j).contains (l.getD j 0) = true := by
    rw [List.contains_iff_mem, getD_lt hj, ← e]
    exact List.mem_iff_getElem.2 ⟨i, by simp; omega, by rw [List.getElem_take]⟩
  rw [this] at h1; cases h1
theorem lnRing_eq {g : List (List Int)} {c : Nat} (hf : fine g = true) (hc : c < 3 + g.length) (l : List Int) : lnRing (aft (3 + g.length) (allOf g c)) (3 + (g.length : Int)) l = ringB (allOf g c) l := by
  have h16 := fine_len hf
  have h3 := allOf_three hf hc
  have hat : ∀ i, lnAt (aft (3 + g.length) (allOf g c)) (3 + (g.length : Int)) l i = rgAt (allOf g c) l i := fun i => by
    unfold lnAt rgAt
    by_cases hr : 3 ≤ l.getD i 0 ∧ l.getD i 0 < 3 + (g.length : Int)
    · have e1 : decide (3 ≤ l.getD i 0) = true := by simpa using hr.1
      have e2 : decide (l.getD i 0 < 3 + (g.length : Int)) = true := by simpa using hr.2
      rw [e1, e2, Bool.true_and, Bool.true_and, aft_has (fun l' hl' x hx => by have := h3 l' hl' x hx; omega) (allOf_nodup hf hc) (by omega) (by omega)]
    · have e1 : (decide (3 ≤ l.getD i 0) && decide (l.getD i 0 < 3 + (g.length : Int))) = false := by
        rw [Bool.and_eq_false_iff]
        by_cases h : 3 ≤ l.getD i 0
        · exact .inr (decide_eq_false (by omega))
        · exact .inl (decide_eq_false h)
      have e2 : precB (allOf g c) (l.getD i 0) (l.getD (nxt l i) 0) = false := by
        cases h : precB (allOf g c) (l.getD i 0) (l.getD (nxt l i) 0) with
        | false => rfl
        | true => obtain ⟨l', hl', h1, _⟩ := precB_mem h; exact absurd (h3 l' hl' _ h1) hr
      rw [e1, e2]; simp
  rw [lnRing, ringB, show lnAt (aft (3 + g.length) (allOf g c)) (3 + (g.length : Int)) l = rgAt (allOf g c) l from funext hat]
  congr 1
  cases hq : (List.range l.length).all (rgAt (allOf g c) l) with
  | false => simp
  | true =>
    rw [List.all_eq_true] at hq
    have hi : ∀ i, i < l.length → (l.take i).contains (l.getD i 0) = false ∧ precB (allOf g c) (l.getD i 0) (l.getD (nxt l i) 0) = true := fun i h => by
      have := hq i (List.mem_range.2 h)
      simpa [rgAt] using this
    have hnd := nodup_takes fun i h => (hi i h).1
    have := nodup_length (3 + g.length) l hnd (fun x hx => by
      obtain ⟨i, h, rfl⟩ := List.mem_iff_getElem.1 hx
      obtain ⟨l', hl', h1, _⟩ := precB_mem (hi i h).2
      rw [getD_lt h] at h1
      have := h3 l' hl' _ h1
      omega)
    have e : decide ((l.length : Int) ≤ 3 + (g.length : Int)) = true := by simp; omega
    rw [e]; rfl
/-! ### What the API says -/
def irE (g : List (List Int)) (c : Int) : Int := if oks g [c] then (if 3 ≤ c ∧ (listsOf (orders g) (pOf g c)).isSome = true then 0 else 7) else 2
def irB (g : List (List Int)) (c : Int) (l : List Int) : Bool := oks g [c] && (decide (3 ≤ c) && (match listsOf (orders g) (pOf g c) with | some all => ringB all l | none => false))
theorem s_ref03_IsRing (g : List (List Int)) (c : Int) (l : List Int) : V.Spec Try.prog Fc.ref03_IsRing [rows g, V.int c, ints l] [] (.tp [V.bool (irB g c l), V.int (irE g c)]) [] := by
  have e : oks g [c] = (fine g && isClass g c) := by simp [oks_cls]
  rw [irB, irE, e]
  refine V.Spec.enter Try.tabOK Try.mixed Fn.ref03_IsRing rfl rfl rfl fun B hB => ?_
  repeat' (first
   | (with_reducible refine OL.st ?_)
   | (with_reducible refine TC.region ?_)
   | (with_reducible refine TC.seq ?_)
   | (with_reducible refine OL.nil ?_)
   | (with_reducible refine TX.thenN ?_)
   | fail)
  refine OL.c (s_ref03_Good g) Fn.ref03_Good ?_
  cases hf : fine g
  · repeat' (first
     | (with_reducible refine OL.st ?_)
     | (with_reducible refine TC.region ?_)
     | (with_reducible refine TC.seq ?_)
     | (with_reducible refine OL.nil ?_)
     | (with_reducible refine TX.thenN ?_)
     | (with_reducible refine TC.ifT ?_)
     | (with_reducible refine OL.gOff ?_)
     | (with_reducible refine TC.ret ?_)
     | (with_reducible refine TX.thenR ?_)
     | fail)
    exact TX.rt2 [] (.ren rfl) (.ren rfl)
  · have h16 := fine_len hf
    repeat' (first | (with_reducible refine OL.st ?_) | (with_reducible refine OL.gOn ?_) | fail)
    refine OL.c (s_ref03_class g c (by omega)) Fn.ref03_class ?_
    cases ha : isClass g c
    · repeat' (first
       | (with_reducible refine OL.st ?_)
       | (with_reducible refine TC.region ?_)
       | (with_reducible refine TC.seq ?_)
       | (with_reducible refine OL.nil ?_)
       | (with_reducible refine TX.thenN ?_)
       | (with_reducible refine TC.ifT ?_)
       | (with_reducible refine OL.gOn ?_)
       | (with_reducible refine TC.ret ?_)
       | (with_reducible refine TX.thenR ?_)
       | fail)
      exact TX.rt2 [] (.ren rfl) (.ren rfl)
    · obtain ⟨h0, h1⟩ := isClass_iff ha
      have hs := s_ref03_ListsOf g c hf h0 h1
      simp only [Bool.and_true, Bool.true_and, if_true]
      repeat' (first
       | (with_reducible refine OL.st ?_)
       | (with_reducible refine TC.region ?_)
       | (with_reducible refine TC.seq ?_)
       | (with_reducible refine OL.nil ?_)
       | (with_reducible refine TX.thenN ?_)
       | (with_reducible refine TC.skip ?_)
       | (with_reducible refine TC.ifF ?_)
       | (with_reducible refine OL.gOn ?_)
       | fail)
      cases hls : listsOf (orders g) (pOf g c) with
      | none =>
        rw [hls] at hs
        simp only [lsR, lsE] at hs
        refine OL.c hs Fn.ref03_ListsOf ?_
        repeat' (first
         | (with_reducible refine OL.st ?_)
         | (with_reducible refine TC.region ?_)
         | (with_reducible refine TC.seq ?_)
         | (with_reducible refine OL.nil ?_)
         | (with_reducible refine TX.thenN ?_)
         | (with_reducible refine TC.ifT ?_)
         | (with_reducible refine OL.gOn ?_)
         | (with_reducible refine OL.gOff ?_)
         | (with_reducible refine OL.gD ?_ ?_ <;> (intro hc; try (exfalso; omega)))
         | (with_reducible refine TC.ret ?_)
         | (with_reducible refine TX.thenR ?_)
         | fail)
        all_goals refine TX.rt2 [] (.bool ?_) (.int ?_)
        all_goals simp
      | some all =>
        rw [hls] at hs
        simp only [lsR, lsE] at hs
        refine OL.c hs Fn.ref03_ListsOf ?_
        repeat' (first
         | (with_reducible refine OL.st ?_)
         | (with_reducible refine TC.region ?_)
         | (with_reducible refine TC.seq ?_)
         | (with_reducible refine OL.nil ?_)
         | (with_reducible refine TX.thenN ?_)
         | (with_reducible refine TC.skip ?_)
         | (with_reducible refine TC.ifT ?_)
         | (with_reducible refine TC.ifF ?_)
         | (with_reducible refine OL.gOn ?_)
         | (with_reducible refine OL.gOff ?_)
         | (with_reducible refine OL.gD ?_ ?_ <;> (intro hc; try (exfalso; omega)))
         | (with_reducible refine TC.ret ?_)
         | (with_reducible refine TX.thenR ?_)
         | fail)
        · refine TX.rt2 [] (.bool ?_) (.int ?_)
          · have : decide (3 ≤ c) = false := by simp; omega
            rw [this]; rfl
          · rw [if_neg (by omega)]
        · refine OL.vwA 0 ?_
          refine OL.c (s_ref03_ring all l) Fn.ref03_ring ?_
          repeat' (first
           | (with_reducible refine OL.st ?_)
           | (with_reducible refine OL.nil ?_)
           | (with_reducible refine TX.thenN ?_)
           | (with_reducible refine TC.ret ?_)
           | fail)
          refine TX.rt2 [] (.bool ?_) (.int ?_)
          · have : decide (3 ≤ c) = true := by simp; omega
            rw [this]; rfl
          · rw [if_pos ⟨by omega, rfl⟩]
set_option maxHeartbeats 2000000 in
theorem s_line_IsRing (g : List (List Int)) (c : Int) (l : List Int) : V.Spec Try.prog Fc.line_IsRing [rows g, V.int c, ints l] [] (.tp [V.bool (irB g c l), V.int (irE g c)]) [] := by
  have ho := s_line_open g [c]
  rw [openR, openE] at ho
  rw [irB, irE]
  refine V.Spec.enter Try.tabOK Try.mixed Fn.line_IsRing rfl rfl rfl fun B hB => ?_
  refine TC.bl 2 fun hll => ?_
  repeat' (first
   | (with_reducible refine OL.st ?_)
   | (with_reducible refine OL.lit ?_)
   | (with_reducible refine TC.region ?_)
   | (with_reducible refine TC.seq ?_)
   | (with_reducible refine OL.nil ?_)
   | (with_reducible refine TX.thenN ?_)
   | fail)
  refine OL.vwA 1 ?_
  cases hok : oks g [c] <;> rw [hok] at ho
  · simp only [Bool.false_eq_true, if_false] at ho
    refine OL.c ho Fn.line_open ?_
    repeat' (first
     | (with_reducible refine OL.st ?_)
     | (with_reducible refine TC.region ?_)
     | (with_reducible refine TC.seq ?_)
     | (with_reducible refine OL.nil ?_)
     | (with_reducible refine TX.thenN ?_)
     | (with_reducible refine TC.ifT ?_)
     | (with_reducible refine TC.ret ?_)
     | (with_reducible refine TX.thenR ?_)
     | fail)
    exact TX.rt2 [] (.ren rfl) (.ren rfl)
  · simp only [if_true] at ho
    simp only [Bool.true_and, if_true]
    rw [oks_cls] at hok
    simp only [List.all_cons, List.all_nil, Bool.and_true, Bool.and_eq_true] at hok
    obtain ⟨hf, ha⟩ := hok
    have hac := isClass_iff ha
    have hpl := parentsOf_length g
    have h16 := fine_len hf
    obtain ⟨c, rfl⟩ := Int.eq_ofNat_of_zero_le hac.1
    have hcN : c < 3 + g.length := by omega
    refine OL.c ho Fn.line_open ?_
    repeat' (first
     | (with_reducible refine OL.st ?_)
     | (with_reducible refine TC.region ?_)
     | (with_reducible refine TC.seq ?_)
     | (with_reducible refine OL.nil ?_)
     | (with_reducible refine TX.thenN ?_)
     | (with_reducible refine TC.skip ?_)
     | (with_reducible refine TC.ifF ?_)
     | fail)
    refine OL.ch [1, 2] (s_line_graph_listsG g c hf hcN) Fn.line_graph_lists ?_
    have hln := lnRing_eq hf hcN l
    cases hls : listsOf (orders g) (pOf g c) with
    | none =>
      repeat' (first
       | (with_reducible refine OL.st ?_)
       | (with_reducible refine TC.region ?_)
       | (with_reducible refine TC.seq ?_)
       | (with_reducible refine OL.nil ?_)
       | (with_reducible refine TX.thenN ?_)
       | (with_reducible refine TC.ifT ?_)
       | (with_reducible refine OL.gOn ?_)
       | (with_reducible refine OL.gOff ?_)
       | (with_reducible refine OL.gD ?_ ?_ <;> (intro hc; try (exfalso; omega)))
       | (with_reducible refine TC.ret ?_)
       | (with_reducible refine TX.thenR ?_)
       | fail)
      all_goals refine TX.rt2 [] (.bool ?_) (.int ?_)
      all_goals simp
    | some all =>
      have hall : allOf g c = all := by rw [allOf, hls]; rfl
      rw [hall] at hln ⊢
      have hmem := allOf_mem hf hcN
      rw [hall] at hmem
      dsimp only [Option.isSome_some]
      repeat' (first
       | (with_reducible refine OL.st ?_)
       | (with_reducible refine TC.region ?_)
       | (with_reducible refine TC.seq ?_)
       | (with_reducible refine OL.nil ?_)
       | (with_reducible refine TX.thenN ?_)
       | (with_reducible refine TC.skip ?_)
       | (with_reducible refine TC.ifT ?_)
       | (with_reducible refine TC.ifF ?_)
       | (with_reducible refine OL.gOn ?_)
       | (with_reducible refine OL.gOff ?_)
       | (with_reducible refine TC.ifD ?_ ?_ <;> (intro hc; try (exfalso; omega)))
       | (with_reducible refine OL.gD ?_ ?_ <;> (intro hc; try (exfalso; omega)))
       | (with_reducible refine TC.ret ?_)
       | (with_reducible refine TX.thenR ?_)
       | fail)
      · refine TX.rt2 [] (.bool ?_) (.int ?_)
        · have : decide (3 ≤ (c : Int)) = false := by simp; omega
          rw [this]; rfl
        · rw [if_neg (by omega)]
      all_goals
        have h3 : decide (3 ≤ (c : Int)) = true := by simp; omega
        rw [h3, Bool.true_and, if_pos ⟨by omega, rfl⟩, ← hln, lnRing]
      · have : decide (2 ≤ l.length) = false := by simp; omega
        rw [this, Bool.false_and]
        exact TX.rt2 [] (.ren rfl) (.ren rfl)
      · have : decide ((l.length : Int) ≤ 3 + (g.length : Int)) = false := by simp; omega
        rw [this, Bool.false_and, Bool.and_false]
        exact TX.rt2 [] (.ren rfl) (.ren rfl)
      have e2 : decide (2 ≤ l.length) = true := by simp; omega
      have e3 : decide ((l.length : Int) ≤ 3 + (g.length : Int)) = true := by simp; omega
      rw [e2, e3, Bool.true_and, Bool.true_and]
      have haf := s_line_graph_after (parentsOf g) (ups g) (omap (orders g)) all (by omega) (by omega) (fun l hl x hx => by have := hmem l hl x hx; omega)
      have hu64 := aft_lt (parentsOf g).length all (fun l hl x hx => by have := hmem l hl x hx; omega)
      have hssl := aft_length (parentsOf g).length all
      refine OL.ch [1, 2] haf Fn.line_graph_after ?_
      rw [← hpl]
      generalize hss : aft (parentsOf g).length all = ss at *
      repeat' (first
       | (with_reducible refine OL.st ?_)
       | (with_reducible refine TC.region ?_)
       | (with_reducible refine TC.seq ?_)
       | (with_reducible refine OL.nil ?_)
       | (with_reducible refine TX.thenN ?_)
       | (with_reducible refine TC.block ?_)
       | fail)
      refine TC.lp (fun i : Nat => [(2, ints l), (11, sets ss), (51, ints l), (52, V.int l.length), (53, V.int i)]) (fun _ => []) (fun i => i ≤ l.length ∧ (List.range i).all (lnAt ss (3 + (g.length : Int)) l) = true) (fun i => l.length - i) 0 [] ⟨Nat.zero_le _, rfl⟩ ?_
      rintro i ⟨hi, hinv⟩
      repeat' (first
       | (with_reducible refine OL.st ?_)
       | (with_reducible refine TC.region ?_)
       | (with_reducible refine TC.seq ?_)
       | (with_reducible refine OL.nil ?_)
       | (with_reducible refine TX.thenN ?_)
       | (with_reducible refine TC.block ?_)
       | (with_reducible refine TC.skip ?_)
       | (with_reducible refine TC.exit ?_)
       | (with_reducible refine TX.hit ?_)
       | (with_reducible refine TX.thenX ?_)
       | (with_reducible refine TC.ifD ?_ ?_ <;> (intro hc; try (exfalso; omega)))
       | (with_reducible refine TC.ret ?_)
       | fail)
      · have hil : i < l.length := by omega
        have hnl := nxt_lt hil
        have hnm := nxt_mod hil
        have hg : l[(((i : Int) + 1) % (l.length : Int)).toNat]'(by omega) = l.getD (nxt l i) 0 := by
          rw [getD_lt hnl]; congr 1; omega
        have hh := s_slices_Contains_Lint_int (l.take i) l[i]
        have hbad : lnAt ss (3 + (g.length : Int)) l i = false → (List.range l.length).all (lnAt ss (3 + (g.length : Int)) l) = false := fun h => by
          rw [List.all_eq_false]; exact ⟨i, List.mem_range.2 hil, by simp [h]⟩
        have hat0 : lnAt ss (3 + (g.length : Int)) l i = ((decide (3 ≤ l[i]) && decide (l[i] < 3 + (g.length : Int))) && (!(l.take i).contains l[i] && hasB (ss.getD l[i].toNat 0) (l[(((i : Int) + 1) % (l.length : Int)).toNat]'(by omega)))) := by rw [lnAt, hg, getD_lt hil]
        by_cases hr : 3 ≤ l[i] ∧ l[i] < 3 + (g.length : Int)
        · have hlt : l[i].toNat < ss.length := by omega
          have hs := s_has ss[l[i].toNat] (hu64 _ (List.getElem_mem _)) (l[(((i : Int) + 1) % (l.length : Int)).toNat]'(by omega))
          have d1 : decide (3 ≤ l[i]) = true := by simpa using hr.1
          have d2 : decide (l[i] < 3 + (g.length : Int)) = true := by simpa using hr.2
          rw [d1, d2, Bool.true_and, Bool.true_and, getD_lt hlt] at hat0
          cases hct : (l.take i).contains l[i]
          · rw [hct] at hh hat0
            cases hp : hasB ss[l[i].toNat] (l[(((i : Int) + 1) % (l.length : Int)).toNat]'(by omega))
            · rw [hp] at hs hat0
              rw [hbad hat0]
              (with_reducible refine TC.draw (id := 13) true 31 31 ?_) <;> (with_reducible refine OD.st 0 ?_) <;> (with_reducible refine OD.st 1 ?_) <;> (with_reducible refine OD.st 2 ?_) <;> (with_reducible refine OD.sD 60 ?_ ?_ <;> (intro hc; try (exfalso; omega)) <;> (first | (with_reducible refine OD.st 3 ?_) | (with_reducible refine OD.of 3 ?_))) <;> (with_reducible refine OD.st 4 ?_) <;> (with_reducible refine OD.st 5 ?_) <;> (with_reducible refine OD.st 6 ?_) <;> (with_reducible refine OD.st 7 ?_) <;> (with_reducible refine OD.st 8 ?_) <;> (with_reducible refine OD.sD 66 ?_ ?_ <;> (intro hc; try (exfalso; omega)) <;> (first | (with_reducible refine OD.st 9 ?_) | (with_reducible refine OD.of 9 ?_))) <;> (with_reducible refine OD.st 10 ?_) <;> (with_reducible refine OD.st 11 ?_) <;> (with_reducible refine OD.st 12 ?_) <;> (with_reducible refine OD.c1 13 hh Fn.slices_Contains_Lint_int ?_) <;> (with_reducible refine OD.st 14 ?_) <;> (with_reducible refine OD.st 15 ?_) <;> (with_reducible refine OD.st 16 ?_) <;> (with_reducible refine OD.st 17 ?_) <;> (with_reducible refine OD.st 18 ?_) <;> (with_reducible refine OD.st 19 ?_) <;> (with_reducible refine OD.st 20 ?_) <;> (with_reducible refine OD.st 21 ?_) <;> (with_reducible refine OD.st 22 ?_) <;> (with_reducible refine OD.st 23 ?_) <;> (with_reducible refine OD.st 24 ?_) <;> (with_reducible refine OD.st 25 ?_) <;> (with_reducible refine OD.st 26 ?_) <;> (with_reducible refine OD.st 27 ?_) <;> (with_reducible refine OD.c1 28 hs Fn.line_set_has ?_) <;> (with_reducible refine OD.st 29 ?_) <;> (with_reducible refine OD.st 30 ?_) <;> (with_reducible refine OD.dn ?_)
              all_goals repeat' (first
                         | (with_reducible refine OL.st ?_)
                         | (with_reducible refine TC.region ?_)
                         | (with_reducible refine TC.seq ?_)
                         | (with_reducible refine OL.nil ?_)
                         | (with_reducible refine TX.thenN ?_)
                         | (with_reducible refine TC.ifT ?_)
                         | (with_reducible refine TC.ret ?_)
                         | (with_reducible refine TX.thenR ?_)
                         | (with_reducible refine TX.blkR ?_)
                         | fail)
              all_goals exact TX.rt2 [] (.ren rfl) (.ren rfl)
            · rw [hp] at hs hat0
              (with_reducible refine TC.draw (id := 13) true 31 31 ?_) <;> (with_reducible refine OD.st 0 ?_) <;> (with_reducible refine OD.st 1 ?_) <;> (with_reducible refine OD.st 2 ?_) <;> (with_reducible refine OD.sD 60 ?_ ?_ <;> (intro hc; try (exfalso; omega)) <;> (first | (with_reducible refine OD.st 3 ?_) | (with_reducible refine OD.of 3 ?_))) <;> (with_reducible refine OD.st 4 ?_) <;> (with_reducible refine OD.st 5 ?_) <;> (with_reducible refine OD.st 6 ?_) <;> (with_reducible refine OD.st 7 ?_) <;> (with_reducible refine OD.st 8 ?_) <;> (with_reducible refine OD.sD 66 ?_ ?_ <;> (intro hc; try (exfalso; omega)) <;> (first | (with_reducible refine OD.st 9 ?_) | (with_reducible refine OD.of 9 ?_))) <;> (with_reducible refine OD.st 10 ?_) <;> (with_reducible refine OD.st 11 ?_) <;> (with_reducible refine OD.st 12 ?_) <;> (with_reducible refine OD.c1 13 hh Fn.slices_Contains_Lint_int ?_) <;> (with_reducible refine OD.st 14 ?_) <;> (with_reducible refine OD.st 15 ?_) <;> (with_reducible refine OD.st 16 ?_) <;> (with_reducible refine OD.st 17 ?_) <;> (with_reducible refine OD.st 18 ?_) <;> (with_reducible refine OD.st 19 ?_) <;> (with_reducible refine OD.st 20 ?_) <;> (with_reducible refine OD.st 21 ?_) <;> (with_reducible refine OD.st 22 ?_) <;> (with_reducible refine OD.st 23 ?_) <;> (with_reducible refine OD.st 24 ?_) <;> (with_reducible refine OD.st 25 ?_) <;> (with_reducible refine OD.st 26 ?_) <;> (with_reducible refine OD.st 27 ?_) <;> (with_reducible refine OD.c1 28 hs Fn.line_set_has ?_) <;> (with_reducible refine OD.st 29 ?_) <;> (with_reducible refine OD.st 30 ?_) <;> (with_reducible refine OD.dn ?_)
              all_goals repeat' (first
                         | (with_reducible refine OL.st ?_)
                         | (with_reducible refine TC.region ?_)
                         | (with_reducible refine OL.nil ?_)
                         | (with_reducible refine TX.thenN ?_)
                         | (with_reducible refine TC.skip ?_)
                         | (with_reducible refine TX.blkN ?_)
                         | (with_reducible refine TC.ifF ?_)
                         | fail)
              all_goals exact TX.rd (i + 1) [] ⟨by omega, by rw [all_range_succ, hinv, hat0]; rfl⟩ (by omega)
          · rw [hct] at hh hat0
            rw [hbad hat0]
            (with_reducible refine TC.draw (id := 13) true 31 31 ?_) <;> (with_reducible refine OD.st 0 ?_) <;> (with_reducible refine OD.st 1 ?_) <;> (with_reducible refine OD.st 2 ?_) <;> (with_reducible refine OD.sD 60 ?_ ?_ <;> (intro hc; try (exfalso; omega)) <;> (first | (with_reducible refine OD.st 3 ?_) | (with_reducible refine OD.of 3 ?_))) <;> (with_reducible refine OD.st 4 ?_) <;> (with_reducible refine OD.st 5 ?_) <;> (with_reducible refine OD.st 6 ?_) <;> (with_reducible refine OD.st 7 ?_) <;> (with_reducible refine OD.st 8 ?_) <;> (with_reducible refine OD.sD 66 ?_ ?_ <;> (intro hc; try (exfalso; omega)) <;> (first | (with_reducible refine OD.st 9 ?_) | (with_reducible refine OD.of 9 ?_))) <;> (with_reducible refine OD.st 10 ?_) <;> (with_reducible refine OD.st 11 ?_) <;> (with_reducible refine OD.st 12 ?_) <;> (with_reducible refine OD.c1 13 hh Fn.slices_Contains_Lint_int ?_) <;> (with_reducible refine OD.st 14 ?_) <;> (with_reducible refine OD.st 15 ?_) <;> (with_reducible refine OD.of 16 ?_) <;> (with_reducible refine OD.of 17 ?_) <;> (with_reducible refine OD.of 18 ?_) <;> (with_reducible refine OD.of 19 ?_) <;> (with_reducible refine OD.of 20 ?_) <;> (with_reducible refine OD.of 21 ?_) <;> (with_reducible refine OD.of 22 ?_) <;> (with_reducible refine OD.of 23 ?_) <;> (with_reducible refine OD.of 24 ?_) <;> (with_reducible refine OD.of 25 ?_) <;> (with_reducible refine OD.of 26 ?_) <;> (with_reducible refine OD.of 27 ?_) <;> (with_reducible refine OD.of 28 ?_) <;> (with_reducible refine OD.of 29 ?_) <;> (with_reducible refine OD.st 30 ?_) <;> (with_reducible refine OD.dn ?_)
            all_goals repeat' (first
                       | (with_reducible refine OL.st ?_)
                       | (with_reducible refine TC.region ?_)
                       | (with_reducible refine TC.seq ?_)
                       | (with_reducible refine OL.nil ?_)
                       | (with_reducible refine TX.thenN ?_)
                       | (with_reducible refine TC.ifT ?_)
                       | (with_reducible refine TC.ret ?_)
                       | (with_reducible refine TX.thenR ?_)
                       | (with_reducible refine TX.blkR ?_)
                       | fail)
            all_goals exact TX.rt2 [] (.ren rfl) (.ren rfl)
        · have d : (decide (3 ≤ l[i]) && decide (l[i] < 3 + (g.length : Int))) = false := by
            rw [Bool.and_eq_false_iff]
            by_cases h : 3 ≤ l[i]
            · exact .inr (decide_eq_false (by omega))
            · exact .inl (decide_eq_false h)
          rw [d, Bool.false_and] at hat0
          rw [hbad hat0]
          (with_reducible refine TC.draw (id := 13) true 31 31 ?_) <;> (with_reducible refine OD.st 0 ?_) <;> (with_reducible refine OD.st 1 ?_) <;> (with_reducible refine OD.st 2 ?_) <;> (with_reducible refine OD.sD 60 ?_ ?_ <;> (intro hc; try (exfalso; omega)) <;> (first | (with_reducible refine OD.st 3 ?_) | (with_reducible refine OD.of 3 ?_))) <;> (first | (with_reducible refine OD.st 4 ?_) | (with_reducible refine OD.of 4 ?_)) <;> (first | (with_reducible refine OD.st 5 ?_) | (with_reducible refine OD.of 5 ?_)) <;> (first | (with_reducible refine OD.st 6 ?_) | (with_reducible refine OD.of 6 ?_)) <;> (with_reducible refine OD.st 7 ?_) <;> (with_reducible refine OD.st 8 ?_) <;> (first | (with_reducible refine OD.of 9 ?_) | (with_reducible refine OD.sD 66 ?_ ?_ <;> (intro hc; try (exfalso; omega)) <;> (first | (with_reducible refine OD.st 9 ?_) | (with_reducible refine OD.of 9 ?_)))) <;> (with_reducible refine OD.of 10 ?_) <;> (with_reducible refine OD.of 11 ?_) <;> (with_reducible refine OD.of 12 ?_) <;> (with_reducible refine OD.of 13 ?_) <;> (with_reducible refine OD.st 14 ?_) <;> (with_reducible refine OD.st 15 ?_) <;> (with_reducible refine OD.of 16 ?_) <;> (with_reducible refine OD.of 17 ?_) <;> (with_reducible refine OD.of 18 ?_) <;> (with_reducible refine OD.of 19 ?_) <;> (with_reducible refine OD.of 20 ?_) <;> (with_reducible refine OD.of 21 ?_) <;> (with_reducible refine OD.of 22 ?_) <;> (with_reducible refine OD.of 23 ?_) <;> (with_reducible refine OD.of 24 ?_) <;> (with_reducible refine OD.of 25 ?_) <;> (with_reducible refine OD.of 26 ?_) <;> (with_reducible refine OD.of 27 ?_) <;> (with_reducible refine OD.of 28 ?_) <;> (with_reducible refine OD.of 29 ?_) <;> (with_reducible refine OD.st 30 ?_) <;> (with_reducible refine OD.dn ?_)
          all_goals repeat' (first
                     | (with_reducible refine OL.st ?_)
                     | (with_reducible refine TC.region ?_)
                     | (with_reducible refine TC.seq ?_)
                     | (with_reducible refine OL.nil ?_)
                     | (with_reducible refine TX.thenN ?_)
                     | (with_reducible refine TC.ifT ?_)
                     | (with_reducible refine TC.ret ?_)
                     | (with_reducible refine TX.thenR ?_)
                     | (with_reducible refine TX.blkR ?_)
                     | fail)
          all_goals exact TX.rt2 [] (.ren rfl) (.ren rfl)
      · have e : i = l.length := by omega
        rw [e] at hinv
        rw [hinv]
        exact TX.rt2 [] (.ren rfl) (.ren rfl)
end Go.Proofs
/- LineConflicts. -/
namespace Go.Proofs
open Go Go.W Go.V
set_option maxHeartbeats 1000000 in
theorem s_law03_LineConflicts (g : List (List Int)) (c : Int) (l : List Int) : V.Spec Try.prog Fc.law03_LineConflicts [rows g, V.int c, ints l] [] (V.bool true) [] := by
  refine V.Spec.enter Try.tabOK Try.mixed Fn.law03_LineConflicts rfl rfl rfl fun B hB => ?_
  repeat' (first
   | (with_reducible refine OL.st ?_)
   | (with_reducible refine TC.region ?_)
   | (with_reducible refine TC.seq ?_)
   | (with_reducible refine OL.nil ?_)
   | (with_reducible refine TX.thenN ?_)
   | fail)
  refine OL.c (s_law03_wide g) Fn.law03_wide ?_
  cases hw : wideR g
  · repeat' (first
     | (with_reducible refine OL.st ?_)
     | (with_reducible refine OL.lit ?_)
     | (with_reducible refine OL.gOn ?_)
     | fail)
    refine OL.vwA 0 ?_
    refine OL.c (s_law03_large [l]) Fn.law03_large ?_
    cases hl : largeR [l]
    · repeat' (first
       | (with_reducible refine OL.st ?_)
       | (with_reducible refine TC.region ?_)
       | (with_reducible refine TC.seq ?_)
       | (with_reducible refine OL.nil ?_)
       | (with_reducible refine TX.thenN ?_)
       | (with_reducible refine TC.skip ?_)
       | (with_reducible refine TC.ifF ?_)
       | fail)
      refine OL.c (s_line_Conflict g) Fn.line_Conflict ?_
      repeat' (first
       | (with_reducible refine OL.st ?_)
       | (with_reducible refine TC.region ?_)
       | (with_reducible refine TC.seq ?_)
       | (with_reducible refine OL.nil ?_)
       | (with_reducible refine TX.thenN ?_)
       | fail)
      refine OL.c (s_ref03_Conflict g) Fn.ref03_Conflict ?_
      repeat' (first
       | (with_reducible refine OL.st ?_)
       | (with_reducible refine TC.region ?_)
       | (with_reducible refine TC.seq ?_)
       | (with_reducible refine OL.nil ?_)
       | (with_reducible refine TX.thenN ?_)
       | fail)
      refine OL.c (s_line_IsRing g c l) Fn.line_IsRing ?_
      repeat' (first
       | (with_reducible refine OL.st ?_)
       | (with_reducible refine TC.region ?_)
       | (with_reducible refine TC.seq ?_)
       | (with_reducible refine OL.nil ?_)
       | (with_reducible refine TX.thenN ?_)
       | fail)
      refine OL.c (s_ref03_IsRing g c l) Fn.ref03_IsRing ?_
      repeat' (first
       | (with_reducible refine OL.st ?_)
       | (with_reducible refine TC.region ?_)
       | (with_reducible refine TC.seq ?_)
       | (with_reducible refine OL.nil ?_)
       | (with_reducible refine TX.thenN ?_)
       | (with_reducible refine OL.gOn ?_)
       | (with_reducible refine OL.gD ?_ ?_ <;> (intro hc; try (exfalso; omega)))
       | fail)
      refine OL.c (same_t (conflR g).2.1) Fn.ref03_Same ?_
      repeat' (first
       | (with_reducible refine OL.st ?_)
       | (with_reducible refine OL.gOn ?_)
       | (with_reducible refine OL.gD ?_ ?_ <;> (intro hc; try (exfalso; omega)))
       | fail)
      refine OL.eqBl Try.underlying4 ?_
      rw [beq_self_eq_true]
      repeat' (first
       | (with_reducible refine OL.st ?_)
       | (with_reducible refine OL.gOn ?_)
       | (with_reducible refine OL.gD ?_ ?_ <;> (intro hc; try (exfalso; omega)))
       | fail)
      refine OL.c s_law03_works Fn.law03_works ?_
      repeat' (first
       | (with_reducible refine OL.st ?_)
       | (with_reducible refine OL.nil ?_)
       | (with_reducible refine TX.thenN ?_)
       | (with_reducible refine TC.ret ?_)
       | fail)
      exact TX.rt1 [] (.ren rfl)
    · repeat' (first
       | (with_reducible refine OL.st ?_)
       | (with_reducible refine TC.region ?_)
       | (with_reducible refine TC.seq ?_)
       | (with_reducible refine OL.nil ?_)
       | (with_reducible refine TX.thenN ?_)
       | (with_reducible refine TC.ifT ?_)
       | fail)
      refine OL.c s_law03_works Fn.law03_works ?_
      repeat' (first
       | (with_reducible refine OL.st ?_)
       | (with_reducible refine OL.nil ?_)
       | (with_reducible refine TX.thenN ?_)
       | (with_reducible refine TC.ret ?_)
       | (with_reducible refine TX.thenR ?_)
       | fail)
      exact TX.rt1 [] (.ren rfl)
  · repeat' (first
     | (with_reducible refine OL.st ?_)
     | (with_reducible refine TC.region ?_)
     | (with_reducible refine TC.seq ?_)
     | (with_reducible refine OL.nil ?_)
     | (with_reducible refine TX.thenN ?_)
     | (with_reducible refine TC.ifT ?_)
     | (with_reducible refine OL.gOff ?_)
     | fail)
    refine OL.c s_law03_works Fn.law03_works ?_
    repeat' (first
     | (with_reducible refine OL.st ?_)
     | (with_reducible refine OL.nil ?_)
     | (with_reducible refine TX.thenN ?_)
     | (with_reducible refine TC.ret ?_)
     | (with_reducible refine TX.thenR ?_)
     | fail)
    exact TX.rt1 [] (.ren rfl)
end Go.Proofs
