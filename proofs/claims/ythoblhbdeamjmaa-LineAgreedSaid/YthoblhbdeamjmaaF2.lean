/- Part 2 of what the claim is proved by: lemmas on the model and walks through functions of the program; no conditions. -/
import Derived.Test.YthoblhbdeamjmaaA1
import Derived.Test.YthoblhbdeamjmaaD1
import Derived.Test.YthoblhbdeamjmaaB1
import Derived.Test.YthoblhbdeamjmaaY1
import Derived.Test.YthoblhbdeamjmaaC1
import Derived.Test.YthoblhbdeamjmaaE1
import Derived.Test.YthoblhbdeamjmaaF1
/- Plain laws on linear orders: what is kept, and why there is none. -/
namespace Go.Proofs
open Go Go.W Go.V
/-! ### One class ahead of another one -/
theorem aftP_sub : ∀ (l : List Int) (a b : Int), aftP l a b = true ↔ [a, b].Sublist l
  | [], a, b => by simp [aftP]
  | x :: r, a, b => by
    rw [aftP, Bool.or_eq_true, Bool.and_eq_true, beq_iff_eq, List.contains_iff_mem, aftP_sub r a b]
    constructor
    · rintro (⟨rfl, h⟩ | h)
      · exact List.Sublist.cons_cons _ (List.singleton_sublist.2 h)
      · exact h.cons _
    · intro h
      cases h with
      | cons _ h => exact .inr h
      | cons_cons _ h => exact .inl ⟨rfl, List.singleton_sublist.1 h⟩
theorem pair_sub {l : List Int} (hn : l.Nodup) {a b : Int} : pairP l a b 0 = true ↔ [a, b].Sublist l := by rw [← aftP_pair l a b 0 hn (by omega), aftP_sub]
theorem prec_sub {all : List (List Int)} (hn : ∀ l ∈ all, l.Nodup) {a b : Int} : precB all a b = true ↔ ∃ l ∈ all, [a, b].Sublist l := by
  rw [precB, List.any_eq_true]
  constructor
  · rintro ⟨l, hl, h⟩; exact ⟨l, hl, (pair_sub (hn l hl)).1 h⟩
  · rintro ⟨l, hl, h⟩; exact ⟨l, hl, (pair_sub (hn l hl)).2 h⟩
theorem pair_ne {l : List Int} (hn : l.Nodup) {a b : Int} (h : [a, b].Sublist l) : a ≠ b := by
  have := h.nodup hn
  intro e; subst e; simp at this
/-! ### Merges -/
theorem without_not {l : List Int} {n : Int} (h : n ∉ l) : without l n = l := by
  rw [without, List.filter_eq_self]
  intro x hx; rw [bne_iff_ne]; intro e; subst e; exact h hx
theorem anyNE_false {all : List (List Int)} : anyNE all = false ↔ ∀ m ∈ all, m = [] := by
  rw [anyNE, List.any_eq_false]
  constructor
  · intro h m hm; have := h m hm; simpa using this
  · intro h m hm; rw [h m hm]; simp
theorem free_cons {all : List (List Int)} {h : Int} (hf : free all h = true) {m : List Int} (hm : m ∈ all) (hh : h ∈ m) : ∃ t, m = h :: t ∧ h ∉ t := by
  rw [free, List.all_eq_true] at hf
  have := hf m hm
  match m, hh with
  | x :: t, hh =>
    have h1 : h ∉ t := by simpa using this
    have : h = x := by rcases List.mem_cons.1 hh with e | e; exact e; exact absurd e h1
    subst this
    exact ⟨t, rfl, h1⟩
theorem mergeF_sub : ∀ (n : Nat) (all : List (List Int)) (out : List Int), total all ≤ n → (mergeF n all out).2 = true → ∃ e, (mergeF n all out).1 = out ++ e ∧ e.Nodup ∧ (∀ m ∈ all, m.Sublist e) ∧ ∀ x ∈ e, ∃ m ∈ all, x ∈ m
  | 0, all, out, hn, h => by
    rw [mergeF] at h ⊢
    have h0 : anyNE all = false := by simpa using h
    exact ⟨[], by simp, by simp, fun m hm => by rw [anyNE_false.1 h0 m hm]; exact List.Sublist.refl _, by simp⟩
  | n + 1, all, out, hn, h => by
    rw [mergeF] at h ⊢
    cases hx : nextOf all all with
    | none =>
      rw [hx] at h
      have h0 : anyNE all = false := by simpa using h
      exact ⟨[], by simp, by simp, fun m hm => by rw [anyNE_false.1 h0 m hm]; exact List.Sublist.refl _, by simp⟩
    | some x =>
      rw [hx] at h
      obtain ⟨t, ht, hf⟩ := nextOf_mem all all x hx
      have hlt := total_without_lt all x t ht
      dsimp only at h ⊢
      obtain ⟨e, e1, e2, e3, e4⟩ := mergeF_sub n _ _ (by omega) h
      have hxe : x ∉ e := fun hx => by
        obtain ⟨m, hm, hxm⟩ := e4 x hx
        obtain ⟨l, _, rfl⟩ := List.mem_map.1 hm
        exact (mem_without.1 hxm).2 rfl
      refine ⟨x :: e, by rw [e1]; simp, List.nodup_cons.2 ⟨hxe, e2⟩, fun m hm => ?_, fun y hy => ?_⟩
      · have hs := e3 _ (List.mem_map_of_mem (f := (without · x)) hm)
        by_cases hxm : x ∈ m
        · obtain ⟨r, rfl, hr⟩ := free_cons hf hm hxm
          have : without (x :: r) x = r := by
            rw [show without (x :: r) x = without r x by simp [without]]; exact without_not hr
          rw [this] at hs
          exact hs.cons_cons _
        · rw [without_not hxm] at hs
          exact hs.cons _
      · rcases List.mem_cons.1 hy with rfl | hy
        · exact ⟨_, ht, by simp⟩
        · obtain ⟨m, hm, hxm⟩ := e4 y hy
          obtain ⟨l, hl, rfl⟩ := List.mem_map.1 hm
          exact ⟨l, hl, (mem_without.1 hxm).1⟩
theorem merge_keeps {all : List (List Int)} (h : (merge all).2 = true) : (merge all).1.Nodup ∧ (∀ m ∈ all, m.Sublist (merge all).1) ∧ ∀ x, x ∈ (merge all).1 ↔ ∃ m ∈ all, x ∈ m := by
  obtain ⟨e, e1, e2, e3, e4⟩ := mergeF_sub (total all) all [] (Nat.le_refl _) h
  rw [List.nil_append] at e1
  rw [merge, e1]
  exact ⟨e2, e3, fun x => ⟨e4 x, fun ⟨m, hm, hx⟩ => (e3 m hm).subset hx⟩⟩
theorem mergeF_stuck : ∀ (n : Nat) (all : List (List Int)) (out : List Int), total all ≤ n → (mergeF n all out).2 = false → ∃ rest : List (List Int), anyNE rest = true ∧ nextOf rest rest = none ∧ ∀ m' ∈ rest, ∃ m ∈ all, m'.Sublist m
  | 0, all, out, hn, h => by
    rw [mergeF] at h
    have h0 : anyNE all = true := by simpa using h
    exact ⟨all, h0, nextOf_none_of_empty all all (by omega), fun m hm => ⟨m, hm, List.Sublist.refl _⟩⟩
  | n + 1, all, out, hn, h => by
    rw [mergeF] at h
    cases hx : nextOf all all with
    | none =>
      rw [hx] at h
      have h0 : anyNE all = true := by simpa using h
      exact ⟨all, h0, hx, fun m hm => ⟨m, hm, List.Sublist.refl _⟩⟩
    | some x =>
      rw [hx] at h
      obtain ⟨t, ht, hf⟩ := nextOf_mem all all x hx
      have hlt := total_without_lt all x t ht
      dsimp only at h
      obtain ⟨r, r1, r2, r3⟩ := mergeF_stuck n _ _ (by omega) h
      refine ⟨r, r1, r2, fun m' hm' => ?_⟩
      obtain ⟨m, hm, hs⟩ := r3 m' hm'
      obtain ⟨l, hl, rfl⟩ := List.mem_map.1 hm
      exact ⟨l, hl, hs.trans List.filter_sublist⟩
theorem nextOf_none {all : List (List Int)} : ∀ r : List (List Int), nextOf all r = none → ∀ h t, (h :: t) ∈ r → free all h = false
  | [], _, h, t, hm => by simp at hm
  | [] :: r, hn, h, t, hm => by
    rw [nextOf_nil] at hn
    exact nextOf_none r hn h t (by simpa using hm)
  | (x :: s) :: r, hn, h, t, hm => by
    cases hf : free all x with
    | true => rw [nextOf_t hf] at hn; cases hn
    | false =>
      rw [nextOf_f hf] at hn
      rcases List.mem_cons.1 hm with e | hm
      · cases e; exact hf
      · exact nextOf_none r hn h t hm
theorem Chain.cons {rel} {b : List Int} {c : Int} (h : Chain rel b) (hc : c ∉ b) (h0 : 0 < b.length) (hr : rel c (b[0]'h0) = true) : Chain rel (c :: b) := by
  refine ⟨List.nodup_cons.2 ⟨hc, h.1⟩, fun i hi => ?_⟩
  cases i with
  | zero => exact hr
  | succ i => exact h.2 i (by simpa using hi)
theorem Chain.take {rel} {b : List Int} (h : Chain rel b) (k : Nat) : Chain rel (b.take k) := by
  refine ⟨(List.take_sublist k b).nodup h.1, fun i hi => ?_⟩
  simp only [List.getElem_take]
  exact h.2 i (by simp at hi; omega)
/-- Where each of some classes is preceded by another one of them, there is a ring. -/
theorem ring_of_pred {rel : Int → Int → Bool} {N : Nat} {H : Int → Prop} (hr : ∀ x, H x → 3 ≤ x ∧ x < (N : Int)) (hp : ∀ x, H x → ∃ y, H y ∧ y ≠ x ∧ rel y x = true) {x0 : Int} (h0 : H x0) : ∃ r, Ring rel N r ∧ 2 ≤ r.length := by
  refine Classical.byContradiction fun hno => ?_
  have key : ∀ n : Nat, ∃ l, Chain rel l ∧ l.length = n + 1 ∧ ∀ x ∈ l, H x := by
    intro n
    induction n with
    | zero => exact ⟨[x0], ⟨by simp, fun i hi => by simp at hi⟩, rfl, by simpa using h0⟩
    | succ n ih =>
      obtain ⟨l, h1, h2, h3⟩ := ih
      have hl : 0 < l.length := by omega
      obtain ⟨y, y1, y2, y3⟩ := hp l[0] (h3 _ (List.getElem_mem _))
      by_cases hy : y ∈ l
      · obtain ⟨k, hk, rfl⟩ := List.mem_iff_getElem.1 hy
        have hk0 : k ≠ 0 := fun e => by subst e; exact y2 rfl
        have hlen : (l.take (k + 1)).length = k + 1 := by simp; omega
        refine absurd ⟨l.take (k + 1), ⟨h1.take _, ?_, fun x hx => hr x (h3 x (List.mem_of_mem_take hx))⟩, by omega⟩ hno
        rw [lastI_get (by omega), getD_lt (by omega), List.getElem_take, List.getElem_take]
        have : (l.take (k + 1)).length - 1 = k := by omega
        simp only [this]
        exact y3
      · exact ⟨y :: l, h1.cons hy hl y3, by simp [h2], fun x hx => by rcases List.mem_cons.1 hx with rfl | hx; exact y1; exact h3 x hx⟩
  obtain ⟨l, h1, h2, h3⟩ := key N
  have := nodup_length N l h1.1 (fun x hx => by have := hr x (h3 x hx); omega)
  omega
/-- Where there is no merge there is a ring. -/
theorem stuck_ring {all : List (List Int)} {N : Nat} (hn : ∀ l ∈ all, l.Nodup) (hr : ∀ l ∈ all, ∀ x ∈ l, 3 ≤ x ∧ x < (N : Int)) (h : (merge all).2 = false) : ∃ r, Ring (precB all) N r ∧ 2 ≤ r.length := by
  obtain ⟨rest, r1, r2, r3⟩ := mergeF_stuck (total all) all [] (Nat.le_refl _) h
  have hin : ∀ x t, (x :: t) ∈ rest → 3 ≤ x ∧ x < (N : Int) := fun x t hx => by
    obtain ⟨m, hm, hs⟩ := r3 _ hx
    exact hr m hm x (hs.subset (by simp))
  obtain ⟨l, hl, hne⟩ : ∃ l ∈ rest, l ≠ [] := by
    rw [anyNE, List.any_eq_true] at r1
    obtain ⟨l, hl, h⟩ := r1
    exact ⟨l, hl, by simpa using h⟩
  obtain ⟨x0, t0, rfl⟩ := List.exists_cons_of_ne_nil hne
  refine ring_of_pred (H := fun x => ∃ t, (x :: t) ∈ rest) (x0 := x0) (fun x ⟨t, hx⟩ => hin x t hx) (fun x ⟨t, hx⟩ => ?_) ⟨t0, hl⟩
  have hf := nextOf_none rest r2 x t hx
  simp only [free, List.all_eq_false, Bool.not_eq_true', Bool.not_eq_false, List.contains_iff_mem] at hf
  obtain ⟨m, hm, hxm⟩ := hf
  obtain ⟨m0, hm0, hs⟩ := r3 m hm
  match m, hxm with
  | y :: s, hxm =>
    have hxs : x ∈ s := by simpa using hxm
    have hsub : [y, x].Sublist (y :: s) := (List.singleton_sublist.2 hxs).cons_cons _
    have hsub := hsub.trans hs
    exact ⟨y, ⟨s, hm⟩, pair_ne (hn m0 hm0) hsub, (prec_sub hn).2 ⟨m0, hm0, hsub⟩⟩
/-- Where all lists stand in one list there is no ring. -/
theorem no_ring {all : List (List Int)} {N : Nat} {e : List Int} (hn : ∀ l ∈ all, l.Nodup) (he : e.Nodup) (hs : ∀ m ∈ all, m.Sublist e) {r : List Int} (h : Ring (precB all) N r) (h2 : 2 ≤ r.length) : False := by
  have hlt : ∀ a b, precB all a b = true → placeI e a 0 < placeI e b 0 := fun a b hab => by
    obtain ⟨l, hl, hab⟩ := (prec_sub hn).1 hab
    have := (pair_sub he).2 (hab.trans (hs l hl))
    rw [pairP, Bool.and_eq_true, decide_eq_true_eq, decide_eq_true_eq] at this
    exact this.2
  obtain ⟨⟨h1, hc⟩, hl, _⟩ := h
  have key : ∀ k (hk : k < r.length), placeI e (r[0]'(by omega)) 0 + k ≤ placeI e r[k] 0 := by
    intro k
    induction k with
    | zero => intro hk; simp
    | succ k ih =>
      intro hk
      have := ih (by omega)
      have := hlt _ _ (hc k hk)
      omega
  have := key (r.length - 1) (by omega)
  have hl := hlt _ _ hl
  rw [lastI_get (by omega), getD_lt (by omega)] at hl
  omega
/-! ### Linear orders -/
theorem ordersF_app : ∀ (a b acc : List (List Int)), ordersF acc (a ++ b) = ordersF (ordersF acc a) b
  | [], b, acc => rfl
  | p :: a, b, acc => by rw [List.cons_append, ordersF_cons, ordersF_cons, ordersF_app a b]
theorem ordersF_pre : ∀ (r acc : List (List Int)), ∃ t, ordersF acc r = acc ++ t ∧ t.length = r.length
  | [], acc => ⟨[], by simp [ordersF], rfl⟩
  | p :: r, acc => by
    obtain ⟨t, h1, h2⟩ := ordersF_pre r (acc ++ [orderOf acc p acc.length])
    exact ⟨orderOf acc p acc.length :: t, by rw [ordersF_cons, h1]; simp, by simp [h2]⟩
theorem at_app {acc t : List (List Int)} {p : Int} (h : p.toNat < acc.length) : at_ (acc ++ t) p = at_ acc p := by
  rw [at_, at_, List.getD_eq_getElem?_getD, List.getD_eq_getElem?_getD, List.getElem?_append_left h]
theorem listsOf_congr {a b : List (List Int)} {ps : List Int} (h : ∀ p ∈ ps, at_ a p = at_ b p) : listsOf a ps = listsOf b ps := by
  have h1 : (ps.all fun p => !(at_ a p).isEmpty) = ps.all fun p => !(at_ b p).isEmpty := by
    rw [Bool.eq_iff_iff, List.all_eq_true, List.all_eq_true]
    exact ⟨fun q p hp => by rw [← h p hp]; exact q p hp, fun q p hp => by rw [h p hp]; exact q p hp⟩
  have h2 : ps.map (fun p => bare (at_ a p)) = ps.map fun p => bare (at_ b p) := List.map_congr_left fun p hp => by rw [h p hp]
  rw [listsOf, listsOf, h1, h2]
theorem at_orders {g : List (List Int)} (hf : fine g = true) {c : Nat} (h1 : 1 ≤ c) (hc : c < 3 + g.length) : at_ (orders g) c = orderOf (orders g) (pOf g c) c := by
  have hd := parentsOf_drop hc
  have hpl := parentsOf_length g
  have hsp : (parentsOf g).drop 1 = ((parentsOf g).drop 1).take (c - 1) ++ (pOf g c :: (parentsOf g).drop (c + 1)) := by
    rw [← hd]
    have := (List.take_append_drop (c - 1) ((parentsOf g).drop 1)).symm
    rw [List.drop_drop, show 1 + (c - 1) = c by omega] at this
    exact this
  obtain ⟨t, e, hlen⟩ := ordersF_pre (((parentsOf g).drop 1).take (c - 1)) [[0]]
  have hl : (ordersF [[0]] (((parentsOf g).drop 1).take (c - 1))).length = c := by
    rw [e]; simp [hlen]; omega
  generalize hA : ordersF [[0]] (((parentsOf g).drop 1).take (c - 1)) = A at *
  have ho : orders g = ordersF (A ++ [orderOf A (pOf g c) c]) ((parentsOf g).drop (c + 1)) := by
    rw [orders_start, hsp, ordersF_app]
    rw [hA, ordersF_cons, hl]
  obtain ⟨u, e2, _⟩ := ordersF_pre ((parentsOf g).drop (c + 1)) (A ++ [orderOf A (pOf g c) c])
  rw [e2] at ho
  have hp := (fine_pOf hf (c := (c : Int)) (by omega)).2.1
  have hcg : listsOf A (pOf g c) = listsOf (orders g) (pOf g c) := listsOf_congr fun p hpm => by
    have := hp p hpm
    rw [ho, List.append_assoc, at_app (by omega)]
  have hoo : orderOf (orders g) (pOf g c) c = orderOf A (pOf g c) c := by rw [orderOf, orderOf, hcg]
  rw [hoo, ho, at_app (by simp; omega), at_, Int.toNat_natCast, List.getD_eq_getElem?_getD, ← hl]
  simp
end Go.Proofs
/- Plain laws on linear orders: what stands in them, in which order; and 'within'. -/
namespace Go.Proofs
open Go Go.W Go.V
theorem at_zero (g : List (List Int)) : at_ (orders g) 0 = [0] := by
  obtain ⟨t, e, _⟩ := ordersF_pre ((parentsOf g).drop 1) [[0]]
  rw [orders_start, e]; rfl
theorem ord_cons {g : List (List Int)} (hf : fine g = true) {c : Nat} (h1 : 1 ≤ c) (hc : c < 3 + g.length) (hne : at_ (orders g) c ≠ []) : ∃ all, listsOf (orders g) (pOf g c) = some all ∧ (merge all).2 = true ∧ at_ (orders g) c = (c : Int) :: ((merge all).1 ++ [0]) := by
  rw [at_orders hf h1 hc, orderOf] at hne
  rw [at_orders hf h1 hc, orderOf]
  cases hl : listsOf (orders g) (pOf g c) with
  | none => rw [hl] at hne; exact absurd rfl hne
  | some all =>
    rw [hl] at hne
    dsimp only at hne ⊢
    cases hm : (merge all).2 with
    | false => rw [hm] at hne; simp at hne
    | true => exact ⟨all, rfl, hm, by simp⟩
theorem listsOf_has {ords : List (List Int)} {ps : List Int} {all : List (List Int)} (h : listsOf ords ps = some all) : ∀ p ∈ ps, at_ ords p ≠ [] := by
  rw [listsOf] at h
  split at h
  · rename_i h1
    intro p hp
    have := List.all_eq_true.1 h1 p hp
    simpa using this
  · cases h
theorem listsOf_of {ords : List (List Int)} {ps : List Int} (h : ∀ p ∈ ps, at_ ords p ≠ []) : listsOf ords ps = some (ps.map (fun p => bare (at_ ords p)) ++ [ps]) := by
  rw [listsOf, if_pos]
  rw [List.all_eq_true]
  intro p hp
  have := h p hp
  simpa using this
/-- A linear order is its class, what stands between, and any. -/
theorem ord_bare {g : List (List Int)} (hf : fine g = true) {c : Nat} (h1 : 1 ≤ c) (hc : c < 3 + g.length) (hne : at_ (orders g) c ≠ []) : at_ (orders g) c = bare (at_ (orders g) c) ++ [0] := by
  obtain ⟨all, _, _, e⟩ := ord_cons hf h1 hc hne
  have hn := ((orders_ok hf).1.at c).1
  rw [e] at hn ⊢
  rw [← List.cons_append] at hn ⊢
  have h0 : (0 : Int) ∉ (c : Int) :: (merge all).1 := fun h => by
    rw [List.nodup_append] at hn
    exact hn.2.2 0 h 0 (by simp) rfl
  rw [bare, show without ((c : Int) :: (merge all).1 ++ [0]) 0 = (c : Int) :: (merge all).1 by
    have := without_not h0
    rw [without] at this ⊢
    rw [List.filter_append, this]; simp]
theorem ord_main {g : List (List Int)} (hf : fine g = true) : ∀ (n c : Nat), c < n → c < 3 + g.length → at_ (orders g) c ≠ [] →
    (∀ x : Int, x ∈ at_ (orders g) c ↔ (0 ≤ x ∧ x < 3 + (g.length : Int)) ∧ upHas g c x = true) ∧
    (∀ a : Int, (0 ≤ a ∧ a < 3 + (g.length : Int)) → upHas g c a = true → at_ (orders g) a ≠ [] ∧ (at_ (orders g) a).Sublist (at_ (orders g) c)) ∧ (pOf g c).Sublist (at_ (orders g) c) := by
  have h16 := fine_len hf
  intro n
  induction n with
  | zero => intro c h; omega
  | succ n ih =>
    intro c hcn hc hne
    by_cases h0 : c = 0
    · subst h0
      have hz := at_zero g
      have hle : ∀ x : Int, (0 ≤ x ∧ x < 3 + (g.length : Int)) → upHas g (0 : Nat) x = true → x = 0 := fun x hx h => by
        have := upHas_le hf hc (b := x) (by omega) (by omega) h; omega
      refine ⟨fun x => ?_, fun a ha h => ?_, ?_⟩
      · rw [show ((0 : Nat) : Int) = 0 from rfl, hz, List.mem_singleton]
        constructor
        · rintro rfl; exact ⟨by omega, upHas_zero hf (a := 0) (by omega)⟩
        · rintro ⟨h1, h2⟩; exact hle x h1 h2
      · rw [hle a ha h]
        rw [show ((0 : Nat) : Int) = 0 from rfl] at hne ⊢
        exact ⟨hne, List.Sublist.refl _⟩
      · rw [pOf_lt (by omega)]; exact List.nil_sublist _
    · have h1 : 1 ≤ c := by omega
      obtain ⟨all, hl, hm, e⟩ := ord_cons hf h1 hc hne
      have hps := fine_pOf hf (c := (c : Int)) (by omega)
      obtain ⟨k1, k2, k3⟩ := merge_keeps hm
      have hall := listsOf_some hl
      have hhas := listsOf_has hl
      have hpar : ∀ p ∈ pOf g c, (∀ x : Int, x ∈ at_ (orders g) p ↔ (0 ≤ x ∧ x < 3 + (g.length : Int)) ∧ upHas g p x = true) ∧
          (∀ a : Int, (0 ≤ a ∧ a < 3 + (g.length : Int)) → upHas g p a = true → at_ (orders g) a ≠ [] ∧ (at_ (orders g) a).Sublist (at_ (orders g) p)) ∧ at_ (orders g) p = bare (at_ (orders g) p) ++ [0] := fun p hp => by
        have hb := hps.2.1 p hp
        obtain ⟨q, rfl⟩ : ∃ q : Nat, p = (q : Int) := ⟨p.toNat, by omega⟩
        obtain ⟨a1, a2, _⟩ := ih q (by omega) (by omega) (hhas _ hp)
        exact ⟨a1, a2, ord_bare hf (by omega) (by omega) (hhas _ hp)⟩
      have hsubp : ∀ p ∈ pOf g c, (at_ (orders g) p).Sublist (at_ (orders g) c) := fun p hp => by
        have := k2 (bare (at_ (orders g) p)) (by rw [hall]; exact List.mem_append_left _ (List.mem_map_of_mem (f := fun p => bare (at_ (orders g) p)) hp))
        rw [(hpar p hp).2.2, e]
        exact (this.append_right [0]).cons _
      refine ⟨fun x => ?_, fun a ha h => ?_, ?_⟩
      · rw [e, List.mem_cons, List.mem_append, List.mem_singleton, k3]
        constructor
        · intro h
          have hx : x = (c : Int) ∨ x = 0 ∨ ∃ p ∈ pOf g c, (0 ≤ x ∧ x < 3 + (g.length : Int)) ∧ upHas g p x = true := by
            rcases h with h | ⟨m, hm, hx⟩ | h
            · exact .inl h
            · right; right
              rw [hall, List.mem_append, List.mem_map, List.mem_singleton] at hm
              rcases hm with ⟨p, hp, rfl⟩ | rfl
              · exact ⟨p, hp, ((hpar p hp).1 x).1 (mem_without.1 hx).1⟩
              · have := hps.2.1 x hx
                obtain ⟨q, rfl⟩ : ∃ q : Nat, x = (q : Int) := ⟨x.toNat, by omega⟩
                exact ⟨_, hx, by omega, upHas_self hf (by omega)⟩
            · exact .inr (.inl h)
          have hxr : 0 ≤ x ∧ x < 3 + (g.length : Int) := by
            rcases hx with h | h | ⟨_, _, h, _⟩ <;> omega
          refine ⟨hxr, ?_⟩
          rw [upHas_step hf hc (by omega) (by omega)]
          simp only [Bool.or_eq_true, decide_eq_true_eq, List.any_eq_true]
          rcases hx with h | h | ⟨p, hp, _, h⟩
          · exact .inl (.inl h)
          · exact .inl (.inr h)
          · exact .inr ⟨p, hp, h⟩
        · rintro ⟨hxr, h⟩
          rw [upHas_step hf hc (by omega) (by omega)] at h
          simp only [Bool.or_eq_true, decide_eq_true_eq, List.any_eq_true] at h
          rcases h with (h | h) | ⟨p, hp, h⟩
          · exact .inl h
          · exact .inr (.inr h)
          · by_cases hx0 : x = 0
            · exact .inr (.inr hx0)
            · exact .inr (.inl ⟨bare (at_ (orders g) p), by rw [hall]; exact List.mem_append_left _ (List.mem_map_of_mem (f := fun p => bare (at_ (orders g) p)) hp), mem_without.2 ⟨((hpar p hp).1 x).2 ⟨hxr, h⟩, hx0⟩⟩)
      · rw [upHas_step hf hc (by omega) (by omega)] at h
        simp only [Bool.or_eq_true, decide_eq_true_eq, List.any_eq_true] at h
        rcases h with (h | h) | ⟨p, hp, h⟩
        · subst h; exact ⟨hne, List.Sublist.refl _⟩
        · subst h
          rw [at_zero, e]
          exact ⟨by simp, ((List.sublist_append_right _ _).cons _)⟩
        · obtain ⟨h2, h3⟩ := (hpar p hp).2.1 a ha h
          exact ⟨h2, h3.trans (hsubp p hp)⟩
      · rw [e]
        have := k2 (pOf g c) (by rw [hall]; simp)
        exact ((this.trans (List.sublist_append_left _ _)).cons _)
/-! ### Within -/
def wStep (l : List Int) (i : Nat) (c : Int) : Nat := if i < l.length ∧ l.getD i 0 = c then i + 1 else i
def wIn (l inn : List Int) : Nat := inn.foldl (wStep l) 0
def withinB (l inn : List Int) : Bool := decide (wIn l inn = l.length)
theorem wIn_snoc (l inn : List Int) {k : Nat} (h : k < inn.length) : wIn l (inn.take (k + 1)) = wStep l (wIn l (inn.take k)) inn[k] := by rw [wIn, take_succ h, List.foldl_append]; rfl
theorem wStep_le {l : List Int} {i : Nat} (c : Int) (h : i ≤ l.length) : wStep l i c ≤ l.length := by unfold wStep; split <;> omega
theorem wFold_le (l : List Int) : ∀ (inn : List Int) (i : Nat), i ≤ l.length → inn.foldl (wStep l) i ≤ l.length
  | [], i, h => h
  | c :: r, i, h => wFold_le l r _ (wStep_le c h)
theorem wIn_le (l inn : List Int) : wIn l inn ≤ l.length := wFold_le l inn 0 (by omega)
theorem wFold_sub (l : List Int) : ∀ (inn : List Int) (i : Nat), i ≤ l.length → (inn.foldl (wStep l) i = l.length ↔ (l.drop i).Sublist inn)
  | [], i, h => by
    rw [List.foldl_nil, List.sublist_nil, List.drop_eq_nil_iff]; omega
  | c :: r, i, h => by
    rw [List.foldl_cons, wFold_sub l r _ (wStep_le c h)]
    by_cases hi : i < l.length
    · rw [drop_cons hi]
      by_cases e : l[i] = c
      · rw [wStep, if_pos ⟨hi, by rw [getD_lt hi]; exact e⟩, e, List.cons_sublist_cons]
      · rw [wStep, if_neg (fun h => e (by rw [← getD_lt hi (d := 0)]; exact h.2)), drop_cons hi]
        constructor
        · intro h; exact h.cons _
        · intro h
          cases h with
          | cons _ h => exact h
          | cons_cons _ h => exact absurd rfl e
    · rw [wStep, if_neg (fun h => hi h.1), List.drop_of_length_le (by omega)]
      simp
theorem within_sub {l inn : List Int} : withinB l inn = true ↔ l.Sublist inn := by
  rw [withinB, decide_eq_true_eq, wIn, wFold_sub l inn 0 (by omega), List.drop_zero]
end Go.Proofs
/- LineAgreed: plain laws: which lists agree. -/
namespace Go.Proofs
open Go Go.W Go.V
theorem nodup_take_not {l : List Int} (h : l.Nodup) {i : Nat} (hi : i < l.length) : (l.take i).contains (l.getD i 0) = false := by
  cases hc : (l.take i).contains (l.getD i 0) with
  | false => rfl
  | true =>
    rw [List.contains_iff_mem, getD_lt hi] at hc
    obtain ⟨k, hk, e⟩ := List.mem_iff_getElem.1 hc
    rw [List.getElem_take] at e
    simp at hk
    have := (List.getElem_inj h).1 e
    omega
theorem agB_iff {all : List (List Int)} {ab : List Int} {c : Int} {l : List Int} : agB all ab c l = true ↔ (l.length = ab.length ∧ l.getD 0 0 = c ∧ lastI l = 0) ∧ l.Nodup ∧ (∀ x ∈ l, x ∈ ab) ∧ l.Pairwise fun a b => precB all b a = false := by
  simp only [agB, Bool.and_eq_true, decide_eq_true_eq, List.all_eq_true, List.mem_range, agAt, Bool.not_eq_true']
  constructor
  · rintro ⟨⟨h1, h2, h3⟩, h⟩
    refine ⟨⟨h1, h2, h3⟩, nodup_takes fun i hi => (h i hi).1.2, fun x hx => ?_, ?_⟩
    · obtain ⟨i, hi, rfl⟩ := List.mem_iff_getElem.1 hx
      have := (h i hi).1.1
      rwa [getD_lt hi, List.contains_iff_mem] at this
    · rw [List.pairwise_iff_getElem]
      intro i j hi hj hij
      have := (h j hj).2 i hij
      rwa [getD_lt hi, getD_lt hj] at this
  · rintro ⟨h0, h1, h2, h3⟩
    refine ⟨⟨h0.1, h0.2.1, h0.2.2⟩, fun i hi => ⟨⟨?_, nodup_take_not h1 hi⟩, fun k hk => ?_⟩⟩
    · rw [getD_lt hi, List.contains_iff_mem]; exact h2 _ (List.getElem_mem _)
    · rw [getD_lt hi, getD_lt (by omega)]
      exact List.pairwise_iff_getElem.1 h3 k i (by omega) hi hk
/-- What is ahead stays ahead where all lists stand in one. -/
theorem ahead_pairs {all : List (List Int)} {e : List Int} (hn : ∀ l ∈ all, l.Nodup) (he : e.Nodup) (hs : ∀ m ∈ all, m.Sublist e) : e.Pairwise fun a b => precB all b a = false := by
  rw [List.pairwise_iff_getElem]
  intro i j hi hj hij
  cases h : precB all e[j] e[i] with
  | false => rfl
  | true =>
    obtain ⟨l, hl, hab⟩ := (prec_sub hn).1 h
    have hsub := hab.trans (hs l hl)
    have hp := List.pairwise_iff_getElem.1 (List.Pairwise.imp (R := fun a b => placeI e a 0 < placeI e b 0) (fun h => h) (by
      rw [List.pairwise_iff_getElem]
      intro i j hi hj hij
      have : [e[i], e[j]].Sublist e := by
        have h1 : e = e.take i ++ e[i] :: e.drop (i + 1) := by rw [← drop_cons hi, List.take_append_drop]
        have h2 : e[j] ∈ e.drop (i + 1) := List.mem_drop_iff_getElem.2 ⟨j - (i + 1), by omega, by congr 1; omega⟩
        have h3 : [e[i], e[j]].Sublist (e[i] :: e.drop (i + 1)) := (List.singleton_sublist.2 h2).cons_cons _
        have h4 := h3.trans (List.sublist_append_right (e.take i) _)
        rwa [← h1] at h4
      have := (pair_sub he).2 this
      rw [pairP, Bool.and_eq_true, decide_eq_true_eq, decide_eq_true_eq] at this
      exact this.2)) i j hi hj hij
    have hq := (pair_sub he).2 hsub
    rw [pairP, Bool.and_eq_true, decide_eq_true_eq, decide_eq_true_eq] at hq
    omega
theorem nodup_len_eq {l m : List Int} (h1 : l.Nodup) (h2 : m.Nodup) (h : ∀ x, x ∈ l ↔ x ∈ m) : l.length = m.length :=
  Nat.le_antisymm (nodup_sub_length l m h1 fun x hx => (h x).1 hx) (nodup_sub_length m l h2 fun x hx => (h x).2 hx)
/-- What is known of a class that has a linear order. -/
structure Has (g : List (List Int)) (c : Nat) (all : List (List Int)) (l : List Int) : Prop where
  eq : at_ (orders g) c = l
  lists : listsOf (orders g) (pOf g c) = some all
  nodup : l.Nodup
  mem : ∀ x : Int, x ∈ l ↔ x ∈ abOf g c
  head : l.getD 0 0 = c
  last : lastI l = 0
  anod : ∀ m ∈ all, m.Nodup
  keeps : ∀ m ∈ all, m.Sublist l
  pos : 0 < l.length
theorem lastI_snoc (l : List Int) (x : Int) : lastI (l ++ [x]) = x := by simp [lastI, List.getD_eq_getElem?_getD]
theorem lists_zero (g : List (List Int)) : listsOf (orders g) (pOf g 0) = some [[]] := by rw [pOf_lt (by omega)]; rfl
theorem allOf_eq {g : List (List Int)} {c : Nat} {all : List (List Int)} (h : listsOf (orders g) (pOf g c) = some all) : allOf g c = all := by rw [allOf, h]; rfl
theorem has_of {g : List (List Int)} (hf : fine g = true) {c : Nat} (hc : c < 3 + g.length) (hne : at_ (orders g) c ≠ []) : ∃ all, Has g c all (at_ (orders g) c) := by
  obtain ⟨m1, m2, m3⟩ := ord_main hf (c + 1) c (by omega) hc hne
  have hn := ((orders_ok hf).1.at c).1
  have hmem : ∀ x : Int, x ∈ at_ (orders g) c ↔ x ∈ abOf g c := fun x => by rw [m1, (abOf_spec g c).2.2]
  by_cases h0 : c = 0
  · subst h0
    have hz := at_zero g
    refine ⟨[[]], rfl, lists_zero g, hn, hmem, ?_, ?_, by simp, by simp, ?_⟩ <;> rw [show ((0 : Nat) : Int) = 0 from rfl, hz] <;> simp [lastI]
  · obtain ⟨all, hl, hm, e⟩ := ord_cons hf (by omega) hc hne
    obtain ⟨k1, k2, k3⟩ := merge_keeps hm
    refine ⟨all, rfl, hl, hn, hmem, ?_, ?_, ?_, fun m hm => ?_, ?_⟩
    · rw [e]; rfl
    · rw [e, ← List.cons_append, lastI_snoc]
    · have := allOf_nodup hf hc
      rwa [allOf_eq hl] at this
    · rw [e]; exact ((k2 m hm).trans (List.sublist_append_left _ _)).cons _
    · rw [e]; simp
theorem Has.agrees {g : List (List Int)} {c : Nat} {all : List (List Int)} {l : List Int} (h : Has g c all l) : agB all (abOf g c) c l = true := by
  rw [agB_iff]
  exact ⟨⟨nodup_len_eq h.nodup (abOf_spec g c).1 h.mem, h.head, h.last⟩, h.nodup, fun x hx => (h.mem x).1 hx, ahead_pairs h.anod h.nodup h.keeps⟩
theorem Has.no_ring {g : List (List Int)} {c : Nat} {all : List (List Int)} {l : List Int} (h : Has g c all l) (r : List Int) : ringB all r = false := by
  cases hr : ringB all r with
  | false => rfl
  | true =>
    rw [ringB, Bool.and_eq_true, decide_eq_true_eq, List.all_eq_true] at hr
    obtain ⟨h2, hr⟩ := hr
    have he : ∀ i, i < r.length → precB all (r.getD i 0) (r.getD (nxt r i) 0) = true := fun i hi => by
      have := hr i (List.mem_range.2 hi)
      simp only [rgAt, Bool.and_eq_true] at this
      exact this.2
    have hlt : ∀ a b, precB all a b = true → placeI l a 0 < placeI l b 0 := fun a b hab => by
      obtain ⟨m, hm, hab⟩ := (prec_sub h.anod).1 hab
      have := (pair_sub h.nodup).2 (hab.trans (h.keeps m hm))
      rw [pairP, Bool.and_eq_true, decide_eq_true_eq, decide_eq_true_eq] at this
      exact this.2
    have key : ∀ k, k < r.length → placeI l (r.getD 0 0) 0 + k ≤ placeI l (r.getD k 0) 0 := by
      intro k
      induction k with
      | zero => intro _; simp
      | succ k ih =>
        intro hk
        have := ih (by omega)
        have := hlt _ _ (he k (by omega))
        rw [nxt, if_pos hk] at this
        omega
    have := key (r.length - 1) (by omega)
    have hl := hlt _ _ (he (r.length - 1) (by omega))
    rw [nxt, if_neg (by omega)] at hl
    omega
theorem sub_bare {x y : Int} {l : List Int} (h : [x, y].Sublist l) (hx : x ≠ 0) (hy : y ≠ 0) : [x, y].Sublist (bare l) := by
  have := h.filter (fun c => c != (0 : Int))
  simpa [bare, without, hx, hy] using this
/-- What stands ahead in the lists of a class: what does so in its parents, or in an order above it. -/
theorem prec_above {g : List (List Int)} (hf : fine g = true) {c : Nat} (h3 : 3 ≤ c) (hc : c < 3 + g.length) {all : List (List Int)} {l : List Int} (h : Has g c all l) {x y : Int} (hx : x ≠ 0) (hy : y ≠ 0) :
    precB all x y = true ↔ [x, y].Sublist (pOf g c) ∨ ∃ a : Nat, a < 3 + g.length ∧ a ≠ c ∧ 3 ≤ a ∧ upHas g c a = true ∧ at_ (orders g) a ≠ [] ∧ [x, y].Sublist (at_ (orders g) a) := by
  have h16 := fine_len hf
  have hall := listsOf_some h.lists
  have hhas := listsOf_has h.lists
  have hps := (fine_pOf hf (c := (c : Int)) (by omega)).2.1
  rw [prec_sub h.anod]
  constructor
  · rintro ⟨m, hm, hs⟩
    rw [hall, List.mem_append, List.mem_map, List.mem_singleton] at hm
    rcases hm with ⟨p, hp, rfl⟩ | rfl
    · have hb := hps p hp
      obtain ⟨q, rfl⟩ : ∃ q : Nat, p = (q : Int) := ⟨p.toNat, by omega⟩
      refine .inr ⟨q, by omega, by omega, by omega, ?_, hhas _ hp, hs.trans List.filter_sublist⟩
      rw [upHas_step hf hc (by omega) (by omega)]
      simp only [Bool.or_eq_true, decide_eq_true_eq, List.any_eq_true]
      exact .inr ⟨_, hp, upHas_self hf (by omega)⟩
    · exact .inl hs
  · rintro (hs | ⟨a, ha, hac, ha3, hu, _, hs⟩)
    · exact ⟨_, by rw [hall]; simp, hs⟩
    · rw [upHas_step hf hc (by omega) (by omega)] at hu
      simp only [Bool.or_eq_true, decide_eq_true_eq, List.any_eq_true] at hu
      rcases hu with (hu | hu) | ⟨p, hp, hu⟩
      · omega
      · omega
      · have hb := hps p hp
        have hpn := hhas p hp
        have hin : bare (at_ (orders g) p) ∈ all := by rw [hall]; exact List.mem_append_left _ (List.mem_map_of_mem (f := fun p => bare (at_ (orders g) p)) hp)
        obtain ⟨q, rfl⟩ : ∃ q : Nat, p = (q : Int) := ⟨p.toNat, by omega⟩
        obtain ⟨_, m2, _⟩ := ord_main hf (q + 1) q (by omega) (by omega) hpn
        exact ⟨_, hin, sub_bare (hs.trans (m2 a (by omega) hu).2) hx hy⟩
theorem swap_parts {l : List Int} {i : Nat} (h1 : 1 ≤ i) (hi : i < l.length) : l = l.take (i - 1) ++ l[i - 1] :: l[i] :: l.drop (i + 1) ∧ (l.set (i - 1) l[i]).set i l[i - 1] = l.take (i - 1) ++ l[i] :: l[i - 1] :: l.drop (i + 1) := by
  obtain ⟨i, rfl⟩ : ∃ k, i = k + 1 := ⟨i - 1, by omega⟩
  simp only [Nat.add_sub_cancel]
  have e : l = l.take i ++ l[i] :: l[i + 1] :: l.drop (i + 2) := by
    rw [← drop_cons (show i + 1 < l.length by omega), ← drop_cons (show i < l.length by omega), List.take_append_drop]
  refine ⟨e, ?_⟩
  have hl : (l.take i).length = i := by simp; omega
  generalize l[i] = x at *
  generalize l[i + 1] = y at *
  generalize l.take i = A at *
  generalize l.drop (i + 2) = B at *
  subst e
  rw [List.set_append_right _ _ (by omega), List.set_append_right _ _ (by omega), hl]
  simp
/-- Two neighbours exchanged. -/
theorem Has.swapped {g : List (List Int)} {c : Nat} {all : List (List Int)} {l : List Int} (h : Has g c all l) {i : Nat} (h1 : 1 ≤ i) (hi : i + 1 < l.length) :
    agB all (abOf g c) c ((l.set (i - 1) l[i]).set i l[i - 1]) = (!decide (i = 1) && !precB all l[i - 1] l[i]) := by
  have hlen : ((l.set (i - 1) l[i]).set i l[i - 1]).length = l.length := by simp
  have hget : ∀ k (hk : k < l.length), ((l.set (i - 1) l[i]).set i l[i - 1]).getD k 0 = if i = k then l[i - 1] else if i - 1 = k then l[i] else l[k] := fun k hk => by
    rw [getD_lt (by omega)]; simp only [List.getElem_set]
  have hhead := h.head
  rw [getD_lt (by omega)] at hhead
  obtain ⟨p1, p2⟩ := swap_parts h1 (show i < l.length by omega)
  have hag := agB_iff.1 h.agrees
  have hne : l[i - 1] ≠ l[i] := fun e => by have := (List.getElem_inj h.nodup).1 e; omega
  rw [Bool.eq_iff_iff, agB_iff, Bool.and_eq_true, Bool.not_eq_true', Bool.not_eq_true', decide_eq_false_iff_not]
  have hpw := hag.2.2.2
  have hnd := h.nodup
  have hin := hag.2.2.1
  constructor
  · rintro ⟨⟨_, q2, _⟩, _, _, q3⟩
    refine ⟨fun e => ?_, ?_⟩
    · subst e
      rw [hget 0 (by omega), if_neg (by omega), if_pos rfl] at q2
      have := (List.getElem_inj h.nodup (i := 0) (j := 1) (h₀ := by omega) (h₁ := by omega)).1 (by rw [hhead, q2])
      omega
    · rw [p2] at q3
      rw [List.pairwise_append] at q3
      obtain ⟨_, q4, _⟩ := q3
      rw [List.pairwise_cons] at q4
      exact q4.1 _ (by simp)
  · rintro ⟨hi1, hpr⟩
    refine ⟨⟨by rw [hlen]; exact hag.1.1, ?_, ?_⟩, ?_, ?_, ?_⟩
    · rw [hget 0 (by omega), if_neg (by omega), if_neg (by omega)]; exact hhead
    · have := h.last
      rw [lastI, getD_lt (by omega)] at this
      rw [lastI, hlen, hget _ (by omega), if_neg (by omega), if_neg (by omega)]; exact this
    · rw [p2]
      rw [p1] at hnd
      have hp : (l.take (i - 1) ++ l[i] :: l[i - 1] :: l.drop (i + 1)).Perm (l.take (i - 1) ++ l[i - 1] :: l[i] :: l.drop (i + 1)) := List.Perm.append_left _ (List.Perm.swap _ _ _)
      exact hp.nodup_iff.2 hnd
    · intro x hx
      rw [p2] at hx
      refine hin x ?_
      rw [p1]
      simp only [List.mem_append, List.mem_cons] at hx ⊢
      rcases hx with h | h | h | h <;> simp [h]
    · rw [p2]
      rw [p1] at hpw
      rw [List.pairwise_append] at hpw ⊢
      obtain ⟨w1, w2, w3⟩ := hpw
      rw [List.pairwise_cons, List.pairwise_cons] at w2
      obtain ⟨w4, w5, w6⟩ := w2
      refine ⟨w1, ?_, fun a ha b hb => w3 a ha b ?_⟩
      · rw [List.pairwise_cons, List.pairwise_cons]
        refine ⟨fun b hb => ?_, fun b hb => w4 b (List.mem_cons_of_mem _ hb), w6⟩
        rcases List.mem_cons.1 hb with rfl | hb
        · exact hpr
        · exact w5 b hb
      · simp only [List.mem_cons] at hb ⊢
        rcases hb with h | h | h <;> simp [h]
end Go.Proofs
/- LineAgreed. -/
namespace Go.Proofs
open Go Go.W Go.V
set_option maxHeartbeats 1000000 in
theorem s_law03_within (l inn : List Int) : V.Spec Try.prog Fc.law03_within [ints l, ints inn] [] (V.bool (withinB l inn)) [] := by
  refine V.Spec.enter Try.tabOK Try.mixed Fn.law03_within rfl rfl rfl fun B hB => ?_
  refine TC.bl 0 fun hll => TC.bl 1 fun hil => ?_
  repeat' (first
   | (with_reducible refine OL.st ?_)
   | (with_reducible refine TC.region ?_)
   | (with_reducible refine TC.seq ?_)
   | (with_reducible refine OL.nil ?_)
   | (with_reducible refine TX.thenN ?_)
   | (with_reducible refine TC.block ?_)
   | fail)
  refine TC.lp (fun k : Nat => [(0, ints l), (5, V.int (wIn l (inn.take k))), (8, ints inn), (9, V.int inn.length), (10, V.int k)]) (fun _ => []) (fun k => k ≤ inn.length) (fun k => inn.length - k) 0 [] (Nat.zero_le _) ?_
  rintro k hk
  have hle := wIn_le l (inn.take k)
  by_cases hki : k < inn.length
  · have hsn := wIn_snoc l inn hki
    generalize wIn l (inn.take k) = i at *
    repeat' (first
     | (with_reducible refine OL.st ?_)
     | (with_reducible refine TC.region ?_)
     | (with_reducible refine TC.seq ?_)
     | (with_reducible refine OL.nil ?_)
     | (with_reducible refine TX.thenN ?_)
     | (with_reducible refine TC.block ?_)
     | (with_reducible refine TC.skip ?_)
     | (with_reducible refine TX.blkN ?_)
     | (with_reducible refine TC.ifF ?_)
     | (with_reducible refine OL.gOn ?_)
     | (with_reducible refine OL.gOff ?_)
     | (with_reducible refine TC.ifD ?_ ?_ <;> (intro hc; try (exfalso; omega)))
     | (with_reducible refine OL.gD ?_ ?_ <;> (intro hc; try (exfalso; omega)))
     | fail)
    · have hc : l[i]'(by omega) = inn[k] := by assumption
      have e : ((i : Int) + 1) = ((wIn l (inn.take (k + 1)) : Nat) : Int) := by rw [hsn, wStep, if_pos ⟨by omega, by rw [getD_lt (by omega)]; exact hc⟩]; rfl
      exact TX.rd (k + 1) [] (by omega) (by omega)
    · have hc : ¬ l[i]'(by omega) = inn[k] := by assumption
      have e : (i : Int) = ((wIn l (inn.take (k + 1)) : Nat) : Int) := by rw [hsn, wStep, if_neg (fun h => hc (by rw [← getD_lt (d := 0)]; exact h.2))]
      exact TX.rd (k + 1) [] (by omega) (by omega)
    · have e : (i : Int) = ((wIn l (inn.take (k + 1)) : Nat) : Int) := by rw [hsn, wStep, if_neg (fun h => by omega)]
      exact TX.rd (k + 1) [] (by omega) (by omega)
  · rw [take_all (by omega)] at hle ⊢
    repeat' (first
     | (with_reducible refine OL.st ?_)
     | (with_reducible refine TC.region ?_)
     | (with_reducible refine TC.seq ?_)
     | (with_reducible refine OL.nil ?_)
     | (with_reducible refine TX.thenN ?_)
     | (with_reducible refine TC.exit ?_)
     | (with_reducible refine TX.hit ?_)
     | (with_reducible refine TX.thenX ?_)
     | (with_reducible refine TC.ifD ?_ ?_ <;> (intro hc; try (exfalso; omega)))
     | (with_reducible refine TC.ret ?_)
     | fail)
    refine TX.rt1 [] (.bool ?_)
    rw [withinB, decide_eq_decide]; omega
theorem oks_self {g : List (List Int)} (hf : fine g = true) {c : Nat} (hc : c < 3 + g.length) : oks g [(c : Int)] = true := by
  simp [oks, hf]; omega
theorem Has.facts {g : List (List Int)} (hf : fine g = true) {c : Nat} (hc : c < 3 + g.length) {all : List (List Int)} {l : List Int} (h : Has g c all l) : linL g c = l ∧ linE g c = 0 ∧ agE g c = 0 ∧ (∀ m, agR g c m = agB all (abOf g c) c m) ∧ (irE g c = if 3 ≤ c then 0 else 7) ∧ ∀ r, irB g c r = false := by
  have ho := oks_self hf hc
  have hok : okc g c = true := by rw [← oks_one]; exact ho
  refine ⟨by rw [linL, hok, if_pos rfl, h.eq], by rw [linE, hok, if_pos rfl, h.eq, if_neg (by have := h.pos; omega)], by rw [agE, ho, if_pos rfl, h.lists]; rfl, fun m => by rw [agR, ho, h.lists]; rfl, ?_, fun r => ?_⟩
  · rw [irE, ho, if_pos rfl, h.lists]
    by_cases h3 : 3 ≤ c
    · rw [if_pos ⟨by omega, rfl⟩, if_pos h3]
    · rw [if_neg (fun h => h3 (by omega)), if_neg h3]
  · rw [irB, ho, h.lists]; simp [h.no_ring r]
theorem none_facts {g : List (List Int)} (hf : fine g = true) {c : Nat} (hc : c < 3 + g.length) (h : at_ (orders g) c = []) : linL g c = [] ∧ linE g c = 7 ∧ (agE g c = 0 ∨ agE g c = 7) := by
  have ho := oks_self hf hc
  have hok : okc g c = true := by rw [← oks_one]; exact ho
  refine ⟨by rw [linL, hok, if_pos rfl, h], by rw [linE, hok, if_pos rfl, h]; rfl, ?_⟩
  rw [agE, ho, if_pos rfl]; split <;> simp
/-- Whether an order asks for two neighbours as they stand. -/
def askA (g : List (List Int)) (c : Nat) (p : List Int) (a : Nat) : Bool := (decide (a ≠ c) && decide (3 ≤ a)) && (upHas g c a && (decide (at_ (orders g) a ≠ []) && withinB p (at_ (orders g) a)))
def askK (g : List (List Int)) (c : Nat) (p : List Int) (b : Bool) (k : Nat) : Bool := b || (List.range k).any (askA g c p)
theorem askK_succ (g : List (List Int)) (c : Nat) (p : List Int) (b : Bool) (k : Nat) : askK g c p b (k + 1) = (askK g c p b k || askA g c p k) := by rw [askK, any_range_succ, askK, Bool.or_assoc]
theorem Has.asked {g : List (List Int)} (hf : fine g = true) {c : Nat} (h3 : 3 ≤ c) (hc : c < 3 + g.length) {all : List (List Int)} {l : List Int} (h : Has g c all l) {i : Nat} (h1 : 1 ≤ i) (hi : i + 1 < l.length) :
    agB all (abOf g c) c ((l.set (i - 1) l[i]).set i l[i - 1]) = !askK g c [l[i - 1], l[i]] (decide (i = 1) || withinB [l[i - 1], l[i]] (pOf g c)) (3 + g.length) := by
  have hlast := h.last
  rw [lastI, getD_lt (by omega)] at hlast
  have h0 : ∀ k (hk : k < l.length), k ≠ l.length - 1 → l[k] ≠ 0 := fun k hk hne e => hne ((List.getElem_inj h.nodup).1 (e.trans hlast.symm))
  have hp := prec_above hf h3 hc h (h0 (i - 1) (by omega) (by omega)) (h0 i (by omega) (by omega))
  rw [h.swapped h1 hi, askK, Bool.not_or, Bool.not_or, Bool.and_assoc]
  congr 1
  rw [← Bool.not_or]
  congr 1
  rw [Bool.eq_iff_iff, hp, Bool.or_eq_true, within_sub, List.any_eq_true]
  constructor
  · rintro (h | ⟨a, ha, hac, ha3, hu, hn, hs⟩)
    · exact .inl h
    · refine .inr ⟨a, List.mem_range.2 ha, ?_⟩
      rw [askA, decide_eq_true hac, decide_eq_true ha3, hu, decide_eq_true hn, within_sub.2 hs]; rfl
  · rintro (h | ⟨a, ha, h⟩)
    · exact .inl h
    · simp only [askA, Bool.and_eq_true, decide_eq_true_eq, within_sub] at h
      exact .inr ⟨a, List.mem_range.1 ha, h.1.1, h.1.2, h.2.1, h.2.2.1, h.2.2.2⟩
end Go.Proofs
/- LineAgreed: the walk. -/
namespace Go.Proofs
open Go Go.W Go.V
theorem agree_e (g : List (List Int)) (c : Nat) (h : agE g c = 0 ∨ agE g c = 7) (l : List Int) : ∃ b : Bool, V.Spec Try.prog Fc.line_Agrees [rows g, V.int c, ints l] [] (.tp [V.bool b, V.int 0]) [] ∨ V.Spec Try.prog Fc.line_Agrees [rows g, V.int c, ints l] [] (.tp [V.bool b, V.int 7]) [] := by
  have hs := s_line_Agrees g c l
  rcases h with h | h
  · rw [h] at hs; exact ⟨_, .inl hs⟩
  · rw [h] at hs; exact ⟨_, .inr hs⟩
set_option maxHeartbeats 4000000 in
theorem s_law03_LineAgreed (g : List (List Int)) (cl pl : Int) (ring : List Int) (kc : (Lit.int .u8 cl).wf = true) (ka : (Lit.int .u8 pl).wf = true) : V.Spec Try.prog Fc.law03_LineAgreed [rows g, .raw (.int .u8 cl), .raw (.int .u8 pl), ints ring] [] (V.bool true) [] := by
  have kc := u8_bnd kc
  have ka := u8_bnd ka
  refine V.Spec.enter Try.tabOK Try.mixed Fn.law03_LineAgreed rfl rfl rfl fun B hB => ?_
  repeat' (first
   | (with_reducible refine OL.st ?_)
   | (with_reducible refine TC.region ?_)
   | (with_reducible refine TC.seq ?_)
   | (with_reducible refine OL.nil ?_)
   | (with_reducible refine TX.thenN ?_)
   | fail)
  refine OL.c (s_law03_wide g) Fn.law03_wide ?_
  cases hw : wideR g
  · repeat' (first | (with_reducible refine OL.st ?_) | (with_reducible refine OL.gOn ?_) | fail)
    refine OL.c (s_law03_formed g) Fn.law03_formed ?_
    cases hf : fine g
    · repeat' (first
       | (with_reducible refine OL.st ?_)
       | (with_reducible refine TC.region ?_)
       | (with_reducible refine TC.seq ?_)
       | (with_reducible refine OL.nil ?_)
       | (with_reducible refine TX.thenN ?_)
       | (with_reducible refine TC.ifT ?_)
       | (with_reducible refine OL.gOn ?_)
       | (with_reducible refine OL.gOff ?_)
       | fail)
      refine OL.c s_law03_works Fn.law03_works ?_
      repeat' (first
       | (with_reducible refine OL.st ?_)
       | (with_reducible refine OL.nil ?_)
       | (with_reducible refine TX.thenN ?_)
       | (with_reducible refine TC.ret ?_)
       | (with_reducible refine TX.thenR ?_)
       | fail)
      exact TX.rt1 [] (.ren rfl)
    · have h16 := fine_len hf
      repeat' (first
       | (with_reducible refine OL.st ?_)
       | (with_reducible refine OL.lit ?_)
       | (with_reducible refine OL.gOn ?_)
       | fail)
      refine OL.vwA 0 ?_
      refine OL.c (s_law03_large [ring]) Fn.law03_large ?_
      cases hl : largeR [ring]
      · have hc0 : 0 ≤ cl % (3 + (g.length : Int)) := Int.emod_nonneg _ (by omega)
        have hc1 : cl % (3 + (g.length : Int)) < 3 + (g.length : Int) := Int.emod_lt_of_pos _ (by omega)
        repeat' (first
         | (with_reducible refine OL.st ?_)
         | (with_reducible refine TC.region ?_)
         | (with_reducible refine TC.seq ?_)
         | (with_reducible refine OL.nil ?_)
         | (with_reducible refine TX.thenN ?_)
         | (with_reducible refine TC.skip ?_)
         | (with_reducible refine TC.ifF ?_)
         | fail)
        refine OL.conv (n := cl) Try.underlying5 Try.underlying3 (by omega) (by omega) ?_
        repeat' (first
         | (with_reducible refine OL.st ?_)
         | (with_reducible refine TC.region ?_)
         | (with_reducible refine TC.seq ?_)
         | (with_reducible refine OL.nil ?_)
         | (with_reducible refine TX.thenN ?_)
         | fail)
        obtain ⟨c, hce⟩ := Int.eq_ofNat_of_zero_le hc0
        simp only [hce]
        have hcN : c < 3 + g.length := by omega
        have hlin := s_line_Lin g c
        by_cases hne : at_ (orders g) c = []
        · obtain ⟨n1, n2, n3⟩ := none_facts hf hcN hne
          rw [n1, n2] at hlin
          refine OL.c hlin Fn.line_Lin ?_
          repeat' (first
           | (with_reducible refine OL.st ?_)
           | (with_reducible refine TC.region ?_)
           | (with_reducible refine TC.seq ?_)
           | (with_reducible refine OL.nil ?_)
           | (with_reducible refine TX.thenN ?_)
           | (with_reducible refine TC.ifT ?_)
           | fail)
          obtain ⟨b, hag | hag⟩ := agree_e g c n3 []
          · refine OL.c hag Fn.line_Agrees ?_
            repeat' (first
             | (with_reducible refine OL.st ?_)
             | (with_reducible refine TC.region ?_)
             | (with_reducible refine TC.seq ?_)
             | (with_reducible refine OL.nil ?_)
             | (with_reducible refine TX.thenN ?_)
             | (with_reducible refine OL.gOn ?_)
             | (with_reducible refine OL.gOff ?_)
             | fail)
            refine OL.c s_law03_works Fn.law03_works ?_
            repeat' (first
             | (with_reducible refine OL.st ?_)
             | (with_reducible refine OL.nil ?_)
             | (with_reducible refine TX.thenN ?_)
             | (with_reducible refine TC.ret ?_)
             | (with_reducible refine TX.thenR ?_)
             | fail)
            exact TX.rt1 [] (.ren rfl)
          · refine OL.c hag Fn.line_Agrees ?_
            repeat' (first
             | (with_reducible refine OL.st ?_)
             | (with_reducible refine TC.region ?_)
             | (with_reducible refine TC.seq ?_)
             | (with_reducible refine OL.nil ?_)
             | (with_reducible refine TX.thenN ?_)
             | (with_reducible refine OL.gOn ?_)
             | fail)
            refine OL.c s_law03_works Fn.law03_works ?_
            repeat' (first
             | (with_reducible refine OL.st ?_)
             | (with_reducible refine OL.nil ?_)
             | (with_reducible refine TX.thenN ?_)
             | (with_reducible refine TC.ret ?_)
             | (with_reducible refine TX.thenR ?_)
             | fail)
            exact TX.rt1 [] (.ren rfl)
        · obtain ⟨all, H⟩ := has_of hf hcN hne
          generalize at_ (orders g) c = l at *
          obtain ⟨f1, f2, f3, f4, f5, f6⟩ := H.facts hf hcN
          rw [f1, f2] at hlin
          have ha1 := s_line_Agrees g c l
          rw [f3, f4, H.agrees] at ha1
          have hr1 := s_line_IsRing g c ring
          rw [f5, f6] at hr1
          have hlp := H.pos
          have hll : l.length ≤ 1000 := by
            have := nodup_len_eq H.nodup (abOf_spec g c).1 H.mem
            have := (abOf_spec g c).2.1
            omega
          refine OL.c hlin Fn.line_Lin ?_
          repeat' (first
           | (with_reducible refine OL.st ?_)
           | (with_reducible refine TC.region ?_)
           | (with_reducible refine TC.seq ?_)
           | (with_reducible refine OL.nil ?_)
           | (with_reducible refine TX.thenN ?_)
           | (with_reducible refine TC.skip ?_)
           | (with_reducible refine TC.ifF ?_)
           | fail)
          refine OL.c ha1 Fn.line_Agrees ?_
          repeat' (first
           | (with_reducible refine OL.st ?_)
           | (with_reducible refine TC.region ?_)
           | (with_reducible refine TC.seq ?_)
           | (with_reducible refine OL.nil ?_)
           | (with_reducible refine TX.thenN ?_)
           | (with_reducible refine TC.skip ?_)
           | (with_reducible refine OL.gOn ?_)
           | (with_reducible refine TC.ifD ?_ ?_ <;> (intro hc; try (exfalso; omega)))
           | fail)
          by_cases h3 : 3 ≤ c
          · rw [if_pos h3] at hr1
            refine OL.c hr1 Fn.line_IsRing ?_
            have hi0 : 0 ≤ pl % (l.length : Int) := Int.emod_nonneg _ (by omega)
            have hi1 : pl % (l.length : Int) < (l.length : Int) := Int.emod_lt_of_pos _ (by omega)
            repeat' (first
             | (with_reducible refine OL.st ?_)
             | (with_reducible refine TC.region ?_)
             | (with_reducible refine TC.seq ?_)
             | (with_reducible refine OL.nil ?_)
             | (with_reducible refine TX.thenN ?_)
             | (with_reducible refine TC.skip ?_)
             | (with_reducible refine TC.ifF ?_)
             | (with_reducible refine OL.gOn ?_)
             | (with_reducible refine TC.ifD ?_ ?_ <;> (intro hc; try (exfalso; omega)))
             | fail)
            refine OL.conv (n := pl) Try.underlying5 Try.underlying3 (by omega) (by omega) ?_
            obtain ⟨i, hie⟩ := Int.eq_ofNat_of_zero_le hi0
            by_cases hi : 1 ≤ i ∧ i + 1 < l.length
            · obtain ⟨hi2, hi3⟩ := hi
              repeat' (first
               | (with_reducible refine OL.st ?_)
               | (with_reducible refine TC.region ?_)
               | (with_reducible refine TC.seq ?_)
               | (with_reducible refine OL.nil ?_)
               | (with_reducible refine TX.thenN ?_)
               | (with_reducible refine TC.skip ?_)
               | (with_reducible refine OL.gOn ?_)
               | (with_reducible refine TC.ifD ?_ ?_ <;> (intro hc; try (exfalso; omega)))
               | (with_reducible refine OL.gD ?_ ?_ <;> (intro hc; try (exfalso; omega)))
               | fail)
              simp only [hie]
              refine OL.c (s_slices_Clone_Lint_int l (by omega)) Fn.slices_Clone_Lint_int ?_
              have e1 : ((i : Int) - 1).toNat = i - 1 := by omega
              have hpi : g[((c : Int) - 3).toNat]'(by omega) = pOf g c := by rw [pOf_ge (by omega), getD_lt (by omega)]
              have hsl : (l.take (i + 1)).drop (i - 1) = [l[i - 1]'(by omega), l[i]'(by omega)] := by
                rw [drop_cons (by simp; omega), drop_cons (by simp; omega), List.getElem_take, List.getElem_take, drop_nil (by simp; omega)]
                congr 2
                congr 1; omega
              have hask := H.asked hf h3 hcN hi2 hi3
              have hwi : ∀ o, V.Spec Try.prog Fc.law03_within [ints ((l.take (i + 1)).drop (i - 1)), ints o] [] (V.bool (withinB [l[i - 1]'(by omega), l[i]'(by omega)] o)) [] := fun o => by
                have := s_law03_within ((l.take (i + 1)).drop (i - 1)) o
                rwa [show withinB ((l.take (i + 1)).drop (i - 1)) o = withinB [l[i - 1]'(by omega), l[i]'(by omega)] o by rw [hsl]] at this
              obtain ⟨p, hpe⟩ : ∃ p, p = [l[i - 1]'(by omega), l[i]'(by omega)] := ⟨_, rfl⟩
              rw [← hpe] at hask
              simp only [← hpe] at hwi
              obtain ⟨wp, hwpe⟩ : ∃ wp, wp = withinB p (pOf g c) := ⟨_, rfl⟩
              have hwp := hwi (g[((c : Int) - 3).toNat]'(by omega))
              rw [show withinB p (g[((c : Int) - 3).toNat]'(by omega)) = wp by rw [hpi, hwpe]] at hwp
              obtain ⟨m, hme⟩ : ∃ m, m = (l.set (i - 1) (l[i]'(by omega))).set i (l[i - 1]'(by omega)) := ⟨_, rfl⟩
              have ha2 := s_line_Agrees g c m
              rw [f3, f4, hme, hask, ← hme] at ha2
              have hab := s_above hf (c := (c : Int)) (by omega)
              have hal := abB_length g c
              have hl1 : (l.set (((i : Int) - 1).toNat) (l[i]'(by omega))).length = l.length := by simp
              obtain ⟨b0, hb0⟩ : ∃ b0, b0 = (decide (i = 1) || withinB p (pOf g c)) := ⟨_, rfl⟩
              rw [← hb0] at ha2
              rw [← hwpe] at hb0
              obtain ⟨ak, hak⟩ : ∃ ak, ak = askK g c p b0 (3 + g.length) := ⟨_, rfl⟩
              rw [← hak] at ha2
              have hk0 : askK g c p b0 0 = b0 := by simp [askK]
              have hlin2 : ∀ a : Nat, V.Spec Try.prog Fc.line_Lin [rows g, V.int a] [] (.tp [ints (linL g a), V.int (linE g a)]) [] := fun a => s_line_Lin g a
              have hget : ∀ a : Nat, (h : a < (abB g c).length) → (abB g c)[a] = upHas g c a := fun a h => abB_get h
              clear hask hpi hsl f1 f2 f3 f4 f5 f6 hlin hr1 ha1
              repeat' (first
               | (with_reducible refine OL.st ?_)
               | (with_reducible refine TC.seq ?_)
               | (with_reducible refine OL.nil ?_)
               | (with_reducible refine TX.thenN ?_)
               | fail)
              (with_reducible refine TC.draw (id := 20) false 18 18 ?_) <;> (with_reducible refine OD.st 0 ?_) <;> (with_reducible refine OD.st 1 ?_) <;> (with_reducible refine OD.st 2 ?_) <;> (with_reducible refine OD.st 3 ?_) <;> (with_reducible refine OD.st 4 ?_) <;> (with_reducible refine OD.st 5 ?_) <;> (with_reducible refine OD.st 6 ?_) <;> (with_reducible refine OD.st 7 ?_) <;> (with_reducible refine OD.st 9 ?_) <;> (with_reducible refine OD.st 10 ?_) <;> (with_reducible refine OD.st 11 ?_) <;> (with_reducible refine OD.st 12 ?_) <;> (with_reducible refine OD.q2 8 13 ?_) <;> (with_reducible refine OD.st 14 ?_) <;> (with_reducible refine OD.a1 15 ?_; refine OL.stI (k := ((i : Int) - 1).toNat) (ab := l) (by omega) ?_; with_reducible refine OL.nil ?_; with_reducible refine TX.od ?_) <;> (with_reducible refine OD.st 16 ?_) <;> (with_reducible refine OD.a1 17 ?_; refine OL.stI (k := i) (ab := l.set (((i : Int) - 1).toNat) (l[i]'(by omega))) (by omega) ?_; with_reducible refine OL.nil ?_; with_reducible refine TX.od ?_) <;> (with_reducible refine OD.dn ?_)
              all_goals simp only [e1]
              all_goals rw [← hme]
              all_goals repeat' (first
                         | (with_reducible refine OL.st ?_)
                         | (with_reducible refine TC.region ?_)
                         | (with_reducible refine TC.seq ?_)
                         | (with_reducible refine TX.thenN ?_)
                         | fail)
              all_goals refine OL.vwA 2 ?_
              all_goals refine OL.c ha2 Fn.line_Agrees ?_
              all_goals repeat' (first
                         | (with_reducible refine OL.st ?_)
                         | (with_reducible refine TC.region ?_)
                         | (with_reducible refine TC.seq ?_)
                         | (with_reducible refine OL.nil ?_)
                         | (with_reducible refine TX.thenN ?_)
                         | (with_reducible refine TC.skip ?_)
                         | (with_reducible refine TC.ifF ?_)
                         | fail)
              all_goals by_cases hi1 : i = 1
              all_goals (with_reducible refine TC.draw (id := 24) true 17 17 ?_) <;> (with_reducible refine OD.st 0 ?_) <;> (with_reducible refine OD.st 1 ?_) <;> (with_reducible refine OD.st 2 ?_) <;> (with_reducible refine OD.sD 151 ?_ ?_ <;> (intro hc; try (exfalso; omega)) <;> (first | (with_reducible refine OD.st 3 ?_) | (with_reducible refine OD.of 3 ?_))) <;> (first | (with_reducible refine OD.st 4 ?_) | (with_reducible refine OD.of 4 ?_)) <;> (first | (with_reducible refine OD.st 5 ?_) | (with_reducible refine OD.of 5 ?_)) <;> (first | (with_reducible refine OD.st 6 ?_) | (with_reducible refine OD.of 6 ?_)) <;> (first | (with_reducible refine OD.st 7 ?_) | (with_reducible refine OD.of 7 ?_)) <;> (first | (with_reducible refine OD.st 9 ?_) | (with_reducible refine OD.of 9 ?_)) <;> (first | (with_reducible refine OD.st 10 ?_) | (with_reducible refine OD.of 10 ?_)) <;> (first | (with_reducible refine OD.st 11 ?_) | (with_reducible refine OD.of 11 ?_)) <;> (first | (with_reducible refine OD.st 12 ?_) | (with_reducible refine OD.of 12 ?_)) <;> (first | (with_reducible refine OD.st 13 ?_) | (with_reducible refine OD.of 13 ?_)) <;> (first | (with_reducible refine OD.s1 8 ?_ (h := gvs2 (i - 1) (i + 1))) | (with_reducible refine OD.of 8 ?_)) <;> (first | (with_reducible refine OD.c1 14 hwp Fn.law03_within ?_) | (with_reducible refine OD.of 14 ?_)) <;> (with_reducible refine OD.st 15 ?_) <;> (with_reducible refine OD.st 16 ?_) <;> (with_reducible refine OD.dn ?_)
              all_goals repeat' (first
                         | (with_reducible refine OL.st ?_)
                         | (with_reducible refine TC.region ?_)
                         | (with_reducible refine TC.seq ?_)
                         | (with_reducible refine OL.nil ?_)
                         | (with_reducible refine TX.thenN ?_)
                         | (with_reducible refine TC.block ?_)
                         | fail)
              all_goals (try rw [hi1, decide_eq_true rfl, Bool.true_or] at hb0)
              all_goals (try rw [decide_eq_false hi1, Bool.false_or] at hb0)
              all_goals have hk1 := hk0.trans hb0
              all_goals refine TC.lp (fun a : Nat => [(0, rows g), (9, V.int c), (10, ints l), (14, V.bool (!ak)), (18, V.int i), (20, V.bool (askK g c p b0 a)), (167, V.int (3 + (g.length : Int))), (168, V.int a)]) (fun _ => []) (fun a => a ≤ 3 + g.length) (fun a => 3 + g.length - a) 0 [] (Nat.zero_le _) ?_
              all_goals
                rintro a ha
                by_cases haN : a < 3 + g.length
                · have hks := askK_succ g c p b0 a
                  generalize askK g c p b0 a = ka1 at *
                  have hga := hget a (by omega)
                  have hla := hlin2 a
                  by_cases hac : a = c ∨ a < 3
                  · have e : ka1 = askK g c p b0 (a + 1) := by
                      rw [hks, askA]
                      rcases hac with h | h
                      · simp [h]
                      · simp [show ¬ 3 ≤ a by omega]
                    rcases Nat.lt_trichotomy a c with h | h | h
                    all_goals repeat' (first
                               | (with_reducible refine OL.st ?_)
                               | (with_reducible refine TC.region ?_)
                               | (with_reducible refine TC.seq ?_)
                               | (with_reducible refine OL.nil ?_)
                               | (with_reducible refine TX.thenN ?_)
                               | (with_reducible refine TC.block ?_)
                               | (with_reducible refine TC.skip ?_)
                               | (with_reducible refine TX.blkN ?_)
                               | (with_reducible refine TC.ifF ?_)
                               | (with_reducible refine OL.gOn ?_)
                               | (with_reducible refine OL.gOff ?_)
                               | (with_reducible refine TC.ifD ?_ ?_ <;> (intro hc; try (exfalso; omega)))
                               | (with_reducible refine OL.gD ?_ ?_ <;> (intro hc; try (exfalso; omega)))
                               | fail)
                    all_goals exact TX.rd (a + 1) [] (by omega) (by omega)
                  · repeat' (first
                     | (with_reducible refine OL.st ?_)
                     | (with_reducible refine TC.region ?_)
                     | (with_reducible refine TC.seq ?_)
                     | (with_reducible refine OL.nil ?_)
                     | (with_reducible refine TX.thenN ?_)
                     | (with_reducible refine TC.block ?_)
                     | (with_reducible refine TC.skip ?_)
                     | (with_reducible refine OL.gOn ?_)
                     | (with_reducible refine TC.ifD ?_ ?_ <;> (intro hc; try (exfalso; omega)))
                     | (with_reducible refine OL.gD ?_ ?_ <;> (intro hc; try (exfalso; omega)))
                     | fail)
                    refine OL.c hab Fn.law03_above ?_
                    repeat' (first
                     | (with_reducible refine OL.st ?_)
                     | (with_reducible refine OL.nil ?_)
                     | (with_reducible refine TX.thenN ?_)
                     | (with_reducible refine OL.gOn ?_)
                     | fail)
                    rw [hga]
                    cases hu : upHas g c a
                    · have e : ka1 = askK g c p b0 (a + 1) := by rw [hks, askA, hu]; simp
                      repeat' (first
                       | (with_reducible refine OL.st ?_)
                       | (with_reducible refine TC.region ?_)
                       | (with_reducible refine OL.nil ?_)
                       | (with_reducible refine TX.thenN ?_)
                       | (with_reducible refine TC.skip ?_)
                       | (with_reducible refine TX.blkN ?_)
                       | (with_reducible refine TC.ifF ?_)
                       | fail)
                      exact TX.rd (a + 1) [] (by omega) (by omega)
                    · have hska : askA g c p a = (decide (at_ (orders g) a ≠ []) && withinB p (at_ (orders g) a)) := by
                        rw [askA, hu, decide_eq_true (show a ≠ c by omega), decide_eq_true (show 3 ≤ a by omega)]; rfl
                      have hok : okc g (a : Int) = true := by rw [← oks_one]; exact oks_self hf haN
                      rw [linL, linE, hok, if_pos rfl, if_pos rfl] at hla
                      rw [hska] at hks
                      generalize at_ (orders g) (a : Int) = o at *
                      have hwo := hwi o
                      repeat' (first
                       | (with_reducible refine OL.st ?_)
                       | (with_reducible refine TC.region ?_)
                       | (with_reducible refine TC.seq ?_)
                       | (with_reducible refine TC.ifT ?_)
                       | fail)
                      refine OL.c hla Fn.line_Lin ?_
                      cases hka : ka1
                      · by_cases ho : o.length = 0
                        · have e : false = askK g c p b0 (a + 1) := by rw [hks, hka, List.eq_nil_of_length_eq_zero ho]; simp
                          rw [if_pos ho]
                          repeat' (first
                           | (with_reducible refine OL.st ?_)
                           | (with_reducible refine TC.region ?_)
                           | (with_reducible refine OL.nil ?_)
                           | (with_reducible refine TX.thenN ?_)
                           | (with_reducible refine TX.blkN ?_)
                           | (with_reducible refine OL.gOn ?_)
                           | (with_reducible refine OL.gOff ?_)
                           | fail)
                          exact TX.rd (a + 1) [] (by omega) (by omega)
                        · have e : withinB p o = askK g c p b0 (a + 1) := by
                            have hn : o ≠ [] := fun h => ho (by rw [h]; rfl)
                            rw [hks, hka]; simp [hn]
                          rw [if_neg ho]
                          repeat' (first
                           | (with_reducible refine OL.st ?_)
                           | (with_reducible refine TC.region ?_)
                           | (with_reducible refine OL.nil ?_)
                           | (with_reducible refine TX.thenN ?_)
                           | (with_reducible refine OL.gOn ?_)
                           | fail)
                          refine OL.sl2 (i - 1) (i + 1) ?_
                          repeat' (first | (with_reducible refine OL.st ?_) | (with_reducible refine OL.gOn ?_) | fail)
                          refine OL.c hwo Fn.law03_within ?_
                          repeat' (first
                           | (with_reducible refine OL.st ?_)
                           | (with_reducible refine TC.region ?_)
                           | (with_reducible refine OL.nil ?_)
                           | (with_reducible refine TX.thenN ?_)
                           | (with_reducible refine TX.blkN ?_)
                           | (with_reducible refine OL.gOn ?_)
                           | fail)
                          exact TX.rd (a + 1) [] (by omega) (by omega)
                      · have e : true = askK g c p b0 (a + 1) := by rw [hks, hka]; simp
                        repeat' (first
                         | (with_reducible refine OL.st ?_)
                         | (with_reducible refine TC.region ?_)
                         | (with_reducible refine OL.nil ?_)
                         | (with_reducible refine TX.thenN ?_)
                         | (with_reducible refine TX.blkN ?_)
                         | (with_reducible refine OL.gOff ?_)
                         | (with_reducible refine OL.gUn ?_)
                         | fail)
                        exact TX.rd (a + 1) [] (by omega) (by omega)
                · obtain rfl : a = 3 + g.length := by omega
                  rw [← hak]
                  repeat' (first
                   | (with_reducible refine OL.st ?_)
                   | (with_reducible refine TC.region ?_)
                   | (with_reducible refine TC.seq ?_)
                   | (with_reducible refine OL.nil ?_)
                   | (with_reducible refine TX.thenN ?_)
                   | (with_reducible refine TC.exit ?_)
                   | (with_reducible refine TX.hit ?_)
                   | (with_reducible refine TX.thenX ?_)
                   | (with_reducible refine TC.ifD ?_ ?_ <;> (intro hc; try (exfalso; omega)))
                   | fail)
                  refine OL.eqBl Try.underlying4 ?_
                  rw [beq_self_eq_true]
                  repeat' (first | (with_reducible refine OL.st ?_) | (with_reducible refine OL.gOn ?_) | fail)
                  refine OL.c s_law03_works Fn.law03_works ?_
                  repeat' (first
                   | (with_reducible refine OL.st ?_)
                   | (with_reducible refine OL.nil ?_)
                   | (with_reducible refine TX.thenN ?_)
                   | (with_reducible refine TC.ret ?_)
                   | fail)
                  exact TX.rt1 [] (.ren rfl)
            · repeat' (first
               | (with_reducible refine OL.st ?_)
               | (with_reducible refine TC.region ?_)
               | (with_reducible refine TC.seq ?_)
               | (with_reducible refine OL.nil ?_)
               | (with_reducible refine TX.thenN ?_)
               | (with_reducible refine TC.ifT ?_)
               | (with_reducible refine OL.gOn ?_)
               | (with_reducible refine OL.gOff ?_)
               | (with_reducible refine TC.ifD ?_ ?_ <;> (intro hc; try (exfalso; omega)))
               | (with_reducible refine OL.gD ?_ ?_ <;> (intro hc; try (exfalso; omega)))
               | fail)
              all_goals refine OL.c s_law03_works Fn.law03_works ?_
              all_goals repeat' (first
                         | (with_reducible refine OL.st ?_)
                         | (with_reducible refine OL.nil ?_)
                         | (with_reducible refine TX.thenN ?_)
                         | (with_reducible refine TC.ret ?_)
                         | (with_reducible refine TX.thenR ?_)
                         | fail)
              all_goals exact TX.rt1 [] (.ren rfl)
          · rw [if_neg h3] at hr1
            refine OL.c hr1 Fn.line_IsRing ?_
            repeat' (first
             | (with_reducible refine OL.st ?_)
             | (with_reducible refine TC.region ?_)
             | (with_reducible refine TC.seq ?_)
             | (with_reducible refine OL.nil ?_)
             | (with_reducible refine TX.thenN ?_)
             | (with_reducible refine OL.gOn ?_)
             | (with_reducible refine TC.ifD ?_ ?_ <;> (intro hc; try (exfalso; omega)))
             | fail)
            refine OL.c s_law03_works Fn.law03_works ?_
            repeat' (first
             | (with_reducible refine OL.st ?_)
             | (with_reducible refine OL.nil ?_)
             | (with_reducible refine TX.thenN ?_)
             | (with_reducible refine TC.ret ?_)
             | (with_reducible refine TX.thenR ?_)
             | fail)
            exact TX.rt1 [] (.ren rfl)
      · repeat' (first
         | (with_reducible refine OL.st ?_)
         | (with_reducible refine TC.region ?_)
         | (with_reducible refine TC.seq ?_)
         | (with_reducible refine OL.nil ?_)
         | (with_reducible refine TX.thenN ?_)
         | (with_reducible refine TC.ifT ?_)
         | fail)
        refine OL.c s_law03_works Fn.law03_works ?_
        repeat' (first
         | (with_reducible refine OL.st ?_)
         | (with_reducible refine OL.nil ?_)
         | (with_reducible refine TX.thenN ?_)
         | (with_reducible refine TC.ret ?_)
         | (with_reducible refine TX.thenR ?_)
         | fail)
        exact TX.rt1 [] (.ren rfl)
  · repeat' (first
     | (with_reducible refine OL.st ?_)
     | (with_reducible refine TC.region ?_)
     | (with_reducible refine TC.seq ?_)
     | (with_reducible refine OL.nil ?_)
     | (with_reducible refine TX.thenN ?_)
     | (with_reducible refine TC.ifT ?_)
     | (with_reducible refine OL.gOff ?_)
     | fail)
    refine OL.c s_law03_works Fn.law03_works ?_
    repeat' (first
     | (with_reducible refine OL.st ?_)
     | (with_reducible refine OL.nil ?_)
     | (with_reducible refine TX.thenN ?_)
     | (with_reducible refine TC.ret ?_)
     | (with_reducible refine TX.thenR ?_)
     | fail)
    exact TX.rt1 [] (.ren rfl)
end Go.Proofs
