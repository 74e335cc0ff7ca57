/- Part 2 of what the claim is proved by: lemmas on the model and walks through functions of the program; no conditions. -/
import Derived.Test.YthoblhbdeamjmaaA1
import Derived.Test.YthoblhbdeamjmaaD1
import Derived.Test.YthoblhbdeamjmaaC1
import Derived.Test.YthoblhbdeamjmaaQ1
/- Plain laws on linear orders: what is kept, and why there is none. -/
namespace Go.Proofs
open Go Go.W Go.V
/-! ### One class ahead of another one -/
theorem aftP_sub : ∀ (l : List Int) (a b : Int), aftP l a b = true ↔ [a, b].Sublist l
  | [], a, b => by simp [aftP]
  | x :: r, a, b => by
    rw [aftP, Bool.or_eq_true, Bool.and_eq_true, beq_iff_eq, List.contains_iff_mem, aftP_sub r a b]
    constructor
    · rintro (⟨rfl, h⟩ | h)
      · exact List.Sublist.cons_cons _ (List.singleton_sublist.2 h)
      · exact h.cons _
    · intro h
      cases h with
      | cons _ h => exact .inr h
      | cons_cons _ h => exact .inl ⟨rfl, List.singleton_sublist.1 h⟩
theorem pair_sub {l : List Int} (hn : l.Nodup) {a b : Int} : pairP l a b 0 = true ↔ [a, b].Sublist l := by rw [← aftP_pair l a b 0 hn (by omega), aftP_sub]
theorem prec_sub {all : List (List Int)} (hn : ∀ l ∈ all, l.Nodup) {a b : Int} : precB all a b = true ↔ ∃ l ∈ all, [a, b].Sublist l := by
  rw [precB, List.any_eq_true]
  constructor
  · rintro ⟨l, hl, h⟩; exact ⟨l, hl, (pair_sub (hn l hl)).1 h⟩
  · rintro ⟨l, hl, h⟩; exact ⟨l, hl, (pair_sub (hn l hl)).2 h⟩
theorem pair_ne {l : List Int} (hn : l.Nodup) {a b : Int} (h : [a, b].Sublist l) : a ≠ b := by
  have := h.nodup hn
  intro e; subst e; simp at this
/-! ### Merges -/
theorem without_not {l : List Int} {n : Int} (h : n ∉ l) : without l n = l := by
  rw [without, List.filter_eq_self]
  intro x hx; rw [bne_iff_ne]; intro e; subst e; exact h hx
theorem anyNE_false {all : List (List Int)} : anyNE all = false ↔ ∀ m ∈ all, m = [] := by
  rw [anyNE, List.any_eq_false]
  constructor
  · intro h m hm; have := h m hm; simpa using this
  · intro h m hm; rw [h m hm]; simp
theorem free_cons {all : List (List Int)} {h : Int} (hf : free all h = true) {m : List Int} (hm : m ∈ all) (hh : h ∈ m) : ∃ t, m = h :: t ∧ h ∉ t := by
  rw [free, List.all_eq_true] at hf
  have := hf m hm
  match m, hh with
  | x :: t, hh =>
    have h1 : h ∉ t := by simpa using this
    have : h = x := by rcases List.mem_cons.1 hh with e | e; exact e; exact absurd e h1
    subst this
    exact ⟨t, rfl, h1⟩
theorem mergeF_sub : ∀ (n : Nat) (all : List (List Int)) (out : List Int), total all ≤ n → (mergeF n all out).2 = true → ∃ e, (mergeF n all out).1 = out ++ e ∧ e.Nodup ∧ (∀ m ∈ all, m.Sublist e) ∧ ∀ x ∈ e, ∃ m ∈ all, x ∈ m
  | 0, all, out, hn, h => by
    rw [mergeF] at h ⊢
    have h0 : anyNE all = false := by simpa using h
    exact ⟨[], by simp, by simp, fun m hm => by rw [anyNE_false.1 h0 m hm]; exact List.Sublist.refl _, by simp⟩
  | n + 1, all, out, hn, h => by
    rw [mergeF] at h ⊢
    cases hx : nextOf all all with
    | none =>
      rw [hx] at h
      have h0 : anyNE all = false := by simpa using h
      exact ⟨[], by simp, by simp, fun m hm => by rw [anyNE_false.1 h0 m hm]; exact List.Sublist.refl _, by simp⟩
    | some x =>
      rw [hx] at h
      obtain ⟨t, ht, hf⟩ := nextOf_mem all all x hx
      have hlt := total_without_lt all x t ht
      dsimp only at h ⊢
      obtain ⟨e, e1, e2, e3, e4⟩ := mergeF_sub n _ _ (by omega) h
      have hxe : x ∉ e := fun hx => by
        obtain ⟨m, hm, hxm⟩ := e4 x hx
        obtain ⟨l, _, rfl⟩ := List.mem_map.1 hm
        exact (mem_without.1 hxm).2 rfl
      refine ⟨x :: e, by rw [e1]; simp, List.nodup_cons.2 ⟨hxe, e2⟩, fun m hm => ?_, fun y hy => ?_⟩
      · have hs := e3 _ (List.mem_map_of_mem (f := (without · x)) hm)
        by_cases hxm : x ∈ m
        · obtain ⟨r, rfl, hr⟩ := free_cons hf hm hxm
          have : without (x :: r) x = r := by
            rw [show without (x :: r) x = without r x by simp [without]]; exact without_not hr
          rw [this] at hs
          exact hs.cons_cons _
        · rw [without_not hxm] at hs
          exact hs.cons _
      · rcases List.mem_cons.1 hy with rfl | hy
        · exact ⟨_, ht, by simp⟩
        · obtain ⟨m, hm, hxm⟩ := e4 y hy
          obtain ⟨l, hl, rfl⟩ := List.mem_map.1 hm
          exact ⟨l, hl, (mem_without.1 hxm).1⟩
theorem merge_keeps {all : List (List Int)} (h : (merge all).2 = true) : (merge all).1.Nodup ∧ (∀ m ∈ all, m.Sublist (merge all).1) ∧ ∀ x, x ∈ (merge all).1 ↔ ∃ m ∈ all, x ∈ m := by
  obtain ⟨e, e1, e2, e3, e4⟩ := mergeF_sub (total all) all [] (Nat.le_refl _) h
  rw [List.nil_append] at e1
  rw [merge, e1]
  exact ⟨e2, e3, fun x => ⟨e4 x, fun ⟨m, hm, hx⟩ => (e3 m hm).subset hx⟩⟩
theorem mergeF_stuck : ∀ (n : Nat) (all : List (List Int)) (out : List Int), total all ≤ n → (mergeF n all out).2 = false → ∃ rest : List (List Int), anyNE rest = true ∧ nextOf rest rest = none ∧ ∀ m' ∈ rest, ∃ m ∈ all, m'.Sublist m
  | 0, all, out, hn, h => by
    rw [mergeF] at h
    have h0 : anyNE all = true := by simpa using h
    exact ⟨all, h0, nextOf_none_of_empty all all (by omega), fun m hm => ⟨m, hm, List.Sublist.refl _⟩⟩
  | n + 1, all, out, hn, h => by
    rw [mergeF] at h
    cases hx : nextOf all all with
    | none =>
      rw [hx] at h
      have h0 : anyNE all = true := by simpa using h
      exact ⟨all, h0, hx, fun m hm => ⟨m, hm, List.Sublist.refl _⟩⟩
    | some x =>
      rw [hx] at h
      obtain ⟨t, ht, hf⟩ := nextOf_mem all all x hx
      have hlt := total_without_lt all x t ht
      dsimp only at h
      obtain ⟨r, r1, r2, r3⟩ := mergeF_stuck n _ _ (by omega) h
      refine ⟨r, r1, r2, fun m' hm' => ?_⟩
      obtain ⟨m, hm, hs⟩ := r3 m' hm'
      obtain ⟨l, hl, rfl⟩ := List.mem_map.1 hm
      exact ⟨l, hl, hs.trans List.filter_sublist⟩
theorem nextOf_none {all : List (List Int)} : ∀ r : List (List Int), nextOf all r = none → ∀ h t, (h :: t) ∈ r → free all h = false
  | [], _, h, t, hm => by simp at hm
  | [] :: r, hn, h, t, hm => by
    rw [nextOf_nil] at hn
    exact nextOf_none r hn h t (by simpa using hm)
  | (x :: s) :: r, hn, h, t, hm => by
    cases hf : free all x with
    | true => rw [nextOf_t hf] at hn; cases hn
    | false =>
      rw [nextOf_f hf] at hn
      rcases List.mem_cons.1 hm with e | hm
      · cases e; exact hf
      · exact nextOf_none r hn h t hm
theorem Chain.cons {rel} {b : List Int} {c : Int} (h : Chain rel b) (hc : c ∉ b) (h0 : 0 < b.length) (hr : rel c (b[0]'h0) = true) : Chain rel (c :: b) := by
  refine ⟨List.nodup_cons.2 ⟨hc, h.1⟩, fun i hi => ?_⟩
  cases i with
  | zero => exact hr
  | succ i => exact h.2 i (by simpa using hi)
theorem Chain.take {rel} {b : List Int} (h : Chain rel b) (k : Nat) : Chain rel (b.take k) := by
  refine ⟨(List.take_sublist k b).nodup h.1, fun i hi => ?_⟩
  simp only [List.getElem_take]
  exact h.2 i (by simp at hi; omega)
/-- Where each of some classes is preceded by another one of them, there is a ring. -/
theorem ring_of_pred {rel : Int → Int → Bool} {N : Nat} {H : Int → Prop} (hr : ∀ x, H x → 3 ≤ x ∧ x < (N : Int)) (hp : ∀ x, H x → ∃ y, H y ∧ y ≠ x ∧ rel y x = true) {x0 : Int} (h0 : H x0) : ∃ r, Ring rel N r ∧ 2 ≤ r.length := by
  refine Classical.byContradiction fun hno => ?_
  have key : ∀ n : Nat, ∃ l, Chain rel l ∧ l.length = n + 1 ∧ ∀ x ∈ l, H x := by
    intro n
    induction n with
    | zero => exact ⟨[x0], ⟨by simp, fun i hi => by simp at hi⟩, rfl, by simpa using h0⟩
    | succ n ih =>
      obtain ⟨l, h1, h2, h3⟩ := ih
      have hl : 0 < l.length := by omega
      obtain ⟨y, y1, y2, y3⟩ := hp l[0] (h3 _ (List.getElem_mem _))
      by_cases hy : y ∈ l
      · obtain ⟨k, hk, rfl⟩ := List.mem_iff_getElem.1 hy
        have hk0 : k ≠ 0 := fun e => by subst e; exact y2 rfl
        have hlen : (l.take (k + 1)).length = k + 1 := by simp; omega
        refine absurd ⟨l.take (k + 1), ⟨h1.take _, ?_, fun x hx => hr x (h3 x (List.mem_of_mem_take hx))⟩, by omega⟩ hno
        rw [lastI_get (by omega), getD_lt (by omega), List.getElem_take, List.getElem_take]
        have : (l.take (k + 1)).length - 1 = k := by omega
        simp only [this]
        exact y3
      · exact ⟨y :: l, h1.cons hy hl y3, by simp [h2], fun x hx => by rcases List.mem_cons.1 hx with rfl | hx; exact y1; exact h3 x hx⟩
  obtain ⟨l, h1, h2, h3⟩ := key N
  have := nodup_length N l h1.1 (fun x hx => by have := hr x (h3 x hx); omega)
  omega
/-- Where there is no merge there is a ring. -/
theorem stuck_ring {all : List (List Int)} {N : Nat} (hn : ∀ l ∈ all, l.Nodup) (hr : ∀ l ∈ all, ∀ x ∈ l, 3 ≤ x ∧ x < (N : Int)) (h : (merge all).2 = false) : ∃ r, Ring (precB all) N r ∧ 2 ≤ r.length := by
  obtain ⟨rest, r1, r2, r3⟩ := mergeF_stuck (total all) all [] (Nat.le_refl _) h
  have hin : ∀ x t, (x :: t) ∈ rest → 3 ≤ x ∧ x < (N : Int) := fun x t hx => by
    obtain ⟨m, hm, hs⟩ := r3 _ hx
    exact hr m hm x (hs.subset (by simp))
  obtain ⟨l, hl, hne⟩ : ∃ l ∈ rest, l ≠ [] := by
    rw [anyNE, List.any_eq_true] at r1
    obtain ⟨l, hl, h⟩ := r1
    exact ⟨l, hl, by simpa using h⟩
  obtain ⟨x0, t0, rfl⟩ := List.exists_cons_of_ne_nil hne
  refine ring_of_pred (H := fun x => ∃ t, (x :: t) ∈ rest) (x0 := x0) (fun x ⟨t, hx⟩ => hin x t hx) (fun x ⟨t, hx⟩ => ?_) ⟨t0, hl⟩
  have hf := nextOf_none rest r2 x t hx
  simp only [free, List.all_eq_false, Bool.not_eq_true', Bool.not_eq_false, List.contains_iff_mem] at hf
  obtain ⟨m, hm, hxm⟩ := hf
  obtain ⟨m0, hm0, hs⟩ := r3 m hm
  match m, hxm with
  | y :: s, hxm =>
    have hxs : x ∈ s := by simpa using hxm
    have hsub : [y, x].Sublist (y :: s) := (List.singleton_sublist.2 hxs).cons_cons _
    have hsub := hsub.trans hs
    exact ⟨y, ⟨s, hm⟩, pair_ne (hn m0 hm0) hsub, (prec_sub hn).2 ⟨m0, hm0, hsub⟩⟩
/-- Where all lists stand in one list there is no ring. -/
theorem no_ring {all : List (List Int)} {N : Nat} {e : List Int} (hn : ∀ l ∈ all, l.Nodup) (he : e.Nodup) (hs : ∀ m ∈ all, m.Sublist e) {r : List Int} (h : Ring (precB all) N r) (h2 : 2 ≤ r.length) : False := by
  have hlt : ∀ a b, precB all a b = true → placeI e a 0 < placeI e b 0 := fun a b hab => by
    obtain ⟨l, hl, hab⟩ := (prec_sub hn).1 hab
    have := (pair_sub he).2 (hab.trans (hs l hl))
    rw [pairP, Bool.and_eq_true, decide_eq_true_eq, decide_eq_true_eq] at this
    exact this.2
  obtain ⟨⟨h1, hc⟩, hl, _⟩ := h
  have key : ∀ k (hk : k < r.length), placeI e (r[0]'(by omega)) 0 + k ≤ placeI e r[k] 0 := by
    intro k
    induction k with
    | zero => intro hk; simp
    | succ k ih =>
      intro hk
      have := ih (by omega)
      have := hlt _ _ (hc k hk)
      omega
  have := key (r.length - 1) (by omega)
  have hl := hlt _ _ hl
  rw [lastI_get (by omega), getD_lt (by omega)] at hl
  omega
/-! ### Linear orders -/
theorem ordersF_app : ∀ (a b acc : List (List Int)), ordersF acc (a ++ b) = ordersF (ordersF acc a) b
  | [], b, acc => rfl
  | p :: a, b, acc => by rw [List.cons_append, ordersF_cons, ordersF_cons, ordersF_app a b]
theorem ordersF_pre : ∀ (r acc : List (List Int)), ∃ t, ordersF acc r = acc ++ t ∧ t.length = r.length
  | [], acc => ⟨[], by simp [ordersF], rfl⟩
  | p :: r, acc => by
    obtain ⟨t, h1, h2⟩ := ordersF_pre r (acc ++ [orderOf acc p acc.length])
    exact ⟨orderOf acc p acc.length :: t, by rw [ordersF_cons, h1]; simp, by simp [h2]⟩
theorem at_app {acc t : List (List Int)} {p : Int} (h : p.toNat < acc.length) : at_ (acc ++ t) p = at_ acc p := by
  rw [at_, at_, List.getD_eq_getElem?_getD, List.getD_eq_getElem?_getD, List.getElem?_append_left h]
theorem listsOf_congr {a b : List (List Int)} {ps : List Int} (h : ∀ p ∈ ps, at_ a p = at_ b p) : listsOf a ps = listsOf b ps := by
  have h1 : (ps.all fun p => !(at_ a p).isEmpty) = ps.all fun p => !(at_ b p).isEmpty := by
    rw [Bool.eq_iff_iff, List.all_eq_true, List.all_eq_true]
    exact ⟨fun q p hp => by rw [← h p hp]; exact q p hp, fun q p hp => by rw [h p hp]; exact q p hp⟩
  have h2 : ps.map (fun p => bare (at_ a p)) = ps.map fun p => bare (at_ b p) := List.map_congr_left fun p hp => by rw [h p hp]
  rw [listsOf, listsOf, h1, h2]
theorem at_orders {g : List (List Int)} (hf : fine g = true) {c : Nat} (h1 : 1 ≤ c) (hc : c < 3 + g.length) : at_ (orders g) c = orderOf (orders g) (pOf g c) c := by
  have hd := parentsOf_drop hc
  have hpl := parentsOf_length g
  have hsp : (parentsOf g).drop 1 = ((parentsOf g).drop 1).take (c - 1) ++ (pOf g c :: (parentsOf g).drop (c + 1)) := by
    rw [← hd]
    have := (List.take_append_drop (c - 1) ((parentsOf g).drop 1)).symm
    rw [List.drop_drop, show 1 + (c - 1) = c by omega] at this
    exact this
  obtain ⟨t, e, hlen⟩ := ordersF_pre (((parentsOf g).drop 1).take (c - 1)) [[0]]
  have hl : (ordersF [[0]] (((parentsOf g).drop 1).take (c - 1))).length = c := by
    rw [e]; simp [hlen]; omega
  generalize hA : ordersF [[0]] (((parentsOf g).drop 1).take (c - 1)) = A at *
  have ho : orders g = ordersF (A ++ [orderOf A (pOf g c) c]) ((parentsOf g).drop (c + 1)) := by
    rw [orders_start, hsp, ordersF_app]
    rw [hA, ordersF_cons, hl]
  obtain ⟨u, e2, _⟩ := ordersF_pre ((parentsOf g).drop (c + 1)) (A ++ [orderOf A (pOf g c) c])
  rw [e2] at ho
  have hp := (fine_pOf hf (c := (c : Int)) (by omega)).2.1
  have hcg : listsOf A (pOf g c) = listsOf (orders g) (pOf g c) := listsOf_congr fun p hpm => by
    have := hp p hpm
    rw [ho, List.append_assoc, at_app (by omega)]
  have hoo : orderOf (orders g) (pOf g c) c = orderOf A (pOf g c) c := by rw [orderOf, orderOf, hcg]
  rw [hoo, ho, at_app (by simp; omega), at_, Int.toNat_natCast, List.getD_eq_getElem?_getD, ← hl]
  simp
end Go.Proofs
/- Plain laws on linear orders: what stands in them, in which order; and 'within'. -/
namespace Go.Proofs
open Go Go.W Go.V
theorem at_zero (g : List (List Int)) : at_ (orders g) 0 = [0] := by
  obtain ⟨t, e, _⟩ := ordersF_pre ((parentsOf g).drop 1) [[0]]
  rw [orders_start, e]; rfl
theorem ord_cons {g : List (List Int)} (hf : fine g = true) {c : Nat} (h1 : 1 ≤ c) (hc : c < 3 + g.length) (hne : at_ (orders g) c ≠ []) : ∃ all, listsOf (orders g) (pOf g c) = some all ∧ (merge all).2 = true ∧ at_ (orders g) c = (c : Int) :: ((merge all).1 ++ [0]) := by
  rw [at_orders hf h1 hc, orderOf] at hne
  rw [at_orders hf h1 hc, orderOf]
  cases hl : listsOf (orders g) (pOf g c) with
  | none => rw [hl] at hne; exact absurd rfl hne
  | some all =>
    rw [hl] at hne
    dsimp only at hne ⊢
    cases hm : (merge all).2 with
    | false => rw [hm] at hne; simp at hne
    | true => exact ⟨all, rfl, hm, by simp⟩
theorem listsOf_has {ords : List (List Int)} {ps : List Int} {all : List (List Int)} (h : listsOf ords ps = some all) : ∀ p ∈ ps, at_ ords p ≠ [] := by
  rw [listsOf] at h
  split at h
  · rename_i h1
    intro p hp
    have := List.all_eq_true.1 h1 p hp
    simpa using this
  · cases h
theorem listsOf_of {ords : List (List Int)} {ps : List Int} (h : ∀ p ∈ ps, at_ ords p ≠ []) : listsOf ords ps = some (ps.map (fun p => bare (at_ ords p)) ++ [ps]) := by
  rw [listsOf, if_pos]
  rw [List.all_eq_true]
  intro p hp
  have := h p hp
  simpa using this
/-- A linear order is its class, what stands between, and any. -/
theorem ord_bare {g : List (List Int)} (hf : fine g = true) {c : Nat} (h1 : 1 ≤ c) (hc : c < 3 + g.length) (hne : at_ (orders g) c ≠ []) : at_ (orders g) c = bare (at_ (orders g) c) ++ [0] := by
  obtain ⟨all, _, _, e⟩ := ord_cons hf h1 hc hne
  have hn := ((orders_ok hf).1.at c).1
  rw [e] at hn ⊢
  rw [← List.cons_append] at hn ⊢
  have h0 : (0 : Int) ∉ (c : Int) :: (merge all).1 := fun h => by
    rw [List.nodup_append] at hn
    exact hn.2.2 0 h 0 (by simp) rfl
  rw [bare, show without ((c : Int) :: (merge all).1 ++ [0]) 0 = (c : Int) :: (merge all).1 by
    have := without_not h0
    rw [without] at this ⊢
    rw [List.filter_append, this]; simp]
theorem ord_main {g : List (List Int)} (hf : fine g = true) : ∀ (n c : Nat), c < n → c < 3 + g.length → at_ (orders g) c ≠ [] →
    (∀ x : Int, x ∈ at_ (orders g) c ↔ (0 ≤ x ∧ x < 3 + (g.length : Int)) ∧ upHas g c x = true) ∧
    (∀ a : Int, (0 ≤ a ∧ a < 3 + (g.length : Int)) → upHas g c a = true → at_ (orders g) a ≠ [] ∧ (at_ (orders g) a).Sublist (at_ (orders g) c)) ∧ (pOf g c).Sublist (at_ (orders g) c) := by
  have h16 := fine_len hf
  intro n
  induction n with
  | zero => intro c h; omega
  | succ n ih =>
    intro c hcn hc hne
    by_cases h0 : c = 0
    · subst h0
      have hz := at_zero g
      have hle : ∀ x : Int, (0 ≤ x ∧ x < 3 + (g.length : Int)) → upHas g (0 : Nat) x = true → x = 0 := fun x hx h => by
        have := upHas_le hf hc (b := x) (by omega) (by omega) h; omega
      refine ⟨fun x => ?_, fun a ha h => ?_, ?_⟩
      · rw [show ((0 : Nat) : Int) = 0 from rfl, hz, List.mem_singleton]
        constructor
        · rintro rfl; exact ⟨by omega, upHas_zero hf (a := 0) (by omega)⟩
        · rintro ⟨h1, h2⟩; exact hle x h1 h2
      · rw [hle a ha h]
        rw [show ((0 : Nat) : Int) = 0 from rfl] at hne ⊢
        exact ⟨hne, List.Sublist.refl _⟩
      · rw [pOf_lt (by omega)]; exact List.nil_sublist _
    · have h1 : 1 ≤ c := by omega
      obtain ⟨all, hl, hm, e⟩ := ord_cons hf h1 hc hne
      have hps := fine_pOf hf (c := (c : Int)) (by omega)
      obtain ⟨k1, k2, k3⟩ := merge_keeps hm
      have hall := listsOf_some hl
      have hhas := listsOf_has hl
      have hpar : ∀ p ∈ pOf g c, (∀ x : Int, x ∈ at_ (orders g) p ↔ (0 ≤ x ∧ x < 3 + (g.length : Int)) ∧ upHas g p x = true) ∧
          (∀ a : Int, (0 ≤ a ∧ a < 3 + (g.length : Int)) → upHas g p a = true → at_ (orders g) a ≠ [] ∧ (at_ (orders g) a).Sublist (at_ (orders g) p)) ∧ at_ (orders g) p = bare (at_ (orders g) p) ++ [0] := fun p hp => by
        have hb := hps.2.1 p hp
        obtain ⟨q, rfl⟩ : ∃ q : Nat, p = (q : Int) := ⟨p.toNat, by omega⟩
        obtain ⟨a1, a2, _⟩ := ih q (by omega) (by omega) (hhas _ hp)
        exact ⟨a1, a2, ord_bare hf (by omega) (by omega) (hhas _ hp)⟩
      have hsubp : ∀ p ∈ pOf g c, (at_ (orders g) p).Sublist (at_ (orders g) c) := fun p hp => by
        have := k2 (bare (at_ (orders g) p)) (by rw [hall]; exact List.mem_append_left _ (List.mem_map_of_mem (f := fun p => bare (at_ (orders g) p)) hp))
        rw [(hpar p hp).2.2, e]
        exact (this.append_right [0]).cons _
      refine ⟨fun x => ?_, fun a ha h => ?_, ?_⟩
      · rw [e, List.mem_cons, List.mem_append, List.mem_singleton, k3]
        constructor
        · intro h
          have hx : x = (c : Int) ∨ x = 0 ∨ ∃ p ∈ pOf g c, (0 ≤ x ∧ x < 3 + (g.length : Int)) ∧ upHas g p x = true := by
            rcases h with h | ⟨m, hm, hx⟩ | h
            · exact .inl h
            · right; right
              rw [hall, List.mem_append, List.mem_map, List.mem_singleton] at hm
              rcases hm with ⟨p, hp, rfl⟩ | rfl
              · exact ⟨p, hp, ((hpar p hp).1 x).1 (mem_without.1 hx).1⟩
              · have := hps.2.1 x hx
                obtain ⟨q, rfl⟩ : ∃ q : Nat, x = (q : Int) := ⟨x.toNat, by omega⟩
                exact ⟨_, hx, by omega, upHas_self hf (by omega)⟩
            · exact .inr (.inl h)
          have hxr : 0 ≤ x ∧ x < 3 + (g.length : Int) := by
            rcases hx with h | h | ⟨_, _, h, _⟩ <;> omega
          refine ⟨hxr, ?_⟩
          rw [upHas_step hf hc (by omega) (by omega)]
          simp only [Bool.or_eq_true, decide_eq_true_eq, List.any_eq_true]
          rcases hx with h | h | ⟨p, hp, _, h⟩
          · exact .inl (.inl h)
          · exact .inl (.inr h)
          · exact .inr ⟨p, hp, h⟩
        · rintro ⟨hxr, h⟩
          rw [upHas_step hf hc (by omega) (by omega)] at h
          simp only [Bool.or_eq_true, decide_eq_true_eq, List.any_eq_true] at h
          rcases h with (h | h) | ⟨p, hp, h⟩
          · exact .inl h
          · exact .inr (.inr h)
          · by_cases hx0 : x = 0
            · exact .inr (.inr hx0)
            · exact .inr (.inl ⟨bare (at_ (orders g) p), by rw [hall]; exact List.mem_append_left _ (List.mem_map_of_mem (f := fun p => bare (at_ (orders g) p)) hp), mem_without.2 ⟨((hpar p hp).1 x).2 ⟨hxr, h⟩, hx0⟩⟩)
      · rw [upHas_step hf hc (by omega) (by omega)] at h
        simp only [Bool.or_eq_true, decide_eq_true_eq, List.any_eq_true] at h
        rcases h with (h | h) | ⟨p, hp, h⟩
        · subst h; exact ⟨hne, List.Sublist.refl _⟩
        · subst h
          rw [at_zero, e]
          exact ⟨by simp, ((List.sublist_append_right _ _).cons _)⟩
        · obtain ⟨h2, h3⟩ := (hpar p hp).2.1 a ha h
          exact ⟨h2, h3.trans (hsubp p hp)⟩
      · rw [e]
        have := k2 (pOf g c) (by rw [hall]; simp)
        exact ((this.trans (List.sublist_append_left _ _)).cons _)
/-! ### Within -/
def wStep (l : List Int) (i : Nat) (c : Int) : Nat := if i < l.length ∧ l.getD i 0 = c then i + 1 else i
def wIn (l inn : List Int) : Nat := inn.foldl (wStep l) 0
def withinB (l inn : List Int) : Bool := decide (wIn l inn = l.length)
theorem wIn_snoc (l inn : List Int) {k : Nat} (h : k < inn.length) : wIn l (inn.take (k + 1)) = wStep l (wIn l (inn.take k)) inn[k] := by rw [wIn, take_succ h, List.foldl_append]; rfl
theorem wStep_le {l : List Int} {i : Nat} (c : Int) (h : i ≤ l.length) : wStep l i c ≤ l.length := by unfold wStep; split <;> omega
theorem wFold_le (l : List Int) : ∀ (inn : List Int) (i : Nat), i ≤ l.length → inn.foldl (wStep l) i ≤ l.length
  | [], i, h => h
  | c :: r, i, h => wFold_le l r _ (wStep_le c h)
theorem wIn_le (l inn : List Int) : wIn l inn ≤ l.length := wFold_le l inn 0 (by omega)
theorem wFold_sub (l : List Int) : ∀ (inn : List Int) (i : Nat), i ≤ l.length → (inn.foldl (wStep l) i = l.length ↔ (l.drop i).Sublist inn)
  | [], i, h => by
    rw [List.foldl_nil, List.sublist_nil, List.drop_eq_nil_iff]; omega
  | c :: r, i, h => by
    rw [List.foldl_cons, wFold_sub l r _ (wStep_le c h)]
    by_cases hi : i < l.length
    · rw [drop_cons hi]
      by_cases e : l[i] = c
      · rw [wStep, if_pos ⟨hi, by rw [getD_lt hi]; exact e⟩, e, List.cons_sublist_cons]
      · rw [wStep, if_neg (fun h => e (by rw [← getD_lt hi (d := 0)]; exact h.2)), drop_cons hi]
        constructor
        · intro h; exact h.cons _
        · intro h
          cases h with
          | cons _ h => exact h
          | cons_cons _ h => exact absurd rfl e
    · rw [wStep, if_neg (fun h => hi h.1), List.drop_of_length_le (by omega)]
      simp
theorem within_sub {l inn : List Int} : withinB l inn = true ↔ l.Sublist inn := by
  rw [withinB, decide_eq_true_eq, wIn, wFold_sub l inn 0 (by omega), List.drop_zero]
end Go.Proofs
/- LineTurned: plain laws: classes that are numbered otherwise. -/
namespace Go.Proofs
open Go Go.W Go.V
/-! ### What a renaming keeps -/
section
variable {f : Int → Int} (hf : ∀ a b, f a = f b → a = b)
include hf
theorem contains_map (l : List Int) (c : Int) : (l.map f).contains (f c) = l.contains c := by
  rw [Bool.eq_iff_iff, List.contains_iff_mem, List.contains_iff_mem, List.mem_map]
  exact ⟨fun ⟨a, h, e⟩ => hf a c e ▸ h, fun h => ⟨c, h, rfl⟩⟩
theorem without_map (l : List Int) (c : Int) : without (l.map f) (f c) = (without l c).map f := by
  induction l with
  | nil => rfl
  | cons a r ih =>
    simp only [without] at ih ⊢
    rw [List.map_cons, List.filter_cons, ih, List.filter_cons]
    by_cases h : a = c
    · subst h; simp
    · have : f a ≠ f c := fun e => h (hf _ _ e)
      simp [h, this]
theorem free_map (all : List (List Int)) (c : Int) : free (all.map (List.map f)) (f c) = free all c := by
  rw [free, free, List.all_map]
  congr 1
  funext m
  simp only [Function.comp]
  rw [← List.map_drop, contains_map hf]
theorem nextOf_map (all : List (List Int)) : ∀ r : List (List Int), nextOf (all.map (List.map f)) (r.map (List.map f)) = (nextOf all r).map f
  | [] => rfl
  | [] :: r => by
    rw [List.map_cons, List.map_nil, nextOf_nil, nextOf_nil]; exact nextOf_map all r
  | (x :: s) :: r => by
    rw [List.map_cons, List.map_cons]
    cases h : free all x with
    | true => rw [nextOf_t h, nextOf_t (by rw [free_map hf]; exact h)]; rfl
    | false => rw [nextOf_f h, nextOf_f (by rw [free_map hf]; exact h)]; exact nextOf_map all r
omit hf in
theorem anyNE_map (all : List (List Int)) : anyNE (all.map (List.map f)) = anyNE all := by
  rw [anyNE, anyNE, List.any_map]
  congr 1
  funext m
  cases m <;> rfl
omit hf in
theorem total_map (all : List (List Int)) : total (all.map (List.map f)) = total all := by
  induction all with
  | nil => rfl
  | cons m r ih => rw [List.map_cons, total_cons, total_cons, ih]; simp
theorem mergeF_map : ∀ (n : Nat) (all : List (List Int)) (out : List Int), mergeF n (all.map (List.map f)) (out.map f) = ((mergeF n all out).1.map f, (mergeF n all out).2)
  | 0, all, out => by rw [mergeF, mergeF, anyNE_map]
  | n + 1, all, out => by
    rw [mergeF, mergeF, nextOf_map hf]
    cases h : nextOf all all with
    | none => simp only [Option.map_none]; rw [anyNE_map]
    | some x =>
      simp only [Option.map_some]
      rw [← mergeF_map n, List.map_append]
      congr 1
      rw [List.map_map, List.map_map]
      exact List.map_congr_left fun m _ => without_map hf m x
theorem merge_map (all : List (List Int)) : merge (all.map (List.map f)) = ((merge all).1.map f, (merge all).2) := by
  rw [merge, total_map, merge]; exact mergeF_map hf (total all) all []
end
structure Iso (g h : List (List Int)) (f : Int → Int) : Prop where
  inj : ∀ a b, f a = f b → a = b
  len : h.length = g.length
  zero : f 0 = 0
  rng : ∀ c : Nat, c < 3 + g.length → ∃ d : Nat, f c = d ∧ d < 3 + g.length
  par : ∀ c : Nat, c < 3 + g.length → pOf h (f c) = (pOf g c).map f
  fine : fine h = true
theorem listsOf_map {f : Int → Int} (hf : ∀ a b, f a = f b → a = b) (h0 : f 0 = 0) {A B : List (List Int)} {ps : List Int} (h : ∀ p ∈ ps, at_ A (f p) = (at_ B p).map f) : listsOf A (ps.map f) = (listsOf B ps).map (List.map (List.map f)) := by
  rw [listsOf, listsOf, List.all_map]
  have e : (ps.all ((fun p => !(at_ A p).isEmpty) ∘ f)) = ps.all fun p => !(at_ B p).isEmpty := by
    rw [Bool.eq_iff_iff, List.all_eq_true, List.all_eq_true]
    have hem : ∀ p ∈ ps, (at_ A (f p)).isEmpty = (at_ B p).isEmpty := fun p hp => by rw [h p hp]; cases at_ B p <;> rfl
    exact ⟨fun q p hp => by have := q p hp; simp only [Function.comp] at this; rwa [hem p hp] at this, fun q p hp => by simp only [Function.comp]; rw [hem p hp]; exact q p hp⟩
  rw [e]
  split
  · simp only [Option.map_some, List.map_append, List.map_map, List.map_cons, List.map_nil]
    congr 2
    refine List.map_congr_left fun p hp => ?_
    simp only [Function.comp]
    rw [h p hp, bare, bare]
    have := without_map hf (at_ B p) 0
    rwa [h0] at this
  · rfl
theorem Iso.ord {g h : List (List Int)} {f : Int → Int} (hg : Go.W.fine g = true) (I : Iso g h f) : ∀ n c : Nat, c < n → c < 3 + g.length → at_ (orders h) (f c) = (at_ (orders g) c).map f := by
  intro n
  induction n with
  | zero => intro c h; omega
  | succ n ih =>
    intro c hcn hc
    by_cases h0 : c = 0
    · subst h0
      rw [show ((0 : Nat) : Int) = 0 from rfl, I.zero, at_zero, at_zero]
      simp [I.zero]
    · obtain ⟨d, hd, hdN⟩ := I.rng c hc
      have hd0 : d ≠ 0 := fun e => by
        subst e
        have := I.inj (c : Int) 0 (by rw [hd, I.zero]; rfl)
        omega
      have hp := (fine_pOf hg (c := (c : Int)) (by omega)).2.1
      have hpar := I.par c hc
      rw [hd] at hpar
      have hl := listsOf_map (ps := pOf g c) I.inj I.zero (A := orders h) (B := orders g) fun p hpm => by
        have := hp p hpm
        obtain ⟨q, rfl⟩ : ∃ q : Nat, p = (q : Int) := ⟨p.toNat, by omega⟩
        exact ih q (by omega) (by omega)
      rw [hd, at_orders I.fine (by omega) (by rw [I.len]; exact hdN), at_orders hg (by omega) hc, orderOf, orderOf, hpar, hl]
      cases listsOf (orders g) (pOf g c) with
      | none => rfl
      | some all =>
        simp only [Option.map_some]
        rw [merge_map I.inj]
        split
        · simp [hd, I.zero]
        · rfl
theorem Iso.up {g h : List (List Int)} {f : Int → Int} (hg : Go.W.fine g = true) (I : Iso g h f) {b : Nat} (hb : b < 3 + g.length) : ∀ n a : Nat, a < n → a < 3 + g.length → upHas h (f a) (f b) = upHas g a b := by
  have h16 := fine_len hg
  obtain ⟨e, he, heN⟩ := I.rng b hb
  intro n
  induction n with
  | zero => intro c h; omega
  | succ n ih =>
    intro a han ha
    obtain ⟨d, hd, hdN⟩ := I.rng a ha
    have hp := (fine_pOf hg (c := (a : Int)) (by omega)).2.1
    have hpar := I.par a ha
    rw [hd] at hpar
    rw [hd, he, upHas_step I.fine (by rw [I.len]; exact hdN) (by omega) (by omega), upHas_step hg ha (by omega) (by omega), hpar, List.any_map]
    have e1 : decide ((e : Int) = d) = decide ((b : Int) = a) := by
      rw [decide_eq_decide, ← he, ← hd]; exact ⟨fun h => I.inj _ _ h, fun h => by rw [h]⟩
    have e2 : decide ((e : Int) = 0) = decide ((b : Int) = 0) := by
      rw [decide_eq_decide, ← he]; exact ⟨fun h => I.inj _ _ (h.trans I.zero.symm), fun h => by rw [h, I.zero]⟩
    rw [e1, e2]
    congr 1
    rw [Bool.eq_iff_iff, List.any_eq_true, List.any_eq_true]
    have key : ∀ p ∈ pOf g a, upHas h (f p) (e : Int) = upHas g p b := fun p hpm => by
      have := hp p hpm
      obtain ⟨q, rfl⟩ : ∃ q : Nat, p = (q : Int) := ⟨p.toNat, by omega⟩
      rw [← he]; exact ih q (by omega) (by omega)
    exact ⟨fun ⟨p, h1, h2⟩ => ⟨p, h1, (key p h1) ▸ h2⟩, fun ⟨p, h1, h2⟩ => ⟨p, h1, by simp only [Function.comp]; rw [key p h1]; exact h2⟩⟩
/-! ### Classes that are numbered otherwise, one after the other -/
structure TS where
  left : List Bool
  now : List Int
  out : List (List Int)
def parL (left : List Bool) (l : List Int) : Bool := l.any fun p => !left.getD (p - 3).toNat false
def isRdy (left : List Bool) (l : List Int) (i : Nat) : Bool := !left.getD i false && !parL left l
def readyN (g : List (List Int)) (left : List Bool) (k : Nat) : List Int := (upto k).filter fun i => isRdy left (g.getD i.toNat []) i.toNat
def pick (bs : List Int) (n m : Nat) : Nat := if bs.length = 0 then 0 else (bs.getD (n % bs.length) 0).toNat % m
def nowOf (now : List Int) (i n : Nat) : List Int := now.set (3 + i) ((3 : Int) + n)
def tChoose (g : List (List Int)) (bs : List Int) (n : Nat) (left : List Bool) : Nat := ((readyN g left g.length).getD (pick bs n (readyN g left g.length).length) 0).toNat
def tStep (g : List (List Int)) (bs : List Int) (n : Nat) (s : TS) : TS :=
  let i := tChoose g bs n s.left
  ⟨s.left.set i true, nowOf s.now i n, s.out ++ [(g.getD i []).map fun p => (nowOf s.now i n).getD p.toNat 0]⟩
def now0 (N : Nat) : List Int := ((List.replicate N 0).set 1 1).set 2 2
def tRun (g : List (List Int)) (bs : List Int) : Nat → TS
  | 0 => ⟨List.replicate g.length false, now0 (3 + g.length), []⟩
  | n + 1 => tStep g bs n (tRun g bs n)
structure TInv (g : List (List Int)) (n : Nat) (s : TS) : Prop where
  ll : s.left.length = g.length
  nl : s.now.length = 3 + g.length
  ol : s.out.length = n
  low : s.now.getD 0 0 = 0 ∧ s.now.getD 1 0 = 1 ∧ s.now.getD 2 0 = 2
  cnt : s.left.count true = n
  at_ : ∀ i, i < g.length → s.left.getD i false = true → ∃ m, m < n ∧ s.now.getD (3 + i) 0 = 3 + (m : Int) ∧ s.out.getD m [] = (g.getD i []).map (fun p => s.now.getD p.toNat 0) ∧ ∀ p ∈ g.getD i [], s.left.getD (p - 3).toNat false = true ∧ s.now.getD p.toNat 0 < 3 + (m : Int)
  inj : ∀ i j, i < g.length → j < g.length → s.left.getD i false = true → s.left.getD j false = true → s.now.getD (3 + i) 0 = s.now.getD (3 + j) 0 → i = j
  sur : ∀ m, m < n → ∃ i, i < g.length ∧ s.left.getD i false = true ∧ s.now.getD (3 + i) 0 = 3 + (m : Int)
theorem getD_set_i (l : List Int) (p x : Nat) (v : Int) (hp : p < l.length) : (l.set p v).getD x 0 = if p = x then v else l.getD x 0 := by
  rw [List.getD_eq_getElem?_getD, List.getD_eq_getElem?_getD, List.getElem?_set]
  by_cases h : p = x
  · subst h; simp [hp]
  · simp [h]
theorem mem_readyN {g : List (List Int)} {left : List Bool} {k : Nat} {i : Int} : i ∈ readyN g left k ↔ (0 ≤ i ∧ i < k) ∧ isRdy left (g.getD i.toNat []) i.toNat = true := by
  rw [readyN, List.mem_filter, mem_upto]
theorem row_of {g : List (List Int)} (hf : fine g = true) {i : Nat} (hi : i < g.length) : (g.getD i []).length ≤ 3 ∧ (∀ p ∈ g.getD i [], 3 ≤ p ∧ p < 3 + (i : Int)) ∧ (g.getD i []).Nodup := by
  have h := fine_pOf hf (c := ((3 + i : Nat) : Int)) (by omega)
  rw [pOf_ge (by omega), show (((3 + i : Nat) : Int) - 3).toNat = i by omega] at h
  exact ⟨h.1, fun p hp => by have := h.2.1 p hp; omega, h.2.2⟩
/-- One class is left, whose parents are not. -/
theorem ready_ex {g : List (List Int)} (hf : fine g = true) {n : Nat} {s : TS} (I : TInv g n s) (hn : n < g.length) : 0 < (readyN g s.left g.length).length := by
  obtain ⟨i, hi⟩ : ∃ i, i < g.length ∧ s.left.getD i false = false := by
    refine Classical.byContradiction fun h => ?_
    have hall : ∀ b ∈ s.left, true = b := fun b hb => by
      obtain ⟨i, hi, rfl⟩ := List.mem_iff_getElem.1 hb
      cases hq : s.left[i] with
      | true => rfl
      | false => exact absurd ⟨i, by have := I.ll; omega, by rw [getD_lt hi]; exact hq⟩ h
    have := List.count_eq_length.2 hall
    rw [I.cnt, I.ll] at this
    omega
  have key : ∀ k i, i < k → i < g.length → s.left.getD i false = false → ∃ i : Nat, i < g.length ∧ isRdy s.left (g.getD i []) i = true := by
    intro k
    induction k with
    | zero => intro i h; omega
    | succ k ih =>
      intro i hik hig hl
      cases hp : parL s.left (g.getD i []) with
      | false => exact ⟨i, hig, by rw [isRdy, hl, hp]; rfl⟩
      | true =>
        rw [parL, List.any_eq_true] at hp
        obtain ⟨p, hp, hq⟩ := hp
        have hr := (row_of hf hig).2.1 p hp
        exact ih (p - 3).toNat (by omega) (by omega) (by simpa using hq)
  obtain ⟨j, hj, hr⟩ := key (i + 1) i (by omega) hi.1 hi.2
  exact List.length_pos_of_mem (a := (j : Int)) (mem_readyN.2 ⟨by omega, by rw [Int.toNat_natCast]; exact hr⟩)
theorem pick_lt (bs : List Int) (n : Nat) {m : Nat} (h : 0 < m) : pick bs n m < m := by
  unfold pick; split
  · exact h
  · exact Nat.mod_lt _ h
theorem choose_ok {g : List (List Int)} (hf : fine g = true) {n : Nat} {s : TS} (I : TInv g n s) (hn : n < g.length) (bs : List Int) : tChoose g bs n s.left < g.length ∧ isRdy s.left (g.getD (tChoose g bs n s.left) []) (tChoose g bs n s.left) = true := by
  have h0 := ready_ex hf I hn
  have hp := pick_lt bs n h0
  have hm := mem_readyN.1 (List.getElem_mem (l := readyN g s.left g.length) (n := pick bs n (readyN g s.left g.length).length) hp)
  rw [tChoose, getD_lt hp]
  exact ⟨by omega, hm.2⟩
theorem tInv_zero (g : List (List Int)) (bs : List Int) : TInv g 0 (tRun g bs 0) := by
  have hl : ∀ i, (List.replicate g.length false).getD i false = true → False := fun i h => by
    rw [List.getD_eq_getElem?_getD, List.getElem?_replicate] at h
    split at h <;> simp at h
  refine ⟨by simp [tRun], by simp [tRun, now0], rfl, ?_, by simp [tRun, List.count_replicate], fun i _ h => (hl i h).elim, fun i _ _ _ h => (hl i h).elim, fun m h => by omega⟩
  simp only [tRun, now0]
  refine ⟨?_, ?_, ?_⟩ <;> rw [getD_set_i _ _ _ _ (by simp; omega), getD_set_i _ _ _ _ (by simp; omega)]
  all_goals simp [List.getD_eq_getElem?_getD, List.getElem?_replicate]
  split <;> rfl
theorem tInv_step {g : List (List Int)} (hf : fine g = true) {n : Nat} {s : TS} (I : TInv g n s) (hn : n < g.length) (bs : List Int) : TInv g (n + 1) (tStep g bs n s) := by
  obtain ⟨hi, hr⟩ := choose_ok hf I hn bs
  rw [tStep]
  generalize tChoose g bs n s.left = i at *
  rw [isRdy, Bool.and_eq_true, Bool.not_eq_true', Bool.not_eq_true'] at hr
  obtain ⟨hl0, hp0⟩ := hr
  rw [parL, List.any_eq_false] at hp0
  have hll := I.ll
  have hnl := I.nl
  have hrow := row_of hf hi
  have hleft : ∀ j, (s.left.set i true).getD j false = if i = j then true else s.left.getD j false := fun j => getD_set_b _ _ _ _ (by omega)
  have hnow : ∀ x, (nowOf s.now i n).getD x 0 = if 3 + i = x then (3 : Int) + n else s.now.getD x 0 := fun x => getD_set_i _ _ _ _ (by omega)
  have hps : ∀ p ∈ g.getD i [], (3 ≤ p ∧ p < 3 + (i : Int)) ∧ s.left.getD (p - 3).toNat false = true := fun p hp => ⟨hrow.2.1 p hp, by simpa using hp0 p hp⟩
  have hpn : ∀ p ∈ g.getD i [], (nowOf s.now i n).getD p.toNat 0 < 3 + (n : Int) := fun p hp => by
    obtain ⟨a, b⟩ := hps p hp
    rw [hnow, if_neg (by omega)]
    obtain ⟨m, m1, m2, _⟩ := I.at_ (p - 3).toNat (by omega) b
    rw [show 3 + (p - 3).toNat = p.toNat by omega] at m2
    rw [m2]; omega
  refine ⟨by simp [hll], by simp [nowOf, hnl], by simp [I.ol], ?_, ?_, fun j hj hjl => ?_, fun j k hj hk hjl hkl he => ?_, fun m hm => ?_⟩
  · obtain ⟨a, b, c⟩ := I.low
    dsimp only
    rw [hnow, hnow, hnow, if_neg (by omega), if_neg (by omega), if_neg (by omega)]
    exact ⟨a, b, c⟩
  · dsimp only
    have hq : s.left[i]'(by omega) = false := by rwa [getD_lt (by omega)] at hl0
    rw [List.count_set (by omega), I.cnt, hq]; simp
  · dsimp only at hjl ⊢
    rw [hleft] at hjl
    by_cases e : i = j
    · subst e
      refine ⟨n, by omega, by rw [hnow, if_pos rfl], ?_, fun p hp => ⟨by rw [hleft]; split; rfl; exact (hps p hp).2, hpn p hp⟩⟩
      rw [List.getD_eq_getElem?_getD, List.getElem?_append_right (by rw [I.ol]; exact Nat.le_refl _), I.ol]; simp
    · rw [if_neg e] at hjl
      obtain ⟨m, m1, m2, m3, m4⟩ := I.at_ j hj hjl
      refine ⟨m, by omega, by rw [hnow, if_neg (by omega)]; exact m2, ?_, fun p hp => ?_⟩
      · rw [List.getD_eq_getElem?_getD, List.getElem?_append_left (by rw [I.ol]; exact m1), ← List.getD_eq_getElem?_getD, m3]
        refine List.map_congr_left fun p hp => ?_
        have h1 := (m4 p hp).1
        have h2 := (row_of hf hj).2.1 p hp
        rw [hnow, if_neg]
        intro e2
        rw [show (p - 3).toNat = i by omega, hl0] at h1; cases h1
      · obtain ⟨h1, h3⟩ := m4 p hp
        have h2 := (row_of hf hj).2.1 p hp
        refine ⟨by rw [hleft]; split; rfl; exact h1, ?_⟩
        rw [hnow, if_neg]
        · exact h3
        · intro e2
          rw [show (p - 3).toNat = i by omega, hl0] at h1; cases h1
  · dsimp only at hjl hkl he
    rw [hleft] at hjl hkl
    rw [hnow, hnow] at he
    by_cases e1 : i = j
    · by_cases e2 : i = k
      · omega
      · rw [if_neg e2] at hkl
        obtain ⟨m, m1, m2, _⟩ := I.at_ k hk hkl
        rw [if_pos (by omega), if_neg (by omega), m2] at he; omega
    · rw [if_neg e1] at hjl
      by_cases e2 : i = k
      · obtain ⟨m, m1, m2, _⟩ := I.at_ j hj hjl
        rw [if_neg (by omega), if_pos (by omega), m2] at he; omega
      · rw [if_neg e2] at hkl
        rw [if_neg (by omega), if_neg (by omega)] at he
        exact I.inj j k hj hk hjl hkl he
  · by_cases e : m = n
    · subst e
      exact ⟨i, hi, by dsimp only; rw [hleft, if_pos rfl], by dsimp only; rw [hnow, if_pos rfl]⟩
    · obtain ⟨j, hj, h1, h2⟩ := I.sur m (by omega)
      have : i ≠ j := fun e => by subst e; rw [hl0] at h1; cases h1
      exact ⟨j, hj, by dsimp only; rw [hleft, if_neg this]; exact h1, by dsimp only; rw [hnow, if_neg (by omega)]; exact h2⟩
theorem tInv {g : List (List Int)} (hf : fine g = true) (bs : List Int) : ∀ n, n ≤ g.length → TInv g n (tRun g bs n)
  | 0, _ => tInv_zero g bs
  | n + 1, h => tInv_step hf (tInv hf bs n (by omega)) (by omega) bs
theorem okRows_of : ∀ (h : List (List Int)) (i : Nat), (∀ (k : Nat) l, h[k]? = some l → l.length ≤ 3 ∧ okRow (i + k) [] l = true) → okRows i h = true
  | [], _, _ => rfl
  | l :: r, i, h => by
    have h0 := h 0 l rfl
    rw [Nat.add_zero] at h0
    rw [okRows, decide_eq_true h0.1, h0.2, okRows_of r (i + 1) fun k l hk => by have := h (k + 1) l (by simpa using hk); rwa [show i + (k + 1) = i + 1 + k by omega] at this]
    rfl
/-- The renaming that a list tells. -/
def renF (N : Nat) (now : List Int) (x : Int) : Int := if 0 ≤ x ∧ x < N then now.getD x.toNat 0 else x
theorem turned_iso {g : List (List Int)} (hf : fine g = true) (bs : List Int) : Iso g (tRun g bs g.length).out (renF (3 + g.length) (tRun g bs g.length).now) := by
  have I := tInv hf bs g.length (Nat.le_refl _)
  have h16 := fine_len hf
  generalize tRun g bs g.length = s at *
  have hall : ∀ i, i < g.length → s.left.getD i false = true := fun i hi => by
    have h1 : s.left.count true = s.left.length := by rw [I.cnt, I.ll]
    have := List.count_eq_length.1 h1 (s.left[i]'(by rw [I.ll]; exact hi)) (List.getElem_mem _)
    rw [getD_lt (by rw [I.ll]; exact hi)]; exact this.symm
  have hin : ∀ c : Nat, c < 3 + g.length → renF (3 + g.length) s.now c = s.now.getD c 0 := fun c hc => by rw [renF, if_pos (by omega), Int.toNat_natCast]
  have hhi : ∀ c : Nat, 3 ≤ c → c < 3 + g.length → ∃ m, m < g.length ∧ s.now.getD c 0 = 3 + (m : Int) ∧ s.out.getD m [] = (g.getD (c - 3) []).map (fun p => s.now.getD p.toNat 0) ∧ ∀ p ∈ g.getD (c - 3) [], s.now.getD p.toNat 0 < 3 + (m : Int) := fun c h3 hc => by
    obtain ⟨m, h1, h2, h4, h5⟩ := I.at_ (c - 3) (by omega) (hall _ (by omega))
    rw [show 3 + (c - 3) = c by omega] at h2
    exact ⟨m, h1, h2, h4, fun p hp => (h5 p hp).2⟩
  have hlo : ∀ c : Nat, c < 3 → s.now.getD c 0 = c := fun c hc => by
    obtain ⟨a, b, d⟩ := I.low
    match c, hc with
    | 0, _ => exact a
    | 1, _ => exact b
    | 2, _ => exact d
  have hinj : ∀ a b : Nat, a < 3 + g.length → b < 3 + g.length → s.now.getD a 0 = s.now.getD b 0 → a = b := fun a b ha hb e => by
    by_cases a3 : a < 3
    · by_cases b3 : b < 3
      · rw [hlo a a3, hlo b b3] at e; omega
      · obtain ⟨m, _, h2, _⟩ := hhi b (by omega) hb
        rw [hlo a a3, h2] at e; omega
    · by_cases b3 : b < 3
      · obtain ⟨m, _, h2, _⟩ := hhi a (by omega) ha
        rw [hlo b b3, h2] at e; omega
      · have := I.inj (a - 3) (b - 3) (by omega) (by omega) (hall _ (by omega)) (hall _ (by omega)) (by rw [show 3 + (a - 3) = a by omega, show 3 + (b - 3) = b by omega]; exact e)
        omega
  have hrng : ∀ c : Nat, c < 3 + g.length → ∃ d : Nat, s.now.getD c 0 = d ∧ d < 3 + g.length := fun c hc => by
    by_cases c3 : c < 3
    · exact ⟨c, hlo c c3, hc⟩
    · obtain ⟨m, h1, h2, _⟩ := hhi c (by omega) hc
      exact ⟨3 + m, by rw [h2]; omega, by omega⟩
  have hmap : ∀ c : Nat, c < 3 + g.length → (pOf g c).map (renF (3 + g.length) s.now) = (pOf g c).map fun p => s.now.getD p.toNat 0 := fun c hc => by
    refine List.map_congr_left fun p hp => ?_
    have := (fine_pOf hf (c := (c : Int)) (by omega)).2.1 p hp
    rw [renF, if_pos (by omega)]
  refine ⟨fun a b e => ?_, I.ol, by rw [show (0 : Int) = ((0 : Nat) : Int) from rfl, hin 0 (by omega)]; exact I.low.1, fun c hc => ?_, fun c hc => ?_, ?_⟩
  · by_cases ha : 0 ≤ a ∧ a < ((3 + g.length : Nat) : Int)
    · obtain ⟨x, rfl⟩ := Int.eq_ofNat_of_zero_le ha.1
      rw [hin x (by omega)] at e
      by_cases hb : 0 ≤ b ∧ b < ((3 + g.length : Nat) : Int)
      · obtain ⟨y, rfl⟩ := Int.eq_ofNat_of_zero_le hb.1
        rw [hin y (by omega)] at e
        rw [hinj x y (by omega) (by omega) e]
      · obtain ⟨d, h1, h2⟩ := hrng x (by omega)
        rw [renF, if_neg hb, h1] at e; omega
    · rw [renF, if_neg ha] at e
      by_cases hb : 0 ≤ b ∧ b < ((3 + g.length : Nat) : Int)
      · obtain ⟨y, rfl⟩ := Int.eq_ofNat_of_zero_le hb.1
        rw [hin y (by omega)] at e
        obtain ⟨d, h1, h2⟩ := hrng y (by omega)
        rw [h1] at e; omega
      · rw [renF, if_neg hb] at e; exact e
  · rw [hin c hc]; exact hrng c hc
  · rw [hmap c hc, hin c hc]
    by_cases c3 : c < 3
    · rw [hlo c c3, pOf_lt (by omega), pOf_lt (by omega)]; rfl
    · obtain ⟨m, h1, h2, h4, _⟩ := hhi c (by omega) hc
      rw [h2, pOf_ge (by omega), pOf_ge (by omega), show (3 + (m : Int) - 3).toNat = m by omega, show ((c : Int) - 3).toNat = c - 3 by omega]
      exact h4
  · rw [fine, Bool.and_eq_true, decide_eq_true_eq]
    refine ⟨by rw [I.ol]; exact h16, okRows_of _ _ fun k l hk => ?_⟩
    obtain ⟨hk1, hk2⟩ := List.getElem?_eq_some_iff.1 hk
    obtain ⟨i, i1, i2, i3⟩ := I.sur k (by rw [← I.ol]; exact hk1)
    obtain ⟨m, m1, m2, m3, m4⟩ := hhi (3 + i) (by omega) (by omega)
    have hmk : m = k := by omega
    subst hmk
    rw [getD_lt hk1, hk2, show 3 + i - 3 = i by omega] at m3
    rw [show 3 + i - 3 = i by omega] at m4
    have hr := row_of hf i1
    refine ⟨by rw [m3]; simpa using hr.1, okRow_of _ _ _ ?_ fun c hc => ⟨?_, by simp⟩⟩
    · rw [m3]
      rw [List.Nodup, List.pairwise_map]
      refine hr.2.2.imp_of_mem fun {a b} ha hb hne e => hne ?_
      have h1 := hr.2.1 a ha
      have h2 := hr.2.1 b hb
      have := hinj a.toNat b.toNat (by omega) (by omega) e
      omega
    · rw [m3, List.mem_map] at hc
      obtain ⟨p, hp, rfl⟩ := hc
      have h1 := hr.2.1 p hp
      have h2 := m4 p hp
      obtain ⟨x, _, h3, _⟩ := hhi p.toNat (by omega) (by omega)
      omega
end Go.Proofs
/- Level 2: an integer is stored into a slice of the call's own; a part of a slice, by both ends. -/
namespace Go.V
open Go Go.W
section
variable {C : Cx} {ops : Array Oper} {Q : Qt} {ρ : Ro} {η η2 : Eta} {rest : List Oper} {T d X : Nat} {pos : String} {af : Array Edge} {x y : Operand}
theorem OL.stI {i k E : Nat} {ab : List Int} {t : Int} {nl : Option Bool} (hk : k < ab.length) (kk : OL C ops Q rest ρ η2) (hs : (C.tab X).map (fun e => (e.sh.agg, e.size)) = some (false, 1) := by with_unfolding_all exact rfl)
    (hx : ev2 ρ x = some (.gp i 1 k 0) := by with_unfolding_all exact rfl) (hy : ev2 ρ y = some (V.int t) := by with_unfolding_all exact rfl) (ho : η[i]? = some (.gs false E 1 nl (ab.map V.int)) := by with_unfolding_all exact rfl) (hη : η.set i (.gs false E 1 nl ((ab.set k t).map V.int)) = η2 := by (try dsimp only [List.set]) <;> exact rfl) : OL C ops Q (⟨none, .store X x y, T, pos, af, none⟩ :: rest) ρ η :=
  OL.storeE (e := V.int ab[k]) (e' := V.int t) kk hs hx hy ho (map_get hk) rfl (by decide) (by rw [← List.map_set]; exact hη)
variable {z : Operand} {M : Bool}
theorem gvs2 {α : Type} {f : α → AV} {sz E : Nat} {nl : Option Bool} {i j : Int} {xs : List α} (l h : Nat) (hs : (C.tab X).map (·.sh) = some (.slice E) := by with_unfolding_all exact rfl) (hz : (C.tab E).map (·.size) = some sz := by with_unfolding_all exact rfl)
    (hx : ev2 ρ x = some (.sl sz nl (xs.map f)) := by with_unfolding_all exact rfl) (hy : ev2 ρ y = some (.raw (.int .i64 i)) := by with_unfolding_all exact rfl) (hz' : ev2 ρ z = some (.raw (.int .i64 j)) := by with_unfolding_all exact rfl) (hi : i = (l : Nat) := by omega) (hj : j = (h : Nat) := by omega) (hlh : l ≤ h := by omega) (hh : h ≤ xs.length := by omega) :
    Gives C.P C.N C.D (.slice X x (some y) (some z) none) ρ η (.sl sz none (((xs.take h).drop l).map f)) M := give_slice_2 (Cx.hT _) hs hz hx hy hi hz' hj hlh hh
theorem OL.sl2 {α : Type} {f : α → AV} {sz : Nat} {xs : List α} (l h : Nat) (kk : OL C ops Q rest ((d, .sl sz none (((xs.take h).drop l).map f)) :: ρ) η) (hg : Gives C.P C.N C.D (.slice X x (some y) (some z) none) ρ η (.sl sz none (((xs.take h).drop l).map f)) true := by exact gvs2 _ _) (hd : Nat.blt d C.N = true := by with_unfolding_all exact rfl) :
    OL C ops Q (⟨some d, .slice X x (some y) (some z) none, T, pos, af, none⟩ :: rest) ρ η := OL.give hg hd kk
end
end Go.V
/- LineTurned: walks. -/
namespace Go.Proofs
open Go Go.W Go.V
/-- What the closure that looks for a parent that is not left yet answers. -/
theorem s_law03_Turned_1 (lf : List Bool) {p : Int} (hp : 3 ≤ p ∧ p < 3 + (lf.length : Int)) (hl : lf.length ≤ 1000) : V.Spec Try.prog Fc.law03_Turned_1 [V.int p, .ep [bsl lf] 0] [] (V.bool (!lf.getD (p - 3).toNat false)) [] := by
  have hg := getD_lt (d := false) (show (p - 3).toNat < lf.length by omega)
  refine V.Spec.enter Try.tabOK Try.mixed Fn.law03_Turned_1 rfl rfl rfl fun B hB => ?_
  repeat' (first
   | (with_reducible refine OL.st ?_)
   | (with_reducible refine TC.region ?_)
   | (with_reducible refine TC.seq ?_)
   | (with_reducible refine OL.nil ?_)
   | (with_reducible refine TX.thenN ?_)
   | (with_reducible refine TC.ret ?_)
   | fail)
  refine TX.rt1 [] (.bool ?_)
  rw [hg]
theorem readyN_succ (g : List (List Int)) (left : List Bool) (k : Nat) : readyN g left (k + 1) = readyN g left k ++ (if isRdy left (g.getD k []) k then [(k : Int)] else []) := by
  rw [readyN, upto_succ, List.filter_append, ← readyN]
  congr 1
  rw [List.filter_cons, Int.toNat_natCast]; rfl
theorem readyN_len (g : List (List Int)) (left : List Bool) (k : Nat) : (readyN g left k).length ≤ k := by
  have := List.length_filter_le (fun i => isRdy left (g.getD i.toNat []) i.toNat) (upto k)
  rw [upto_length] at this; exact this
set_option maxHeartbeats 4000000 in
theorem s_law03_Turned {g : List (List Int)} (hf : fine g = true) (bs : List Int) (kb : ∀ x ∈ bs, (Lit.int .u8 x).wf = true) : V.Spec Try.prog Fc.law03_Turned [rows g, u8s bs] [] (.tp [rows (tRun g bs g.length).out, ints (tRun g bs g.length).now]) [] := by
  have h16 := fine_len hf
  refine V.Spec.enter Try.tabOK Try.mixed Fn.law03_Turned rfl rfl rfl fun B hB => ?_
  refine TC.bl 1 fun hbl => ?_
  repeat' (first
   | (with_reducible refine OL.st ?_)
   | (with_reducible refine TC.region ?_)
   | (with_reducible refine TC.seq ?_)
   | (with_reducible refine OL.nil ?_)
   | (with_reducible refine TX.thenN ?_)
   | fail)
  refine OL.make (l := 3 + g.length) (c := 3 + g.length) (i := 3 + (g.length : Int)) (j := 3 + (g.length : Int)) (u := V.int 0) (u0 := V.int 0) ?_ (fun m w γ => .raw rfl) (hi := by omega) (hj := by omega)
  rw [show List.replicate (3 + g.length) (V.int 0) = (List.replicate (3 + g.length) 0).map V.int by simp]
  have hl0 : (List.replicate (3 + g.length) (0 : Int)).length = 3 + g.length := by simp
  have hl1 : ((List.replicate (3 + g.length) (0 : Int)).set 1 1).length = 3 + g.length := by simp
  repeat' (first
   | (with_reducible refine OL.st ?_)
   | (with_reducible refine TC.region ?_)
   | (with_reducible refine TC.seq ?_)
   | (with_reducible refine OL.nil ?_)
   | (with_reducible refine TX.thenN ?_)
   | fail)
  refine OL.stI (k := 1) (ab := List.replicate (3 + g.length) 0) (by omega) ?_
  repeat' (first | (with_reducible refine OL.st ?_) | fail)
  refine OL.stI (k := 2) (ab := (List.replicate (3 + g.length) 0).set 1 1) (by omega) ?_
  rw [show ((List.replicate (3 + g.length) (0 : Int)).set 1 1).set 2 2 = now0 (3 + g.length) from rfl]
  repeat' (first
   | (with_reducible refine OL.st ?_)
   | (with_reducible refine TC.region ?_)
   | (with_reducible refine TC.seq ?_)
   | (with_reducible refine OL.nil ?_)
   | (with_reducible refine TX.thenN ?_)
   | fail)
  refine OL.mk (l := g.length) (i := (g.length : Int)) (j := (g.length : Int)) (u := V.bool false) (u0 := V.bool false) ?_ (fun m w γ => .raw rfl) (hi := by omega) (hj := by omega)
  rw [show List.replicate g.length (V.bool false) = (List.replicate g.length false).map V.bool by simp]
  repeat' (first
   | (with_reducible refine OL.st ?_)
   | (with_reducible refine OL.alloc ?_)
   | (with_reducible refine OL.store ?_)
   | (with_reducible refine TC.region ?_)
   | (with_reducible refine TC.seq ?_)
   | (with_reducible refine OL.nil ?_)
   | (with_reducible refine TX.thenN ?_)
   | (with_reducible refine TC.block ?_)
   | fail)
  refine TC.adp 7 Tc.Lint 1 ?_
  have hl2 : (now0 (3 + g.length)).length = 3 + g.length := by simp [now0]
  refine TC.lp (fun n : Nat => [(0, rows g), (1, u8s bs), (6, .hs 0), (7, .hs 3), (8, .bp 2 0), (30, V.int g.length), (31, V.int n)])
    (fun n => [.gs false Tc.int 1 none ((tRun g bs n).now.map V.int), .gs false Tc.bool 1 none ((tRun g bs n).left.map V.bool), .cb Tc.Lbool [.hs 1], .gs false Tc.Lint 1 none ((tRun g bs n).out.map ints)]) (fun n => n ≤ g.length) (fun n => g.length - n) 0 [0, 1, 2, 3] (Nat.zero_le _) ?_
  rintro n hn
  have I := tInv hf bs n hn
  by_cases hng : n < g.length
  · have I2 := tInv hf bs (n + 1) hng
    obtain ⟨ch1, ch2⟩ := choose_ok hf I hng bs
    have hrl := ready_ex hf I hng
    have hst : tRun g bs (n + 1) = tStep g bs n (tRun g bs n) := rfl
    generalize tRun g bs n = s at *
    obtain ⟨lf, nw, ot⟩ := s
    have hll := I.ll
    have hnl := I.nl
    have hol := I.ol
    dsimp only at hll hnl hol ch1 ch2 hrl ⊢
    repeat' (first
     | (with_reducible refine OL.st ?_)
     | (with_reducible refine TC.region ?_)
     | (with_reducible refine TC.seq ?_)
     | (with_reducible refine OL.nil ?_)
     | (with_reducible refine TX.thenN ?_)
     | (with_reducible refine TC.block ?_)
     | (with_reducible refine TC.skip ?_)
     | (with_reducible refine TC.ifD ?_ ?_ <;> (intro hc; try (exfalso; omega)))
     | fail)
    refine TC.adp 10 Tc.int 1 ?_
    refine TC.lp (fun i : Nat => [(0, rows g), (1, u8s bs), (6, .hs 0), (7, .hs 3), (8, .bp 2 0), (9, V.int n), (10, .hs 4), (30, V.int g.length), (31, V.int n), (34, rows g), (35, V.int g.length), (36, V.int i)])
      (fun i => [.gs false Tc.int 1 none (nw.map V.int), .gs false Tc.bool 1 none (lf.map V.bool), .cb Tc.Lbool [.hs 1], .gs false Tc.Lint 1 none (ot.map ints), .gs false Tc.int 1 none ((readyN g lf i).map V.int)]) (fun i => i ≤ g.length) (fun i => g.length - i) 0 [0, 1, 2, 3, 4] (Nat.zero_le _) ?_
    rintro i hi
    have hrn := readyN_len g lf i
    by_cases hig : i < g.length
    · have hsu := readyN_succ g lf i
      have hgi : g.getD i [] = g[i] := getD_lt hig
      have hlfi : lf.getD i false = lf[i]'(by omega) := getD_lt (by omega)
      have hcf := s_slices_ContainsFunc_Lint_int (g[i]) (fun p => !lf.getD (p - 3).toNat false)
      have hrow := (row_of hf hig).2.1
      rw [hgi, isRdy, hlfi] at hsu
      rw [hgi] at hrow
      repeat' (first
       | (with_reducible refine OL.st ?_)
       | (with_reducible refine TC.region ?_)
       | (with_reducible refine TC.seq ?_)
       | (with_reducible refine OL.nil ?_)
       | (with_reducible refine TX.thenN ?_)
       | (with_reducible refine TC.block ?_)
       | (with_reducible refine TC.skip ?_)
       | (with_reducible refine TC.ifD ?_ ?_ <;> (intro hc; try (exfalso; omega)))
       | fail)
      cases hq : lf[i]'(by omega)
      · rw [hq] at hsu
        repeat' (first | (with_reducible refine OL.st ?_) | (with_reducible refine OL.gOn ?_) | fail)
        refine OL.lend (Wk.lendF (s := 48)) hcf Fn.slices_ContainsFunc_Lint_int ?_ (hle := by exact ⟨.ren rfl, LE.fun_ (first' := []) (caps' := [.ep [bsl lf] 0]) Fn.law03_Turned_1 rfl trivial ⟨.ren rfl, trivial⟩ (fun x hx => s_law03_Turned_1 lf (by have := hrow x hx; omega) (by omega)), trivial⟩)
        rw [show (g[i].any fun p => !lf.getD (p - 3).toNat false) = parL lf g[i] from rfl]
        cases hp : parL lf g[i]
        · have e : (readyN g lf i).map V.int ++ [V.int (i : Int)] = (readyN g lf (i + 1)).map V.int := by rw [hsu, hp]; simp
          repeat' (first
           | (with_reducible refine OL.st ?_)
           | (with_reducible refine OL.lit ?_)
           | (with_reducible refine OL.appO ?_)
           | (with_reducible refine TC.region ?_)
           | (with_reducible refine OL.nil ?_)
           | (with_reducible refine TX.thenN ?_)
           | (with_reducible refine TX.blkN ?_)
           | (with_reducible refine TC.ifT ?_)
           | (with_reducible refine OL.gOn ?_)
           | fail)
          exact TX.rd (i + 1) [0, 1, 2, 3, 6] (by omega) (by omega)
        · have e : (readyN g lf i).map V.int = (readyN g lf (i + 1)).map V.int := by rw [hsu, hp]; simp
          repeat' (first
           | (with_reducible refine OL.st ?_)
           | (with_reducible refine TC.region ?_)
           | (with_reducible refine OL.nil ?_)
           | (with_reducible refine TX.thenN ?_)
           | (with_reducible refine TC.skip ?_)
           | (with_reducible refine TX.blkN ?_)
           | (with_reducible refine TC.ifF ?_)
           | (with_reducible refine OL.gOn ?_)
           | fail)
          exact TX.rd (i + 1) [0, 1, 2, 3, 4] (by omega) (by omega)
      · have e : (readyN g lf i).map V.int = (readyN g lf (i + 1)).map V.int := by rw [hsu, hq]; simp
        repeat' (first
         | (with_reducible refine OL.st ?_)
         | (with_reducible refine TC.region ?_)
         | (with_reducible refine OL.nil ?_)
         | (with_reducible refine TX.thenN ?_)
         | (with_reducible refine TC.skip ?_)
         | (with_reducible refine TX.blkN ?_)
         | (with_reducible refine TC.ifF ?_)
         | (with_reducible refine OL.gOff ?_)
         | fail)
        exact TX.rd (i + 1) [0, 1, 2, 3, 4] (by omega) (by omega)
    · obtain rfl : g.length = i := by omega
      have hRm : ∀ k (h : k < (readyN g lf g.length).length), 0 ≤ (readyN g lf g.length)[k] ∧ (readyN g lf g.length)[k] < (g.length : Int) := fun k h => by
        have := (mem_readyN.1 (List.getElem_mem h)).1; omega
      obtain ⟨ci, hci⟩ : ∃ ci, ci = tChoose g bs n lf := ⟨_, rfl⟩
      have hpk := pick_lt bs n hrl
      have hcv : (readyN g lf g.length)[pick bs n (readyN g lf g.length).length] = (ci : Int) := by
        rw [hci, tChoose, getD_lt hpk]; have := hRm _ hpk; omega
      rw [← hci] at ch1 ch2
      have h1 : (tRun g bs (n + 1)).now = nowOf nw ci n := by rw [hst, tStep, hci]
      have h2 : (tRun g bs (n + 1)).left = lf.set ci true := by rw [hst, tStep, hci]
      have h3 : (tRun g bs (n + 1)).out = ot ++ [(g.getD ci []).map fun p => (nowOf nw ci n).getD p.toNat 0] := by rw [hst, tStep, hci]
      have hnl2 : (nowOf nw ci n).length = 3 + g.length := by simp [nowOf, hnl]
      generalize readyN g lf g.length = R at *
      clear I I2 hst ch2 hci
      have hpi : (3 + (ci : Int)).toNat = 3 + ci := by omega
      have hrow := row_of hf ch1
      rw [getD_lt ch1] at hrow h3
      by_cases hb0 : 0 < bs.length
      case' pos =>
        have hm0 : 0 ≤ (n : Int) % (bs.length : Int) := Int.emod_nonneg _ (by omega)
        have hm1 : (n : Int) % (bs.length : Int) < (bs.length : Int) := Int.emod_lt_of_pos _ (by omega)
        have hmn : ((n : Int) % (bs.length : Int)).toNat = n % bs.length := by rw [← Int.natCast_emod, Int.toNat_natCast]
        have hpb := u8_bnd (kb _ (List.getElem_mem (l := bs) (n := ((n : Int) % (bs.length : Int)).toNat) (by omega)))
        have hpv : pick bs n R.length = (bs[((n : Int) % (bs.length : Int)).toNat]'(by omega)).toNat % R.length := by
          rw [pick, if_neg (by omega), getD_lt (by rw [← hmn]; omega)]
          simp only [hmn]
        repeat' (first
         | (with_reducible refine OL.st ?_)
         | (with_reducible refine TC.region ?_)
         | (with_reducible refine TC.seq ?_)
         | (with_reducible refine OL.nil ?_)
         | (with_reducible refine TX.thenN ?_)
         | (with_reducible refine TC.exit ?_)
         | (with_reducible refine TX.hit ?_)
         | (with_reducible refine TX.thenX ?_)
         | (with_reducible refine TC.ifD ?_ ?_ <;> (intro hc; try (exfalso; omega)))
         | fail)
        refine OL.conv (n := bs[((n : Int) % (bs.length : Int)).toNat]'(by omega)) Try.underlying5 Try.underlying3 (by omega) (by omega) ?_
        generalize bs[((n : Int) % (bs.length : Int)).toNat]'(by omega) = bv at *
        have hj0 : 0 ≤ bv % (R.length : Int) := Int.emod_nonneg _ (by omega)
        have hj1 : bv % (R.length : Int) < (R.length : Int) := Int.emod_lt_of_pos _ (by omega)
        have hpe : (bv % (R.length : Int)).toNat = pick bs n R.length := by
          rw [hpv]
          have : bv = ((bv.toNat : Nat) : Int) := by omega
          rw [this, ← Int.natCast_emod, Int.toNat_natCast, Int.toNat_natCast]
        have hRv : R[(bv % (R.length : Int)).toNat]'(by omega) = (ci : Int) := by rw [← hcv]; congr 1
        have hRb := hRm (bv % (R.length : Int)).toNat (by omega)
        repeat' (first
         | (with_reducible refine OL.st ?_)
         | (with_reducible refine TC.region ?_)
         | (with_reducible refine TC.seq ?_)
         | (with_reducible refine OL.nil ?_)
         | (with_reducible refine TX.thenN ?_)
         | fail)
        simp only [hRv]
      case' neg =>
        have hpe : pick bs n R.length = 0 := by rw [pick, if_pos (by omega)]
        have hRv : R[0]'(by omega) = (ci : Int) := by rw [← hcv]; congr 1; exact hpe.symm
        have hRb := hRm 0 (by omega)
        repeat' (first
         | (with_reducible refine OL.st ?_)
         | (with_reducible refine TC.region ?_)
         | (with_reducible refine TC.seq ?_)
         | (with_reducible refine OL.nil ?_)
         | (with_reducible refine TX.thenN ?_)
         | (with_reducible refine TC.skip ?_)
         | (with_reducible refine TC.exit ?_)
         | (with_reducible refine TX.hit ?_)
         | (with_reducible refine TX.thenX ?_)
         | (with_reducible refine TC.ifD ?_ ?_ <;> (intro hc; try (exfalso; omega)))
         | fail)
        simp only [hRv]
        repeat' (first | (with_reducible refine OL.st ?_) | fail)
      all_goals
        refine OL.stG (k := ci) (ab := lf) (by omega) ?_
        have hl3 : (lf.set ci true).length = g.length := by simp [hll]
        repeat' (first
         | (with_reducible refine OL.st ?_)
         | (with_reducible refine TC.region ?_)
         | (with_reducible refine TC.seq ?_)
         | (with_reducible refine OL.nil ?_)
         | (with_reducible refine TX.thenN ?_)
         | fail)
        refine OL.stI (k := (3 + (ci : Int)).toNat) (ab := nw) (by omega) ?_
        rw [hpi, show nw.set (3 + ci) ((3 : Int) + n) = nowOf nw ci n from rfl]
        repeat' (first
         | (with_reducible refine OL.st ?_)
         | (with_reducible refine TC.region ?_)
         | (with_reducible refine TC.seq ?_)
         | (with_reducible refine OL.nil ?_)
         | (with_reducible refine TX.thenN ?_)
         | (with_reducible refine TC.block ?_)
         | fail)
        refine TC.adp 15 Tc.int 1 ?_
        refine TC.lp (fun k : Nat => [(0, rows g), (1, u8s bs), (6, .hs 0), (7, .hs 3), (8, .bp 2 0), (15, .hs 4), (30, V.int g.length), (31, V.int n), (87, ints g[ci]), (88, V.int g[ci].length), (89, V.int k)])
          (fun k => [.gs false Tc.int 1 none ((nowOf nw ci n).map V.int), .gs false Tc.bool 1 none ((lf.set ci true).map V.bool), .cb Tc.Lbool [.hs 1], .gs false Tc.Lint 1 none (ot.map ints), .gs false Tc.int 1 none (((g[ci].take k).map fun p => (nowOf nw ci n).getD p.toNat 0).map V.int)]) (fun k => k ≤ g[ci].length) (fun k => g[ci].length - k) 0 [0, 1, 2, 3, 5] (Nat.zero_le _) ?_
        rintro k hk
        by_cases hkl : k < g[ci].length
        · have hpr := hrow.2.1 g[ci][k] (List.getElem_mem _)
          have hgn : (nowOf nw ci n).getD g[ci][k].toNat 0 = (nowOf nw ci n)[g[ci][k].toNat]'(by omega) := getD_lt (by omega)
          have e : ((g[ci].take k).map fun p => (nowOf nw ci n).getD p.toNat 0).map V.int ++ [V.int ((nowOf nw ci n)[g[ci][k].toNat]'(by omega))] = ((g[ci].take (k + 1)).map fun p => (nowOf nw ci n).getD p.toNat 0).map V.int := by
            rw [take_succ hkl, List.map_append, List.map_append, ← hgn]; rfl
          repeat' (first
           | (with_reducible refine OL.st ?_)
           | (with_reducible refine OL.lit ?_)
           | (with_reducible refine OL.appO ?_)
           | (with_reducible refine TC.region ?_)
           | (with_reducible refine TC.seq ?_)
           | (with_reducible refine OL.nil ?_)
           | (with_reducible refine TX.thenN ?_)
           | (with_reducible refine TC.block ?_)
           | (with_reducible refine TC.skip ?_)
           | (with_reducible refine TX.blkN ?_)
           | (with_reducible refine TC.ifD ?_ ?_ <;> (intro hc; try (exfalso; omega)))
           | fail)
          exact TX.rd (k + 1) [0, 1, 2, 3, 6] (by omega) (by omega)
        · have ek : g[ci].take k = g[ci] := take_all (by omega)
          rw [ek]
          refine TC.vw 15 ?_
          have e1 : (nowOf nw ci n).map V.int = (tRun g bs (n + 1)).now.map V.int := by rw [h1]
          have e2 : (lf.set ci true).map V.bool = (tRun g bs (n + 1)).left.map V.bool := by rw [h2]
          have e3 : ot.map ints ++ [ints (g[ci].map fun p => (nowOf nw ci n).getD p.toNat 0)] = (tRun g bs (n + 1)).out.map ints := by rw [h3]; simp
          repeat' (first
           | (with_reducible refine OL.st ?_)
           | (with_reducible refine OL.lit ?_)
           | (with_reducible refine OL.appO ?_)
           | (with_reducible refine TC.region ?_)
           | (with_reducible refine TC.seq ?_)
           | (with_reducible refine OL.nil ?_)
           | (with_reducible refine TX.thenN ?_)
           | (with_reducible refine TX.blkN ?_)
           | (with_reducible refine TC.exit ?_)
           | (with_reducible refine TX.hit ?_)
           | (with_reducible refine TX.thenX ?_)
           | (with_reducible refine TC.ifD ?_ ?_ <;> (intro hc; try (exfalso; omega)))
           | fail)
          exact TX.rd (n + 1) [0, 1, 2, 6] (by omega) (by omega)
  · obtain rfl : g.length = n := by omega
    generalize tRun g bs g.length = s at *
    repeat' (first
     | (with_reducible refine OL.st ?_)
     | (with_reducible refine TC.region ?_)
     | (with_reducible refine TC.seq ?_)
     | (with_reducible refine OL.nil ?_)
     | (with_reducible refine TX.thenN ?_)
     | (with_reducible refine TC.exit ?_)
     | (with_reducible refine TX.hit ?_)
     | (with_reducible refine TX.thenX ?_)
     | (with_reducible refine TC.ifD ?_ ?_ <;> (intro hc; try (exfalso; omega)))
     | (with_reducible refine TC.ret ?_)
     | fail)
    refine TX.vw 4 ?_
    refine TX.vw 5 ?_
    exact TX.rt2 [] (.sl' rfl) (.sl' rfl)
set_option maxHeartbeats 4000000 in
theorem s_law03_LineTurned (g : List (List Int)) (bs : List Int) (kb : ∀ x ∈ bs, (Lit.int .u8 x).wf = true) : V.Spec Try.prog Fc.law03_LineTurned [rows g, u8s bs] [] (V.bool true) [] := by
  refine V.Spec.enter Try.tabOK Try.mixed Fn.law03_LineTurned rfl rfl rfl fun B hB => ?_
  repeat' (first
   | (with_reducible refine OL.st ?_)
   | (with_reducible refine TC.region ?_)
   | (with_reducible refine TC.seq ?_)
   | (with_reducible refine OL.nil ?_)
   | (with_reducible refine TX.thenN ?_)
   | fail)
  refine OL.c (s_law03_wide g) Fn.law03_wide ?_
  cases hw : wideR g
  · repeat' (first | (with_reducible refine OL.st ?_) | (with_reducible refine OL.gOn ?_) | fail)
    refine OL.c (s_law03_formed g) Fn.law03_formed ?_
    cases hf : fine g
    · repeat' (first
       | (with_reducible refine OL.st ?_)
       | (with_reducible refine TC.region ?_)
       | (with_reducible refine TC.seq ?_)
       | (with_reducible refine OL.nil ?_)
       | (with_reducible refine TX.thenN ?_)
       | (with_reducible refine TC.ifT ?_)
       | (with_reducible refine OL.gOn ?_)
       | fail)
      refine OL.c s_law03_works Fn.law03_works ?_
      repeat' (first
       | (with_reducible refine OL.st ?_)
       | (with_reducible refine OL.nil ?_)
       | (with_reducible refine TX.thenN ?_)
       | (with_reducible refine TC.ret ?_)
       | (with_reducible refine TX.thenR ?_)
       | fail)
      exact TX.rt1 [] (.ren rfl)
    · have h16 := fine_len hf
      have I := turned_iso hf bs
      have htu := s_law03_Turned hf bs kb
      have hnl := (tInv hf bs g.length (Nat.le_refl _)).nl
      generalize (tRun g bs g.length).out = h at *
      generalize (tRun g bs g.length).now = nw at *
      obtain ⟨N, hN⟩ : ∃ N, N = 3 + g.length := ⟨_, rfl⟩
      rw [← hN] at I hnl
      have hfv : ∀ c (hc : c < nw.length), renF N nw (c : Int) = nw[c] := fun c hc => by
        rw [renF, if_pos (by omega), Int.toNat_natCast, getD_lt hc]
      repeat' (first
       | (with_reducible refine OL.st ?_)
       | (with_reducible refine TC.region ?_)
       | (with_reducible refine TC.seq ?_)
       | (with_reducible refine OL.nil ?_)
       | (with_reducible refine TX.thenN ?_)
       | (with_reducible refine TC.skip ?_)
       | (with_reducible refine TC.ifF ?_)
       | (with_reducible refine OL.gOn ?_)
       | fail)
      refine OL.c htu Fn.law03_Turned ?_
      repeat' (first
       | (with_reducible refine OL.st ?_)
       | (with_reducible refine TC.region ?_)
       | (with_reducible refine TC.seq ?_)
       | (with_reducible refine OL.nil ?_)
       | (with_reducible refine TX.thenN ?_)
       | (with_reducible refine TC.block ?_)
       | fail)
      refine TC.lp (fun a : Nat => [(0, rows g), (5, rows h), (6, ints nw), (34, V.int N), (35, V.int a)]) (fun _ => []) (fun a => a ≤ N) (fun a => N - a) 0 [] (Nat.zero_le _) ?_
      rintro a ha
      by_cases haN : a < N
      · have hfa := hfv a (by omega)
        obtain ⟨d, hd, hdN⟩ := I.rng a (by omega)
        rw [hfa] at hd
        have ho := I.ord hf (a + 1) a (by omega) (by omega)
        have hok : okc g (a : Int) = true := by rw [← oks_one]; simp [oks, hf]; omega
        have hokd : okc h (d : Int) = true := by rw [← oks_one]; simp [oks, I.fine, I.len]; omega
        have hl1 := s_line_Lin g a
        have hl2 := s_line_Lin h d
        rw [linL, linE, hok, if_pos rfl, if_pos rfl] at hl1
        rw [linL, linE, hokd, if_pos rfl, if_pos rfl, ← hd, ← hfa, ho, hfa, List.length_map] at hl2
        have hor := ((orders_ok hf).1.at a).2
        have hol := nodup_length (a + 1) _ ((orders_ok hf).1.at a).1 (fun x hx => by have := hor x hx; omega)
        generalize at_ (orders g) a = o at *
        generalize (if o.length = 0 then (7 : Int) else 0) = E at *
        obtain ⟨o2, ho2e⟩ : ∃ o2, o2 = o.map (renF N nw) := ⟨_, rfl⟩
        rw [← ho2e] at hl2
        have ho3 : o2.length = o.length := by rw [ho2e]; simp
        have ho2 : ∀ i (h : i < o.length), 0 ≤ o[i] ∧ o[i].toNat < nw.length ∧ (o2[i]'(by omega)) = nw.getD o[i].toNat 0 := fun i h => by
          have h1 := hor o[i] (List.getElem_mem h)
          refine ⟨by omega, by omega, ?_⟩
          subst ho2e
          rw [List.getElem_map, renF, if_pos (by omega)]
        clear ho2e ho
        repeat' (first
         | (with_reducible refine OL.st ?_)
         | (with_reducible refine TC.region ?_)
         | (with_reducible refine TC.seq ?_)
         | (with_reducible refine OL.nil ?_)
         | (with_reducible refine TX.thenN ?_)
         | (with_reducible refine TC.block ?_)
         | (with_reducible refine TC.skip ?_)
         | (with_reducible refine TC.ifD ?_ ?_ <;> (intro hc; try (exfalso; omega)))
         | fail)
        refine OL.c hl1 Fn.line_Lin ?_
        repeat' (first
         | (with_reducible refine OL.st ?_)
         | (with_reducible refine TC.region ?_)
         | (with_reducible refine TC.seq ?_)
         | (with_reducible refine OL.nil ?_)
         | (with_reducible refine TX.thenN ?_)
         | fail)
        refine OL.c hl2 Fn.line_Lin ?_
        repeat' (first
         | (with_reducible refine OL.st ?_)
         | (with_reducible refine TC.region ?_)
         | (with_reducible refine TC.seq ?_)
         | (with_reducible refine OL.nil ?_)
         | (with_reducible refine TX.thenN ?_)
         | (with_reducible refine TC.block ?_)
         | (with_reducible refine TC.skip ?_)
         | (with_reducible refine OL.gOn ?_)
         | (with_reducible refine TC.ifD ?_ ?_ <;> (intro hc; try (exfalso; omega)))
         | (with_reducible refine OL.gD ?_ ?_ <;> (intro hc; try (exfalso; omega)))
         | fail)
        refine TC.lp (fun i : Nat => [(0, rows g), (5, rows h), (6, ints nw), (7, V.int a), (8, ints o), (10, ints o2), (34, V.int N), (35, V.int a), (63, ints o), (64, V.int o.length), (65, V.int i)]) (fun _ => []) (fun i => i ≤ o.length) (fun i => o.length - i) 0 [] (Nat.zero_le _) ?_
        rintro i hi
        by_cases hil : i < o.length
        · obtain ⟨q1, q2, q3⟩ := ho2 i hil
          rw [getD_lt q2] at q3
          repeat' (first
           | (with_reducible refine OL.st ?_)
           | (with_reducible refine TC.region ?_)
           | (with_reducible refine TC.seq ?_)
           | (with_reducible refine OL.nil ?_)
           | (with_reducible refine TX.thenN ?_)
           | (with_reducible refine TC.block ?_)
           | (with_reducible refine TC.skip ?_)
           | (with_reducible refine TX.blkN ?_)
           | (with_reducible refine TC.ifD ?_ ?_ <;> (intro hc; try (exfalso; omega)))
           | ((with_reducible refine TC.draw (id := 14) true 19 19 ?_) <;> (with_reducible refine OD.st 0 ?_) <;> (with_reducible refine OD.st 1 ?_) <;> (with_reducible refine OD.st 2 ?_) <;> (with_reducible refine OD.sD 72 ?_ ?_ <;> (intro hc; try (exfalso; omega)) <;> (first | (with_reducible refine OD.st 3 ?_) | (with_reducible refine OD.of 3 ?_))) <;> (with_reducible refine OD.st 4 ?_) <;> (with_reducible refine OD.st 5 ?_) <;> (with_reducible refine OD.st 6 ?_) <;> (with_reducible refine OD.st 7 ?_) <;> (with_reducible refine OD.st 8 ?_) <;> (with_reducible refine OD.sD 78 ?_ ?_ <;> (intro hc; try (exfalso; omega)) <;> (first | (with_reducible refine OD.st 9 ?_) | (with_reducible refine OD.of 9 ?_))) <;> (with_reducible refine OD.st 10 ?_) <;> (with_reducible refine OD.st 11 ?_) <;> (with_reducible refine OD.st 12 ?_) <;> (with_reducible refine OD.st 13 ?_) <;> (with_reducible refine OD.st 14 ?_) <;> (with_reducible refine OD.st 15 ?_) <;> (with_reducible refine OD.st 16 ?_) <;> (with_reducible refine OD.st 17 ?_) <;> (with_reducible refine OD.st 18 ?_) <;> (with_reducible refine OD.dn ?_))
           | fail)
          exact TX.rd (i + 1) [] (by omega) (by omega)
        · repeat' (first
           | (with_reducible refine OL.st ?_)
           | (with_reducible refine TC.region ?_)
           | (with_reducible refine TC.seq ?_)
           | (with_reducible refine OL.nil ?_)
           | (with_reducible refine TX.thenN ?_)
           | (with_reducible refine TC.block ?_)
           | (with_reducible refine TC.exit ?_)
           | (with_reducible refine TX.hit ?_)
           | (with_reducible refine TX.thenX ?_)
           | (with_reducible refine TC.ifD ?_ ?_ <;> (intro hc; try (exfalso; omega)))
           | fail)
          refine TC.lp (fun b : Nat => [(0, rows g), (5, rows h), (6, ints nw), (7, V.int a), (34, V.int N), (35, V.int a), (91, V.int N), (92, V.int b)]) (fun _ => []) (fun b => b ≤ N) (fun b => N - b) 0 [] (Nat.zero_le _) ?_
          rintro b hb
          by_cases hbN : b < N
          · have hfb := hfv b (by omega)
            obtain ⟨d2, hd2, hdN2⟩ := I.rng b (by omega)
            have hu := I.up hf (b := b) (by omega) (a + 1) a (by omega) (by omega)
            have h1 := s_line_Below g a b
            have h2 := s_line_Below h (nw[a]'(by omega)) (nw[b]'(by omega))
            rw [belR, oks_pair hf (a := a) (b := b) (by omega) (by omega), Bool.true_and, show okE true = 0 from rfl] at h1
            rw [belR, oks_pair I.fine (a := nw[a]'(by omega)) (b := nw[b]'(by omega)) (by rw [hd, I.len]; omega) (by rw [← hfb, hd2, I.len]; omega), Bool.true_and, ← hfa, ← hfb, hu, hfa, hfb, show okE true = 0 from rfl] at h2
            repeat' (first
             | (with_reducible refine OL.st ?_)
             | (with_reducible refine TC.region ?_)
             | (with_reducible refine TC.seq ?_)
             | (with_reducible refine OL.nil ?_)
             | (with_reducible refine TX.thenN ?_)
             | (with_reducible refine TC.block ?_)
             | (with_reducible refine TC.skip ?_)
             | (with_reducible refine TC.ifD ?_ ?_ <;> (intro hc; try (exfalso; omega)))
             | fail)
            refine OL.c h1 Fn.line_Below ?_
            repeat' (first
             | (with_reducible refine OL.st ?_)
             | (with_reducible refine TC.seq ?_)
             | (with_reducible refine OL.nil ?_)
             | (with_reducible refine TX.thenN ?_)
             | fail)
            (with_reducible refine TC.draw (id := 21) true 15 15 ?_) <;> (with_reducible refine OD.st 0 ?_) <;> (with_reducible refine OD.st 1 ?_) <;> (with_reducible refine OD.st 2 ?_) <;> (with_reducible refine OD.st 3 ?_) <;> (with_reducible refine OD.st 4 ?_) <;> (with_reducible refine OD.st 5 ?_) <;> (with_reducible refine OD.st 6 ?_) <;> (with_reducible refine OD.st 7 ?_) <;> (with_reducible refine OD.st 8 ?_) <;> (with_reducible refine OD.c1 9 h2 Fn.line_Below ?_) <;> (with_reducible refine OD.st 10 ?_) <;> (with_reducible refine OD.st 11 ?_) <;> (with_reducible refine OD.st 12 ?_) <;> (with_reducible refine OD.st 13 ?_) <;> (with_reducible refine OD.st 14 ?_) <;> (with_reducible refine OD.dn ?_)
            repeat' (first
             | (with_reducible refine OL.st ?_)
             | (with_reducible refine TC.region ?_)
             | (with_reducible refine TC.seq ?_)
             | (with_reducible refine TX.thenN ?_)
             | fail)
            refine OL.neBl Try.underlying4 ?_
            rw [beq_self_eq_true]
            repeat' (first
             | (with_reducible refine OL.st ?_)
             | (with_reducible refine TC.region ?_)
             | (with_reducible refine OL.nil ?_)
             | (with_reducible refine TX.thenN ?_)
             | (with_reducible refine TC.skip ?_)
             | (with_reducible refine TX.blkN ?_)
             | (with_reducible refine TC.ifF ?_)
             | (with_reducible refine OL.gOn ?_)
             | fail)
            exact TX.rd (b + 1) [] (by omega) (by omega)
          · repeat' (first
             | (with_reducible refine OL.st ?_)
             | (with_reducible refine TC.region ?_)
             | (with_reducible refine TC.seq ?_)
             | (with_reducible refine OL.nil ?_)
             | (with_reducible refine TX.thenN ?_)
             | (with_reducible refine TX.blkN ?_)
             | (with_reducible refine TC.exit ?_)
             | (with_reducible refine TX.hit ?_)
             | (with_reducible refine TX.thenX ?_)
             | (with_reducible refine TC.ifD ?_ ?_ <;> (intro hc; try (exfalso; omega)))
             | fail)
            exact TX.rd (a + 1) [] (by omega) (by omega)
      · repeat' (first
         | (with_reducible refine OL.st ?_)
         | (with_reducible refine TC.region ?_)
         | (with_reducible refine TC.seq ?_)
         | (with_reducible refine OL.nil ?_)
         | (with_reducible refine TX.thenN ?_)
         | (with_reducible refine TC.exit ?_)
         | (with_reducible refine TX.hit ?_)
         | (with_reducible refine TX.thenX ?_)
         | (with_reducible refine TC.ifD ?_ ?_ <;> (intro hc; try (exfalso; omega)))
         | fail)
        refine OL.c s_law03_works Fn.law03_works ?_
        repeat' (first
         | (with_reducible refine OL.st ?_)
         | (with_reducible refine OL.nil ?_)
         | (with_reducible refine TX.thenN ?_)
         | (with_reducible refine TC.ret ?_)
         | fail)
        exact TX.rt1 [] (.ren rfl)
  · repeat' (first
     | (with_reducible refine OL.st ?_)
     | (with_reducible refine TC.region ?_)
     | (with_reducible refine TC.seq ?_)
     | (with_reducible refine OL.nil ?_)
     | (with_reducible refine TX.thenN ?_)
     | (with_reducible refine TC.ifT ?_)
     | (with_reducible refine OL.gOff ?_)
     | fail)
    refine OL.c s_law03_works Fn.law03_works ?_
    repeat' (first
     | (with_reducible refine OL.st ?_)
     | (with_reducible refine OL.nil ?_)
     | (with_reducible refine TX.thenN ?_)
     | (with_reducible refine TC.ret ?_)
     | (with_reducible refine TX.thenR ?_)
     | fail)
    exact TX.rt1 [] (.ren rfl)
end Go.Proofs
