/- Part 1 of what the claim is proved by: lemmas on the model and walks through functions of the program; no conditions. -/
import Derived.Test.YthoblhbdeamjmaaD1
import Derived.Test.YthoblhbdeamjmaaY1
import Derived.Test.YthoblhbdeamjmaaC1
/- LineTests: plain laws on numberings, and on the spans of a set. -/
namespace Go.Proofs
open Go Go.W Go.V
/-! ### In whose branches a class lies -/
def stN (P : List (List Int)) (x : Nat) : Nat := (stemOf P x).toNat
inductive Anc (P : List (List Int)) : Nat → Nat → Prop
  | refl (c) : Anc P c c
  | step {c x} (h1 : 1 ≤ x) (h2 : x < P.length) (h : Anc P c (stN P x)) : Anc P c x
/-- Stems lie ahead. -/
def Stem (P : List (List Int)) : Prop := ∀ a : Nat, 1 ≤ a → a < P.length → 0 ≤ stemOf P a ∧ stemOf P a < a
theorem Stem.lt {P} (h : Stem P) {a : Nat} (h1 : 1 ≤ a) (h2 : a < P.length) : stN P a < a := by have := h a h1 h2; unfold stN; omega
theorem Anc.le {P} (hs : Stem P) {c x : Nat} (h : Anc P c x) : c ≤ x := by
  induction h with
  | refl => exact Nat.le_refl _
  | step h1 h2 _ ih => have := hs.lt h1 h2; omega
theorem Anc.trans {P} {c a x : Nat} (h1 : Anc P c a) (h : Anc P a x) : Anc P c x := by
  induction h with
  | refl => exact h1
  | step h2 h3 _ ih => exact .step h2 h3 ih
theorem Anc.lin {P} {a b x : Nat} (h : Anc P a x) : Anc P b x → Anc P a b ∨ Anc P b a := by
  induction h with
  | refl => exact .inr
  | step h1 h2 h ih =>
    intro hb
    cases hb with
    | refl => exact .inl (.step h1 h2 h)
    | step _ _ hb => exact ih hb
theorem Anc.apart {P} (hs : Stem P) {a b x : Nat} (ha : 1 ≤ a ∧ a < P.length) (hb : 1 ≤ b ∧ b < P.length) (hst : stN P a = stN P b) (h1 : Anc P a x) (h2 : Anc P b x) : a = b := by
  rcases h1.lin h2 with h | h
  · cases h with
    | refl => rfl
    | step _ _ h => rw [← hst] at h; have := h.le hs; have := hs.lt ha.1 ha.2; omega
  · cases h with
    | refl => rfl
    | step _ _ h => rw [hst] at h; have := h.le hs; have := hs.lt hb.1 hb.2; omega
theorem Anc.top {P} {c x : Nat} (h : Anc P c x) : c = x ∨ ∃ a, 1 ≤ a ∧ a < P.length ∧ stN P a = c ∧ Anc P a x := by
  induction h with
  | refl => exact .inl rfl
  | @step x h1 h2 h ih =>
    rcases ih with e | ⟨a, a1, a2, a3, a4⟩
    · exact .inr ⟨x, h1, h2, e.symm, .refl _⟩
    · exact .inr ⟨a, a1, a2, a3, .step h1 h2 a4⟩
theorem Anc.zero {P} (hs : Stem P) : ∀ n x : Nat, x < n → x < P.length → Anc P 0 x
  | 0, _, h, _ => by omega
  | n + 1, x, h, hx => by
    by_cases h0 : x = 0
    · subst h0; exact .refl _
    · have := hs.lt (by omega) hx
      exact .step (by omega) hx (Anc.zero hs n _ (by omega) (by omega))
/-! ### What is in a branch -/
theorem treeF_succ (P : List (List Int)) (n : Nat) (c : Int) : treeF P (n + 1) c = c :: segT P (fun a => treeF P n a) c P.length := rfl
theorem mem_segT {P : List (List Int)} {Br : Nat → List Int} {c : Int} {N : Nat} {x : Int} : x ∈ segT P Br c N ↔ ∃ a, 1 ≤ a ∧ a < N ∧ stemOf P a = c ∧ x ∈ Br a := by
  have hd : ∀ a, a ∈ (List.range N).drop 1 ↔ 1 ≤ a ∧ a < N := fun a => by
    rw [List.mem_drop_iff_getElem]
    constructor
    · rintro ⟨i, hi, rfl⟩; simp at hi ⊢; omega
    · rintro ⟨h1, h2⟩; exact ⟨a - 1, by simp; omega, by simp; omega⟩
  rw [segT, List.mem_flatMap]
  constructor
  · rintro ⟨a, ha, hx⟩
    split at hx
    · exact ⟨a, ((hd a).1 ha).1, ((hd a).1 ha).2, by assumption, hx⟩
    · simp at hx
  · rintro ⟨a, h1, h2, h3, h4⟩
    exact ⟨a, (hd a).2 ⟨h1, h2⟩, by rw [if_pos h3]; exact h4⟩
theorem stN_eq {P} (hs : Stem P) {a : Nat} (h1 : 1 ≤ a) (h2 : a < P.length) {c : Nat} : stemOf P a = (c : Int) ↔ stN P a = c := by
  have := hs a h1 h2; unfold stN; omega
theorem treeF_anc {P} (hs : Stem P) : ∀ (n c : Nat) (x : Int), c < P.length → x ∈ treeF P n c → ∃ y : Nat, x = y ∧ y < P.length ∧ Anc P c y
  | 0, c, x, hc, h => by
    have : x = c := by simpa [treeF] using h
    exact ⟨c, this, hc, .refl _⟩
  | n + 1, c, x, hc, h => by
    rw [treeF_succ, List.mem_cons, mem_segT] at h
    rcases h with h | ⟨a, h1, h2, h3, h4⟩
    · exact ⟨c, h, hc, .refl _⟩
    · obtain ⟨y, e, hy, ha⟩ := treeF_anc hs n a x h2 h4
      have := (stN_eq hs h1 h2).1 h3
      exact ⟨y, e, hy, .trans (.step h1 h2 (this ▸ .refl _)) ha⟩
theorem anc_treeF {P} (hs : Stem P) : ∀ (n c x : Nat), P.length ≤ c + n + 1 → x < P.length → Anc P c x → (x : Int) ∈ treeF P n c
  | 0, c, x, hn, hx, h => by
    have := h.le hs
    obtain rfl : x = c := by omega
    simp [treeF]
  | n + 1, c, x, hn, hx, h => by
    rw [treeF_succ, List.mem_cons, mem_segT]
    rcases h.top with e | ⟨a, h1, h2, h3, h4⟩
    · left; rw [e]
    · have := hs.lt h1 h2
      exact .inr ⟨a, h1, h2, (stN_eq hs h1 h2).2 h3, anc_treeF hs n a x (by omega) hx h4⟩
theorem segT_nodup {P} (hs : Stem P) {Br : Nat → List Int} {c : Nat} (hBr : ∀ a, 1 ≤ a → a < P.length → stN P a = c → (Br a).Nodup ∧ ∀ x ∈ Br a, ∃ y : Nat, x = y ∧ Anc P a y) : ∀ N, N ≤ P.length → (segT P Br c N).Nodup
  | 0, _ => by simp [segT]
  | 1, _ => by simp [segT]
  | N + 2, h => by
    rw [segT_succ P Br c (show 1 ≤ N + 1 by omega)]
    split
    · rename_i hst
      have hst := (stN_eq hs (show 1 ≤ N + 1 by omega) (by omega)).1 hst
      have hb := hBr (N + 1) (by omega) (by omega) hst
      rw [List.nodup_append]
      refine ⟨segT_nodup hs hBr (N + 1) (by omega), hb.1, fun x hx y hy e => ?_⟩
      subst e
      obtain ⟨a, h1, h2, h3, h4⟩ := mem_segT.1 hx
      have h3 := (stN_eq hs h1 (by omega)).1 h3
      obtain ⟨y1, e1, ha1⟩ := (hBr a h1 (by omega) h3).2 x h4
      obtain ⟨y2, e2, ha2⟩ := hb.2 x hy
      obtain rfl : y1 = y2 := by omega
      have := Anc.apart hs ⟨h1, by omega⟩ ⟨show 1 ≤ N + 1 by omega, by omega⟩ (h3.trans hst.symm) ha1 ha2
      omega
    · rw [List.append_nil]; exact segT_nodup hs hBr (N + 1) (by omega)
theorem treeF_nodup {P} (hs : Stem P) : ∀ (n c : Nat), c < P.length → (treeF P n c).Nodup
  | 0, c, _ => by simp [treeF]
  | n + 1, c, hc => by
    rw [treeF_succ, List.nodup_cons]
    refine ⟨fun h => ?_, segT_nodup hs (fun a h1 h2 _ => ⟨treeF_nodup hs n a h2, fun x hx => by obtain ⟨y, e, _, h⟩ := treeF_anc hs n a x h2 hx; exact ⟨y, e, h⟩⟩) _ (Nat.le_refl _)⟩
    obtain ⟨a, h1, h2, h3, h4⟩ := mem_segT.1 h
    obtain ⟨y, e, _, ha⟩ := treeF_anc hs n a _ h2 h4
    have := ha.le hs
    have := hs.lt h1 h2
    have := (stN_eq hs h1 h2).1 h3
    omega
theorem treeF_seg {P} (hs : Stem P) {c : Nat} (hc : c < P.length) (h : Anc P 0 c) : ∃ A B n, treeF P P.length ((0 : Nat) : Int) = A ++ (treeF P n c ++ B) ∧ P.length ≤ c + n + 1 := by
  have key : ∀ {b}, Anc P b c → b = 0 → ∃ A B n, treeF P P.length ((0 : Nat) : Int) = A ++ (treeF P n c ++ B) ∧ P.length ≤ c + n + 1 := by
    intro b h
    induction h with
    | refl =>
      rintro rfl; exact ⟨[], [], P.length, by simp, by omega⟩
    | @step x h1 h2 h ih =>
      intro e
      have hlt := hs.lt h1 h2
      obtain ⟨A, B, n, e1, hn⟩ := ih (by omega) (by subst e; exact h) e
      obtain ⟨n, rfl⟩ : ∃ k, n = k + 1 := ⟨n - 1, by omega⟩
      obtain ⟨r, hr⟩ := segT_split P (fun a => treeF P n a) (stN P x : Int) h1 P.length h2
      rw [if_pos ((stN_eq hs h1 h2).2 rfl)] at hr
      refine ⟨A ++ ((stN P x : Int) :: segT P (fun a => treeF P n a) (stN P x : Int) x), r ++ B, n, ?_, by omega⟩
      rw [e1, treeF_succ, hr]; simp
  exact key h rfl
theorem stem_of {g : List (List Int)} (hf : fine g = true) : Stem (parentsOf g) := fun a h1 h2 => stem_lt hf h1 (by rw [parentsOf_length] at h2; exact h2)
/-! ### The program's numbering has each class once -/
theorem numL_eq {g : List (List Int)} (hf : fine g = true) : numL g = treeF (parentsOf g) (parentsOf g).length ((0 : Nat) : Int) := by rw [numL, hf, parentsOf_length]; rfl
theorem numL_nodup {g : List (List Int)} (hf : fine g = true) : (numL g).Nodup := by
  rw [numL_eq hf]; exact treeF_nodup (stem_of hf) _ 0 (by rw [parentsOf_length]; omega)
theorem numL_in {g : List (List Int)} (hf : fine g = true) {x : Int} (h : x ∈ numL g) : 0 ≤ x ∧ x < 3 + (g.length : Int) := by
  rw [numL_eq hf] at h
  obtain ⟨y, rfl, hy, _⟩ := treeF_anc (stem_of hf) _ 0 x (by rw [parentsOf_length]; omega) h
  rw [parentsOf_length] at hy; omega
theorem numL_all {g : List (List Int)} (hf : fine g = true) {x : Nat} (h : x < 3 + g.length) : (x : Int) ∈ numL g := by
  rw [numL_eq hf]
  have hp := parentsOf_length g
  exact anc_treeF (stem_of hf) _ 0 x (by omega) (by omega) (Anc.zero (stem_of hf) (x + 1) x (by omega) (by omega))
theorem numL_length {g : List (List Int)} (hf : fine g = true) : (numL g).length = 3 + g.length := by
  have h1 := nodup_length (3 + g.length) (numL g) (numL_nodup hf) (fun x hx => by have := numL_in hf hx; omega)
  have h2 := cover_length (3 + g.length) (numL g) (fun b h0 hb => by
    obtain ⟨b, rfl⟩ := Int.eq_ofNat_of_zero_le h0
    exact numL_all hf (by omega))
  omega
/-- A numbering: each class once. -/
def NumOk (g : List (List Int)) (num : List Int) : Prop := num.length = 3 + g.length ∧ num.Nodup ∧ ∀ x ∈ num, 0 ≤ x ∧ x < 3 + (g.length : Int)
theorem NumOk.own {g : List (List Int)} (hf : fine g = true) : NumOk g (numL g) := ⟨numL_length hf, numL_nodup hf, fun _ h => numL_in hf h⟩
theorem NumOk.spans {g : List (List Int)} (hf : fine g = true) {num : List Int} (h : NumOk g num) : spansOk g num = true := by
  rw [spansOk_eq hf h.1, okPre_iff]
  exact ⟨fun x hx => ⟨by have := h.2.2 x hx; simp [isClass, this.1, this.2], by simp⟩, h.2.1⟩
/-! ### Where no class has two parents -/
def treeB (g : List (List Int)) : Bool := !g.any fun l => decide (1 < l.length)
theorem treeB_pOf {g : List (List Int)} (h : treeB g = true) {a : Nat} (ha : a < 3 + g.length) : (pOf g a).length ≤ 1 := by
  by_cases h3 : (a : Int) < 3
  · rw [pOf_lt h3]; simp
  · rw [pOf_ge (by omega), getD_lt (by omega)]
    simp only [treeB, Bool.not_eq_true', List.any_eq_false, decide_eq_true_eq] at h
    have := h _ (List.getElem_mem (l := g) (n := ((a : Int) - 3).toNat) (by omega))
    omega
theorem up_anc {g : List (List Int)} (hf : fine g = true) (ht : treeB g = true) {c : Nat} (hc : c < 3 + g.length) : ∀ n x : Nat, x < n → x < 3 + g.length → (upHas g x c = true ↔ Anc (parentsOf g) c x) := by
  have h16 := fine_len hf
  have hpl := parentsOf_length g
  have hs := stem_of hf
  intro n
  induction n with
  | zero => intro x h; omega
  | succ n ih =>
    intro x hxn hx
    have h1 := treeB_pOf ht hx
    have hst := stemOf_eq hx
    rw [upHas_step hf hx (by omega) (by omega)]
    simp only [Bool.or_eq_true, decide_eq_true_eq]
    match hp : pOf g x, h1 with
    | [], _ =>
      rw [hp] at hst
      have hst : stN (parentsOf g) x = 0 := by unfold stN; rw [hst]; rfl
      constructor
      · rintro ((h | h) | h)
        · obtain rfl : c = x := by omega
          exact .refl _
        · obtain rfl : c = 0 := by omega
          exact Anc.zero hs (x + 1) x (by omega) (by omega)
        · simp at h
      · intro h
        cases h with
        | refl => left; left; rfl
        | step a1 a2 h => rw [hst] at h; have := h.le hs; left; right; omega
    | [p], _ =>
      have hpp := (fine_pOf hf (c := (x : Int)) (by omega)).2.1 p (by rw [hp]; simp)
      obtain ⟨p, rfl⟩ : ∃ q : Nat, p = (q : Int) := ⟨p.toNat, by omega⟩
      rw [hp] at hst
      have hst : stN (parentsOf g) x = p := by unfold stN; rw [hst]; simp
      have ihp := ih p (by omega) (by omega)
      rw [List.any_cons, List.any_nil, Bool.or_false]
      constructor
      · rintro ((h | h) | h)
        · obtain rfl : c = x := by omega
          exact .refl _
        · obtain rfl : c = 0 := by omega
          exact Anc.zero hs (x + 1) x (by omega) (by omega)
        · exact .step (by omega) (by omega) (hst ▸ ihp.1 h)
      · intro h
        cases h with
        | refl => left; left; rfl
        | step a1 a2 h => rw [hst] at h; exact .inr (ihp.2 h)
    | _ :: _ :: _, h1 => simp at h1
/-- In such a graph what is below a class is one run of the program's numbering. -/
theorem tree_run {g : List (List Int)} (hf : fine g = true) (ht : treeB g = true) {c : Nat} (hc : c < 3 + g.length) : ∃ A T B, numL g = A ++ (T ++ B) ∧ T ≠ [] ∧ (∀ x ∈ A, upHas g x c = false) ∧ (∀ x ∈ T, upHas g x c = true) ∧ ∀ x ∈ B, upHas g x c = false := by
  have hs := stem_of hf
  have hpl := parentsOf_length g
  obtain ⟨A, B, n, e, hn⟩ := treeF_seg hs (c := c) (by omega) (Anc.zero hs (c + 1) c (by omega) (by omega))
  have hnd := numL_nodup hf
  rw [← numL_eq hf] at e
  rw [e] at hnd
  have hnot : ∀ x ∈ A ++ B, upHas g x c = false := by
    intro x hx
    have hxn : x ∈ numL g := by rw [e]; simp at hx ⊢; rcases hx with h | h <;> simp [h]
    have hxr := numL_in hf hxn
    obtain ⟨x, rfl⟩ := Int.eq_ofNat_of_zero_le hxr.1
    cases hu : upHas g x c with
    | false => rfl
    | true =>
      have ha := (up_anc hf ht hc (x + 1) x (by omega) (by omega)).1 hu
      have hm := anc_treeF hs n c x (by omega) (by omega) ha
      rw [List.nodup_append] at hnd
      obtain ⟨_, h2, h3⟩ := hnd
      rw [List.nodup_append] at h2
      rcases List.mem_append.1 hx with h | h
      · exact absurd rfl (h3 x h x (by simp [hm]))
      · exact absurd rfl (h2.2.2 x hm x h)
  refine ⟨A, treeF (parentsOf g) n c, B, e, ?_, fun x h => hnot x (by simp [h]), fun x hx => ?_, fun x h => hnot x (by simp [h])⟩
  · cases n <;> simp [treeF]
  · obtain ⟨y, rfl, hy, ha⟩ := treeF_anc hs n c x (by omega) hx
    exact (up_anc hf ht hc (y + 1) y (by omega) (by omega)).2 ha
end Go.Proofs
/- LineTests: plain laws on spans, and on an order that swaps build. -/
namespace Go.Proofs
open Go Go.W Go.V
/-! ### Spans of a set of positions -/
def SpInv (f : Nat → Bool) (i : Nat) (l : List (Int × Int)) : Prop :=
  l.Pairwise (fun x y => x.2 + 1 < y.1) ∧ (∀ x ∈ l, 0 ≤ x.1 ∧ x.1 ≤ x.2 ∧ x.2 < i) ∧ ∀ j : Nat, l.any (inP j) = true ↔ j < i ∧ f j = true
theorem inP_iff {j : Nat} {s : Int × Int} : inP j s = true ↔ s.1 ≤ j ∧ (j : Int) ≤ s.2 := by simp [inP]
theorem spanStep_inv {f : Nat → Bool} {i : Nat} {l : List (Int × Int)} (h : SpInv f i l) (hf : f i = true) : SpInv f (i + 1) (spanStep l i) := by
  obtain ⟨h1, h2, h3⟩ := h
  rcases List.eq_nil_or_concat l with rfl | ⟨l', q, rfl⟩
  · refine ⟨by simp [spanStep], by simp [spanStep]; omega, fun j => ?_⟩
    have hj := h3 j
    simp only [List.any_nil, Bool.false_eq_true, false_iff, not_and] at hj
    simp only [spanStep, List.length_nil, Nat.lt_irrefl, false_and, if_false, List.nil_append, List.any_cons, List.any_nil, Bool.or_false, inP_iff]
    constructor
    · intro h; obtain rfl : j = i := by omega
      exact ⟨by omega, hf⟩
    · rintro ⟨h4, h5⟩
      by_cases e : j = i
      · subst e; omega
      · exact absurd h5 (hj (by omega))
  · rw [List.concat_eq_append] at h1 h2 h3 ⊢
    have hq : (l' ++ [q]).getD ((l' ++ [q]).length - 1) (0, 0) = q := by simp [List.getD_eq_getElem?_getD]
    have hq2 := h2 q (by simp)
    rw [List.pairwise_append] at h1
    obtain ⟨p1, _, p3⟩ := h1
    have p3 : ∀ x ∈ l', x.2 + 1 < q.1 := fun x hx => p3 x hx q (by simp)
    have hany : ∀ (s : Int × Int) (j : Nat), (l' ++ [s]).any (inP j) = true ↔ (∃ x ∈ l', inP j x = true) ∨ inP j s = true := fun s j => by simp [List.any_append]
    rw [spanStep, hq]
    by_cases hl : q.2 = (i : Int) - 1
    · rw [if_pos ⟨by simp, hl⟩]
      have e : (l' ++ [q]).set ((l' ++ [q]).length - 1) (q.1, (i : Int)) = l' ++ [(q.1, (i : Int))] := by simp
      rw [e]
      refine ⟨?_, fun x hx => ?_, fun j => ?_⟩
      · rw [List.pairwise_append]
        exact ⟨p1, by simp, fun x hx y hy => by simp at hy; subst hy; exact p3 x hx⟩
      · rcases List.mem_append.1 hx with hx | hx
        · have := h2 x (by simp [hx]); omega
        · simp at hx; subst hx; dsimp only; omega
      · have hj := h3 j
        rw [hany] at hj ⊢
        rw [inP_iff] at hj ⊢
        dsimp only
        constructor
        · rintro (h | h)
          · have := hj.1 (.inl h); exact ⟨by omega, this.2⟩
          · by_cases e : j = i
            · subst e; exact ⟨by omega, hf⟩
            · have := hj.1 (.inr ⟨h.1, by omega⟩); exact ⟨by omega, this.2⟩
        · rintro ⟨a1, a2⟩
          by_cases e : j = i
          · right; omega
          · rcases hj.2 ⟨by omega, a2⟩ with h | h
            · exact .inl h
            · right; omega
    · rw [if_neg (fun h => hl h.2)]
      refine ⟨?_, fun x hx => ?_, fun j => ?_⟩
      · rw [List.pairwise_append]
        refine ⟨by rw [List.pairwise_append]; exact ⟨p1, by simp, fun x hx y hy => by simp at hy; subst hy; exact p3 x hx⟩, by simp, fun x hx y hy => ?_⟩
        simp only [List.mem_singleton] at hy; subst hy
        dsimp only
        rcases List.mem_append.1 hx with hx | hx
        · have := p3 x hx; omega
        · simp at hx; subst hx; omega
      · rcases List.mem_append.1 hx with hx | hx
        · have := h2 x hx; omega
        · simp at hx; subst hx; dsimp only; omega
      · have hj := h3 j
        rw [List.any_append, Bool.or_eq_true, hj, List.any_cons, List.any_nil, Bool.or_false, inP_iff]
        dsimp only
        constructor
        · rintro (h | h)
          · exact ⟨by omega, h.2⟩
          · obtain rfl : j = i := by omega
            exact ⟨by omega, hf⟩
        · rintro ⟨a1, a2⟩
          by_cases e : j = i
          · right; omega
          · exact .inl ⟨by omega, a2⟩
theorem spanOf_inv (is : Int → Bool) (num : List Int) : ∀ (r : List Int) (i : Nat) (l : List (Int × Int)), num.drop i = r → SpInv (fun j => is (num.getD j 0)) i l → SpInv (fun j => is (num.getD j 0)) (i + r.length) (spanOf is r i l)
  | [], i, l, _, h => h
  | b :: r, i, l, hd, h => by
    have hil : i < num.length := by
      refine Classical.byContradiction fun hn => ?_
      rw [drop_nil (by omega)] at hd; cases hd
    rw [drop_cons hil] at hd
    obtain ⟨rfl, hd2⟩ := List.cons.inj hd
    rw [spanOf]
    have hfi : ∀ t, is num[i] = t → (fun j => is (num.getD j 0)) i = t := fun t h => by dsimp only; rw [getD_lt hil]; exact h
    have := spanOf_inv is num r (i + 1) (if is num[i] then spanStep l i else l) hd2 (by
      cases hb : is num[i] with
      | true => exact spanStep_inv h (hfi _ hb)
      | false =>
        refine ⟨h.1, fun x hx => by have := h.2.1 x hx; omega, fun j => ?_⟩
        simp only [Bool.false_eq_true, if_false]
        rw [h.2.2 j]
        constructor
        · rintro ⟨h1, h2⟩; exact ⟨by omega, h2⟩
        · rintro ⟨h1, h2⟩
          refine ⟨?_, h2⟩
          by_cases e : j = i
          · subst e; exact absurd ((hfi _ hb).symm.trans h2) (by simp)
          · omega)
    rw [List.length_cons, show i + (r.length + 1) = i + 1 + r.length by omega]
    exact this
/-- Whether spans are apart. -/
def apAt (l : List (Int × Int)) (i : Nat) : Bool := decide ((l.getD i (0, 0)).2 < (l.getD i (0, 0)).1) || (decide (0 < i) && decide ((l.getD i (0, 0)).1 ≤ (l.getD (i - 1) (0, 0)).2 + 1))
def apB (l : List (Int × Int)) : Bool := !(List.range l.length).any (apAt l)
theorem apAt_eq {l : List (Int × Int)} {i : Nat} (hi : i < l.length) : apAt l i = (decide (l[i].2 < l[i].1) || (decide (0 < i) && decide (l[i].1 ≤ (l[i - 1]'(by omega)).2 + 1))) := by
  rw [apAt, getD_lt hi, getD_lt (show i - 1 < l.length by omega)]
theorem spans_law (is : Int → Bool) (num : List Int) : apB (spanOf is num 0 []) = true ∧ badSp (spanOf is num 0 []) = false ∧ ∀ j : Nat, (h : j < num.length) → inR (spanOf is num 0 []) j = is num[j] := by
  have h := spanOf_inv is num num 0 [] (by simp) ⟨by simp, by simp, by simp⟩
  rw [Nat.zero_add] at h
  generalize spanOf is num 0 [] = l at h
  obtain ⟨h1, h2, h3⟩ := h
  have hp : ∀ i (hi : i < l.length), apAt l i = false := fun i hi => by
    rw [apAt_eq hi, Bool.or_eq_false_iff]
    have := h2 l[i] (List.getElem_mem _)
    refine ⟨decide_eq_false (by omega), ?_⟩
    by_cases h0 : 0 < i
    · have := List.pairwise_iff_getElem.1 h1 (i - 1) i (by omega) hi (by omega)
      rw [decide_eq_true h0, Bool.true_and]; exact decide_eq_false (by omega)
    · rw [decide_eq_false h0, Bool.false_and]
  have hb : badSp l = false := by
    rw [badSp, List.any_eq_false]
    intro i hi
    rw [List.mem_range] at hi
    have := hp i hi
    rw [apAt_eq hi] at this
    rw [badAt_eq hi]
    simp at this ⊢
    omega
  refine ⟨?_, hb, fun j hj => ?_⟩
  · rw [apB, Bool.not_eq_true', List.any_eq_false]
    intro i hi
    rw [hp i (List.mem_range.1 hi)]; simp
  · rw [inR, hb, Bool.not_false, Bool.true_and, Bool.eq_iff_iff, h3 j]
    dsimp only
    rw [getD_lt hj]
    exact ⟨fun h => h.2, fun h => ⟨hj, h⟩⟩
/-- One run has one span. -/
theorem spanOf_skip (is : Int → Bool) : ∀ (A r : List Int) (i : Int) (l : List (Int × Int)), (∀ x ∈ A, is x = false) → spanOf is (A ++ r) i l = spanOf is r (i + A.length) l
  | [], r, i, l, _ => by simp
  | a :: A, r, i, l, h => by
    rw [List.cons_append, spanOf, h a (by simp)]
    simp only [Bool.false_eq_true, if_false]
    rw [spanOf_skip is A r (i + 1) l (fun x hx => h x (by simp [hx])), List.length_cons]
    congr 1; omega
theorem spanOf_run (is : Int → Bool) : ∀ (T r : List Int) (lo hi : Int), (∀ x ∈ T, is x = true) → spanOf is (T ++ r) (hi + 1) [(lo, hi)] = spanOf is r (hi + 1 + T.length) [(lo, hi + T.length)]
  | [], r, lo, hi, _ => by simp
  | a :: T, r, lo, hi, h => by
    rw [List.cons_append, spanOf, h a (by simp)]
    have e : spanStep [(lo, hi)] (hi + 1) = [(lo, hi + 1)] := by
      have : hi = hi + 1 - 1 := by omega
      simp [spanStep, ← this]
    simp only [if_true]
    rw [e, spanOf_run is T r lo (hi + 1) (fun x hx => h x (by simp [hx])), List.length_cons]
    congr 1
    · omega
    · congr 2; omega
theorem spanOf_one (is : Int → Bool) {A T B : List Int} (hT : T ≠ []) (h1 : ∀ x ∈ A, is x = false) (h2 : ∀ x ∈ T, is x = true) (h3 : ∀ x ∈ B, is x = false) : (spanOf is (A ++ (T ++ B)) 0 []).length = 1 := by
  rw [spanOf_skip is A _ _ _ h1]
  cases T with
  | nil => exact absurd rfl hT
  | cons a T =>
    rw [List.cons_append, spanOf, h2 a (by simp)]
    simp only [if_true]
    have e : ∀ i : Int, spanStep [] i = [(i, i)] := fun i => by simp [spanStep]
    rw [e, spanOf_run is T B _ _ (fun x hx => h2 x (by simp [hx]))]
    have := spanOf_skip is B [] (0 + ↑A.length + 1 + ↑T.length) [(0 + ↑A.length, 0 + ↑A.length + ↑T.length)] h3
    rw [List.append_nil] at this
    rw [this]; rfl
theorem tree_span {g : List (List Int)} (hf : fine g = true) (ht : treeB g = true) {c : Nat} (hc : c < 3 + g.length) : (spanOf (fun b => upHas g b c) (numL g) 0 []).length = 1 := by
  obtain ⟨A, T, B, e, hT, h1, h2, h3⟩ := tree_run hf ht hc
  rw [e]; exact spanOf_one _ hT h1 h2 h3
/-! ### An order that swaps build -/
def swapAt (o : List Int) (i j : Nat) : List Int := (o.set i (o.getD j 0)).set j i
def SwInv (N i : Nat) (o : List Int) : Prop := o.length = N ∧ (∀ x ∈ o, 0 ≤ x ∧ x < (N : Int)) ∧ ∀ b : Nat, b < i → ∃ k, ∃ h : k < o.length, k < i ∧ o[k] = (b : Int)
theorem SwInv.start {N : Nat} (hN : 0 < N) : SwInv N 0 (List.replicate N 0) := ⟨by simp, fun x hx => by rw [List.mem_replicate] at hx; omega, fun b h => by omega⟩
theorem SwInv.next {N i : Nat} {o : List Int} (h : SwInv N i o) (hi : i < N) {j : Nat} (hj : j ≤ i) : SwInv N (i + 1) (swapAt o i j) := by
  obtain ⟨h1, h2, h3⟩ := h
  have hgj : o.getD j 0 = o[j]'(by omega) := getD_lt (by omega)
  have hgo : ∀ k (hk : k < (swapAt o i j).length), (swapAt o i j)[k] = if j = k then (i : Int) else if i = k then o[j]'(by omega) else o[k]'(by simp [swapAt] at hk; omega) := fun k hk => by
    simp only [swapAt, List.getElem_set, hgj]
  have hl : (swapAt o i j).length = N := by simp [swapAt, h1]
  refine ⟨hl, fun x hx => ?_, fun b hb => ?_⟩
  · obtain ⟨k, hk, rfl⟩ := List.mem_iff_getElem.1 hx
    rw [hgo k hk]
    split
    · omega
    · split
      · exact h2 _ (List.getElem_mem _)
      · exact h2 _ (List.getElem_mem _)
  · by_cases e : b = i
    · subst e
      exact ⟨j, by omega, by omega, by rw [hgo, if_pos rfl]⟩
    · obtain ⟨k, hk, hki, hv⟩ := h3 b (by omega)
      by_cases ej : j = k
      · subst ej
        refine ⟨i, by omega, by omega, ?_⟩
        rw [hgo, if_neg (by omega), if_pos rfl]; exact hv
      · refine ⟨k, by omega, by omega, ?_⟩
        rw [hgo, if_neg ej, if_neg (by omega)]; exact hv
theorem SwInv.num {g : List (List Int)} {o : List Int} (h : SwInv (3 + g.length) (3 + g.length) o) : NumOk g o := by
  obtain ⟨h1, h2, h3⟩ := h
  refine ⟨h1, nodup_of_cover (N := 3 + g.length) (fun b h0 hb => ?_) h2 h1, fun x hx => by have := h2 x hx; omega⟩
  obtain ⟨k, hk, _, e⟩ := h3 b.toNat (by omega)
  rw [show b = (b.toNat : Int) by omega, ← e]; exact List.getElem_mem _
end Go.Proofs
/- Level 2: an integer is stored into a slice of the call's own; a part of a slice, by both ends. -/
namespace Go.V
open Go Go.W
section
variable {C : Cx} {ops : Array Oper} {Q : Qt} {ρ : Ro} {η η2 : Eta} {rest : List Oper} {T d X : Nat} {pos : String} {af : Array Edge} {x y : Operand}
theorem OL.stI {i k E : Nat} {ab : List Int} {t : Int} {nl : Option Bool} (hk : k < ab.length) (kk : OL C ops Q rest ρ η2) (hs : (C.tab X).map (fun e => (e.sh.agg, e.size)) = some (false, 1) := by with_unfolding_all exact rfl)
    (hx : ev2 ρ x = some (.gp i 1 k 0) := by with_unfolding_all exact rfl) (hy : ev2 ρ y = some (V.int t) := by with_unfolding_all exact rfl) (ho : η[i]? = some (.gs false E 1 nl (ab.map V.int)) := by with_unfolding_all exact rfl) (hη : η.set i (.gs false E 1 nl ((ab.set k t).map V.int)) = η2 := by (try dsimp only [List.set]) <;> exact rfl) : OL C ops Q (⟨none, .store X x y, T, pos, af, none⟩ :: rest) ρ η :=
  OL.storeE (e := V.int ab[k]) (e' := V.int t) kk hs hx hy ho (map_get hk) rfl (by decide) (by rw [← List.map_set]; exact hη)
variable {z : Operand} {M : Bool}
theorem gvs2 {α : Type} {f : α → AV} {sz E : Nat} {nl : Option Bool} {i j : Int} {xs : List α} (l h : Nat) (hs : (C.tab X).map (·.sh) = some (.slice E) := by with_unfolding_all exact rfl) (hz : (C.tab E).map (·.size) = some sz := by with_unfolding_all exact rfl)
    (hx : ev2 ρ x = some (.sl sz nl (xs.map f)) := by with_unfolding_all exact rfl) (hy : ev2 ρ y = some (.raw (.int .i64 i)) := by with_unfolding_all exact rfl) (hz' : ev2 ρ z = some (.raw (.int .i64 j)) := by with_unfolding_all exact rfl) (hi : i = (l : Nat) := by omega) (hj : j = (h : Nat) := by omega) (hlh : l ≤ h := by omega) (hh : h ≤ xs.length := by omega) :
    Gives C.P C.N C.D (.slice X x (some y) (some z) none) ρ η (.sl sz none (((xs.take h).drop l).map f)) M := give_slice_2 (Cx.hT _) hs hz hx hy hi hz' hj hlh hh
theorem OL.sl2 {α : Type} {f : α → AV} {sz : Nat} {xs : List α} (l h : Nat) (kk : OL C ops Q rest ((d, .sl sz none (((xs.take h).drop l).map f)) :: ρ) η) (hg : Gives C.P C.N C.D (.slice X x (some y) (some z) none) ρ η (.sl sz none (((xs.take h).drop l).map f)) true := by exact gvs2 _ _) (hd : Nat.blt d C.N = true := by with_unfolding_all exact rfl) :
    OL C ops Q (⟨some d, .slice X x (some y) (some z) none, T, pos, af, none⟩ :: rest) ρ η := OL.give hg hd kk
end
end Go.V
/- LineTests: slices.Equal, whole, apart. -/
namespace Go.Proofs
open Go Go.W Go.V
theorem same_b (l : List Bool) : V.Spec Try.prog Fc.slices_Equal_Lbool_bool [bsl l, bsl l] [] (V.bool true) [] := by
  refine V.Spec.enter Try.tabOK Try.mixed Fn.slices_Equal_Lbool_bool rfl rfl rfl fun B hB => ?_
  refine TC.bl 0 fun hla => ?_
  repeat' (first
   | (with_reducible refine OL.st ?_)
   | (with_reducible refine TC.region ?_)
   | (with_reducible refine TC.seq ?_)
   | (with_reducible refine OL.nil ?_)
   | (with_reducible refine TX.thenN ?_)
   | (with_reducible refine TC.block ?_)
   | (with_reducible refine TC.skip ?_)
   | (with_reducible refine TC.ifD ?_ ?_ <;> (intro hc; try (exfalso; omega)))
   | fail)
  refine TC.lp (fun k : Nat => [(0, bsl l), (1, bsl l), (12, V.int l.length), (13, V.int k)]) (fun _ => []) (fun k => k ≤ l.length) (fun k => l.length - k) 0 [] (Nat.zero_le _) ?_
  rintro k hk
  repeat' (first
   | (with_reducible refine OL.st ?_)
   | (with_reducible refine TC.region ?_)
   | (with_reducible refine TC.seq ?_)
   | (with_reducible refine OL.nil ?_)
   | (with_reducible refine TX.thenN ?_)
   | (with_reducible refine TC.block ?_)
   | (with_reducible refine TC.skip ?_)
   | (with_reducible refine TC.exit ?_)
   | (with_reducible refine TX.hit ?_)
   | (with_reducible refine TX.thenX ?_)
   | (with_reducible refine TC.ifD ?_ ?_ <;> (intro hc; try (exfalso; omega)))
   | (with_reducible refine TC.ret ?_)
   | fail)
  · (with_reducible refine TC.draw (id := 6) true 8 9 ?_) <;> (with_reducible refine OD.st 0 ?_) <;> (with_reducible refine OD.st 1 ?_) <;> (with_reducible refine OD.st 2 ?_) <;> (with_reducible refine OD.st 3 ?_) <;> (with_reducible refine OD.st 4 ?_) <;> (with_reducible refine OD.st 5 ?_) <;> (with_reducible refine OD.st 6 ?_) <;> (with_reducible refine OD.st 7 ?_) <;> (with_reducible refine OD.a1 8 ?_; refine OL.neBl Try.underlying4 ?_; rw [beq_self_eq_true]; with_reducible refine OL.nil ?_; with_reducible refine TX.od ?_) <;> (with_reducible refine OD.dn ?_)
    all_goals repeat' (first
               | (with_reducible refine OL.st ?_)
               | (with_reducible refine TC.region ?_)
               | (with_reducible refine OL.nil ?_)
               | (with_reducible refine TX.thenN ?_)
               | (with_reducible refine TC.skip ?_)
               | (with_reducible refine TX.blkN ?_)
               | (with_reducible refine TC.ifF ?_)
               | fail)
    all_goals exact TX.rd (k + 1) [] (by omega) (by omega)
  · exact TX.rt1 [] (.ren rfl)
def markB (N : Nat) (l : List Int) : List Bool := l.foldl (fun s c => s.set c.toNat true) (List.replicate N false)
theorem markB_snoc (N : Nat) (l : List Int) {k : Nat} (h : k < l.length) : markB N (l.take (k + 1)) = (markB N (l.take k)).set l[k].toNat true := by rw [markB, take_succ h, List.foldl_append]; rfl
theorem markB_length (N : Nat) (l : List Int) : (markB N l).length = N := by rw [markB, ← markPs, markPs_length]; simp
theorem markB_get {N : Nat} {l : List Int} (h : ∀ c ∈ l, 0 ≤ c ∧ c < (N : Int)) (x : Nat) : (markB N l).getD x false = l.any fun p => p == (x : Int) := by
  rw [markB, ← markPs, markPs_get _ _ _ (fun p hp => by have := h p hp; simp; omega)]
  have h0 : (List.replicate N false).getD x false = false := by
    rw [List.getD_eq_getElem?_getD, List.getElem?_replicate]; split <;> rfl
  rw [h0, Bool.false_or]
/-- A list has just the classes of a set, each once. -/
def Whole (l : List Int) (set : List Bool) : Prop := (∀ c ∈ l, 0 ≤ c ∧ c < (set.length : Int) ∧ set.getD c.toNat false = true) ∧ l.Nodup ∧ ∀ x : Nat, set.getD x false = true → (x : Int) ∈ l
theorem Whole.eq {l : List Int} {set : List Bool} (h : Whole l set) : markB set.length l = set := by
  have hl := markB_length set.length l
  refine List.ext_getElem hl fun x h1 h2 => ?_
  have := markB_get (N := set.length) (l := l) (fun c hc => by have := h.1 c hc; omega) x
  rw [getD_lt h1] at this
  rw [this, Bool.eq_iff_iff, List.any_eq_true]
  constructor
  · rintro ⟨p, hp, e⟩
    have e : p = x := by simpa using e
    subst e
    have := (h.1 _ hp).2.2
    rwa [Int.toNat_natCast, getD_lt h2] at this
  · intro hs
    exact ⟨x, h.2.2 x (by rw [getD_lt h2]; exact hs), by simp⟩
set_option maxHeartbeats 1000000 in
theorem s_law03_whole {l : List Int} {set : List Bool} (h : Whole l set) (h0 : 0 < set.length) (hs : set.length ≤ 1000) : V.Spec Try.prog Fc.law03_whole [ints l, bsl set] [] (V.bool true) [] := by
  have heq := h.eq
  obtain ⟨h1, h2, _⟩ := h
  obtain ⟨N, hN⟩ : ∃ N, N = set.length := ⟨_, rfl⟩
  rw [← hN] at heq h0 hs
  refine V.Spec.enter Try.tabOK Try.mixed Fn.law03_whole rfl rfl rfl fun B hB => ?_
  refine TC.bl 0 fun hll => ?_
  repeat' (first
   | (with_reducible refine OL.st ?_)
   | (with_reducible refine TC.region ?_)
   | (with_reducible refine TC.seq ?_)
   | (with_reducible refine OL.nil ?_)
   | (with_reducible refine TX.thenN ?_)
   | fail)
  refine OL.make (l := N) (c := N) (i := (set.length : Int)) (j := (set.length : Int)) (u := V.bool false) (u0 := V.bool false) ?_ (fun m w γ => .raw rfl) (hi := by omega) (hj := by omega)
  have e0 : List.replicate N (V.bool false) = (markB N (l.take 0)).map V.bool := by simp [markB]
  rw [e0]
  repeat' (first
   | (with_reducible refine OL.st ?_)
   | (with_reducible refine TC.region ?_)
   | (with_reducible refine TC.seq ?_)
   | (with_reducible refine OL.nil ?_)
   | (with_reducible refine TX.thenN ?_)
   | (with_reducible refine TC.block ?_)
   | fail)
  refine TC.lp (fun k : Nat => [(1, bsl set), (5, .hs 0), (11, ints l), (12, V.int l.length), (13, V.int k)]) (fun k => [.gs false 4 1 (some false) ((markB N (l.take k)).map V.bool)]) (fun k => k ≤ l.length) (fun k => l.length - k) 0 [0] (Nat.zero_le _) ?_
  rintro k hk
  by_cases hkl : k < l.length
  · have hc := h1 l[k] (List.getElem_mem _)
    have hsn := markB_snoc N l hkl
    have hst : set[l[k].toNat]'(by omega) = true := by have := hc.2.2; rwa [getD_lt (by omega)] at this
    have hno0 : (markB N (l.take k)).getD l[k].toNat false = false := by
      have := markB_get (N := N) (l := l.take k) (fun c hc => by have := h1 c (List.mem_of_mem_take hc); omega) l[k].toNat
      rw [this, List.any_eq_false]
      intro p hp e
      have e : p = l[k] := by have := e; simp at this; omega
      subst e
      obtain ⟨i, hi, e⟩ := List.mem_iff_getElem.1 hp
      simp at hi
      rw [List.getElem_take] at e
      have := (List.getElem_inj h2).1 e
      omega
    have hml := markB_length N (l.take k)
    generalize markB N (l.take k) = mk at *
    have hno : mk[l[k].toNat]'(by omega) = false := by rwa [getD_lt (by omega)] at hno0
    repeat' (first
     | (with_reducible refine OL.st ?_)
     | (with_reducible refine TC.region ?_)
     | (with_reducible refine TC.seq ?_)
     | (with_reducible refine OL.nil ?_)
     | (with_reducible refine TX.thenN ?_)
     | (with_reducible refine TC.block ?_)
     | (with_reducible refine TC.skip ?_)
     | (with_reducible refine OL.gOn ?_)
     | (with_reducible refine TC.ifD ?_ ?_ <;> (intro hc; try (exfalso; omega)))
     | (with_reducible refine OL.gD ?_ ?_ <;> (intro hc; try (exfalso; omega)))
     | fail)
    rw [hst]
    repeat' (first
     | (with_reducible refine OL.st ?_)
     | (with_reducible refine OL.nil ?_)
     | (with_reducible refine TX.thenN ?_)
     | (with_reducible refine OL.gOn ?_)
     | fail)
    rw [hno]
    repeat' (first
     | (with_reducible refine OL.st ?_)
     | (with_reducible refine TC.region ?_)
     | (with_reducible refine TX.thenN ?_)
     | (with_reducible refine TC.skip ?_)
     | (with_reducible refine TC.ifF ?_)
     | fail)
    refine OL.stG (k := l[k].toNat) (ab := mk) (by omega) ?_
    rw [← hsn]
    repeat' (first
     | (with_reducible refine OL.st ?_)
     | (with_reducible refine TC.region ?_)
     | (with_reducible refine OL.nil ?_)
     | (with_reducible refine TX.thenN ?_)
     | (with_reducible refine TX.blkN ?_)
     | fail)
    exact TX.rd (k + 1) [0] (by omega) (by omega)
  · have e : (markB N (l.take k)).map V.bool = set.map V.bool := by rw [take_all (by omega), heq]
    rw [e]
    repeat' (first
     | (with_reducible refine OL.st ?_)
     | (with_reducible refine TC.region ?_)
     | (with_reducible refine TC.seq ?_)
     | (with_reducible refine OL.nil ?_)
     | (with_reducible refine TX.thenN ?_)
     | (with_reducible refine TC.exit ?_)
     | (with_reducible refine TX.hit ?_)
     | (with_reducible refine TX.thenX ?_)
     | (with_reducible refine TC.ifD ?_ ?_ <;> (intro hc; try (exfalso; omega)))
     | fail)
    refine OL.vwA 0 ?_
    refine OL.c (same_b set) Fn.slices_Equal_Lbool_bool ?_
    repeat' (first
     | (with_reducible refine OL.st ?_)
     | (with_reducible refine OL.nil ?_)
     | (with_reducible refine TX.thenN ?_)
     | (with_reducible refine TC.ret ?_)
     | fail)
    exact TX.rt1 [] (.ren rfl)
set_option maxHeartbeats 1000000 in
theorem s_law03_apart (l : List (Int × Int)) (h : apB l = true) (hr : ∀ x ∈ l, 0 ≤ x.1 ∧ x.2 ≤ 1000) : V.Spec Try.prog Fc.law03_apart [spansA l] [] (V.bool true) [] := by
  have h : (List.range l.length).any (apAt l) = false := by simpa [apB] using h
  refine V.Spec.enter Try.tabOK Try.mixed Fn.law03_apart rfl rfl rfl fun B hB => ?_
  refine TC.bl 0 fun hll => ?_
  repeat' (first
   | (with_reducible refine OL.st ?_)
   | (with_reducible refine TC.region ?_)
   | (with_reducible refine TC.seq ?_)
   | (with_reducible refine OL.nil ?_)
   | (with_reducible refine TX.thenN ?_)
   | (with_reducible refine TC.block ?_)
   | fail)
  refine TC.lp (fun i : Nat => [(0, spansA l), (5, spansA l), (6, V.int l.length), (7, V.int i)]) (fun _ => []) (fun i => i ≤ l.length) (fun i => l.length - i) 0 [] (Nat.zero_le _) ?_
  rintro i hi
  by_cases hil : i < l.length
  · have hb := List.any_eq_false.1 h i (List.mem_range.2 hil)
    rw [apAt_eq hil] at hb
    have hix : ∀ h : ((i : Int) - 1).toNat < l.length, l[((i : Int) - 1).toNat] = l[i - 1]'(by omega) := fun h => by congr 1; omega
    simp only [Bool.or_eq_true, Bool.and_eq_true, decide_eq_true_eq, not_or, not_and] at hb
    have hb0 := hr l[i] (List.getElem_mem _)
    have hb1 : 0 < i → ∀ h : ((i : Int) - 1).toNat < l.length, 0 ≤ l[((i : Int) - 1).toNat].2 + 1 ∧ l[((i : Int) - 1).toNat].2 ≤ 1000 := fun h0 h => by
      rw [hix h]
      have h1 := hr (l[i - 1]'(by omega)) (List.getElem_mem _)
      have h2 := List.any_eq_false.1 ‹_› (i - 1) (List.mem_range.2 (by omega))
      rw [apAt_eq (by omega)] at h2
      simp only [Bool.or_eq_true, Bool.and_eq_true, decide_eq_true_eq, not_or, not_and] at h2
      omega
    have hb2 : 0 < i → (l[((i : Int) - 1).toNat]'(by omega)).2 + 1 < l[i].1 := fun h0 => by rw [hix]; have := hb.2 h0; omega
    by_cases hi0 : 0 < i
    · have hb3 := hb1 hi0 (by omega)
      have hb4 := hb2 hi0
      repeat' (first
       | (with_reducible refine OL.st ?_)
       | (with_reducible refine OL.alloc ?_)
       | (with_reducible refine OL.storeAgg ?_)
       | (with_reducible refine TC.region ?_)
       | (with_reducible refine TC.seq ?_)
       | (with_reducible refine OL.nil ?_)
       | (with_reducible refine TX.thenN ?_)
       | (with_reducible refine TC.block ?_)
       | (with_reducible refine TC.skip ?_)
       | (with_reducible refine TX.blkN ?_)
       | (with_reducible refine TC.ifD ?_ ?_ <;> (intro hc; try (exfalso; omega)))
       | ((with_reducible refine TC.draw (id := 4) true 21 21 ?_) <;> (with_reducible refine OD.st 0 ?_) <;> (with_reducible refine OD.st 1 ?_) <;> (with_reducible refine OD.st 2 ?_) <;> (with_reducible refine OD.st 3 ?_) <;> (with_reducible refine OD.st 4 ?_) <;> (with_reducible refine OD.st 5 ?_) <;> (with_reducible refine OD.sD 17 ?_ ?_ <;> (intro hc; try (exfalso; omega)) <;> (first | (with_reducible refine OD.st 6 ?_) | (with_reducible refine OD.of 6 ?_))) <;> (with_reducible refine OD.st 7 ?_) <;> (with_reducible refine OD.st 8 ?_) <;> (with_reducible refine OD.sD 20 ?_ ?_ <;> (intro hc; try (exfalso; omega)) <;> (first | (with_reducible refine OD.st 9 ?_) | (with_reducible refine OD.of 9 ?_))) <;> (with_reducible refine OD.st 10 ?_) <;> (with_reducible refine OD.st 11 ?_) <;> (with_reducible refine OD.st 12 ?_) <;> (with_reducible refine OD.st 13 ?_) <;> (with_reducible refine OD.st 14 ?_) <;> (with_reducible refine OD.st 15 ?_) <;> (with_reducible refine OD.st 16 ?_) <;> (with_reducible refine OD.st 17 ?_) <;> (with_reducible refine OD.st 18 ?_) <;> (with_reducible refine OD.st 19 ?_) <;> (with_reducible refine OD.st 20 ?_) <;> (with_reducible refine OD.dn ?_))
       | fail)
      exact TX.rd (i + 1) [] (by omega) (by omega)
    · repeat' (first
       | (with_reducible refine OL.st ?_)
       | (with_reducible refine OL.alloc ?_)
       | (with_reducible refine OL.storeAgg ?_)
       | (with_reducible refine TC.region ?_)
       | (with_reducible refine TC.seq ?_)
       | (with_reducible refine OL.nil ?_)
       | (with_reducible refine TX.thenN ?_)
       | (with_reducible refine TC.block ?_)
       | (with_reducible refine TC.skip ?_)
       | (with_reducible refine TX.blkN ?_)
       | (with_reducible refine TC.ifF ?_)
       | (with_reducible refine TC.ifD ?_ ?_ <;> (intro hc; try (exfalso; omega)))
       | ((with_reducible refine TC.draw (id := 4) true 21 21 ?_) <;> (with_reducible refine OD.st 0 ?_) <;> (with_reducible refine OD.st 1 ?_) <;> (with_reducible refine OD.st 2 ?_) <;> (with_reducible refine OD.st 3 ?_) <;> (with_reducible refine OD.st 4 ?_) <;> (with_reducible refine OD.st 5 ?_) <;> (with_reducible refine OD.sD 17 ?_ ?_ <;> (intro hc; try (exfalso; omega)) <;> (first | (with_reducible refine OD.st 6 ?_) | (with_reducible refine OD.of 6 ?_))) <;> (with_reducible refine OD.st 7 ?_) <;> (with_reducible refine OD.st 8 ?_) <;> (with_reducible refine OD.sD 20 ?_ ?_ <;> (intro hc; try (exfalso; omega)) <;> (first | (with_reducible refine OD.st 9 ?_) | (with_reducible refine OD.of 9 ?_))) <;> (with_reducible refine OD.of 10 ?_) <;> (with_reducible refine OD.of 11 ?_) <;> (with_reducible refine OD.of 12 ?_) <;> (with_reducible refine OD.of 13 ?_) <;> (with_reducible refine OD.of 14 ?_) <;> (with_reducible refine OD.of 15 ?_) <;> (with_reducible refine OD.of 16 ?_) <;> (with_reducible refine OD.of 17 ?_) <;> (with_reducible refine OD.of 18 ?_) <;> (with_reducible refine OD.st 19 ?_) <;> (with_reducible refine OD.st 20 ?_) <;> (with_reducible refine OD.dn ?_))
       | fail)
      exact TX.rd (i + 1) [] (by omega) (by omega)
  · repeat' (first
     | (with_reducible refine OL.st ?_)
     | (with_reducible refine TC.region ?_)
     | (with_reducible refine TC.seq ?_)
     | (with_reducible refine OL.nil ?_)
     | (with_reducible refine TX.thenN ?_)
     | (with_reducible refine TC.exit ?_)
     | (with_reducible refine TX.hit ?_)
     | (with_reducible refine TX.thenX ?_)
     | (with_reducible refine TC.ifD ?_ ?_ <;> (intro hc; try (exfalso; omega)))
     | (with_reducible refine TC.ret ?_)
     | fail)
    exact TX.rt1 [] (.ren rfl)
end Go.Proofs
/- LineTests. -/
namespace Go.Proofs
open Go Go.W Go.V
def fillB (N k : Nat) : List Bool := (List.range N).map fun i => decide (i < k)
theorem fillB_length (N k : Nat) : (fillB N k).length = N := by simp [fillB]
theorem fillB_zero (N : Nat) : fillB N 0 = List.replicate N false := by
  refine List.ext_getElem (by simp [fillB]) fun i h1 h2 => by simp [fillB]
theorem fillB_set {N k : Nat} (_h : k < N) : (fillB N k).set k true = fillB N (k + 1) := by
  refine List.ext_getElem (by simp [fillB]) fun i h1 h2 => ?_
  rw [List.getElem_set]
  by_cases e : k = i
  · subst e; simp [fillB]
  · simp [fillB, e]; omega
theorem whole_all {g : List (List Int)} (hf : fine g = true) : Whole (numL g) (fillB (3 + g.length) (3 + g.length)) := by
  have hg : ∀ x : Nat, (fillB (3 + g.length) (3 + g.length)).getD x false = true ↔ x < 3 + g.length := fun x => by
    by_cases h : x < 3 + g.length
    · rw [getD_lt (by rw [fillB_length]; exact h)]; simp [fillB, h]
    · rw [List.getD_eq_getElem?_getD, List.getElem?_eq_none (by rw [fillB_length]; omega)]; simp [h]
  refine ⟨fun c hc => ?_, numL_nodup hf, fun x hx => numL_all hf ((hg x).1 hx)⟩
  have := numL_in hf hc
  rw [fillB_length, hg]; omega
theorem s_law03_LineTests_1 (l : List Int) : V.Spec Try.prog Fc.law03_LineTests_1 [ints l] [] (V.bool (decide (1 < l.length))) [] := by
  refine V.Spec.enter Try.tabOK Try.mixed Fn.law03_LineTests_1 rfl rfl rfl fun B hB => ?_
  repeat' (first
   | (with_reducible refine OL.st ?_)
   | (with_reducible refine TC.region ?_)
   | (with_reducible refine TC.seq ?_)
   | (with_reducible refine OL.nil ?_)
   | (with_reducible refine TX.thenN ?_)
   | (with_reducible refine TC.ret ?_)
   | fail)
  refine TX.rt1 [] (.bool ?_)
  rw [decide_eq_decide]; omega
theorem swap_eq (o : List Int) {i j : Nat} (hj : j < o.length) : (o.set i o[j]).set j (i : Int) = swapAt o i j := by rw [swapAt, getD_lt hj]
set_option maxHeartbeats 4000000 in
theorem s_law03_LineTests (g : List (List Int)) (bs : List Int) (kb : ∀ x ∈ bs, (Lit.int .u8 x).wf = true) : V.Spec Try.prog Fc.law03_LineTests [rows g, u8s bs] [] (V.bool true) [] := by
  refine V.Spec.enter Try.tabOK Try.mixed Fn.law03_LineTests rfl rfl rfl fun B hB => ?_
  refine TC.bl 1 fun hbl => ?_
  repeat' (first
   | (with_reducible refine OL.st ?_)
   | (with_reducible refine TC.region ?_)
   | (with_reducible refine TC.seq ?_)
   | (with_reducible refine OL.nil ?_)
   | (with_reducible refine TX.thenN ?_)
   | fail)
  refine OL.c (s_law03_wide g) Fn.law03_wide ?_
  cases hw : wideR g
  · repeat' (first | (with_reducible refine OL.st ?_) | (with_reducible refine OL.gOn ?_) | fail)
    refine OL.c (s_law03_formed g) Fn.law03_formed ?_
    cases hf : fine g
    · repeat' (first
       | (with_reducible refine OL.st ?_)
       | (with_reducible refine TC.region ?_)
       | (with_reducible refine TC.seq ?_)
       | (with_reducible refine OL.nil ?_)
       | (with_reducible refine TX.thenN ?_)
       | (with_reducible refine TC.ifT ?_)
       | (with_reducible refine OL.gOn ?_)
       | fail)
      refine OL.c s_law03_works Fn.law03_works ?_
      repeat' (first
       | (with_reducible refine OL.st ?_)
       | (with_reducible refine OL.nil ?_)
       | (with_reducible refine TX.thenN ?_)
       | (with_reducible refine TC.ret ?_)
       | (with_reducible refine TX.thenR ?_)
       | fail)
      exact TX.rt1 [] (.ren rfl)
    · have h16 := fine_len hf
      have hnu := s_line_Number g
      rw [numE, hf, if_pos rfl] at hnu
      have hwh := s_law03_whole (whole_all hf) (by rw [fillB_length]; omega) (by rw [fillB_length]; omega)
      have hown := NumOk.own hf
      have htr : treeB g = true → ∀ c : Nat, c < 3 + g.length → (spanOf (fun b => upHas g b c) (numL g) 0 []).length = 1 := fun h c hc => tree_span hf h hc
      obtain ⟨N, hN⟩ : ∃ N, N = 3 + g.length := ⟨_, rfl⟩
      repeat' (first
       | (with_reducible refine OL.st ?_)
       | (with_reducible refine TC.region ?_)
       | (with_reducible refine TC.seq ?_)
       | (with_reducible refine OL.nil ?_)
       | (with_reducible refine TX.thenN ?_)
       | (with_reducible refine TC.skip ?_)
       | (with_reducible refine TC.ifF ?_)
       | (with_reducible refine OL.gOn ?_)
       | fail)
      refine OL.c hnu Fn.line_Number ?_
      generalize numL g = own at *
      repeat' (first
       | (with_reducible refine OL.st ?_)
       | (with_reducible refine TC.region ?_)
       | (with_reducible refine TC.seq ?_)
       | (with_reducible refine OL.nil ?_)
       | (with_reducible refine TX.thenN ?_)
       | (with_reducible refine TC.skip ?_)
       | (with_reducible refine TC.ifF ?_)
       | fail)
      refine OL.make (l := N) (c := N) (i := 3 + (g.length : Int)) (j := 3 + (g.length : Int)) (u := V.bool false) (u0 := V.bool false) ?_ (fun m w γ => .raw rfl) (hi := by omega) (hj := by omega)
      rw [show List.replicate N (V.bool false) = (fillB N 0).map V.bool by rw [fillB_zero]; simp]
      have h0l := fillB_length N 0
      repeat' (first
       | (with_reducible refine OL.st ?_)
       | (with_reducible refine TC.region ?_)
       | (with_reducible refine TC.seq ?_)
       | (with_reducible refine OL.nil ?_)
       | (with_reducible refine TX.thenN ?_)
       | (with_reducible refine TC.block ?_)
       | fail)
      refine TC.lp (fun i : Nat => [(0, rows g), (1, u8s bs), (5, ints own), (7, .hs 0), (45, V.int N), (46, V.int i)]) (fun i => [.gs false 4 1 (some false) ((fillB N i).map V.bool)]) (fun i => i ≤ N) (fun i => N - i) 0 [0] (Nat.zero_le _) ?_
      rintro i hi
      have hfl := fillB_length N i
      repeat' (first
       | (with_reducible refine OL.st ?_)
       | (with_reducible refine TC.region ?_)
       | (with_reducible refine TC.seq ?_)
       | (with_reducible refine OL.nil ?_)
       | (with_reducible refine TX.thenN ?_)
       | (with_reducible refine TC.block ?_)
       | (with_reducible refine TC.skip ?_)
       | (with_reducible refine TC.exit ?_)
       | (with_reducible refine TX.hit ?_)
       | (with_reducible refine TX.thenX ?_)
       | (with_reducible refine TC.ifD ?_ ?_ <;> (intro hc; try (exfalso; omega)))
       | fail)
      · refine OL.stG (k := i) (ab := fillB N i) (by omega) ?_
        rw [fillB_set (by omega)]
        repeat' (first
         | (with_reducible refine OL.st ?_)
         | (with_reducible refine TC.region ?_)
         | (with_reducible refine OL.nil ?_)
         | (with_reducible refine TX.thenN ?_)
         | (with_reducible refine TX.blkN ?_)
         | fail)
        exact TX.rd (i + 1) [0] (by omega) (by omega)
      · obtain rfl : N = i := by omega
        rw [← hN] at hwh
        generalize fillB N N = fu at *
        refine OL.vw 7 ?_
        refine OL.vwA 1 ?_
        refine OL.c hwh Fn.law03_whole ?_
        repeat' (first
         | (with_reducible refine OL.st ?_)
         | (with_reducible refine TC.region ?_)
         | (with_reducible refine TC.seq ?_)
         | (with_reducible refine OL.nil ?_)
         | (with_reducible refine TX.thenN ?_)
         | (with_reducible refine TC.skip ?_)
         | (with_reducible refine TC.ifF ?_)
         | fail)
        refine OL.make (l := N) (c := N) (i := (fu.length : Int)) (j := (fu.length : Int)) (u := V.int 0) (u0 := V.int 0) ?_ (fun m w γ => .raw rfl) (hi := by omega) (hj := by omega)
        rw [show List.replicate N (V.int 0) = (List.replicate N 0).map V.int by simp]
        have h0s : SwInv N 0 (List.replicate N 0) := SwInv.start (by omega)
        have h0r : (List.replicate N (0 : Int)).length = N := by simp
        generalize List.replicate N (0 : Int) = o0 at *
        repeat' (first
         | (with_reducible refine OL.st ?_)
         | (with_reducible refine TC.region ?_)
         | (with_reducible refine TC.seq ?_)
         | (with_reducible refine OL.nil ?_)
         | (with_reducible refine TX.thenN ?_)
         | (with_reducible refine TC.block ?_)
         | fail)
        refine TC.lp (fun s : Nat × List Int => [(0, rows g), (1, u8s bs), (5, ints own), (7, bsl fu), (9, .hs 0), (61, V.int N), (62, V.int s.1)]) (fun s => [.gs false Tc.int 1 (some false) (s.2.map V.int)]) (fun s => s.1 ≤ N ∧ SwInv N s.1 s.2) (fun s => N - s.1) (0, o0) [1] ⟨Nat.zero_le _, h0s⟩ ?_
        rintro ⟨i, o⟩ ⟨hiN, hsw⟩
        dsimp only at hiN hsw ⊢
        have hol := hsw.1
        by_cases hiN2 : i < N
        · by_cases hb0 : 0 < bs.length
          · have hm0 : 0 ≤ (i : Int) % (bs.length : Int) := Int.emod_nonneg _ (by omega)
            have hm1 : (i : Int) % (bs.length : Int) < (bs.length : Int) := Int.emod_lt_of_pos _ (by omega)
            have hpb := u8_bnd (kb _ (List.getElem_mem (l := bs) (n := ((i : Int) % (bs.length : Int)).toNat) (by omega)))
            repeat' (first
             | (with_reducible refine OL.st ?_)
             | (with_reducible refine TC.region ?_)
             | (with_reducible refine TC.seq ?_)
             | (with_reducible refine OL.nil ?_)
             | (with_reducible refine TX.thenN ?_)
             | (with_reducible refine TC.block ?_)
             | (with_reducible refine TC.skip ?_)
             | (with_reducible refine TC.ifD ?_ ?_ <;> (intro hc; try (exfalso; omega)))
             | fail)
            refine OL.conv (n := bs[((i : Int) % (bs.length : Int)).toNat]'(by omega)) Try.underlying5 Try.underlying3 (by omega) (by omega) ?_
            generalize bs[((i : Int) % (bs.length : Int)).toNat]'(by omega) = bv at *
            have hj0 : 0 ≤ bv % ((i : Int) + 1) := Int.emod_nonneg _ (by omega)
            have hj1 : bv % ((i : Int) + 1) < (i : Int) + 1 := Int.emod_lt_of_pos _ (by omega)
            repeat' (first
             | (with_reducible refine OL.st ?_)
             | (with_reducible refine TC.region ?_)
             | (with_reducible refine TC.seq ?_)
             | (with_reducible refine OL.nil ?_)
             | (with_reducible refine TX.thenN ?_)
             | fail)
            obtain ⟨j, hj⟩ := Int.eq_ofNat_of_zero_le hj0
            simp only [hj, Int.toNat_natCast]
            have hji : j ≤ i := by omega
            refine OL.stI (k := i) (ab := o) (by omega) ?_
            have hl1 : (o.set i (o[j]'(by omega))).length = N := by simp; omega
            repeat' (first
             | (with_reducible refine OL.st ?_)
             | (with_reducible refine TC.region ?_)
             | (with_reducible refine OL.nil ?_)
             | (with_reducible refine TX.thenN ?_)
             | fail)
            refine OL.stI (k := j) (ab := o.set i o[j]) (by simp; omega) ?_
            rw [swap_eq o (by omega)]
            have hnx := hsw.next hiN2 (j := j) (by omega)
            repeat' (first
             | (with_reducible refine OL.st ?_)
             | (with_reducible refine TC.region ?_)
             | (with_reducible refine OL.nil ?_)
             | (with_reducible refine TX.thenN ?_)
             | (with_reducible refine TX.blkN ?_)
             | fail)
            exact TX.rd (i + 1, swapAt o i j) [0] ⟨by dsimp only; omega, hnx⟩ (by dsimp only; omega)
          · repeat' (first
             | (with_reducible refine OL.st ?_)
             | (with_reducible refine TC.region ?_)
             | (with_reducible refine TC.seq ?_)
             | (with_reducible refine OL.nil ?_)
             | (with_reducible refine TX.thenN ?_)
             | (with_reducible refine TC.block ?_)
             | (with_reducible refine TC.skip ?_)
             | (with_reducible refine TC.ifD ?_ ?_ <;> (intro hc; try (exfalso; omega)))
             | fail)
            refine OL.stI (k := i) (ab := o) (by omega) ?_
            have hl1 : (o.set i (o[i]'(by omega))).length = N := by simp; omega
            repeat' (first
             | (with_reducible refine OL.st ?_)
             | (with_reducible refine TC.region ?_)
             | (with_reducible refine OL.nil ?_)
             | (with_reducible refine TX.thenN ?_)
             | fail)
            refine OL.stI (k := i) (ab := o.set i o[i]) (by simp; omega) ?_
            rw [swap_eq o (by omega)]
            have hnx := hsw.next hiN2 (j := i) (by omega)
            repeat' (first
             | (with_reducible refine OL.st ?_)
             | (with_reducible refine TC.region ?_)
             | (with_reducible refine OL.nil ?_)
             | (with_reducible refine TX.thenN ?_)
             | (with_reducible refine TX.blkN ?_)
             | fail)
            exact TX.rd (i + 1, swapAt o i i) [0] ⟨by dsimp only; omega, hnx⟩ (by dsimp only; omega)
        · obtain rfl : N = i := by omega
          have hok : NumOk g o := SwInv.num (hN ▸ hsw)
          repeat' (first
           | (with_reducible refine OL.st ?_)
           | (with_reducible refine TC.region ?_)
           | (with_reducible refine TC.seq ?_)
           | (with_reducible refine OL.nil ?_)
           | (with_reducible refine TX.thenN ?_)
           | (with_reducible refine TC.exit ?_)
           | (with_reducible refine TX.hit ?_)
           | (with_reducible refine TX.thenX ?_)
           | (with_reducible refine TC.ifD ?_ ?_ <;> (intro hc; try (exfalso; omega)))
           | fail)
          refine OL.vw 9 ?_
          refine OL.c (s_slices_ContainsFunc_LLint_Lint g (fun l => decide (1 < l.length))) Fn.slices_ContainsFunc_LLint_Lint ?_ (hle := by exact ⟨.ren rfl, LE.fun0 Fn.law03_LineTests_1 (fun x _ => s_law03_LineTests_1 x), trivial⟩)
          repeat' (first
           | (with_reducible refine OL.st ?_)
           | (with_reducible refine OL.lit ?_)
           | (with_reducible refine TC.region ?_)
           | (with_reducible refine TC.seq ?_)
           | (with_reducible refine OL.nil ?_)
           | (with_reducible refine TX.thenN ?_)
           | (with_reducible refine TC.block ?_)
           | fail)
          refine TC.vw 97 ?_
          rw [show (!(g.any fun l => decide (1 < l.length))) = treeB g from rfl]
          have hns : ∀ k, (hk : k < [own, o].length) → NumOk g [own, o][k] := fun k hk => by
            match k, hk with
            | 0, _ => exact hown
            | 1, _ => exact hok
          have hnk : (k : Nat) → (hk : k < [own, o].length) → k = 0 → [own, o][k] = own := fun k hk h => by subst h; rfl
          have hnl : [own, o].length = 2 := rfl
          rw [show ([ints own, ints o] : List AV) = [own, o].map ints from rfl]
          generalize [own, o] = ns at *
          rw [List.length_map]
          refine TC.lp (fun k : Nat => [(0, rows g), (7, bsl fu), (12, V.bool (treeB g)), (97, rows ns), (98, V.int ns.length), (99, V.int k)]) (fun _ => []) (fun k => k ≤ 2) (fun k => 2 - k) 0 [] (Nat.zero_le _) ?_
          rintro k hk
          by_cases hk2 : k < 2
          · obtain ⟨num, hnume⟩ : ∃ num, num = ns[k]'(by omega) := ⟨_, rfl⟩
            have hnum : NumOk g num := hnume ▸ hns k (by omega)
            have hown2 : k = 0 → num = own := fun h => hnume.trans (hnk k (by omega) h)
            have hsp := s_line_Spans g num (by omega)
            rw [spansL, spansE, hnum.spans hf, if_pos rfl, if_pos rfl] at hsp
            obtain ⟨S, hS⟩ : ∃ S, S = (upto (3 + g.length)).map fun c : Int => spanOf (fun b => upHas g b c) num 0 [] := ⟨_, rfl⟩
            rw [← hS] at hsp
            have hSl : S.length = N := by rw [hS, List.length_map, upto_length, hN]
            have hSg : ∀ b (hb : b < S.length), S[b] = spanOf (fun x => upHas g x b) num 0 [] := fun b hb => by subst hS; simp [upto]
            clear hS
            have hnl2 := hnum.1
            have hnr := hnum.2.2
            repeat' (first
             | (with_reducible refine OL.st ?_)
             | (with_reducible refine TC.region ?_)
             | (with_reducible refine TC.seq ?_)
             | (with_reducible refine OL.nil ?_)
             | (with_reducible refine TX.thenN ?_)
             | (with_reducible refine TC.block ?_)
             | (with_reducible refine TC.skip ?_)
             | (with_reducible refine TC.ifD ?_ ?_ <;> (intro hc; try (exfalso; omega)))
             | fail)
            rw [← hnume]
            refine OL.c hsp Fn.line_Spans ?_
            repeat' (first
             | (with_reducible refine OL.st ?_)
             | (with_reducible refine TC.region ?_)
             | (with_reducible refine TC.seq ?_)
             | (with_reducible refine OL.nil ?_)
             | (with_reducible refine TX.thenN ?_)
             | (with_reducible refine TC.block ?_)
             | (with_reducible refine TC.skip ?_)
             | (with_reducible refine OL.gOn ?_)
             | (with_reducible refine TC.ifD ?_ ?_ <;> (intro hc; try (exfalso; omega)))
             | fail)
            refine TC.lp (fun b : Nat => [(0, rows g), (7, bsl fu), (12, V.bool (treeB g)), (13, V.int k), (14, ints num), (97, rows ns), (98, V.int ns.length), (99, V.int k), (119, spanRows S), (120, V.int S.length), (121, V.int b)]) (fun _ => []) (fun b => b ≤ N) (fun b => N - b) 0 [] (Nat.zero_le _) ?_
            rintro b hb
            by_cases hbN : b < N
            · have hSb := hSg b (by omega)
              have hlaw := spans_law (fun x => upHas g x b) num
              have hone : k = 0 → treeB g = true → (S[b]'(by omega)).length = 1 := fun h1 h2 => by rw [hSb, hown2 h1]; exact htr h2 b (by omega)
              rw [← hSb] at hlaw
              obtain ⟨w1, w2, w3⟩ := hlaw
              have hap := s_law03_apart (S[b]'(by omega)) w1 (fun x hx => by
                have := spanOf_inv (fun x => upHas g x b) num num 0 [] (by simp) ⟨by simp, by simp, by simp⟩
                rw [show ((0 : Nat) : Int) = 0 from rfl, ← hSb] at this
                have := this.2.1 x hx
                omega)
              have hin := fun (j : Nat) => s_line_In (S[b]'(by omega)) j
              rw [w2] at hin
              obtain ⟨sp, hspe⟩ : ∃ sp, sp = S[b]'(by omega) := ⟨_, rfl⟩
              rw [← hspe] at hap hin w3
              generalize treeB g = tb at *
              have hon2 : k = 0 ∧ tb = true → (S[b]'(by omega)).length = 1 := fun h => hone h.1 h.2
              clear hone htr
              by_cases h0 : k = 0
              · cases tb
                · repeat' (first
                   | (with_reducible refine OL.st ?_)
                   | (with_reducible refine TC.region ?_)
                   | (with_reducible refine TC.seq ?_)
                   | (with_reducible refine OL.nil ?_)
                   | (with_reducible refine TX.thenN ?_)
                   | (with_reducible refine TC.block ?_)
                   | (with_reducible refine TC.skip ?_)
                   | (with_reducible refine OL.gOn ?_)
                   | (with_reducible refine OL.gOff ?_)
                   | (with_reducible refine TC.ifD ?_ ?_ <;> (intro hc; try (exfalso; omega)))
                   | (with_reducible refine OL.gD ?_ ?_ <;> (intro hc; try (exfalso; omega)))
                   | fail)
                  rw [← hspe]
                  refine OL.c hap Fn.law03_apart ?_
                  repeat' (first
                   | (with_reducible refine OL.st ?_)
                   | (with_reducible refine TC.region ?_)
                   | (with_reducible refine TC.seq ?_)
                   | (with_reducible refine OL.nil ?_)
                   | (with_reducible refine TX.thenN ?_)
                   | (with_reducible refine TC.block ?_)
                   | (with_reducible refine TC.skip ?_)
                   | (with_reducible refine TC.ifF ?_)
                   | (with_reducible refine OL.gOn ?_)
                   | fail)
                  refine TC.lp (fun j : Nat => [(0, rows g), (7, bsl fu), (12, V.bool false), (13, V.int k), (14, ints num), (17, V.int b), (18, spansA sp), (97, rows ns), (98, V.int ns.length), (99, V.int k), (119, spanRows S), (120, V.int S.length), (121, V.int b), (141, ints num), (142, V.int num.length), (143, V.int j)]) (fun _ => []) (fun j => j ≤ num.length) (fun j => num.length - j) 0 [] (Nat.zero_le _) ?_
                  rintro j hj
                  by_cases hjl : j < num.length
                  · have hnj := hnr (num[j]'hjl) (List.getElem_mem _)
                    have hij := hin j
                    rw [w3 j hjl] at hij
                    have hbe := s_line_Below g (num[j]'hjl) b
                    rw [belR, oks_pair hf (a := num[j]'hjl) (b := b) hnj (by omega), Bool.true_and] at hbe
                    have hab := s_above hf (c := num[j]'hjl) hnj
                    have hal := abB_length g (num[j]'hjl)
                    obtain ⟨a, hae⟩ : ∃ a, a = num[j]'hjl := ⟨_, rfl⟩
                    rw [← hae] at hij hbe hab hal
                    have hag := abB_get (g := g) (c := a) (b := b) (by omega)
                    repeat' (first
                     | (with_reducible refine OL.st ?_)
                     | (with_reducible refine TC.region ?_)
                     | (with_reducible refine TC.seq ?_)
                     | (with_reducible refine OL.nil ?_)
                     | (with_reducible refine TX.thenN ?_)
                     | (with_reducible refine TC.block ?_)
                     | (with_reducible refine TC.skip ?_)
                     | (with_reducible refine TC.ifD ?_ ?_ <;> (intro hc; try (exfalso; omega)))
                     | fail)
                    refine OL.c hij Fn.line_In ?_
                    repeat' (first
                     | (with_reducible refine OL.st ?_)
                     | (with_reducible refine TC.region ?_)
                     | (with_reducible refine TC.seq ?_)
                     | (with_reducible refine OL.nil ?_)
                     | (with_reducible refine TX.thenN ?_)
                     | fail)
                    rw [← hae]
                    refine OL.c hbe Fn.line_Below ?_
                    repeat' (first
                     | (with_reducible refine OL.st ?_)
                     | (with_reducible refine TC.region ?_)
                     | (with_reducible refine TC.seq ?_)
                     | (with_reducible refine OL.nil ?_)
                     | (with_reducible refine TX.thenN ?_)
                     | (with_reducible refine OL.gOn ?_)
                     | fail)
                    refine OL.neBl Try.underlying4 ?_
                    rw [beq_self_eq_true]
                    repeat' (first | (with_reducible refine OL.st ?_) | (with_reducible refine OL.gOn ?_) | fail)
                    refine OL.c hab Fn.law03_above ?_
                    repeat' (first | (with_reducible refine OL.st ?_) | (with_reducible refine OL.gOn ?_) | fail)
                    refine OL.neBl Try.underlying4 ?_
                    rw [hag, beq_self_eq_true]
                    repeat' (first
                     | (with_reducible refine OL.st ?_)
                     | (with_reducible refine TC.region ?_)
                     | (with_reducible refine OL.nil ?_)
                     | (with_reducible refine TX.thenN ?_)
                     | (with_reducible refine TC.skip ?_)
                     | (with_reducible refine TX.blkN ?_)
                     | (with_reducible refine TC.ifF ?_)
                     | fail)
                    exact TX.rd (j + 1) [] (by omega) (by omega)
                  · repeat' (first
                     | (with_reducible refine OL.st ?_)
                     | (with_reducible refine TC.region ?_)
                     | (with_reducible refine TC.seq ?_)
                     | (with_reducible refine OL.nil ?_)
                     | (with_reducible refine TX.thenN ?_)
                     | (with_reducible refine TX.blkN ?_)
                     | (with_reducible refine TC.exit ?_)
                     | (with_reducible refine TX.hit ?_)
                     | (with_reducible refine TX.thenX ?_)
                     | (with_reducible refine TC.ifD ?_ ?_ <;> (intro hc; try (exfalso; omega)))
                     | fail)
                    exact TX.rd (b + 1) [] (by omega) (by omega)
                · have h1 := hon2 ⟨h0, rfl⟩
                  repeat' (first
                   | (with_reducible refine OL.st ?_)
                   | (with_reducible refine TC.region ?_)
                   | (with_reducible refine TC.seq ?_)
                   | (with_reducible refine OL.nil ?_)
                   | (with_reducible refine TX.thenN ?_)
                   | (with_reducible refine TC.block ?_)
                   | (with_reducible refine TC.skip ?_)
                   | (with_reducible refine OL.gOn ?_)
                   | (with_reducible refine TC.ifD ?_ ?_ <;> (intro hc; try (exfalso; omega)))
                   | (with_reducible refine OL.gD ?_ ?_ <;> (intro hc; try (exfalso; omega)))
                   | fail)
                  rw [← hspe]
                  refine OL.c hap Fn.law03_apart ?_
                  repeat' (first
                   | (with_reducible refine OL.st ?_)
                   | (with_reducible refine TC.region ?_)
                   | (with_reducible refine TC.seq ?_)
                   | (with_reducible refine OL.nil ?_)
                   | (with_reducible refine TX.thenN ?_)
                   | (with_reducible refine TC.block ?_)
                   | (with_reducible refine TC.skip ?_)
                   | (with_reducible refine TC.ifF ?_)
                   | (with_reducible refine OL.gOn ?_)
                   | fail)
                  refine TC.lp (fun j : Nat => [(0, rows g), (7, bsl fu), (12, V.bool true), (13, V.int k), (14, ints num), (17, V.int b), (18, spansA sp), (97, rows ns), (98, V.int ns.length), (99, V.int k), (119, spanRows S), (120, V.int S.length), (121, V.int b), (141, ints num), (142, V.int num.length), (143, V.int j)]) (fun _ => []) (fun j => j ≤ num.length) (fun j => num.length - j) 0 [] (Nat.zero_le _) ?_
                  rintro j hj
                  by_cases hjl : j < num.length
                  · have hnj := hnr (num[j]'hjl) (List.getElem_mem _)
                    have hij := hin j
                    rw [w3 j hjl] at hij
                    have hbe := s_line_Below g (num[j]'hjl) b
                    rw [belR, oks_pair hf (a := num[j]'hjl) (b := b) hnj (by omega), Bool.true_and] at hbe
                    have hab := s_above hf (c := num[j]'hjl) hnj
                    have hal := abB_length g (num[j]'hjl)
                    obtain ⟨a, hae⟩ : ∃ a, a = num[j]'hjl := ⟨_, rfl⟩
                    rw [← hae] at hij hbe hab hal
                    have hag := abB_get (g := g) (c := a) (b := b) (by omega)
                    repeat' (first
                     | (with_reducible refine OL.st ?_)
                     | (with_reducible refine TC.region ?_)
                     | (with_reducible refine TC.seq ?_)
                     | (with_reducible refine OL.nil ?_)
                     | (with_reducible refine TX.thenN ?_)
                     | (with_reducible refine TC.block ?_)
                     | (with_reducible refine TC.skip ?_)
                     | (with_reducible refine TC.ifD ?_ ?_ <;> (intro hc; try (exfalso; omega)))
                     | fail)
                    refine OL.c hij Fn.line_In ?_
                    repeat' (first
                     | (with_reducible refine OL.st ?_)
                     | (with_reducible refine TC.region ?_)
                     | (with_reducible refine TC.seq ?_)
                     | (with_reducible refine OL.nil ?_)
                     | (with_reducible refine TX.thenN ?_)
                     | fail)
                    rw [← hae]
                    refine OL.c hbe Fn.line_Below ?_
                    repeat' (first
                     | (with_reducible refine OL.st ?_)
                     | (with_reducible refine TC.region ?_)
                     | (with_reducible refine TC.seq ?_)
                     | (with_reducible refine OL.nil ?_)
                     | (with_reducible refine TX.thenN ?_)
                     | (with_reducible refine OL.gOn ?_)
                     | fail)
                    refine OL.neBl Try.underlying4 ?_
                    rw [beq_self_eq_true]
                    repeat' (first | (with_reducible refine OL.st ?_) | (with_reducible refine OL.gOn ?_) | fail)
                    refine OL.c hab Fn.law03_above ?_
                    repeat' (first | (with_reducible refine OL.st ?_) | (with_reducible refine OL.gOn ?_) | fail)
                    refine OL.neBl Try.underlying4 ?_
                    rw [hag, beq_self_eq_true]
                    repeat' (first
                     | (with_reducible refine OL.st ?_)
                     | (with_reducible refine TC.region ?_)
                     | (with_reducible refine OL.nil ?_)
                     | (with_reducible refine TX.thenN ?_)
                     | (with_reducible refine TC.skip ?_)
                     | (with_reducible refine TX.blkN ?_)
                     | (with_reducible refine TC.ifF ?_)
                     | fail)
                    exact TX.rd (j + 1) [] (by omega) (by omega)
                  · repeat' (first
                     | (with_reducible refine OL.st ?_)
                     | (with_reducible refine TC.region ?_)
                     | (with_reducible refine TC.seq ?_)
                     | (with_reducible refine OL.nil ?_)
                     | (with_reducible refine TX.thenN ?_)
                     | (with_reducible refine TX.blkN ?_)
                     | (with_reducible refine TC.exit ?_)
                     | (with_reducible refine TX.hit ?_)
                     | (with_reducible refine TX.thenX ?_)
                     | (with_reducible refine TC.ifD ?_ ?_ <;> (intro hc; try (exfalso; omega)))
                     | fail)
                    exact TX.rd (b + 1) [] (by omega) (by omega)
              · repeat' (first
                 | (with_reducible refine OL.st ?_)
                 | (with_reducible refine TC.region ?_)
                 | (with_reducible refine TC.seq ?_)
                 | (with_reducible refine OL.nil ?_)
                 | (with_reducible refine TX.thenN ?_)
                 | (with_reducible refine TC.block ?_)
                 | (with_reducible refine TC.skip ?_)
                 | (with_reducible refine OL.gOn ?_)
                 | (with_reducible refine OL.gOff ?_)
                 | (with_reducible refine TC.ifD ?_ ?_ <;> (intro hc; try (exfalso; omega)))
                 | (with_reducible refine OL.gD ?_ ?_ <;> (intro hc; try (exfalso; omega)))
                 | fail)
                rw [← hspe]
                refine OL.c hap Fn.law03_apart ?_
                repeat' (first
                 | (with_reducible refine OL.st ?_)
                 | (with_reducible refine TC.region ?_)
                 | (with_reducible refine TC.seq ?_)
                 | (with_reducible refine OL.nil ?_)
                 | (with_reducible refine TX.thenN ?_)
                 | (with_reducible refine TC.block ?_)
                 | (with_reducible refine TC.skip ?_)
                 | (with_reducible refine TC.ifF ?_)
                 | (with_reducible refine OL.gOn ?_)
                 | fail)
                refine TC.lp (fun j : Nat => [(0, rows g), (7, bsl fu), (12, V.bool tb), (13, V.int k), (14, ints num), (17, V.int b), (18, spansA sp), (97, rows ns), (98, V.int ns.length), (99, V.int k), (119, spanRows S), (120, V.int S.length), (121, V.int b), (141, ints num), (142, V.int num.length), (143, V.int j)]) (fun _ => []) (fun j => j ≤ num.length) (fun j => num.length - j) 0 [] (Nat.zero_le _) ?_
                rintro j hj
                by_cases hjl : j < num.length
                · have hnj := hnr (num[j]'hjl) (List.getElem_mem _)
                  have hij := hin j
                  rw [w3 j hjl] at hij
                  have hbe := s_line_Below g (num[j]'hjl) b
                  rw [belR, oks_pair hf (a := num[j]'hjl) (b := b) hnj (by omega), Bool.true_and] at hbe
                  have hab := s_above hf (c := num[j]'hjl) hnj
                  have hal := abB_length g (num[j]'hjl)
                  obtain ⟨a, hae⟩ : ∃ a, a = num[j]'hjl := ⟨_, rfl⟩
                  rw [← hae] at hij hbe hab hal
                  have hag := abB_get (g := g) (c := a) (b := b) (by omega)
                  repeat' (first
                   | (with_reducible refine OL.st ?_)
                   | (with_reducible refine TC.region ?_)
                   | (with_reducible refine TC.seq ?_)
                   | (with_reducible refine OL.nil ?_)
                   | (with_reducible refine TX.thenN ?_)
                   | (with_reducible refine TC.block ?_)
                   | (with_reducible refine TC.skip ?_)
                   | (with_reducible refine TC.ifD ?_ ?_ <;> (intro hc; try (exfalso; omega)))
                   | fail)
                  refine OL.c hij Fn.line_In ?_
                  repeat' (first
                   | (with_reducible refine OL.st ?_)
                   | (with_reducible refine TC.region ?_)
                   | (with_reducible refine TC.seq ?_)
                   | (with_reducible refine OL.nil ?_)
                   | (with_reducible refine TX.thenN ?_)
                   | fail)
                  rw [← hae]
                  refine OL.c hbe Fn.line_Below ?_
                  repeat' (first
                   | (with_reducible refine OL.st ?_)
                   | (with_reducible refine TC.region ?_)
                   | (with_reducible refine TC.seq ?_)
                   | (with_reducible refine OL.nil ?_)
                   | (with_reducible refine TX.thenN ?_)
                   | (with_reducible refine OL.gOn ?_)
                   | fail)
                  refine OL.neBl Try.underlying4 ?_
                  rw [beq_self_eq_true]
                  repeat' (first | (with_reducible refine OL.st ?_) | (with_reducible refine OL.gOn ?_) | fail)
                  refine OL.c hab Fn.law03_above ?_
                  repeat' (first | (with_reducible refine OL.st ?_) | (with_reducible refine OL.gOn ?_) | fail)
                  refine OL.neBl Try.underlying4 ?_
                  rw [hag, beq_self_eq_true]
                  repeat' (first
                   | (with_reducible refine OL.st ?_)
                   | (with_reducible refine TC.region ?_)
                   | (with_reducible refine OL.nil ?_)
                   | (with_reducible refine TX.thenN ?_)
                   | (with_reducible refine TC.skip ?_)
                   | (with_reducible refine TX.blkN ?_)
                   | (with_reducible refine TC.ifF ?_)
                   | fail)
                  exact TX.rd (j + 1) [] (by omega) (by omega)
                · repeat' (first
                   | (with_reducible refine OL.st ?_)
                   | (with_reducible refine TC.region ?_)
                   | (with_reducible refine TC.seq ?_)
                   | (with_reducible refine OL.nil ?_)
                   | (with_reducible refine TX.thenN ?_)
                   | (with_reducible refine TX.blkN ?_)
                   | (with_reducible refine TC.exit ?_)
                   | (with_reducible refine TX.hit ?_)
                   | (with_reducible refine TX.thenX ?_)
                   | (with_reducible refine TC.ifD ?_ ?_ <;> (intro hc; try (exfalso; omega)))
                   | fail)
                  exact TX.rd (b + 1) [] (by omega) (by omega)
            · repeat' (first
               | (with_reducible refine OL.st ?_)
               | (with_reducible refine TC.region ?_)
               | (with_reducible refine TC.seq ?_)
               | (with_reducible refine OL.nil ?_)
               | (with_reducible refine TX.thenN ?_)
               | (with_reducible refine TX.blkN ?_)
               | (with_reducible refine TC.exit ?_)
               | (with_reducible refine TX.hit ?_)
               | (with_reducible refine TX.thenX ?_)
               | (with_reducible refine TC.ifD ?_ ?_ <;> (intro hc; try (exfalso; omega)))
               | fail)
              exact TX.rd (k + 1) [] (by omega) (by omega)
          · repeat' (first
             | (with_reducible refine OL.st ?_)
             | (with_reducible refine TC.region ?_)
             | (with_reducible refine TC.seq ?_)
             | (with_reducible refine OL.nil ?_)
             | (with_reducible refine TX.thenN ?_)
             | (with_reducible refine TC.exit ?_)
             | (with_reducible refine TX.hit ?_)
             | (with_reducible refine TX.thenX ?_)
             | (with_reducible refine TC.ifD ?_ ?_ <;> (intro hc; try (exfalso; omega)))
             | fail)
            refine OL.c s_law03_works Fn.law03_works ?_
            repeat' (first
             | (with_reducible refine OL.st ?_)
             | (with_reducible refine OL.nil ?_)
             | (with_reducible refine TX.thenN ?_)
             | (with_reducible refine TC.ret ?_)
             | fail)
            exact TX.rt1 [] (.ren rfl)
  · repeat' (first
     | (with_reducible refine OL.st ?_)
     | (with_reducible refine TC.region ?_)
     | (with_reducible refine TC.seq ?_)
     | (with_reducible refine OL.nil ?_)
     | (with_reducible refine TX.thenN ?_)
     | (with_reducible refine TC.ifT ?_)
     | (with_reducible refine OL.gOff ?_)
     | fail)
    refine OL.c s_law03_works Fn.law03_works ?_
    repeat' (first
     | (with_reducible refine OL.st ?_)
     | (with_reducible refine OL.nil ?_)
     | (with_reducible refine TX.thenN ?_)
     | (with_reducible refine TC.ret ?_)
     | (with_reducible refine TX.thenR ?_)
     | fail)
    exact TX.rt1 [] (.ren rfl)
end Go.Proofs
