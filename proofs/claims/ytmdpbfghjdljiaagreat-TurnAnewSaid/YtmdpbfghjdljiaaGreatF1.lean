/- Part 1 of what the claim is proved by: lemmas on the model and walks through functions of the program; no conditions. -/
import Derived.Test.YtmdpbfghjdljiaaGreatV29
import Derived.Test.YtmdpbfghjdljiaaGreatV35
import Derived.Test.YtmdpbfghjdljiaaGreatV40
import Derived.Test.YtmdpbfghjdljiaaGreatV13
namespace Go.Proofs
open Go Go.W Go.V
theorem playV_app (lz : Bool) (m : List Step) : ∀ (l : List Step) (ss : List (List Cls)) (ts : List Thing), playV lz ss ts (l ++ m) =
    ((playV lz (playV lz ss ts l).1 (playV lz ss ts l).2.1 m).1, (playV lz (playV lz ss ts l).1 (playV lz ss ts l).2.1 m).2.1, (playV lz ss ts l).2.2.1 ++ (playV lz (playV lz ss ts l).1 (playV lz ss ts l).2.1 m).2.2.1, (playV lz ss ts l).2.2.2 ++ (playV lz (playV lz ss ts l).1 (playV lz ss ts l).2.1 m).2.2.2)
  | [], ss, ts => rfl
  | x :: l, ss, ts => by
    rw [List.cons_append]
    by_cases h : refusedE ss ts x = 0
    · have e : ∀ r, playV lz ss ts (x :: r) = ((playV lz (doS ss x) (doT lz ss ts x) r).1, (playV lz (doS ss x) (doT lz ss ts x) r).2.1, doR ss ts x :: (playV lz (doS ss x) (doT lz ss ts x) r).2.2.1, 0 :: (playV lz (doS ss x) (doT lz ss ts x) r).2.2.2) := fun r => by rw [playV, if_pos h]
      rw [e, e, playV_app lz m l]; rfl
    · have e : ∀ r, playV lz ss ts (x :: r) = ((playV lz ss ts r).1, (playV lz ss ts r).2.1, (0, 0) :: (playV lz ss ts r).2.2.1, refusedE ss ts x :: (playV lz ss ts r).2.2.2) := fun r => by rw [playV, if_neg h]
      rw [e, e, playV_app lz m l]; rfl
def stV (ss : List (List Cls)) (ts : List Thing) (s : Step) : Int × Int := if refusedE ss ts s = 0 then doR ss ts s else (0, 0)
theorem playV_at (lz : Bool) (l : List Step) (ss : List (List Cls)) (ts : List Thing) {k : Nat} (hk : k < l.length) :
    (playV lz ss ts l).2.2.1[k]? = some (stV (playV lz ss ts (l.take k)).1 (playV lz ss ts (l.take k)).2.1 l[k]) ∧ (playV lz ss ts l).2.2.2[k]? = some (refusedE (playV lz ss ts (l.take k)).1 (playV lz ss ts (l.take k)).2.1 l[k]) := by
  have e : playV lz ss ts l = playV lz ss ts (l.take k ++ l[k] :: l.drop (k + 1)) := by rw [← drop_cons hk, List.take_append_drop]
  have hlen : (l.take k).length = k := by simp; omega
  have hl := play_lens lz (l.take k) ss ts
  rw [hlen] at hl
  rw [e, playV_app]
  dsimp only
  generalize playV lz ss ts (l.take k) = r at *
  obtain ⟨s2, t2, v, es⟩ := r
  dsimp only at hl ⊢
  rw [List.getElem?_append_right (by omega), List.getElem?_append_right (by omega), hl.1, hl.2, Nat.sub_self]
  by_cases h : refusedE s2 t2 l[k] = 0
  · rw [playV, if_pos h, stV, if_pos h]; exact ⟨rfl, congrArg some h.symm⟩
  · rw [playV, if_neg h, stV, if_neg h]; exact ⟨rfl, rfl⟩
theorem FOk.lazy {lz : Bool} {ss : List (List Cls)} {ts : List Thing} (h : FOk lz ss ts) : FOk true ss ts := ⟨h.sb, h.n40, h.tk, fun e => (by cases e), h.vl⟩
theorem FOk.settled {ss : List (List Cls)} {ts : List Thing} (h : FOk false ss ts) : ts.map (freshT ss) = ts := by
  have := schemasB_len h.sb
  conv => rhs; rw [← List.map_id ts]
  exact List.map_congr_left fun x hx => freshT_upd this.1 (h.lt rfl x hx)
theorem lazy_main {lz : Bool} {ss : List (List Cls)} {ts : List Thing} (h : FOk lz ss ts) (hsh : ∀ s ∈ ss, Short s) (l : List Step) (hl : ∀ s ∈ l, ShortC s.k) :
    formedB false ss (ts.map (freshT ss)) = true ∧ formedB true ss ts = true ∧ FOk true (playV true ss ts l).1 (playV true ss ts l).2.1 ∧ FOk false (playV true ss ts l).1 ((playV true ss ts l).2.1.map (freshT (playV true ss ts l).1)) ∧
      playV false ss (ts.map (freshT ss)) l = ((playV true ss ts l).1, (playV true ss ts l).2.1.map (freshT (playV true ss ts l).1), (playV true ss ts l).2.2.1, (playV true ss ts l).2.2.2) := by
  have h1 : FOk false ss (ts.map (freshT ss)) := settled_ok h false
  have h2 := play_formed true l ss ts h.lazy hsh hl
  exact ⟨formedB_iff.2 h1, formedB_iff.2 h.lazy, h2, settled_ok h2 false, play_lazy l ss ts (h.w hsh) hl⟩
end Go.Proofs
namespace Go.Proofs
open Go Go.W Go.V
/-! ### What is above a class, as a list -/
def addP (out ps : List Int) : List Int := ps.foldl (fun out p => if out.contains p then out else out ++ [p]) out
def abvF (l : List Cls) : Nat → Nat → List Int → List Int
  | 0, _, out => out
  | n + 1, i, out => if h : i < out.length then abvF l n (i + 1) (addP out (clsAt l (out[i] - 3).toNat).1) else out
def abvL (l : List Cls) (c : Int) : List Int := abvF l 20 0 [c]
theorem addP_cons (out : List Int) (p : Int) (ps : List Int) : addP out (p :: ps) = addP (if out.contains p then out else out ++ [p]) ps := rfl
theorem addP_snoc (out ps : List Int) (p : Int) : addP out (ps ++ [p]) = if (addP out ps).contains p then addP out ps else addP out ps ++ [p] := by
  rw [addP, List.foldl_append]; rfl
theorem mem_addP : ∀ (ps out : List Int) (x : Int), x ∈ addP out ps ↔ x ∈ out ∨ x ∈ ps
  | [], out, x => by simp [addP]
  | p :: ps, out, x => by
    rw [addP_cons, mem_addP ps]
    by_cases h : out.contains p = true
    · rw [if_pos h]
      have := List.contains_iff_mem.1 h
      constructor
      · rintro (h | h)
        · exact .inl h
        · exact .inr (by simp [h])
      · rintro (h | h)
        · exact .inl h
        · rcases List.mem_cons.1 h with rfl | h
          · exact .inl this
          · exact .inr h
    · rw [if_neg h]; simp only [List.mem_append, List.mem_cons, or_assoc, List.not_mem_nil, false_or]
theorem addP_nodup : ∀ (ps out : List Int), out.Nodup → (addP out ps).Nodup
  | [], out, h => h
  | p :: ps, out, h => by
    rw [addP_cons]
    refine addP_nodup ps _ ?_
    split
    · exact h
    · rename_i hc
      rw [List.nodup_append]
      refine ⟨h, by simp, fun a ha b hb e => ?_⟩
      simp only [List.mem_singleton] at hb
      subst hb e
      exact hc (List.contains_iff_mem.2 ha)
theorem addP_pre : ∀ (ps out : List Int), ∃ t, addP out ps = out ++ t
  | [], out => ⟨[], by simp [addP]⟩
  | p :: ps, out => by
    rw [addP_cons]
    obtain ⟨t, ht⟩ := addP_pre ps (if out.contains p then out else out ++ [p])
    rw [ht]
    split
    · exact ⟨t, rfl⟩
    · exact ⟨p :: t, by simp⟩
structure AbOk (l : List Cls) (i : Nat) (out : List Int) : Prop where
  nd : out.Nodup
  rg : ∀ x ∈ out, 3 ≤ x ∧ x < 3 + (l.length : Int)
  cl : ∀ j (h : j < out.length), j < i → ∀ p ∈ (clsAt l (out[j] - 3).toNat).1, p ∈ out
theorem clsAt_par {l : List Cls} {x : Int} (h : 3 ≤ x) : (clsAt l (x - 3).toNat).1 = pOf (graphOf l) x := by
  rw [pOf_ge h, clsAt, graphOf, List.getD_eq_getElem?_getD, List.getD_eq_getElem?_getD, List.getElem?_map]
  cases l[(x - 3).toNat]? <;> rfl
theorem AbOk.len {l : List Cls} {i : Nat} {out : List Int} (h : AbOk l i out) : out.length ≤ 3 + l.length :=
  nodup_length _ out h.nd fun x hx => by have := h.rg x hx; omega
theorem AbOk.start {l : List Cls} {c : Int} (h : 3 ≤ c ∧ c < 3 + (l.length : Int)) : AbOk l 0 [c] := ⟨by simp, by simpa using h, fun j _ h => by omega⟩
theorem AbOk.par {l : List Cls} (hf : fine (graphOf l) = true) {i : Nat} {out : List Int} (h : AbOk l i out) (hi : i < out.length) : ∀ p ∈ (clsAt l (out[i] - 3).toNat).1, 3 ≤ p ∧ p < 3 + (l.length : Int) := fun p hp => by
  have hr := h.rg out[i] (List.getElem_mem _)
  rw [clsAt_par hr.1] at hp
  have := (fine_pOf hf (c := out[i]) (by simp only [graphOf, List.length_map]; omega)).2.1 p hp
  omega
theorem AbOk.next {l : List Cls} (hf : fine (graphOf l) = true) {i : Nat} {out : List Int} (h : AbOk l i out) (hi : i < out.length) : AbOk l (i + 1) (addP out (clsAt l (out[i] - 3).toNat).1) := by
  obtain ⟨t, ht⟩ := addP_pre (clsAt l (out[i] - 3).toNat).1 out
  refine ⟨addP_nodup _ _ h.nd, fun x hx => ?_, fun j hj hji p hp => ?_⟩
  · rw [mem_addP] at hx
    rcases hx with hx | hx
    · exact h.rg x hx
    · exact h.par hf hi x hx
  · have hjo : j < out.length := by omega
    have e : (addP out (clsAt l (out[i] - 3).toNat).1)[j] = out[j] := by
      simp only [ht]
      rw [List.getElem_append_left hjo]
    rw [e] at hp
    rw [mem_addP]
    by_cases hj2 : j < i
    · exact .inl (h.cl j hjo hj2 p hp)
    · obtain rfl : j = i := by omega
      exact .inr hp
theorem abvF_ok {l : List Cls} (hf : fine (graphOf l) = true) : ∀ (n i : Nat) (out : List Int), AbOk l i out → 3 + l.length ≤ i + n → AbOk l (abvF l n i out).length (abvF l n i out) ∧ ∀ x ∈ out, x ∈ abvF l n i out
  | 0, i, out, h, hn => by
    have := h.len
    rw [abvF]
    exact ⟨⟨h.nd, h.rg, fun j hj _ => h.cl j hj (by omega)⟩, fun x hx => hx⟩
  | n + 1, i, out, h, hn => by
    rw [abvF]
    split
    · rename_i hi
      obtain ⟨h1, h2⟩ := abvF_ok hf n (i + 1) _ (h.next hf hi) (by omega)
      exact ⟨h1, fun x hx => h2 x ((mem_addP _ _ _).2 (.inl hx))⟩
    · exact ⟨⟨h.nd, h.rg, fun j hj _ => h.cl j hj (by omega)⟩, fun x hx => hx⟩
theorem abvL_ok {l : List Cls} (hf : fine (graphOf l) = true) {c : Int} (hc : 3 ≤ c ∧ c < 3 + (l.length : Int)) : AbOk l (abvL l c).length (abvL l c) ∧ c ∈ abvL l c := by
  have h16 := fine_len hf
  have hgl : (graphOf l).length = l.length := by simp [graphOf]
  obtain ⟨h1, h2⟩ := abvF_ok hf 20 0 [c] (AbOk.start hc) (by omega)
  exact ⟨h1, h2 c (by simp)⟩
theorem abvL_has {l : List Cls} (hf : fine (graphOf l) = true) {c : Int} (hc : 3 ≤ c ∧ c < 3 + (l.length : Int)) : ∀ (n a : Nat), a < n → (a : Int) ∈ abvL l c → ∀ b : Int, 3 ≤ b → b < 64 → upHas (graphOf l) a b = true → b ∈ abvL l c := by
  obtain ⟨hok, _⟩ := abvL_ok hf hc
  intro n
  induction n with
  | zero => intro a h; omega
  | succ n ih =>
    intro a han ha b hb3 hb hu
    have hra := hok.rg _ ha
    have hgl : (graphOf l).length = l.length := by simp [graphOf]
    rw [upHas_step hf (by omega) (by omega) hb] at hu
    simp only [Bool.or_eq_true, decide_eq_true_eq, List.any_eq_true] at hu
    rcases hu with (hu | hu) | ⟨p, hp, hu⟩
    · rw [hu]; exact ha
    · omega
    · have hpp := (fine_pOf hf (c := (a : Int)) (by omega)).2.1 p hp
      obtain ⟨q, rfl⟩ : ∃ q : Nat, p = (q : Int) := ⟨p.toNat, by omega⟩
      obtain ⟨j, hj, hja⟩ := List.mem_iff_getElem.1 ha
      refine ih q (by omega) (hok.cl j hj hj _ ?_) b hb3 hb hu
      rw [hja, clsAt_par (by omega)]; exact hp
/-! ### A class made anew -/
def sameUp (l : List Cls) (c c' : Int) (k : Cls) : Bool := (abvL l c).all fun x => !(x == c' && !(clsAt l (x - 3).toNat == k))
theorem madeV_at {l : List Cls} {c' : Int} {k : Cls} (hc' : 3 ≤ c' ∧ c' ≤ 3 + (l.length : Int)) {j : Nat} (hj : j < l.length) (h : ((3 + j : Nat) : Int) = c' → clsAt l j = k) : clsAt (madeV l c' k) j = clsAt l j := by
  rw [madeV]
  split
  · rw [clsAt, clsAt, List.getD_eq_getElem?_getD, List.getElem?_append_left hj, ← List.getD_eq_getElem?_getD]
  · by_cases e : (c' - 3).toNat = j
    · have h1 := h (by omega)
      rw [h1, clsAt, List.getD_eq_getElem?_getD, List.getElem?_set, if_pos e, if_pos (by omega)]; rfl
    · rw [clsAt, clsAt, List.getD_eq_getElem?_getD, List.getElem?_set, if_neg e, ← List.getD_eq_getElem?_getD]
section
variable {l : List Cls} {c' : Int} {k : Cls} (hf : fine (graphOf l) = true) (hf' : fine (graphOf (madeV l c' k)) = true) (hc' : 3 ≤ c' ∧ c' ≤ 3 + (l.length : Int))
include hf hf' hc'
theorem upHas_made : ∀ (n a : Nat), a < n → a < 3 + l.length → (∀ x : Nat, 3 ≤ x → x < 3 + l.length → upHas (graphOf l) a x = true → (x : Int) = c' → clsAt l (x - 3) = k) → ∀ b : Int, 0 ≤ b → b < 64 → upHas (graphOf (madeV l c' k)) a b = upHas (graphOf l) a b := by
  have hgl : (graphOf l).length = l.length := by simp [graphOf]
  have hgl' : (graphOf (madeV l c' k)).length = (madeV l c' k).length := by simp [graphOf]
  have hle := (madeV_length (l := l) (c := c') (k := k)).1
  have h16 := fine_len hf
  intro n
  induction n with
  | zero => intro a h; omega
  | succ n ih =>
    intro a han ha hH b h0 h1
    rw [upHas_step hf' (by omega) h0 h1, upHas_step hf (by omega) h0 h1]
    by_cases h3 : a < 3
    · rw [pOf_lt (by omega), pOf_lt (by omega)]; rfl
    · have hp : pOf (graphOf (madeV l c' k)) (a : Int) = pOf (graphOf l) (a : Int) := by
        rw [← clsAt_par (by omega), ← clsAt_par (by omega), show ((a : Int) - 3).toNat = a - 3 by omega, madeV_at hc' (by omega)]
        intro e
        exact hH a (by omega) ha (upHas_self hf (by omega)) (by omega)
      rw [hp]
      congr 1
      have hpp := (fine_pOf hf (c := (a : Int)) (by omega)).2.1
      rw [Bool.eq_iff_iff, List.any_eq_true, List.any_eq_true]
      have key : ∀ p ∈ pOf (graphOf l) (a : Int), upHas (graphOf (madeV l c' k)) p b = upHas (graphOf l) p b := fun p hpm => by
        have hpr := hpp p hpm
        obtain ⟨q, rfl⟩ : ∃ q : Nat, p = (q : Int) := ⟨p.toNat, by omega⟩
        refine ih q (by omega) (by omega) (fun x hx3 hx hu e => hH x hx3 hx ?_ e) b h0 h1
        rw [upHas_step hf (by omega) (by omega) (by omega)]
        simp only [Bool.or_eq_true, List.any_eq_true]
        exact .inr ⟨_, hpm, hu⟩
      exact ⟨fun ⟨p, hm, h⟩ => ⟨p, hm, by rw [← key p hm]; exact h⟩, fun ⟨p, hm, h⟩ => ⟨p, hm, by rw [key p hm]; exact h⟩⟩
theorem slots_made (hg : goodB l = true) (hg' : goodB (madeV l c' k) = true) {c : Nat} (h3 : 3 ≤ c) (hc : c < 3 + l.length) (hs : sameUp l c c' k = true) : slotsOf (madeV l c' k) c = slotsOf l c := by
  have hgl : (graphOf l).length = l.length := by simp [graphOf]
  have hle := madeV_length (l := l) (c := c') (k := k)
  have h16 := fine_len hf
  have hfin' := fine_len hf'
  have hgl' : (graphOf (madeV l c' k)).length = (madeV l c' k).length := by simp [graphOf]
  have hH : ∀ x : Nat, 3 ≤ x → x < 3 + l.length → upHas (graphOf l) c x = true → (x : Int) = c' → clsAt l (x - 3) = k := by
    intro x hx3 hx hu e
    have hm := abvL_has hf (c := (c : Int)) ⟨by omega, by omega⟩ (c + 1) c (by omega) (abvL_ok hf ⟨by omega, by omega⟩).2 (x : Int) (by omega) (by omega) hu
    rw [sameUp, List.all_eq_true] at hs
    have := hs _ hm
    rw [Bool.not_eq_true', Bool.and_eq_false_iff] at this
    rcases this with h | h
    · simp [e] at h
    · rw [Bool.not_eq_false', beq_iff_eq, show ((x : Int) - 3).toNat = x - 3 by omega] at h; exact h
  have hu := fun b => upHas_made hf hf' hc' (c + 1) c (by omega) hc hH b
  have n1 := good_slots_nodup hg c
  have n2 := good_slots_nodup hg' c
  have s1 : (slotsOf l c).Pairwise (· ≤ ·) := slotsTo_sorted l c 40
  have s2 : (slotsOf (madeV l c' k) c).Pairwise (· ≤ ·) := slotsTo_sorted _ c 40
  have hown : ∀ s j, j < l.length → ownSl (madeV l c' k) c s j = ownSl l c s j := fun s j hj => by
    rw [ownSl, ownSl, hu _ (by omega) (by omega)]
    by_cases hq : upHas (graphOf l) c ((3 + j : Nat) : Int) = true
    · rw [madeV_at hc' hj (fun e => by have := hH (3 + j) (by omega) (by omega) hq e; rwa [show 3 + j - 3 = j by omega] at this)]
    · rw [Bool.not_eq_true] at hq
      rw [hq, Bool.and_false, Bool.and_false]
  have hperm : (slotsOf (madeV l c' k) c).Perm (slotsOf l c) := by
    rw [List.perm_ext_iff_of_nodup n2 n1]
    intro s
    rw [slotsOf, slotsOf, mem_slotsTo, mem_slotsTo]
    constructor
    · rintro ⟨h1, j, hj, ho⟩
      by_cases hjl : j < l.length
      · exact ⟨h1, j, hjl, by rw [← hown s j hjl]; exact ho⟩
      · exfalso
        rw [ownSl, Bool.and_eq_true, hu _ (by omega) (by omega)] at ho
        have := upHas_le hf (a := c) (by omega) (b := ((3 + j : Nat) : Int)) (by omega) (by omega) ho.2
        omega
    · rintro ⟨h1, j, hj, ho⟩
      exact ⟨h1, j, by omega, by rw [hown s j hj]; exact ho⟩
  exact List.Perm.eq_of_pairwise (le := (· ≤ ·)) (fun a b _ _ h1 h2 => by omega) s2 s1 hperm
end
theorem placeN_get : ∀ (l : List Int) (k : Int) (i : Nat) (h : i < l.length), l.Nodup → placeN l l[i] k = k + i
  | x :: r, k, 0, _, _ => by rw [List.getElem_cons_zero, placeN, if_pos rfl]; simp
  | x :: r, k, i + 1, h, hn => by
    rw [List.nodup_cons] at hn
    have hi : i < r.length := by simpa using h
    have hne : ¬ x = (x :: r)[i + 1] := fun e => hn.1 (by rw [e, List.getElem_cons_succ]; exact List.getElem_mem _)
    rw [placeN, if_neg hne, List.getElem_cons_succ, placeN_get r (k + 1) i hi hn.2]; push_cast; omega
theorem turnedV_same {l : List Cls} {c : Nat} {sl : List Int} (hsl : slotsOf l c = sl) (hn : sl.Nodup) {v : List (Int × Int)} (hv : v.length = sl.length) : turnedV l c sl v = v := by
  rw [turnedV, hsl]
  refine List.ext_getElem (by simpa using hv.symm) fun i h1 h2 => ?_
  have hi : i < sl.length := by simpa using h1
  rw [List.getElem_map, keptV, placeN_get sl 0 i hi hn, if_pos (by omega), show ((0 : Int) + i).toNat = i by omega, getD_lt h2]
theorem steady_main {lz : Bool} {ss : List (List Cls)} {ts : List Thing} {s : Step} (h : FOk lz ss ts) (hs : StOk ss ts s) (d1 : s.d = 1) {x : Thing} (hx : x ∈ ts) (hsame : sameUp (lastS ss) x.1 s.c s.k = true) : (freshT (doS ss s) x).2.2 = (freshT ss x).2.2 := by
  obtain ⟨n1, n12⟩ := schemasB_len h.sb
  obtain ⟨k1, k2, k3⟩ := hs.m d1
  have hgl : goodB (lastS ss) = true := schemasB_good h.sb (by omega)
  have ht := h.tk x hx
  have htf := ht.fresh h.sb
  obtain ⟨s0, c, a1, a2, a3, a4, a5, a6⟩ := ht
  obtain ⟨s1, c1, b1, b2, b3, b4, b5, b6⟩ := htf
  have e1 : s1 = ss.length - 1 := by
    have : (freshT ss x).2.1 = (ss.length : Int) - 1 := rfl
    omega
  have e2 : c1 = c := by
    have : (freshT ss x).1 = x.1 := rfl
    omega
  subst e1 e2
  have hcl : c1 < 3 + (lastS ss).length := b5
  have hfu : (freshT (doS ss s) x).2.2 = turnedV (madeV (lastS ss) s.c s.k) c1 (slotsOf (lastS ss) c1) (freshT ss x).2.2 := by
    have e : doS ss s = ss ++ [madeV (lastS ss) s.c s.k] := by rw [doS, if_pos d1]
    rw [e, freshT, freshT]
    dsimp only
    rw [a1, a2, Int.toNat_natCast, Int.toNat_natCast, List.length_append, List.length_singleton, show ss.length + 1 - 1 - s0 = (ss.length - 1 - s0) + 1 by omega, freshV_add, freshV, freshV, show s0 + (ss.length - 1 - s0) = ss.length - 1 by omega,
      show ss.length - 1 + 1 = ss.length by omega, schAt_snoc_last, schAt_snoc (by omega), freshV_congr (ss := ss ++ [madeV (lastS ss) s.c s.k]) (ss' := ss) c1 (ss.length - 1 - s0) s0 x.2.2 (fun i h1 h2 => schAt_snoc (by omega))]
    rfl
  rw [hfu]
  rw [a2] at hsame
  exact turnedV_same (slots_made (goodB_fine hgl).2 (goodB_fine k3).2 k1 hgl k3 (by omega) (by omega) hsame) (good_slots_nodup hgl c1) b6
end Go.Proofs
namespace Go.Proofs
open Go Go.W Go.V
theorem mem_placeN (n : Int) : ∀ (l : List Int) (k : Int), 0 ≤ k → (n ∈ l ↔ 0 ≤ placeN l n k)
  | [], k, _ => by simp [placeN]
  | x :: r, k, h => by
    rw [placeN, List.mem_cons]
    by_cases e : x = n
    · rw [if_pos e]; exact ⟨fun _ => h, fun _ => .inl e.symm⟩
    · rw [if_neg e, ← mem_placeN n r (k + 1) (by omega)]
      exact ⟨fun hm => hm.resolve_left fun h => e h.symm, .inr⟩
theorem placeN_at (n : Int) : ∀ (l : List Int) (k : Int) (_h : 0 ≤ k), n ∈ l → ∃ i : Nat, ∃ hi : i < l.length, placeN l n k = k + i ∧ l[i] = n
  | x :: r, k, h, hm => by
    rw [placeN]
    by_cases e : x = n
    · rw [if_pos e]; exact ⟨0, by simp, by simp, by simpa using e⟩
    · rw [if_neg e]
      obtain ⟨i, hi, h1, h2⟩ := placeN_at n r (k + 1) (by omega) ((List.mem_cons.1 hm).resolve_left fun h => e h.symm)
      exact ⟨i + 1, by simpa using hi, by rw [h1]; push_cast; omega, by simpa using h2⟩
theorem map_place {f : Int → Int × Int} {l : List Int} {s : Int} (h : s ∈ l) : (l.map f).getD (placeN l s 0).toNat (0, 0) = f s := by
  obtain ⟨i, hi, h1, h2⟩ := placeN_at s l 0 (Int.le_refl _) h
  rw [h1, show ((0 : Int) + i).toNat = i by omega, getD_lt (by simpa using hi), List.getElem_map, h2]
def anewN (U : List (List Cls)) (c : Nat) (sl : Int) (fr : Nat) : Nat → (Int × Int) × Bool
  | 0 => ((1, 77), true)
  | k + 1 => (if (slotsOf (schAt U (fr + (k + 1))) c).contains sl && !(anewN U c sl fr k).2 then beginV (schAt U (fr + (k + 1))) c sl else (anewN U c sl fr k).1, (slotsOf (schAt U (fr + (k + 1))) c).contains sl)
theorem anewN_law {U : List (List Cls)} {c fr : Nat} {sl : Int} {v : List (Int × Int)} (h0 : sl ∈ slotsOf (schAt U fr) c) (hv : v.getD (placeN (slotsOf (schAt U fr) c) sl 0).toNat (0, 0) = (1, 77)) : ∀ k,
    (anewN U c sl fr k).2 = (slotsOf (schAt U (fr + k)) c).contains sl ∧ ((anewN U c sl fr k).2 = true → (freshV U c k fr v).getD (placeN (slotsOf (schAt U (fr + k)) c) sl 0).toNat (0, 0) = (anewN U c sl fr k).1)
  | 0 => ⟨by rw [anewN, Nat.add_zero]; exact (List.contains_iff_mem.2 h0).symm, fun _ => hv⟩
  | k + 1 => by
    obtain ⟨i1, i2⟩ := anewN_law h0 hv k
    refine ⟨rfl, fun hh => ?_⟩
    have hm : sl ∈ slotsOf (schAt U (fr + (k + 1))) c := List.contains_iff_mem.1 hh
    have hh' : (slotsOf (schAt U (fr + (k + 1))) c).contains sl = true := hh
    rw [anewN, hh', Bool.true_and, freshV_add U c k 1, freshV, freshV, turnedV, show fr + k + 1 = fr + (k + 1) by omega, map_place hm, keptV]
    dsimp only
    cases hq : (anewN U c sl fr k).2 with
    | true =>
      have hc : (slotsOf (schAt U (fr + k)) c).contains sl = true := by rw [← i1]; exact hq
      rw [if_pos ((mem_placeN sl _ 0 (Int.le_refl _)).1 (List.contains_iff_mem.1 hc)), i2 hq]; rfl
    | false =>
      have hc : ¬ sl ∈ slotsOf (schAt U (fr + k)) c := fun hm => by
        have := List.contains_iff_mem.2 hm
        rw [← i1, hq] at this; cases this
      rw [if_neg (fun h => hc ((mem_placeN sl _ 0 (Int.le_refl _)).2 h))]; rfl
/-! ### Steps that make classes -/
def makesOf (l : List Step) : List Step := l.filter fun s => decide (s.d = 1)
theorem makes_all (l : List Step) : ∀ s ∈ makesOf l, s.d = 1 := fun s hs => by
  rw [makesOf, List.mem_filter] at hs; exact of_decide_eq_true hs.2
theorem makes_things : ∀ (l : List Step) (ss : List (List Cls)) (ts : List Thing), (∀ s ∈ l, s.d = 1) → (playV true ss ts l).2.1 = ts
  | [], _, _, _ => rfl
  | s :: l, ss, ts, h => by
    have d1 := h s (by simp)
    by_cases hr : refusedE ss ts s = 0
    · rw [playV, if_pos hr]
      dsimp only
      rw [doT, if_pos d1, if_pos rfl]
      exact makes_things l _ ts (fun x hx => h x (by simp [hx]))
    · rw [playV, if_neg hr]
      exact makes_things l _ ts (fun x hx => h x (by simp [hx]))
theorem play_grow (lz : Bool) : ∀ (l : List Step) (ss : List (List Cls)) (ts : List Thing), ss.length ≤ (playV lz ss ts l).1.length ∧ ∀ i, i < ss.length → schAt (playV lz ss ts l).1 i = schAt ss i
  | [], _, _ => ⟨Nat.le_refl _, fun _ _ => rfl⟩
  | s :: l, ss, ts => by
    by_cases hr : refusedE ss ts s = 0
    · rw [playV, if_pos hr]
      obtain ⟨h1, h2⟩ := play_grow lz l (doS ss s) (doT lz ss ts s)
      have hd : ss.length ≤ (doS ss s).length ∧ ∀ i, i < ss.length → schAt (doS ss s) i = schAt ss i := by
        rw [doS]; split
        · exact ⟨by simp, fun i hi => schAt_snoc hi⟩
        · exact ⟨Nat.le_refl _, fun _ _ => rfl⟩
      exact ⟨by dsimp only; omega, fun i hi => by dsimp only; rw [h2 i (by omega), hd.2 i hi]⟩
    · rw [playV, if_neg hr]
      exact play_grow lz l ss ts
theorem makes_fresh {lz : Bool} {ss : List (List Cls)} {ts : List Thing} (h : FOk lz ss ts) (hsh : ∀ s ∈ ss, Short s) {l : List Step} (hk : ∀ s ∈ l, ShortC s.k) (h1 : ∀ s ∈ l, s.d = 1) {i : Int} (hi : 0 ≤ i ∧ i < (ts.length : Int)) :
    (playV lz ss ts l).2.1.length = ts.length ∧ freshT (playV lz ss ts l).1 (thAt (playV lz ss ts l).2.1 i) = freshT (playV lz ss ts l).1 (thAt ts i) := by
  cases lz with
  | true => rw [makes_things l ss ts h1]; exact ⟨rfl, rfl⟩
  | false =>
    have e := play_lazy l ss ts (h.w hsh) hk
    have hp := play_ok true l ss ts (h.w hsh) hk
    rw [h.settled] at e
    rw [e]
    dsimp only
    rw [makes_things l ss ts h1] at hp ⊢
    refine ⟨by simp, ?_⟩
    rw [thAt_map (by omega), freshT_idem (hp.tk _ (thAt_mem hi))]
abbrev putS (th sl : Int) : Step := ⟨4, th, 0, sl, (1, 77), ([], [], [])⟩
abbrev getS (th sl : Int) : Step := ⟨3, th, 0, sl, (0, 0), ([], [], [])⟩
theorem shortC0 : ShortC ([], [], []) := ⟨by decide, by decide, by decide⟩
theorem anew_main {lz : Bool} {ss : List (List Cls)} {ts : List Thing} (h : FOk lz ss ts) (hsh : ∀ s ∈ ss, Short s) {th sl : Int} (hth : 0 ≤ th ∧ th < (ts.length : Int)) (hput : refusedE ss ts (putS th sl) = 0) {l : List Step} (hk : ∀ s ∈ l, ShortC s.k) (h1 : ∀ s ∈ l, s.d = 1) :
    FOk lz ss (doT lz ss ts (putS th sl)) ∧ FOk lz (playV lz ss (doT lz ss ts (putS th sl)) l).1 (playV lz ss (doT lz ss ts (putS th sl)) l).2.1 ∧
    (playV lz ss (doT lz ss ts (putS th sl)) l).2.1.length = ts.length ∧ ss.length ≤ (playV lz ss (doT lz ss ts (putS th sl)) l).1.length ∧
    (∀ j, ss.length ≤ j → j < (playV lz ss (doT lz ss ts (putS th sl)) l).1.length → ownB (schAt (playV lz ss (doT lz ss ts (putS th sl)) l).1 j).length (thAt ts th).1 = true) ∧
    refusedE (playV lz ss (doT lz ss ts (putS th sl)) l).1 (playV lz ss (doT lz ss ts (putS th sl)) l).2.1 (getS th sl) = (if (anewN (playV lz ss (doT lz ss ts (putS th sl)) l).1 (thAt ts th).1.toNat sl (ss.length - 1) ((playV lz ss (doT lz ss ts (putS th sl)) l).1.length - ss.length)).2 then 0 else 5) ∧
    ((anewN (playV lz ss (doT lz ss ts (putS th sl)) l).1 (thAt ts th).1.toNat sl (ss.length - 1) ((playV lz ss (doT lz ss ts (putS th sl)) l).1.length - ss.length)).2 = true →
      doR (playV lz ss (doT lz ss ts (putS th sl)) l).1 (playV lz ss (doT lz ss ts (putS th sl)) l).2.1 (getS th sl) = (anewN (playV lz ss (doT lz ss ts (putS th sl)) l).1 (thAt ts th).1.toNat sl (ss.length - 1) ((playV lz ss (doT lz ss ts (putS th sl)) l).1.length - ss.length)).1) := by
  have hst := refused_ok hput
  have hf1 : FOk lz ss (doT lz ss ts (putS th sl)) := by
    have := h.step (s := putS th sl) hsh shortC0 hst
    rwa [doS, if_neg (show ¬ (4 : Int) = 1 by decide)] at this
  obtain ⟨n1, n12⟩ := schemasB_len h.sb
  have hw := h.w hsh
  have htl : (doT lz ss ts (putS th sl)).length = ts.length := by rw [doT, if_neg (show ¬ (4 : Int) = 1 by decide), if_neg (show ¬ (4 : Int) = 2 by decide), List.length_set]
  have hth1 : 0 ≤ th ∧ th < ((doT lz ss ts (putS th sl)).length : Int) := by rw [htl]; exact hth
  have hat : thAt (doT lz ss ts (putS th sl)) th = putT ss ts (putS th sl) := by
    rw [thAt, doT, if_neg (show ¬ (4 : Int) = 1 by decide), if_neg (show ¬ (4 : Int) = 2 by decide), getD_lt (by rw [List.length_set]; omega), List.getElem_set_self]
  have hpt : putT ss ts (putS th sl) = ((thAt ts th).1, (ss.length : Int) - 1, (upT ss ts (putS th sl)).2.2.set (slotAt ss ts (putS th sl)).toNat (1, 77)) := by rw [putT, if_pos rfl]; rfl
  have hpl := hst.g (.inr rfl)
  have hul := upT_len (s := putS th sl) hw hth
  obtain ⟨c, hc, hc3, hcl⟩ := hw.cls (thAt_mem hth)
  generalize hts1 : doT lz ss ts (putS th sl) = ts1 at *
  have hf2 := play_formed lz l ss ts1 hf1 hsh hk
  obtain ⟨g1, g2⟩ := play_grow lz l ss ts1
  obtain ⟨m1, m2⟩ := makes_fresh hf1 hsh hk h1 hth1
  generalize hr1 : (playV lz ss ts1 l).1 = U at *
  generalize hr2 : (playV lz ss ts1 l).2.1 = ts2 at *
  have hlast : schAt U (ss.length - 1) = lastS ss := g2 _ (by omega)
  have e0 : slotAt ss ts (putS th sl) = placeN (slotsOf (lastS ss) (thAt ts th).1.toNat) sl 0 := rfl
  have hm0 : sl ∈ slotsOf (schAt U (ss.length - 1)) (thAt ts th).1.toNat := by rw [hlast]; exact (mem_placeN sl _ 0 (Int.le_refl _)).2 hpl
  have hv0 : ((upT ss ts (putS th sl)).2.2.set (slotAt ss ts (putS th sl)).toNat (1, 77)).getD (placeN (slotsOf (schAt U (ss.length - 1)) (thAt ts th).1.toNat) sl 0).toNat (0, 0) = (1, 77) := by
    have hlt := placeN_lt (slotsOf (lastS ss) (thAt ts th).1.toNat) sl
    have hul' : (upT ss ts (putS th sl)).2.2.length = (slotsOf (lastS ss) (thAt ts th).1.toNat).length := hul
    have hpl' : 0 ≤ placeN (slotsOf (lastS ss) (thAt ts th).1.toNat) sl 0 := hpl
    rw [hlast, e0, getD_lt (by rw [List.length_set]; omega), List.getElem_set_self]
  obtain ⟨a1, a2⟩ := anewN_law hm0 hv0 (U.length - ss.length)
  have hidx : ss.length - 1 + (U.length - ss.length) = U.length - 1 := by omega
  rw [hidx] at a1 a2
  have hfr : freshT U (thAt ts2 th) = ((thAt ts th).1, (U.length : Int) - 1, freshV U (thAt ts th).1.toNat (U.length - ss.length) (ss.length - 1) ((upT ss ts (putS th sl)).2.2.set (slotAt ss ts (putS th sl)).toNat (1, 77))) := by
    rw [m2, hat, hpt, freshT]
    dsimp only
    rw [show ((ss.length : Int) - 1).toNat = ss.length - 1 by omega, show U.length - 1 - (ss.length - 1) = U.length - ss.length by omega]
  have hcls : (thAt ts2 th).1 = (thAt ts th).1 := by
    have := congrArg (·.1) hfr
    exact this
  refine ⟨hf1, hf2, by rw [m1, htl], g1, fun j hj1 hj2 => ?_, ?_, fun hh => ?_⟩
  · have := schemasB_le hf2.sb (i := ss.length - 1) j (by omega) hj2
    rw [hlast] at this
    rw [ownB, hc, decide_eq_true (show (3 : Int) ≤ (c : Int) by omega), decide_eq_true (by omega)]; rfl
  · rw [refusedE, if_neg (show ¬ (3 : Int) = 1 by decide), if_neg (show ¬ (3 : Int) = 2 by decide), if_pos (.inl rfl), if_pos (by rw [inB, m1, htl, decide_eq_true hth.1, decide_eq_true hth.2]; rfl), if_neg (by intro h; exact absurd h.1 (show ¬ (3 : Int) = 4 by decide)), lastS, hcls, a1]
    by_cases hq : sl ∈ slotsOf (schAt U (U.length - 1)) (thAt ts th).1.toNat
    · rw [if_neg (by have := (mem_placeN sl _ 0 (Int.le_refl _)).1 hq; dsimp only; omega), if_pos (List.contains_iff_mem.2 hq)]
    · rw [if_pos (by have := mt (mem_placeN sl _ 0 (Int.le_refl _)).2 hq; dsimp only; omega), if_neg (fun h => hq (List.contains_iff_mem.1 h))]
  · have := a2 hh
    rw [doR, if_neg (show ¬ (3 : Int) = 1 by decide), if_neg (show ¬ (3 : Int) = 2 by decide), if_pos rfl, slotAt, upT]
    dsimp only
    rw [hfr]
    exact this
end Go.Proofs
namespace Go.Proofs
open Go Go.W Go.V
theorem makesOf_snoc (l : List Step) (s : Step) : makesOf (l ++ [s]) = makesOf l ++ (if s.d = 1 then [s] else []) := by
  rw [makesOf, List.filter_append, ← makesOf]
  by_cases h : s.d = 1 <;> simp [h]
theorem makesOf_len (l : List Step) : (makesOf l).length ≤ l.length := List.length_filter_le _ _
set_option maxHeartbeats 8000000 in
theorem s_law17_TurnAnew (lz : Bool) (ss : List (List Cls)) (ts : List Thing) (hsh : ∀ s ∈ ss, Short s) (l : List Step) (hk : ∀ s ∈ l, ShortC s.k) (c th fr to sl : Int) : V.Spec Tryz.prog Fc.law17_TurnAnew [givA lz ss ts l c th fr to, V.int sl] [] (V.bool true) [] := by
  have hfo := s_ref17_Formed lz ss ts hsh
  have hkn := s_law17_known
  cases hf : formedB lz ss ts
  · rw [hf] at hfo
    refine V.Spec.enter Tryz.tabOK Tryz.mixed Fn.law17_TurnAnew rfl rfl rfl fun B hB => ?_
    repeat' (with_reducible first | refine OL.st ?_ | refine OL.box ?_ | refine TC.region ?_ | refine TC.seq ?_ | refine OL.nil ?_ | refine TX.thenN ?_ | refine OL.ldM ?_ | fail)
    refine OL.c hfo Fn.ref17_Formed ?_
    repeat' (with_reducible first | refine OL.st ?_ | refine TC.region ?_ | refine TC.seq ?_ | refine OL.nil ?_ | refine TX.thenN ?_ | refine TC.ifT ?_ | refine OL.gOff ?_ | fail)
    refine OL.c hkn Fn.law17_known ?_
    repeat' (with_reducible first | refine OL.st ?_ | refine OL.nil ?_ | refine TX.thenN ?_ | refine TC.ret ?_ | refine TX.thenR ?_ | fail)
    exact TX.rt1 [] (.ren rfl)
  rw [hf] at hfo
  have hF := formedB_iff.1 hf
  obtain ⟨n1, n12⟩ := schemasB_len hF.sb
  have h40 := hF.n40
  by_cases hth : ¬ (0 ≤ th ∧ th < (ts.length : Int))
  · by_cases h0 : 0 ≤ th
    all_goals refine V.Spec.enter Tryz.tabOK Tryz.mixed Fn.law17_TurnAnew rfl rfl rfl fun B hB => ?_
    all_goals repeat' (with_reducible first | refine OL.st ?_ | refine OL.box ?_ | refine TC.region ?_ | refine TC.seq ?_ | refine OL.nil ?_ | refine TX.thenN ?_ | refine OL.ldM ?_ | fail)
    all_goals refine OL.c hfo Fn.ref17_Formed ?_
    all_goals repeat' (with_reducible first | refine OL.st ?_ | refine TC.region ?_ | refine TC.seq ?_ | refine OL.nil ?_ | refine TX.thenN ?_ | refine TC.ifT ?_ | refine OL.gOn ?_ | refine OL.gOff ?_ | refine TC.ifD ?_ ?_ <;> (intro hc; try (exfalso; omega)) | refine OL.gD ?_ ?_ <;> (intro hc; try (exfalso; omega)) | fail)
    all_goals refine OL.c hkn Fn.law17_known ?_
    all_goals repeat' (with_reducible first | refine OL.st ?_ | refine OL.nil ?_ | refine TX.thenN ?_ | refine TC.ret ?_ | refine TX.thenR ?_ | fail)
    all_goals exact TX.rt1 [] (.ren rfl)
  have hth : 0 ≤ th ∧ th < (ts.length : Int) := by omega
  have hdo := s_turn_Do lz ss ts hsh (putS th sl) shortC0
  rw [doX, hf, if_pos rfl] at hdo
  refine V.Spec.enter Tryz.tabOK Tryz.mixed Fn.law17_TurnAnew rfl rfl rfl fun B hB => ?_
  repeat' (with_reducible first | refine OL.st ?_ | refine OL.box ?_ | refine TC.region ?_ | refine TC.seq ?_ | refine OL.nil ?_ | refine TX.thenN ?_ | refine OL.ldM ?_ | fail)
  refine OL.c hfo Fn.ref17_Formed ?_
  repeat' (with_reducible first | refine OL.st ?_ | refine TC.seq ?_ | refine OL.nil ?_ | refine TX.thenN ?_ | refine TC.skip ?_ | refine OL.gOn ?_ | refine TC.ifD ?_ ?_ <;> (intro hc; try (exfalso; omega)) | refine OL.gD ?_ ?_ <;> (intro hc; try (exfalso; omega)) | fail)
  refine TC.cut [(1, V.int sl), (2, .bp 0 0), (5, .bp 1 0)] [.cb 28 [V.bool lz, schsA ss, thingsA ts, stepsA l, V.int c, V.int th, V.int fr, V.int to], .cb 41 [V.int 4, V.int th, V.int 0, V.int sl, V.int 1, V.int 77, ints [], ints [], initsA []]] ?_ ?_
  · (with_reducible refine TC.draw (id := 3) true 6 7 ?_ <;> refine OD.st 0 ?_ <;> refine OD.st 1 ?_ <;> refine OD.st 2 ?_ <;> refine OD.n2 3 5 ?_ ?_ <;> (first | refine NextBy.at 3 ?_ <;> refine NextBy.c (s_law17_num 77) Fn.law17_num ?_ <;> refine OD.st 4 ?_ (h := gvBuild) <;> refine OD.kn 44 (LE.step0 4 th 0 sl 1 77) ?_ <;> refine OD.al 5 ?_ <;> (refine OD.a1 6 ?_; refine OL.storeAgg ?_; refine OL.nil ?_; refine TX.od ?_) <;> refine OD.dn ?_ | refine NextBy.at 5 ?_ <;> refine NextBy.al ?_ <;> refine OD.c1 3 (s_law17_num 77) Fn.law17_num ?_ <;> refine OD.st 4 ?_ (h := gvBuild) <;> refine OD.kn 44 (LE.step0 4 th 0 sl 1 77) ?_ <;> (refine OD.a1 6 ?_; refine OL.storeAgg ?_; refine OL.nil ?_; refine TX.od ?_) <;> refine OD.dn ?_))
    all_goals exact TX.ctk 5 [0]
  by_cases e0 : ¬ refusedE ss ts (putS th sl) = 0
  · rw [if_neg e0] at hdo
    generalize refusedE ss ts (putS th sl) = er at *
    repeat' (with_reducible first | refine OL.st ?_ | refine TC.region ?_ | refine TC.seq ?_ | refine TX.thenN ?_ | refine OL.ldM ?_ | fail)
    refine OL.c hdo Fn.turn_Do ?_
    repeat' (with_reducible first | refine OL.st ?_ | refine OL.alloc ?_ | refine OL.storeAgg ?_ | refine TC.region ?_ | refine TC.seq ?_ | refine OL.nil ?_ | refine TX.thenN ?_ | refine TC.ifD ?_ ?_ <;> (intro hc; try (exfalso; omega)) | fail)
    refine OL.c hkn Fn.law17_known ?_
    repeat' (with_reducible first | refine OL.st ?_ | refine OL.nil ?_ | refine TX.thenN ?_ | refine TC.ret ?_ | refine TX.thenR ?_ | fail)
    exact TX.rt1 [] (.ren rfl)
  have e0 : refusedE ss ts (putS th sl) = 0 := by omega
  rw [if_pos e0] at hdo
  obtain ⟨m6, hm6⟩ : ∃ m6 : Nat, (if (60 : Int) < (l.length : Int) then (60 : Int) else (l.length : Int)) = (m6 : Int) ∧ m6 ≤ l.length ∧ m6 ≤ 60 := ⟨min l.length 60, by split <;> omega, by omega, by omega⟩
  obtain ⟨hm6, hm7, hm8⟩ := hm6
  obtain ⟨l6, hl6⟩ : ∃ l6, l6 = l.take m6 := ⟨_, rfl⟩
  have hk6 : ∀ s ∈ makesOf l6, ShortC s.k := fun s hs => hk s (List.mem_of_mem_take (hl6 ▸ (List.mem_filter.1 hs).1))
  have hl66 : l6.length ≤ 60 := by rw [hl6]; simp; omega
  have hmk := makesOf_len l6
  obtain ⟨cN, hc1, hc2, hc3⟩ := (hF.w hsh).cls (thAt_mem hth)
  have hcx : (ts[th.toNat]'(by omega)).1 = (cN : Int) := by rw [← hc1, thAt, getD_lt (by omega)]
  obtain ⟨a1, a2, a3, a4, a5, a6, a7⟩ := anew_main hF hsh hth e0 hk6 (makes_all l6)
  have hsS : doS ss (putS th sl) = ss := if_neg (show ¬ (4 : Int) = 1 by decide)
  rw [hsS] at hdo
  have hp := s_turn_Play lz ss (doT lz ss ts (putS th sl)) hsh (makesOf l6) hk6
  rw [playX, if_pos ⟨formedB_iff.2 a1, by omega⟩] at hp
  have hshU := (play_ok lz (makesOf l6) ss _ (a1.w hsh) hk6).sh
  rw [hc1, Int.toNat_natCast] at a6 a7
  generalize doT lz ss ts (putS th sl) = ts1 at *
  generalize (playV lz ss ts1 (makesOf l6)).2.2.1 = pv at *
  generalize (playV lz ss ts1 (makesOf l6)).2.2.2 = pe at *
  generalize (playV lz ss ts1 (makesOf l6)).2.1 = T2 at *
  generalize (playV lz ss ts1 (makesOf l6)).1 = U at *
  have hfo2 := s_ref17_Formed lz U T2 hshU
  rw [formedB_iff.2 a2] at hfo2
  have hdg := s_turn_Do lz U T2 hshU (getS th sl) shortC0
  rw [doX, formedB_iff.2 a2, if_pos rfl] at hdg
  obtain ⟨u1, u12⟩ := schemasB_len a2.sb
  obtain ⟨Dr, hDr⟩ : ∃ Dr, Dr = U.drop ss.length := ⟨_, rfl⟩
  have hDl : Dr.length = U.length - ss.length := by rw [hDr]; simp
  have hDg : ∀ i (h : i < Dr.length), Dr[i] = schAt U (ss.length - 1 + (i + 1)) := fun i h => by
    simp only [hDr, List.getElem_drop]
    rw [schAt, getD_lt (by omega)]; congr 1; omega
  obtain ⟨An, hAn⟩ : ∃ An, An = anewN U cN sl (ss.length - 1) := ⟨_, rfl⟩
  have hA0 : An 0 = ((1, 77), true) := by rw [hAn]; rfl
  have hA02 : (An 0).2 = true := by rw [hA0]
  have hAs : ∀ i (h : i < Dr.length), An (i + 1) = (if (slotsOf Dr[i] cN).contains sl && !(An i).2 then beginV Dr[i] cN sl else (An i).1, (slotsOf Dr[i] cN).contains sl) := fun i h => by rw [hDg i h, hAn]; rfl
  rw [← hDl, ← hAn] at a6 a7
  have hgood : ∀ i (h : i < Dr.length), goodB Dr[i] = true ∧ cN < 3 + Dr[i].length := fun i h => by
    have h5 := a5 (ss.length + i) (by omega) (by omega)
    rw [hDg i h, show ss.length - 1 + (i + 1) = ss.length + i by omega]
    refine ⟨schemasB_good a2.sb (by omega), ?_⟩
    rw [ownB, hc1, Bool.and_eq_true, decide_eq_true_eq, decide_eq_true_eq] at h5
    omega
  clear hAn hDg a5 hc1
  repeat' (with_reducible first | refine OL.st ?_ | refine TC.region ?_ | refine TC.seq ?_ | refine TX.thenN ?_ | refine OL.ldM ?_ | fail)
  refine OL.c hdo Fn.turn_Do ?_
  repeat' (with_reducible first | refine OL.st ?_ | refine OL.alloc ?_ | refine OL.storeAgg ?_ | refine TC.region ?_ | refine TC.seq ?_ | refine OL.nil ?_ | refine TX.thenN ?_ | refine TC.skip ?_ | refine TC.ifF ?_ | fail)
  refine OL.min hm6 ?_
  repeat' (with_reducible first | refine OL.st ?_ | refine OL.nil ?_ | refine TX.thenN ?_ | refine TC.block ?_ | fail)
  rw [← hl6]
  refine TC.adp 10 Tc.api_TurnStep 9 ?_
  refine TC.lp (fun k : Nat => [(1, V.int sl), (2, .bp 0 0), (6, .bp 1 0), (9, V.int ((ss.length : Int) - 1)), (10, .hs 2), (67, stepsA l6), (68, V.int l6.length), (69, V.int k)]) (fun k => [.cb 28 [V.bool lz, schsA ss, thingsA ts, stepsA l, V.int c, V.int th, V.int fr, V.int to], .cb 25 [V.bool lz, schsA ss, thingsA ts1], .gs false Tc.api_TurnStep 9 none ((makesOf (l6.take k)).map stepA)]) (fun k => k ≤ l6.length) (fun k => l6.length - k) 0 [0, 2, 4] (Nat.zero_le _) ?_
  rintro k hkk
  have hql := makesOf_len (l6.take k)
  have hql2 : (l6.take k).length ≤ 60 := by simp; omega
  by_cases hkl : k < l6.length
  · have hsn := makesOf_snoc (l6.take k) l6[k]
    rw [← take_succ hkl] at hsn
    generalize makesOf (l6.take k) = q at *
    by_cases hd : l6[k].d = 1
    · rw [if_pos hd] at hsn
      have e : q.map stepA ++ [stepA l6[k]] = (makesOf (l6.take (k + 1))).map stepA := by rw [hsn]; simp
      repeat' (with_reducible first | refine OL.st ?_ | refine OL.alloc ?_ | refine OL.storeAgg ?_ | refine OL.lit ?_ | refine OL.appO ?_ | refine TC.region ?_ | refine TC.seq ?_ | refine OL.nil ?_ | refine TX.thenN ?_ | refine TC.block ?_ | refine TC.skip ?_ | refine TX.blkN ?_ | refine TC.ifD ?_ ?_ <;> (intro hc; try (exfalso; omega)) | fail)
      exact TX.rd (k + 1) [0, 1, 5] (by omega) (by omega)
    · rw [if_neg hd, List.append_nil] at hsn
      have e : q.map stepA = (makesOf (l6.take (k + 1))).map stepA := by rw [hsn]
      repeat' (with_reducible first | refine OL.st ?_ | refine OL.alloc ?_ | refine OL.storeAgg ?_ | refine TC.region ?_ | refine TC.seq ?_ | refine OL.nil ?_ | refine TX.thenN ?_ | refine TC.block ?_ | refine TC.skip ?_ | refine TX.blkN ?_ | refine TC.ifD ?_ ?_ <;> (intro hc; try (exfalso; omega)) | fail)
      exact TX.rd (k + 1) [0, 1, 2] (by omega) (by omega)
  · rw [take_all (by omega)]
    repeat' (with_reducible first | refine OL.st ?_ | refine TC.region ?_ | refine TC.seq ?_ | refine OL.nil ?_ | refine TX.thenN ?_ | refine TC.exit ?_ | refine TX.hit ?_ | refine TX.thenX ?_ | refine TC.ifD ?_ ?_ <;> (intro hc; try (exfalso; omega)) | fail)
    refine OL.vw 83 ?_
    refine OL.c hp Fn.turn_Play ?_
    repeat' (with_reducible first | refine OL.st ?_ | refine OL.storeAgg ?_ | refine TC.region ?_ | refine TC.seq ?_ | refine OL.nil ?_ | refine TX.thenN ?_ | refine OL.gOn ?_ | fail)
    refine OL.c hfo2 Fn.ref17_Formed ?_
    repeat' (with_reducible first | refine OL.st ?_ | refine TC.region ?_ | refine TC.seq ?_ | refine OL.nil ?_ | refine TX.thenN ?_ | refine TC.skip ?_ | refine OL.gOn ?_ | refine TC.ifD ?_ ?_ <;> (intro hc; try (exfalso; omega)) | refine OL.gD ?_ ?_ <;> (intro hc; try (exfalso; omega)) | fail)
    refine OL.c (s_law17_num 77) Fn.law17_num ?_
    repeat' (with_reducible first | refine OL.st ?_ | refine OL.alloc ?_ | refine OL.storeAgg ?_ | refine TC.region ?_ | refine TC.seq ?_ | refine OL.nil ?_ | refine TX.thenN ?_ | refine TC.block ?_ | fail)
    rw [show ((ss.length : Int) - 1 + 1).toNat = ss.length by omega, ← hDr]
    refine TC.lp (fun i : Nat => [(1, V.int sl), (2, .bp 0 0), (6, .bp 1 0), (13, V.int cN), (14, .bp 2 0), (15, V.bool (An i).2), (126, schsA Dr), (127, V.int Dr.length), (128, V.int i)]) (fun i => [.cb 28 [V.bool lz, schsA ss, thingsA ts, stepsA l, V.int c, V.int th, V.int fr, V.int to], .cb 25 [V.bool lz, schsA U, thingsA T2], .cb 31 [V.int (An i).1.1, V.int (An i).1.2]]) (fun i => i ≤ Dr.length) (fun i => Dr.length - i) 0 [0, 1, 3] (Nat.zero_le _) ?_ (ho := by rw [hA0]; exact ⟨⟨_, rfl, OE.ren rfl⟩, ⟨_, rfl, OE.ren rfl⟩, ⟨_, rfl, OE.ren rfl⟩, trivial⟩)
    rintro i hi
    by_cases hil : i < Dr.length
    · obtain ⟨g1, g2⟩ := hgood i hil
      obtain ⟨l10, lf⟩ := goodB_fine g1
      have hown := s_ref17_Own Dr[i] (cN : Int) (by omega)
      rw [decide_eq_true (show (3 : Int) ≤ (cN : Int) by omega), decide_eq_true (show (cN : Int) < 3 + (Dr[i].length : Int) by omega)] at hown
      have hso := s_ref17_SlotsOf lf g2
      have hct := s_slices_Contains_Lint_int (slotsOf Dr[i] cN) sl
      have hbe := s_ref17_Begin lf g2 sl
      have has := hAs i hil
      generalize slotsOf Dr[i] cN = so at *
      generalize beginV Dr[i] cN sl = bv at *
      cases hct1 : so.contains sl
      · rw [hct1] at hct has
        rw [Bool.false_and, if_neg Bool.false_ne_true] at has
        have b1 : (An (i + 1)).2 = false := by rw [has]
        have b2 : (An (i + 1)).1.1 = (An i).1.1 := by rw [has]
        have b3 : (An (i + 1)).1.2 = (An i).1.2 := by rw [has]
        repeat' (with_reducible first | refine OL.st ?_ | refine TC.region ?_ | refine TC.seq ?_ | refine OL.nil ?_ | refine TX.thenN ?_ | refine TC.block ?_ | refine TC.skip ?_ | refine TC.ifD ?_ ?_ <;> (intro hc; try (exfalso; omega)) | fail)
        refine OL.c hown Fn.ref17_Own ?_
        repeat' (with_reducible first | refine OL.st ?_ | refine TC.region ?_ | refine TC.seq ?_ | refine OL.nil ?_ | refine TX.thenN ?_ | refine TC.skip ?_ | refine TC.ifF ?_ | fail)
        refine OL.c hso Fn.ref17_SlotsOf ?_
        repeat' (first | (with_reducible refine OL.st ?_) | fail)
        refine OL.c hct Fn.slices_Contains_Lint_int ?_
        repeat' (with_reducible first | refine OL.st ?_ | refine TC.region ?_ | refine TC.seq ?_ | refine OL.nil ?_ | refine TX.thenN ?_ | refine TC.skip ?_ | refine TX.blkN ?_ | refine TC.ifF ?_ | refine OL.gOff ?_ | fail)
        exact TX.rd (i + 1) [0, 1, 2] (by omega) (by omega) (ho := by rw [b2, b3]; exact ⟨⟨_, rfl, OE.ren rfl⟩, ⟨_, rfl, OE.ren rfl⟩, ⟨_, rfl, OE.ren rfl⟩, trivial⟩)
      · rw [hct1, Bool.true_and] at has
        rw [hct1] at hct
        cases hh : (An i).2
        · rw [hh] at has
          have b1 : (An (i + 1)).2 = true := by rw [has]
          have b2 : (An (i + 1)).1 = bv := by rw [has]; rfl
          repeat' (with_reducible first | refine OL.st ?_ | refine TC.region ?_ | refine TC.seq ?_ | refine OL.nil ?_ | refine TX.thenN ?_ | refine TC.block ?_ | refine TC.skip ?_ | refine TC.ifD ?_ ?_ <;> (intro hc; try (exfalso; omega)) | fail)
          refine OL.c hown Fn.ref17_Own ?_
          repeat' (with_reducible first | refine OL.st ?_ | refine TC.region ?_ | refine TC.seq ?_ | refine OL.nil ?_ | refine TX.thenN ?_ | refine TC.skip ?_ | refine TC.ifF ?_ | fail)
          refine OL.c hso Fn.ref17_SlotsOf ?_
          repeat' (first | (with_reducible refine OL.st ?_) | fail)
          refine OL.c hct Fn.slices_Contains_Lint_int ?_
          repeat' (with_reducible first | refine OL.st ?_ | refine TC.region ?_ | refine TC.seq ?_ | refine OL.nil ?_ | refine TX.thenN ?_ | refine TC.ifT ?_ | refine OL.gOn ?_ | fail)
          refine OL.c hbe Fn.ref17_Begin ?_
          repeat' (with_reducible first | refine OL.st ?_ | refine OL.storeAgg ?_ | refine TC.region ?_ | refine OL.nil ?_ | refine TX.thenN ?_ | refine TX.blkN ?_ | fail)
          exact TX.rd (i + 1) [0, 1, 2] (by omega) (by omega) (ho := by rw [b2]; exact ⟨⟨_, rfl, OE.ren rfl⟩, ⟨_, rfl, OE.ren rfl⟩, ⟨_, rfl, OE.ren rfl⟩, trivial⟩)
        · rw [hh] at has
          have b1 : (An (i + 1)).2 = true := by rw [has]
          have b2 : (An (i + 1)).1 = (An i).1 := by rw [has]; rfl
          repeat' (with_reducible first | refine OL.st ?_ | refine TC.region ?_ | refine TC.seq ?_ | refine OL.nil ?_ | refine TX.thenN ?_ | refine TC.block ?_ | refine TC.skip ?_ | refine TC.ifD ?_ ?_ <;> (intro hc; try (exfalso; omega)) | fail)
          refine OL.c hown Fn.ref17_Own ?_
          repeat' (with_reducible first | refine OL.st ?_ | refine TC.region ?_ | refine TC.seq ?_ | refine OL.nil ?_ | refine TX.thenN ?_ | refine TC.skip ?_ | refine TC.ifF ?_ | fail)
          refine OL.c hso Fn.ref17_SlotsOf ?_
          repeat' (first | (with_reducible refine OL.st ?_) | fail)
          refine OL.c hct Fn.slices_Contains_Lint_int ?_
          repeat' (with_reducible first | refine OL.st ?_ | refine TC.region ?_ | refine TC.seq ?_ | refine OL.nil ?_ | refine TX.thenN ?_ | refine TC.skip ?_ | refine TX.blkN ?_ | refine TC.ifF ?_ | refine OL.gOn ?_ | fail)
          exact TX.rd (i + 1) [0, 1, 2] (by omega) (by omega) (ho := by rw [b2]; exact ⟨⟨_, rfl, OE.ren rfl⟩, ⟨_, rfl, OE.ren rfl⟩, ⟨_, rfl, OE.ren rfl⟩, trivial⟩)
    · obtain rfl : i = Dr.length := by omega
      cases hh : (An Dr.length).2
      · rw [hh] at a6
        rw [a6, if_neg (by decide), if_neg (by decide)] at hdg
        repeat' (with_reducible first | refine OL.st ?_ | refine OL.build ?_ | refine TC.region ?_ | refine TC.seq ?_ | refine OL.nil ?_ | refine TX.thenN ?_ | refine TC.exit ?_ | refine TX.hit ?_ | refine TX.thenX ?_ | refine TC.ifD ?_ ?_ <;> (intro hc; try (exfalso; omega)) | fail)
        refine OL.c hdg Fn.turn_Do ?_ (hle := by with_unfolding_all exact ⟨.ren rfl, LE.step0 3 th 0 sl 0 0, trivial⟩)
        repeat' (with_reducible first | refine OL.st ?_ | refine OL.alloc ?_ | refine OL.storeAgg ?_ | refine OL.build ?_ | refine TC.region ?_ | refine TC.seq ?_ | refine OL.nil ?_ | refine TX.thenN ?_ | refine TC.ifT ?_ | refine OL.gOn ?_ | fail)
        refine OL.st ?_ (h := gvEqD2 eqMV)
        repeat' (first | (with_reducible refine OL.st ?_) | (with_reducible refine OL.gOn ?_) | fail)
        refine OL.c hkn Fn.law17_known ?_
        repeat' (with_reducible first | refine OL.st ?_ | refine OL.nil ?_ | refine TX.thenN ?_ | refine TC.ret ?_ | refine TX.thenR ?_ | fail)
        exact TX.rt1 [] (.ren rfl)
      · rw [hh] at a6 a7
        rw [a6, if_pos rfl, if_pos rfl, a7 rfl] at hdg
        repeat' (with_reducible first | refine OL.st ?_ | refine OL.build ?_ | refine TC.region ?_ | refine TC.seq ?_ | refine OL.nil ?_ | refine TX.thenN ?_ | refine TC.exit ?_ | refine TX.hit ?_ | refine TX.thenX ?_ | refine TC.ifD ?_ ?_ <;> (intro hc; try (exfalso; omega)) | fail)
        refine OL.c hdg Fn.turn_Do ?_ (hle := by with_unfolding_all exact ⟨.ren rfl, LE.step0 3 th 0 sl 0 0, trivial⟩)
        repeat' (with_reducible first | refine OL.st ?_ | refine OL.alloc ?_ | refine OL.storeAgg ?_ | refine TC.region ?_ | refine TC.seq ?_ | refine OL.nil ?_ | refine TX.thenN ?_ | refine TC.skip ?_ | refine TC.ifF ?_ | refine OL.gOn ?_ | fail)
        refine OL.st ?_ (h := gvEqD2 eqMV)
        rw [beq_self_eq_true, beq_self_eq_true]
        repeat' (first | (with_reducible refine OL.st ?_) | (with_reducible refine OL.gOn ?_) | fail)
        refine OL.c hkn Fn.law17_known ?_
        repeat' (with_reducible first | refine OL.st ?_ | refine OL.nil ?_ | refine TX.thenN ?_ | refine TC.ret ?_ | fail)
        exact TX.rt1 [] (.ren rfl)
end Go.Proofs
