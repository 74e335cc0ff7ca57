/- Part 1 of what the claim is proved by: lemmas on the model and walks through functions of the program; no conditions. -/
import Derived.Test.YtmdpbfghjdljiaaGreatV29
import Derived.Test.YtmdpbfghjdljiaaGreatV35
import Derived.Test.YtmdpbfghjdljiaaGreatV40
import Derived.Test.YtmdpbfghjdljiaaGreatV41
import Derived.Test.YtmdpbfghjdljiaaGreatV13
namespace Go.Proofs
open Go Go.W Go.V
theorem playV_app (lz : Bool) (m : List Step) : ∀ (l : List Step) (ss : List (List Cls)) (ts : List Thing), playV lz ss ts (l ++ m) =
    ((playV lz (playV lz ss ts l).1 (playV lz ss ts l).2.1 m).1, (playV lz (playV lz ss ts l).1 (playV lz ss ts l).2.1 m).2.1, (playV lz ss ts l).2.2.1 ++ (playV lz (playV lz ss ts l).1 (playV lz ss ts l).2.1 m).2.2.1, (playV lz ss ts l).2.2.2 ++ (playV lz (playV lz ss ts l).1 (playV lz ss ts l).2.1 m).2.2.2)
  | [], ss, ts => rfl
  | x :: l, ss, ts => by
    rw [List.cons_append]
    by_cases h : refusedE ss ts x = 0
    · have e : ∀ r, playV lz ss ts (x :: r) = ((playV lz (doS ss x) (doT lz ss ts x) r).1, (playV lz (doS ss x) (doT lz ss ts x) r).2.1, doR ss ts x :: (playV lz (doS ss x) (doT lz ss ts x) r).2.2.1, 0 :: (playV lz (doS ss x) (doT lz ss ts x) r).2.2.2) := fun r => by rw [playV, if_pos h]
      rw [e, e, playV_app lz m l]; rfl
    · have e : ∀ r, playV lz ss ts (x :: r) = ((playV lz ss ts r).1, (playV lz ss ts r).2.1, (0, 0) :: (playV lz ss ts r).2.2.1, refusedE ss ts x :: (playV lz ss ts r).2.2.2) := fun r => by rw [playV, if_neg h]
      rw [e, e, playV_app lz m l]; rfl
def stV (ss : List (List Cls)) (ts : List Thing) (s : Step) : Int × Int := if refusedE ss ts s = 0 then doR ss ts s else (0, 0)
theorem playV_at (lz : Bool) (l : List Step) (ss : List (List Cls)) (ts : List Thing) {k : Nat} (hk : k < l.length) :
    (playV lz ss ts l).2.2.1[k]? = some (stV (playV lz ss ts (l.take k)).1 (playV lz ss ts (l.take k)).2.1 l[k]) ∧ (playV lz ss ts l).2.2.2[k]? = some (refusedE (playV lz ss ts (l.take k)).1 (playV lz ss ts (l.take k)).2.1 l[k]) := by
  have e : playV lz ss ts l = playV lz ss ts (l.take k ++ l[k] :: l.drop (k + 1)) := by rw [← drop_cons hk, List.take_append_drop]
  have hlen : (l.take k).length = k := by simp; omega
  have hl := play_lens lz (l.take k) ss ts
  rw [hlen] at hl
  rw [e, playV_app]
  dsimp only
  generalize playV lz ss ts (l.take k) = r at *
  obtain ⟨s2, t2, v, es⟩ := r
  dsimp only at hl ⊢
  rw [List.getElem?_append_right (by omega), List.getElem?_append_right (by omega), hl.1, hl.2, Nat.sub_self]
  by_cases h : refusedE s2 t2 l[k] = 0
  · rw [playV, if_pos h, stV, if_pos h]; exact ⟨rfl, congrArg some h.symm⟩
  · rw [playV, if_neg h, stV, if_neg h]; exact ⟨rfl, rfl⟩
theorem FOk.lazy {lz : Bool} {ss : List (List Cls)} {ts : List Thing} (h : FOk lz ss ts) : FOk true ss ts := ⟨h.sb, h.n40, h.tk, fun e => (by cases e), h.vl⟩
theorem FOk.settled {ss : List (List Cls)} {ts : List Thing} (h : FOk false ss ts) : ts.map (freshT ss) = ts := by
  have := schemasB_len h.sb
  conv => rhs; rw [← List.map_id ts]
  exact List.map_congr_left fun x hx => freshT_upd this.1 (h.lt rfl x hx)
theorem lazy_main {lz : Bool} {ss : List (List Cls)} {ts : List Thing} (h : FOk lz ss ts) (hsh : ∀ s ∈ ss, Short s) (l : List Step) (hl : ∀ s ∈ l, ShortC s.k) :
    formedB false ss (ts.map (freshT ss)) = true ∧ formedB true ss ts = true ∧ FOk true (playV true ss ts l).1 (playV true ss ts l).2.1 ∧ FOk false (playV true ss ts l).1 ((playV true ss ts l).2.1.map (freshT (playV true ss ts l).1)) ∧
      playV false ss (ts.map (freshT ss)) l = ((playV true ss ts l).1, (playV true ss ts l).2.1.map (freshT (playV true ss ts l).1), (playV true ss ts l).2.2.1, (playV true ss ts l).2.2.2) := by
  have h1 : FOk false ss (ts.map (freshT ss)) := settled_ok h false
  have h2 := play_formed true l ss ts h.lazy hsh hl
  exact ⟨formedB_iff.2 h1, formedB_iff.2 h.lazy, h2, settled_ok h2 false, play_lazy l ss ts (h.w hsh) hl⟩
end Go.Proofs
namespace Go.Proofs
open Go Go.W Go.V
/-! ### What is above a class, as a list -/
def addP (out ps : List Int) : List Int := ps.foldl (fun out p => if out.contains p then out else out ++ [p]) out
def abvF (l : List Cls) : Nat → Nat → List Int → List Int
  | 0, _, out => out
  | n + 1, i, out => if h : i < out.length then abvF l n (i + 1) (addP out (clsAt l (out[i] - 3).toNat).1) else out
def abvL (l : List Cls) (c : Int) : List Int := abvF l 20 0 [c]
theorem addP_cons (out : List Int) (p : Int) (ps : List Int) : addP out (p :: ps) = addP (if out.contains p then out else out ++ [p]) ps := rfl
theorem addP_snoc (out ps : List Int) (p : Int) : addP out (ps ++ [p]) = if (addP out ps).contains p then addP out ps else addP out ps ++ [p] := by
  rw [addP, List.foldl_append]; rfl
theorem mem_addP : ∀ (ps out : List Int) (x : Int), x ∈ addP out ps ↔ x ∈ out ∨ x ∈ ps
  | [], out, x => by simp [addP]
  | p :: ps, out, x => by
    rw [addP_cons, mem_addP ps]
    by_cases h : out.contains p = true
    · rw [if_pos h]
      have := List.contains_iff_mem.1 h
      constructor
      · rintro (h | h)
        · exact .inl h
        · exact .inr (by simp [h])
      · rintro (h | h)
        · exact .inl h
        · rcases List.mem_cons.1 h with rfl | h
          · exact .inl this
          · exact .inr h
    · rw [if_neg h]; simp only [List.mem_append, List.mem_cons, or_assoc, List.not_mem_nil, false_or]
theorem addP_nodup : ∀ (ps out : List Int), out.Nodup → (addP out ps).Nodup
  | [], out, h => h
  | p :: ps, out, h => by
    rw [addP_cons]
    refine addP_nodup ps _ ?_
    split
    · exact h
    · rename_i hc
      rw [List.nodup_append]
      refine ⟨h, by simp, fun a ha b hb e => ?_⟩
      simp only [List.mem_singleton] at hb
      subst hb e
      exact hc (List.contains_iff_mem.2 ha)
theorem addP_pre : ∀ (ps out : List Int), ∃ t, addP out ps = out ++ t
  | [], out => ⟨[], by simp [addP]⟩
  | p :: ps, out => by
    rw [addP_cons]
    obtain ⟨t, ht⟩ := addP_pre ps (if out.contains p then out else out ++ [p])
    rw [ht]
    split
    · exact ⟨t, rfl⟩
    · exact ⟨p :: t, by simp⟩
structure AbOk (l : List Cls) (i : Nat) (out : List Int) : Prop where
  nd : out.Nodup
  rg : ∀ x ∈ out, 3 ≤ x ∧ x < 3 + (l.length : Int)
  cl : ∀ j (h : j < out.length), j < i → ∀ p ∈ (clsAt l (out[j] - 3).toNat).1, p ∈ out
theorem clsAt_par {l : List Cls} {x : Int} (h : 3 ≤ x) : (clsAt l (x - 3).toNat).1 = pOf (graphOf l) x := by
  rw [pOf_ge h, clsAt, graphOf, List.getD_eq_getElem?_getD, List.getD_eq_getElem?_getD, List.getElem?_map]
  cases l[(x - 3).toNat]? <;> rfl
theorem AbOk.len {l : List Cls} {i : Nat} {out : List Int} (h : AbOk l i out) : out.length ≤ 3 + l.length :=
  nodup_length _ out h.nd fun x hx => by have := h.rg x hx; omega
theorem AbOk.start {l : List Cls} {c : Int} (h : 3 ≤ c ∧ c < 3 + (l.length : Int)) : AbOk l 0 [c] := ⟨by simp, by simpa using h, fun j _ h => by omega⟩
theorem AbOk.par {l : List Cls} (hf : fine (graphOf l) = true) {i : Nat} {out : List Int} (h : AbOk l i out) (hi : i < out.length) : ∀ p ∈ (clsAt l (out[i] - 3).toNat).1, 3 ≤ p ∧ p < 3 + (l.length : Int) := fun p hp => by
  have hr := h.rg out[i] (List.getElem_mem _)
  rw [clsAt_par hr.1] at hp
  have := (fine_pOf hf (c := out[i]) (by simp only [graphOf, List.length_map]; omega)).2.1 p hp
  omega
theorem AbOk.next {l : List Cls} (hf : fine (graphOf l) = true) {i : Nat} {out : List Int} (h : AbOk l i out) (hi : i < out.length) : AbOk l (i + 1) (addP out (clsAt l (out[i] - 3).toNat).1) := by
  obtain ⟨t, ht⟩ := addP_pre (clsAt l (out[i] - 3).toNat).1 out
  refine ⟨addP_nodup _ _ h.nd, fun x hx => ?_, fun j hj hji p hp => ?_⟩
  · rw [mem_addP] at hx
    rcases hx with hx | hx
    · exact h.rg x hx
    · exact h.par hf hi x hx
  · have hjo : j < out.length := by omega
    have e : (addP out (clsAt l (out[i] - 3).toNat).1)[j] = out[j] := by
      simp only [ht]
      rw [List.getElem_append_left hjo]
    rw [e] at hp
    rw [mem_addP]
    by_cases hj2 : j < i
    · exact .inl (h.cl j hjo hj2 p hp)
    · obtain rfl : j = i := by omega
      exact .inr hp
theorem abvF_ok {l : List Cls} (hf : fine (graphOf l) = true) : ∀ (n i : Nat) (out : List Int), AbOk l i out → 3 + l.length ≤ i + n → AbOk l (abvF l n i out).length (abvF l n i out) ∧ ∀ x ∈ out, x ∈ abvF l n i out
  | 0, i, out, h, hn => by
    have := h.len
    rw [abvF]
    exact ⟨⟨h.nd, h.rg, fun j hj _ => h.cl j hj (by omega)⟩, fun x hx => hx⟩
  | n + 1, i, out, h, hn => by
    rw [abvF]
    split
    · rename_i hi
      obtain ⟨h1, h2⟩ := abvF_ok hf n (i + 1) _ (h.next hf hi) (by omega)
      exact ⟨h1, fun x hx => h2 x ((mem_addP _ _ _).2 (.inl hx))⟩
    · exact ⟨⟨h.nd, h.rg, fun j hj _ => h.cl j hj (by omega)⟩, fun x hx => hx⟩
theorem abvL_ok {l : List Cls} (hf : fine (graphOf l) = true) {c : Int} (hc : 3 ≤ c ∧ c < 3 + (l.length : Int)) : AbOk l (abvL l c).length (abvL l c) ∧ c ∈ abvL l c := by
  have h16 := fine_len hf
  have hgl : (graphOf l).length = l.length := by simp [graphOf]
  obtain ⟨h1, h2⟩ := abvF_ok hf 20 0 [c] (AbOk.start hc) (by omega)
  exact ⟨h1, h2 c (by simp)⟩
theorem abvL_has {l : List Cls} (hf : fine (graphOf l) = true) {c : Int} (hc : 3 ≤ c ∧ c < 3 + (l.length : Int)) : ∀ (n a : Nat), a < n → (a : Int) ∈ abvL l c → ∀ b : Int, 3 ≤ b → b < 64 → upHas (graphOf l) a b = true → b ∈ abvL l c := by
  obtain ⟨hok, _⟩ := abvL_ok hf hc
  intro n
  induction n with
  | zero => intro a h; omega
  | succ n ih =>
    intro a han ha b hb3 hb hu
    have hra := hok.rg _ ha
    have hgl : (graphOf l).length = l.length := by simp [graphOf]
    rw [upHas_step hf (by omega) (by omega) hb] at hu
    simp only [Bool.or_eq_true, decide_eq_true_eq, List.any_eq_true] at hu
    rcases hu with (hu | hu) | ⟨p, hp, hu⟩
    · rw [hu]; exact ha
    · omega
    · have hpp := (fine_pOf hf (c := (a : Int)) (by omega)).2.1 p hp
      obtain ⟨q, rfl⟩ : ∃ q : Nat, p = (q : Int) := ⟨p.toNat, by omega⟩
      obtain ⟨j, hj, hja⟩ := List.mem_iff_getElem.1 ha
      refine ih q (by omega) (hok.cl j hj hj _ ?_) b hb3 hb hu
      rw [hja, clsAt_par (by omega)]; exact hp
/-! ### A class made anew -/
def sameUp (l : List Cls) (c c' : Int) (k : Cls) : Bool := (abvL l c).all fun x => !(x == c' && !(clsAt l (x - 3).toNat == k))
theorem madeV_at {l : List Cls} {c' : Int} {k : Cls} (hc' : 3 ≤ c' ∧ c' ≤ 3 + (l.length : Int)) {j : Nat} (hj : j < l.length) (h : ((3 + j : Nat) : Int) = c' → clsAt l j = k) : clsAt (madeV l c' k) j = clsAt l j := by
  rw [madeV]
  split
  · rw [clsAt, clsAt, List.getD_eq_getElem?_getD, List.getElem?_append_left hj, ← List.getD_eq_getElem?_getD]
  · by_cases e : (c' - 3).toNat = j
    · have h1 := h (by omega)
      rw [h1, clsAt, List.getD_eq_getElem?_getD, List.getElem?_set, if_pos e, if_pos (by omega)]; rfl
    · rw [clsAt, clsAt, List.getD_eq_getElem?_getD, List.getElem?_set, if_neg e, ← List.getD_eq_getElem?_getD]
section
variable {l : List Cls} {c' : Int} {k : Cls} (hf : fine (graphOf l) = true) (hf' : fine (graphOf (madeV l c' k)) = true) (hc' : 3 ≤ c' ∧ c' ≤ 3 + (l.length : Int))
include hf hf' hc'
theorem upHas_made : ∀ (n a : Nat), a < n → a < 3 + l.length → (∀ x : Nat, 3 ≤ x → x < 3 + l.length → upHas (graphOf l) a x = true → (x : Int) = c' → clsAt l (x - 3) = k) → ∀ b : Int, 0 ≤ b → b < 64 → upHas (graphOf (madeV l c' k)) a b = upHas (graphOf l) a b := by
  have hgl : (graphOf l).length = l.length := by simp [graphOf]
  have hgl' : (graphOf (madeV l c' k)).length = (madeV l c' k).length := by simp [graphOf]
  have hle := (madeV_length (l := l) (c := c') (k := k)).1
  have h16 := fine_len hf
  intro n
  induction n with
  | zero => intro a h; omega
  | succ n ih =>
    intro a han ha hH b h0 h1
    rw [upHas_step hf' (by omega) h0 h1, upHas_step hf (by omega) h0 h1]
    by_cases h3 : a < 3
    · rw [pOf_lt (by omega), pOf_lt (by omega)]; rfl
    · have hp : pOf (graphOf (madeV l c' k)) (a : Int) = pOf (graphOf l) (a : Int) := by
        rw [← clsAt_par (by omega), ← clsAt_par (by omega), show ((a : Int) - 3).toNat = a - 3 by omega, madeV_at hc' (by omega)]
        intro e
        exact hH a (by omega) ha (upHas_self hf (by omega)) (by omega)
      rw [hp]
      congr 1
      have hpp := (fine_pOf hf (c := (a : Int)) (by omega)).2.1
      rw [Bool.eq_iff_iff, List.any_eq_true, List.any_eq_true]
      have key : ∀ p ∈ pOf (graphOf l) (a : Int), upHas (graphOf (madeV l c' k)) p b = upHas (graphOf l) p b := fun p hpm => by
        have hpr := hpp p hpm
        obtain ⟨q, rfl⟩ : ∃ q : Nat, p = (q : Int) := ⟨p.toNat, by omega⟩
        refine ih q (by omega) (by omega) (fun x hx3 hx hu e => hH x hx3 hx ?_ e) b h0 h1
        rw [upHas_step hf (by omega) (by omega) (by omega)]
        simp only [Bool.or_eq_true, List.any_eq_true]
        exact .inr ⟨_, hpm, hu⟩
      exact ⟨fun ⟨p, hm, h⟩ => ⟨p, hm, by rw [← key p hm]; exact h⟩, fun ⟨p, hm, h⟩ => ⟨p, hm, by rw [key p hm]; exact h⟩⟩
theorem slots_made (hg : goodB l = true) (hg' : goodB (madeV l c' k) = true) {c : Nat} (h3 : 3 ≤ c) (hc : c < 3 + l.length) (hs : sameUp l c c' k = true) : slotsOf (madeV l c' k) c = slotsOf l c := by
  have hgl : (graphOf l).length = l.length := by simp [graphOf]
  have hle := madeV_length (l := l) (c := c') (k := k)
  have h16 := fine_len hf
  have hfin' := fine_len hf'
  have hgl' : (graphOf (madeV l c' k)).length = (madeV l c' k).length := by simp [graphOf]
  have hH : ∀ x : Nat, 3 ≤ x → x < 3 + l.length → upHas (graphOf l) c x = true → (x : Int) = c' → clsAt l (x - 3) = k := by
    intro x hx3 hx hu e
    have hm := abvL_has hf (c := (c : Int)) ⟨by omega, by omega⟩ (c + 1) c (by omega) (abvL_ok hf ⟨by omega, by omega⟩).2 (x : Int) (by omega) (by omega) hu
    rw [sameUp, List.all_eq_true] at hs
    have := hs _ hm
    rw [Bool.not_eq_true', Bool.and_eq_false_iff] at this
    rcases this with h | h
    · simp [e] at h
    · rw [Bool.not_eq_false', beq_iff_eq, show ((x : Int) - 3).toNat = x - 3 by omega] at h; exact h
  have hu := fun b => upHas_made hf hf' hc' (c + 1) c (by omega) hc hH b
  have n1 := good_slots_nodup hg c
  have n2 := good_slots_nodup hg' c
  have s1 : (slotsOf l c).Pairwise (· ≤ ·) := slotsTo_sorted l c 40
  have s2 : (slotsOf (madeV l c' k) c).Pairwise (· ≤ ·) := slotsTo_sorted _ c 40
  have hown : ∀ s j, j < l.length → ownSl (madeV l c' k) c s j = ownSl l c s j := fun s j hj => by
    rw [ownSl, ownSl, hu _ (by omega) (by omega)]
    by_cases hq : upHas (graphOf l) c ((3 + j : Nat) : Int) = true
    · rw [madeV_at hc' hj (fun e => by have := hH (3 + j) (by omega) (by omega) hq e; rwa [show 3 + j - 3 = j by omega] at this)]
    · rw [Bool.not_eq_true] at hq
      rw [hq, Bool.and_false, Bool.and_false]
  have hperm : (slotsOf (madeV l c' k) c).Perm (slotsOf l c) := by
    rw [List.perm_ext_iff_of_nodup n2 n1]
    intro s
    rw [slotsOf, slotsOf, mem_slotsTo, mem_slotsTo]
    constructor
    · rintro ⟨h1, j, hj, ho⟩
      by_cases hjl : j < l.length
      · exact ⟨h1, j, hjl, by rw [← hown s j hjl]; exact ho⟩
      · exfalso
        rw [ownSl, Bool.and_eq_true, hu _ (by omega) (by omega)] at ho
        have := upHas_le hf (a := c) (by omega) (b := ((3 + j : Nat) : Int)) (by omega) (by omega) ho.2
        omega
    · rintro ⟨h1, j, hj, ho⟩
      exact ⟨h1, j, by omega, by rw [hown s j hj]; exact ho⟩
  exact List.Perm.eq_of_pairwise (le := (· ≤ ·)) (fun a b _ _ h1 h2 => by omega) s2 s1 hperm
end
theorem placeN_get : ∀ (l : List Int) (k : Int) (i : Nat) (h : i < l.length), l.Nodup → placeN l l[i] k = k + i
  | x :: r, k, 0, _, _ => by rw [List.getElem_cons_zero, placeN, if_pos rfl]; simp
  | x :: r, k, i + 1, h, hn => by
    rw [List.nodup_cons] at hn
    have hi : i < r.length := by simpa using h
    have hne : ¬ x = (x :: r)[i + 1] := fun e => hn.1 (by rw [e, List.getElem_cons_succ]; exact List.getElem_mem _)
    rw [placeN, if_neg hne, List.getElem_cons_succ, placeN_get r (k + 1) i hi hn.2]; push_cast; omega
theorem turnedV_same {l : List Cls} {c : Nat} {sl : List Int} (hsl : slotsOf l c = sl) (hn : sl.Nodup) {v : List (Int × Int)} (hv : v.length = sl.length) : turnedV l c sl v = v := by
  rw [turnedV, hsl]
  refine List.ext_getElem (by simpa using hv.symm) fun i h1 h2 => ?_
  have hi : i < sl.length := by simpa using h1
  rw [List.getElem_map, keptV, placeN_get sl 0 i hi hn, if_pos (by omega), show ((0 : Int) + i).toNat = i by omega, getD_lt h2]
theorem steady_main {lz : Bool} {ss : List (List Cls)} {ts : List Thing} {s : Step} (h : FOk lz ss ts) (hs : StOk ss ts s) (d1 : s.d = 1) {x : Thing} (hx : x ∈ ts) (hsame : sameUp (lastS ss) x.1 s.c s.k = true) : (freshT (doS ss s) x).2.2 = (freshT ss x).2.2 := by
  obtain ⟨n1, n12⟩ := schemasB_len h.sb
  obtain ⟨k1, k2, k3⟩ := hs.m d1
  have hgl : goodB (lastS ss) = true := schemasB_good h.sb (by omega)
  have ht := h.tk x hx
  have htf := ht.fresh h.sb
  obtain ⟨s0, c, a1, a2, a3, a4, a5, a6⟩ := ht
  obtain ⟨s1, c1, b1, b2, b3, b4, b5, b6⟩ := htf
  have e1 : s1 = ss.length - 1 := by
    have : (freshT ss x).2.1 = (ss.length : Int) - 1 := rfl
    omega
  have e2 : c1 = c := by
    have : (freshT ss x).1 = x.1 := rfl
    omega
  subst e1 e2
  have hcl : c1 < 3 + (lastS ss).length := b5
  have hfu : (freshT (doS ss s) x).2.2 = turnedV (madeV (lastS ss) s.c s.k) c1 (slotsOf (lastS ss) c1) (freshT ss x).2.2 := by
    have e : doS ss s = ss ++ [madeV (lastS ss) s.c s.k] := by rw [doS, if_pos d1]
    rw [e, freshT, freshT]
    dsimp only
    rw [a1, a2, Int.toNat_natCast, Int.toNat_natCast, List.length_append, List.length_singleton, show ss.length + 1 - 1 - s0 = (ss.length - 1 - s0) + 1 by omega, freshV_add, freshV, freshV, show s0 + (ss.length - 1 - s0) = ss.length - 1 by omega,
      show ss.length - 1 + 1 = ss.length by omega, schAt_snoc_last, schAt_snoc (by omega), freshV_congr (ss := ss ++ [madeV (lastS ss) s.c s.k]) (ss' := ss) c1 (ss.length - 1 - s0) s0 x.2.2 (fun i h1 h2 => schAt_snoc (by omega))]
    rfl
  rw [hfu]
  rw [a2] at hsame
  exact turnedV_same (slots_made (goodB_fine hgl).2 (goodB_fine k3).2 k1 hgl k3 (by omega) (by omega) hsame) (good_slots_nodup hgl c1) b6
end Go.Proofs
namespace Go.Proofs
open Go Go.W Go.V
set_option maxHeartbeats 2000000 in
theorem s_law17_above {l : List Cls} (hf : fine (graphOf l) = true) {c : Int} (hc : 3 ≤ c ∧ c < 3 + (l.length : Int)) : V.Spec Tryz.prog Fc.law17_above [clssA l, V.int c] [] (ints (abvL l c)) [] := by
  have h16 := fine_len hf
  rw [show (graphOf l).length = l.length by simp [graphOf]] at h16
  refine V.Spec.enter Tryz.tabOK Tryz.mixed Fn.law17_above rfl rfl rfl fun B hB => ?_
  repeat' (with_reducible first | refine OL.st ?_ | refine OL.lit ?_ | refine TC.region ?_ | refine TC.seq ?_ | refine OL.nil ?_ | refine TX.thenN ?_ | refine TC.block ?_ | fail)
  refine TC.lp (fun s : Nat × List Int => [(0, clssA l), (5, .hs 0), (6, V.int s.1)]) (fun s => [.gs false Tc.int 1 none (s.2.map V.int)]) (fun s => AbOk l s.1 s.2 ∧ s.1 ≤ 20 ∧ abvF l (20 - s.1) s.1 s.2 = abvL l c) (fun s => 20 - s.1) (0, [c]) [0] ⟨AbOk.start hc, Nat.zero_le _, rfl⟩ ?_
  rintro ⟨i, out⟩ ⟨hab, hi20, hinv⟩
  dsimp only at hab hi20 hinv ⊢
  have hol := hab.len
  by_cases hil : i < out.length
  · have hrg := hab.rg out[i] (List.getElem_mem _)
    have hci : clsAt l (out[i] - 3).toNat = l[(out[i] - 3).toNat]'(by omega) := by rw [clsAt, getD_lt]
    have hnx := hab.next hf hil
    have hpr := hab.par hf hil
    rw [show 20 - i = (20 - (i + 1)) + 1 by omega, abvF, dif_pos hil] at hinv
    rw [hci] at hinv hnx hpr
    repeat' (with_reducible first | refine OL.st ?_ | refine TC.region ?_ | refine TC.seq ?_ | refine OL.nil ?_ | refine TX.thenN ?_ | refine TC.block ?_ | refine TC.skip ?_ | refine TC.ifD ?_ ?_ <;> (intro hc; try (exfalso; omega)) | fail)
    refine TC.bl 25 fun hpl => ?_
    generalize (l[(out[i] - 3).toNat]'(by omega)).1 = ps at *
    refine TC.lp (fun k : Nat => [(0, clssA l), (5, .hs 0), (6, V.int i), (25, ints ps), (26, V.int ps.length), (27, V.int k)]) (fun k => [.gs false Tc.int 1 none ((addP out (ps.take k)).map V.int)]) (fun k => k ≤ ps.length) (fun k => ps.length - k) 0 [0] (Nat.zero_le _) ?_
    rintro k hk
    have hq : (addP out (ps.take k)).length ≤ 3 + l.length := nodup_length _ _ (addP_nodup _ _ hab.nd) fun x hx => by
      rw [mem_addP] at hx
      rcases hx with hx | hx
      · have := hab.rg x hx; omega
      · have := hpr x (List.mem_of_mem_take hx); omega
    by_cases hkl : k < ps.length
    · have hsn := addP_snoc out (ps.take k) ps[k]
      rw [← take_succ hkl] at hsn
      have hct := s_slices_Contains_Lint_int (addP out (ps.take k)) ps[k]
      generalize addP out (ps.take k) = q at *
      cases hcb : q.contains ps[k]
      · rw [hcb] at hct hsn
        rw [if_neg Bool.false_ne_true] at hsn
        have e : q.map V.int ++ [V.int ps[k]] = (addP out (ps.take (k + 1))).map V.int := by rw [hsn]; simp
        repeat' (with_reducible first | refine OL.st ?_ | refine TC.region ?_ | refine TC.seq ?_ | refine OL.nil ?_ | refine TX.thenN ?_ | refine TC.block ?_ | refine TC.skip ?_ | refine TC.ifD ?_ ?_ <;> (intro hc; try (exfalso; omega)) | fail)
        refine OL.lend (Wk.view (t := 31) (by with_unfolding_all exact rfl) (by with_unfolding_all exact rfl)) hct Fn.slices_Contains_Lint_int ?_
        repeat' (with_reducible first | refine OL.st ?_ | refine OL.lit ?_ | refine OL.appO ?_ | refine TC.region ?_ | refine OL.nil ?_ | refine TX.thenN ?_ | refine TX.blkN ?_ | refine TC.ifT ?_ | fail)
        exact TX.rd (k + 1) [2] (by omega) (by omega)
      · rw [hcb] at hct hsn
        rw [if_pos rfl] at hsn
        have e : q.map V.int = (addP out (ps.take (k + 1))).map V.int := by rw [hsn]
        repeat' (with_reducible first | refine OL.st ?_ | refine TC.region ?_ | refine TC.seq ?_ | refine OL.nil ?_ | refine TX.thenN ?_ | refine TC.block ?_ | refine TC.skip ?_ | refine TC.ifD ?_ ?_ <;> (intro hc; try (exfalso; omega)) | fail)
        refine OL.lend (Wk.view (t := 31) (by with_unfolding_all exact rfl) (by with_unfolding_all exact rfl)) hct Fn.slices_Contains_Lint_int ?_
        repeat' (with_reducible first | refine OL.st ?_ | refine TC.region ?_ | refine OL.nil ?_ | refine TX.thenN ?_ | refine TC.skip ?_ | refine TX.blkN ?_ | refine TC.ifF ?_ | fail)
        exact TX.rd (k + 1) [0] (by omega) (by omega)
    · have e : (addP out (ps.take k)).map V.int = (addP out ps).map V.int := by rw [take_all (by omega)]
      repeat' (with_reducible first | refine OL.st ?_ | refine TC.region ?_ | refine TC.seq ?_ | refine OL.nil ?_ | refine TX.thenN ?_ | refine TX.blkN ?_ | refine TC.exit ?_ | refine TX.hit ?_ | refine TX.thenX ?_ | refine TC.ifD ?_ ?_ <;> (intro hc; try (exfalso; omega)) | fail)
      exact TX.rd (i + 1, addP out ps) [0] ⟨hnx, by omega, hinv⟩ (by dsimp only; omega)
  · have e : abvL l c = out := by
      rw [← hinv]
      cases 20 - i with
      | zero => rfl
      | succ n => rw [abvF, dif_neg hil]
    rw [e]
    repeat' (with_reducible first | refine OL.st ?_ | refine TC.region ?_ | refine TC.seq ?_ | refine OL.nil ?_ | refine TX.thenN ?_ | refine TC.exit ?_ | refine TX.hit ?_ | refine TX.thenX ?_ | refine TC.ifD ?_ ?_ <;> (intro hc; try (exfalso; omega)) | refine TC.ret ?_ | fail)
    refine TX.vw 4 ?_
    exact TX.rt1 [] (.ren rfl)
abbrev otherB (l : List Cls) (c' : Int) (k : Cls) (x : Int) : Bool := x == c' && !(clsAt l (x - 3).toNat == k)
theorem s_steady_1 (l : List Cls) (hl : l.length ≤ 10) (s : Step) {x : Int} (hx : 3 ≤ x ∧ x < 3 + (l.length : Int)) : V.Spec Tryz.prog Fc.law17_TurnSteady_1 [V.int x, .ep [V.int s.d, V.int s.th, V.int s.c, V.int s.sl, V.int s.v.1, V.int s.v.2, ints s.k.1, ints s.k.2.1, initsA s.k.2.2] 0, .ep [clssA l] 0] [] (V.bool (otherB l s.c s.k x)) [] := by
  have hci : clsAt l (x - 3).toNat = l[(x - 3).toNat]'(by omega) := by rw [clsAt, getD_lt]
  have hsc := s_ref17_SameClass (l[(x - 3).toNat]'(by omega)) s.k
  rw [otherB, hci]
  by_cases hxc : x = s.c
  · rw [show (x == s.c) = true by simpa using hxc, Bool.true_and]
    refine V.Spec.enter Tryz.tabOK Tryz.mixed Fn.law17_TurnSteady_1 rfl rfl rfl fun B hB => ?_
    repeat' (with_reducible first | refine OL.st ?_ | refine TC.region ?_ | refine TC.seq ?_ | refine OL.nil ?_ | refine TX.thenN ?_ | fail)
    (with_reducible refine TC.draw (id := 1) true 16 16 ?_ <;> refine OD.st 0 ?_ <;> refine OD.st 1 ?_ <;> refine OD.st 2 ?_ <;> refine OD.st 3 ?_ <;> refine OD.st 4 ?_ <;> refine OD.sD 9 ?_ ?_ <;> (intro hc; try (exfalso; omega)) <;> (first | (with_reducible refine OD.st 5 ?_) | (with_reducible refine OD.of 5 ?_)) <;> refine OD.st 6 ?_ <;> refine OD.st 7 ?_ <;> refine OD.st 8 ?_ <;> refine OD.st 9 ?_ <;> refine OD.st 10 ?_ <;> refine OD.st 11 ?_ <;> refine OD.c1 12 hsc Fn.ref17_SameClass ?_ <;> refine OD.st 13 ?_ <;> refine OD.st 14 ?_ <;> refine OD.st 15 ?_ <;> refine OD.dn ?_)
    all_goals repeat' (first | (with_reducible refine TX.thenN ?_) | (with_reducible refine TC.ret ?_) | fail)
    all_goals exact TX.rt1 [] (.bool rfl)
  · rw [show (x == s.c) = false by simpa using hxc, Bool.false_and]
    refine V.Spec.enter Tryz.tabOK Tryz.mixed Fn.law17_TurnSteady_1 rfl rfl rfl fun B hB => ?_
    repeat' (with_reducible first | refine OL.st ?_ | refine TC.region ?_ | refine TC.seq ?_ | refine OL.nil ?_ | refine TX.thenN ?_ | fail)
    (with_reducible refine TC.draw (id := 1) true 16 16 ?_ <;> refine OD.st 0 ?_ <;> refine OD.st 1 ?_ <;> refine OD.st 2 ?_ <;> refine OD.st 3 ?_ <;> refine OD.st 4 ?_ <;> refine OD.sD 9 ?_ ?_ <;> (intro hc; try (exfalso; omega)) <;> (first | (with_reducible refine OD.st 5 ?_) | (with_reducible refine OD.of 5 ?_)) <;> refine OD.of 6 ?_ <;> refine OD.of 7 ?_ <;> refine OD.of 8 ?_ <;> refine OD.of 9 ?_ <;> refine OD.of 10 ?_ <;> refine OD.of 11 ?_ <;> refine OD.of 12 ?_ <;> refine OD.of 13 ?_ <;> refine OD.st 14 ?_ <;> refine OD.st 15 ?_ <;> refine OD.dn ?_)
    all_goals repeat' (first | (with_reducible refine TX.thenN ?_) | (with_reducible refine TC.ret ?_) | fail)
    all_goals exact TX.rt1 [] (.bool rfl)
end Go.Proofs
namespace Go.Proofs
open Go Go.W Go.V
theorem steady_at {lz : Bool} {ss : List (List Cls)} {ts : List Thing} (h : FOk lz ss ts) (hsh : ∀ s ∈ ss, Short s) {s : Step} (hk : ShortC s.k) (hs : StOk ss ts s) (d1 : s.d = 1) : 
    FOk lz (doS ss s) (doT lz ss ts s) ∧ (∀ x ∈ doS ss s, Short x) ∧ (doT lz ss ts s).length = ts.length ∧ (doS ss s).length = ss.length + 1 ∧
    ∀ j (hj : j < ts.length), ∃ xs ys, freshT ss ts[j] = (ts[j].1, (ss.length : Int) - 1, xs) ∧ freshT (doS ss s) (thAt (doT lz ss ts s) j) = (ts[j].1, ((doS ss s).length : Int) - 1, ys) ∧ (sameUp (lastS ss) ts[j].1 s.c s.k = true → ys = xs) := by
  have h2 := h.step hsh hk hs
  have hlen : (doT lz ss ts s).length = ts.length := by rw [doT, if_pos d1]; split <;> simp
  refine ⟨h2, doS_short (h.w hsh) hk, hlen, by rw [doS, if_pos d1]; simp, fun j hj => ⟨_, (freshT (doS ss s) ts[j]).2.2, rfl, ?_, fun hsame => steady_main h hs d1 (List.getElem_mem hj) hsame⟩⟩
  have hat : freshT (doS ss s) (thAt (doT lz ss ts s) j) = freshT (doS ss s) ts[j] := by
    have ht : TOk (doS ss s) ts[j] := by rw [doS, if_pos d1]; exact (h.tk _ (List.getElem_mem hj)).snoc _
    rw [thAt, Int.toNat_natCast, getD_lt (by omega)]
    simp only [doT, if_pos d1]
    split
    · rfl
    · rw [List.getElem_map, freshT_idem ht]
  rw [hat]; rfl
set_option maxHeartbeats 8000000 in
theorem s_law17_TurnSteady (lz : Bool) (ss : List (List Cls)) (ts : List Thing) (hsh : ∀ s ∈ ss, Short s) (l : List Step) (hk : ∀ s ∈ l, ShortC s.k) (c th fr to : Int) : V.Spec Tryz.prog Fc.law17_TurnSteady [givA lz ss ts l c th fr to] [] (V.bool true) [] := by
  have hfo := s_ref17_Formed lz ss ts hsh
  have hkn := s_law17_known
  cases hf : formedB lz ss ts
  · rw [hf] at hfo
    refine V.Spec.enter Tryz.tabOK Tryz.mixed Fn.law17_TurnSteady rfl rfl rfl fun B hB => ?_
    repeat' (with_reducible first | refine OL.st ?_ | refine OL.box ?_ | refine TC.region ?_ | refine TC.seq ?_ | refine OL.nil ?_ | refine TX.thenN ?_ | refine OL.ldM ?_ | fail)
    refine OL.c hfo Fn.ref17_Formed ?_
    repeat' (with_reducible first | refine OL.st ?_ | refine TC.region ?_ | refine TC.seq ?_ | refine OL.nil ?_ | refine TX.thenN ?_ | refine TC.ifT ?_ | fail)
    refine OL.c hkn Fn.law17_known ?_
    repeat' (with_reducible first | refine OL.st ?_ | refine OL.nil ?_ | refine TX.thenN ?_ | refine TC.ret ?_ | refine TX.thenR ?_ | fail)
    exact TX.rt1 [] (.ren rfl)
  rw [hf] at hfo
  have hF := formedB_iff.1 hf
  obtain ⟨n1, n12⟩ := schemasB_len hF.sb
  have h40 := hF.n40
  have hlast : lastS ss = ss[((ss.length : Int) - 1).toNat]'(by omega) := by
    rw [lastS, schAt, getD_lt (by omega)]; congr 1; omega
  have hgl : goodB (lastS ss) = true := schemasB_good hF.sb (by omega)
  obtain ⟨m4, hm4⟩ : ∃ m4 : Nat, (if (4 : Int) < (l.length : Int) then (4 : Int) else (l.length : Int)) = (m4 : Int) ∧ m4 ≤ l.length ∧ m4 ≤ 4 := ⟨min l.length 4, by split <;> omega, by omega, by omega⟩
  obtain ⟨hm4, hm5, hm6⟩ := hm4
  obtain ⟨l4, hl4⟩ : ∃ l4, l4 = l.take m4 := ⟨_, rfl⟩
  have hk4 : ∀ s ∈ l4, ShortC s.k := fun s hs => hk s (List.mem_of_mem_take (hl4 ▸ hs))
  have hl44 : l4.length ≤ 4 := by rw [hl4]; simp; omega
  refine V.Spec.enter Tryz.tabOK Tryz.mixed Fn.law17_TurnSteady rfl rfl rfl fun B hB => ?_
  repeat' (with_reducible first | refine OL.st ?_ | refine OL.box ?_ | refine TC.region ?_ | refine TC.seq ?_ | refine OL.nil ?_ | refine TX.thenN ?_ | refine OL.ldM ?_ | fail)
  refine OL.c hfo Fn.ref17_Formed ?_
  repeat' (with_reducible first | refine OL.st ?_ | refine TC.region ?_ | refine TC.seq ?_ | refine OL.nil ?_ | refine TX.thenN ?_ | refine TC.skip ?_ | refine TC.ifF ?_ | fail)
  refine OL.min hm4 ?_
  repeat' (with_reducible first | refine OL.st ?_ | refine OL.nil ?_ | refine TX.thenN ?_ | refine TC.block ?_ | fail)
  rw [← hl4]
  refine TC.lp (fun k : Nat => [(1, .bp 0 0), (26, stepsA l4), (27, V.int l4.length), (28, V.int k)]) (fun _ => [.cb 28 [V.bool lz, schsA ss, thingsA ts, stepsA l, V.int c, V.int th, V.int fr, V.int to]]) (fun k => k ≤ l4.length) (fun k => l4.length - k) 0 [0] (Nat.zero_le _) ?_
  rintro k hkk
  by_cases hkl : k < l4.length
  · obtain ⟨s, hs⟩ : ∃ s : Step, s = ⟨1, l4[k].th, l4[k].c, l4[k].sl, l4[k].v, l4[k].k⟩ := ⟨_, rfl⟩
    have hks : ShortC s.k := by rw [hs]; exact hk4 l4[k] (List.getElem_mem hkl)
    have hd1 : s.d = 1 := by rw [hs]
    have hdo := s_turn_Do lz ss ts hsh s hks
    rw [doX, hf, if_pos rfl] at hdo
    by_cases e0 : refusedE ss ts s = 0
    · rw [if_pos e0] at hdo
      obtain ⟨hF2, hsh2, hlt, hls, hat⟩ := steady_at hF hsh hks (refused_ok e0) hd1
      have hfo2 := s_ref17_Formed lz _ (doT lz ss ts s) hsh2
      rw [formedB_iff.2 hF2] at hfo2
      have hf2 := formedB_iff.2 hF2
      clear e0
      generalize hS2 : doS ss s = S2 at *
      generalize hT2 : doT lz ss ts s = T2 at *
      generalize doR ss ts s = rv at *
      subst hs
      repeat' (with_reducible first | refine OL.st ?_ | refine OL.alloc ?_ | refine OL.store ?_ | refine OL.storeAgg ?_ | refine TC.region ?_ | refine TC.seq ?_ | refine OL.nil ?_ | refine TX.thenN ?_ | refine TC.block ?_ | refine TC.skip ?_ | refine TC.ifD ?_ ?_ <;> (intro hc; try (exfalso; omega)) | refine OL.ldM ?_ | fail)
      refine OL.c hdo Fn.turn_Do ?_
      repeat' (with_reducible first | refine OL.st ?_ | refine OL.alloc ?_ | refine OL.storeAgg ?_ | refine TC.region ?_ | refine TC.seq ?_ | refine OL.nil ?_ | refine TX.thenN ?_ | refine TC.skip ?_ | refine TC.ifF ?_ | fail)
      refine OL.c hfo2 Fn.ref17_Formed ?_
      repeat' (with_reducible first | refine OL.st ?_ | refine OL.alloc ?_ | refine OL.store ?_ | refine TC.region ?_ | refine TC.seq ?_ | refine OL.nil ?_ | refine TX.thenN ?_ | refine TC.block ?_ | refine TC.skip ?_ | refine OL.gOn ?_ | refine TC.ifD ?_ ?_ <;> (intro hc; try (exfalso; omega)) | refine OL.gD ?_ ?_ <;> (intro hc; try (exfalso; omega)) | fail)
      rw [← hlast]
      refine TC.frzA 1 ?_
      refine TC.frzA 4 ?_
      refine TC.lp (fun j : Nat => [(1, .bp 0 0), (4, .ep [V.int 1, V.int l4[k].th, V.int l4[k].c, V.int l4[k].sl, V.int l4[k].v.1, V.int l4[k].v.2, ints l4[k].k.1, ints l4[k].k.2.1, initsA l4[k].k.2.2] 0), (5, .bp 1 0), (8, .ep [clssA (lastS ss)] 0), (26, stepsA l4), (27, V.int l4.length), (28, V.int k), (79, V.int T2.length), (80, V.int j)]) (fun _ => [.cb 28 [V.bool lz, schsA ss, thingsA ts, stepsA l, V.int c, V.int th, V.int fr, V.int to], .cb 25 [V.bool lz, schsA S2, thingsA T2]]) (fun j => j ≤ T2.length) (fun j => T2.length - j) 0 [0, 2] (Nat.zero_le _) ?_
      rintro j hjj
      by_cases hjl : j < T2.length
      · obtain ⟨xs, ys, hx, hy, hsame⟩ := hat j (by omega)
        have hlo1 := s_turn_Look lz ss ts hsh (j : Int)
        have hlo2 := s_turn_Look lz S2 T2 hsh2 (j : Int)
        have hin1 : inB ts.length (j : Int) = true := by rw [inB, decide_eq_true (show (0 : Int) ≤ (j : Int) by omega), decide_eq_true (by omega)]; rfl
        have hin2 : inB T2.length (j : Int) = true := by rw [inB, decide_eq_true (show (0 : Int) ≤ (j : Int) by omega), decide_eq_true (by omega)]; rfl
        have hth : thAt ts (j : Int) = ts[j]'(by omega) := by rw [thAt, Int.toNat_natCast, getD_lt (by omega)]
        rw [lookX, if_pos ⟨hf, hin1⟩, hth, hx] at hlo1
        rw [lookX, if_pos ⟨hf2, hin2⟩, hy] at hlo2
        obtain ⟨cc, hc1, hc2, hc3⟩ := (hF.w hsh).cls (x := ts[j]'(by omega)) (List.getElem_mem _)
        have habv := s_law17_above (l := lastS ss) (goodB_fine hgl).2 (c := (ts[j]'(by omega)).1) ⟨by omega, by omega⟩
        have hrg := (abvL_ok (l := lastS ss) (goodB_fine hgl).2 (c := (ts[j]'(by omega)).1) ⟨by omega, by omega⟩).1.rg
        have hcf := s_slices_ContainsFunc_Lint_int (abvL (lastS ss) (ts[j]'(by omega)).1) (otherB (lastS ss) l4[k].c l4[k].k)
        have heq : sameUp (lastS ss) (ts[j]'(by omega)).1 l4[k].c l4[k].k = !(abvL (lastS ss) (ts[j]'(by omega)).1).any (otherB (lastS ss) l4[k].c l4[k].k) := by
          rw [sameUp, List.not_any_eq_all_not]
        clear hx hy hin1 hin2 hth hc1 hc2 hc3
        cases hq : (abvL (lastS ss) (ts[j]'(by omega)).1).any (otherB (lastS ss) l4[k].c l4[k].k)
        · have hxy : ys = xs := hsame (by rw [heq, hq]; rfl)
          subst hxy
          rw [hq] at hcf
          have hve := vals_eq ys
          repeat' (with_reducible first | refine OL.st ?_ | refine TC.region ?_ | refine TC.seq ?_ | refine OL.nil ?_ | refine TX.thenN ?_ | refine TC.block ?_ | refine TC.skip ?_ | refine TC.ifD ?_ ?_ <;> (intro hc; try (exfalso; omega)) | refine OL.ldM ?_ | fail)
          refine OL.c hlo1 Fn.turn_Look ?_
          repeat' (with_reducible first | refine OL.st ?_ | refine OL.alloc ?_ | refine OL.storeAgg ?_ | refine TC.region ?_ | refine TC.seq ?_ | refine OL.nil ?_ | refine TX.thenN ?_ | fail)
          refine OL.c hlo2 Fn.turn_Look ?_
          repeat' (first | (with_reducible first | refine OL.st ?_ | refine OL.alloc ?_ | refine OL.storeAgg ?_ | refine TC.seq ?_ | refine OL.nil ?_ | refine TX.thenN ?_ | refine TC.skip ?_ | refine TC.ifD ?_ ?_ <;> (intro hc; try (exfalso; omega))) | ((with_reducible refine TC.draw (id := 17) true 25 25 ?_) <;> (with_reducible refine OD.st 0 ?_) <;> (with_reducible refine OD.st 1 ?_) <;> (with_reducible refine OD.st 2 ?_) <;> (with_reducible refine OD.st 3 ?_) <;> (with_reducible refine OD.st 4 ?_) <;> (with_reducible refine OD.st 5 ?_) <;> (with_reducible refine OD.st 6 ?_) <;> (with_reducible refine OD.st 7 ?_) <;> (with_reducible refine OD.st 8 ?_) <;> (with_reducible refine OD.st 9 ?_) <;> (with_reducible refine OD.st 10 ?_) <;> (with_reducible refine OD.st 11 ?_) <;> (with_reducible refine OD.st 12 ?_) <;> (with_reducible refine OD.st 13 ?_) <;> (with_reducible refine OD.sD 109 ?_ ?_ <;> (intro hc; try (exfalso; omega)) <;> (first | (with_reducible refine OD.st 14 ?_) | (with_reducible refine OD.of 14 ?_))) <;> (with_reducible refine OD.st 15 ?_) <;> (with_reducible refine OD.st 16 ?_) <;> (with_reducible refine OD.st 17 ?_) <;> (with_reducible refine OD.st 18 ?_) <;> (with_reducible refine OD.st 19 ?_) <;> (with_reducible refine OD.st 20 ?_) <;> (with_reducible refine OD.st 21 ?_) <;> (with_reducible refine OD.st 22 ?_) <;> (with_reducible refine OD.st 23 ?_) <;> (with_reducible refine OD.st 24 ?_) <;> (with_reducible refine OD.dn ?_)) | fail)
          (with_reducible refine TC.draw (id := 19) true 13 13 ?_ <;> refine OD.st 0 ?_ <;> refine OD.st 1 ?_ <;> refine OD.st 2 ?_ <;> refine OD.st 3 ?_ <;> refine OD.st 4 ?_ <;> refine OD.st 5 ?_ <;> refine OD.st 6 ?_ <;> refine OD.st 7 ?_ <;> refine OD.st 9 ?_ <;> refine OD.c1 8 habv Fn.law17_above ?_ <;> refine OD.c1 10 hcf Fn.slices_ContainsFunc_Lint_int (hle := by with_unfolding_all exact ⟨.ren rfl, LE.fun_ (first' := []) (caps' := [.ep [V.int 1, V.int l4[k].th, V.int l4[k].c, V.int l4[k].sl, V.int l4[k].v.1, V.int l4[k].v.2, ints l4[k].k.1, ints l4[k].k.2.1, initsA l4[k].k.2.2] 0, .ep [clssA (lastS ss)] 0]) Fn.law17_TurnSteady_1 rfl trivial ⟨.ren rfl, .ren rfl, trivial⟩ (fun x hx => s_steady_1 (lastS ss) (goodB_fine hgl).1 ⟨1, l4[k].th, l4[k].c, l4[k].sl, l4[k].v, l4[k].k⟩ (hrg x hx)), trivial⟩) ?_ <;> refine OD.st 11 ?_ <;> refine OD.st 12 ?_ <;> refine OD.dn ?_)
          all_goals repeat' (with_reducible first | refine OL.st ?_ | refine TC.region ?_ | refine TC.seq ?_ | refine TX.thenN ?_ | refine OL.gOn ?_ | fail)
          all_goals refine OL.c hve Fn.slices_Equal_Lapi_MeanVal_api_MeanVal ?_
          all_goals repeat' (with_reducible first | refine OL.st ?_ | refine TC.region ?_ | refine OL.nil ?_ | refine TX.thenN ?_ | refine TC.skip ?_ | refine TX.blkN ?_ | refine TC.ifF ?_ | refine OL.gOn ?_ | fail)
          all_goals exact TX.rd (j + 1) [0, 1] (by omega) (by omega)
        · rw [hq] at hcf
          repeat' (with_reducible first | refine OL.st ?_ | refine TC.region ?_ | refine TC.seq ?_ | refine OL.nil ?_ | refine TX.thenN ?_ | refine TC.block ?_ | refine TC.skip ?_ | refine TC.ifD ?_ ?_ <;> (intro hc; try (exfalso; omega)) | refine OL.ldM ?_ | fail)
          refine OL.c hlo1 Fn.turn_Look ?_
          repeat' (with_reducible first | refine OL.st ?_ | refine OL.alloc ?_ | refine OL.storeAgg ?_ | refine TC.region ?_ | refine TC.seq ?_ | refine OL.nil ?_ | refine TX.thenN ?_ | fail)
          refine OL.c hlo2 Fn.turn_Look ?_
          repeat' (first | (with_reducible first | refine OL.st ?_ | refine OL.alloc ?_ | refine OL.storeAgg ?_ | refine TC.seq ?_ | refine OL.nil ?_ | refine TX.thenN ?_ | refine TC.skip ?_ | refine TC.ifD ?_ ?_ <;> (intro hc; try (exfalso; omega))) | ((with_reducible refine TC.draw (id := 17) true 25 25 ?_) <;> (with_reducible refine OD.st 0 ?_) <;> (with_reducible refine OD.st 1 ?_) <;> (with_reducible refine OD.st 2 ?_) <;> (with_reducible refine OD.st 3 ?_) <;> (with_reducible refine OD.st 4 ?_) <;> (with_reducible refine OD.st 5 ?_) <;> (with_reducible refine OD.st 6 ?_) <;> (with_reducible refine OD.st 7 ?_) <;> (with_reducible refine OD.st 8 ?_) <;> (with_reducible refine OD.st 9 ?_) <;> (with_reducible refine OD.st 10 ?_) <;> (with_reducible refine OD.st 11 ?_) <;> (with_reducible refine OD.st 12 ?_) <;> (with_reducible refine OD.st 13 ?_) <;> (with_reducible refine OD.sD 109 ?_ ?_ <;> (intro hc; try (exfalso; omega)) <;> (first | (with_reducible refine OD.st 14 ?_) | (with_reducible refine OD.of 14 ?_))) <;> (with_reducible refine OD.st 15 ?_) <;> (with_reducible refine OD.st 16 ?_) <;> (with_reducible refine OD.st 17 ?_) <;> (with_reducible refine OD.st 18 ?_) <;> (with_reducible refine OD.st 19 ?_) <;> (with_reducible refine OD.st 20 ?_) <;> (with_reducible refine OD.st 21 ?_) <;> (with_reducible refine OD.st 22 ?_) <;> (with_reducible refine OD.st 23 ?_) <;> (with_reducible refine OD.st 24 ?_) <;> (with_reducible refine OD.dn ?_)) | fail)
          (with_reducible refine TC.draw (id := 19) true 13 13 ?_ <;> refine OD.st 0 ?_ <;> refine OD.st 1 ?_ <;> refine OD.st 2 ?_ <;> refine OD.st 3 ?_ <;> refine OD.st 4 ?_ <;> refine OD.st 5 ?_ <;> refine OD.st 6 ?_ <;> refine OD.st 7 ?_ <;> refine OD.st 9 ?_ <;> refine OD.c1 8 habv Fn.law17_above ?_ <;> refine OD.c1 10 hcf Fn.slices_ContainsFunc_Lint_int (hle := by with_unfolding_all exact ⟨.ren rfl, LE.fun_ (first' := []) (caps' := [.ep [V.int 1, V.int l4[k].th, V.int l4[k].c, V.int l4[k].sl, V.int l4[k].v.1, V.int l4[k].v.2, ints l4[k].k.1, ints l4[k].k.2.1, initsA l4[k].k.2.2] 0, .ep [clssA (lastS ss)] 0]) Fn.law17_TurnSteady_1 rfl trivial ⟨.ren rfl, .ren rfl, trivial⟩ (fun x hx => s_steady_1 (lastS ss) (goodB_fine hgl).1 ⟨1, l4[k].th, l4[k].c, l4[k].sl, l4[k].v, l4[k].k⟩ (hrg x hx)), trivial⟩) ?_ <;> refine OD.st 11 ?_ <;> refine OD.st 12 ?_ <;> refine OD.dn ?_)
          all_goals repeat' (with_reducible first | refine OL.st ?_ | refine TC.region ?_ | refine TC.seq ?_ | refine OL.nil ?_ | refine TX.thenN ?_ | refine TC.skip ?_ | refine TX.blkN ?_ | refine TC.ifF ?_ | refine OL.gOff ?_ | fail)
          all_goals exact TX.rd (j + 1) [0, 1] (by omega) (by omega)
      · repeat' (with_reducible first | refine OL.st ?_ | refine TC.region ?_ | refine TC.seq ?_ | refine OL.nil ?_ | refine TX.thenN ?_ | refine TX.blkN ?_ | refine TC.exit ?_ | refine TX.hit ?_ | refine TX.thenX ?_ | refine TC.ifD ?_ ?_ <;> (intro hc; try (exfalso; omega)) | fail)
        exact TX.rd (k + 1) [0] (by omega) (by omega)
    · rw [if_neg e0] at hdo
      generalize refusedE ss ts s = er at *
      subst hs
      repeat' (with_reducible first | refine OL.st ?_ | refine OL.alloc ?_ | refine OL.store ?_ | refine OL.storeAgg ?_ | refine TC.region ?_ | refine TC.seq ?_ | refine OL.nil ?_ | refine TX.thenN ?_ | refine TC.block ?_ | refine TC.skip ?_ | refine TC.ifD ?_ ?_ <;> (intro hc; try (exfalso; omega)) | refine OL.ldM ?_ | fail)
      refine OL.c hdo Fn.turn_Do ?_
      repeat' (with_reducible first | refine OL.st ?_ | refine OL.alloc ?_ | refine OL.storeAgg ?_ | refine TC.region ?_ | refine TC.seq ?_ | refine OL.nil ?_ | refine TX.thenN ?_ | refine TC.exit ?_ | refine TX.hit ?_ | refine TX.thenX ?_ | refine TC.ifD ?_ ?_ <;> (intro hc; try (exfalso; omega)) | fail)
      exact TX.rd (k + 1) [0] (by omega) (by omega)
  · repeat' (with_reducible first | refine OL.st ?_ | refine TC.region ?_ | refine TC.seq ?_ | refine OL.nil ?_ | refine TX.thenN ?_ | refine TC.exit ?_ | refine TX.hit ?_ | refine TX.thenX ?_ | refine TC.ifD ?_ ?_ <;> (intro hc; try (exfalso; omega)) | fail)
    refine OL.c hkn Fn.law17_known ?_
    repeat' (with_reducible first | refine OL.st ?_ | refine OL.nil ?_ | refine TX.thenN ?_ | refine TC.ret ?_ | fail)
    exact TX.rt1 [] (.ren rfl)
end Go.Proofs
