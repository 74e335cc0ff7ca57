/- Part 35 of what the claim is proved by: lemmas on the model and walks through functions of the program; no conditions. -/
import Derived.Test.YtmdpbfghjdljiaaGreatV29
import Derived.Test.YtmdpbfghjdljiaaGreatV19
namespace Go.Proofs
open Go Go.W Go.V
abbrev From := Int × Int × Int × Int
abbrev fromA (x : From) : AV := .st [V.int x.1, V.int x.2.1, V.int x.2.2.1, V.int x.2.2.2]
abbrev fromsA (l : List From) : AV := .sl 4 none (l.map fromA)
def mapFrom : Nat → List Int → List From
  | _, [] => []
  | k, s :: r => (s, (k : Int), 0, 0) :: mapFrom (k + 1) r
def mapNew (l : List Cls) (c : Nat) (s : Int) : From := (s, -1, beginV l c s)
def mapOne (l : List Cls) (c : Nat) (was : List From) (s : Int) : From := (was.find? fun y => y.1 == s).getD (mapNew l c s)
def mapNext (l : List Cls) (c : Nat) (was : List From) : List From := (slotsOf l c).map (mapOne l c was)
def mapV (ss : List (List Cls)) (c fr : Nat) : Nat → List From
  | 0 => mapFrom 0 (slotsOf (schAt ss fr) c)
  | n + 1 => mapNext (schAt ss (fr + (n + 1))) c (mapV ss c fr n)
theorem mapFrom_length : ∀ (l : List Int) (k : Nat), (mapFrom k l).length = l.length
  | [], _ => rfl
  | _ :: r, k => by rw [mapFrom, List.length_cons, mapFrom_length r, List.length_cons]
theorem mapFrom_get : ∀ (l : List Int) (k i : Nat) (h : i < (mapFrom k l).length), (mapFrom k l)[i] = (l[i]'(by rw [mapFrom_length] at h; exact h), ((k + i : Nat) : Int), 0, 0)
  | [], _, _, h => by simp [mapFrom] at h
  | _ :: r, k, 0, _ => rfl
  | _ :: r, k, i + 1, h => by
    have := mapFrom_get r (k + 1) i (by simpa [mapFrom] using h)
    simp only [mapFrom, List.getElem_cons_succ]
    rw [this, show k + 1 + i = k + (i + 1) by omega]
theorem mapFrom_fst (l : List Int) (k : Nat) : (mapFrom k l).map (·.1) = l := by
  refine List.ext_getElem (by rw [List.length_map, mapFrom_length]) fun i h1 h2 => ?_
  rw [List.getElem_map, mapFrom_get]
theorem mapOne_fst (l : List Cls) (c : Nat) (was : List From) (s : Int) : (mapOne l c was s).1 = s := by
  rw [mapOne]
  cases h : was.find? (fun y => y.1 == s) with
  | none => rfl
  | some y => have := List.find?_some h; simpa using this
theorem mapNext_fst (l : List Cls) (c : Nat) (was : List From) : (mapNext l c was).map (·.1) = slotsOf l c := by
  rw [mapNext, List.map_map]
  conv => rhs; rw [← List.map_id (slotsOf l c)]
  exact List.map_congr_left fun s _ => mapOne_fst l c was s
theorem mapV_fst (ss : List (List Cls)) (c fr : Nat) : ∀ n, (mapV ss c fr n).map (·.1) = slotsOf (schAt ss (fr + n)) c
  | 0 => mapFrom_fst _ _
  | _n + 1 => mapNext_fst _ _ _
theorem mapV_length (ss : List (List Cls)) (c fr n : Nat) : (mapV ss c fr n).length = (slotsOf (schAt ss (fr + n)) c).length := by rw [← mapV_fst, List.length_map]
def pickV (v : List (Int × Int)) (f : From) : Int × Int := if 0 ≤ f.2.1 ∧ f.2.1 < (v.length : Int) then v.getD f.2.1.toNat (0, 0) else f.2.2
theorem placeN_find (was : List From) (s : Int) : ∀ (k : Int), 0 ≤ k → (placeN (was.map (·.1)) s k = -1 ∧ was.find? (fun y => y.1 == s) = none) ∨ ∃ i : Nat, ∃ h : i < was.length, placeN (was.map (·.1)) s k = k + i ∧ was.find? (fun y => y.1 == s) = some was[i] := by
  induction was with
  | nil => intro k _; exact .inl ⟨rfl, rfl⟩
  | cons x r ih =>
    intro k hk
    rw [List.map_cons, placeN, List.find?_cons]
    by_cases e : x.1 = s
    · right
      refine ⟨0, by simp, ?_, ?_⟩
      · rw [if_pos e]; simp
      · have : (x.1 == s) = true := by simpa using e
        rw [this]; rfl
    · have hx : (x.1 == s) = false := by simpa using e
      rw [if_neg e, hx]
      rcases ih (k + 1) (by omega) with ⟨h1, h2⟩ | ⟨i, h, h1, h2⟩
      · exact .inl ⟨h1, h2⟩
      · refine .inr ⟨i + 1, by simpa using h, ?_, ?_⟩
        · rw [h1]; omega
        · rw [h2]; rfl
theorem freshV_map (ss : List (List Cls)) (c fr : Nat) (v : List (Int × Int)) (hv : v.length = (slotsOf (schAt ss fr) c).length) : ∀ n, freshV ss c n fr v = (mapV ss c fr n).map (pickV v)
  | 0 => by
    rw [freshV, mapV]
    refine List.ext_getElem (by rw [List.length_map, mapFrom_length, hv]) fun i h1 h2 => ?_
    rw [List.getElem_map, mapFrom_get, pickV]
    dsimp only
    rw [if_pos (by omega), getD_lt (by omega)]
    congr 1; omega
  | n + 1 => by
    rw [freshV_add ss c n 1, freshV, freshV, freshV_map ss c fr v hv n, ← mapV_fst, turnedV, mapV, mapNext, List.map_map, show fr + n + 1 = fr + (n + 1) by omega]
    refine List.map_congr_left fun s _ => ?_
    rw [keptV, Function.comp_apply, mapOne]
    rcases placeN_find (mapV ss c fr n) s 0 (Int.le_refl _) with ⟨h1, h2⟩ | ⟨i, h, h1, h2⟩
    · rw [h1, h2, if_neg (by omega), Option.getD_none, pickV, mapNew]
      dsimp only
      rw [if_neg (by omega)]
    · rw [h1, h2, if_pos (by omega), Option.getD_some, getD_lt (by rw [List.length_map]; omega), List.getElem_map]
      congr 2; omega
def goOn (a : List From) (x : From) : From := if 0 ≤ x.2.1 then (x.1, (a.getD x.2.1.toNat (0, 0, 0, 0)).2) else x
theorem mapV_on (ss : List (List Cls)) (c fr p : Nat) : ∀ q, mapV ss c fr (p + q) = (mapV ss c (fr + p) q).map (goOn (mapV ss c fr p)) ∧ ∀ x ∈ mapV ss c (fr + p) q, 0 ≤ x.2.1 → ∃ h : x.2.1.toNat < (mapV ss c fr p).length, (mapV ss c fr p)[x.2.1.toNat].1 = x.1
  | 0 => by
    have hl := mapV_length ss c fr p
    have hf := mapV_fst ss c fr p
    constructor
    · rw [Nat.add_zero, mapV]
      refine List.ext_getElem (by rw [List.length_map, mapFrom_length, hl]) fun i h1 h2 => ?_
      rw [List.getElem_map, mapFrom_get, goOn]
      dsimp only
      rw [if_pos (by omega), show ((0 + i : Nat) : Int).toNat = i by omega, getD_lt h1]
      refine Prod.ext ?_ rfl
      dsimp only
      have : ((mapV ss c fr p).map (·.1))[i]'(by simpa using h1) = (slotsOf (schAt ss (fr + p)) c)[i]'(by rw [← hl]; exact h1) := by congr 1
      rw [← this, List.getElem_map]
    · intro x hx _
      rw [mapV] at hx
      obtain ⟨i, hi, rfl⟩ := List.mem_iff_getElem.1 hx
      rw [mapFrom_get]
      dsimp only
      have hi' := hi
      rw [mapFrom_length] at hi'
      have e : ((0 + i : Nat) : Int).toNat = i := by omega
      refine ⟨by rw [e, hl]; exact hi', ?_⟩
      have : ((mapV ss c fr p).map (·.1))[i]'(by rw [List.length_map, hl]; exact hi') = (slotsOf (schAt ss (fr + p)) c)[i]'hi' := by congr 1
      rw [← this, List.getElem_map]
      simp only [e]
  | q + 1 => by
    obtain ⟨ih1, ih2⟩ := mapV_on ss c fr p q
    constructor
    · rw [show p + (q + 1) = (p + q) + 1 by omega, mapV, mapV, ih1, mapNext, mapNext, List.map_map, show fr + (p + q + 1) = fr + p + (q + 1) by omega]
      refine List.map_congr_left fun s _ => ?_
      rw [Function.comp_apply, mapOne, mapOne, List.find?_map]
      have : ((fun y : From => y.1 == s) ∘ goOn (mapV ss c fr p)) = fun y : From => y.1 == s := by
        funext y
        simp only [Function.comp_apply, goOn]
        split <;> rfl
      rw [this]
      cases (mapV ss c (fr + p) q).find? (fun y => y.1 == s) with
      | none =>
        show mapNew _ _ _ = goOn _ (mapNew _ _ _)
        rw [goOn, mapNew]
        dsimp only
        rw [if_neg (by omega)]
      | some y => rfl
    · intro x hx h0
      rw [mapV, mapNext] at hx
      obtain ⟨s, _, rfl⟩ := List.mem_map.1 hx
      rw [mapOne] at h0 ⊢
      cases h : (mapV ss c (fr + p) q).find? (fun y => y.1 == s) with
      | none => rw [h, Option.getD_none, mapNew] at h0; dsimp only at h0; omega
      | some y =>
        rw [h, Option.getD_some] at h0
        exact ih2 y (List.mem_of_find?_eq_some h) h0
end Go.Proofs
namespace Go.Proofs
open Go Go.W Go.V
def lastF (s : Int) (x : From) (l : List From) : From := l.foldl (fun x y => if y.1 = s then y else x) x
theorem lastF_find (s : Int) : ∀ (l : List From) (x : From), (l.map (·.1)).Nodup → lastF s x l = (l.find? fun y => y.1 == s).getD x
  | [], _, _ => rfl
  | y :: r, x, h => by
    rw [List.map_cons, List.nodup_cons] at h
    rw [lastF, List.foldl_cons, ← lastF, List.find?_cons]
    by_cases e : y.1 = s
    · rw [if_pos e, lastF_find s r y h.2, show (y.1 == s) = true by simpa using e]
      cases hf : r.find? (fun y => y.1 == s) with
      | none => rfl
      | some z =>
        have h1 := List.mem_of_find?_eq_some hf
        have h2 := List.find?_some hf
        exact absurd (List.mem_map.2 ⟨z, h1, by rw [e]; simpa using h2⟩) h.1
    · rw [if_neg e, lastF_find s r x h.2, show (y.1 == s) = false by simpa using e]
theorem good_slots_nodup {l : List Cls} (h : goodB l = true) (c : Nat) : (slotsOf l c).Nodup := by
  obtain ⟨_, hm, _⟩ := goodB_met h
  refine slotsTo_nodup (fun s j k hj hk h1 h2 => ?_) 40
  have huniq : ∀ (l : List Cls), (metOf l).Nodup → ∀ j k, j < l.length → k < l.length → ∀ s, s ∈ (clsAt l j).2.1 → s ∈ (clsAt l k).2.1 → j = k := by
    intro l
    induction l with
    | nil => intro _ j k hj; simp at hj
    | cons x r ih =>
      intro hn j k hj hk s h1 h2
      have hm : metOf (x :: r) = x.2.1 ++ metOf r := by simp [metOf]
      rw [hm, List.nodup_append] at hn
      have mem : ∀ i, i < r.length → ∀ s, s ∈ (clsAt r i).2.1 → s ∈ metOf r := fun i hi s hs => by
        rw [metOf, List.mem_flatMap]
        rw [clsAt, getD_lt hi] at hs
        exact ⟨_, List.getElem_mem _, hs⟩
      match j, k, hj, hk, h1, h2 with
      | 0, 0, _, _, _, _ => rfl
      | 0, k + 1, _, hk, h1, h2 => exact absurd rfl (hn.2.2 s h1 s (mem k (by simpa using hk) s h2))
      | j + 1, 0, hj, _, h1, h2 => exact absurd rfl (hn.2.2 s h2 s (mem j (by simpa using hj) s h1))
      | j + 1, k + 1, hj, hk, h1, h2 => rw [ih hn.2.1 j k (by simpa using hj) (by simpa using hk) s h1 h2]
  exact huniq l hm j k hj hk s h1 h2
def mapOkB (ss : List (List Cls)) (c fr to : Int) : Bool := schemasB ss && ((decide (0 ≤ fr) && decide (fr ≤ to)) && (decide (to < (ss.length : Int)) && ownB (schAt ss fr.toNat).length c))
def mapX (ss : List (List Cls)) (c fr to : Int) : List From × Int := if mapOkB ss c fr to then (mapV ss c.toNat fr.toNat (to.toNat - fr.toNat), 0) else ([], 2)
end Go.Proofs
