/- Part 23 of what the claim is proved by: lemmas on the model and walks through functions of the program; no conditions. -/
import Derived.Test.YtmdpbfghjdljiaaGreatV22
namespace Go.Proofs
open Go Go.W Go.V
def lastS (ss : List (List Cls)) : List Cls := schAt ss (ss.length - 1)
def inB (n : Nat) (i : Int) : Bool := decide (0 ≤ i) && decide (i < (n : Int))
def thAt (ts : List Thing) (i : Int) : Thing := ts.getD i.toNat (0, 0, [])
def refusedE (ss : List (List Cls)) (ts : List Thing) (s : Step) : Int :=
  if s.d = 1 then (if s.c = 3 + ((lastS ss).length : Int) ∨ ownB (lastS ss).length s.c = true then (if 12 ≤ ss.length then 3 else if goodB (madeV (lastS ss) s.c s.k) then 0 else 7) else 2)
  else if s.d = 2 then (if ownB (lastS ss).length s.c then (if 40 ≤ ts.length then 3 else 0) else 2)
  else if s.d = 3 ∨ s.d = 4 then (if inB ts.length s.th then (if s.d = 4 ∧ valB s.v ts.length = false then 2 else if placeN (slotsOf (lastS ss) (thAt ts s.th).1.toNat) s.sl 0 < 0 then 5 else 0) else 2)
  else if s.d = 5 then (if inB ts.length s.th && ownB (lastS ss).length s.c then 0 else 2)
  else if s.d = 6 then (if inB ts.length s.th then 0 else 2)
  else 2
structure WOk (ss : List (List Cls)) (ts : List Thing) : Prop where
  sh : ∀ s ∈ ss, Short s
  sb : schemasB ss = true
  n40 : ts.length ≤ 40
  tk : ∀ x ∈ ts, TOk ss x
theorem madeV_short {l : List Cls} {c : Int} {k : Cls} (hs : Short l) (hl : l.length ≤ 10) (hk : ShortC k) : Short (madeV l c k) := by
  rw [madeV]
  split
  · refine ⟨by simp; omega, fun x hx => ?_⟩
    rw [List.mem_append, List.mem_singleton] at hx
    rcases hx with hx | rfl
    · exact hs.2 x hx
    · exact hk
  · refine ⟨by simpa using hs.1, fun x hx => ?_⟩
    rcases List.mem_or_eq_of_mem_set hx with hx | rfl
    · exact hs.2 x hx
    · exact hk
theorem WOk.last {ss : List (List Cls)} {ts : List Thing} (h : WOk ss ts) : 1 ≤ ss.length ∧ ss.length ≤ 12 ∧ goodB (lastS ss) = true ∧ Short (lastS ss) ∧ ∀ i : Int, i = (ss.length : Int) - 1 → ∀ hi : i.toNat < ss.length, ss[i.toNat] = lastS ss := by
  obtain ⟨n1, n12⟩ := schemasB_len h.sb
  have hl : lastS ss = ss[ss.length - 1]'(by omega) := getD_lt (by omega)
  refine ⟨n1, n12, schemasB_good h.sb (by omega), by rw [hl]; exact h.sh _ (List.getElem_mem _), fun i hi h => ?_⟩
  rw [hl]; congr 1; omega
theorem WOk.cls {ss : List (List Cls)} {ts : List Thing} (h : WOk ss ts) {x : Thing} (hx : x ∈ ts) : ∃ c : Nat, x.1 = c ∧ 3 ≤ c ∧ c < 3 + (lastS ss).length := by
  obtain ⟨s, c, _, h2, h3, h4, h5, _⟩ := h.tk x hx
  have := schemasB_le h.sb (i := s) (ss.length - 1) (by omega) (by omega)
  exact ⟨c, h2, h4, by rw [lastS]; omega⟩
set_option maxHeartbeats 2000000 in
theorem s_ref17_Refused_1 (lz : Bool) {ss : List (List Cls)} {ts : List Thing} (h : WOk ss ts) (s : Step) (hk : ShortC s.k) (d1 : s.d = 1) : V.Spec Tryz.prog Fc.ref17_Refused [wlA lz ss ts, stepA s] [] (V.int (refusedE ss ts s)) [] := by
  obtain ⟨n1, n12, lg, lsh, lix⟩ := h.last
  obtain ⟨l10, lf⟩ := goodB_fine lg
  have lix := lix _ rfl (by omega)
  have hcls := fun i (hi : i < ts.length) => h.cls (List.getElem_mem hi)
  have h40 := h.n40
  have hown := s_ref17_Own (lastS ss) s.c (by omega)
  rw [← ownB] at hown
  have hso := fun c (hc : c < 3 + (lastS ss).length) => s_ref17_SlotsOf lf hc
  have hmd : 3 ≤ s.c ∧ s.c ≤ 3 + ((lastS ss).length : Int) → V.Spec Tryz.prog Fc.ref17_made [clssA (lastS ss), stepA s] [] (clssA (madeV (lastS ss) s.c s.k)) [] := s_ref17_made lsh l10 s hk
  have hgd := s_ref17_Good (madeV (lastS ss) s.c s.k) (madeV_short lsh l10 hk)
  have hva := s_ref04_Val s.v ts.length
  have hpl := fun l => s_ref17_place l s.sl
  have hth : ∀ h : s.th.toNat < ts.length, thAt ts s.th = ts[s.th.toNat] := fun h => getD_lt h
  have howd : ownB (lastS ss).length s.c = true ↔ 3 ≤ s.c ∧ s.c < 3 + ((lastS ss).length : Int) := by rw [ownB, Bool.and_eq_true, decide_eq_true_eq, decide_eq_true_eq]
  have hin : inB ts.length s.th = true ↔ 0 ≤ s.th ∧ s.th < (ts.length : Int) := by rw [inB, Bool.and_eq_true, decide_eq_true_eq, decide_eq_true_eq]
  rw [refusedE, if_pos d1]
  generalize lastS ss = L at *
  clear h lsh lg
  refine V.Spec.enter Tryz.tabOK Tryz.mixed Fn.ref17_Refused rfl rfl rfl fun B hB => ?_
  by_cases c3 : s.c = 3 + (L.length : Int)
  · have hmd := hmd (by omega)
    rw [if_pos (.inl c3)]
    by_cases t1 : 0 ≤ s.th
    all_goals repeat' (with_reducible first | refine OL.st ?_ | refine OL.box ?_ | refine TC.region ?_ | refine TC.seq ?_ | refine OL.nil ?_ | refine TX.thenN ?_ | refine TC.block ?_ | refine OL.gOn ?_ | refine OL.gOff ?_ | refine TC.ifD ?_ ?_ <;> (intro hc; try (exfalso; omega)) | refine OL.gD ?_ ?_ <;> (intro hc; try (exfalso; omega)) | fail)
    all_goals (try simp only [lix])
    all_goals repeat' (with_reducible first | refine OL.st ?_ | refine TC.region ?_ | refine TC.seq ?_ | refine OL.nil ?_ | refine TX.thenN ?_ | refine TC.skip ?_ | refine TC.ifF ?_ | refine OL.gOff ?_ | refine TC.ifD ?_ ?_ <;> (intro hc; try (exfalso; omega)) | refine OL.gD ?_ ?_ <;> (intro hc; try (exfalso; omega)) | refine TC.ret ?_ | refine TX.thenR ?_ | refine TX.blkR ?_ | fail)
    all_goals first | (rw [if_pos (by omega)]; exact TX.rt1 [] (.ren rfl)) | (rw [if_neg (by omega)]; refine OL.c hmd Fn.ref17_made ?_)
    all_goals skip
    all_goals refine OL.c hgd Fn.ref17_Good ?_
    all_goals cases hg : goodB (madeV L s.c s.k)
    all_goals repeat' (with_reducible first | refine OL.st ?_ | refine TC.region ?_ | refine TC.seq ?_ | refine OL.nil ?_ | refine TX.thenN ?_ | refine TC.skip ?_ | refine TX.blkN ?_ | refine TC.ifT ?_ | refine TC.ifF ?_ | refine TC.ret ?_ | refine TX.thenR ?_ | refine TX.blkR ?_ | fail)
    all_goals exact TX.rt1 [] (.ren rfl)
  · cases c4 : ownB L.length s.c
    · rw [c4] at hown
      rw [if_neg (fun h => by rcases h with h | h; exact c3 h; cases h)]
      by_cases t1 : 0 ≤ s.th
      all_goals repeat' (with_reducible first | refine OL.st ?_ | refine OL.box ?_ | refine TC.region ?_ | refine TC.seq ?_ | refine OL.nil ?_ | refine TX.thenN ?_ | refine TC.block ?_ | refine OL.gOn ?_ | refine OL.gOff ?_ | refine TC.ifD ?_ ?_ <;> (intro hc; try (exfalso; omega)) | refine OL.gD ?_ ?_ <;> (intro hc; try (exfalso; omega)) | fail)
      all_goals (try simp only [lix])
      all_goals repeat' (with_reducible first | refine OL.st ?_ | refine OL.gOn ?_ | refine OL.gD ?_ ?_ <;> (intro hc; try (exfalso; omega)) | fail)
      all_goals refine OL.c hown Fn.ref17_Own ?_
      all_goals repeat' (with_reducible first | refine OL.st ?_ | refine TC.region ?_ | refine TC.seq ?_ | refine OL.nil ?_ | refine TX.thenN ?_ | refine TC.ifT ?_ | refine OL.gOn ?_ | refine TC.ret ?_ | refine TX.thenR ?_ | refine TX.blkR ?_ | fail)
      all_goals exact TX.rt1 [] (.ren rfl)
    · have := howd.1 c4
      have hmd := hmd (by omega)
      rw [c4] at hown
      rw [if_pos (.inr rfl)]
      by_cases t1 : 0 ≤ s.th
      all_goals repeat' (with_reducible first | refine OL.st ?_ | refine OL.box ?_ | refine TC.region ?_ | refine TC.seq ?_ | refine OL.nil ?_ | refine TX.thenN ?_ | refine TC.block ?_ | refine OL.gOn ?_ | refine OL.gOff ?_ | refine TC.ifD ?_ ?_ <;> (intro hc; try (exfalso; omega)) | refine OL.gD ?_ ?_ <;> (intro hc; try (exfalso; omega)) | fail)
      all_goals (try simp only [lix])
      all_goals repeat' (with_reducible first | refine OL.st ?_ | refine OL.gOn ?_ | refine OL.gD ?_ ?_ <;> (intro hc; try (exfalso; omega)) | fail)
      all_goals refine OL.c hown Fn.ref17_Own ?_
      all_goals repeat' (with_reducible first | refine OL.st ?_ | refine TC.region ?_ | refine TC.seq ?_ | refine OL.nil ?_ | refine TX.thenN ?_ | refine TC.skip ?_ | refine TC.ifF ?_ | refine OL.gOn ?_ | refine TC.ifD ?_ ?_ <;> (intro hc; try (exfalso; omega)) | refine TC.ret ?_ | refine TX.thenR ?_ | refine TX.blkR ?_ | fail)
      all_goals first | (rw [if_pos (by omega)]; exact TX.rt1 [] (.ren rfl)) | (rw [if_neg (by omega)]; refine OL.c hmd Fn.ref17_made ?_)
      all_goals skip
      all_goals refine OL.c hgd Fn.ref17_Good ?_
      all_goals cases hg : goodB (madeV L s.c s.k)
      all_goals repeat' (with_reducible first | refine OL.st ?_ | refine TC.region ?_ | refine TC.seq ?_ | refine OL.nil ?_ | refine TX.thenN ?_ | refine TC.skip ?_ | refine TX.blkN ?_ | refine TC.ifT ?_ | refine TC.ifF ?_ | refine TC.ret ?_ | refine TX.thenR ?_ | refine TX.blkR ?_ | fail)
      all_goals exact TX.rt1 [] (.ren rfl)
set_option maxHeartbeats 2000000 in
theorem s_ref17_Refused_2 (lz : Bool) {ss : List (List Cls)} {ts : List Thing} (h : WOk ss ts) (s : Step) (hk : ShortC s.k) (d2 : s.d = 2) : V.Spec Tryz.prog Fc.ref17_Refused [wlA lz ss ts, stepA s] [] (V.int (refusedE ss ts s)) [] := by
  obtain ⟨n1, n12, lg, lsh, lix⟩ := h.last
  obtain ⟨l10, lf⟩ := goodB_fine lg
  have lix := lix _ rfl (by omega)
  have hcls := fun i (hi : i < ts.length) => h.cls (List.getElem_mem hi)
  have h40 := h.n40
  have hown := s_ref17_Own (lastS ss) s.c (by omega)
  rw [← ownB] at hown
  have hso := fun c (hc : c < 3 + (lastS ss).length) => s_ref17_SlotsOf lf hc
  have hmd : 3 ≤ s.c ∧ s.c ≤ 3 + ((lastS ss).length : Int) → V.Spec Tryz.prog Fc.ref17_made [clssA (lastS ss), stepA s] [] (clssA (madeV (lastS ss) s.c s.k)) [] := s_ref17_made lsh l10 s hk
  have hgd := s_ref17_Good (madeV (lastS ss) s.c s.k) (madeV_short lsh l10 hk)
  have hva := s_ref04_Val s.v ts.length
  have hpl := fun l => s_ref17_place l s.sl
  have hth : ∀ h : s.th.toNat < ts.length, thAt ts s.th = ts[s.th.toNat] := fun h => getD_lt h
  have howd : ownB (lastS ss).length s.c = true ↔ 3 ≤ s.c ∧ s.c < 3 + ((lastS ss).length : Int) := by rw [ownB, Bool.and_eq_true, decide_eq_true_eq, decide_eq_true_eq]
  have hin : inB ts.length s.th = true ↔ 0 ≤ s.th ∧ s.th < (ts.length : Int) := by rw [inB, Bool.and_eq_true, decide_eq_true_eq, decide_eq_true_eq]
  rw [refusedE, if_neg (by omega), if_pos d2]
  generalize lastS ss = L at *
  clear h lsh lg
  refine V.Spec.enter Tryz.tabOK Tryz.mixed Fn.ref17_Refused rfl rfl rfl fun B hB => ?_
  by_cases t1 : 0 ≤ s.th
  · repeat' (with_reducible first | refine OL.st ?_ | refine OL.box ?_ | refine TC.region ?_ | refine TC.seq ?_ | refine OL.nil ?_ | refine TX.thenN ?_ | refine TC.block ?_ | refine OL.gOn ?_ | refine TC.ifD ?_ ?_ <;> (intro hc; try (exfalso; omega)) | refine OL.gD ?_ ?_ <;> (intro hc; try (exfalso; omega)) | fail)
    all_goals (try simp only [lix])
    all_goals skip
    all_goals refine OL.c hown Fn.ref17_Own ?_
    all_goals cases c4 : ownB L.length s.c
    all_goals repeat' (with_reducible first | refine OL.st ?_ | refine TC.region ?_ | refine TC.seq ?_ | refine OL.nil ?_ | refine TX.thenN ?_ | refine TC.skip ?_ | refine TX.blkN ?_ | refine TC.ifT ?_ | refine TC.ifF ?_ | refine TC.ifD ?_ ?_ <;> (intro hc; try (exfalso; omega)) | refine TC.ret ?_ | refine TX.thenR ?_ | refine TX.blkR ?_ | fail)
    all_goals first | exact TX.rt1 [] (.ren rfl) | (rw [if_pos rfl]; first | (rw [if_pos (by omega)]; exact TX.rt1 [] (.ren rfl)) | (rw [if_neg (by omega)]; exact TX.rt1 [] (.ren rfl)))
  · repeat' (with_reducible first | refine OL.st ?_ | refine OL.box ?_ | refine TC.region ?_ | refine TC.seq ?_ | refine OL.nil ?_ | refine TX.thenN ?_ | refine TC.block ?_ | refine OL.gOff ?_ | refine TC.ifD ?_ ?_ <;> (intro hc; try (exfalso; omega)) | refine OL.gD ?_ ?_ <;> (intro hc; try (exfalso; omega)) | fail)
    all_goals (try simp only [lix])
    all_goals skip
    all_goals refine OL.c hown Fn.ref17_Own ?_
    all_goals cases c4 : ownB L.length s.c
    all_goals repeat' (with_reducible first | refine OL.st ?_ | refine TC.region ?_ | refine TC.seq ?_ | refine OL.nil ?_ | refine TX.thenN ?_ | refine TC.skip ?_ | refine TX.blkN ?_ | refine TC.ifT ?_ | refine TC.ifF ?_ | refine TC.ifD ?_ ?_ <;> (intro hc; try (exfalso; omega)) | refine TC.ret ?_ | refine TX.thenR ?_ | refine TX.blkR ?_ | fail)
    all_goals first | exact TX.rt1 [] (.ren rfl) | (rw [if_pos rfl]; first | (rw [if_pos (by omega)]; exact TX.rt1 [] (.ren rfl)) | (rw [if_neg (by omega)]; exact TX.rt1 [] (.ren rfl)))
set_option maxHeartbeats 2000000 in
theorem s_ref17_Refused_n (lz : Bool) {ss : List (List Cls)} {ts : List Thing} (h : WOk ss ts) (s : Step) (hk : ShortC s.k) (d3 : s.d ≠ 1 ∧ s.d ≠ 2) (ht : inB ts.length s.th = false) : V.Spec Tryz.prog Fc.ref17_Refused [wlA lz ss ts, stepA s] [] (V.int (refusedE ss ts s)) [] := by
  obtain ⟨n1, n12, lg, lsh, lix⟩ := h.last
  obtain ⟨l10, lf⟩ := goodB_fine lg
  have lix := lix _ rfl (by omega)
  have hcls := fun i (hi : i < ts.length) => h.cls (List.getElem_mem hi)
  have h40 := h.n40
  have hown := s_ref17_Own (lastS ss) s.c (by omega)
  rw [← ownB] at hown
  have hso := fun c (hc : c < 3 + (lastS ss).length) => s_ref17_SlotsOf lf hc
  have hmd : 3 ≤ s.c ∧ s.c ≤ 3 + ((lastS ss).length : Int) → V.Spec Tryz.prog Fc.ref17_made [clssA (lastS ss), stepA s] [] (clssA (madeV (lastS ss) s.c s.k)) [] := s_ref17_made lsh l10 s hk
  have hgd := s_ref17_Good (madeV (lastS ss) s.c s.k) (madeV_short lsh l10 hk)
  have hva := s_ref04_Val s.v ts.length
  have hpl := fun l => s_ref17_place l s.sl
  have hth : ∀ h : s.th.toNat < ts.length, thAt ts s.th = ts[s.th.toNat] := fun h => getD_lt h
  have howd : ownB (lastS ss).length s.c = true ↔ 3 ≤ s.c ∧ s.c < 3 + ((lastS ss).length : Int) := by rw [ownB, Bool.and_eq_true, decide_eq_true_eq, decide_eq_true_eq]
  have hin : inB ts.length s.th = true ↔ 0 ≤ s.th ∧ s.th < (ts.length : Int) := by rw [inB, Bool.and_eq_true, decide_eq_true_eq, decide_eq_true_eq]
  rw [refusedE, if_neg d3.1, if_neg d3.2, ht]
  generalize lastS ss = L at *
  clear h lsh lg
  refine V.Spec.enter Tryz.tabOK Tryz.mixed Fn.ref17_Refused rfl rfl rfl fun B hB => ?_
  rw [ht] at hin
  simp only [Bool.false_eq_true, false_iff] at hin
  simp only [Bool.false_eq_true, if_false, Bool.false_and]
  rw [show (if s.d = 3 ∨ s.d = 4 then (2 : Int) else if s.d = 5 then 2 else if s.d = 6 then 2 else 2) = 2 by split <;> first | rfl | (split <;> first | rfl | (split <;> rfl))]
  obtain ⟨d1, d2⟩ := d3
  by_cases c1 : 0 ≤ s.th
  · have c2 : ¬ s.th < (ts.length : Int) := fun h => hin ⟨c1, h⟩
    repeat' (with_reducible first | refine OL.st ?_ | refine OL.box ?_ | refine TC.region ?_ | refine TC.seq ?_ | refine OL.nil ?_ | refine TX.thenN ?_ | refine TC.block ?_ | refine TC.skip ?_ | refine TC.ifT ?_ | refine OL.gOn ?_ | refine OL.gOff ?_ | refine OL.gUn ?_ | refine TC.ifD ?_ ?_ <;> (intro hc; try (exfalso; omega)) | refine OL.gD ?_ ?_ <;> (intro hc; try (exfalso; omega)) | refine TC.ret ?_ | refine TX.thenR ?_ | refine TX.blkR ?_ | fail)
    all_goals (try simp only [lix])
    all_goals skip
    all_goals exact TX.rt1 [] (.ren rfl)
  · repeat' (with_reducible first | refine OL.st ?_ | refine OL.box ?_ | refine TC.region ?_ | refine TC.seq ?_ | refine OL.nil ?_ | refine TX.thenN ?_ | refine TC.block ?_ | refine TC.skip ?_ | refine TC.ifT ?_ | refine OL.gOff ?_ | refine OL.gUn ?_ | refine TC.ifD ?_ ?_ <;> (intro hc; try (exfalso; omega)) | refine OL.gD ?_ ?_ <;> (intro hc; try (exfalso; omega)) | refine TC.ret ?_ | refine TX.thenR ?_ | refine TX.blkR ?_ | fail)
    all_goals (try simp only [lix])
    all_goals skip
    all_goals exact TX.rt1 [] (.ren rfl)
set_option maxHeartbeats 2000000 in
theorem s_ref17_Refused_3 (lz : Bool) {ss : List (List Cls)} {ts : List Thing} (h : WOk ss ts) (s : Step) (hk : ShortC s.k) (d3 : s.d = 3) (ht : inB ts.length s.th = true) : V.Spec Tryz.prog Fc.ref17_Refused [wlA lz ss ts, stepA s] [] (V.int (refusedE ss ts s)) [] := by
  obtain ⟨n1, n12, lg, lsh, lix⟩ := h.last
  obtain ⟨l10, lf⟩ := goodB_fine lg
  have lix := lix _ rfl (by omega)
  have hcls := fun i (hi : i < ts.length) => h.cls (List.getElem_mem hi)
  have h40 := h.n40
  have hown := s_ref17_Own (lastS ss) s.c (by omega)
  rw [← ownB] at hown
  have hso := fun c (hc : c < 3 + (lastS ss).length) => s_ref17_SlotsOf lf hc
  have hmd : 3 ≤ s.c ∧ s.c ≤ 3 + ((lastS ss).length : Int) → V.Spec Tryz.prog Fc.ref17_made [clssA (lastS ss), stepA s] [] (clssA (madeV (lastS ss) s.c s.k)) [] := s_ref17_made lsh l10 s hk
  have hgd := s_ref17_Good (madeV (lastS ss) s.c s.k) (madeV_short lsh l10 hk)
  have hva := s_ref04_Val s.v ts.length
  have hpl := fun l => s_ref17_place l s.sl
  have hth : ∀ h : s.th.toNat < ts.length, thAt ts s.th = ts[s.th.toNat] := fun h => getD_lt h
  have howd : ownB (lastS ss).length s.c = true ↔ 3 ≤ s.c ∧ s.c < 3 + ((lastS ss).length : Int) := by rw [ownB, Bool.and_eq_true, decide_eq_true_eq, decide_eq_true_eq]
  have hin : inB ts.length s.th = true ↔ 0 ≤ s.th ∧ s.th < (ts.length : Int) := by rw [inB, Bool.and_eq_true, decide_eq_true_eq, decide_eq_true_eq]
  rw [refusedE, if_neg (by omega), if_neg (by omega), if_pos (.inl d3), ht]
  generalize lastS ss = L at *
  clear h lsh lg
  refine V.Spec.enter Tryz.tabOK Tryz.mixed Fn.ref17_Refused rfl rfl rfl fun B hB => ?_
  obtain ⟨t1, t2⟩ := hin.1 ht
  obtain ⟨c, hc1, hc2, hc3⟩ := hcls s.th.toNat (by omega)
  have hso := hso c hc3
  have hth := hth (by omega)
  rw [if_pos rfl, hth, hc1, Int.toNat_natCast]
  rw [← hc1] at hso
  have hpl := hpl (slotsOf L c)
  generalize placeN (slotsOf L c) s.sl 0 = pl at *
  rw [if_neg (fun h => by omega)]
  repeat' (with_reducible first | refine OL.st ?_ | refine OL.box ?_ | refine TC.region ?_ | refine TC.seq ?_ | refine OL.nil ?_ | refine TX.thenN ?_ | refine TC.block ?_ | refine TC.skip ?_ | refine TC.ifF ?_ | refine OL.gOn ?_ | refine OL.gOff ?_ | refine TC.ifD ?_ ?_ <;> (intro hc; try (exfalso; omega)) | refine OL.gD ?_ ?_ <;> (intro hc; try (exfalso; omega)) | fail)
  all_goals (try simp only [lix])
  all_goals skip
  all_goals (with_reducible refine TC.draw (id := 21) true 13 13 ?_ <;> refine OD.st 0 ?_ <;> refine OD.st 1 ?_ <;> refine OD.st 2 ?_ <;> refine OD.st 3 ?_ <;> refine OD.st 4 ?_ <;> refine OD.st 5 ?_ <;> refine OD.st 6 ?_ <;> refine OD.st 7 ?_ <;> refine OD.st 9 ?_ <;> refine OD.st 10 ?_ <;> refine OD.c1 8 hso Fn.ref17_SlotsOf ?_ <;> refine OD.c1 11 hpl Fn.ref17_place ?_ <;> refine OD.st 12 ?_ <;> refine OD.dn ?_)
  all_goals repeat' (with_reducible first | refine OL.st ?_ | refine TC.region ?_ | refine TC.seq ?_ | refine OL.nil ?_ | refine TX.thenN ?_ | refine TC.skip ?_ | refine TX.blkN ?_ | refine TC.ifD ?_ ?_ <;> (intro hc; try (exfalso; omega)) | refine TC.ret ?_ | refine TX.thenR ?_ | refine TX.blkR ?_ | fail)
  all_goals first | (rw [if_pos (by omega)]; exact TX.rt1 [] (.ren rfl)) | (rw [if_neg (by omega)]; exact TX.rt1 [] (.ren rfl))
set_option maxHeartbeats 2000000 in
theorem s_ref17_Refused_4 (lz : Bool) {ss : List (List Cls)} {ts : List Thing} (h : WOk ss ts) (s : Step) (hk : ShortC s.k) (d4 : s.d = 4) (ht : inB ts.length s.th = true) : V.Spec Tryz.prog Fc.ref17_Refused [wlA lz ss ts, stepA s] [] (V.int (refusedE ss ts s)) [] := by
  obtain ⟨n1, n12, lg, lsh, lix⟩ := h.last
  obtain ⟨l10, lf⟩ := goodB_fine lg
  have lix := lix _ rfl (by omega)
  have hcls := fun i (hi : i < ts.length) => h.cls (List.getElem_mem hi)
  have h40 := h.n40
  have hown := s_ref17_Own (lastS ss) s.c (by omega)
  rw [← ownB] at hown
  have hso := fun c (hc : c < 3 + (lastS ss).length) => s_ref17_SlotsOf lf hc
  have hmd : 3 ≤ s.c ∧ s.c ≤ 3 + ((lastS ss).length : Int) → V.Spec Tryz.prog Fc.ref17_made [clssA (lastS ss), stepA s] [] (clssA (madeV (lastS ss) s.c s.k)) [] := s_ref17_made lsh l10 s hk
  have hgd := s_ref17_Good (madeV (lastS ss) s.c s.k) (madeV_short lsh l10 hk)
  have hva := s_ref04_Val s.v ts.length
  have hpl := fun l => s_ref17_place l s.sl
  have hth : ∀ h : s.th.toNat < ts.length, thAt ts s.th = ts[s.th.toNat] := fun h => getD_lt h
  have howd : ownB (lastS ss).length s.c = true ↔ 3 ≤ s.c ∧ s.c < 3 + ((lastS ss).length : Int) := by rw [ownB, Bool.and_eq_true, decide_eq_true_eq, decide_eq_true_eq]
  have hin : inB ts.length s.th = true ↔ 0 ≤ s.th ∧ s.th < (ts.length : Int) := by rw [inB, Bool.and_eq_true, decide_eq_true_eq, decide_eq_true_eq]
  rw [refusedE, if_neg (by omega), if_neg (by omega), if_pos (.inr d4), ht]
  generalize lastS ss = L at *
  clear h lsh lg
  refine V.Spec.enter Tryz.tabOK Tryz.mixed Fn.ref17_Refused rfl rfl rfl fun B hB => ?_
  obtain ⟨t1, t2⟩ := hin.1 ht
  obtain ⟨c, hc1, hc2, hc3⟩ := hcls s.th.toNat (by omega)
  have hso := hso c hc3
  have hth := hth (by omega)
  rw [if_pos rfl, hth, hc1, Int.toNat_natCast]
  rw [← hc1] at hso
  have hpl := hpl (slotsOf L c)
  generalize placeN (slotsOf L c) s.sl 0 = pl at *
  cases hvb : valB s.v ts.length
  · rw [if_pos ⟨d4, rfl⟩]
    rw [hvb] at hva
    repeat' (with_reducible first | refine OL.st ?_ | refine OL.box ?_ | refine TC.region ?_ | refine TC.seq ?_ | refine OL.nil ?_ | refine TX.thenN ?_ | refine TC.block ?_ | refine OL.gOn ?_ | refine TC.ifD ?_ ?_ <;> (intro hc; try (exfalso; omega)) | refine OL.gD ?_ ?_ <;> (intro hc; try (exfalso; omega)) | refine OL.ldM ?_ | fail)
    all_goals (try simp only [lix])
    all_goals skip
    all_goals refine OL.c hva Fn.ref04_Val ?_
    all_goals repeat' (with_reducible first | refine OL.st ?_ | refine TC.region ?_ | refine TC.seq ?_ | refine OL.nil ?_ | refine TX.thenN ?_ | refine TC.ifT ?_ | refine OL.gOn ?_ | refine TC.ret ?_ | refine TX.thenR ?_ | refine TX.blkR ?_ | fail)
    all_goals exact TX.rt1 [] (.ren rfl)
  · rw [if_neg (fun h => by cases h.2)]
    rw [hvb] at hva
    repeat' (with_reducible first | refine OL.st ?_ | refine OL.box ?_ | refine TC.region ?_ | refine TC.seq ?_ | refine OL.nil ?_ | refine TX.thenN ?_ | refine TC.block ?_ | refine OL.gOn ?_ | refine TC.ifD ?_ ?_ <;> (intro hc; try (exfalso; omega)) | refine OL.gD ?_ ?_ <;> (intro hc; try (exfalso; omega)) | refine OL.ldM ?_ | fail)
    all_goals (try simp only [lix])
    all_goals skip
    all_goals refine OL.c hva Fn.ref04_Val ?_
    all_goals repeat' (with_reducible first | refine OL.st ?_ | refine TC.seq ?_ | refine OL.nil ?_ | refine TX.thenN ?_ | refine TC.skip ?_ | refine TC.ifF ?_ | refine OL.gOn ?_ | fail)
    all_goals (with_reducible refine TC.draw (id := 21) true 13 13 ?_ <;> refine OD.st 0 ?_ <;> refine OD.st 1 ?_ <;> refine OD.st 2 ?_ <;> refine OD.st 3 ?_ <;> refine OD.st 4 ?_ <;> refine OD.st 5 ?_ <;> refine OD.st 6 ?_ <;> refine OD.st 7 ?_ <;> refine OD.st 9 ?_ <;> refine OD.st 10 ?_ <;> refine OD.c1 8 hso Fn.ref17_SlotsOf ?_ <;> refine OD.c1 11 hpl Fn.ref17_place ?_ <;> refine OD.st 12 ?_ <;> refine OD.dn ?_)
    all_goals repeat' (with_reducible first | refine OL.st ?_ | refine TC.region ?_ | refine TC.seq ?_ | refine OL.nil ?_ | refine TX.thenN ?_ | refine TC.skip ?_ | refine TX.blkN ?_ | refine TC.ifD ?_ ?_ <;> (intro hc; try (exfalso; omega)) | refine TC.ret ?_ | refine TX.thenR ?_ | refine TX.blkR ?_ | fail)
    all_goals first | (rw [if_pos (by omega)]; exact TX.rt1 [] (.ren rfl)) | (rw [if_neg (by omega)]; exact TX.rt1 [] (.ren rfl))
set_option maxHeartbeats 2000000 in
theorem s_ref17_Refused_5 (lz : Bool) {ss : List (List Cls)} {ts : List Thing} (h : WOk ss ts) (s : Step) (hk : ShortC s.k) (d5 : s.d = 5) (ht : inB ts.length s.th = true) : V.Spec Tryz.prog Fc.ref17_Refused [wlA lz ss ts, stepA s] [] (V.int (refusedE ss ts s)) [] := by
  obtain ⟨n1, n12, lg, lsh, lix⟩ := h.last
  obtain ⟨l10, lf⟩ := goodB_fine lg
  have lix := lix _ rfl (by omega)
  have hcls := fun i (hi : i < ts.length) => h.cls (List.getElem_mem hi)
  have h40 := h.n40
  have hown := s_ref17_Own (lastS ss) s.c (by omega)
  rw [← ownB] at hown
  have hso := fun c (hc : c < 3 + (lastS ss).length) => s_ref17_SlotsOf lf hc
  have hmd : 3 ≤ s.c ∧ s.c ≤ 3 + ((lastS ss).length : Int) → V.Spec Tryz.prog Fc.ref17_made [clssA (lastS ss), stepA s] [] (clssA (madeV (lastS ss) s.c s.k)) [] := s_ref17_made lsh l10 s hk
  have hgd := s_ref17_Good (madeV (lastS ss) s.c s.k) (madeV_short lsh l10 hk)
  have hva := s_ref04_Val s.v ts.length
  have hpl := fun l => s_ref17_place l s.sl
  have hth : ∀ h : s.th.toNat < ts.length, thAt ts s.th = ts[s.th.toNat] := fun h => getD_lt h
  have howd : ownB (lastS ss).length s.c = true ↔ 3 ≤ s.c ∧ s.c < 3 + ((lastS ss).length : Int) := by rw [ownB, Bool.and_eq_true, decide_eq_true_eq, decide_eq_true_eq]
  have hin : inB ts.length s.th = true ↔ 0 ≤ s.th ∧ s.th < (ts.length : Int) := by rw [inB, Bool.and_eq_true, decide_eq_true_eq, decide_eq_true_eq]
  rw [refusedE, if_neg (by omega), if_neg (by omega), if_neg (by omega), if_pos d5, ht, Bool.true_and]
  generalize lastS ss = L at *
  clear h lsh lg
  refine V.Spec.enter Tryz.tabOK Tryz.mixed Fn.ref17_Refused rfl rfl rfl fun B hB => ?_
  obtain ⟨t1, t2⟩ := hin.1 ht
  repeat' (with_reducible first | refine OL.st ?_ | refine OL.box ?_ | refine TC.region ?_ | refine TC.seq ?_ | refine OL.nil ?_ | refine TX.thenN ?_ | refine TC.block ?_ | refine OL.gOn ?_ | refine TC.ifD ?_ ?_ <;> (intro hc; try (exfalso; omega)) | refine OL.gD ?_ ?_ <;> (intro hc; try (exfalso; omega)) | fail)
  all_goals (try simp only [lix])
  all_goals skip
  all_goals refine OL.c hown Fn.ref17_Own ?_
  all_goals cases c4 : ownB L.length s.c
  all_goals repeat' (with_reducible first | refine OL.st ?_ | refine TC.region ?_ | refine TC.seq ?_ | refine OL.nil ?_ | refine TX.thenN ?_ | refine TC.skip ?_ | refine TX.blkN ?_ | refine TC.ifT ?_ | refine TC.ifF ?_ | refine OL.gOn ?_ | refine TC.ret ?_ | refine TX.thenR ?_ | refine TX.blkR ?_ | fail)
  all_goals exact TX.rt1 [] (.ren rfl)
set_option maxHeartbeats 2000000 in
theorem s_ref17_Refused_6 (lz : Bool) {ss : List (List Cls)} {ts : List Thing} (h : WOk ss ts) (s : Step) (hk : ShortC s.k) (d6 : s.d ≠ 1 ∧ s.d ≠ 2 ∧ s.d ≠ 3 ∧ s.d ≠ 4 ∧ s.d ≠ 5) (ht : inB ts.length s.th = true) : V.Spec Tryz.prog Fc.ref17_Refused [wlA lz ss ts, stepA s] [] (V.int (refusedE ss ts s)) [] := by
  obtain ⟨n1, n12, lg, lsh, lix⟩ := h.last
  obtain ⟨l10, lf⟩ := goodB_fine lg
  have lix := lix _ rfl (by omega)
  have hcls := fun i (hi : i < ts.length) => h.cls (List.getElem_mem hi)
  have h40 := h.n40
  have hown := s_ref17_Own (lastS ss) s.c (by omega)
  rw [← ownB] at hown
  have hso := fun c (hc : c < 3 + (lastS ss).length) => s_ref17_SlotsOf lf hc
  have hmd : 3 ≤ s.c ∧ s.c ≤ 3 + ((lastS ss).length : Int) → V.Spec Tryz.prog Fc.ref17_made [clssA (lastS ss), stepA s] [] (clssA (madeV (lastS ss) s.c s.k)) [] := s_ref17_made lsh l10 s hk
  have hgd := s_ref17_Good (madeV (lastS ss) s.c s.k) (madeV_short lsh l10 hk)
  have hva := s_ref04_Val s.v ts.length
  have hpl := fun l => s_ref17_place l s.sl
  have hth : ∀ h : s.th.toNat < ts.length, thAt ts s.th = ts[s.th.toNat] := fun h => getD_lt h
  have howd : ownB (lastS ss).length s.c = true ↔ 3 ≤ s.c ∧ s.c < 3 + ((lastS ss).length : Int) := by rw [ownB, Bool.and_eq_true, decide_eq_true_eq, decide_eq_true_eq]
  have hin : inB ts.length s.th = true ↔ 0 ≤ s.th ∧ s.th < (ts.length : Int) := by rw [inB, Bool.and_eq_true, decide_eq_true_eq, decide_eq_true_eq]
  rw [refusedE, if_neg d6.1, if_neg d6.2.1, if_neg (fun h => by omega), if_neg d6.2.2.2.2, ht]
  generalize lastS ss = L at *
  clear h lsh lg
  refine V.Spec.enter Tryz.tabOK Tryz.mixed Fn.ref17_Refused rfl rfl rfl fun B hB => ?_
  obtain ⟨t1, t2⟩ := hin.1 ht
  obtain ⟨d1, d2, d3, d4, d5⟩ := d6
  by_cases d6 : s.d = 6
  · rw [if_pos d6, if_pos rfl]
    repeat' (with_reducible first | refine OL.st ?_ | refine OL.box ?_ | refine TC.region ?_ | refine TC.seq ?_ | refine OL.nil ?_ | refine TX.thenN ?_ | refine TC.block ?_ | refine TC.skip ?_ | refine TX.blkN ?_ | refine OL.gOn ?_ | refine TC.ifD ?_ ?_ <;> (intro hc; try (exfalso; omega)) | refine OL.gD ?_ ?_ <;> (intro hc; try (exfalso; omega)) | refine TC.ret ?_ | fail)
    all_goals (try simp only [lix])
    all_goals skip
    all_goals exact TX.rt1 [] (.ren rfl)
  · rw [if_neg d6]
    repeat' (with_reducible first | refine OL.st ?_ | refine OL.box ?_ | refine TC.region ?_ | refine TC.seq ?_ | refine OL.nil ?_ | refine TX.thenN ?_ | refine TC.block ?_ | refine OL.gOn ?_ | refine TC.ifD ?_ ?_ <;> (intro hc; try (exfalso; omega)) | refine OL.gD ?_ ?_ <;> (intro hc; try (exfalso; omega)) | refine TC.ret ?_ | refine TX.thenR ?_ | refine TX.blkR ?_ | fail)
    all_goals (try simp only [lix])
    all_goals skip
    all_goals exact TX.rt1 [] (.ren rfl)
theorem s_ref17_Refused (lz : Bool) {ss : List (List Cls)} {ts : List Thing} (h : WOk ss ts) (s : Step) (hk : ShortC s.k) : V.Spec Tryz.prog Fc.ref17_Refused [wlA lz ss ts, stepA s] [] (V.int (refusedE ss ts s)) [] := by
  by_cases d1 : s.d = 1
  · exact s_ref17_Refused_1 lz h s hk d1
  by_cases d2 : s.d = 2
  · exact s_ref17_Refused_2 lz h s hk d2
  cases ht : inB ts.length s.th
  · exact s_ref17_Refused_n lz h s hk ⟨d1, d2⟩ ht
  by_cases d3 : s.d = 3
  · exact s_ref17_Refused_3 lz h s hk d3 ht
  by_cases d4 : s.d = 4
  · exact s_ref17_Refused_4 lz h s hk d4 ht
  by_cases d5 : s.d = 5
  · exact s_ref17_Refused_5 lz h s hk d5 ht
  exact s_ref17_Refused_6 lz h s hk ⟨d1, d2, d3, d4, d5⟩ ht
end Go.Proofs
