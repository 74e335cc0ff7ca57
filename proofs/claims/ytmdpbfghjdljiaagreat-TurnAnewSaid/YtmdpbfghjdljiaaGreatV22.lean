/- Part 22 of what the claim is proved by: lemmas on the model and walks through functions of the program; no conditions. -/
import Derived.Test.YtmdpbfghjdljiaaGreatV18
import Derived.Test.YtmdpbfghjdljiaaGreatV12
namespace Go.Proofs
open Go Go.W Go.V
def freshV (ss : List (List Cls)) (c : Nat) : Nat → Nat → List (Int × Int) → List (Int × Int)
  | 0, _, v => v
  | n + 1, s, v => freshV ss c n (s + 1) (turnedV (schAt ss (s + 1)) c (slotsOf (schAt ss s) c) v)
theorem schemasB_mono {ss : List (List Cls)} (h : schemasB ss = true) {i : Nat} (hi : i + 1 < ss.length) : (schAt ss i).length ≤ (schAt ss (i + 1)).length := by
  simp only [schemasB, Bool.and_eq_true, List.all_eq_true, List.mem_range] at h
  have := h.2 (i + 1) hi
  simp only [schOk, Bool.and_eq_true, Bool.or_eq_true, decide_eq_true_eq] at this
  rcases this.1 with h | h
  · omega
  · simpa using h
theorem schemasB_le {ss : List (List Cls)} (h : schemasB ss = true) {i : Nat} : ∀ j, i ≤ j → j < ss.length → (schAt ss i).length ≤ (schAt ss j).length
  | 0, h1, _ => by obtain rfl : i = 0 := by omega
                   exact Nat.le_refl _
  | j + 1, h1, h2 => by
    by_cases e : i = j + 1
    · subst e; exact Nat.le_refl _
    · exact Nat.le_trans (schemasB_le h j (by omega) (by omega)) (schemasB_mono h h2)
theorem slotsOf_len {l : List Cls} (h : goodB l = true) (c : Nat) : (slotsOf l c).length ≤ 1000 := by
  have := (goodB_fine h).1
  have := slotsTo_len l c 40
  have := Nat.mul_le_mul_left 40 (show l.length ≤ 10 by omega)
  rw [slotsOf]; omega
set_option maxHeartbeats 2000000 in
theorem s_ref17_Fresh (lz : Bool) {ss : List (List Cls)} (ts : List Thing) (hsb : schemasB ss = true) {s c : Nat} {v : List (Int × Int)} (hs : s < ss.length) (hc : c < 3 + (schAt ss s).length) (hv : v.length = (slotsOf (schAt ss s) c).length) :
    V.Spec Tryz.prog Fc.ref17_Fresh [wlA lz ss ts, thingA ((c : Int), (s : Int), v)] [] (.st [V.int c, V.int ((ss.length : Int) - 1), .hs 0]) [.gs false Tc.api_MeanVal 2 none ((freshV ss c (ss.length - 1 - s) s v).map valA)] := by
  obtain ⟨n1, n12⟩ := schemasB_len hsb
  refine V.Spec.enter Tryz.tabOK Tryz.mixed Fn.ref17_Fresh rfl rfl rfl fun B hB => ?_
  repeat' (with_reducible first | refine OL.box ?_ | refine OL.alloc ?_ | refine TC.region ?_ | refine TC.seq ?_ | refine OL.nil ?_ | refine TX.thenN ?_ | refine TC.block ?_ | fail)
  refine TC.lp (fun q : Int × List (Int × Int) => [(2, .bp 0 0), (3, .bp 1 0), (4, .bp 2 0)]) (fun q => [.cb Tc.api_TurnWorld [V.bool lz, schsA ss, thingsA ts], .cb Tc.api_TurnThing [V.int c, V.int q.1, valsA q.2], .cb Tc.api_TurnThing [.raw (.int .i64 0), .raw (.int .i64 0), .raw (.slice none 0 0)]]) (fun q => ((s : Int) ≤ q.1 ∧ q.1 < ss.length) ∧ q.2.length = (slotsOf (schAt ss q.1.toNat) c).length ∧ freshV ss c (ss.length - 1 - s) s v = freshV ss c (ss.length - 1 - q.1.toNat) q.1.toNat q.2) (fun q => ss.length - q.1.toNat) ((s : Int), v) [0, 1, 2] ⟨⟨Int.le_refl _, by dsimp only; omega⟩, by simpa using hv, by simp⟩ ?_
  rintro ⟨i, u⟩ ⟨⟨h1, h2⟩, h3, h4⟩
  dsimp only at h1 h2 h3 h4 ⊢
  have hlc := schemasB_le hsb (i := s) i.toNat (by omega) (by omega)
  have hgd := schemasB_good hsb (i := i.toNat) (by omega)
  have hul := slotsOf_len hgd c
  by_cases hi : i < (ss.length : Int) - 1
  · have hlc2 := schemasB_mono hsb (i := i.toNat) (by omega)
    have hgd2 := schemasB_good hsb (i := i.toNat + 1) (by omega)
    have hso := s_ref17_SlotsOf (goodB_fine hgd).2 (c := c) (by omega)
    have htu := s_ref17_turned (goodB_fine hgd2).2 (c := c) (slots := slotsOf (schAt ss i.toNat) c) (vals := u) (by omega) (by omega)
    have htl := turnedV_length (schAt ss (i.toNat + 1)) c (slotsOf (schAt ss i.toNat) c) u
    have hn : ss.length - 1 - i.toNat = (ss.length - 1 - (i.toNat + 1)) + 1 := by omega
    rw [hn, freshV] at h4
    generalize slotsOf (schAt ss i.toNat) c = sl0 at *
    generalize turnedV (schAt ss (i.toNat + 1)) c sl0 u = tv at *
    have e1 : schAt ss i.toNat = ss[i.toNat]'(by omega) := getD_lt (by omega)
    have e2 : schAt ss (i.toNat + 1) = ss[(i + 1).toNat]'(by omega) := by
      rw [schAt, getD_lt (by omega)]; congr 1; omega
    rw [e1] at hso
    rw [e2] at htu
    repeat' (with_reducible first | refine OL.st ?_ | refine TC.region ?_ | refine TC.seq ?_ | refine OL.nil ?_ | refine TX.thenN ?_ | refine TC.block ?_ | refine TC.skip ?_ | refine TC.ifD ?_ ?_ <;> (intro hc; try (exfalso; omega)) | fail)
    (with_reducible refine TC.draw (id := 2) true 22 23 ?_ <;> refine OD.st 0 ?_ <;> refine OD.st 1 ?_ <;> refine OD.st 2 ?_ <;> refine OD.st 3 ?_ <;> refine OD.st 4 ?_ <;> refine OD.st 5 ?_ <;> refine OD.st 6 ?_ <;> refine OD.st 7 ?_ <;> refine OD.st 8 ?_ <;> refine OD.st 9 ?_ <;> refine OD.st 10 ?_ <;> refine OD.st 11 ?_ <;> refine OD.st 12 ?_ <;> refine OD.st 13 ?_ <;> refine OD.st 14 ?_ <;> refine OD.st 15 ?_ <;> refine OD.st 16 ?_ <;> refine OD.st 18 ?_ <;> refine OD.st 19 ?_ <;> refine OD.c1 17 hso Fn.ref17_SlotsOf ?_ <;> refine OD.c1 20 htu Fn.ref17_turned ?_ <;> refine OD.st 21 ?_ <;> (refine OD.a1 22 ?_; refine OL.store ?_; refine OL.nil ?_; refine TX.od ?_) <;> refine OD.dn ?_)
    all_goals repeat' (with_reducible first | refine OL.st ?_ | refine OL.store ?_ | refine TC.region ?_ | refine OL.nil ?_ | refine TX.thenN ?_ | refine TX.blkN ?_ | fail)
    all_goals refine TX.rd (i + 1, tv) [0, 1, 2] ⟨⟨by dsimp only; omega, by dsimp only; omega⟩, ?_, ?_⟩ (by dsimp only; omega)
    all_goals (have e3 : (i + 1).toNat = i.toNat + 1 := by omega)
    all_goals dsimp only
    all_goals rw [e3]
    all_goals first | exact htl | exact h4
  · obtain rfl : i = (ss.length : Int) - 1 := by omega
    have hn : ss.length - 1 - ((ss.length : Int) - 1).toNat = 0 := by omega
    rw [hn, freshV] at h4
    rw [h4]
    repeat' (with_reducible first | refine OL.st ?_ | refine TC.region ?_ | refine TC.seq ?_ | refine OL.nil ?_ | refine TX.thenN ?_ | refine TC.exit ?_ | refine TX.hit ?_ | refine TX.thenX ?_ | refine TC.ifD ?_ ?_ <;> (intro hc; try (exfalso; omega)) | fail)
    refine OL.app0 ?_
    repeat' (with_reducible first | refine OL.st ?_ | refine OL.store ?_ | refine OL.storeAgg ?_ | refine TC.region ?_ | refine TC.seq ?_ | refine OL.nil ?_ | refine TX.thenN ?_ | refine TC.ret ?_ | fail)
    exact TX.rtc [4] (.ren rfl)
set_option maxHeartbeats 2000000 in
theorem s_ref17_Copy (lz : Bool) {ss : List (List Cls)} {ts : List Thing} (hs : ∀ s ∈ ss, Short s) (h12 : ss.length ≤ 12) (h40 : ts.length ≤ 100) (ht : ∀ x ∈ ts, x.2.2.length ≤ 1000) :
    V.Spec Tryz.prog Fc.ref17_Copy [wlA lz ss ts] [] (.st [V.bool lz, .hs 0, .hs 1]) [.gs false Tc.Lapi_BindClass 1 none (ss.map clssA), .gs false Tc.api_TurnThing 3 none (ts.map thingA)] := by
  refine V.Spec.enter Tryz.tabOK Tryz.mixed Fn.ref17_Copy rfl rfl rfl fun B hB => ?_
  repeat' (with_reducible first | refine OL.st ?_ | refine OL.box ?_ | refine OL.alloc ?_ | refine OL.storeAgg ?_ | refine OL.build ?_ | refine TC.region ?_ | refine TC.seq ?_ | refine OL.nil ?_ | refine TX.thenN ?_ | refine TC.block ?_ | fail)
  refine TC.adpC 2 1 Tc.Lapi_BindClass 1 ?_
  refine TC.adpC 2 2 Tc.api_TurnThing 3 ?_
  refine TC.lp (fun k : Nat => [(1, .bp 0 0), (2, .bp 1 0), (3, .bp 2 0), (12, schsA ss), (13, V.int ss.length), (14, V.int k)]) (fun k => [.cb Tc.api_TurnWorld [V.bool lz, schsA ss, thingsA ts], .cb Tc.api_TurnWorld [.raw (.bool false), .raw (.slice none 0 0), .raw (.slice none 0 0)], .cb Tc.api_TurnWorld [V.bool lz, .hs 3, .hs 4], .gs false Tc.Lapi_BindClass 1 none ((ss.take k).map clssA), .gs false Tc.api_TurnThing 3 none []]) (fun k => k ≤ ss.length) (fun k => ss.length - k) 0 [0, 1, 2, 3, 4] (Nat.zero_le _) ?_
  rintro k hk
  have hkq : (ss.take k).length ≤ 100 := by simp; omega
  by_cases hkl : k < ss.length
  · have hcl := s_ref17_Classes ss[k] (hs _ (List.getElem_mem _))
    have e : (ss.take k).map clssA ++ [clssA ss[k]] = (ss.take (k + 1)).map clssA := by rw [take_succ hkl]; exact map_snoc _ _ _
    generalize ss.take k = q at *
    repeat' (with_reducible first | refine OL.st ?_ | refine TC.region ?_ | refine TC.seq ?_ | refine OL.nil ?_ | refine TX.thenN ?_ | refine TC.block ?_ | refine TC.skip ?_ | refine TC.ifD ?_ ?_ <;> (intro hc; try (exfalso; omega)) | fail)
    (with_reducible refine TC.draw (id := 5) false 8 8 ?_ <;> refine OD.st 0 ?_ <;> refine OD.st 2 ?_ <;> refine OD.n2 1 3 ?_ ?_ <;> (first | refine NextBy.at 1 ?_ <;> refine NextBy.s ?_ <;> refine OD.c1 3 hcl Fn.ref17_Classes ?_ <;> (refine OD.a1 4 ?_; refine OL.lit ?_; refine OL.nil ?_; refine TX.od ?_) <;> (refine OD.a1 5 ?_; refine OL.appO ?_; refine OL.nil ?_; refine TX.od ?_) <;> refine OD.st 6 ?_ <;> (refine OD.a1 7 ?_; refine OL.store ?_; refine OL.nil ?_; refine TX.od ?_) <;> refine OD.dn ?_ | refine NextBy.at 3 ?_ <;> refine NextBy.c hcl Fn.ref17_Classes ?_ <;> refine OD.n2 1 4 ?_ ?_ <;> (first | refine NextBy.at 1 ?_ <;> refine NextBy.s ?_ <;> (refine OD.a1 4 ?_; refine OL.lit ?_; refine OL.nil ?_; refine TX.od ?_) <;> (refine OD.a1 5 ?_; refine OL.appO ?_; refine OL.nil ?_; refine TX.od ?_) <;> refine OD.st 6 ?_ <;> (refine OD.a1 7 ?_; refine OL.store ?_; refine OL.nil ?_; refine TX.od ?_) <;> refine OD.dn ?_ | refine NextBy.at 4 ?_ <;> (refine NextBy.a ?_; refine OL.lit ?_; refine OL.nil ?_; refine TX.od ?_) <;> refine OD.s1 1 ?_ <;> (refine OD.a1 5 ?_; refine OL.appO ?_; refine OL.nil ?_; refine TX.od ?_) <;> refine OD.st 6 ?_ <;> (refine OD.a1 7 ?_; refine OL.store ?_; refine OL.nil ?_; refine TX.od ?_) <;> refine OD.dn ?_)))
    all_goals repeat' (with_reducible first | refine OL.st ?_ | refine TC.region ?_ | refine OL.nil ?_ | refine TX.thenN ?_ | refine TX.blkN ?_ | fail)
    all_goals exact TX.rd (k + 1) [0, 1, 2, 6, 4] (by omega) (by omega)
  · rw [take_all (by omega)]
    repeat' (with_reducible first | refine OL.st ?_ | refine TC.region ?_ | refine TC.seq ?_ | refine OL.nil ?_ | refine TX.thenN ?_ | refine TC.block ?_ | refine TC.exit ?_ | refine TX.hit ?_ | refine TX.thenX ?_ | refine TC.ifD ?_ ?_ <;> (intro hc; try (exfalso; omega)) | fail)
    refine TC.lp (fun k : Nat => [(1, .bp 0 0), (2, .bp 1 0), (3, .bp 2 0), (27, thingsA ts), (28, V.int ts.length), (29, V.int k)]) (fun k => [.cb Tc.api_TurnWorld [V.bool lz, schsA ss, thingsA ts], .cb Tc.api_TurnWorld [.raw (.bool false), .raw (.slice none 0 0), .raw (.slice none 0 0)], .cb Tc.api_TurnWorld [V.bool lz, .hs 3, .hs 4], .gs false Tc.Lapi_BindClass 1 none (ss.map clssA), .gs false Tc.api_TurnThing 3 none ((ts.take k).map thingA)]) (fun k => k ≤ ts.length) (fun k => ts.length - k) 0 [0, 1, 2, 3, 4] (Nat.zero_le _) ?_
    rintro k hk
    have hkq : (ts.take k).length ≤ 100 := by simp; omega
    by_cases hkl : k < ts.length
    · have hxl := ht ts[k] (List.getElem_mem _)
      have e : (ts.take k).map thingA ++ [thingA ts[k]] = (ts.take (k + 1)).map thingA := by rw [take_succ hkl]; exact map_snoc _ _ _
      generalize ts.take k = q at *
      repeat' (with_reducible first | refine OL.st ?_ | refine OL.alloc ?_ | refine OL.storeAgg ?_ | refine TC.region ?_ | refine TC.seq ?_ | refine OL.nil ?_ | refine TX.thenN ?_ | refine TC.block ?_ | refine TC.skip ?_ | refine TC.ifD ?_ ?_ <;> (intro hc; try (exfalso; omega)) | fail)
      refine OL.app0 ?_
      refine OL.vw 35 ?_
      repeat' (with_reducible first | refine OL.st ?_ | refine OL.store ?_ | refine OL.lit ?_ | refine OL.appO ?_ | refine TC.region ?_ | refine OL.nil ?_ | refine TX.thenN ?_ | refine TX.blkN ?_ | fail)
      exact TX.rd (k + 1) [0, 1, 2, 3, 9] (by omega) (by omega)
    · rw [take_all (by omega)]
      repeat' (with_reducible first | refine OL.st ?_ | refine OL.storeAgg ?_ | refine TC.region ?_ | refine TC.seq ?_ | refine OL.nil ?_ | refine TX.thenN ?_ | refine TC.exit ?_ | refine TX.hit ?_ | refine TX.thenX ?_ | refine TC.ifD ?_ ?_ <;> (intro hc; try (exfalso; omega)) | refine TC.ret ?_ | fail)
      exact TX.rtc [3, 4] (.ren rfl)
end Go.Proofs
namespace Go.Proofs
open Go Go.W Go.V
theorem s_ref17_ClassesO (l : List Cls) (hs : Short l) : V.Spec Tryz.prog Fc.ref17_Classes [clssA l] [] (.hs 0) [.gs false Tc.api_BindClass 3 none (l.map clsA)] := by
  obtain ⟨hb, hc0⟩ := hs
  refine V.Spec.enter Tryz.tabOK Tryz.mixed Fn.ref17_Classes rfl rfl rfl fun B hB => ?_
  repeat' (with_reducible first | refine OL.st ?_ | refine TC.region ?_ | refine TC.seq ?_ | refine OL.nil ?_ | refine TX.thenN ?_ | refine TC.block ?_ | fail)
  refine TC.adp 3 Tc.api_BindClass 3 ?_
  refine TC.lp (fun k : Nat => [(3, .hs 0), (6, clssA l), (7, V.int l.length), (8, V.int k)]) (fun k => [.gs false Tc.api_BindClass 3 none ((l.take k).map clsA)]) (fun k => k ≤ l.length) (fun k => l.length - k) 0 [0] (Nat.zero_le _) ?_
  rintro k hk
  by_cases hkl : k < l.length
  · obtain ⟨b1, b2, b3⟩ := hc0 l[k] (List.getElem_mem _)
    have hcl := s_ref17_Class l[k] b1 b2 b3
    have hlen : (l.take k).length = k := by simp; omega
    have e : (l.take k).map clsA ++ [clsA l[k]] = (l.take (k + 1)).map clsA := by rw [take_succ hkl, List.map_append]; rfl
    generalize l.take k = gk at *
    repeat' (with_reducible first | refine OL.st ?_ | refine OL.alloc ?_ | refine OL.storeAgg ?_ | refine TC.region ?_ | refine TC.seq ?_ | refine OL.nil ?_ | refine TX.thenN ?_ | refine TC.block ?_ | refine TC.skip ?_ | refine TC.ifD ?_ ?_ <;> (intro hc; try (exfalso; omega)) | fail)
    refine OL.c hcl Fn.ref17_Class ?_
    repeat' (with_reducible first | refine OL.st ?_ | refine OL.lit ?_ | refine OL.appO ?_ | refine TC.region ?_ | refine OL.nil ?_ | refine TX.thenN ?_ | refine TX.blkN ?_ | fail)
    exact TX.rd (k + 1) [3] (by omega) (by omega)
  · rw [take_all (by omega)]
    repeat' (with_reducible first | refine OL.st ?_ | refine TC.region ?_ | refine TC.seq ?_ | refine OL.nil ?_ | refine TX.thenN ?_ | refine TC.exit ?_ | refine TX.hit ?_ | refine TX.thenX ?_ | refine TC.ifD ?_ ?_ <;> (intro hc; try (exfalso; omega)) | refine TC.ret ?_ | fail)
    exact TX.rt1 [0] (.ren rfl)
structure Step where
  (d th c sl : Int)
  v : Int × Int
  k : Cls
abbrev stepA (s : Step) : AV := .st [V.int s.d, V.int s.th, V.int s.c, V.int s.sl, V.int s.v.1, V.int s.v.2, ints s.k.1, ints s.k.2.1, initsA s.k.2.2]
def ShortC (k : Cls) : Prop := k.1.length * 8 ≤ 140737488355328 ∧ k.2.1.length * 8 ≤ 140737488355328 ∧ k.2.2.length * 16 ≤ 140737488355328
def madeV (l : List Cls) (c : Int) (k : Cls) : List Cls := if c - 3 = (l.length : Int) then l ++ [k] else l.set (c - 3).toNat k
theorem s_ref17_made {l : List Cls} (hs : Short l) (hl : l.length ≤ 10) (s : Step) (hk : ShortC s.k) (hc : 3 ≤ s.c ∧ s.c ≤ 3 + (l.length : Int)) : V.Spec Tryz.prog Fc.ref17_made [clssA l, stepA s] [] (clssA (madeV l s.c s.k)) [] := by
  have hcl := s_ref17_ClassesO l hs
  have hck := s_ref17_Class s.k hk.1 hk.2.1 hk.2.2
  rw [madeV]
  refine V.Spec.enter Tryz.tabOK Tryz.mixed Fn.ref17_made rfl rfl rfl fun B hB => ?_
  repeat' (with_reducible first | refine OL.st ?_ | refine OL.box ?_ | refine TC.region ?_ | refine TC.seq ?_ | refine OL.nil ?_ | refine TX.thenN ?_ | fail)
  refine OL.c hcl Fn.ref17_Classes ?_
  by_cases h : s.c - 3 = (l.length : Int)
  · rw [if_pos h]
    repeat' (with_reducible first | refine OL.st ?_ | refine TC.region ?_ | refine TC.seq ?_ | refine OL.nil ?_ | refine TX.thenN ?_ | refine TC.ifD ?_ ?_ <;> (intro hc; try (exfalso; omega)) | fail)
    refine OL.c hck Fn.ref17_Class ?_
    repeat' (with_reducible first | refine OL.st ?_ | refine OL.lit ?_ | refine OL.appO ?_ | refine OL.nil ?_ | refine TX.thenN ?_ | refine TC.ret ?_ | refine TX.thenR ?_ | fail)
    rw [map_snoc]
    refine TX.vw 4 ?_
    exact TX.rt1 [] (.ren rfl)
  · rw [if_neg h]
    repeat' (with_reducible first | refine OL.st ?_ | refine TC.region ?_ | refine TC.seq ?_ | refine OL.nil ?_ | refine TX.thenN ?_ | refine TC.skip ?_ | refine TC.ifD ?_ ?_ <;> (intro hc; try (exfalso; omega)) | fail)
    (with_reducible refine TC.draw (id := 4) false 9 9 ?_ <;> refine OD.st 0 ?_ <;> refine OD.st 1 ?_ <;> refine OD.st 4 ?_ <;> refine OD.n2 2 5 ?_ ?_ <;> (first | refine NextBy.at 2 ?_ <;> refine NextBy.s ?_ <;> refine OD.st 3 ?_ <;> refine OD.s1 5 ?_ <;> refine OD.c1 6 hck Fn.ref17_Class ?_ <;> refine OD.st 7 ?_ <;> (refine OD.a1 8 ?_; refine OL.storeEA ?_; refine OL.nil ?_; refine TX.od ?_) <;> refine OD.dn ?_ | refine NextBy.at 5 ?_ <;> refine NextBy.s ?_ <;> refine OD.n2 2 6 ?_ ?_ <;> (first | refine NextBy.at 2 ?_ <;> refine NextBy.s ?_ <;> refine OD.st 3 ?_ <;> refine OD.c1 6 hck Fn.ref17_Class ?_ <;> refine OD.st 7 ?_ <;> (refine OD.a1 8 ?_; refine OL.storeEA ?_; refine OL.nil ?_; refine TX.od ?_) <;> refine OD.dn ?_ | refine NextBy.at 6 ?_ <;> refine NextBy.c hck Fn.ref17_Class ?_ <;> refine OD.s1 2 ?_ <;> refine OD.st 3 ?_ <;> refine OD.st 7 ?_ <;> (refine OD.a1 8 ?_; refine OL.storeEA ?_; refine OL.nil ?_; refine TX.od ?_) <;> refine OD.dn ?_)))
    all_goals repeat' (with_reducible first | refine OL.st ?_ | refine TC.region ?_ | refine TC.seq ?_ | refine OL.nil ?_ | refine TX.thenN ?_ | refine TC.ret ?_ | fail)
    all_goals refine TX.vw 4 ?_
    all_goals exact TX.rt1 [] (.sl' (by rw [List.map_set]))
def freshT (ss : List (List Cls)) (x : Thing) : Thing := (x.1, (ss.length : Int) - 1, freshV ss x.1.toNat (ss.length - 1 - x.2.1.toNat) x.2.1.toNat x.2.2)
def TOk (ss : List (List Cls)) (x : Thing) : Prop := ∃ s c : Nat, x.2.1 = s ∧ x.1 = c ∧ s < ss.length ∧ 3 ≤ c ∧ c < 3 + (schAt ss s).length ∧ x.2.2.length = (slotsOf (schAt ss s) c).length
theorem thingOk_TOk {lz : Bool} {ss : List (List Cls)} {n : Int} {x : Thing} (h : thingOk lz ss n x = true) : TOk ss x := by
  simp only [thingOk, ownB, Bool.and_eq_true, decide_eq_true_eq] at h
  obtain ⟨⟨⟨h1, h2⟩, _⟩, ⟨h3, h4⟩, h5, _⟩ := h
  exact ⟨x.2.1.toNat, x.1.toNat, by omega, by omega, by omega, by omega, by omega, h5⟩
theorem TOk.short {ss : List (List Cls)} (hsb : schemasB ss = true) {x : Thing} (h : TOk ss x) : x.2.2.length ≤ 1000 := by
  obtain ⟨s, c, _, _, h1, _, _, h2⟩ := h
  have := slotsOf_len (schemasB_good hsb h1) c
  omega
set_option maxHeartbeats 2000000 in
theorem s_ref17_SettleOf (lz : Bool) {ss : List (List Cls)} {ts : List Thing} (hs : ∀ s ∈ ss, Short s) (hsb : schemasB ss = true) (h40 : ts.length ≤ 40) (ht : ∀ x ∈ ts, TOk ss x) :
    V.Spec Tryz.prog Fc.ref17_SettleOf [wlA lz ss ts] [] (.st [V.bool lz, .hs 0, .hs 1]) [.gs false Tc.Lapi_BindClass 1 none (ss.map clssA), .gs false Tc.api_TurnThing 3 none ((ts.map (freshT ss)).map thingA)] := by
  obtain ⟨n1, n12⟩ := schemasB_len hsb
  have hcp := s_ref17_Copy lz hs n12 (by omega) (fun x hx => (ht x hx).short hsb)
  refine V.Spec.enter Tryz.tabOK Tryz.mixed Fn.ref17_SettleOf rfl rfl rfl fun B hB => ?_
  repeat' (with_reducible first | refine OL.st ?_ | refine OL.box ?_ | refine OL.alloc ?_ | refine TC.region ?_ | refine TC.seq ?_ | refine OL.nil ?_ | refine TX.thenN ?_ | fail)
  refine OL.c hcp Fn.ref17_Copy ?_
  repeat' (with_reducible first | refine OL.st ?_ | refine OL.alloc ?_ | refine OL.storeAgg ?_ | refine TC.region ?_ | refine TC.seq ?_ | refine OL.nil ?_ | refine TX.thenN ?_ | refine TC.block ?_ | fail)
  refine TC.lp (fun k : Nat => [(1, .bp 0 0), (2, .bp 1 0), (3, .bp 4 0), (9, .hs 3), (10, V.int ts.length), (11, V.int k)]) (fun k => [.cb Tc.api_TurnWorld [V.bool lz, schsA ss, thingsA ts], .cb Tc.api_TurnWorld [.raw (.bool false), .raw (.slice none 0 0), .raw (.slice none 0 0)], .gs false Tc.Lapi_BindClass 1 none (ss.map clssA), .gs false Tc.api_TurnThing 3 none (((ts.take k).map (freshT ss) ++ ts.drop k).map thingA), .cb Tc.api_TurnWorld [V.bool lz, .hs 2, .hs 3]]) (fun k => k ≤ ts.length) (fun k => ts.length - k) 0 [0, 1, 2, 3, 4] (Nat.zero_le _) ?_
  rintro k hk
  have hcl : ((ts.take k).map (freshT ss) ++ ts.drop k).length = ts.length := by simp; omega
  by_cases hkl : k < ts.length
  · obtain ⟨s, c, x1, x2, x3, x4, x5, x6⟩ := ht ts[k] (List.getElem_mem _)
    have hck : ∀ h : k < ((ts.take k).map (freshT ss) ++ ts.drop k).length, ((ts.take k).map (freshT ss) ++ ts.drop k)[k] = ((c : Int), (s : Int), ts[k].2.2) := fun h => by
      rw [List.getElem_append_right (by simp; omega)]
      simp only [List.getElem_drop]
      have e : k + (k - ((ts.take k).map (freshT ss)).length) = k := by simp; omega
      simp only [e]
      exact Prod.ext x2 (Prod.ext x1 rfl)
    have hfr := s_ref17_Fresh lz ts hsb x3 x5 x6
    have hff : freshT ss ts[k] = ((c : Int), (ss.length : Int) - 1, freshV ss c (ss.length - 1 - s) s ts[k].2.2) := by rw [freshT, x2, x1]; simp
    have e : (((ts.take k).map (freshT ss) ++ ts.drop k).map thingA).set k (.st [V.int c, V.int ((ss.length : Int) - 1), .sl 2 none ((freshV ss c (ss.length - 1 - s) s ts[k].2.2).map valA)]) = ((ts.take (k + 1)).map (freshT ss) ++ ts.drop (k + 1)).map thingA := by
      rw [show AV.st [V.int c, V.int ((ss.length : Int) - 1), .sl 2 none ((freshV ss c (ss.length - 1 - s) s ts[k].2.2).map valA)] = thingA (freshT ss ts[k]) by rw [hff], ← List.map_set]
      congr 1
      rw [List.set_append_right _ _ (by simp; omega), drop_cons hkl, take_succ hkl, List.map_append, List.append_assoc]
      congr 1
      rw [show k - ((ts.take k).map (freshT ss)).length = 0 by simp; omega]
      rfl
    generalize freshV ss c (ss.length - 1 - s) s ts[k].2.2 = fv at *
    generalize hcur : (ts.take k).map (freshT ss) ++ ts.drop k = cur at *
    have hck := hck (by omega)
    repeat' (with_reducible first | refine OL.st ?_ | refine OL.alloc ?_ | refine OL.storeAgg ?_ | refine TC.region ?_ | refine TC.seq ?_ | refine OL.nil ?_ | refine TX.thenN ?_ | refine TC.block ?_ | refine TC.skip ?_ | refine TC.ifD ?_ ?_ <;> (intro hc; try (exfalso; omega)) | fail)
    simp only [hck]
    (with_reducible refine TC.draw (id := 5) false 8 8 ?_ <;> refine OD.st 0 ?_ <;> refine OD.st 2 ?_ <;> refine OD.n3 1 3 4 ?_ ?_ ?_ <;> (first | refine NextBy.at 1 ?_ <;> refine NextBy.s ?_ <;> refine OD.q2 3 4 ?_ <;> (refine OD.a1 5 ?_; refine OL.c hfr Fn.ref17_Fresh ?_; refine OL.vwS 21 2 ?_; refine OL.nil ?_; refine TX.od ?_) <;> refine OD.st 6 ?_ <;> (refine OD.a1 7 ?_; refine OL.storeEA ?_; refine OL.nil ?_; refine TX.od ?_) <;> refine OD.dn ?_ | refine NextBy.at 3 ?_ <;> refine NextBy.s ?_ <;> refine OD.n2 1 4 ?_ ?_ <;> (first | refine NextBy.at 1 ?_ <;> refine NextBy.s ?_ <;> refine OD.s1 4 ?_ <;> (refine OD.a1 5 ?_; refine OL.c hfr Fn.ref17_Fresh ?_; refine OL.vwS 21 2 ?_; refine OL.nil ?_; refine TX.od ?_) <;> refine OD.st 6 ?_ <;> (refine OD.a1 7 ?_; refine OL.storeEA ?_; refine OL.nil ?_; refine TX.od ?_) <;> refine OD.dn ?_ | refine NextBy.at 4 ?_ <;> refine NextBy.s ?_ <;> refine OD.n2 1 5 ?_ ?_ <;> (first | refine NextBy.at 1 ?_ <;> refine NextBy.s ?_ <;> (refine OD.a1 5 ?_; refine OL.c hfr Fn.ref17_Fresh ?_; refine OL.vwS 21 2 ?_; refine OL.nil ?_; refine TX.od ?_) <;> refine OD.st 6 ?_ <;> (refine OD.a1 7 ?_; refine OL.storeEA ?_; refine OL.nil ?_; refine TX.od ?_) <;> refine OD.dn ?_ | refine NextBy.at 5 ?_ <;> (refine NextBy.a ?_; refine OL.c hfr Fn.ref17_Fresh ?_; refine OL.vwS 21 2 ?_; refine OL.nil ?_; refine TX.od ?_) <;> refine OD.s1 1 ?_ <;> refine OD.st 6 ?_ <;> (refine OD.a1 7 ?_; refine OL.storeEA ?_; refine OL.nil ?_; refine TX.od ?_) <;> refine OD.dn ?_)) | refine NextBy.at 4 ?_ <;> refine NextBy.s ?_ <;> refine OD.n2 1 3 ?_ ?_ <;> (first | refine NextBy.at 1 ?_ <;> refine NextBy.s ?_ <;> refine OD.s1 3 ?_ <;> (refine OD.a1 5 ?_; refine OL.c hfr Fn.ref17_Fresh ?_; refine OL.vwS 21 2 ?_; refine OL.nil ?_; refine TX.od ?_) <;> refine OD.st 6 ?_ <;> (refine OD.a1 7 ?_; refine OL.storeEA ?_; refine OL.nil ?_; refine TX.od ?_) <;> refine OD.dn ?_ | refine NextBy.at 3 ?_ <;> refine NextBy.s ?_ <;> refine OD.n2 1 5 ?_ ?_ <;> (first | refine NextBy.at 1 ?_ <;> refine NextBy.s ?_ <;> (refine OD.a1 5 ?_; refine OL.c hfr Fn.ref17_Fresh ?_; refine OL.vwS 21 2 ?_; refine OL.nil ?_; refine TX.od ?_) <;> refine OD.st 6 ?_ <;> (refine OD.a1 7 ?_; refine OL.storeEA ?_; refine OL.nil ?_; refine TX.od ?_) <;> refine OD.dn ?_ | refine NextBy.at 5 ?_ <;> (refine NextBy.a ?_; refine OL.c hfr Fn.ref17_Fresh ?_; refine OL.vwS 21 2 ?_; refine OL.nil ?_; refine TX.od ?_) <;> refine OD.s1 1 ?_ <;> refine OD.st 6 ?_ <;> (refine OD.a1 7 ?_; refine OL.storeEA ?_; refine OL.nil ?_; refine TX.od ?_) <;> refine OD.dn ?_))))
    all_goals repeat' (with_reducible first | refine OL.st ?_ | refine TC.region ?_ | refine OL.nil ?_ | refine TX.thenN ?_ | refine TX.blkN ?_ | fail)
    all_goals exact TX.rd (k + 1) [0, 1, 2, 3, 4] (by omega) (by omega)
  · obtain rfl : k = ts.length := by omega
    rw [List.take_length, List.drop_length, List.append_nil]
    repeat' (with_reducible first | refine OL.st ?_ | refine OL.storeAgg ?_ | refine TC.region ?_ | refine TC.seq ?_ | refine OL.nil ?_ | refine TX.thenN ?_ | refine TC.exit ?_ | refine TX.hit ?_ | refine TX.thenX ?_ | refine TC.ifD ?_ ?_ <;> (intro hc; try (exfalso; omega)) | refine TC.ret ?_ | fail)
    exact TX.rtc [2, 3] (.ren rfl)
end Go.Proofs
