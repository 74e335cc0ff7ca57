/- Part 17 of what the claim is proved by: lemmas on the model and walks through functions of the program; no conditions. -/
import Derived.Test.YtmdpbfghjdljiaaGreatV16
import Derived.Test.YtmdpbfghjdljiaaGreatV9
import Derived.Test.YtmdpbfghjdljiaaGreatV10
import Derived.Test.YtmdpbfghjdljiaaGreatV11
namespace Go.Proofs
open Go Go.W Go.V
theorem s_line_bare_1 (c : Int) : V.Spec Tryz.prog Fc.line_bare_1 [V.int c] [] (V.bool (c != 0)) [] := by
  refine V.Spec.enter Tryz.tabOK Tryz.mixed Fn.line_bare_1 rfl rfl rfl fun B hB => ?_
  repeat' (with_reducible first | refine OL.st ?_ | refine TC.region ?_ | refine TC.seq ?_ | refine OL.nil ?_ | refine TX.thenN ?_ | refine TC.ret ?_ | fail)
  refine TX.rt1 [] (.bool ?_)
  by_cases h : c = 0 <;> simp [h]
theorem s_line_bare (l : List Int) (hb : l.length ≤ 1000000000) : V.Spec Tryz.prog Fc.line_bare [ints l] [] (.hs 0) [.gs false Tc.int 1 none ((bare l).map V.int)] := by
  refine V.Spec.enter Tryz.tabOK Tryz.mixed Fn.line_bare rfl rfl rfl fun B hB => ?_
  repeat' (with_reducible first | refine OL.st ?_ | refine TC.region ?_ | refine TC.seq ?_ | refine OL.nil ?_ | refine TX.thenN ?_ | fail)
  refine OL.c (s_line_keep_int l (fun c => c != 0) hb) Fn.line_keep_int ?_ (hle := by exact ⟨.ren rfl, .fun0 Fn.line_bare_1 (fun c _ => s_line_bare_1 c), trivial⟩)
  repeat' (with_reducible first | refine OL.st ?_ | refine OL.nil ?_ | refine TX.thenN ?_ | refine TC.ret ?_ | fail)
  exact TX.rt1 [0] (.ren rfl)
abbrev setA (x : Nat) : AV := .st [V.u64 x]
def setWith (x : Nat) (c : Nat) : Nat := x ||| 1 <<< c
theorem s_line_set_with (x : Nat) (hx : x < 2 ^ 64) (c : Int) (h0 : 0 ≤ c) (h1 : c < 64) : V.Spec Tryz.prog Fc.line_set_with [setA x, V.int c] [] (setA (setWith x c.toNat)) [] := by
  refine V.Spec.enter Tryz.tabOK Tryz.mixed Fn.line_set_with rfl rfl rfl fun B hB => ?_
  repeat' (with_reducible first | refine OL.box ?_ | refine OL.alloc ?_ | refine TC.region ?_ | refine TC.seq ?_ | refine OL.nil ?_ | refine TX.thenN ?_ | fail)
  (with_reducible refine TC.draw (id := 1) true 6 7 ?_ <;> refine OD.st 0 ?_ <;> refine OD.st 1 ?_ <;> refine OD.st 2 ?_ <;> refine OD.st 3 ?_ <;> refine OD.st 4 ?_ <;> refine OD.st 5 ?_ <;> (refine OD.a1 6 ?_; refine OL.store ?_; refine OL.nil ?_; refine TX.od ?_) <;> refine OD.dn ?_)
  repeat' (with_reducible first | refine OL.st ?_ | refine OL.storeAgg ?_ | refine TC.region ?_ | refine TC.seq ?_ | refine OL.nil ?_ | refine TX.thenN ?_ | refine TC.ret ?_ | fail)
  exact TX.rtc [] (.ren rfl)
theorem s_line_set_or (x y : Nat) (hx : x < 2 ^ 64) (hy : y < 2 ^ 64) : V.Spec Tryz.prog Fc.line_set_or [setA x, setA y] [] (setA (x ||| y)) [] := by
  refine V.Spec.enter Tryz.tabOK Tryz.mixed Fn.line_set_or rfl rfl rfl fun B hB => ?_
  repeat' (with_reducible first | refine OL.st ?_ | refine OL.box ?_ | refine OL.alloc ?_ | refine OL.store ?_ | refine OL.storeAgg ?_ | refine TC.region ?_ | refine TC.seq ?_ | refine OL.nil ?_ | refine TX.thenN ?_ | refine TC.ret ?_ | fail)
  exact TX.rtc [] (.ren rfl)
theorem setWith_lt {x c : Nat} (hx : x < 2 ^ 64) (hc : c < 64) : setWith x c < 2 ^ 64 := Nat.or_lt_two_pow hx (by rw [Nat.one_shiftLeft]; exact Nat.pow_lt_pow_right (by omega) hc)
end Go.Proofs
namespace Go.Proofs
open Go Go.W Go.V
set_option maxHeartbeats 1000000 in
theorem s_line_fine (g : List (List Int)) : V.Spec Tryz.prog Fc.line_fine [rows g] [] (V.bool (fine g)) [] := by
  refine V.Spec.enter Tryz.tabOK Tryz.mixed Fn.line_fine rfl rfl rfl fun B hB => ?_
  refine TC.bl 0 fun hlen => ?_
  repeat' (with_reducible first | refine OL.st ?_ | refine TC.region ?_ | refine TC.seq ?_ | refine OL.nil ?_ | refine TX.thenN ?_ | refine TC.block ?_ | refine TC.skip ?_ | refine TC.ifD ?_ ?_ <;> (intro hc; try (exfalso; omega)) | refine TC.ret ?_ | refine TX.thenR ?_ | fail)
  · refine TX.rt1 [] (.bool ?_)
    have : decide (g.length ≤ 16) = false := by simp; omega
    simp [fine, this]
  have hfine : fine g = okRows 0 g := by
    have : decide (g.length ≤ 16) = true := by simp; omega
    simp [fine, this]
  have h16 : g.length ≤ 16 := by omega
  refine TC.lp (fun i : Nat => [(10, rows g), (11, V.int g.length), (12, V.int i)]) (fun _ => []) (fun i => i ≤ g.length ∧ okRows 0 g = okRows i (g.drop i)) (fun i => g.length - i) 0 [] ⟨Nat.zero_le _, rfl⟩ ?_
  rintro i ⟨hi, hinv⟩
  repeat' (with_reducible first | refine OL.st ?_ | refine TC.region ?_ | refine TC.seq ?_ | refine OL.nil ?_ | refine TX.thenN ?_ | refine TC.block ?_ | refine TC.skip ?_ | refine TC.exit ?_ | refine TX.hit ?_ | refine TX.thenX ?_ | refine TC.ifD ?_ ?_ <;> (intro hc; try (exfalso; omega)) | refine TC.ret ?_ | refine TX.thenR ?_ | refine TX.blkR ?_ | fail)
  · refine TX.rt1 [] (.bool ?_)
    rw [hfine, hinv, drop_cons (by omega)]
    have : decide (g[i].length ≤ 3) = false := by simp; omega
    simp [okRows, this]
  · have hr3 : g[i].length ≤ 3 := by omega
    have hst : okRows i (g.drop i) = (okRow i [] g[i] && okRows (i + 1) (g.drop (i + 1))) := by
      rw [drop_cons (by omega)]
      have : decide (g[i].length ≤ 3) = true := by simp; omega
      simp [okRows, this]
    generalize g[i] = r at *
    refine TC.lp (fun k : Nat => [(3, V.int i), (4, ints r), (20, ints r), (21, V.int r.length), (22, V.int k), (10, rows g), (11, V.int g.length), (12, V.int i)]) (fun _ => []) (fun k => k ≤ r.length ∧ okRow i [] r = okRow i (r.take k) (r.drop k)) (fun k => r.length - k) 0 [] ⟨Nat.zero_le _, rfl⟩ ?_
    rintro k ⟨hk, hki⟩
    have hfail : okRow i (r.take k) (r.drop k) = false → fine g = false := fun hb => by rw [hfine, hinv, hst, hki.trans hb]; rfl
    repeat' (with_reducible first | refine OL.st ?_ | refine TC.region ?_ | refine TC.seq ?_ | refine OL.nil ?_ | refine TX.thenN ?_ | refine TC.block ?_ | refine TC.skip ?_ | refine TX.blkN ?_ | refine TC.exit ?_ | refine TX.hit ?_ | refine TX.thenX ?_ | refine TC.ifT ?_ | refine OL.gOn ?_ | refine OL.gOff ?_ | refine TC.ifD ?_ ?_ <;> (intro hc; try (exfalso; omega)) | refine OL.gD ?_ ?_ <;> (intro hc; try (exfalso; omega)) | refine TC.ret ?_ | refine TX.thenR ?_ | refine TX.blkR ?_ | fail)
    · refine TX.rt1 [] (.bool ?_)
      rw [hfail]
      rw [drop_cons (by omega)]
      have : decide (3 ≤ r[k]) = false := by simp; omega
      simp [okRow, this]
    · refine TX.rt1 [] (.bool ?_)
      rw [hfail]
      rw [drop_cons (by omega)]
      have : decide (r[k] < 3 + (i : Int)) = false := by simp; omega
      simp [okRow, this]
    · refine OL.c (s_slices_Contains_Lint_int (r.take k) r[k]) Fn.slices_Contains_Lint_int ?_
      have e1 : decide (3 ≤ r[k]) = true := by simp; omega
      have e2 : decide (r[k] < 3 + (i : Int)) = true := by simp; omega
      repeat' (with_reducible first | refine OL.st ?_ | refine OL.nil ?_ | refine TX.thenN ?_ | fail)
      refine TC.ifB (fun hct => ?_) (fun hct => ?_)
      · repeat' (with_reducible first | refine OL.st ?_ | refine TC.region ?_ | refine TC.seq ?_ | refine OL.nil ?_ | refine TX.thenN ?_ | refine TC.ret ?_ | refine TX.thenR ?_ | refine TX.blkR ?_ | fail)
        refine TX.rt1 [] (.bool ?_)
        rw [hfail]
        rw [drop_cons (by omega), okRow, hct]
        simp
      · repeat' (with_reducible first | refine OL.st ?_ | refine TC.region ?_ | refine OL.nil ?_ | refine TX.thenN ?_ | refine TC.skip ?_ | refine TX.blkN ?_ | fail)
        refine TX.rd (k + 1) [] ⟨by omega, ?_⟩ (by omega)
        rw [hki, drop_cons (by omega), take_succ (by omega)]
        rw [okRow, e1, e2, hct]
        rfl
    · refine TX.rd (i + 1) [] ⟨by omega, ?_⟩ (by omega)
      rw [hinv, hst, hki, drop_nil (by omega)]
      rfl
  · refine TX.rt1 [] (.bool ?_)
    rw [hfine, hinv, drop_nil (by omega)]
    rfl
theorem s_line_merge_1 (c h : Int) : V.Spec Tryz.prog Fc.line_merge_1 [V.int c, .ep [V.int h] 0] [] (V.bool (c != h)) [] := by
  refine V.Spec.enter Tryz.tabOK Tryz.mixed Fn.line_merge_1 rfl rfl rfl fun B hB => ?_
  repeat' (with_reducible first | refine OL.st ?_ | refine TC.region ?_ | refine TC.seq ?_ | refine OL.nil ?_ | refine TX.thenN ?_ | refine TC.ret ?_ | fail)
  refine TX.rt1 [] (.bool ?_)
  by_cases e : c = h <;> simp [e]
theorem free_step {all : List (List Int)} {k : Nat} {h : Int} (hk : k < all.length) : free (all.take (k + 1)) h = (free (all.take k) h && !(all[k].drop 1).contains h) := by
  rw [take_succ hk]; simp only [free, List.all_append, List.all_cons, List.all_nil, Bool.and_true]
theorem free_out {all : List (List Int)} {k : Nat} {h : Int} (hk : k < all.length) (hc : (all[k].drop 1).contains h = true) : free all h = false := by
  simp only [free, List.all_eq_false]
  exact ⟨all[k], List.getElem_mem hk, by simp only [hc]; simp⟩
set_option maxHeartbeats 2000000 in
theorem s_line_merge (all0 : List (List Int)) (hb : total all0 ≤ 1000000) (hb2 : all0.length ≤ 1000000) :
    V.Spec Tryz.prog Fc.line_merge [rows all0] [] (.tp [.hs 0, V.bool (merge all0).2]) [.gs false Tc.int 1 none ((merge all0).1.map V.int)] := by
  refine V.Spec.enter Tryz.tabOK Tryz.mixed Fn.line_merge rfl rfl rfl fun B hB => ?_
  repeat' (with_reducible first | refine OL.st ?_ | refine TC.region ?_ | refine TC.seq ?_ | refine OL.nil ?_ | refine TX.thenN ?_ | refine TC.block ?_ | refine TC.scope ?_ | refine TC.label ?_ | fail)
  refine TC.adp 4 Tc.int 1 ?_
  refine TC.lp (fun s : List (List Int) × List Int => [(0, rows s.1), (4, .hs 0)]) (fun s => [.gs false Tc.int 1 none (s.2.map V.int)]) (fun s => mergeF (total all0) all0 [] = mergeF (total s.1) s.1 s.2 ∧ s.1.length = all0.length ∧ s.2.length + total s.1 ≤ total all0) (fun s => total s.1) (all0, []) [0] ⟨rfl, rfl, by simp⟩ ?_
  rintro ⟨all, out⟩ ⟨hinv, hlen, htot⟩
  simp only at hinv hlen htot ⊢
  repeat' (with_reducible first | refine OL.st ?_ | refine TC.region ?_ | refine TC.seq ?_ | refine OL.nil ?_ | refine TX.thenN ?_ | refine TC.block ?_ | refine TC.scope ?_ | refine TC.label ?_ | fail)
  refine TC.lp (fun i : Nat => [(0, rows all), (4, .hs 0), (5, V.bool (anyNE (all.take i))), (14, rows all), (15, V.int all.length), (16, V.int i)]) (fun _ => [.gs false Tc.int 1 none (out.map V.int)])
    (fun i => i ≤ all.length ∧ nextOf all all = nextOf all (all.drop i)) (fun i => all.length - i) 0 [0] ⟨Nat.zero_le _, rfl⟩ ?_
  rintro i ⟨hi, hn⟩
  repeat' (with_reducible first | refine OL.st ?_ | refine TC.region ?_ | refine TC.seq ?_ | refine OL.nil ?_ | refine TX.thenN ?_ | refine TC.block ?_ | refine TC.skip ?_ | refine TC.exit ?_ | refine TX.hit ?_ | refine TX.thenX ?_ | refine TC.ifD ?_ ?_ <;> (intro hc; try (exfalso; omega)) | refine TC.ret ?_ | refine TX.thenR ?_ | refine TX.blkR ?_ | refine TX.ngR ?_ | fail)
  · have he : all[i] = [] := List.eq_nil_of_length_eq_zero (by omega)
    have e5 : anyNE (all.take (i + 1)) = anyNE (all.take i) := by rw [take_succ (by omega), anyNE_snoc, he]; simp
    exact TX.rd (i + 1) [0] ⟨by omega, by rw [hn, drop_cons (by omega), he, nextOf_nil]⟩ (by omega)
  · have h0 : 0 < all[i].length := by omega
    have hne : all[i] ≠ [] := fun e => by rw [e] at h0; simp at h0
    have hne' : all[i].isEmpty = false := by simpa using hne
    have e5 : true = anyNE (all.take (i + 1)) := by rw [take_succ (by omega), anyNE_snoc, hne']; simp
    refine TC.lp (fun k : Nat => [(0, rows all), (4, .hs 0), (5, V.bool true), (7, ints all[i]), (14, rows all), (15, V.int all.length), (16, V.int i), (23, rows all), (24, V.int all.length), (25, V.int k)]) (fun _ => [.gs false Tc.int 1 none (out.map V.int)])
      (fun k => k ≤ all.length ∧ free (all.take k) all[i][0] = true) (fun k => all.length - k) 0 [0] ⟨Nat.zero_le _, rfl⟩ ?_
    rintro k ⟨hk, hfr⟩
    repeat' (with_reducible first | refine OL.st ?_ | refine OL.alloc ?_ | refine OL.store ?_ | refine OL.lit ?_ | refine OL.appO ?_ | refine TC.region ?_ | refine TC.seq ?_ | refine OL.nil ?_ | refine TX.thenN ?_ | refine TC.block ?_ | refine TC.skip ?_ | refine TC.exit ?_ | refine TX.hit ?_ | refine TX.thenX ?_ | refine TC.ifD ?_ ?_ <;> (intro hc; try (exfalso; omega)) | fail)
    · have hkl : k < all.length := by omega
      (with_reducible refine TC.draw (id := 11) true 11 11 ?_ <;> refine OD.st 0 ?_ <;> refine OD.st 1 ?_ <;> refine OD.st 2 ?_ <;> refine OD.st 3 ?_ <;> refine OD.sD 32 ?_ ?_ <;> (intro hc; try (exfalso; omega)) <;> (first | (with_reducible refine OD.st 4 ?_) | (with_reducible refine OD.of 4 ?_)) <;> (first | refine OD.st 5 ?_ | refine OD.of 5 ?_) <;> (first | refine OD.st 6 ?_ | refine OD.of 6 ?_) <;> (first | refine OD.st 7 ?_ | refine OD.of 7 ?_) <;> (first | refine OD.st 8 ?_ | refine OD.of 8 ?_) <;> (first | refine OD.c1 9 (s_slices_Contains_Lint_int (all[k].drop 1) all[i][0]) Fn.slices_Contains_Lint_int ?_ | refine OD.of 9 ?_) <;> refine OD.st 10 ?_ <;> refine OD.dn ?_)
      · repeat' (first | (with_reducible refine TX.thenN ?_) | fail)
        refine TC.ifB (fun hct => ?_) (fun hct => ?_)
        · repeat' (with_reducible first | refine OL.st ?_ | refine TC.region ?_ | refine OL.nil ?_ | refine TX.thenN ?_ | refine TC.exit ?_ | refine TX.hit ?_ | refine TX.thenX ?_ | refine TX.miss ?_ rfl | fail)
          exact TX.rd (i + 1) [0] ⟨by omega, by rw [hn, drop_cons (by omega), nextOf_get_f h0 (free_out hkl hct)]⟩ (by omega)
        · repeat' (with_reducible first | refine OL.st ?_ | refine TC.region ?_ | refine OL.nil ?_ | refine TX.thenN ?_ | refine TC.skip ?_ | refine TX.blkN ?_ | fail)
          exact TX.rd (k + 1) [0] ⟨by omega, by rw [free_step hkl, hfr, hct]; rfl⟩ (by omega)
      · repeat' (with_reducible first | refine OL.st ?_ | refine TC.region ?_ | refine OL.nil ?_ | refine TX.thenN ?_ | refine TC.skip ?_ | refine TX.blkN ?_ | refine TC.ifF ?_ | fail)
        refine TX.rd (k + 1) [0] ⟨by omega, ?_⟩ (by omega)
        have he : all[k] = [] := List.eq_nil_of_length_eq_zero (by omega)
        rw [free_step hkl, hfr, he]; rfl
    · rw [take_all (by omega)] at hfr
      have hnx : nextOf all all = some all[i][0] := by rw [hn, drop_cons (by omega), nextOf_get_t h0 hfr]
      have hmn := merge_next (out := out) hnx
      obtain ⟨t, hmem, _⟩ := nextOf_mem all all _ hnx
      have htl := total_without_lt all _ t hmem
      have hin : all[i][0] ∈ (all[i][0] :: t) := by simp
      have hol : out.length ≤ 1000000 := by omega
      refine TC.adp 11 Tc.Lint 1 ?_
      refine TC.frzB 10 ?_
      refine TC.lp (fun j : Nat => [(4, .hs 0), (10, .ep [V.int all[i][0]] 0), (11, .hs 1), (48, rows all), (49, V.int all.length), (50, V.int j)]) (fun j => [.gs false Tc.int 1 none ((out ++ [all[i][0]]).map V.int), .gs false Tc.Lint 1 none (((all.take j).map (without · all[i][0])).map ints)]) (fun j => j ≤ all.length) (fun j => all.length - j) 0 [3, 4] (Nat.zero_le _) ?_
      rintro j hj
      have hlj : ∀ hl : j < all.length, all[j].length ≤ 1000000 := fun hl => Nat.le_trans (total_le (List.getElem_mem hl)) (by omega)
      repeat' (with_reducible first | refine OL.st ?_ | refine TC.region ?_ | refine TC.seq ?_ | refine OL.nil ?_ | refine TX.thenN ?_ | refine TC.block ?_ | refine TC.skip ?_ | refine TC.exit ?_ | refine TX.hit ?_ | refine TX.thenX ?_ | refine TX.miss ?_ rfl | refine TC.ifD ?_ ?_ <;> (intro hc; try (exfalso; omega)) | refine TX.ngX ?_ | fail)
      · refine OL.c (s_line_keep_int all[j] (fun c => c != all[i][0]) (by have := hlj (by omega); omega)) Fn.line_keep_int ?_ (hle := by exact ⟨.ren rfl, .fun_ (first' := []) (caps' := [.ep [V.int all[i][0]] 0]) Fn.line_merge_1 rfl trivial ⟨.ren rfl, trivial⟩ (fun c _ => s_line_merge_1 c all[i][0]), trivial⟩)
        repeat' (with_reducible first | refine OL.st ?_ | refine OL.litV ?_ | refine OL.lit ?_ | refine OL.appO ?_ | refine TC.region ?_ | refine OL.nil ?_ | refine TX.thenN ?_ | refine TX.blkN ?_ | fail)
        exact TX.rd (j + 1) [0, 4] (by omega) (by omega)
      · rw [take_all (by omega)]
        refine TX.vw 0 ?_
        refine TX.rd (all.map (without · all[i][0]), out ++ [all[i][0]]) [0] ⟨hinv.trans hmn, by simpa using hlen, ?_⟩ htl
        simp only [List.length_append, List.length_singleton]
        omega
  · have hn0 : nextOf all all = none := by rw [hn, drop_nil (by omega)]; rfl
    have hmn := merge_none (out := out) hn0
    rw [take_all (by omega)]
    rw [merge, hinv, hmn]
    exact TX.rt2 [0] (.ren rfl) (.ren rfl)
end Go.Proofs
namespace Go.Proofs
open Go Go.W Go.V
set_option maxHeartbeats 1000000 in
theorem s_ref03_merge (all0 : List (List Int)) (hb : total all0 ≤ 1000000) (hb2 : all0.length ≤ 1000000) (hpos : ∀ l ∈ all0, ∀ x ∈ l, 0 ≤ x) :
    V.Spec Tryz.prog Fc.ref03_merge [rows all0] [] (.tp [.hs 0, V.bool (merge all0).2]) [.gs false Tc.int 1 none ((merge all0).1.map V.int)] := by
  refine V.Spec.enter Tryz.tabOK Tryz.mixed Fn.ref03_merge rfl rfl rfl fun B hB => ?_
  repeat' (with_reducible first | refine OL.st ?_ | refine TC.region ?_ | refine TC.seq ?_ | refine OL.nil ?_ | refine TX.thenN ?_ | refine TC.block ?_ | fail)
  refine TC.adp 4 Tc.int 1 ?_
  refine TC.lp (fun s : List (List Int) × List Int => [(0, rows s.1), (4, .hs 0)]) (fun s => [.gs false Tc.int 1 none (s.2.map V.int)]) (fun s => mergeF (total all0) all0 [] = mergeF (total s.1) s.1 s.2 ∧ s.1.length = all0.length ∧ s.2.length + total s.1 ≤ total all0 ∧ (∀ l ∈ s.1, ∀ x ∈ l, 0 ≤ x)) (fun s => total s.1) (all0, []) [0] ⟨rfl, rfl, by simp, hpos⟩ ?_
  rintro ⟨all, out⟩ ⟨hinv, hlen, htot, hp⟩
  simp only at hinv hlen htot hp ⊢
  repeat' (with_reducible first | refine OL.st ?_ | refine TC.region ?_ | refine TC.seq ?_ | refine OL.nil ?_ | refine TX.thenN ?_ | refine TC.block ?_ | fail)
  refine TC.lp (fun s : Nat × Option Int × Bool => [(0, rows all), (4, .hs 0), (5, V.int (s.2.1.getD (-1))), (6, V.bool s.2.2), (7, V.int s.1)]) (fun _ => [.gs false Tc.int 1 none (out.map V.int)])
    (fun s => s.1 ≤ all.length ∧ (s.2.1 = none → nextOf all all = nextOf all (all.drop s.1) ∧ s.2.2 = anyNE (all.take s.1)) ∧ (∀ h, s.2.1 = some h → nextOf all all = some h ∧ 0 ≤ h)) (fun s => all.length - s.1) (0, none, false) [0] ⟨Nat.zero_le _, fun _ => ⟨rfl, rfl⟩, fun h e => (by cases e)⟩ ?_
  rintro ⟨i, f, lf⟩ ⟨hi, hnone, hsome⟩
  simp only at hi hnone hsome ⊢
  cases f with
  | some h =>
    obtain ⟨hn, h0⟩ := hsome h rfl
    simp only [Option.getD_some]
    have hmn := merge_next (out := out) hn
    obtain ⟨t, hmem, _⟩ := nextOf_mem all all h hn
    have htl := total_without_lt all h t hmem
    have hin : h ∈ (h :: t) := by simp
    clear hsome hnone
    have hol : out.length ≤ 1000000 := by omega
    repeat' (with_reducible first | refine OL.st ?_ | refine OL.lit ?_ | refine OL.appO ?_ | refine TC.region ?_ | refine TC.seq ?_ | refine OL.nil ?_ | refine TX.thenN ?_ | refine TC.block ?_ | refine TC.skip ?_ | refine TC.exit ?_ | refine TX.hit ?_ | refine TX.thenX ?_ | refine TC.ifF ?_ | refine OL.gOn ?_ | refine OL.gOff ?_ | refine TC.ifD ?_ ?_ <;> (intro hc; try (exfalso; omega)) | refine OL.gD ?_ ?_ <;> (intro hc; try (exfalso; omega)) | fail)
    all_goals
      refine TC.adp 8 Tc.Lint 1 ?_
      refine TC.lp (fun j : Nat => [(0, rows all), (4, .hs 0), (5, V.int h), (8, .hs 1), (9, V.int j)]) (fun j => [.gs false Tc.int 1 none ((out ++ [h]).map V.int), .gs false Tc.Lint 1 none (((all.take j).map (without · h)).map ints)]) (fun j => j ≤ all.length) (fun j => all.length - j) 0 [2, 3] (Nat.zero_le _) ?_
      rintro j hj
      have hlj : ∀ hl : j < all.length, all[j].length ≤ 1000000 := fun hl => Nat.le_trans (total_le (List.getElem_mem hl)) (by omega)
      repeat' (with_reducible first | refine OL.st ?_ | refine TC.region ?_ | refine TC.seq ?_ | refine OL.nil ?_ | refine TX.thenN ?_ | refine TC.block ?_ | refine TC.skip ?_ | refine TX.blkN ?_ | refine TC.exit ?_ | refine TX.hit ?_ | refine TX.thenX ?_ | refine TC.ifD ?_ ?_ <;> (intro hc; try (exfalso; omega)) | fail)
      · refine OL.c (s_ref03_without all[j] h (by have := hlj (by omega); omega)) Fn.ref03_without ?_
        repeat' (with_reducible first | refine OL.st ?_ | refine OL.litV ?_ | refine OL.lit ?_ | refine OL.appO ?_ | refine TC.region ?_ | refine OL.nil ?_ | refine TX.thenN ?_ | refine TX.blkN ?_ | fail)
        exact TX.rd (j + 1) [0, 4] (by omega) (by omega)
      · rw [take_all (by omega)]
        refine TX.vw 0 ?_
        refine TX.rd (all.map (without · h), out ++ [h]) [0] ⟨hinv.trans hmn, by simpa using hlen, ?_, ?_⟩ htl
        · simp only [List.length_append, List.length_singleton]
          omega
        · intro l hl' x hx
          obtain ⟨l0, hl0', rfl⟩ := List.mem_map.1 hl'
          exact hp l0 hl0' x (mem_without.1 hx).1
  | none =>
    obtain ⟨hn, hlf⟩ := hnone rfl
    simp only [Option.getD_none]
    clear hsome hnone
    refine TC.bl 0 fun hla => ?_
    repeat' (with_reducible first | refine OL.st ?_ | refine TC.region ?_ | refine TC.seq ?_ | refine OL.nil ?_ | refine TX.thenN ?_ | refine TC.block ?_ | refine TC.skip ?_ | refine TX.blkN ?_ | refine TC.exit ?_ | refine TX.hit ?_ | refine TX.thenX ?_ | refine TC.ifT ?_ | refine TC.ifF ?_ | refine OL.gOn ?_ | refine OL.gOff ?_ | refine TC.ifD ?_ ?_ <;> (intro hc; try (exfalso; omega)) | refine OL.gD ?_ ?_ <;> (intro hc; try (exfalso; omega)) | refine TC.ret ?_ | refine TX.thenR ?_ | refine TX.blkR ?_ | fail)
    · refine OL.c (s_ref03_free all all[i][0]) Fn.ref03_free ?_
      have hne : all[i] ≠ [] := fun e => by rw [e] at hc; simp at hc
      have hne' : all[i].isEmpty = false := by simpa using hne
      repeat' (first | (with_reducible refine OL.nil ?_) | (with_reducible refine TX.thenN ?_) | fail)
      refine TC.ifB (fun hf => ?_) (fun hf => ?_)
      · repeat' (with_reducible first | refine OL.st ?_ | refine TC.region ?_ | refine OL.nil ?_ | refine TX.thenN ?_ | refine TX.blkN ?_ | fail)
        refine TX.rd (i + 1, some all[i][0], true) [0] ⟨by simp only; omega, fun e => (by cases e), fun h e => ?_⟩ (by simp only; omega)
        cases e
        refine ⟨?_, hp _ (List.getElem_mem _) _ (List.getElem_mem _)⟩
        rw [hn, drop_cons (by omega), nextOf_get_t (by omega) hf]
      · repeat' (with_reducible first | refine OL.st ?_ | refine TC.region ?_ | refine OL.nil ?_ | refine TX.thenN ?_ | refine TC.skip ?_ | refine TX.blkN ?_ | fail)
        refine TX.rd (i + 1, none, true) [0] ⟨by simp only; omega, fun _ => ⟨?_, ?_⟩, fun h e => (by cases e)⟩ (by simp only; omega)
        · rw [hn, drop_cons (by omega), nextOf_get_f (by omega) hf]
        · simp only
          rw [take_succ (by omega), anyNE_snoc]
          simp [hne']
    · have he : all[i] = [] := List.eq_nil_of_length_eq_zero (by omega)
      refine TX.rd (i + 1, none, lf) [0] ⟨by simp only; omega, fun _ => ⟨?_, ?_⟩, fun h e => (by cases e)⟩ (by simp only; omega)
      · rw [hn, drop_cons (by omega), he, nextOf_nil]
      · simp only
        rw [take_succ (by omega), anyNE_snoc, he, hlf]
        simp
    · have hn0 : nextOf all all = none := by rw [hn, drop_nil (by omega)]; rfl
      have hmn := merge_none (out := out) hn0
      rw [take_all (by omega)] at hlf
      rw [merge, hinv, hmn, hlf]
      exact TX.rt2 [0] (.ren rfl) (.ren rfl)
end Go.Proofs
namespace Go.Proofs
open Go Go.W Go.V
def lsR : Option (List (List Int)) → AV
  | some _ => .tp [.hs 0, V.bool true]
  | none => .tp [ints [], V.bool false]
def lsE : Option (List (List Int)) → V.Eta
  | some all => [.gs false Tc.Lint 1 none (all.map ints)]
  | none => []
set_option maxHeartbeats 1000000 in
theorem s_ref03_lists (g ords : List (List Int)) (c : Int) (h0 : 0 ≤ c) (h1 : c < 3 + (g.length : Int)) (hb : g.length ≤ 1000000)
    (hps : ∀ p ∈ pOf g c, 0 ≤ p ∧ p < ords.length) (hol : ∀ o ∈ ords, o.length ≤ 1000000) (hpl : (pOf g c).length ≤ 1000000) :
    V.Spec Tryz.prog Fc.ref03_lists [rows g, rows ords, V.int c] [] (lsR (listsOf ords (pOf g c))) (lsE (listsOf ords (pOf g c))) := by
  refine V.Spec.enter Tryz.tabOK Tryz.mixed Fn.ref03_lists rfl rfl rfl fun B hB => ?_
  repeat' (with_reducible first | refine OL.st ?_ | refine TC.region ?_ | refine TC.seq ?_ | refine OL.nil ?_ | refine TX.thenN ?_ | fail)
  refine OL.c (s_ref03_parents g c h0 h1 (by omega)) Fn.ref03_parents ?_
  repeat' (with_reducible first | refine OL.st ?_ | refine TC.region ?_ | refine TC.seq ?_ | refine OL.nil ?_ | refine TX.thenN ?_ | refine TC.block ?_ | fail)
  generalize hpe : pOf g c = ps at *
  refine TC.adp 8 Tc.Lint 1 ?_
  refine TC.lp (fun i : Nat => [(1, rows ords), (8, .hs 0), (9, ints ps), (10, V.int i)]) (fun i => [.gs false Tc.Lint 1 none (((ps.take i).map fun p => bare (at_ ords p)).map ints)]) (fun i => i ≤ ps.length ∧ (ps.take i).all (fun p => !(at_ ords p).isEmpty) = true) (fun i => ps.length - i) 0 [0] ⟨Nat.zero_le _, rfl⟩ ?_
  rintro i ⟨hi, hall⟩
  by_cases hlt : i < ps.length
  · have hpi := hps ps[i] (List.getElem_mem _)
    have hpt : ps[i].toNat < ords.length := by omega
    have hat : at_ ords ps[i] = ords[ps[i].toNat] := by rw [at_, getD_lt hpt]
    have hlo := hol _ (List.getElem_mem hpt)
    repeat' (with_reducible first | refine OL.st ?_ | refine TC.region ?_ | refine TC.seq ?_ | refine OL.nil ?_ | refine TX.thenN ?_ | refine TC.block ?_ | refine TC.skip ?_ | refine TC.ifD ?_ ?_ <;> (intro hc; try (exfalso; omega)) | refine TC.ret ?_ | refine TX.thenR ?_ | refine TX.blkR ?_ | fail)
    · have he : at_ ords ps[i] = [] := by rw [hat]; exact List.eq_nil_of_length_eq_zero (by omega)
      have : listsOf ords ps = none := by
        rw [listsOf, if_neg]
        intro h
        have := List.all_eq_true.1 h ps[i] (List.getElem_mem _)
        rw [he] at this
        cases this
      rw [this]
      exact TX.rt2 [] (.nil (by decide)) (.ren rfl)
    · have hne : (at_ ords ps[i]).isEmpty = false := by
        rw [hat]
        cases hq : ords[ps[i].toNat] with
        | nil => rw [hq] at hc; simp at hc
        | cons _ _ => rfl
      refine OL.c (s_ref03_without (ords[ps[i].toNat]) 0 (by omega)) Fn.ref03_without ?_
      repeat' (with_reducible first | refine OL.st ?_ | refine OL.litV ?_ | refine OL.lit ?_ | refine OL.appO ?_ | refine TC.region ?_ | refine OL.nil ?_ | refine TX.thenN ?_ | refine TX.blkN ?_ | fail)
      have e : (((ps.take i).map fun p => bare (at_ ords p)).map ints) ++ [ints (without ords[ps[i].toNat] 0)] = (((ps.take (i + 1)).map fun p => bare (at_ ords p)).map ints) := by
        rw [take_succ hlt]; simp only [List.map_append, List.map_cons, List.map_nil, hat]; rfl
      refine TX.rd (i + 1) [3] ⟨by omega, ?_⟩ (by omega)
      rw [take_succ hlt, List.all_append, hall]
      simp [hne]
  · repeat' (with_reducible first | refine OL.st ?_ | refine OL.lit ?_ | refine OL.appO ?_ | refine TC.region ?_ | refine TC.seq ?_ | refine OL.nil ?_ | refine TX.thenN ?_ | refine TC.exit ?_ | refine TX.hit ?_ | refine TX.thenX ?_ | refine TC.ifD ?_ ?_ <;> (intro hc; try (exfalso; omega)) | refine TC.ret ?_ | fail)
    rw [take_all (by omega)] at hall ⊢
    rw [listsOf, if_pos hall]
    exact TX.rt2 [2] (.ren rfl) (.ren rfl)
set_option maxHeartbeats 1000000 in
theorem s_ref03_OrdersOf (g : List (List Int)) (hf : fine g = true) : V.Spec Tryz.prog Fc.ref03_OrdersOf [rows g] [] (.hs 0) [.gs true Tc.Lint 1 none ((orders g).map ints)] := by
  refine V.Spec.enter Tryz.tabOK Tryz.mixed Fn.ref03_OrdersOf rfl rfl rfl fun B hB => ?_
  have h16 := fine_len hf
  repeat' (with_reducible first | refine OL.st ?_ | refine OL.litV ?_ | refine OL.lit ?_ | refine TC.region ?_ | refine TC.seq ?_ | refine OL.nil ?_ | refine TX.thenN ?_ | refine TC.block ?_ | fail)
  refine TC.frz 1 ?_
  refine TC.lp (fun s : Nat × List (List Int) => [(0, rows g), (3, .hs 0), (4, V.int s.1)]) (fun s => [.gs true Tc.Lint 1 none (s.2.map ints)]) (fun s => s.2.length = s.1 ∧ 0 < s.1 ∧ s.1 ≤ 3 + g.length ∧ orders g = ordersF s.2 ((parentsOf g).drop s.1) ∧ OrdOK s.2) (fun s => 3 + g.length - s.1) (1, [[0]]) [1] ⟨rfl, Nat.one_pos, Nat.le_add_right_of_le (by omega), rfl, OrdOK.start⟩ ?_
  rintro ⟨c, acc⟩ ⟨hal, hc0, hcl, hord, hok⟩
  simp only at hal hc0 hcl hord hok ⊢
  have hsm := hok.small (by omega)
  by_cases hlt : c < 3 + g.length
  · obtain ⟨hp1, hp2, hp3⟩ := fine_pOf hf (c := (c : Int)) (by omega)
    rw [parentsOf_drop hlt, ordersF_cons] at hord
    have hok' := orderOf_ok (ps := pOf g c) hok (fun p hp => by have := hp2 p hp; omega) (by omega)
    have hs := s_ref03_lists g acc c (by omega) (by omega) (by omega) (fun p hp => by have := hp2 p hp; omega) (fun o ho => by have := hsm o ho; omega) (by omega)
    cases hls : listsOf acc (pOf g c) with
    | none =>
      have ho : orderOf acc (pOf g c) acc.length = [] := by rw [orderOf, hls]
      rw [ho] at hord hok'
      rw [hls] at hs
      simp only [lsR, lsE] at hs
      repeat' (with_reducible first | refine OL.st ?_ | refine TC.region ?_ | refine TC.seq ?_ | refine OL.nil ?_ | refine TX.thenN ?_ | refine TC.block ?_ | refine TC.skip ?_ | refine TC.ifD ?_ ?_ <;> (intro hc; try (exfalso; omega)) | fail)
      refine OL.vwA 1 ?_
      refine OL.c hs Fn.ref03_lists ?_
      repeat' (with_reducible first | refine OL.st ?_ | refine OL.litN ?_ | refine OL.lit ?_ | refine OL.appO ?_ | refine TC.region ?_ | refine TC.seq ?_ | refine OL.nil ?_ | refine TX.thenN ?_ | refine TC.skip ?_ | refine TX.blkN ?_ | refine TC.ifF ?_ | fail)
      exact TX.rd (c + 1, acc ++ [[]]) [2] ⟨by simp [hal], by simp only; omega, by simp only; omega, hord, hok.snoc hok'⟩ (by simp only; omega)
    | some all =>
      obtain ⟨hb1, hb2, hb3⟩ := listsOf_bounds hls hok (by omega) (by omega) (fun p hp => by have := hp2 p hp; omega)
      rw [hls] at hs
      simp only [lsR, lsE] at hs
      have hml := merge_length all
      have ho : orderOf acc (pOf g c) acc.length = if (merge all).2 then (acc.length : Int) :: ((merge all).1 ++ [0]) else [] := by rw [orderOf, hls]
      repeat' (with_reducible first | refine OL.st ?_ | refine TC.region ?_ | refine TC.seq ?_ | refine OL.nil ?_ | refine TX.thenN ?_ | refine TC.block ?_ | refine TC.skip ?_ | refine TC.ifD ?_ ?_ <;> (intro hc; try (exfalso; omega)) | fail)
      refine OL.vwA 1 ?_
      refine OL.c hs Fn.ref03_lists ?_
      repeat' (with_reducible first | refine OL.st ?_ | refine TC.region ?_ | refine TC.seq ?_ | refine OL.nil ?_ | refine TX.thenN ?_ | refine TC.ifT ?_ | fail)
      refine OL.vwA 0 ?_
      refine OL.c (s_ref03_merge all (by omega) (by omega) hb3) Fn.ref03_merge ?_
      repeat' (with_reducible first | refine OL.st ?_ | refine TC.region ?_ | refine TC.seq ?_ | refine OL.nil ?_ | refine TX.thenN ?_ | fail)
      refine TC.ifB (fun hmb => ?_) (fun hmb => ?_)
      · rw [hmb] at ho
        simp only [if_true] at ho
        rw [ho, hal] at hord hok'
        repeat' (with_reducible first | refine OL.st ?_ | refine OL.litV ?_ | refine OL.lit ?_ | refine OL.appO ?_ | refine TC.region ?_ | refine OL.nil ?_ | refine TX.thenN ?_ | refine TX.blkN ?_ | fail)
        exact TX.rd (c + 1, acc ++ [(c : Int) :: ((merge all).1 ++ [0])]) [8] ⟨by simp [hal], by simp only; omega, by simp only; omega, hord, hok.snoc (by rw [hal]; exact hok')⟩ (by simp only; omega)
      · rw [hmb] at ho
        simp only [Bool.false_eq_true, if_false] at ho
        rw [ho] at hord hok'
        repeat' (with_reducible first | refine OL.st ?_ | refine OL.litN ?_ | refine OL.lit ?_ | refine OL.appO ?_ | refine TC.region ?_ | refine OL.nil ?_ | refine TX.thenN ?_ | refine TC.skip ?_ | refine TX.blkN ?_ | fail)
        exact TX.rd (c + 1, acc ++ [[]]) [4] ⟨by simp [hal], by simp only; omega, by simp only; omega, hord, hok.snoc hok'⟩ (by simp only; omega)
  · repeat' (with_reducible first | refine OL.st ?_ | refine TC.region ?_ | refine TC.seq ?_ | refine OL.nil ?_ | refine TX.thenN ?_ | refine TC.exit ?_ | refine TX.hit ?_ | refine TX.thenX ?_ | refine TC.ifD ?_ ?_ <;> (intro hc; try (exfalso; omega)) | refine TC.ret ?_ | fail)
    rw [hord, drop_nil (by rw [parentsOf_length]; omega)]
    exact TX.rt1 [0] (.ren rfl)
end Go.Proofs
namespace Go.Proofs
open Go Go.W Go.V
set_option maxHeartbeats 2000000 in
theorem s_ref03_Good (g : List (List Int)) : V.Spec Tryz.prog Fc.ref03_Good [rows g] [] (V.bool (fine g)) [] := by
  refine V.Spec.enter Tryz.tabOK Tryz.mixed Fn.ref03_Good rfl rfl rfl fun B hB => ?_
  refine TC.bl 0 fun hlen => ?_
  repeat' (with_reducible first | refine OL.st ?_ | refine TC.region ?_ | refine TC.seq ?_ | refine OL.nil ?_ | refine TX.thenN ?_ | refine TC.block ?_ | refine TC.skip ?_ | refine TC.ifD ?_ ?_ <;> (intro hc; try (exfalso; omega)) | refine TC.ret ?_ | refine TX.thenR ?_ | fail)
  · refine TX.rt1 [] (.bool ?_)
    have : decide (g.length ≤ 16) = false := by simp; omega
    simp [fine, this]
  have hfine : fine g = okRows 0 g := by
    have : decide (g.length ≤ 16) = true := by simp; omega
    simp [fine, this]
  have h16 : g.length ≤ 16 := by omega
  refine TC.lp (fun i : Nat => [(0, rows g), (3, V.int i)]) (fun _ => []) (fun i => i ≤ g.length ∧ okRows 0 g = okRows i (g.drop i)) (fun i => g.length - i) 0 [] ⟨Nat.zero_le _, rfl⟩ ?_
  rintro i ⟨hi, hinv⟩
  by_cases hlt : i < g.length
  · have hst : ∀ b, okRow i [] g[i] = b → g[i].length ≤ 3 → okRows i (g.drop i) = (b && okRows (i + 1) (g.drop (i + 1))) := by
      intro b hb h3
      rw [drop_cons hlt]
      have : decide (g[i].length ≤ 3) = true := by simp; omega
      simp [okRows, this, hb]
    repeat' (with_reducible first | refine OL.st ?_ | refine TC.region ?_ | refine TC.seq ?_ | refine OL.nil ?_ | refine TX.thenN ?_ | refine TC.block ?_ | refine TC.skip ?_ | refine TC.ifD ?_ ?_ <;> (intro hc; try (exfalso; omega)) | refine TC.ret ?_ | refine TX.thenR ?_ | refine TX.blkR ?_ | fail)
    · refine TX.rt1 [] (.bool ?_)
      rw [hfine, hinv, drop_cons hlt]
      have : decide (g[i].length ≤ 3) = false := by simp; omega
      simp [okRows, this]
    · have hr3 : g[i].length ≤ 3 := by omega
      refine TC.lp (fun k : Nat => [(0, rows g), (3, V.int i), (4, V.int k)]) (fun _ => []) (fun k => k ≤ g[i].length ∧ okRow i [] g[i] = okRow i (g[i].take k) (g[i].drop k)) (fun k => g[i].length - k) 0 [] ⟨Nat.zero_le _, rfl⟩ ?_
      rintro k ⟨hk, hki⟩
      have hfail : okRow i (g[i].take k) (g[i].drop k) = false → fine g = false := fun hb => by rw [hfine, hinv, hst _ (hki.trans hb) hr3]; rfl
      repeat' (with_reducible first | refine OL.st ?_ | refine TC.region ?_ | refine TC.seq ?_ | refine OL.nil ?_ | refine TX.thenN ?_ | refine TC.block ?_ | refine TC.skip ?_ | refine TX.blkN ?_ | refine TC.exit ?_ | refine TX.hit ?_ | refine TX.thenX ?_ | refine TC.ifD ?_ ?_ <;> (intro hc; try (exfalso; omega)) | fail)
      · have hkl : k < g[i].length := by omega
        (with_reducible refine TC.draw (id := 11) true 36 36 ?_ <;> refine OD.st 0 ?_ <;> refine OD.st 1 ?_ <;> refine OD.st 2 ?_ <;> refine OD.st 3 ?_ <;> refine OD.st 4 ?_ <;> refine OD.st 5 ?_ <;> refine OD.st 6 ?_ <;> refine OD.st 7 ?_ <;> refine OD.st 8 ?_ <;> refine OD.sD 37 ?_ ?_ <;> (intro hc; try (exfalso; omega)) <;> (first | (with_reducible refine OD.st 9 ?_) | (with_reducible refine OD.of 9 ?_)) <;> (first | refine OD.st 10 ?_ | refine OD.of 10 ?_) <;> (first | refine OD.st 11 ?_ | refine OD.of 11 ?_) <;> (first | refine OD.st 12 ?_ | refine OD.of 12 ?_) <;> (first | refine OD.st 13 ?_ | refine OD.of 13 ?_) <;> (first | refine OD.st 14 ?_ | refine OD.of 14 ?_) <;> (first | refine OD.st 15 ?_ | refine OD.of 15 ?_) <;> (first | refine OD.st 16 ?_ | refine OD.of 16 ?_) <;> (first | refine OD.st 17 ?_ | refine OD.of 17 ?_) <;> (first | refine OD.st 18 ?_ | refine OD.of 18 ?_) <;> refine OD.st 19 ?_ <;> refine OD.st 20 ?_ <;> (first | refine OD.of 21 ?_ | refine OD.sD 49 ?_ ?_ <;> (intro hc; try (exfalso; omega)) <;> (first | (with_reducible refine OD.st 21 ?_) | (with_reducible refine OD.of 21 ?_))) <;> (first | refine OD.st 22 ?_ | refine OD.of 22 ?_) <;> (first | refine OD.st 23 ?_ | refine OD.of 23 ?_) <;> (first | refine OD.st 24 ?_ | refine OD.of 24 ?_) <;> (first | refine OD.st 25 ?_ | refine OD.of 25 ?_) <;> (first | refine OD.st 26 ?_ | refine OD.of 26 ?_) <;> (first | refine OD.st 27 ?_ | refine OD.of 27 ?_) <;> (first | refine OD.st 28 ?_ | refine OD.of 28 ?_) <;> (first | refine OD.st 29 ?_ | refine OD.of 29 ?_) <;> (first | refine OD.st 30 ?_ | refine OD.of 30 ?_) <;> (first | refine OD.st 31 ?_ | refine OD.of 31 ?_) <;> (first | refine OD.st 32 ?_ | refine OD.of 32 ?_) <;> (first | refine OD.st 33 ?_ | refine OD.of 33 ?_) <;> (first | refine OD.c1 34 (s_ref03_Has (g[i].take k) g[i][k]) Fn.ref03_Has ?_ | refine OD.of 34 ?_) <;> refine OD.st 35 ?_ <;> refine OD.dn ?_)
        · repeat' (with_reducible first | refine OL.st ?_ | refine TC.region ?_ | refine TC.seq ?_ | refine OL.nil ?_ | refine TX.thenN ?_ | refine TC.ifT ?_ | refine TC.ret ?_ | refine TX.thenR ?_ | refine TX.blkR ?_ | fail)
          refine TX.rt1 [] (.bool ?_)
          rw [hfail]
          rw [drop_cons hkl]; simp only [okRow]
          rw [decide_eq_false (by omega : ¬ 3 ≤ g[i][k])]; rfl
        · repeat' (with_reducible first | refine OL.st ?_ | refine TC.region ?_ | refine TC.seq ?_ | refine OL.nil ?_ | refine TX.thenN ?_ | refine TC.ifT ?_ | refine TC.ret ?_ | refine TX.thenR ?_ | refine TX.blkR ?_ | fail)
          refine TX.rt1 [] (.bool ?_)
          rw [hfail]
          rw [drop_cons hkl]; simp only [okRow]
          rw [decide_eq_false (by omega : ¬ g[i][k] < 3 + (i : Int))]; simp
        · repeat' (first | (with_reducible refine TX.thenN ?_) | fail)
          refine TC.ifB (fun hct => ?_) (fun hct => ?_)
          · repeat' (with_reducible first | refine OL.st ?_ | refine TC.region ?_ | refine TC.seq ?_ | refine OL.nil ?_ | refine TX.thenN ?_ | refine TC.ret ?_ | refine TX.thenR ?_ | refine TX.blkR ?_ | fail)
            refine TX.rt1 [] (.bool ?_)
            rw [hfail]
            rw [drop_cons hkl]; simp only [okRow]
            rw [hct]; simp
          · have hs1 : okRow i (g[i].take k) (g[i].drop k) = okRow i (g[i].take (k + 1)) (g[i].drop (k + 1)) := by
              rw [drop_cons hkl, take_succ hkl]; simp only [okRow]
              rw [decide_eq_true (by omega : 3 ≤ g[i][k]), decide_eq_true (by omega : g[i][k] < 3 + (i : Int)), hct]; simp
            repeat' (with_reducible first | refine OL.st ?_ | refine TC.region ?_ | refine OL.nil ?_ | refine TX.thenN ?_ | refine TC.skip ?_ | refine TX.blkN ?_ | fail)
            exact TX.rd (k + 1) [] ⟨by omega, hki.trans hs1⟩ (by omega)
      · refine TX.rd (i + 1) [] ⟨by omega, ?_⟩ (by omega)
        rw [hinv, hst _ hki hr3, drop_nil (l := g[i]) (by omega)]
        rfl
  · repeat' (with_reducible first | refine OL.st ?_ | refine TC.region ?_ | refine TC.seq ?_ | refine OL.nil ?_ | refine TX.thenN ?_ | refine TC.exit ?_ | refine TX.hit ?_ | refine TX.thenX ?_ | refine TC.ifD ?_ ?_ <;> (intro hc; try (exfalso; omega)) | refine TC.ret ?_ | fail)
    refine TX.rt1 [] (.bool ?_)
    rw [hfine, hinv, drop_nil (by omega)]
    rfl
theorem s_ref03_LinOf (g : List (List Int)) (c : Int) (hf : fine g = true) (h0 : 0 ≤ c) (h1 : c < 3 + (g.length : Int)) : V.Spec Tryz.prog Fc.ref03_LinOf [rows g, V.int c] [] (.tp [ints (at_ (orders g) c), V.bool (decide (0 < (at_ (orders g) c).length))]) [] := by
  refine V.Spec.enter Tryz.tabOK Tryz.mixed Fn.ref03_LinOf rfl rfl rfl fun B hB => ?_
  have hol := (orders_ok hf).2
  have hlt : c.toNat < (orders g).length := by omega
  rw [at_, getD_lt hlt]
  repeat' (with_reducible first | refine OL.st ?_ | refine TC.region ?_ | refine TC.seq ?_ | refine OL.nil ?_ | refine TX.thenN ?_ | fail)
  refine OL.c (s_ref03_OrdersOf g hf) Fn.ref03_OrdersOf ?_
  repeat' (with_reducible first | refine OL.st ?_ | refine TC.region ?_ | refine TC.seq ?_ | refine OL.nil ?_ | refine TX.thenN ?_ | refine TC.ret ?_ | fail)
  refine TX.rt2 [] (.ren rfl) (.bool ?_)
  simp
def okc (g : List (List Int)) (c : Int) : Bool := fine g && (decide (0 ≤ c) && decide (c < 3 + (g.length : Int)))
def linL (g : List (List Int)) (c : Int) : List Int := if okc g c then at_ (orders g) c else []
def linE (g : List (List Int)) (c : Int) : Int := if okc g c then (if (at_ (orders g) c).length = 0 then 7 else 0) else 2
end Go.Proofs
namespace Go.Proofs
open Go Go.W Go.V
def omapF : Nat → List (List Int) → List (Int × AV)
  | _, [] => []
  | c, o :: r => (if o.isEmpty then [] else [((c : Int), ints o)]) ++ omapF (c + 1) r
def omap (ords : List (List Int)) : List (Int × AV) := omapF 0 ords
theorem omapF_snoc : ∀ (l : List (List Int)) (c : Nat) (o : List Int), omapF c (l ++ [o]) = omapF c l ++ (if o.isEmpty then [] else [(((c + l.length : Nat) : Int), ints o)])
  | [], c, o => by simp [omapF]
  | p :: r, c, o => by
    simp only [List.cons_append, omapF, omapF_snoc r (c + 1) o, List.append_assoc, List.length_cons]
    rw [show c + 1 + r.length = c + (r.length + 1) by omega]
theorem omap_snoc (l : List (List Int)) (o : List Int) : omap (l ++ [o]) = omap l ++ (if o.isEmpty then [] else [((l.length : Int), ints o)]) := by
  rw [omap, omapF_snoc]; simp [omap]
theorem afind_app (k : Int) : ∀ (a b : List (Int × AV)), afind k (a ++ b) = (afind k a).or (afind k b)
  | [], b => by simp [afind]
  | p :: r, b => by
    simp only [List.cons_append, afind]
    cases h : k == p.1
    · simpa using afind_app k r b
    · simp
theorem afind_omapF : ∀ (l : List (List Int)) (c : Nat) (k : Int), (c : Int) ≤ k → afind k (omapF c l) = if (l.getD (k - c).toNat []).isEmpty then none else some (ints (l.getD (k - c).toNat []))
  | [], c, k, _ => by simp [omapF, afind]
  | o :: r, c, k, h => by
    simp only [omapF, afind_app]
    by_cases e : k = c
    · subst e
      simp only [Int.sub_self, Int.toNat_zero, List.getD_cons_zero]
      cases ho : o.isEmpty
      · simp [afind]
      · have hlow : ∀ (r : List (List Int)) (n : Nat) (k : Int), k < n → afind k (omapF n r) = none := by
          intro r
          induction r with
          | nil => intro n k _; rfl
          | cons p r ih =>
            intro n k hk
            simp only [omapF, afind_app, ih (n + 1) k (by omega), Option.or_none]
            split
            · rfl
            · simp only [afind]
              rw [if_neg (by simp; omega)]
        simp [afind, hlow r (c + 1) c (by omega)]
    · have h1 : (c : Int) + 1 ≤ k := by omega
      have := afind_omapF r (c + 1) k (by omega)
      rw [this]
      have e2 : (k - c).toNat = (k - ((c + 1 : Nat) : Int)).toNat + 1 := by omega
      rw [e2, List.getD_cons_succ]
      have e3 : afind k (if o.isEmpty then [] else [((c : Int), ints o)]) = none := by
        split
        · rfl
        · simp only [afind]; rw [if_neg (by simp; omega)]
      rw [e3]; rfl
theorem afind_omap (ords : List (List Int)) (k : Int) (h : 0 ≤ k) : afind k (omap ords) = if (at_ ords k).isEmpty then none else some (ints (at_ ords k)) := by
  have := afind_omapF ords 0 k (by omega)
  simpa [omap, at_] using this
theorem look_omap (ords : List (List Int)) (k : Int) (h : 0 ≤ k) : afind k (omap ords) = some (ints (at_ ords k)) ∨ (afind k (omap ords) = none ∧ ∀ m w γ, Rep m w γ (.slice none 0 0) (ints (at_ ords k))) := by
  rw [afind_omap ords k h]
  cases he : at_ ords k with
  | nil => exact .inr ⟨rfl, fun m w γ => .nil nofun⟩
  | cons a r => exact .inl rfl
theorem new_omap (ords : List (List Int)) (k : Int) (h : (ords.length : Int) ≤ k) : afind k (omap ords) = none := by
  rw [afind_omap ords k (by omega)]
  have : at_ ords k = [] := by unfold at_; rw [List.getD_eq_getElem?_getD, List.getElem?_eq_none (by omega)]; rfl
  rw [this]; rfl
abbrev sets (us : List Nat) : AV := .sl 1 none (us.map setA)
abbrev graphO (pss : List (List Int)) (us : List Nat) (k : Nat) : AO := .cb Tc.line_graph [rows pss, sets us, .mp k]
set_option maxHeartbeats 1000000 in
theorem s_line_graph_lists (pss : List (List Int)) (us : List Nat) (ords : List (List Int)) (c : Nat) (hc : c < pss.length)
    (hps : ∀ p ∈ pss[c], 0 ≤ p) (hol : ∀ o ∈ ords, o.length ≤ 1000000) (hpl : pss[c].length ≤ 1000000) :
    V.Spec Tryz.prog Fc.line_graph_lists [.bp 0 0, V.int c] [graphO pss us 1, .mo (omap ords)] (.tp [rows ((listsOf ords pss[c]).getD []), V.bool (listsOf ords pss[c]).isSome]) [graphO pss us 1, .mo (omap ords)] := by
  refine V.Spec.enter Tryz.tabOK Tryz.mixed Fn.line_graph_lists rfl rfl rfl fun B hB => ?_
  repeat' (with_reducible first | refine OL.st ?_ | refine TC.region ?_ | refine TC.seq ?_ | refine OL.nil ?_ | refine TX.thenN ?_ | refine TC.block ?_ | fail)
  generalize hpe : pss[c] = ps at *
  refine TC.adp 6 Tc.Lint 1 ?_
  refine TC.lp (fun i : Nat => [(0, .bp 0 0), (1, V.int c), (6, .hs 2), (15, ints ps), (16, V.int ps.length), (17, V.int i)]) (fun i => [graphO pss us 1, .mo (omap ords), .gs false Tc.Lint 1 none (((ps.take i).map fun p => bare (at_ ords p)).map ints)]) (fun i => i ≤ ps.length ∧ (ps.take i).all (fun p => !(at_ ords p).isEmpty) = true) (fun i => ps.length - i) 0 [0, 1, 2] ⟨Nat.zero_le _, rfl⟩ ?_
  rintro i ⟨hi, hall⟩
  by_cases hlt : i < ps.length
  · have hpi := hps ps[i] (List.getElem_mem _)
    have hlo : (at_ ords ps[i]).length ≤ 1000000 := by
      rcases at_mem (ords := ords) (p := ps[i]) with e | e
      · rw [e]; simp
      · exact hol _ e
    repeat' (with_reducible first | refine OL.st ?_ | refine TC.region ?_ | refine TC.seq ?_ | refine OL.nil ?_ | refine TX.thenN ?_ | refine TC.block ?_ | refine TC.skip ?_ | refine TC.ifD ?_ ?_ <;> (intro hc; try (exfalso; omega)) | fail)
    refine OL.lookup ?_ (look_omap ords ps[i] hpi)
    repeat' (with_reducible first | refine OL.st ?_ | refine TC.region ?_ | refine TC.seq ?_ | refine OL.nil ?_ | refine TX.thenN ?_ | refine TC.skip ?_ | refine TC.ifD ?_ ?_ <;> (intro hc; try (exfalso; omega)) | refine TC.ret ?_ | refine TX.thenR ?_ | refine TX.blkR ?_ | fail)
    · have he : at_ ords ps[i] = [] := List.eq_nil_of_length_eq_zero (by omega)
      have : listsOf ords ps = none := by
        rw [listsOf, if_neg]
        intro h
        have := List.all_eq_true.1 h ps[i] (List.getElem_mem _)
        rw [he] at this
        cases this
      rw [this]
      exact TX.rt2 [0, 1] (.nil (by decide)) (.ren rfl)
    · have hne : (at_ ords ps[i]).isEmpty = false := by
        cases hq : at_ ords ps[i] with
        | nil => rw [hq] at hc; simp at hc
        | cons _ _ => rfl
      refine OL.lookup ?_ (look_omap ords ps[i] hpi)
      skip
      refine OL.c (s_line_bare (at_ ords ps[i]) (by omega)) Fn.line_bare ?_
      repeat' (with_reducible first | refine OL.st ?_ | refine OL.litV ?_ | refine OL.lit ?_ | refine OL.appO ?_ | refine TC.region ?_ | refine OL.nil ?_ | refine TX.thenN ?_ | refine TX.blkN ?_ | fail)
      have e : (((ps.take i).map fun p => bare (at_ ords p)).map ints) ++ [ints (bare (at_ ords ps[i]))] = (((ps.take (i + 1)).map fun p => bare (at_ ords p)).map ints) := by
        rw [take_succ hlt]; simp only [List.map_append, List.map_cons, List.map_nil]
      refine TX.rd (i + 1) [0, 1, 5] ⟨by omega, ?_⟩ (by omega)
      rw [take_succ hlt, List.all_append, hall]
      simp [hne]
  · repeat' (with_reducible first | refine OL.st ?_ | refine OL.lit ?_ | refine OL.appO ?_ | refine TC.region ?_ | refine TC.seq ?_ | refine OL.nil ?_ | refine TX.thenN ?_ | refine TC.exit ?_ | refine TX.hit ?_ | refine TX.thenX ?_ | refine TC.ifD ?_ ?_ <;> (intro hc; try (exfalso; omega)) | refine TC.ret ?_ | fail)
    rw [take_all (by omega)] at hall ⊢
    rw [listsOf, if_pos hall]
    have e : (ps.map fun p => bare (at_ ords p)).map ints ++ [ints pss[c]] = ((ps.map fun p => bare (at_ ords p)) ++ [ps]).map ints := by rw [List.map_append, hpe]; rfl
    refine TX.vw 4 ?_
    exact TX.rt2 [0, 1] (.sl' e) (.ren rfl)
end Go.Proofs
namespace Go.Proofs
open Go Go.W Go.V
def ordOf (ords : List (List Int)) (ps : List Int) (c : Nat) : List Int := if c = 0 then [0] else orderOf ords ps c
set_option maxHeartbeats 1000000 in
theorem s_line_graph_order (pss : List (List Int)) (us : List Nat) (ords : List (List Int)) (c : Nat) (hcl : c < pss.length) (hoc : ords.length = c) (hcs : c ≤ 100)
    (hps : ∀ p ∈ pss[c], 0 ≤ p) (hok : OrdOK ords) (hpl : pss[c].length ≤ 3) :
    V.Spec Tryz.prog Fc.line_graph_order [.bp 0 0, V.int c] [graphO pss us 1, .mo (omap ords)] (.tp []) [graphO pss us 1, .mo (omap (ords ++ [ordOf ords pss[c] c]))] := by
  refine V.Spec.enter Tryz.tabOK Tryz.mixed Fn.line_graph_order rfl rfl rfl fun B hB => ?_
  rw [omap_snoc, hoc]
  have hnew := new_omap ords c (by omega)
  repeat' (with_reducible first | refine OL.st ?_ | refine OL.lit ?_ | refine TC.region ?_ | refine TC.seq ?_ | refine OL.nil ?_ | refine TX.thenN ?_ | refine TC.skip ?_ | refine TC.ifD ?_ ?_ <;> (intro hc; try (exfalso; omega)) | fail)
  · have h0 : c = 0 := by omega
    subst h0
    skip
    refine OL.vw 14 ?_
    refine OL.mapNew ?_ hnew
    repeat' (with_reducible first | refine OL.nil ?_ | refine TX.thenN ?_ | refine TC.ret ?_ | refine TX.thenR ?_ | fail)
    exact TX.rt0 [0, 1]
  · have hc0 : c ≠ 0 := by omega
    have hol := hok.small (by omega)
    have hb := fun all (h : listsOf ords pss[c] = some all) => listsOf_bounds h hok (by omega) (by omega) hps
    have hs := s_line_graph_lists pss us ords c hcl hps (fun o ho => Nat.le_trans (hol o ho) (by omega)) (by omega)
    rw [ordOf, if_neg hc0, orderOf]
    cases hls : listsOf ords pss[c] with
    | none =>
      rw [hls] at hs
      simp only [Option.getD_none, Option.isSome_none] at hs
      simp only [List.append_nil, List.isEmpty_nil, if_true]
      refine OL.ch [0, 1] hs Fn.line_graph_lists ?_
      repeat' (with_reducible first | refine OL.st ?_ | refine TC.region ?_ | refine TC.seq ?_ | refine OL.nil ?_ | refine TX.thenN ?_ | refine TC.ifT ?_ | refine TC.ret ?_ | refine TX.thenR ?_ | fail)
      exact TX.rt0 [0, 1]
    | some all =>
      obtain ⟨hb1, hb2, hb3⟩ := hb all hls
      have hlen : (merge all).1.length ≤ 1000000 := Nat.le_trans (merge_length all) (by omega)
      rw [hls] at hs
      simp only [Option.getD_some, Option.isSome_some] at hs
      refine OL.ch [0, 1] hs Fn.line_graph_lists ?_
      repeat' (with_reducible first | refine OL.st ?_ | refine TC.region ?_ | refine TC.seq ?_ | refine OL.nil ?_ | refine TX.thenN ?_ | refine TC.skip ?_ | refine TC.ifF ?_ | fail)
      refine OL.c (s_line_merge all (by omega) (by omega)) Fn.line_merge ?_
      repeat' (with_reducible first | refine OL.st ?_ | refine TC.region ?_ | refine TC.seq ?_ | refine OL.nil ?_ | refine TX.thenN ?_ | fail)
      refine TC.ifB (fun hm => ?_) (fun hm => ?_)
      · have e : (if (if (merge all).2 = true then (c : Int) :: ((merge all).1 ++ [0]) else []).isEmpty = true then [] else [((c : Int), ints (if (merge all).2 = true then (c : Int) :: ((merge all).1 ++ [0]) else []))]) = [((c : Int), AV.sl 1 none (V.int c :: ((merge all).1.map V.int ++ [V.int 0])))] := by simp [hm]
        rw [e, hm]
        skip
        refine TC.vw 6 ?_
        (with_reducible refine TC.draw (id := 6) false 12 12 ?_ <;> refine OD.st 0 ?_ <;> refine OD.st 1 ?_ <;> refine OD.st 2 ?_ <;> refine OD.st 4 ?_ <;> refine OD.st 5 ?_ <;> refine OD.st 7 ?_ <;> refine OD.n3 3 6 9 ?_ ?_ ?_ <;> (first | refine NextBy.at 3 ?_ <;> refine NextBy.s ?_ <;> refine OD.n2 6 9 ?_ ?_ <;> (first | refine NextBy.at 6 ?_ <;> (refine NextBy.a ?_; refine OL.lit ?_; refine OL.nil ?_; refine TX.od ?_) <;> refine OD.n2 8 9 ?_ ?_ <;> (first | refine NextBy.at 8 ?_ <;> (refine NextBy.a ?_; refine OL.app ?_; refine OL.nil ?_; refine TX.od ?_) <;> (refine OD.a1 9 ?_; refine OL.lit ?_; refine OL.nil ?_; refine TX.od ?_) <;> (refine OD.a1 10 ?_; refine OL.appO ?_; refine OL.nil ?_; refine TX.od ?_) <;> (refine OD.a1 11 ?_; refine OL.vw 39 ?_; refine OL.mapNew ?_ hnew; refine OL.nil ?_; refine TX.od ?_) <;> refine OD.dn ?_ | refine NextBy.at 9 ?_ <;> (refine NextBy.a ?_; refine OL.lit ?_; refine OL.nil ?_; refine TX.od ?_) <;> (refine OD.a1 8 ?_; refine OL.app ?_; refine OL.nil ?_; refine TX.od ?_) <;> (refine OD.a1 10 ?_; refine OL.appO ?_; refine OL.nil ?_; refine TX.od ?_) <;> (refine OD.a1 11 ?_; refine OL.vw 39 ?_; refine OL.mapNew ?_ hnew; refine OL.nil ?_; refine TX.od ?_) <;> refine OD.dn ?_) | refine NextBy.at 9 ?_ <;> (refine NextBy.a ?_; refine OL.lit ?_; refine OL.nil ?_; refine TX.od ?_) <;> (refine OD.a1 6 ?_; refine OL.lit ?_; refine OL.nil ?_; refine TX.od ?_) <;> (refine OD.a1 8 ?_; refine OL.app ?_; refine OL.nil ?_; refine TX.od ?_) <;> (refine OD.a1 10 ?_; refine OL.appO ?_; refine OL.nil ?_; refine TX.od ?_) <;> (refine OD.a1 11 ?_; refine OL.vw 39 ?_; refine OL.mapNew ?_ hnew; refine OL.nil ?_; refine TX.od ?_) <;> refine OD.dn ?_) | refine NextBy.at 6 ?_ <;> (refine NextBy.a ?_; refine OL.lit ?_; refine OL.nil ?_; refine TX.od ?_) <;> refine OD.n3 3 8 9 ?_ ?_ ?_ <;> (first | refine NextBy.at 3 ?_ <;> refine NextBy.s ?_ <;> refine OD.n2 8 9 ?_ ?_ <;> (first | refine NextBy.at 8 ?_ <;> (refine NextBy.a ?_; refine OL.app ?_; refine OL.nil ?_; refine TX.od ?_) <;> (refine OD.a1 9 ?_; refine OL.lit ?_; refine OL.nil ?_; refine TX.od ?_) <;> (refine OD.a1 10 ?_; refine OL.appO ?_; refine OL.nil ?_; refine TX.od ?_) <;> (refine OD.a1 11 ?_; refine OL.vw 39 ?_; refine OL.mapNew ?_ hnew; refine OL.nil ?_; refine TX.od ?_) <;> refine OD.dn ?_ | refine NextBy.at 9 ?_ <;> (refine NextBy.a ?_; refine OL.lit ?_; refine OL.nil ?_; refine TX.od ?_) <;> (refine OD.a1 8 ?_; refine OL.app ?_; refine OL.nil ?_; refine TX.od ?_) <;> (refine OD.a1 10 ?_; refine OL.appO ?_; refine OL.nil ?_; refine TX.od ?_) <;> (refine OD.a1 11 ?_; refine OL.vw 39 ?_; refine OL.mapNew ?_ hnew; refine OL.nil ?_; refine TX.od ?_) <;> refine OD.dn ?_) | refine NextBy.at 8 ?_ <;> (refine NextBy.a ?_; refine OL.app ?_; refine OL.nil ?_; refine TX.od ?_) <;> refine OD.n2 3 9 ?_ ?_ <;> (first | refine NextBy.at 3 ?_ <;> refine NextBy.s ?_ <;> (refine OD.a1 9 ?_; refine OL.lit ?_; refine OL.nil ?_; refine TX.od ?_) <;> (refine OD.a1 10 ?_; refine OL.appO ?_; refine OL.nil ?_; refine TX.od ?_) <;> (refine OD.a1 11 ?_; refine OL.vw 39 ?_; refine OL.mapNew ?_ hnew; refine OL.nil ?_; refine TX.od ?_) <;> refine OD.dn ?_ | refine NextBy.at 9 ?_ <;> (refine NextBy.a ?_; refine OL.lit ?_; refine OL.nil ?_; refine TX.od ?_) <;> refine OD.n2 3 10 ?_ ?_ <;> (first | refine NextBy.at 3 ?_ <;> refine NextBy.s ?_ <;> (refine OD.a1 10 ?_; refine OL.appO ?_; refine OL.nil ?_; refine TX.od ?_) <;> (refine OD.a1 11 ?_; refine OL.vw 39 ?_; refine OL.mapNew ?_ hnew; refine OL.nil ?_; refine TX.od ?_) <;> refine OD.dn ?_ | refine NextBy.at 10 ?_ <;> (refine NextBy.a ?_; refine OL.appO ?_; refine OL.nil ?_; refine TX.od ?_) <;> refine OD.s1 3 ?_ <;> (refine OD.a1 11 ?_; refine OL.vw 39 ?_; refine OL.mapNew ?_ hnew; refine OL.nil ?_; refine TX.od ?_) <;> refine OD.dn ?_)) | refine NextBy.at 9 ?_ <;> (refine NextBy.a ?_; refine OL.lit ?_; refine OL.nil ?_; refine TX.od ?_) <;> refine OD.n2 3 8 ?_ ?_ <;> (first | refine NextBy.at 3 ?_ <;> refine NextBy.s ?_ <;> (refine OD.a1 8 ?_; refine OL.app ?_; refine OL.nil ?_; refine TX.od ?_) <;> (refine OD.a1 10 ?_; refine OL.appO ?_; refine OL.nil ?_; refine TX.od ?_) <;> (refine OD.a1 11 ?_; refine OL.vw 39 ?_; refine OL.mapNew ?_ hnew; refine OL.nil ?_; refine TX.od ?_) <;> refine OD.dn ?_ | refine NextBy.at 8 ?_ <;> (refine NextBy.a ?_; refine OL.app ?_; refine OL.nil ?_; refine TX.od ?_) <;> refine OD.n2 3 10 ?_ ?_ <;> (first | refine NextBy.at 3 ?_ <;> refine NextBy.s ?_ <;> (refine OD.a1 10 ?_; refine OL.appO ?_; refine OL.nil ?_; refine TX.od ?_) <;> (refine OD.a1 11 ?_; refine OL.vw 39 ?_; refine OL.mapNew ?_ hnew; refine OL.nil ?_; refine TX.od ?_) <;> refine OD.dn ?_ | refine NextBy.at 10 ?_ <;> (refine NextBy.a ?_; refine OL.appO ?_; refine OL.nil ?_; refine TX.od ?_) <;> refine OD.s1 3 ?_ <;> (refine OD.a1 11 ?_; refine OL.vw 39 ?_; refine OL.mapNew ?_ hnew; refine OL.nil ?_; refine TX.od ?_) <;> refine OD.dn ?_))) | refine NextBy.at 9 ?_ <;> (refine NextBy.a ?_; refine OL.lit ?_; refine OL.nil ?_; refine TX.od ?_) <;> refine OD.n2 3 6 ?_ ?_ <;> (first | refine NextBy.at 3 ?_ <;> refine NextBy.s ?_ <;> (refine OD.a1 6 ?_; refine OL.lit ?_; refine OL.nil ?_; refine TX.od ?_) <;> (refine OD.a1 8 ?_; refine OL.app ?_; refine OL.nil ?_; refine TX.od ?_) <;> (refine OD.a1 10 ?_; refine OL.appO ?_; refine OL.nil ?_; refine TX.od ?_) <;> (refine OD.a1 11 ?_; refine OL.vw 39 ?_; refine OL.mapNew ?_ hnew; refine OL.nil ?_; refine TX.od ?_) <;> refine OD.dn ?_ | refine NextBy.at 6 ?_ <;> (refine NextBy.a ?_; refine OL.lit ?_; refine OL.nil ?_; refine TX.od ?_) <;> refine OD.n2 3 8 ?_ ?_ <;> (first | refine NextBy.at 3 ?_ <;> refine NextBy.s ?_ <;> (refine OD.a1 8 ?_; refine OL.app ?_; refine OL.nil ?_; refine TX.od ?_) <;> (refine OD.a1 10 ?_; refine OL.appO ?_; refine OL.nil ?_; refine TX.od ?_) <;> (refine OD.a1 11 ?_; refine OL.vw 39 ?_; refine OL.mapNew ?_ hnew; refine OL.nil ?_; refine TX.od ?_) <;> refine OD.dn ?_ | refine NextBy.at 8 ?_ <;> (refine NextBy.a ?_; refine OL.app ?_; refine OL.nil ?_; refine TX.od ?_) <;> refine OD.n2 3 10 ?_ ?_ <;> (first | refine NextBy.at 3 ?_ <;> refine NextBy.s ?_ <;> (refine OD.a1 10 ?_; refine OL.appO ?_; refine OL.nil ?_; refine TX.od ?_) <;> (refine OD.a1 11 ?_; refine OL.vw 39 ?_; refine OL.mapNew ?_ hnew; refine OL.nil ?_; refine TX.od ?_) <;> refine OD.dn ?_ | refine NextBy.at 10 ?_ <;> (refine NextBy.a ?_; refine OL.appO ?_; refine OL.nil ?_; refine TX.od ?_) <;> refine OD.s1 3 ?_ <;> (refine OD.a1 11 ?_; refine OL.vw 39 ?_; refine OL.mapNew ?_ hnew; refine OL.nil ?_; refine TX.od ?_) <;> refine OD.dn ?_)))))
        all_goals repeat' (first | (with_reducible refine TX.end_ ?_) | fail)
        all_goals exact TX.rt0 [0, 1]
      · have e : (if (if (merge all).2 = true then (c : Int) :: ((merge all).1 ++ [0]) else []).isEmpty = true then [] else [((c : Int), ints (if (merge all).2 = true then (c : Int) :: ((merge all).1 ++ [0]) else []))]) = [] := by simp [hm]
        rw [e, hm, List.append_nil]
        repeat' (first | (with_reducible refine TC.skip ?_) | (with_reducible refine TX.end_ ?_) | fail)
        exact TX.rt0 [0, 1]
end Go.Proofs
namespace Go.Proofs
open Go Go.W Go.V
/-! ### What open finds -/
def upK (us : List Nat) (ps : List Int) (c : Nat) (i : Nat) : Nat := (ps.take i).foldl (fun s p => s ||| us.getD p.toNat 0) (setWith (setWith 0 c) 0)
def upOf (us : List Nat) (ps : List Int) (c : Nat) : Nat := upK us ps c ps.length
theorem upK_succ {us ps c i} (h : i < ps.length) (hp : ps[i].toNat < us.length) : upK us ps c (i + 1) = upK us ps c i ||| us[ps[i].toNat] := by
  unfold upK; rw [take_succ h, List.foldl_append, List.foldl_cons, List.foldl_nil, getD_lt hp]
def upsF : List Nat → List (List Int) → List Nat
  | us, [] => us
  | us, ps :: r => upsF (us ++ [upOf us ps us.length]) r
def ups (g : List (List Int)) : List Nat := upsF [] (parentsOf g)
def oks (g : List (List Int)) (l : List Int) : Bool := fine g && l.all fun c => decide (0 ≤ c) && decide (c < 3 + (g.length : Int))
def openR (g : List (List Int)) (l : List Int) : AV := if oks g l then .tp [.bp 0 0, V.bool true] else .tp [.raw (.pointer none), V.bool false]
def openE (g : List (List Int)) (l : List Int) : V.Eta := if oks g l then [graphO (parentsOf g) (ups g) 1, .mo (omap (orders g))] else []
set_option maxHeartbeats 2000000 in
theorem s_line_open (g : List (List Int)) (l : List Int) : V.Spec Tryz.prog Fc.line_open [rows g, ints l] [] (openR g l) (openE g l) := by
  refine V.Spec.enter Tryz.tabOK Tryz.mixed Fn.line_open rfl rfl rfl fun B hB => ?_
  repeat' (with_reducible first | refine OL.st ?_ | refine TC.region ?_ | refine TC.seq ?_ | refine OL.nil ?_ | refine TX.thenN ?_ | fail)
  refine OL.c (s_line_fine g) Fn.line_fine ?_
  cases hf : fine g
  · have ho : oks g l = false := by simp [oks, hf]
    rw [openR, openE, ho]
    repeat' (with_reducible first | refine OL.st ?_ | refine TC.region ?_ | refine TC.seq ?_ | refine OL.nil ?_ | refine TX.thenN ?_ | refine TC.ifT ?_ | refine TC.ret ?_ | refine TX.thenR ?_ | fail)
    exact TX.rt2 [] (.ren rfl) (.ren rfl)
  have h16 := fine_len hf
  repeat' (with_reducible first | refine OL.st ?_ | refine TC.region ?_ | refine TC.seq ?_ | refine OL.nil ?_ | refine TX.thenN ?_ | refine TC.block ?_ | refine TC.skip ?_ | refine TC.ifF ?_ | fail)
  refine TC.bl 18 fun hbl => ?_
  refine TC.lp (fun i : Nat => [(0, rows g), (18, ints l), (19, V.int l.length), (20, V.int i)]) (fun _ => []) (fun i => i ≤ l.length ∧ (l.take i).all (fun c => decide (0 ≤ c) && decide (c < 3 + (g.length : Int))) = true) (fun i => l.length - i) 0 [] ⟨Nat.zero_le _, rfl⟩ ?_
  rintro i ⟨hi, hall⟩
  have hbad : ∀ h : i < l.length, (decide (0 ≤ l[i]) && decide (l[i] < 3 + (g.length : Int))) = false → oks g l = false := by
    intro h hb
    rw [oks, hf, Bool.true_and, List.all_eq_false]
    exact ⟨l[i], List.getElem_mem h, by rw [hb]; simp⟩
  repeat' (with_reducible first | refine OL.st ?_ | refine TC.region ?_ | refine TC.seq ?_ | refine OL.nil ?_ | refine TX.thenN ?_ | refine TC.block ?_ | refine TC.skip ?_ | refine TX.blkN ?_ | refine TC.exit ?_ | refine TX.hit ?_ | refine TX.thenX ?_ | refine TC.ifT ?_ | refine OL.gOn ?_ | refine OL.gOff ?_ | refine TC.ifD ?_ ?_ <;> (intro hc; try (exfalso; omega)) | refine OL.gD ?_ ?_ <;> (intro hc; try (exfalso; omega)) | refine TC.ret ?_ | refine TX.thenR ?_ | refine TX.blkR ?_ | fail)
  · have ho := hbad (by omega) (by rw [decide_eq_false (by omega : ¬ 0 ≤ l[i])]; rfl)
    rw [openR, openE, ho]
    exact TX.rt2 [] (.ren rfl) (.ren rfl)
  · have ho := hbad (by omega) (by rw [decide_eq_false (by omega : ¬ l[i] < 3 + (g.length : Int)), Bool.and_false])
    rw [openR, openE, ho]
    exact TX.rt2 [] (.ren rfl) (.ren rfl)
  · refine TX.rd (i + 1) [] ⟨by omega, ?_⟩ (by omega)
    rw [take_succ (by omega), List.all_append, hall]
    simp
    omega
  · rw [take_all (by omega)] at hall
    have hoks : oks g l = true := by rw [oks, hf, hall]; rfl
    have hokc : OrdOK [] := fun c o h => by simp at h
    rw [openR, openE, hoks, if_pos rfl, if_pos rfl]
    skip
    refine OL.make (l := 3) (c := 3 + g.length) (u := ints []) (u0 := ints []) ?_ (fun m w γ => .nil nofun)
    repeat' (with_reducible first | refine OL.st ?_ | refine OL.box ?_ | refine OL.store ?_ | refine OL.app ?_ | refine OL.makeMap ?_ | refine OL.build ?_ | refine TC.region ?_ | refine TC.seq ?_ | refine OL.nil ?_ | refine TX.thenN ?_ | refine TC.block ?_ | fail)
    have hpe : ints [] :: ints [] :: ints [] :: g.map ints = (parentsOf g).map ints := by simp [parentsOf]
    have hpl : (parentsOf g).length = 3 + g.length := parentsOf_length g
    have hpl2 : ((parentsOf g).map ints).length = 3 + g.length := by rw [List.length_map, hpl]
    refine TC.vw 53 ?_
    refine TC.vwC 2 0 ?_
    rw [hpe]
    skip
    refine TC.adpC 2 1 Tc.line_set 1 ?_
    refine TC.lp (fun s : List Nat => [(8, .bp 0 0), (53, rows (parentsOf g)), (54, V.int ((parentsOf g).map ints).length), (55, V.int s.length)]) (fun s => [.cb Tc.line_graph [rows (parentsOf g), .hs 2, .mp 1], .mo [], .gs false Tc.line_set 1 none (s.map setA)])
      (fun s => s.length ≤ 3 + g.length ∧ ups g = upsF s ((parentsOf g).drop s.length) ∧ (∀ u ∈ s, u < 2 ^ 64)) (fun s => 3 + g.length - s.length) [] [2, 1, 4] ⟨Nat.zero_le _, rfl, by simp⟩ ?_
    rintro us ⟨hcl, hus, hu64⟩
    repeat' (with_reducible first | refine OL.st ?_ | refine TC.region ?_ | refine TC.seq ?_ | refine OL.nil ?_ | refine TX.thenN ?_ | refine TC.block ?_ | refine TC.skip ?_ | refine TC.exit ?_ | refine TX.hit ?_ | refine TX.thenX ?_ | refine TC.ifD ?_ ?_ <;> (intro hc; try (exfalso; omega)) | fail)
    · have hclt : us.length < 3 + g.length := by omega
      have hpq : (parentsOf g)[us.length]'(by omega) = pOf g us.length := by
        have := parentsOf_get hclt
        rw [List.getElem?_eq_getElem (by omega)] at this
        simpa using this
      obtain ⟨hp3, hpr, hpn⟩ := fine_pOf hf (c := (us.length : Int)) (by omega)
      rw [← hpq] at hp3 hpr hpn
      have hdrop : (parentsOf g).drop us.length = (parentsOf g)[us.length] :: (parentsOf g).drop (us.length + 1) := drop_cons (by omega)
      rw [hdrop] at hus
      generalize (parentsOf g)[us.length] = ps at *
      have hs1 := s_line_set_with 0 (by decide) us.length (by omega) (by omega)
      have hlt1 : setWith 0 us.length < 2 ^ 64 := setWith_lt (by decide) (by omega)
      have hs2 := s_line_set_with (setWith 0 us.length) hlt1 0 (by omega) (by omega)
      have hlt2 : setWith (setWith 0 us.length) 0 < 2 ^ 64 := setWith_lt hlt1 (by omega)
      rw [Int.toNat_natCast] at hs1
      rw [Int.toNat_zero] at hs2
      refine OL.buildA ?_
      repeat' (first | (with_reducible refine OL.st ?_) | fail)
      refine OL.c hs1 Fn.line_set_with ?_
      skip
      refine OL.c hs2 Fn.line_set_with ?_
      repeat' (with_reducible first | refine OL.st ?_ | refine OL.alloc ?_ | refine OL.storeAgg ?_ | refine TC.region ?_ | refine TC.seq ?_ | refine OL.nil ?_ | refine TX.thenN ?_ | refine TC.block ?_ | fail)
      have e0 : setWith (setWith 0 us.length) 0 = upK us ps us.length 0 := rfl
      rw [e0]
      refine TC.lp (fun i : Nat => [(8, .bp 0 0), (11, .bp 3 0), (53, rows (parentsOf g)), (54, V.int ((parentsOf g).map ints).length), (55, V.int us.length), (64, ints ps), (65, V.int ps.length), (66, V.int i)]) (fun i => [.cb Tc.line_graph [rows (parentsOf g), .hs 2, .mp 1], .mo [], .gs false Tc.line_set 1 none (us.map setA), .cb Tc.line_set [V.u64 (upK us ps us.length i)]])
        (fun i => i ≤ ps.length ∧ upK us ps us.length i < 2 ^ 64) (fun i => ps.length - i) 0 [0, 1, 2, 3] ⟨Nat.zero_le _, hlt2⟩ ?_
      rintro i ⟨hi', hs64⟩
      repeat' (with_reducible first | refine OL.st ?_ | refine TC.region ?_ | refine TC.seq ?_ | refine OL.nil ?_ | refine TX.thenN ?_ | refine TC.block ?_ | refine TC.skip ?_ | refine TC.exit ?_ | refine TX.hit ?_ | refine TX.thenX ?_ | refine TC.ifD ?_ ?_ <;> (intro hc; try (exfalso; omega)) | fail)
      · have hpi := hpr ps[i] (List.getElem_mem _)
        have hpu : ps[i].toNat < us.length := by omega
        have hx64 := hu64 _ (List.getElem_mem hpu)
        have hor := s_line_set_or (upK us ps us.length i) us[ps[i].toNat] hs64 hx64
        have hlt := Nat.or_lt_two_pow hs64 hx64
        rw [← upK_succ (by omega) hpu] at hor hlt
        (with_reducible refine TC.draw (id := 18) true 9 10 ?_ <;> refine OD.st 0 ?_ <;> refine OD.st 1 ?_ <;> refine OD.st 2 ?_ <;> refine OD.st 3 ?_ <;> refine OD.st 4 ?_ <;> refine OD.st 5 ?_ <;> refine OD.st 6 ?_ <;> refine OD.st 7 ?_ <;> refine OD.c1 8 hor Fn.line_set_or ?_ <;> (refine OD.a1 9 ?_; refine OL.storeAgg ?_; refine OL.nil ?_; refine TX.od ?_) <;> refine OD.dn ?_)
        repeat' (with_reducible first | refine OL.st ?_ | refine TC.region ?_ | refine OL.nil ?_ | refine TX.thenN ?_ | refine TX.blkN ?_ | fail)
        exact TX.rd (i + 1) [0, 1, 2, 3] ⟨by omega, hlt⟩ (by omega)
      · have e1 : upK us ps us.length i = upOf us ps us.length := by rw [upOf, show i = ps.length by omega]
        rw [e1] at hs64
        rw [e1]
        rw [upsF] at hus
        have e : us.map setA ++ [setA (upOf us ps us.length)] = (us ++ [upOf us ps us.length]).map setA := by simp
        have e2 : ((us.length : Int) + 1) = ((us ++ [upOf us ps us.length]).length : Nat) := by simp
        (with_reducible refine TC.draw (id := 20) false 11 11 ?_ <;> refine OD.st 0 ?_ <;> refine OD.st 1 ?_ <;> refine OD.st 2 ?_ <;> refine OD.st 3 ?_ <;> refine OD.n2 4 5 ?_ ?_ <;> (first | refine NextBy.at 4 ?_ <;> refine NextBy.s ?_ <;> refine OD.s1 5 ?_ <;> (refine OD.a1 6 ?_; refine OL.lit ?_; refine OL.nil ?_; refine TX.od ?_) <;> (refine OD.a1 7 ?_; refine OL.appO ?_; refine OL.nil ?_; refine TX.od ?_) <;> refine OD.st 8 ?_ <;> refine OD.st 9 ?_ <;> (refine OD.a1 10 ?_; refine OL.store ?_; refine OL.nil ?_; refine TX.od ?_) <;> refine OD.dn ?_ | refine NextBy.at 5 ?_ <;> refine NextBy.s ?_ <;> refine OD.n2 4 6 ?_ ?_ <;> (first | refine NextBy.at 4 ?_ <;> refine NextBy.s ?_ <;> (refine OD.a1 6 ?_; refine OL.lit ?_; refine OL.nil ?_; refine TX.od ?_) <;> (refine OD.a1 7 ?_; refine OL.appO ?_; refine OL.nil ?_; refine TX.od ?_) <;> refine OD.st 8 ?_ <;> refine OD.st 9 ?_ <;> (refine OD.a1 10 ?_; refine OL.store ?_; refine OL.nil ?_; refine TX.od ?_) <;> refine OD.dn ?_ | refine NextBy.at 6 ?_ <;> (refine NextBy.a ?_; refine OL.lit ?_; refine OL.nil ?_; refine TX.od ?_) <;> refine OD.s1 4 ?_ <;> (refine OD.a1 7 ?_; refine OL.appO ?_; refine OL.nil ?_; refine TX.od ?_) <;> refine OD.st 8 ?_ <;> refine OD.st 9 ?_ <;> (refine OD.a1 10 ?_; refine OL.store ?_; refine OL.nil ?_; refine TX.od ?_) <;> refine OD.dn ?_)))
        all_goals repeat' (with_reducible first | refine OL.st ?_ | refine TC.region ?_ | refine OL.nil ?_ | refine TX.thenN ?_ | refine TX.blkN ?_ | fail)
        all_goals refine TX.rd (us ++ [upOf us ps us.length]) [0, 1, 5] ⟨by simp; omega, by simpa using hus, fun u hu => (List.mem_append.1 hu).elim (hu64 u) fun h => by rw [List.mem_singleton.1 h]; exact hs64⟩ (by simp; omega)
    · have hue : ups g = us := by rw [hus, drop_nil (by omega)]; rfl
      rw [hue]
      refine TC.vwC 0 1 ?_
      refine TC.lp (fun s : List (List Int) => [(8, .bp 0 0), (95, V.int (parentsOf g).length), (96, V.int s.length)]) (fun s => [graphO (parentsOf g) us 1, .mo (omap s)])
        (fun s => s.length ≤ (parentsOf g).length ∧ OrdOK s ∧ ((s.length = 0 ∧ s = []) ∨ (0 < s.length ∧ orders g = ordersF s ((parentsOf g).drop s.length)))) (fun s => (parentsOf g).length - s.length) [] [0, 1] ⟨Nat.zero_le _, hokc, .inl ⟨rfl, rfl⟩⟩ ?_
      rintro ords ⟨hcl', hok, hor⟩
      repeat' (with_reducible first | refine OL.st ?_ | refine TC.region ?_ | refine TC.seq ?_ | refine OL.nil ?_ | refine TX.thenN ?_ | refine TC.block ?_ | refine TC.skip ?_ | refine TC.exit ?_ | refine TX.hit ?_ | refine TX.thenX ?_ | refine TC.ifD ?_ ?_ <;> (intro hc; try (exfalso; omega)) | refine TC.ret ?_ | fail)
      · have hclt : ords.length < 3 + g.length := by omega
        have hpq : (parentsOf g)[ords.length]'(by omega) = pOf g ords.length := by
          have := parentsOf_get hclt
          rw [List.getElem?_eq_getElem (by omega)] at this
          simpa using this
        obtain ⟨hp3, hpr, hpn⟩ := fine_pOf hf (c := (ords.length : Int)) (by omega)
        have hs := s_line_graph_order (parentsOf g) us ords ords.length (by omega) rfl (by omega) (by rw [hpq]; intro p hp; have := hpr p hp; omega) hok (by rw [hpq]; exact hp3)
        rw [hpq] at hs
        refine OL.ch [0, 1] hs Fn.line_graph_order ?_
        repeat' (with_reducible first | refine OL.st ?_ | refine TC.region ?_ | refine OL.nil ?_ | refine TX.thenN ?_ | refine TX.blkN ?_ | fail)
        have e2 : ((ords.length : Int) + 1) = ((ords ++ [ordOf ords (pOf g ords.length) ords.length]).length : Nat) := by simp
        refine TX.rd (ords ++ [ordOf ords (pOf g ords.length) ords.length]) [0, 1] ⟨by simp; omega, ?_, .inr ⟨by simp, ?_⟩⟩ (by simp; omega)
        · rcases hor with ⟨h0, rfl⟩ | ⟨h0, h1⟩
          · exact OrdOK.start
          · rw [ordOf, if_neg (by omega)]
            refine hok.snoc (orderOf_ok hok (fun p hp => ?_) (by omega))
            have := hpr p hp
            omega
        · rcases hor with ⟨h0, rfl⟩ | ⟨h0, h1⟩
          · rw [orders_start]; rfl
          · rw [h1, parentsOf_drop hclt, ordersF_cons, ordOf, if_neg (by omega)]
            simp
      · rcases hor with ⟨h0, rfl⟩ | ⟨h0, h1⟩
        · omega
        · rw [drop_nil (by omega)] at h1
          have h1 : orders g = ords := h1
          rw [h1]
          exact TX.rt2 [0, 1] (.ren rfl) (.ren rfl)
end Go.Proofs
namespace Go.Proofs
open Go Go.W Go.V
theorem s_slices_Clone_Lint_int (l : List Int) (hb : l.length ≤ 1000000000) : V.Spec Tryz.prog Fc.slices_Clone_Lint_int [ints l] [] (.hs 0) [.gs false Tc.int 1 none (l.map V.int)] := by
  refine V.Spec.enter Tryz.tabOK Tryz.mixed Fn.slices_Clone_Lint_int rfl rfl rfl fun B hB => ?_
  repeat' (with_reducible first | refine OL.st ?_ | refine TC.region ?_ | refine TC.seq ?_ | refine OL.nil ?_ | refine TX.thenN ?_ | fail)
  refine OL.isNil (fun h => ?_) ?_
  · repeat' (with_reducible first | refine OL.st ?_ | refine TC.region ?_ | refine TC.seq ?_ | refine OL.nil ?_ | refine TX.thenN ?_ | refine TC.ifT ?_ | refine TC.ret ?_ | refine TX.thenR ?_ | fail)
    have e : [] = l.map V.int := h.symm
    refine TX.adp 2 Tc.int 1 ?_
    exact TX.rt1 [0] (.ren rfl)
  · repeat' (with_reducible first | refine OL.st ?_ | refine OL.lit0 ?_ | refine OL.app ?_ | refine TC.region ?_ | refine TC.seq ?_ | refine OL.nil ?_ | refine TX.thenN ?_ | refine TC.skip ?_ | refine TC.ifF ?_ | refine TC.ret ?_ | fail)
    exact TX.rt1 [1] (.ren rfl)
theorem oks_one (g : List (List Int)) (c : Int) : oks g [c] = okc g c := by simp [oks, okc]
theorem s_line_Lin (g : List (List Int)) (c : Int) : V.Spec Tryz.prog Fc.line_Lin [rows g, V.int c] [] (.tp [ints (linL g c), V.int (linE g c)]) [] := by
  refine V.Spec.enter Tryz.tabOK Tryz.mixed Fn.line_Lin rfl rfl rfl fun B hB => ?_
  have ho := s_line_open g [c]
  rw [openR, openE, oks_one] at ho
  repeat' (with_reducible first | refine OL.st ?_ | refine OL.lit ?_ | refine TC.region ?_ | refine TC.seq ?_ | refine OL.nil ?_ | refine TX.thenN ?_ | fail)
  refine OL.vwA 1 ?_
  cases hok : okc g c
  · rw [hok] at ho
    simp only [Bool.false_eq_true, if_false] at ho
    refine OL.c ho Fn.line_open ?_
    repeat' (with_reducible first | refine OL.st ?_ | refine TC.region ?_ | refine TC.seq ?_ | refine OL.nil ?_ | refine TX.thenN ?_ | refine TC.ifT ?_ | refine TC.ret ?_ | refine TX.thenR ?_ | fail)
    refine TX.rt2 [] (.nil' ?_) (.int ?_)
    · rw [linL, hok]; rfl
    · rw [linE, hok]; rfl
  · rw [hok] at ho
    simp only [if_true] at ho
    refine OL.c ho Fn.line_open ?_
    have h0 : 0 ≤ c := by
      simp only [okc, Bool.and_eq_true, decide_eq_true_eq] at hok
      exact hok.2.1
    have hf : fine g = true := by
      simp only [okc, Bool.and_eq_true] at hok
      exact hok.1
    have h16 := fine_len hf
    have hlen : (at_ (orders g) c).length ≤ 1000000000 := by
      have hs := (orders_ok hf).1.small (by have := (orders_ok hf).2; omega)
      rcases at_mem (ords := orders g) (p := c) with e | e
      · rw [e]; simp
      · exact Nat.le_trans (hs _ e) (by omega)
    repeat' (with_reducible first | refine OL.st ?_ | refine TC.region ?_ | refine TC.seq ?_ | refine OL.nil ?_ | refine TX.thenN ?_ | refine TC.skip ?_ | refine TC.ifF ?_ | fail)
    refine OL.lookup ?_ (look_omap (orders g) c h0)
    repeat' (with_reducible first | refine OL.st ?_ | refine TC.region ?_ | refine TC.seq ?_ | refine OL.nil ?_ | refine TX.thenN ?_ | refine TC.skip ?_ | refine TC.ifD ?_ ?_ <;> (intro hc; try (exfalso; omega)) | refine TC.ret ?_ | refine TX.thenR ?_ | fail)
    · have he : at_ (orders g) c = [] := List.eq_nil_of_length_eq_zero (by omega)
      refine TX.rt2 [] (.nil' ?_) (.int ?_)
      · rw [linL, if_pos hok, he]; rfl
      · rw [linE, if_pos hok, he]; rfl
    · refine OL.lookup ?_ (look_omap (orders g) c h0)
      skip
      refine OL.c (s_slices_Clone_Lint_int _ hlen) Fn.slices_Clone_Lint_int ?_
      repeat' (with_reducible first | refine OL.st ?_ | refine OL.nil ?_ | refine TX.thenN ?_ | refine TC.ret ?_ | fail)
      refine TX.vw 4 ?_
      refine TX.rt2 [] (.sl' ?_) (.int ?_)
      · rw [linL, if_pos hok]
      · rw [linE, if_pos hok, if_neg (by omega)]
end Go.Proofs
namespace Go.Proofs
open Go Go.W Go.V
/-! ### What after finds -/
end Go.Proofs
namespace Go.Proofs
open Go Go.W Go.V
def upto (n : Nat) : List Int := (List.range n).map fun (k : Nat) => (k : Int)
theorem upto_succ (n : Nat) : upto (n + 1) = upto n ++ [(n : Int)] := by simp [upto, List.range_succ]
def hasB (x : Nat) (c : Int) : Bool := decide (0 ≤ c) && decide (c < 64) && x.testBit c.toNat
def lastI (l : List Int) : Int := l.getD (l.length - 1) 0
end Go.Proofs
namespace Go.Proofs
open Go Go.W Go.V
end Go.Proofs
namespace Go.Proofs
open Go Go.W Go.V
end Go.Proofs
namespace Go.Proofs
open Go Go.W Go.V
def asks (g : List (List Int)) (l : List Int) : Bool := decide (l.length ≤ 16) && oks g l
def upHas (g : List (List Int)) (b c : Int) : Bool := hasB ((ups g).getD b.toNat 0) c
end Go.Proofs
namespace Go.Proofs
open Go Go.W Go.V
theorem foldl_or_bit {α : Type} (f : α → Nat) (b : Nat) : ∀ (l : List α) (s : Nat), (l.foldl (fun s p => s ||| f p) s).testBit b = (s.testBit b || l.any fun p => (f p).testBit b)
  | [], s => by simp
  | p :: r, s => by rw [List.foldl_cons, foldl_or_bit f b r, Nat.testBit_or, List.any_cons, Bool.or_assoc]
theorem setWith_bit (x c b : Nat) : (setWith x c).testBit b = (x.testBit b || decide (c = b)) := by
  rw [setWith, Nat.testBit_or, Nat.one_shiftLeft, Nat.testBit_two_pow]
theorem foldl_congr_mem {α β : Type} {f f' : β → α → β} : ∀ (l : List α) (s : β), (∀ a ∈ l, ∀ s, f s a = f' s a) → l.foldl f s = l.foldl f' s
  | [], _, _ => rfl
  | a :: r, s, h => by rw [List.foldl_cons, List.foldl_cons, h a (by simp), foldl_congr_mem r _ (fun b hb => h b (by simp [hb]))]
theorem upOf_eq (us : List Nat) (ps : List Int) (c : Nat) : upOf us ps c = ps.foldl (fun s p => s ||| us.getD p.toNat 0) (setWith (setWith 0 c) 0) := by rw [upOf, upK, List.take_length]
theorem upsF_pre : ∀ (r : List (List Int)) (us : List Nat) (i : Nat), i < us.length → (upsF us r)[i]? = us[i]?
  | [], _, _, _ => rfl
  | p :: r, us, i, h => by rw [upsF, upsF_pre r _ i (by simp; omega), List.getElem?_append_left h]
theorem upsF_get : ∀ (r : List (List Int)) (us : List Nat) (k : Nat) (ps : List Int), r[k]? = some ps → (∀ p ∈ ps, p.toNat < us.length + k) → (upsF us r)[us.length + k]? = some (upOf (upsF us r) ps (us.length + k))
  | [], us, k, ps, h, _ => by simp at h
  | q :: r, us, 0, ps, h, hp => by
    simp at h; subst h
    have e1 : (us ++ [upOf us q us.length])[us.length]? = some (upOf us q us.length) := by simp
    rw [Nat.add_zero, upsF, upsF_pre r _ us.length (by simp), e1]
    congr 1
    rw [upOf_eq, upOf_eq]
    refine foldl_congr_mem _ _ fun p hpm s => ?_
    have hlt : p.toNat < us.length := by have := hp p hpm; omega
    rw [List.getD_eq_getElem?_getD, List.getD_eq_getElem?_getD, upsF_pre r _ p.toNat (by simp; omega), List.getElem?_append_left hlt]
  | q :: r, us, k + 1, ps, h, hp => by
    have := upsF_get r (us ++ [upOf us q us.length]) k ps (by simpa using h) (fun p hpm => by have := hp p hpm; simp; omega)
    simp only [List.length_append, List.length_cons, List.length_nil, Nat.zero_add] at this
    rw [show us.length + 1 + k = us.length + (k + 1) by omega] at this
    exact this
theorem ups_get {g : List (List Int)} (hf : fine g = true) {c : Nat} (hc : c < 3 + g.length) : (ups g).getD c 0 = upOf (ups g) (pOf g c) c := by
  have h := upsF_get (parentsOf g) [] c (pOf g c) (parentsOf_get hc) (fun p hp => by
    have := (fine_pOf hf (c := (c : Int)) (by omega)).2.1 p hp
    simp; omega)
  rw [List.length_nil, Nat.zero_add] at h
  rw [List.getD_eq_getElem?_getD, ups, h]; rfl
theorem upHas_step {g : List (List Int)} (hf : fine g = true) {a : Nat} (ha : a < 3 + g.length) {b : Int} (h0 : 0 ≤ b) (h1 : b < 64) : upHas g a b = (decide (b = a) || decide (b = 0) || (pOf g a).any fun p => upHas g p b) := by
  have e : ∀ x : Nat, hasB x b = x.testBit b.toNat := fun x => by simp [hasB, h0, h1]
  have h2 : (pOf g a).any (fun p => upHas g p b) = (pOf g a).any (fun p => ((ups g).getD p.toNat 0).testBit b.toNat) := by
    congr 1; funext p; rw [upHas, e]
  have d1 : decide (b = (a : Int)) = decide (a = b.toNat) := by simp only [decide_eq_decide]; omega
  have d2 : decide (b = 0) = decide (0 = b.toNat) := by simp only [decide_eq_decide]; omega
  rw [h2, upHas, e, Int.toNat_natCast, ups_get hf ha, upOf_eq, foldl_or_bit, setWith_bit, setWith_bit, Nat.zero_testBit, Bool.false_or, d1, d2]
theorem upHas_self {g : List (List Int)} (hf : fine g = true) {a : Nat} (ha : a < 3 + g.length) : upHas g a a = true := by
  have := fine_len hf
  rw [upHas_step hf ha (by omega) (by omega)]; simp
theorem upHas_zero {g : List (List Int)} (hf : fine g = true) {a : Nat} (ha : a < 3 + g.length) : upHas g a 0 = true := by
  rw [upHas_step hf ha (by omega) (by omega)]; simp
theorem upHas_down {g : List (List Int)} (hf : fine g = true) : ∀ (n a : Nat), a < n → a < 3 + g.length → ∀ b : Int, 0 ≤ b → b < 64 → upHas g a b = true → b = 0 ∨ b = a ∨ (3 ≤ b ∧ b < a) := by
  intro n
  induction n with
  | zero => intro a h; omega
  | succ n ih =>
    intro a han ha b h0 h1 h
    rw [upHas_step hf ha h0 h1] at h
    simp only [Bool.or_eq_true, decide_eq_true_eq, List.any_eq_true] at h
    rcases h with (h | h) | ⟨p, hp, h⟩
    · exact .inr (.inl h)
    · exact .inl h
    · have hpp := (fine_pOf hf (c := (a : Int)) (by omega)).2.1 p hp
      obtain ⟨q, rfl⟩ : ∃ q : Nat, p = (q : Int) := ⟨p.toNat, by omega⟩
      rcases ih q (by omega) (by omega) b h0 h1 h with e | e | e
      · exact .inl e
      · right; right; omega
      · right; right; omega
theorem upHas_le {g : List (List Int)} (hf : fine g = true) {a : Nat} (ha : a < 3 + g.length) {b : Int} (h0 : 0 ≤ b) (h1 : b < 64) (h : upHas g a b = true) : b = 0 ∨ b = a ∨ (3 ≤ b ∧ b < a) := upHas_down hf (a + 1) a (by omega) ha b h0 h1 h
/-! ### The reference's marks -/
def markPs (ab : List Bool) (ps : List Int) : List Bool := ps.foldl (fun ab p => ab.set p.toNat true) ab
def markTo (g : List (List Int)) (b : Nat) : Nat → List Bool → List Bool
  | 0, ab => ab
  | c + 1, ab => if b < c + 1 then markTo g b c (if ab.getD (c + 1) false then markPs ab (pOf g ((c + 1 : Nat) : Int)) else ab) else ab
theorem markPs_length : ∀ (ps : List Int) (ab : List Bool), (markPs ab ps).length = ab.length
  | [], _ => rfl
  | p :: r, ab => by rw [markPs, List.foldl_cons]; exact (markPs_length r _).trans (by simp)
theorem getD_set_true (ab : List Bool) (p x : Nat) (hp : p < ab.length) : (ab.set p true).getD x false = (ab.getD x false || decide (x = p)) := by
  rw [List.getD_eq_getElem?_getD, List.getD_eq_getElem?_getD, List.getElem?_set]
  by_cases h : p = x
  · subst h; simp [hp]
  · have : ¬ x = p := fun e => h e.symm
    simp [h, this]
theorem markPs_get : ∀ (ps : List Int) (ab : List Bool) (x : Nat), (∀ p ∈ ps, 0 ≤ p ∧ p.toNat < ab.length) → (markPs ab ps).getD x false = (ab.getD x false || ps.any fun p => p == (x : Int))
  | [], ab, x, _ => by simp [markPs]
  | p :: r, ab, x, h => by
    have hp := h p (by simp)
    have := markPs_get r (ab.set p.toNat true) x (fun q hq => by simpa using h q (by simp [hq]))
    rw [markPs, List.foldl_cons]
    rw [markPs] at this
    rw [this, getD_set_true _ _ _ hp.2, List.any_cons, Bool.or_assoc]
    congr 2
    rw [Bool.eq_iff_iff]; simp; omega
theorem markTo_law {g : List (List Int)} (hf : fine g = true) {b : Nat} (hb : 3 ≤ b) : ∀ (c : Nat) (ab : List Bool), b ≤ c → c < 3 + g.length → c < ab.length →
    ((markTo g b c ab).getD b false = true ↔ ∃ x : Nat, b ≤ x ∧ x ≤ c ∧ ab.getD x false = true ∧ upHas g x b = true) := by
  have h16 := fine_len hf
  intro c
  induction c with
  | zero => intro ab h; omega
  | succ c ih =>
    intro ab hbc hc hl
    simp only [markTo]
    have hps : ∀ p ∈ pOf g ((c + 1 : Nat) : Int), 3 ≤ p ∧ p < ((c + 1 : Nat) : Int) := (fine_pOf hf (c := ((c + 1 : Nat) : Int)) (by omega)).2.1
    by_cases h : b < c + 1
    · rw [if_pos h]
      by_cases hm : ab.getD (c + 1) false = true
      · rw [if_pos hm, ih _ (by omega) (by omega) (by rw [markPs_length]; omega)]
        have hg : ∀ x, (markPs ab (pOf g ((c + 1 : Nat) : Int))).getD x false = (ab.getD x false || (pOf g ((c + 1 : Nat) : Int)).any fun p => p == (x : Int)) := fun x => markPs_get _ _ _ fun p hp => by have := hps p hp; omega
        have hst := upHas_step hf hc (b := (b : Int)) (by omega) (by omega)
        constructor
        · rintro ⟨x, h1, h2, h3, h4⟩
          rw [hg] at h3
          simp only [Bool.or_eq_true, List.any_eq_true, beq_iff_eq] at h3
          rcases h3 with h3 | ⟨p, hp, rfl⟩
          · exact ⟨x, h1, by omega, h3, h4⟩
          · refine ⟨c + 1, by omega, Nat.le_refl _, hm, ?_⟩
            rw [hst]
            simp only [Bool.or_eq_true, List.any_eq_true]
            exact .inr ⟨_, hp, h4⟩
        · rintro ⟨x, h1, h2, h3, h4⟩
          by_cases e : x = c + 1
          · subst e
            rw [hst] at h4
            simp only [Bool.or_eq_true, decide_eq_true_eq, List.any_eq_true] at h4
            rcases h4 with (h4 | h4) | ⟨p, hp, h4⟩
            · omega
            · omega
            · have hpp := hps p hp
              obtain ⟨q, rfl⟩ : ∃ q : Nat, p = (q : Int) := ⟨p.toNat, by omega⟩
              have := upHas_le hf (a := q) (by omega) (b := (b : Int)) (by omega) (by omega) h4
              refine ⟨q, by omega, by omega, ?_, h4⟩
              rw [hg]
              simp only [Bool.or_eq_true, List.any_eq_true, beq_iff_eq]
              exact .inr ⟨_, hp, rfl⟩
          · exact ⟨x, h1, by omega, by rw [hg, h3]; rfl, h4⟩
      · rw [if_neg hm, ih _ (by omega) (by omega) (by omega)]
        constructor
        · rintro ⟨x, h1, h2, h3, h4⟩; exact ⟨x, h1, by omega, h3, h4⟩
        · rintro ⟨x, h1, h2, h3, h4⟩
          have : x ≠ c + 1 := fun e => by subst e; exact hm h3
          exact ⟨x, h1, by omega, h3, h4⟩
    · rw [if_neg h]
      obtain rfl : b = c + 1 := by omega
      constructor
      · intro h1; exact ⟨c + 1, Nat.le_refl _, Nat.le_refl _, h1, upHas_self hf hc⟩
      · rintro ⟨x, h1, h2, h3, _⟩
        obtain rfl : x = c + 1 := by omega
        exact h3
def mark0 (a : Nat) : List Bool := (List.replicate 19 false).set a true
theorem below_law {g : List (List Int)} (hf : fine g = true) {a b : Nat} (ha : a < 3 + g.length) (hb : 3 ≤ b) (hb6 : b < 64) (hne : a ≠ b) : (markTo g b a (mark0 a)).getD b false = upHas g a b := by
  have h16 := fine_len hf
  have hm : ∀ x : Nat, (mark0 a).getD x false = decide (x = a) := fun x => by
    rw [mark0, getD_set_true _ _ _ (by simp; omega)]
    have : (List.replicate 19 false).getD x false = false := by
      rw [List.getD_eq_getElem?_getD, List.getElem?_replicate]; split <;> rfl
    rw [this, Bool.false_or]
  by_cases hab : b ≤ a
  · rw [Bool.eq_iff_iff, markTo_law hf hb a _ hab ha (by simp [mark0]; omega)]
    constructor
    · rintro ⟨x, h1, h2, h3, h4⟩
      rw [hm] at h3
      have : x = a := by simpa using h3
      subst this; exact h4
    · intro h; exact ⟨a, hab, Nat.le_refl _, by rw [hm]; simp, h⟩
  · have e : upHas g a b = false := by
      cases h : upHas g a b with
      | false => rfl
      | true => have := upHas_le hf ha (b := (b : Int)) (by omega) (by omega) h; omega
    have hmt : markTo g b a (mark0 a) = mark0 a := by
      cases a with
      | zero => rfl
      | succ a => rw [markTo, if_neg (by omega)]
    rw [e, hmt, hm]; simp; omega
theorem upHas_small {g : List (List Int)} (hf : fine g = true) {a b : Nat} (ha : a < 3 + g.length) (hb : b < 64) (hne : a ≠ b) (hb0 : b ≠ 0) (h : a < 3 ∨ b < 3) : upHas g a b = false := by
  cases hq : upHas g a b with
  | false => rfl
  | true => have := upHas_le hf ha (b := (b : Int)) (by omega) (by omega) hq; omega
end Go.Proofs
namespace Go.Proofs
open Go Go.W Go.V
theorem markPs_succ (ab : List Bool) (ps : List Int) {i : Nat} (h : i < ps.length) : markPs ab (ps.take (i + 1)) = (markPs ab (ps.take i)).set ps[i].toNat true := by
  rw [markPs, take_succ h, List.foldl_append]; rfl
theorem s_ref03_BelowOf {g : List (List Int)} (hf : fine g = true) {a b : Nat} (ha : a < 3 + g.length) (hb : b < 3 + g.length) : V.Spec Tryz.prog Fc.ref03_BelowOf [rows g, V.int a, V.int b] [] (V.bool (upHas g a b)) [] := by
  have h16 := fine_len hf
  refine V.Spec.enter Tryz.tabOK Tryz.mixed Fn.ref03_BelowOf rfl rfl rfl fun B hB => ?_
  repeat' (with_reducible first | refine OL.st ?_ | refine OL.alloc ?_ | refine TC.region ?_ | refine TC.seq ?_ | refine OL.nil ?_ | refine TX.thenN ?_ | refine TC.skip ?_ | refine TC.ifT ?_ | refine OL.gOn ?_ | refine OL.gOff ?_ | refine TC.ifD ?_ ?_ <;> (intro hc; try (exfalso; omega)) | refine OL.gD ?_ ?_ <;> (intro hc; try (exfalso; omega)) | refine TC.ret ?_ | refine TX.thenR ?_ | fail)
  · obtain rfl : a = b := by omega
    rw [upHas_self hf ha]
    exact TX.rt1 [] (.ren rfl)
  · obtain rfl : b = 0 := by omega
    have e : upHas g a ((0 : Nat) : Int) = true := upHas_zero hf ha
    rw [e]
    exact TX.rt1 [] (.ren rfl)
  · have e : upHas g a b = false := upHas_small hf ha (by omega) (by omega) (by omega) (.inl (by omega))
    rw [e]
    exact TX.rt1 [] (.ren rfl)
  · have e : upHas g a b = false := upHas_small hf ha (by omega) (by omega) (by omega) (.inr (by omega))
    rw [e]
    exact TX.rt1 [] (.ren rfl)
  · have hl0 : (mark0 a).length = 19 := by simp [mark0]
    refine OL.eqη (η' := [.cb 174 ((List.replicate 19 false).map V.bool)]) rfl ?_
    refine OL.idxB (len := 19) a rfl (by omega) ?_
    refine OL.stB (n := a) (ab := List.replicate 19 false) (by simp; omega) ?_
    repeat' (with_reducible first | refine OL.st ?_ | refine TC.region ?_ | refine TC.seq ?_ | refine OL.nil ?_ | refine TX.thenN ?_ | refine TC.block ?_ | fail)
    refine TC.lp (fun s : Nat × List Bool => [(0, rows g), (2, V.int b), (7, .bp 0 0), (8, V.int s.1)]) (fun s => [.cb 174 (s.2.map V.bool)]) (fun s => s.2.length = 19 ∧ s.1 < 3 + g.length ∧ markTo g b s.1 s.2 = markTo g b a (mark0 a)) (fun s => s.1) (a, mark0 a) [0] ⟨hl0, ha, rfl⟩ ?_ (ho := ⟨⟨_, rfl, OE.bools rfl⟩, trivial⟩)
    rintro ⟨c, ab⟩ ⟨hl, hc, hinv⟩
    dsimp only at hl hc hinv ⊢
    repeat' (with_reducible first | refine OL.st ?_ | refine TC.region ?_ | refine TC.seq ?_ | refine OL.nil ?_ | refine TX.thenN ?_ | refine TC.block ?_ | refine TC.skip ?_ | refine TC.exit ?_ | refine TX.hit ?_ | refine TX.thenX ?_ | refine TC.ifD ?_ ?_ <;> (intro hc; try (exfalso; omega)) | fail)
    · obtain ⟨c, rfl⟩ : ∃ c', c = c' + 1 := ⟨c - 1, by omega⟩
      rw [markTo, if_pos (by omega)] at hinv
      have hps := fine_pOf hf (c := ((c + 1 : Nat) : Int)) (by omega)
      have hpg : ∀ h : ((c + 1 : Nat) - 3 : Int).toNat < g.length, g[((c + 1 : Nat) - 3 : Int).toNat]'h = pOf g ((c + 1 : Nat) : Int) := fun h => by
        rw [pOf_ge (by omega), getD_lt h]
      generalize hpe : pOf g ((c + 1 : Nat) : Int) = ps at *
      refine TC.lp (fun i : Nat => [(0, rows g), (2, V.int b), (7, .bp 0 0), (8, V.int ((c + 1 : Nat) : Int)), (9, V.int i)]) (fun i => [.cb 174 ((markPs ab (ps.take i)).map V.bool)]) (fun i => i ≤ ps.length ∧ (ab.getD (c + 1) false = false → i = 0)) (fun i => ps.length - i) 0 [0] ⟨Nat.zero_le _, fun _ => rfl⟩ ?_ (ho := ⟨⟨_, rfl, OE.bools rfl⟩, trivial⟩)
      rintro i ⟨hi, hz⟩
      have hml := markPs_length (ps.take i) ab
      have hmc : (markPs ab (ps.take i)).getD (c + 1) false = ab.getD (c + 1) false := by
        rw [markPs_get _ _ _ fun p hp => by have := hps.2.1 p (List.mem_of_mem_take hp); omega]
        have : (ps.take i).any (fun p => p == ((c + 1 : Nat) : Int)) = false := by
          rw [List.any_eq_false]
          intro p hp
          have := hps.2.1 p (List.mem_of_mem_take hp)
          simp; omega
        rw [this, Bool.or_false]
      repeat' (with_reducible first | refine OL.st ?_ | refine TC.region ?_ | refine TC.seq ?_ | fail)
      refine OL.idxB (len := 19) (c + 1) rfl (by omega) ?_
      refine OL.ldB (n := c + 1) (ab := markPs ab (ps.take i)) (by omega) ?_
      rw [hmc]
      cases hm : ab.getD (c + 1) false
      · obtain rfl : i = 0 := hz hm
        rw [hm, if_neg (by decide)] at hinv
        repeat' (with_reducible first | refine OL.st ?_ | refine TC.region ?_ | refine OL.nil ?_ | refine TX.thenN ?_ | refine TX.blkN ?_ | refine TC.exit ?_ | refine TX.hit ?_ | refine TX.thenX ?_ | refine TC.ifF ?_ | refine OL.gOff ?_ | fail)
        exact TX.rd (c, ab) [0] ⟨hl, by dsimp only; omega, hinv⟩ (by dsimp only; omega) (ho := ⟨⟨_, rfl, OE.bools rfl⟩, trivial⟩)
      · rw [hm, if_pos rfl] at hinv
        have hlt3 : ((c + 1 : Nat) - 3 : Int).toNat < g.length := by omega
        have hpi := hpg hlt3
        repeat' (with_reducible first | refine OL.st ?_ | refine TC.region ?_ | refine TC.seq ?_ | refine OL.nil ?_ | refine TX.thenN ?_ | refine TC.block ?_ | refine TC.skip ?_ | refine TX.blkN ?_ | refine TC.exit ?_ | refine TX.hit ?_ | refine TX.thenX ?_ | refine OL.gOn ?_ | refine TC.ifD ?_ ?_ <;> (intro hc; try (exfalso; omega)) | fail)
        · simp only [hpi] at hc ⊢
          have hpb := hps.2.1 ps[i] (List.getElem_mem (by omega))
          refine OL.idxB (len := 19) (j := ps[i]'(by omega)) (ps[i]'(by omega)).toNat (by omega) (by omega) ?_
          refine OL.stB (n := (ps[i]'(by omega)).toNat) (ab := markPs ab (ps.take i)) (by omega) ?_
          rw [← markPs_succ ab ps (by omega)]
          repeat' (with_reducible first | refine OL.st ?_ | refine TC.region ?_ | refine OL.nil ?_ | refine TX.thenN ?_ | refine TX.blkN ?_ | fail)
          exact TX.rd (i + 1) [0] ⟨by omega, fun h => by first | cases h | (rw [hm] at h; cases h)⟩ (by omega) (ho := ⟨⟨_, rfl, OE.bools rfl⟩, trivial⟩)
        · simp only [hpi] at hc
          exact TX.rd (c, markPs ab ps) [0] ⟨by dsimp only; rw [markPs_length]; exact hl, by dsimp only; omega, hinv⟩ (by dsimp only; omega) (ho := ⟨⟨_, rfl, OE.bools (by rw [take_all (by omega)])⟩, trivial⟩)
    · have e : ab.getD b false = upHas g a b := by
        rw [← below_law hf ha (by omega) (by omega) (by omega), ← hinv]
        cases c with
        | zero => rfl
        | succ c => rw [markTo, if_neg (by omega)]
      refine OL.idxB (len := 19) b rfl (by omega) ?_
      refine OL.ldB (n := b) (ab := ab) (by omega) ?_
      rw [e]
      repeat' (with_reducible first | refine OL.st ?_ | refine OL.nil ?_ | refine TX.thenN ?_ | refine TC.ret ?_ | fail)
      exact TX.rt1 [] (.ren rfl)
end Go.Proofs
namespace Go.Proofs
open Go Go.W Go.V
def clsAt (l : List Cls) (k : Nat) : Cls := l.getD k ([], [], [])
def ownSl (l : List Cls) (c : Nat) (s : Int) (k : Nat) : Bool := (clsAt l k).2.1.contains s && upHas (graphOf l) c ((3 + k : Nat) : Int)
def slotsOfN (l : List Cls) (c : Nat) (s : Int) (n : Nat) : List Int := (List.range n).flatMap fun k => if ownSl l c s k then [s] else []
def slotsTo (l : List Cls) (c n : Nat) : List Int := (upto n).flatMap fun s => slotsOfN l c s l.length
def slotsOf (l : List Cls) (c : Nat) : List Int := slotsTo l c 40
theorem slotsOfN_succ (l : List Cls) (c : Nat) (s : Int) (n : Nat) : slotsOfN l c s (n + 1) = slotsOfN l c s n ++ (if ownSl l c s n then [s] else []) := by rw [slotsOfN, List.range_succ, List.flatMap_append, ← slotsOfN]; simp
theorem slotsTo_succ (l : List Cls) (c n : Nat) : slotsTo l c (n + 1) = slotsTo l c n ++ slotsOfN l c n l.length := by rw [slotsTo, upto_succ, List.flatMap_append, ← slotsTo]; simp
theorem slotsOfN_len (l : List Cls) (c : Nat) (s : Int) : ∀ n, (slotsOfN l c s n).length ≤ n
  | 0 => by simp [slotsOfN]
  | n + 1 => by
    rw [slotsOfN_succ, List.length_append]
    have := slotsOfN_len l c s n
    split <;> simp <;> omega
theorem slotsTo_len (l : List Cls) (c : Nat) : ∀ n, (slotsTo l c n).length ≤ n * l.length
  | 0 => by simp [slotsTo, upto]
  | n + 1 => by
    rw [slotsTo_succ, List.length_append]
    have := slotsTo_len l c n
    have := slotsOfN_len l c n l.length
    have h9 : (n + 1) * l.length = n * l.length + l.length := Nat.succ_mul _ _
    omega
theorem mem_slotsTo {l : List Cls} {c n : Nat} {s : Int} : s ∈ slotsTo l c n ↔ (0 ≤ s ∧ s < (n : Int)) ∧ ∃ k, k < l.length ∧ ownSl l c s k = true := by
  simp only [slotsTo, slotsOfN, upto, List.mem_flatMap, List.mem_map, List.mem_range]
  constructor
  · rintro ⟨_, ⟨q, hq, rfl⟩, k, hk, h⟩
    split at h
    · rename_i ho
      simp only [List.mem_singleton] at h
      subst h
      exact ⟨by omega, k, hk, ho⟩
    · simp at h
  · rintro ⟨h1, k, hk, ho⟩
    exact ⟨s, ⟨s.toNat, by omega, by omega⟩, k, hk, by rw [if_pos ho]; simp⟩
theorem s_ref17_SlotsOf {l : List Cls} (hf : fine (graphOf l) = true) {c : Nat} (hc : c < 3 + l.length) : V.Spec Tryz.prog Fc.ref17_SlotsOf [clssA l, V.int c] [] (ints (slotsOf l c)) [] := by
  have h16 := fine_len hf
  have hgl : (graphOf l).length = l.length := by simp [graphOf]
  rw [hgl] at h16
  have hg := s_ref17_Graph l (by omega)
  have hbe := fun k (hk : k < l.length) => s_ref03_BelowOf hf (a := c) (b := 3 + k) (by omega) (by omega)
  have hhas := fun k (hk : k < l.length) s => s_ref03_Has l[k].2.1 s
  have hown : ∀ s k (hk : k < l.length), ownSl l c s k = (l[k].2.1.contains s && upHas (graphOf l) c ((3 + k : Nat) : Int)) := fun s k hk => by rw [ownSl, clsAt, getD_lt hk]
  refine V.Spec.enter Tryz.tabOK Tryz.mixed Fn.ref17_SlotsOf rfl rfl rfl fun B hB => ?_
  repeat' (with_reducible first | refine OL.st ?_ | refine TC.region ?_ | refine TC.seq ?_ | refine OL.nil ?_ | refine TX.thenN ?_ | fail)
  refine OL.c hg Fn.ref17_Graph ?_
  repeat' (with_reducible first | refine OL.st ?_ | refine TC.region ?_ | refine TC.seq ?_ | refine OL.nil ?_ | refine TX.thenN ?_ | refine TC.block ?_ | fail)
  refine TC.adp 5 Tc.int 1 ?_
  generalize graphOf l = g at *
  refine TC.lp (fun s : Nat => [(0, clssA l), (1, V.int c), (5, .hs 0), (6, rows g), (7, V.int s)]) (fun s => [.gs false Tc.int 1 none ((slotsTo l c s).map V.int)]) (fun s => s ≤ 40) (fun s => 40 - s) 0 [0] (Nat.zero_le _) ?_
  rintro s hs
  have htl := slotsTo_len l c s
  by_cases hs40 : s < 40
  · have hsu := slotsTo_succ l c s
    have h400 : s * l.length ≤ 40 * 16 := Nat.mul_le_mul (by omega) h16
    generalize slotsTo l c s = pre at *
    repeat' (with_reducible first | refine OL.st ?_ | refine TC.region ?_ | refine TC.seq ?_ | refine OL.nil ?_ | refine TX.thenN ?_ | refine TC.block ?_ | refine TC.skip ?_ | refine TC.ifD ?_ ?_ <;> (intro hc; try (exfalso; omega)) | fail)
    refine TC.lp (fun k : Nat => [(0, clssA l), (1, V.int c), (5, .hs 0), (6, rows g), (7, V.int s), (16, clssA l), (17, V.int l.length), (18, V.int k)]) (fun k => [.gs false Tc.int 1 none ((pre ++ slotsOfN l c s k).map V.int)]) (fun k => k ≤ l.length) (fun k => l.length - k) 0 [0] (Nat.zero_le _) ?_ (ho := ⟨⟨_, rfl, OE.gsS (by simp [slotsOfN])⟩, trivial⟩)
    rintro k hk
    have hnl := slotsOfN_len l c s k
    by_cases hkl : k < l.length
    · have hsn := slotsOfN_succ l c s k
      rw [hown s k hkl] at hsn
      have hh := hhas k hkl s
      have hb := hbe k hkl
      have hql : (pre ++ slotsOfN l c s k).length ≤ 1000 := by simp; omega
      have hsn2 : pre ++ slotsOfN l c s (k + 1) = (pre ++ slotsOfN l c s k) ++ (if (l[k].2.1.contains (s : Int) && upHas g c ((3 + k : Nat) : Int)) then [(s : Int)] else []) := by rw [hsn, List.append_assoc]
      generalize pre ++ slotsOfN l c s k = q at *
      have e3 : ((3 + k : Nat) : Int) = 3 + (k : Int) := by omega
      rw [e3] at hb hsn2
      repeat' (with_reducible first | refine OL.st ?_ | refine OL.alloc ?_ | refine OL.storeAgg ?_ | refine TC.region ?_ | refine TC.seq ?_ | refine OL.nil ?_ | refine TX.thenN ?_ | refine TC.block ?_ | refine TC.skip ?_ | refine TC.ifD ?_ ?_ <;> (intro hc; try (exfalso; omega)) | fail)
      refine OL.c hh Fn.ref03_Has ?_
      cases h1 : l[k].2.1.contains (s : Int)
      · have e : q.map V.int = (pre ++ slotsOfN l c s (k + 1)).map V.int := by rw [hsn2, h1]; simp
        repeat' (with_reducible first | refine OL.st ?_ | refine TC.region ?_ | refine OL.nil ?_ | refine TX.thenN ?_ | refine TC.skip ?_ | refine TX.blkN ?_ | refine TC.ifF ?_ | refine OL.gOff ?_ | fail)
        exact TX.rd (k + 1) [0] (by omega) (by omega)
      · repeat' (first | (with_reducible refine OL.st ?_) | (with_reducible refine OL.gOn ?_) | fail)
        refine OL.c hb Fn.ref03_BelowOf ?_
        cases h2 : upHas g c (3 + (k : Int))
        · have e : q.map V.int = (pre ++ slotsOfN l c s (k + 1)).map V.int := by rw [hsn2, h1, h2]; simp
          repeat' (with_reducible first | refine OL.st ?_ | refine TC.region ?_ | refine OL.nil ?_ | refine TX.thenN ?_ | refine TC.skip ?_ | refine TX.blkN ?_ | refine TC.ifF ?_ | fail)
          exact TX.rd (k + 1) [0] (by omega) (by omega)
        · have e : q.map V.int ++ [V.int (s : Int)] = (pre ++ slotsOfN l c s (k + 1)).map V.int := by rw [hsn2, h1, h2]; simp
          repeat' (with_reducible first | refine OL.st ?_ | refine OL.lit ?_ | refine OL.appO ?_ | refine TC.region ?_ | refine OL.nil ?_ | refine TX.thenN ?_ | refine TX.blkN ?_ | refine TC.ifT ?_ | fail)
          exact TX.rd (k + 1) [3] (by omega) (by omega)
    · obtain rfl : k = l.length := by omega
      rw [← hsu]
      repeat' (with_reducible first | refine OL.st ?_ | refine TC.region ?_ | refine TC.seq ?_ | refine OL.nil ?_ | refine TX.thenN ?_ | refine TX.blkN ?_ | refine TC.exit ?_ | refine TX.hit ?_ | refine TX.thenX ?_ | refine TC.ifD ?_ ?_ <;> (intro hc; try (exfalso; omega)) | fail)
      exact TX.rd (s + 1) [0] (by omega) (by omega)
  · obtain rfl : s = 40 := by omega
    repeat' (with_reducible first | refine OL.st ?_ | refine TC.region ?_ | refine TC.seq ?_ | refine OL.nil ?_ | refine TX.thenN ?_ | refine TC.exit ?_ | refine TX.hit ?_ | refine TX.thenX ?_ | refine TC.ifF ?_ | refine TC.ret ?_ | fail)
    refine TX.vw 4 ?_
    exact TX.rt1 [] (.ren rfl)
end Go.Proofs
