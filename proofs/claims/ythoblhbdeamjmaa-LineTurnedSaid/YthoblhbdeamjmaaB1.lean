/- Part 1 of what the claim is proved by: lemmas on the model and walks through functions of the program; no conditions. -/
import Derived.Test.YthoblhbdeamjmaaA1
/- LineKnown. -/
namespace Go.Proofs
open Go Go.W Go.V
theorem s_slices_Equal_Lint_int (la lb : List Int) : V.Spec Try.prog Fc.slices_Equal_Lint_int [ints la, ints lb] [] (V.bool (la == lb)) [] := by
  refine V.Spec.enter Try.tabOK Try.mixed Fn.slices_Equal_Lint_int rfl rfl rfl fun B hB => ?_
  refine TC.bl 0 fun hla => TC.bl 1 fun hlb => ?_
  repeat' (first
   | (with_reducible refine OL.st ?_)
   | (with_reducible refine TC.region ?_)
   | (with_reducible refine TC.seq ?_)
   | (with_reducible refine OL.nil ?_)
   | (with_reducible refine TX.thenN ?_)
   | (with_reducible refine TC.block ?_)
   | (with_reducible refine TC.skip ?_)
   | (with_reducible refine TC.ifD ?_ ?_ <;> (intro hc; try (exfalso; omega)))
   | (with_reducible refine TC.ret ?_)
   | (with_reducible refine TX.thenR ?_)
   | fail)
  · refine TX.rt1 [] (.bool ?_)
    have : la ≠ lb := fun e => by subst e; simp at hc
    simp [this]
  refine TC.lp (fun k : Nat => [(0, ints la), (1, ints lb), (12, V.int la.length), (13, V.int k)]) (fun _ => []) (fun k => k ≤ la.length ∧ la.take k = lb.take k) (fun k => la.length - k) 0 [] ⟨Nat.zero_le _, by simp⟩ ?_
  rintro k ⟨hk, hpre⟩
  have hleq : la.length = lb.length := by omega
  repeat' (first
   | (with_reducible refine OL.st ?_)
   | (with_reducible refine TC.region ?_)
   | (with_reducible refine TC.seq ?_)
   | (with_reducible refine OL.nil ?_)
   | (with_reducible refine TX.thenN ?_)
   | (with_reducible refine TC.block ?_)
   | (with_reducible refine TC.skip ?_)
   | (with_reducible refine TX.blkN ?_)
   | (with_reducible refine TC.exit ?_)
   | (with_reducible refine TX.hit ?_)
   | (with_reducible refine TX.thenX ?_)
   | (with_reducible refine TC.ifD ?_ ?_ <;> (intro hc; try (exfalso; omega)))
   | (with_reducible refine TC.ret ?_)
   | (with_reducible refine TX.thenR ?_)
   | (with_reducible refine TX.blkR ?_)
   | ((with_reducible refine TC.draw (id := 6) true 9 9 ?_) <;> (with_reducible refine OD.st 0 ?_) <;> (with_reducible refine OD.st 1 ?_) <;> (with_reducible refine OD.st 2 ?_) <;> (with_reducible refine OD.st 3 ?_) <;> (with_reducible refine OD.st 4 ?_) <;> (with_reducible refine OD.st 5 ?_) <;> (with_reducible refine OD.st 6 ?_) <;> (with_reducible refine OD.st 7 ?_) <;> (with_reducible refine OD.st 8 ?_) <;> (with_reducible refine OD.dn ?_))
   | fail)
  · refine TX.rt1 [] (.bool ?_)
    have : la ≠ lb := fun e => by subst e; exact hc rfl
    simp [this]
  · refine TX.rd (k + 1) [] ⟨by omega, ?_⟩ (by omega)
    have hc : la[k] = lb[k] := by simpa using hc
    rw [take_succ (by omega), take_succ (by omega), hpre, hc]
  · refine TX.rt1 [] (.bool ?_)
    have e : la = lb := by
      rw [← take_all (l := la) (k := k) (by omega), ← take_all (l := lb) (k := k) (by omega)]
      exact hpre
    simp [e]
theorem same_e (l : List Int) : V.Spec Try.prog Fc.slices_Equal_Lint_int [ints l, ints l] [] (V.bool true) [] := by
  have := s_slices_Equal_Lint_int l l
  rwa [beq_self_eq_true] at this
theorem k_und : (undR small 3, okE (oks small [3])) = ([3, 4, 5, 6], 0) := by decide +kernel
theorem k_abo : (aboR small 6, okE (oks small [6])) = ([0, 3, 4, 5, 6], 0) := by decide +kernel
theorem k_ir1 : (irB twice 8 [5, 4], irE twice 8) = (true, 0) := by decide +kernel
theorem k_ir2 : (irB twice 8 [4, 5, 6], irE twice 8) = (false, 0) := by decide +kernel
theorem k_ag1 : (agR small 6 [6, 5, 4, 3, 0], agE small 6) = (false, 0) := by decide +kernel
theorem k_ag2 : (agR small 6 [6, 4, 5, 3, 0], agE small 6) = (true, 0) := by decide +kernel
theorem k_hei : (heirsR small [4, 5], okE (asks small [4, 5])) = ([6], 0) := by decide +kernel
theorem k_lea : (leastL small [1, 6], leastE small [1, 6]) = ([0], 0) := by decide +kernel
set_option maxHeartbeats 2000000 in
theorem s_law03_LineKnown : V.Spec Try.prog Fc.law03_LineKnown [] [] (V.bool true) [] := by
  have h1 := s_line_Under small 3
  have h2 := s_line_Above small 6
  have h3 := s_line_IsRing twice 8 [5, 4]
  have h4 := s_line_IsRing twice 8 [4, 5, 6]
  have h5 := s_line_Agrees small 6 [6, 5, 4, 3, 0]
  have h6 := s_line_Agrees small 6 [6, 4, 5, 3, 0]
  have h7 := s_line_Heirs small [4, 5]
  have h8 := s_line_Least small [1, 6]
  rw [(Prod.mk.inj k_und).1, (Prod.mk.inj k_und).2] at h1
  rw [(Prod.mk.inj k_abo).1, (Prod.mk.inj k_abo).2] at h2
  rw [(Prod.mk.inj k_ir1).1, (Prod.mk.inj k_ir1).2] at h3
  rw [(Prod.mk.inj k_ir2).1, (Prod.mk.inj k_ir2).2] at h4
  rw [(Prod.mk.inj k_ag1).1, (Prod.mk.inj k_ag1).2] at h5
  rw [(Prod.mk.inj k_ag2).1, (Prod.mk.inj k_ag2).2] at h6
  rw [(Prod.mk.inj k_hei).1, (Prod.mk.inj k_hei).2] at h7
  rw [(Prod.mk.inj k_lea).1, (Prod.mk.inj k_lea).2] at h8
  refine V.Spec.enter Try.tabOK Try.mixed Fn.law03_LineKnown rfl rfl rfl fun B hB => ?_
  repeat' (first
   | (with_reducible refine OL.st ?_)
   | (with_reducible refine TC.region ?_)
   | (with_reducible refine TC.seq ?_)
   | (with_reducible refine OL.nil ?_)
   | (with_reducible refine TX.thenN ?_)
   | fail)
  refine OL.c s_law03_Small Fn.law03_Small ?_
  refine OL.vw 11 ?_
  refine OL.kn (x := .sl 1 none [.raw (.slice none 0 0), ints [3], ints [3], ints [4, 5]]) (y := rows small) 11 (LE.sls ⟨.nil (by decide), .ren rfl, .ren rfl, .ren rfl, trivial⟩ rfl rfl) ?_
  skip
  refine OL.c s_law03_Twice Fn.law03_Twice ?_
  repeat' (first
   | (with_reducible refine OL.st ?_)
   | (with_reducible refine TC.region ?_)
   | (with_reducible refine TC.seq ?_)
   | (with_reducible refine OL.nil ?_)
   | (with_reducible refine TX.thenN ?_)
   | fail)
  refine OL.c h1 Fn.line_Under ?_
  repeat' (first
   | (with_reducible refine OL.st ?_)
   | (with_reducible refine TC.region ?_)
   | (with_reducible refine TC.seq ?_)
   | (with_reducible refine OL.nil ?_)
   | (with_reducible refine TX.thenN ?_)
   | fail)
  refine OL.c h2 Fn.line_Above ?_
  repeat' (first
   | (with_reducible refine OL.st ?_)
   | (with_reducible refine OL.lit ?_)
   | (with_reducible refine TC.region ?_)
   | (with_reducible refine TC.seq ?_)
   | (with_reducible refine OL.nil ?_)
   | (with_reducible refine TX.thenN ?_)
   | fail)
  refine OL.vwA 2 ?_
  refine OL.c h3 Fn.line_IsRing ?_
  repeat' (first
   | (with_reducible refine OL.st ?_)
   | (with_reducible refine OL.lit ?_)
   | (with_reducible refine TC.region ?_)
   | (with_reducible refine TC.seq ?_)
   | (with_reducible refine OL.nil ?_)
   | (with_reducible refine TX.thenN ?_)
   | fail)
  refine OL.vwA 2 ?_
  refine OL.c h4 Fn.line_IsRing ?_
  repeat' (first
   | (with_reducible refine OL.st ?_)
   | (with_reducible refine OL.lit ?_)
   | (with_reducible refine TC.region ?_)
   | (with_reducible refine TC.seq ?_)
   | (with_reducible refine OL.nil ?_)
   | (with_reducible refine TX.thenN ?_)
   | (with_reducible refine OL.gOn ?_)
   | fail)
  refine OL.vwA 1 ?_
  refine OL.c (same_e [3, 4, 5, 6]) Fn.slices_Equal_Lint_int ?_
  repeat' (first
   | (with_reducible refine OL.st ?_)
   | (with_reducible refine OL.lit ?_)
   | (with_reducible refine OL.gOn ?_)
   | fail)
  refine OL.vwA 1 ?_
  refine OL.c (same_e [0, 3, 4, 5, 6]) Fn.slices_Equal_Lint_int ?_
  repeat' (first
   | (with_reducible refine OL.st ?_)
   | (with_reducible refine OL.lit ?_)
   | (with_reducible refine TC.region ?_)
   | (with_reducible refine TC.seq ?_)
   | (with_reducible refine OL.nil ?_)
   | (with_reducible refine TX.thenN ?_)
   | (with_reducible refine TC.skip ?_)
   | (with_reducible refine TC.ifF ?_)
   | (with_reducible refine OL.gOn ?_)
   | fail)
  refine OL.vwA 2 ?_
  refine OL.c h5 Fn.line_Agrees ?_
  repeat' (first
   | (with_reducible refine OL.st ?_)
   | (with_reducible refine OL.lit ?_)
   | (with_reducible refine TC.region ?_)
   | (with_reducible refine TC.seq ?_)
   | (with_reducible refine OL.nil ?_)
   | (with_reducible refine TX.thenN ?_)
   | fail)
  refine OL.vwA 2 ?_
  refine OL.c h6 Fn.line_Agrees ?_
  repeat' (first
   | (with_reducible refine OL.st ?_)
   | (with_reducible refine OL.lit ?_)
   | (with_reducible refine TC.region ?_)
   | (with_reducible refine TC.seq ?_)
   | (with_reducible refine OL.nil ?_)
   | (with_reducible refine TX.thenN ?_)
   | fail)
  refine OL.vwA 1 ?_
  refine OL.c h7 Fn.line_Heirs ?_
  repeat' (first
   | (with_reducible refine OL.st ?_)
   | (with_reducible refine OL.lit ?_)
   | (with_reducible refine TC.region ?_)
   | (with_reducible refine TC.seq ?_)
   | (with_reducible refine OL.nil ?_)
   | (with_reducible refine TX.thenN ?_)
   | fail)
  refine OL.vwA 1 ?_
  refine OL.c h8 Fn.line_Least ?_
  repeat' (first
   | (with_reducible refine OL.st ?_)
   | (with_reducible refine OL.lit ?_)
   | (with_reducible refine TC.region ?_)
   | (with_reducible refine TC.seq ?_)
   | (with_reducible refine OL.nil ?_)
   | (with_reducible refine TX.thenN ?_)
   | (with_reducible refine OL.gOn ?_)
   | fail)
  refine OL.vwA 1 ?_
  refine OL.c (same_e [6]) Fn.slices_Equal_Lint_int ?_
  repeat' (first
   | (with_reducible refine OL.st ?_)
   | (with_reducible refine OL.lit ?_)
   | (with_reducible refine OL.gOn ?_)
   | fail)
  refine OL.vwA 1 ?_
  refine OL.c (same_e [0]) Fn.slices_Equal_Lint_int ?_
  repeat' (first | (with_reducible refine OL.st ?_) | (with_reducible refine OL.gOn ?_) | fail)
  refine OL.c s_law03_works Fn.law03_works ?_
  repeat' (first
   | (with_reducible refine OL.st ?_)
   | (with_reducible refine OL.nil ?_)
   | (with_reducible refine TX.thenN ?_)
   | (with_reducible refine TC.ret ?_)
   | fail)
  exact TX.rt1 [] (.ren rfl)
end Go.Proofs
