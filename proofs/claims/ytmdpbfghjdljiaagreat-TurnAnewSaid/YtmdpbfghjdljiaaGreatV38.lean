/- Part 38 of what the claim is proved by: lemmas on the model and walks through functions of the program; no conditions. -/
import Derived.Test.YtmdpbfghjdljiaaGreatV29
import Derived.Test.YtmdpbfghjdljiaaGreatV35
import Derived.Test.YtmdpbfghjdljiaaGreatV34
import Derived.Test.YtmdpbfghjdljiaaGreatV36
import Derived.Test.YtmdpbfghjdljiaaGreatV37
import Derived.Test.YtmdpbfghjdljiaaGreatV13
namespace Go.Proofs
open Go Go.W Go.V
instance decCls : DecidableEq Cls := inferInstance
instance decThing : DecidableEq Thing := inferInstance
instance decSch : DecidableEq (List (List Cls)) := inferInstance
instance decTh : DecidableEq (List Thing) := inferInstance
instance decWld : DecidableEq Wld := inferInstance
abbrev cls0 : Cls := ([], [], [])
def schS : List Cls := [([], [0, 1], [(0, 5)]), ([3], [2], [])]
abbrev stNew (c : Int) : Step := ⟨2, 0, c, 0, (0, 0), cls0⟩
abbrev stPut (sl n : Int) : Step := ⟨4, 0, 0, sl, (1, n), cls0⟩
abbrev stGet (sl : Int) : Step := ⟨3, 0, 0, sl, (0, 0), cls0⟩
abbrev stMake (c : Int) (k : Cls) : Step := ⟨1, 0, c, 0, (0, 0), k⟩
theorem k_start : startX schS true = ((true, [schS], []), 0) := by decide +kernel
theorem k_do : doX true [schS] [] (stNew 4) = ((true, [schS], [(4, 0, [(1, 5), (2, 0), (2, 0)])]), (3, 0), 0) := by decide +kernel
abbrev defK : Cls := ([], [1, 3], [(3, 4)])
theorem k_play1 : (playX true [schS] [] [stNew 4, stPut 0 7, stPut 2 8, stMake 3 defK, stGet 3, stGet 0]).2 = ([(3, 0), (1, 7), (1, 8), (2, 0), (1, 4), (0, 0)], [0, 0, 0, 0, 0, 5], 0) := by decide +kernel
theorem k_play1t : (playX true [schS] [] [stNew 4, stPut 0 7, stPut 2 8, stMake 3 defK, stGet 3, stGet 0]).1.2.2 = [(4, 1, [(2, 0), (1, 8), (1, 4)])] := by decide +kernel
abbrev lessK : Cls := ([], [1], [])
abbrev againK : Cls := ([], [0, 1], [(0, 6)])
def schS2 : List (List Cls) := [schS, [lessK, ([3], [2], [])], [againK, ([3], [2], [])]]
theorem k_play2 : (playX true [schS] [] [stNew 3, stPut 0 7, stMake 3 lessK, stMake 3 againK, stGet 0]).2 = ([(3, 0), (1, 7), (2, 0), (2, 0), (1, 6)], [0, 0, 0, 0, 0], 0) := by decide +kernel
theorem k_play2s : (playX true [schS] [] [stNew 3, stPut 0 7, stMake 3 lessK, stMake 3 againK, stGet 0]).1.2.1 = schS2 := by decide +kernel
theorem k_map1 : mapX schS2 3 0 2 = ([(0, -1, 1, 6), (1, 1, 0, 0)], 0) := by decide +kernel
theorem k_map2 : mapX schS2 3 0 0 = ([(0, 0, 0, 0), (1, 1, 0, 0)], 0) := by decide +kernel
end Go.Proofs
namespace Go.Proofs
open Go Go.W Go.V
theorem s_law17_num (n : Int) : V.Spec Tryz.prog Fc.law17_num [V.int n] [] (valA (1, n)) [] := by
  refine V.Spec.enter Tryz.tabOK Tryz.mixed Fn.law17_num rfl rfl rfl fun B hB => ?_
  repeat' (with_reducible first | refine OL.st ?_ | refine OL.alloc ?_ | refine OL.storeAgg ?_ | refine OL.build ?_ | refine TC.region ?_ | refine TC.seq ?_ | refine OL.nil ?_ | refine TX.thenN ?_ | refine TC.ret ?_ | fail)
  exact TX.rtc [] (.ren rfl)
theorem s_law17_none : V.Spec Tryz.prog Fc.law17_none [] [] (valA (2, 0)) [] := by
  refine V.Spec.enter Tryz.tabOK Tryz.mixed Fn.law17_none rfl rfl rfl fun B hB => ?_
  repeat' (with_reducible first | refine OL.alloc ?_ | refine OL.storeAgg ?_ | refine OL.build ?_ | refine TC.region ?_ | refine TC.seq ?_ | refine OL.nil ?_ | refine TX.thenN ?_ | refine TC.ret ?_ | fail)
  exact TX.rtc [] (.ren rfl)
theorem s_law17_obj (n : Int) : V.Spec Tryz.prog Fc.law17_obj [V.int n] [] (valA (3, n)) [] := by
  refine V.Spec.enter Tryz.tabOK Tryz.mixed Fn.law17_obj rfl rfl rfl fun B hB => ?_
  repeat' (with_reducible first | refine OL.st ?_ | refine OL.alloc ?_ | refine OL.storeAgg ?_ | refine OL.build ?_ | refine TC.region ?_ | refine TC.seq ?_ | refine OL.nil ?_ | refine TX.thenN ?_ | refine TC.ret ?_ | fail)
  exact TX.rtc [] (.ren rfl)
theorem LE.step0 {τ : Nat → Option Nat} (d th c sl v1 v2 : Int) : LE τ (.st [V.int d, V.int th, V.int c, V.int sl, V.int v1, V.int v2, .raw (.slice none 0 0), .raw (.slice none 0 0), .raw (.slice none 0 0)]) (stepA ⟨d, th, c, sl, (v1, v2), cls0⟩) :=
  LE.st ⟨.ren rfl, .ren rfl, .ren rfl, .ren rfl, .ren rfl, .ren rfl, .nil (by decide), .nil (by decide), .nil (by decide), trivial⟩
theorem s_law17_Put (sl n : Int) : V.Spec Tryz.prog Fc.law17_Put [V.int sl, V.int n] [] (stepA (stPut sl n)) [] := by
  refine V.Spec.enter Tryz.tabOK Tryz.mixed Fn.law17_Put rfl rfl rfl fun B hB => ?_
  repeat' (with_reducible first | refine OL.st ?_ | refine OL.alloc ?_ | refine OL.storeAgg ?_ | refine OL.build ?_ | refine TC.region ?_ | refine TC.seq ?_ | refine OL.nil ?_ | refine TX.thenN ?_ | refine TC.ret ?_ | fail)
  exact TX.rtc [] (LE.step0 _ _ _ _ _ _)
theorem s_law17_Get (sl : Int) : V.Spec Tryz.prog Fc.law17_Get [V.int sl] [] (stepA (stGet sl)) [] := by
  refine V.Spec.enter Tryz.tabOK Tryz.mixed Fn.law17_Get rfl rfl rfl fun B hB => ?_
  repeat' (with_reducible first | refine OL.st ?_ | refine OL.alloc ?_ | refine OL.storeAgg ?_ | refine OL.build ?_ | refine TC.region ?_ | refine TC.seq ?_ | refine OL.nil ?_ | refine TX.thenN ?_ | refine TC.ret ?_ | fail)
  exact TX.rtc [] (LE.step0 _ _ _ _ _ _)
theorem s_law17_Make (c : Int) (k : Cls) : V.Spec Tryz.prog Fc.law17_Make [V.int c, clsA k] [] (stepA (stMake c k)) [] := by
  refine V.Spec.enter Tryz.tabOK Tryz.mixed Fn.law17_Make rfl rfl rfl fun B hB => ?_
  repeat' (with_reducible first | refine OL.st ?_ | refine OL.box ?_ | refine OL.alloc ?_ | refine OL.storeAgg ?_ | refine OL.build ?_ | refine TC.region ?_ | refine TC.seq ?_ | refine OL.nil ?_ | refine TX.thenN ?_ | refine TC.ret ?_ | fail)
  exact TX.rtc [] (.ren rfl)
theorem s_law17_Schema : V.Spec Tryz.prog Fc.law17_Schema [] [] (clssA schS) [] := by
  refine V.Spec.enter Tryz.tabOK Tryz.mixed Fn.law17_Schema rfl rfl rfl fun B hB => ?_
  repeat' (with_reducible first | refine OL.st ?_ | refine OL.lit ?_ | refine OL.build ?_ | refine TC.region ?_ | refine TC.seq ?_ | refine OL.nil ?_ | refine TX.thenN ?_ | fail)
  refine OL.vwS 4 1 ?_
  refine OL.vwS 4 2 ?_
  refine OL.vwS 7 0 ?_
  refine OL.vwS 7 1 ?_
  refine OL.lit ?_
  repeat' (with_reducible first | refine OL.st ?_ | refine OL.nil ?_ | refine TX.thenN ?_ | refine TC.ret ?_ | fail)
  refine TX.vw 0 ?_
  refine TX.kn (x := .sl 3 none [.st [.raw (.slice none 0 0), ints [0, 1], initsA [(0, 5)]], .st [ints [3], ints [2], .raw (.slice none 0 0)]]) (y := clssA schS) 0 (LE.slc ⟨⟨.nil (by decide), .ren rfl, .ren rfl, trivial⟩, ⟨.ren rfl, .ren rfl, .nil (by decide), trivial⟩, trivial⟩) ?_
  exact TX.rt1 [] (.ren rfl)
theorem short0 : Short schS := ⟨by decide, fun c hc => by
  simp only [schS, List.mem_cons, List.not_mem_nil, or_false] at hc
  rcases hc with rfl | rfl <;> exact ⟨by decide, by decide, by decide⟩⟩
theorem shortK (k : Cls) (h1 : k.1.length ≤ 100) (h2 : k.2.1.length ≤ 100) (h3 : k.2.2.length ≤ 100) : ShortC k := ⟨by omega, by omega, by omega⟩
theorem short1 : ∀ s ∈ [schS], Short s := fun s hs => by
  rw [List.mem_singleton] at hs; subst hs; exact short0
end Go.Proofs
