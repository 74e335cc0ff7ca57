/- Part 32 of what the claim is proved by: lemmas on the model and walks through functions of the program; no conditions. -/
import Derived.Test.YtmdpbfghjdljiaaGreatQ13
import Derived.Test.YtmdpbfghjdljiaaGreatQ17
import Derived.Test.YtmdpbfghjdljiaaGreatQ31
namespace Go.Proofs
open Go Go.W Go.V
theorem st1:V.Spec Tryz.prog 45 [thingA (4,0,[(1,5),(2,0),(2,0)]),thingA (4,0,[(1,5),(2,0),(2,0)])] [] (V.bool true) []:=by
 have h:=s_ref17_SameThing (4,0,[(1,5),(2,0),(2,0)]) (4,0,[(1,5),(2,0),(2,0)])
 rwa [beq_self_eq_true] at h
theorem st2:V.Spec Tryz.prog 45 [thingA (4,1,[(2,0),(1,8),(1,4)]),thingA (4,1,[(2,0),(1,8),(1,4)])] [] (V.bool true) []:=by
 have h:=s_ref17_SameThing (4,1,[(2,0),(1,8),(1,4)]) (4,1,[(2,0),(1,8),(1,4)])
 rwa [beq_self_eq_true] at h
theorem sv1:V.Spec Tryz.prog 22 [valsA [(3,0),(1,7),(1,8),(2,0),(1,4),(0,0)],valsA [(3,0),(1,7),(1,8),(2,0),(1,4),(0,0)]] [] (V.bool true) []:=by
 have h:=s_ref17_SameVals [(3,0),(1,7),(1,8),(2,0),(1,4),(0,0)] [(3,0),(1,7),(1,8),(2,0),(1,4),(0,0)]
 rwa [beq_self_eq_true] at h
theorem se1:V.Spec Tryz.prog 23 [ints [0,0,0,0,0,5],ints [0,0,0,0,0,5]] [] (V.bool true) []:=by
 have h:=s_ref17_SameErrs [0,0,0,0,0,5] [0,0,0,0,0,5]
 rwa [beq_self_eq_true] at h
theorem sm1 (l:List From):V.Spec Tryz.prog 26 [fromsA l,fromsA l] [] (V.bool true) []:=by
 have h:=s_ref17_SameMap l l
 rwa [beq_self_eq_true] at h
abbrev steps1:List Step:=[stNew 4,stPut 0 7,stPut 2 8,stMake 3 defK,stGet 3,stGet 0]
abbrev steps2:List Step:=[stNew 3,stPut 0 7,stMake 3 lessK,stMake 3 againK,stGet 0]
theorem play1:∃ lz sx,V.Spec Tryz.prog 20 [wlA true [schS] [],stepsA steps1] [] (.tp [.st [V.bool lz,schsA sx,thingsA [(4,1,[(2,0),(1,8),(1,4)])]],valsA [(3,0),(1,7),(1,8),(2,0),(1,4),(0,0)],ints [0,0,0,0,0,5],V.int 0]) []:=by
 have h:=s_turn_Play true [schS] [] short1 steps1 (fun s hs=>by
  simp only [steps1,List.mem_cons,List.not_mem_nil,or_false] at hs
  rcases hs with rfl|rfl|rfl|rfl|rfl|rfl<;>exact shortK _ (by decide) (by decide) (by decide))
 have e2:=k_play1
 have e1:=k_play1t
 generalize playX true [schS] [] steps1=r at *
 obtain ⟨⟨lz,sx,tx⟩,r2⟩:=r
 dsimp only at e1 e2
 subst e1 e2
 exact ⟨lz,sx,h⟩
theorem play2:∃ lz tx,V.Spec Tryz.prog 20 [wlA true [schS] [],stepsA steps2] [] (.tp [.st [V.bool lz,schsA schS2,thingsA tx],valsA [(3,0),(1,7),(2,0),(2,0),(1,6)],ints [0,0,0,0,0],V.int 0]) []:=by
 have h:=s_turn_Play true [schS] [] short1 steps2 (fun s hs=>by
  simp only [steps2,List.mem_cons,List.not_mem_nil,or_false] at hs
  rcases hs with rfl|rfl|rfl|rfl|rfl<;>exact shortK _ (by decide) (by decide) (by decide))
 have e2:=k_play2
 have e1:=k_play2s
 generalize playX true [schS] [] steps2=r at *
 obtain ⟨⟨lz,sx,tx⟩,r2⟩:=r
 dsimp only at e1 e2
 subst e1 e2
 exact ⟨lz,tx,h⟩
theorem do1:V.Spec Tryz.prog 16 [wlA true [schS] [],stepA (stNew 4)] [] (.tp [wldA (true,[schS],[(4,0,[(1,5),(2,0),(2,0)])]),valA (3,0),V.int 0]) []:=by
 have h:=s_turn_Do true [schS] [] short1 (stNew 4) (shortK _ (by decide) (by decide) (by decide))
 rwa [k_do] at h
theorem short2:∀ s∈schS2,Short s:=fun s hs=>by
 simp only [schS2,List.mem_cons,List.not_mem_nil,or_false] at hs
 rcases hs with rfl|rfl|rfl
 ·exact short0
 all_goals
  refine ⟨by decide,fun c hc=>?_⟩
  simp only [List.mem_cons,List.not_mem_nil,or_false] at hc
  rcases hc with rfl|rfl<;>exact ⟨by decide,by decide,by decide⟩
theorem map1:V.Spec Tryz.prog 24 [schsA schS2,V.int 3,V.int 0,V.int 2] [] (.tp [fromsA [(0,-1,1,6),(1,1,0,0)],V.int 0]) []:=by
 have h:=s_turn_Map short2 3 0 2
 rwa [k_map1] at h
theorem map2:V.Spec Tryz.prog 24 [schsA schS2,V.int 3,V.int 0,V.int 0] [] (.tp [fromsA [(0,0,0,0),(1,1,0,0)],V.int 0]) []:=by
 have h:=s_turn_Map short2 3 0 0
 rwa [k_map2] at h
theorem start1:V.Spec Tryz.prog 34 [clssA schS,V.bool true] [] (.tp [wldA (true,[schS],[]),V.int 0]) []:=by
 have h:=s_turn_Start schS short0 true
 rwa [k_start] at h
set_option maxHeartbeats 8000000 in
theorem s_law17_known:V.Spec Tryz.prog 19 [] [] (V.bool true) []:=by
 obtain ⟨lz1,sx1,hp1⟩:=play1
 obtain ⟨lz2,tx2,hp2⟩:=play2
 have hdo:=do1
 have hst:=start1
 refine V.Spec.enter Tryz.tabOK Tryz.mixed Tryz.func19 rfl rfl rfl fun B hB=>?_
 refine goW ?_
 refine OL.c s_law17_Schema Tryz.func36 ?_
 refine goW ?_
 refine OL.c hst Tryz.func34 ?_
 refine goW ?_
 refine OL.c hdo Tryz.func16 ?_ (hle:=by with_unfolding_all exact ⟨.ren rfl,LE.step0 2 0 4 0 0 0,trivial⟩)
 refine goW ?_
 (with_reducible refine TC.draw (id:=3) true 30 30 ?_<;>refine OD.st4 0 1 2 3 ?_<;>refine OD.st4 4 5 6 7 ?_<;>refine OD.c1 8 (s_law17_obj 0) Tryz.func41 ?_<;>refine OD.s1 9 ?_ (h:=gvNeD2 eqMV)<;>refine OD.st4 10 11 12 13 ?_<;>refine OD.st4 14 15 16 17 ?_<;>refine OD.st4 18 19 20 21 ?_<;>refine OD.c1 22 (s_law17_num 5) Tryz.func28 ?_<;>refine OD.c1 23 s_law17_none Tryz.func42 ?_<;>refine OD.c1 24 s_law17_none Tryz.func42 ?_<;>refine OD.li 25 ?_<;>refine OD.vw 53 ?_<;>refine OD.st 26 ?_ (h:=gvBuild)<;>refine OD.c1 27 st1 Tryz.func45 ?_<;>refine OD.st2 28 29 ?_<;>refine OD.dn ?_)
 all_goals refine goW ?_
 refine TC.vwC 6 1 ?_
 refine TC.vwC 6 2 ?_
 refine TC.cut [(1,.bp 0 0),(2,V.int 0),(5,V.int 0),(7,.bp 1 0),(8,valsA [(3,0),(1,7),(1,8),(2,0),(1,4),(0,0)]),(9,ints [0,0,0,0,0,5])] [.cb Tc.api_TurnWorld [V.bool true,schsA [schS],thingsA []],.cb Tc.api_TurnWorld [V.bool lz1,schsA sx1,thingsA [(4,1,[(2,0),(1,8),(1,4)])]]] ?_ ?_
 ·(with_reducible refine TC.draw (id:=6) true 16 20 ?_<;>refine OD.st 0 ?_<;>refine OD.st 1 ?_ (h:=gvBuild)<;>refine OD.kn 64 (LE.step0 2 0 4 0 0 0) ?_<;>refine OD.st 4 ?_<;>refine OD.n2 2 15 ?_ ?_<;>(first|refine NextBy.at 2 ?_<;>refine NextBy.c (s_law17_Put 0 7) Tryz.func38 ?_<;>refine OD.n2 3 15 ?_ ?_<;>(first|refine NextBy.at 3 ?_<;>refine NextBy.c (s_law17_Put 2 8) Tryz.func38 ?_<;>refine OD.n2 5 15 ?_ ?_<;>(first|refine NextBy.at 5 ?_<;>refine NextBy.c (s_law17_Make 3 defK) Tryz.func37 (hle:=by with_unfolding_all exact ⟨.ren rfl,LE.st ⟨.nil (by decide),.ren rfl,.ren rfl,trivial⟩,trivial⟩) ?_<;>refine OD.n2 6 15 ?_ ?_<;>(first|refine NextBy.at 6 ?_<;>refine NextBy.c (s_law17_Get 3) Tryz.func39 ?_<;>refine OD.n2 7 15 ?_ ?_<;>(first|refine NextBy.at 7 ?_<;>refine NextBy.c (s_law17_Get 0) Tryz.func39 ?_<;>refine OD.n2 8 15 ?_ ?_<;>(first|refine NextBy.at 8 ?_<;>refine NextBy.li ?_<;>refine OD.vw 71 ?_<;>refine OD.n2 9 15 ?_ ?_<;>(first|refine NextBy.at 9 ?_<;>refine NextBy.c hp1 Tryz.func20 ?_<;>refine OD.st2 10 11 ?_<;>refine OD.stT 12 ?_<;>refine OD.stT 13 ?_<;>refine OD.stT 14 ?_<;>refine OD.al 15 ?_<;>(refine OD.a1 16 ?_;refine OL.storeAgg ?_;refine OL.nil ?_;refine TX.od ?_)<;>refine OD.st2 17 18 ?_<;>refine OD.st 19 ?_<;>refine OD.dn ?_|refine NextBy.at 15 ?_<;>refine NextBy.al ?_<;>refine OD.c1 9 hp1 Tryz.func20 ?_<;>refine OD.st2 10 11 ?_<;>refine OD.stT 12 ?_<;>refine OD.stT 13 ?_<;>refine OD.stT 14 ?_<;>(refine OD.a1 16 ?_;refine OL.storeAgg ?_;refine OL.nil ?_;refine TX.od ?_)<;>refine OD.st2 17 18 ?_<;>refine OD.st 19 ?_<;>refine OD.dn ?_)|refine NextBy.at 15 ?_<;>refine NextBy.al ?_<;>refine OD.li 8 ?_<;>refine OD.vw 71 ?_<;>refine OD.c1 9 hp1 Tryz.func20 ?_<;>refine OD.st2 10 11 ?_<;>refine OD.stT 12 ?_<;>refine OD.stT 13 ?_<;>refine OD.stT 14 ?_<;>(refine OD.a1 16 ?_;refine OL.storeAgg ?_;refine OL.nil ?_;refine TX.od ?_)<;>refine OD.st2 17 18 ?_<;>refine OD.st 19 ?_<;>refine OD.dn ?_)|refine NextBy.at 15 ?_<;>refine NextBy.al ?_<;>refine OD.c1 7 (s_law17_Get 0) Tryz.func39 ?_<;>refine OD.li 8 ?_<;>refine OD.vw 71 ?_<;>refine OD.c1 9 hp1 Tryz.func20 ?_<;>refine OD.st2 10 11 ?_<;>refine OD.stT 12 ?_<;>refine OD.stT 13 ?_<;>refine OD.stT 14 ?_<;>(refine OD.a1 16 ?_;refine OL.storeAgg ?_;refine OL.nil ?_;refine TX.od ?_)<;>refine OD.st2 17 18 ?_<;>refine OD.st 19 ?_<;>refine OD.dn ?_)|refine NextBy.at 15 ?_<;>refine NextBy.al ?_<;>refine OD.c1 6 (s_law17_Get 3) Tryz.func39 ?_<;>refine OD.c1 7 (s_law17_Get 0) Tryz.func39 ?_<;>refine OD.li 8 ?_<;>refine OD.vw 71 ?_<;>refine OD.c1 9 hp1 Tryz.func20 ?_<;>refine OD.st2 10 11 ?_<;>refine OD.stT 12 ?_<;>refine OD.stT 13 ?_<;>refine OD.stT 14 ?_<;>(refine OD.a1 16 ?_;refine OL.storeAgg ?_;refine OL.nil ?_;refine TX.od ?_)<;>refine OD.st2 17 18 ?_<;>refine OD.st 19 ?_<;>refine OD.dn ?_)|refine NextBy.at 15 ?_<;>refine NextBy.al ?_<;>refine OD.c1 5 (s_law17_Make 3 defK) Tryz.func37 (hle:=by with_unfolding_all exact ⟨.ren rfl,LE.st ⟨.nil (by decide),.ren rfl,.ren rfl,trivial⟩,trivial⟩) ?_<;>refine OD.c1 6 (s_law17_Get 3) Tryz.func39 ?_<;>refine OD.c1 7 (s_law17_Get 0) Tryz.func39 ?_<;>refine OD.li 8 ?_<;>refine OD.vw 71 ?_<;>refine OD.c1 9 hp1 Tryz.func20 ?_<;>refine OD.st2 10 11 ?_<;>refine OD.stT 12 ?_<;>refine OD.stT 13 ?_<;>refine OD.stT 14 ?_<;>(refine OD.a1 16 ?_;refine OL.storeAgg ?_;refine OL.nil ?_;refine TX.od ?_)<;>refine OD.st2 17 18 ?_<;>refine OD.st 19 ?_<;>refine OD.dn ?_)|refine NextBy.at 15 ?_<;>refine NextBy.al ?_<;>refine OD.c1 3 (s_law17_Put 2 8) Tryz.func38 ?_<;>refine OD.c1 5 (s_law17_Make 3 defK) Tryz.func37 (hle:=by with_unfolding_all exact ⟨.ren rfl,LE.st ⟨.nil (by decide),.ren rfl,.ren rfl,trivial⟩,trivial⟩) ?_<;>refine OD.c1 6 (s_law17_Get 3) Tryz.func39 ?_<;>refine OD.c1 7 (s_law17_Get 0) Tryz.func39 ?_<;>refine OD.li 8 ?_<;>refine OD.vw 71 ?_<;>refine OD.c1 9 hp1 Tryz.func20 ?_<;>refine OD.st2 10 11 ?_<;>refine OD.stT 12 ?_<;>refine OD.stT 13 ?_<;>refine OD.stT 14 ?_<;>(refine OD.a1 16 ?_;refine OL.storeAgg ?_;refine OL.nil ?_;refine TX.od ?_)<;>refine OD.st2 17 18 ?_<;>refine OD.st 19 ?_<;>refine OD.dn ?_)|refine NextBy.at 15 ?_<;>refine NextBy.al ?_<;>refine OD.c1 2 (s_law17_Put 0 7) Tryz.func38 ?_<;>refine OD.c1 3 (s_law17_Put 2 8) Tryz.func38 ?_<;>refine OD.c1 5 (s_law17_Make 3 defK) Tryz.func37 (hle:=by with_unfolding_all exact ⟨.ren rfl,LE.st ⟨.nil (by decide),.ren rfl,.ren rfl,trivial⟩,trivial⟩) ?_<;>refine OD.c1 6 (s_law17_Get 3) Tryz.func39 ?_<;>refine OD.c1 7 (s_law17_Get 0) Tryz.func39 ?_<;>refine OD.li 8 ?_<;>refine OD.vw 71 ?_<;>refine OD.c1 9 hp1 Tryz.func20 ?_<;>refine OD.st2 10 11 ?_<;>refine OD.stT 12 ?_<;>refine OD.stT 13 ?_<;>refine OD.stT 14 ?_<;>(refine OD.a1 16 ?_;refine OL.storeAgg ?_;refine OL.nil ?_;refine TX.od ?_)<;>refine OD.st2 17 18 ?_<;>refine OD.st 19 ?_<;>refine OD.dn ?_))
  all_goals exact TX.ctk 7 [0]
 refine goW ?_
 refine TC.cut [(1,.bp 0 0),(115,V.bool false)] [.cb Tc.api_TurnWorld [V.bool true,schsA [schS],thingsA []]] ?_ ?_
 ·(with_reducible refine TC.draw (id:=7) true 39 39 ?_<;>refine OD.st4 0 1 2 3 ?_<;>refine OD.st 9 ?_ (h:=gvBuild)<;>refine OD.c1 4 (s_law17_obj 0) Tryz.func41 ?_<;>refine OD.c1 5 (s_law17_num 7) Tryz.func28 ?_<;>refine OD.c1 6 (s_law17_num 8) Tryz.func28 ?_<;>refine OD.c1 7 s_law17_none Tryz.func42 ?_<;>refine OD.c1 8 (s_law17_num 4) Tryz.func28 ?_<;>refine OD.li 10 ?_<;>refine OD.vw 87 ?_<;>refine OD.c1 11 sv1 Tryz.func22 ?_<;>refine OD.st4 12 13 14 15 ?_<;>refine OD.li 16 ?_<;>refine OD.vw 93 ?_<;>refine OD.c1 17 se1 Tryz.func23 ?_<;>refine OD.st4 18 19 20 21 ?_<;>refine OD.st4 22 23 24 25 ?_<;>refine OD.st4 26 27 28 29 ?_<;>refine OD.st 30 ?_<;>refine OD.c1 31 s_law17_none Tryz.func42 ?_<;>refine OD.c1 32 (s_law17_num 8) Tryz.func28 ?_<;>refine OD.c1 33 (s_law17_num 4) Tryz.func28 ?_<;>refine OD.li 34 ?_<;>refine OD.vw 111 ?_<;>refine OD.st 35 ?_ (h:=gvBuild)<;>refine OD.c1 36 st2 Tryz.func45 ?_<;>refine OD.st2 37 38 ?_<;>refine OD.dn ?_)
  all_goals exact TX.ct [0]
 refine goW ?_
 refine TC.vwC 2 1 ?_
 refine TC.vwC 5 1 ?_
 refine TC.vwC 5 2 ?_
 refine TC.cut [(2,V.int 0),(8,valsA [(3,0),(1,7),(2,0),(2,0),(1,6)]),(12,.bp 0 0)] [.cb Tc.api_TurnWorld [V.bool lz2,schsA schS2,thingsA tx2]] ?_ ?_
 ·(with_reducible refine TC.draw (id:=11) true 16 20 ?_<;>refine OD.st 0 ?_<;>refine OD.st 1 ?_ (h:=gvBuild)<;>refine OD.kn 124 (LE.step0 2 0 3 0 0 0) ?_<;>refine OD.st2 3 5 ?_<;>refine OD.n2 2 15 ?_ ?_<;>(first|refine NextBy.at 2 ?_<;>refine NextBy.c (s_law17_Put 0 7) Tryz.func38 ?_<;>refine OD.n2 4 15 ?_ ?_<;>(first|refine NextBy.at 4 ?_<;>refine NextBy.c (s_law17_Make 3 lessK) Tryz.func37 (hle:=by with_unfolding_all exact ⟨.ren rfl,LE.st ⟨.nil (by decide),.ren rfl,.nil (by decide),trivial⟩,trivial⟩) ?_<;>refine OD.n2 6 15 ?_ ?_<;>(first|refine NextBy.at 6 ?_<;>refine NextBy.c (s_law17_Make 3 againK) Tryz.func37 (hle:=by with_unfolding_all exact ⟨.ren rfl,LE.st ⟨.nil (by decide),.ren rfl,.ren rfl,trivial⟩,trivial⟩) ?_<;>refine OD.n2 7 15 ?_ ?_<;>(first|refine NextBy.at 7 ?_<;>refine NextBy.c (s_law17_Get 0) Tryz.func39 ?_<;>refine OD.n2 8 15 ?_ ?_<;>(first|refine NextBy.at 8 ?_<;>refine NextBy.li ?_<;>refine OD.vw 131 ?_<;>refine OD.n2 9 15 ?_ ?_<;>(first|refine NextBy.at 9 ?_<;>refine NextBy.c hp2 Tryz.func20 ?_<;>refine OD.st2 10 11 ?_<;>refine OD.stT 12 ?_<;>refine OD.stT 13 ?_<;>refine OD.stT 14 ?_<;>refine OD.al 15 ?_<;>(refine OD.a1 16 ?_;refine OL.storeAgg ?_;refine OL.nil ?_;refine TX.od ?_)<;>refine OD.st2 17 18 ?_<;>refine OD.st 19 ?_<;>refine OD.dn ?_|refine NextBy.at 15 ?_<;>refine NextBy.al ?_<;>refine OD.c1 9 hp2 Tryz.func20 ?_<;>refine OD.st2 10 11 ?_<;>refine OD.stT 12 ?_<;>refine OD.stT 13 ?_<;>refine OD.stT 14 ?_<;>(refine OD.a1 16 ?_;refine OL.storeAgg ?_;refine OL.nil ?_;refine TX.od ?_)<;>refine OD.st2 17 18 ?_<;>refine OD.st 19 ?_<;>refine OD.dn ?_)|refine NextBy.at 15 ?_<;>refine NextBy.al ?_<;>refine OD.li 8 ?_<;>refine OD.vw 131 ?_<;>refine OD.c1 9 hp2 Tryz.func20 ?_<;>refine OD.st2 10 11 ?_<;>refine OD.stT 12 ?_<;>refine OD.stT 13 ?_<;>refine OD.stT 14 ?_<;>(refine OD.a1 16 ?_;refine OL.storeAgg ?_;refine OL.nil ?_;refine TX.od ?_)<;>refine OD.st2 17 18 ?_<;>refine OD.st 19 ?_<;>refine OD.dn ?_)|refine NextBy.at 15 ?_<;>refine NextBy.al ?_<;>refine OD.c1 7 (s_law17_Get 0) Tryz.func39 ?_<;>refine OD.li 8 ?_<;>refine OD.vw 131 ?_<;>refine OD.c1 9 hp2 Tryz.func20 ?_<;>refine OD.st2 10 11 ?_<;>refine OD.stT 12 ?_<;>refine OD.stT 13 ?_<;>refine OD.stT 14 ?_<;>(refine OD.a1 16 ?_;refine OL.storeAgg ?_;refine OL.nil ?_;refine TX.od ?_)<;>refine OD.st2 17 18 ?_<;>refine OD.st 19 ?_<;>refine OD.dn ?_)|refine NextBy.at 15 ?_<;>refine NextBy.al ?_<;>refine OD.c1 6 (s_law17_Make 3 againK) Tryz.func37 (hle:=by with_unfolding_all exact ⟨.ren rfl,LE.st ⟨.nil (by decide),.ren rfl,.ren rfl,trivial⟩,trivial⟩) ?_<;>refine OD.c1 7 (s_law17_Get 0) Tryz.func39 ?_<;>refine OD.li 8 ?_<;>refine OD.vw 131 ?_<;>refine OD.c1 9 hp2 Tryz.func20 ?_<;>refine OD.st2 10 11 ?_<;>refine OD.stT 12 ?_<;>refine OD.stT 13 ?_<;>refine OD.stT 14 ?_<;>(refine OD.a1 16 ?_;refine OL.storeAgg ?_;refine OL.nil ?_;refine TX.od ?_)<;>refine OD.st2 17 18 ?_<;>refine OD.st 19 ?_<;>refine OD.dn ?_)|refine NextBy.at 15 ?_<;>refine NextBy.al ?_<;>refine OD.c1 4 (s_law17_Make 3 lessK) Tryz.func37 (hle:=by with_unfolding_all exact ⟨.ren rfl,LE.st ⟨.nil (by decide),.ren rfl,.nil (by decide),trivial⟩,trivial⟩) ?_<;>refine OD.c1 6 (s_law17_Make 3 againK) Tryz.func37 (hle:=by with_unfolding_all exact ⟨.ren rfl,LE.st ⟨.nil (by decide),.ren rfl,.ren rfl,trivial⟩,trivial⟩) ?_<;>refine OD.c1 7 (s_law17_Get 0) Tryz.func39 ?_<;>refine OD.li 8 ?_<;>refine OD.vw 131 ?_<;>refine OD.c1 9 hp2 Tryz.func20 ?_<;>refine OD.st2 10 11 ?_<;>refine OD.stT 12 ?_<;>refine OD.stT 13 ?_<;>refine OD.stT 14 ?_<;>(refine OD.a1 16 ?_;refine OL.storeAgg ?_;refine OL.nil ?_;refine TX.od ?_)<;>refine OD.st2 17 18 ?_<;>refine OD.st 19 ?_<;>refine OD.dn ?_)|refine NextBy.at 15 ?_<;>refine NextBy.al ?_<;>refine OD.c1 2 (s_law17_Put 0 7) Tryz.func38 ?_<;>refine OD.c1 4 (s_law17_Make 3 lessK) Tryz.func37 (hle:=by with_unfolding_all exact ⟨.ren rfl,LE.st ⟨.nil (by decide),.ren rfl,.nil (by decide),trivial⟩,trivial⟩) ?_<;>refine OD.c1 6 (s_law17_Make 3 againK) Tryz.func37 (hle:=by with_unfolding_all exact ⟨.ren rfl,LE.st ⟨.nil (by decide),.ren rfl,.ren rfl,trivial⟩,trivial⟩) ?_<;>refine OD.c1 7 (s_law17_Get 0) Tryz.func39 ?_<;>refine OD.li 8 ?_<;>refine OD.vw 131 ?_<;>refine OD.c1 9 hp2 Tryz.func20 ?_<;>refine OD.st2 10 11 ?_<;>refine OD.stT 12 ?_<;>refine OD.stT 13 ?_<;>refine OD.stT 14 ?_<;>(refine OD.a1 16 ?_;refine OL.storeAgg ?_;refine OL.nil ?_;refine TX.od ?_)<;>refine OD.st2 17 18 ?_<;>refine OD.st 19 ?_<;>refine OD.dn ?_))
  all_goals exact TX.ctk 12 []
 refine goW ?_
 (with_reducible refine TC.draw (id:=12) true 20 20 ?_<;>refine OD.st4 0 1 2 3 ?_<;>refine OD.st4 4 5 6 7 ?_<;>refine OD.st2 8 9 ?_<;>refine OD.st 10 ?_<;>refine OD.c1 11 (s_law17_num 6) Tryz.func28 ?_<;>refine OD.s1 12 ?_ (h:=gvNeD2 eqMV)<;>refine OD.st4 13 14 15 16 ?_<;>refine OD.st2 17 18 ?_<;>refine OD.st 19 ?_<;>refine OD.dn ?_)
 all_goals refine goW ?_
 refine OL.c map1 Tryz.func24 ?_
 refine goW ?_
 refine OL.c map2 Tryz.func24 ?_
 refine goW ?_
 refine OL.c (s_law17_num 6) Tryz.func28 ?_
 refine goW ?_
 refine OL.vw 180 ?_
 refine OL.c (sm1 [(0,-1,1,6),(1,1,0,0)]) Tryz.func26 ?_
 refine goW ?_
 refine OL.vw 187 ?_
 refine OL.c (sm1 [(0,0,0,0),(1,1,0,0)]) Tryz.func26 ?_
 refine goW ?_
 exact TX.rt1 [] (.ren rfl)
end Go.Proofs
