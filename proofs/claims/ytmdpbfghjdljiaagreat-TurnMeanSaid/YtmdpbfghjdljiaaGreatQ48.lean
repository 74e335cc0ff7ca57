/- Part 48 of what the claim is proved by: lemmas on the model and walks through functions of the program; no conditions. -/
import Derived.Test.YtmdpbfghjdljiaaGreatQ13
import Derived.Test.YtmdpbfghjdljiaaGreatQ16
import Derived.Test.YtmdpbfghjdljiaaGreatQ47
import Derived.Test.YtmdpbfghjdljiaaGreatQ22
import Derived.Test.YtmdpbfghjdljiaaGreatQ23
import Derived.Test.YtmdpbfghjdljiaaGreatQ38
import Derived.WalkKit
import Derived.Test.YtmdpbfghjdljiaaGreatQ34
import Derived.Test.YtmdpbfghjdljiaaGreatQ37
namespace Go.Proofs
open Go Go.W Go.V
theorem Ct350 (l:List Cls) (hs:Short l) (lz:Bool) (hg:goodB l=true):V.Spec Tryz.prog 34 [clssA l,V.bool lz] [] (.tp [.st [V.bool lz,schsA [l],.raw (.slice none 0 0)],V.int 0]) []:=by
 have hsc:=Ct347 l hs
 have hea:=Ct45 hs
 rw [hg,if_pos rfl] at hsc
 refine V.Spec.enter Tryz.tabOK Tryz.mixed Tryz.func34 rfl rfl rfl fun B hB=>?_
 refine goW ?_
 refine OL.c hsc Tryz.func54 ?_
 refine goW ?_
 refine OL.c hea Tryz.func83 ?_ (hle:=by exact ⟨.ren rfl,LE.fun_ (first':=[]) (caps':=[]) Tryz.func84 rfl trivial trivial (fun x hx=>Ct353 x (hs.2 x hx).1 (hs.2 x hx).2.1 (hs.2 x hx).2.2),trivial⟩)
 refine goW ?_
 refine TX.vwC 0 1 ?_
 exact TX.rs2 [] (.ren rfl) (.ren rfl)
abbrev u8v (n:Int):AV:=.raw (.int .u8 n)
theorem shortC0:ShortC cls0:=⟨by decide,by decide,by decide⟩
set_option maxHeartbeats 16000000 in
theorem Ct125 (p:Prg) (hs:Short p.cls) (hpk:∀ x∈p.nodes,x.2.2.length*8≤140737488355328) (objs:List Ob) (hol:objs.length*32≤140737488355328) (hox:∀ x∈objs,x.2.length*16≤140737488355328)
  (th cl:Int) (ht0:0≤th) (ht1:th≤255) (hc0:0≤cl) (hc1:cl≤255):V.Spec Tryz.prog 15 [prgA p,obsA objs,u8v th,u8v cl] [] (V.bool true) []:=by
 have hrp:=Ct254 p hs hpk
 have hkn:=Ct131
 cases hpb:progB p
 ·rw [hpb] at hrp
  refine V.Spec.enter Tryz.tabOK Tryz.mixed Tryz.func15 rfl rfl rfl fun B hB=>?_
  refine goW ?_
  refine OL.c hrp Tryz.func56 ?_
  refine goW ?_
  refine OL.c hkn Tryz.func19 ?_
  refine goW ?_
  exact TX.rt1 [] (.ren rfl)
 rw [hpb] at hrp
 by_cases hl0:p.cls.length=0
 ·refine V.Spec.enter Tryz.tabOK Tryz.mixed Tryz.func15 rfl rfl rfl fun B hB=>?_
  refine goW ?_
  refine OL.c hrp Tryz.func56 ?_
  refine goW ?_
  refine OL.c hkn Tryz.func19 ?_
  refine goW ?_
  exact TX.rt1 [] (.ren rfl)
 have hlp:0 < p.cls.length:=Nat.pos_of_ne_zero hl0
 have hgd:=good_of_classes (progB_classes hpb)
 have h10:=progB_ten hpb
 have hof:=Ct345 p hs hpk hpb
 obtain ⟨c,hcE⟩:∃ c:Nat,3+cl % (p.cls.length:Int)=(c:Int):=⟨(3+cl % (p.cls.length:Int)).toNat,by have:=Int.emod_nonneg cl (b:=(p.cls.length:Int)) (by omega);omega⟩
 have hcb:3≤c∧c < 3+p.cls.length:=by
  have h1:=Int.emod_nonneg cl (b:=(p.cls.length:Int)) (by omega)
  have h2:=Int.emod_lt_of_pos cl (b:=(p.cls.length:Int)) (by omega)
  omega
 have hown:ownP p (c:Int)=true:=by
  simp only [ownP,Bool.and_eq_true,decide_eq_true_eq];exact ⟨by omega,by omega,hpb⟩
 have hnw:=Ct178 p hs hpk hown
 have hsh:∀ s∈[p.cls],Short s:=fun s h=>by rw [List.mem_singleton] at h;rw [h];exact hs
 have hst:=fun lz=>Ct350 p.cls hs lz hgd
 have hdn:=fun lz=>Ct341 lz [p.cls] [] hsh (stNew c) shortC0
 have hdn2:=fun lz=>do_new lz hgd (c:=(c:Int)) (by omega) (by omega)
 simp only [hdn2] at hdn
 obtain ⟨nv,hnv⟩:∃ nv,newO p.cls c=((c:Int),nv):=⟨_,rfl⟩
 simp only [hnv,show toT ((c:Int),nv)=((c:Int),0,nv) from rfl] at hnw hdn
 refine V.Spec.enter Tryz.tabOK Tryz.mixed Tryz.func15 rfl rfl rfl fun B hB=>?_
 refine goW ?_
 refine OL.c hrp Tryz.func56 ?_
 refine goW ?_
 refine OL.conv8 (n:=cl) Tryz.underlying5 Tryz.underlying3 (by omega) (by omega) ?_
 refine goW ?_
 simp only [hcE]
 refine OL.c hof Tryz.func55 ?_
 refine goW ?_
 refine OL.rem8 (j:=2) ht0 (by decide) ?_
 refine goW ?_
 generalize hlz:decide (th % 2=0)=lz at *
 have hst:=hst lz
 have hdn:=hdn lz
 refine OL.c hst Tryz.func34 ?_
 refine goW ?_
 refine OL.c hnw Tryz.func58 ?_
 refine goW ?_
 refine OL.c hdn Tryz.func16 ?_ (hle:=by with_unfolding_all exact ⟨LE.wl1 lz (schsA [p.cls]) (schsA [p.cls]),LE.step0 2 0 c 0 0 0,trivial⟩)
 refine goW ?_
 (with_reducible refine TC.draw (id:=8) true 45 45 ?_<;>refine OD.st4 0 1 2 3 ?_<;>refine OD.st4 4 5 6 7 ?_<;>refine OD.st4 8 9 10 11 ?_<;>refine OD.st4 12 13 14 15 ?_<;>refine OD.c1 16 (Ct134 0) Tryz.func41 ?_<;>refine OD.s1 17 ?_ (h:=gvNeD2 eqMV)<;>refine OD.st4 18 19 20 21 ?_<;>refine OD.st4 22 23 24 25 ?_<;>refine OD.st4 26 27 28 29 ?_<;>refine OD.st4 30 31 32 33 ?_<;>refine OD.st 34 ?_<;>refine OD.sD 103 ?_ ?_<;>(intro hc;try (exfalso;omega))<;>(first|(with_reducible refine OD.st 35 ?_)|(with_reducible refine OD.of 35 ?_))<;>refine OD.st4 36 37 38 39 ?_<;>refine OD.st2 40 41 ?_<;>refine OD.c1 42 (vals_eq _) Tryz.func40 ?_<;>refine OD.st2 43 44 ?_<;>refine OD.dn ?_)
 refine goW ?_
 refine TC.adpC 1 2 Tc.api_TurnThing 3 ?_
 refine TC.lp (fun k:Nat=>[(1,obsA objs),(2,u8v th),(4,.bp 0 0),(9,V.int c),(12,.bp 1 0),(17,.bp 2 0),(114,obsA objs),(115,V.int objs.length),(116,V.int k)]) (fun k=>[.cb Tc.api_BindProg (prgC p),.cb Tc.api_TurnWorld [V.bool lz,schsA [p.cls],.hs 3],.cb Tc.api_MeanVal [V.int 3,V.int 0],.gs false Tc.api_TurnThing 3 none (((objs.take k).map toT).map thingA)]) (fun k=>k≤objs.length) (fun k=>objs.length-k) 0 [0,1,4,5] (Nat.zero_le _) ?_
 rintro k hk
 by_cases hkl:k < objs.length
 ·have hcv:=clone_v objs[k].2 (hox _ (List.getElem_mem _))
  have hlen:((objs.take k).map toT).length=k:=by simp;omega
  have e:((objs.take k).map toT).map thingA++[thingA (toT objs[k])]=((objs.take (k+1)).map toT).map thingA:=by rw [take_succ hkl,List.map_append,List.map_append];rfl
  generalize (objs.take k).map toT=tk at *
  refine goW ?_
  (with_reducible refine TC.draw (id:=13) false 12 12 ?_<;>refine OD.st2 0 2 ?_<;>refine OD.st 4 ?_<;>refine OD.n3 1 3 5 ?_ ?_ ?_<;>(first|refine NextBy.at 1 ?_<;>refine NextBy.s ?_<;>refine OD.n2 3 5 ?_ ?_<;>(first|refine NextBy.at 3 ?_<;>refine NextBy.s ?_<;>refine OD.s1 5 ?_<;>refine OD.c1 6 hcv Tryz.func59 ?_<;>refine OD.s1 7 ?_ (h:=gvBuild)<;>(refine OD.a1 8 ?_;refine OL.lit ?_;refine OL.nil ?_;refine TX.od ?_)<;>(refine OD.a1 9 ?_;refine OL.appOW ?_;refine OL.nil ?_;refine TX.od ?_)<;>refine OD.st 10 ?_<;>(refine OD.a1 11 ?_;refine OL.store ?_;refine OL.nil ?_;refine TX.od ?_)<;>refine OD.dn ?_|refine NextBy.at 5 ?_<;>refine NextBy.s ?_<;>refine OD.n2 3 6 ?_ ?_<;>(first|refine NextBy.at 3 ?_<;>refine NextBy.s ?_<;>refine OD.c1 6 hcv Tryz.func59 ?_<;>refine OD.s1 7 ?_ (h:=gvBuild)<;>(refine OD.a1 8 ?_;refine OL.lit ?_;refine OL.nil ?_;refine TX.od ?_)<;>(refine OD.a1 9 ?_;refine OL.appOW ?_;refine OL.nil ?_;refine TX.od ?_)<;>refine OD.st 10 ?_<;>(refine OD.a1 11 ?_;refine OL.store ?_;refine OL.nil ?_;refine TX.od ?_)<;>refine OD.dn ?_|refine NextBy.at 6 ?_<;>refine NextBy.c hcv Tryz.func59 ?_<;>refine OD.s1 3 ?_<;>refine OD.s1 7 ?_ (h:=gvBuild)<;>(refine OD.a1 8 ?_;refine OL.lit ?_;refine OL.nil ?_;refine TX.od ?_)<;>(refine OD.a1 9 ?_;refine OL.appOW ?_;refine OL.nil ?_;refine TX.od ?_)<;>refine OD.st 10 ?_<;>(refine OD.a1 11 ?_;refine OL.store ?_;refine OL.nil ?_;refine TX.od ?_)<;>refine OD.dn ?_))|refine NextBy.at 3 ?_<;>refine NextBy.s ?_<;>refine OD.n2 1 5 ?_ ?_<;>(first|refine NextBy.at 1 ?_<;>refine NextBy.s ?_<;>refine OD.s1 5 ?_<;>refine OD.c1 6 hcv Tryz.func59 ?_<;>refine OD.s1 7 ?_ (h:=gvBuild)<;>(refine OD.a1 8 ?_;refine OL.lit ?_;refine OL.nil ?_;refine TX.od ?_)<;>(refine OD.a1 9 ?_;refine OL.appOW ?_;refine OL.nil ?_;refine TX.od ?_)<;>refine OD.st 10 ?_<;>(refine OD.a1 11 ?_;refine OL.store ?_;refine OL.nil ?_;refine TX.od ?_)<;>refine OD.dn ?_|refine NextBy.at 5 ?_<;>refine NextBy.s ?_<;>refine OD.n2 1 6 ?_ ?_<;>(first|refine NextBy.at 1 ?_<;>refine NextBy.s ?_<;>refine OD.c1 6 hcv Tryz.func59 ?_<;>refine OD.s1 7 ?_ (h:=gvBuild)<;>(refine OD.a1 8 ?_;refine OL.lit ?_;refine OL.nil ?_;refine TX.od ?_)<;>(refine OD.a1 9 ?_;refine OL.appOW ?_;refine OL.nil ?_;refine TX.od ?_)<;>refine OD.st 10 ?_<;>(refine OD.a1 11 ?_;refine OL.store ?_;refine OL.nil ?_;refine TX.od ?_)<;>refine OD.dn ?_|refine NextBy.at 6 ?_<;>refine NextBy.c hcv Tryz.func59 ?_<;>refine OD.n2 1 7 ?_ ?_<;>(first|refine NextBy.at 1 ?_<;>refine NextBy.s ?_<;>refine OD.s1 7 ?_ (h:=gvBuild)<;>(refine OD.a1 8 ?_;refine OL.lit ?_;refine OL.nil ?_;refine TX.od ?_)<;>(refine OD.a1 9 ?_;refine OL.appOW ?_;refine OL.nil ?_;refine TX.od ?_)<;>refine OD.st 10 ?_<;>(refine OD.a1 11 ?_;refine OL.store ?_;refine OL.nil ?_;refine TX.od ?_)<;>refine OD.dn ?_|refine NextBy.at 7 ?_<;>refine NextBy.s ?_ (h:=gvBuild)<;>refine OD.n2 1 8 ?_ ?_<;>(first|refine NextBy.at 1 ?_<;>refine NextBy.s ?_<;>(refine OD.a1 8 ?_;refine OL.lit ?_;refine OL.nil ?_;refine TX.od ?_)<;>(refine OD.a1 9 ?_;refine OL.appOW ?_;refine OL.nil ?_;refine TX.od ?_)<;>refine OD.st 10 ?_<;>(refine OD.a1 11 ?_;refine OL.store ?_;refine OL.nil ?_;refine TX.od ?_)<;>refine OD.dn ?_|refine NextBy.at 8 ?_<;>(refine NextBy.a ?_;refine OL.lit ?_;refine OL.nil ?_;refine TX.od ?_)<;>refine OD.s1 1 ?_<;>(refine OD.a1 9 ?_;refine OL.appOW ?_;refine OL.nil ?_;refine TX.od ?_)<;>refine OD.st 10 ?_<;>(refine OD.a1 11 ?_;refine OL.store ?_;refine OL.nil ?_;refine TX.od ?_)<;>refine OD.dn ?_))))|refine NextBy.at 5 ?_<;>refine NextBy.s ?_<;>refine OD.n3 1 3 6 ?_ ?_ ?_<;>(first|refine NextBy.at 1 ?_<;>refine NextBy.s ?_<;>refine OD.n2 3 6 ?_ ?_<;>(first|refine NextBy.at 3 ?_<;>refine NextBy.s ?_<;>refine OD.c1 6 hcv Tryz.func59 ?_<;>refine OD.s1 7 ?_ (h:=gvBuild)<;>(refine OD.a1 8 ?_;refine OL.lit ?_;refine OL.nil ?_;refine TX.od ?_)<;>(refine OD.a1 9 ?_;refine OL.appOW ?_;refine OL.nil ?_;refine TX.od ?_)<;>refine OD.st 10 ?_<;>(refine OD.a1 11 ?_;refine OL.store ?_;refine OL.nil ?_;refine TX.od ?_)<;>refine OD.dn ?_|refine NextBy.at 6 ?_<;>refine NextBy.c hcv Tryz.func59 ?_<;>refine OD.s1 3 ?_<;>refine OD.s1 7 ?_ (h:=gvBuild)<;>(refine OD.a1 8 ?_;refine OL.lit ?_;refine OL.nil ?_;refine TX.od ?_)<;>(refine OD.a1 9 ?_;refine OL.appOW ?_;refine OL.nil ?_;refine TX.od ?_)<;>refine OD.st 10 ?_<;>(refine OD.a1 11 ?_;refine OL.store ?_;refine OL.nil ?_;refine TX.od ?_)<;>refine OD.dn ?_)|refine NextBy.at 3 ?_<;>refine NextBy.s ?_<;>refine OD.n2 1 6 ?_ ?_<;>(first|refine NextBy.at 1 ?_<;>refine NextBy.s ?_<;>refine OD.c1 6 hcv Tryz.func59 ?_<;>refine OD.s1 7 ?_ (h:=gvBuild)<;>(refine OD.a1 8 ?_;refine OL.lit ?_;refine OL.nil ?_;refine TX.od ?_)<;>(refine OD.a1 9 ?_;refine OL.appOW ?_;refine OL.nil ?_;refine TX.od ?_)<;>refine OD.st 10 ?_<;>(refine OD.a1 11 ?_;refine OL.store ?_;refine OL.nil ?_;refine TX.od ?_)<;>refine OD.dn ?_|refine NextBy.at 6 ?_<;>refine NextBy.c hcv Tryz.func59 ?_<;>refine OD.n2 1 7 ?_ ?_<;>(first|refine NextBy.at 1 ?_<;>refine NextBy.s ?_<;>refine OD.s1 7 ?_ (h:=gvBuild)<;>(refine OD.a1 8 ?_;refine OL.lit ?_;refine OL.nil ?_;refine TX.od ?_)<;>(refine OD.a1 9 ?_;refine OL.appOW ?_;refine OL.nil ?_;refine TX.od ?_)<;>refine OD.st 10 ?_<;>(refine OD.a1 11 ?_;refine OL.store ?_;refine OL.nil ?_;refine TX.od ?_)<;>refine OD.dn ?_|refine NextBy.at 7 ?_<;>refine NextBy.s ?_ (h:=gvBuild)<;>refine OD.n2 1 8 ?_ ?_<;>(first|refine NextBy.at 1 ?_<;>refine NextBy.s ?_<;>(refine OD.a1 8 ?_;refine OL.lit ?_;refine OL.nil ?_;refine TX.od ?_)<;>(refine OD.a1 9 ?_;refine OL.appOW ?_;refine OL.nil ?_;refine TX.od ?_)<;>refine OD.st 10 ?_<;>(refine OD.a1 11 ?_;refine OL.store ?_;refine OL.nil ?_;refine TX.od ?_)<;>refine OD.dn ?_|refine NextBy.at 8 ?_<;>(refine NextBy.a ?_;refine OL.lit ?_;refine OL.nil ?_;refine TX.od ?_)<;>refine OD.s1 1 ?_<;>(refine OD.a1 9 ?_;refine OL.appOW ?_;refine OL.nil ?_;refine TX.od ?_)<;>refine OD.st 10 ?_<;>(refine OD.a1 11 ?_;refine OL.store ?_;refine OL.nil ?_;refine TX.od ?_)<;>refine OD.dn ?_)))|refine NextBy.at 6 ?_<;>refine NextBy.c hcv Tryz.func59 ?_<;>refine OD.n2 1 3 ?_ ?_<;>(first|refine NextBy.at 1 ?_<;>refine NextBy.s ?_<;>refine OD.s1 3 ?_<;>refine OD.s1 7 ?_ (h:=gvBuild)<;>(refine OD.a1 8 ?_;refine OL.lit ?_;refine OL.nil ?_;refine TX.od ?_)<;>(refine OD.a1 9 ?_;refine OL.appOW ?_;refine OL.nil ?_;refine TX.od ?_)<;>refine OD.st 10 ?_<;>(refine OD.a1 11 ?_;refine OL.store ?_;refine OL.nil ?_;refine TX.od ?_)<;>refine OD.dn ?_|refine NextBy.at 3 ?_<;>refine NextBy.s ?_<;>refine OD.n2 1 7 ?_ ?_<;>(first|refine NextBy.at 1 ?_<;>refine NextBy.s ?_<;>refine OD.s1 7 ?_ (h:=gvBuild)<;>(refine OD.a1 8 ?_;refine OL.lit ?_;refine OL.nil ?_;refine TX.od ?_)<;>(refine OD.a1 9 ?_;refine OL.appOW ?_;refine OL.nil ?_;refine TX.od ?_)<;>refine OD.st 10 ?_<;>(refine OD.a1 11 ?_;refine OL.store ?_;refine OL.nil ?_;refine TX.od ?_)<;>refine OD.dn ?_|refine NextBy.at 7 ?_<;>refine NextBy.s ?_ (h:=gvBuild)<;>refine OD.n2 1 8 ?_ ?_<;>(first|refine NextBy.at 1 ?_<;>refine NextBy.s ?_<;>(refine OD.a1 8 ?_;refine OL.lit ?_;refine OL.nil ?_;refine TX.od ?_)<;>(refine OD.a1 9 ?_;refine OL.appOW ?_;refine OL.nil ?_;refine TX.od ?_)<;>refine OD.st 10 ?_<;>(refine OD.a1 11 ?_;refine OL.store ?_;refine OL.nil ?_;refine TX.od ?_)<;>refine OD.dn ?_|refine NextBy.at 8 ?_<;>(refine NextBy.a ?_;refine OL.lit ?_;refine OL.nil ?_;refine TX.od ?_)<;>refine OD.s1 1 ?_<;>(refine OD.a1 9 ?_;refine OL.appOW ?_;refine OL.nil ?_;refine TX.od ?_)<;>refine OD.st 10 ?_<;>(refine OD.a1 11 ?_;refine OL.store ?_;refine OL.nil ?_;refine TX.od ?_)<;>refine OD.dn ?_))))))
  all_goals refine goW ?_
  all_goals exact TX.rd (k+1) [0,1,2,6] (by omega) (by omega)
 rw [take_all (by omega)]
 refine TC.vwC 1 2 ?_
 have hck:=Ct340 lz [p.cls] (objs.map toT) hsh
 rw [formed_things lz hgd] at hck
 by_cases hon:objs.length=0
 ·refine goW ?_
  refine OL.c hkn Tryz.func19 ?_
  refine goW ?_
  exact TX.rt1 [] (.ren rfl)
 cases hob:obsB p.cls objs
 ·rw [hob,if_neg Bool.false_ne_true] at hck
  refine goW ?_
  refine OL.c hck Tryz.func33 ?_
  refine goW ?_
  refine OL.c hkn Tryz.func19 ?_
  refine goW ?_
  exact TX.rt1 [] (.ren rfl)
 rw [hob,if_pos rfl] at hck
 obtain ⟨n,hnE⟩:∃ n:Nat,th % (objs.length:Int)=(n:Int):=⟨(th % (objs.length:Int)).toNat,by have:=Int.emod_nonneg th (b:=(objs.length:Int)) (by omega);omega⟩
 have hn:n < objs.length:=by
  have h2:=Int.emod_lt_of_pos th (b:=(objs.length:Int)) (by omega)
  omega
 have hd2:=Ct341 lz [p.cls] (objs.map toT) hsh (stTurn n c) shortC0
 rw [do_to lz hgd hob hn (c:=(c:Int)) (by omega) (by omega)] at hd2
 have hmt:=Ct179 p hs hpk hpb hob hn hown
 have hyl:(objs.set n (turnO p.cls objs[n] c)).length=objs.length:=List.length_set
 generalize objs.set n (turnO p.cls objs[n] c)=ys at *
 have hmm:thingsA (ys.map toT)=.sl 3 none (ys.map fun y=>AV.st [V.int y.1,V.int 0,valsA y.2]):=by rw [thingsA,List.map_map];rfl
 have hd3:V.Spec Tryz.prog 16 [wlA lz [p.cls] (objs.map toT),stepA (stTurn n c)] [] (.tp [.st [V.bool lz,schsA [p.cls],.sl 3 none (ys.map fun y=>AV.st [V.int y.1,V.int 0,valsA y.2])],valA (3,(n:Int)),V.int 0]) []:=by
  rw [← hmm];exact hd2
 refine goW ?_
 refine OL.c hck Tryz.func33 ?_
 refine goW ?_
 refine OL.conv8 (n:=th) Tryz.underlying5 Tryz.underlying3 (by omega) (by omega) ?_
 refine goW ?_
 simp only [hnE]
 refine OL.c hd3 Tryz.func16 ?_ (hle:=by with_unfolding_all exact ⟨.ren rfl,LE.step0 5 n c 0 0 0,trivial⟩)
 refine goW ?_
 refine OL.c hmt Tryz.func60 ?_
 refine goW ?_
 (with_reducible refine TC.draw (id:=20) true 27 27 ?_<;>refine OD.st4 0 1 2 3 ?_<;>refine OD.st4 4 5 6 7 ?_<;>refine OD.st 8 ?_<;>refine OD.c1 9 (Ct134 n) Tryz.func41 ?_<;>refine OD.s1 10 ?_ (h:=gvNeD2 eqMV)<;>refine OD.st2 11 12 ?_<;>refine OD.sB 175 ?_ ?_<;>(intro hc;try (exfalso;omega))<;>(first|(with_reducible refine OD.st 13 ?_)|(with_reducible refine OD.of 13 ?_))<;>(first|refine OD.st 14 ?_|refine OD.of 14 ?_)<;>(first|refine OD.st 15 ?_|refine OD.of 15 ?_)<;>(first|refine OD.st 16 ?_|refine OD.of 16 ?_)<;>(first|refine OD.st 17 ?_|refine OD.of 17 ?_)<;>(first|refine OD.st 18 ?_|refine OD.of 18 ?_)<;>refine OD.st2 19 20 ?_<;>(first|refine OD.of 21 ?_|refine OD.sD 183 ?_ ?_<;>(intro hc;try (exfalso;omega))<;>(first|(with_reducible refine OD.st 21 ?_)|(with_reducible refine OD.of 21 ?_)))<;>(first|refine OD.st 22 ?_|refine OD.of 22 ?_)<;>(first|refine OD.st 23 ?_|refine OD.of 23 ?_)<;>(first|refine OD.st 24 ?_|refine OD.of 24 ?_)<;>(first|refine OD.st 25 ?_|refine OD.of 25 ?_)<;>refine OD.st 26 ?_<;>refine OD.dn ?_)
 repeat' (with_reducible first|refine OL.st ?_|refine TC.region ?_|refine TC.seq ?_|refine OL.nil ?_|refine TX.thenN ?_|refine TC.block ?_|refine TC.skip ?_|refine TC.ifT ?_|refine TC.ifD ?_ ?_<;>(intro hc;try (exfalso;omega))|refine TC.ret ?_|refine TX.thenR ?_|fail)
 ·exfalso;simp at hc
 refine TC.lp (fun i:Nat=>[(22,.bp 0 0),(23,obsA ys),(190,obsA ys),(191,V.int ys.length),(192,V.int i)]) (fun _=>[.cb Tc.api_TurnWorld [V.bool lz,schsA [p.cls],.sl 3 none (ys.map fun y=>AV.st [V.int y.1,V.int 0,valsA y.2])]]) (fun i=>i≤ys.length) (fun i=>ys.length-i) 0 [4] (Nat.zero_le _) ?_
 rintro i hi
 by_cases hil:i < ys.length
 ·have hve:=vals_eq ys[i].2
  refine goW ?_
  (with_reducible refine TC.draw (id:=25) true 36 36 ?_<;>refine OD.st4 0 1 2 3 ?_<;>refine OD.st4 4 5 6 7 ?_<;>refine OD.st4 8 9 10 11 ?_<;>refine OD.st 12 ?_<;>refine OD.sD 207 ?_ ?_<;>(intro hc;try (exfalso;omega))<;>(first|(with_reducible refine OD.st 13 ?_)|(with_reducible refine OD.of 13 ?_))<;>refine OD.st4 14 15 16 17 ?_<;>refine OD.st4 18 19 20 21 ?_<;>refine OD.st4 22 23 24 25 ?_<;>refine OD.st4 26 27 28 29 ?_<;>refine OD.st2 30 31 ?_<;>refine OD.st 32 ?_<;>refine OD.c1 33 hve Tryz.func40 ?_<;>refine OD.st2 34 35 ?_<;>refine OD.dn ?_)
  all_goals refine goW ?_
  all_goals exact TX.rd (i+1) [0] (by omega) (by omega)
 ·refine goW ?_
  refine OL.c hkn Tryz.func19 ?_
  refine goW ?_
  exact TX.rt1 [] (.ren rfl)
theorem u8_bndM {n:Int} (h:(Lit.int .u8 n).wf=true):0≤n∧n≤255:=by
 simp only [Lit.wf,Bool.and_eq_true,decide_eq_true_eq] at h
 exact h
theorem Ct124 (p:Prg) (hs:Short p.cls) (hpk:∀ x∈p.nodes,x.2.2.length*8≤140737488355328) (objs:List Ob) (ho:objs.length*32≤140737488355328∧∀ x∈objs,x.2.length*16≤140737488355328)
  (th:Int) (wt:(Lit.int .u8 th).wf=true) (cl:Int) (wc:(Lit.int .u8 cl).wf=true):V.Spec Tryz.prog 15 [prgA p,obsA objs,u8v th,u8v cl] [] (V.bool true) []:=
 Ct125 p hs hpk objs ho.1 ho.2 th cl (u8_bndM wt).1 (u8_bndM wt).2 (u8_bndM wc).1 (u8_bndM wc).2
end Go.Proofs
namespace Go.Proofs
open Go Go.W Go.V Go.ChangeShapes Go.WideShapes Go.ChangeAt Go.RowKit Go.Deep
section
variable {H:Type} {enc:TypeId × Value→H} {w:World} {held:Bool}
theorem pInt:Rs enc Tryz.prog w held 3 1 V.int (fun _=>True):=Rs.int Tryz.underlying3
theorem pMKind:Rs enc Tryz.prog w held 195 1 V.int (fun _=>True):=Rs.int Tryz.underlying195
theorem pFOp:Rs enc Tryz.prog w held 196 1 V.int (fun _=>True):=Rs.int Tryz.underlying196
theorem pNOp:Rs enc Tryz.prog w held 249 1 V.int (fun _=>True):=Rs.int Tryz.underlying249
theorem pInts:Rs enc Tryz.prog w held 36 1 ints (fun l=>l.length*8≤reachBytes∧∀ x∈l,True):=Rs.slice Tryz.underlying36 (by kernel_rfl) (by kernel_rfl) (by decide) pInt
theorem pNd:Rs enc Tryz.prog w held 251 3 ndA (fun x=>x.2.2.length*8≤140737488355328):=
 by
  have h:=Rs.struct (enc:=enc) (w:=w) (held:=held) Tryz.underlying251 (by kernel_rfl) (RsS.cons pNOp (RsS.cons pInt (RsS.cons pInts RsS.nil rfl (by kernel_rfl)) rfl (by kernel_rfl)) rfl (by kernel_rfl))
  exact h.map (fun x=>((x.1,x.2.1,x.2.2.1):Nd)) (fun _=>rfl) (fun _ h=>Nat.le_trans h.2.2.1.1 (by decide))
theorem pNds:Rs enc Tryz.prog w held 87 1 ndsA (fun l=>∀ x∈l,x.2.2.length*8≤140737488355328):=
 by
  have h:=Rs.slice (enc:=enc) (w:=w) (held:=held) Tryz.underlying87 (by kernel_rfl) (B:=40) (by kernel_rfl) (by decide) pNd
  exact h.map (fun x=>x) (fun _=>rfl) (fun _ h=>h.2)
theorem pFctZ:∀ N,RsZ N enc Tryz.prog w held 199 6 fctA (fun _=>True)
 | 0=>RsZ.zero
 | N+1=>by
   have hk:=RsZ.slice (enc:=enc) (w:=w) (held:=held) (t:=197) Tryz.underlying197 (by kernel_rfl) (B:=80) (by kernel_rfl) (by decide) (pFctZ N)
   have h:=RsZ.struct (enc:=enc) (w:=w) (held:=held) Tryz.underlying199 (by kernel_rfl) (RsSZ.cons (pFOp.z N) (RsSZ.cons (pInt.z N) (RsSZ.cons (pInts.z N) (RsSZ.cons (pInt.z N) (RsSZ.cons (pInt.z N) (RsSZ.cons hk RsSZ.nil rfl (by kernel_rfl)) rfl (by kernel_rfl)) rfl (by kernel_rfl)) rfl (by kernel_rfl)) rfl (by kernel_rfl)) rfl (by kernel_rfl))
   exact h.map (fun x=>Fct.mk x.1 x.2.1 x.2.2.1 x.2.2.2.1 x.2.2.2.2.1 x.2.2.2.2.2.1) (fun x=>by rw [fctA_eq];rfl) (fun _ _=>trivial)
theorem pFct:Rs enc Tryz.prog w held 199 6 fctA (fun _=>True):=Rs.ofZ pFctZ
theorem pMth:Rs enc Tryz.prog w held 201 9 mthA (fun _=>True):=
 by
  have h:=Rs.struct (enc:=enc) (w:=w) (held:=held) Tryz.underlying201 (by kernel_rfl) (RsS.cons pMKind (RsS.cons pInt (RsS.cons pFct (RsS.cons pInt RsS.nil rfl (by kernel_rfl)) rfl (by kernel_rfl)) rfl (by kernel_rfl)) rfl (by kernel_rfl))
  exact h.map (fun x=>(⟨x.1,x.2.1,x.2.2.1,x.2.2.2.1⟩:Mth)) (fun x=>by rw [mthA,factA_fct];rfl) (fun _ _=>trivial)
theorem pMths:Rs enc Tryz.prog w held 86 1 mthsA (fun _=>True):=
 by
  have h:=Rs.slice (enc:=enc) (w:=w) (held:=held) Tryz.underlying86 (by kernel_rfl) (B:=104) (by kernel_rfl) (by decide) pMth
  exact h.map (fun x=>x) (fun _=>rfl) (fun _ _=>trivial)
theorem pPrg (hc:Rs enc Tryz.prog w held 59 1 clssA Short):Rs enc Tryz.prog w held 89 6 prgA (fun p=>Short p.cls∧∀ x∈p.nodes,x.2.2.length*8≤140737488355328):=
 by
  have h:=Rs.struct (enc:=enc) (w:=w) (held:=held) Tryz.underlying89 (by kernel_rfl) (RsS.cons hc (RsS.cons pInt (RsS.cons pInts (RsS.cons pMths (RsS.cons pNds (RsS.cons pInt RsS.nil rfl (by kernel_rfl)) rfl (by kernel_rfl)) rfl (by kernel_rfl)) rfl (by kernel_rfl)) rfl (by kernel_rfl)) rfl (by kernel_rfl))
  exact h.map (fun x=>(⟨x.1,x.2.1,x.2.2.1,x.2.2.2.1,x.2.2.2.2.1,x.2.2.2.2.2.1⟩:Prg)) (fun _=>rfl) (fun _ h=>⟨h.1,h.2.2.2.2.1⟩)
end
end Go.Proofs
namespace Go.Proofs
open Go Go.W Go.V Go.ChangeShapes Go.WideShapes Go.ChangeAt Go.RowKit Go.Deep
section
variable {H:Type} {enc:TypeId × Value→H} {w:World} {held:Bool}
theorem rValsB:Rs enc Tryz.prog w held 45 1 valsA (fun l=>l.length*16≤reachBytes∧∀ x∈l,True):=Rs.slice Tryz.underlying45 (by kernel_rfl) (B:=16) (by kernel_rfl) (by decide) rVal
theorem rOb:Rs enc Tryz.prog w held 98 2 obA (fun x=>x.2.length*16≤140737488355328):=
 by
  have h:=Rs.struct (enc:=enc) (w:=w) (held:=held) Tryz.underlying98 (by kernel_rfl) (RsS.cons rInt (RsS.cons rValsB RsS.nil rfl (by kernel_rfl)) rfl (by kernel_rfl))
  exact h.map (fun x=>(x.1,x.2.1)) (fun _=>rfl) (fun _ h=>reach_le h.2.1.1)
theorem rObs:Rs enc Tryz.prog w held 96 1 obsA (fun l=>l.length*32≤140737488355328∧∀ x∈l,x.2.length*16≤140737488355328):=
 by
  have h:=Rs.slice (enc:=enc) (w:=w) (held:=held) Tryz.underlying96 (by kernel_rfl) (B:=32) (by kernel_rfl) (by decide) rOb
  exact h.map (fun x=>x) (fun _=>rfl) (fun _ h=>⟨reach_le h.1,h.2⟩)
end
end Go.Proofs
