/- Part 28 of what the claim is proved by: lemmas on the model and walks through functions of the program; no conditions. -/
import Derived.Test.YtmdpbfghjdljiaaGreatQ13
import Derived.Test.YtmdpbfghjdljiaaGreatQ17
import Derived.Test.YtmdpbfghjdljiaaGreatQ27
import Derived.Test.YtmdpbfghjdljiaaGreatQ19
import Derived.Test.YtmdpbfghjdljiaaGreatQ26
import Derived.Test.YtmdpbfghjdljiaaGreatQ20
import Derived.Test.YtmdpbfghjdljiaaGreatQ25
namespace Go.Proofs
open Go Go.W Go.V
abbrev worldO (lz:Bool) (ss:List (List Cls)) (ts:List Thing):Eta:=[.cb Tc.turn_world [V.bool lz,.hs 1,.hs 2],.gs true Tc.Pturn_schema 1 none (ss.map schE),.gs false Tc.api_TurnThing 3 none (ts.map thingA)]
theorem s_turn_none:V.Spec Tryz.prog 144 [] [] (valA (2,0)) []:=by
 refine V.Spec.enter Tryz.tabOK Tryz.mixed Tryz.func144 rfl rfl rfl fun B hB=>?_
 refine goW ?_
 exact TX.rtc [] (.ren rfl)
theorem clone_v (l:List (Int × Int)) (hb:l.length*16≤140737488355328):V.Spec Tryz.prog 59 [valsA l] [] (valsA l) []:=by
 refine V.Spec.enter Tryz.tabOK Tryz.mixed Tryz.func59 rfl rfl rfl fun B hB=>?_
 refine goW ?_
 refine OL.isNil (fun h=>?_) ?_
 ·refine goW ?_
  have e:l.map valA=[]:=h
  exact TX.rt1 [] (.nil' e)
 ·refine goW ?_
  refine TX.vw 2 ?_
  exact TX.rt1 [] (.ren rfl)
theorem s_turn_value (v:Int × Int) (n:Int):V.Spec Tryz.prog 103 [valA v,V.int n] [] (V.bool (valB v n)) []:=by
 have hno:=s_turn_none
 rw [valB]
 refine V.Spec.enter Tryz.tabOK Tryz.mixed Tryz.func103 rfl rfl rfl fun B hB=>?_
 by_cases h1:v.1=1
 ·rw [if_pos h1]
  repeat' (with_reducible first|refine OL.st ?_|refine OL.box ?_|refine TC.region ?_|refine TC.seq ?_|refine OL.nil ?_|refine TX.thenN ?_|refine TC.block ?_|refine OL.gOn ?_|refine OL.gOff ?_|refine TC.ifD ?_ ?_<;>(intro hc;try (exfalso;omega))|refine OL.gD ?_ ?_<;>(intro hc;try (exfalso;omega))|refine TC.ret ?_|refine TX.thenR ?_|refine TX.blkR ?_|fail)
  all_goals refine TX.rt1 [] (.bool ?_)
  ·have:-1000000000≤v.2:=by omega
   simp [this]
  ·have:¬ -1000000000≤v.2:=by omega
   simp [this]
 ·rw [if_neg h1]
  by_cases h3:v.1=3
  ·rw [if_neg (by omega),if_pos h3]
   repeat' (with_reducible first|refine OL.st ?_|refine OL.box ?_|refine TC.region ?_|refine TC.seq ?_|refine OL.nil ?_|refine TX.thenN ?_|refine TC.block ?_|refine OL.gOn ?_|refine OL.gOff ?_|refine TC.ifD ?_ ?_<;>(intro hc;try (exfalso;omega))|refine OL.gD ?_ ?_<;>(intro hc;try (exfalso;omega))|refine TC.ret ?_|refine TX.thenR ?_|refine TX.blkR ?_|fail)
   all_goals refine TX.rt1 [] (.bool ?_)
   ·have:0≤v.2:=by omega
    simp [this]
   ·have:¬ 0≤v.2:=by omega
    simp [this]
  ·rw [if_neg h3]
   refine goW ?_
   (with_reducible refine TC.draw (id:=6) false 4 4 ?_<;>refine OD.n2 0 1 ?_ ?_<;>(first|refine NextBy.at 0 ?_<;>refine NextBy.s ?_<;>refine OD.c1 1 hno Tryz.func144 ?_<;>(refine OD.a1 2 ?_;refine OL.eqD2 eqMV ?_;refine OL.nil ?_;refine TX.od ?_)<;>refine OD.st 3 ?_<;>refine OD.dn ?_|refine NextBy.at 1 ?_<;>refine NextBy.c hno Tryz.func144 ?_<;>refine OD.s1 0 ?_<;>(refine OD.a1 2 ?_;refine OL.eqD2 eqMV ?_;refine OL.nil ?_;refine TX.od ?_)<;>refine OD.st 3 ?_<;>refine OD.dn ?_))
   all_goals refine goW ?_
   all_goals refine TX.rt1 [] (.bool ?_)
   all_goals
    by_cases h2:v.1=2
    ·rw [if_pos h2,h2,Bool.eq_iff_iff];simp
    ·rw [if_neg h2];simp [h2]
theorem s_turn_open_1 (v:Int × Int) (lz:Bool) (ss:List (List Cls)) (ts:List Thing):V.Spec Tryz.prog 102 [valA v,.ep [V.bool lz,schsA ss,thingsA ts] 0] [] (V.bool (!valB v ts.length)) []:=by
 have h:=s_turn_value v ts.length
 refine V.Spec.enter Tryz.tabOK Tryz.mixed Tryz.func102 rfl rfl rfl fun B hB=>?_
 refine goW ?_
 refine OL.c h Tryz.func103 ?_
 refine goW ?_
 exact TX.rt1 [] (.ren rfl)
theorem all_not {α:Type} (p:α→Bool):∀ l:List α,l.any (fun v=>!p v)=!l.all p
 | []=>rfl
 | x::r=>by rw [List.any_cons,List.all_cons,all_not p r];cases p x<;>rfl
abbrev openA (b:Bool):AV:=if b then .tp [.bp 0 0,V.bool true] else .tp [.raw (.pointer none),V.bool false]
abbrev openO (b lz:Bool) (ss:List (List Cls)) (ts:List Thing):Eta:=if b then worldO lz ss ts else []
set_option maxHeartbeats 4000000 in
theorem s_turn_open (lz:Bool) (ss:List (List Cls)) (ts:List Thing) (hs:∀ s∈ss,Short s):V.Spec Tryz.prog 61 [wlA lz ss ts] [] (openA (formedB lz ss ts)) (openO (formedB lz ss ts) lz ss ts):=by
 rw [openA,openO,formedB]
 refine V.Spec.enter Tryz.tabOK Tryz.mixed Tryz.func61 rfl rfl rfl fun B hB=>?_
 cases hsb:schemasB ss
 ·have hsc:=schemas_no hs hsb
  rw [Bool.false_and,if_neg Bool.false_ne_true,if_neg Bool.false_ne_true]
  refine goW ?_
  refine OL.c hsc Tryz.func67 ?_
  refine goW ?_
  exact TX.rt2 [] (.ren rfl) (.ren rfl)
 have hsc:=schemas_ok hs hsb
 rw [Bool.true_and]
 by_cases h40:ts.length≤40
 ·rw [decide_eq_true h40,Bool.true_and]
  obtain ⟨n1,n12⟩:=schemasB_len hsb
  obtain ⟨P,hP⟩:∃ P,P=thingOk lz ss ts.length:=⟨_,rfl⟩
  rw [← hP]
  obtain ⟨res,hres⟩:∃ res,res=ts.all P:=⟨_,rfl⟩
  rw [← hres]
  refine goW ?_
  refine OL.frzA 0 ?_
  refine OL.c hsc Tryz.func67 ?_
  refine goW ?_
  refine TC.adpC 2 2 Tc.api_TurnThing 3 ?_
  refine TC.frz 1 ?_
  refine TC.lp (fun k:Nat=>[(1,.ep [V.bool lz,schsA ss,thingsA ts] 0),(4,.hs 0),(6,.bp 1 0),(29,thingsA ts),(30,V.int ts.length),(31,V.int k)]) (fun k=>[.gs true Tc.Pturn_schema 1 none (ss.map schE),.cb Tc.turn_world [V.bool lz,.hs 0,.hs 2],.gs false Tc.api_TurnThing 3 none ((ts.take k).map thingA)]) (fun k=>k≤ts.length∧res=(ts.drop k).all P) (fun k=>ts.length-k) 0 [1,2,3] ⟨Nat.zero_le _,hres⟩ ?_
  rintro k ⟨hk,hinv⟩
  by_cases hkl:k < ts.length
  ·rw [drop_cons hkl,List.all_cons] at hinv
   have no:P ts[k]=false→res=false:=fun h=>by rw [hinv,h,Bool.false_and]
   by_cases h1:0≤ts[k].2.1∧ts[k].2.1 < (ss.length:Int)
   ·have hsi:schAt ss ts[k].2.1.toNat=ss[ts[k].2.1.toNat]'(by omega):=getD_lt (by omega)
    have hgf:=goodB_fine (schemasB_good hsb (i:=ts[k].2.1.toNat) (by omega))
    rw [hsi] at hgf
    have hsl10:=slotsOf_len (schemasB_good hsb (i:=ts[k].2.1.toNat) (by omega))
    rw [hsi] at hsl10
    have hP2:P ts[k]=((lz || decide (ts[k].2.1=(ss.length:Int)-1))&&(ownB (ss[ts[k].2.1.toNat]'(by omega)).length ts[k].1&&(decide (ts[k].2.2.length=(slotsOf (ss[ts[k].2.1.toNat]'(by omega)) ts[k].1.toNat).length)&&ts[k].2.2.all (valB · ts.length)))):=by
     rw [hP,thingOk,decide_eq_true h1.1,decide_eq_true h1.2,hsi,Bool.true_and,Bool.true_and]
    have hcs:=s_turn_class (ss[ts[k].2.1.toNat]'(by omega)) ts[k].1 (by omega)
    by_cases h2:lz=true∨ts[k].2.1=(ss.length:Int)-1
    ·have h2b:(lz || decide (ts[k].2.1=(ss.length:Int)-1))=true:=by simpa using h2
     rw [h2b,Bool.true_and] at hP2
     cases ho:ownB (ss[ts[k].2.1.toNat]'(by omega)).length ts[k].1
     ·rw [ho,Bool.false_and] at hP2
      rw [ho] at hcs
      obtain rfl:=no hP2
      rw [if_neg Bool.false_ne_true,if_neg Bool.false_ne_true]
      cases hlz:lz
      all_goals (try (rw [hlz] at h2;simp only [Bool.false_eq_true,false_or] at h2))
      all_goals refine goW ?_
      all_goals (with_reducible refine TC.draw (id:=8) true 49 49 ?_<;>refine OD.st4 0 1 2 3 ?_<;>refine OD.sD 38 ?_ ?_<;>(intro hc;try (exfalso;omega))<;>(first|(with_reducible refine OD.st 4 ?_)|(with_reducible refine OD.of 4 ?_))<;>refine OD.st4 5 6 7 8 ?_<;>refine OD.st2 9 10 ?_<;>refine OD.sD 45 ?_ ?_<;>(intro hc;try (exfalso;omega))<;>(first|(with_reducible refine OD.st 11 ?_)|(with_reducible refine OD.of 11 ?_))<;>refine OD.st2 12 13 ?_<;>refine OD.st 14 ?_<;>(first|refine OD.st 15 ?_|refine OD.of 15 ?_)<;>(first|refine OD.st 16 ?_|refine OD.of 16 ?_)<;>(first|refine OD.st 17 ?_|refine OD.of 17 ?_)<;>(first|refine OD.st 18 ?_|refine OD.of 18 ?_)<;>(first|refine OD.st 19 ?_|refine OD.of 19 ?_)<;>(first|refine OD.st 20 ?_|refine OD.of 20 ?_)<;>refine OD.st2 21 22 ?_<;>refine OD.st 23 ?_<;>(first|refine OD.st 24 ?_|refine OD.sD 58 ?_ ?_<;>(intro hc;try (exfalso;omega))<;>(first|(with_reducible refine OD.st 24 ?_)|(with_reducible refine OD.of 24 ?_)))<;>refine OD.st4 25 26 27 28 ?_<;>refine OD.st2 29 30 ?_<;>refine OD.c1 31 hcs Tryz.func68 ?_<;>refine OD.st2 32 33 ?_<;>refine OD.st 34 ?_<;>refine OD.of 35 ?_<;>refine OD.of 36 ?_<;>refine OD.of 37 ?_<;>refine OD.of 38 ?_<;>refine OD.of 39 ?_<;>refine OD.of 40 ?_<;>refine OD.of 41 ?_<;>refine OD.of 42 ?_<;>refine OD.of 43 ?_<;>refine OD.of 44 ?_<;>refine OD.of 45 ?_<;>refine OD.of 46 ?_<;>refine OD.of 47 ?_<;>refine OD.st 48 ?_<;>refine OD.dn ?_)
      all_goals refine goW ?_
      all_goals exact TX.rt2 [] (.ren rfl) (.ren rfl)
     ·obtain ⟨c,hc⟩:∃ c:Nat,ts[k].1=(c:Int):=⟨ts[k].1.toNat,by simp only [ownB,Bool.and_eq_true,decide_eq_true_eq] at ho;omega⟩
      have hcl:3≤c∧c < 3+(ss[ts[k].2.1.toNat]'(by omega)).length:=by simp only [ownB,Bool.and_eq_true,decide_eq_true_eq] at ho;omega
      have hha:=s_turn_has (ss[ts[k].2.1.toNat]'(by omega)) (by omega) hcl.1 hcl.2
      rw [← hc] at hha
      rw [ho,Bool.true_and,hc,Int.toNat_natCast] at hP2
      rw [ho] at hcs
      have hsl10:=hsl10 c
      by_cases h3:ts[k].2.2.length=(slotsOf (ss[ts[k].2.1.toNat]'(by omega)) c).length
      ·rw [decide_eq_true h3,Bool.true_and] at hP2
       have hcf:=s_slices_ContainsFunc_Lapi_MeanVal_api_MeanVal ts[k].2.2 (fun v=>!valB v ts.length)
       rw [all_not,← hP2] at hcf
       cases hva:P ts[k]
       ·rw [hva] at hcf
        obtain rfl:=no hva
        rw [if_neg Bool.false_ne_true,if_neg Bool.false_ne_true]
        cases hlz:lz
        all_goals (try (rw [hlz] at h2;simp only [Bool.false_eq_true,false_or] at h2))
        all_goals refine goW ?_
        all_goals (with_reducible refine TC.draw (id:=8) true 49 49 ?_<;>refine OD.st4 0 1 2 3 ?_<;>refine OD.sD 38 ?_ ?_<;>(intro hc;try (exfalso;omega))<;>(first|(with_reducible refine OD.st 4 ?_)|(with_reducible refine OD.of 4 ?_))<;>refine OD.st4 5 6 7 8 ?_<;>refine OD.st2 9 10 ?_<;>refine OD.sD 45 ?_ ?_<;>(intro hc;try (exfalso;omega))<;>(first|(with_reducible refine OD.st 11 ?_)|(with_reducible refine OD.of 11 ?_))<;>refine OD.st2 12 13 ?_<;>refine OD.st 14 ?_<;>(first|refine OD.st 15 ?_|refine OD.of 15 ?_)<;>(first|refine OD.st 16 ?_|refine OD.of 16 ?_)<;>(first|refine OD.st 17 ?_|refine OD.of 17 ?_)<;>(first|refine OD.st 18 ?_|refine OD.of 18 ?_)<;>(first|refine OD.st 19 ?_|refine OD.of 19 ?_)<;>(first|refine OD.st 20 ?_|refine OD.of 20 ?_)<;>refine OD.st2 21 22 ?_<;>refine OD.st 23 ?_<;>(first|refine OD.st 24 ?_|refine OD.sD 58 ?_ ?_<;>(intro hc;try (exfalso;omega))<;>(first|(with_reducible refine OD.st 24 ?_)|(with_reducible refine OD.of 24 ?_)))<;>refine OD.st4 25 26 27 28 ?_<;>refine OD.st2 29 30 ?_<;>refine OD.c1 31 hcs Tryz.func68 ?_<;>refine OD.st4 32 33 34 35 ?_<;>refine OD.st4 36 37 38 39 ?_<;>refine OD.st4 40 41 42 43 ?_<;>refine OD.st 44 ?_<;>refine OD.c1 45 hha Tryz.func69 ?_<;>refine OD.st2 46 47 ?_<;>refine OD.st 48 ?_<;>refine OD.dn ?_)
        all_goals refine goW ?_
        all_goals refine OL.c hcf Tryz.func101 ?_ (hle:=by exact ⟨.ren rfl,LE.fun_ (first':=[]) (caps':=[.ep [V.bool _,schsA ss,thingsA ts] 0]) Tryz.func102 rfl trivial ⟨.ren rfl,trivial⟩ (fun x hx=>s_turn_open_1 x _ ss ts),trivial⟩)
        all_goals refine goW ?_
        all_goals exact TX.rt2 [] (.ren rfl) (.ren rfl)
       ·rw [hva] at hcf
        rw [hva,Bool.true_and] at hinv
        have hcv:=clone_v ts[k].2.2 (by omega)
        have hql:(ts.take k).length≤1000:=by simp;omega
        have e:(ts.take k).map thingA++[thingA ts[k]]=(ts.take (k+1)).map thingA:=by rw [take_succ hkl];exact map_snoc _ _ _
        generalize ts.take k=q at *
        cases hlz:lz
        all_goals (try (rw [hlz] at h2;simp only [Bool.false_eq_true,false_or] at h2))
        all_goals refine goW ?_
        all_goals (with_reducible refine TC.draw (id:=8) true 49 49 ?_<;>refine OD.st4 0 1 2 3 ?_<;>refine OD.sD 38 ?_ ?_<;>(intro hc;try (exfalso;omega))<;>(first|(with_reducible refine OD.st 4 ?_)|(with_reducible refine OD.of 4 ?_))<;>refine OD.st4 5 6 7 8 ?_<;>refine OD.st2 9 10 ?_<;>refine OD.sD 45 ?_ ?_<;>(intro hc;try (exfalso;omega))<;>(first|(with_reducible refine OD.st 11 ?_)|(with_reducible refine OD.of 11 ?_))<;>refine OD.st2 12 13 ?_<;>refine OD.st 14 ?_<;>(first|refine OD.st 15 ?_|refine OD.of 15 ?_)<;>(first|refine OD.st 16 ?_|refine OD.of 16 ?_)<;>(first|refine OD.st 17 ?_|refine OD.of 17 ?_)<;>(first|refine OD.st 18 ?_|refine OD.of 18 ?_)<;>(first|refine OD.st 19 ?_|refine OD.of 19 ?_)<;>(first|refine OD.st 20 ?_|refine OD.of 20 ?_)<;>refine OD.st2 21 22 ?_<;>refine OD.st 23 ?_<;>(first|refine OD.st 24 ?_|refine OD.sD 58 ?_ ?_<;>(intro hc;try (exfalso;omega))<;>(first|(with_reducible refine OD.st 24 ?_)|(with_reducible refine OD.of 24 ?_)))<;>refine OD.st4 25 26 27 28 ?_<;>refine OD.st2 29 30 ?_<;>refine OD.c1 31 hcs Tryz.func68 ?_<;>refine OD.st4 32 33 34 35 ?_<;>refine OD.st4 36 37 38 39 ?_<;>refine OD.st4 40 41 42 43 ?_<;>refine OD.st 44 ?_<;>refine OD.c1 45 hha Tryz.func69 ?_<;>refine OD.st2 46 47 ?_<;>refine OD.st 48 ?_<;>refine OD.dn ?_)
        all_goals refine goW ?_
        all_goals refine OL.c hcf Tryz.func101 ?_ (hle:=by exact ⟨.ren rfl,LE.fun_ (first':=[]) (caps':=[.ep [V.bool _,schsA ss,thingsA ts] 0]) Tryz.func102 rfl trivial ⟨.ren rfl,trivial⟩ (fun x hx=>s_turn_open_1 x _ ss ts),trivial⟩)
        all_goals refine goW ?_
        all_goals refine OL.c hcv Tryz.func59 ?_
        all_goals refine goW ?_
        all_goals (with_reducible refine TC.draw (id:=13) false 11 11 ?_<;>refine OD.st4 0 1 2 3 ?_<;>refine OD.n2 4 5 ?_ ?_<;>(first|refine NextBy.at 4 ?_<;>refine NextBy.s ?_<;>refine OD.s1 5 ?_<;>(refine OD.a1 6 ?_;refine OL.lit ?_;refine OL.nil ?_;refine TX.od ?_)<;>(refine OD.a1 7 ?_;refine OL.appO ?_;refine OL.nil ?_;refine TX.od ?_)<;>refine OD.st2 8 9 ?_<;>(refine OD.a1 10 ?_;refine OL.store ?_;refine OL.nil ?_;refine TX.od ?_)<;>refine OD.dn ?_|refine NextBy.at 5 ?_<;>refine NextBy.s ?_<;>refine OD.n2 4 6 ?_ ?_<;>(first|refine NextBy.at 4 ?_<;>refine NextBy.s ?_<;>(refine OD.a1 6 ?_;refine OL.lit ?_;refine OL.nil ?_;refine TX.od ?_)<;>(refine OD.a1 7 ?_;refine OL.appO ?_;refine OL.nil ?_;refine TX.od ?_)<;>refine OD.st2 8 9 ?_<;>(refine OD.a1 10 ?_;refine OL.store ?_;refine OL.nil ?_;refine TX.od ?_)<;>refine OD.dn ?_|refine NextBy.at 6 ?_<;>(refine NextBy.a ?_;refine OL.lit ?_;refine OL.nil ?_;refine TX.od ?_)<;>refine OD.s1 4 ?_<;>(refine OD.a1 7 ?_;refine OL.appO ?_;refine OL.nil ?_;refine TX.od ?_)<;>refine OD.st2 8 9 ?_<;>(refine OD.a1 10 ?_;refine OL.store ?_;refine OL.nil ?_;refine TX.od ?_)<;>refine OD.dn ?_)))
        all_goals refine goW ?_
        all_goals exact TX.rd (k+1) [0,1,5] ⟨by omega,hinv⟩ (by omega)
      ·rw [decide_eq_false h3,Bool.false_and] at hP2
       obtain rfl:=no hP2
       rw [if_neg Bool.false_ne_true,if_neg Bool.false_ne_true]
       cases hlz:lz
       all_goals (try (rw [hlz] at h2;simp only [Bool.false_eq_true,false_or] at h2))
       all_goals refine goW ?_
       all_goals (with_reducible refine TC.draw (id:=8) true 49 49 ?_<;>refine OD.st4 0 1 2 3 ?_<;>refine OD.sD 38 ?_ ?_<;>(intro hc;try (exfalso;omega))<;>(first|(with_reducible refine OD.st 4 ?_)|(with_reducible refine OD.of 4 ?_))<;>refine OD.st4 5 6 7 8 ?_<;>refine OD.st2 9 10 ?_<;>refine OD.sD 45 ?_ ?_<;>(intro hc;try (exfalso;omega))<;>(first|(with_reducible refine OD.st 11 ?_)|(with_reducible refine OD.of 11 ?_))<;>refine OD.st2 12 13 ?_<;>refine OD.st 14 ?_<;>(first|refine OD.st 15 ?_|refine OD.of 15 ?_)<;>(first|refine OD.st 16 ?_|refine OD.of 16 ?_)<;>(first|refine OD.st 17 ?_|refine OD.of 17 ?_)<;>(first|refine OD.st 18 ?_|refine OD.of 18 ?_)<;>(first|refine OD.st 19 ?_|refine OD.of 19 ?_)<;>(first|refine OD.st 20 ?_|refine OD.of 20 ?_)<;>refine OD.st2 21 22 ?_<;>refine OD.st 23 ?_<;>(first|refine OD.st 24 ?_|refine OD.sD 58 ?_ ?_<;>(intro hc;try (exfalso;omega))<;>(first|(with_reducible refine OD.st 24 ?_)|(with_reducible refine OD.of 24 ?_)))<;>refine OD.st4 25 26 27 28 ?_<;>refine OD.st2 29 30 ?_<;>refine OD.c1 31 hcs Tryz.func68 ?_<;>refine OD.st4 32 33 34 35 ?_<;>refine OD.st4 36 37 38 39 ?_<;>refine OD.st4 40 41 42 43 ?_<;>refine OD.st 44 ?_<;>refine OD.c1 45 hha Tryz.func69 ?_<;>refine OD.st2 46 47 ?_<;>refine OD.st 48 ?_<;>refine OD.dn ?_)
       all_goals refine goW ?_
       all_goals exact TX.rt2 [] (.ren rfl) (.ren rfl)
    ·have h2b:(lz || decide (ts[k].2.1=(ss.length:Int)-1))=false:=by
      rw [Bool.eq_false_iff];exact fun h=>h2 (by simpa using h)
     rw [h2b,Bool.false_and] at hP2
     obtain rfl:=no hP2
     rw [if_neg Bool.false_ne_true,if_neg Bool.false_ne_true]
     have hlz:lz=false:=by cases hq:lz with
      | false=>rfl
      | true=>exact absurd (.inl hq) h2
     have hne:¬ ts[k].2.1=(ss.length:Int)-1:=fun h=>h2 (.inr h)
     rw [hlz]
     refine goW ?_
     (with_reducible refine TC.draw (id:=8) true 49 49 ?_<;>refine OD.st4 0 1 2 3 ?_<;>refine OD.sD 38 ?_ ?_<;>(intro hc;try (exfalso;omega))<;>(first|(with_reducible refine OD.st 4 ?_)|(with_reducible refine OD.of 4 ?_))<;>refine OD.st4 5 6 7 8 ?_<;>refine OD.st2 9 10 ?_<;>refine OD.sD 45 ?_ ?_<;>(intro hc;try (exfalso;omega))<;>(first|(with_reducible refine OD.st 11 ?_)|(with_reducible refine OD.of 11 ?_))<;>refine OD.st4 12 13 14 15 ?_<;>refine OD.st4 16 17 18 19 ?_<;>refine OD.st4 20 21 22 23 ?_<;>refine OD.sD 58 ?_ ?_<;>(intro hc;try (exfalso;omega))<;>(first|(with_reducible refine OD.st 24 ?_)|(with_reducible refine OD.of 24 ?_))<;>refine OD.of 25 ?_<;>refine OD.of 26 ?_<;>refine OD.of 27 ?_<;>refine OD.of 28 ?_<;>refine OD.of 29 ?_<;>refine OD.of 30 ?_<;>refine OD.of 31 ?_<;>refine OD.of 32 ?_<;>refine OD.st2 33 34 ?_<;>refine OD.of 35 ?_<;>refine OD.of 36 ?_<;>refine OD.of 37 ?_<;>refine OD.of 38 ?_<;>refine OD.of 39 ?_<;>refine OD.of 40 ?_<;>refine OD.of 41 ?_<;>refine OD.of 42 ?_<;>refine OD.of 43 ?_<;>refine OD.of 44 ?_<;>refine OD.of 45 ?_<;>refine OD.of 46 ?_<;>refine OD.of 47 ?_<;>refine OD.st 48 ?_<;>refine OD.dn ?_)
     all_goals refine goW ?_
     all_goals exact TX.rt2 [] (.ren rfl) (.ren rfl)
   ·have hto:P ts[k]=false:=by
     have hz:(decide (0≤ts[k].2.1)&&decide (ts[k].2.1 < (ss.length:Int)))=false:=by
      rw [Bool.eq_false_iff];simp only [ne_eq,Bool.and_eq_true,decide_eq_true_eq];exact h1
     rw [hP,thingOk,hz];rfl
    obtain rfl:=no hto
    rw [if_neg Bool.false_ne_true,if_neg Bool.false_ne_true]
    by_cases h0:0≤ts[k].2.1
    all_goals refine goW ?_
    all_goals (with_reducible refine TC.draw (id:=8) true 49 49 ?_<;>refine OD.st4 0 1 2 3 ?_<;>refine OD.sD 38 ?_ ?_<;>(intro hc;try (exfalso;omega))<;>(first|(with_reducible refine OD.st 4 ?_)|(with_reducible refine OD.of 4 ?_))<;>(first|refine OD.st 5 ?_|refine OD.of 5 ?_)<;>(first|refine OD.st 6 ?_|refine OD.of 6 ?_)<;>(first|refine OD.st 7 ?_|refine OD.of 7 ?_)<;>(first|refine OD.st 8 ?_|refine OD.of 8 ?_)<;>refine OD.st2 9 10 ?_<;>(first|refine OD.of 11 ?_|refine OD.sD 45 ?_ ?_<;>(intro hc;try (exfalso;omega))<;>(first|(with_reducible refine OD.st 11 ?_)|(with_reducible refine OD.of 11 ?_)))<;>refine OD.of 12 ?_<;>refine OD.of 13 ?_<;>refine OD.of 14 ?_<;>refine OD.un 15 ?_<;>refine OD.un 16 ?_<;>refine OD.un 17 ?_<;>refine OD.un 18 ?_<;>refine OD.un 19 ?_<;>refine OD.un 20 ?_<;>refine OD.of 21 ?_<;>refine OD.st2 22 23 ?_<;>refine OD.of 24 ?_<;>refine OD.of 25 ?_<;>refine OD.of 26 ?_<;>refine OD.of 27 ?_<;>refine OD.of 28 ?_<;>refine OD.of 29 ?_<;>refine OD.of 30 ?_<;>refine OD.of 31 ?_<;>refine OD.of 32 ?_<;>refine OD.st2 33 34 ?_<;>refine OD.of 35 ?_<;>refine OD.of 36 ?_<;>refine OD.of 37 ?_<;>refine OD.of 38 ?_<;>refine OD.of 39 ?_<;>refine OD.of 40 ?_<;>refine OD.of 41 ?_<;>refine OD.of 42 ?_<;>refine OD.of 43 ?_<;>refine OD.of 44 ?_<;>refine OD.of 45 ?_<;>refine OD.of 46 ?_<;>refine OD.of 47 ?_<;>refine OD.st 48 ?_<;>refine OD.dn ?_)
    all_goals refine goW ?_
    all_goals exact TX.rt2 [] (.ren rfl) (.ren rfl)
  ·rw [drop_nil (by omega)] at hinv
   rw [hinv,List.all_nil,if_pos rfl,if_pos rfl,take_all (by omega)]
   refine goW ?_
   exact TX.rt2 [1,0,2] (.ren rfl) (.ren rfl)
 ·rw [decide_eq_false h40,Bool.false_and,if_neg Bool.false_ne_true,if_neg Bool.false_ne_true]
  refine goW ?_
  refine OL.c hsc Tryz.func67 ?_
  refine goW ?_
  exact TX.rt2 [] (.ren rfl) (.ren rfl)
theorem turn_open_yes {lz:Bool} {ss:List (List Cls)} {ts:List Thing} (hs:∀ s∈ss,Short s) (hf:formedB lz ss ts=true):V.Spec Tryz.prog 61 [wlA lz ss ts] [] (.tp [.bp 0 0,V.bool true]) (worldO lz ss ts):=by
 have:=s_turn_open lz ss ts hs
 rw [openA,openO,hf,if_pos rfl,if_pos rfl] at this
 exact this
theorem turn_open_no {lz:Bool} {ss:List (List Cls)} {ts:List Thing} (hs:∀ s∈ss,Short s) (hf:formedB lz ss ts=false):V.Spec Tryz.prog 61 [wlA lz ss ts] [] (.tp [.raw (.pointer none),V.bool false]) []:=by
 have:=s_turn_open lz ss ts hs
 rw [openA,openO,hf,if_neg Bool.false_ne_true,if_neg Bool.false_ne_true] at this
 exact this
end Go.Proofs
namespace Go.Proofs
open Go Go.W Go.V
theorem s_turn_last (qs:List Value) (n:Nat) (hq:qs.length=n+1) (hl:n≤1000) (q:Value) (hn:qs[n]?=some q):V.Spec Tryz.prog 202 [.ep [.junk,.sl 1 none (qs.map .raw),.junk] 0] [] (.raw q) []:=by
 have e:qs[((qs.length:Int)-1).toNat]'(by omega)=q:=by
  have h1:qs[n]?=some (qs[n]'(by omega)):=List.getElem?_eq_getElem (by omega)
  rw [h1] at hn
  cases hn
  congr 1;omega
 refine V.Spec.enter Tryz.tabOK Tryz.mixed Tryz.func202 rfl rfl rfl fun B hB=>?_
 repeat' (first|(with_reducible first|refine OL.st ?_|refine TC.region ?_|refine TC.seq ?_|refine OL.nil ?_|refine TX.thenN ?_|refine TC.ret ?_)|((with_reducible refine TC.draw (id:=1) true 13 13 ?_<;>refine OD.st 0 ?_<;>refine OD.st 1 ?_<;>refine OD.st 2 ?_<;>refine OD.st 3 ?_<;>refine OD.st 4 ?_<;>refine OD.st 5 ?_<;>refine OD.st 6 ?_<;>refine OD.st 7 ?_<;>refine OD.st 8 ?_<;>refine OD.st 9 ?_<;>refine OD.st 10 ?_<;>refine OD.st 11 ?_<;>refine OD.st 12 ?_<;>refine OD.dn ?_))|fail)
 rw [e]
 exact TX.rt1 [] (.ren rfl)
theorem turn_last_w {ss:List (List Cls)} (n1:1≤ss.length) (n12:ss.length≤12) (qs:List Value) (q:Value) (hq:qs.length=(ss.map schE).length) (hn:qs[ss.length-1]?=some q):V.Spec Tryz.prog 202 [.ep [.junk,.sl 1 none (qs.map .raw),.junk] 0] [] (.raw q) []:=
 s_turn_last qs (ss.length-1) (by rw [hq,List.length_map];omega) (by omega) q hn
theorem last_schE {ss:List (List Cls)} (n1:1≤ss.length):(ss.map schE)[ss.length-1]?=some (schE (lastS ss)):=by
 rw [List.getElem?_map,List.getElem?_eq_getElem (by omega),lastS,schAt,getD_lt (by omega)];rfl
theorem s_each_copied {l:List Cls} (h:Short l):V.Spec Tryz.prog 83 [clssA l,funC Tryz.prog (·∈l) (fun c=>clsA (id c))] [] (clssA l) []:=by
 have:=s_each_CC l id h.1
 rwa [List.map_id] at this
set_option maxHeartbeats 2000000 in
theorem s_turn_shut (lz:Bool) {ss:List (List Cls)} {ts:List Thing} (h:WOk ss ts):V.Spec Tryz.prog 63 [.bp 0 0] (worldO lz ss ts) (wlA lz ss ts) (worldO lz ss ts):=by
 obtain ⟨n1,n12⟩:=schemasB_len h.sb
 have h40:=h.n40
 refine V.Spec.enter Tryz.tabOK Tryz.mixed Tryz.func63 rfl rfl rfl fun B hB=>?_
 refine goW ?_
 refine TC.adpC 4 1 Tc.Lapi_BindClass 1 ?_
 refine TC.adpC 4 2 Tc.api_TurnThing 3 ?_
 refine TC.lp (fun k:Nat=>[(0,.bp 0 0),(2,.bp 3 0),(3,.bp 4 0),(16,.hs 1),(17,V.int ss.length),(18,V.int k)]) (fun k=>[.cb Tc.turn_world [V.bool lz,.hs 1,.hs 2],.gs true Tc.Pturn_schema 1 none (ss.map schE),.gs false Tc.api_TurnThing 3 none (ts.map thingA),.cb Tc.api_TurnWorld [.raw (.bool false),.raw (.slice none 0 0),.raw (.slice none 0 0)],.cb Tc.api_TurnWorld [V.bool lz,.hs 5,.hs 6],.gs false Tc.Lapi_BindClass 1 none ((ss.take k).map clssA),.gs false Tc.api_TurnThing 3 none []]) (fun k=>k≤ss.length) (fun k=>ss.length-k) 0 [0,1,2,3,4,5,6] (Nat.zero_le _) ?_
 rintro k hk
 have hkq:(ss.take k).length≤100:=by simp;omega
 by_cases hkl:k < ss.length
 ·have hsh:=h.sh ss[k] (List.getElem_mem _)
  have hcl:=s_each_copied hsh
  have e:(ss.take k).map clssA++[clssA ss[k]]=(ss.take (k+1)).map clssA:=by rw [take_succ hkl];exact map_snoc _ _ _
  generalize ss.take k=q at *
  refine goW ?_
  (with_reducible refine TC.draw (id:=5) false 11 11 ?_<;>refine OD.st 0 ?_<;>refine OD.st 2 ?_<;>refine OD.st 3 ?_<;>refine OD.st 4 ?_<;>refine OD.n2 1 5 ?_ ?_<;>(first|refine NextBy.at 1 ?_<;>refine NextBy.s ?_<;>refine OD.s1 5 ?_<;>(refine OD.a1 6 ?_;refine OL.c hcl Tryz.func83 ?_ (hle:=by with_unfolding_all exact ⟨.ren rfl,LE.fun_ (first':=[]) (caps':=[]) Tryz.func84 rfl trivial trivial (fun x hx=>s_turn_copied x (hsh.2 x hx).1 (hsh.2 x hx).2.1 (hsh.2 x hx).2.2),trivial⟩);refine OL.nil ?_;refine TX.od ?_)<;>(refine OD.a1 7 ?_;refine OL.lit ?_;refine OL.nil ?_;refine TX.od ?_)<;>(refine OD.a1 8 ?_;refine OL.appO ?_;refine OL.nil ?_;refine TX.od ?_)<;>refine OD.st 9 ?_<;>(refine OD.a1 10 ?_;refine OL.store ?_;refine OL.nil ?_;refine TX.od ?_)<;>refine OD.dn ?_|refine NextBy.at 5 ?_<;>refine NextBy.s ?_<;>refine OD.n2 1 6 ?_ ?_<;>(first|refine NextBy.at 1 ?_<;>refine NextBy.s ?_<;>(refine OD.a1 6 ?_;refine OL.c hcl Tryz.func83 ?_ (hle:=by with_unfolding_all exact ⟨.ren rfl,LE.fun_ (first':=[]) (caps':=[]) Tryz.func84 rfl trivial trivial (fun x hx=>s_turn_copied x (hsh.2 x hx).1 (hsh.2 x hx).2.1 (hsh.2 x hx).2.2),trivial⟩);refine OL.nil ?_;refine TX.od ?_)<;>(refine OD.a1 7 ?_;refine OL.lit ?_;refine OL.nil ?_;refine TX.od ?_)<;>(refine OD.a1 8 ?_;refine OL.appO ?_;refine OL.nil ?_;refine TX.od ?_)<;>refine OD.st 9 ?_<;>(refine OD.a1 10 ?_;refine OL.store ?_;refine OL.nil ?_;refine TX.od ?_)<;>refine OD.dn ?_|refine NextBy.at 6 ?_<;>(refine NextBy.a ?_;refine OL.c hcl Tryz.func83 ?_ (hle:=by with_unfolding_all exact ⟨.ren rfl,LE.fun_ (first':=[]) (caps':=[]) Tryz.func84 rfl trivial trivial (fun x hx=>s_turn_copied x (hsh.2 x hx).1 (hsh.2 x hx).2.1 (hsh.2 x hx).2.2),trivial⟩);refine OL.nil ?_;refine TX.od ?_)<;>refine OD.n2 1 7 ?_ ?_<;>(first|refine NextBy.at 1 ?_<;>refine NextBy.s ?_<;>(refine OD.a1 7 ?_;refine OL.lit ?_;refine OL.nil ?_;refine TX.od ?_)<;>(refine OD.a1 8 ?_;refine OL.appO ?_;refine OL.nil ?_;refine TX.od ?_)<;>refine OD.st 9 ?_<;>(refine OD.a1 10 ?_;refine OL.store ?_;refine OL.nil ?_;refine TX.od ?_)<;>refine OD.dn ?_|refine NextBy.at 7 ?_<;>(refine NextBy.a ?_;refine OL.lit ?_;refine OL.nil ?_;refine TX.od ?_)<;>refine OD.s1 1 ?_<;>(refine OD.a1 8 ?_;refine OL.appO ?_;refine OL.nil ?_;refine TX.od ?_)<;>refine OD.st 9 ?_<;>(refine OD.a1 10 ?_;refine OL.store ?_;refine OL.nil ?_;refine TX.od ?_)<;>refine OD.dn ?_))))
  all_goals refine goW ?_
  all_goals exact TX.rd (k+1) [0,1,2,3,4,8,6] (by omega) (by omega)
 ·rw [take_all (by omega)]
  refine goW ?_
  refine TC.lp (fun k:Nat=>[(2,.bp 3 0),(3,.bp 4 0),(36,.hs 2),(37,V.int ts.length),(38,V.int k)]) (fun k=>[.cb Tc.turn_world [V.bool lz,.hs 1,.hs 2],.gs true Tc.Pturn_schema 1 none (ss.map schE),.gs false Tc.api_TurnThing 3 none (ts.map thingA),.cb Tc.api_TurnWorld [.raw (.bool false),.raw (.slice none 0 0),.raw (.slice none 0 0)],.cb Tc.api_TurnWorld [V.bool lz,.hs 5,.hs 6],.gs false Tc.Lapi_BindClass 1 none (ss.map clssA),.gs false Tc.api_TurnThing 3 none ((ts.take k).map thingA)]) (fun k=>k≤ts.length) (fun k=>ts.length-k) 0 [0,1,2,3,4,5,6] (Nat.zero_le _) ?_
  rintro k hk
  have hkq:(ts.take k).length≤100:=by simp;omega
  by_cases hkl:k < ts.length
  ·have hxl:=(h.tk ts[k] (List.getElem_mem _)).short h.sb
   have hcv:=clone_v ts[k].2.2 (by omega)
   have e:(ts.take k).map thingA++[thingA ts[k]]=(ts.take (k+1)).map thingA:=by rw [take_succ hkl];exact map_snoc _ _ _
   generalize ts.take k=q at *
   refine goW ?_
   refine OL.c hcv Tryz.func59 ?_
   refine goW ?_
   exact TX.rd (k+1) [0,1,2,3,4,5,9] (by omega) (by omega)
  ·rw [take_all (by omega)]
   refine goW ?_
   refine TX.vwC 3 1 ?_
   refine TX.vwC 3 2 ?_
   exact TX.rtc [0,1,2] (.ren rfl)
end Go.Proofs
namespace Go.Proofs
open Go Go.W Go.V
theorem freshV_add (ss:List (List Cls)) (c:Nat):∀ (n m s:Nat) (v:List (Int × Int)),freshV ss c (n+m) s v=freshV ss c m (s+n) (freshV ss c n s v)
 | 0,m,s,v=>by rw [Nat.zero_add,Nat.add_zero,freshV]
 | n+1,m,s,v=>by
   rw [show n+1+m=(n+m)+1 by omega,freshV,freshV,freshV_add ss c n m (s+1),show s+1+n=s+(n+1) by omega]
def valsOk (n:Int) (l:List (Int × Int)):Prop:=∀ v∈l,valB v n=true
theorem goodB_ini {l:List Cls} (h:goodB l=true) {k:Nat} (hk:k < l.length):iniAt l k=true:=by
 simp only [goodB,Bool.and_eq_true,List.all_eq_true,List.mem_range] at h
 exact h.2.2.2 k hk
theorem initOf_ok {l:List Cls} (h:goodB l=true) {s c n:Int} (hi:initOf l s c=some n):-1000000000≤n∧n≤1000000000:=by
 rw [initOf] at hi
 split at hi
 ·cases hi
 ·generalize hk:(c-3).toNat=k at hi
  obtain ⟨p,hp,rfl⟩:=Option.map_eq_some_iff.1 hi
  have hm:=List.mem_of_find?_eq_some hp
  by_cases hkl:k < l.length
  ·have:=goodB_ini h hkl
   rw [iniAt_eq,Bool.and_eq_true,Bool.not_eq_true',List.any_eq_false] at this
   have:=this.2 p hm
   simp only [iniBad,Bool.or_eq_true,decide_eq_true_eq,not_or] at this
   omega
  ·rw [clsAt,List.getD_eq_getElem?_getD,List.getElem?_eq_none (by omega)] at hm
   simp at hm
theorem beginV_ok {l:List Cls} (h:goodB l=true) (c:Nat) (s n:Int):valB (beginV l c s) n=true:=by
 rw [beginV]
 cases hb:beginO l (at_ (orders (graphOf l)) c) s with
 | none=>rfl
 | some m =>
   rw [beginO] at hb
   obtain ⟨c',_,hc⟩:=List.exists_of_findSome?_eq_some hb
   have:=initOf_ok h hc
   simp only [optV,valB,if_true,Bool.and_eq_true]
   exact ⟨decide_eq_true this.1,decide_eq_true this.2⟩
theorem keptV_ok {l:List Cls} (h:goodB l=true) (c:Nat) {slots:List Int} {vals:List (Int × Int)} {n:Int} (hsv:slots.length≤vals.length) (hv:valsOk n vals) (s:Int):valB (keptV l c slots vals s) n=true:=by
 rw [keptV]
 split
 ·rename_i hp
  have:=placeN_lt slots s
  rw [getD_lt (by omega)]
  exact hv _ (List.getElem_mem _)
 ·exact beginV_ok h c s n
theorem turnedV_ok {l:List Cls} (h:goodB l=true) (c:Nat) {slots:List Int} {vals:List (Int × Int)} {n:Int} (hsv:slots.length≤vals.length) (hv:valsOk n vals):valsOk n (turnedV l c slots vals):=fun v hm=>by
 rw [turnedV] at hm
 obtain ⟨s,_,rfl⟩:=List.mem_map.1 hm
 exact keptV_ok h c hsv hv s
theorem freshV_ok {ss:List (List Cls)} (h:schemasB ss=true) (c:Nat) {n:Int}:∀ (k s:Nat) (v:List (Int × Int)),s+k < ss.length→v.length=(slotsOf (schAt ss s) c).length→valsOk n v→valsOk n (freshV ss c k s v)
 | 0,_,_,_,_,hv=>hv
 | k+1,s,v,hs,hl,hv=>by
   rw [freshV]
   exact freshV_ok h c k (s+1) _ (by omega) (turnedV_length _ _ _ _) (turnedV_ok (schemasB_good h (by omega)) c (by omega) hv)
theorem freshT_ok {ss:List (List Cls)} (h:schemasB ss=true) {x:Thing} {n:Int} (ht:TOk ss x) (hv:valsOk n x.2.2):valsOk n (freshT ss x).2.2:=by
 obtain ⟨s,c,h1,h2,h3,h4,h5,h6⟩:=ht
 rw [freshT]
 dsimp only
 rw [h1,h2,Int.toNat_natCast,Int.toNat_natCast]
 exact freshV_ok h c _ s _ (by omega) h6 hv
theorem valB_mono {v:Int × Int} {n m:Int} (h:n≤m) (hv:valB v n=true):valB v m=true:=by
 rw [valB] at hv ⊢
 split at hv
 ·rename_i h1
  rw [if_pos h1];exact hv
 ·rename_i h1
  rw [if_neg h1]
  split at hv
  ·rename_i h2
   rw [if_pos h2];exact hv
  ·rename_i h2
   rw [if_neg h2]
   split at hv
   ·rename_i h3
    rw [if_pos h3]
    simp only [Bool.and_eq_true,decide_eq_true_eq] at hv ⊢
    omega
   ·cases hv
structure FOk (lz:Bool) (ss:List (List Cls)) (ts:List Thing):Prop where
 sb:schemasB ss=true
 n40:ts.length≤40
 tk:∀ x∈ts,TOk ss x
 lt:lz=false→∀ x∈ts,x.2.1=(ss.length:Int)-1
 vl:∀ x∈ts,valsOk ts.length x.2.2
theorem FOk.w {lz:Bool} {ss:List (List Cls)} {ts:List Thing} (h:FOk lz ss ts) (hs:∀ s∈ss,Short s):WOk ss ts:=⟨hs,h.sb,h.n40,h.tk⟩
theorem turnedV_nil_ok {l:List Cls} (h:goodB l=true) (c:Nat) (n:Int):valsOk n (turnedV l c [] []):=turnedV_ok h c (Nat.le_refl _) (fun v hv=>by simp at hv)
theorem FOk.step {lz:Bool} {ss:List (List Cls)} {ts:List Thing} {s:Step} (h:FOk lz ss ts) (hsh:∀ s∈ss,Short s) (hk:ShortC s.k) (hs:StOk ss ts s):FOk lz (doS ss s) (doT lz ss ts s):=by
 have hw:=step_ok (lz:=lz) (h.w hsh) hk hs
 have hwo:=h.w hsh
 refine ⟨hw.sb,hw.n40,hw.tk,?_,?_⟩
 ·intro hl x hx
  by_cases h1:s.d=1
  ·rw [doT,if_pos h1,hl,if_neg Bool.false_ne_true] at hx
   obtain ⟨y,hy,rfl⟩:=List.mem_map.1 hx
   rfl
  ·rw [doT,if_neg h1] at hx
   rw [doS,if_neg h1]
   by_cases h2:s.d=2
   ·rw [if_pos h2,List.mem_append,List.mem_singleton] at hx
    rcases hx with hx|rfl
    ·exact h.lt hl x hx
    ·rfl
   ·rw [if_neg h2] at hx
    rcases List.mem_or_eq_of_mem_set hx with hx|rfl
    ·exact h.lt hl x hx
    ·rw [putT];split
     ·rfl
     ·split<;>rfl
 ·intro x hx
  obtain ⟨n1,n12,lg,lsh,_⟩:=hwo.last
  by_cases h1:s.d=1
  ·have hn:(doT lz ss ts s).length=ts.length:=by rw [doT,if_pos h1];split<;>simp
   rw [hn]
   rw [doT,if_pos h1] at hx
   split at hx
   ·exact h.vl x hx
   ·obtain ⟨y,hy,rfl⟩:=List.mem_map.1 hx
    have hty:TOk (doS ss s) y:=by rw [doS,if_pos h1];exact (h.tk y hy).snoc _
    exact freshT_ok hw.sb hty (h.vl y hy)
  ·by_cases h2:s.d=2
   ·have e:doT lz ss ts s=ts++[newT ss s]:=by rw [doT,if_neg h1,if_pos h2]
    rw [e] at hx ⊢
    rw [List.mem_append,List.mem_singleton] at hx
    rcases hx with hx|rfl
    ·exact fun v hv=>valB_mono (by simp;omega) (h.vl x hx v hv)
    ·exact turnedV_nil_ok lg _ _
   ·have e:doT lz ss ts s=ts.set s.th.toNat (putT ss ts s):=by rw [doT,if_neg h1,if_neg h2]
    rw [e] at hx ⊢
    rw [List.length_set]
    have h3:3≤s.d:=by have:=hs.d;omega
    have ht:=hs.t h3
    rcases List.mem_or_eq_of_mem_set hx with hx|rfl
    ·exact h.vl x hx
    ·have hu:valsOk ts.length (upT ss ts s).2.2:=freshT_ok h.sb (h.tk _ (thAt_mem ht)) (h.vl _ (thAt_mem ht))
     have hl:=upT_len hwo ht
     rw [putT]
     split
     ·rename_i h4
      intro v hv
      rcases List.mem_or_eq_of_mem_set hv with hv|rfl
      ·exact hu v hv
      ·exact hs.v h4
     ·split
      ·exact turnedV_ok lg _ (by omega) hu
      ·exact hu
end Go.Proofs
namespace Go.Proofs
open Go Go.W Go.V
abbrev wsA (lz:Bool) (ss:List (List Cls)):AV:=.ep [V.bool lz,schEs ss,.junk] 0
abbrev twoS (ss:List (List Cls)):Nat→List AV:=fun i=>[schE (schAt ss i),schE (schAt ss (i+1))]
theorem range'_snoc (s n:Nat):List.range' s (n+1)=List.range' s n++[s+n]:=by rw [List.range'_concat,Nat.one_mul]
structure WaS where
 i:Nat
 B:Base
 hB:B.γ.length=0
set_option maxHeartbeats 2000000 in
theorem s_ways_1 (lz:Bool) (ss:List (List Cls)) (n12:ss.length≤12) (s:Nat) (hs:s < ss.length) (m:Nat→Nat) (w:World) (vs:List Value) (hv:VL m w [] vs [.ep [V.int s] 0,.ep [wsA lz ss] 0]) :
  SeqV Tryz.prog 157 vs.toArray (twoS ss) (List.range' s (ss.length-1-s)) m w:=by
 refine SeqV.enter hv Tryz.tabOK Tryz.mixed Tryz.func157 rfl rfl rfl fun I B hB hA=>TC.np ?_
 refine goyW ?_
 refine TC.loopC (S:=WaS) (fun q=>⟨Tryz.prog,Tryz.tab,Tryz.tabOK,Tryz.mixed,35,[],q.B,0,q.hB,some none,0⟩) (fun q=>[(0,.raw (.func (.yield I.l) #[] #[])),(2,.ep [wsA lz ss] 0),(4,V.int q.i)]) (fun _=>[])
  (fun q=>(s≤q.i∧q.i < ss.length)∧At I (I.J (List.range' s (q.i-s))) [] q.B) (fun q=>ss.length-q.i) ⟨s,B,hB⟩ ⟨⟨Nat.le_refl _,hs⟩,by simpa using hA⟩ rfl (fun _ _=>rfl) [] rfl rfl ?_ ?_ ?_
 ·trivial
 ·repeat' (first|with_unfolding_all exact trivial|exact LE.ren (by with_unfolding_all exact rfl)|with_unfolding_all refine And.intro ⟨_,by with_unfolding_all exact rfl,?_⟩ ?_)
 rintro ⟨i,B2,hB2⟩ ⟨⟨hi1,hin⟩,hA2⟩
 dsimp only at hi1 hin hA2 ⊢
 by_cases hlt:i+1 < ss.length
 ·have e1:schAt ss i=ss[i]:=getD_lt hin
  have e2:schAt ss (i+1)=ss[i+1]:=getD_lt hlt
  have hpre:∃ r,List.range' s (i-s)++i::r=List.range' s (ss.length-1-s):=by
   refine ⟨List.range' (i+1) (ss.length-2-i),?_⟩
   rw [show i::List.range' (i+1) (ss.length-2-i)=List.range' i (ss.length-1-i) by rw [show ss.length-1-i=(ss.length-2-i)+1 by omega,List.range'_succ]]
   rw [show List.range' i (ss.length-1-i)=List.range' (s+1*(i-s)) (ss.length-1-i) by rw [show s+1*(i-s)=i by omega],List.range'_append]
   congr 1;omega
  have hnext:List.range' s (i-s)++[i]=List.range' s (i+1-s):=by rw [show i+1-s=(i-s)+1 by omega,range'_snoc,show s+(i-s)=i by omega]
  have htw:twoS ss i=[schE ss[i],schE ss[i+1]]:=by rw [← e1,← e2]
  refine goyW ?_
  (with_reducible refine TC.draw (id:=1) true 25 27 ?_<;>refine OD.st4 0 1 2 3 ?_<;>refine OD.st4 4 5 6 7 ?_<;>refine OD.st 8 ?_<;>refine OD.sD 14 ?_ ?_<;>(intro hc;try (exfalso;omega))<;>(first|(with_reducible refine OD.st 9 ?_)|(with_reducible refine OD.of 9 ?_))<;>refine OD.st4 10 11 12 13 ?_<;>refine OD.st4 14 15 16 17 ?_<;>refine OD.st4 18 19 20 21 ?_<;>refine OD.st2 22 23 ?_<;>refine OD.st 24 ?_)<;>((with_reducible refine OD.a1 25 ?_);refine OL.yield (pre:=List.range' s (i-s)) (y:=i) hA2 hpre (fun B3 hB3 hA3 _ _=>?_) (fun B3 hB3 hA3 _ _=>?_) (hle:=by rw [htw];exact ⟨.ren rfl,.ren rfl,trivial⟩)<;>refine OL.nil ?_<;>refine TX.odAt ?_)<;>(with_reducible refine OD.st 26 ?_<;>refine OD.dn ?_)
  ·refine goyW ?_
   exact TX.rdC ⟨i+1,B3,hB3⟩ [] ⟨⟨by dsimp only;omega,hlt⟩,by dsimp only;rw [← hnext];exact hA3⟩ (by dsimp only;omega)
  ·refine goyW ?_
   refine TX.npN ?_
   refine TX.endM ?_
   exact TX.rtIt (ds:=[]) hA3 (fun m w h=>.inr ⟨_,h⟩)
 ·obtain rfl:i=ss.length-1:=by omega
  refine goyW ?_
  (with_reducible refine TC.draw (id:=1) true 25 27 ?_<;>refine OD.st4 0 1 2 3 ?_<;>refine OD.st4 4 5 6 7 ?_<;>refine OD.st 8 ?_<;>refine OD.sD 14 ?_ ?_<;>(intro hc;try (exfalso;omega))<;>(first|(with_reducible refine OD.st 9 ?_)|(with_reducible refine OD.of 9 ?_))<;>refine OD.of 10 ?_<;>refine OD.of 11 ?_<;>refine OD.of 12 ?_<;>refine OD.of 13 ?_<;>refine OD.of 14 ?_<;>refine OD.of 15 ?_<;>refine OD.of 16 ?_<;>refine OD.of 17 ?_<;>refine OD.of 18 ?_<;>refine OD.of 19 ?_<;>refine OD.of 20 ?_<;>refine OD.of 21 ?_<;>refine OD.of 22 ?_<;>refine OD.of 23 ?_<;>refine OD.of 24 ?_<;>refine OD.of 25 ?_<;>refine OD.st 26 ?_<;>refine OD.dn ?_)
  refine goyW ?_
  refine TX.npN ?_
  refine TX.endM ?_
  exact TX.rtIt (ds:=[]) hA2 (fun m w h=>.inl h)
theorem s_turn_ways (lz:Bool) (ss:List (List Cls)) (n12:ss.length≤12) (s:Nat) (hs:s < ss.length):V.Spec Tryz.prog 114 [wsA lz ss,V.int s] [] (.pr (SeqMP Tryz.prog (twoS ss) (List.range' s (ss.length-1-s)))) []:=by
 refine V.Spec.enter Tryz.tabOK Tryz.mixed Tryz.func114 rfl rfl rfl fun B hB=>?_
 refine goW ?_
 refine TX.frzA 0 ?_
 refine TX.frzA 1 ?_
 exact TX.rt1 [] (LE.seq Tryz.func157 (s_ways_1 lz ss n12 s hs))
theorem freshV_succ (ss:List (List Cls)) (c n s:Nat) (v:List (Int × Int)):freshV ss c (n+1) s v=turnedV (schAt ss (s+n+1)) c (slotsOf (schAt ss (s+n)) c) (freshV ss c n s v):=by
 rw [freshV_add ss c n 1 s v];rfl
theorem mem_range' {s n x:Nat} {pre r:List Nat} (h:pre++x::r=List.range' s n):x=s+pre.length∧pre.length < n:=by
 have hl:=congrArg List.length h
 simp at hl
 have hlt:pre.length < (List.range' s n).length:=by simp;omega
 have h1:(List.range' s n)[pre.length]=x:=by
  have:(pre++x::r)[pre.length]'(by simp)=x:=by simp
  simp only [h] at this
  exact this
 rw [List.getElem_range'] at h1
 omega
set_option maxHeartbeats 2000000 in
theorem s_turn_fresh (lz:Bool) {ss:List (List Cls)} (hsb:schemasB ss=true) {x:Thing} (hx:TOk ss x):V.Spec Tryz.prog 86 [wsA lz ss,thingA x] [] (thingA (freshT ss x)) []:=by
 obtain ⟨n1,n12⟩:=schemasB_len hsb
 obtain ⟨s,c,h1,h2,h3,h4,h5,h6⟩:=hx
 obtain ⟨x1,x2,v⟩:=x
 dsimp only at h1 h2 h6
 subst h1 h2
 have hw:=s_turn_ways lz ss n12 s h3
 have hff:freshT ss ((c:Int),(s:Int),v)=((c:Int),(ss.length:Int)-1,freshV ss c (ss.length-1-s) s v):=by rw [freshT,Int.toNat_natCast,Int.toNat_natCast]
 rw [hff]
 refine Spec.enterM Tryz.tabOK Tryz.mixed Tryz.func86 rfl rfl rfl fun B hB=>?_
 refine goW ?_
 refine OL.c hw Tryz.func114 ?_
 refine goW ?_
 refine TC.rfV2 (fun i=>schE (schAt ss i)) (fun i=>schE (schAt ss (i+1))) [(0,wsA lz ss),(3,.bp 0 0),(4,.bp 1 0)] (fun pre=>[.cb Tc.api_TurnThing [V.int c,V.int s,valsA (freshV ss c pre.length s v)],.cb Tc.api_TurnThing [.raw (.int .i64 0),.raw (.int .i64 0),.raw (.slice none 0 0)]]) 2 [0,1] rfl rfl rfl (fun _=>rfl) rfl rfl ?_ ?_ ?_ (Nat.zero_le _) (by simp) rfl rfl rfl rfl (by rfl) (by rfl) (fun pre x Bx hBx l hx=>?_) (fun B3 hB3 D hM=>?_)
 ·with_unfolding_all exact ⟨⟨_,rfl,OE.ren rfl⟩,⟨_,rfl,OE.ren rfl⟩,trivial⟩
 ·with_unfolding_all exact ⟨⟨_,rfl,LE.ren rfl⟩,⟨_,rfl,LE.ren rfl⟩,⟨_,rfl,LE.ren rfl⟩,trivial⟩
 ·with_unfolding_all exact ⟨⟨_,rfl,LE.ren rfl⟩,⟨_,rfl,LE.ren rfl⟩,⟨_,rfl,LE.ren rfl⟩,trivial⟩
 ·obtain ⟨r,hr⟩:=hx
  obtain ⟨rfl,hpl⟩:=mem_range' hr
  have hle:=fun i (a:s≤i) (b:i < ss.length)=>schemasB_le hsb i a b
  have ha:=hle (s+pre.length) (by omega) (by omega)
  have hb:=hle (s+pre.length+1) (by omega) (by omega)
  have hga:=goodB_fine (schemasB_good hsb (i:=s+pre.length) (by omega))
  have hgb:=goodB_fine (schemasB_good hsb (i:=s+pre.length+1) (by omega))
  have hfl:=freshV_len ss c pre.length s v h6
  have hha:=s_turn_has (schAt ss (s+pre.length)) (by omega) h4 (by omega)
  have hke:=s_turn_kept hgb.2 hgb.1 h4 (by omega) (slots:=slotsOf (schAt ss (s+pre.length)) c) (vals:=freshV ss c pre.length s v) (by omega)
  rw [← freshV_succ] at hke
  have e:(pre++[s+pre.length]).length=pre.length+1:=by simp
  dsimp only
  rw [e]
  generalize freshV ss c pre.length s v=va at *
  generalize freshV ss c (pre.length+1) s v=vb at *
  refine goyW ?_
  (with_reducible refine TC.draw (id:=4) true 11 12 ?_<;>refine OD.st4 0 1 2 3 ?_<;>refine OD.st4 4 5 7 8 ?_<;>refine OD.c1 6 hha Tryz.func69 ?_<;>refine OD.c1 9 hke Tryz.func115 ?_<;>refine OD.st 10 ?_<;>(refine OD.a1 11 ?_;refine OL.store ?_;refine OL.nil ?_;refine TX.od ?_)<;>refine OD.dn ?_)
  refine goyW ?_
  exact TX.rq [0,1] (by with_unfolding_all exact ⟨⟨_,rfl,OE.ren rfl⟩,⟨_,rfl,OE.ren rfl⟩,trivial⟩)
 ·have e:(List.range' s (ss.length-1-s)).length=ss.length-1-s:=by simp
  dsimp only
  rw [e]
  refine goyW ?_
  exact TX.rsM hM hB [] (.ren rfl) (hx:=by with_unfolding_all exact ⟨_,_,_,_,rfl,rfl,rfl,rfl,rfl⟩)
end Go.Proofs
