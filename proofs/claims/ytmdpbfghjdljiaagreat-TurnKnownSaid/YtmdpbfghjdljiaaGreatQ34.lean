/- Part 34 of what the claim is proved by: lemmas on the model and walks through functions of the program; no conditions. -/
import Derived.Test.YtmdpbfghjdljiaaGreatQ12
import Derived.Test.YtmdpbfghjdljiaaGreatQ33
import Derived.WalkKit
import Derived.Test.YtmdpbfghjdljiaaGreatQ31
import Derived.Test.YtmdpbfghjdljiaaGreatQ23
namespace Go.Proofs
open Go Go.W Go.V Go.ChangeShapes Go.WideShapes Go.ChangeAt Go.RowKit Go.Deep
theorem lOwn:ownKnob Tryz.prog.godebug=none:=by kernel_rfl
theorem lLaid:laidOutB Tryz.prog=true:=by kernel_rfl
section
variable {H:Type} {enc:TypeId × Value→H} {w:World} {held:Bool}
end
end Go.Proofs
namespace Go.Proofs
open Go Go.W Go.V
abbrev stTo (c:Int):Step:=⟨5,0,c,0,(0,0),cls0⟩
abbrev stTouch:Step:=⟨6,0,0,0,(0,0),cls0⟩
abbrev kn1:Cls:=([],[1],[])
abbrev kn2:Cls:=([4],[9],[])
abbrev kn3:Cls:=([3],[],[])
abbrev kn4:Cls:=([],[0,2],[])
theorem kk_1:doX true [schS] [] (stMake 4 kn1)=((false,[],[]),(0,0),7):=by decide +kernel
theorem kk_2:doX true [schS] [] (stMake 5 kn2)=((true,[schS,[([],[0,1],[(0,5)]),([3],[2],[]),([4],[9],[])]],[]),(2,0),0):=by decide +kernel
theorem kk_3:doX true [schS] [] (stMake 6 cls0)=((false,[],[]),(0,0),2):=by decide +kernel
theorem kk_4:(playX true [schS] [] [stNew 3,stPut 1 3,stTo 4,stPut 2 4,stGet 1,stTo 3,stGet 2,stTo 4,stGet 2,stGet 0,stTouch]).2=([(3,0),(1,3),(3,0),(1,4),(1,3),(3,0),(0,0),(3,0),(2,0),(1,5),(3,0)],[0,0,0,0,0,0,5,0,0,0,0],0):=by decide +kernel
theorem kk_5:(playX true [schS] [] [stNew 4,stPut 2 4,stMake 4 kn3,stMake 3 kn4,stGet 2,stGet 0]).2=([(3,0),(1,4),(2,0),(2,0),(2,0),(1,5)],[0,0,0,0,0,0],0):=by decide +kernel
end Go.Proofs
namespace Go.Proofs
open Go Go.W Go.V
theorem s_slices_Equal_Lapi_MeanVal_api_MeanVal (la lb:List (Int × Int)):V.Spec Tryz.prog 40 [valsA la,valsA lb] [] (V.bool (la==lb)) []:=by
 refine V.Spec.enter Tryz.tabOK Tryz.mixed Tryz.func40 rfl rfl rfl fun B hB=>?_
 refine TC.bl 0 fun hla=>TC.bl 1 fun hlb=>?_
 by_cases hl:la.length=lb.length
 ·repeat' (with_reducible first|refine OL.st ?_|refine TC.region ?_|refine TC.seq ?_|refine OL.nil ?_|refine TX.thenN ?_|refine TC.block ?_|refine TC.skip ?_|refine TC.ifD ?_ ?_<;>(intro hc;try (exfalso;omega))|fail)
  refine TC.lp (fun k:Nat=>[(0,valsA la),(1,valsA lb),(12,V.int la.length),(13,V.int k)]) (fun _=>[]) (fun k=>k≤la.length∧la.take k=lb.take k) (fun k=>la.length-k) 0 [] ⟨Nat.zero_le _,by simp⟩ ?_
  rintro k ⟨hk,hpre⟩
  by_cases hkl:k < la.length
  ·obtain ⟨a1,a2⟩:∃ t:Bool,t=(la[k].1==(lb[k]'(by omega)).1&&la[k].2==(lb[k]'(by omega)).2):=⟨_,rfl⟩
   repeat' (with_reducible first|refine OL.st ?_|refine TC.region ?_|refine TC.seq ?_|refine OL.nil ?_|refine TX.thenN ?_|refine TC.block ?_|refine TC.skip ?_|refine TC.ifD ?_ ?_<;>(intro hc;try (exfalso;omega))|fail)
   (with_reducible refine TC.draw (id:=6) true 8 9 ?_<;>refine OD.st 0 ?_<;>refine OD.st 1 ?_<;>refine OD.st 2 ?_<;>refine OD.st 3 ?_<;>refine OD.st 4 ?_<;>refine OD.st 5 ?_<;>refine OD.st 6 ?_<;>refine OD.st 7 ?_<;>(refine OD.a1 8 ?_;refine OL.neD2 eqMV ?_;rw [← a2];refine OL.nil ?_;refine TX.od ?_)<;>refine OD.dn ?_)
   repeat' (first|(with_reducible refine TX.thenN ?_)|fail)
   cases a1
   ·repeat' (with_reducible first|refine OL.st ?_|refine TC.region ?_|refine TC.seq ?_|refine OL.nil ?_|refine TX.thenN ?_|refine TC.ifT ?_|refine TC.ret ?_|refine TX.thenR ?_|refine TX.blkR ?_|fail)
    refine TX.rt1 [] (.bool ?_)
    have:la≠lb:=fun e=>by subst e;simp at a2
    simp [this]
   ·have h:la[k]=lb[k]'(by omega):=by
     have:=a2.symm
     simp only [Bool.and_eq_true,beq_iff_eq] at this
     exact Prod.ext this.1 this.2
    repeat' (with_reducible first|refine OL.st ?_|refine TC.region ?_|refine OL.nil ?_|refine TX.thenN ?_|refine TC.skip ?_|refine TX.blkN ?_|refine TC.ifF ?_|fail)
    refine TX.rd (k+1) [] ⟨by omega,?_⟩ (by omega)
    rw [take_succ (by omega),take_succ (by omega),hpre,h]
  ·repeat' (with_reducible first|refine OL.st ?_|refine TC.region ?_|refine TC.seq ?_|refine OL.nil ?_|refine TX.thenN ?_|refine TC.exit ?_|refine TX.hit ?_|refine TX.thenX ?_|refine TC.ifD ?_ ?_<;>(intro hc;try (exfalso;omega))|refine TC.ret ?_|fail)
   refine TX.rt1 [] (.bool ?_)
   have e:la=lb:=by
    rw [← take_all (l:=la) (k:=k) (by omega),← take_all (l:=lb) (k:=k) (by omega)]
    exact hpre
   simp [e]
 ·repeat' (with_reducible first|refine OL.st ?_|refine TC.region ?_|refine TC.seq ?_|refine OL.nil ?_|refine TX.thenN ?_|refine TC.ifD ?_ ?_<;>(intro hc;try (exfalso;omega))|refine TC.ret ?_|refine TX.thenR ?_|fail)
  refine TX.rt1 [] (.bool ?_)
  have:la≠lb:=fun e=>by subst e;exact hl rfl
  simp [this]
theorem vals_eq (l:List (Int × Int)):V.Spec Tryz.prog 40 [valsA l,valsA l] [] (V.bool true) []:=by
 have h:=s_slices_Equal_Lapi_MeanVal_api_MeanVal l l
 rwa [beq_self_eq_true] at h
end Go.Proofs
