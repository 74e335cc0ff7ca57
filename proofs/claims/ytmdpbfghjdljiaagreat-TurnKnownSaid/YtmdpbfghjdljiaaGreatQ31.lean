/- Part 31 of what the claim is proved by: lemmas on the model and walks through functions of the program; no conditions. -/
import Derived.Test.YtmdpbfghjdljiaaGreatQ17
import Derived.Test.YtmdpbfghjdljiaaGreatQ30
import Derived.Test.YtmdpbfghjdljiaaGreatQ29
import Derived.Test.YtmdpbfghjdljiaaGreatQ26
import Derived.Test.YtmdpbfghjdljiaaGreatQ20
import Derived.Test.YtmdpbfghjdljiaaGreatQ27
import Derived.Test.YtmdpbfghjdljiaaGreatQ13
import Derived.Test.YtmdpbfghjdljiaaGreatQ28
namespace Go.Proofs
open Go Go.W Go.V
theorem LE.wl1 {τ:Nat→Option Nat} (lz:Bool) (a b:AV) (h:V.ren τ a=b:=by with_unfolding_all exact rfl):LE τ (.st [V.bool lz,a,.raw (.slice none 0 0)]) (.st [V.bool lz,b,thingsA []]):=LE.st ⟨.ren rfl,.ren h,.nil (by decide),trivial⟩
set_option maxHeartbeats 1000000 in
theorem s_turn_Start (l:List Cls) (hs:Short l) (lz:Bool):V.Spec Tryz.prog 34 [clssA l,V.bool lz] [] (.tp [wldA (startX l lz).1,V.int (startX l lz).2]) []:=by
 have hsc:=s_turn_Schema l hs
 have hea:=s_each_copied hs
 rw [startX]
 refine V.Spec.enter Tryz.tabOK Tryz.mixed Tryz.func34 rfl rfl rfl fun B hB=>?_
 cases hg:goodB l
 ·rw [hg,if_neg Bool.false_ne_true] at hsc
  rw [if_neg Bool.false_ne_true]
  refine goW ?_
  refine OL.c hsc Tryz.func54 ?_
  refine goW ?_
  exact TX.rs2 [] LE.wl0 (.ren rfl)
 ·rw [hg,if_pos rfl] at hsc
  rw [if_pos rfl]
  refine goW ?_
  refine OL.c hsc Tryz.func54 ?_
  refine goW ?_
  refine OL.c hea Tryz.func83 ?_ (hle:=by exact ⟨.ren rfl,LE.fun_ (first':=[]) (caps':=[]) Tryz.func84 rfl trivial trivial (fun x hx=>s_turn_copied x (hs.2 x hx).1 (hs.2 x hx).2.1 (hs.2 x hx).2.2),trivial⟩)
  refine goW ?_
  refine TX.vwC 0 1 ?_
  exact TX.rs2 [] (LE.wl1 lz (schsA [l]) (schsA [l])) (.ren rfl)
theorem stepO_1 {lz:Bool} {ss:List (List Cls)} {ts:List Thing} {s:Step} (d:s.d=1):stepO lz ss ts s=[.cb Tc.turn_world [V.bool lz,.hs 3,.hs 2],.dead,.gs false Tc.api_TurnThing 3 none ((doT lz ss ts s).map thingA),.gs true Tc.Pturn_schema 1 none ((doS ss s).map schE)]:=if_pos d
theorem stepO_2 {lz:Bool} {ss:List (List Cls)} {ts:List Thing} {s:Step} (d:s.d=2):stepO lz ss ts s=[.cb Tc.turn_world [V.bool lz,.hs 1,.hs 3],.gs true Tc.Pturn_schema 1 none ((doS ss s).map schE),.dead,.gs false Tc.api_TurnThing 3 none ((doT lz ss ts s).map thingA)]:=by rw [stepO,if_neg (by omega),if_pos d]
theorem stepO_3 {lz:Bool} {ss:List (List Cls)} {ts:List Thing} {s:Step} (d1:s.d≠1) (d2:s.d≠2):stepO lz ss ts s=worldO lz (doS ss s) (doT lz ss ts s):=by rw [stepO,if_neg d1,if_neg d2]
set_option maxHeartbeats 4000000 in
theorem s_turn_Do (lz:Bool) (ss:List (List Cls)) (ts:List Thing) (hsh:∀ s∈ss,Short s) (s:Step) (hk:ShortC s.k):V.Spec Tryz.prog 16 [wlA lz ss ts,stepA s] [] (doA (doX lz ss ts s)) []:=by
 rw [doX]
 cases hf:formedB lz ss ts
 ·have ho:=turn_open_no hsh hf
  rw [if_neg Bool.false_ne_true]
  refine V.Spec.enter Tryz.tabOK Tryz.mixed Tryz.func16 rfl rfl rfl fun B hB=>?_
  refine goW ?_
  refine OL.c ho Tryz.func61 ?_
  refine goW ?_
  exact TX.rs3 [] LE.wl0 (.ren rfl) (.ren rfl)
 have ho:=turn_open_yes hsh hf
 rw [if_pos rfl]
 have hw:=formedB_ok hsh hf
 by_cases e0:refusedE ss ts s=0
 ·rw [if_pos e0]
  have hst:=turn_step_yes lz hw s hk e0
  have hw2:=step_ok (lz:=lz) hw hk (refused_ok e0)
  have hsh:=s_turn_shut lz hw2
  by_cases d1:s.d=1
  ·rw [stepO_1 d1] at hst
   generalize doS ss s=s2 at *
   generalize doT lz ss ts s=t2 at *
   generalize doR ss ts s=r2 at *
   refine V.Spec.enter Tryz.tabOK Tryz.mixed Tryz.func16 rfl rfl rfl fun B hB=>?_
   refine goW ?_
   refine OL.c ho Tryz.func61 ?_
   refine goW ?_
   refine OL.ch [4,5,6] hst Tryz.func62 ?_
   refine goW ?_
   (with_reducible refine TC.draw (id:=7) false 6 6 ?_<;>refine OD.st 0 ?_<;>refine OD.n2 1 2 ?_ ?_)<;>(first|(with_reducible refine NextBy.at 1 ?_)<;>((with_reducible refine NextBy.a ?_);refine OL.ch [4,7,6] hsh Tryz.func63 ?_;refine OL.nil ?_;refine TX.od ?_)<;>(with_reducible refine OD.n2 2 3 ?_ ?_<;>(first|refine NextBy.at 2 ?_<;>refine NextBy.s ?_<;>(refine OD.a1 3 ?_;refine OL.storeAgg ?_;refine OL.nil ?_;refine TX.od ?_)<;>(refine OD.a1 4 ?_;refine OL.storeAgg ?_;refine OL.nil ?_;refine TX.od ?_)<;>refine OD.st 5 ?_<;>refine OD.dn ?_|refine NextBy.at 3 ?_<;>(refine NextBy.a ?_;refine OL.storeAgg ?_;refine OL.nil ?_;refine TX.od ?_)<;>refine OD.s1 2 ?_<;>(refine OD.a1 4 ?_;refine OL.storeAgg ?_;refine OL.nil ?_;refine TX.od ?_)<;>refine OD.st 5 ?_<;>refine OD.dn ?_))|(with_reducible refine NextBy.at 2 ?_<;>refine NextBy.s ?_)<;>((with_reducible refine OD.a1 1 ?_);refine OL.ch [4,7,6] hsh Tryz.func63 ?_;refine OL.nil ?_;refine TX.od ?_)<;>(with_reducible (refine OD.a1 3 ?_;refine OL.storeAgg ?_;refine OL.nil ?_;refine TX.od ?_)<;>(refine OD.a1 4 ?_;refine OL.storeAgg ?_;refine OL.nil ?_;refine TX.od ?_)<;>refine OD.st 5 ?_<;>refine OD.dn ?_))
   all_goals refine goW ?_
   all_goals exact TX.rs3 [] (.ren rfl) (.ren rfl) (.ren rfl)
  by_cases d2:s.d=2
  ·rw [stepO_2 d2] at hst
   generalize doS ss s=s2 at *
   generalize doT lz ss ts s=t2 at *
   generalize doR ss ts s=r2 at *
   refine V.Spec.enter Tryz.tabOK Tryz.mixed Tryz.func16 rfl rfl rfl fun B hB=>?_
   refine goW ?_
   refine OL.c ho Tryz.func61 ?_
   refine goW ?_
   refine OL.ch [4,5,6] hst Tryz.func62 ?_
   refine goW ?_
   (with_reducible refine TC.draw (id:=7) false 6 6 ?_<;>refine OD.st 0 ?_<;>refine OD.n2 1 2 ?_ ?_)<;>(first|(with_reducible refine NextBy.at 1 ?_)<;>((with_reducible refine NextBy.a ?_);refine OL.ch [4,5,7] hsh Tryz.func63 ?_;refine OL.nil ?_;refine TX.od ?_)<;>(with_reducible refine OD.n2 2 3 ?_ ?_<;>(first|refine NextBy.at 2 ?_<;>refine NextBy.s ?_<;>(refine OD.a1 3 ?_;refine OL.storeAgg ?_;refine OL.nil ?_;refine TX.od ?_)<;>(refine OD.a1 4 ?_;refine OL.storeAgg ?_;refine OL.nil ?_;refine TX.od ?_)<;>refine OD.st 5 ?_<;>refine OD.dn ?_|refine NextBy.at 3 ?_<;>(refine NextBy.a ?_;refine OL.storeAgg ?_;refine OL.nil ?_;refine TX.od ?_)<;>refine OD.s1 2 ?_<;>(refine OD.a1 4 ?_;refine OL.storeAgg ?_;refine OL.nil ?_;refine TX.od ?_)<;>refine OD.st 5 ?_<;>refine OD.dn ?_))|(with_reducible refine NextBy.at 2 ?_<;>refine NextBy.s ?_)<;>((with_reducible refine OD.a1 1 ?_);refine OL.ch [4,5,7] hsh Tryz.func63 ?_;refine OL.nil ?_;refine TX.od ?_)<;>(with_reducible (refine OD.a1 3 ?_;refine OL.storeAgg ?_;refine OL.nil ?_;refine TX.od ?_)<;>(refine OD.a1 4 ?_;refine OL.storeAgg ?_;refine OL.nil ?_;refine TX.od ?_)<;>refine OD.st 5 ?_<;>refine OD.dn ?_))
   all_goals refine goW ?_
   all_goals exact TX.rs3 [] (.ren rfl) (.ren rfl) (.ren rfl)
  ·rw [stepO_3 d1 d2] at hst
   generalize doS ss s=s2 at *
   generalize doT lz ss ts s=t2 at *
   generalize doR ss ts s=r2 at *
   refine V.Spec.enter Tryz.tabOK Tryz.mixed Tryz.func16 rfl rfl rfl fun B hB=>?_
   refine goW ?_
   refine OL.c ho Tryz.func61 ?_
   refine goW ?_
   refine OL.ch [4,5,6] hst Tryz.func62 ?_
   refine goW ?_
   (with_reducible refine TC.draw (id:=7) false 6 6 ?_<;>refine OD.st 0 ?_<;>refine OD.n2 1 2 ?_ ?_)<;>(first|(with_reducible refine NextBy.at 1 ?_)<;>((with_reducible refine NextBy.a ?_);refine OL.ch [4,5,6] hsh Tryz.func63 ?_;refine OL.nil ?_;refine TX.od ?_)<;>(with_reducible refine OD.n2 2 3 ?_ ?_<;>(first|refine NextBy.at 2 ?_<;>refine NextBy.s ?_<;>(refine OD.a1 3 ?_;refine OL.storeAgg ?_;refine OL.nil ?_;refine TX.od ?_)<;>(refine OD.a1 4 ?_;refine OL.storeAgg ?_;refine OL.nil ?_;refine TX.od ?_)<;>refine OD.st 5 ?_<;>refine OD.dn ?_|refine NextBy.at 3 ?_<;>(refine NextBy.a ?_;refine OL.storeAgg ?_;refine OL.nil ?_;refine TX.od ?_)<;>refine OD.s1 2 ?_<;>(refine OD.a1 4 ?_;refine OL.storeAgg ?_;refine OL.nil ?_;refine TX.od ?_)<;>refine OD.st 5 ?_<;>refine OD.dn ?_))|(with_reducible refine NextBy.at 2 ?_<;>refine NextBy.s ?_)<;>((with_reducible refine OD.a1 1 ?_);refine OL.ch [4,5,6] hsh Tryz.func63 ?_;refine OL.nil ?_;refine TX.od ?_)<;>(with_reducible (refine OD.a1 3 ?_;refine OL.storeAgg ?_;refine OL.nil ?_;refine TX.od ?_)<;>(refine OD.a1 4 ?_;refine OL.storeAgg ?_;refine OL.nil ?_;refine TX.od ?_)<;>refine OD.st 5 ?_<;>refine OD.dn ?_))
   all_goals refine goW ?_
   all_goals exact TX.rs3 [] (.ren rfl) (.ren rfl) (.ren rfl)
 ·rw [if_neg e0]
  have hst:=turn_step_no lz hw s hk e0
  generalize refusedE ss ts s=e at *
  refine V.Spec.enter Tryz.tabOK Tryz.mixed Tryz.func16 rfl rfl rfl fun B hB=>?_
  refine goW ?_
  refine OL.c ho Tryz.func61 ?_
  refine goW ?_
  refine OL.ch [4,5,6] hst Tryz.func62 ?_
  refine goW ?_
  exact TX.rs3 [] LE.wl0 (.ren rfl) (.ren rfl)
set_option maxHeartbeats 4000000 in
theorem s_turn_Play (lz:Bool) (ss:List (List Cls)) (ts:List Thing) (hsh:∀ s∈ss,Short s) (l:List Step) (hk:∀ s∈l,ShortC s.k):V.Spec Tryz.prog 20 [wlA lz ss ts,stepsA l] [] (playA (playX lz ss ts l)) []:=by
 rw [playX]
 refine V.Spec.enter Tryz.tabOK Tryz.mixed Tryz.func20 rfl rfl rfl fun B hB=>?_
 refine TC.bl 1 fun hll=>?_
 cases hf:formedB lz ss ts
 ·have ho:=turn_open_no hsh hf
  rw [if_neg (fun h=>by cases h.1)]
  refine goW ?_
  refine OL.c ho Tryz.func61 ?_
  refine goW ?_
  exact TX.rs4 [] LE.wl0 (.nil (by decide)) (.nil (by decide)) (.ren rfl)
 have ho:=turn_open_yes hsh hf
 by_cases h60:l.length≤60
 ·rw [if_pos ⟨rfl,h60⟩]
  have hw:=formedB_ok hsh hf
  obtain ⟨P,hP⟩:∃ P,P=fun k=>playV lz ss ts (l.take k):=⟨_,rfl⟩
  have hP0:P 0=(ss,ts,[],[]):=by rw [hP];rfl
  have hPl:playV lz ss ts l=P l.length:=by rw [hP];simp
  have hPw:∀ k,WOk (P k).1 (P k).2.1:=fun k=>by rw [hP];exact play_ok lz _ ss ts hw (fun s hs=>hk s (List.mem_of_mem_take hs))
  have hPn:∀ k,(P k).2.2.1.length≤60∧(P k).2.2.2.length≤60:=fun k=>by
   rw [hP]
   have:=play_lens lz (l.take k) ss ts
   rw [this.1,this.2]
   simp;omega
  have hPs:∀ k (hkl:k < l.length),P (k+1)=if refusedE (P k).1 (P k).2.1 l[k]=0 then (doS (P k).1 l[k],doT lz (P k).1 (P k).2.1 l[k],(P k).2.2.1++[doR (P k).1 (P k).2.1 l[k]],(P k).2.2.2++[0]) else ((P k).1,(P k).2.1,(P k).2.2.1++[(0,0)],(P k).2.2.2++[refusedE (P k).1 (P k).2.1 l[k]]):=fun k hkl=>by
   rw [hP]
   dsimp only
   rw [take_succ hkl,playV_snoc]
  rw [hPl]
  clear hP hPl
  refine goW ?_
  refine OL.c ho Tryz.func61 ?_
  refine goW ?_
  refine TC.adp 10 Tc.api_MeanVal 2 ?_
  refine TC.adp 11 Tc.api_Errno 1 ?_
  refine TC.lp (fun k:Nat=>[(4,.bp 0 0),(8,.bp 1 0),(10,.hs 4),(11,.hs 5),(29,stepsA l),(30,V.int l.length),(31,V.int k)]) (fun k=>[.cb Tc.api_TurnWorld [.raw (.bool false),.raw (.slice none 0 0),.raw (.slice none 0 0)],.cb Tc.turn_world [V.bool lz,.hs 2,.hs 3],.gs true Tc.Pturn_schema 1 none ((P k).1.map schE),.gs false Tc.api_TurnThing 3 none ((P k).2.1.map thingA),.gs false Tc.api_MeanVal 2 none ((P k).2.2.1.map valA),.gs false Tc.api_Errno 1 none ((P k).2.2.2.map V.int)]) (fun k=>k≤l.length) (fun k=>l.length-k) 0 [1,2,3,4,5,6] (Nat.zero_le _) ?_ (ho:=by rw [hP0];exact ⟨⟨_,rfl,OE.ren rfl⟩,⟨_,rfl,OE.ren rfl⟩,⟨_,rfl,OE.ren rfl⟩,⟨_,rfl,OE.ren rfl⟩,⟨_,rfl,OE.gs⟩,⟨_,rfl,OE.gs⟩,trivial⟩)
  rintro k hkk
  have hw:=hPw k
  obtain ⟨q1,q2⟩:=hPn k
  by_cases hkl:k < l.length
  ·have hps:=hPs k hkl
   by_cases e0:refusedE (P k).1 (P k).2.1 l[k]=0
   ·have hst:=turn_step_yes lz hw l[k] (hk _ (List.getElem_mem _)) e0
    rw [if_pos e0] at hps
    have e1:(P (k+1)).1=doS (P k).1 l[k]:=by rw [hps]
    have e2:(P (k+1)).2.1=doT lz (P k).1 (P k).2.1 l[k]:=by rw [hps]
    have e3:(P k).2.2.1.map valA++[valA (doR (P k).1 (P k).2.1 l[k])]=(P (k+1)).2.2.1.map valA:=by rw [hps];exact map_snoc _ _ _
    have e4:(P k).2.2.2.map V.int++[V.int 0]=(P (k+1)).2.2.2.map V.int:=by rw [hps];exact map_snoc _ _ _
    by_cases d1:l[k].d=1
    ·rw [stepO_1 d1,← e1,← e2] at hst
     generalize (P k).2.2.1=vl at *
     generalize (P k).2.2.2=el at *
     generalize doR (P k).1 (P k).2.1 l[k]=rv at *
     refine goW ?_
     refine OL.ch [1,2,3] hst Tryz.func62 ?_
     refine goW ?_
     exact TX.rd (k+1) [0,1,7,3,10,12] (by omega) (by omega)
    by_cases d2:l[k].d=2
    ·rw [stepO_2 d2,← e1,← e2] at hst
     generalize (P k).2.2.1=vl at *
     generalize (P k).2.2.2=el at *
     generalize doR (P k).1 (P k).2.1 l[k]=rv at *
     refine goW ?_
     refine OL.ch [1,2,3] hst Tryz.func62 ?_
     refine goW ?_
     exact TX.rd (k+1) [0,1,2,7,10,12] (by omega) (by omega)
    ·rw [stepO_3 d1 d2,← e1,← e2] at hst
     generalize (P k).2.2.1=vl at *
     generalize (P k).2.2.2=el at *
     generalize doR (P k).1 (P k).2.1 l[k]=rv at *
     refine goW ?_
     refine OL.ch [1,2,3] hst Tryz.func62 ?_
     refine goW ?_
     exact TX.rd (k+1) [0,1,2,3,9,11] (by omega) (by omega)
   ·rw [if_neg e0] at hps
    have hst:=turn_step_no lz hw l[k] (hk _ (List.getElem_mem _)) e0
    have e1:(P (k+1)).1=(P k).1:=by rw [hps]
    have e2:(P (k+1)).2.1=(P k).2.1:=by rw [hps]
    have e3:(P k).2.2.1.map valA++[valA (0,0)]=(P (k+1)).2.2.1.map valA:=by rw [hps];exact map_snoc _ _ _
    have e4:(P k).2.2.2.map V.int++[V.int (refusedE (P k).1 (P k).2.1 l[k])]=(P (k+1)).2.2.2.map V.int:=by rw [hps];exact map_snoc _ _ _
    rw [← e1,← e2] at hst e0 e4
    rw [← e1,← e2]
    generalize refusedE (P (k+1)).1 (P (k+1)).2.1 l[k]=er at *
    generalize (P k).2.2.1=vl at *
    generalize (P k).2.2.2=el at *
    refine goW ?_
    refine OL.ch [1,2,3] hst Tryz.func62 ?_
    refine goW ?_
    exact TX.rd (k+1) [0,1,2,3,9,11] (by omega) (by omega)
  ·obtain rfl:k=l.length:=by omega
   have hsu:=s_turn_shut lz hw
   refine goW ?_
   refine OL.ch [1,2,3] hsu Tryz.func63 ?_
   refine goW ?_
   refine TX.vw 5 ?_
   refine TX.vw 6 ?_
   exact TX.rs4 [] (.ren rfl) (.ren rfl) (.ren rfl) (.ren rfl)
 ·rw [if_neg (fun h=>h60 h.2)]
  refine goW ?_
  refine OL.c ho Tryz.func61 ?_
  refine goW ?_
  exact TX.rs4 [] LE.wl0 (.nil (by decide)) (.nil (by decide)) (.ren rfl)
end Go.Proofs
namespace Go.Proofs
open Go Go.W Go.V
abbrev From:=Int × Int × Int × Int
abbrev fromA (x:From):AV:=.st [V.int x.1,V.int x.2.1,V.int x.2.2.1,V.int x.2.2.2]
abbrev fromsA (l:List From):AV:=.sl 4 none (l.map fromA)
def mapFrom:Nat→List Int→List From
 | _,[]=>[]
 | k,s::r=>(s,(k:Int),0,0)::mapFrom (k+1) r
def mapNew (l:List Cls) (c:Nat) (s:Int):From:=(s,-1,beginV l c s)
def mapOne (l:List Cls) (c:Nat) (was:List From) (s:Int):From:=(was.find? fun y=>y.1==s).getD (mapNew l c s)
def mapNext (l:List Cls) (c:Nat) (was:List From):List From:=(slotsOf l c).map (mapOne l c was)
def mapV (ss:List (List Cls)) (c fr:Nat):Nat→List From
 | 0=>mapFrom 0 (slotsOf (schAt ss fr) c)
 | n+1=>mapNext (schAt ss (fr+(n+1))) c (mapV ss c fr n)
theorem mapFrom_length:∀ (l:List Int) (k:Nat),(mapFrom k l).length=l.length
 | [],_=>rfl
 | _::r,k=>by rw [mapFrom,List.length_cons,mapFrom_length r,List.length_cons]
end Go.Proofs
namespace Go.Proofs
open Go Go.W Go.V
def mapOkB (ss:List (List Cls)) (c fr to:Int):Bool:=schemasB ss&&((decide (0≤fr)&&decide (fr≤to))&&(decide (to < (ss.length:Int))&&ownB (schAt ss fr.toNat).length c))
def mapX (ss:List (List Cls)) (c fr to:Int):List From × Int:=if mapOkB ss c fr to then (mapV ss c.toNat fr.toNat (to.toNat-fr.toNat),0) else ([],2)
end Go.Proofs
namespace Go.Proofs
open Go Go.W Go.V
theorem eqMF:EqF4 Tryz.prog Tc.api_TurnFrom 3 Tc.api_MeanVal Tc.api_MeanKind 3 .i64:=⟨by kernel_rfl,by kernel_rfl,by kernel_rfl,Tryz.underlying3,eqMV,let ⟨i,h,_⟩:=(Tryz.tabOK Tc.api_MeanVal _ rfl).info;⟨i,h⟩,by kernel_rfl,by kernel_rfl⟩
theorem s_ref17_SameMap (la lb:List From):V.Spec Tryz.prog 26 [fromsA la,fromsA lb] [] (V.bool (la==lb)) []:=by
 refine V.Spec.enter Tryz.tabOK Tryz.mixed Tryz.func26 rfl rfl rfl fun B hB=>?_
 refine TC.bl 0 fun hla=>TC.bl 1 fun hlb=>?_
 by_cases hl:la.length=lb.length
 ·repeat' (with_reducible first|refine OL.st ?_|refine TC.region ?_|refine TC.seq ?_|refine OL.nil ?_|refine TX.thenN ?_|refine TC.block ?_|refine TC.skip ?_|refine TC.ifD ?_ ?_<;>(intro hc;try (exfalso;omega))|fail)
  refine TC.lp (fun k:Nat=>[(0,fromsA la),(1,fromsA lb),(12,V.int la.length),(13,V.int k)]) (fun _=>[]) (fun k=>k≤la.length∧la.take k=lb.take k) (fun k=>la.length-k) 0 [] ⟨Nat.zero_le _,by simp⟩ ?_
  rintro k ⟨hk,hpre⟩
  by_cases hkl:k < la.length
  ·obtain ⟨a1,a2⟩:∃ t:Bool,t=(la[k].1==(lb[k]'(by omega)).1&&(la[k].2.1==(lb[k]'(by omega)).2.1&&(la[k].2.2.1==(lb[k]'(by omega)).2.2.1&&la[k].2.2.2==(lb[k]'(by omega)).2.2.2))):=⟨_,rfl⟩
   repeat' (with_reducible first|refine OL.st ?_|refine TC.region ?_|refine TC.seq ?_|refine OL.nil ?_|refine TX.thenN ?_|refine TC.block ?_|refine TC.skip ?_|refine TC.ifD ?_ ?_<;>(intro hc;try (exfalso;omega))|fail)
   (with_reducible refine TC.draw (id:=6) true 8 9 ?_<;>refine OD.st 0 ?_<;>refine OD.st 1 ?_<;>refine OD.st 2 ?_<;>refine OD.st 3 ?_<;>refine OD.st 4 ?_<;>refine OD.st 5 ?_<;>refine OD.st 6 ?_<;>refine OD.st 7 ?_<;>(refine OD.a1 8 ?_;refine OL.neF4 eqMF ?_;rw [← a2];refine OL.nil ?_;refine TX.od ?_)<;>refine OD.dn ?_)
   repeat' (first|(with_reducible refine TX.thenN ?_)|fail)
   cases a1
   ·repeat' (with_reducible first|refine OL.st ?_|refine TC.region ?_|refine TC.seq ?_|refine OL.nil ?_|refine TX.thenN ?_|refine TC.ifT ?_|refine TC.ret ?_|refine TX.thenR ?_|refine TX.blkR ?_|fail)
    refine TX.rt1 [] (.bool ?_)
    have:la≠lb:=fun e=>by subst e;simp at a2
    simp [this]
   ·have h:la[k]=lb[k]'(by omega):=by
     have:=a2.symm
     simp only [Bool.and_eq_true,beq_iff_eq] at this
     exact Prod.ext this.1 (Prod.ext this.2.1 (Prod.ext this.2.2.1 this.2.2.2))
    repeat' (with_reducible first|refine OL.st ?_|refine TC.region ?_|refine OL.nil ?_|refine TX.thenN ?_|refine TC.skip ?_|refine TX.blkN ?_|refine TC.ifF ?_|fail)
    refine TX.rd (k+1) [] ⟨by omega,?_⟩ (by omega)
    rw [take_succ (by omega),take_succ (by omega),hpre,h]
  ·repeat' (with_reducible first|refine OL.st ?_|refine TC.region ?_|refine TC.seq ?_|refine OL.nil ?_|refine TX.thenN ?_|refine TC.exit ?_|refine TX.hit ?_|refine TX.thenX ?_|refine TC.ifD ?_ ?_<;>(intro hc;try (exfalso;omega))|refine TC.ret ?_|fail)
   refine TX.rt1 [] (.bool ?_)
   have e:la=lb:=by
    rw [← take_all (l:=la) (k:=k) (by omega),← take_all (l:=lb) (k:=k) (by omega)]
    exact hpre
   simp [e]
 ·repeat' (with_reducible first|refine OL.st ?_|refine TC.region ?_|refine TC.seq ?_|refine OL.nil ?_|refine TX.thenN ?_|refine TC.ifD ?_ ?_<;>(intro hc;try (exfalso;omega))|refine TC.ret ?_|refine TX.thenR ?_|fail)
  refine TX.rt1 [] (.bool ?_)
  have:la≠lb:=fun e=>by subst e;exact hl rfl
  simp [this]
theorem mapFrom_snoc:∀ (l:List Int) (k:Nat) (s:Int),mapFrom k (l++[s])=mapFrom k l++[(s,((k+l.length:Nat):Int),0,0)]
 | [],k,s=>rfl
 | x::r,k,s=>by
   rw [List.cons_append,mapFrom,mapFrom_snoc r (k+1) s,mapFrom,List.length_cons,show k+1+r.length=k+(r.length+1) by omega];rfl
end Go.Proofs
namespace Go.Proofs
open Go Go.W Go.V
theorem fidx_any {α:Type} (p:α→Bool):∀ (l:List α) (k:Nat),(fidx p k l=-1∧l.find? p=none)∨∃ i:Nat,∃ h:i < l.length,fidx p k l=(k:Int)+i∧l.find? p=some l[i]
 | [],k=>.inl ⟨rfl,rfl⟩
 | x::r,k=>by
   rw [fidx,List.find?_cons]
   cases hp:p x with
   | true=>exact .inr ⟨0,by simp,by simp,by simp⟩
   | false =>
     rcases fidx_any p r (k+1) with ⟨h1,h2⟩|⟨i,h1,h2,h3⟩
     ·exact .inl ⟨by simpa using h1,by simpa using h2⟩
     ·refine .inr ⟨i+1,by simpa using h1,?_,by simpa using h3⟩
      simp only [Bool.false_eq_true,if_false];rw [h2];push_cast;omega
theorem s_IndexFunc_F (l:List From) (p:From→Bool):V.Spec Tryz.prog 72 [fromsA l,predE Tryz.prog fromA (·∈l) p] [] (V.int (fidx p 0 l)) []:=by
 refine V.Spec.enter Tryz.tabOK Tryz.mixed Tryz.func72 rfl rfl rfl fun B hB=>?_
 refine TC.bl 0 fun hl=>?_
 refine goW ?_
 refine TC.lp (fun k:Nat=>[(0,fromsA l),(1,predE Tryz.prog fromA (·∈l) p),(7,V.int l.length),(8,V.int k)]) (fun _=>[]) (fun k=>k≤l.length∧fidx p 0 l=fidx p k (l.drop k)) (fun k=>l.length-k) 0 [] ⟨Nat.zero_le _,rfl⟩ ?_
 rintro k ⟨hk,hinv⟩
 (refine goSW ?_ ?_<;>intro hc<;>refine goW ?_)
 ·refine OL.cf l[k] (List.getElem_mem _) ?_
  refine goW ?_
  refine TC.ifB (fun hp=>?_) (fun hp=>?_)
  ·refine goW ?_
   refine TX.rt1 [] (.int ?_)
   rw [hinv,drop_cons (by omega)]
   simp [fidx,hp]
  ·refine goW ?_
   refine TX.rd (k+1) [] ⟨by omega,?_⟩ (by omega)
   rw [hinv,drop_cons (by omega)]
   simp [fidx,hp]
 ·refine TX.rt1 [] (.int ?_)
  rw [hinv,drop_nil (by omega)]
  rfl
theorem s_each_int_F (l:List Int) (f:Int→From) (hb:l.length≤1000000000):V.Spec Tryz.prog 70 [ints l,funI Tryz.prog (·∈l) (fun c=>fromA (f c))] [] (fromsA (l.map f)) []:=by
 refine V.Spec.enter Tryz.tabOK Tryz.mixed Tryz.func70 rfl rfl rfl fun B hB=>?_
 refine goW ?_
 refine TC.adp 5 Tc.api_TurnFrom 4 ?_
 refine TC.lp (fun k:Nat=>[(1,funI Tryz.prog (·∈l) (fun c=>fromA (f c))),(5,.hs 0),(8,ints l),(9,V.int l.length),(10,V.int k)]) (fun k=>[.gs false Tc.api_TurnFrom 4 none (((l.take k).map f).map fromA)]) (fun k=>k≤l.length) (fun k=>l.length-k) 0 [0] (Nat.zero_le _) ?_
 rintro k hk
 by_cases hkl:k < l.length
 ·have hlen:((l.take k).map f).length=k:=by simp;omega
  have e:((l.take k).map f).map fromA++[fromA (f l[k])]=((l.take (k+1)).map f).map fromA:=by rw [take_succ hkl,List.map_append,List.map_append];rfl
  generalize (l.take k).map f=gk at *
  refine goW ?_
  refine OL.cf l[k] (List.getElem_mem _) ?_
  refine goW ?_
  exact TX.rd (k+1) [2] (by omega) (by omega)
 ·rw [take_all (by omega)]
  refine goW ?_
  refine TX.vw 4 ?_
  exact TX.rt1 [] (.ren rfl)
theorem s_Map_1_1 (y:From) (s:Int):V.Spec Tryz.prog 73 [fromA y,.ep [V.int s] 0] [] (V.bool (y.1==s)) []:=by
 refine V.Spec.enter Tryz.tabOK Tryz.mixed Tryz.func73 rfl rfl rfl fun B hB=>?_
 refine goW ?_
 all_goals refine TX.rt1 [] (.bool ?_)
 all_goals rw [Bool.eq_iff_iff,decide_eq_true_eq,beq_iff_eq]
set_option maxHeartbeats 1000000 in
theorem s_Map_1 {l:List Cls} (hf:fine (graphOf l)=true) {c:Nat} (h3:3≤c) (hc:c < 3+l.length) (was:List From) (s:Int) :
  V.Spec Tryz.prog 71 [V.int s,.ep [fromsA was] 0,.ep [schE l] 0,.ep [V.int c] 0] [] (fromA (mapOne l c was s)) []:=by
 have hix:=s_IndexFunc_F was (fun y=>y.1==s)
 have hbe:=s_turn_begin hf h3 hc s
 have hle:LEs (V.ts []) [fromsA was,.fn (.func 73) [] [.ep [V.int s] 0]] [fromsA was,predE Tryz.prog fromA (·∈was) (fun y=>y.1==s)]:=⟨.ren rfl,LE.fun_ (first':=[]) (caps':=[.ep [V.int s] 0]) Tryz.func73 rfl trivial ⟨.ren rfl,trivial⟩ (fun x _=>s_Map_1_1 x s),trivial⟩
 rw [mapOne,mapNew]
 rcases fidx_any (fun y:From=>y.1==s) was 0 with ⟨f1,f2⟩|⟨i,f1,f2,f3⟩
 ·rw [f2]
  rw [f1] at hix
  refine V.Spec.enter Tryz.tabOK Tryz.mixed Tryz.func71 rfl rfl rfl fun B hB=>?_
  refine goW ?_
  refine OL.frzA 0 ?_
  refine OL.c hix Tryz.func72 ?_ (hle:=hle)
  refine goW ?_
  (with_reducible refine TC.draw (id:=4) true 6 7 ?_<;>refine OD.st4 0 1 2 3 ?_<;>refine OD.c1 4 hbe Tryz.func74 ?_<;>refine OD.s1 5 ?_ (h:=gvBuild)<;>(refine OD.a1 6 ?_;refine OL.storeAgg ?_;refine OL.nil ?_;refine TX.od ?_)<;>refine OD.dn ?_)
  refine goW ?_
  exact TX.rtc [] (.ren rfl)
 ·rw [f3]
  rw [f2] at hix
  refine V.Spec.enter Tryz.tabOK Tryz.mixed Tryz.func71 rfl rfl rfl fun B hB=>?_
  refine goW ?_
  refine OL.frzA 0 ?_
  refine OL.c hix Tryz.func72 ?_ (hle:=hle)
  refine goW ?_
  simp only [Nat.zero_add]
  exact TX.rtc [] (.ren rfl)
set_option maxHeartbeats 4000000 in
theorem s_turn_Map {ss:List (List Cls)} (hs:∀ s∈ss,Short s) (c fr to:Int):V.Spec Tryz.prog 24 [schsA ss,V.int c,V.int fr,V.int to] [] (.tp [fromsA (mapX ss c fr to).1,V.int (mapX ss c fr to).2]) []:=by
 rw [mapX]
 refine V.Spec.enter Tryz.tabOK Tryz.mixed Tryz.func24 rfl rfl rfl fun B hB=>?_
 refine TC.bl 0 fun hll=>?_
 cases hsb:schemasB ss
 ·have hsc:=schemas_no hs hsb
  rw [if_neg (by rw [mapOkB,hsb];simp)]
  refine goW ?_
  refine OL.c hsc Tryz.func67 ?_
  refine goW ?_
  (with_reducible refine TC.draw (id:=2) true 26 26 ?_<;>refine OD.st2 0 1 ?_<;>refine OD.st 2 ?_<;>refine OD.of 3 ?_<;>refine OD.of 4 ?_<;>refine OD.st2 5 6 ?_<;>refine OD.of 7 ?_<;>refine OD.of 8 ?_<;>refine OD.of 9 ?_<;>refine OD.st2 10 11 ?_<;>refine OD.of 12 ?_<;>refine OD.of 13 ?_<;>refine OD.of 14 ?_<;>refine OD.of 15 ?_<;>refine OD.st2 16 17 ?_<;>refine OD.of 18 ?_<;>refine OD.of 19 ?_<;>refine OD.of 20 ?_<;>refine OD.of 21 ?_<;>refine OD.of 22 ?_<;>refine OD.of 23 ?_<;>refine OD.of 24 ?_<;>refine OD.st 25 ?_<;>refine OD.dn ?_)
  all_goals refine goW ?_
  all_goals exact TX.rt2 [] (.nil (by decide)) (.ren rfl)
 have hsc:=schemas_ok hs hsb
 obtain ⟨n1,n12⟩:=schemasB_len hsb
 by_cases hr:(0≤fr∧fr≤to)∧to < (ss.length:Int)
 ·have hat0:schAt ss fr.toNat=ss[fr.toNat]'(by omega):=getD_lt (by omega)
  have hg10:=(goodB_fine (schemasB_good hsb (i:=fr.toNat) (by omega))).1
  have hcs:=s_turn_class (ss[fr.toNat]'(by omega)) c (by rw [← hat0];omega)
  have hok:mapOkB ss c fr to=ownB (ss[fr.toNat]'(by omega)).length c:=by
   rw [mapOkB,hsb,decide_eq_true hr.1.1,decide_eq_true hr.1.2,decide_eq_true hr.2,hat0];rfl
  rw [hok]
  cases ho:ownB (ss[fr.toNat]'(by omega)).length c
  ·rw [ho] at hcs
   rw [if_neg Bool.false_ne_true]
   refine goW ?_
   refine OL.frzA 0 ?_
   refine OL.c hsc Tryz.func67 ?_
   refine goW ?_
   refine TC.vw 10 ?_
   (with_reducible refine TC.draw (id:=2) true 26 26 ?_<;>refine OD.st4 0 1 2 3 ?_<;>refine OD.st2 4 5 ?_<;>refine OD.st 6 ?_<;>refine OD.sD 29 ?_ ?_<;>(intro hc;try (exfalso;omega))<;>(first|(with_reducible refine OD.st 7 ?_)|(with_reducible refine OD.of 7 ?_))<;>refine OD.st4 8 9 10 11 ?_<;>refine OD.sD 34 ?_ ?_<;>(intro hc;try (exfalso;omega))<;>(first|(with_reducible refine OD.st 12 ?_)|(with_reducible refine OD.of 12 ?_))<;>refine OD.st4 13 14 15 16 ?_<;>refine OD.st 17 ?_<;>refine OD.sD 40 ?_ ?_<;>(intro hc;try (exfalso;omega))<;>(first|(with_reducible refine OD.st 18 ?_)|(with_reducible refine OD.of 18 ?_))<;>refine OD.st4 19 20 21 22 ?_<;>refine OD.c1 23 hcs Tryz.func68 ?_<;>refine OD.st2 24 25 ?_<;>refine OD.dn ?_)
   all_goals refine goW ?_
   all_goals exact TX.rt2 [] (.nil (by decide)) (.ren rfl)
  ·rw [ho] at hcs
   rw [if_pos rfl]
   have hcc:3≤c∧c < 3+((ss[fr.toNat]'(by omega)).length:Int):=by simpa only [ownB,Bool.and_eq_true,decide_eq_true_eq] using ho
   obtain ⟨c,rfl⟩:∃ c':Nat,c=(c':Int):=⟨c.toNat,by omega⟩
   obtain ⟨fr,rfl⟩:∃ f':Nat,fr=(f':Int):=⟨fr.toNat,by omega⟩
   obtain ⟨to,rfl⟩:∃ t':Nat,to=(t':Int):=⟨to.toNat,by omega⟩
   simp only [Int.toNat_natCast] at *
   have hcl:∀ i,fr≤i→i < ss.length→3≤c∧c < 3+(schAt ss i).length:=fun i a b=>by have:=schemasB_le hsb i a b;rw [hat0] at this;omega
   have hha:=fun i (a:fr≤i) (b:i < ss.length)=>s_turn_has (schAt ss i) (by have:=(goodB_fine (schemasB_good hsb b)).1;omega) (hcl i a b).1 (hcl i a b).2
   have hll:=fun i (b:i < ss.length)=>slotsOf_len (schemasB_good hsb b) c
   have hha0:=hha fr (Nat.le_refl _) (by omega)
   have hl0:=hll fr (by omega)
   have hm0:mapV ss c fr 0=mapFrom 0 (slotsOf (schAt ss fr) c):=rfl
   rw [hat0] at hha0 hl0 hm0
   generalize slotsOf ss[fr] c=sl0 at *
   refine goW ?_
   refine OL.frzA 0 ?_
   refine OL.c hsc Tryz.func67 ?_
   refine goW ?_
   refine TC.vw 10 ?_
   (with_reducible refine TC.draw (id:=2) true 26 26 ?_<;>refine OD.st4 0 1 2 3 ?_<;>refine OD.st4 4 5 6 7 ?_<;>refine OD.st4 8 9 10 11 ?_<;>refine OD.sD 34 ?_ ?_<;>(intro hc;try (exfalso;omega))<;>(first|(with_reducible refine OD.st 12 ?_)|(with_reducible refine OD.of 12 ?_))<;>refine OD.st4 13 14 15 16 ?_<;>refine OD.st 17 ?_<;>refine OD.sD 40 ?_ ?_<;>(intro hc;try (exfalso;omega))<;>(first|(with_reducible refine OD.st 18 ?_)|(with_reducible refine OD.of 18 ?_))<;>refine OD.st4 19 20 21 22 ?_<;>refine OD.c1 23 hcs Tryz.func68 ?_<;>refine OD.st2 24 25 ?_<;>refine OD.dn ?_)
   all_goals refine goW ?_
   all_goals (with_reducible refine TC.draw (id:=5) true 8 8 ?_<;>refine OD.st4 0 1 2 3 ?_<;>refine OD.st2 4 7 ?_<;>refine OD.c1 5 hha0 Tryz.func69 ?_<;>refine OD.st 6 ?_<;>refine OD.dn ?_)
   all_goals refine goW ?_
   all_goals refine TC.adp 12 Tc.api_TurnFrom 4 ?_
   all_goals refine TC.lp (fun k:Nat=>[(2,V.int fr),(3,V.int to),(5,.ep [V.int c] 0),(10,schEs ss),(12,.hs 0),(54,ints sl0),(55,V.int sl0.length),(56,V.int k)]) (fun k=>[.gs false Tc.api_TurnFrom 4 none ((mapFrom 0 (sl0.take k)).map fromA)]) (fun k=>k≤sl0.length) (fun k=>sl0.length-k) 0 [2] (Nat.zero_le _) ?_
   all_goals rintro k hk
   all_goals have hql:(mapFrom 0 (sl0.take k)).length≤1000:=by rw [mapFrom_length];simp;omega
   all_goals by_cases hkl:k < sl0.length
   ·have e:(mapFrom 0 (sl0.take k)).map fromA++[fromA (sl0[k],(k:Int),0,0)]=(mapFrom 0 (sl0.take (k+1))).map fromA:=by
     rw [take_succ hkl,mapFrom_snoc,List.length_take,show 0+min k sl0.length=k by omega];exact map_snoc _ _ _
    generalize mapFrom 0 (sl0.take k)=q at *
    refine goW ?_
    exact TX.rd (k+1) [2] (by omega) (by omega)
   ·rw [take_all (by omega),← hm0]
    clear hql hm0
    refine goW ?_
    refine OL.sl2 (fr+1) (to+1) ?_
    refine goW ?_
    refine TC.vw 12 ?_
    obtain ⟨sub,hsub⟩:∃ sub,sub=(ss.take (to+1)).drop (fr+1):=⟨_,rfl⟩
    have hsubl:sub.length=to-fr:=by rw [hsub];simp;omega
    have hsubg:∀ q (h:q < sub.length),sub[q]=schAt ss (fr+(q+1)):=fun q h=>by
     simp only [hsub,List.getElem_drop,List.getElem_take]
     rw [schAt,getD_lt (by omega)];congr 1;omega
    rw [← hsub]
    refine TC.lp (fun j:Nat=>[(5,.ep [V.int c] 0),(12,fromsA (mapV ss c fr j)),(73,schEs sub),(74,V.int sub.length),(75,V.int j)]) (fun _=>[]) (fun j=>j≤to-fr) (fun j=>to-fr-j) 0 [] (Nat.zero_le _) ?_
    rintro j hj
    by_cases hjt:j < to-fr
    ·have hx:=hsubg j (by omega)
     have hhj:=hha (fr+(j+1)) (by omega) (by omega)
     have hlj:=hll (fr+(j+1)) (by omega)
     have hclj:=hcl (fr+(j+1)) (by omega) (by omega)
     have hgf:=(goodB_fine (schemasB_good hsb (i:=fr+(j+1)) (by omega))).2
     have hea:=s_each_int_F (slotsOf (schAt ss (fr+(j+1))) c) (mapOne (schAt ss (fr+(j+1))) c (mapV ss c fr j)) (by omega)
     have hmn:(slotsOf (schAt ss (fr+(j+1))) c).map (mapOne (schAt ss (fr+(j+1))) c (mapV ss c fr j))=mapV ss c fr (j+1):=rfl
     rw [hmn] at hea
     rw [← hx] at hhj hea hgf hclj
     refine goW ?_
     refine OL.frzA 0 ?_
     refine OL.frzA 1 ?_
     refine OL.c hhj Tryz.func69 ?_
     refine goW ?_
     refine OL.c hea Tryz.func70 ?_ (hle:=by exact ⟨.ren rfl,LE.fun_ (first':=[]) (caps':=[.ep [fromsA (mapV ss c fr j)] 0,.ep [schE sub[j]] 0,.ep [V.int c] 0]) Tryz.func71 rfl trivial ⟨.ren rfl,.ren rfl,.ren rfl,trivial⟩ (fun x _=>s_Map_1 hgf hclj.1 hclj.2 _ x),trivial⟩)
     refine goW ?_
     exact TX.rd (j+1) [] (by omega) (by omega)
    ·obtain rfl:j=to-fr:=by omega
     refine goW ?_
     exact TX.rt2 [] (.ren rfl) (.ren rfl)
 ·rw [if_neg (by rw [mapOkB];simp only [Bool.and_eq_true,decide_eq_true_eq];omega)]
  by_cases h0:0≤fr
  all_goals by_cases h1:fr≤to
  all_goals refine goW ?_
  all_goals refine OL.c hsc Tryz.func67 ?_
  all_goals refine goW ?_
  all_goals refine TC.vw 10 ?_
  all_goals (with_reducible refine TC.draw (id:=2) true 26 26 ?_<;>refine OD.st4 0 1 2 3 ?_<;>refine OD.st2 4 5 ?_<;>refine OD.st 6 ?_<;>refine OD.sD 29 ?_ ?_<;>(intro hc;try (exfalso;omega))<;>(first|(with_reducible refine OD.st 7 ?_)|(with_reducible refine OD.of 7 ?_))<;>(first|refine OD.st 8 ?_|refine OD.of 8 ?_)<;>(first|refine OD.st 9 ?_|refine OD.of 9 ?_)<;>refine OD.st2 10 11 ?_<;>(first|refine OD.of 12 ?_|refine OD.sD 34 ?_ ?_<;>(intro hc;try (exfalso;omega))<;>(first|(with_reducible refine OD.st 12 ?_)|(with_reducible refine OD.of 12 ?_)))<;>(first|refine OD.st 13 ?_|refine OD.of 13 ?_)<;>(first|refine OD.st 14 ?_|refine OD.of 14 ?_)<;>(first|refine OD.st 15 ?_|refine OD.of 15 ?_)<;>refine OD.st2 16 17 ?_<;>(first|refine OD.of 18 ?_|refine OD.sD 40 ?_ ?_<;>(intro hc;try (exfalso;omega))<;>(first|(with_reducible refine OD.st 18 ?_)|(with_reducible refine OD.of 18 ?_)))<;>refine OD.of 19 ?_<;>refine OD.of 20 ?_<;>refine OD.of 21 ?_<;>refine OD.of 22 ?_<;>refine OD.of 23 ?_<;>refine OD.of 24 ?_<;>refine OD.st 25 ?_<;>refine OD.dn ?_)
  all_goals refine goW ?_
  all_goals exact TX.rt2 [] (.nil (by decide)) (.ren rfl)
end Go.Proofs
namespace Go.Proofs
open Go Go.W Go.V
instance decCls:DecidableEq Cls:=inferInstance
instance decThing:DecidableEq Thing:=inferInstance
instance decSch:DecidableEq (List (List Cls)):=inferInstance
instance decTh:DecidableEq (List Thing):=inferInstance
instance decWld:DecidableEq Wld:=inferInstance
abbrev cls0:Cls:=([],[],[])
def schS:List Cls:=[([],[0,1],[(0,5)]),([3],[2],[])]
abbrev stNew (c:Int):Step:=⟨2,0,c,0,(0,0),cls0⟩
abbrev stPut (sl n:Int):Step:=⟨4,0,0,sl,(1,n),cls0⟩
abbrev stGet (sl:Int):Step:=⟨3,0,0,sl,(0,0),cls0⟩
abbrev stMake (c:Int) (k:Cls):Step:=⟨1,0,c,0,(0,0),k⟩
theorem k_start:startX schS true=((true,[schS],[]),0):=by decide +kernel
theorem k_do:doX true [schS] [] (stNew 4)=((true,[schS],[(4,0,[(1,5),(2,0),(2,0)])]),(3,0),0):=by decide +kernel
abbrev defK:Cls:=([],[1,3],[(3,4)])
theorem k_play1:(playX true [schS] [] [stNew 4,stPut 0 7,stPut 2 8,stMake 3 defK,stGet 3,stGet 0]).2=([(3,0),(1,7),(1,8),(2,0),(1,4),(0,0)],[0,0,0,0,0,5],0):=by decide +kernel
theorem k_play1t:(playX true [schS] [] [stNew 4,stPut 0 7,stPut 2 8,stMake 3 defK,stGet 3,stGet 0]).1.2.2=[(4,1,[(2,0),(1,8),(1,4)])]:=by decide +kernel
abbrev lessK:Cls:=([],[1],[])
abbrev againK:Cls:=([],[0,1],[(0,6)])
def schS2:List (List Cls):=[schS,[lessK,([3],[2],[])],[againK,([3],[2],[])]]
theorem k_play2:(playX true [schS] [] [stNew 3,stPut 0 7,stMake 3 lessK,stMake 3 againK,stGet 0]).2=([(3,0),(1,7),(2,0),(2,0),(1,6)],[0,0,0,0,0],0):=by decide +kernel
theorem k_play2s:(playX true [schS] [] [stNew 3,stPut 0 7,stMake 3 lessK,stMake 3 againK,stGet 0]).1.2.1=schS2:=by decide +kernel
theorem k_map1:mapX schS2 3 0 2=([(0,-1,1,6),(1,1,0,0)],0):=by decide +kernel
theorem k_map2:mapX schS2 3 0 0=([(0,0,0,0),(1,1,0,0)],0):=by decide +kernel
end Go.Proofs
namespace Go.Proofs
open Go Go.W Go.V
theorem s_law17_num (n:Int):V.Spec Tryz.prog 28 [V.int n] [] (valA (1,n)) []:=by
 refine V.Spec.enter Tryz.tabOK Tryz.mixed Tryz.func28 rfl rfl rfl fun B hB=>?_
 repeat' (with_reducible first|refine OL.st ?_|refine OL.alloc ?_|refine OL.storeAgg ?_|refine OL.build ?_|refine TC.region ?_|refine TC.seq ?_|refine OL.nil ?_|refine TX.thenN ?_|refine TC.ret ?_|fail)
 exact TX.rtc [] (.ren rfl)
theorem s_law17_none:V.Spec Tryz.prog 42 [] [] (valA (2,0)) []:=by
 refine V.Spec.enter Tryz.tabOK Tryz.mixed Tryz.func42 rfl rfl rfl fun B hB=>?_
 repeat' (with_reducible first|refine OL.alloc ?_|refine OL.storeAgg ?_|refine OL.build ?_|refine TC.region ?_|refine TC.seq ?_|refine OL.nil ?_|refine TX.thenN ?_|refine TC.ret ?_|fail)
 exact TX.rtc [] (.ren rfl)
theorem s_law17_obj (n:Int):V.Spec Tryz.prog 41 [V.int n] [] (valA (3,n)) []:=by
 refine V.Spec.enter Tryz.tabOK Tryz.mixed Tryz.func41 rfl rfl rfl fun B hB=>?_
 repeat' (with_reducible first|refine OL.st ?_|refine OL.alloc ?_|refine OL.storeAgg ?_|refine OL.build ?_|refine TC.region ?_|refine TC.seq ?_|refine OL.nil ?_|refine TX.thenN ?_|refine TC.ret ?_|fail)
 exact TX.rtc [] (.ren rfl)
theorem LE.step0 {τ:Nat→Option Nat} (d th c sl v1 v2:Int):LE τ (.st [V.int d,V.int th,V.int c,V.int sl,V.int v1,V.int v2,.raw (.slice none 0 0),.raw (.slice none 0 0),.raw (.slice none 0 0)]) (stepA ⟨d,th,c,sl,(v1,v2),cls0⟩):=
 LE.st ⟨.ren rfl,.ren rfl,.ren rfl,.ren rfl,.ren rfl,.ren rfl,.nil (by decide),.nil (by decide),.nil (by decide),trivial⟩
theorem s_law17_Put (sl n:Int):V.Spec Tryz.prog 38 [V.int sl,V.int n] [] (stepA (stPut sl n)) []:=by
 refine V.Spec.enter Tryz.tabOK Tryz.mixed Tryz.func38 rfl rfl rfl fun B hB=>?_
 repeat' (with_reducible first|refine OL.st ?_|refine OL.alloc ?_|refine OL.storeAgg ?_|refine OL.build ?_|refine TC.region ?_|refine TC.seq ?_|refine OL.nil ?_|refine TX.thenN ?_|refine TC.ret ?_|fail)
 exact TX.rtc [] (LE.step0 _ _ _ _ _ _)
theorem s_law17_Get (sl:Int):V.Spec Tryz.prog 39 [V.int sl] [] (stepA (stGet sl)) []:=by
 refine V.Spec.enter Tryz.tabOK Tryz.mixed Tryz.func39 rfl rfl rfl fun B hB=>?_
 repeat' (with_reducible first|refine OL.st ?_|refine OL.alloc ?_|refine OL.storeAgg ?_|refine OL.build ?_|refine TC.region ?_|refine TC.seq ?_|refine OL.nil ?_|refine TX.thenN ?_|refine TC.ret ?_|fail)
 exact TX.rtc [] (LE.step0 _ _ _ _ _ _)
theorem s_law17_Make (c:Int) (k:Cls):V.Spec Tryz.prog 37 [V.int c,clsA k] [] (stepA (stMake c k)) []:=by
 refine V.Spec.enter Tryz.tabOK Tryz.mixed Tryz.func37 rfl rfl rfl fun B hB=>?_
 repeat' (with_reducible first|refine OL.st ?_|refine OL.box ?_|refine OL.alloc ?_|refine OL.storeAgg ?_|refine OL.build ?_|refine TC.region ?_|refine TC.seq ?_|refine OL.nil ?_|refine TX.thenN ?_|refine TC.ret ?_|fail)
 exact TX.rtc [] (.ren rfl)
theorem s_law17_Schema:V.Spec Tryz.prog 36 [] [] (clssA schS) []:=by
 refine V.Spec.enter Tryz.tabOK Tryz.mixed Tryz.func36 rfl rfl rfl fun B hB=>?_
 repeat' (with_reducible first|refine OL.st ?_|refine OL.lit ?_|refine OL.build ?_|refine TC.region ?_|refine TC.seq ?_|refine OL.nil ?_|refine TX.thenN ?_|fail)
 refine OL.vwS 4 1 ?_
 refine OL.vwS 4 2 ?_
 refine OL.vwS 7 0 ?_
 refine OL.vwS 7 1 ?_
 refine OL.lit ?_
 repeat' (with_reducible first|refine OL.st ?_|refine OL.nil ?_|refine TX.thenN ?_|refine TC.ret ?_|fail)
 refine TX.vw 0 ?_
 refine TX.kn (x:=.sl 3 none [.st [.raw (.slice none 0 0),ints [0,1],initsA [(0,5)]],.st [ints [3],ints [2],.raw (.slice none 0 0)]]) (y:=clssA schS) 0 (LE.slc ⟨⟨.nil (by decide),.ren rfl,.ren rfl,trivial⟩,⟨.ren rfl,.ren rfl,.nil (by decide),trivial⟩,trivial⟩) ?_
 exact TX.rt1 [] (.ren rfl)
theorem short0:Short schS:=⟨by decide,fun c hc=>by
 simp only [schS,List.mem_cons,List.not_mem_nil,or_false] at hc
 rcases hc with rfl|rfl<;>exact ⟨by decide,by decide,by decide⟩⟩
theorem shortK (k:Cls) (h1:k.1.length≤100) (h2:k.2.1.length≤100) (h3:k.2.2.length≤100):ShortC k:=⟨by omega,by omega,by omega⟩
theorem short1:∀ s∈[schS],Short s:=fun s hs=>by
 rw [List.mem_singleton] at hs;subst hs;exact short0
end Go.Proofs
