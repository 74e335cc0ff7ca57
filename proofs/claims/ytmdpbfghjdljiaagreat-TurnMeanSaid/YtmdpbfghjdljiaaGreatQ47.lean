/- Part 47 of what the claim is proved by: lemmas on the model and walks through functions of the program; no conditions. -/
import Derived.Test.YtmdpbfghjdljiaaGreatQ16
import Derived.Test.YtmdpbfghjdljiaaGreatQ37
import Derived.Test.YtmdpbfghjdljiaaGreatQ46
import Derived.Test.YtmdpbfghjdljiaaGreatQ13
import Derived.Test.YtmdpbfghjdljiaaGreatQ19
import Derived.Test.YtmdpbfghjdljiaaGreatQ33b
import Derived.Test.YtmdpbfghjdljiaaGreatQ24
namespace Go.Proofs
open Go Go.W Go.V
theorem hv_optI (es:List (Int × AV)) (s:Int) (b:Option Int) (h:afind s es=b.map V.int) (te:Value) (hte:te=.int .i64 0) :
  (b.isSome=true∧afind s es=some (V.int (b.getD 0)))∨(b.isSome=false∧afind s es=none∧∀ m w γ,Rep m w γ te (V.int (b.getD 0))):=by
 subst hte
 cases b with
 | some n=>exact .inl ⟨rfl,h⟩
 | none=>exact .inr ⟨rfl,h,fun _ _ _=>.raw rfl⟩
section
variable (p:Prg) (hs:Short p.cls) (hpk:∀ x∈p.nodes,x.2.2.length*8≤140737488355328)
include hs hpk
set_option maxHeartbeats 4000000 in
theorem Ct19 {c:Nat} (h:ownP p c=true):V.Spec Tryz.prog 137 [prgA p,V.int c] [] (.tp [initsA (begL p.cls c),V.int 0]) []:=by
 have h1:=Ct33 p hs hpk c
 rw [h] at h1
 simp only [ownP,Bool.and_eq_true,decide_eq_true_eq] at h
 have hcB0:=progB_classes h.2.2
 have hcB:=hcB0
 simp only [classesB,Bool.and_eq_true,decide_eq_true_eq] at hcB
 have hf:=hcB.2.1.2
 have h10:=hcB.1.1
 have h2:=Ct30 p hf hcB.1.2 (c:=c) (by omega) (by omega)
 rw [hasL_slotsOf hcB0] at h2
 have hgr:=Ct28 p hs
 have hlk:=Ct150 (graphOf p.cls) c
 have hgl:(graphOf p.cls).length=p.cls.length:=by simp [graphOf]
 have hokc:okc (graphOf p.cls) c=true:=by simp [okc,hf];omega
 obtain ⟨hord,_⟩:=classesB_ord hcB0 (k:=c-3) (by omega)
 rw [show ((3+(c-3):Nat):Int)=(c:Int) by omega] at hord
 have hlt:=lin_lt hf (c:=c) (by omega) (by omega)
 have hnd:∀ x∈p.cls,(x.2.2.map (·.1)).Nodup:=fun x hx=>by
  obtain ⟨k,hk,rfl⟩:=List.mem_iff_getElem.1 hx
  exact (classesB_ord hcB0 hk).2
 rw [linE,if_pos hokc,if_neg (by omega),linL,if_pos hokc] at hlk
 have hfind:=fun s=>afind_iniM p.cls hnd s (at_ (orders (graphOf p.cls)) c)
 have hol:(at_ (orders (graphOf p.cls)) (c:Int)).length≤1000000000:=by
  have h16:=fine_len hf
  have hsm:=(orders_ok hf).1.small (by have:=(orders_ok hf).2;omega)
  rcases at_mem (ords:=orders (graphOf p.cls)) (p:=(c:Int)) with e|e
  ·rw [e];simp
  ·exact Nat.le_trans (hsm _ e) (by omega)
 have hsl:(slotsOf p.cls c).length≤40*16:=Nat.le_trans (slotsTo_len p.cls c 40) (Nat.mul_le_mul_left _ (by omega))
 rw [begL]
 generalize at_ (orders (graphOf p.cls)) (c:Int)=o at *
 generalize slotsOf p.cls c=ss at *
 have hbk:=Ct307 o hol
 have hal:=fun k (hk:k < p.cls.length)=>(hs.2 p.cls[k] (List.getElem_mem _)).2.2
 refine Spec.enterM Tryz.tabOK Tryz.mixed Tryz.func137 rfl rfl rfl fun B hB=>?_
 refine goW ?_
 refine OL.frzB 2 ?_
 refine OL.c h1 Tryz.func135 ?_
 refine goW ?_
 refine OL.c hgr Tryz.func194 ?_
 refine goW ?_
 refine OL.c hlk Tryz.func120 ?_
 refine goW ?_
 refine OL.c hbk Tryz.func195 ?_
 refine goW ?_
 refine TC.rfW2 (fun i:Nat=>V.int (i:Int)) (fun i:Nat=>V.int (o.getD i 0)) [(1,V.int c),(2,.ep (prgC p) 0),(8,.bp 1 0)] (fun pre=>[.mo (iniM p.cls (o.drop (o.length-pre.length))),.cb (266) [.mp 0]]) 2 [1,2] rfl rfl rfl (fun _=>rfl) rfl rfl ?_ ?_ ?_ (Nat.zero_le _) (by simp) rfl rfl rfl (fun pre x Bx hBx l hx=>?_) (fun B3 hB3 D hM=>?_)
 ·rw [List.length_nil,Nat.sub_zero,List.drop_length]
  with_unfolding_all exact ⟨⟨_,rfl,OE.ren rfl⟩,⟨_,rfl,OE.ren rfl⟩,trivial⟩
 ·with_unfolding_all exact ⟨⟨_,rfl,LE.ren rfl⟩,⟨_,rfl,LE.ren rfl⟩,⟨_,rfl,LE.ren rfl⟩,trivial⟩
 ·with_unfolding_all exact ⟨⟨_,rfl,LE.ren rfl⟩,⟨_,rfl,LE.ren rfl⟩,⟨_,rfl,LE.ren rfl⟩,trivial⟩
 ·have hxn:=back_at hx
  have hxo:x < o.length:=by omega
  have e1:o.length-(pre++[x]).length=x:=by simp;omega
  have e2:o.length-pre.length=x+1:=by omega
  have hgd:o.getD x 0=o[x]:=getD_lt hxo
  have hdc:iniM p.cls (o.drop x)=insC p.cls (iniM p.cls (o.drop (x+1))) o[x]:=by rw [drop_cons hxo,iniM_cons]
  have hox:=hlt o[x] (List.getElem_mem _)
  dsimp only
  rw [e1,e2,hgd,hdc]
  generalize iniM p.cls (o.drop (x+1))=M at *
  generalize hoe:o[x]=y at *
  rw [insC]
  by_cases hy:y < 3
  ·rw [if_pos hy]
   refine goyW ?_
   exact TX.rq [0,1] (by with_unfolding_all exact ⟨⟨_,rfl,OE.ren rfl⟩,⟨_,rfl,OE.ren rfl⟩,trivial⟩)
  ·rw [if_neg hy]
   have hyl:(y-3).toNat < p.cls.length:=by omega
   rw [clsAt,getD_lt hyl]
   have hal1:=hal _ hyl
   generalize hie:(p.cls[(y-3).toNat]'hyl).2.2=is at *
   refine goyW ?_
   simp only [hie]
   refine TC.lp (fun j:Nat=>[(1,V.int c),(2,.ep (prgC p) 0),(8,.bp 1 0),(45,initsA is),(46,V.int is.length),(47,V.int j)]) (fun j=>[.mo (insI M (is.take j)),.cb (266) [.mp 0]]) (fun j=>j≤is.length) (fun j=>is.length-j) 0 [0,1] (Nat.zero_le _) ?_
   rintro j hj
   by_cases hjl:j < is.length
   ·have hin:insI M (is.take (j+1))=aput is[j].1 (V.int is[j].2) (insI M (is.take j)):=by rw [take_succ hjl,insI_snoc]
    generalize insI M (is.take j)=Mj at *
    refine goyW ?_
    refine OL.mapUpd ?_
    rw [← hin]
    refine goyW ?_
    exact TX.rd (j+1) [0,1] (by omega) (by omega)
   ·rw [take_all (by omega)]
    refine goyW ?_
    exact TX.rq [0,1] (by with_unfolding_all exact ⟨⟨_,rfl,OE.ren rfl⟩,⟨_,rfl,OE.ren rfl⟩,trivial⟩)
 ·dsimp only
  rw [List.length_reverse,List.length_range,Nat.sub_self,List.drop_zero]
  generalize iniM p.cls o=M at *
  refine goyW ?_
  refine OL.c h2 Tryz.func136 ?_
  refine goyW ?_
  refine TC.adp 13 Tc.api_BindInit 2 ?_
  refine TC.lp (fun j:Nat=>[(8,.bp 1 0),(13,.hs 2),(59,ints ss),(60,V.int ss.length),(61,V.int j)]) (fun j=>[.mo M,.cb (266) [.mp 0],.gs false Tc.api_BindInit 2 none ((begO p.cls o (ss.take j)).map initA)]) (fun j=>j≤ss.length) (fun j=>ss.length-j) 0 [0,1,2] (Nat.zero_le _) ?_
  rintro j hj
  by_cases hjl:j < ss.length
  ·have hv:=hv_optI M ss[j] (beginO p.cls o ss[j]) (hfind _) (.int .i64 0) rfl
   have hbs:=begO_snoc p.cls o (ss.take j) ss[j]
   rw [← take_succ hjl] at hbs
   have hbl:=begO_len p.cls o (ss.take j)
   have htl:(ss.take j).length≤1000:=by simp;omega
   generalize hb0:begO p.cls o (ss.take j)=bj at *
   generalize hb1:begO p.cls o (ss.take (j+1))=bj1 at *
   cases hb:beginO p.cls o ss[j] with
   | none =>
     rw [hb] at hv hbs
     rw [List.append_nil] at hbs
     refine goyW ?_
     refine OL.st ?_ (h:=gvLk hv)
     refine goyW ?_
     exact TX.rd (j+1) [0,1,2] (by omega) (by omega) (ho:=⟨⟨_,rfl,OE.ren rfl⟩,⟨_,rfl,OE.ren rfl⟩,⟨_,rfl,OE.gsS (by rw [hb1,hbs])⟩,trivial⟩)
   | some n =>
     rw [hb] at hv hbs
     have e:bj.map initA++[initA (ss[j],n)]=bj1.map initA:=by rw [hbs,List.map_append];rfl
     refine goyW ?_
     refine OL.st ?_ (h:=gvLk hv)
     refine goyW ?_
     exact TX.rd (j+1) [0,1,4] (by omega) (by omega) (ho:=⟨⟨_,rfl,OE.ren rfl⟩,⟨_,rfl,OE.ren rfl⟩,⟨_,rfl,OE.gsS (by rw [hb1,← e];rfl)⟩,trivial⟩)
  ·rw [take_all (by omega)]
   refine goyW ?_
   refine OL.vwA 0 ?_
   refine OL.c (clip_inits _) Tryz.func196 ?_
   refine goyW ?_
   exact TX.rtM2 hM hB [] (.ren rfl) (.ren rfl)
end
end Go.Proofs
namespace Go.Proofs
open Go Go.W Go.V
def slM (l:List Cls) (n:Nat):List (Int × AV):=(List.range n).map fun i=>(((3+i:Nat):Int),ints (slotsOf l (3+i)))
def frM (l:List Cls) (n:Nat):List (Int × AV):=(List.range n).map fun i=>(((3+i:Nat):Int),obA (newO l ((3+i:Nat):Int)))
theorem afind_rng (f:Nat→AV) (c:Nat):∀ n,afind ((c:Nat):Int) ((List.range n).map fun i=>(((3+i:Nat):Int),f i))=if 3≤c∧c < 3+n then some (f (c-3)) else none
 | 0=>by simp [afind]
 | n+1=>by
   rw [List.range_succ,List.map_append,afind_app,afind_rng f c n]
   by_cases h:3≤c∧c < 3+n
   ·rw [if_pos h,if_pos ⟨h.1,by omega⟩];rfl
   ·rw [if_neg h]
    by_cases e:c=3+n
    ·subst e
     rw [if_pos ⟨by omega,by omega⟩]
     simp [afind]
    ·rw [if_neg (by omega)]
     have:((c:Int)==((3+n:Nat):Int))=false:=by simpa using (by omega:¬ (c:Int)=3+(n:Int))
     simp only [List.map_cons,List.map_nil,afind]
     rw [this];rfl
theorem slM_succ (l:List Cls) (n:Nat):slM l n++[(((3+n:Nat):Int),ints (slotsOf l (3+n)))]=slM l (n+1):=by rw [slM,slM,List.range_succ,List.map_append];rfl
theorem frM_succ (l:List Cls) (n:Nat):frM l n++[(((3+n:Nat):Int),obA (newO l ((3+n:Nat):Int)))]=frM l (n+1):=by rw [frM,frM,List.range_succ,List.map_append];rfl
theorem slM_new (l:List Cls) (n:Nat):afind ((3+n:Nat):Int) (slM l n)=none:=by rw [slM,afind_rng,if_neg (by omega)]
theorem frM_new (l:List Cls) (n:Nat):afind ((3+n:Nat):Int) (frM l n)=none:=by rw [frM,afind_rng,if_neg (by omega)]
theorem slM_at (l:List Cls) {n c:Nat} (h3:3≤c) (hc:c < 3+n):afind (c:Int) (slM l n)=some (ints (slotsOf l c)):=by
 rw [slM,afind_rng,if_pos ⟨h3,hc⟩];congr 3;omega
theorem frM_at (l:List Cls) {n c:Nat} (h3:3≤c) (hc:c < 3+n):afind (c:Int) (frM l n)=some (obA (newO l c)):=by
 rw [frM,afind_rng,if_pos ⟨h3,hc⟩];congr 3;omega
abbrev knC (p:Prg) (i j:Nat):List AV:=[clssA p.cls,V.int p.slots,ints p.gens,mthsA p.mths,ndsA p.nodes,V.int p.main,.mp i,.mp j]
abbrev knO (p:Prg) (n:Nat):Eta:=[.cb Tc.mean_classes (knC p 1 2),.mo (slM p.cls n),.mo (frM p.cls n)]
theorem Ct68 (x:Int × Int) (s:Int):V.Spec Tryz.prog 138 [initA x,.ep [V.int s] 0] [] (V.bool (x.1==s)) []:=by
 refine V.Spec.enter Tryz.tabOK Tryz.mixed Tryz.func138 rfl rfl rfl fun B hB=>?_
 refine goW ?_
 refine TX.rt1 [] (.bool ?_)
 rw [Bool.eq_iff_iff];simp
theorem newO_snd (l:List Cls) (c:Nat):(newO l (c:Int)).2=(slotsOf l c).map (beginV l c):=by rw [newO,Int.toNat_natCast,turnedV_nil]
section
variable (p:Prg) (hs:Short p.cls) (hpk:∀ x∈p.nodes,x.2.2.length*8≤140737488355328)
include hs hpk
set_option maxHeartbeats 8000000 in
theorem Ct183 (h:progB p=true):V.Spec Tryz.prog 96 [prgA p] [] (.bp 0 0) (knO p p.cls.length):=by
 have hcB0:=progB_classes h
 have hcB:=hcB0
 simp only [classesB,Bool.and_eq_true,decide_eq_true_eq] at hcB
 have h10:=hcB.1.1
 have hbd:=hs.1
 have hown:∀ k,k < p.cls.length→ownP p ((3+k:Nat):Int)=true:=fun k hk=>by
  simp only [ownP,Bool.and_eq_true,decide_eq_true_eq];exact ⟨by omega,by omega,h⟩
 have hHas:=fun k (hk:k < p.cls.length)=>Ct22 p hs hpk ((3+k:Nat):Int) (hown k hk)
 have hBeg:=fun k (hk:k < p.cls.length)=>Ct19 p hs hpk (hown k hk)
 refine V.Spec.enter Tryz.tabOK Tryz.mixed Tryz.func96 rfl rfl rfl fun B hB=>?_
 refine goW ?_
 refine TC.lp (fun k:Nat=>[(1,.bp 0 0),(3,.bp 3 0),(19,clssA p.cls),(20,V.int p.cls.length),(21,V.int k)]) (fun k=>[.cb Tc.api_BindProg (prgC p),.mo (slM p.cls k),.mo (frM p.cls k),.cb Tc.mean_classes (knC p 1 2)]) (fun k=>k≤p.cls.length) (fun k=>p.cls.length-k) 0 [0,1,2,3] (Nat.zero_le _) ?_
 rintro k hk
 by_cases hkl:k < p.cls.length
 ·have hh:=hHas k hkl
  have hbg:=hBeg k hkl
  rw [hasL_slotsOf hcB0] at hh
  have hnS:=slM_new p.cls k
  have hnF:=frM_new p.cls k
  have hS:=slM_succ p.cls k
  have hF:=frM_succ p.cls k
  have hvS:afind ((3+k:Nat):Int) (slM p.cls (k+1))=some (ints (slotsOf p.cls (3+k))):=slM_at p.cls (by omega) (by omega)
  have hbl:=fun s (h:s∈slotsOf p.cls (3+k))=>begL_at p.cls (3+k) h
  have hno:=newO_snd p.cls (3+k)
  have hif:=fun s=>Ct324 (begL p.cls (3+k)) (fun x=>x.1==s)
  have hsl:(slotsOf p.cls (3+k)).length≤40*16:=Nat.le_trans (slotsTo_len p.cls (3+k) 40) (Nat.mul_le_mul_left _ (by omega))
  have e3:((3+k:Nat):Int)=(k:Int)+3:=by omega
  have hob:obA (newO p.cls ((3+k:Nat):Int))=.st [V.int ((k:Int)+3),valsA ((slotsOf p.cls (3+k)).map (beginV p.cls (3+k)))]:=by rw [obA,hno,← e3];rfl
  rw [hob] at hF
  rw [e3] at hh hbg hnS hnF hS hF hvS
  generalize slM p.cls k=S0 at *
  generalize frM p.cls k=F0 at *
  generalize hbe:begL p.cls (3+k)=be at *
  generalize slotsOf p.cls (3+k)=ss at *
  refine goW ?_
  (with_reducible refine TC.draw (id:=6) true 11 12 ?_<;>refine OD.st4 0 1 2 3 ?_<;>refine OD.st2 4 5 ?_<;>refine OD.st 6 ?_<;>refine OD.c1 7 hh Tryz.func95 ?_<;>refine OD.st2 8 9 ?_<;>refine OD.stT 10 ?_<;>(refine OD.a1 11 ?_;refine OL.mapNew ?_ hnS;refine OL.nil ?_;refine TX.od ?_)<;>refine OD.dn ?_)
  rw [hS]
  refine goW ?_
  refine OL.c hbg Tryz.func137 ?_
  refine goW ?_
  refine OL.lookup ?_ (.inl hvS)
  refine goW ?_
  refine TC.adpC 4 1 Tc.api_MeanVal 2 ?_
  refine TC.lp (fun j:Nat=>[(1,.bp 0 0),(3,.bp 3 0),(5,V.int ((k:Int)+3)),(6,.bp 4 0),(7,initsA be),(19,clssA p.cls),(20,V.int p.cls.length),(21,V.int k),(50,ints ss),(51,V.int ss.length),(52,V.int j)]) (fun j=>[.cb Tc.api_BindProg (prgC p),.mo (slM p.cls (k+1)),.mo F0,.cb Tc.mean_classes (knC p 1 2),.cb Tc.api_MeanThing [V.int ((k:Int)+3),.hs 5],.gs false Tc.api_MeanVal 2 none (((ss.take j).map (beginV p.cls (3+k))).map valA)]) (fun j=>j≤ss.length) (fun j=>ss.length-j) 0 [0,1,2,3,4,5] (Nat.zero_le _) ?_
  rintro j hj
  by_cases hjl:j < ss.length
  ·have hlen:((ss.take j).map (beginV p.cls (3+k))).length≤1000:=by simp;omega
   have e:((ss.take j).map (beginV p.cls (3+k))).map valA++[valA (beginV p.cls (3+k) ss[j])]=((ss.take (j+1)).map (beginV p.cls (3+k))).map valA:=by rw [take_succ hjl,List.map_append,List.map_append];rfl
   generalize (ss.take j).map (beginV p.cls (3+k))=gj at *
   have hb1:=hbl ss[j] (List.getElem_mem _)
   have hi1:=hif ss[j]
   rcases hb1 with ⟨f1,f2⟩|⟨i,hil,f1,f2⟩
   ·rw [f2] at e
    generalize fidx (fun x:Int × Int=>x.1==ss[j]) 0 be=fi at *
    refine goW ?_
    refine OL.frzA 6 ?_
    refine OL.c hi1 Tryz.func109 ?_ (hle:=by exact ⟨.ren rfl,LE.fun_ (first':=[]) (caps':=[.ep [V.int ss[j]] 0]) Tryz.func138 rfl trivial ⟨.ren rfl,trivial⟩ (fun x hx=>Ct68 x ss[j]),trivial⟩)
    refine goW ?_
    exact TX.rd (j+1) [0,1,2,3,4,9] (by omega) (by omega)
   ·rw [f2] at e
    rw [f1] at hi1
    refine goW ?_
    refine OL.frzA 6 ?_
    refine OL.c hi1 Tryz.func109 ?_ (hle:=by exact ⟨.ren rfl,LE.fun_ (first':=[]) (caps':=[.ep [V.int ss[j]] 0]) Tryz.func138 rfl trivial ⟨.ren rfl,trivial⟩ (fun x hx=>Ct68 x ss[j]),trivial⟩)
    refine goW ?_
    exact TX.rd (j+1) [0,1,2,3,4,9] (by omega) (by omega)
  ·rw [take_all (by omega)]
   refine goW ?_
   refine TC.vwC 4 1 ?_
   (with_reducible refine TC.draw (id:=18) true 6 7 ?_<;>refine OD.st4 0 1 2 3 ?_<;>refine OD.st2 4 5 ?_<;>(refine OD.a1 6 ?_;refine OL.mapNew ?_ hnF;refine OL.nil ?_;refine TX.od ?_)<;>refine OD.dn ?_)
   refine goW ?_
   exact TX.rd (k+1) [0,1,2,3] (by omega) (by omega) (ho:=⟨⟨_,rfl,OE.ren rfl⟩,⟨_,rfl,OE.ren rfl⟩,⟨_,rfl,OE.ren (by rw [← hF];rfl)⟩,⟨_,rfl,OE.ren rfl⟩,trivial⟩)
 ·obtain rfl:k=p.cls.length:=by omega
  refine goW ?_
  exact TX.rt1 [3,1,2] (.ren rfl)
end
end Go.Proofs
namespace Go.Proofs
open Go Go.W Go.V
theorem slotsOf_le {l:List Cls} (h10:l.length≤10) (c:Nat):(slotsOf l c).length≤640:=by
 have:=slotsTo_len l c 40
 show (slotsTo l c 40).length≤640
 omega
theorem newO_len {l:List Cls} (h10:l.length≤10) (c:Nat):(newO l (c:Int)).2.length≤640:=by
 rw [newO_snd,List.length_map];exact slotsOf_le h10 c
theorem mix_set {α β:Type} (f g:α→β) (l:List α) {k:Nat} (hk:k < l.length) (y:β) (hy:y=f l[k]):((l.take k).map f++(l.drop k).map g).set k y=(l.take (k+1)).map f++(l.drop (k+1)).map g:=by
 subst hy
 rw [drop_cons hk,List.map_cons,take_succ hk,List.map_append,List.append_assoc,List.set_append_right _ _ (by simp;omega)]
 rw [show k-((l.take k).map f).length=0 by simp;omega];rfl
theorem mix_keep {α β:Type} (f g:α→β) (l:List α) {k:Nat} (hk:k < l.length) (h:f l[k]=g l[k]):(l.take k).map f++(l.drop k).map g=(l.take (k+1)).map f++(l.drop (k+1)).map g:=by
 rw [drop_cons hk,List.map_cons,take_succ hk,List.map_append,List.append_assoc,← h];rfl
theorem Ct184 (p:Prg) (h10:p.cls.length≤10) {c:Nat} (h3:3≤c) (hc:c < 3+p.cls.length):V.Spec Tryz.prog 97 [.bp 0 0,V.int c] (knO p p.cls.length) (.st [V.int c,.hs 3]) (knO p p.cls.length++[.gs false Tc.api_MeanVal 2 none ((newO p.cls c).2.map valA)]):=by
 have hv:=frM_at p.cls h3 hc
 have hvl:=newO_len h10 c
 have hva:=Ct188 (newO p.cls c).2 (by omega)
 have hn1:(newO p.cls c).1=(c:Int):=rfl
 rw [obA,hn1] at hv
 generalize (newO p.cls c).2=nv at *
 refine V.Spec.enter Tryz.tabOK Tryz.mixed Tryz.func97 rfl rfl rfl fun B hB=>?_
 refine goW ?_
 refine OL.lookup ?_ (.inl hv)
 refine goW ?_
 refine OL.c hva Tryz.func139 ?_
 refine goW ?_
 exact TX.rtc [0,1,2,4] (.ren rfl)
set_option maxHeartbeats 4000000 in
theorem Ct187 (p:Prg) (h10:p.cls.length≤10) {x:Ob} {xc c:Nat} (hx:x.1=xc) (hx3:3≤xc) (hxc:xc < 3+p.cls.length) (hxl:x.2.length=(slotsOf p.cls xc).length) (h3:3≤c) (hc:c < 3+p.cls.length) :
  V.Spec Tryz.prog 100 [.bp 0 0,obA x,V.int c] (knO p p.cls.length) (obA (turnO p.cls x c)) (knO p p.cls.length):=by
 have hob:=Ct184 p h10 h3 hc
 have hvS:=slM_at p.cls (n:=p.cls.length) h3 hc
 have hvX:=slM_at p.cls (n:=p.cls.length) hx3 hxc
 have hsl:=slotsOf_le h10 c
 have hslx:=slotsOf_le h10 xc
 have hix:=fun s=>Ct329 (slotsOf p.cls xc) s
 have hfp:=fun s=>fidx_placeN s (slotsOf p.cls xc) 0
 have hpl:=fun s=>placeN_lt (slotsOf p.cls xc) s
 have hno:=newO_snd p.cls c
 obtain ⟨x1,xv⟩:=x
 dsimp only at hx hxl
 subst hx
 have htn:turnO p.cls ((xc:Int),xv) c=((c:Int),(slotsOf p.cls c).map (keptV p.cls c (slotsOf p.cls xc) xv)):=by rw [turnO,turnedV,Int.toNat_natCast,Int.toNat_natCast]
 rw [htn]
 rw [hno] at hob
 have hkv:∀ s,keptV p.cls c (slotsOf p.cls xc) xv s=if 0≤placeN (slotsOf p.cls xc) s 0 then xv.getD (placeN (slotsOf p.cls xc) s 0).toNat (0,0) else beginV p.cls c s:=fun _=>rfl
 generalize slotsOf p.cls xc=sx at *
 generalize slotsOf p.cls c=ss at *
 refine V.Spec.enter Tryz.tabOK Tryz.mixed Tryz.func100 rfl rfl rfl fun B hB=>?_
 refine goW ?_
 refine OL.ch [0,1,2] hob Tryz.func97 ?_
 refine goW ?_
 refine OL.lookup ?_ (.inl hvS)
 refine goW ?_
 refine TC.lp (fun k:Nat=>[(0,.bp 0 0),(2,V.int c),(4,.bp 3 0),(6,.bp 4 0),(7,.bp 6 0),(19,ints ss),(20,V.int ss.length),(21,V.int k)]) (fun k=>knO p p.cls.length++[.cb Tc.api_MeanThing [V.int xc,valsA xv],.cb Tc.api_MeanThing [.raw (.int .i64 0),.raw (.slice none 0 0)],.gs false Tc.api_MeanVal 2 none (((ss.take k).map (keptV p.cls c sx xv)++(ss.drop k).map (beginV p.cls c)).map valA),.cb Tc.api_MeanThing [V.int c,.hs 5]]) (fun k=>k≤ss.length) (fun k=>ss.length-k) 0 [0,1,2,3,4,5,6] (Nat.zero_le _) ?_
 rintro k hk
 by_cases hkl:k < ss.length
 ·have hi1:=hix ss[k]
  have hf1:=hfp ss[k]
  rw [Int.natCast_zero] at hf1
  rw [hf1] at hi1
  have hp1:=hpl ss[k]
  have hk1:=hkv ss[k]
  have hlen:((ss.take k).map (keptV p.cls c sx xv)++(ss.drop k).map (beginV p.cls c)).length=ss.length:=by simp;omega
  obtain ⟨pos,hpos⟩:∃ pos,pos=placeN sx ss[k] 0:=⟨_,rfl⟩
  rw [← hpos] at hi1 hp1 hk1
  by_cases h0:0≤pos
  ·rw [if_pos h0,getD_lt (by omega)] at hk1
   have hset:=mix_set (keptV p.cls c sx xv) (beginV p.cls c) ss hkl _ hk1.symm
   generalize (ss.take k).map (keptV p.cls c sx xv)++(ss.drop k).map (beginV p.cls c)=vk at *
   have hxp:pos.toNat < xv.length:=by omega
   have e:(vk.map valA).set k (valA (xv[pos.toNat]'hxp))=((ss.take (k+1)).map (keptV p.cls c sx xv)++(ss.drop (k+1)).map (beginV p.cls c)).map valA:=by rw [← List.map_set,hset]
   refine goW ?_
   (with_reducible refine TC.draw (id:=5) false 10 10 ?_<;>refine OD.st 0 ?_<;>refine OD.st 1 ?_<;>refine OD.st 2 ?_<;>refine OD.st 4 ?_<;>refine OD.st 7 ?_<;>refine OD.q2 3 5 ?_<;>(refine OD.a1 6 ?_;refine OL.lookup ?_ (.inl hvX);refine OL.nil ?_;refine TX.od ?_)<;>refine OD.c1 8 hi1 Tryz.func78 ?_<;>refine OD.st 9 ?_<;>refine OD.dn ?_)
   all_goals refine goW ?_
   all_goals (with_reducible refine TC.draw (id:=7) true 9 10 ?_<;>refine OD.st 0 ?_<;>refine OD.st 1 ?_<;>refine OD.st 2 ?_<;>refine OD.st 3 ?_<;>refine OD.st 4 ?_<;>refine OD.st 5 ?_<;>refine OD.st 6 ?_<;>refine OD.st 7 ?_<;>refine OD.st 8 ?_<;>(refine OD.a1 9 ?_;refine OL.storeEA ?_;refine OL.nil ?_;refine TX.od ?_)<;>refine OD.dn ?_)
   all_goals refine goW ?_
   all_goals exact TX.rd (k+1) [0,1,2,3,4,5,6] (by omega) (by omega) (ho:=⟨⟨_,rfl,OE.ren rfl⟩,⟨_,rfl,OE.ren rfl⟩,⟨_,rfl,OE.ren rfl⟩,⟨_,rfl,OE.ren rfl⟩,⟨_,rfl,OE.ren rfl⟩,⟨_,rfl,OE.gsS (by rw [← e];rfl)⟩,⟨_,rfl,OE.ren rfl⟩,trivial⟩)
  ·rw [if_neg h0] at hk1
   have hset:=mix_keep (keptV p.cls c sx xv) (beginV p.cls c) ss hkl hk1
   generalize (ss.take k).map (keptV p.cls c sx xv)++(ss.drop k).map (beginV p.cls c)=vk at *
   refine goW ?_
   (with_reducible refine TC.draw (id:=5) false 10 10 ?_<;>refine OD.st 0 ?_<;>refine OD.st 1 ?_<;>refine OD.st 2 ?_<;>refine OD.st 4 ?_<;>refine OD.st 7 ?_<;>refine OD.q2 3 5 ?_<;>(refine OD.a1 6 ?_;refine OL.lookup ?_ (.inl hvX);refine OL.nil ?_;refine TX.od ?_)<;>refine OD.c1 8 hi1 Tryz.func78 ?_<;>refine OD.st 9 ?_<;>refine OD.dn ?_)
   all_goals refine goW ?_
   all_goals exact TX.rd (k+1) [0,1,2,3,4,5,6] (by omega) (by omega) (ho:=⟨⟨_,rfl,OE.ren rfl⟩,⟨_,rfl,OE.ren rfl⟩,⟨_,rfl,OE.ren rfl⟩,⟨_,rfl,OE.ren rfl⟩,⟨_,rfl,OE.ren rfl⟩,⟨_,rfl,OE.gsS (by rw [hset])⟩,⟨_,rfl,OE.ren rfl⟩,trivial⟩)
 ·rw [take_all (by omega),drop_nil (by omega),List.map_nil,List.append_nil]
  refine TC.vwC 6 1 ?_
  refine goW ?_
  exact TX.rtc [0,1,2] (.ren rfl)
end Go.Proofs
namespace Go.Proofs
open Go Go.W Go.V
theorem progB_ten {p:Prg} (h:progB p=true):p.cls.length≤10:=by
 have:=progB_classes h
 simp only [classesB,Bool.and_eq_true,decide_eq_true_eq] at this
 exact this.1.1
section
variable (p:Prg) (hs:Short p.cls) (hpk:∀ x∈p.nodes,x.2.2.length*8≤140737488355328)
include hs hpk
theorem Ct178 {c:Nat} (h:ownP p c=true):V.Spec Tryz.prog 58 [prgA p,V.int c] [] (.tp [obA (newO p.cls c),V.int 0]) []:=by
 have hh:=Ct22 p hs hpk c h
 simp only [ownP,Bool.and_eq_true,decide_eq_true_eq] at h
 have h10:=progB_ten h.2.2
 have hkn:=Ct183 p hs hpk h.2.2
 have hob:=Ct184 p h10 (c:=c) (by omega) (by omega)
 have hn1:(newO p.cls c).1=(c:Int):=rfl
 rw [obA,hn1]
 generalize (newO p.cls c).2=nv at *
 refine V.Spec.enter Tryz.tabOK Tryz.mixed Tryz.func58 rfl rfl rfl fun B hB=>?_
 refine goW ?_
 refine OL.c hh Tryz.func95 ?_
 refine goW ?_
 refine OL.c hkn Tryz.func96 ?_
 refine goW ?_
 refine OL.ch [2,3,4] hob Tryz.func97 ?_
 refine OL.vwS 20 1 ?_
 refine goW ?_
 exact TX.rs2 [] (.ren rfl) (.ren rfl)
set_option maxHeartbeats 4000000 in
theorem Ct177 (objs:List Ob):V.Spec Tryz.prog 98 [prgA p,obsA objs] [] (V.int (if progB p&&obsB p.cls objs then 0 else 2)) []:=by
 have h1:=Ct20 p hs hpk
 cases hpb:progB p
 ·rw [hpb] at h1
  simp only [Bool.false_and,Bool.false_eq_true,if_false] at h1 ⊢
  refine V.Spec.enter Tryz.tabOK Tryz.mixed Tryz.func98 rfl rfl rfl fun B hB=>?_
  refine goW ?_
  refine OL.c h1 Tryz.func93 ?_
  refine goW ?_
  exact TX.rt1 [] (.ren rfl)
 rw [hpb] at h1
 simp only [Bool.true_and,if_true] at h1 ⊢
 have hcB:=progB_classes hpb
 have h10:=progB_ten hpb
 by_cases h40:objs.length≤40
 ·have hob:obsB p.cls objs=objs.all (obB p.cls objs.length):=by rw [obsB,decide_eq_true h40,Bool.true_and]
  obtain ⟨P,hP⟩:∃ P,P=obB p.cls objs.length:=⟨_,rfl⟩
  obtain ⟨res,hres⟩:∃ res,res=objs.all P:=⟨_,rfl⟩
  rw [hob,← hP,← hres]
  refine V.Spec.enter Tryz.tabOK Tryz.mixed Tryz.func98 rfl rfl rfl fun B hB=>?_
  refine goW ?_
  refine OL.c h1 Tryz.func93 ?_
  refine goW ?_
  refine TC.lp (fun k:Nat=>[(1,obsA objs),(2,.bp 0 0),(17,obsA objs),(18,V.int objs.length),(19,V.int k)]) (fun _=>[.cb Tc.api_BindProg (prgC p)]) (fun k=>k≤objs.length∧res=(objs.drop k).all P) (fun k=>objs.length-k) 0 [0] ⟨Nat.zero_le _,hres⟩ ?_
  rintro k ⟨hk,hinv⟩
  by_cases hkl:k < objs.length
  ·rw [drop_cons hkl,List.all_cons] at hinv
   have no:P objs[k]=false→res=false:=fun h=>by rw [hinv,h,Bool.false_and]
   have hP1:P objs[k]=((decide (3≤objs[k].1)&&decide (objs[k].1 < 3+(p.cls.length:Int)))&&(decide (objs[k].2.length=(slotsOf p.cls objs[k].1.toNat).length)&&objs[k].2.all (valB · objs.length))):=by rw [hP,obB]
   cases how:ownP p objs[k].1
   ·have hh:=Ct21 p hs hpk objs[k].1 how
    have:P objs[k]=false:=by
     rw [hP1]
     simp only [ownP,hpb,Bool.and_true] at how
     rw [how,Bool.false_and]
    rw [no this]
    refine goW ?_
    refine OL.c hh Tryz.func95 ?_
    refine goW ?_
    exact TX.rt1 [] (.ren rfl)
   ·have hh:=Ct22 p hs hpk objs[k].1 how
    simp only [ownP,hpb,Bool.and_true] at how
    rw [how,Bool.true_and] at hP1
    have how2:3≤objs[k].1:=by
     simp only [Bool.and_eq_true,decide_eq_true_eq] at how;exact how.1
    have hcast:objs[k].1=((objs[k].1.toNat:Nat):Int):=by omega
    have hhs:hasL p.cls objs[k].1=slotsOf p.cls objs[k].1.toNat:=by
     have:=hasL_slotsOf hcB objs[k].1.toNat
     rwa [← hcast] at this
    rw [hhs] at hh
    have hsl:=slotsOf_le h10 objs[k].1.toNat
    generalize slotsOf p.cls objs[k].1.toNat=ss at *
    have hva:=Ct192 objs[k].2 objs.length
    by_cases hlen:objs[k].2.length=ss.length
    ·rw [decide_eq_true hlen,Bool.true_and] at hP1
     rw [← hP1] at hva
     cases hv:P objs[k]
     ·rw [hv] at hva
      rw [no hv]
      refine goW ?_
      refine OL.c hh Tryz.func95 ?_
      refine goW ?_
      refine OL.c hva Tryz.func140 ?_
      refine goW ?_
      exact TX.rt1 [] (.ren rfl)
     ·rw [hv] at hva
      rw [hv,Bool.true_and] at hinv
      refine goW ?_
      refine OL.c hh Tryz.func95 ?_
      refine goW ?_
      refine OL.c hva Tryz.func140 ?_
      refine goW ?_
      exact TX.rd (k+1) [0] ⟨by omega,hinv⟩ (by omega)
    ·rw [decide_eq_false hlen,Bool.false_and] at hP1
     rw [no hP1]
     refine goW ?_
     refine OL.c hh Tryz.func95 ?_
     refine goW ?_
     exact TX.rt1 [] (.ren rfl)
  ·rw [drop_nil (by omega)] at hinv
   rw [show res=true from hinv]
   refine goW ?_
   exact TX.rt1 [] (.ren rfl)
 ·have hob:obsB p.cls objs=false:=by rw [obsB,decide_eq_false h40,Bool.false_and]
  rw [hob]
  refine V.Spec.enter Tryz.tabOK Tryz.mixed Tryz.func98 rfl rfl rfl fun B hB=>?_
  refine goW ?_
  refine OL.c h1 Tryz.func93 ?_
  refine goW ?_
  exact TX.rt1 [] (.ren rfl)
end
end Go.Proofs
namespace Go.Proofs
open Go Go.W Go.V
section
variable (p:Prg) (hs:Short p.cls) (hpk:∀ x∈p.nodes,x.2.2.length*8≤140737488355328)
include hs hpk
set_option maxHeartbeats 4000000 in
theorem Ct179 {objs:List Ob} {n c:Nat} (hpb:progB p=true) (hob:obsB p.cls objs=true) (hn:n < objs.length) (h:ownP p c=true) :
  V.Spec Tryz.prog 60 [prgA p,obsA objs,V.int n,V.int c] [] (.tp [obsA (objs.set n (turnO p.cls objs[n] c)),V.int 0]) []:=by
 have hh:=Ct22 p hs hpk c h
 simp only [ownP,Bool.and_eq_true,decide_eq_true_eq] at h
 have h10:=progB_ten hpb
 have hkn:=Ct183 p hs hpk hpb
 have hch:=Ct177 p hs hpk objs
 rw [hpb,hob] at hch
 simp only [Bool.and_self,if_true] at hch
 have h40:=obsB_len hob
 have hth:=Ct185 objs (by omega) (fun x hx=>by
  have h1:=(obsB_at hob hx).2
  have h2:=slotsOf_le h10 x.1.toNat
  omega)
 obtain ⟨hx1,hx2⟩:=obsB_at hob (List.getElem_mem hn)
 have htu:=Ct187 p h10 (x:=objs[n]) (xc:=objs[n].1.toNat) (c:=c) (by omega) (by omega) (by omega) hx2 (by omega) (by omega)
 have e:(objs.map obA).set n (obA (turnO p.cls objs[n] c))=(objs.set n (turnO p.cls objs[n] c)).map obA:=by rw [List.map_set]
 have e2:obsA (objs.set n (turnO p.cls objs[n] c))=.sl 2 none ((objs.map obA).set n (obA (turnO p.cls objs[n] c))):=by rw [e]
 rw [e2]
 generalize turnO p.cls objs[n] c=y at *
 refine V.Spec.enter Tryz.tabOK Tryz.mixed Tryz.func60 rfl rfl rfl fun B hB=>?_
 refine goW ?_
 refine OL.c hh Tryz.func95 ?_
 refine goW ?_
 refine OL.c hch Tryz.func98 ?_
 refine goW ?_
 refine OL.c hth Tryz.func99 ?_
 refine goW ?_
 (with_reducible refine TC.draw (id:=5) true 9 12 ?_<;>refine OD.stT 0 ?_<;>refine OD.stT 1 ?_<;>refine OD.st4 2 4 5 6 ?_<;>refine OD.st2 7 8 ?_<;>refine OD.c1 3 hkn Tryz.func96 ?_<;>(refine OD.a1 9 ?_;refine OL.ch [2,3,4] htu Tryz.func100 ?_;refine OL.nil ?_;refine TX.od ?_)<;>refine OD.st 10 ?_<;>(refine OD.a1 11 ?_;refine OL.storeEA ?_;refine OL.nil ?_;refine TX.od ?_)<;>refine OD.dn ?_)
 all_goals refine goW ?_
 all_goals refine TX.vw 8 ?_
 all_goals exact TX.rt2 [] (.ren rfl) (.ren rfl)
end
end Go.Proofs
namespace Go.Proofs
open Go Go.W Go.V
def toT (x:Ob):Thing:=(x.1,0,x.2)
abbrev stTurn (n c:Int):Step:=⟨5,n,c,0,(0,0),cls0⟩
theorem schemasB_one {l:List Cls} (h:goodB l=true):schemasB [l]=true:=by
 simp [schemasB,schOk,schAt,h]
theorem formed_things (lz:Bool) {l:List Cls} (h:goodB l=true) (os:List Ob):formedB lz [l] (os.map toT)=obsB l os:=by
 rw [formedB,schemasB_one h,Bool.true_and,obsB,List.length_map,List.all_map]
 congr 2
 funext x
 simp [thingOk,toT,obB,ownB,schAt,Function.comp]
 try rfl
theorem do_new (lz:Bool) {l:List Cls} (h:goodB l=true) {c:Int} (h3:3≤c) (hc:c < 3+(l.length:Int)):doX lz [l] [] (stNew c)=((lz,[l],[toT (newO l c)]),(3,0),0):=by
 have hf:formedB lz [l] []=true:=by simp [formedB,schemasB_one h]
 have hr:refusedE [l] [] (stNew c)=0:=by simp [refusedE,lastS,schAt,ownB];omega
 rw [doX,if_pos hf,if_pos hr]
 simp [doS,doT,doR,newT,lastS,schAt,toT,newO]
theorem freshT_one (l:List Cls) (x:Thing) (h:x.2.1=0):freshT [l] x=x:=by
 obtain ⟨a,b,c⟩:=x
 dsimp only at h
 subst h
 simp [freshT,freshV]
theorem do_to (lz:Bool) {l:List Cls} (h:goodB l=true) {os:List Ob} (ho:obsB l os=true) {n:Nat} (hn:n < os.length) {c:Int} (h3:3≤c) (hc:c < 3+(l.length:Int)) :
  doX lz [l] (os.map toT) (stTurn n c)=((lz,[l],(os.set n (turnO l os[n] c)).map toT),(3,(n:Int)),0):=by
 have hf:formedB lz [l] (os.map toT)=true:=by rw [formed_things lz h,ho]
 have hr:refusedE [l] (os.map toT) (stTurn n c)=0:=by simp [refusedE,lastS,schAt,ownB,inB];omega
 have hth:thAt (os.map toT) (n:Int)=toT os[n]:=by
  rw [thAt,Int.toNat_natCast,getD_lt (by simpa using hn)];simp
 have hu:upT [l] (os.map toT) (stTurn n c)=toT os[n]:=by rw [upT];show freshT [l] (thAt (os.map toT) (n:Int))=_;rw [hth,freshT_one _ _ rfl]
 rw [doX,if_pos hf,if_pos hr]
 simp only [doS,doT,doR,putT,hu,lastS,schAt]
 simp [List.map_set,turnO,toT]
end Go.Proofs
namespace Go.Proofs
open Go Go.W Go.V
section
variable (p:Prg) (hs:Short p.cls) (hpk:∀ x∈p.nodes,x.2.2.length*8≤140737488355328)
include hs hpk
theorem Ct345 (h:progB p=true):V.Spec Tryz.prog 55 [prgA p] [] (.tp [clssA p.cls,V.int 0]) []:=by
 have h1:=Ct20 p hs hpk
 rw [h,if_pos rfl] at h1
 have hcc:=Ct41 p.cls id hs.1
 rw [List.map_id] at hcc
 refine V.Spec.enter Tryz.tabOK Tryz.mixed Tryz.func55 rfl rfl rfl fun B hB=>?_
 refine goW ?_
 refine OL.c h1 Tryz.func93 ?_
 refine goW ?_
 refine OL.c hcc Tryz.func83 ?_ (hle:=by exact ⟨.ren rfl,LE.fun_ (first':=[]) (caps':=[]) Tryz.func84 rfl trivial trivial (fun x hx=>Ct353 x (hs.2 x hx).1 (hs.2 x hx).2.1 (hs.2 x hx).2.2),trivial⟩)
 refine goW ?_
 exact TX.rt2 [] (.ren rfl) (.ren rfl)
end
end Go.Proofs
namespace Go.Proofs
open Go Go.W Go.V
theorem Ct321 (la lb:List (Int × Int)):V.Spec Tryz.prog 40 [valsA la,valsA lb] [] (V.bool (la==lb)) []:=by
 refine V.Spec.enter Tryz.tabOK Tryz.mixed Tryz.func40 rfl rfl rfl fun B hB=>?_
 refine TC.bl 0 fun hla=>TC.bl 1 fun hlb=>?_
 by_cases hl:la.length=lb.length
 ·repeat' (with_reducible first|refine OL.st ?_|refine TC.region ?_|refine TC.seq ?_|refine OL.nil ?_|refine TX.thenN ?_|refine TC.block ?_|refine TC.skip ?_|refine TC.ifD ?_ ?_<;>(intro hc;try (exfalso;omega))|fail)
  refine TC.lp (fun k:Nat=>[(0,valsA la),(1,valsA lb),(12,V.int la.length),(13,V.int k)]) (fun _=>[]) (fun k=>k≤la.length∧la.take k=lb.take k) (fun k=>la.length-k) 0 [] ⟨Nat.zero_le _,by simp⟩ ?_
  rintro k ⟨hk,hpre⟩
  by_cases hkl:k < la.length
  ·obtain ⟨a1,a2⟩:∃ t:Bool,t=(la[k].1==(lb[k]'(by omega)).1&&la[k].2==(lb[k]'(by omega)).2):=⟨_,rfl⟩
   repeat' (with_reducible first|refine OL.st ?_|refine TC.region ?_|refine TC.seq ?_|refine OL.nil ?_|refine TX.thenN ?_|refine TC.block ?_|refine TC.skip ?_|refine TC.ifD ?_ ?_<;>(intro hc;try (exfalso;omega))|fail)
   (with_reducible refine TC.draw (id:=6) true 8 9 ?_<;>refine OD.st 0 ?_<;>refine OD.st 1 ?_<;>refine OD.st 2 ?_<;>refine OD.st 3 ?_<;>refine OD.st 4 ?_<;>refine OD.st 5 ?_<;>refine OD.st 6 ?_<;>refine OD.st 7 ?_<;>(refine OD.a1 8 ?_;refine OL.neD2 eqMV ?_;rw [← a2];refine OL.nil ?_;refine TX.od ?_)<;>refine OD.dn ?_)
   repeat' (first|(with_reducible refine TX.thenN ?_)|fail)
   cases a1
   ·repeat' (with_reducible first|refine OL.st ?_|refine TC.region ?_|refine TC.seq ?_|refine OL.nil ?_|refine TX.thenN ?_|refine TC.ifT ?_|refine TC.ret ?_|refine TX.thenR ?_|refine TX.blkR ?_|fail)
    refine TX.rt1 [] (.bool ?_)
    have:la≠lb:=fun e=>by subst e;simp at a2
    simp [this]
   ·have h:la[k]=lb[k]'(by omega):=by
     have:=a2.symm
     simp only [Bool.and_eq_true,beq_iff_eq] at this
     exact Prod.ext this.1 this.2
    repeat' (with_reducible first|refine OL.st ?_|refine TC.region ?_|refine OL.nil ?_|refine TX.thenN ?_|refine TC.skip ?_|refine TX.blkN ?_|refine TC.ifF ?_|fail)
    refine TX.rd (k+1) [] ⟨by omega,?_⟩ (by omega)
    rw [take_succ (by omega),take_succ (by omega),hpre,h]
  ·repeat' (with_reducible first|refine OL.st ?_|refine TC.region ?_|refine TC.seq ?_|refine OL.nil ?_|refine TX.thenN ?_|refine TC.exit ?_|refine TX.hit ?_|refine TX.thenX ?_|refine TC.ifD ?_ ?_<;>(intro hc;try (exfalso;omega))|refine TC.ret ?_|fail)
   refine TX.rt1 [] (.bool ?_)
   have e:la=lb:=by
    rw [← take_all (l:=la) (k:=k) (by omega),← take_all (l:=lb) (k:=k) (by omega)]
    exact hpre
   simp [e]
 ·repeat' (with_reducible first|refine OL.st ?_|refine TC.region ?_|refine TC.seq ?_|refine OL.nil ?_|refine TX.thenN ?_|refine TC.ifD ?_ ?_<;>(intro hc;try (exfalso;omega))|refine TC.ret ?_|refine TX.thenR ?_|fail)
  refine TX.rt1 [] (.bool ?_)
  have:la≠lb:=fun e=>by subst e;exact hl rfl
  simp [this]
theorem vals_eq (l:List (Int × Int)):V.Spec Tryz.prog 40 [valsA l,valsA l] [] (V.bool true) []:=by
 have h:=Ct321 l l
 rwa [beq_self_eq_true] at h
end Go.Proofs
