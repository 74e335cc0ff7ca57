/- Part 38 of what the claim is proved by: lemmas on the model and walks through functions of the program; no conditions. -/
import Derived.Test.YtmdpbfghjdljiaaGreatQ16
import Derived.Test.YtmdpbfghjdljiaaGreatQ37
import Derived.Test.YtmdpbfghjdljiaaGreatQ20
import Derived.Test.YtmdpbfghjdljiaaGreatQ13
import Derived.Test.YtmdpbfghjdljiaaGreatQ36
namespace Go.Proofs
open Go Go.W Go.V
abbrev fwC (g:List (List Int)) (ow:List Int):List AV:=[rows g,ints ow]
abbrev fwA (g:List (List Int)) (ow:List Int):AV:=.st (fwC g ow)
set_option maxHeartbeats 1000000 in
theorem Ct256 (p:Prg) (hs:Short p.cls) (hsl:slN p.cls≤1000000):V.Spec Tryz.prog 130 [prgA p] [] (fwA (graphOf p.cls) (ownF 0 p.cls)) []:=by
 have hg:=Ct251 p hs
 have hb:=hs.1
 generalize graphOf p.cls=g at *
 refine V.Spec.enter Tryz.tabOK Tryz.mixed Tryz.func130 rfl rfl rfl fun B hB=>?_
 refine goW ?_
 refine OL.frzB 1 ?_
 refine OL.c hg Tryz.func184 ?_
 refine goW ?_
 refine TC.adpC 2 1 Tc.int 1 ?_
 refine TC.lp (fun k:Nat=>[(1,.ep (prgC p) 0),(2,.bp 1 0),(3,.bp 2 0),(4,V.int k)]) (fun k=>[.dead,.cb Tc.api_FactWorld [.raw (.slice none 0 0),.raw (.slice none 0 0)],.cb Tc.api_FactWorld [rows g,.hs 3],.gs false Tc.int 1 none ((ownF 0 (p.cls.take k)).map V.int)]) (fun k=>k≤p.cls.length) (fun k=>p.cls.length-k) 0 [0,1,2,3] (Nat.zero_le _) ?_
 rintro k hk
 by_cases hkl:k < p.cls.length
 ·have hos:=ownF_succ p.cls hkl
  have hsu:=slN_succ p.cls hkl
  have hle:=slN_take_le p.cls (k+1)
  have hql:(ownF 0 (p.cls.take k)).length=slN (p.cls.take k):=ownF_len _ _
  generalize ownF 0 (p.cls.take k)=q at *
  refine goW ?_
  refine TC.lp (fun j:Nat=>[(1,.ep (prgC p) 0),(2,.bp 1 0),(3,.bp 2 0),(4,V.int k),(5,V.int j)]) (fun j=>[.dead,.cb Tc.api_FactWorld [.raw (.slice none 0 0),.raw (.slice none 0 0)],.cb Tc.api_FactWorld [rows g,.hs 3],.gs false Tc.int 1 none ((q++List.replicate j ((k:Int)+3)).map V.int)]) (fun j=>j≤p.cls[k].2.1.length) (fun j=>p.cls[k].2.1.length-j) 0 [0,1,2,3] (Nat.zero_le _) ?_ (ho:=⟨⟨_,rfl,OE.ren rfl⟩,⟨_,rfl,OE.ren rfl⟩,⟨_,rfl,OE.ren rfl⟩,⟨_,rfl,OE.gsS (by simp)⟩,trivial⟩)
  rintro j hj
  by_cases hjl:j < p.cls[k].2.1.length
  ·have e:(q++List.replicate j ((k:Int)+3)).map V.int++[V.int ((k:Int)+3)]=(q++List.replicate (j+1) ((k:Int)+3)).map V.int:=by rw [List.replicate_succ'];simp
   have hq2:(q++List.replicate j ((k:Int)+3)).length≤2000000:=by simp;omega
   generalize q++List.replicate j ((k:Int)+3)=q2 at *
   refine goW ?_
   exact TX.rd (j+1) [0,1,2,5] (by omega) (by omega)
  ·obtain rfl:j=p.cls[k].2.1.length:=by omega
   have e5:=congrArg (List.map V.int) hos.symm
   refine goW ?_
   exact TX.rd (k+1) [0,1,2,3] (by omega) (by omega)
 ·rw [take_all (by omega)]
  refine TC.vwC 2 1 ?_
  refine goW ?_
  exact TX.rtc [] (.ren rfl)
theorem Ct29 (c:Cls) (hc:c.1.length*8≤140737488355328):V.Spec Tryz.prog 236 [clsA c] [] (ints c.1) []:=by
 refine V.Spec.enter Tryz.tabOK Tryz.mixed Tryz.func236 rfl rfl rfl fun B hB=>?_
 refine goW ?_
 refine OL.c (clone_i c.1 hc) Tryz.func112 ?_
 refine goW ?_
 exact TX.rt1 [] (.ren rfl)
theorem clip_rows (g:List (List Int)):V.Spec Tryz.prog 253 [rows g] [] (rows g) []:=by
 refine V.Spec.enter Tryz.tabOK Tryz.mixed Tryz.func253 rfl rfl rfl fun B hB=>?_
 refine goW ?_
 refine OL.clip ?_
 refine goW ?_
 exact TX.rt1 [] (.ren rfl)
theorem clip_ints (l:List Int):V.Spec Tryz.prog 193 [ints l] [] (ints l) []:=by
 refine V.Spec.enter Tryz.tabOK Tryz.mixed Tryz.func193 rfl rfl rfl fun B hB=>?_
 refine goW ?_
 refine OL.clip ?_
 refine goW ?_
 exact TX.rt1 [] (.ren rfl)
theorem Ct27 (l:List Cls) (f:Cls→List Int) (hb:l.length*72≤140737488355328):V.Spec Tryz.prog 235 [clssA l,funC Tryz.prog (·∈l) (fun c=>ints (f c))] [] (rows (l.map f)) []:=by
 refine V.Spec.enter Tryz.tabOK Tryz.mixed Tryz.func235 rfl rfl rfl fun B hB=>?_
 refine goW ?_
 refine TC.adp 5 Tc.Lint 1 ?_
 refine TC.lp (fun k:Nat=>[(1,funC Tryz.prog (·∈l) (fun c=>ints (f c))),(5,.hs 0),(8,clssA l),(9,V.int l.length),(10,V.int k)]) (fun k=>[.gs false Tc.Lint 1 none (((l.take k).map f).map ints)]) (fun k=>k≤l.length) (fun k=>l.length-k) 0 [0] (Nat.zero_le _) ?_
 rintro k hk
 by_cases hkl:k < l.length
 ·have hlen:((l.take k).map f).length=k:=by simp;omega
  have e:((l.take k).map f).map ints++[ints (f l[k])]=((l.take (k+1)).map f).map ints:=by rw [take_succ hkl,List.map_append,List.map_append];rfl
  generalize (l.take k).map f=gk at *
  refine goW ?_
  refine OL.cf l[k] (List.getElem_mem _) ?_
  refine goW ?_
  exact TX.rd (k+1) [3] (by omega) (by omega)
 ·rw [take_all (by omega)]
  refine goW ?_
  refine OL.vwA 0 ?_
  refine OL.c (clip_rows (l.map f)) Tryz.func253 ?_
  refine goW ?_
  exact TX.rt1 [] (.ren rfl)
theorem Ct28 (p:Prg) (hs:Short p.cls):V.Spec Tryz.prog 194 [prgA p] [] (rows (graphOf p.cls)) []:=by
 have he:=Ct27 p.cls (·.1) hs.1
 refine V.Spec.enter Tryz.tabOK Tryz.mixed Tryz.func194 rfl rfl rfl fun B hB=>?_
 refine goW ?_
 refine OL.c he Tryz.func235 ?_ (hle:=by with_unfolding_all exact ⟨.ren rfl,LE.fun0 Tryz.func236 (fun c hc=>Ct29 c (hs.2 c hc).1),trivial⟩)
 refine goW ?_
 exact TX.rt1 [] (.ren rfl)
set_option maxHeartbeats 1000000 in
theorem Ct38 (p:Prg) (hs:Short p.cls) (hsl:slN p.cls≤1000000):V.Spec Tryz.prog 181 [prgA p] [] (fwA (graphOf p.cls) (ownF 0 p.cls)) []:=by
 have hg:=Ct28 p hs
 have hb:=hs.1
 generalize graphOf p.cls=g at *
 refine V.Spec.enter Tryz.tabOK Tryz.mixed Tryz.func181 rfl rfl rfl fun B hB=>?_
 refine goW ?_
 refine OL.frzB 1 ?_
 refine OL.c hg Tryz.func194 ?_
 refine goW ?_
 refine TC.adpC 2 1 Tc.int 1 ?_
 refine TC.lp (fun k:Nat=>[(2,.bp 1 0),(3,.bp 2 0),(10,clssA p.cls),(11,V.int p.cls.length),(12,V.int k)]) (fun k=>[.dead,.cb Tc.api_FactWorld [.raw (.slice none 0 0),.raw (.slice none 0 0)],.cb Tc.api_FactWorld [rows g,.hs 3],.gs false Tc.int 1 none ((ownF 0 (p.cls.take k)).map V.int)]) (fun k=>k≤p.cls.length) (fun k=>p.cls.length-k) 0 [0,1,2,3] (Nat.zero_le _) ?_
 rintro k hk
 by_cases hkl:k < p.cls.length
 ·have hos:=ownF_succ p.cls hkl
  have hsu:=slN_succ p.cls hkl
  have hle:=slN_take_le p.cls (k+1)
  have hql:(ownF 0 (p.cls.take k)).length=slN (p.cls.take k):=ownF_len _ _
  generalize ownF 0 (p.cls.take k)=q at *
  refine goW ?_
  refine TC.lp (fun j:Nat=>[(2,.bp 1 0),(3,.bp 2 0),(4,V.int k),(10,clssA p.cls),(11,V.int p.cls.length),(12,V.int k),(19,V.int p.cls[k].2.1.length),(20,V.int j)]) (fun j=>[.dead,.cb Tc.api_FactWorld [.raw (.slice none 0 0),.raw (.slice none 0 0)],.cb Tc.api_FactWorld [rows g,.hs 3],.gs false Tc.int 1 none ((q++List.replicate j ((k:Int)+3)).map V.int)]) (fun j=>j≤p.cls[k].2.1.length) (fun j=>p.cls[k].2.1.length-j) 0 [0,1,2,3] (Nat.zero_le _) ?_ (ho:=⟨⟨_,rfl,OE.ren rfl⟩,⟨_,rfl,OE.ren rfl⟩,⟨_,rfl,OE.ren rfl⟩,⟨_,rfl,OE.gsS (by simp)⟩,trivial⟩)
  rintro j hj
  by_cases hjl:j < p.cls[k].2.1.length
  ·have e:(q++List.replicate j ((k:Int)+3)).map V.int++[V.int ((k:Int)+3)]=(q++List.replicate (j+1) ((k:Int)+3)).map V.int:=by rw [List.replicate_succ'];simp
   have hq2:(q++List.replicate j ((k:Int)+3)).length≤2000000:=by simp;omega
   generalize q++List.replicate j ((k:Int)+3)=q2 at *
   refine goW ?_
   exact TX.rd (j+1) [0,1,2,5] (by omega) (by omega)
  ·obtain rfl:j=p.cls[k].2.1.length:=by omega
   have e5:=congrArg (List.map V.int) hos.symm
   refine goW ?_
   exact TX.rd (k+1) [0,1,2,3] (by omega) (by omega)
 ·rw [take_all (by omega)]
  refine TC.vwC 2 1 ?_
  refine goW ?_
  exact TX.rtc [] (.ren rfl)
end Go.Proofs
namespace Go.Proofs
open Go Go.W Go.V
abbrev fctA (f:Fct):AV:=.st [V.int f.op,V.int f.arg,ints f.path,V.int f.cls,V.int f.n,.sl 6 none (f.kids.map factA)]
theorem factA_fct (f:Fct):factA f=fctA f:=by cases f;rw [factA,factsA_map]
theorem kidsA (f:Fct):f.kids.map factA=f.kids.map fctA:=List.map_congr_left fun k _=>factA_fct k
theorem fctA_eq (f:Fct):fctA f=.st [V.int f.op,V.int f.arg,ints f.path,V.int f.cls,V.int f.n,.sl 6 none (f.kids.map fctA)]:=by rw [fctA,kidsA]
theorem depth_nodes:∀ (n:Nat) (f:Fct),nodesF f≤n→depthF f≤nodesF f:=by
 intro n
 induction n with
 | zero=>intro f h;have:=nodesF_pos f;omega
 | succ n ih =>
   intro f h
   have hk:∀ k∈f.kids,depthF k≤nodesF k:=fun k hk=>ih k (by have:=kid_nodes hk;omega)
   rw [depthF_eq,nodesF_eq]
   have:∀ l:List Fct,(∀ k∈l,depthF k≤nodesF k)→depthL l≤nodesL l:=by
    intro l
    induction l with
    | nil=>intro _;simp [depthL,nodesL]
    | cons x r ih2 =>
      intro h
      have h1:=h x (by simp)
      have h2:=ih2 fun k hk=>h k (by simp [hk])
      rw [depthL,nodesL];omega
   have:=this _ hk
   omega
theorem nodesL_len (l:List Fct):l.length≤nodesL l:=by
 induction l with
 | nil=>simp
 | cons x r ih=>have:=nodesF_pos x;rw [nodesL,List.length_cons];omega
theorem nodesL_take_le (l:List Fct) (k:Nat):nodesL (l.take k)≤nodesL l:=by
 have e:nodesL l=nodesL (l.take k)+nodesL (l.drop k):=by rw [← nodesL_app,List.take_append_drop]
 omega
theorem Ct237 (g:List (List Int)) (ow:List Int) (c:Int) (hb:g.length≤1000000000):V.Spec Tryz.prog 233 [fwA g ow,V.int c] [] (V.bool (decide (0≤c∧c < 3+(g.length:Int)))) []:=by
 refine V.Spec.enter Tryz.tabOK Tryz.mixed Tryz.func233 rfl rfl rfl fun B hB=>?_
 (refine goSW ?_ ?_<;>intro hc<;>refine goW ?_)
 all_goals
  refine TX.rt1 [] (LE.bool ?_)
  simp [*]
theorem Ct248 (f:Fct):V.Spec Tryz.prog 190 [fctA f] [] (V.bool (leafB f.op)) []:=by
 refine V.Spec.enter Tryz.tabOK Tryz.mixed Tryz.func190 rfl rfl rfl fun B hB=>?_
 repeat' (with_reducible first|refine OL.st ?_|refine OL.box ?_|refine TC.region ?_|refine TC.seq ?_|refine OL.nil ?_|refine TX.thenN ?_|refine OL.gOn ?_|refine OL.gOff ?_|refine OL.gD ?_ ?_<;>(intro hc;try (exfalso;omega))|refine TC.ret ?_|fail)
 all_goals
  refine TX.rt1 [] (LE.bool ?_)
  simp [leafB, *]
theorem Ct242 (g:List (List Int)) (ow l:List Int):V.Spec Tryz.prog 234 [fwA g ow,ints l] [] (V.bool (pathB ow.length l)) []:=by
 rw [pathB]
 refine V.Spec.enter Tryz.tabOK Tryz.mixed Tryz.func234 rfl rfl rfl fun B hB=>?_
 refine TC.bl 1 fun hll=>?_
 refine goW ?_
 refine TC.frzB 2 ?_
 refine TC.lp (fun k:Nat=>[(1,ints l),(2,.ep (fwC g ow) 0),(7,ints l),(8,V.int l.length),(9,V.int k)]) (fun _=>[]) (fun k=>k≤l.length∧(l.all fun s=>decide (0≤s)&&decide (s < (ow.length:Int)))=(l.drop k).all fun s=>decide (0≤s)&&decide (s < (ow.length:Int))) (fun k=>l.length-k) 0 [] ⟨Nat.zero_le _,rfl⟩ ?_
 rintro k ⟨hk,hinv⟩
 by_cases hkl:k < l.length
 ·rw [drop_cons hkl,List.all_cons] at hinv
  repeat' (with_reducible first|refine OL.st ?_|refine TC.region ?_|refine TC.seq ?_|refine OL.nil ?_|refine TX.thenN ?_|refine TC.block ?_|refine TC.skip ?_|refine TX.blkN ?_|refine TC.ifT ?_|refine OL.gOn ?_|refine OL.gOff ?_|refine TC.ifD ?_ ?_<;>(intro hc;try (exfalso;omega))|refine OL.gD ?_ ?_<;>(intro hc;try (exfalso;omega))|refine TC.ret ?_|refine TX.thenR ?_|refine TX.blkR ?_|fail)
  ·refine TX.rt1 [] (LE.bool ?_)
   rw [hinv];simp;omega
  ·refine TX.rt1 [] (LE.bool ?_)
   rw [hinv];simp;omega
  ·refine TX.rd (k+1) [] ⟨by omega,?_⟩ (by omega)
   rw [hinv]
   have h1:decide (0≤l[k])=true:=by simp;omega
   have h2:decide (l[k] < (ow.length:Int))=true:=by simp;omega
   rw [h1,h2];rfl
 ·rw [drop_nil (by omega)] at hinv
  refine goW ?_
  refine TX.rt1 [] (LE.bool ?_)
  rw [hinv];simp;omega
set_option maxHeartbeats 1000000 in
theorem Ct238:∀ (n:Nat) (f:Fct),nodesF f≤n→n≤1000→V.Spec Tryz.prog 188 [fctA f] [] (V.int (depthF f)) []:=by
 intro n
 induction n with
 | zero=>intro f h;have:=nodesF_pos f;omega
 | succ n ih =>
   intro f hn hn1
   have hkid:∀ k∈f.kids,V.Spec Tryz.prog 188 [fctA k] [] (V.int (depthF k)) []:=fun k hk=>ih k (by have:=kid_nodes hk;omega) (by omega)
   have hdn:=depth_nodes _ f (Nat.le_refl _)
   have hdl:depthL f.kids≤1000:=by rw [depthF_eq] at hdn;omega
   have hdk:∀ k∈f.kids,depthF k≤1000:=fun k hk=>Nat.le_trans (depthL_mem hk) hdl
   rw [fctA_eq,depthF_eq]
   obtain ⟨op,arg,path,cls,fn,l⟩:=f
   simp only [Fct.op,Fct.arg,Fct.path,Fct.cls,Fct.n,Fct.kids] at *
   refine V.Spec.enter Tryz.tabOK Tryz.mixed Tryz.func188 rfl rfl rfl fun B hB=>?_
   refine goW ?_
   refine TC.bl 7 fun hll=>?_
   refine TC.lp (fun k:Nat=>[(3,V.int (depthL (l.take k))),(7,.sl 6 none (l.map fctA)),(8,V.int l.length),(9,V.int k)]) (fun _=>[]) (fun k=>k≤l.length∧depthL (l.take k)≤1000) (fun k=>l.length-k) 0 [] ⟨Nat.zero_le _,by simp [depthL]⟩ ?_
   rintro k ⟨hk,hd⟩
   by_cases hkl:k < l.length
   ·have hs:=hkid l[k] (List.getElem_mem _)
    have hdk':=hdk l[k] (List.getElem_mem _)
    have e:depthL (l.take (k+1))=max (depthL (l.take k)) (depthF l[k]):=by rw [take_succ hkl,depthL_snoc]
    generalize depthL (l.take k)=q at *
    refine goW ?_
    refine OL.c hs Tryz.func188 ?_
    refine OL.max (((depthL (l.take (k+1)):Nat):Int)) ?_ (hc:=by rw [e];omega)
    refine goW ?_
    exact TX.rd (k+1) [] ⟨by omega,by omega⟩ (by omega)
   ·rw [take_all (by omega)] at hd ⊢
    refine goW ?_
    refine TX.rt1 [] (LE.int ?_)<;>omega
set_option maxHeartbeats 1000000 in
theorem Ct244 (np no:Nat):∀ (n:Nat) (f:Fct),nodesF f≤n→nodeOkB np no f=true→V.Spec Tryz.prog 132 [fctA f] [] (V.int (speaksF f)) []:=by
 intro n
 induction n with
 | zero=>intro f h;have:=nodesF_pos f;omega
 | succ n ih =>
   intro f hn hok
   have hl:=Ct248 f
   rw [nodeOkB_eq,Bool.and_eq_true] at hok
   obtain ⟨hh,hks⟩:=hok
   have hkk:∀ l:List Fct,nodesOkB np no l=true→∀ k∈l,nodeOkB np no k=true:=by
    intro l
    induction l with
    | nil=>simp
    | cons x r ih2 =>
      intro h k hk
      rw [nodesOkB,Bool.and_eq_true] at h
      rcases List.mem_cons.1 hk with rfl|hk
      ·exact h.1
      ·exact ih2 h.2 k hk
   have hkid:∀ k∈f.kids,V.Spec Tryz.prog 132 [fctA k] [] (V.int (speaksF k)) []:=fun k hk=>ih k (by have:=kid_nodes hk;omega) (hkk _ hks k hk)
   have harg:leafB f.op=true→0≤f.arg∧f.arg < 3:=by
    intro hlf
    obtain ⟨op,arg,path,cls,fn,l⟩:=f
    rw [headB,if_pos hlf] at hh
    simp only [Bool.and_eq_true,decide_eq_true_eq] at hh
    exact hh.2.1.1
   rw [speaksF_eq]
   rw [fctA_eq] at hl ⊢
   generalize leafB f.op=lf at *
   obtain ⟨op,arg,path,cls,fn,l⟩:=f
   simp only [Fct.op,Fct.arg,Fct.path,Fct.cls,Fct.n,Fct.kids] at *
   obtain ⟨n0,hn0⟩:∃ n0:Int,n0=if lf=true then arg+1 else 0:=⟨_,rfl⟩
   rw [← hn0]
   refine V.Spec.enter Tryz.tabOK Tryz.mixed Tryz.func132 rfl rfl rfl fun B hB=>?_
   refine goW ?_
   refine OL.c hl Tryz.func190 ?_
   refine goW ?_
   cases lf
   ·refine goW ?_
    rw [if_neg (by decide)] at hn0
    subst hn0
    refine TC.bl 12 fun hll=>?_
    refine TC.lp (fun k:Nat=>[(3,V.int (max 0 (speaksL (l.take k)))),(12,.sl 6 none (l.map fctA)),(13,V.int l.length),(14,V.int k)]) (fun _=>[]) (fun k=>k≤l.length) (fun k=>l.length-k) 0 [] (Nat.zero_le _) ?_
    rintro k hk
    by_cases hkl:k < l.length
    ·have hs:=hkid l[k] (List.getElem_mem _)
     have e:speaksL (l.take (k+1))=max (speaksL (l.take k)) (speaksF l[k]):=by rw [take_succ hkl,speaksL_snoc]
     refine goW ?_
     refine OL.c hs Tryz.func132 ?_
     refine OL.max (max 0 (speaksL (l.take (k+1)))) ?_ (hc:=by rw [e];omega)
     refine goW ?_
     exact TX.rd (k+1) [] (by omega) (by omega)
    ·rw [take_all (by omega)]
     refine goW ?_
     exact TX.rt1 [] (.ren rfl)
   ·have harg:=harg rfl
    refine goW ?_
    rw [if_pos rfl] at hn0
    subst hn0
    refine TC.bl 12 fun hll=>?_
    refine TC.lp (fun k:Nat=>[(3,V.int (max (arg+1) (speaksL (l.take k)))),(12,.sl 6 none (l.map fctA)),(13,V.int l.length),(14,V.int k)]) (fun _=>[]) (fun k=>k≤l.length) (fun k=>l.length-k) 0 [] (Nat.zero_le _) ?_ (hr:=⟨⟨_,rfl,LE.int (by rw [List.take_zero,speaksL];omega)⟩,⟨_,rfl,LE.ren rfl⟩,⟨_,rfl,LE.ren rfl⟩,⟨_,rfl,LE.ren rfl⟩,trivial⟩)
    rintro k hk
    by_cases hkl:k < l.length
    ·have hs:=hkid l[k] (List.getElem_mem _)
     have e:speaksL (l.take (k+1))=max (speaksL (l.take k)) (speaksF l[k]):=by rw [take_succ hkl,speaksL_snoc]
     refine goW ?_
     refine OL.c hs Tryz.func132 ?_
     refine OL.max (max (arg+1) (speaksL (l.take (k+1)))) ?_ (hc:=by rw [e];omega)
     refine goW ?_
     exact TX.rd (k+1) [] (by omega) (by omega)
    ·rw [take_all (by omega)]
     refine goW ?_
     exact TX.rt1 [] (.ren rfl)
set_option maxHeartbeats 1000000 in
theorem Ct250:∀ (n m:Nat) (f:Fct),m≤n→n≤1000→V.Spec Tryz.prog 232 [fctA f,V.int m] [] (V.int ((min (nodesF f) (m+1):Nat):Int)) []:=by
 intro n
 induction n with
 | zero =>
   intro m f hm _
   obtain rfl:m=0:=by omega
   have hp:=nodesF_pos f
   have e:min (nodesF f) (0+1)=1:=by omega
   rw [e,fctA_eq]
   obtain ⟨op,arg,path,cls,fn,l⟩:=f
   simp only [Fct.op,Fct.arg,Fct.path,Fct.cls,Fct.n,Fct.kids] at *
   refine V.Spec.enter Tryz.tabOK Tryz.mixed Tryz.func232 rfl rfl rfl fun B hB=>?_
   refine goW ?_
   refine TC.frzB 2 ?_
   refine TC.lp (fun k:Nat=>[(1,V.int 0),(2,.ep [V.int op,V.int arg,ints path,V.int cls,V.int fn,.sl 6 none (l.map fctA)] 0),(5,V.int 1),(6,V.int k)]) (fun _=>[]) (fun k=>k=0) (fun k=>0) 0 [] rfl ?_
   rintro k rfl
   (refine goSW ?_ ?_<;>intro hc<;>refine goW ?_)
   all_goals exact TX.rt1 [] (.ren rfl)
 | succ n ih =>
   intro m f hm hn1
   have hkid:∀ (k:Fct) (q:Nat),q≤n→V.Spec Tryz.prog 232 [fctA k,V.int q] [] (V.int ((min (nodesF k) (q+1):Nat):Int)) []:=fun k q hq=>ih q k hq (by omega)
   rw [fctA_eq,nodesF_eq]
   obtain ⟨op,arg,path,cls,fn,l⟩:=f
   simp only [Fct.op,Fct.arg,Fct.path,Fct.cls,Fct.n,Fct.kids] at *
   refine V.Spec.enter Tryz.tabOK Tryz.mixed Tryz.func232 rfl rfl rfl fun B hB=>?_
   refine goW ?_
   refine TC.frzB 2 ?_
   refine TC.lp (fun k:Nat=>[(1,V.int m),(2,.ep [V.int op,V.int arg,ints path,V.int cls,V.int fn,.sl 6 none (l.map fctA)] 0),(5,V.int ((min (1+nodesL (l.take k)) (m+1):Nat):Int)),(6,V.int k)]) (fun _=>[]) (fun k=>k≤l.length) (fun k=>l.length-k) 0 [] (Nat.zero_le _) ?_ (hr:=⟨⟨_,rfl,LE.ren rfl⟩,⟨_,rfl,LE.ren rfl⟩,⟨_,rfl,LE.int (by simp [nodesL])⟩,⟨_,rfl,LE.ren rfl⟩,trivial⟩)
   rintro k hk
   have hle:=nodesL_take_le l k
   by_cases hkl:k < l.length
   ·have e:nodesL (l.take (k+1))=nodesL (l.take k)+nodesF l[k]:=by rw [take_succ hkl,nodesL_snoc]
    have hkq:k≤nodesL (l.take k):=by have:=nodesL_len (l.take k);rw [List.length_take] at this;omega
    have hs:=hkid l[k]
    have hp:=nodesF_pos l[k]
    generalize nodesL (l.take k)=q at *
    by_cases hq:1+q≤m
    ·obtain ⟨r,hr⟩:∃ r:Nat,m=(1+q)+r:=⟨m-(1+q),by omega⟩
     have hs:=hs r (by omega)
     have e1:min (1+q) (m+1)=1+q:=by omega
     rw [e1]
     refine goW ?_
     have er:(m:Int)-((1+q:Nat):Int)=(r:Int):=by omega
     refine OL.c hs Tryz.func232 ?_ (hle:=by with_unfolding_all exact ⟨.ren rfl,LE.int er,trivial⟩)
     refine goW ?_
     exact TX.rd (k+1) [] (by omega) (by omega) (hr:=⟨⟨_,rfl,LE.ren rfl⟩,⟨_,rfl,LE.ren rfl⟩,⟨_,rfl,LE.int (by omega)⟩,⟨_,rfl,LE.ren rfl⟩,trivial⟩)
    ·have e1:min (1+q) (m+1)=m+1:=by omega
     rw [e1]
     refine goW ?_
     refine TX.rt1 [] (LE.int ?_)<;>omega
   ·rw [take_all (by omega)]
    refine goW ?_
    exact TX.rt1 [] (.ren rfl)
theorem Ct241 (f:Fct):V.Spec Tryz.prog 187 [fctA f] [] (V.int ((min (nodesF f) 25:Nat):Int)) []:=by
 have h:=Ct250 24 24 f (Nat.le_refl _) (by omega)
 refine V.Spec.enter Tryz.tabOK Tryz.mixed Tryz.func187 rfl rfl rfl fun B hB=>?_
 refine goW ?_
 refine OL.c h Tryz.func232 ?_
 refine goW ?_
 exact TX.rt1 [] (.ren rfl)
end Go.Proofs
namespace Go.V
open Go Go.W
theorem OE.dead {τ o}:OE τ o .dead:=fun _ _ _ _ _ v _=>⟨trivial,.inr (by cases v<;>rfl)⟩
theorem OE.junk1 {τ T x}:OE τ (.cb T [x]) (.cb T [.junk]):=fun _ _ _ _ _ v h=>by
 obtain ⟨b,vs,e,hB,hC⟩:=h
 subst e
 refine ⟨⟨b,vs,rfl,hB,by simpa using hC.1,hC.2.1,fun j v c _ h2=>?_⟩,.inl rfl⟩
 have:c=.junk:=by have:=List.mem_of_getElem? h2;simpa using this
 subst this
 exact .junk
end Go.V
namespace Go.Proofs
open Go Go.W Go.V
abbrev outA (o:Option (List Int)):List AO:=[.cb Tc.Lint [.hs 1],.gs false Tc.int 1 none ((o.getD []).map V.int)]
set_option maxHeartbeats 4000000 in
theorem Ct305 (p:Prg) (hpk:∀ x∈p.nodes,x.2.2.length*8≤140737488355328) (hcl:p.cls.length < 1000000000) (n s:Int) (hs:0≤s) (hs2:s < 1000000) (next:Bool) (out:List Int) (hlen:out.length=p.nodes.length) :
  SpecY Tryz.prog 177 [V.int n,V.int s,V.bool next,.ep (prgC p) 0,.bp 0 0] (outA (some out)) (.tp []) (outA (runB p next out (belowL p n s))) ((runB p next out (belowL p n s)).isSome=true) upv [.cb Tc.Lint [.junk],.dead]:=by
 refine SpecY.enterF Tryz.tabOK Tryz.mixed Tryz.func177 rfl rfl rfl fun B hB=>?_
 refine TF.seq ?_
 with_reducible refine TC.region ?_
 with_reducible refine OL.box ?_
 refine OL.frzB 7 ?_
 with_reducible refine OL.nil ?_
 refine TX.thenF ?_
 refine TF.seq ?_
 refine goW ?_
 refine OL.c (Ct24 p hpk n s hs hs2) Tryz.func178 ?_
 refine goW ?_
 refine TX.thenF ?_
 refine TF.block ?_
 refine TF.rfX (fun x=>V.int x.1) (fun x=>.st [V.int x.2.1,V.int x.2.2]) [(3,.ep (prgC p) 0),(4,.bp 0 0),(7,.ep [V.bool next] 0)] (fun pre=>outA (runB p next out pre))
  (fun _ x=>[(8,V.int x.1),(9,.bp 2 0),(3,.ep (prgC p) 0),(4,.bp 0 0),(7,.ep [V.bool next] 0)]) (fun pre x=>outA (runB p next out pre)++[.cb Tc.bind_place [V.int x.2.1,V.int x.2.2]])
  [.cb Tc.Lint [.junk],.dead] (fun pre=>(runB p next out pre).isSome=true) (¬ (runB p next out (belowL p n s)).isSome=true) 2 [0,1] Tryz.func177 rfl (fun _=>rfl) rfl rfl ?_ ?_ ?_ (by simp) (by simp) rfl rfl rfl ?_ ?_ ?_ ?_ ?_
 ·with_unfolding_all exact ⟨⟨_,rfl,OE.ren rfl⟩,⟨_,rfl,OE.gs⟩,trivial⟩
 ·with_unfolding_all exact ⟨⟨_,rfl,LE.ren rfl⟩,⟨_,rfl,LE.ren rfl⟩,⟨_,rfl,LE.ren rfl⟩,trivial⟩
 ·with_unfolding_all exact ⟨⟨_,rfl,LE.ren rfl⟩,⟨_,rfl,LE.ren rfl⟩,⟨_,rfl,LE.ren rfl⟩,trivial⟩
 ·intro pre hg x hx
  obtain ⟨o,ho⟩:=Option.isSome_iff_exists.1 hg
  exact runB_ok ho x hx
 ·rintro pre x Bx hBx l hx hg
  dsimp only
  refine goyW ?_
  exact TX.rqa [0,1,2]
 ·rintro pre x Bx hBx l ⟨r,hr⟩ hg
  obtain ⟨o,ho⟩:=Option.isSome_iff_exists.1 hg
  have hol:=runB_len ho
  rw [hlen] at hol
  have hbad:stepB p next o x=none→¬ (runB p next out (belowL p n s)).isSome=true:=by
   intro h
   rw [← hr,show pre++x::r=pre++[x]++r by simp,runB_app,runB_snoc,ho,Option.bind_some,h]
   simp
  rw [runB_snoc,ho,Option.bind_some]
  simp only [outA,Option.getD_some]
  obtain ⟨k,sz,dp⟩:=x
  dsimp only
  repeat' (with_reducible first|refine OL.st ?_|refine TC.region ?_|refine TC.seq ?_|refine TC.block ?_|refine OL.gOn ?_|refine OL.gOff ?_|refine OL.gD ?_ ?_<;>(intro hc;try (exfalso;omega))|fail)
  rotate_left
  ·refine OL.cX [] Ct194 Tryz.func175 ?_
   repeat' (first|refine TX.thenP ?_|refine TX.blkP ?_)
   exact TX.rqxP (hbad (by rw [stepB,if_neg];rintro ⟨a1,a2,a3,a4⟩;dsimp only at a1 a2 a3 a4;rw [List.getD_eq_getElem?_getD,List.getElem?_eq_getElem (by omega),Option.getD_some] at a3;omega)) [0,1] (ho:=by with_unfolding_all exact ⟨⟨_,rfl,OE.junk1⟩,⟨_,rfl,OE.dead⟩,trivial⟩)
  ·refine OL.cX [] Ct194 Tryz.func175 ?_
   repeat' (first|refine TX.thenP ?_|refine TX.blkP ?_)
   exact TX.rqxP (hbad (by rw [stepB,if_neg];rintro ⟨a1,a2,a3,a4⟩;dsimp only at a1 a2 a3 a4;rw [List.getD_eq_getElem?_getD,List.getElem?_eq_getElem (by omega),Option.getD_some] at a3;omega)) [0,1] (ho:=by with_unfolding_all exact ⟨⟨_,rfl,OE.junk1⟩,⟨_,rfl,OE.dead⟩,trivial⟩)
  ·refine OL.cX [] Ct194 Tryz.func175 ?_
   repeat' (first|refine TX.thenP ?_|refine TX.blkP ?_)
   exact TX.rqxP (hbad (by rw [stepB,if_neg];rintro ⟨a1,a2,a3,a4⟩;dsimp only at a1 a2 a3 a4;rw [List.getD_eq_getElem?_getD,List.getElem?_eq_getElem (by omega),Option.getD_some] at a3;omega)) [0,1] (ho:=by with_unfolding_all exact ⟨⟨_,rfl,OE.junk1⟩,⟨_,rfl,OE.dead⟩,trivial⟩)
  by_cases h12:dp≤12
  ·simp only [h12,decide_true]
   refine OL.c Ct195 Tryz.func175 ?_
   rename_i h0 h1
   have h2:=hc
   refine goyW ?_
   refine OL.storeE (k:=k.toNat) (o:=0) (sz:=1) (e:=V.int o[k.toNat]) (e':=V.int sz) ?_
   rw [show (o.map V.int).set k.toNat (V.int sz)=(o.set k.toNat sz).map V.int from List.map_set.symm]
   obtain ⟨nd,hnd⟩:∃ nd,nd=p.nodes[k.toNat]:=⟨_,rfl⟩
   have hna:nodeAt p.nodes k=nd:=by rw [hnd,nodeAt,List.getD_eq_getElem?_getD,List.getElem?_eq_getElem (by omega)];rfl
   have hst:stepB p next o (k,sz,dp)=if numberV p nd sz=true∧(next=true∨nd.1≠18)∧manyV p nd=some (nd.2.2.length:Int) then some (o.set k.toNat sz) else none:=by
    rw [stepB,if_pos ⟨h0,h1,by rw [List.getD_eq_getElem?_getD,List.getElem?_eq_getElem (by omega)];exact h2,h12⟩,hna]
   have hnk:=hpk nd (hnd ▸ List.getElem_mem _)
   generalize stepB p next o (k,sz,dp)=so at *
   subst hst
   refine goyW ?_
   simp only [← hnd]
   obtain ⟨op,xn,kids⟩:=nd
   refine OL.c (Ct32 p (op,xn,kids) sz hcl) Tryz.func179 ?_
   cases hnv:numberV p (op,xn,kids) sz
   ·refine goyW ?_
    refine OL.cX [] Ct194 Tryz.func175 ?_
    repeat' (first|refine TX.thenP ?_|refine TX.blkP ?_)
    exact TX.rqxP (hbad (if_neg (fun h=>by rw [hnv] at h;exact absurd h.1 (by decide)))) [0,1] (ho:=by with_unfolding_all exact ⟨⟨_,rfl,OE.junk1⟩,⟨_,rfl,OE.dead⟩,trivial⟩)
   by_cases hnx:next=true∨op≠18
   rotate_left
   ·obtain ⟨rfl,rfl⟩:next=false∧op=18:=by
     constructor
     ·cases next
      ·rfl
      ·exact absurd (.inl rfl) hnx
     ·exact Decidable.byContradiction fun h=>hnx (.inr h)
    refine goyW ?_
    refine OL.cX [] Ct194 Tryz.func175 ?_
    repeat' (first|refine TX.thenP ?_|refine TX.blkP ?_)
    exact TX.rqxP (hbad (if_neg (fun h=>hnx h.2.1))) [0,1] (ho:=by with_unfolding_all exact ⟨⟨_,rfl,OE.junk1⟩,⟨_,rfl,OE.dead⟩,trivial⟩)
   have e18:next=false→decide ((op,xn,kids).1≠18)=true:=fun h=>by
    rcases hnx with h2|h2
    ·rw [h] at h2;cases h2
    ·exact decide_eq_true h2
   have hsome:manyV p (op,xn,kids)=some ((kids.length:Nat):Int)→(if true=true∧(next=true∨op≠18)∧manyV p (op,xn,kids)=some ((kids.length:Nat):Int) then some (o.set k.toNat sz) else none)=some (o.set k.toNat sz):=fun h=>if_pos ⟨rfl,hnx,h⟩
   have hnone:¬ manyV p (op,xn,kids)=some ((kids.length:Nat):Int)→(if true=true∧(next=true∨op≠18)∧manyV p (op,xn,kids)=some ((kids.length:Nat):Int) then some (o.set k.toNat sz) else none)=none:=fun h=>if_neg fun q=>h q.2.2
   cases next
   case' false =>
    replace e18:=e18 rfl
    refine goyW ?_
    rw [e18]
   case' true =>
    clear e18
    refine goyW ?_
   all_goals
    refine OL.c Ct195 Tryz.func175 ?_
    refine goyW ?_
    refine OL.c (Ct31 op) Tryz.func180 ?_
    rcases kidsOf_cases p (op,xn,kids) with ⟨h5,hk⟩|⟨h5,mm,hm,hk⟩|⟨h5,hm,hk⟩
    ·dsimp only at h5 hk
     have hr0:0≤xn:=by
      rw [numberV,if_neg (by simp;omega),if_neg (by simp;omega)] at hnv
      simp at hnv;exact hnv.1
     have hr1:xn < p.gens.length:=by
      rw [numberV,if_neg (by simp;omega),if_neg (by simp;omega),mostV,if_neg (by simp;omega),if_neg (by simp;omega),if_pos (by simpa using h5)] at hnv
      simp at hnv;exact hnv.2
     obtain ⟨mm,hmm⟩:∃ mm,mm=p.gens[xn.toNat]'(by omega):=⟨_,rfl⟩
     have hm:manyV p (op,xn,kids)=some mm:=by
      rw [manyV,if_pos (by simpa using h5),hmm];exact List.getElem?_eq_getElem _
     rw [hk]
     refine goyW ?_
     refine OL.ta (ta_ar_so) ?_
     refine goyW ?_
     refine OL.ta (ta_ar_ar) ?_
     refine goyW ?_
     by_cases hq:(kids.length:Int)=mm
     ·have eq1:decide ((kids.length:Int)=mm)=true:=decide_eq_true hq
      rw [hsome (by rw [hm,hq])]
      (with_reducible refine TC.draw (id:=13) false 6 9 ?_<;>refine OD.stT 0 ?_<;>refine OD.st 3 ?_)<;>((with_reducible refine OD.n3 1 4 5 ?_ ?_ ?_)<;>(first|((with_reducible refine NextBy.at 1 ?_<;>refine NextBy.s ?_<;>refine OD.stT 2 ?_<;>refine OD.q2 4 5 ?_)<;>((with_reducible refine OD.a1 6 ?_);refine OL.inv (u0:=.st []) (Ct23 p (op,xn,kids) hr0 hr1) cm_ar (fun _ _ _=>.st (vs:=[]) rfl (by simp) (by simp)) ?_<;>refine OL.nil ?_<;>refine TX.od ?_)<;>(with_reducible refine OD.st 7 ?_)<;>((with_reducible refine OD.a1 8 ?_);simp only [← hmm]<;>rw [eq1]<;>refine OL.c Ct195 Tryz.func175 ?_<;>refine OL.nil ?_<;>refine TX.od ?_)<;>(with_reducible refine OD.dn ?_))|((with_reducible refine NextBy.at 4 ?_<;>refine NextBy.s ?_)<;>((with_reducible refine OD.n2 1 5 ?_ ?_)<;>(first|((with_reducible refine NextBy.at 1 ?_<;>refine NextBy.s ?_<;>refine OD.stT 2 ?_<;>refine OD.s1 5 ?_)<;>((with_reducible refine OD.a1 6 ?_);refine OL.inv (u0:=.st []) (Ct23 p (op,xn,kids) hr0 hr1) cm_ar (fun _ _ _=>.st (vs:=[]) rfl (by simp) (by simp)) ?_<;>refine OL.nil ?_<;>refine TX.od ?_)<;>(with_reducible refine OD.st 7 ?_)<;>((with_reducible refine OD.a1 8 ?_);simp only [← hmm]<;>rw [eq1]<;>refine OL.c Ct195 Tryz.func175 ?_<;>refine OL.nil ?_<;>refine TX.od ?_)<;>(with_reducible refine OD.dn ?_))|((with_reducible refine NextBy.at 5 ?_<;>refine NextBy.s ?_)<;>((with_reducible refine OD.n2 1 6 ?_ ?_)<;>(first|((with_reducible refine NextBy.at 1 ?_<;>refine NextBy.s ?_<;>refine OD.stT 2 ?_)<;>((with_reducible refine OD.a1 6 ?_);refine OL.inv (u0:=.st []) (Ct23 p (op,xn,kids) hr0 hr1) cm_ar (fun _ _ _=>.st (vs:=[]) rfl (by simp) (by simp)) ?_<;>refine OL.nil ?_<;>refine TX.od ?_)<;>(with_reducible refine OD.st 7 ?_)<;>((with_reducible refine OD.a1 8 ?_);simp only [← hmm]<;>rw [eq1]<;>refine OL.c Ct195 Tryz.func175 ?_<;>refine OL.nil ?_<;>refine TX.od ?_)<;>(with_reducible refine OD.dn ?_))|((with_reducible refine NextBy.at 6 ?_)<;>((with_reducible refine NextBy.a ?_);refine OL.inv (u0:=.st []) (Ct23 p (op,xn,kids) hr0 hr1) cm_ar (fun _ _ _=>.st (vs:=[]) rfl (by simp) (by simp)) ?_<;>refine OL.nil ?_<;>refine TX.od ?_)<;>(with_reducible refine OD.s1 1 ?_<;>refine OD.st2 2 7 ?_)<;>((with_reducible refine OD.a1 8 ?_);simp only [← hmm]<;>rw [eq1]<;>refine OL.c Ct195 Tryz.func175 ?_<;>refine OL.nil ?_<;>refine TX.od ?_)<;>(with_reducible refine OD.dn ?_))))))))|((with_reducible refine NextBy.at 5 ?_<;>refine NextBy.s ?_)<;>((with_reducible refine OD.n2 1 4 ?_ ?_)<;>(first|((with_reducible refine NextBy.at 1 ?_<;>refine NextBy.s ?_<;>refine OD.stT 2 ?_<;>refine OD.s1 4 ?_)<;>((with_reducible refine OD.a1 6 ?_);refine OL.inv (u0:=.st []) (Ct23 p (op,xn,kids) hr0 hr1) cm_ar (fun _ _ _=>.st (vs:=[]) rfl (by simp) (by simp)) ?_<;>refine OL.nil ?_<;>refine TX.od ?_)<;>(with_reducible refine OD.st 7 ?_)<;>((with_reducible refine OD.a1 8 ?_);simp only [← hmm]<;>rw [eq1]<;>refine OL.c Ct195 Tryz.func175 ?_<;>refine OL.nil ?_<;>refine TX.od ?_)<;>(with_reducible refine OD.dn ?_))|((with_reducible refine NextBy.at 4 ?_<;>refine NextBy.s ?_)<;>((with_reducible refine OD.n2 1 6 ?_ ?_)<;>(first|((with_reducible refine NextBy.at 1 ?_<;>refine NextBy.s ?_<;>refine OD.stT 2 ?_)<;>((with_reducible refine OD.a1 6 ?_);refine OL.inv (u0:=.st []) (Ct23 p (op,xn,kids) hr0 hr1) cm_ar (fun _ _ _=>.st (vs:=[]) rfl (by simp) (by simp)) ?_<;>refine OL.nil ?_<;>refine TX.od ?_)<;>(with_reducible refine OD.st 7 ?_)<;>((with_reducible refine OD.a1 8 ?_);simp only [← hmm]<;>rw [eq1]<;>refine OL.c Ct195 Tryz.func175 ?_<;>refine OL.nil ?_<;>refine TX.od ?_)<;>(with_reducible refine OD.dn ?_))|((with_reducible refine NextBy.at 6 ?_)<;>((with_reducible refine NextBy.a ?_);refine OL.inv (u0:=.st []) (Ct23 p (op,xn,kids) hr0 hr1) cm_ar (fun _ _ _=>.st (vs:=[]) rfl (by simp) (by simp)) ?_<;>refine OL.nil ?_<;>refine TX.od ?_)<;>(with_reducible refine OD.s1 1 ?_<;>refine OD.st2 2 7 ?_)<;>((with_reducible refine OD.a1 8 ?_);simp only [← hmm]<;>rw [eq1]<;>refine OL.c Ct195 Tryz.func175 ?_<;>refine OL.nil ?_<;>refine TX.od ?_)<;>(with_reducible refine OD.dn ?_))))))))))
      all_goals refine goyW ?_
      all_goals exact TX.rqx rfl [0,1]
     ·have eq0:decide ((kids.length:Int)=mm)=false:=decide_eq_false hq
      have hn0:=hnone (by rw [hm];intro h;exact hq (Option.some.inj h).symm)
      have hbb:=hbad (by rw [hnv];exact hn0)
      rw [hn0]
      (with_reducible refine TC.draw (id:=13) false 6 9 ?_<;>refine OD.stT 0 ?_<;>refine OD.st 3 ?_)<;>((with_reducible refine OD.n3 1 4 5 ?_ ?_ ?_)<;>(first|((with_reducible refine NextBy.at 1 ?_<;>refine NextBy.s ?_<;>refine OD.stT 2 ?_<;>refine OD.q2 4 5 ?_)<;>((with_reducible refine OD.a1 6 ?_);refine OL.inv (u0:=.st []) (Ct23 p (op,xn,kids) hr0 hr1) cm_ar (fun _ _ _=>.st (vs:=[]) rfl (by simp) (by simp)) ?_<;>refine OL.nil ?_<;>refine TX.od ?_)<;>(with_reducible refine OD.st 7 ?_)<;>((with_reducible refine OD.a1 8 ?_);simp only [← hmm]<;>rw [eq0]<;>refine OL.cX [] Ct194 Tryz.func175 ?_<;>refine TX.qdP ?_<;>refine TX.blkP ?_<;>refine TX.blkP ?_<;>exact TX.rqxP hbb [0,1] (ho:=by with_unfolding_all exact ⟨⟨_,rfl,OE.junk1⟩,⟨_,rfl,OE.dead⟩,trivial⟩))<;>(with_reducible refine OD.dn ?_))|((with_reducible refine NextBy.at 4 ?_<;>refine NextBy.s ?_)<;>((with_reducible refine OD.n2 1 5 ?_ ?_)<;>(first|((with_reducible refine NextBy.at 1 ?_<;>refine NextBy.s ?_<;>refine OD.stT 2 ?_<;>refine OD.s1 5 ?_)<;>((with_reducible refine OD.a1 6 ?_);refine OL.inv (u0:=.st []) (Ct23 p (op,xn,kids) hr0 hr1) cm_ar (fun _ _ _=>.st (vs:=[]) rfl (by simp) (by simp)) ?_<;>refine OL.nil ?_<;>refine TX.od ?_)<;>(with_reducible refine OD.st 7 ?_)<;>((with_reducible refine OD.a1 8 ?_);simp only [← hmm]<;>rw [eq0]<;>refine OL.cX [] Ct194 Tryz.func175 ?_<;>refine TX.qdP ?_<;>refine TX.blkP ?_<;>refine TX.blkP ?_<;>exact TX.rqxP hbb [0,1] (ho:=by with_unfolding_all exact ⟨⟨_,rfl,OE.junk1⟩,⟨_,rfl,OE.dead⟩,trivial⟩))<;>(with_reducible refine OD.dn ?_))|((with_reducible refine NextBy.at 5 ?_<;>refine NextBy.s ?_)<;>((with_reducible refine OD.n2 1 6 ?_ ?_)<;>(first|((with_reducible refine NextBy.at 1 ?_<;>refine NextBy.s ?_<;>refine OD.stT 2 ?_)<;>((with_reducible refine OD.a1 6 ?_);refine OL.inv (u0:=.st []) (Ct23 p (op,xn,kids) hr0 hr1) cm_ar (fun _ _ _=>.st (vs:=[]) rfl (by simp) (by simp)) ?_<;>refine OL.nil ?_<;>refine TX.od ?_)<;>(with_reducible refine OD.st 7 ?_)<;>((with_reducible refine OD.a1 8 ?_);simp only [← hmm]<;>rw [eq0]<;>refine OL.cX [] Ct194 Tryz.func175 ?_<;>refine TX.qdP ?_<;>refine TX.blkP ?_<;>refine TX.blkP ?_<;>exact TX.rqxP hbb [0,1] (ho:=by with_unfolding_all exact ⟨⟨_,rfl,OE.junk1⟩,⟨_,rfl,OE.dead⟩,trivial⟩))<;>(with_reducible refine OD.dn ?_))|((with_reducible refine NextBy.at 6 ?_)<;>((with_reducible refine NextBy.a ?_);refine OL.inv (u0:=.st []) (Ct23 p (op,xn,kids) hr0 hr1) cm_ar (fun _ _ _=>.st (vs:=[]) rfl (by simp) (by simp)) ?_<;>refine OL.nil ?_<;>refine TX.od ?_)<;>(with_reducible refine OD.s1 1 ?_<;>refine OD.st2 2 7 ?_)<;>((with_reducible refine OD.a1 8 ?_);simp only [← hmm]<;>rw [eq0]<;>refine OL.cX [] Ct194 Tryz.func175 ?_<;>refine TX.qdP ?_<;>refine TX.blkP ?_<;>refine TX.blkP ?_<;>exact TX.rqxP hbb [0,1] (ho:=by with_unfolding_all exact ⟨⟨_,rfl,OE.junk1⟩,⟨_,rfl,OE.dead⟩,trivial⟩))<;>(with_reducible refine OD.dn ?_))))))))|((with_reducible refine NextBy.at 5 ?_<;>refine NextBy.s ?_)<;>((with_reducible refine OD.n2 1 4 ?_ ?_)<;>(first|((with_reducible refine NextBy.at 1 ?_<;>refine NextBy.s ?_<;>refine OD.stT 2 ?_<;>refine OD.s1 4 ?_)<;>((with_reducible refine OD.a1 6 ?_);refine OL.inv (u0:=.st []) (Ct23 p (op,xn,kids) hr0 hr1) cm_ar (fun _ _ _=>.st (vs:=[]) rfl (by simp) (by simp)) ?_<;>refine OL.nil ?_<;>refine TX.od ?_)<;>(with_reducible refine OD.st 7 ?_)<;>((with_reducible refine OD.a1 8 ?_);simp only [← hmm]<;>rw [eq0]<;>refine OL.cX [] Ct194 Tryz.func175 ?_<;>refine TX.qdP ?_<;>refine TX.blkP ?_<;>refine TX.blkP ?_<;>exact TX.rqxP hbb [0,1] (ho:=by with_unfolding_all exact ⟨⟨_,rfl,OE.junk1⟩,⟨_,rfl,OE.dead⟩,trivial⟩))<;>(with_reducible refine OD.dn ?_))|((with_reducible refine NextBy.at 4 ?_<;>refine NextBy.s ?_)<;>((with_reducible refine OD.n2 1 6 ?_ ?_)<;>(first|((with_reducible refine NextBy.at 1 ?_<;>refine NextBy.s ?_<;>refine OD.stT 2 ?_)<;>((with_reducible refine OD.a1 6 ?_);refine OL.inv (u0:=.st []) (Ct23 p (op,xn,kids) hr0 hr1) cm_ar (fun _ _ _=>.st (vs:=[]) rfl (by simp) (by simp)) ?_<;>refine OL.nil ?_<;>refine TX.od ?_)<;>(with_reducible refine OD.st 7 ?_)<;>((with_reducible refine OD.a1 8 ?_);simp only [← hmm]<;>rw [eq0]<;>refine OL.cX [] Ct194 Tryz.func175 ?_<;>refine TX.qdP ?_<;>refine TX.blkP ?_<;>refine TX.blkP ?_<;>exact TX.rqxP hbb [0,1] (ho:=by with_unfolding_all exact ⟨⟨_,rfl,OE.junk1⟩,⟨_,rfl,OE.dead⟩,trivial⟩))<;>(with_reducible refine OD.dn ?_))|((with_reducible refine NextBy.at 6 ?_)<;>((with_reducible refine NextBy.a ?_);refine OL.inv (u0:=.st []) (Ct23 p (op,xn,kids) hr0 hr1) cm_ar (fun _ _ _=>.st (vs:=[]) rfl (by simp) (by simp)) ?_<;>refine OL.nil ?_<;>refine TX.od ?_)<;>(with_reducible refine OD.s1 1 ?_<;>refine OD.st2 2 7 ?_)<;>((with_reducible refine OD.a1 8 ?_);simp only [← hmm]<;>rw [eq0]<;>refine OL.cX [] Ct194 Tryz.func175 ?_<;>refine TX.qdP ?_<;>refine TX.blkP ?_<;>refine TX.blkP ?_<;>exact TX.rqxP hbb [0,1] (ho:=by with_unfolding_all exact ⟨⟨_,rfl,OE.junk1⟩,⟨_,rfl,OE.dead⟩,trivial⟩))<;>(with_reducible refine OD.dn ?_))))))))))
    ·dsimp only at h5 hk
     rw [hk]
     refine goyW ?_
     refine OL.ta (ta_so_so mm) ?_
     refine goyW ?_
     refine OL.ta (ta_so_ar mm) ?_
     refine goyW ?_
     by_cases hq:(kids.length:Int)=mm
     ·have eq1:decide ((kids.length:Int)=mm)=true:=decide_eq_true hq
      rw [hsome (by rw [hm,hq])]
      (with_reducible refine TC.draw (id:=13) false 6 9 ?_<;>refine OD.stT 0 ?_<;>refine OD.st 3 ?_)<;>((with_reducible refine OD.n3 1 4 5 ?_ ?_ ?_)<;>(first|((with_reducible refine NextBy.at 1 ?_<;>refine NextBy.s ?_<;>refine OD.stT 2 ?_<;>refine OD.q2 4 5 ?_)<;>((with_reducible refine OD.a1 6 ?_);refine OL.inv (Ct36 mm p (op,xn,kids)) (cm_so mm) (fun _ _ _=>.raw rfl) ?_<;>refine OL.nil ?_<;>refine TX.od ?_)<;>(with_reducible refine OD.st 7 ?_)<;>((with_reducible refine OD.a1 8 ?_);rw [eq1]<;>refine OL.c Ct195 Tryz.func175 ?_<;>refine OL.nil ?_<;>refine TX.od ?_)<;>(with_reducible refine OD.dn ?_))|((with_reducible refine NextBy.at 4 ?_<;>refine NextBy.s ?_)<;>((with_reducible refine OD.n2 1 5 ?_ ?_)<;>(first|((with_reducible refine NextBy.at 1 ?_<;>refine NextBy.s ?_<;>refine OD.stT 2 ?_<;>refine OD.s1 5 ?_)<;>((with_reducible refine OD.a1 6 ?_);refine OL.inv (Ct36 mm p (op,xn,kids)) (cm_so mm) (fun _ _ _=>.raw rfl) ?_<;>refine OL.nil ?_<;>refine TX.od ?_)<;>(with_reducible refine OD.st 7 ?_)<;>((with_reducible refine OD.a1 8 ?_);rw [eq1]<;>refine OL.c Ct195 Tryz.func175 ?_<;>refine OL.nil ?_<;>refine TX.od ?_)<;>(with_reducible refine OD.dn ?_))|((with_reducible refine NextBy.at 5 ?_<;>refine NextBy.s ?_)<;>((with_reducible refine OD.n2 1 6 ?_ ?_)<;>(first|((with_reducible refine NextBy.at 1 ?_<;>refine NextBy.s ?_<;>refine OD.stT 2 ?_)<;>((with_reducible refine OD.a1 6 ?_);refine OL.inv (Ct36 mm p (op,xn,kids)) (cm_so mm) (fun _ _ _=>.raw rfl) ?_<;>refine OL.nil ?_<;>refine TX.od ?_)<;>(with_reducible refine OD.st 7 ?_)<;>((with_reducible refine OD.a1 8 ?_);rw [eq1]<;>refine OL.c Ct195 Tryz.func175 ?_<;>refine OL.nil ?_<;>refine TX.od ?_)<;>(with_reducible refine OD.dn ?_))|((with_reducible refine NextBy.at 6 ?_)<;>((with_reducible refine NextBy.a ?_);refine OL.inv (Ct36 mm p (op,xn,kids)) (cm_so mm) (fun _ _ _=>.raw rfl) ?_<;>refine OL.nil ?_<;>refine TX.od ?_)<;>(with_reducible refine OD.s1 1 ?_<;>refine OD.st2 2 7 ?_)<;>((with_reducible refine OD.a1 8 ?_);rw [eq1]<;>refine OL.c Ct195 Tryz.func175 ?_<;>refine OL.nil ?_<;>refine TX.od ?_)<;>(with_reducible refine OD.dn ?_))))))))|((with_reducible refine NextBy.at 5 ?_<;>refine NextBy.s ?_)<;>((with_reducible refine OD.n2 1 4 ?_ ?_)<;>(first|((with_reducible refine NextBy.at 1 ?_<;>refine NextBy.s ?_<;>refine OD.stT 2 ?_<;>refine OD.s1 4 ?_)<;>((with_reducible refine OD.a1 6 ?_);refine OL.inv (Ct36 mm p (op,xn,kids)) (cm_so mm) (fun _ _ _=>.raw rfl) ?_<;>refine OL.nil ?_<;>refine TX.od ?_)<;>(with_reducible refine OD.st 7 ?_)<;>((with_reducible refine OD.a1 8 ?_);rw [eq1]<;>refine OL.c Ct195 Tryz.func175 ?_<;>refine OL.nil ?_<;>refine TX.od ?_)<;>(with_reducible refine OD.dn ?_))|((with_reducible refine NextBy.at 4 ?_<;>refine NextBy.s ?_)<;>((with_reducible refine OD.n2 1 6 ?_ ?_)<;>(first|((with_reducible refine NextBy.at 1 ?_<;>refine NextBy.s ?_<;>refine OD.stT 2 ?_)<;>((with_reducible refine OD.a1 6 ?_);refine OL.inv (Ct36 mm p (op,xn,kids)) (cm_so mm) (fun _ _ _=>.raw rfl) ?_<;>refine OL.nil ?_<;>refine TX.od ?_)<;>(with_reducible refine OD.st 7 ?_)<;>((with_reducible refine OD.a1 8 ?_);rw [eq1]<;>refine OL.c Ct195 Tryz.func175 ?_<;>refine OL.nil ?_<;>refine TX.od ?_)<;>(with_reducible refine OD.dn ?_))|((with_reducible refine NextBy.at 6 ?_)<;>((with_reducible refine NextBy.a ?_);refine OL.inv (Ct36 mm p (op,xn,kids)) (cm_so mm) (fun _ _ _=>.raw rfl) ?_<;>refine OL.nil ?_<;>refine TX.od ?_)<;>(with_reducible refine OD.s1 1 ?_<;>refine OD.st2 2 7 ?_)<;>((with_reducible refine OD.a1 8 ?_);rw [eq1]<;>refine OL.c Ct195 Tryz.func175 ?_<;>refine OL.nil ?_<;>refine TX.od ?_)<;>(with_reducible refine OD.dn ?_))))))))))
      all_goals refine goyW ?_
      all_goals exact TX.rqx rfl [0,1]
     ·have eq0:decide ((kids.length:Int)=mm)=false:=decide_eq_false hq
      have hn0:=hnone (by rw [hm];intro h;exact hq (Option.some.inj h).symm)
      have hbb:=hbad (by rw [hnv];exact hn0)
      rw [hn0]
      (with_reducible refine TC.draw (id:=13) false 6 9 ?_<;>refine OD.stT 0 ?_<;>refine OD.st 3 ?_)<;>((with_reducible refine OD.n3 1 4 5 ?_ ?_ ?_)<;>(first|((with_reducible refine NextBy.at 1 ?_<;>refine NextBy.s ?_<;>refine OD.stT 2 ?_<;>refine OD.q2 4 5 ?_)<;>((with_reducible refine OD.a1 6 ?_);refine OL.inv (Ct36 mm p (op,xn,kids)) (cm_so mm) (fun _ _ _=>.raw rfl) ?_<;>refine OL.nil ?_<;>refine TX.od ?_)<;>(with_reducible refine OD.st 7 ?_)<;>((with_reducible refine OD.a1 8 ?_);rw [eq0]<;>refine OL.cX [] Ct194 Tryz.func175 ?_<;>refine TX.qdP ?_<;>refine TX.blkP ?_<;>refine TX.blkP ?_<;>exact TX.rqxP hbb [0,1] (ho:=by with_unfolding_all exact ⟨⟨_,rfl,OE.junk1⟩,⟨_,rfl,OE.dead⟩,trivial⟩))<;>(with_reducible refine OD.dn ?_))|((with_reducible refine NextBy.at 4 ?_<;>refine NextBy.s ?_)<;>((with_reducible refine OD.n2 1 5 ?_ ?_)<;>(first|((with_reducible refine NextBy.at 1 ?_<;>refine NextBy.s ?_<;>refine OD.stT 2 ?_<;>refine OD.s1 5 ?_)<;>((with_reducible refine OD.a1 6 ?_);refine OL.inv (Ct36 mm p (op,xn,kids)) (cm_so mm) (fun _ _ _=>.raw rfl) ?_<;>refine OL.nil ?_<;>refine TX.od ?_)<;>(with_reducible refine OD.st 7 ?_)<;>((with_reducible refine OD.a1 8 ?_);rw [eq0]<;>refine OL.cX [] Ct194 Tryz.func175 ?_<;>refine TX.qdP ?_<;>refine TX.blkP ?_<;>refine TX.blkP ?_<;>exact TX.rqxP hbb [0,1] (ho:=by with_unfolding_all exact ⟨⟨_,rfl,OE.junk1⟩,⟨_,rfl,OE.dead⟩,trivial⟩))<;>(with_reducible refine OD.dn ?_))|((with_reducible refine NextBy.at 5 ?_<;>refine NextBy.s ?_)<;>((with_reducible refine OD.n2 1 6 ?_ ?_)<;>(first|((with_reducible refine NextBy.at 1 ?_<;>refine NextBy.s ?_<;>refine OD.stT 2 ?_)<;>((with_reducible refine OD.a1 6 ?_);refine OL.inv (Ct36 mm p (op,xn,kids)) (cm_so mm) (fun _ _ _=>.raw rfl) ?_<;>refine OL.nil ?_<;>refine TX.od ?_)<;>(with_reducible refine OD.st 7 ?_)<;>((with_reducible refine OD.a1 8 ?_);rw [eq0]<;>refine OL.cX [] Ct194 Tryz.func175 ?_<;>refine TX.qdP ?_<;>refine TX.blkP ?_<;>refine TX.blkP ?_<;>exact TX.rqxP hbb [0,1] (ho:=by with_unfolding_all exact ⟨⟨_,rfl,OE.junk1⟩,⟨_,rfl,OE.dead⟩,trivial⟩))<;>(with_reducible refine OD.dn ?_))|((with_reducible refine NextBy.at 6 ?_)<;>((with_reducible refine NextBy.a ?_);refine OL.inv (Ct36 mm p (op,xn,kids)) (cm_so mm) (fun _ _ _=>.raw rfl) ?_<;>refine OL.nil ?_<;>refine TX.od ?_)<;>(with_reducible refine OD.s1 1 ?_<;>refine OD.st2 2 7 ?_)<;>((with_reducible refine OD.a1 8 ?_);rw [eq0]<;>refine OL.cX [] Ct194 Tryz.func175 ?_<;>refine TX.qdP ?_<;>refine TX.blkP ?_<;>refine TX.blkP ?_<;>exact TX.rqxP hbb [0,1] (ho:=by with_unfolding_all exact ⟨⟨_,rfl,OE.junk1⟩,⟨_,rfl,OE.dead⟩,trivial⟩))<;>(with_reducible refine OD.dn ?_))))))))|((with_reducible refine NextBy.at 5 ?_<;>refine NextBy.s ?_)<;>((with_reducible refine OD.n2 1 4 ?_ ?_)<;>(first|((with_reducible refine NextBy.at 1 ?_<;>refine NextBy.s ?_<;>refine OD.stT 2 ?_<;>refine OD.s1 4 ?_)<;>((with_reducible refine OD.a1 6 ?_);refine OL.inv (Ct36 mm p (op,xn,kids)) (cm_so mm) (fun _ _ _=>.raw rfl) ?_<;>refine OL.nil ?_<;>refine TX.od ?_)<;>(with_reducible refine OD.st 7 ?_)<;>((with_reducible refine OD.a1 8 ?_);rw [eq0]<;>refine OL.cX [] Ct194 Tryz.func175 ?_<;>refine TX.qdP ?_<;>refine TX.blkP ?_<;>refine TX.blkP ?_<;>exact TX.rqxP hbb [0,1] (ho:=by with_unfolding_all exact ⟨⟨_,rfl,OE.junk1⟩,⟨_,rfl,OE.dead⟩,trivial⟩))<;>(with_reducible refine OD.dn ?_))|((with_reducible refine NextBy.at 4 ?_<;>refine NextBy.s ?_)<;>((with_reducible refine OD.n2 1 6 ?_ ?_)<;>(first|((with_reducible refine NextBy.at 1 ?_<;>refine NextBy.s ?_<;>refine OD.stT 2 ?_)<;>((with_reducible refine OD.a1 6 ?_);refine OL.inv (Ct36 mm p (op,xn,kids)) (cm_so mm) (fun _ _ _=>.raw rfl) ?_<;>refine OL.nil ?_<;>refine TX.od ?_)<;>(with_reducible refine OD.st 7 ?_)<;>((with_reducible refine OD.a1 8 ?_);rw [eq0]<;>refine OL.cX [] Ct194 Tryz.func175 ?_<;>refine TX.qdP ?_<;>refine TX.blkP ?_<;>refine TX.blkP ?_<;>exact TX.rqxP hbb [0,1] (ho:=by with_unfolding_all exact ⟨⟨_,rfl,OE.junk1⟩,⟨_,rfl,OE.dead⟩,trivial⟩))<;>(with_reducible refine OD.dn ?_))|((with_reducible refine NextBy.at 6 ?_)<;>((with_reducible refine NextBy.a ?_);refine OL.inv (Ct36 mm p (op,xn,kids)) (cm_so mm) (fun _ _ _=>.raw rfl) ?_<;>refine OL.nil ?_<;>refine TX.od ?_)<;>(with_reducible refine OD.s1 1 ?_<;>refine OD.st2 2 7 ?_)<;>((with_reducible refine OD.a1 8 ?_);rw [eq0]<;>refine OL.cX [] Ct194 Tryz.func175 ?_<;>refine TX.qdP ?_<;>refine TX.blkP ?_<;>refine TX.blkP ?_<;>exact TX.rqxP hbb [0,1] (ho:=by with_unfolding_all exact ⟨⟨_,rfl,OE.junk1⟩,⟨_,rfl,OE.dead⟩,trivial⟩))<;>(with_reducible refine OD.dn ?_))))))))))
    ·dsimp only at h5 hk
     rw [hk]
     refine goyW ?_
     refine OL.ta ta_nil_so ?_
     refine goyW ?_
     refine OL.ta ta_nil_ar ?_
     refine goyW ?_
     refine OL.cX [] Ct194 Tryz.func175 ?_
     repeat' (first|refine TX.thenP ?_|refine TX.blkP ?_)
     exact TX.rqxP (hbad (by rw [hnv];exact hnone (by rw [hm];simp))) [0,1] (ho:=by with_unfolding_all exact ⟨⟨_,rfl,OE.junk1⟩,⟨_,rfl,OE.dead⟩,trivial⟩)
  ·simp only [h12,decide_false]
   refine OL.cX [] Ct194 Tryz.func175 ?_
   repeat' (first|refine TX.thenP ?_|refine TX.blkP ?_)
   exact TX.rqxP (hbad (by rw [stepB,if_neg];rintro ⟨a1,a2,a3,a4⟩;dsimp only at a1 a2 a3 a4;rw [List.getD_eq_getElem?_getD,List.getElem?_eq_getElem (by omega),Option.getD_some] at a3;omega)) [0,1] (ho:=by with_unfolding_all exact ⟨⟨_,rfl,OE.junk1⟩,⟨_,rfl,OE.dead⟩,trivial⟩)
 ·intro hg B' hB' D hM
  refine TX.blkN ?_
  exact TX.rtM0Y hg hM hB [0,1]
 ·intro hb B' hB' D hM
  refine TX.blkP ?_
  exact TX.rtMPY hb hM hB [0,1]
end Go.Proofs
