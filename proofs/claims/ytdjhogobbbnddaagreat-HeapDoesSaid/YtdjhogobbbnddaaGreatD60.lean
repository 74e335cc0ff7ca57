/- Lemmas for the claim; no conditions. -/
import Derived.Test.YtdjhogobbbnddaaGreatC23
import Derived.Test.YtdjhogobbbnddaaGreatC19
import Derived.Test.YtdjhogobbbnddaaGreatC18
import Derived.Test.YtdjhogobbbnddaaGreatD52
namespace Go.Proofs
open Go Go.W Go.V
theorem YyF (W:List Int) (hWl:W.length*8≤140737488355328):V.Spec Tryz.prog 98 [Yaw W] [] (.st [.hs 0]) [.gs false 3 1 none (W.map V.int)]:=by
 refine Se Tryz.func98 rfl rfl rfl fun B hB=>?_;repeat' (first|(with_reducible refine TC.seq ?_)|(with_reducible refine TC.region ?_))
 with_reducible refine OL.box ?_
 refine Zag 1 ?_;refine goW ?_;exact Zba [3] (.ren rfl)
def plR (l:List Cls) (W:List Int) (w s:Int):Int:=
 if Yax W w=0 then 0 else if Yb3 (fun x=>s==x) 0 (slotsOf l (wAt W (Yax W w)).toNat) < 0 then 0 else (Yax W w:Int)+1+Yb3 (fun x=>s==x) 0 (slotsOf l (wAt W (Yax W w)).toNat)
section
variable (p:Prg) (hs:Ya9 p.cls) (hcb:Yag p=true)
include hs hcb
set_option maxHeartbeats 4000000 in
theorem YyJ (W:List Int) (hW:∀ x∈W,YbC x) {st:List Nat} (hG:GH (shp p.cls) W st) (w s:Int) (hwi:YbC w) (hw:okW st w=true) :
  V.Spec Tryz.prog 100 [Ya0 p,Yaw W,V.int w,V.int s] [] (V.int (plR p.cls W w s)) []:=by
 obtain ⟨hsl,hpl,hf⟩:=YbO hcb;have h0:=Ymi w;have hWl6:=(Yah hG.eq).2.1;unfold plR;by_cases ho:w.tmod 2≠0
 ·have h2:w % 2≠0:=fun h=>ho (YcG.2 h)
  rw [decide_eq_true ho] at h0;rw [if_pos (Ycp (.inl h2))];refine Se Tryz.func100 rfl rfl rfl fun B hB=>?_;repeat' (first|(with_reducible refine TC.seq ?_)|(with_reducible refine TC.region ?_))
  with_reducible refine OL.box ?_
  with_reducible refine OL.box ?_
  refine Zag 4 ?_;refine Zag 5 ?_;refine goW ?_;refine OL.c h0 Tryz.func105 ?_;refine goW ?_;exact Zad [] (.ren rfl)
 ·rw [decide_eq_false ho] at h0;by_cases hz:w=0
  ·rw [if_pos (Ycp (.inr hz))];refine Se Tryz.func100 rfl rfl rfl fun B hB=>?_;repeat' (first|(with_reducible refine TC.seq ?_)|(with_reducible refine TC.region ?_))
   with_reducible refine OL.box ?_
   with_reducible refine OL.box ?_
   refine Zag 4 ?_;refine Zag 5 ?_;refine goW ?_;refine OL.c h0 Tryz.func105 ?_;refine goW ?_;exact Zad [] (.ren rfl)
  ·have h2:¬ w % 2≠0:=fun h=>ho fun h3=>h (YcG.1 h3)
   have hn:¬ (w % 2≠0∨w=0):=fun h=>h.elim h2 hz
   have hw1:=hwi.2;obtain ⟨hw0,hxm⟩:0 < w∧(w / 2).toNat∈st:=by
    rcases YlJ hw with h|⟨_,h3,h4⟩
    ·exact (hn h).elim
    ·exact ⟨h3,h4⟩
   have hob:=hG.obj hw hn;have hobe:Yax W w=real W (w / 2).toNat:=by rw [Yax,if_neg hn]
   have hrr:=Yrz W hW st hG _ hxm;rw [← hobe,show (((w / 2).toNat:Nat):Int)=w / 2 by omega] at hrr;rw [if_neg (show Yax W w≠0 by omega)];generalize Yax W w=x at *
   obtain ⟨hx1,hxl,hxd⟩:=hG.hd hob.1;obtain ⟨hxw0,n,hsh,hxn⟩:=Ybd.1 hxd;have hwx:wAt W x=W[x]:=by rw [wAt,List.getD_eq_getElem?_getD,List.getElem?_eq_getElem hxl];rfl
   have hmd:W[x] % 64=W[x]:=by rw [← hwx];exact hG.cls hob.1 hob.2.1
   rw [hwx] at hxw0 hsh ⊢;rw [hmd] at hsh;have hcls:=Ye4 W[x] hxw0;rw [hmd] at hcls;obtain ⟨c,hc,hc3,hccl,hn2⟩:=YcS hsh;have hho:=YeR p hs hf (by omega) hc3 (by omega);rw [Ya4 hcb,← hc] at hho;have hsl2:=Ya3 hpl c;rw [show (W[x]).toNat=c by rw [hc];rfl];generalize slotsOf p.cls c=L at *
   refine Se Tryz.func100 rfl rfl rfl fun B hB=>?_;repeat' (first|(with_reducible refine TC.seq ?_)|(with_reducible refine TC.region ?_))
   with_reducible refine OL.box ?_
   with_reducible refine OL.box ?_
   refine Zag 4 ?_;refine Zag 5 ?_;refine goW ?_;refine OL.c h0 Tryz.func105 ?_;refine goW ?_;refine OL.quo ?_;refine goW ?_;refine OL.c hrr Tryz.func30 ?_;refine goW ?_;(refine Zal (id:=4) true 9 9 ?_<;>refine Zaf 0 1 2 3 ?_<;>refine Zae 4 5 ?_<;>refine Zah 6 hcls Tryz.func84 ?_<;>refine Zah 7 hho Tryz.func88 ?_<;>refine OD.st 8 ?_<;>refine Zaa ?_)
   refine Zap ?_;refine goW ?_;refine Zat (fun k:Nat=>[(3,V.int s),(9,V.int (x:Int)),(10,ints L),(11,V.int k)]) (fun _=>[.dead,.dead]) (fun k=>k≤L.length∧Yb3 (fun y=>s==y) 0 L=Yb3 (fun y=>s==y) k (L.drop k)) (fun k=>L.length-k) 0 [0,1] ⟨Nat.zero_le _,rfl⟩ ?_;rintro k ⟨hk,hinv⟩;by_cases hkl:k < L.length
   ·rw [Yac hkl,Yb3] at hinv;by_cases he:L[k]=s
    ·rw [if_pos (by rw [he];simp)] at hinv;rw [hinv,if_neg (by omega)];refine goW ?_;refine Zad [] (.int ?_);omega
    ·rw [if_neg (by simp;exact fun h=>he h.symm)] at hinv;refine goW ?_;exact Zan (k+1) [0,1] ⟨by omega,hinv⟩ (by omega)
   ·rw [List.drop_eq_nil_of_le (by omega),Yb3] at hinv;rw [hinv,if_pos (by decide)];refine goW ?_;exact Zad [] (.ren rfl)
end
theorem YzL {l:List Cls} {W:List Int} {st:List Nat} (hG:GH (shp l) W st) {w s:Int} (hv:okW st w=true):0≤plR l W w s∧plR l W w s < W.length:=by
 unfold plR;by_cases h2:Yax W w=0
 ·rw [if_pos h2];have:=(Yah hG.eq).1;omega
 ·rw [if_neg h2];obtain ⟨k,hk,g1,g2,g3⟩:=YnA hG (hG.re_obj hv h2);have hfb:=Ydj (fun x=>s==x) (slotsOf l (wAt W (Yax W w)).toNat) 0;split
  ·omega
  ·omega
theorem YzM {l:List Cls} {slots:Int} {W:List Int} {st:List Nat} {w s:Int}:Yb5 l slots W st w s=if okW st w=true∧0≤s∧s < slots then (if plR l W w s=0 then (5,0) else (0,plR l W w s)) else (2,0):=by
 unfold Yb5 plR;have hb:=Ydj (fun x=>s==x) (slotsOf l (wAt W (Yax W w)).toNat) 0;by_cases h2:Yax W w=0
 ·simp only [h2,if_true]
 ·simp only [h2,if_false];split
  ·split
   ·rfl
   ·rw [if_neg (by omega)]
  ·rfl
section
variable (p:Prg) (hs:Ya9 p.cls) (hpk:∀ x∈p.nodes,x.2.2.length*8≤140737488355328) (W:List Int) (hW:∀ x∈W,YbC x) (hWl:W.length*8≤140737488355328)
include hs hpk hW hWl
omit hs hpk hW hWl in
theorem YyQ {w s:Int}:YtX p W w s=if Ybt p W&&okW (Yee p W) w&&(decide (0≤s)&&decide (s < p.slots)) then (if plR p.cls W w s=0 then (0,5) else (wAt W (plR p.cls W w s).toNat,0)) else (0,2):=by
 unfold YtX;rw [YzM]
 cases Ybt p W
 ·rfl
 ·generalize plR p.cls W w s=pl;by_cases h1:okW (Yee p W) w=true∧0≤s∧s < p.slots
  ·obtain ⟨a,b,c⟩:=h1;by_cases hz:pl=0<;>simp [a,b,c,hz]
  ·have h2:(okW (Yee p W) w&&(decide (0≤s)&&decide (s < p.slots)))=false:=by
    rw [Bool.eq_false_iff];intro h;simp only [Bool.and_eq_true,decide_eq_true_eq] at h;exact h1 h
   rw [if_neg h1,Bool.true_and,h2];rfl
set_option maxHeartbeats 4000000 in
theorem YAi (w s:Int) (hwi:YbC w):V.Spec Tryz.prog 37 [Ya0 p,Yaw W,V.int w,V.int s] [] (.tp [V.int (YtX p W w s).1,V.int (YtX p W w s).2]) []:=by
 have h1:=Ylk p hs hpk W hW hWl;rw [YyQ p W]
 cases hg:Ybt p W with
 | false =>
   rw [hg] at h1;simp only [Bool.false_and,Bool.false_eq_true,if_false];refine Se Tryz.func37 rfl rfl rfl fun B hB=>?_;repeat' (first|(with_reducible refine TC.seq ?_)|(with_reducible refine TC.region ?_))
   with_reducible refine OL.box ?_
   with_reducible refine OL.box ?_
   refine Zag 4 ?_;refine Zag 5 ?_;refine goW ?_;refine OL.c h1 Tryz.func26 ?_;refine goW ?_;exact ZaA [] (.ren rfl) (.ren rfl)
 | true =>
   rw [hg] at h1;obtain ⟨hp,_,st,hst,hG⟩:=Ybe hg;have hcb:=YaC hp;have hse:Yee p W=st:=by rw [Yee,hst];rfl
   have h2:=Yqe p hs hcb W hW hWl [w] (by intro y hy;simp at hy;subst hy;exact hwi) (by simp);rw [hse] at h2 ⊢;rw [List.all_cons,List.all_nil,Bool.and_true] at h2;rw [Bool.true_and]
   cases hv:okW st w with
   | false =>
     rw [hv] at h2;simp only [Bool.false_and,Bool.false_eq_true,if_false];refine Se Tryz.func37 rfl rfl rfl fun B hB=>?_;repeat' (first|(with_reducible refine TC.seq ?_)|(with_reducible refine TC.region ?_))
     with_reducible refine OL.box ?_
     with_reducible refine OL.box ?_
     refine Zag 4 ?_;refine Zag 5 ?_;refine goW ?_;refine OL.c h1 Tryz.func26 ?_;refine goW ?_;refine Zax 19 ?_;refine OL.c h2 Tryz.func27 ?_;refine goW ?_;exact ZaA [] (.ren rfl) (.ren rfl)
   | true =>
     rw [hv] at h2;rw [Bool.true_and];have h3:=YyJ p hs hcb W hW hG w s hwi hv;have hpb:=YzL hG (w:=w) (s:=s) hv;generalize plR p.cls W w s=pl at *
     by_cases hs0:0≤s;rotate_left
     ·rw [decide_eq_false hs0];simp only [Bool.false_and,Bool.false_eq_true,if_false];refine Se Tryz.func37 rfl rfl rfl fun B hB=>?_;repeat' (first|(with_reducible refine TC.seq ?_)|(with_reducible refine TC.region ?_))
      with_reducible refine OL.box ?_
      with_reducible refine OL.box ?_
      refine Zag 4 ?_;refine Zag 5 ?_;refine goW ?_;refine OL.c h1 Tryz.func26 ?_;refine goW ?_;refine Zax 19 ?_;refine OL.c h2 Tryz.func27 ?_;refine goW ?_;exact ZaA [] (.ren rfl) (.ren rfl)
     by_cases hs1:s < p.slots;rotate_left
     ·rw [decide_eq_true hs0,decide_eq_false hs1];simp only [Bool.and_false,Bool.false_eq_true,if_false];refine Se Tryz.func37 rfl rfl rfl fun B hB=>?_;repeat' (first|(with_reducible refine TC.seq ?_)|(with_reducible refine TC.region ?_))
      with_reducible refine OL.box ?_
      with_reducible refine OL.box ?_
      refine Zag 4 ?_;refine Zag 5 ?_;refine goW ?_;refine OL.c h1 Tryz.func26 ?_;refine goW ?_;refine Zax 19 ?_;refine OL.c h2 Tryz.func27 ?_;refine goW ?_;exact ZaA [] (.ren rfl) (.ren rfl)
     rw [decide_eq_true hs0,decide_eq_true hs1,Bool.and_self,if_pos rfl];by_cases hz:pl=0
     ·rw [if_pos hz];refine Se Tryz.func37 rfl rfl rfl fun B hB=>?_;repeat' (first|(with_reducible refine TC.seq ?_)|(with_reducible refine TC.region ?_))
      with_reducible refine OL.box ?_
      with_reducible refine OL.box ?_
      refine Zag 4 ?_;refine Zag 5 ?_;refine goW ?_;refine OL.c h1 Tryz.func26 ?_;refine goW ?_;refine Zax 19 ?_;refine OL.c h2 Tryz.func27 ?_;refine goW ?_;refine OL.c h3 Tryz.func100 ?_;refine goW ?_;exact ZaA [] (.ren rfl) (.ren rfl)
     ·rw [if_neg hz];have hwx:wAt W pl.toNat=W[pl.toNat]'(by omega):=by rw [wAt,List.getD_eq_getElem?_getD,List.getElem?_eq_getElem (by omega)];rfl
      rw [hwx];refine Se Tryz.func37 rfl rfl rfl fun B hB=>?_;repeat' (first|(with_reducible refine TC.seq ?_)|(with_reducible refine TC.region ?_))
      with_reducible refine OL.box ?_
      with_reducible refine OL.box ?_
      refine Zag 4 ?_;refine Zag 5 ?_;refine goW ?_;refine OL.c h1 Tryz.func26 ?_;refine goW ?_;refine Zax 19 ?_;refine OL.c h2 Tryz.func27 ?_;refine goW ?_;refine OL.c h3 Tryz.func100 ?_;refine goW ?_;exact ZaA [] (.ren rfl) (.ren rfl)
end
theorem YAn {p:Prg} {W:List Int} {w s v:Int}:Ytz p W w s v=if Ybt p W&&(okW (Yee p W) w&&okW (Yee p W) v)&&(decide (0≤s)&&decide (s < p.slots)) then (if plR p.cls W w s=0 then ([],5) else (W.set (plR p.cls W w s).toNat v,0)) else ([],2):=by
 unfold Ytz;rw [YzM]
 cases Ybt p W
 ·rfl
 ·generalize plR p.cls W w s=pl
  cases hv:okW (Yee p W) v
  ·simp
  by_cases h1:okW (Yee p W) w=true∧0≤s∧s < p.slots
  ·obtain ⟨a,b,c⟩:=h1;by_cases hz:pl=0<;>simp [a,b,c,hz]
  ·have h2:(okW (Yee p W) w&&(decide (0≤s)&&decide (s < p.slots)))=false:=by
    rw [Bool.eq_false_iff];intro h;simp only [Bool.and_eq_true,decide_eq_true_eq] at h;exact h1 h
   rw [if_neg h1,Bool.true_and,Bool.and_true,h2];rfl
section
variable (p:Prg) (hs:Ya9 p.cls) (hpk:∀ x∈p.nodes,x.2.2.length*8≤140737488355328) (W:List Int) (hW:∀ x∈W,YbC x) (hWl:W.length*8≤140737488355328)
include hs hpk hW hWl
set_option maxHeartbeats 4000000 in
theorem YAm (w s v:Int) (hwi:YbC w) (hvi:YbC v):V.Spec Tryz.prog 39 [Ya0 p,Yaw W,V.int w,V.int s,V.int v] [] (.tp [Yaw (Ytz p W w s v).1,V.int (Ytz p W w s v).2]) []:=by
 have h1:=Ylk p hs hpk W hW hWl;rw [YAn]
 cases hg:Ybt p W with
 | false =>
   rw [hg] at h1;simp only [Bool.false_and,Bool.false_eq_true,if_false];refine Se Tryz.func39 rfl rfl rfl fun B hB=>?_;repeat' (first|(with_reducible refine TC.seq ?_)|(with_reducible refine TC.region ?_))
   with_reducible refine OL.box ?_
   with_reducible refine OL.box ?_
   refine Zag 5 ?_;refine Zag 6 ?_;refine goW ?_;refine OL.c h1 Tryz.func26 ?_;refine goW ?_;refine ZaZ [] ?_ (.ren rfl);exact LE.st ⟨.nil (by decide),trivial⟩
 | true =>
   rw [hg] at h1;obtain ⟨hp,_,st,hst,hG⟩:=Ybe hg;have hcb:=YaC hp;have hse:Yee p W=st:=by rw [Yee,hst];rfl
   have h2:=Yqe p hs hcb W hW hWl [w,v] (by intro y hy;simp at hy;rcases hy with rfl|rfl;exact hwi;exact hvi) (by simp);rw [hse] at h2 ⊢;rw [List.all_cons,List.all_cons,List.all_nil,Bool.and_true] at h2;rw [Bool.true_and]
   cases hv:okW st w&&okW st v with
   | false =>
     rw [hv] at h2;simp only [Bool.false_and,Bool.false_eq_true,if_false];refine Se Tryz.func39 rfl rfl rfl fun B hB=>?_;repeat' (first|(with_reducible refine TC.seq ?_)|(with_reducible refine TC.region ?_))
     with_reducible refine OL.box ?_
     with_reducible refine OL.box ?_
     refine Zag 5 ?_;refine Zag 6 ?_;refine goW ?_;refine OL.c h1 Tryz.func26 ?_;refine goW ?_;refine Zax 23 ?_;refine OL.c h2 Tryz.func27 ?_;refine goW ?_;refine ZaZ [] ?_ (.ren rfl);exact LE.st ⟨.nil (by decide),trivial⟩
   | true =>
     rw [hv] at h2;rw [Bool.true_and];simp only [Bool.and_eq_true] at hv;have h3:=YyJ p hs hcb W hW hG w s hwi hv.1;have hpb:=YzL hG (w:=w) (s:=s) hv.1;have h4:=YyF W hWl;generalize plR p.cls W w s=pl at *
     by_cases hs0:0≤s;rotate_left
     ·rw [decide_eq_false hs0];simp only [Bool.false_and,Bool.false_eq_true,if_false];refine Se Tryz.func39 rfl rfl rfl fun B hB=>?_;repeat' (first|(with_reducible refine TC.seq ?_)|(with_reducible refine TC.region ?_))
      with_reducible refine OL.box ?_
      with_reducible refine OL.box ?_
      refine Zag 5 ?_;refine Zag 6 ?_;refine goW ?_;refine OL.c h1 Tryz.func26 ?_;refine goW ?_;refine Zax 23 ?_;refine OL.c h2 Tryz.func27 ?_;refine goW ?_;refine ZaZ [] ?_ (.ren rfl);exact LE.st ⟨.nil (by decide),trivial⟩
     by_cases hs1:s < p.slots;rotate_left
     ·rw [decide_eq_true hs0,decide_eq_false hs1];simp only [Bool.and_false,Bool.false_eq_true,if_false];refine Se Tryz.func39 rfl rfl rfl fun B hB=>?_;repeat' (first|(with_reducible refine TC.seq ?_)|(with_reducible refine TC.region ?_))
      with_reducible refine OL.box ?_
      with_reducible refine OL.box ?_
      refine Zag 5 ?_;refine Zag 6 ?_;refine goW ?_;refine OL.c h1 Tryz.func26 ?_;refine goW ?_;refine Zax 23 ?_;refine OL.c h2 Tryz.func27 ?_;refine goW ?_;refine ZaZ [] ?_ (.ren rfl);exact LE.st ⟨.nil (by decide),trivial⟩
     rw [decide_eq_true hs0,decide_eq_true hs1,Bool.and_self,if_pos rfl];by_cases hz:pl=0
     ·rw [if_pos hz];refine Se Tryz.func39 rfl rfl rfl fun B hB=>?_;repeat' (first|(with_reducible refine TC.seq ?_)|(with_reducible refine TC.region ?_))
      with_reducible refine OL.box ?_
      with_reducible refine OL.box ?_
      refine Zag 5 ?_;refine Zag 6 ?_;refine goW ?_;refine OL.c h1 Tryz.func26 ?_;refine goW ?_;refine Zax 23 ?_;refine OL.c h2 Tryz.func27 ?_;refine goW ?_;refine OL.c h3 Tryz.func100 ?_;refine goW ?_;refine ZaZ [] ?_ (.ren rfl);exact LE.st ⟨.nil (by decide),trivial⟩
     ·rw [if_neg hz];obtain ⟨k,rfl⟩:∃ k:Nat,pl=k:=⟨pl.toNat,by omega⟩;rw [Int.toNat_natCast];refine Se Tryz.func39 rfl rfl rfl fun B hB=>?_;repeat' (first|(with_reducible refine TC.seq ?_)|(with_reducible refine TC.region ?_))
      with_reducible refine OL.box ?_
      with_reducible refine OL.box ?_
      refine Zag 5 ?_;refine Zag 6 ?_;refine goW ?_;refine OL.c h1 Tryz.func26 ?_;refine goW ?_;refine Zax 23 ?_;refine OL.c h2 Tryz.func27 ?_;refine goW ?_;refine OL.c h3 Tryz.func100 ?_;refine goW ?_;refine OL.c h4 Tryz.func98 ?_;refine goW ?_;refine ZaF (l:=W) (k:=k) (by omega) ?_;refine Zbu 5 0 ?_;refine goW ?_;exact ZaZ [] (.ren rfl) (.ren rfl)
end
section
variable (p:Prg) (hs:Ya9 p.cls) (hcb:Yag p=true)
include hs hcb
set_option maxHeartbeats 4000000 in
theorem Yzz {c:Nat} (h3:3≤c) (hc:c < 3+p.cls.length):V.Spec Tryz.prog 137 [Ya0 p,V.int c] [] (Yde (Yqm p.cls c)) []:=by
 obtain ⟨hsl,hpl,hf⟩:=YbO hcb;have hgl:(graphOf p.cls).length=p.cls.length:=by simp [graphOf]
 have hg:=Yfa p hs;have hlo:=YjI (graphOf p.cls) c hf (by omega) (by omega);have hmem:=((Yb2 hf).1.at c).2;have hho:=YeR p hs hf (by omega) h3 hc;rw [Ya4 hcb] at hho;have how:=fun x=>YgS p (by omega) x
 have hss:=Ya3 hpl c;have hord:=fun k (hk:k < p.cls.length)=>(Ygs hcb hk).2
 rw [Yqm];generalize graphOf p.cls=g at *
 generalize at_ (orders g) c=o at *
 generalize slotsOf p.cls c=ss at *
 have hbl:=YqJ p.cls o;refine Se Tryz.func137 rfl rfl rfl fun B hB=>?_;repeat' (first|(with_reducible refine TC.seq ?_)|(with_reducible refine TC.region ?_))
 with_reducible refine OL.box ?_
 refine Zag 2 ?_;refine goW ?_;refine OL.c hg Tryz.func129 ?_;refine goW ?_;refine OL.c hlo Tryz.func152 ?_;refine goW ?_;refine OL.c hho Tryz.func88 ?_;refine goW ?_;refine ZaS 5 fun hol=>?_;refine ZaT 8 151 2 ?_;refine Zat (fun i:Nat=>[(2,.ep (YbB p) 0),(5,ints o),(7,ints ss),(8,.hs 1),(9,V.int i)]) (fun i=>[.dead,.gs false 151 2 none ((begO p.cls o (ss.take i)).map fun x=>.st [V.int x.1,V.int x.2])]) (fun i=>i≤ss.length) (fun i=>ss.length-i) 0 [0,1] (Nat.zero_le _) ?_;rintro i hi;by_cases hil:i < ss.length;rotate_left
 ·rw [Yaf (by omega)];refine goW ?_;refine Za4 4 ?_;exact Zad [] (.ren rfl)
 ·have hs2:=Yo6 p.cls o (ss.take i) ss[i];rw [← Yab hil] at hs2;have hb1:=hbl (ss.take i);rw [List.length_take] at hb1;generalize hb2:begO p.cls o (ss.take (i+1))=b2 at *
  generalize begO p.cls o (ss.take i)=b1 at *
  generalize hsle:ss[i]=sl at *
  refine goW ?_;refine Zat (S:=Nat × Bool) (fun q=>[(2,.ep (YbB p) 0),(5,ints o),(7,ints ss),(8,.hs 1),(9,V.int i),(10,V.bool q.2),(11,V.int q.1)]) (fun q=>[.dead,.gs false 151 2 none ((if q.2 then b2 else b1).map fun x=>.st [V.int x.1,V.int x.2])]) (fun q=>q.1≤o.length∧(q.2=false→YbI p.cls o sl=YbI p.cls (o.drop q.1) sl)) (fun q=>o.length-q.1) (0,false) [0,1] ⟨Nat.zero_le _,fun _=>rfl⟩ ?_;rintro ⟨k,fd⟩ ⟨hk,hinv⟩;dsimp only at hk hinv ⊢;by_cases hkl:k < o.length
  ·cases fd
   ·have hb:=hmem o[k] (List.getElem_mem _);have hinv:=hinv rfl;rw [Yac hkl,YeL] at hinv;have how:=how o[k];by_cases h33:o[k] < 3
    ·rw [Yg2,if_pos h33] at hinv;rw [show clsN p o[k]=false by simp [clsN];omega] at how;simp only [Bool.false_eq_true,if_false];refine goW ?_;(refine Zal (id:=11) true 7 7 ?_<;>refine Zaf 0 1 2 3 ?_<;>refine OD.st 4 ?_<;>refine Zah 5 how Tryz.func97 ?_<;>refine OD.st 6 ?_<;>refine Zaa ?_)
     refine goW ?_;exact Zan (k+1,false) [0,1] ⟨by dsimp only;omega,fun _=>hinv⟩ (by dsimp only;omega)
    ·have hci:clsAt p.cls (o[k]-3).toNat=p.cls[(o[k]-3).toNat]'(by omega):=by rw [clsAt,Yai]
     rw [Yg2,if_neg h33,hci] at hinv;have hnd:=hord (o[k]-3).toNat (by omega);rw [show clsN p o[k]=true by simp [clsN];omega] at how;simp only [Bool.false_eq_true,if_false];refine goW ?_;(refine Zal (id:=11) true 7 7 ?_<;>refine Zaf 0 1 2 3 ?_<;>refine OD.st 4 ?_<;>refine Zah 5 how Tryz.func97 ?_<;>refine OD.st 6 ?_<;>refine Zaa ?_)
     refine goW ?_;(refine Zal (id:=12) true 11 11 ?_<;>refine Zaf 0 1 2 3 ?_<;>refine Zaf 4 5 6 7 ?_<;>refine Zae 8 9 ?_<;>refine OD.st 10 ?_<;>refine Zaa ?_)
     refine goW ?_;refine ZaS 12 fun hisl=>?_;generalize (p.cls[(o[k]-3).toNat]'(by omega)).2.2=is at *
     refine Zat (S:=Nat × Bool) (fun q=>[(2,.ep (YbB p) 0),(5,ints o),(7,ints ss),(8,.hs 1),(9,V.int i),(10,V.bool q.2),(11,V.int k),(12,Yde is),(13,V.int q.1)]) (fun q=>[.dead,.gs false 151 2 none ((if q.2 then b2 else b1).map fun x=>.st [V.int x.1,V.int x.2])])
      (fun q=>q.1≤is.length∧(q.2=false→(is.drop q.1).find? (fun x=>x.1==sl)=is.find? fun x=>x.1==sl)∧(q.2=true→∀ x∈is.drop q.1,x.1≠sl)) (fun q=>is.length-q.1) (0,false) [0,1] ⟨Nat.zero_le _,fun _=>rfl,nofun⟩ ?_
     rintro ⟨j,fj⟩ ⟨hj,hv1,hv2⟩;dsimp only at hj hv1 hv2 ⊢;by_cases hjl:j < is.length
     ·have hnj:(is[j].1::(is.drop (j+1)).map (·.1)).Nodup:=by
       have:=(List.drop_sublist j is).map (·.1)
       rw [Yac hjl,List.map_cons] at this;exact this.nodup hnd
      rw [Yac hjl] at hv1 hv2;by_cases he:is[j].1=sl
      ·have hfj:fj=false:=by
        cases fj with
        | false=>rfl
        | true=>exact (hv2 rfl _ List.mem_cons_self he).elim
       subst hfj;have hf1:=hv1 rfl;rw [List.find?_cons,show (is[j].1==sl)=true by simpa using he] at hf1;rw [← hf1] at hinv;have e1:b2=b1++[(sl,is[j].2)]:=by
        rw [hs2,show YbI p.cls o sl=some is[j].2 from hinv]
       have e2:(b1.map fun x=>AV.st [V.int x.1,V.int x.2])++[.st (List.drop 0 (YhF is[j]).cells)]=b2.map fun x=>.st [V.int x.1,V.int x.2]:=by
        rw [e1,List.map_append,← he];rfl
       have hno:∀ x∈is.drop (j+1),x.1≠sl:=fun x hx hxs=>(List.nodup_cons.1 hnj).1 (by rw [he,← hxs];exact List.mem_map_of_mem hx)
       simp only [Bool.false_eq_true,if_false];repeat' (first|(with_reducible first|refine OL.st ?_|refine OL.lit ?_|refine ZaH ?_|refine TC.region ?_|refine TC.seq ?_|refine OL.nil ?_|refine Zap ?_|refine TC.block ?_|refine TC.skip ?_|refine ZaM ?_|refine Zay ?_ ?_<;>(intro hc;try (exfalso;omega)))|((with_reducible refine Zal (id:=16) true 10 10 ?_<;>refine Zaf 0 1 2 3 ?_<;>refine Zaf 4 5 6 7 ?_<;>refine Zae 8 9 ?_<;>refine Zaa ?_))|fail)
       rw [e2];exact Zan (j+1,true) [0,3] ⟨by dsimp only;omega,nofun,fun _=>hno⟩ (by dsimp only;omega)
      ·cases fj
       ·have hf1:=hv1 rfl;rw [List.find?_cons,show (is[j].1==sl)=false by simpa using he] at hf1;simp only [Bool.false_eq_true,if_false];repeat' (first|(with_reducible first|refine OL.st ?_|refine TC.region ?_|refine TC.seq ?_|refine OL.nil ?_|refine Zap ?_|refine TC.block ?_|refine TC.skip ?_|refine ZaM ?_|refine Zay ?_ ?_<;>(intro hc;try (exfalso;omega)))|((with_reducible refine Zal (id:=16) true 10 10 ?_<;>refine Zaf 0 1 2 3 ?_<;>refine Zaf 4 5 6 7 ?_<;>refine Zae 8 9 ?_<;>refine Zaa ?_))|fail)
        exact Zan (j+1,false) [0,1] ⟨by dsimp only;omega,fun _=>hf1,nofun⟩ (by dsimp only;omega)
       ·simp only [if_true];repeat' (first|(with_reducible first|refine OL.st ?_|refine TC.region ?_|refine TC.seq ?_|refine OL.nil ?_|refine Zap ?_|refine TC.block ?_|refine TC.skip ?_|refine ZaM ?_|refine Zay ?_ ?_<;>(intro hc;try (exfalso;omega)))|((with_reducible refine Zal (id:=16) true 10 10 ?_<;>refine Zaf 0 1 2 3 ?_<;>refine Zaf 4 5 6 7 ?_<;>refine Zae 8 9 ?_<;>refine Zaa ?_))|fail)
        exact Zan (j+1,true) [0,1] ⟨by dsimp only;omega,nofun,fun _ x hx=>hv2 rfl x (List.mem_cons_of_mem _ hx)⟩ (by dsimp only;omega)
     ·rw [Yat (by omega)] at hv1;have hnx:fj=false→YbI p.cls o sl=YbI p.cls (o.drop (k+1)) sl:=fun h=>by
       rw [← hv1 h] at hinv;exact hinv
      refine goW ?_;exact Zan (k+1,fj) [0,1] ⟨by dsimp only;omega,hnx⟩ (by dsimp only;omega)
   ·simp only [if_true];refine goW ?_;rw [← hb2];exact Zan (i+1) [0,1] (by omega) (by omega)
  ·have e:(if fd then b2 else b1)=b2:=by
    cases fd with
    | true=>rfl
    | false =>
      have h:=hinv rfl;rw [Yat (by omega)] at h;rw [h] at hs2;exact hs2 ▸ by simp [YbI]
   rw [e]
   cases fd
   all_goals
    refine goW ?_;rw [← hb2];exact Zan (i+1) [0,1] (by omega) (by omega)
end
theorem YAZ {l:List Cls} {o ss:List Int} {x:Int × Int} (h:x∈begO l o ss):YbI l o x.1=some x.2:=by
 obtain ⟨s,hs,e⟩:=List.mem_filterMap.1 h
 cases hb:YbI l o s with
 | none=>rw [hb] at e;cases e
 | some n=>rw [hb] at e;cases e;exact hb
theorem YA0 {l:List Cls} {o ss:List Int} {s:Int} (h:s∈ss):(if (begO l o ss).any (fun x=>x.1==s) then YxU (YbI l o s) else (2,0))=YxU (YbI l o s):=by
 cases hb:YbI l o s with
 | none=>split<;>rfl
 | some n =>
   have:(begO l o ss).any (fun x=>x.1==s)=true:=List.any_eq_true.2 ⟨(s,n),List.mem_filterMap.2 ⟨s,h,by rw [hb];rfl⟩,by simp⟩
   rw [if_pos this]
section
variable (p:Prg) (hs:Ya9 p.cls) (hcb:Yag p=true)
include hs hcb
set_option maxHeartbeats 4000000 in
theorem YzZ {c:Nat} (h3:3≤c) (hc:c < 3+p.cls.length):V.Spec Tryz.prog 107 [Ya0 p,V.int c] [] (obA ((c:Int),(slotsOf p.cls c).map (Yao p.cls c))) []:=by
 obtain ⟨hsl,hpl,hf⟩:=YbO hcb;have hho:=YeR p hs hf (by omega) h3 hc;rw [Ya4 hcb] at hho;have hbo:=Yzz p hs hcb h3 hc;have hss:=Ya3 hpl c;have hbl:(Yqm p.cls c).length≤(slotsOf p.cls c).length:=YqJ p.cls (at_ (orders (graphOf p.cls)) c) (slotsOf p.cls c);have hbm:∀ x∈Yqm p.cls c,Yao p.cls c x.1=(1,x.2):=fun x hx=>by rw [Yao,YAZ hx];rfl
 have hba:∀ s∈slotsOf p.cls c,(if (Yqm p.cls c).any (fun x=>x.1==s) then Yao p.cls c s else (2,0))=Yao p.cls c s:=fun s hs=>YA0 hs
 generalize Yqm p.cls c=be at *
 generalize Yao p.cls c=bv at *
 generalize slotsOf p.cls c=ss at *
 refine Se Tryz.func107 rfl rfl rfl fun B hB=>?_;repeat' (first|(with_reducible refine TC.seq ?_)|(with_reducible refine TC.region ?_))
 with_reducible refine OL.box ?_
 refine Zag 2 ?_;refine goW ?_;refine OL.c hho Tryz.func88 ?_;refine goW ?_;refine OL.c hbo Tryz.func137 ?_;refine goW ?_;refine ZbO 2 1 63 2 ?_;refine Zat (fun i:Nat=>[(4,.bp 1 0),(5,ints ss),(6,Yde be),(7,.bp 2 0),(8,V.int i)]) (fun i=>[.dead,.cb 89 [V.int 0,nilA],.cb 89 [V.int c,.hs 3],.gs false 63 2 none (((ss.take i).map bv).map Ycb)]) (fun i=>i≤ss.length) (fun i=>ss.length-i) 0 [0,1,2,3] (Nat.zero_le _) ?_;rintro i hi;by_cases hil:i < ss.length;rotate_left
 ·rw [Yaf (by omega)];refine Zbp 2 1 ?_;refine goW ?_;exact Zba [] (.ren rfl)
 ·have hba:=hba ss[i] (List.getElem_mem _);have hl1:((ss.take i).map bv).length≤1000:=by rw [List.length_map,List.length_take];omega
  have e1:((ss.take i).map bv).map Ycb++[Ycb (bv ss[i])]=((ss.take (i+1)).map bv).map Ycb:=by rw [Yab hil,List.map_append,List.map_append];rfl
  generalize hg2:(ss.take (i+1)).map bv=g2 at *
  generalize (ss.take i).map bv=g1 at *
  generalize hsle:ss[i]=sl at *
  refine goW ?_;refine OL.c YrD Tryz.func121 ?_;refine goW ?_;refine Zat (fun k:Nat=>[(4,.bp 1 0),(5,ints ss),(6,Yde be),(7,.bp 2 0),(8,V.int i),(9,.bp 4 0),(10,V.int k)]) (fun k=>[.dead,.cb 89 [V.int 0,nilA],.cb 89 [V.int c,.hs 3],.gs false 63 2 none (g1.map Ycb),.cb 63 [V.int (if (be.take k).any (fun x=>x.1==sl) then bv sl else (2,0)).1,V.int (if (be.take k).any (fun x=>x.1==sl) then bv sl else (2,0)).2]]) (fun k=>k≤be.length) (fun k=>be.length-k) 0 [0,1,2,3,4] (Nat.zero_le _) ?_;rintro k hk;by_cases hkl:k < be.length
  ·have hm:=hbm be[k] (List.getElem_mem _);have hi1:=YcL be[k].2;have hst:(be.take (k+1)).any (fun x=>x.1==sl)=((be.take k).any (fun x=>x.1==sl) || (be[k].1==sl)):=by rw [Yab hkl,List.any_append];simp
   by_cases he:be[k].1=sl
   ·rw [he] at hm;rw [show (be[k].1==sl)=true by simpa using he,Bool.or_true] at hst;generalize (if (be.take k).any (fun x=>x.1==sl) then bv sl else (2,0))=v at *
    repeat' (first|(with_reducible first|refine OL.st ?_|refine TC.region ?_|refine TC.seq ?_|refine OL.nil ?_|refine Zap ?_|refine TC.block ?_|refine TC.skip ?_|refine Zay ?_ ?_<;>(intro hc;try (exfalso;omega)))|((with_reducible refine Zal (id:=11) true 10 10 ?_<;>refine Zaf 0 1 2 3 ?_<;>refine Zaf 4 5 6 7 ?_<;>refine Zae 8 9 ?_<;>refine Zaa ?_))|fail)
    refine OL.c hi1 Tryz.func62 ?_;refine goW ?_;have hv':(if (be.take (k+1)).any (fun x=>x.1==sl) then bv sl else (2,0))=(1,be[k].2):=by rw [hst,if_pos rfl,hm]
    exact Zan (k+1) [0,1,2,3,4] (by omega) (by omega) (ho:=⟨⟨_,rfl,OE.ren rfl⟩,⟨_,rfl,OE.ren rfl⟩,⟨_,rfl,OE.ren rfl⟩,⟨_,rfl,OE.ren rfl⟩,⟨_,rfl,OE.ren (by rw [hv'];rfl)⟩,trivial⟩)
   ·rw [show (be[k].1==sl)=false by simpa using he,Bool.or_false] at hst;rw [← hst];repeat' (first|(with_reducible first|refine OL.st ?_|refine TC.region ?_|refine TC.seq ?_|refine OL.nil ?_|refine Zap ?_|refine TC.block ?_|refine TC.skip ?_|refine ZaM ?_|refine Zay ?_ ?_<;>(intro hc;try (exfalso;omega)))|((with_reducible refine Zal (id:=11) true 10 10 ?_<;>refine Zaf 0 1 2 3 ?_<;>refine Zaf 4 5 6 7 ?_<;>refine Zae 8 9 ?_<;>refine Zaa ?_))|fail)
    exact Zan (k+1) [0,1,2,3,4] (by omega) (by omega)
  ·rw [Yaf (by omega),hba];refine goW ?_;exact Zan (i+1) [0,1,2,6] (by omega) (by omega) (ho:=⟨⟨_,rfl,OE.ren rfl⟩,⟨_,rfl,OE.ren rfl⟩,⟨_,rfl,OE.ren rfl⟩,⟨_,rfl,OE.ren (by rw [hg2,← e1];rfl)⟩,trivial⟩)
end
section
variable (p:Prg) (hs:Ya9 p.cls) (hpk:∀ x∈p.nodes,x.2.2.length*8≤140737488355328)
include hs hpk
set_option maxHeartbeats 4000000 in
theorem YyR (hp:Ybk p=true) {c:Nat} (h3:3≤c) (hc:c < 3+p.cls.length):V.Spec Tryz.prog 99 [Ya0 p,V.int c] [] (.hs 0) [.gs false 3 1 none (((c:Int)::YcC p.cls c).map V.int)]:=by
 have _:=hpk;have hcb:=YaC hp;obtain ⟨hsl,hpl,hf⟩:=YbO hcb;have h1:=YzZ p hs hcb h3 hc;have hl:=Ya3 hpl c;have hwd:∀ s,V.Spec Tryz.prog 117 [Ycb (Yao p.cls c s),ints []] [] (V.int (YaS [] (Yao p.cls c s))) []:=fun s=>Yko [] _ (Yhf hp c s) fun h=>by
  exfalso;unfold Yao at h
  cases hb:YbI p.cls (at_ (orders (graphOf p.cls)) c) s with
  | none=>rw [hb] at h;cases h
  | some n=>rw [hb] at h;cases h
 have hfw:YcC p.cls c=(slotsOf p.cls c).map fun s=>YaS [] (Yao p.cls c s):=rfl
 rw [hfw];generalize Yao p.cls c=bv at *
 generalize slotsOf p.cls c=ss at *
 have hvl:(ss.map bv).length=ss.length:=List.length_map ..;have hvk:∀ k (h:k < (ss.map bv).length) (h':k < ss.length),(ss.map bv)[k]=bv ss[k]:=fun k h h'=>by simp
 generalize ss.map bv=vs at *
 refine Se Tryz.func99 rfl rfl rfl fun B hB=>?_;repeat' (first|(with_reducible refine TC.seq ?_)|(with_reducible refine TC.region ?_))
 with_reducible refine OL.box ?_
 refine Zag 2 ?_;refine goW ?_;refine OL.c h1 Tryz.func107 ?_;refine goW ?_;refine Zat (fun k:Nat=>[(5,.bp 1 0),(6,.hs 2),(7,V.int k)]) (fun k=>[.dead,.cb 89 [V.int c,Ych vs],.gs false 3 1 none (((c:Int)::(ss.take k).map fun s=>YaS [] (bv s)).map V.int)]) (fun k=>k≤ss.length) (fun k=>ss.length-k) 0 [0,1,2] (Nat.zero_le _) ?_;rintro k hk;by_cases hkl:k < ss.length
 ·have hwk:=hwd ss[k];rw [← hvk k (by omega) hkl] at hwk;have e:((c:Int)::(ss.take k).map fun s=>YaS [] (bv s)).map V.int++[V.int (YaS [] (vs[k]'(by omega)))]=((c:Int)::(ss.take (k+1)).map fun s=>YaS [] (bv s)).map V.int:=by rw [Yab hkl,List.map_append,← List.cons_append,List.map_append,hvk k (by omega) hkl];rfl
  have hgl:((c:Int)::(ss.take k).map fun s=>YaS [] (bv s)).length≤1000:=by rw [List.length_cons,List.length_map,List.length_take];omega
  generalize hg2:((c:Int)::(ss.take (k+1)).map fun s=>YaS [] (bv s))=g2 at *
  generalize ((c:Int)::(ss.take k).map fun s=>YaS [] (bv s))=g1 at *
  refine goW ?_;refine OL.c hwk Tryz.func117 ?_;refine goW ?_;rw [e,← hg2];exact Zan (k+1) [0,1,4] (by omega) (by omega)
 ·rw [Yaf (by omega)];refine goW ?_;exact Zad [2] (.ren rfl)
end
end Go.Proofs
