/- Lemmas for the claim; no conditions. -/
import Derived.Test.YtdjhogobbbnddaaGreatC23
import Derived.Test.YtdjhogobbbnddaaGreatC19
import Derived.Test.YtdjhogobbbnddaaGreatC18
import Derived.Test.YtdjhogobbbnddaaGreatD60
import Derived.Test.YtdjhogobbbnddaaGreatD52
import Derived.Test.YtdjhogobbbnddaaGreatD37
namespace Go.Proofs
open Go Go.W Go.V
section
variable (p:Prg) (hs:Ya9 p.cls) (hpk:∀ x∈p.nodes,x.2.2.length*8≤140737488355328) (W:List Int) (hW:∀ x∈W,YbC x) (hWl:W.length*8≤140737488355328)
include hs hpk hW hWl
set_option maxHeartbeats 4000000 in
theorem YAe (c:Int):V.Spec Tryz.prog 36 [Ya0 p,Yaw W,V.int c] [] (.tp [Yaw (YrW p W c).1,V.int (YrW p W c).2.1,V.int (YrW p W c).2.2]) []:=by
 have h1:=Ylk p hs hpk W hW hWl;unfold YrW
 cases hg:Ybt p W with
 | false =>
   rw [hg] at h1;simp only [Bool.false_eq_true,if_false];refine Se Tryz.func36 rfl rfl rfl fun B hB=>?_;repeat' (first|(with_reducible refine TC.seq ?_)|(with_reducible refine TC.region ?_))
   with_reducible refine OL.box ?_
   with_reducible refine OL.box ?_
   refine Zag 3 ?_;refine Zag 4 ?_;refine goW ?_;refine OL.c h1 Tryz.func26 ?_;refine goW ?_;refine Za7 [] ?_ (.ren rfl) (.ren rfl);exact LE.st ⟨.nil (by decide),trivial⟩
 | true =>
   rw [hg] at h1;obtain ⟨hp,_,st,hst,hG⟩:=Ybe hg;have hcb:=YaC hp;obtain ⟨hsl,hpl,hf⟩:=YbO hcb;have h6:=(Yah hG.eq).2.1;have h2:=YgS p (by omega) c;rw [if_pos rfl]
   cases ho:(shp p.cls c).isSome with
   | false =>
     have hcn:clsN p c=false:=by rw [Yq8,ho]
     rw [hcn] at h2;simp only [Bool.false_eq_true,if_false];refine Se Tryz.func36 rfl rfl rfl fun B hB=>?_;repeat' (first|(with_reducible refine TC.seq ?_)|(with_reducible refine TC.region ?_))
     with_reducible refine OL.box ?_
     with_reducible refine OL.box ?_
     refine Zag 3 ?_;refine Zag 4 ?_;refine goW ?_;refine OL.c h1 Tryz.func26 ?_;refine goW ?_;refine OL.c h2 Tryz.func97 ?_;refine goW ?_;refine Za7 [] ?_ (.ren rfl) (.ren rfl);exact LE.st ⟨.nil (by decide),trivial⟩
   | true =>
     have hcn:clsN p c=true:=by rw [Yq8,ho]
     rw [hcn] at h2;rw [if_pos rfl];obtain ⟨n,hsh⟩:=Option.isSome_iff_exists.1 ho;obtain ⟨k,hk,hk3,hkl,hn⟩:=YcS hsh;subst hk;rw [show ((k:Nat):Int).toNat=k from rfl];have h3:=YdI p hs hf (by omega) hk3 (by omega);rw [Ya4 hcb,← hn] at h3;have h4:=YyF W hWl;have h5:=YyR p hs hpk hp hk3 hkl;have hfl:(YcC p.cls k).length=n:=by rw [YcC,List.length_map,hn]
     have hn6:=Ya3 hpl k;generalize YcC p.cls k=fr at *
     have hll:(W++(k:Int)::fr).length=W.length+(1+n):=by rw [List.length_append,List.length_cons,hfl];omega
     by_cases hl:(W++(k:Int)::fr).length≤600
     ·rw [if_pos hl];refine Se Tryz.func36 rfl rfl rfl fun B hB=>?_;repeat' (first|(with_reducible refine TC.seq ?_)|(with_reducible refine TC.region ?_))
      with_reducible refine OL.box ?_
      with_reducible refine OL.box ?_
      refine Zag 3 ?_;refine Zag 4 ?_;refine goW ?_;refine OL.c h1 Tryz.func26 ?_;refine goW ?_;refine OL.c h2 Tryz.func97 ?_;refine goW ?_;(refine Zal (id:=3) true 8 8 ?_<;>refine Zaf 0 1 2 3 ?_<;>refine OD.st 4 ?_<;>refine Zah 5 h3 Tryz.func28 ?_<;>refine Zae 6 7 ?_<;>refine Zaa ?_)
      refine goW ?_;refine OL.c h4 Tryz.func98 ?_;refine goW ?_;have e1:W.map V.int++((k:Int)::fr).map V.int=(W++(k:Int)::fr).map V.int:=by rw [List.map_append]
      refine ZaO [(4,.ep [ints W] 0),(6,.bp 2 0),(9,.bp 4 0)] [.dead,.dead,.cb 30 [.raw (.slice none 0 0)],.dead,.cb 30 [.hs 5],.gs false 3 1 none (W.map V.int++((k:Int)::fr).map V.int)] ?_ ?_
      ·(refine Zal (id:=6) false 4 8 ?_<;>refine Zao 0 ?_<;>refine OD.st 3 ?_<;>refine OD.n2 1 2 ?_ ?_<;>(first|refine Yaa.at 1 ?_<;>refine Yaa.s ?_ (h:=gv)<;>refine Zai 2 ?_<;>(refine Zac 4 ?_;refine OL.c h5 Tryz.func99 ?_;refine OL.nil ?_;refine Zab ?_)<;>(refine Zac 5 ?_;refine ZaH ?_;refine OL.nil ?_;refine Zab ?_)<;>refine OD.st 6 ?_<;>(refine Zac 7 ?_;refine OL.store ?_;refine OL.nil ?_;refine Zab ?_)<;>refine Zaa ?_|refine Yaa.at 2 ?_<;>refine Yaa.s ?_ (h:=gv)<;>refine OD.n2 1 4 ?_ ?_<;>(first|refine Yaa.at 1 ?_<;>refine Yaa.s ?_ (h:=gv)<;>(refine Zac 4 ?_;refine OL.c h5 Tryz.func99 ?_;refine OL.nil ?_;refine Zab ?_)<;>(refine Zac 5 ?_;refine ZaH ?_;refine OL.nil ?_;refine Zab ?_)<;>refine OD.st 6 ?_<;>(refine Zac 7 ?_;refine OL.store ?_;refine OL.nil ?_;refine Zab ?_)<;>refine Zaa ?_|refine Yaa.at 4 ?_<;>(refine Yaa.a ?_;refine OL.c h5 Tryz.func99 ?_;refine OL.nil ?_;refine Zab ?_)<;>refine Zai 1 ?_<;>(refine Zac 5 ?_;refine ZaH ?_;refine OL.nil ?_;refine Zab ?_)<;>refine OD.st 6 ?_<;>(refine Zac 7 ?_;refine OL.store ?_;refine OL.nil ?_;refine Zab ?_)<;>refine Zaa ?_)))
       all_goals exact ZaP [0,1,2,3,4,6]
      rw [e1];generalize W++(k:Int)::fr=w2 at *
      refine Zbp 4 0 ?_;refine goW ?_;refine ZaO [(6,.bp 2 0),(7,V.int (2*(W.length:Int))),(8,V.int 0)] [.dead,.dead,.cb 30 [ints w2],.dead,.cb 30 [ints w2],.gs true 3 1 none (w2.map V.int)] ?_ ?_
      ·(refine Zal (id:=7) false 5 8 ?_<;>refine Zao 1 ?_<;>refine OD.n2 0 2 ?_ ?_<;>(first|refine Yaa.at 0 ?_<;>refine Yaa.s ?_ (h:=gv)<;>refine OD.n2 2 5 ?_ ?_<;>(first|refine Yaa.at 2 ?_<;>refine Yaa.s ?_ (h:=gv)<;>refine Zao 3 ?_<;>refine Zao 4 ?_<;>(refine Zac 5 ?_;refine Zau ?_;refine OL.nil ?_;refine Zab ?_)<;>refine Zae 6 7 ?_<;>refine Zaa ?_|refine Yaa.at 5 ?_<;>(refine Yaa.a ?_;refine Zau ?_;refine OL.nil ?_;refine Zab ?_)<;>refine Zai 2 ?_<;>refine Zao 3 ?_<;>refine Zao 4 ?_<;>refine Zae 6 7 ?_<;>refine Zaa ?_)|refine Yaa.at 2 ?_<;>refine Yaa.s ?_ (h:=gv)<;>refine Zao 3 ?_<;>refine Zao 4 ?_<;>refine Zai 0 ?_<;>(refine Zac 5 ?_;refine Zau ?_;refine OL.nil ?_;refine Zab ?_)<;>refine Zae 6 7 ?_<;>refine Zaa ?_))
       all_goals exact ZaP [0,1,2,3,4,5]
      refine goW ?_;exact Za7 [] (.ren rfl) (.ren rfl) (.ren rfl)
     ·rw [if_neg hl];refine Se Tryz.func36 rfl rfl rfl fun B hB=>?_;repeat' (first|(with_reducible refine TC.seq ?_)|(with_reducible refine TC.region ?_))
      with_reducible refine OL.box ?_
      with_reducible refine OL.box ?_
      refine Zag 3 ?_;refine Zag 4 ?_;refine goW ?_;refine OL.c h1 Tryz.func26 ?_;refine goW ?_;refine OL.c h2 Tryz.func97 ?_;refine goW ?_;(refine Zal (id:=3) true 8 8 ?_<;>refine Zaf 0 1 2 3 ?_<;>refine OD.st 4 ?_<;>refine Zah 5 h3 Tryz.func28 ?_<;>refine Zae 6 7 ?_<;>refine Zaa ?_)
      refine goW ?_;refine Za7 [] ?_ (.ren rfl) (.ren rfl);exact LE.st ⟨.nil (by decide),trivial⟩
end
theorem YzY {α:Type} (l1 l2:List α) (b v:α):(l1++b::l2).set l1.length v=l1++v::l2:=by
 rw [List.set_append_right _ _ (Nat.le_refl _),Nat.sub_self];rfl
theorem YAu {W wl:List Int} {x i:Nat} (h:x+i < W.length) (hi:i < wl.length):(W.take x++wl.take i++W.drop (x+i)).set (x+i) wl[i]=W.take x++wl.take (i+1)++W.drop (x+(i+1)):=by
 have hl:(W.take x++wl.take i).length=x+i:=by rw [List.length_append,List.length_take,List.length_take];omega
 have e:=YzY (W.take x++wl.take i) (W.drop (x+i+1)) W[x+i] wl[i];rw [hl,← List.drop_eq_getElem_cons h] at e;rw [e,← Nat.add_assoc,List.append_assoc,List.append_assoc,Yab hi,List.append_assoc];rfl
theorem YAY {W tw:List Int} {k:Int} {r:Nat} (hr:r+1+tw.length≤W.length):W.take r++(k::tw)++W.drop (r+(tw.length+1))=(W.set r k).take (r+1)++tw++(W.set r k).drop (r+1+tw.length):=by
 have hrl:r < W.length:=by omega
 rw [List.take_add_one,List.take_set_of_le (Nat.le_refl _),List.getElem?_set_self hrl,List.drop_set_of_lt (by omega)];simp only [Option.toList_some,List.append_assoc,List.cons_append,List.nil_append];rw [show r+(tw.length+1)=r+1+tw.length by omega]
theorem YAT {W wl:List Int} {r m:Nat} {v:Int} (hr:r+1+m≤W.length):(W.take r++List.replicate (m+1) 0++W.drop (r+(m+1))).set r v++wl=(((W++wl).take (r+1)++List.replicate m 0)++(W++wl).drop (r+1+m)).set r v:=by
 have hrl:(W.take r).length=r:=by rw [List.length_take];omega
 have e1:=YzY (W.take r) (List.replicate m 0++W.drop (r+(m+1))) (0:Int) v;rw [hrl] at e1;have e2:W.take r++List.replicate (m+1) 0++W.drop (r+(m+1))=W.take r++0::(List.replicate m 0++W.drop (r+(m+1))):=by rw [List.replicate_succ,List.append_assoc];rfl
 rw [e2,e1,List.take_append_of_le_length (by omega),List.drop_append_of_le_length (by omega),List.take_add_one,List.getElem?_eq_getElem (show r < W.length by omega)];have e3:=YzY (W.take r) (List.replicate m 0++(W.drop (r+1+m)++wl)) W[r] v;rw [hrl] at e3;simp only [Option.toList_some,List.append_assoc,List.cons_append,List.nil_append];rw [e3,show r+(m+1)=r+1+m by omega]
section
variable (p:Prg) (hs:Ya9 p.cls) (hpk:∀ x∈p.nodes,x.2.2.length*8≤140737488355328) (W:List Int) (hW:∀ x∈W,YbC x) (hWl:W.length*8≤140737488355328)
include hs hpk hW hWl
set_option maxHeartbeats 8000000 in
theorem Yz5 (w c:Int) (hwi:YbC w):V.Spec Tryz.prog 41 [Ya0 p,Yaw W,V.int w,V.int c] [] (.tp [Yaw (YlK p W w c).1,V.int (YlK p W w c).2]) []:=by
 have h1:=Ylk p hs hpk W hW hWl;unfold YlK
 cases hg:Ybt p W with
 | false =>
   rw [hg] at h1;simp only [Bool.false_eq_true,if_false];refine Se Tryz.func41 rfl rfl rfl fun B hB=>?_;repeat' (first|(with_reducible refine TC.seq ?_)|(with_reducible refine TC.region ?_))
   with_reducible refine OL.box ?_
   with_reducible refine OL.box ?_
   refine Zag 4 ?_;refine Zag 5 ?_;refine goW ?_;refine OL.c h1 Tryz.func26 ?_;refine goW ?_;refine ZaZ [] ?_ (.ren rfl);exact LE.st ⟨.nil (by decide),trivial⟩
 | true =>
   rw [hg] at h1;obtain ⟨hp,_,st,hst,hG⟩:=Ybe hg;have hcb:=YaC hp;obtain ⟨hsl,hpl,hf⟩:=YbO hcb;have h6:=(Yah hG.eq).2.1;have hse:Yee p W=st:=YcP hst;have h2:=Yqe p hs hcb W hW hWl [w] (by simpa using hwi) (by simp);rw [hse,List.all_cons,List.all_nil,Bool.and_true] at h2;rw [hse,if_pos rfl]
   cases hv:okW st w with
   | false =>
     rw [hv] at h2;simp only [Bool.false_eq_true,if_false];refine Se Tryz.func41 rfl rfl rfl fun B hB=>?_;repeat' (first|(with_reducible refine TC.seq ?_)|(with_reducible refine TC.region ?_))
     with_reducible refine OL.box ?_
     with_reducible refine OL.box ?_
     refine Zag 4 ?_;refine Zag 5 ?_;refine goW ?_;refine OL.c h1 Tryz.func26 ?_;refine goW ?_;refine Zax 27 ?_;refine OL.c h2 Tryz.func27 ?_;refine goW ?_;refine ZaZ [] ?_ (.ren rfl);exact LE.st ⟨.nil (by decide),trivial⟩
   | true =>
     rw [hv] at h2;rw [if_pos rfl];have h3:=YgS p (by omega) c;rw [Yq8] at h3
     cases ho:(shp p.cls c).isSome with
     | false =>
       rw [ho] at h3;simp only [Bool.false_eq_true,if_false];refine Se Tryz.func41 rfl rfl rfl fun B hB=>?_;repeat' (first|(with_reducible refine TC.seq ?_)|(with_reducible refine TC.region ?_))
       with_reducible refine OL.box ?_
       with_reducible refine OL.box ?_
       refine Zag 4 ?_;refine Zag 5 ?_;refine goW ?_;refine OL.c h1 Tryz.func26 ?_;refine goW ?_;refine Zax 27 ?_;refine OL.c h2 Tryz.func27 ?_;refine goW ?_;refine OL.c h3 Tryz.func97 ?_;refine goW ?_;refine ZaZ [] ?_ (.ren rfl);exact LE.st ⟨.nil (by decide),trivial⟩
     | true =>
       rw [ho] at h3;rw [if_pos rfl];have hod:=Ymi w;by_cases hz:Yax W w=0
       ·rw [if_pos hz];have hp:=(hG.obj_iff hv).1 hz;by_cases hodd:w.tmod 2≠0
        ·rw [decide_eq_true hodd] at hod;refine Se Tryz.func41 rfl rfl rfl fun B hB=>?_;repeat' (first|(with_reducible refine TC.seq ?_)|(with_reducible refine TC.region ?_))
         with_reducible refine OL.box ?_
         with_reducible refine OL.box ?_
         refine Zag 4 ?_;refine Zag 5 ?_;refine goW ?_;refine OL.c h1 Tryz.func26 ?_;refine goW ?_;refine Zax 27 ?_;refine OL.c h2 Tryz.func27 ?_;refine goW ?_;refine OL.c h3 Tryz.func97 ?_;refine goW ?_;refine OL.c hod Tryz.func105 ?_;refine goW ?_;refine ZaZ [] ?_ (.ren rfl);exact LE.st ⟨.nil (by decide),trivial⟩
        ·rw [decide_eq_false hodd] at hod;have hw0:w=0:=hp.resolve_left fun h=>hodd fun h3=>h (YcG.1 h3)
         refine Se Tryz.func41 rfl rfl rfl fun B hB=>?_;repeat' (first|(with_reducible refine TC.seq ?_)|(with_reducible refine TC.region ?_))
         with_reducible refine OL.box ?_
         with_reducible refine OL.box ?_
         refine Zag 4 ?_;refine Zag 5 ?_;refine goW ?_;refine OL.c h1 Tryz.func26 ?_;refine goW ?_;refine Zax 27 ?_;refine OL.c h2 Tryz.func27 ?_;refine goW ?_;refine OL.c h3 Tryz.func97 ?_;refine goW ?_;refine OL.c hod Tryz.func105 ?_;refine goW ?_;refine ZaZ [] ?_ (.ren rfl);exact LE.st ⟨.nil (by decide),trivial⟩
       ·rw [if_neg hz];obtain ⟨n,hsh⟩:=Option.isSome_iff_exists.1 ho;obtain ⟨k,hk,hk3,hkl,hn⟩:=YcS hsh;subst hk;rw [show ((k:Nat):Int).toNat=k from rfl];have hn0:¬ (w % 2≠0∨w=0):=fun q=>hz (Ycp q)
        have hodd:w.tmod 2=0:=YcG.2 (by omega);rw [decide_eq_false (fun q=>q hodd)] at hod;have hwz:w≠0:=fun q=>hn0 (.inr q)
        have hw1:=hwi.2;obtain ⟨hw0,hxm⟩:0 < w∧(w / 2).toNat∈st:=by
         rcases YlJ hv with h|⟨_,h3,h4⟩
         ·exact (hn0 h).elim
         ·exact ⟨h3,h4⟩
        have hobe:Yax W w=real W (w / 2).toNat:=by rw [Yax,if_neg hn0]
        have hrr:=Yrz W hW st hG _ hxm;rw [← hobe,show (((w / 2).toNat:Nat):Int)=w / 2 by omega] at hrr;have hre:=hG.re_obj hv hz;obtain ⟨hx1,hxl,hxd⟩:=hG.hd hre.1;obtain ⟨hxw0,n1,hsh1,hxn⟩:=Ybd.1 hxd;have hwx:wAt W (Yax W w)=W[Yax W w]:=by rw [wAt,List.getD_eq_getElem?_getD,List.getElem?_eq_getElem hxl];rfl
        have hmd:W[Yax W w] % 64=W[Yax W w]:=by rw [← hwx];exact hG.cls hre.1 hre.2
        rw [hwx,hmd] at hsh1;rw [hwx] at hxw0;have hcls:=Ye4 W[Yax W w] hxw0;rw [hmd] at hcls;obtain ⟨kx,hkx,hkx3,hkxl,hnx⟩:=YcS hsh1;have hszx:=YdI p hs hf (by omega) hkx3 (by omega);rw [Ya4 hcb,← hkx] at hszx;have hszk:=YdI p hs hf (by omega) hk3 (by omega);rw [Ya4 hcb] at hszk;have h4:=YyR p hs hpk hp hk3 hkl;have h5:=YeR p hs hf (by omega) hk3 hkl;rw [Ya4 hcb] at h5;have h7:=YyF W hWl;have hplk:=fun s=>YyJ p hs hcb W hW hG w s hwi hv
        have hhas:slotsOf p.cls (wAt W (Yax W w)).toNat=slotsOf p.cls kx:=by rw [hwx,hkx];rfl
        have hts:∀ s,(0 < plR p.cls W w s∧∃ h:(plR p.cls W w s).toNat < W.length,W[(plR p.cls W w s).toNat]=YhQ p.cls W (Yax W w) k s)∨(plR p.cls W w s=0∧(fun s=>YaS [] (Yao p.cls k s)) s=YhQ p.cls W (Yax W w) k s):=fun s=>by
         unfold plR YhQ;rw [if_neg hz];have hfb:=Ydj (fun x=>s==x) (slotsOf p.cls (wAt W (Yax W w)).toNat) 0;rw [hhas] at hfb ⊢;generalize hfe:Yb3 (fun x=>s==x) 0 (slotsOf p.cls kx)=f at *
         by_cases hf0:f < 0
         ·rw [if_pos hf0,if_neg (by omega)];exact .inr ⟨rfl,rfl⟩
         ·rw [if_neg hf0,if_pos (by omega)];obtain ⟨f,rfl⟩:∃ q:Nat,f=q:=⟨f.toNat,by omega⟩;rw [show ((Yax W w:Int)+1+(f:Int)).toNat=Yax W w+1+f by omega,Int.toNat_natCast];refine .inl ⟨by omega,by omega,?_⟩;rw [List.getD_eq_getElem?_getD,List.getElem?_take,if_pos (by omega),List.getElem?_drop,List.getElem?_eq_getElem (by omega)];rfl
        have hfw:YcC p.cls k=(slotsOf p.cls k).map fun s=>YaS [] (Yao p.cls k s):=rfl
        have htw:turnW p.cls W (Yax W w) k=(slotsOf p.cls k).map (YhQ p.cls W (Yax W w) k):=rfl;have hX:=YqY p.cls W (Yax W w) k hwx (by rw [← hwx,hhas]) rfl htw;rw [hX,hhas,htw];rw [hfw] at h4;have hn6:=Ya3 hpl k;generalize (fun s=>YaS [] (Yao p.cls k s))=fS at *
        generalize YhQ p.cls W (Yax W w) k=tS at *
        generalize slotsOf p.cls k=ss at *
        generalize slotsOf p.cls kx=has at *
        generalize plR p.cls W w=pl at *
        generalize hxe:Yax W w=x at *
        refine Se Tryz.func41 rfl rfl rfl fun B hB=>?_;repeat' (first|(with_reducible refine TC.seq ?_)|(with_reducible refine TC.region ?_))
        with_reducible refine OL.box ?_
        with_reducible refine OL.box ?_
        refine Zag 4 ?_;refine Zag 5 ?_;refine goW ?_;refine OL.c h1 Tryz.func26 ?_;refine goW ?_;refine Zax 27 ?_;refine OL.c h2 Tryz.func27 ?_;refine goW ?_;refine OL.c h3 Tryz.func97 ?_;refine goW ?_;refine OL.c hod Tryz.func105 ?_;refine goW ?_;refine OL.quo ?_;refine goW ?_;refine OL.c hrr Tryz.func30 ?_;refine goW ?_;refine OL.c hcls Tryz.func84 ?_;refine goW ?_;refine OL.c h4 Tryz.func99 ?_;refine goW ?_;refine OL.c h5 Tryz.func88 ?_;refine goW ?_;have hwl:∀ i,((k:Int)::((ss.take i).map tS++(ss.drop i).map fS)).length=ss.length+1:=fun i=>by
         rw [List.length_cons,List.length_append,List.length_map,List.length_map,List.length_take,List.length_drop];omega
        have hws:∀ i (h:i < ss.length),((k:Int)::((ss.take i).map tS++(ss.drop i).map fS)).set (i+1) (tS ss[i])=(k:Int)::((ss.take (i+1)).map tS++(ss.drop (i+1)).map fS):=fun i h=>by
         have e:=YzY ((k:Int)::(ss.take i).map tS) ((ss.drop (i+1)).map fS) (fS ss[i]) (tS ss[i]);rw [List.length_cons,List.length_map,List.length_take,Nat.min_eq_left (Nat.le_of_lt h)] at e;rw [List.drop_eq_getElem_cons h,List.map_cons,← List.cons_append,e,Yab h,List.map_append];simp
        have hwn:∀ i (h:i < ss.length),fS ss[i]=tS ss[i]→(k:Int)::((ss.take i).map tS++(ss.drop i).map fS)=(k:Int)::((ss.take (i+1)).map tS++(ss.drop (i+1)).map fS):=fun i h e=>by
         rw [List.drop_eq_getElem_cons h,List.map_cons,Yab h,List.map_append,e];simp
        refine Zat (fun i:Nat=>[(2,V.int w),(3,V.int k),(4,.ep (YbB p) 0),(5,.ep [ints W] 0),(8,.bp 2 0),(10,V.int (x:Int)),(11,V.int W[x]),(12,.hs 4),(13,ints ss),(14,V.int i)]) (fun i=>[.dead,.dead,.cb 30 [.raw (.slice none 0 0)],.gs true 3 1 (some false) [V.int w],.gs false 3 1 none (((k:Int)::((ss.take i).map tS++(ss.drop i).map fS)).map V.int)]) (fun i=>i≤ss.length) (fun i=>ss.length-i) 0 [0,1,2,3,4] (Nat.zero_le _) ?_;rintro i hi;by_cases hil:i < ss.length
        ·have hts:=hts ss[i];have hwl1:=hwl i;have hws:=hws i hil;have hwn:=hwn i hil;have hplk:=hplk ss[i];generalize hg2:(k:Int)::((ss.take (i+1)).map tS++(ss.drop (i+1)).map fS)=g2 at *
         generalize (k:Int)::((ss.take i).map tS++(ss.drop i).map fS)=g1 at *
         generalize hse2:ss[i]=s at *
         refine goW ?_;(refine Zal (id:=12) true 9 9 ?_<;>refine Zaf 0 1 2 3 ?_<;>refine Zae 4 5 ?_<;>refine OD.st 6 ?_ (h:=(by with_unfolding_all exact gv))<;>refine ZaL 73 (LE.int hse2) ?_<;>refine Zah 7 hplk Tryz.func100 ?_<;>refine OD.st 8 ?_<;>refine Zaa ?_)
         rcases hts with ⟨hpos,hlt,hval⟩|⟨h0,hval⟩
         ·refine goW ?_;rw [hval,show (1+(i:Int)).toNat=i+1 by omega];refine ZaF (l:=g1) (k:=i+1) (by omega) ?_;rw [hws,← hg2];refine goW ?_;exact Zan (i+1) [0,1,2,3,4] (by omega) (by omega)
         ·rw [hwn hval,← hg2];refine goW ?_;exact Zan (i+1) [0,1,2,3,4] (by omega) (by omega)
        ·obtain rfl:i=ss.length:=by omega
         have hwl1:=hwl ss.length;rw [List.take_length,List.drop_length,List.map_nil,List.append_nil] at hwl1 ⊢;have htl:(ss.map tS).length=ss.length:=List.length_map ..;clear hws hwn hwl;generalize ss.map tS=tw at *
         generalize hwe:(k:Int)::tw=wl at *
         have hxb:x+1+has.length≤W.length:=by omega
         refine goW ?_;refine OL.c h7 Tryz.func98 ?_;refine goW ?_;by_cases he:ss.length=has.length
         ·rw [if_pos (.inl he),if_pos he];(refine Zal (id:=16) true 7 7 ?_<;>refine Zaf 0 1 3 4 ?_<;>refine Zah 2 hszx Tryz.func28 ?_<;>refine Zah 5 hszk Tryz.func28 ?_<;>refine OD.st 6 ?_<;>refine Zaa ?_)
          refine goW ?_;have e0:W.take x++wl.take 0++W.drop (x+0)=W:=by simp
          have hup:=fun i (h1:x+i < W.length) (h2:i < wl.length)=>YAu h1 h2
          have hfin:=YAY (W:=W) (tw:=tw) (k:=(k:Int)) (r:=x) (by omega);rw [htl,hwe,← hwl1] at hfin;rw [← hfin];refine Zat (fun i:Nat=>[(8,.bp 2 0),(10,V.int (x:Int)),(12,.hs 4),(16,.bp 6 0),(17,V.int i)]) (fun i=>[.dead,.dead,.cb 30 [.raw (.slice none 0 0)],.gs true 3 1 (some false) [V.int w],.gs false 3 1 none (wl.map V.int),.gs false 3 1 none ((W.take x++wl.take i++W.drop (x+i)).map V.int),.cb 30 [.hs 5]]) (fun i=>i≤wl.length) (fun i=>wl.length-i) 0 [0,1,2,3,4,5,6] (Nat.zero_le _) ?_ (ho:=⟨⟨_,rfl,OE.ren rfl⟩,⟨_,rfl,OE.ren rfl⟩,⟨_,rfl,OE.ren rfl⟩,⟨_,rfl,OE.ren rfl⟩,⟨_,rfl,OE.ren rfl⟩,⟨_,rfl,OE.ren (by rw [e0];rfl)⟩,⟨_,rfl,OE.ren rfl⟩,trivial⟩);rintro i hi;by_cases hil:i < wl.length
          ·have hup:=hup i (by omega) hil;have hln:(W.take x++wl.take i++W.drop (x+i)).length=W.length:=by rw [List.length_append,List.length_append,List.length_take,List.length_take,List.length_drop];omega
           generalize hg2:W.take x++wl.take (i+1)++W.drop (x+(i+1))=g2 at *
           generalize W.take x++wl.take i++W.drop (x+i)=g1 at *
           refine goW ?_;(refine Zal (id:=20) true 10 11 ?_<;>refine Zaf 0 1 2 3 ?_<;>refine Zaf 4 5 6 7 ?_<;>refine Zae 8 9 ?_<;>(refine Zac 10 ?_;refine ZaF (l:=g1) (k:=x+i) (by omega) ?_;refine OL.nil ?_;refine Zab ?_)<;>refine Zaa ?_)
           refine Zap ?_;rw [hup,← hg2];refine goW ?_;exact Zan (i+1) [0,1,2,3,4,5,6] (by omega) (by omega)
          ·obtain rfl:i=wl.length:=by omega
           rw [List.take_length];refine Zbp 6 0 ?_;refine goW ?_;exact ZaZ [] (.ren rfl) (.ren rfl)
         ·rw [if_neg he];(refine Zal (id:=16) true 7 7 ?_<;>refine Zaf 0 1 3 4 ?_<;>refine Zah 2 hszx Tryz.func28 ?_<;>refine Zah 5 hszk Tryz.func28 ?_<;>refine OD.st 6 ?_<;>refine Zaa ?_)
          by_cases hl:(W++wl).length≤600;rotate_left
          ·rw [if_neg (not_or.2 ⟨he,hl⟩)];rw [List.length_append] at hl;refine goW ?_;refine ZaZ [] ?_ (.ren rfl);exact LE.st ⟨.nil (by decide),trivial⟩
          ·rw [if_pos (.inr hl)];rw [List.length_append] at hl;have e0:W.take x++(List.replicate (has.length+1) (0:Int)).take 0++W.drop (x+0)=W:=by simp
           have hup:=fun i (h1:x+i < W.length) (h2:i < (List.replicate (has.length+1) (0:Int)).length)=>YAu h1 h2
           have hfin:=YAT (W:=W) (wl:=wl) (r:=x) (m:=has.length) (v:=W[x]+64*(W.length:Int)) (by omega);rw [← hfin];have hrl:(List.replicate (has.length+1) (0:Int)).length=has.length+1:=List.length_replicate ..;have hr0:∀ i (h:i < (List.replicate (has.length+1) (0:Int)).length),(List.replicate (has.length+1) (0:Int))[i]=0:=fun i h=>List.getElem_replicate ..
           generalize List.replicate (has.length+1) (0:Int)=rz at *
           refine goW ?_;refine Zat (fun i:Nat=>[(4,.ep (YbB p) 0),(5,.ep [ints W] 0),(8,.bp 2 0),(10,V.int (x:Int)),(11,V.int W[x]),(12,.hs 4),(16,.bp 6 0),(18,V.int i)]) (fun i=>[.dead,.dead,.cb 30 [.raw (.slice none 0 0)],.gs true 3 1 (some false) [V.int w],.gs false 3 1 none (wl.map V.int),.gs false 3 1 none ((W.take x++rz.take i++W.drop (x+i)).map V.int),.cb 30 [.hs 5]]) (fun i=>i≤rz.length) (fun i=>rz.length-i) 0 [0,1,2,3,4,5,6] (Nat.zero_le _) ?_ (ho:=⟨⟨_,rfl,OE.ren rfl⟩,⟨_,rfl,OE.ren rfl⟩,⟨_,rfl,OE.ren rfl⟩,⟨_,rfl,OE.ren rfl⟩,⟨_,rfl,OE.ren rfl⟩,⟨_,rfl,OE.ren (by rw [e0];rfl)⟩,⟨_,rfl,OE.ren rfl⟩,trivial⟩);rintro i hi;have hln:(W.take x++rz.take i++W.drop (x+i)).length=W.length:=by rw [List.length_append,List.length_append,List.length_take,List.length_take,List.length_drop];omega
           by_cases hil:i < rz.length
           ·have hup:=hup i (by omega) hil;rw [hr0 i hil] at hup;generalize hg2:W.take x++rz.take (i+1)++W.drop (x+(i+1))=g2 at *
            generalize W.take x++rz.take i++W.drop (x+i)=g1 at *
            refine goW ?_;refine OL.c hszx Tryz.func28 ?_;refine goW ?_;refine ZaF (l:=g1) (k:=x+i) (by omega) ?_;rw [hup,← hg2];refine goW ?_;exact Zan (i+1) [0,1,2,3,4,5,6] (by omega) (by omega)
           ·obtain rfl:i=rz.length:=by omega
            rw [List.take_length,hrl] at *
            refine goW ?_;refine OL.c hszx Tryz.func28 ?_;refine goW ?_;refine ZaF (l:=W.take x++rz++W.drop (x+(has.length+1))) (k:=x) (by omega) ?_;have hl3:((W.take x++rz++W.drop (x+(has.length+1))).set x (W[x]+64*(W.length:Int))).length=W.length:=by rw [List.length_set];exact hln
            generalize (W.take x++rz++W.drop (x+(has.length+1))).set x (W[x]+64*(W.length:Int))=g3 at *
            have e9:g3.map V.int++wl.map V.int=(g3++wl).map V.int:=by rw [List.map_append]
            refine goW ?_;rw [e9];refine Zcg 2 0 ?_;exact ZaZ [] (.ren rfl) (.ren rfl)
end
section
variable (p:Prg) (hs:Ya9 p.cls) (hpk:∀ x∈p.nodes,x.2.2.length*8≤140737488355328) (W:List Int) (hW:∀ x∈W,YbC x) (hWl:W.length*8≤140737488355328)
include hs hpk hW hWl
theorem YAw (c:Int):V.Spec Tryz.prog 35 [Ya0 p,Yaw W,V.int c] [] (.tp [Yaw (YrW p W c).1,V.int (YrW p W c).2.1,V.int (YrW p W c).2.2]) []:=by
 by_cases h:(YrW p W c).2.2=0
 ·have:=Yjo p hs hpk W hW hWl c h
  rw [h];exact this
 ·have h2:=YqZ p hs hpk W hW hWl c h;have e:(YrW p W c).1=[]∧(YrW p W c).2.1=0:=by
   unfold YrW at h ⊢;split
   ·rename_i q
    rw [if_pos q] at h;split
    ·rename_i q2
     rw [if_pos q2] at h;split
     ·rename_i q3;rw [if_pos q3] at h;exact (h rfl).elim
     ·exact ⟨rfl,rfl⟩
    ·exact ⟨rfl,rfl⟩
   ·exact ⟨rfl,rfl⟩
  rw [e.1,e.2];exact h2.drop (LE.tp ⟨LE.st ⟨.nil (by decide),trivial⟩,.ren rfl,.ren rfl,trivial⟩)
theorem YAy (w s v:Int) (hw:YbC w) (hv:YbC v):V.Spec Tryz.prog 38 [Ya0 p,Yaw W,V.int w,V.int s,V.int v] [] (.tp [Yaw (Ytz p W w s v).1,V.int (Ytz p W w s v).2]) []:=by
 by_cases h:(Ytz p W w s v).2=0
 ·have:=YqV p hs hpk W hW hWl w s v hw hv h
  rw [h];exact this
 ·have h2:=Yqu p hs hpk W hW hWl w s v hw hv h;have e:(Ytz p W w s v).1=[]:=by
   rw [YAn] at h ⊢;split
   ·rename_i q
    rw [if_pos q] at h;split
    ·rfl
    ·rename_i q2;rw [if_neg q2] at h;exact (h rfl).elim
   ·rfl
  rw [e];exact h2.drop (LE.tp ⟨LE.st ⟨.nil (by decide),trivial⟩,.ren rfl,trivial⟩)
theorem YAl (w c:Int) (hw:YbC w):V.Spec Tryz.prog 40 [Ya0 p,Yaw W,V.int w,V.int c] [] (.tp [Yaw (YlK p W w c).1,V.int (YlK p W w c).2]) []:=by
 by_cases h:(YlK p W w c).2=0
 ·have:=Yh5 p hs hpk W hW hWl w c hw h
  rw [h];exact this
 ·have h2:=Yqd p hs hpk W hW hWl w c hw h;have e:(YlK p W w c).1=[]:=by
   unfold YlK at h ⊢;split
   ·rename_i q1
    rw [if_pos q1] at h;split
    ·rename_i q2
     rw [if_pos q2] at h;split
     ·rename_i q3
      rw [if_pos q3] at h;split
      ·rfl
      ·rename_i q4
       rw [if_neg q4] at h;split
       ·rename_i q5;rw [if_pos q5] at h;exact (h rfl).elim
       ·rfl
     ·rfl
    ·rfl
   ·rfl
  rw [e];exact h2.drop (LE.tp ⟨LE.st ⟨.nil (by decide),trivial⟩,.ren rfl,trivial⟩)
abbrev YBg (x:Int × Int × Int × Int):AV:=.st [V.int x.1,V.int x.2.1,V.int x.2.2.1,V.int x.2.2.2]
set_option maxHeartbeats 4000000 in
theorem Yy5 (x:Int × Int × Int × Int) (hw:YbC x.1) (hv:YbC x.2.2.2):V.Spec Tryz.prog 10 [Ya0 p,Yaw W,YBg x] [] (V.bool true) []:=by
 obtain ⟨w,s,c,v⟩:=x;dsimp only at hw hv;have hkn:=Ye2;have a1:=YAw p hs hpk W hW hWl c;have a2:=YAe p hs hpk W hW hWl c;have b1:=Yim p hs hpk W hW hWl w s hw;have b2:=YAi p hs hpk W hW hWl w s hw;have c1:=YAy p hs hpk W hW hWl w s v hw hv;have c2:=YAm p hs hpk W hW hWl w s v hw hv;have d1:=YAl p hs hpk W hW hWl w c hw;have d2:=Yz5 p hs hpk W hW hWl w c hw;generalize YrW p W c=rn at *
 generalize YtX p W w s=rg at *
 generalize Ytz p W w s v=rs at *
 generalize YlK p W w c=rt at *
 have e1:=YxN rn.1;have e2:=YxN rs.1;have e3:=YxN rt.1;refine Se Tryz.func10 rfl rfl rfl fun B hB=>?_;repeat' (first|(with_reducible refine TC.seq ?_)|(with_reducible refine TC.region ?_))
 with_reducible refine OL.box ?_
 with_reducible refine OL.box ?_
 with_reducible refine OL.box ?_
 refine Zag 3 ?_;refine Zag 4 ?_;refine Zag 5 ?_;refine goW ?_;refine OL.c a1 Tryz.func35 ?_;refine goW ?_;refine OL.c a2 Tryz.func36 ?_;refine goW ?_;refine OL.c e1 Tryz.func15 ?_;refine goW ?_;refine OL.c b1 Tryz.func31 ?_;refine goW ?_;refine OL.c b2 Tryz.func37 ?_;refine goW ?_;refine OL.c c1 Tryz.func38 ?_;refine goW ?_;refine OL.c c2 Tryz.func39 ?_;refine goW ?_;refine OL.c d1 Tryz.func40 ?_;refine goW ?_;refine OL.c d2 Tryz.func41 ?_;refine goW ?_;refine OL.c e2 Tryz.func15 ?_;refine goW ?_;refine OL.c e3 Tryz.func15 ?_;refine goW ?_;refine OL.c hkn Tryz.func17 ?_;refine goW ?_;exact Zad [] (.ren rfl)
end
open Go Go.W Go.V Go.ChangeShapes Go.WideShapes Go.ChangeAt Go.RowKit Go.Deep
abbrev YBh (x:Int × Int × Int × Int):List AV:=[V.int x.1,V.int x.2.1,V.int x.2.2.1,V.int x.2.2.2]
section
variable {H:Type} {enc:TypeId × Value→H} {w:World} {held:Bool}
theorem YBj:Rs enc Tryz.prog w held 65 4 (fun x=>.st (YBh x)) (fun x=>YbC x.1∧YbC x.2.2.2):=
 by
  have h:=Rs.struct (enc:=enc) (w:=w) (held:=held) Tryz.underlying65 (by kernel_rfl) (RsS.cons YxR (RsS.cons YxR (RsS.cons YxR (RsS.cons YxR RsS.nil rfl (by kernel_rfl)) rfl (by kernel_rfl)) rfl (by kernel_rfl)) rfl (by kernel_rfl));exact h.map (fun x=>(x.1,x.2.1,x.2.2.1,x.2.2.2.1)) (fun _=>rfl) (fun _ h=>⟨h.1,h.2.2.2.1⟩)
end
end Go.Proofs
