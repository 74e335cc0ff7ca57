/- Lemmas for the claim; no conditions. -/
import Derived.Test.YtdjhogobbbnddaaGreatC23
import Derived.Test.YtdjhogobbbnddaaGreatC19
import Derived.Test.YtdjhogobbbnddaaGreatC18
import Derived.Test.YtdjhogobbbnddaaGreatC46
namespace Go.V
open Go Go.W
theorem Yzo {C:Cx} {ρ:Ro} {η:Eta} {X Y:Nat} {x y:Operand} {i j:Int} (hx:ev2 ρ x=some (.raw (.int .i64 i)):=by with_unfolding_all exact rfl) (hy:ev2 ρ y=some (.raw (.int .i64 j)):=by with_unfolding_all exact rfl) (hj:0 < j:=by omega) (h:0≤i∨i % j=0:=by omega) (h0:-9223372036854775808≤i / j:=by omega) (h1:i / j≤9223372036854775807:=by omega) :
  Yaj C.P C.N C.D (.binOp .quo X x y Y) ρ η (V.int (i / j)):=Yq6 hx hy hj h h0 h1
end Go.V
namespace Go.Proofs
open Go Go.W Go.V
theorem YyI {sh:Int→Option Nat} (W:List Int) (hW:∀ x∈W,YbC x) {st:List Nat} (hG:GH sh W st) (rs:List Nat) (hrl:rs.length≤600) (w:Int) (hwi:YbC w) (hw:okW st w=true) (hm:Yax W w≠0→Yax W w∈rs) :
  V.Spec Tryz.prog 74 [Yaw W,V.int w,ints (Yd1 rs)] [] (Ycb (Yrj W (YmY rs) w)) []:=by
 have h0:=Ymi w;unfold Yrj;by_cases ho:w.tmod 2≠0
 ·have hz:w≠0:=fun e=>ho (by rw [e];rfl)
  rw [decide_eq_true ho] at h0;rw [if_neg hz,if_pos ho];have h2:w % 2≠0:=fun h=>ho (YcG.2 h)
  have hb:-1999999999≤w∧w≤2000000001:=by
   rw [okW,if_pos h2] at hw;simpa only [Bool.and_eq_true,decide_eq_true_eq] using hw
  have h1:=YcL ((w-1) / 2);refine Se Tryz.func74 rfl rfl rfl fun B hB=>?_;repeat' (first|(with_reducible refine TC.seq ?_)|(with_reducible refine TC.region ?_))
  with_reducible refine OL.box ?_
  refine Zag 3 ?_;refine goW ?_;refine OL.c h0 Tryz.func105 ?_;refine goW ?_;refine OL.quo ?_;refine goW ?_;refine OL.c h1 Tryz.func62 ?_;refine goW ?_;exact Zba [] (.ren rfl)
 ·rw [decide_eq_false ho] at h0;by_cases hz:w=0
  ·subst hz;rw [if_pos rfl];refine Se Tryz.func74 rfl rfl rfl fun B hB=>?_;repeat' (first|(with_reducible refine TC.seq ?_)|(with_reducible refine TC.region ?_))
   with_reducible refine OL.box ?_
   refine Zag 3 ?_;refine goW ?_;refine OL.c h0 Tryz.func105 ?_;refine goW ?_;refine OL.c YrD Tryz.func121 ?_;refine goW ?_;exact Zba [] (.ren rfl)
  ·rw [if_neg hz,if_neg ho];have hw1:=hwi.2;have h2:¬ w % 2≠0:=fun h=>ho fun h3=>h (YcG.1 h3)
   have hn:¬ (w % 2≠0∨w=0):=fun h=>h.elim h2 hz
   obtain ⟨hw0,hxm⟩:0 < w∧(w / 2).toNat∈st:=by
    rcases YlJ hw with h|⟨_,h3,h4⟩
    ·exact (hn h).elim
    ·exact ⟨h3,h4⟩
   have hob:=hG.obj hw hn;have hobe:Yax W w=real W (w / 2).toNat:=by rw [Yax,if_neg hn]
   have hrr:=Yrz W hW st hG _ hxm;rw [← hobe,show (((w / 2).toNat:Nat):Int)=w / 2 by omega] at hrr;rw [YmY,show (Yax W w:Int).toNat=Yax W w by omega];have hmem:Yax W w∈rs:=hm (by have:=hob.2.2;omega);obtain ⟨ix,hix,hil,hat,hbef⟩:∃ ix,rs.idxOf (Yax W w)=ix∧∃ hil:ix < rs.length,rs[ix]=Yax W w∧∀ j (hj:j < rs.length),j < ix→rs[j]≠Yax W w:=
    ⟨_,rfl,List.idxOf_lt_length_iff.2 hmem,List.getElem_idxOf _,fun j _ hji=>by simpa using List.not_of_lt_findIdx hji⟩
   rw [hix];have hcg:∀ j (hj:j < rs.length),(Yd1 rs)[j]'(by rw [Yd1,List.length_map];exact hj)=((rs[j]:Nat):Int):=fun j hj=>by simp [Yd1]
   have hcl:(Yd1 rs).length=rs.length:=by rw [Yd1,List.length_map]
   generalize Yax W w=r at *
   refine Se Tryz.func74 rfl rfl rfl fun B hB=>?_;repeat' (first|(with_reducible refine TC.seq ?_)|(with_reducible refine TC.region ?_))
   with_reducible refine OL.box ?_
   refine Zag 3 ?_;refine goW ?_;refine OL.c h0 Tryz.func105 ?_;refine goW ?_;refine Zat (fun k:Nat=>[(1,V.int w),(2,ints (Yd1 rs)),(3,.ep [ints W] 0),(6,.bp 1 0),(7,V.int k)]) (fun _=>[.dead,.cb 63 [V.int 0,V.int 0]]) (fun k=>k≤ix) (fun k=>ix-k) 0 [0,1] (Nat.zero_le _) ?_;rintro k hk;by_cases hki:k=ix
   ·subst hki;have hck:=hcg k hil;rw [hat] at hck;refine goW ?_;(refine Zal (id:=8) true 9 9 ?_<;>refine Zae 0 1 ?_<;>refine OD.st 2 ?_<;>refine OD.st 3 ?_ (h:=(by with_unfolding_all exact gv))<;>refine ZaL 26 (LE.int hck) ?_<;>refine Zae 4 5 ?_<;>refine OD.st 6 ?_ (h:=Yzo)<;>refine Zah 7 hrr Tryz.func30 ?_<;>refine OD.st 8 ?_<;>refine Zaa ?_)
    refine goW ?_;exact Zba [] (.ren rfl)
   ·have hck:=hcg k (by omega);have hne:=hbef k (by omega) (by omega);generalize rs[k]'(by omega)=y at *
    refine goW ?_;(refine Zal (id:=8) true 9 9 ?_<;>refine Zae 0 1 ?_<;>refine OD.st 2 ?_<;>refine OD.st 3 ?_ (h:=(by with_unfolding_all exact gv))<;>refine ZaL 26 (LE.int hck) ?_<;>refine Zae 4 5 ?_<;>refine OD.st 6 ?_ (h:=Yzo)<;>refine Zah 7 hrr Tryz.func30 ?_<;>refine OD.st 8 ?_<;>refine Zaa ?_)
    refine goW ?_;exact Zan (k+1) [0,1] (by omega) (by omega)
section
variable (p:Prg) (hs:Ya9 p.cls) (hcb:Yag p=true)
include hs hcb
set_option maxHeartbeats 4000000 in
theorem YyL (W:List Int) (hW:∀ x∈W,YbC x) {st:List Nat} (hG:GH (shp p.cls) W st) (rs:List Nat) (hrl:rs.length≤600) (hre:∀ x∈rs,x∈st∧wAt W x / 64=0) (hnx:∀ x∈rs,∀ w∈slotsW (shp p.cls) W x,Yax W w≠0→Yax W w∈rs) :
  V.Spec Tryz.prog 75 [Ya0 p,Yaw W,ints (Yd1 rs)] [] (Yef (rs.map (Ylw (shp p.cls) W (YmY rs)))) []:=by
 obtain ⟨hsl,hpl,hf⟩:=YbO hcb;have hsl6:=YmN hG.eq;have hWl6:=(Yah hG.eq).2.1;have hvl:=fun w h1 h2 h3=>YyI W hW hG rs hrl w h1 h2 h3
 have hcg:∀ j (hj:j < rs.length),(Yd1 rs)[j]'(by rw [Yd1,List.length_map];exact hj)=((rs[j]:Nat):Int):=fun j hj=>by simp [Yd1]
 have hcl:(Yd1 rs).length=rs.length:=by rw [Yd1,List.length_map]
 rw [show rs.map (Ylw (shp p.cls) W (YmY rs))=rs.map fun x=>(wAt W x,(slotsW (shp p.cls) W x).map (Yrj W (YmY rs))) from rfl];generalize Yrj W (YmY rs)=vw at *
 refine Se Tryz.func75 rfl rfl rfl fun B hB=>?_;repeat' (first|(with_reducible refine TC.seq ?_)|(with_reducible refine TC.region ?_))
 with_reducible refine OL.box ?_
 with_reducible refine OL.box ?_
 refine Zag 3 ?_;refine Zag 4 ?_;refine goW ?_;refine ZaT 7 89 2 ?_;refine Zat (fun k:Nat=>[(2,ints (Yd1 rs)),(3,.ep (YbB p) 0),(4,.ep [ints W] 0),(7,.hs 2),(8,V.int k)]) (fun k=>[.dead,.dead,.gs false 89 2 none (((rs.take k).map fun x=>(wAt W x,(slotsW (shp p.cls) W x).map vw)).map obA)]) (fun k=>k≤rs.length) (fun k=>rs.length-k) 0 [0,1,2] (Nat.zero_le _) ?_;rintro k hk;by_cases hkl:k < rs.length;rotate_left
 ·rw [Yaf (by omega)];refine goW ?_;refine Za4 6 ?_;exact Zad [] (.ren rfl)
 ·have hxe:=hcg k hkl;obtain ⟨hxm,hxr⟩:=hre rs[k] (List.getElem_mem _);have hnx:=hnx rs[k] (List.getElem_mem _);have e1:((rs.take k).map fun x=>(wAt W x,(slotsW (shp p.cls) W x).map vw)).map obA++[obA (wAt W rs[k],(slotsW (shp p.cls) W rs[k]).map vw)]=((rs.take (k+1)).map fun x=>(wAt W x,(slotsW (shp p.cls) W x).map vw)).map obA:=by rw [Yab hkl,List.map_append,List.map_append];rfl
  have hl1:((rs.take k).map fun x=>(wAt W x,(slotsW (shp p.cls) W x).map vw)).length≤1000:=by rw [List.length_map,List.length_take];omega
  generalize hob2:((rs.take (k+1)).map fun x=>(wAt W x,(slotsW (shp p.cls) W x).map vw))=ob2 at *
  generalize ((rs.take k).map fun x=>(wAt W x,(slotsW (shp p.cls) W x).map vw))=ob1 at *
  generalize rs[k]=x at *
  obtain ⟨hx1,hxl,hxd⟩:=hG.hd hxm;obtain ⟨hw0,n,hsh,hxn⟩:=Ybd.1 hxd;have hwx:wAt W x=W[x]:=by rw [wAt,List.getD_eq_getElem?_getD,List.getElem?_eq_getElem hxl];rfl
  have hmd:W[x] % 64=W[x]:=by rw [← hwx];exact hG.cls hxm hxr
  have hxj:∀ j,j < n→x+1+j < W.length:=fun j hj=>by omega
  have hszw:szW (shp p.cls) (wAt W x)=n:=by rw [szW,hsh];rfl
  have hsn:(slotsW (shp p.cls) W x).length=n:=by rw [slotsW,List.length_take,List.length_drop,hszw];omega
  have hsg:∀ j (hj:j < n) (h:j < (slotsW (shp p.cls) W x).length),(slotsW (shp p.cls) W x)[j]=W[x+1+j]'(hxj j hj):=fun j hj h=>by simp [slotsW]
  have hok:∀ j (hj:j < n),okW st (W[x+1+j]'(hxj j hj))=true:=fun j hj=>by
   rw [← hsg j hj (by omega)];exact (hG.slot hxm (List.getElem_mem _)).1
  rw [hwx] at hw0 hsh e1;rw [hmd] at hsh;have hcls:=Ye4 W[x] hw0;rw [hmd] at hcls;obtain ⟨c,hc,hc3,hccl,hn⟩:=YcS hsh;have hsz:=YdI p hs hf (by omega) hc3 (by omega);rw [Ya4 hcb,← hn,← hc] at hsz;have hvj:=fun j (hj:j < n)=>hvl _ (hW _ (List.getElem_mem (hxj j hj))) (hok j hj) (hnx _ (by rw [← hsg j hj (by omega)];exact List.getElem_mem _))
  generalize hss:slotsW (shp p.cls) W x=ss at *
  refine goW ?_;refine ZaO [(2,ints (Yd1 rs)),(3,.ep (YbB p) 0),(4,.ep [ints W] 0),(7,.hs 2),(8,V.int k),(9,.bp 3 0)] [.dead,.dead,.gs false 89 2 none (ob1.map obA),.cb 89 [V.int W[x],nilA]] ?_ ?_
  ·(refine Zal (id:=5) false 10 12 ?_<;>refine Zao 0 ?_<;>refine Zao 2 ?_<;>refine Zao 3 ?_<;>refine Zao 4 ?_<;>refine ZaJ 1 5 10 ?_ ?_ ?_<;>(first|refine Yaa.at 1 ?_<;>refine Yaa.s ?_ (h:=gv)<;>refine OD.n2 5 10 ?_ ?_<;>(first|refine Yaa.at 5 ?_<;>refine Yaa.s ?_ (h:=gv)<;>refine ZaL 22 (LE.int hxe) ?_<;>refine Zao 6 ?_<;>refine OD.n2 7 10 ?_ ?_<;>(first|refine Yaa.at 7 ?_<;>refine Yaa.s ?_ (h:=gv)<;>refine OD.n2 8 10 ?_ ?_<;>(first|refine Yaa.at 8 ?_<;>refine ZaN hcls Tryz.func84 ?_<;>refine OD.n2 9 10 ?_ ?_<;>(first|refine Yaa.at 9 ?_<;>refine Yaa.s ?_ (h:=Yp6)<;>refine Zbh 10 ?_<;>(refine Zac 11 ?_;refine Zau ?_;refine OL.nil ?_;refine Zab ?_)<;>refine Zaa ?_|refine Yaa.at 10 ?_<;>refine ZaC ?_<;>refine Zai 9 ?_ (h:=Yp6)<;>(refine Zac 11 ?_;refine Zau ?_;refine OL.nil ?_;refine Zab ?_)<;>refine Zaa ?_)|refine Yaa.at 10 ?_<;>refine ZaC ?_<;>refine Zah 8 hcls Tryz.func84 ?_<;>refine Zai 9 ?_ (h:=Yp6)<;>(refine Zac 11 ?_;refine Zau ?_;refine OL.nil ?_;refine Zab ?_)<;>refine Zaa ?_)|refine Yaa.at 10 ?_<;>refine ZaC ?_<;>refine Zai 7 ?_<;>refine Zah 8 hcls Tryz.func84 ?_<;>refine Zai 9 ?_ (h:=Yp6)<;>(refine Zac 11 ?_;refine Zau ?_;refine OL.nil ?_;refine Zab ?_)<;>refine Zaa ?_)|refine Yaa.at 10 ?_<;>refine ZaC ?_<;>refine Zai 5 ?_<;>refine ZaL 22 (LE.int hxe) ?_<;>refine Zao 6 ?_<;>refine Zai 7 ?_<;>refine Zah 8 hcls Tryz.func84 ?_<;>refine Zai 9 ?_ (h:=Yp6)<;>(refine Zac 11 ?_;refine Zau ?_;refine OL.nil ?_;refine Zab ?_)<;>refine Zaa ?_)|refine Yaa.at 5 ?_<;>refine Yaa.s ?_ (h:=gv)<;>refine ZaL 22 (LE.int hxe) ?_<;>refine OD.n2 1 10 ?_ ?_<;>(first|refine Yaa.at 1 ?_<;>refine Yaa.s ?_ (h:=gv)<;>refine Zao 6 ?_<;>refine OD.n2 7 10 ?_ ?_<;>(first|refine Yaa.at 7 ?_<;>refine Yaa.s ?_ (h:=gv)<;>refine OD.n2 8 10 ?_ ?_<;>(first|refine Yaa.at 8 ?_<;>refine ZaN hcls Tryz.func84 ?_<;>refine OD.n2 9 10 ?_ ?_<;>(first|refine Yaa.at 9 ?_<;>refine Yaa.s ?_ (h:=Yp6)<;>refine Zbh 10 ?_<;>(refine Zac 11 ?_;refine Zau ?_;refine OL.nil ?_;refine Zab ?_)<;>refine Zaa ?_|refine Yaa.at 10 ?_<;>refine ZaC ?_<;>refine Zai 9 ?_ (h:=Yp6)<;>(refine Zac 11 ?_;refine Zau ?_;refine OL.nil ?_;refine Zab ?_)<;>refine Zaa ?_)|refine Yaa.at 10 ?_<;>refine ZaC ?_<;>refine Zah 8 hcls Tryz.func84 ?_<;>refine Zai 9 ?_ (h:=Yp6)<;>(refine Zac 11 ?_;refine Zau ?_;refine OL.nil ?_;refine Zab ?_)<;>refine Zaa ?_)|refine Yaa.at 10 ?_<;>refine ZaC ?_<;>refine Zai 7 ?_<;>refine Zah 8 hcls Tryz.func84 ?_<;>refine Zai 9 ?_ (h:=Yp6)<;>(refine Zac 11 ?_;refine Zau ?_;refine OL.nil ?_;refine Zab ?_)<;>refine Zaa ?_)|refine Yaa.at 10 ?_<;>refine ZaC ?_<;>refine Zai 1 ?_<;>refine Zao 6 ?_<;>refine Zai 7 ?_<;>refine Zah 8 hcls Tryz.func84 ?_<;>refine Zai 9 ?_ (h:=Yp6)<;>(refine Zac 11 ?_;refine Zau ?_;refine OL.nil ?_;refine Zab ?_)<;>refine Zaa ?_)|refine Yaa.at 10 ?_<;>refine ZaC ?_<;>refine OD.n2 1 5 ?_ ?_<;>(first|refine Yaa.at 1 ?_<;>refine Yaa.s ?_ (h:=gv)<;>refine Zai 5 ?_<;>refine ZaL 22 (LE.int hxe) ?_<;>refine Zao 6 ?_<;>refine Zai 7 ?_<;>refine Zah 8 hcls Tryz.func84 ?_<;>refine Zai 9 ?_ (h:=Yp6)<;>(refine Zac 11 ?_;refine Zau ?_;refine OL.nil ?_;refine Zab ?_)<;>refine Zaa ?_|refine Yaa.at 5 ?_<;>refine Yaa.s ?_ (h:=gv)<;>refine ZaL 22 (LE.int hxe) ?_<;>refine Zai 1 ?_<;>refine Zao 6 ?_<;>refine Zai 7 ?_<;>refine Zah 8 hcls Tryz.func84 ?_<;>refine Zai 9 ?_ (h:=Yp6)<;>(refine Zac 11 ?_;refine Zau ?_;refine OL.nil ?_;refine Zab ?_)<;>refine Zaa ?_)))
   all_goals exact ZaP [0,1,2,3]
  refine goW ?_;refine ZbO 3 1 63 2 ?_;refine Zat (fun j:Nat=>[(2,ints (Yd1 rs)),(3,.ep (YbB p) 0),(4,.ep [ints W] 0),(7,.hs 2),(8,V.int k),(9,.bp 3 0),(10,V.int ((j:Int)+1))]) (fun j=>[.dead,.dead,.gs false 89 2 none (ob1.map obA),.cb 89 [V.int W[x],.hs 4],.gs false 63 2 none (((ss.take j).map vw).map Ycb)]) (fun j=>j≤n) (fun j=>n-j) 0 [0,1,2,3,4] (Nat.zero_le _) ?_;rintro j hj;by_cases hjl:j < n
  ·have hvj:=hvj j hjl;have hlen:((ss.take j).map vw).length≤1000:=by rw [List.length_map,List.length_take];omega
   have e:((ss.take j).map vw).map Ycb++[Ycb (vw (W[x+1+j]'(hxj j hjl)))]=((ss.take (j+1)).map vw).map Ycb:=by rw [Yab (show j < ss.length by omega),List.map_append,List.map_append,← hsg j hjl (by omega)];rfl
   generalize (ss.take j).map vw=gj at *
   have hwi:∀ (i:Nat) (h:i < W.length),i=x+1+j→W[i]=W[x+1+j]'(hxj j hjl):=fun i h e=>by subst e;rfl
   refine goW ?_;refine OL.c hsz Tryz.func28 ?_;refine goW ?_;refine TC.rebase fun B3 hB3 hub hf=>?_;refine ZaO [(2,ints (Yd1 rs)),(3,.ep (YbB p) 0),(4,.ep [ints W] 0),(7,.hs 2),(8,V.int k),(9,.bp 3 0),(10,V.int ((j:Int)+1))] [.dead,.dead,.gs false 89 2 none (ob1.map obA),.cb 89 [V.int W[x],.hs 5],.dead,.gs false 63 2 none (gj.map Ycb++[Ycb (vw (W[x+1+j]'(hxj j hjl)))])] ?_ ?_
   ·(refine Zbi (id:=9) [(3,1,.hs 4)] 16 19 ?_<;>refine Zaq 0 ?_<;>refine ZaQ 1 ?_<;>refine Zaq 3 ?_<;>refine Zaq 5 ?_<;>refine Zaq 6 ?_<;>refine Zaq 7 ?_<;>refine Zaq 9 ?_<;>refine Zaq 13 ?_)
    all_goals (with_reducible refine Zck 2 4 8 ?_ ?_ ?_)<;>(first|(with_reducible refine NZ.at 2 ?_)<;>(have t2_:=True.intro)<;>(with_reducible refine NZ.s ?_)|(with_reducible refine NZ.at 4 ?_)<;>(have t4_:=True.intro)<;>(with_reducible refine NZ.s ?_)|(with_reducible refine NZ.at 8 ?_)<;>(have t8_:=True.intro)<;>(with_reducible refine NZ.s ?_<;>refine Zaq 10 ?_)|fail)
    all_goals (first|(have _:=t2_;((with_reducible refine OZ.n2 4 8 ?_ ?_)<;>(first|((with_reducible refine NZ.at 4 ?_)<;>(have t4_:=True.intro)<;>(with_reducible refine NZ.s ?_))|((with_reducible refine NZ.at 8 ?_)<;>(have t8_:=True.intro)<;>(with_reducible refine NZ.s ?_<;>refine Zaq 10 ?_))|fail)))|(have _:=t4_;((with_reducible refine OZ.n2 2 8 ?_ ?_)<;>(first|((with_reducible refine NZ.at 2 ?_)<;>(have t2_:=True.intro)<;>(with_reducible refine NZ.s ?_))|((with_reducible refine NZ.at 8 ?_)<;>(have t8_:=True.intro)<;>(with_reducible refine NZ.s ?_<;>refine Zaq 10 ?_<;>refine Zaq 11 ?_))|fail)))|(have _:=t8_;((with_reducible refine OZ.n2 2 4 ?_ ?_)<;>(first|((with_reducible refine NZ.at 2 ?_)<;>(have t2_:=True.intro)<;>(with_reducible refine NZ.s ?_))|((with_reducible refine NZ.at 4 ?_)<;>(have t4_:=True.intro)<;>(with_reducible refine NZ.s ?_<;>refine Zaq 11 ?_))|fail)))|fail)
    all_goals (first|(have _:=t2_;have _:=t4_;((have t8_:=True.intro)<;>(with_reducible refine ZaR 8 ?_<;>refine Zaq 10 ?_<;>refine Zaq 11 ?_)))|(have _:=t2_;have _:=t8_;((have t4_:=True.intro)<;>(with_reducible refine ZaR 4 ?_<;>refine Zaq 11 ?_)))|(have _:=t4_;have _:=t8_;((with_reducible refine OZ.n2 2 12 ?_ ?_)<;>(first|((with_reducible refine NZ.at 2 ?_)<;>(have t2_:=True.intro)<;>(with_reducible refine NZ.s ?_))|((with_reducible refine NZ.at 12 ?_)<;>(have t12_:=True.intro)<;>(with_reducible refine NZ.s ?_))|fail)))|fail)
    all_goals (first|(have _:=t2_;((have t12_:=True.intro)<;>(with_reducible refine ZaR 12 ?_)))|(have _:=t12_;((have t2_:=True.intro)<;>(with_reducible refine ZaR 2 ?_)))|fail)
    all_goals (((with_reducible refine ZaU 14 ?_);refine OL.c hvj Tryz.func74 ?_ (hle:=by exact ⟨.ren rfl,LE.int (hwi _ _ (by omega)),.ren rfl,trivial⟩)<;>(with_reducible refine OL.nil ?_<;>refine ZaI ?_)))
    all_goals (((with_reducible refine ZaU 15 ?_);with_reducible refine OL.lit ?_<;>(with_reducible refine OL.nil ?_<;>refine ZaI ?_)))
    all_goals (((with_reducible refine ZbD 16 ?_);with_reducible refine ZaH ?_<;>(with_reducible refine OL.nil ?_<;>refine ZbE ?_))<;>(with_reducible refine Zaq 17 ?_))
    all_goals (((with_reducible refine ZbD 18 ?_);with_reducible refine OL.store ?_<;>(with_reducible refine OL.nil ?_<;>refine ZbE ?_)))
    all_goals (with_reducible refine Zbj ?_)
    all_goals exact ZaP [0,1,2,3,4,6]
   rw [e];refine Zap ?_;refine YaF ?_;refine Za0 hub ?_;exact Zan (j+1) [0,1,2,3,5] (by omega) (by omega)
  ·obtain rfl:j=n:=by omega
   rw [Yaf (by omega)];refine goW ?_;refine OL.c hsz Tryz.func28 ?_;refine goW ?_;refine Zc8 54 1 ?_;refine goW ?_;exact Zan (k+1) [0,1,6] (by omega) (by omega) (ho:=⟨⟨_,rfl,OE.ren rfl⟩,⟨_,rfl,OE.ren rfl⟩,⟨_,rfl,OE.ren (by rw [hob2,← e1];rfl)⟩,trivial⟩)
end
end Go.Proofs
