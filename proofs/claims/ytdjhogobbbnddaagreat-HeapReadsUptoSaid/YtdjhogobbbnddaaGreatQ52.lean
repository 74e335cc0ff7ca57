/- Lemmas for the claim, part 52; no conditions. -/
import Derived.Test.YtdjhogobbbnddaaGreatQ23
import Derived.Test.YtdjhogobbbnddaaGreatQ19
import Derived.Test.YtdjhogobbbnddaaGreatQ18
import Derived.Test.YtdjhogobbbnddaaGreatQ46
namespace Go.V
open Go Go.W
theorem Yzo {C:Cx} {ρ:Ro} {η:Eta} {X Y:Nat} {x y:Operand} {i j:Int} (hx:ev2 ρ x=some (.raw (.int .i64 i)):=by with_unfolding_all exact rfl) (hy:ev2 ρ y=some (.raw (.int .i64 j)):=by with_unfolding_all exact rfl) (hj:0 < j:=by omega) (h:0≤i∨i % j=0:=by omega) (h0:-9223372036854775808≤i / j:=by omega) (h1:i / j≤9223372036854775807:=by omega) :
  Yaj C.P C.N C.D (.binOp .quo X x y Y) ρ η (V.int (i / j)):=Yq6 hx hy hj h h0 h1
end Go.V
namespace Go.Proofs
open Go Go.W Go.V
section
variable (p:Prg) (hs:Ya9 p.cls) (hcb:Yag p=true)
include hs hcb
theorem Yz2 (W:List Int) (hW:∀ x∈W,YbC x) (hWl:W.length*8≤140737488355328) {st:List Nat} (hst:starts (shp p.cls) W=some st) :
  V.Spec Tryz.prog 73 [Ya0 p,Yaw W] [] (ints (Yd1 (YaU W st))) []:=by
 have h1:=Yep p hs hcb W hW hWl;rw [hst] at h1;simp only [Option.getD_some,Option.isSome_some] at h1;rw [YpU] at h1;have hsl6:=YmN hst;have hcl:(Yd1 st).length=st.length:=by rw [Yd1,List.length_map]
 have hfin:YaU W st=YaU W (st.take st.length):=by rw [List.take_length]
 rw [hfin];have hrl:∀ k,(Yd1 (YaU W (st.take k))).length≤k:=fun k=>by
  rw [Yd1,List.length_map,YaU];have h1:=List.length_filter_le (fun x=>decide (wAt W x / 64=0)) (st.take k);rw [List.length_take] at h1;omega
 refine Se Tryz.func73 rfl rfl rfl fun B hB=>?_;repeat' (first|(with_reducible refine TC.seq ?_)|(with_reducible refine TC.region ?_))
 with_reducible refine OL.box ?_
 with_reducible refine OL.box ?_
 refine Zag 2 ?_;refine Zag 3 ?_;refine goW ?_;refine OL.c h1 Tryz.func83 ?_;refine goW ?_;refine ZaT 7 3 1 ?_;refine Zat (fun k:Nat=>[(3,.ep [ints W] 0),(5,ints (Yd1 st)),(7,.hs 2),(8,V.int k)]) (fun k=>[.dead,.dead,.gs false 3 1 none ((Yd1 (YaU W (st.take k))).map V.int)]) (fun k=>k≤st.length) (fun k=>st.length-k) 0 [0,1,2] (Nat.zero_le _) ?_;rintro k hk;by_cases hkl:k < st.length;rotate_left
 ·obtain rfl:k=st.length:=by omega
  refine goW ?_;refine Za4 4 ?_;exact Zad [] (.ren rfl)
 ·have hxe:(Yd1 st)[k]'(by omega)=((st[k]:Nat):Int):=by simp [Yd1]
  have hxm:st[k]∈st:=List.getElem_mem hkl;have hrk:=hrl k;have hnx:YaU W (st.take (k+1))=YaU W (st.take k)++(if wAt W st[k] / 64=0 then [st[k]] else []):=by
   rw [Yab hkl,YaU,YaU,List.filter_append];congr 1;by_cases h:wAt W st[k] / 64=0
   ·rw [if_pos h,List.filter_cons_of_pos (by simpa using h)];rfl
   ·rw [if_neg h,List.filter_cons_of_neg (by simpa using h)];rfl
  obtain ⟨hx1,hxl,hxd⟩:=Yc7 hst hxm;have hke:Yd1 (YaU W (st.take k))++(if wAt W st[k] / 64=0 then [((st[k]:Nat):Int)] else [])=Yd1 (YaU W (st.take (k+1))):=by
   rw [hnx];unfold Yd1;rw [List.map_append];split<;>rfl
  generalize hr2:Yd1 (YaU W (st.take (k+1)))=r2 at *
  generalize Yd1 (YaU W (st.take k))=r1 at *
  generalize st[k]=x at *
  obtain ⟨hw0,n,hsh,hxn⟩:=Ybd.1 hxd;have hwx:wAt W x=W[x]:=by rw [wAt,List.getD_eq_getElem?_getD,List.getElem?_eq_getElem hxl];rfl
  rw [hwx] at hw0;have hfw:=YdS W[x] hw0 (hW W[x] (List.getElem_mem hxl)).2;rw [hwx] at hke;by_cases hz:W[x] / 64=0
  ·rw [if_pos hz] at hke;rw [hz] at hfw;have e1:r1.map V.int++[V.int (x:Int)]=r2.map V.int:=by rw [← hke,List.map_append];rfl
   refine goW ?_;(refine Zal (id:=6) true 10 10 ?_<;>refine Zaf 0 1 2 3 ?_<;>refine OD.st 4 ?_<;>refine OD.st 5 ?_ (h:=(by with_unfolding_all exact gv))<;>refine ZaL 26 (LE.int hxe) ?_<;>refine Zae 6 7 ?_<;>refine Zah 8 hfw Tryz.func85 ?_<;>refine OD.st 9 ?_<;>refine Zaa ?_)
   refine goW ?_;rw [hxe];refine goW ?_;rw [e1,← hr2];exact Zan (k+1) [0,1,4] (by omega) (by omega)
  ·rw [if_neg hz,List.append_nil] at hke;rw [hke,← hr2];refine goW ?_;(refine Zal (id:=6) true 10 10 ?_<;>refine Zaf 0 1 2 3 ?_<;>refine OD.st 4 ?_<;>refine OD.st 5 ?_ (h:=(by with_unfolding_all exact gv))<;>refine ZaL 26 (LE.int hxe) ?_<;>refine Zae 6 7 ?_<;>refine Zah 8 hfw Tryz.func85 ?_<;>refine OD.st 9 ?_<;>refine Zaa ?_)
   refine goW ?_;exact Zan (k+1) [0,1,2] (by omega) (by omega)
end
theorem YyI {sh:Int→Option Nat} (W:List Int) (hW:∀ x∈W,YbC x) {st:List Nat} (hG:GH sh W st) (rs:List Nat) (hrl:rs.length≤600) (w:Int) (hwi:YbC w) (hw:okW st w=true) (hm:Yax W w≠0→Yax W w∈rs) :
  V.Spec Tryz.prog 74 [Yaw W,V.int w,ints (Yd1 rs)] [] (Ycb (Yrj W (YmY rs) w)) []:=by
 have h0:=Ymi w;unfold Yrj;by_cases ho:w.tmod 2≠0
 ·have hz:w≠0:=fun e=>ho (by rw [e];rfl)
  rw [decide_eq_true ho] at h0;rw [if_neg hz,if_pos ho];have h2:w % 2≠0:=fun h=>ho (YcG.2 h)
  have hb:-1999999999≤w∧w≤2000000001:=by
   rw [okW,if_pos h2] at hw;simpa only [Bool.and_eq_true,decide_eq_true_eq] using hw
  have h1:=YcL ((w-1) / 2);refine Se Tryz.func74 rfl rfl rfl fun B hB=>?_;repeat' (first|(with_reducible refine TC.seq ?_)|(with_reducible refine TC.region ?_))
  with_reducible refine OL.box ?_
  refine Zag 3 ?_;refine goW ?_;refine OL.c h0 Tryz.func105 ?_;refine goW ?_;refine OL.quo ?_;refine goW ?_;refine OL.c h1 Tryz.func62 ?_;refine goW ?_;exact Zba [] (.ren rfl)
 ·rw [decide_eq_false ho] at h0;by_cases hz:w=0
  ·subst hz;rw [if_pos rfl];refine Se Tryz.func74 rfl rfl rfl fun B hB=>?_;repeat' (first|(with_reducible refine TC.seq ?_)|(with_reducible refine TC.region ?_))
   with_reducible refine OL.box ?_
   refine Zag 3 ?_;refine goW ?_;refine OL.c h0 Tryz.func105 ?_;refine goW ?_;refine OL.c YrD Tryz.func121 ?_;refine goW ?_;exact Zba [] (.ren rfl)
  ·rw [if_neg hz,if_neg ho];have hw1:=hwi.2;have h2:¬ w % 2≠0:=fun h=>ho fun h3=>h (YcG.1 h3)
   have hn:¬ (w % 2≠0∨w=0):=fun h=>h.elim h2 hz
   obtain ⟨hw0,hxm⟩:0 < w∧(w / 2).toNat∈st:=by
    rcases YlJ hw with h|⟨_,h3,h4⟩
    ·exact (hn h).elim
    ·exact ⟨h3,h4⟩
   have hob:=hG.obj hw hn;have hobe:Yax W w=real W (w / 2).toNat:=by rw [Yax,if_neg hn]
   have hrr:=Yrz W hW st hG _ hxm;rw [← hobe,show (((w / 2).toNat:Nat):Int)=w / 2 by omega] at hrr;rw [YmY,show (Yax W w:Int).toNat=Yax W w by omega];have hmem:Yax W w∈rs:=hm (by have:=hob.2.2;omega);obtain ⟨ix,hix,hil,hat,hbef⟩:∃ ix,rs.idxOf (Yax W w)=ix∧∃ hil:ix < rs.length,rs[ix]=Yax W w∧∀ j (hj:j < rs.length),j < ix→rs[j]≠Yax W w:=
    ⟨_,rfl,List.idxOf_lt_length_iff.2 hmem,List.getElem_idxOf _,fun j _ hji=>by simpa using List.not_of_lt_findIdx hji⟩
   rw [hix];have hcg:∀ j (hj:j < rs.length),(Yd1 rs)[j]'(by rw [Yd1,List.length_map];exact hj)=((rs[j]:Nat):Int):=fun j hj=>by simp [Yd1]
   have hcl:(Yd1 rs).length=rs.length:=by rw [Yd1,List.length_map]
   generalize Yax W w=r at *
   refine Se Tryz.func74 rfl rfl rfl fun B hB=>?_;repeat' (first|(with_reducible refine TC.seq ?_)|(with_reducible refine TC.region ?_))
   with_reducible refine OL.box ?_
   refine Zag 3 ?_;refine goW ?_;refine OL.c h0 Tryz.func105 ?_;refine goW ?_;refine Zat (fun k:Nat=>[(1,V.int w),(2,ints (Yd1 rs)),(3,.ep [ints W] 0),(6,.bp 1 0),(7,V.int k)]) (fun _=>[.dead,.cb 63 [V.int 0,V.int 0]]) (fun k=>k≤ix) (fun k=>ix-k) 0 [0,1] (Nat.zero_le _) ?_;rintro k hk;by_cases hki:k=ix
   ·subst hki;have hck:=hcg k hil;rw [hat] at hck;refine goW ?_;(refine Zal (id:=8) true 9 9 ?_<;>refine Zae 0 1 ?_<;>refine OD.st 2 ?_<;>refine OD.st 3 ?_ (h:=(by with_unfolding_all exact gv))<;>refine ZaL 26 (LE.int hck) ?_<;>refine Zae 4 5 ?_<;>refine OD.st 6 ?_ (h:=Yzo)<;>refine Zah 7 hrr Tryz.func30 ?_<;>refine OD.st 8 ?_<;>refine Zaa ?_)
    refine goW ?_;exact Zba [] (.ren rfl)
   ·have hck:=hcg k (by omega);have hne:=hbef k (by omega) (by omega);generalize rs[k]'(by omega)=y at *
    refine goW ?_;(refine Zal (id:=8) true 9 9 ?_<;>refine Zae 0 1 ?_<;>refine OD.st 2 ?_<;>refine OD.st 3 ?_ (h:=(by with_unfolding_all exact gv))<;>refine ZaL 26 (LE.int hck) ?_<;>refine Zae 4 5 ?_<;>refine OD.st 6 ?_ (h:=Yzo)<;>refine Zah 7 hrr Tryz.func30 ?_<;>refine OD.st 8 ?_<;>refine Zaa ?_)
    refine goW ?_;exact Zan (k+1) [0,1] (by omega) (by omega)
section
variable (p:Prg) (hs:Ya9 p.cls) (hcb:Yag p=true)
include hs hcb
set_option maxHeartbeats 4000000 in
theorem YyL (W:List Int) (hW:∀ x∈W,YbC x) {st:List Nat} (hG:GH (shp p.cls) W st) (rs:List Nat) (hrl:rs.length≤600) (hre:∀ x∈rs,x∈st∧wAt W x / 64=0) (hnx:∀ x∈rs,∀ w∈slotsW (shp p.cls) W x,Yax W w≠0→Yax W w∈rs) :
  V.Spec Tryz.prog 75 [Ya0 p,Yaw W,ints (Yd1 rs)] [] (Yef (rs.map (Ylw (shp p.cls) W (YmY rs)))) []:=by
 obtain ⟨hsl,hpl,hf⟩:=YbO hcb;have hsl6:=YmN hG.eq;have hWl6:=(Yah hG.eq).2.1;have hvl:=fun w h1 h2 h3=>YyI W hW hG rs hrl w h1 h2 h3
 have hcg:∀ j (hj:j < rs.length),(Yd1 rs)[j]'(by rw [Yd1,List.length_map];exact hj)=((rs[j]:Nat):Int):=fun j hj=>by simp [Yd1]
 have hcl:(Yd1 rs).length=rs.length:=by rw [Yd1,List.length_map]
 rw [show rs.map (Ylw (shp p.cls) W (YmY rs))=rs.map fun x=>(wAt W x,(slotsW (shp p.cls) W x).map (Yrj W (YmY rs))) from rfl];generalize Yrj W (YmY rs)=vw at *
 refine Se Tryz.func75 rfl rfl rfl fun B hB=>?_;repeat' (first|(with_reducible refine TC.seq ?_)|(with_reducible refine TC.region ?_))
 with_reducible refine OL.box ?_
 with_reducible refine OL.box ?_
 refine Zag 3 ?_;refine Zag 4 ?_;refine goW ?_;refine ZaT 7 89 2 ?_;refine Zat (fun k:Nat=>[(2,ints (Yd1 rs)),(3,.ep (YbB p) 0),(4,.ep [ints W] 0),(7,.hs 2),(8,V.int k)]) (fun k=>[.dead,.dead,.gs false 89 2 none (((rs.take k).map fun x=>(wAt W x,(slotsW (shp p.cls) W x).map vw)).map obA)]) (fun k=>k≤rs.length) (fun k=>rs.length-k) 0 [0,1,2] (Nat.zero_le _) ?_;rintro k hk;by_cases hkl:k < rs.length;rotate_left
 ·rw [Yaf (by omega)];refine goW ?_;refine Za4 6 ?_;exact Zad [] (.ren rfl)
 ·have hxe:=hcg k hkl;obtain ⟨hxm,hxr⟩:=hre rs[k] (List.getElem_mem _);have hnx:=hnx rs[k] (List.getElem_mem _);have e1:((rs.take k).map fun x=>(wAt W x,(slotsW (shp p.cls) W x).map vw)).map obA++[obA (wAt W rs[k],(slotsW (shp p.cls) W rs[k]).map vw)]=((rs.take (k+1)).map fun x=>(wAt W x,(slotsW (shp p.cls) W x).map vw)).map obA:=by rw [Yab hkl,List.map_append,List.map_append];rfl
  have hl1:((rs.take k).map fun x=>(wAt W x,(slotsW (shp p.cls) W x).map vw)).length≤1000:=by rw [List.length_map,List.length_take];omega
  generalize hob2:((rs.take (k+1)).map fun x=>(wAt W x,(slotsW (shp p.cls) W x).map vw))=ob2 at *
  generalize ((rs.take k).map fun x=>(wAt W x,(slotsW (shp p.cls) W x).map vw))=ob1 at *
  generalize rs[k]=x at *
  obtain ⟨hx1,hxl,hxd⟩:=hG.hd hxm;obtain ⟨hw0,n,hsh,hxn⟩:=Ybd.1 hxd;have hwx:wAt W x=W[x]:=by rw [wAt,List.getD_eq_getElem?_getD,List.getElem?_eq_getElem hxl];rfl
  have hmd:W[x] % 64=W[x]:=by rw [← hwx];exact hG.cls hxm hxr
  have hxj:∀ j,j < n→x+1+j < W.length:=fun j hj=>by omega
  have hszw:szW (shp p.cls) (wAt W x)=n:=by rw [szW,hsh];rfl
  have hsn:(slotsW (shp p.cls) W x).length=n:=by rw [slotsW,List.length_take,List.length_drop,hszw];omega
  have hsg:∀ j (hj:j < n) (h:j < (slotsW (shp p.cls) W x).length),(slotsW (shp p.cls) W x)[j]=W[x+1+j]'(hxj j hj):=fun j hj h=>by simp [slotsW]
  have hok:∀ j (hj:j < n),okW st (W[x+1+j]'(hxj j hj))=true:=fun j hj=>by
   rw [← hsg j hj (by omega)];exact (hG.slot hxm (List.getElem_mem _)).1
  rw [hwx] at hw0 hsh e1;rw [hmd] at hsh;have hcls:=Ye4 W[x] hw0;rw [hmd] at hcls;obtain ⟨c,hc,hc3,hccl,hn⟩:=YcS hsh;have hsz:=YdI p hs hf (by omega) hc3 (by omega);rw [Ya4 hcb,← hn,← hc] at hsz;have hvj:=fun j (hj:j < n)=>hvl _ (hW _ (List.getElem_mem (hxj j hj))) (hok j hj) (hnx _ (by rw [← hsg j hj (by omega)];exact List.getElem_mem _))
  generalize hss:slotsW (shp p.cls) W x=ss at *
  refine goW ?_;refine ZaO [(2,ints (Yd1 rs)),(3,.ep (YbB p) 0),(4,.ep [ints W] 0),(7,.hs 2),(8,V.int k),(9,.bp 3 0)] [.dead,.dead,.gs false 89 2 none (ob1.map obA),.cb 89 [V.int W[x],nilA]] ?_ ?_
  ·(refine Zal (id:=5) false 10 12 ?_<;>refine Zao 0 ?_<;>refine Zao 2 ?_<;>refine Zao 3 ?_<;>refine Zao 4 ?_<;>refine ZaJ 1 5 10 ?_ ?_ ?_<;>(first|refine Yaa.at 1 ?_<;>refine Yaa.s ?_ (h:=gv)<;>refine OD.n2 5 10 ?_ ?_<;>(first|refine Yaa.at 5 ?_<;>refine Yaa.s ?_ (h:=gv)<;>refine ZaL 22 (LE.int hxe) ?_<;>refine Zao 6 ?_<;>refine OD.n2 7 10 ?_ ?_<;>(first|refine Yaa.at 7 ?_<;>refine Yaa.s ?_ (h:=gv)<;>refine OD.n2 8 10 ?_ ?_<;>(first|refine Yaa.at 8 ?_<;>refine ZaN hcls Tryz.func84 ?_<;>refine OD.n2 9 10 ?_ ?_<;>(first|refine Yaa.at 9 ?_<;>refine Yaa.s ?_ (h:=Yp6)<;>refine Zbh 10 ?_<;>(refine Zac 11 ?_;refine Zau ?_;refine OL.nil ?_;refine Zab ?_)<;>refine Zaa ?_|refine Yaa.at 10 ?_<;>refine ZaC ?_<;>refine Zai 9 ?_ (h:=Yp6)<;>(refine Zac 11 ?_;refine Zau ?_;refine OL.nil ?_;refine Zab ?_)<;>refine Zaa ?_)|refine Yaa.at 10 ?_<;>refine ZaC ?_<;>refine Zah 8 hcls Tryz.func84 ?_<;>refine Zai 9 ?_ (h:=Yp6)<;>(refine Zac 11 ?_;refine Zau ?_;refine OL.nil ?_;refine Zab ?_)<;>refine Zaa ?_)|refine Yaa.at 10 ?_<;>refine ZaC ?_<;>refine Zai 7 ?_<;>refine Zah 8 hcls Tryz.func84 ?_<;>refine Zai 9 ?_ (h:=Yp6)<;>(refine Zac 11 ?_;refine Zau ?_;refine OL.nil ?_;refine Zab ?_)<;>refine Zaa ?_)|refine Yaa.at 10 ?_<;>refine ZaC ?_<;>refine Zai 5 ?_<;>refine ZaL 22 (LE.int hxe) ?_<;>refine Zao 6 ?_<;>refine Zai 7 ?_<;>refine Zah 8 hcls Tryz.func84 ?_<;>refine Zai 9 ?_ (h:=Yp6)<;>(refine Zac 11 ?_;refine Zau ?_;refine OL.nil ?_;refine Zab ?_)<;>refine Zaa ?_)|refine Yaa.at 5 ?_<;>refine Yaa.s ?_ (h:=gv)<;>refine ZaL 22 (LE.int hxe) ?_<;>refine OD.n2 1 10 ?_ ?_<;>(first|refine Yaa.at 1 ?_<;>refine Yaa.s ?_ (h:=gv)<;>refine Zao 6 ?_<;>refine OD.n2 7 10 ?_ ?_<;>(first|refine Yaa.at 7 ?_<;>refine Yaa.s ?_ (h:=gv)<;>refine OD.n2 8 10 ?_ ?_<;>(first|refine Yaa.at 8 ?_<;>refine ZaN hcls Tryz.func84 ?_<;>refine OD.n2 9 10 ?_ ?_<;>(first|refine Yaa.at 9 ?_<;>refine Yaa.s ?_ (h:=Yp6)<;>refine Zbh 10 ?_<;>(refine Zac 11 ?_;refine Zau ?_;refine OL.nil ?_;refine Zab ?_)<;>refine Zaa ?_|refine Yaa.at 10 ?_<;>refine ZaC ?_<;>refine Zai 9 ?_ (h:=Yp6)<;>(refine Zac 11 ?_;refine Zau ?_;refine OL.nil ?_;refine Zab ?_)<;>refine Zaa ?_)|refine Yaa.at 10 ?_<;>refine ZaC ?_<;>refine Zah 8 hcls Tryz.func84 ?_<;>refine Zai 9 ?_ (h:=Yp6)<;>(refine Zac 11 ?_;refine Zau ?_;refine OL.nil ?_;refine Zab ?_)<;>refine Zaa ?_)|refine Yaa.at 10 ?_<;>refine ZaC ?_<;>refine Zai 7 ?_<;>refine Zah 8 hcls Tryz.func84 ?_<;>refine Zai 9 ?_ (h:=Yp6)<;>(refine Zac 11 ?_;refine Zau ?_;refine OL.nil ?_;refine Zab ?_)<;>refine Zaa ?_)|refine Yaa.at 10 ?_<;>refine ZaC ?_<;>refine Zai 1 ?_<;>refine Zao 6 ?_<;>refine Zai 7 ?_<;>refine Zah 8 hcls Tryz.func84 ?_<;>refine Zai 9 ?_ (h:=Yp6)<;>(refine Zac 11 ?_;refine Zau ?_;refine OL.nil ?_;refine Zab ?_)<;>refine Zaa ?_)|refine Yaa.at 10 ?_<;>refine ZaC ?_<;>refine OD.n2 1 5 ?_ ?_<;>(first|refine Yaa.at 1 ?_<;>refine Yaa.s ?_ (h:=gv)<;>refine Zai 5 ?_<;>refine ZaL 22 (LE.int hxe) ?_<;>refine Zao 6 ?_<;>refine Zai 7 ?_<;>refine Zah 8 hcls Tryz.func84 ?_<;>refine Zai 9 ?_ (h:=Yp6)<;>(refine Zac 11 ?_;refine Zau ?_;refine OL.nil ?_;refine Zab ?_)<;>refine Zaa ?_|refine Yaa.at 5 ?_<;>refine Yaa.s ?_ (h:=gv)<;>refine ZaL 22 (LE.int hxe) ?_<;>refine Zai 1 ?_<;>refine Zao 6 ?_<;>refine Zai 7 ?_<;>refine Zah 8 hcls Tryz.func84 ?_<;>refine Zai 9 ?_ (h:=Yp6)<;>(refine Zac 11 ?_;refine Zau ?_;refine OL.nil ?_;refine Zab ?_)<;>refine Zaa ?_)))
   all_goals exact ZaP [0,1,2,3]
  refine goW ?_;refine ZbO 3 1 63 2 ?_;refine Zat (fun j:Nat=>[(2,ints (Yd1 rs)),(3,.ep (YbB p) 0),(4,.ep [ints W] 0),(7,.hs 2),(8,V.int k),(9,.bp 3 0),(10,V.int ((j:Int)+1))]) (fun j=>[.dead,.dead,.gs false 89 2 none (ob1.map obA),.cb 89 [V.int W[x],.hs 4],.gs false 63 2 none (((ss.take j).map vw).map Ycb)]) (fun j=>j≤n) (fun j=>n-j) 0 [0,1,2,3,4] (Nat.zero_le _) ?_;rintro j hj;by_cases hjl:j < n
  ·have hvj:=hvj j hjl;have hlen:((ss.take j).map vw).length≤1000:=by rw [List.length_map,List.length_take];omega
   have e:((ss.take j).map vw).map Ycb++[Ycb (vw (W[x+1+j]'(hxj j hjl)))]=((ss.take (j+1)).map vw).map Ycb:=by rw [Yab (show j < ss.length by omega),List.map_append,List.map_append,← hsg j hjl (by omega)];rfl
   generalize (ss.take j).map vw=gj at *
   have hwi:∀ (i:Nat) (h:i < W.length),i=x+1+j→W[i]=W[x+1+j]'(hxj j hjl):=fun i h e=>by subst e;rfl
   refine goW ?_;refine OL.c hsz Tryz.func28 ?_;refine goW ?_;refine TC.rebase fun B3 hB3 hub hf=>?_;refine ZaO [(2,ints (Yd1 rs)),(3,.ep (YbB p) 0),(4,.ep [ints W] 0),(7,.hs 2),(8,V.int k),(9,.bp 3 0),(10,V.int ((j:Int)+1))] [.dead,.dead,.gs false 89 2 none (ob1.map obA),.cb 89 [V.int W[x],.hs 5],.dead,.gs false 63 2 none (gj.map Ycb++[Ycb (vw (W[x+1+j]'(hxj j hjl)))])] ?_ ?_
   ·(refine Zbi (id:=9) [(3,1,.hs 4)] 16 19 ?_<;>refine Zaq 0 ?_<;>refine ZaQ 1 ?_<;>refine Zaq 3 ?_<;>refine Zaq 5 ?_<;>refine Zaq 6 ?_<;>refine Zaq 7 ?_<;>refine Zaq 9 ?_<;>refine Zaq 13 ?_)
    all_goals (with_reducible refine Zck 2 4 8 ?_ ?_ ?_)<;>(first|(with_reducible refine NZ.at 2 ?_)<;>(have t2_:=True.intro)<;>(with_reducible refine NZ.s ?_)|(with_reducible refine NZ.at 4 ?_)<;>(have t4_:=True.intro)<;>(with_reducible refine NZ.s ?_)|(with_reducible refine NZ.at 8 ?_)<;>(have t8_:=True.intro)<;>(with_reducible refine NZ.s ?_<;>refine Zaq 10 ?_)|fail)
    all_goals (first|(have _:=t2_;((with_reducible refine OZ.n2 4 8 ?_ ?_)<;>(first|((with_reducible refine NZ.at 4 ?_)<;>(have t4_:=True.intro)<;>(with_reducible refine NZ.s ?_))|((with_reducible refine NZ.at 8 ?_)<;>(have t8_:=True.intro)<;>(with_reducible refine NZ.s ?_<;>refine Zaq 10 ?_))|fail)))|(have _:=t4_;((with_reducible refine OZ.n2 2 8 ?_ ?_)<;>(first|((with_reducible refine NZ.at 2 ?_)<;>(have t2_:=True.intro)<;>(with_reducible refine NZ.s ?_))|((with_reducible refine NZ.at 8 ?_)<;>(have t8_:=True.intro)<;>(with_reducible refine NZ.s ?_<;>refine Zaq 10 ?_<;>refine Zaq 11 ?_))|fail)))|(have _:=t8_;((with_reducible refine OZ.n2 2 4 ?_ ?_)<;>(first|((with_reducible refine NZ.at 2 ?_)<;>(have t2_:=True.intro)<;>(with_reducible refine NZ.s ?_))|((with_reducible refine NZ.at 4 ?_)<;>(have t4_:=True.intro)<;>(with_reducible refine NZ.s ?_<;>refine Zaq 11 ?_))|fail)))|fail)
    all_goals (first|(have _:=t2_;have _:=t4_;((have t8_:=True.intro)<;>(with_reducible refine ZaR 8 ?_<;>refine Zaq 10 ?_<;>refine Zaq 11 ?_)))|(have _:=t2_;have _:=t8_;((have t4_:=True.intro)<;>(with_reducible refine ZaR 4 ?_<;>refine Zaq 11 ?_)))|(have _:=t4_;have _:=t8_;((with_reducible refine OZ.n2 2 12 ?_ ?_)<;>(first|((with_reducible refine NZ.at 2 ?_)<;>(have t2_:=True.intro)<;>(with_reducible refine NZ.s ?_))|((with_reducible refine NZ.at 12 ?_)<;>(have t12_:=True.intro)<;>(with_reducible refine NZ.s ?_))|fail)))|fail)
    all_goals (first|(have _:=t2_;((have t12_:=True.intro)<;>(with_reducible refine ZaR 12 ?_)))|(have _:=t12_;((have t2_:=True.intro)<;>(with_reducible refine ZaR 2 ?_)))|fail)
    all_goals (((with_reducible refine ZaU 14 ?_);refine OL.c hvj Tryz.func74 ?_ (hle:=by exact ⟨.ren rfl,LE.int (hwi _ _ (by omega)),.ren rfl,trivial⟩)<;>(with_reducible refine OL.nil ?_<;>refine ZaI ?_)))
    all_goals (((with_reducible refine ZaU 15 ?_);with_reducible refine OL.lit ?_<;>(with_reducible refine OL.nil ?_<;>refine ZaI ?_)))
    all_goals (((with_reducible refine ZbD 16 ?_);with_reducible refine ZaH ?_<;>(with_reducible refine OL.nil ?_<;>refine ZbE ?_))<;>(with_reducible refine Zaq 17 ?_))
    all_goals (((with_reducible refine ZbD 18 ?_);with_reducible refine OL.store ?_<;>(with_reducible refine OL.nil ?_<;>refine ZbE ?_)))
    all_goals (with_reducible refine Zbj ?_)
    all_goals exact ZaP [0,1,2,3,4,6]
   rw [e];refine Zap ?_;refine YaF ?_;refine Za0 hub ?_;exact Zan (j+1) [0,1,2,3,5] (by omega) (by omega)
  ·obtain rfl:j=n:=by omega
   rw [Yaf (by omega)];refine goW ?_;refine OL.c hsz Tryz.func28 ?_;refine goW ?_;refine Zc8 54 1 ?_;refine goW ?_;exact Zan (k+1) [0,1,6] (by omega) (by omega) (ho:=⟨⟨_,rfl,OE.ren rfl⟩,⟨_,rfl,OE.ren rfl⟩,⟨_,rfl,OE.ren (by rw [hob2,← e1];rfl)⟩,trivial⟩)
end
section
variable (p:Prg) (hs:Ya9 p.cls) (hpk:∀ x∈p.nodes,x.2.2.length*8≤140737488355328) (W:List Int) (hW:∀ x∈W,YbC x) (hWl:W.length*8≤140737488355328)
include hs hpk hW hWl
set_option maxHeartbeats 4000000 in
theorem YAb (ws:List Int) (hwi:∀ w∈ws,YbC w) (hwl:ws.length*16≤140737488355328) :
  V.Spec Tryz.prog 19 [Ya0 p,Yaw W,ints ws] [] (.tp [Yef (Yku p W ws).1,Ych (Yku p W ws).2.1,V.int (Yku p W ws).2.2]) []:=by
 have h1:=Ylk p hs hpk W hW hWl;unfold Yku
 cases hg:Ybt p W with
 | false =>
   rw [hg] at h1;simp only [Bool.false_and,Bool.false_eq_true,if_false];refine Se Tryz.func19 rfl rfl rfl fun B hB=>?_;repeat' (first|(with_reducible refine TC.seq ?_)|(with_reducible refine TC.region ?_))
   with_reducible refine OL.box ?_
   with_reducible refine OL.box ?_
   refine Zag 3 ?_;refine Zag 4 ?_;refine goW ?_;refine OL.c h1 Tryz.func26 ?_;refine goW ?_;exact Zb8 [] (.nil (by decide)) (.nil (by decide)) (.ren rfl)
 | true =>
   rw [hg] at h1;obtain ⟨hp,_,st,hst,hG⟩:=Ybe hg;have hcb:=YaC hp;have hsl6:=YmN hG.eq;have hrl:(YaU W st).length≤600:=Nat.le_trans (List.length_filter_le _ _) (by omega);have hse:Yee p W=st:=by rw [Yee,hst];rfl
   have h2:=Yqe p hs hcb W hW hWl ws hwi (by omega);rw [Bool.true_and];rw [hse] at h2 ⊢
   cases hv:ws.all (okW st) with
   | false =>
     rw [hv] at h2;simp only [Bool.false_eq_true,if_false];refine Se Tryz.func19 rfl rfl rfl fun B hB=>?_;repeat' (first|(with_reducible refine TC.seq ?_)|(with_reducible refine TC.region ?_))
     with_reducible refine OL.box ?_
     with_reducible refine OL.box ?_
     refine Zag 3 ?_;refine Zag 4 ?_;refine goW ?_;refine OL.c h1 Tryz.func26 ?_;refine goW ?_;refine OL.c h2 Tryz.func27 ?_;refine goW ?_;exact Zb8 [] (.nil (by decide)) (.nil (by decide)) (.ren rfl)
   | true =>
     rw [hv] at h2;rw [if_pos rfl];have h3:=Yz2 p hs hcb W hW hWl hst;have hob:∀ w,okW st w=true→Yax W w≠0→Yax W w∈YaU W st:=fun w h1 h2=>List.mem_filter.2 (by have:=hG.re_obj h1 h2;exact ⟨this.1,by simpa using this.2⟩)
     have hrm:∀ x∈YaU W st,x∈st∧wAt W x / 64=0:=fun x hx=>by
      have:=List.mem_filter.1 hx
      exact ⟨this.1,by simpa using this.2⟩
     have h4:=YyL p hs hcb W hW hG (YaU W st) hrl hrm fun x hx w hw=>hob w (hG.slot (hrm x hx).1 hw).1
     have h5:=fun w (hw:w∈ws)=>YyI W hW hG (YaU W st) hrl w (hwi w hw) (List.all_eq_true.1 hv w hw) (hob w (List.all_eq_true.1 hv w hw))
     have hcl:(Yd1 (YaU W st)).length=(YaU W st).length:=by rw [Yd1,List.length_map]
     generalize Yrj W (YmY (YaU W st))=vw at *
     generalize (YaU W st).map (Ylw (shp p.cls) W (YmY (YaU W st)))=tg at *
     generalize Yd1 (YaU W st)=cl at *
     rw [← hcl];by_cases hl:cl.length≤40
     ·rw [if_pos hl];refine Se Tryz.func19 rfl rfl rfl fun B hB=>?_;repeat' (first|(with_reducible refine TC.seq ?_)|(with_reducible refine TC.region ?_))
      with_reducible refine OL.box ?_
      with_reducible refine OL.box ?_
      refine Zag 3 ?_;refine Zag 4 ?_;refine goW ?_;refine OL.c h1 Tryz.func26 ?_;refine goW ?_;refine OL.c h2 Tryz.func27 ?_;refine goW ?_;refine OL.c h3 Tryz.func73 ?_;refine goW ?_;refine ZaT 10 63 2 ?_;refine Zat (fun k:Nat=>[(2,ints ws),(3,.ep (YbB p) 0),(4,.ep [ints W] 0),(9,ints cl),(10,.hs 2),(11,V.int k)]) (fun k=>[.dead,.dead,.gs false 63 2 none (((ws.take k).map vw).map Ycb)]) (fun k=>k≤ws.length) (fun k=>ws.length-k) 0 [0,1,2] (Nat.zero_le _) ?_;rintro k hk;by_cases hkl:k < ws.length
      ·have h5:=h5 ws[k] (List.getElem_mem _);have e:((ws.take k).map vw).map Ycb++[Ycb (vw ws[k])]=((ws.take (k+1)).map vw).map Ycb:=by rw [Yab hkl,List.map_append,List.map_append];rfl
       have hgl:((ws.take k).map vw).length≤k:=by rw [List.length_map,List.length_take];omega
       generalize hg2:(ws.take (k+1)).map vw=g2 at *
       generalize (ws.take k).map vw=g1 at *
       refine goW ?_;(refine Zal (id:=10) true 8 11 ?_<;>refine Zao 0 ?_<;>refine Zaf 1 2 3 4 ?_<;>refine Zae 5 6 ?_<;>refine Zah 7 h5 Tryz.func74 ?_<;>refine Zbe 8 ?_<;>(refine Zac 9 ?_;refine ZaH ?_;refine OL.nil ?_;refine Zab ?_)<;>refine OD.st 10 ?_<;>refine Zaa ?_)
       refine Zap ?_;refine goW ?_;rw [e,← hg2];exact Zan (k+1) [0,1,4] (by omega) (by omega)
      ·rw [Yaf (by omega)];refine goW ?_;refine OL.c h4 Tryz.func75 ?_;refine goW ?_;refine Za4 7 ?_;exact Zb8 [] (.ren rfl) (.ren rfl) (.ren rfl)
     ·rw [if_neg hl];refine Se Tryz.func19 rfl rfl rfl fun B hB=>?_;repeat' (first|(with_reducible refine TC.seq ?_)|(with_reducible refine TC.region ?_))
      with_reducible refine OL.box ?_
      with_reducible refine OL.box ?_
      refine Zag 3 ?_;refine Zag 4 ?_;refine goW ?_;refine OL.c h1 Tryz.func26 ?_;refine goW ?_;refine OL.c h2 Tryz.func27 ?_;refine goW ?_;refine OL.c h3 Tryz.func73 ?_;refine goW ?_;exact Zb8 [] (.nil (by decide)) (.nil (by decide)) (.ren rfl)
end
theorem YyT (la lb:List Ob):V.Spec Tryz.prog 20 [Yef la,Yef lb] [] (V.bool (la==lb)) []:=by
 refine Se Tryz.func20 rfl rfl rfl fun B hB=>?_;refine ZaS 0 fun hla=>ZaS 1 fun hlb=>?_;by_cases hl:la.length=lb.length
 ·refine goW ?_;refine Zat (fun k:Nat=>[(0,Yef la),(1,Yef lb),(5,V.int k)]) (fun _=>[]) (fun k=>k≤la.length∧la.take k=lb.take k) (fun k=>la.length-k) 0 [] ⟨Nat.zero_le _,by simp⟩ ?_;rintro k ⟨hk,hpre⟩;by_cases hkl:k < la.length
  ·have h3:=YgB la[k].2 (lb[k]'(by omega)).2;by_cases h1:la[k].1=(lb[k]'(by omega)).1
   ·cases h2:(la[k].2==(lb[k]'(by omega)).2) with
    | false =>
      rw [h2] at h3;have:la≠lb:=fun e=>by subst e;simp at h2
      refine goW ?_;(refine Zal (id:=6) true 25 25 ?_<;>refine Zaf 0 1 2 3 ?_<;>refine Zaf 4 5 6 7 ?_<;>refine Zaf 8 9 10 11 ?_<;>refine Zaw 28 ?_ ?_<;>(intro hc;try (exfalso;omega))<;>(first|(refine OD.st 12 ?_)|(refine OD.of 12 ?_))<;>refine Zaf 13 14 15 16 ?_<;>refine Zaf 17 18 19 20 ?_<;>refine OD.st 21 ?_<;>refine Zah 22 h3 Tryz.func21 ?_<;>refine Zae 23 24 ?_<;>refine Zaa ?_)
      refine goW ?_;refine Zad [] (.bool ?_);simp [this]
    | true =>
      rw [h2] at h3;have h:la[k]=lb[k]'(by omega):=Prod.ext h1 (by simpa using h2);refine goW ?_;(refine Zal (id:=6) true 25 25 ?_<;>refine Zaf 0 1 2 3 ?_<;>refine Zaf 4 5 6 7 ?_<;>refine Zaf 8 9 10 11 ?_<;>refine Zaw 28 ?_ ?_<;>(intro hc;try (exfalso;omega))<;>(first|(refine OD.st 12 ?_)|(refine OD.of 12 ?_))<;>refine Zaf 13 14 15 16 ?_<;>refine Zaf 17 18 19 20 ?_<;>refine OD.st 21 ?_<;>refine Zah 22 h3 Tryz.func21 ?_<;>refine Zae 23 24 ?_<;>refine Zaa ?_)
      refine goW ?_;refine Zan (k+1) [] ⟨by omega,?_⟩ (by omega);rw [Yab (by omega),Yab (by omega),hpre,h]
   ·have:la≠lb:=fun e=>by subst e;exact h1 rfl
    refine goW ?_;(refine Zal (id:=6) true 25 25 ?_<;>refine Zaf 0 1 2 3 ?_<;>refine Zaf 4 5 6 7 ?_<;>refine Zaf 8 9 10 11 ?_<;>refine Zaw 28 ?_ ?_<;>(intro hc;try (exfalso;omega))<;>(first|(refine OD.st 12 ?_)|(refine OD.of 12 ?_))<;>refine OD.of 13 ?_<;>refine OD.of 14 ?_<;>refine OD.of 15 ?_<;>refine OD.of 16 ?_<;>refine OD.of 17 ?_<;>refine OD.of 18 ?_<;>refine OD.of 19 ?_<;>refine OD.of 20 ?_<;>refine OD.of 21 ?_<;>refine OD.of 22 ?_<;>refine OD.of 23 ?_<;>refine OD.st 24 ?_<;>refine Zaa ?_)
    refine goW ?_;refine Zad [] (.bool ?_);simp [this]
  ·refine goW ?_;refine Zad [] (.bool ?_);have e:la=lb:=by
    rw [← Yaf (l:=la) (k:=k) (by omega),← Yaf (l:=lb) (k:=k) (by omega)];exact hpre
   simp [e]
 ·refine goW ?_;refine Zad [] (.bool ?_);have:la≠lb:=fun e=>by subst e;exact hl rfl
  simp [this]
theorem YBf (l:List Ob):V.Spec Tryz.prog 20 [Yef l,Yef l] [] (V.bool true) []:=by
 have h:=YyT l l;rwa [beq_self_eq_true] at h
section
variable (p:Prg) (hs:Ya9 p.cls) (hpk:∀ x∈p.nodes,x.2.2.length*8≤140737488355328) (W:List Int) (hW:∀ x∈W,YbC x) (hWl:W.length*8≤140737488355328)
include hs hpk hW hWl
theorem Yzm (ws:List Int) (hwi:∀ w∈ws,YbC w) (hwl:ws.length*16≤140737488355328) :
  V.Spec Tryz.prog 18 [Ya0 p,Yaw W,ints ws] [] (.tp [Yef (Yku p W ws).1,Ych (Yku p W ws).2.1,V.int (Yku p W ws).2.2]) []:=by
 by_cases h:(Yku p W ws).2.2=0
 ·have:=Yia p hs hpk W hW hWl ws hwi hwl h
  rw [h];exact this
 ·have h2:=Yp9 p hs hpk W hW hWl ws hwi hwl h;have e:(Yku p W ws).1=[]∧(Yku p W ws).2.1=[]:=by
   unfold Yku at h ⊢;split
   ·rename_i q
    rw [if_pos q] at h;split
    ·rename_i q2;rw [if_pos q2] at h;exact (h rfl).elim
    ·exact ⟨rfl,rfl⟩
   ·exact ⟨rfl,rfl⟩
  rw [e.1,e.2];exact h2.drop (LE.tp ⟨.nil (by decide),.nil (by decide),.ren rfl,trivial⟩)
set_option maxHeartbeats 4000000 in
theorem YyU (ws:List Int) (hwi:∀ w∈ws,YbC w) (hwl:ws.length*16≤140737488355328) :
  V.Spec Tryz.prog 4 [Ya0 p,Yaw W,ints ws] [] (V.bool true) []:=by
 have hkn:=Ye2;have h1:=Yzm p hs hpk W hW hWl ws hwi hwl;have h2:=YAb p hs hpk W hW hWl ws hwi hwl;generalize Yku p W ws=r at *
 have h3:=YBf r.1;have h4:=YxT r.2.1;refine Se Tryz.func4 rfl rfl rfl fun B hB=>?_;repeat' (first|(with_reducible refine TC.seq ?_)|(with_reducible refine TC.region ?_))
 with_reducible refine OL.box ?_
 with_reducible refine OL.box ?_
 refine Zag 3 ?_;refine Zag 4 ?_;refine goW ?_;refine OL.c h1 Tryz.func18 ?_;refine goW ?_;refine OL.c h2 Tryz.func19 ?_;refine goW ?_;refine OL.c h3 Tryz.func20 ?_;refine goW ?_;refine OL.c h4 Tryz.func21 ?_;refine goW ?_;refine OL.c hkn Tryz.func17 ?_;refine goW ?_;exact Zad [] (.ren rfl)
end
end Go.Proofs
