/- Lemmas for the claim; no conditions. -/
import Derived.Test.YtdjhogobbbnddaaGreatC19
import Derived.Test.YtdjhogobbbnddaaGreatC18
import Derived.Test.YtdjhogobbbnddaaGreatC38
import Derived.Test.YtdjhogobbbnddaaGreatC23
namespace Go.Proofs
open Go Go.W Go.V
def YnV (l:List Cls) (W:List Int) (a c:Nat):List Int:=
 if (slotsOf l c).length=(slotsOf l (wAt W a).toNat).length then (W.set a c).take (a+1)++turnW l W a c++(W.set a c).drop (a+1+(slotsOf l c).length)
 else (((W++(c:Int)::turnW l W a c).take (a+1)++List.replicate (slotsOf l (wAt W a).toNat).length 0)++(W++(c:Int)::turnW l W a c).drop (a+1+(slotsOf l (wAt W a).toNat).length)).set a (wAt W a+64*(W.length:Int))
abbrev Ywx (p:Prg) (W:List Int) (a c:Nat):Eta:=[.cb 30 [.hs 1],.gs false 3 1 none ((YnV p.cls W a c).map V.int)]
theorem YqY (l:List Cls) (W:List Int) (r k:Nat) {x:Int} (hwr:wAt W r=x) {has ss:List Int} (hhas:slotsOf l x.toNat=has) (hss:slotsOf l k=ss) {tw:List Int} (htw:turnW l W r k=tw):YnV l W r k=if ss.length=has.length then (W.set r k).take (r+1)++tw++(W.set r k).drop (r+1+ss.length) else (((W++(k:Int)::tw).take (r+1)++List.replicate has.length 0)++(W++(k:Int)::tw).drop (r+1+has.length)).set r (x+64*(W.length:Int)):=by
 subst hwr hhas hss htw;rfl
theorem YpP {W l:List Int} {i:Nat} (h:i < W.length):wAt (W++l) i=wAt W i:=by
 rw [wAt,wAt,List.getD_eq_getElem?_getD,List.getD_eq_getElem?_getD,List.getElem?_append_left h]
theorem Ys2 {sh:Int→Option Nat} {W l:List Int} {i:Nat} (h:hdB sh W i=true):hdB sh (W++l) i=true:=by
 obtain ⟨h0,n,h1,h2⟩:=Ybd.1 h;rw [Ybd,YpP (by omega)];exact ⟨h0,n,h1,by rw [List.length_append];omega⟩
abbrev Yxf (p:Prg) (W:List Int) (ms:List Bool):Eta:=[.cb 93 (stC p (.hs 2) 3 (bools ms)),.gs false 3 1 none (W.map V.int),.mo (slM p.cls p.cls.length)]
section
variable (p:Prg) (hs:Ya9 p.cls) (hpk:∀ x∈p.nodes,x.2.2.length*8≤140737488355328) (W:List Int) (hW:∀ x∈W,YbC x) (hWl:W.length*8≤140737488355328) (w c:Int) (hw:YbC w)
include hs hpk hW hWl hw
set_option maxHeartbeats 4000000 in
theorem Yny (hp:Ybk p=true) (hgw:Ydi (shp p.cls) W=true) (st:List Nat) (hst:starts (shp p.cls) W=some st) (hG:GH (shp p.cls) W st) (hok:okW st w=true) (k:Nat) (a1:3≤k) (a2:k < 3+p.cls.length) (h2:Yax W w≠0) :
  Ybu Tryz.prog 102 [.ep (YbB p) 0,.ep [ints W] 0,.ep [V.int w] 0,.ep [V.int k] 0,.bp 0 0] [.cb 30 [.raw (.slice none 0 0)]] (.tp []) (Ywx p W (Yax W w) k)
   ((slotsOf p.cls k).length=(slotsOf p.cls (wAt W (Yax W w)).toNat).length∨(W++(k:Int)::turnW p.cls W (Yax W w) k).length≤600) (rfv 3) [.cb 30 [.raw (.slice none 0 0)]]:=by
 have hlt:=fun x hx=>(hG.hd (x:=x) hx).2.1
 have hop:=YaB p hs hpk W hW hWl hp hgw;rw [stW,hst,Option.getD_some] at hop;have hwd:=(Ycz p W st hlt [w] (by simpa using hw)).yes (by simp [hok]);have hob:=Yeb p W hW st hG (marks W.length st) w hw hok;have how:Yc4 p k=true:=by rw [Yc4,hp];simp;omega
 have hown:=(Yqy p W (marks W.length st) k).yes (by rw [shp,if_pos ⟨by omega,by omega⟩];rfl);have hfr:=Ypa p hs hpk W (marks W.length st) how (fun s _=>Yhf hp k s);obtain ⟨k0,hk0,g1,g2,g3⟩:=YnA hG (hG.re_obj hok h2);have hrl:=hlt _ (hG.re_obj hok h2).1;have hwl:=(Yah hG.eq).2.1;have hhd:=(hG.hd (hG.re_obj hok h2).1).2.2;have hcb:0≤wAt W (Yax W w)∧wAt W (Yax W w)≤13:=by
  obtain ⟨_,n,h1,_⟩:=Ybd.1 hhd;rw [hG.cls (hG.re_obj hok h2).1 (hG.re_obj hok h2).2] at h1;obtain ⟨q,e,_,b,_⟩:=YcS h1;have:=Ybq hp
  omega
 have hsl:=Yes p W (marks W.length st) (Yax W w) hwl hhd;generalize Yax W w=r at *
 have hwr:wAt W r=W[r]:=by rw [wAt,List.getD_eq_getElem?_getD,List.getElem?_eq_getElem hrl];rfl
 rw [hwr] at g1 g2 g3;rw [hwr,← g2] at hsl;have hfit:r+1+(slotsOf p.cls W[r].toNat).length≤W.length:=by omega
 generalize hhas:slotsOf p.cls W[r].toNat=has at *
 generalize marks W.length st=ms at *
 have hgk:=Yp0 p.cls a1 a2;have hix:=fun s=>YaO has s
 have hfb:=fun s=>Ydj (fun x=>s==x) has 0
 have holl:((W.drop (r+1)).take has.length).length=has.length:=by simp;omega
 have hfw:YcC p.cls k=(slotsOf p.cls k).map fun s=>YaS [] (Yao p.cls k s):=rfl
 refine Ybu.enter Tryz.tabOK Tryz.mixed Tryz.func102 rfl rfl rfl fun B hB=>?_;refine goW ?_;refine OL.c hop Tryz.func64 ?_;refine goW ?_;refine Zax 19 ?_;refine Zaj [1,2,3] hwd Tryz.func65 ?_;refine goW ?_;refine Zaj [1,2,3] hown Tryz.func95 ?_;refine goW ?_;refine Zaj [1,2,3] hob Tryz.func70 ?_;refine goW ?_;refine OL.c (Ya5 5) Tryz.func68 ?_ (hle:=by with_unfolding_all exact ⟨.bool (decide_eq_true (by omega)),.ren rfl,trivial⟩);refine goW ?_;refine ZaO [(3,.ep [V.int k] 0),(4,.bp 0 0),(5,.bp 1 0),(6,V.int r),(7,ints has),(8,.hs 4)] (.cb 30 [.raw (.slice none 0 0)]::(Yxf p W ms++[.gs false 3 1 none ((YcC p.cls k).map V.int)])) ?_ ?_
 ·(refine Zal (id:=5) false 15 18 ?_<;>refine Zao 0 ?_<;>refine Zao 1 ?_<;>refine Zao 2 ?_<;>refine Zao 4 ?_<;>refine Zao 5 ?_<;>refine Zao 6 ?_<;>refine Zao 7 ?_<;>refine Zao 9 ?_<;>refine OD.st 13 ?_)<;>((refine ZaJ 3 8 14 ?_ ?_ ?_)<;>(first|((refine NS 3 ?_)<;>((refine OD.n2 8 14 ?_ ?_)<;>(first|((refine NS 8 ?_<;>refine Zao 10 ?_)<;>((refine OD.n2 11 14 ?_ ?_)<;>(first|((refine NS 11 ?_)<;>((refine OD.n2 12 14 ?_ ?_)<;>(first|((refine NS 12 ?_ (h:=YaH (.inl g1))<;>refine Zai 14 ?_)<;>((refine Zac 15 ?_);refine Zaj [1,2,3] hfr Tryz.func96 ?_<;>refine OL.nil (Zab ?_))<;>(refine Zae 16 17 ?_<;>refine Zaa ?_))|((refine NS 14 ?_)<;>((refine OD.n2 12 15 ?_ ?_)<;>(first|((refine NS 12 ?_ (h:=YaH (.inl g1)))<;>((refine Zac 15 ?_);refine Zaj [1,2,3] hfr Tryz.func96 ?_<;>refine OL.nil (Zab ?_))<;>(refine Zae 16 17 ?_<;>refine Zaa ?_))|((refine NA 15 ?_;refine Zaj [1,2,3] hfr Tryz.func96 ?_<;>refine OL.nil (Zab ?_))<;>(refine Zai 12 ?_ (h:=YaH (.inl g1))<;>refine Zae 16 17 ?_<;>refine Zaa ?_))))))))|((refine NS 14 ?_)<;>((refine OD.n2 11 15 ?_ ?_)<;>(first|((refine NS 11 ?_)<;>((refine OD.n2 12 15 ?_ ?_)<;>(first|((refine NS 12 ?_ (h:=YaH (.inl g1)))<;>((refine Zac 15 ?_);refine Zaj [1,2,3] hfr Tryz.func96 ?_<;>refine OL.nil (Zab ?_))<;>(refine Zae 16 17 ?_<;>refine Zaa ?_))|((refine NA 15 ?_;refine Zaj [1,2,3] hfr Tryz.func96 ?_<;>refine OL.nil (Zab ?_))<;>(refine Zai 12 ?_ (h:=YaH (.inl g1))<;>refine Zae 16 17 ?_<;>refine Zaa ?_)))))|((refine NA 15 ?_;refine Zaj [1,2,3] hfr Tryz.func96 ?_<;>refine OL.nil (Zab ?_))<;>(refine Zai 11 ?_<;>refine Zai 12 ?_ (h:=YaH (.inl g1))<;>refine Zae 16 17 ?_<;>refine Zaa ?_))))))))|((refine NS 14 ?_)<;>((refine OD.n2 8 15 ?_ ?_)<;>(first|((refine NS 8 ?_<;>refine Zao 10 ?_)<;>((refine OD.n2 11 15 ?_ ?_)<;>(first|((refine NS 11 ?_)<;>((refine OD.n2 12 15 ?_ ?_)<;>(first|((refine NS 12 ?_ (h:=YaH (.inl g1)))<;>((refine Zac 15 ?_);refine Zaj [1,2,3] hfr Tryz.func96 ?_<;>refine OL.nil (Zab ?_))<;>(refine Zae 16 17 ?_<;>refine Zaa ?_))|((refine NA 15 ?_;refine Zaj [1,2,3] hfr Tryz.func96 ?_<;>refine OL.nil (Zab ?_))<;>(refine Zai 12 ?_ (h:=YaH (.inl g1))<;>refine Zae 16 17 ?_<;>refine Zaa ?_)))))|((refine NA 15 ?_;refine Zaj [1,2,3] hfr Tryz.func96 ?_<;>refine OL.nil (Zab ?_))<;>(refine Zai 11 ?_<;>refine Zai 12 ?_ (h:=YaH (.inl g1))<;>refine Zae 16 17 ?_<;>refine Zaa ?_)))))|((refine NA 15 ?_;refine Zaj [1,2,3] hfr Tryz.func96 ?_<;>refine OL.nil (Zab ?_))<;>(refine Zai 8 ?_<;>refine Zao 10 ?_<;>refine Zai 11 ?_<;>refine Zai 12 ?_ (h:=YaH (.inl g1))<;>refine Zae 16 17 ?_<;>refine Zaa ?_))))))))|((refine NS 8 ?_<;>refine Zao 10 ?_)<;>((refine ZaJ 3 11 14 ?_ ?_ ?_)<;>(first|((refine NS 3 ?_)<;>((refine OD.n2 11 14 ?_ ?_)<;>(first|((refine NS 11 ?_)<;>((refine OD.n2 12 14 ?_ ?_)<;>(first|((refine NS 12 ?_ (h:=YaH (.inl g1))<;>refine Zai 14 ?_)<;>((refine Zac 15 ?_);refine Zaj [1,2,3] hfr Tryz.func96 ?_<;>refine OL.nil (Zab ?_))<;>(refine Zae 16 17 ?_<;>refine Zaa ?_))|((refine NS 14 ?_)<;>((refine OD.n2 12 15 ?_ ?_)<;>(first|((refine NS 12 ?_ (h:=YaH (.inl g1)))<;>((refine Zac 15 ?_);refine Zaj [1,2,3] hfr Tryz.func96 ?_<;>refine OL.nil (Zab ?_))<;>(refine Zae 16 17 ?_<;>refine Zaa ?_))|((refine NA 15 ?_;refine Zaj [1,2,3] hfr Tryz.func96 ?_<;>refine OL.nil (Zab ?_))<;>(refine Zai 12 ?_ (h:=YaH (.inl g1))<;>refine Zae 16 17 ?_<;>refine Zaa ?_))))))))|((refine NS 14 ?_)<;>((refine OD.n2 11 15 ?_ ?_)<;>(first|((refine NS 11 ?_)<;>((refine OD.n2 12 15 ?_ ?_)<;>(first|((refine NS 12 ?_ (h:=YaH (.inl g1)))<;>((refine Zac 15 ?_);refine Zaj [1,2,3] hfr Tryz.func96 ?_<;>refine OL.nil (Zab ?_))<;>(refine Zae 16 17 ?_<;>refine Zaa ?_))|((refine NA 15 ?_;refine Zaj [1,2,3] hfr Tryz.func96 ?_<;>refine OL.nil (Zab ?_))<;>(refine Zai 12 ?_ (h:=YaH (.inl g1))<;>refine Zae 16 17 ?_<;>refine Zaa ?_)))))|((refine NA 15 ?_;refine Zaj [1,2,3] hfr Tryz.func96 ?_<;>refine OL.nil (Zab ?_))<;>(refine Zai 11 ?_<;>refine Zai 12 ?_ (h:=YaH (.inl g1))<;>refine Zae 16 17 ?_<;>refine Zaa ?_))))))))|((refine NS 11 ?_)<;>((refine OD.n2 3 14 ?_ ?_)<;>(first|((refine NS 3 ?_)<;>((refine OD.n2 12 14 ?_ ?_)<;>(first|((refine NS 12 ?_ (h:=YaH (.inl g1))<;>refine Zai 14 ?_)<;>((refine Zac 15 ?_);refine Zaj [1,2,3] hfr Tryz.func96 ?_<;>refine OL.nil (Zab ?_))<;>(refine Zae 16 17 ?_<;>refine Zaa ?_))|((refine NS 14 ?_)<;>((refine OD.n2 12 15 ?_ ?_)<;>(first|((refine NS 12 ?_ (h:=YaH (.inl g1)))<;>((refine Zac 15 ?_);refine Zaj [1,2,3] hfr Tryz.func96 ?_<;>refine OL.nil (Zab ?_))<;>(refine Zae 16 17 ?_<;>refine Zaa ?_))|((refine NA 15 ?_;refine Zaj [1,2,3] hfr Tryz.func96 ?_<;>refine OL.nil (Zab ?_))<;>(refine Zai 12 ?_ (h:=YaH (.inl g1))<;>refine Zae 16 17 ?_<;>refine Zaa ?_))))))))|((refine NS 14 ?_)<;>((refine OD.n2 3 15 ?_ ?_)<;>(first|((refine NS 3 ?_)<;>((refine OD.n2 12 15 ?_ ?_)<;>(first|((refine NS 12 ?_ (h:=YaH (.inl g1)))<;>((refine Zac 15 ?_);refine Zaj [1,2,3] hfr Tryz.func96 ?_<;>refine OL.nil (Zab ?_))<;>(refine Zae 16 17 ?_<;>refine Zaa ?_))|((refine NA 15 ?_;refine Zaj [1,2,3] hfr Tryz.func96 ?_<;>refine OL.nil (Zab ?_))<;>(refine Zai 12 ?_ (h:=YaH (.inl g1))<;>refine Zae 16 17 ?_<;>refine Zaa ?_)))))|((refine NA 15 ?_;refine Zaj [1,2,3] hfr Tryz.func96 ?_<;>refine OL.nil (Zab ?_))<;>(refine Zai 3 ?_<;>refine Zai 12 ?_ (h:=YaH (.inl g1))<;>refine Zae 16 17 ?_<;>refine Zaa ?_))))))))|((refine NS 14 ?_)<;>((refine ZaJ 3 11 15 ?_ ?_ ?_)<;>(first|((refine NS 3 ?_)<;>((refine OD.n2 11 15 ?_ ?_)<;>(first|((refine NS 11 ?_)<;>((refine OD.n2 12 15 ?_ ?_)<;>(first|((refine NS 12 ?_ (h:=YaH (.inl g1)))<;>((refine Zac 15 ?_);refine Zaj [1,2,3] hfr Tryz.func96 ?_<;>refine OL.nil (Zab ?_))<;>(refine Zae 16 17 ?_<;>refine Zaa ?_))|((refine NA 15 ?_;refine Zaj [1,2,3] hfr Tryz.func96 ?_<;>refine OL.nil (Zab ?_))<;>(refine Zai 12 ?_ (h:=YaH (.inl g1))<;>refine Zae 16 17 ?_<;>refine Zaa ?_)))))|((refine NA 15 ?_;refine Zaj [1,2,3] hfr Tryz.func96 ?_<;>refine OL.nil (Zab ?_))<;>(refine Zai 11 ?_<;>refine Zai 12 ?_ (h:=YaH (.inl g1))<;>refine Zae 16 17 ?_<;>refine Zaa ?_)))))|((refine NS 11 ?_)<;>((refine OD.n2 3 15 ?_ ?_)<;>(first|((refine NS 3 ?_)<;>((refine OD.n2 12 15 ?_ ?_)<;>(first|((refine NS 12 ?_ (h:=YaH (.inl g1)))<;>((refine Zac 15 ?_);refine Zaj [1,2,3] hfr Tryz.func96 ?_<;>refine OL.nil (Zab ?_))<;>(refine Zae 16 17 ?_<;>refine Zaa ?_))|((refine NA 15 ?_;refine Zaj [1,2,3] hfr Tryz.func96 ?_<;>refine OL.nil (Zab ?_))<;>(refine Zai 12 ?_ (h:=YaH (.inl g1))<;>refine Zae 16 17 ?_<;>refine Zaa ?_)))))|((refine NA 15 ?_;refine Zaj [1,2,3] hfr Tryz.func96 ?_<;>refine OL.nil (Zab ?_))<;>(refine Zai 3 ?_<;>refine Zai 12 ?_ (h:=YaH (.inl g1))<;>refine Zae 16 17 ?_<;>refine Zaa ?_)))))|((refine NA 15 ?_;refine Zaj [1,2,3] hfr Tryz.func96 ?_<;>refine OL.nil (Zab ?_))<;>((refine OD.n2 3 11 ?_ ?_)<;>(first|((refine NS 3 ?_<;>refine Zai 11 ?_<;>refine Zai 12 ?_ (h:=YaH (.inl g1))<;>refine Zae 16 17 ?_<;>refine Zaa ?_))|((refine NS 11 ?_<;>refine Zai 3 ?_<;>refine Zai 12 ?_ (h:=YaH (.inl g1))<;>refine Zae 16 17 ?_<;>refine Zaa ?_)))))))))))|((refine NS 14 ?_)<;>((refine ZaJ 3 8 15 ?_ ?_ ?_)<;>(first|((refine NS 3 ?_)<;>((refine OD.n2 8 15 ?_ ?_)<;>(first|((refine NS 8 ?_<;>refine Zao 10 ?_)<;>((refine OD.n2 11 15 ?_ ?_)<;>(first|((refine NS 11 ?_)<;>((refine OD.n2 12 15 ?_ ?_)<;>(first|((refine NS 12 ?_ (h:=YaH (.inl g1)))<;>((refine Zac 15 ?_);refine Zaj [1,2,3] hfr Tryz.func96 ?_<;>refine OL.nil (Zab ?_))<;>(refine Zae 16 17 ?_<;>refine Zaa ?_))|((refine NA 15 ?_;refine Zaj [1,2,3] hfr Tryz.func96 ?_<;>refine OL.nil (Zab ?_))<;>(refine Zai 12 ?_ (h:=YaH (.inl g1))<;>refine Zae 16 17 ?_<;>refine Zaa ?_)))))|((refine NA 15 ?_;refine Zaj [1,2,3] hfr Tryz.func96 ?_<;>refine OL.nil (Zab ?_))<;>(refine Zai 11 ?_<;>refine Zai 12 ?_ (h:=YaH (.inl g1))<;>refine Zae 16 17 ?_<;>refine Zaa ?_)))))|((refine NA 15 ?_;refine Zaj [1,2,3] hfr Tryz.func96 ?_<;>refine OL.nil (Zab ?_))<;>(refine Zai 8 ?_<;>refine Zao 10 ?_<;>refine Zai 11 ?_<;>refine Zai 12 ?_ (h:=YaH (.inl g1))<;>refine Zae 16 17 ?_<;>refine Zaa ?_)))))|((refine NS 8 ?_<;>refine Zao 10 ?_)<;>((refine ZaJ 3 11 15 ?_ ?_ ?_)<;>(first|((refine NS 3 ?_)<;>((refine OD.n2 11 15 ?_ ?_)<;>(first|((refine NS 11 ?_)<;>((refine OD.n2 12 15 ?_ ?_)<;>(first|((refine NS 12 ?_ (h:=YaH (.inl g1)))<;>((refine Zac 15 ?_);refine Zaj [1,2,3] hfr Tryz.func96 ?_<;>refine OL.nil (Zab ?_))<;>(refine Zae 16 17 ?_<;>refine Zaa ?_))|((refine NA 15 ?_;refine Zaj [1,2,3] hfr Tryz.func96 ?_<;>refine OL.nil (Zab ?_))<;>(refine Zai 12 ?_ (h:=YaH (.inl g1))<;>refine Zae 16 17 ?_<;>refine Zaa ?_)))))|((refine NA 15 ?_;refine Zaj [1,2,3] hfr Tryz.func96 ?_<;>refine OL.nil (Zab ?_))<;>(refine Zai 11 ?_<;>refine Zai 12 ?_ (h:=YaH (.inl g1))<;>refine Zae 16 17 ?_<;>refine Zaa ?_)))))|((refine NS 11 ?_)<;>((refine OD.n2 3 15 ?_ ?_)<;>(first|((refine NS 3 ?_)<;>((refine OD.n2 12 15 ?_ ?_)<;>(first|((refine NS 12 ?_ (h:=YaH (.inl g1)))<;>((refine Zac 15 ?_);refine Zaj [1,2,3] hfr Tryz.func96 ?_<;>refine OL.nil (Zab ?_))<;>(refine Zae 16 17 ?_<;>refine Zaa ?_))|((refine NA 15 ?_;refine Zaj [1,2,3] hfr Tryz.func96 ?_<;>refine OL.nil (Zab ?_))<;>(refine Zai 12 ?_ (h:=YaH (.inl g1))<;>refine Zae 16 17 ?_<;>refine Zaa ?_)))))|((refine NA 15 ?_;refine Zaj [1,2,3] hfr Tryz.func96 ?_<;>refine OL.nil (Zab ?_))<;>(refine Zai 3 ?_<;>refine Zai 12 ?_ (h:=YaH (.inl g1))<;>refine Zae 16 17 ?_<;>refine Zaa ?_)))))|((refine NA 15 ?_;refine Zaj [1,2,3] hfr Tryz.func96 ?_<;>refine OL.nil (Zab ?_))<;>((refine OD.n2 3 11 ?_ ?_)<;>(first|((refine NS 3 ?_<;>refine Zai 11 ?_<;>refine Zai 12 ?_ (h:=YaH (.inl g1))<;>refine Zae 16 17 ?_<;>refine Zaa ?_))|((refine NS 11 ?_<;>refine Zai 3 ?_<;>refine Zai 12 ?_ (h:=YaH (.inl g1))<;>refine Zae 16 17 ?_<;>refine Zaa ?_))))))))|((refine NA 15 ?_;refine Zaj [1,2,3] hfr Tryz.func96 ?_<;>refine OL.nil (Zab ?_))<;>((refine OD.n2 3 8 ?_ ?_)<;>(first|((refine NS 3 ?_<;>refine Zai 8 ?_<;>refine Zao 10 ?_<;>refine Zai 11 ?_<;>refine Zai 12 ?_ (h:=YaH (.inl g1))<;>refine Zae 16 17 ?_<;>refine Zaa ?_))|((refine NS 8 ?_<;>refine Zao 10 ?_)<;>((refine OD.n2 3 11 ?_ ?_)<;>(first|((refine NS 3 ?_<;>refine Zai 11 ?_<;>refine Zai 12 ?_ (h:=YaH (.inl g1))<;>refine Zae 16 17 ?_<;>refine Zaa ?_))|((refine NS 11 ?_<;>refine Zai 3 ?_<;>refine Zai 12 ?_ (h:=YaH (.inl g1))<;>refine Zae 16 17 ?_<;>refine Zaa ?_)))))))))))))
  all_goals exact ZaP [0,1,2,3,5]
 have hcl:=YkK W (by omega) (by omega) (l:=r+1) (h:=r+1+has.length) (by omega) (by omega);rw [show r+1+has.length-(r+1)=has.length by omega] at hcl;refine goW ?_;refine OL.rebase fun B2 hB2 hub hf=>?_;obtain ⟨v,hv1,hv2⟩:=hf 2 _ rfl;obtain ⟨g,cap,rfl,hc,hcm⟩:=Yea hv2 (by simp;omega);refine Zcq [1,2,3] hsl Tryz.func72 (v:=partV g 0 cap (r+1) (r+1+has.length)) (by simp [Ymc,List.getD_eq_getElem?_getD,hv1]) ?_;refine goW ?_;refine Zdl [2] hcl Tryz.func103 (ag':=[.raw (partV g 0 cap (r+1) (r+1+has.length))]) (by simp [Yrb,List.getD_eq_getElem?_getD,hv1]) ?_;refine ZbW hub ?_;refine Zax 49 ?_;refine goW ?_;(refine Zal (id:=7) true 8 8 ?_<;>refine Zaf 0 1 2 3 ?_<;>refine Zae 4 7 ?_<;>refine Zai 5 ?_ (h:=YaH (.inl hgk))<;>refine OD.st 6 ?_<;>refine Zaa ?_)
 rw [hfw];have hssl:(slotsOf p.cls k).length≤640:=Ya3 (Ybq hp) k;generalize hss:slotsOf p.cls k=ss at *
 generalize holds:(W.drop (r+1)).take has.length=olds at *
 refine Zap ?_;refine goW ?_;have hn:∀ s,YhQ p.cls W r k s=if 0≤Yb3 (fun x=>s==x) 0 has then olds.getD (Yb3 (fun x=>s==x) 0 has).toNat 0 else YaS [] (Yao p.cls k s):=fun s=>by rw [YhQ,hwr,hhas,holds]
 refine Zat (fun i:Nat=>[(3,.ep [V.int k] 0),(4,.bp 0 0),(5,.bp 1 0),(6,V.int r),(7,ints has),(8,.hs 4),(9,ints olds),(55,ints ss),(56,V.int ss.length),(57,V.int i)]) (fun i=>.cb 30 [.raw (.slice none 0 0)]::(Yxf p W ms++[.gs false 3 1 none (((ss.take i).map (YhQ p.cls W r k)++(ss.drop i).map fun s=>YaS [] (Yao p.cls k s)).map V.int)])) (fun i=>i≤ss.length) (fun i=>ss.length-i) 0 [0,1,2,3,4] (Nat.zero_le _) ?_;rintro i hi;by_cases hil:i < ss.length
 ·have hix:=hix ss[i];have hfb:=hfb ss[i];have hn:=hn ss[i];have hmix:=fun y hy=>Ytn (YhQ p.cls W r k) (fun s=>YaS [] (Yao p.cls k s)) ss hil y hy
  have hfl:((ss.take i).map (YhQ p.cls W r k)++(ss.drop i).map fun s=>YaS [] (Yao p.cls k s)).length=ss.length:=by simp;omega
  have hdrop:(ss.drop i).map (fun s=>YaS [] (Yao p.cls k s))=YaS [] (Yao p.cls k ss[i])::(ss.drop (i+1)).map fun s=>YaS [] (Yao p.cls k s):=by rw [Yac hil];rfl
  generalize Yb3 (fun x=>ss[i]==x) 0 has=q at *
  have hn':¬ 0≤q→[YhQ p.cls W r k ss[i]]=[YaS [] (Yao p.cls k ss[i])]:=fun h=>by rw [hn,if_neg h]
  generalize hmx:((ss.take i).map (YhQ p.cls W r k)++(ss.drop i).map fun s=>YaS [] (Yao p.cls k s))=mx at *
  refine goW ?_;refine OL.c hix Tryz.func104 ?_;(refine YnB ?_ ?_<;>intro hc<;>refine goW ?_)
  ·have hq:olds[q.toNat]'(by omega)=YhQ p.cls W r k ss[i]:=by
    rw [hn,if_pos (by omega),List.getD_eq_getElem?_getD,List.getElem?_eq_getElem (by omega)];rfl
   have e:=congrArg (List.map V.int) (hmix _ hq);refine ZaF (l:=mx) (k:=i) (by omega) ?_;refine goW ?_;exact Zan (i+1) [0,1,2,3,4] (by omega) (by omega)
  ·have e:mx=(ss.take (i+1)).map (YhQ p.cls W r k)++(ss.drop (i+1)).map fun s=>YaS [] (Yao p.cls k s):=by
    rw [← hmx,hdrop,Yab hil,List.map_append,List.map_singleton,hn' (by omega),List.append_assoc];rfl
   have e:=congrArg (List.map V.int) e;refine goW ?_;exact Zan (i+1) [0,1,2,3,4] (by omega) (by omega)
 ·have hend:(ss.take i).map (YhQ p.cls W r k)++((ss.drop i).map fun s=>YaS [] (Yao p.cls k s))=turnW p.cls W r k:=by
   rw [Yaf (by omega),List.drop_eq_nil_of_le (by omega),turnW,hss];simp
  rw [hend];have htl:(turnW p.cls W r k).length=ss.length:=by rw [turnW,hss,List.length_map]
  generalize htw:turnW p.cls W r k=tw at *
  have hX:=YqY p.cls W r k hwr hhas hss htw;by_cases hsz:ss.length=has.length
  ·rw [if_pos hsz] at hX;refine goW ?_;(refine Zal (id:=15) true 8 9 ?_<;>refine Zaf 0 1 2 3 ?_<;>refine Zaf 4 5 6 7 ?_)<;>((refine Zac 8 ?_);refine ZaF (l:=W) (k:=r) (by omega) ?_<;>refine OL.nil (Zab ?_))<;>(refine Zaa ?_)
   refine Zap ?_;refine TC.rebase fun B3 hB3 hub3 hf3=>?_;obtain ⟨v3,hw1,hw2⟩:=hf3 2 _ rfl;obtain ⟨g',cap',rfl,hc',hcm'⟩:=Yea hw2 (by simp;omega);simp only [List.length_map,List.length_set] at hw1 hc';by_cases ht0:tw.length=0
   ·have e:(W.set r (k:Int)).map V.int=(YnV p.cls W r k).map V.int:=by
     rw [hX,List.eq_nil_of_length_eq_zero ht0,List.append_nil,show ss.length=0 by omega,Nat.add_zero,List.take_append_drop]
    by_cases hcr:cap'=r+1
    ·refine goW ?_;refine Za5 (ZbR (t:=92) (by with_unfolding_all exact rfl) hw1) ?_;refine OL.st ?_ (h:=YsA);refine goW ?_;refine Zax 96 ?_;refine ZcH (ys:=tw.map V.int) (by rw [List.eq_nil_of_length_eq_zero ht0];rfl) ?_;refine ZbW hub3 ?_;refine goW ?_;refine TX.yes (.inl (by rw [hwr,hhas];exact hsz)) ?_;exact Za1 [0,2]
    ·refine goW ?_;refine Za5 (ZbR (t:=92) (by with_unfolding_all exact rfl) hw1) ?_;refine OL.st ?_ (h:=Ypl (l:=r+1));refine goW ?_;refine Zax 96 ?_;refine ZcH (ys:=tw.map V.int) (by rw [List.eq_nil_of_length_eq_zero ht0];rfl) ?_;refine ZbW hub3 ?_;refine goW ?_;refine TX.yes (.inl (by rw [hwr,hhas];exact hsz)) ?_;exact Za1 [0,2]
   ·have e:((W.set r (k:Int)).map V.int).take (0+(r+1))++(tw.take tw.length).map V.int++((W.set r (k:Int)).map V.int).drop (0+(r+1)+tw.length)=(YnV p.cls W r k).map V.int:=by
     rw [hX,List.take_length,List.map_append,List.map_append,List.map_take,List.map_drop,htl,Nat.zero_add]
    refine goW ?_;refine Za5 (ZbR (t:=92) (by with_unfolding_all exact rfl) hw1) ?_;refine OL.st ?_ (h:=Ypl (l:=r+1));refine goW ?_;refine Zax 96 ?_;refine ZcK (i:=2) (ys:=tw) (f:=V.int) tw.length ?_ (hn:=by omega) (h1:=by simp;omega) (h0:=by simp;omega);refine ZbW hub3 ?_;rw [e];refine goW ?_;refine TX.yes (.inl (by rw [hwr,hhas];exact hsz)) ?_;exact Za1 [0,2]
  ·rw [if_neg hsz] at hX;have hlyY:=YqF p W (by omega) (bools ms) (fun _=>rfl) k tw (by omega);have hno:¬ ss.length=(slotsOf p.cls (wAt W r).toNat).length:=by rw [hwr,hhas];exact hsz
   by_cases hl:(W++(k:Int)::tw).length≤600;rotate_left
   ·have hly:=hlyY.no hl;clear hlyY;refine goW ?_;refine Zax 100 ?_;refine Zar [1,2,3] hly Tryz.func52 ?_;repeat' (first|refine Zam ?_|refine Zak ?_)
    refine TX.no (fun h=>h.elim hno hl) ?_;exact Zas [0]
   have hly:=hlyY.yes hl;clear hlyY;have hhd2:=Ys2 (l:=(k:Int)::tw) hhd;have hsl2:=Yes p (W++(k:Int)::tw) ms r hl hhd2;have hwr2:wAt (W++(k:Int)::tw) r=W[r]:=by rw [← hwr,YpP hrl]
   rw [hwr2,← g2] at hsl2;have hwl2:W.length≤(W++(k:Int)::tw).length:=by simp
   have hgt:(W++(k:Int)::tw)[r]?=some W[r]:=by rw [List.getElem?_append_left hrl,List.getElem?_eq_getElem hrl]
   have hkb:0≤W[r]∧W[r]≤1000:=by rw [← hwr];omega
   generalize hw2:W++(k:Int)::tw=w2 at *
   refine goW ?_;refine Zax 100 ?_;refine Zaj [1,2,3] hly Tryz.func52 ?_;refine goW ?_;refine OL.rebase fun B3 hB3 hub3 hf3=>?_;obtain ⟨v3,hw1,hv3⟩:=hf3 5 _ rfl;obtain ⟨g',cap',rfl,hc',hcm'⟩:=Yea hv3 (by simp;omega);simp only [List.length_map] at hw1 hc';have h0w:0 < w2.length:=by omega
   have e:(w2.map V.int).take (r+1)++List.replicate (r+1+has.length-(r+1)) (AV.raw (.int .i64 0))++(w2.map V.int).drop (r+1+has.length)=(w2.take (r+1)++List.replicate has.length (0:Int)++w2.drop (r+1+has.length)).map V.int:=by
    rw [show r+1+has.length-(r+1)=has.length by omega,List.map_append,List.map_append,List.map_take,List.map_drop,List.map_replicate]
   have hg3:(w2.take (r+1)++List.replicate has.length (0:Int)++w2.drop (r+1+has.length))[r]?=some W[r]:=by
    rw [List.append_assoc,List.getElem?_append_left (by simp;omega),List.getElem?_take,if_pos (by omega),hgt]
   refine Zcq [1,5,3] hsl2 Tryz.func72 (v:=partV g' 0 cap' (r+1) (r+1+has.length)) (by simp [Ymc,List.getD_eq_getElem?_getD,hw1]) ?_;refine Zdn (i:=5) (xs:=w2.map V.int) hw1 (by simpa using h0w) (l:=r+1) (h:=r+1+has.length) (by omega) (by simp;omega) (by simpa using hc') ?_;refine ZbW hub3 ?_;refine Zd7 5 e ?_;generalize w2.take (r+1)++List.replicate has.length (0:Int)++w2.drop (r+1+has.length)=w3 at *
   obtain ⟨hr3,hgr3⟩:=List.getElem?_eq_some_iff.1 hg3;have hk3:0≤w3[r]∧w3[r]≤1000:=by rw [hgr3];exact hkb
   have e4:(w3.set r (w3[r]+64*(W.length:Int))).map V.int=(YnV p.cls W r k).map V.int:=by rw [hX,hgr3]
   refine goW ?_;refine ZaF (l:=w3) (k:=r) (by omega) ?_;refine goW ?_;refine TX.yes (.inr hl) ?_;exact Za1 [0,5]
end
def YlK (p:Prg) (W:List Int) (w c:Int):List Int × Int:=
 if Ybt p W then (if okW (Yee p W) w then (if (shp p.cls c).isSome then (if Yax W w=0 then ([],5) else
  (if (slotsOf p.cls c.toNat).length=(slotsOf p.cls (wAt W (Yax W w)).toNat).length∨(W++c::turnW p.cls W (Yax W w) c.toNat).length≤600 then (YnV p.cls W (Yax W w) c.toNat,0) else ([],3))) else ([],2)) else ([],2)) else ([],2)
theorem Yll (p:Prg) (W:List Int) (w c:Int) {W':List Int} {e:Int} (h:V.Spec Tryz.prog 50 [.fn (.func 102) [] [.ep (YbB p) 0,.ep [ints W] 0,.ep [V.int w] 0,.ep [V.int c] 0,.bp 0 0]] [.cb 30 [.raw (.slice none 0 0)]] (V.int e) [.cb 30 [.hs 1],.gs false 3 1 none (W'.map V.int)]) :
  V.Spec Tryz.prog 40 [Ya0 p,Yaw W,V.int w,V.int c] [] (.tp [Yaw W',V.int e]) []:=by
 refine Se Tryz.func40 rfl rfl rfl fun B hB=>?_;repeat' (first|(with_reducible refine TC.seq ?_)|(with_reducible refine TC.region ?_))
 with_reducible refine OL.box ?_
 with_reducible refine OL.box ?_
 with_reducible refine OL.box ?_
 with_reducible refine OL.box ?_
 refine Zag 4 ?_;refine Zag 5 ?_;refine Zag 6 ?_;refine Zag 7 ?_;refine goW ?_;refine Zaj [4] h Tryz.func50 ?_;refine Zbu 4 0 ?_;refine goW ?_;exact ZaZ [] (.ren rfl) (.ren rfl)
section
variable (p:Prg) (hs:Ya9 p.cls) (hpk:∀ x∈p.nodes,x.2.2.length*8≤140737488355328) (W:List Int) (hW:∀ x∈W,YbC x) (hWl:W.length*8≤140737488355328) (w c:Int) (hw:YbC w)
include hs hpk hW hWl hw
theorem Yh5 (h:(YlK p W w c).2=0):V.Spec Tryz.prog 40 [Ya0 p,Yaw W,V.int w,V.int c] [] (.tp [Yaw (YlK p W w c).1,V.int 0]) []:=by
 unfold YlK at h ⊢
 cases hg:Ybt p W with
 | false=>rw [hg] at h;cases h
 | true =>
   rw [hg] at h;rw [if_pos rfl] at h ⊢;obtain ⟨hp,hgw,st,hst,hG⟩:=Ybe hg;rw [YcP hst] at h ⊢
   cases hok:okW st w with
   | false=>rw [hok] at h;cases h
   | true =>
     rw [hok,if_pos rfl] at h;rw [if_pos rfl]
     cases hsh:(shp p.cls c).isSome with
     | false=>rw [hsh] at h;cases h
     | true =>
       rw [hsh,if_pos rfl] at h;rw [if_pos rfl];by_cases h0:Yax W w=0
       ·rw [if_pos h0] at h;cases h
       ·rw [if_neg h0] at h ⊢;obtain ⟨n,hn⟩:=Option.isSome_iff_exists.1 hsh;obtain ⟨k,rfl,a1,a2,-⟩:=YcS hn;rw [Int.toNat_natCast] at *
        have hY:=Yny p hs hpk W hW hWl w hw hp hgw st hst hG hok k a1 a2 h0;split at h
        ·rename_i hc
         rw [if_pos hc];exact Yll p W w k (YbH Tryz.func102 (hY.yes hc))
        ·cases h
end
end Go.Proofs
namespace Go.V
open Go Go.W
theorem Ywz {C:Cx} {ρ:Ro} {η:Eta} {M:Bool} {α:Type} {f:α→AV} {sz E X:Nat} {nl} {i j:Int} {xs:List α} {l h:Nat} {x y z:Operand} (hs:(C.tab X).map (·.sh)=some (.slice E):=by with_unfolding_all exact rfl) (hz:(C.tab E).map (·.size)=some sz:=by with_unfolding_all exact rfl) (hx:ev2 ρ x=some (.sl sz nl (xs.map f)):=by with_unfolding_all exact rfl) (hy:ev2 ρ y=some (.raw (.int .i64 i)):=by with_unfolding_all exact rfl) (hz':ev2 ρ z=some (.raw (.int .i64 j)):=by with_unfolding_all exact rfl)
  (hi:i=(l:Nat):=by omega) (hj:j=(h:Nat):=by omega) (hlh:l≤h:=by omega) (hh:h≤xs.length:=by omega):Yaj C.P C.N C.D (.slice X x (some y) (some z) none) ρ η (.sl sz none (((xs.take h).drop l).map f)) M:=Ygk C.hT hs hz hx hy hi hz' hj hlh hh
end Go.V
namespace Go.Proofs
open Go Go.W Go.V
structure ObT where
 i:Nat
 pre:List Nat
 B:Base
 hB:B.γ.length=2
theorem Yfp (p:Prg) (W:List Int) (b:List Bool) (st:List Nat) (pv:Value) (hst:starts (shp p.cls) W=some st):Yqf Tryz.prog 66 (fun x:Nat=>[V.int x]) pv st (stF p W (bools b)) [.bp 0 0] []:=by
 obtain ⟨hl0,hl6,_,hsf⟩:=Yah hst;refine Yqf.enter Tryz.tabOK Tryz.mixed Tryz.func66 rfl rfl rfl fun γ0 I m0 W0 B hB hA=>?_;refine YaF ?_;refine Zb3 (S:=ObT) (fun S=>⟨Tryz.prog,Tryz.tab,Tryz.tabOK,Tryz.mixed,35,[],S.B,2,S.hB,some none,0⟩) (fun S=>[(0,.bp 0 0),(1,.raw (.func (.yield I.l) #[] #[])),(4,V.int S.i)]) (fun _=>stF p W (bools b)) (fun S=>AtO I m0 W0 S.pre S.B∧∃ r,startsF (shp p.cls) W W.length S.i=some r∧S.pre++r=st) (fun S=>W.length-S.i) ⟨1,[],B,hB⟩ ⟨hA,st,hsf,rfl⟩ rfl (fun _ _=>rfl) [0,1] rfl rfl ?_ ?_ ?_
 ·repeat' (first|with_unfolding_all exact trivial|exact OE.ren (by with_unfolding_all exact rfl)|with_unfolding_all refine And.intro ⟨_,by with_unfolding_all exact rfl,?_⟩ ?_)
 ·repeat' (first|with_unfolding_all exact trivial|exact LE.ren (by with_unfolding_all exact rfl)|with_unfolding_all refine And.intro ⟨_,by with_unfolding_all exact rfl,?_⟩ ?_)
 rintro ⟨i,pre,B1,hB1⟩ ⟨hA1,r,hr,he⟩;dsimp only at hA1 hr he ⊢;rw [YcU] at hr;by_cases hi:i < W.length
 ·rw [if_pos hi] at hr;by_cases hd:hdB (shp p.cls) W i=true
  ·rw [if_pos hd] at hr;obtain ⟨r',hr',rfl⟩:=Option.map_eq_some_iff.1 hr;obtain ⟨h0,n,h1,h2⟩:=Ybd.1 hd;obtain ⟨g1,g2⟩:=YeT h1;have hsz:szW (shp p.cls) (wAt W i)=n:=by rw [szW,h1];rfl
   have hwi:wAt W i=W[i]:=by rw [wAt,List.getD_eq_getElem?_getD,List.getElem?_eq_getElem hi];rfl
   rw [hsz] at hr';rw [hwi] at h0 g1 g2;have hcl:=Ycw W[i] h0;generalize slotsOf p.cls (W[i] % 64).toNat=ss at *
   refine YaF ?_;refine Zcl hA1 ⟨r',he⟩ (fun B2 hB2 hA2=>?_) (fun a w hd h=>⟨rfl,hd,h⟩);refine YaF ?_;(refine Zal (id:=2) true 18 19 ?_<;>refine Zaf 0 1 2 3 ?_<;>refine Zaf 4 5 6 7 ?_<;>refine Zaf 8 9 10 11 ?_<;>refine OD.st 12 ?_<;>refine Zah 13 hcl Tryz.func120 ?_<;>refine Zai 14 ?_ (h:=YaH (.inl g1))<;>refine Zaf 15 16 17 18 ?_<;>refine Zaa ?_)
   refine YaF ?_;exact ZbP ⟨i+1+n,pre++[i],B2,hB2⟩ [0,1] ⟨hA2,r',hr',by dsimp only;rw [List.append_assoc];exact he⟩ (by dsimp only;omega) (hr:=⟨⟨_,rfl,LE.ren rfl⟩,⟨_,rfl,LE.ren rfl⟩,⟨_,rfl,LE.int (by dsimp only;omega)⟩,trivial⟩)
  ·rw [if_neg hd] at hr;cases hr
 ·rw [if_neg hi] at hr
  cases hr
  rw [List.append_nil] at he;subst he;refine YaF ?_;refine Zcn ?_;exact Zcm hA1
theorem Ydb (p:Prg) (W:List Int) (b:List Bool) (i:Nat) (hW:W.length≤600) (hh:hdB (shp p.cls) W i=true) :
  V.Spec Tryz.prog 72 [.bp 0 0,V.int i] (stF p W (bools b)) (ints ((W.take (i+1+szW (shp p.cls) (wAt W i))).drop (i+1))) (stF p W (bools b)):=by
 have hi:=Yk5 hh;obtain ⟨h0,n,h1,h2⟩:=Ybd.1 hh;obtain ⟨g1,g2⟩:=YeT h1;have hsz:szW (shp p.cls) (wAt W i)=n:=by rw [szW,h1];rfl
 have hil:i < W.length:=by omega
 have hwi:wAt W i=W[i]:=by rw [wAt,List.getD_eq_getElem?_getD,List.getElem?_eq_getElem hil];rfl
 rw [hsz] at hi ⊢;rw [hwi] at h0 g1 g2;have hcl:=Ycw W[i] h0;generalize slotsOf p.cls (W[i] % 64).toNat=ss at *
 refine Se Tryz.func72 rfl rfl rfl fun B hB=>?_;refine goW ?_;(refine Zal (id:=1) true 26 27 ?_<;>refine Zaf 0 1 2 3 ?_<;>refine Zaf 4 5 6 7 ?_<;>refine Zaf 8 9 10 11 ?_<;>refine Zaf 12 13 14 15 ?_<;>refine Zaf 16 17 18 19 ?_<;>refine OD.st 20 ?_<;>refine Zah 21 hcl Tryz.func120 ?_<;>refine Zai 22 ?_ (h:=YaH (.inl g1))<;>refine Zae 23 24 ?_<;>refine OD.st 25 ?_ (h:=Ywz (h:=i+1+n) (l:=i+1))<;>refine OD.st 26 ?_<;>refine Zaa ?_)
 refine goW ?_;exact Zad [0,1] (.ren rfl)
abbrev YrX (p:Prg) (W:List Int) (b:AV) (ix:List (Int × AV)):Eta:=[.cb 110 [.mp 4],.cb 86 [.bp 2 0],.cb 93 (stC p (ints W) 3 b),.mo (slM p.cls p.cls.length),.mo ix]
def Yrj (W:List Int) (num:Int→Int) (w:Int):Int × Int:=if w=0 then (2,0) else if w.tmod 2≠0 then (1,(w-1) / 2) else (3,num (Yax W w))
theorem YnN (p:Prg) (W:List Int) (hW:∀ x∈W,YbC x) (st:List Nat) (hG:GH (shp p.cls) W st) (b:List Bool) (ix:List (Int × AV)) (num:Int→Int) (w:Int) (hw:YbC w) (hok:okW st w=true)
  (hnum:w≠0→w.tmod 2=0→afind (Yax W w:Int) ix=some (V.int (num (Yax W w)))) :
  V.Spec Tryz.prog 69 [V.int w,.bp 0 0,.bp 1 0] (YrX p W (bools b) ix) (Ycb (Yrj W num w)) (YrX p W (bools b) ix):=by
 unfold Yrj;by_cases h0:w=0
 ·rw [if_pos h0];subst h0;refine Se Tryz.func69 rfl rfl rfl fun B hB=>?_;refine goW ?_;exact Zba [0,1,2,3,4] (.ren rfl)
 ·rw [if_neg h0];by_cases h1:w.tmod 2≠0
  ·rw [if_pos h1];have ht:¬ w % 2=0:=fun h=>h1 (YcG.2 h)
   have hm:w % 2=1:=by omega
   have hm2:(w-1) % 2=0:=by omega
   obtain ⟨hw1,hw2⟩:=hw;refine Se Tryz.func69 rfl rfl rfl fun B hB=>?_;refine goW ?_;refine Zbq (r:=w.tmod 2) rfl ?_;refine goW ?_;refine OL.quo ?_;refine goW ?_;exact Zba [0,1,2,3,4] (.ren rfl)
  ·rw [if_neg h1];have hob:=Ydd p W hW st hG b w hw hok;have hnm:=hnum h0 (by simpa using h1);generalize Yax W w=r at *
   refine Se Tryz.func69 rfl rfl rfl fun B hB=>?_;refine goW ?_;refine Zbq (r:=w.tmod 2) rfl ?_;refine goW ?_;refine ZaO [(4,.bp 5 0)] (YrX p W (bools b) ix++[.cb 63 [V.int 3,V.int (num r)]]) ?_ ?_
   ·(refine Zal (id:=5) false 3 7 ?_<;>refine OD.st 2 ?_)<;>((refine OD.n2 0 1 ?_ ?_)<;>(first|((refine NS 0 ?_<;>refine Zai 1 ?_)<;>((refine Zac 3 ?_);refine Zaj [2,3] hob Tryz.func70 ?_<;>refine OL.nil (Zab ?_))<;>(refine Zai 4 ?_ (h:=YaH (.inl hnm)))<;>(refine Zac 5 ?_;refine OL.build ?_;refine OL.nil ?_;refine Zab ?_)<;>(refine Zac 6 ?_;refine Zau ?_;refine OL.nil ?_;refine Zab ?_)<;>(refine Zaa ?_))|((refine NS 1 ?_)<;>((refine OD.n2 0 3 ?_ ?_)<;>(first|((refine NS 0 ?_)<;>((refine Zac 3 ?_);refine Zaj [2,3] hob Tryz.func70 ?_<;>refine OL.nil (Zab ?_))<;>(refine Zai 4 ?_ (h:=YaH (.inl hnm)))<;>(refine Zac 5 ?_;refine OL.build ?_;refine OL.nil ?_;refine Zab ?_)<;>(refine Zac 6 ?_;refine Zau ?_;refine OL.nil ?_;refine Zab ?_)<;>(refine Zaa ?_))|((refine NA 3 ?_;refine Zaj [2,3] hob Tryz.func70 ?_<;>refine OL.nil (Zab ?_))<;>(refine Zai 0 ?_<;>refine Zai 4 ?_ (h:=YaH (.inl hnm)))<;>(refine Zac 5 ?_;refine OL.build ?_;refine OL.nil ?_;refine Zab ?_)<;>(refine Zac 6 ?_;refine Zau ?_;refine OL.nil ?_;refine Zab ?_)<;>(refine Zaa ?_)))))))
    all_goals exact ZaP [0,1,2,3,4,5]
   ·refine goW ?_;exact Zba [0,1,2,3,4] (.ren rfl)
theorem Yf7 (p:Prg) (W:List Int) (b:List Bool) (ix:List (Int × AV)) (l:List Int) (g:Int→Int × Int) (hl:l.length*16≤140737488355328)
  (hs:∀ x∈l,V.Spec Tryz.prog 69 [V.int x,.bp 0 0,.bp 1 0] (YrX p W (bools b) ix) (Ycb (g x)) (YrX p W (bools b) ix)) :
  V.Spec Tryz.prog 71 [ints l,.fn (.func 69) [] [.bp 0 0,.bp 1 0]] (YrX p W (bools b) ix) (.hs 5) (YrX p W (bools b) ix++[.gs false 63 2 none ((l.map g).map Ycb)]):=by
 refine Se Tryz.func71 rfl rfl rfl fun B hB=>?_;refine goW ?_;refine ZaT 5 63 2 ?_;refine Zat (fun k:Nat=>[(1,.fn (.func 69) [] [.bp 0 0,.bp 1 0]),(5,.hs 5),(8,ints l),(9,V.int l.length),(10,V.int k)]) (fun k=>YrX p W (bools b) ix++[.gs false 63 2 none (((l.take k).map g).map Ycb)]) (fun k=>k≤l.length) (fun k=>l.length-k) 0 [0,1,2,3,4,5] (Nat.zero_le _) ?_;rintro k hk;by_cases hkl:k < l.length
 ·have hlen:((l.take k).map g).length=k:=by simp;omega
  have h1:=hs l[k] (List.getElem_mem _);have e:((l.take k).map g).map Ycb++[Ycb (g l[k])]=((l.take (k+1)).map g).map Ycb:=by rw [Yab hkl,List.map_append,List.map_append];rfl
  generalize (l.take k).map g=gk at *
  refine goW ?_;refine Zbg [0,1,2,3,4] h1 Tryz.func69 ?_;refine goW ?_;exact Zan (k+1) [0,1,2,3,4,7] (by omega) (by omega)
 ·rw [Yaf (by omega)];refine goW ?_;exact Zad [0,1,2,3,4,5] (.ren rfl)
theorem Ymi (w:Int):V.Spec Tryz.prog 105 [V.int w] [] (V.bool (decide (w.tmod 2≠0))) []:=by
 refine Se Tryz.func105 rfl rfl rfl fun B hB=>?_;refine goW ?_;refine Zbq (r:=w.tmod 2) rfl ?_;refine goW ?_;exact Zad [] (.ren rfl)
theorem Ye4 (w:Int) (h:0≤w):V.Spec Tryz.prog 84 [V.int w] [] (V.int (w % 64)) []:=by
 have ht:w.tmod 64=w % 64:=Int.tmod_eq_emod_of_nonneg h;refine Se Tryz.func84 rfl rfl rfl fun B hB=>?_;refine goW ?_;exact Zad [] (.ren rfl)
theorem YdS (w:Int) (h:0≤w) (h2:w≤9223372036854775807):V.Spec Tryz.prog 85 [V.int w] [] (V.int (w / 64)) []:=by
 refine Se Tryz.func85 rfl rfl rfl fun B hB=>?_;refine goW ?_;refine OL.quo ?_;refine goW ?_;exact Zad [] (.ren rfl)
theorem YcL (n:Int):V.Spec Tryz.prog 62 [V.int n] [] (Ycb (1,n)) []:=by
 refine Se Tryz.func62 rfl rfl rfl fun B hB=>?_;refine goW ?_;exact Zba [] (.ren rfl)
theorem YrD:V.Spec Tryz.prog 121 [] [] (Ycb (2,0)) []:=by
 refine Se Tryz.func121 rfl rfl rfl fun B hB=>?_;refine goW ?_;exact Zba [] (.ren rfl)
theorem YhV (l:List Int) (n:Int) (hl:l.length≤1000000000):V.Spec Tryz.prog 86 [ints l,V.int n] [] (V.bool (l.any fun x=>x==n)) []:=by
 refine Se Tryz.func86 rfl rfl rfl fun B hB=>?_;refine goW ?_;refine Zat (fun k:Nat=>[(0,ints l),(1,V.int n),(5,V.int k)]) (fun _=>[]) (fun k=>k≤l.length∧(l.take k).any (fun x=>x==n)=false) (fun k=>l.length-k) 0 [] ⟨Nat.zero_le _,by simp⟩ ?_;rintro k ⟨hk,hall⟩;by_cases hkl:k < l.length
 ·have e:=Yab hkl;by_cases he:l[k]=n
  ·have e2:l.any (fun x=>x==n)=true:=List.any_eq_true.2 ⟨l[k],List.getElem_mem _,by simpa using he⟩;rw [e2];refine goW ?_;exact Zad [] (.ren rfl)
  ·refine goW ?_;exact Zan (k+1) [] ⟨by omega,by rw [e,List.any_append,hall];simpa using he⟩ (by omega)
 ·rw [Yaf (by omega)] at hall;rw [hall];refine goW ?_;exact Zad [] (.ren rfl)
def Yrq (l:List Int) (w:Int):Bool:=if w.tmod 2≠0 then decide (-1999999999≤w)&&decide (w≤2000000001) else decide (w=0) || l.any fun x=>x==w / 2
theorem Yf9 (l:List Int) (w:Int) (hl:l.length≤1000000000) (hw:YbC w):V.Spec Tryz.prog 87 [ints l,V.int w] [] (V.bool (Yrq l w)) []:=by
 have h1:=Ymi w;have h2:=YhV l (w / 2) hl;obtain ⟨hw1,hw2⟩:=hw;unfold Yrq;by_cases ho:w.tmod 2≠0
 ·rw [if_pos ho];rw [decide_eq_true ho] at h1;refine Se Tryz.func87 rfl rfl rfl fun B hB=>?_;refine goW ?_;refine OL.c h1 Tryz.func105 ?_;(refine YnB ?_ ?_<;>intro hc<;>refine goW ?_)
  all_goals
   refine Zad [] (.bool ?_);simp;try omega
 ·rw [if_neg ho];rw [decide_eq_false ho] at h1;have hm:w % 2=0:=YcG.1 (by simpa using ho);by_cases h0:w=0
  ·have e:(decide (w=0) || l.any fun x=>x==w / 2)=true:=by simp [h0]
   rw [e];refine Se Tryz.func87 rfl rfl rfl fun B hB=>?_;refine goW ?_;refine OL.c h1 Tryz.func105 ?_;refine goW ?_;exact Zad [] (.ren rfl)
  ·rw [decide_eq_false h0,Bool.false_or];refine Se Tryz.func87 rfl rfl rfl fun B hB=>?_;refine goW ?_;refine OL.c h1 Tryz.func105 ?_;refine goW ?_;refine OL.quo ?_;refine goW ?_;refine OL.c h2 Tryz.func86 ?_;refine goW ?_;exact Zad [] (.ren rfl)
theorem YfK (a b:List Int):V.Spec Tryz.prog 15 [Yaw a,Yaw b] [] (V.bool (a==b)) []:=by
 have h:=YdD a b;refine Se Tryz.func15 rfl rfl rfl fun B hB=>?_;repeat' (first|(with_reducible refine TC.seq ?_)|(with_reducible refine TC.region ?_))
 with_reducible refine OL.box ?_
 with_reducible refine OL.box ?_
 refine Zag 2 ?_;refine Zag 3 ?_;refine goW ?_;refine OL.c h Tryz.func16 ?_;refine goW ?_;exact Zad [] (.ren rfl)
def clsN (p:Prg) (c:Int):Bool:=decide (3≤c)&&decide (c < 3+(p.cls.length:Int))
theorem YgS (p:Prg) (hp:p.cls.length≤1000000000) (c:Int):V.Spec Tryz.prog 97 [Ya0 p,V.int c] [] (V.bool (clsN p c)) []:=by
 unfold clsN;refine Se Tryz.func97 rfl rfl rfl fun B hB=>?_;repeat' (first|(with_reducible refine TC.seq ?_)|(with_reducible refine TC.region ?_))
 with_reducible refine OL.box ?_
 refine Zag 2 ?_;(refine YnB ?_ ?_<;>intro hc<;>refine goW ?_)
 all_goals
  refine Zad [] (.bool ?_);simp;try omega
def slotsG (g:List (List Int)) (ow:List Int) (c:Int) (n:Nat):List Int:=((List.range n).filter fun s=>upHas g c (ow.getD s 0)).map fun (s:Nat)=>(s:Int)
theorem YlU (g:List (List Int)) (ow:List Int) (c:Int) (n:Nat):slotsG g ow c (n+1)=slotsG g ow c n++(if upHas g c (ow.getD n 0) then [(n:Int)] else []):=by
 rw [slotsG,slotsG,List.range_succ,List.filter_append,List.map_append];congr 1;rw [List.filter_cons,List.filter_nil];split<;>rfl
theorem YiD (g:List (List Int)) (ow:List Int) (c:Int) (n:Nat):(slotsG g ow c n).length≤n:=by
 rw [slotsG,List.length_map];exact Nat.le_trans (List.length_filter_le _ _) (by simp)
theorem Yfk (g:List (List Int)) (ow:List Int) (hf:fine g=true) {c:Nat} (h3:3≤c) (hc:c < 3+g.length) (how:∀ (s:Nat) (h:s < ow.length),3≤ow[s]∧ow[s] < 3+(g.length:Int)) (hl:ow.length≤1000000) :
  V.Spec Tryz.prog 126 [fwA g ow,V.int c] [] (ints (slotsG g ow c ow.length)) []:=by
 refine Se Tryz.func126 rfl rfl rfl fun B hB=>?_;repeat' (first|(with_reducible refine TC.seq ?_)|(with_reducible refine TC.region ?_))
 with_reducible refine OL.box ?_
 refine Zag 2 ?_;refine goW ?_;refine ZaT 5 3 1 ?_;refine Zat (fun k:Nat=>[(2,.ep (fwC g ow) 0),(1,V.int c),(5,.hs 1),(9,V.int ow.length),(10,V.int k)]) (fun k=>[.dead,.gs false 3 1 none ((slotsG g ow c k).map V.int)]) (fun k=>k≤ow.length) (fun k=>ow.length-k) 0 [0,1] (Nat.zero_le _) ?_;rintro k hk;by_cases hkl:k < ow.length
 ·have h1:=Yhr g ow hf h3 hc hkl (how k hkl);have e:=YlU g ow c k;have hln:=YiD g ow c k;rw [List.getD_eq_getElem?_getD,List.getElem?_eq_getElem hkl,Option.getD_some] at e
  cases hu:upHas g c ow[k]
  ·rw [hu] at h1 e;rw [if_neg (by decide),List.append_nil] at e;have e:=(congrArg (List.map V.int) e).symm;generalize slotsG g ow c k=gk at *
   refine goW ?_;refine OL.c h1 Tryz.func147 ?_;refine goW ?_;exact Zan (k+1) [0,1] (by omega) (by omega)
  ·rw [hu] at h1 e;rw [if_pos rfl] at e;have e:(slotsG g ow c k).map V.int++[V.int k]=(slotsG g ow c (k+1)).map V.int:=by rw [e,List.map_append];rfl
   generalize slotsG g ow c k=gk at *
   refine goW ?_;refine OL.c h1 Tryz.func147 ?_;refine goW ?_;exact Zan (k+1) [0,3] (by omega) (by omega)
 ·obtain rfl:k=ow.length:=by omega
  refine goW ?_;refine Za4 4 ?_;exact Zad [] (.ren rfl)
theorem Yeu (l:List Cls) (c:Int):slotsG (graphOf l) (ownF 0 l) c (ownF 0 l).length=YfE l c:=by rw [YbL];rfl
theorem YeR (p:Prg) (hs:Ya9 p.cls) (hf:fine (graphOf p.cls)=true) (hsl:slN p.cls≤1000000) {c:Nat} (h3:3≤c) (hc:c < 3+p.cls.length):V.Spec Tryz.prog 88 [Ya0 p,V.int c] [] (ints (YfE p.cls c)) []:=by
 have hgl:(graphOf p.cls).length=p.cls.length:=by simp [graphOf]
 have h1:=Yb1 p hs hsl;have h2:=Yfk (graphOf p.cls) (ownF 0 p.cls) hf h3 (by omega) (fun s h=>YjT p.cls (List.getElem_mem h)) (by rw [YbL];exact hsl);rw [Yeu] at h2;refine Se Tryz.func88 rfl rfl rfl fun B hB=>?_;repeat' (first|(with_reducible refine TC.seq ?_)|(with_reducible refine TC.region ?_))
 with_reducible refine OL.box ?_
 refine Zag 2 ?_;refine goW ?_;refine OL.c h1 Tryz.func92 ?_;refine goW ?_;refine OL.c h2 Tryz.func126 ?_;refine goW ?_;exact Zad [] (.ren rfl)
theorem YdI (p:Prg) (hs:Ya9 p.cls) (hf:fine (graphOf p.cls)=true) (hsl:slN p.cls≤1000000) {c:Nat} (h3:3≤c) (hc:c < 3+p.cls.length):V.Spec Tryz.prog 28 [Ya0 p,V.int c] [] (V.int (1+(YfE p.cls c).length)) []:=by
 have h1:=YeR p hs hf hsl h3 hc;have hb:(YfE p.cls c).length≤1000000:=by
  have:=YiD (graphOf p.cls) (ownF 0 p.cls) c (ownF 0 p.cls).length
  rw [Yeu,YbL] at this;omega
 refine Se Tryz.func28 rfl rfl rfl fun B hB=>?_;repeat' (first|(with_reducible refine TC.seq ?_)|(with_reducible refine TC.region ?_))
 with_reducible refine OL.box ?_
 refine Zag 2 ?_;refine goW ?_;refine OL.c h1 Tryz.func88 ?_;refine goW ?_;exact Zad [] (.ren rfl)
def idM (l bs:List Nat):List (Int × AV):=(l.zip bs).map fun x=>((x.1:Int),V.int (x.2:Nat))
theorem YjM:∀ (l bs:List Nat) (x:Nat),x ∉ l→afind (x:Int) (idM l bs)=none
 | [],_,_,_=>rfl
 | _::_,[],_,_=>rfl
 | y::l,a::bs,x,h=>by
   have h1:((x:Int)==(y:Int))=false:=by
    rw [beq_eq_false_iff_ne];intro e;exact h (List.mem_cons.2 (.inl (by omega)))
   show (if ((x:Int)==(y:Int)) then some _ else afind (x:Int) (idM l bs))=none;rw [h1];simpa using YjM l bs x (fun hm=>h (List.mem_cons_of_mem _ hm))
theorem Ymw:∀ (l bs:List Nat) (x:Nat),bs.length=l.length→x∈l→afind (x:Int) (idM l bs)=some (V.int ((bs.getD (l.idxOf x) 0:Nat):Int))
 | [],_,_,_,h=>by cases h
 | _::_,[],_,h,_=>by simp at h
 | y::l,a::bs,x,h,hx=>by
   show (if ((x:Int)==(y:Int)) then some _ else afind (x:Int) (idM l bs))=_;by_cases e:y=x
   ·subst e;simp
   ·have h1:((x:Int)==(y:Int))=false:=by rw [beq_eq_false_iff_ne];omega
    have h2:(y==x)=false:=beq_eq_false_iff_ne.2 e;rw [h1,List.idxOf_cons,h2,cond_false,List.getD_cons_succ];simpa using Ymw l bs x (by simpa using h) ((List.mem_cons.1 hx).resolve_left (Ne.symm e))
theorem YpQ (l bs:List Nat) (x a:Nat) (h:bs.length=l.length):idM (l++[x]) (bs++[a])=idM l bs++[((x:Int),V.int (a:Nat))]:=by
 rw [idM,List.zip_append h.symm,List.map_append];rfl
def Yp1 (l:List Nat):List (Int × AV):=l.map fun (x:Nat)=>((x:Int),V.bool true)
theorem YkD:∀ (l:List Nat) (x:Nat),x ∉ l→afind (x:Int) (Yp1 l)=none
 | [],_,_=>rfl
 | y::l,x,h=>by
   have h1:((x:Int)==(y:Int))=false:=by
    rw [beq_eq_false_iff_ne];intro e;exact h (List.mem_cons.2 (.inl (by omega)))
   show (if ((x:Int)==(y:Int)) then some _ else afind (x:Int) (Yp1 l))=none;rw [h1];simpa using YkD l x (fun hm=>h (List.mem_cons_of_mem _ hm))
theorem YmU:∀ (l:List Nat) (x:Nat),x∈l→afind (x:Int) (Yp1 l)=some (V.bool true)
 | [],_,h=>by cases h
 | y::l,x,h=>by
   show (if ((x:Int)==(y:Int)) then some _ else afind (x:Int) (Yp1 l))=_;by_cases e:y=x
   ·subst e;simp
   ·have h1:((x:Int)==(y:Int))=false:=by rw [beq_eq_false_iff_ne];omega
    rw [h1];simpa using YmU l x ((List.mem_cons.1 h).resolve_left (Ne.symm e))
theorem Yro (l:List Nat) (x:Nat):Yp1 (l++[x])=Yp1 l++[((x:Int),V.bool true)]:=by
 rw [Yp1,List.map_append];rfl
end Go.Proofs
namespace Go.V
open Go Go.W Go.RowKit
section
variable {P:Program} {N:Nat} {D:List Deferred} {ρ:Ro} {η:Eta} {x:Operand} {X:Nat} {M:Bool} {tab:Tab}
theorem YpF {k K E:Nat} {es:List (Int × AV)} (hT:YaX P tab) (hs:(tab X).map (·.sh)=some (.map K E)) (hx:ev2 ρ x=some (.mp k)) (hk:η[k]?=some (.mo es)):Yaj P N D (.call ⟨.builtin .len,#[x],#[X]⟩) ρ η (.raw (.int .i64 es.length)):=fun _ _ _ _ _ hE hR hH=>by
 obtain ⟨u,g1,g2⟩:=hR.ev hx
 cases g2 with
 | @mp _ _ b hb =>
 obtain ⟨b',l,e,h0,hM,hkeys,_⟩:=hH.ok k _ _ hb hk
 cases e
 obtain ⟨d,ut,h2⟩:=YcO hT hs;obtain rfl:d=_:=h2;obtain ⟨es',clock,hb',hl⟩:=id hM;have hlen:es'.size=es.length:=by
  have e1:=congrArg List.length hl;have e2:=congrArg List.length hkeys;simp at e1 e2;omega
 refine ⟨_,.raw rfl,fun {m' w'} hkp _ _ _ _ _=>?_⟩;have hb2:w'.heap[b]?=some (.map es' clock):=(hkp rfl).heap hb';simp [execOp,resolve,invoke,builtin,hE.ev g1,Builtin.len_,MapKept.run_getObj_map hb2,run_underlying ut,goInt,hlen]
end
theorem Ypt {C:Cx} {ρ:Ro} {η:Eta} {x:Operand} {X k K E:Nat} {es:List (Int × AV)} (hs:(C.tab X).map (·.sh)=some (.map K E):=by with_unfolding_all exact rfl) (hx:ev2 ρ x=some (.mp k):=by with_unfolding_all exact rfl) (hk:η[k]?=some (.mo es):=by with_unfolding_all exact rfl):Yaj C.P C.N C.D (.call ⟨.builtin .len,#[x],#[X]⟩) ρ η (.raw (.int .i64 es.length)):=YpF C.hT hs hx hk
theorem Zb4 {C:Cx} {Q:Qt} {f0:Nat} {x y:Code} {ρ:Ro} {η:Eta} (h:TF C f0 (Exit.then (wpF C.P f0 y Q) Q) x ρ η):TF C f0 Q (.seq x y) ρ η:=fun a w hA=>YpR (h a w hA)
section
variable {P:Program} {C:Cx} {fn:Func} {B B1:Base} {p:Prop} {pv:Value} {k D1 D2:Nat} {ρ:Ro} {η η' ηX:Eta}
theorem ZcD (hp:p) (hM1:Marked B B1 D1) (hM:Marked B1 C.B D2) (hBn:B.γ.length=C.n) (σ:List Nat) (hD:C.D=[YbD D2,YbD D1]:=by with_unfolding_all exact rfl) (hres:fn.results=#[]:=by with_unfolding_all exact rfl)
  (hn:YbG σ=true:=by with_unfolding_all exact rfl) (hpr:Ycy C.n 0 σ=true:=by with_unfolding_all exact rfl) (ho:Ybw (ts σ) η σ η':=by repeat' (first|with_unfolding_all exact trivial|exact OE.ren (by with_unfolding_all exact rfl)|with_unfolding_all exact OE.gs|with_unfolding_all refine And.intro ⟨_,by with_unfolding_all exact rfl,?_⟩ ?_)) :
  TX C (bodyPostM Fence.wide k P fn (Yho B (.tp []) η' p pv ηX)) .normal ρ η:=by
 rintro a w ⟨m,γ,ρc,hE,hR,hI⟩;have hI1:In B1 m w γ η:=hI.comp hM.far hM.own hM.pre;have hI0:In B m w γ η:=hI1.comp hM1.far hM1.own hM1.pre;have hlt1:=(Array.getElem?_eq_some_iff.1 hM1.mark).1;have hD2:w.heap[D2]?=some (.deferred (some [])):=by
  rw [hI.far.block D2 (Array.getElem?_eq_some_iff.1 hM.mark).1 hM.off];exact hM.mark
 have hD1:w.heap[D1]?=some (.deferred (some [])):=by
  rw [hI1.far.block D1 hlt1 hM1.off];exact hM1.mark
 have hne:D1≠D2:=by have:=hM.le;omega
 have hD1':(w.putObj D2 (.deferred none)).heap[D1]?=some (.deferred (some [])):=(World.putObj_heap_other hne).trans hD1;obtain ⟨γ',g1,g2⟩:=hI0.sel hBn hn hpr ho;have hle2:B.w.heap.size≤D2:=Nat.le_trans hM1.far.size hM.le;have hs2:Yam B.w.heap.size m w m (w.putObj D2 (.deferred none)):=.put hD2 rfl hle2;have hs1:Yam B.w.heap.size m (w.putObj D2 (.deferred none)) m ((w.putObj D2 (.deferred none)).putObj D1 (.deferred none)):=.put hD1' rfl hM1.le;rw [hD] at hE;show LeavesInM Fence.wide k P fn a.tmps _ a.defers .returning w;rw [hE.defers];refine ⟨by simp,.inl ⟨D2,_,rfl,run_takeDeferred hD2,⟨by simp,.inl ⟨D1,_,rfl,run_takeDeferred hD1',_,results_none hres _ P _,.inl ⟨hp,_,m,γ',rfl,(g2.step hs2).step hs1,.tp (vs:=[]) rfl fun j v c hv hc=>?_⟩⟩⟩⟩⟩;simp at hv
end
end Go.V
