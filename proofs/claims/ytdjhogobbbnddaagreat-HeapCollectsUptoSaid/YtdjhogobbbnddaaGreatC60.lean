/- Lemmas for the claim; no conditions. -/
import Derived.Test.YtdjhogobbbnddaaGreatC21
import Derived.Test.YtdjhogobbbnddaaGreatC23
import Derived.Test.YtdjhogobbbnddaaGreatC19
import Derived.Test.YtdjhogobbbnddaaGreatC18
import Derived.Test.YtdjhogobbbnddaaGreatC52
namespace Go.Proofs
theorem Yy1 {α β:Type} {f g:α→List β}:∀ {l:List α},(∀ x∈l,f x=g x)→l.flatMap f=l.flatMap g
 | [],_=>rfl
 | x::l,h=>by rw [List.flatMap_cons,List.flatMap_cons,h x (List.mem_cons_self ..),Yy1 fun y hy=>h y (List.mem_cons_of_mem _ hy)]
open Go Go.W Go.V
theorem YAJ (ad:List Int) (l:List Ob):Yeo ad l=0::l.flatMap fun x=>x.1::x.2.map (YaS ad):=by
 induction l using YhR with
 | nil=>rfl
 | snoc l x ih=>rw [YhT,ih,List.flatMap_append];simp
section
variable {sh:Int→Option Nat} {W:List Int} {st:List Nat} (h:GH sh W st)
include h
theorem YAR (num:Int→Int) (row:List Nat) (hr:∀ x∈row,x∈st):Yh2 (row.map (Ylw sh W num))=(endF sh W 1 row:Nat):=by
 induction row using YhR with
 | nil=>rfl
 | snoc l x ih =>
   have hx:=h.slots_len (hr x (by simp));rw [List.map_append,List.map_singleton,Ycr,ih fun y hy=>hr y (by simp [hy]),Yno,endF,endF,Ylw,List.length_map,hx];omega
theorem YAp (num:Int→Int) (row:List Nat) (hr:∀ x∈row,x∈st):Ycx (row.map (Ylw sh W num))=Yd1 (adsF sh W 1 row):=by
 induction row using YhR with
 | nil=>rfl
 | snoc l x ih =>
   have h1:∀ y∈l,y∈st:=fun y hy=>hr y (by simp [hy])
   rw [List.map_append,List.map_singleton,YkG,ih h1,YAR h num l h1,Ynh,Yd1,Yd1,List.map_append];rfl
theorem YAC {row:List Nat} {w:Int} (hw:okW st w=true) (hm:Yax W w≠0→Yax W w∈row):YaS (Yd1 (adsF sh W 1 row)) (Yrj W (YmY row) w)=YqK sh W row w:=by
 unfold Yrj YqK;by_cases h0:w=0
 ·rw [if_pos h0,if_pos (Ycp (.inr h0)),h0];rfl
 ·rw [if_neg h0];by_cases ho:w.tmod 2≠0
  ·have h2:w % 2≠0:=fun h=>ho (YcG.2 h)
   rw [if_pos ho,if_pos (Ycp (.inl h2))];show 2*((w-1) / 2)+1=w;omega
  ·have h2:¬ w % 2≠0:=fun h=>ho fun h3=>h (YcG.1 h3)
   have z:Yax W w≠0:=fun z=>((h.obj_iff hw).1 z).elim h2 h0
   have hi:=List.idxOf_lt_length_of_mem (hm z);rw [if_neg ho,if_neg z];show 2*(Yd1 (adsF sh W 1 row)).getD (YmY row (Yax W w)).toNat 0=_;rw [YmY,show ((Yax W w:Int)).toNat=Yax W w by omega,show (((row.idxOf (Yax W w):Nat):Int)).toNat=row.idxOf (Yax W w) by omega,adW,List.getD_eq_getElem?_getD,List.getD_eq_getElem?_getD,Yd1,List.getElem?_map,List.getElem?_eq_getElem (by rw [YgM];exact hi)];rfl
variable {ws:List Int} (hw:∀ w∈ws,okW st w=true)
include hw
theorem YBa:Yeo (Ycx ((YjF sh W ws).map (Ylw sh W (YmY (YjF sh W ws))))) ((YjF sh W ws).map (Ylw sh W (YmY (YjF sh W ws))))=Yt8 sh W ws:=by
 have m:=YpA h hw;rw [YAp h _ _ fun x hx=>(m.ok.re x hx).1,YAJ,Yt8,List.flatMap_map];congr 1;refine Yy1 fun x hx=>?_;rw [Ylw,rowW];simp only [List.map_map];congr 1;refine List.map_congr_left fun w hw'=>?_;exact YAC h (YbW h (m.ok.re x hx).1 w hw') (m.next x hx w hw')
end
theorem YAP {sh:Int→Option Nat} {W:List Int} {st:List Nat} (h:GH sh W st) {row:List Nat} {w:Int} (hw:okW st w=true) (hm:Yax W w≠0→Yax W w∈row):Ys9 row.length (Yrj W (YmY row) w):=by
 unfold Ys9 Yrj;by_cases h0:w=0
 ·rw [if_pos h0];exact ⟨fun e=>absurd e (by decide),fun e=>absurd e (by decide)⟩
 ·rw [if_neg h0];by_cases ho:w.tmod 2≠0
  ·rw [if_pos ho];have h2:w % 2≠0:=fun h=>ho (YcG.2 h)
   rw [okW,if_pos h2] at hw;simp only [Bool.and_eq_true,decide_eq_true_eq] at hw;exact ⟨fun _=>by simp only;omega,fun e=>absurd e (by decide:(1:Int)≠3)⟩
  ·have h2:¬ w % 2≠0:=fun h=>ho fun h3=>h (YcG.1 h3)
   have z:Yax W w≠0:=fun z=>((h.obj_iff hw).1 z).elim h2 h0
   have hi:=List.idxOf_lt_length_of_mem (hm z);rw [if_neg ho];refine ⟨fun e=>absurd e (by decide:(3:Int)≠1),fun _=>?_⟩;rw [YmY,show ((Yax W w:Int)).toNat=Yax W w by omega];simp only;omega
theorem YAX (l:List Nat) (y:Nat):((Yd1 l).any fun x=>x==(y:Int))=decide (y∈l):=by
 rw [Yd1,List.any_map,Bool.eq_iff_iff];simp only [List.any_eq_true,Function.comp,beq_iff_eq,decide_eq_true_eq];constructor
 ·rintro ⟨x,hx,e⟩;have:x=y:=by omega
  exact this ▸ hx
 ·exact fun h=>⟨y,h,rfl⟩
section
variable (p:Prg) (hs:Ya9 p.cls) (hcb:Yag p=true)
include hs hcb
set_option maxHeartbeats 4000000 in
theorem YAk (W:List Int) (hW:∀ x∈W,YbC x) {st:List Nat} (hG:GH (shp p.cls) W st) (ws:List Int) (hwi:∀ w∈ws,YbC w) (hwk:∀ w∈ws,okW st w=true) (hwl:ws.length≤1048576) :
  V.Spec Tryz.prog 124 [Ya0 p,Yaw W,ints ws] [] (ints (Yd1 (YjF (shp p.cls) W ws))) []:=by
 obtain ⟨hsl,hpl,hf⟩:=YbO hcb;have hWl6:=(Yah hG.eq).2.1;refine Se Tryz.func124 rfl rfl rfl fun B hB=>?_;repeat' (first|(with_reducible refine TC.seq ?_)|(with_reducible refine TC.region ?_))
 with_reducible refine OL.box ?_
 with_reducible refine OL.box ?_
 refine Zag 3 ?_;refine Zag 4 ?_;refine goW ?_;refine ZaT 7 3 1 ?_;refine Zat (fun s:Nat × List Int × List Nat=>[(3,.ep (YbB p) 0),(4,.ep [ints W] 0),(7,.hs 4),(8,.hs 3),(9,V.int s.1)]) (fun s=>[.dead,.dead,.dead,.gs false 3 1 none (s.2.1.map V.int),.gs false 3 1 none ((Yd1 s.2.2).map V.int)]) (fun s=>s.1≤s.2.1.length∧Todo (shp p.cls) W st ws s.1 s.2.1 s.2.2∧(∀ w∈s.2.1,YbC w)∧s.2.1.length≤ws.length+600*s.2.2.length) (fun s=>(W.length-s.2.2.length)*601+(s.2.1.length-s.1)) (0,ws,[]) [0,1,2,3,4] ⟨Nat.zero_le _,ZcM hwk,hwi,by simp⟩ ?_;rintro ⟨i,todo,out⟩ ⟨hi,ht,hti,htl⟩;dsimp only at *
 have hol:=ht.ok.len hG;by_cases hil:i < todo.length;rotate_left
 ·rw [ht.done hG (by omega)];refine goW ?_;refine Za4 6 ?_;exact Zad [] (.ren rfl)
 ·obtain ⟨st1,st2⟩:=ht.step hG hil;have hwj:=hti _ (List.getElem_mem hil);have hwo:=ht.okw _ (List.getElem_mem hil);generalize hte:todo[i]=w at *
  have h0:=Ymi w;by_cases hz:Yax W w=0
  ·have ht':=st1 (.inl hz);have hp:=(hG.obj_iff hwo).1 hz;by_cases ho:w.tmod 2≠0
   ·rw [decide_eq_true ho] at h0;refine goW ?_;(refine Zal (id:=6) true 23 23 ?_<;>refine Zae 0 1 ?_<;>refine OD.st 2 ?_<;>refine OD.st 3 ?_ (h:=(by with_unfolding_all exact gv))<;>refine ZaL 23 (LE.int hte) ?_<;>refine Zah 4 h0 Tryz.func105 ?_<;>refine OD.st 5 ?_<;>refine OD.of 6 ?_<;>refine OD.of 7 ?_<;>refine OD.of 8 ?_<;>refine OD.of 9 ?_<;>refine OD.of 10 ?_<;>refine Zae 11 12 ?_<;>refine OD.of 13 ?_<;>refine OD.of 14 ?_<;>refine OD.of 15 ?_<;>refine OD.of 16 ?_<;>refine OD.of 17 ?_<;>refine OD.of 18 ?_<;>refine OD.of 19 ?_<;>refine OD.of 20 ?_<;>refine OD.of 21 ?_<;>refine OD.st 22 ?_<;>refine Zaa ?_)
    refine goW ?_;exact Zan (i+1,todo,out) [0,1,2,3,4] ⟨by dsimp only;omega,ht',hti,htl⟩ (by dsimp only;omega)
   ·rw [decide_eq_false ho] at h0;have h2:¬ w % 2≠0:=fun h=>ho fun h3=>h (YcG.1 h3)
    have hw0:w=0:=hp.resolve_left h2;refine goW ?_;(refine Zal (id:=6) true 23 23 ?_<;>refine Zae 0 1 ?_<;>refine OD.st 2 ?_<;>refine OD.st 3 ?_ (h:=(by with_unfolding_all exact gv))<;>refine ZaL 23 (LE.int hte) ?_<;>refine Zah 4 h0 Tryz.func105 ?_<;>refine Zaf 5 6 7 8 ?_<;>refine OD.st 9 ?_ (h:=(by with_unfolding_all exact gv))<;>refine ZaL 29 (LE.int hte) ?_<;>refine Zae 10 11 ?_<;>refine OD.st 12 ?_<;>refine Zaw 32 ?_ ?_<;>(intro hc;try (exfalso;omega))<;>(first|(refine OD.st 13 ?_)|(refine OD.of 13 ?_))<;>refine OD.of 14 ?_<;>refine OD.of 15 ?_<;>refine OD.of 16 ?_<;>refine OD.of 17 ?_<;>refine OD.of 18 ?_<;>refine OD.of 19 ?_<;>refine OD.of 20 ?_<;>refine OD.of 21 ?_<;>refine OD.st 22 ?_<;>refine Zaa ?_)
    refine goW ?_;exact Zan (i+1,todo,out) [0,1,2,3,4] ⟨by dsimp only;omega,ht',hti,htl⟩ (by dsimp only;omega)
  ·have hn:¬ (w % 2≠0∨w=0):=fun h=>hz (Ycp h)
   have ho:¬ w.tmod 2≠0:=fun h=>hn (.inl fun h3=>h (YcG.2 h3))
   have hwz:w≠0:=fun h=>hn (.inr h)
   rw [decide_eq_false ho] at h0;have hw1:=hwj.2;obtain ⟨hw0,hxm⟩:0 < w∧(w / 2).toNat∈st:=by
    rcases YlJ hwo with h|⟨_,h3,h4⟩
    ·exact (hn h).elim
    ·exact ⟨h3,h4⟩
   have hob:=hG.obj hwo hn;have hobe:Yax W w=real W (w / 2).toNat:=by rw [Yax,if_neg hn]
   have hrr:=Yrz W hW st hG _ hxm;rw [← hobe,show (((w / 2).toNat:Nat):Int)=w / 2 by omega] at hrr;have hha:=YhV (Yd1 out) (Yax W w:Nat) (by rw [Yd1,List.length_map];omega);rw [YAX] at hha;by_cases hm:Yax W w∈out
   ·have ht':=st1 (.inr hm);rw [decide_eq_true hm] at hha;generalize Yax W w=x at *
    refine goW ?_;(refine Zal (id:=6) true 21 23 ?_<;>refine Zae 0 1 ?_<;>refine OD.st 2 ?_)<;>((refine OD.st 3 ?_ (h:=(by with_unfolding_all exact gv))<;>refine ZaL 23 (LE.int hte) ?_))<;>(refine Zah 4 h0 Tryz.func105 ?_<;>refine Zaf 5 6 7 8 ?_)<;>((refine OD.st 9 ?_ (h:=(by with_unfolding_all exact gv))<;>refine ZaL 29 (LE.int hte) ?_))<;>(refine Zae 10 11 ?_<;>refine OD.st 12 ?_<;>refine Zaw 32 ?_ ?_<;>(intro hc;try (exfalso;omega))<;>(first|(refine OD.st 13 ?_)|(refine OD.of 13 ?_))<;>refine Zaf 14 15 16 17 ?_)<;>((refine OD.st 18 ?_ (h:=(by with_unfolding_all exact gv))<;>refine ZaL 38 (LE.int hte) ?_))<;>(refine OD.st 19 ?_ (h:=Yzo)<;>refine Zah 20 hrr Tryz.func30 ?_)<;>((refine Zac 21 ?_);refine Zc5 (ZbA (t:=33) (by with_unfolding_all exact rfl) (by with_unfolding_all exact rfl)) hha Tryz.func86 ?_<;>refine OL.nil (Zab ?_))<;>(refine OD.st 22 ?_<;>refine Zaa ?_)
    refine Zap ?_;refine goW ?_;exact Zan (i+1,todo,out) [0,1,2,3,4] ⟨by dsimp only;omega,ht',hti,htl⟩ (by dsimp only;omega)
   ·have ht':=st2 (not_or.2 ⟨hz,hm⟩);have hol':=ht'.ok.len hG;rw [decide_eq_false hm] at hha;obtain ⟨k0,hk0,g1,g2,g3⟩:=YnA hG (hG.re_obj hwo hz);have hre:=hG.re_obj hwo hz;have hsn:=hG.slots_len hre.1;have hsi:∀ v∈slotsW (shp p.cls) W (Yax W w),YbC v:=fun v hv=>hW v (List.mem_of_mem_drop (List.mem_of_mem_take hv))
    have hse:slotsW (shp p.cls) W (Yax W w)=(W.take (Yax W w+1+szW (shp p.cls) (wAt W (Yax W w)))).drop (Yax W w+1):=by rw [slotsW,List.drop_take];congr 1;omega
    obtain ⟨hx1,hxl,hxd⟩:=hG.hd hre.1;obtain ⟨hxw0,n,hsh,hxn⟩:=Ybd.1 hxd;have hwx:wAt W (Yax W w)=W[Yax W w]:=by rw [wAt,List.getD_eq_getElem?_getD,List.getElem?_eq_getElem hxl];rfl
    have hmd:W[Yax W w] % 64=W[Yax W w]:=by rw [← hwx];exact hG.cls hre.1 hre.2
    have hszw:szW (shp p.cls) (wAt W (Yax W w))=n:=by rw [szW,hsh];rfl
    rw [hszw] at hsn hse;rw [hwx] at hxw0 hsh;rw [hmd] at hsh;have hcls:=Ye4 W[Yax W w] hxw0;rw [hmd] at hcls;obtain ⟨c,hc,hc3,hccl,hn2⟩:=YcS hsh;have hsz:=YdI p hs hf (by omega) hc3 (by omega);rw [Ya4 hcb,← hn2,← hc] at hsz;generalize hss:slotsW (shp p.cls) W (Yax W w)=ss at *
    generalize Yax W w=x at *
    have e1:(Yd1 out).map V.int++[V.int (x:Int)]=(Yd1 (out++[x])).map V.int:=by rw [Yd1,Yd1,List.map_append,List.map_append];rfl
    have e2:todo.map V.int++((W.take (x+1+n)).drop (x+1)).map V.int=(todo++ss).map V.int:=by rw [List.map_append,hse]
    refine goW ?_;(refine Zal (id:=6) true 21 23 ?_<;>refine Zae 0 1 ?_<;>refine OD.st 2 ?_)<;>((refine OD.st 3 ?_ (h:=(by with_unfolding_all exact gv))<;>refine ZaL 23 (LE.int hte) ?_))<;>(refine Zah 4 h0 Tryz.func105 ?_<;>refine Zaf 5 6 7 8 ?_)<;>((refine OD.st 9 ?_ (h:=(by with_unfolding_all exact gv))<;>refine ZaL 29 (LE.int hte) ?_))<;>(refine Zae 10 11 ?_<;>refine OD.st 12 ?_<;>refine Zaw 32 ?_ ?_<;>(intro hc;try (exfalso;omega))<;>(first|(refine OD.st 13 ?_)|(refine OD.of 13 ?_))<;>refine Zaf 14 15 16 17 ?_)<;>((refine OD.st 18 ?_ (h:=(by with_unfolding_all exact gv))<;>refine ZaL 38 (LE.int hte) ?_))<;>(refine OD.st 19 ?_ (h:=Yzo)<;>refine Zah 20 hrr Tryz.func30 ?_)<;>((refine Zac 21 ?_);refine Zc5 (ZbA (t:=33) (by with_unfolding_all exact rfl) (by with_unfolding_all exact rfl)) hha Tryz.func86 ?_<;>refine OL.nil (Zab ?_))<;>(refine OD.st 22 ?_<;>refine Zaa ?_)
    refine Zap ?_;refine goW ?_;(refine Zal (id:=7) true 8 8 ?_<;>refine Zaf 0 1 2 3 ?_<;>refine OD.st 4 ?_ (h:=(by with_unfolding_all exact gv))<;>refine ZaL 47 (LE.int hte) ?_<;>refine OD.st 5 ?_ (h:=Yzo)<;>refine Zah 6 hrr Tryz.func30 ?_<;>refine OD.st 7 ?_<;>refine Zaa ?_)
    refine goW ?_;rw [e1];(refine Zal (id:=9) true 16 18 ?_<;>refine Zaf 0 1 2 3 ?_<;>refine Zaf 4 5 6 7 ?_<;>refine Zaf 8 9 10 11 ?_<;>refine Zah 12 hcls Tryz.func84 ?_<;>refine Zah 13 hsz Tryz.func28 ?_<;>refine OD.st 14 ?_<;>refine OD.st 15 ?_ (h:=Ywz (h:=x+1+n) (l:=x+1))<;>(refine Zac 16 ?_;refine OL.app ?_;refine OL.nil ?_;refine Zab ?_)<;>refine OD.st 17 ?_<;>refine Zaa ?_)
    refine Zap ?_;refine goW ?_;rw [e2];exact Zan (i+1,todo++ss,out++[x]) [0,1,2,7,6] ⟨by simp;omega,ht',fun v hv=>(List.mem_append.1 hv).elim (hti v) (hsi v),by simp;omega⟩ (by simp;omega)
end
end Go.Proofs
