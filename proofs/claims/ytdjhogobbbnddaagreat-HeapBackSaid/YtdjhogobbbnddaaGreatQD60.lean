/- Part 60 of what the claim is proved by: lemmas on the model and walks through functions of the program; no conditions. -/
import Derived.Test.YtdjhogobbbnddaaGreatQD0
import Derived.Test.YtdjhogobbbnddaaGreatQ23
import Derived.Test.YtdjhogobbbnddaaGreatQ19
import Derived.Test.YtdjhogobbbnddaaGreatQ18
import Derived.Test.YtdjhogobbbnddaaGreatQD46
import Derived.Test.YtdjhogobbbnddaaGreatQ22
namespace Go.Proofs
open Go Go.W Go.V
theorem YyT (la lb:List Ob):V.Spec Tryz.prog 20 [Yef la,Yef lb] [] (V.bool (la==lb)) []:=by
 refine Se Tryz.func20 rfl rfl rfl fun B hB=>?_;refine TC.bl 0 fun hla=>TC.bl 1 fun hlb=>?_;by_cases hl:la.length=lb.length
 ·refine goW ?_;refine TC.lp (fun k:Nat=>[(0,Yef la),(1,Yef lb),(5,V.int k)]) (fun _=>[]) (fun k=>k≤la.length∧la.take k=lb.take k) (fun k=>la.length-k) 0 [] ⟨Nat.zero_le _,by simp⟩ ?_;rintro k ⟨hk,hpre⟩;by_cases hkl:k < la.length
  ·have h3:=YgB la[k].2 (lb[k]'(by omega)).2;by_cases h1:la[k].1=(lb[k]'(by omega)).1
   ·cases h2:(la[k].2==(lb[k]'(by omega)).2) with
    | false =>
      rw [h2] at h3;have:la≠lb:=fun e=>by subst e;simp at h2
      refine goW ?_;(refine TC.draw (id:=6) true 25 25 ?_<;>refine OD.st4 0 1 2 3 ?_<;>refine OD.st4 4 5 6 7 ?_<;>refine OD.st4 8 9 10 11 ?_<;>refine OD.sD 28 ?_ ?_<;>(intro hc;try (exfalso;omega))<;>(first|(refine OD.st 12 ?_)|(refine OD.of 12 ?_))<;>refine OD.st4 13 14 15 16 ?_<;>refine OD.st4 17 18 19 20 ?_<;>refine OD.st 21 ?_<;>refine OD.c1 22 h3 Tryz.func21 ?_<;>refine OD.st2 23 24 ?_<;>refine OD.dn ?_)
      refine goW ?_;refine TX.rt1 [] (.bool ?_);simp [this]
    | true =>
      rw [h2] at h3;have h:la[k]=lb[k]'(by omega):=Prod.ext h1 (by simpa using h2);refine goW ?_;(refine TC.draw (id:=6) true 25 25 ?_<;>refine OD.st4 0 1 2 3 ?_<;>refine OD.st4 4 5 6 7 ?_<;>refine OD.st4 8 9 10 11 ?_<;>refine OD.sD 28 ?_ ?_<;>(intro hc;try (exfalso;omega))<;>(first|(refine OD.st 12 ?_)|(refine OD.of 12 ?_))<;>refine OD.st4 13 14 15 16 ?_<;>refine OD.st4 17 18 19 20 ?_<;>refine OD.st 21 ?_<;>refine OD.c1 22 h3 Tryz.func21 ?_<;>refine OD.st2 23 24 ?_<;>refine OD.dn ?_)
      refine goW ?_;refine TX.rd (k+1) [] ⟨by omega,?_⟩ (by omega);rw [Yab (by omega),Yab (by omega),hpre,h]
   ·have:la≠lb:=fun e=>by subst e;exact h1 rfl
    refine goW ?_;(refine TC.draw (id:=6) true 25 25 ?_<;>refine OD.st4 0 1 2 3 ?_<;>refine OD.st4 4 5 6 7 ?_<;>refine OD.st4 8 9 10 11 ?_<;>refine OD.sD 28 ?_ ?_<;>(intro hc;try (exfalso;omega))<;>(first|(refine OD.st 12 ?_)|(refine OD.of 12 ?_))<;>refine OD.of 13 ?_<;>refine OD.of 14 ?_<;>refine OD.of 15 ?_<;>refine OD.of 16 ?_<;>refine OD.of 17 ?_<;>refine OD.of 18 ?_<;>refine OD.of 19 ?_<;>refine OD.of 20 ?_<;>refine OD.of 21 ?_<;>refine OD.of 22 ?_<;>refine OD.of 23 ?_<;>refine OD.st 24 ?_<;>refine OD.dn ?_)
    refine goW ?_;refine TX.rt1 [] (.bool ?_);simp [this]
  ·refine goW ?_;refine TX.rt1 [] (.bool ?_);have e:la=lb:=by
    rw [← Yaf (l:=la) (k:=k) (by omega),← Yaf (l:=lb) (k:=k) (by omega)];exact hpre
   simp [e]
 ·refine goW ?_;refine TX.rt1 [] (.bool ?_);have:la≠lb:=fun e=>by subst e;exact hl rfl
  simp [this]
theorem YBf (l:List Ob):V.Spec Tryz.prog 20 [Yef l,Yef l] [] (V.bool true) []:=by
 have h:=YyT l l;rwa [beq_self_eq_true] at h
section
variable (p:Prg) (hs:Ya9 p.cls) (hpk:∀ x∈p.nodes,x.2.2.length*8≤140737488355328) (W:List Int) (hW:∀ x∈W,YbC x) (hWl:W.length*8≤140737488355328)
include hs hpk hW hWl
theorem Yzm (ws:List Int) (hwi:∀ w∈ws,YbC w) (hwl:ws.length*16≤140737488355328) :
  V.Spec Tryz.prog 18 [Ya0 p,Yaw W,ints ws] [] (.tp [Yef (Yku p W ws).1,Ych (Yku p W ws).2.1,V.int (Yku p W ws).2.2]) []:=by
 by_cases h:(Yku p W ws).2.2=0
 ·have:=Yia p hs hpk W hW hWl ws hwi hwl h
  rw [h];exact this
 ·have h2:=Yp9 p hs hpk W hW hWl ws hwi hwl h;have e:(Yku p W ws).1=[]∧(Yku p W ws).2.1=[]:=by
   unfold Yku at h ⊢;split
   ·rename_i q
    rw [if_pos q] at h;split
    ·rename_i q2;rw [if_pos q2] at h;exact (h rfl).elim
    ·exact ⟨rfl,rfl⟩
   ·exact ⟨rfl,rfl⟩
  rw [e.1,e.2];exact h2.drop (LE.tp ⟨.nil (by decide),.nil (by decide),.ren rfl,trivial⟩)
end
section
variable {sh:Int→Option Nat} {W:List Int} {st:List Nat}
theorem YAr {L l:List Int} {x:Int} {n:Nat} (h:L.drop n=x::l):wAt L n=x∧L.drop (n+1)=l∧n < L.length:=by
 have hn:n < L.length:=by
  rcases Nat.lt_or_ge n L.length with q|q
  ·exact q
  ·rw [List.drop_eq_nil_iff.2 q] at h;cases h
 rw [List.drop_eq_getElem_cons hn,List.cons.injEq] at h;exact ⟨by rw [wAt,List.getD_eq_getElem?_getD,List.getElem?_eq_getElem hn,Option.getD_some,h.1],h.2,hn⟩
end
theorem YAJ (ad:List Int) (l:List Ob):Yeo ad l=0::l.flatMap fun x=>x.1::x.2.map (YaS ad):=by
 induction l using YhR with
 | nil=>rfl
 | snoc l x ih=>rw [YhT,ih,List.flatMap_append];simp
abbrev Rw:=List (Int × List Int)
abbrev rwL (x:Int × List Int):List Int:=x.1::x.2
def hpR (r:Rw):List Int:=0::r.flatMap rwL
def adG:Nat→Rw→List Nat
 | _,[]=>[]
 | n,x::r=>n::adG (n+1+x.2.length) r
def enG:Nat→Rw→Nat
 | n,[]=>n
 | n,x::r=>enG (n+1+x.2.length) r
theorem Yzh:∀ (n:Nat) (a b:Rw),enG n (a++b)=enG (enG n a) b
 | _,[],_=>rfl
 | n,x::a,b=>by rw [List.cons_append,enG,enG,Yzh _ a b]
theorem YAE:∀ (n:Nat) (a b:Rw),adG n (a++b)=adG n a++adG (enG n a) b
 | _,[],_=>rfl
 | n,x::a,b=>by rw [List.cons_append,adG,adG,enG,YAE _ a b];rfl
theorem Yzg:∀ (n:Nat) (r:Rw),(adG n r).length=r.length
 | _,[]=>rfl
 | n,x::r=>by rw [adG,List.length_cons,Yzg _ r];rfl
theorem YzO:∀ (n:Nat) (r:Rw),n+r.length≤enG n r
 | _,[]=>by simp [enG]
 | n,x::r=>by rw [enG];have:=YzO (n+1+x.2.length) r;simp only [List.length_cons];omega
theorem YAL:∀ (n:Nat) (r:Rw),n+(r.flatMap rwL).length=enG n r
 | _,[]=>rfl
 | n,x::r=>by rw [enG,← YAL _ r,List.flatMap_cons,List.length_append,List.length_cons];omega
theorem YAh (r:Rw):(hpR r).length=enG 1 r:=by rw [← YAL 1 r,hpR,List.length_cons];omega
theorem YAf:∀ (n:Nat) (r:Rw) (i:Nat),i < r.length→(adG n r)[i]?=some (enG n (r.take i))
 | _,[],i,h=>by simp at h
 | n,x::r,0,_=>rfl
 | n,x::r,i+1,h=>by rw [adG,List.getElem?_cons_succ,YAf _ r i (by simpa using h),List.take_succ_cons,enG]
theorem YA4 (pre suf:Rw):(hpR (pre++suf)).drop (enG 1 pre)=suf.flatMap rwL:=by
 have hl:=YAL 1 pre;have e:hpR (pre++suf)=(0::pre.flatMap rwL)++suf.flatMap rwL:=by rw [hpR,List.flatMap_append];rfl
 rw [e,List.drop_append_of_le_length (by simp only [List.length_cons];omega),List.drop_eq_nil_iff.2 (by simp only [List.length_cons];omega),List.nil_append]
def YBb (sh:Int→Option Nat) (r:Rw):Prop:=∀ x∈r,0≤x.1∧x.1 < 64∧sh x.1=some x.2.length
section
variable {sh:Int→Option Nat}
theorem YA9 {pre suf:Rw} {x:Int × List Int} (h:YBb sh (pre++x::suf)) :
  wAt (hpR (pre++x::suf)) (enG 1 pre)=x.1∧slotsW sh (hpR (pre++x::suf)) (enG 1 pre)=x.2∧enG 1 pre+x.2.length < (hpR (pre++x::suf)).length∧hdB sh (hpR (pre++x::suf)) (enG 1 pre)=true:=by
 obtain ⟨k1,k2,k3⟩:=h x (by simp);have hd:=YA4 pre (x::suf);rw [List.flatMap_cons,List.cons_append] at hd;obtain ⟨e1,e2,e3⟩:=YAr hd;have hm:x.1 % 64=x.1:=by omega
 have hl:enG 1 pre+x.2.length < (hpR (pre++x::suf)).length:=by
  rw [YAh,Yzh,enG];have:=YzO (enG 1 pre+1+x.2.length) suf
  omega
 refine ⟨e1,?_,hl,?_⟩
 ·rw [slotsW,e1,szW,hm,k3,e2];simp
 ·rw [Ybd,e1,hm];exact ⟨k1,_,k3,hl⟩
theorem Yz6 {r:Rw} (h:YBb sh r):∀ (f:Nat) (pre suf:Rw),r=pre++suf→(hpR r).length≤enG 1 pre+f→startsF sh (hpR r) f (enG 1 pre)=some (adG (enG 1 pre) suf)
 | 0,pre,[],e,hf=>rfl
 | 0,pre,x::suf,e,hf=>by
   subst e;have:=(YA9 h).2.2.1
   omega
 | f+1,pre,[],e,hf=>by
   subst e;have hl:=YAh (pre++[]);rw [List.append_nil] at hl;rw [startsF,if_neg (by rw [List.append_nil,hl];omega)];rfl
 | f+1,pre,x::suf,e,hf=>by
   have hat:=YA9 (sh:=sh) (pre:=pre) (suf:=suf) (x:=x) (by rw [← e];exact h);rw [← e] at hat;have ih:=Yz6 h f (pre++[x]) suf (by rw [e];simp) (by rw [Yzh,enG,enG];omega);rw [Yzh,enG,enG] at ih;have hx:=h x (by rw [e];simp);have hsz:szW sh x.1=x.2.length:=by rw [szW,show x.1 % 64=x.1 by omega,hx.2.2];rfl
   rw [startsF,if_pos (by omega),if_pos hat.2.2.2,hat.1,hsz,ih,adG];rfl
theorem YAq {r:Rw} (h:YBb sh r) {i:Nat} (hi:i < r.length):wAt (hpR r) (enG 1 (r.take i))=r[i].1∧slotsW sh (hpR r) (enG 1 (r.take i))=r[i].2∧enG 1 (r.take i) < (hpR r).length:=by
 have e:r=r.take i++r[i]::r.drop (i+1):=by rw [← List.drop_eq_getElem_cons hi,List.take_append_drop]
 have:=YA9 (sh:=sh) (pre:=r.take i) (suf:=r.drop (i+1)) (x:=r[i]) (by rw [← e];exact h)
 rw [← e] at this;exact ⟨this.1,this.2.1,by omega⟩
theorem YyZ {n:Nat} {r:Rw} {a:Nat} (h:a∈adG n r):∃ i,i < r.length∧a=enG n (r.take i):=by
 obtain ⟨i,hi,e⟩:=List.mem_iff_getElem.1 h;have hi':i < r.length:=by rwa [Yzg] at hi
 have:=YAf n r i hi'
 rw [List.getElem?_eq_getElem hi,Option.some.injEq,e] at this;exact ⟨i,hi',this⟩
theorem YBe {r:Rw} (h:YBb sh r) (hl:(hpR r).length≤600) (hv:∀ x∈r,∀ w∈x.2,okW (adG 1 r) w=true):GH sh (hpR r) (adG 1 r):=by
 constructor
 ·have:=Yz6 h (hpR r).length [] r rfl (by omega)
  rw [enG] at this;rw [starts,if_neg (by rw [not_or,not_or];exact ⟨by rw [hpR];simp,by omega,by rw [hpR];simp [wAt]⟩)];exact this
 ·intro a ha;obtain ⟨i,hi,rfl⟩:=YyZ ha;obtain ⟨e1,e2,_⟩:=YAq h hi;obtain ⟨k1,k2,_⟩:=h r[i] (List.getElem_mem hi);have k3:r[i].1 / 64=0:=by omega
  rw [YkL,e1,e2,k3];simp only [decide_true,Bool.true_or,Bool.true_and,List.all_eq_true];exact fun w hw=>hv _ (List.getElem_mem hi) w hw
end
/-! ## Objects -/
abbrev YyB (at_:List Int) (os:List Ob):Rw:=os.map fun x=>(x.1,x.2.map (YaS at_))
theorem YzK (at_:List Int) (l:List Ob) (x:Ob):YyB at_ (l++[x])=YyB at_ l++[(x.1,x.2.map (YaS at_))]:=by simp [YyB]
theorem Yzl (A:List Nat) (n:Nat) (hn:n < A.length):(Yd1 A).getD n 0=((A[n]:Nat):Int):=by
 rw [List.getD_eq_getElem?_getD,Yd1,List.getElem?_map,List.getElem?_eq_getElem hn];rfl
theorem Yzt (at_:List Int) (os:List Ob):Yeo at_ os=hpR (YyB at_ os):=by rw [YAJ,hpR,List.flatMap_map]
theorem YAg (at_:List Int) (os:List Ob):Yh2 os=(enG 1 (YyB at_ os):Nat):=by
 induction os using YhR with
 | nil=>rfl
 | snoc l x ih=>rw [Ycr,ih,YzK,Yzh,enG,enG,List.length_map];omega
theorem YzX (at_:List Int) (os:List Ob):Ycx os=Yd1 (adG 1 (YyB at_ os)):=by
 induction os using YhR with
 | nil=>rfl
 | snoc l x ih =>
   rw [YkG,ih,YAg at_ l,YzK,YAE,Yd1,Yd1,List.map_append];rfl
section
variable {p:Prg} {os:List Ob} (hp:Ybk p=true) (ho:Ygy p.cls os=true)
include hp ho
theorem YyH:YBb (shp p.cls) (YyB (Ycx os) os):=by
 intro y hy;obtain ⟨x,hx,rfl⟩:=List.mem_map.1 hy;obtain ⟨k,h1,h2,h3,h4⟩:=Ysb ho x hx;have:=Ybq hp
 refine ⟨by simp only;omega,by simp only;omega,?_⟩;rw [List.length_map,h4,shp,if_pos (by omega),h1];rfl
theorem Yz8:∀ x∈YyB (Ycx os) os,∀ w∈x.2,okW (adG 1 (YyB (Ycx os) os)) w=true:=by
 intro y hy w hw;obtain ⟨x,hx,rfl⟩:=List.mem_map.1 hy;obtain ⟨v,hv,rfl⟩:=List.mem_map.1 hw;have hvb:=((Yrx hp ho).2 x hx).2 v hv;have had:=YzX (Ycx os) os;have hlen:=Yzg 1 (YyB (Ycx os) os);rw [List.length_map] at hlen;unfold YgF at hvb;unfold YaS;split at hvb
 ·rename_i h1
  rw [if_pos h1];simp only [Bool.and_eq_true,decide_eq_true_eq] at hvb;rw [okW,if_pos (by omega)];simp only [Bool.and_eq_true,decide_eq_true_eq];omega
 ·rename_i h1
  rw [if_neg h1];split at hvb
  ·rename_i h2
   rw [if_neg (by omega)];rfl
  ·split at hvb
   ·rename_i h3
    rw [if_pos h3];simp only [Bool.and_eq_true,decide_eq_true_eq] at hvb;have hn:v.2.toNat < (adG 1 (YyB (Ycx os) os)).length:=by omega
    have e:(Ycx os).getD v.2.toNat 0=((adG 1 (YyB (Ycx os) os))[v.2.toNat]:Nat):=(congrArg (fun L=>L.getD v.2.toNat 0) had).trans (Yzl _ _ hn);have hm:=List.getElem_mem hn;obtain ⟨j,hj,hje⟩:=YyZ hm;have hge:=YzO 1 ((YyB (Ycx os) os).take j);rw [e,okW,if_neg (by omega)];simp only [Bool.or_eq_true,Bool.and_eq_true,decide_eq_true_eq,List.contains_iff_mem];refine .inr ⟨by omega,?_⟩;rw [show (2*(((adG 1 (YyB (Ycx os) os))[v.2.toNat]:Nat):Int) / 2).toNat=(adG 1 (YyB (Ycx os) os))[v.2.toNat] by omega];exact hm
   ·cases hvb
theorem YAs (hl:Yh2 os≤600):GH (shp p.cls) (Yeo (Ycx os) os) (adG 1 (YyB (Ycx os) os)):=by
 rw [Yzt];refine YBe (YyH hp ho) ?_ (Yz8 hp ho);have h1:=YAg (Ycx os) os;rw [YAh];omega
theorem YAG (hl:Yh2 os≤600):∀ x∈os,∀ v∈x.2,Yrj (Yeo (Ycx os) os) (YmY (adG 1 (YyB (Ycx os) os))) (YaS (Ycx os) v)=v:=by
 intro x hx v hv;have hG:=YAs hp ho hl;have hvb:=((Yrx hp ho).2 x hx).2 v hv;have had:=YzX (Ycx os) os;have hlen:=Yzg 1 (YyB (Ycx os) os);rw [List.length_map] at hlen;unfold YgF at hvb;unfold YaS;obtain ⟨a,b⟩:=v;dsimp only at hvb ⊢;split at hvb
 ·rename_i h1
  subst h1;rw [if_pos rfl,Yrj,if_neg (by omega),if_pos (fun h=>by have:=YcG.1 h;omega)];refine Prod.ext rfl ?_;show (2*b+1-1) / 2=b;omega
 ·rename_i h1
  rw [if_neg h1];split at hvb
  ·rename_i h2
   subst h2;rw [if_neg (by decide),Yrj,if_pos rfl];simp only [decide_eq_true_eq] at hvb;rw [hvb]
  ·split at hvb
   ·rename_i h3
    subst h3;rw [if_pos rfl];simp only [Bool.and_eq_true,decide_eq_true_eq] at hvb;have hn:b.toNat < (adG 1 (YyB (Ycx os) os)).length:=by omega
    have e:(Ycx os).getD b.toNat 0=((adG 1 (YyB (Ycx os) os))[b.toNat]:Nat):=(congrArg (fun L=>L.getD b.toNat 0) had).trans (Yzl _ _ hn);have hm:=List.getElem_mem hn;obtain ⟨j,hj,hje⟩:=YyZ hm;have hge:=YzO 1 ((YyB (Ycx os) os).take j);have hat:=(YAq (YyH hp ho) hj).1;obtain ⟨k1,k2,_⟩:=YyH hp ho _ (List.getElem_mem hj);rw [← hje,← Yzt] at hat;have hw0:wAt (Yeo (Ycx os) os) ((adG 1 (YyB (Ycx os) os))[b.toNat]) / 64=0:=by rw [hat];omega
    have hnd:=Ygt hG.eq;rw [e];have hix:=hnd.idxOf_getElem b.toNat hn;generalize (adG 1 (YyB (Ycx os) os))[b.toNat]=y at *
    have hob:Yax (Yeo (Ycx os) os) (2*(y:Int))=y:=by rw [Yax,if_neg (by omega),show (2*(y:Int) / 2).toNat=y by omega,YhA hw0]
    rw [Yrj,if_neg (by omega),if_neg (fun h=>h (YcG.2 (by omega))),hob,YmY,Int.toNat_natCast,hix];refine Prod.ext rfl ?_;show ((b.toNat:Nat):Int)=b;omega
   ·cases hvb
theorem YAW (hl:Yh2 os≤600):Yku p (Yeo (Ycx os) os) ((Ycx os).map (2*·))=(os,(List.range os.length).map (fun (i:Nat)=>((3:Int),(i:Int))),0):=by
 have hG:=YAs hp ho hl;have hst:=YcP hG.eq;have hgd:Ybt p (Yeo (Ycx os) os)=true:=by rw [Ybt,hp,Ypx.2 ⟨_,hG⟩];rfl
 have hlen:=Yzg 1 (YyB (Ycx os) os);rw [List.length_map] at hlen;have had:=YzX (Ycx os) os;have hnth:=fun i (hi:i < os.length)=>YAq (YyH hp ho) (i:=i) (by rw [List.length_map];exact hi)
 have hre:∀ a∈adG 1 (YyB (Ycx os) os),wAt (Yeo (Ycx os) os) a / 64=0:=fun a ha=>by
  obtain ⟨i,hi,rfl⟩:=YyZ ha;obtain ⟨k1,k2,_⟩:=YyH hp ho _ (List.getElem_mem hi);rw [Yzt,(YAq (YyH hp ho) hi).1];omega
 have hrs:YaU (Yeo (Ycx os) os) (adG 1 (YyB (Ycx os) os))=adG 1 (YyB (Ycx os) os):=List.filter_eq_self.2 fun a ha=>by simpa using hre a ha
 have hal:((Ycx os).map (2*·)).all (okW (adG 1 (YyB (Ycx os) os)))=true:=by
  refine List.all_eq_true.2 fun w hw=>?_;obtain ⟨a,ha,rfl⟩:=List.mem_map.1 hw;rw [had] at ha;obtain ⟨y,hy,rfl⟩:=List.mem_map.1 ha;obtain ⟨j,hj,hje⟩:=YyZ hy;have hge:=YzO 1 ((YyB (Ycx os) os).take j);rw [okW,if_neg (by omega)];simp only [Bool.or_eq_true,Bool.and_eq_true,decide_eq_true_eq,List.contains_iff_mem];refine .inr ⟨by omega,?_⟩;rw [show (2*(y:Int) / 2).toNat=y by omega];exact hy
 have hnd:=Ygt hG.eq;unfold Yku;rw [hst,hgd,hal,hrs,if_pos (show (true&&true)=true from rfl),if_pos (by have:=YqW ho;omega)];refine Prod.ext ?_ (Prod.ext ?_ rfl)
 ·dsimp only;refine List.ext_getElem (by rw [List.length_map,hlen]) fun i h1 h2=>?_;have hi:i < (adG 1 (YyB (Ycx os) os)).length:=by omega
  have hgi:(adG 1 (YyB (Ycx os) os))[i]=enG 1 ((YyB (Ycx os) os).take i):=by
   have:=YAf 1 (YyB (Ycx os) os) i (by rw [List.length_map];exact h2)
   rwa [List.getElem?_eq_getElem hi,Option.some.injEq] at this
  obtain ⟨q1,q2,_⟩:=hnth i h2;rw [List.getElem_map,Ylw,hgi];rw [← Yzt] at q1 q2;rw [q1,q2];simp only [List.getElem_map,List.map_map];refine Prod.ext rfl ?_;refine (List.map_congr_left fun v hv=>?_).trans (List.map_id _);exact YAG hp ho hl os[i] (List.getElem_mem h2) v hv
 ·dsimp only;refine List.ext_getElem (by rw [List.length_map,List.length_map,List.length_map,List.length_range,Yjp]) fun i h1 h2=>?_;have hi:i < (adG 1 (YyB (Ycx os) os)).length:=by rw [List.length_map,List.length_range] at h2;omega
  rw [List.getElem_map,List.getElem_map,List.getElem_map,List.getElem_range];have hil:i < (Ycx os).length:=by rw [Yjp];omega
  have e:(Ycx os)[i]=((adG 1 (YyB (Ycx os) os))[i]:Nat):=by
   have:=(congrArg (fun L=>L.getD i 0) had).trans (Yzl _ _ hi)
   rwa [List.getD_eq_getElem?_getD,List.getElem?_eq_getElem hil,Option.getD_some] at this
  have hm:=List.getElem_mem hi;have hw0:=hre _ hm;obtain ⟨j,hj,hje⟩:=YyZ hm;have hge:=YzO 1 ((YyB (Ycx os) os).take j);have hix:=hnd.idxOf_getElem i hi;rw [e];generalize (adG 1 (YyB (Ycx os) os))[i]=y at *
  have hob:Yax (Yeo (Ycx os) os) (2*(y:Int))=y:=by rw [Yax,if_neg (by omega),show (2*(y:Int) / 2).toNat=y by omega,YhA hw0]
  rw [Yrj,if_neg (by omega),if_neg (fun h=>h (YcG.2 (by omega))),hob,YmY,Int.toNat_natCast,hix]
end
theorem Yz9 (W:List Int):V.Spec Tryz.prog 32 [Yaw W] [] (V.bool (decide (W.length=0))) []:=by
 refine Se Tryz.func32 rfl rfl rfl fun B hB=>?_;repeat' (first|(with_reducible refine TC.seq ?_)|(with_reducible refine TC.region ?_))
 with_reducible refine OL.box ?_
 refine OL.frzB 1 ?_;refine goW ?_;refine TX.rt1 [] (.bool ?_);simp
theorem YA8 {st:List Nat} (hs:∀ a∈st,a≤600) {w:Int} (h:okW st w=true):YbC w:=by
 unfold okW at h;split at h
 ·simp only [Bool.and_eq_true,decide_eq_true_eq] at h;exact ⟨by omega,by omega⟩
 ·simp only [Bool.or_eq_true,Bool.and_eq_true,decide_eq_true_eq,List.contains_iff_mem] at h;rcases h with h|⟨h1,h2⟩
  ·subst h;exact ⟨by decide,by decide⟩
  ·have:=hs _ h2
   exact ⟨by omega,by omega⟩
theorem YA6 {p:Prg} {os:List Ob} (hp:Ybk p=true) (ho:Ygy p.cls os=true) (hl:Yh2 os≤600):(∀ x∈Yeo (Ycx os) os,YbC x)∧∀ x∈(Ycx os).map (2*·),YbC x:=by
 have hG:=YAs hp ho hl;have hle:∀ a∈adG 1 (YyB (Ycx os) os),a≤600:=fun a ha=>by
  have:=(hG.hd ha).2.1
  have:=(Yah hG.eq).2.1
  omega
 constructor
 ·intro x hx;rw [Yzt,hpR] at hx;rcases List.mem_cons.1 hx with rfl|hx
  ·exact ⟨by decide,by decide⟩
  obtain ⟨y,hy,hx⟩:=List.mem_flatMap.1 hx;obtain ⟨k1,k2,_⟩:=YyH hp ho y hy;rcases List.mem_cons.1 hx with rfl|hx
  ·exact ⟨by omega,by omega⟩
  ·exact YA8 hle (Yz8 hp ho y hy x hx)
 ·intro x hx;obtain ⟨a,ha,rfl⟩:=List.mem_map.1 hx;rw [YzX (Ycx os) os] at ha;obtain ⟨y,hy,rfl⟩:=List.mem_map.1 ha;have:=hle y hy
  exact ⟨by omega,by omega⟩
section
variable (p:Prg) (hs:Ya9 p.cls) (hpk:∀ x∈p.nodes,x.2.2.length*8≤140737488355328) (os:List Ob) (hol:os.length*32≤140737488355328) (hox:∀ x∈os,x.2.length*16≤140737488355328)
include hs hpk hol hox
set_option maxHeartbeats 4000000 in
theorem Yy9:V.Spec Tryz.prog 9 [Ya0 p,Yef os] [] (V.bool true) []:=by
 have hkn:=Ye2;have h2:=Yf8 p hs hpk os hol hox;have hno:=Yz9 []
 cases g:Ybk p&&Ygy p.cls os with
 | false =>
   rw [g] at h2;have h1:=(Yic p hs hpk os g).drop Yna;refine Se Tryz.func9 rfl rfl rfl fun B hB=>?_;repeat' (first|(with_reducible refine TC.seq ?_)|(with_reducible refine TC.region ?_))
   with_reducible refine OL.box ?_
   refine OL.frzB 2 ?_;refine goW ?_;refine OL.c h1 Tryz.func13 ?_;refine goW ?_;refine OL.c hno Tryz.func32 ?_;refine goW ?_;refine OL.c h2 Tryz.func33 ?_;refine goW ?_;refine OL.c hkn Tryz.func17 ?_;refine goW ?_;exact TX.rt1 [] (.ren rfl)
 | true =>
   simp only [Bool.and_eq_true] at g;have h1:=Yfw p hs hpk os g.1 g.2;split at h1
   ·rename_i hl
    have hn:=YAg (Ycx os) os;have hwl:=YgO (Ycx os) os;have hl6:Yh2 os≤600:=by omega
    have hob:=YAW g.1 g.2 hl6;obtain ⟨hi1,hi2⟩:=YA6 g.1 g.2 hl6;have hG:=YAs g.1 g.2 hl6;have hgd:Ybt p (Yeo (Ycx os) os)=true:=by rw [Ybt,g.1,Ypx.2 ⟨_,hG⟩];rfl
    have h40:=YqW g.2;have h3:=Yzm p hs hpk (Yeo (Ycx os) os) hi1 (by omega) ((Ycx os).map (2*·)) hi2 (by rw [List.length_map,Yjp];omega);rw [hob] at h3;have h4:=Ykb p hs hpk (Yeo (Ycx os) os) hi1 (by omega);rw [hgd,if_pos rfl] at h4;have h5:=YBf os;have hvl:((List.range os.length).map (fun (i:Nat)=>((3:Int),(i:Int)))).length=os.length:=by rw [List.length_map,List.length_range]
    have hvg:∀ i (h:i < ((List.range os.length).map (fun (i:Nat)=>((3:Int),(i:Int)))).length),((List.range os.length).map (fun (i:Nat)=>((3:Int),(i:Int))))[i]=((3:Int),(i:Int)):=fun i h=>by simp
    dsimp only at h3;generalize (List.range os.length).map (fun (i:Nat)=>((3:Int),(i:Int)))=vs at *
    generalize (Ycx os).map (2*·)=ws at *
    generalize Yeo (Ycx os) os=W at *
    refine Se Tryz.func9 rfl rfl rfl fun B hB=>?_;repeat' (first|(with_reducible refine TC.seq ?_)|(with_reducible refine TC.region ?_))
    with_reducible refine OL.box ?_
    refine OL.frzB 2 ?_;refine goW ?_;refine OL.c h1 Tryz.func13 ?_;refine goW ?_;refine OL.c h3 Tryz.func18 ?_;refine goW ?_;refine OL.c h4 Tryz.func34 ?_;refine goW ?_;refine OL.c h5 Tryz.func20 ?_;refine goW ?_;refine TC.lp (fun i:Nat=>[(9,Ych vs),(11,V.int i)]) (fun _=>[.dead,.cb 30 [ints W]]) (fun i=>i≤vs.length) (fun i=>vs.length-i) 0 [0,1] (Nat.zero_le _) ?_;rintro i hi;by_cases hil:i < vs.length
    ·have hv:=hvg i hil;have hv3:(!(vs[i].1==3&&vs[i].2==(i:Int)))=false:=by rw [hv];simp
     refine goW ?_;refine OL.st ?_ (h:=Yxl Yyd);rw [hv3];refine goW ?_;exact TX.rd (i+1) [0,1] (by omega) (by omega)
    ·refine goW ?_;refine OL.c hkn Tryz.func17 ?_;refine goW ?_;exact TX.rt1 [] (.ren rfl)
   ·rename_i hl
    have h1:=h1.drop Yna;refine Se Tryz.func9 rfl rfl rfl fun B hB=>?_;repeat' (first|(with_reducible refine TC.seq ?_)|(with_reducible refine TC.region ?_))
    with_reducible refine OL.box ?_
    refine OL.frzB 2 ?_;refine goW ?_;refine OL.c h1 Tryz.func13 ?_;refine goW ?_;refine OL.c hno Tryz.func32 ?_;refine goW ?_;refine OL.c hkn Tryz.func17 ?_;refine goW ?_;exact TX.rt1 [] (.ren rfl)
end
end Go.Proofs
