/- Part 42 of what the claim is proved by: lemmas on the model and walks through functions of the program; no conditions. -/
import Derived.Test.YtdjhogobbbnddaaGreatQ23
import Derived.Test.YtdjhogobbbnddaaGreatQ19
import Derived.Test.YtdjhogobbbnddaaGreatQ18
import Derived.Test.YtdjhogobbbnddaaGreatQ41
namespace Go.Proofs
open Go Go.W Go.V
theorem YoK {α:Type} {f:α→Bool} {l:List α} {x:α} (hx:x∈l) (h:f x=false):l.all f=false:=by
 rw [Bool.eq_false_iff];intro hl;have:=List.all_eq_true.1 hl x hx
 rw [h] at this;cases this
section
variable (p:Prg) (hs:Ya9 p.cls) (hpk:∀ x∈p.nodes,x.2.2.length*8≤140737488355328)
include hs hpk
end
theorem Yko (at_:List Int) (v:Int × Int) (h1:v.1=1→-1000000000≤v.2∧v.2≤1000000000) (h3:v.1=3→0≤v.2∧v.2 < at_.length∧0≤at_.getD v.2.toNat 0∧at_.getD v.2.toNat 0≤1000000000) :
  V.Spec Tryz.prog 117 [Ycb v,ints at_] [] (V.int (YaS at_ v)) []:=by
 obtain ⟨k,n⟩:=v;dsimp only at h1 h3;by_cases hk:k=1
 ·subst hk;have hb:=h1 rfl;rw [YaS,if_pos rfl];refine Se Tryz.func117 rfl rfl rfl fun B hB=>?_;repeat' (first|(with_reducible refine TC.seq ?_)|(with_reducible refine TC.region ?_))
  with_reducible refine OL.box ?_
  refine OL.frzB 2 ?_;refine goW ?_;exact TX.rt1 [] (.ren rfl)
 ·by_cases hk3:k=3
  ·subst hk3;obtain ⟨a1,a2,a3,a4⟩:=h3 rfl;rw [Ylb];have e:at_.getD n.toNat 0=at_[n.toNat]'(by omega):=by rw [List.getD_eq_getElem?_getD,List.getElem?_eq_getElem (by omega)];rfl
   rw [e] at a3 a4 ⊢;refine Se Tryz.func117 rfl rfl rfl fun B hB=>?_;repeat' (first|(with_reducible refine TC.seq ?_)|(with_reducible refine TC.region ?_))
   with_reducible refine OL.box ?_
   refine OL.frzB 2 ?_;refine goW ?_;exact TX.rt1 [] (.ren rfl)
  ·rw [YaS,if_neg hk,if_neg hk3];refine Se Tryz.func117 rfl rfl rfl fun B hB=>?_;repeat' (first|(with_reducible refine TC.seq ?_)|(with_reducible refine TC.region ?_))
   with_reducible refine OL.box ?_
   refine OL.frzB 2 ?_;refine goW ?_;exact TX.rt1 [] (.ren rfl)
def obW (p:Prg) (x:Ob):Prop:=∃ k:Nat,x.1=k∧3≤k∧k < 3+p.cls.length∧x.2.length=(slotsOf p.cls k).length
section
variable (p:Prg) (hs:Ya9 p.cls) (hcb:Yag p=true)
include hs hcb
theorem Ydg (os:List Ob) (hol:os.length≤1000) (hom:∀ x∈os,obW p x):V.Spec Tryz.prog 58 [Ya0 p,Yef os] [] (.tp [ints (Ycx os),V.int (Yh2 os)]) []:=by
 obtain ⟨hsl,hpl,hf⟩:=YbO hcb;refine Se Tryz.func58 rfl rfl rfl fun B hB=>?_;repeat' (first|(with_reducible refine TC.seq ?_)|(with_reducible refine TC.region ?_))
 with_reducible refine OL.box ?_
 refine OL.frzB 2 ?_;refine goW ?_;refine TC.adp 6 Tc.int 1 ?_;refine TC.lp (fun k:Nat=>[(1,Yef os),(2,.ep (YbB p) 0),(6,.hs 1),(7,V.int (Yh2 (os.take k))),(8,V.int k)]) (fun k=>[.dead,.gs false Tc.int 1 none ((Ycx (os.take k)).map V.int)]) (fun k=>k≤os.length) (fun k=>os.length-k) 0 [0,1] (Nat.zero_le _) ?_;rintro k hk;by_cases hkl:k < os.length;rotate_left
 ·rw [Yaf (by omega)];refine goW ?_;refine TX.vw 4 ?_;exact TX.rt2 [] (.ren rfl) (.ren rfl)
 ·obtain ⟨c,hc,hc3,hcl,hsl2⟩:=hom os[k] (List.getElem_mem _);have hsz:=YdI p hs hf (by omega) hc3 hcl;rw [Ya4 hcb,← hsl2,← hc] at hsz;have hb:=Ya3 hpl c;rw [← hsl2] at hb;have hnb:=Yj7 (os.take k) fun x hx=>by
   obtain ⟨c',_,_,_,h4⟩:=hom x (List.mem_of_mem_take hx);rw [h4];exact Ya3 hpl c'
  have hnp:0≤Yh2 (os.take k):=by
   generalize os.take k=l;induction l using YhR with
   | nil=>decide
   | snoc l x ih=>rw [Ycr];omega
  rw [List.length_take] at hnb;have e1:(Ycx (os.take k)).map V.int++[V.int (Yh2 (os.take k))]=(Ycx (os.take (k+1))).map V.int:=by rw [Yab hkl,YkG,List.map_append];rfl
  have e2:Yh2 (os.take (k+1))=Yh2 (os.take k)+(1+(os[k].2.length:Int)):=by rw [Yab hkl,Ycr]
  have hal:(Ycx (os.take k)).length≤1000:=by rw [Ycx,List.length_map,List.length_range,List.length_take];omega
  generalize Yh2 (os.take k)=nx at *
  generalize Ycx (os.take k)=ad at *
  refine goW ?_;(refine TC.draw (id:=7) true 10 10 ?_<;>refine OD.st4 0 1 2 3 ?_<;>refine OD.st2 4 5 ?_<;>refine OD.st 6 ?_<;>refine OD.c1 7 hsz Tryz.func28 ?_<;>refine OD.st2 8 9 ?_<;>refine OD.dn ?_)
  refine TX.thenN ?_;refine goW ?_;rw [e1];exact TX.rd (k+1) [0,3] (by omega) (by omega) (hr:=⟨⟨_,rfl,LE.ren rfl⟩,⟨_,rfl,LE.ren rfl⟩,⟨_,rfl,LE.ren rfl⟩,⟨_,rfl,LE.int (by omega)⟩,⟨_,rfl,LE.int (by omega)⟩,trivial⟩)
end
def Ys9 (n:Nat) (v:Int × Int):Prop:=(v.1=1→-1000000000≤v.2∧v.2≤1000000000)∧(v.1=3→0≤v.2∧v.2 < n)
theorem Ys6 (l:List Ob):0≤Yh2 l:=by
 induction l using YhR with
 | nil=>decide
 | snoc l x ih=>rw [Ycr];omega
theorem YsL (l:List Ob) (h:∀ x∈l,x.2.length≤640) (a:Int) (ha:a∈Ycx l):0≤a∧a≤1+641*(l.length:Int):=by
 obtain ⟨k,hk,rfl⟩:=List.mem_map.1 ha;have h1:=Yj7 (l.take k) fun x hx=>h x (List.mem_of_mem_take hx)
 rw [List.length_take] at h1;have:=List.mem_range.1 hk
 exact ⟨Ys6 _,by omega⟩
theorem Yt4 {p:Prg} (hcb:Yag p=true) {x:Ob} (h:obW p x):x.2.length≤640:=by
 obtain ⟨c,_,_,_,h4⟩:=h;rw [h4];exact Ya3 (YbO hcb).2.1 c
section
variable (p:Prg) (hs:Ya9 p.cls) (hcb:Yag p=true)
include hs hcb
set_option maxHeartbeats 4000000 in
theorem YjR (os:List Ob) (hol:os.length≤1000) (hom:∀ x∈os,obW p x) (hov:∀ x∈os,∀ v∈x.2,Ys9 os.length v):V.Spec Tryz.prog 59 [Ya0 p,Yef os] [] (.tp [Yaw (Yeo (Ycx os) os),ints ((Ycx os).map (2*·))]) []:=by
 have h1:=Ydg p hs hcb os hol hom;have hob:∀ x∈os,x.2.length≤640:=fun x hx=>Yt4 hcb (hom x hx)
 have hal:=Yjp os;have hab:=YsL os hob;have hwd:∀ x∈os,∀ v∈x.2,V.Spec Tryz.prog 117 [Ycb v,ints (Ycx os)] [] (V.int (YaS (Ycx os) v)) []:=fun x hx v hv=>by
  obtain ⟨q1,q2⟩:=hov x hx v hv;refine Yko _ _ q1 fun h=>?_;obtain ⟨b1,b2⟩:=q2 h;have hi:v.2.toNat < (Ycx os).length:=by rw [hal];omega
  have hg:(Ycx os).getD v.2.toNat 0=(Ycx os)[v.2.toNat]:=by rw [List.getD_eq_getElem?_getD,List.getElem?_eq_getElem hi];rfl
  have:=hab _ (List.getElem_mem hi)
  rw [hg];exact ⟨b1,by rw [hal];omega,this.1,by omega⟩
 have hlen:=fun k=>YgO (Ycx os) (os.take k)
 have hnb:∀ k,Yh2 (os.take k)≤1+641*(os.length:Int):=fun k=>by
  have:=Yj7 (os.take k) fun x hx=>hob x (List.mem_of_mem_take hx)
  rw [List.length_take] at this;omega
 have hsn:=fun k (h:k < os.length)=>YhT (Ycx os) (os.take k) os[k]
 have h0:Yeo (Ycx os) (os.take 0)=[0]:=rfl;have hfin:Yeo (Ycx os) os=Yeo (Ycx os) (os.take os.length):=by rw [List.take_length]
 rw [hfin];generalize hav:Ycx os=ad at *
 refine Se Tryz.func59 rfl rfl rfl fun B hB=>?_;repeat' (first|(with_reducible refine TC.seq ?_)|(with_reducible refine TC.region ?_))
 with_reducible refine OL.box ?_
 refine OL.frzB 2 ?_;refine goW ?_;refine OL.c h1 Tryz.func58 ?_;refine goW ?_;refine TC.adp 9 Tc.int 1 ?_;refine TC.lp (fun k:Nat=>[(1,Yef os),(4,.bp 1 0),(6,ints ad),(8,.bp 3 0),(9,.hs 4),(10,V.int k)]) (fun k=>[.dead,.cb Tc.api_Heap [nilA],.gs false Tc.int 1 none ((Yeo ad (os.take k)).map V.int),.cb Tc.api_Heap [.hs 2],.gs false Tc.int 1 none (((ad.take k).map (2*·)).map V.int)]) (fun k=>k≤os.length) (fun k=>os.length-k) 0 [0,1,2,3,4] (Nat.zero_le _) ?_;rintro k hk;by_cases hkl:k < os.length;rotate_left
 ·obtain rfl:k=os.length:=by omega
  rw [List.take_of_length_le (show ad.length≤os.length by omega)];refine TC.vwC 3 0 ?_;refine goW ?_;refine TX.vw 5 ?_;exact TX.rv2 [] (.ren rfl) (.ren rfl)
 ·have hxm:os[k]∈os:=List.getElem_mem _;have hob:=hob _ hxm;have hwd:=hwd _ hxm;have hadk:=hab (ad[k]'(by omega)) (List.getElem_mem _);have e1:((ad.take k).map (2*·)).map V.int++[V.int (2*ad[k]'(by omega))]=((ad.take (k+1)).map (2*·)).map V.int:=by rw [Yab (show k < ad.length by omega),List.map_append,List.map_append];rfl
  have hl1:((ad.take k).map (2*·)).length≤1000:=by rw [List.length_map,List.length_take];omega
  have hl2:=hlen k;have hnk:=hnb k;have hsn:=hsn k hkl;rw [← Yab hkl] at hsn;generalize hw2:Yeo ad (os.take (k+1))=w2 at *
  generalize Yeo ad (os.take k)=w1 at *
  generalize (ad.take k).map (2*·)=ws1 at *
  generalize hws2:(ad.take (k+1)).map (2*·)=ws2 at *
  refine goW ?_;rw [e1];refine TC.rebase fun B3 hB3 hub hf=>?_;refine TC.cut [(1,Yef os),(4,.bp 1 0),(6,ints ad),(8,.bp 3 0),(9,.hs 6),(10,V.int k)] [.dead,.cb Tc.api_Heap [nilA],.dead,.cb Tc.api_Heap [.hs 7],.dead,.dead,.gs false Tc.int 1 none (ws2.map V.int),.gs false Tc.int 1 none (w1.map V.int++[V.int os[k].1])] ?_ ?_
  ·(refine TC.drawZ (id:=8) [(3,0,.hs 2)] 10 11 ?_<;>refine OZ.stT 0 ?_<;>refine OZ.ld 1 ?_<;>refine OZ.stT 2 ?_<;>refine OZ.stT 3 ?_<;>refine OZ.stT 4 ?_<;>refine OZ.stT 5 ?_)
   all_goals ((with_reducible refine OZ.s1 6 ?_))
   all_goals (((with_reducible refine OZ.a1 7 ?_);with_reducible refine OL.lit ?_<;>(with_reducible refine OL.nil ?_<;>refine TX.oz ?_)))
   all_goals (((with_reducible refine OZ.a1 8 ?_);with_reducible refine OL.appO ?_<;>(with_reducible refine OL.nil ?_<;>refine TX.oz ?_))<;>(with_reducible refine OZ.stT 9 ?_))
   all_goals (((with_reducible refine OZ.w1 10 ?_);with_reducible refine OL.store ?_<;>(with_reducible refine OL.nil ?_<;>refine TX.ow ?_)))
   all_goals (with_reducible refine OZ.dn ?_)
   all_goals exact TX.ct [0,1,2,3,4,5,6,8]
  have e2:w1.map V.int++[V.int os[k].1]=(w1++[os[k].1]).map V.int:=by rw [List.map_append];rfl
  have e3:w2=w1++[os[k].1]++os[k].2.map (YaS ad):=by rw [hsn];simp
  rw [e2];have hl3:(w1++[os[k].1]).length≤2000000:=by rw [List.length_append,List.length_singleton];omega
  generalize w1++[os[k].1]=w3 at *
  refine TX.thenN ?_;refine YaF ?_;refine TC.lp (fun j:Nat=>[(1,Yef os),(4,.bp 1 0),(6,ints ad),(8,.bp 3 0),(9,.hs 6),(10,V.int k),(11,V.int j)]) (fun j=>[.dead,.cb Tc.api_Heap [nilA],.dead,.cb Tc.api_Heap [.hs 7],.dead,.dead,.gs false Tc.int 1 none (ws2.map V.int),.gs false Tc.int 1 none ((w3++(os[k].2.take j).map (YaS ad)).map V.int)]) (fun j=>j≤os[k].2.length) (fun j=>os[k].2.length-j) 0 [0,1,2,3,4,5,6,7] (Nat.zero_le _) ?_ (ho:=?_)
  ·rintro j hj;by_cases hjl:j < os[k].2.length
   ·have hwj:=hwd os[k].2[j] (List.getElem_mem _);have hl4:(w3++(os[k].2.take j).map (YaS ad)).length≤3000000:=by rw [List.length_append,List.length_map,List.length_take];omega
    have e5:(os[k].2.take (j+1)).map (YaS ad)=(os[k].2.take j).map (YaS ad)++[YaS ad os[k].2[j]]:=by rw [Yab hjl,List.map_append];rfl
    have e4:(w3++(os[k].2.take j).map (YaS ad)).map V.int++[V.int (YaS ad os[k].2[j])]=(w3++(os[k].2.take (j+1)).map (YaS ad)).map V.int:=by rw [e5,Yq9,List.append_assoc]
    generalize w3++(os[k].2.take j).map (YaS ad)=w4 at *
    refine YaF ?_;refine TC.rebase fun B4 hB4 hub4 hf4=>?_;refine TC.cut [(1,Yef os),(4,.bp 1 0),(6,ints ad),(8,.bp 3 0),(9,.hs 6),(10,V.int k),(11,V.int j)] [.dead,.cb Tc.api_Heap [nilA],.dead,.cb Tc.api_Heap [.hs 8],.dead,.dead,.gs false Tc.int 1 none (ws2.map V.int),.dead,.gs false Tc.int 1 none (w4.map V.int++[V.int (YaS ad os[k].2[j])])] ?_ ?_
    ·(refine TC.drawZ (id:=12) [(3,0,.hs 7)] 15 16 ?_<;>refine OZ.stT 0 ?_<;>refine OZ.ld 1 ?_<;>refine OZ.stT 2 ?_<;>refine OZ.stT 3 ?_<;>refine OZ.stT 4 ?_<;>refine OZ.stT 5 ?_<;>refine OZ.stT 7 ?_<;>refine OZ.stT 10 ?_)
     all_goals (with_reducible refine OZ.s1 6 ?_<;>refine OZ.stT 8 ?_)
     all_goals ((with_reducible refine OZ.s1 9 ?_))
     all_goals (((with_reducible refine OZ.a1 11 ?_);refine OL.c hwj Tryz.func117 ?_<;>(with_reducible refine OL.nil ?_<;>refine TX.oz ?_)))
     all_goals (((with_reducible refine OZ.a1 12 ?_);with_reducible refine OL.lit ?_<;>(with_reducible refine OL.nil ?_<;>refine TX.oz ?_)))
     all_goals (((with_reducible refine OZ.a1 13 ?_);with_reducible refine OL.appO ?_<;>(with_reducible refine OL.nil ?_<;>refine TX.oz ?_))<;>(with_reducible refine OZ.stT 14 ?_))
     all_goals (((with_reducible refine OZ.w1 15 ?_);with_reducible refine OL.store ?_<;>(with_reducible refine OL.nil ?_<;>refine TX.ow ?_)))
     all_goals (with_reducible refine OZ.dn ?_)
     all_goals exact TX.ct [0,1,2,3,4,5,6,7,9]
    rw [e4];refine TX.thenN ?_;refine YaF ?_;refine TX.unbase hub4 ?_;exact TX.rd (j+1) [0,1,2,3,4,5,6,8] (by omega) (by omega)
   ·obtain rfl:j=os[k].2.length:=by omega
    rw [show os[k].2.take os[k].2.length=os[k].2 from List.take_length,← e3,← hw2,← hws2];refine YaF ?_;refine TX.unbase hub ?_;exact TX.rd (k+1) [0,1,7,3,6] (by omega) (by omega)
  ·rw [List.take_zero,List.map_nil,List.append_nil];repeat' (first|with_unfolding_all exact trivial|exact OE.ren (by with_unfolding_all exact rfl)|with_unfolding_all exact OE.gs|with_unfolding_all refine And.intro ⟨_,by with_unfolding_all exact rfl,?_⟩ ?_)
end
theorem YmB (g:List (List Int)) (ow:List Int) (c:Int) (hg:g.length≤1000000000):V.Spec Tryz.prog 127 [fwA g ow,V.int c] [] (V.bool (decide (3≤c)&&decide (c < 3+(g.length:Int)))) []:=by
 refine Se Tryz.func127 rfl rfl rfl fun B hB=>?_;repeat' (first|(with_reducible refine TC.seq ?_)|(with_reducible refine TC.region ?_))
 with_reducible refine OL.box ?_
 refine OL.frzB 2 ?_;(refine YnB ?_ ?_<;>intro hc<;>refine goW ?_)
 all_goals
  refine TX.rt1 [] (.bool ?_);simp;try omega
section
variable (p:Prg)
set_option maxHeartbeats 4000000 in
theorem Yk6 (hcb:Yag p=true) (os:List Ob) (hol:os.length*32≤140737488355328) (hox:∀ x∈os,x.2.length*16≤140737488355328) :
  V.Spec Tryz.prog 91 [fwA (graphOf p.cls) (ownF 0 p.cls),Yef os] [] (V.bool (Ygy p.cls os)) []:=by
 obtain ⟨hsl,hpl,hf⟩:=YbO hcb;have hgl:(graphOf p.cls).length=p.cls.length:=by simp [graphOf]
 have how:=fun c=>YmB (graphOf p.cls) (ownF 0 p.cls) c (by omega)
 have hslt:∀ k:Nat,3≤k→k < 3+p.cls.length→V.Spec Tryz.prog 126 [fwA (graphOf p.cls) (ownF 0 p.cls),V.int k] [] (ints (slotsOf p.cls k)) []:=fun k h3 hk=>by
  have:=Yfk (graphOf p.cls) (ownF 0 p.cls) hf h3 (by omega) (fun s h=>YjT p.cls (List.getElem_mem h)) (by rw [YbL];omega)
  rwa [Yeu,Ya4 hcb] at this
 rw [hgl] at how;unfold Ygy;by_cases h40:os.length≤40;rotate_left
 ·rw [decide_eq_false h40,Bool.false_and];refine Se Tryz.func91 rfl rfl rfl fun B hB=>?_;repeat' (first|(with_reducible refine TC.seq ?_)|(with_reducible refine TC.region ?_))
  with_reducible refine OL.box ?_
  refine OL.frzB 2 ?_;refine goW ?_;exact TX.rt1 [] (.ren rfl)
 ·rw [decide_eq_true h40,Bool.true_and];generalize hfo:obB p.cls os.length=fo;refine Se Tryz.func91 rfl rfl rfl fun B hB=>?_;repeat' (first|(with_reducible refine TC.seq ?_)|(with_reducible refine TC.region ?_))
  with_reducible refine OL.box ?_
  refine OL.frzB 2 ?_;refine goW ?_;refine TC.lp (fun k:Nat=>[(1,Yef os),(2,.ep (fwC (graphOf p.cls) (ownF 0 p.cls)) 0),(10,Yef os),(11,V.int os.length),(12,V.int k)]) (fun _=>[.dead]) (fun k=>k≤os.length∧(os.take k).all fo=true) (fun k=>os.length-k) 0 [0] ⟨Nat.zero_le _,by simp⟩ ?_;rintro k ⟨hk,hal⟩;by_cases hkl:k < os.length;rotate_left
  ·rw [Yaf (by omega)] at hal;rw [hal];refine goW ?_;exact TX.rt1 [] (.ren rfl)
  ·have hxm:os[k]∈os:=List.getElem_mem _;have hno:=fun h=>YoK (f:=fo) hxm h
   have hyes:fo os[k]=true→(os.take (k+1)).all fo=true:=fun h=>by rw [Yab hkl,List.all_append,hal];simp [h]
   have hx16:=hox _ hxm;have hfx:fo os[k]=((decide (3≤os[k].1)&&decide (os[k].1 < 3+(p.cls.length:Int)))&&(decide (os[k].2.length=(slotsOf p.cls os[k].1.toNat).length)&&os[k].2.all (YgF · os.length))):=by rw [← hfo];rfl
   have how:=how os[k].1;have hv:=Yk7 os[k].2 (os.length:Int);by_cases h1:3≤os[k].1∧os[k].1 < 3+(p.cls.length:Int);rotate_left
   ·have h2:(decide (3≤os[k].1)&&decide (os[k].1 < 3+(p.cls.length:Int)))=false:=by
     rw [Bool.eq_false_iff];intro h;simp at h;exact h1 h
    rw [h2] at how hfx;rw [hno (by rw [hfx,Bool.false_and])];refine goW ?_;refine TC.frzB 6 ?_;(refine TC.draw (id:=6) true 24 24 ?_<;>refine OD.st2 0 1 ?_<;>refine OD.st 2 ?_<;>refine OD.c1 3 how Tryz.func127 ?_<;>refine OD.st2 4 5 ?_<;>refine OD.of 6 ?_<;>refine OD.of 7 ?_<;>refine OD.of 8 ?_<;>refine OD.of 9 ?_<;>refine OD.of 10 ?_<;>refine OD.of 11 ?_<;>refine OD.of 12 ?_<;>refine OD.of 13 ?_<;>refine OD.of 14 ?_<;>refine OD.st2 15 16 ?_<;>refine OD.of 17 ?_<;>refine OD.of 18 ?_<;>refine OD.of 19 ?_<;>refine OD.of 20 ?_<;>refine OD.of 21 ?_<;>refine OD.of 22 ?_<;>refine OD.st 23 ?_<;>refine OD.dn ?_)
    refine TX.thenN ?_;refine goW ?_;exact TX.rt1 [] (.ren rfl)
   ·have h2:(decide (3≤os[k].1)&&decide (os[k].1 < 3+(p.cls.length:Int)))=true:=by simp [h1.1,h1.2]
    rw [h2] at how hfx;rw [Bool.true_and] at hfx;have hslt:=hslt os[k].1.toNat (by omega) (by omega);rw [show ((os[k].1.toNat:Nat):Int)=os[k].1 by omega] at hslt;have hb:=Ya3 hpl os[k].1.toNat;generalize slotsOf p.cls os[k].1.toNat=ss at *
    by_cases h3:os[k].2.length=ss.length;rotate_left
    ·rw [hno (by rw [hfx,decide_eq_false h3,Bool.false_and])];refine goW ?_;refine TC.frzB 6 ?_;(refine TC.draw (id:=6) true 24 24 ?_<;>refine OD.st2 0 1 ?_<;>refine OD.st 2 ?_<;>refine OD.c1 3 how Tryz.func127 ?_<;>refine OD.st4 4 5 6 7 ?_<;>refine OD.st4 8 9 10 11 ?_<;>refine OD.c1 12 hslt Tryz.func126 ?_<;>refine OD.st4 13 14 15 16 ?_<;>refine OD.sD 32 ?_ ?_<;>(intro hc;try (exfalso;omega))<;>(first|(refine OD.st 17 ?_)|(refine OD.of 17 ?_))<;>refine OD.of 18 ?_<;>refine OD.of 19 ?_<;>refine OD.of 20 ?_<;>refine OD.of 21 ?_<;>refine OD.of 22 ?_<;>refine OD.st 23 ?_<;>refine OD.dn ?_)
     refine TX.thenN ?_;refine goW ?_;exact TX.rt1 [] (.ren rfl)
    ·rw [decide_eq_true h3,Bool.true_and] at hfx
     cases ho:os[k].2.all (YgF · os.length) with
     | false =>
       rw [ho] at hv hfx;rw [hno hfx];refine goW ?_;refine TC.frzB 6 ?_;(refine TC.draw (id:=6) true 24 24 ?_<;>refine OD.st2 0 1 ?_<;>refine OD.st 2 ?_<;>refine OD.c1 3 how Tryz.func127 ?_<;>refine OD.st4 4 5 6 7 ?_<;>refine OD.st4 8 9 10 11 ?_<;>refine OD.c1 12 hslt Tryz.func126 ?_<;>refine OD.st4 13 14 15 16 ?_<;>refine OD.sD 32 ?_ ?_<;>(intro hc;try (exfalso;omega))<;>(first|(refine OD.st 17 ?_)|(refine OD.of 17 ?_))<;>refine OD.st2 18 19 ?_<;>refine OD.st 20 ?_<;>refine OD.c1 21 hv Tryz.func128 ?_<;>refine OD.st2 22 23 ?_<;>refine OD.dn ?_)
       refine TX.thenN ?_;refine goW ?_;exact TX.rt1 [] (.ren rfl)
     | true =>
       rw [ho] at hv hfx;have hyes:=hyes hfx;refine goW ?_;refine TC.frzB 6 ?_;(refine TC.draw (id:=6) true 24 24 ?_<;>refine OD.st2 0 1 ?_<;>refine OD.st 2 ?_<;>refine OD.c1 3 how Tryz.func127 ?_<;>refine OD.st4 4 5 6 7 ?_<;>refine OD.st4 8 9 10 11 ?_<;>refine OD.c1 12 hslt Tryz.func126 ?_<;>refine OD.st4 13 14 15 16 ?_<;>refine OD.sD 32 ?_ ?_<;>(intro hc;try (exfalso;omega))<;>(first|(refine OD.st 17 ?_)|(refine OD.of 17 ?_))<;>refine OD.st2 18 19 ?_<;>refine OD.st 20 ?_<;>refine OD.c1 21 hv Tryz.func128 ?_<;>refine OD.st2 22 23 ?_<;>refine OD.dn ?_)
       refine TX.thenN ?_;refine goW ?_;exact TX.rd (k+1) [0] ⟨by omega,hyes⟩ (by omega)
end
theorem Ysb {p:Prg} {os:List Ob} (ho:Ygy p.cls os=true):∀ x∈os,obW p x:=fun x hx=>by
 simp only [Ygy,Bool.and_eq_true,decide_eq_true_eq] at ho;have:=List.all_eq_true.1 ho.2 x hx
 simp only [obB,Bool.and_eq_true,decide_eq_true_eq] at this;exact ⟨x.1.toNat,by omega,by omega,by omega,this.2.1⟩
theorem Ytw {n:Nat} {v:Int × Int} (h:YgF v n=true):Ys9 n v:=by
 unfold YgF at h;constructor
 ·intro h1;rw [if_pos h1] at h;simpa using h
 ·intro h3;rw [if_neg (by omega),if_neg (by omega),if_pos h3] at h;simpa using h
theorem Yu0 {p:Prg} {os:List Ob} (ho:Ygy p.cls os=true):∀ x∈os,∀ v∈x.2,Ys9 os.length v:=fun x hx v hv=>by
 simp only [Ygy,Bool.and_eq_true,decide_eq_true_eq] at ho;have:=List.all_eq_true.1 ho.2 x hx
 simp only [obB,Bool.and_eq_true,decide_eq_true_eq] at this;exact Ytw (List.all_eq_true.1 this.2.2 v hv)
section
variable (p:Prg) (hs:Ya9 p.cls) (hpk:∀ x∈p.nodes,x.2.2.length*8≤140737488355328)
include hs hpk
theorem Yf8 (os:List Ob) (hol:os.length*32≤140737488355328) (hox:∀ x∈os,x.2.length*16≤140737488355328):V.Spec Tryz.prog 33 [Ya0 p,Yef os] [] (V.bool (Ybk p&&Ygy p.cls os)) []:=by
 have h0:=Yd5 p hs hpk
 cases hp:Ybk p with
 | false =>
   rw [hp] at h0;refine Se Tryz.func33 rfl rfl rfl fun B hB=>?_;repeat' (first|(with_reducible refine TC.seq ?_)|(with_reducible refine TC.region ?_))
   with_reducible refine OL.box ?_
   refine OL.frzB 2 ?_;refine goW ?_;refine OL.c h0 Tryz.func42 ?_;refine goW ?_;exact TX.rt1 [] (.bool rfl)
 | true =>
   rw [hp] at h0;rw [Bool.true_and];have hcb:=YaC hp;have h1:=Yb1 p hs (by have:=(YbO hcb).1;omega);have h2:=Yk6 p hcb os hol hox;refine Se Tryz.func33 rfl rfl rfl fun B hB=>?_;repeat' (first|(with_reducible refine TC.seq ?_)|(with_reducible refine TC.region ?_))
   with_reducible refine OL.box ?_
   refine OL.frzB 2 ?_;refine goW ?_;refine OL.c h0 Tryz.func42 ?_;refine goW ?_;refine OL.c h1 Tryz.func92 ?_;refine goW ?_;refine OL.c h2 Tryz.func91 ?_;refine goW ?_;exact TX.rt1 [] (.ren rfl)
theorem YhO (os:List Ob) (hol:os.length*32≤140737488355328) (hox:∀ x∈os,x.2.length*16≤140737488355328) (h:(Ybk p&&Ygy p.cls os)=false):V.Spec Tryz.prog 14 [Ya0 p,Yef os] [] (.tp [.st [nilA],nilA,V.int 2]) []:=by
 have h1:=Yf8 p hs hpk os hol hox;rw [h] at h1;refine Se Tryz.func14 rfl rfl rfl fun B hB=>?_;repeat' (first|(with_reducible refine TC.seq ?_)|(with_reducible refine TC.region ?_))
 with_reducible refine OL.box ?_
 refine OL.frzB 2 ?_;refine goW ?_;refine OL.c h1 Tryz.func33 ?_;refine goW ?_;exact TX.rv3 [] (.ren rfl) (.ren rfl) (.ren rfl)
theorem Yh4 (os:List Ob) (hol:os.length*32≤140737488355328) (hox:∀ x∈os,x.2.length*16≤140737488355328) (hp:Ybk p=true) (ho:Ygy p.cls os=true):V.Spec Tryz.prog 14 [Ya0 p,Yef os] [] (if (Yeo (Ycx os) os).length≤600 then .tp [Yaw (Yeo (Ycx os) os),ints ((Ycx os).map (2*·)),V.int 0] else .tp [.st [nilA],nilA,V.int 3]) []:=by
 have h1:=Yf8 p hs hpk os hol hox;rw [hp,ho] at h1;have hcb:=YaC hp;have hl40:=YqW ho;have h2:=Ydg p hs hcb os (by omega) (Ysb ho);have h3:=YjR p hs hcb os (by omega) (Ysb ho) (Yu0 ho);have hln:=YgO (Ycx os) os;generalize Yeo (Ycx os) os=w at *
 generalize (Ycx os).map (2*·)=ws at *
 by_cases h6:w.length≤600
 ·rw [if_pos h6];refine Se Tryz.func14 rfl rfl rfl fun B hB=>?_;repeat' (first|(with_reducible refine TC.seq ?_)|(with_reducible refine TC.region ?_))
  with_reducible refine OL.box ?_
  refine OL.frzB 2 ?_;refine goW ?_;refine OL.c h1 Tryz.func33 ?_;refine goW ?_;refine OL.c h2 Tryz.func58 ?_;refine goW ?_;refine OL.c h3 Tryz.func59 ?_;refine goW ?_;exact TX.rv3 [] (.ren rfl) (.ren rfl) (.ren rfl)
 ·rw [if_neg h6];refine Se Tryz.func14 rfl rfl rfl fun B hB=>?_;repeat' (first|(with_reducible refine TC.seq ?_)|(with_reducible refine TC.region ?_))
  with_reducible refine OL.box ?_
  refine OL.frzB 2 ?_;refine goW ?_;refine OL.c h1 Tryz.func33 ?_;refine goW ?_;refine OL.c h2 Tryz.func58 ?_;refine goW ?_;exact TX.rv3 [] (.ren rfl) (.ren rfl) (.ren rfl)
end
end Go.Proofs
