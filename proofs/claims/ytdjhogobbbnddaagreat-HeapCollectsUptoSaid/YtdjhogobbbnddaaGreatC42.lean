/- Lemmas for the claim; no conditions. -/
import Derived.Test.YtdjhogobbbnddaaGreatC23
import Derived.Test.YtdjhogobbbnddaaGreatC19
import Derived.Test.YtdjhogobbbnddaaGreatC18
import Derived.Test.YtdjhogobbbnddaaGreatC41
namespace Go.Proofs
open Go Go.W Go.V
theorem YoK {α:Type} {f:α→Bool} {l:List α} {x:α} (hx:x∈l) (h:f x=false):l.all f=false:=by
 rw [Bool.eq_false_iff];intro hl;have:=List.all_eq_true.1 hl x hx
 rw [h] at this;cases this
theorem YmN {sh:Int→Option Nat} {W:List Int} {st:List Nat} (hst:starts sh W=some st):st.length≤600:=by
 have h2:=YdA _ _ _ (Yah hst).2.2.2 (by omega) (by have:=(Yah hst).1;omega);have h3:=(Yah hst).2.1;have h4:∀ l:List Nat,l.length≤(l.map fun x=>1+szW sh (wAt W x)).sum:=by
  intro l;induction l with
  | nil=>simp
  | cons x l ih=>simp only [List.length_cons,List.map_cons,List.sum_cons];omega
 have:=h4 st
 omega
section
variable (p:Prg) (hs:Ya9 p.cls) (hpk:∀ x∈p.nodes,x.2.2.length*8≤140737488355328)
include hs hpk
set_option maxHeartbeats 4000000 in
theorem Ylk (W:List Int) (hW:∀ x∈W,YbC x) (hWl:W.length*8≤140737488355328):V.Spec Tryz.prog 26 [Ya0 p,Yaw W] [] (V.bool (Ybt p W)) []:=by
 have h0:=Yd5 p hs hpk;unfold Ybt
 cases hp:Ybk p with
 | false =>
   rw [hp] at h0;refine Se Tryz.func26 rfl rfl rfl fun B hB=>?_;repeat' (first|(with_reducible refine TC.seq ?_)|(with_reducible refine TC.region ?_))
   with_reducible refine OL.box ?_
   with_reducible refine OL.box ?_
   refine Zag 2 ?_;refine Zag 3 ?_;refine goW ?_;refine OL.c h0 Tryz.func42 ?_;refine goW ?_;exact Zad [] (.ren rfl)
 | true =>
   rw [hp] at h0;rw [Bool.true_and];have hcb:=YaC hp;obtain ⟨hsl,hpl,hf⟩:=YbO hcb;have h1:=Yep p hs hcb W hW hWl;unfold Ydi
   cases hst:starts (shp p.cls) W with
   | none =>
     rw [hst] at h1;simp only [Option.getD_none,Option.isSome_none] at h1;refine Se Tryz.func26 rfl rfl rfl fun B hB=>?_;repeat' (first|(with_reducible refine TC.seq ?_)|(with_reducible refine TC.region ?_))
     with_reducible refine OL.box ?_
     with_reducible refine OL.box ?_
     refine Zag 2 ?_;refine Zag 3 ?_;refine goW ?_;refine OL.c h0 Tryz.func42 ?_;refine goW ?_;refine OL.c h1 Tryz.func83 ?_;refine goW ?_;exact Zad [] (.ren rfl)
   | some st =>
     rw [hst] at h1;simp only [Option.getD_some,Option.isSome_some] at h1;rw [YpU] at h1;dsimp only;have hl6:=(Yah hst).2.1;have hst1:∀ x∈st,1≤x:=fun x hx=>(Yc7 hst hx).1
     have hsl6:=YmN hst;have hcl:(Yd1 st).length=st.length:=by rw [Yd1,List.length_map]
     have hwd:=fun w hw=>Yf9 (Yd1 st) w (by omega) hw
     simp only [Ylg hst1] at hwd;have hhs:=fun n=>YhV (Yd1 st) n (by omega)
     refine Se Tryz.func26 rfl rfl rfl fun B hB=>?_;repeat' (first|(with_reducible refine TC.seq ?_)|(with_reducible refine TC.region ?_))
     with_reducible refine OL.box ?_
     with_reducible refine OL.box ?_
     refine Zag 2 ?_;refine Zag 3 ?_;refine goW ?_;refine OL.c h0 Tryz.func42 ?_;refine goW ?_;refine OL.c h1 Tryz.func83 ?_;refine goW ?_;refine Zat (fun i:Nat=>[(2,.ep (YbB p) 0),(3,.ep [ints W] 0),(5,ints (Yd1 st)),(7,V.int i)]) (fun _=>[.dead,.dead]) (fun i=>i≤st.length∧(st.take i).all (YkL (shp p.cls) W st)=true) (fun i=>st.length-i) 0 [0,1] ⟨Nat.zero_le _,by simp⟩ ?_;rintro i ⟨hi,hal⟩;by_cases hil:i < st.length;rotate_left
     ·rw [Yaf (by omega)] at hal;rw [hal];refine goW ?_;exact Zad [] (.ren rfl)
     ·have hxe:(Yd1 st)[i]'(by omega)=((st[i]:Nat):Int):=by simp [Yd1]
      have hxm:st[i]∈st:=List.getElem_mem hil;have hno:=fun h=>YoK (f:=YkL (shp p.cls) W st) hxm h
      have hyes:YkL (shp p.cls) W st st[i]=true→(st.take (i+1)).all (YkL (shp p.cls) W st)=true:=fun h=>by rw [Yab hil,List.all_append,hal];simp [h]
      obtain ⟨hx1,hxl,hxd⟩:=Yc7 hst hxm;generalize st[i]=x at *
      obtain ⟨hw0,n,hsh,hxn⟩:=Ybd.1 hxd;have hwx:wAt W x=W[x]:=by rw [wAt,List.getD_eq_getElem?_getD,List.getElem?_eq_getElem hxl];rfl
      have hszw:szW (shp p.cls) (wAt W x)=n:=by rw [szW,hsh];rfl
      have hsn:(slotsW (shp p.cls) W x).length=n:=by rw [slotsW,List.length_take,List.length_drop,hszw];omega
      have hsg:∀ j (hj:j < n),(slotsW (shp p.cls) W x)[j]'(by omega)=W[x+1+j]'(by omega):=fun j hj=>by simp [slotsW]
      rw [hwx] at hw0 hsh;have hcls:=Ye4 W[x] hw0;have hfw:=YdS W[x] hw0 (hW W[x] (List.getElem_mem hxl)).2;obtain ⟨k,hk,hk3,hkl,hn⟩:=YcS hsh;have hsz:=YdI p hs hf (by omega) hk3 (by omega);rw [Ya4 hcb,← hn,← hk] at hsz;have hto0:0≤W[x] / 64:=by omega
      have hob:YkL (shp p.cls) W st x=((decide (W[x] / 64=0) || (decide ((x:Int) < W[x] / 64)&&st.contains (W[x] / 64).toNat))&&(slotsW (shp p.cls) W x).all fun y=>(decide (W[x] / 64=0) || decide (y=0))&&okW st y):=by rw [YkL,hwx]
      have hhs:=hhs (W[x] / 64);rw [Ypw _ _ hto0] at hhs;have hwdj:∀ j (hj:j < n),V.Spec Tryz.prog 87 [ints (Yd1 st),V.int (W[x+1+j]'(by omega))] [] (V.bool (okW st (W[x+1+j]'(by omega)))) []:=fun j hj=>hwd _ (hW _ (List.getElem_mem _))
      generalize hto:W[x] / 64=to at *
      refine goW ?_;rw [hxe];(refine Zal (id:=10) true 11 11 ?_<;>refine Zaf 0 1 2 3 ?_<;>refine Zae 4 5 ?_<;>refine OD.st 6 ?_<;>refine Zah 7 hcls Tryz.func84 ?_<;>refine Zah 8 hsz Tryz.func28 ?_<;>refine Zae 9 10 ?_<;>refine Zaa ?_)
      refine Zap ?_;refine goW ?_;refine OL.c hfw Tryz.func85 ?_;by_cases hc1:(decide (to=0) || (decide ((x:Int) < to)&&st.contains to.toNat))=true;rotate_left
      ·rw [hno (by rw [hob,Bool.eq_false_iff.2 hc1,Bool.false_and])];by_cases hlt:to≤x
       ·have hz:¬ to=0:=fun h=>hc1 (by simp [h])
        refine goW ?_;exact Zad [] (.ren rfl)
       ·have hct:st.contains to.toNat=false:=by
         rw [Bool.eq_false_iff];intro h;exact hc1 (by rw [h];simp;omega)
        have hz:¬ to=0:=fun h=>hc1 (by simp [h])
        rw [hct] at hhs;refine goW ?_;refine OL.c hhs Tryz.func86 ?_;refine goW ?_;exact Zad [] (.ren rfl)
      ·have hct:¬ to=0→(x:Int) < to∧st.contains to.toNat=true:=fun h=>by
        simp only [Bool.or_eq_true,Bool.and_eq_true,decide_eq_true_eq] at hc1;exact hc1.resolve_left h
       have hct1:¬ to=0→(x:Int) < to:=fun h=>(hct h).1
       rw [hc1,Bool.true_and] at hob;(refine YnB ?_ ?_<;>intro hc<;>refine goW ?_)
       any_goals
        rw [(hct (by omega)).2] at hhs;refine OL.c hhs Tryz.func86 ?_
       all_goals refine goW ?_
       all_goals
        refine Zat (fun j:Nat=>[(2,.ep (YbB p) 0),(3,.ep [ints W] 0),(5,ints (Yd1 st)),(7,V.int i),(8,V.int x),(9,V.int (x+(1+n))),(10,V.int to),(11,V.int (x+1+j:Nat))]) (fun _=>[.dead,.dead]) (fun j=>j≤n∧((slotsW (shp p.cls) W x).take j).all (fun y=>(decide (to=0) || decide (y=0))&&okW st y)=true) (fun j=>n-j) 0 [0,1] ⟨Nat.zero_le _,by simp⟩ ?_ (hr:=⟨⟨_,rfl,LE.ren rfl⟩,⟨_,rfl,LE.ren rfl⟩,⟨_,rfl,LE.ren rfl⟩,⟨_,rfl,LE.ren rfl⟩,⟨_,rfl,LE.ren rfl⟩,⟨_,rfl,LE.ren rfl⟩,⟨_,rfl,LE.ren rfl⟩,⟨_,rfl,LE.int (by omega)⟩,trivial⟩);rintro j ⟨hj,hall⟩;by_cases hjn:j < n
        ·have hwd:=hwdj j hjn;have hyj:=hsg j hjn;have hsj:(slotsW (shp p.cls) W x).take (j+1)=(slotsW (shp p.cls) W x).take j++[W[x+1+j]'(by omega)]:=by rw [Yab (by omega),hyj]
         have hmem:W[x+1+j]'(by omega)∈slotsW (shp p.cls) W x:=by rw [← hyj];exact List.getElem_mem _
         have hnoj:=fun h=>hno (by rw [hob];exact YoK (f:=fun y=>(decide (to=0) || decide (y=0))&&okW st y) hmem h)
         have hyesj:=fun (h:((decide (to=0) || decide (W[x+1+j]'(by omega)=0))&&okW st (W[x+1+j]'(by omega)))=true)=>(show ((slotsW (shp p.cls) W x).take (j+1)).all (fun y=>(decide (to=0) || decide (y=0))&&okW st y)=true by rw [hsj,List.all_append,hall];simpa using h)
         by_cases hty:to=0∨W[x+1+j]'(by omega)=0;rotate_left
         ·have hr:=hnoj (by
           have h1:decide (to=0)=false:=decide_eq_false fun h=>hty (.inl h)
           have h2:decide (W[x+1+j]'(by omega)=0)=false:=decide_eq_false fun h=>hty (.inr h)
           rw [h1,h2];rfl)
          rw [hr];have hh1:¬ to=0:=fun h=>hty (.inl h)
          have hh2:¬ W[x+1+j]'(by omega)=0:=fun h=>hty (.inr h)
          repeat' (with_reducible first|refine OL.st ?_|refine TC.region ?_|refine TC.seq ?_|refine OL.nil ?_|refine Zap ?_|refine TC.block ?_|refine TC.skip ?_|refine ZaY ?_|refine ZaB ?_|refine ZaD ?_|refine Zay ?_ ?_<;>(intro hc;try (exfalso;omega))|refine Zaz ?_ ?_<;>(intro hc;try (exfalso;omega))|refine TC.ret ?_|refine ZaE ?_|refine ZaK ?_|fail)
          all_goals exact Zad [] (.ren rfl)
         ·have hh:(decide (to=0) || decide (W[x+1+j]'(by omega)=0))=true:=by
           rcases hty with h|h<;>simp [h]
          have hh1:¬ to=0→W[x+1+j]'(by omega)=0:=fun h=>hty.resolve_left h
          cases hok:okW st (W[x+1+j]'(by omega)) with
          | false =>
            rw [hnoj (by rw [hok,Bool.and_false])];rw [hok] at hwd;repeat' (with_reducible first|refine OL.st ?_|refine TC.region ?_|refine TC.seq ?_|refine OL.nil ?_|refine Zap ?_|refine TC.block ?_|refine TC.skip ?_|refine ZaB ?_|refine ZaD ?_|refine Zay ?_ ?_<;>(intro hc;try (exfalso;omega))|refine Zaz ?_ ?_<;>(intro hc;try (exfalso;omega))|fail)
            all_goals refine OL.c hwd Tryz.func87 ?_
            all_goals refine goW ?_
            all_goals exact Zad [] (.ren rfl)
          | true =>
            have hyesj:=hyesj (by rw [hok,hh];rfl);rw [hok] at hwd;repeat' (with_reducible first|refine OL.st ?_|refine TC.region ?_|refine TC.seq ?_|refine OL.nil ?_|refine Zap ?_|refine TC.block ?_|refine TC.skip ?_|refine ZaB ?_|refine ZaD ?_|refine Zay ?_ ?_<;>(intro hc;try (exfalso;omega))|refine Zaz ?_ ?_<;>(intro hc;try (exfalso;omega))|fail)
            all_goals refine OL.c hwd Tryz.func87 ?_
            all_goals refine goW ?_
            all_goals exact Zan (j+1) [0,1] ⟨by omega,hyesj⟩ (by omega)
        ·obtain rfl:j=n:=by omega
         rw [List.take_of_length_le (by omega)] at hall;have hyes:=hyes (by rw [hob];exact hall);refine goW ?_;exact Zan (i+1) [0,1] ⟨by omega,hyes⟩ (by omega)
end
theorem Yko (at_:List Int) (v:Int × Int) (h1:v.1=1→-1000000000≤v.2∧v.2≤1000000000) (h3:v.1=3→0≤v.2∧v.2 < at_.length∧0≤at_.getD v.2.toNat 0∧at_.getD v.2.toNat 0≤1000000000) :
  V.Spec Tryz.prog 117 [Ycb v,ints at_] [] (V.int (YaS at_ v)) []:=by
 obtain ⟨k,n⟩:=v;dsimp only at h1 h3;by_cases hk:k=1
 ·subst hk;have hb:=h1 rfl;rw [YaS,if_pos rfl];refine Se Tryz.func117 rfl rfl rfl fun B hB=>?_;repeat' (first|(with_reducible refine TC.seq ?_)|(with_reducible refine TC.region ?_))
  with_reducible refine OL.box ?_
  refine Zag 2 ?_;refine goW ?_;exact Zad [] (.ren rfl)
 ·by_cases hk3:k=3
  ·subst hk3;obtain ⟨a1,a2,a3,a4⟩:=h3 rfl;rw [Ylb];have e:at_.getD n.toNat 0=at_[n.toNat]'(by omega):=by rw [List.getD_eq_getElem?_getD,List.getElem?_eq_getElem (by omega)];rfl
   rw [e] at a3 a4 ⊢;refine Se Tryz.func117 rfl rfl rfl fun B hB=>?_;repeat' (first|(with_reducible refine TC.seq ?_)|(with_reducible refine TC.region ?_))
   with_reducible refine OL.box ?_
   refine Zag 2 ?_;refine goW ?_;exact Zad [] (.ren rfl)
  ·rw [YaS,if_neg hk,if_neg hk3];refine Se Tryz.func117 rfl rfl rfl fun B hB=>?_;repeat' (first|(with_reducible refine TC.seq ?_)|(with_reducible refine TC.region ?_))
   with_reducible refine OL.box ?_
   refine Zag 2 ?_;refine goW ?_;exact Zad [] (.ren rfl)
def obW (p:Prg) (x:Ob):Prop:=∃ k:Nat,x.1=k∧3≤k∧k < 3+p.cls.length∧x.2.length=(slotsOf p.cls k).length
section
variable (p:Prg) (hs:Ya9 p.cls) (hcb:Yag p=true)
include hs hcb
theorem Ydg (os:List Ob) (hol:os.length≤1000) (hom:∀ x∈os,obW p x):V.Spec Tryz.prog 58 [Ya0 p,Yef os] [] (.tp [ints (Ycx os),V.int (Yh2 os)]) []:=by
 obtain ⟨hsl,hpl,hf⟩:=YbO hcb;refine Se Tryz.func58 rfl rfl rfl fun B hB=>?_;repeat' (first|(with_reducible refine TC.seq ?_)|(with_reducible refine TC.region ?_))
 with_reducible refine OL.box ?_
 refine Zag 2 ?_;refine goW ?_;refine ZaT 6 3 1 ?_;refine Zat (fun k:Nat=>[(1,Yef os),(2,.ep (YbB p) 0),(6,.hs 1),(7,V.int (Yh2 (os.take k))),(8,V.int k)]) (fun k=>[.dead,.gs false 3 1 none ((Ycx (os.take k)).map V.int)]) (fun k=>k≤os.length) (fun k=>os.length-k) 0 [0,1] (Nat.zero_le _) ?_;rintro k hk;by_cases hkl:k < os.length;rotate_left
 ·rw [Yaf (by omega)];refine goW ?_;refine Za4 4 ?_;exact ZaA [] (.ren rfl) (.ren rfl)
 ·obtain ⟨c,hc,hc3,hcl,hsl2⟩:=hom os[k] (List.getElem_mem _);have hsz:=YdI p hs hf (by omega) hc3 hcl;rw [Ya4 hcb,← hsl2,← hc] at hsz;have hb:=Ya3 hpl c;rw [← hsl2] at hb;have hnb:=Yj7 (os.take k) fun x hx=>by
   obtain ⟨c',_,_,_,h4⟩:=hom x (List.mem_of_mem_take hx);rw [h4];exact Ya3 hpl c'
  have hnp:0≤Yh2 (os.take k):=by
   generalize os.take k=l;induction l using YhR with
   | nil=>decide
   | snoc l x ih=>rw [Ycr];omega
  rw [List.length_take] at hnb;have e1:(Ycx (os.take k)).map V.int++[V.int (Yh2 (os.take k))]=(Ycx (os.take (k+1))).map V.int:=by rw [Yab hkl,YkG,List.map_append];rfl
  have e2:Yh2 (os.take (k+1))=Yh2 (os.take k)+(1+(os[k].2.length:Int)):=by rw [Yab hkl,Ycr]
  have hal:(Ycx (os.take k)).length≤1000:=by rw [Ycx,List.length_map,List.length_range,List.length_take];omega
  generalize Yh2 (os.take k)=nx at *
  generalize Ycx (os.take k)=ad at *
  refine goW ?_;(refine Zal (id:=7) true 10 10 ?_<;>refine Zaf 0 1 2 3 ?_<;>refine Zae 4 5 ?_<;>refine OD.st 6 ?_<;>refine Zah 7 hsz Tryz.func28 ?_<;>refine Zae 8 9 ?_<;>refine Zaa ?_)
  refine Zap ?_;refine goW ?_;rw [e1];exact Zan (k+1) [0,3] (by omega) (by omega) (hr:=⟨⟨_,rfl,LE.ren rfl⟩,⟨_,rfl,LE.ren rfl⟩,⟨_,rfl,LE.ren rfl⟩,⟨_,rfl,LE.int (by omega)⟩,⟨_,rfl,LE.int (by omega)⟩,trivial⟩)
end
def Ys9 (n:Nat) (v:Int × Int):Prop:=(v.1=1→-1000000000≤v.2∧v.2≤1000000000)∧(v.1=3→0≤v.2∧v.2 < n)
theorem Ys6 (l:List Ob):0≤Yh2 l:=by
 induction l using YhR with
 | nil=>decide
 | snoc l x ih=>rw [Ycr];omega
theorem YsL (l:List Ob) (h:∀ x∈l,x.2.length≤640) (a:Int) (ha:a∈Ycx l):0≤a∧a≤1+641*(l.length:Int):=by
 obtain ⟨k,hk,rfl⟩:=List.mem_map.1 ha;have h1:=Yj7 (l.take k) fun x hx=>h x (List.mem_of_mem_take hx)
 rw [List.length_take] at h1;have:=List.mem_range.1 hk
 exact ⟨Ys6 _,by omega⟩
theorem Yt4 {p:Prg} (hcb:Yag p=true) {x:Ob} (h:obW p x):x.2.length≤640:=by
 obtain ⟨c,_,_,_,h4⟩:=h;rw [h4];exact Ya3 (YbO hcb).2.1 c
section
variable (p:Prg) (hs:Ya9 p.cls) (hcb:Yag p=true)
include hs hcb
set_option maxHeartbeats 4000000 in
theorem YjR (os:List Ob) (hol:os.length≤1000) (hom:∀ x∈os,obW p x) (hov:∀ x∈os,∀ v∈x.2,Ys9 os.length v):V.Spec Tryz.prog 59 [Ya0 p,Yef os] [] (.tp [Yaw (Yeo (Ycx os) os),ints ((Ycx os).map (2*·))]) []:=by
 have h1:=Ydg p hs hcb os hol hom;have hob:∀ x∈os,x.2.length≤640:=fun x hx=>Yt4 hcb (hom x hx)
 have hal:=Yjp os;have hab:=YsL os hob;have hwd:∀ x∈os,∀ v∈x.2,V.Spec Tryz.prog 117 [Ycb v,ints (Ycx os)] [] (V.int (YaS (Ycx os) v)) []:=fun x hx v hv=>by
  obtain ⟨q1,q2⟩:=hov x hx v hv;refine Yko _ _ q1 fun h=>?_;obtain ⟨b1,b2⟩:=q2 h;have hi:v.2.toNat < (Ycx os).length:=by rw [hal];omega
  have hg:(Ycx os).getD v.2.toNat 0=(Ycx os)[v.2.toNat]:=by rw [List.getD_eq_getElem?_getD,List.getElem?_eq_getElem hi];rfl
  have:=hab _ (List.getElem_mem hi)
  rw [hg];exact ⟨b1,by rw [hal];omega,this.1,by omega⟩
 have hlen:=fun k=>YgO (Ycx os) (os.take k)
 have hnb:∀ k,Yh2 (os.take k)≤1+641*(os.length:Int):=fun k=>by
  have:=Yj7 (os.take k) fun x hx=>hob x (List.mem_of_mem_take hx)
  rw [List.length_take] at this;omega
 have hsn:=fun k (h:k < os.length)=>YhT (Ycx os) (os.take k) os[k]
 have h0:Yeo (Ycx os) (os.take 0)=[0]:=rfl;have hfin:Yeo (Ycx os) os=Yeo (Ycx os) (os.take os.length):=by rw [List.take_length]
 rw [hfin];generalize hav:Ycx os=ad at *
 refine Se Tryz.func59 rfl rfl rfl fun B hB=>?_;repeat' (first|(with_reducible refine TC.seq ?_)|(with_reducible refine TC.region ?_))
 with_reducible refine OL.box ?_
 refine Zag 2 ?_;refine goW ?_;refine OL.c h1 Tryz.func58 ?_;refine goW ?_;refine ZaT 9 3 1 ?_;refine Zat (fun k:Nat=>[(1,Yef os),(4,.bp 1 0),(6,ints ad),(8,.bp 3 0),(9,.hs 4),(10,V.int k)]) (fun k=>[.dead,.cb 30 [nilA],.gs false 3 1 none ((Yeo ad (os.take k)).map V.int),.cb 30 [.hs 2],.gs false 3 1 none (((ad.take k).map (2*·)).map V.int)]) (fun k=>k≤os.length) (fun k=>os.length-k) 0 [0,1,2,3,4] (Nat.zero_le _) ?_;rintro k hk;by_cases hkl:k < os.length;rotate_left
 ·obtain rfl:k=os.length:=by omega
  rw [List.take_of_length_le (show ad.length≤os.length by omega)];refine Zbp 3 0 ?_;refine goW ?_;refine Za4 5 ?_;exact ZaZ [] (.ren rfl) (.ren rfl)
 ·have hxm:os[k]∈os:=List.getElem_mem _;have hob:=hob _ hxm;have hwd:=hwd _ hxm;have hadk:=hab (ad[k]'(by omega)) (List.getElem_mem _);have e1:((ad.take k).map (2*·)).map V.int++[V.int (2*ad[k]'(by omega))]=((ad.take (k+1)).map (2*·)).map V.int:=by rw [Yab (show k < ad.length by omega),List.map_append,List.map_append];rfl
  have hl1:((ad.take k).map (2*·)).length≤1000:=by rw [List.length_map,List.length_take];omega
  have hl2:=hlen k;have hnk:=hnb k;have hsn:=hsn k hkl;rw [← Yab hkl] at hsn;generalize hw2:Yeo ad (os.take (k+1))=w2 at *
  generalize Yeo ad (os.take k)=w1 at *
  generalize (ad.take k).map (2*·)=ws1 at *
  generalize hws2:(ad.take (k+1)).map (2*·)=ws2 at *
  refine goW ?_;rw [e1];refine TC.rebase fun B3 hB3 hub hf=>?_;refine ZaO [(1,Yef os),(4,.bp 1 0),(6,ints ad),(8,.bp 3 0),(9,.hs 6),(10,V.int k)] [.dead,.cb 30 [nilA],.dead,.cb 30 [.hs 7],.dead,.dead,.gs false 3 1 none (ws2.map V.int),.gs false 3 1 none (w1.map V.int++[V.int os[k].1])] ?_ ?_
  ·(refine Zbi (id:=8) [(3,0,.hs 2)] 10 11 ?_<;>refine Zaq 0 ?_<;>refine ZaQ 1 ?_<;>refine Zaq 2 ?_<;>refine Zaq 3 ?_<;>refine Zaq 4 ?_<;>refine Zaq 5 ?_)
   all_goals ((with_reducible refine ZaR 6 ?_))
   all_goals (((with_reducible refine ZaU 7 ?_);with_reducible refine OL.lit ?_<;>(with_reducible refine OL.nil ?_<;>refine ZaI ?_)))
   all_goals (((with_reducible refine ZaU 8 ?_);with_reducible refine ZaH ?_<;>(with_reducible refine OL.nil ?_<;>refine ZaI ?_))<;>(with_reducible refine Zaq 9 ?_))
   all_goals (((with_reducible refine ZbD 10 ?_);with_reducible refine OL.store ?_<;>(with_reducible refine OL.nil ?_<;>refine ZbE ?_)))
   all_goals (with_reducible refine Zbj ?_)
   all_goals exact ZaP [0,1,2,3,4,5,6,8]
  have e2:w1.map V.int++[V.int os[k].1]=(w1++[os[k].1]).map V.int:=by rw [List.map_append];rfl
  have e3:w2=w1++[os[k].1]++os[k].2.map (YaS ad):=by rw [hsn];simp
  rw [e2];have hl3:(w1++[os[k].1]).length≤2000000:=by rw [List.length_append,List.length_singleton];omega
  generalize w1++[os[k].1]=w3 at *
  refine Zap ?_;refine YaF ?_;refine Zat (fun j:Nat=>[(1,Yef os),(4,.bp 1 0),(6,ints ad),(8,.bp 3 0),(9,.hs 6),(10,V.int k),(11,V.int j)]) (fun j=>[.dead,.cb 30 [nilA],.dead,.cb 30 [.hs 7],.dead,.dead,.gs false 3 1 none (ws2.map V.int),.gs false 3 1 none ((w3++(os[k].2.take j).map (YaS ad)).map V.int)]) (fun j=>j≤os[k].2.length) (fun j=>os[k].2.length-j) 0 [0,1,2,3,4,5,6,7] (Nat.zero_le _) ?_ (ho:=?_)
  ·rintro j hj;by_cases hjl:j < os[k].2.length
   ·have hwj:=hwd os[k].2[j] (List.getElem_mem _);have hl4:(w3++(os[k].2.take j).map (YaS ad)).length≤3000000:=by rw [List.length_append,List.length_map,List.length_take];omega
    have e5:(os[k].2.take (j+1)).map (YaS ad)=(os[k].2.take j).map (YaS ad)++[YaS ad os[k].2[j]]:=by rw [Yab hjl,List.map_append];rfl
    have e4:(w3++(os[k].2.take j).map (YaS ad)).map V.int++[V.int (YaS ad os[k].2[j])]=(w3++(os[k].2.take (j+1)).map (YaS ad)).map V.int:=by rw [e5,Yq9,List.append_assoc]
    generalize w3++(os[k].2.take j).map (YaS ad)=w4 at *
    refine YaF ?_;refine TC.rebase fun B4 hB4 hub4 hf4=>?_;refine ZaO [(1,Yef os),(4,.bp 1 0),(6,ints ad),(8,.bp 3 0),(9,.hs 6),(10,V.int k),(11,V.int j)] [.dead,.cb 30 [nilA],.dead,.cb 30 [.hs 8],.dead,.dead,.gs false 3 1 none (ws2.map V.int),.dead,.gs false 3 1 none (w4.map V.int++[V.int (YaS ad os[k].2[j])])] ?_ ?_
    ·(refine Zbi (id:=12) [(3,0,.hs 7)] 15 16 ?_<;>refine Zaq 0 ?_<;>refine ZaQ 1 ?_<;>refine Zaq 2 ?_<;>refine Zaq 3 ?_<;>refine Zaq 4 ?_<;>refine Zaq 5 ?_<;>refine Zaq 7 ?_<;>refine Zaq 10 ?_)
     all_goals (with_reducible refine ZaR 6 ?_<;>refine Zaq 8 ?_)
     all_goals ((with_reducible refine ZaR 9 ?_))
     all_goals (((with_reducible refine ZaU 11 ?_);refine OL.c hwj Tryz.func117 ?_<;>(with_reducible refine OL.nil ?_<;>refine ZaI ?_)))
     all_goals (((with_reducible refine ZaU 12 ?_);with_reducible refine OL.lit ?_<;>(with_reducible refine OL.nil ?_<;>refine ZaI ?_)))
     all_goals (((with_reducible refine ZaU 13 ?_);with_reducible refine ZaH ?_<;>(with_reducible refine OL.nil ?_<;>refine ZaI ?_))<;>(with_reducible refine Zaq 14 ?_))
     all_goals (((with_reducible refine ZbD 15 ?_);with_reducible refine OL.store ?_<;>(with_reducible refine OL.nil ?_<;>refine ZbE ?_)))
     all_goals (with_reducible refine Zbj ?_)
     all_goals exact ZaP [0,1,2,3,4,5,6,7,9]
    rw [e4];refine Zap ?_;refine YaF ?_;refine Za0 hub4 ?_;exact Zan (j+1) [0,1,2,3,4,5,6,8] (by omega) (by omega)
   ·obtain rfl:j=os[k].2.length:=by omega
    rw [show os[k].2.take os[k].2.length=os[k].2 from List.take_length,← e3,← hw2,← hws2];refine YaF ?_;refine Za0 hub ?_;exact Zan (k+1) [0,1,7,3,6] (by omega) (by omega)
  ·rw [List.take_zero,List.map_nil,List.append_nil];repeat' (first|with_unfolding_all exact trivial|exact OE.ren (by with_unfolding_all exact rfl)|with_unfolding_all exact OE.gs|with_unfolding_all refine And.intro ⟨_,by with_unfolding_all exact rfl,?_⟩ ?_)
end
end Go.Proofs
