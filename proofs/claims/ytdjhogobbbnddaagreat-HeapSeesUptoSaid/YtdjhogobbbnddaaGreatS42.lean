/- Lemmas for the claim, part 42; no conditions. -/
import Derived.Test.YtdjhogobbbnddaaGreatS0
import Derived.Test.YtdjhogobbbnddaaGreatQ23
import Derived.Test.YtdjhogobbbnddaaGreatQ19
import Derived.Test.YtdjhogobbbnddaaGreatQ18
import Derived.Test.YtdjhogobbbnddaaGreatS41
namespace Go.Proofs
open Go Go.W Go.V
theorem YoK {α:Type} {f:α→Bool} {l:List α} {x:α} (hx:x∈l) (h:f x=false):l.all f=false:=by
 rw [Bool.eq_false_iff];intro hl;have:=List.all_eq_true.1 hl x hx
 rw [h] at this;cases this
theorem YmN {sh:Int→Option Nat} {W:List Int} {st:List Nat} (hst:starts sh W=some st):st.length≤600:=by
 have h2:=YdA _ _ _ (Yah hst).2.2.2 (by omega) (by have:=(Yah hst).1;omega);have h3:=(Yah hst).2.1;have h4:∀ l:List Nat,l.length≤(l.map fun x=>1+szW sh (wAt W x)).sum:=by
  intro l;induction l with
  | nil=>simp
  | cons x l ih=>simp only [List.length_cons,List.map_cons,List.sum_cons];omega
 have:=h4 st
 omega
section
variable (p:Prg) (hs:Ya9 p.cls) (hpk:∀ x∈p.nodes,x.2.2.length*8≤140737488355328)
include hs hpk
set_option maxHeartbeats 4000000 in
theorem Ylk (W:List Int) (hW:∀ x∈W,YbC x) (hWl:W.length*8≤140737488355328):V.Spec Tryz.prog 26 [Ya0 p,Yaw W] [] (V.bool (Ybt p W)) []:=by
 have h0:=Yd5 p hs hpk;unfold Ybt
 cases hp:Ybk p with
 | false =>
   rw [hp] at h0;refine Se Tryz.func26 rfl rfl rfl fun B hB=>?_;repeat' (first|(with_reducible refine TC.seq ?_)|(with_reducible refine TC.region ?_))
   with_reducible refine OL.box ?_
   with_reducible refine OL.box ?_
   refine Zag 2 ?_;refine Zag 3 ?_;refine goW ?_;refine OL.c h0 Tryz.func42 ?_;refine goW ?_;exact Zad [] (.ren rfl)
 | true =>
   rw [hp] at h0;rw [Bool.true_and];have hcb:=YaC hp;obtain ⟨hsl,hpl,hf⟩:=YbO hcb;have h1:=Yep p hs hcb W hW hWl;unfold Ydi
   cases hst:starts (shp p.cls) W with
   | none =>
     rw [hst] at h1;simp only [Option.getD_none,Option.isSome_none] at h1;refine Se Tryz.func26 rfl rfl rfl fun B hB=>?_;repeat' (first|(with_reducible refine TC.seq ?_)|(with_reducible refine TC.region ?_))
     with_reducible refine OL.box ?_
     with_reducible refine OL.box ?_
     refine Zag 2 ?_;refine Zag 3 ?_;refine goW ?_;refine OL.c h0 Tryz.func42 ?_;refine goW ?_;refine OL.c h1 Tryz.func83 ?_;refine goW ?_;exact Zad [] (.ren rfl)
   | some st =>
     rw [hst] at h1;simp only [Option.getD_some,Option.isSome_some] at h1;rw [YpU] at h1;dsimp only;have hl6:=(Yah hst).2.1;have hst1:∀ x∈st,1≤x:=fun x hx=>(Yc7 hst hx).1
     have hsl6:=YmN hst;have hcl:(Yd1 st).length=st.length:=by rw [Yd1,List.length_map]
     have hwd:=fun w hw=>Yf9 (Yd1 st) w (by omega) hw
     simp only [Ylg hst1] at hwd;have hhs:=fun n=>YhV (Yd1 st) n (by omega)
     refine Se Tryz.func26 rfl rfl rfl fun B hB=>?_;repeat' (first|(with_reducible refine TC.seq ?_)|(with_reducible refine TC.region ?_))
     with_reducible refine OL.box ?_
     with_reducible refine OL.box ?_
     refine Zag 2 ?_;refine Zag 3 ?_;refine goW ?_;refine OL.c h0 Tryz.func42 ?_;refine goW ?_;refine OL.c h1 Tryz.func83 ?_;refine goW ?_;refine Zat (fun i:Nat=>[(2,.ep (YbB p) 0),(3,.ep [ints W] 0),(5,ints (Yd1 st)),(7,V.int i)]) (fun _=>[.dead,.dead]) (fun i=>i≤st.length∧(st.take i).all (YkL (shp p.cls) W st)=true) (fun i=>st.length-i) 0 [0,1] ⟨Nat.zero_le _,by simp⟩ ?_;rintro i ⟨hi,hal⟩;by_cases hil:i < st.length;rotate_left
     ·rw [Yaf (by omega)] at hal;rw [hal];refine goW ?_;exact Zad [] (.ren rfl)
     ·have hxe:(Yd1 st)[i]'(by omega)=((st[i]:Nat):Int):=by simp [Yd1]
      have hxm:st[i]∈st:=List.getElem_mem hil;have hno:=fun h=>YoK (f:=YkL (shp p.cls) W st) hxm h
      have hyes:YkL (shp p.cls) W st st[i]=true→(st.take (i+1)).all (YkL (shp p.cls) W st)=true:=fun h=>by rw [Yab hil,List.all_append,hal];simp [h]
      obtain ⟨hx1,hxl,hxd⟩:=Yc7 hst hxm;generalize st[i]=x at *
      obtain ⟨hw0,n,hsh,hxn⟩:=Ybd.1 hxd;have hwx:wAt W x=W[x]:=by rw [wAt,List.getD_eq_getElem?_getD,List.getElem?_eq_getElem hxl];rfl
      have hszw:szW (shp p.cls) (wAt W x)=n:=by rw [szW,hsh];rfl
      have hsn:(slotsW (shp p.cls) W x).length=n:=by rw [slotsW,List.length_take,List.length_drop,hszw];omega
      have hsg:∀ j (hj:j < n),(slotsW (shp p.cls) W x)[j]'(by omega)=W[x+1+j]'(by omega):=fun j hj=>by simp [slotsW]
      rw [hwx] at hw0 hsh;have hcls:=Ye4 W[x] hw0;have hfw:=YdS W[x] hw0 (hW W[x] (List.getElem_mem hxl)).2;obtain ⟨k,hk,hk3,hkl,hn⟩:=YcS hsh;have hsz:=YdI p hs hf (by omega) hk3 (by omega);rw [Ya4 hcb,← hn,← hk] at hsz;have hto0:0≤W[x] / 64:=by omega
      have hob:YkL (shp p.cls) W st x=((decide (W[x] / 64=0) || (decide ((x:Int) < W[x] / 64)&&st.contains (W[x] / 64).toNat))&&(slotsW (shp p.cls) W x).all fun y=>(decide (W[x] / 64=0) || decide (y=0))&&okW st y):=by rw [YkL,hwx]
      have hhs:=hhs (W[x] / 64);rw [Ypw _ _ hto0] at hhs;have hwdj:∀ j (hj:j < n),V.Spec Tryz.prog 87 [ints (Yd1 st),V.int (W[x+1+j]'(by omega))] [] (V.bool (okW st (W[x+1+j]'(by omega)))) []:=fun j hj=>hwd _ (hW _ (List.getElem_mem _))
      generalize hto:W[x] / 64=to at *
      refine goW ?_;rw [hxe];(refine Zal (id:=10) true 11 11 ?_<;>refine Zaf 0 1 2 3 ?_<;>refine Zae 4 5 ?_<;>refine OD.st 6 ?_<;>refine Zah 7 hcls Tryz.func84 ?_<;>refine Zah 8 hsz Tryz.func28 ?_<;>refine Zae 9 10 ?_<;>refine Zaa ?_)
      refine Zap ?_;refine goW ?_;refine OL.c hfw Tryz.func85 ?_;by_cases hc1:(decide (to=0) || (decide ((x:Int) < to)&&st.contains to.toNat))=true;rotate_left
      ·rw [hno (by rw [hob,Bool.eq_false_iff.2 hc1,Bool.false_and])];by_cases hlt:to≤x
       ·have hz:¬ to=0:=fun h=>hc1 (by simp [h])
        refine goW ?_;exact Zad [] (.ren rfl)
       ·have hct:st.contains to.toNat=false:=by
         rw [Bool.eq_false_iff];intro h;exact hc1 (by rw [h];simp;omega)
        have hz:¬ to=0:=fun h=>hc1 (by simp [h])
        rw [hct] at hhs;refine goW ?_;refine OL.c hhs Tryz.func86 ?_;refine goW ?_;exact Zad [] (.ren rfl)
      ·have hct:¬ to=0→(x:Int) < to∧st.contains to.toNat=true:=fun h=>by
        simp only [Bool.or_eq_true,Bool.and_eq_true,decide_eq_true_eq] at hc1;exact hc1.resolve_left h
       have hct1:¬ to=0→(x:Int) < to:=fun h=>(hct h).1
       rw [hc1,Bool.true_and] at hob;(refine YnB ?_ ?_<;>intro hc<;>refine goW ?_)
       any_goals
        rw [(hct (by omega)).2] at hhs;refine OL.c hhs Tryz.func86 ?_
       all_goals refine goW ?_
       all_goals
        refine Zat (fun j:Nat=>[(2,.ep (YbB p) 0),(3,.ep [ints W] 0),(5,ints (Yd1 st)),(7,V.int i),(8,V.int x),(9,V.int (x+(1+n))),(10,V.int to),(11,V.int (x+1+j:Nat))]) (fun _=>[.dead,.dead]) (fun j=>j≤n∧((slotsW (shp p.cls) W x).take j).all (fun y=>(decide (to=0) || decide (y=0))&&okW st y)=true) (fun j=>n-j) 0 [0,1] ⟨Nat.zero_le _,by simp⟩ ?_ (hr:=⟨⟨_,rfl,LE.ren rfl⟩,⟨_,rfl,LE.ren rfl⟩,⟨_,rfl,LE.ren rfl⟩,⟨_,rfl,LE.ren rfl⟩,⟨_,rfl,LE.ren rfl⟩,⟨_,rfl,LE.ren rfl⟩,⟨_,rfl,LE.ren rfl⟩,⟨_,rfl,LE.int (by omega)⟩,trivial⟩);rintro j ⟨hj,hall⟩;by_cases hjn:j < n
        ·have hwd:=hwdj j hjn;have hyj:=hsg j hjn;have hsj:(slotsW (shp p.cls) W x).take (j+1)=(slotsW (shp p.cls) W x).take j++[W[x+1+j]'(by omega)]:=by rw [Yab (by omega),hyj]
         have hmem:W[x+1+j]'(by omega)∈slotsW (shp p.cls) W x:=by rw [← hyj];exact List.getElem_mem _
         have hnoj:=fun h=>hno (by rw [hob];exact YoK (f:=fun y=>(decide (to=0) || decide (y=0))&&okW st y) hmem h)
         have hyesj:=fun (h:((decide (to=0) || decide (W[x+1+j]'(by omega)=0))&&okW st (W[x+1+j]'(by omega)))=true)=>(show ((slotsW (shp p.cls) W x).take (j+1)).all (fun y=>(decide (to=0) || decide (y=0))&&okW st y)=true by rw [hsj,List.all_append,hall];simpa using h)
         by_cases hty:to=0∨W[x+1+j]'(by omega)=0;rotate_left
         ·have hr:=hnoj (by
           have h1:decide (to=0)=false:=decide_eq_false fun h=>hty (.inl h)
           have h2:decide (W[x+1+j]'(by omega)=0)=false:=decide_eq_false fun h=>hty (.inr h)
           rw [h1,h2];rfl)
          rw [hr];have hh1:¬ to=0:=fun h=>hty (.inl h)
          have hh2:¬ W[x+1+j]'(by omega)=0:=fun h=>hty (.inr h)
          repeat' (with_reducible first|refine OL.st ?_|refine TC.region ?_|refine TC.seq ?_|refine OL.nil ?_|refine Zap ?_|refine TC.block ?_|refine TC.skip ?_|refine ZaY ?_|refine ZaB ?_|refine ZaD ?_|refine Zay ?_ ?_<;>(intro hc;try (exfalso;omega))|refine Zaz ?_ ?_<;>(intro hc;try (exfalso;omega))|refine TC.ret ?_|refine ZaE ?_|refine ZaK ?_|fail)
          all_goals exact Zad [] (.ren rfl)
         ·have hh:(decide (to=0) || decide (W[x+1+j]'(by omega)=0))=true:=by
           rcases hty with h|h<;>simp [h]
          have hh1:¬ to=0→W[x+1+j]'(by omega)=0:=fun h=>hty.resolve_left h
          cases hok:okW st (W[x+1+j]'(by omega)) with
          | false =>
            rw [hnoj (by rw [hok,Bool.and_false])];rw [hok] at hwd;repeat' (with_reducible first|refine OL.st ?_|refine TC.region ?_|refine TC.seq ?_|refine OL.nil ?_|refine Zap ?_|refine TC.block ?_|refine TC.skip ?_|refine ZaB ?_|refine ZaD ?_|refine Zay ?_ ?_<;>(intro hc;try (exfalso;omega))|refine Zaz ?_ ?_<;>(intro hc;try (exfalso;omega))|fail)
            all_goals refine OL.c hwd Tryz.func87 ?_
            all_goals refine goW ?_
            all_goals exact Zad [] (.ren rfl)
          | true =>
            have hyesj:=hyesj (by rw [hok,hh];rfl);rw [hok] at hwd;repeat' (with_reducible first|refine OL.st ?_|refine TC.region ?_|refine TC.seq ?_|refine OL.nil ?_|refine Zap ?_|refine TC.block ?_|refine TC.skip ?_|refine ZaB ?_|refine ZaD ?_|refine Zay ?_ ?_<;>(intro hc;try (exfalso;omega))|refine Zaz ?_ ?_<;>(intro hc;try (exfalso;omega))|fail)
            all_goals refine OL.c hwd Tryz.func87 ?_
            all_goals refine goW ?_
            all_goals exact Zan (j+1) [0,1] ⟨by omega,hyesj⟩ (by omega)
        ·obtain rfl:j=n:=by omega
         rw [List.take_of_length_le (by omega)] at hall;have hyes:=hyes (by rw [hob];exact hall);refine goW ?_;exact Zan (i+1) [0,1] ⟨by omega,hyes⟩ (by omega)
end
end Go.Proofs
