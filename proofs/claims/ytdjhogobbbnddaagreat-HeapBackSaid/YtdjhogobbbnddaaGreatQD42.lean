/- Part 42 of what the claim is proved by: lemmas on the model and walks through functions of the program; no conditions. -/
import Derived.Test.YtdjhogobbbnddaaGreatQD0
import Derived.Test.YtdjhogobbbnddaaGreatQ23
import Derived.Test.YtdjhogobbbnddaaGreatQ19
import Derived.Test.YtdjhogobbbnddaaGreatQ18
import Derived.Test.YtdjhogobbbnddaaGreatQ41
namespace Go.Proofs
open Go Go.W Go.V
theorem YoK {α:Type} {f:α→Bool} {l:List α} {x:α} (hx:x∈l) (h:f x=false):l.all f=false:=by
 rw [Bool.eq_false_iff];intro hl;have:=List.all_eq_true.1 hl x hx
 rw [h] at this;cases this
def obW (p:Prg) (x:Ob):Prop:=∃ k:Nat,x.1=k∧3≤k∧k < 3+p.cls.length∧x.2.length=(slotsOf p.cls k).length
theorem YmB (g:List (List Int)) (ow:List Int) (c:Int) (hg:g.length≤1000000000):V.Spec Tryz.prog 127 [fwA g ow,V.int c] [] (V.bool (decide (3≤c)&&decide (c < 3+(g.length:Int)))) []:=by
 refine Se Tryz.func127 rfl rfl rfl fun B hB=>?_;repeat' (first|(with_reducible refine TC.seq ?_)|(with_reducible refine TC.region ?_))
 with_reducible refine OL.box ?_
 refine OL.frzB 2 ?_;(refine YnB ?_ ?_<;>intro hc<;>refine goW ?_)
 all_goals
  refine TX.rt1 [] (.bool ?_);simp;try omega
section
variable (p:Prg)
set_option maxHeartbeats 4000000 in
theorem Yk6 (hcb:Yag p=true) (os:List Ob) (hol:os.length*32≤140737488355328) (hox:∀ x∈os,x.2.length*16≤140737488355328) :
  V.Spec Tryz.prog 91 [fwA (graphOf p.cls) (ownF 0 p.cls),Yef os] [] (V.bool (Ygy p.cls os)) []:=by
 obtain ⟨hsl,hpl,hf⟩:=YbO hcb;have hgl:(graphOf p.cls).length=p.cls.length:=by simp [graphOf]
 have how:=fun c=>YmB (graphOf p.cls) (ownF 0 p.cls) c (by omega)
 have hslt:∀ k:Nat,3≤k→k < 3+p.cls.length→V.Spec Tryz.prog 126 [fwA (graphOf p.cls) (ownF 0 p.cls),V.int k] [] (ints (slotsOf p.cls k)) []:=fun k h3 hk=>by
  have:=Yfk (graphOf p.cls) (ownF 0 p.cls) hf h3 (by omega) (fun s h=>YjT p.cls (List.getElem_mem h)) (by rw [YbL];omega)
  rwa [Yeu,Ya4 hcb] at this
 rw [hgl] at how;unfold Ygy;by_cases h40:os.length≤40;rotate_left
 ·rw [decide_eq_false h40,Bool.false_and];refine Se Tryz.func91 rfl rfl rfl fun B hB=>?_;repeat' (first|(with_reducible refine TC.seq ?_)|(with_reducible refine TC.region ?_))
  with_reducible refine OL.box ?_
  refine OL.frzB 2 ?_;refine goW ?_;exact TX.rt1 [] (.ren rfl)
 ·rw [decide_eq_true h40,Bool.true_and];generalize hfo:obB p.cls os.length=fo;refine Se Tryz.func91 rfl rfl rfl fun B hB=>?_;repeat' (first|(with_reducible refine TC.seq ?_)|(with_reducible refine TC.region ?_))
  with_reducible refine OL.box ?_
  refine OL.frzB 2 ?_;refine goW ?_;refine TC.lp (fun k:Nat=>[(1,Yef os),(2,.ep (fwC (graphOf p.cls) (ownF 0 p.cls)) 0),(10,Yef os),(11,V.int os.length),(12,V.int k)]) (fun _=>[.dead]) (fun k=>k≤os.length∧(os.take k).all fo=true) (fun k=>os.length-k) 0 [0] ⟨Nat.zero_le _,by simp⟩ ?_;rintro k ⟨hk,hal⟩;by_cases hkl:k < os.length;rotate_left
  ·rw [Yaf (by omega)] at hal;rw [hal];refine goW ?_;exact TX.rt1 [] (.ren rfl)
  ·have hxm:os[k]∈os:=List.getElem_mem _;have hno:=fun h=>YoK (f:=fo) hxm h
   have hyes:fo os[k]=true→(os.take (k+1)).all fo=true:=fun h=>by rw [Yab hkl,List.all_append,hal];simp [h]
   have hx16:=hox _ hxm;have hfx:fo os[k]=((decide (3≤os[k].1)&&decide (os[k].1 < 3+(p.cls.length:Int)))&&(decide (os[k].2.length=(slotsOf p.cls os[k].1.toNat).length)&&os[k].2.all (YgF · os.length))):=by rw [← hfo];rfl
   have how:=how os[k].1;have hv:=Yk7 os[k].2 (os.length:Int);by_cases h1:3≤os[k].1∧os[k].1 < 3+(p.cls.length:Int);rotate_left
   ·have h2:(decide (3≤os[k].1)&&decide (os[k].1 < 3+(p.cls.length:Int)))=false:=by
     rw [Bool.eq_false_iff];intro h;simp at h;exact h1 h
    rw [h2] at how hfx;rw [hno (by rw [hfx,Bool.false_and])];refine goW ?_;refine TC.frzB 6 ?_;(refine TC.draw (id:=6) true 24 24 ?_<;>refine OD.st2 0 1 ?_<;>refine OD.st 2 ?_<;>refine OD.c1 3 how Tryz.func127 ?_<;>refine OD.st2 4 5 ?_<;>refine OD.of 6 ?_<;>refine OD.of 7 ?_<;>refine OD.of 8 ?_<;>refine OD.of 9 ?_<;>refine OD.of 10 ?_<;>refine OD.of 11 ?_<;>refine OD.of 12 ?_<;>refine OD.of 13 ?_<;>refine OD.of 14 ?_<;>refine OD.st2 15 16 ?_<;>refine OD.of 17 ?_<;>refine OD.of 18 ?_<;>refine OD.of 19 ?_<;>refine OD.of 20 ?_<;>refine OD.of 21 ?_<;>refine OD.of 22 ?_<;>refine OD.st 23 ?_<;>refine OD.dn ?_)
    refine TX.thenN ?_;refine goW ?_;exact TX.rt1 [] (.ren rfl)
   ·have h2:(decide (3≤os[k].1)&&decide (os[k].1 < 3+(p.cls.length:Int)))=true:=by simp [h1.1,h1.2]
    rw [h2] at how hfx;rw [Bool.true_and] at hfx;have hslt:=hslt os[k].1.toNat (by omega) (by omega);rw [show ((os[k].1.toNat:Nat):Int)=os[k].1 by omega] at hslt;have hb:=Ya3 hpl os[k].1.toNat;generalize slotsOf p.cls os[k].1.toNat=ss at *
    by_cases h3:os[k].2.length=ss.length;rotate_left
    ·rw [hno (by rw [hfx,decide_eq_false h3,Bool.false_and])];refine goW ?_;refine TC.frzB 6 ?_;(refine TC.draw (id:=6) true 24 24 ?_<;>refine OD.st2 0 1 ?_<;>refine OD.st 2 ?_<;>refine OD.c1 3 how Tryz.func127 ?_<;>refine OD.st4 4 5 6 7 ?_<;>refine OD.st4 8 9 10 11 ?_<;>refine OD.c1 12 hslt Tryz.func126 ?_<;>refine OD.st4 13 14 15 16 ?_<;>refine OD.sD 32 ?_ ?_<;>(intro hc;try (exfalso;omega))<;>(first|(refine OD.st 17 ?_)|(refine OD.of 17 ?_))<;>refine OD.of 18 ?_<;>refine OD.of 19 ?_<;>refine OD.of 20 ?_<;>refine OD.of 21 ?_<;>refine OD.of 22 ?_<;>refine OD.st 23 ?_<;>refine OD.dn ?_)
     refine TX.thenN ?_;refine goW ?_;exact TX.rt1 [] (.ren rfl)
    ·rw [decide_eq_true h3,Bool.true_and] at hfx
     cases ho:os[k].2.all (YgF · os.length) with
     | false =>
       rw [ho] at hv hfx;rw [hno hfx];refine goW ?_;refine TC.frzB 6 ?_;(refine TC.draw (id:=6) true 24 24 ?_<;>refine OD.st2 0 1 ?_<;>refine OD.st 2 ?_<;>refine OD.c1 3 how Tryz.func127 ?_<;>refine OD.st4 4 5 6 7 ?_<;>refine OD.st4 8 9 10 11 ?_<;>refine OD.c1 12 hslt Tryz.func126 ?_<;>refine OD.st4 13 14 15 16 ?_<;>refine OD.sD 32 ?_ ?_<;>(intro hc;try (exfalso;omega))<;>(first|(refine OD.st 17 ?_)|(refine OD.of 17 ?_))<;>refine OD.st2 18 19 ?_<;>refine OD.st 20 ?_<;>refine OD.c1 21 hv Tryz.func128 ?_<;>refine OD.st2 22 23 ?_<;>refine OD.dn ?_)
       refine TX.thenN ?_;refine goW ?_;exact TX.rt1 [] (.ren rfl)
     | true =>
       rw [ho] at hv hfx;have hyes:=hyes hfx;refine goW ?_;refine TC.frzB 6 ?_;(refine TC.draw (id:=6) true 24 24 ?_<;>refine OD.st2 0 1 ?_<;>refine OD.st 2 ?_<;>refine OD.c1 3 how Tryz.func127 ?_<;>refine OD.st4 4 5 6 7 ?_<;>refine OD.st4 8 9 10 11 ?_<;>refine OD.c1 12 hslt Tryz.func126 ?_<;>refine OD.st4 13 14 15 16 ?_<;>refine OD.sD 32 ?_ ?_<;>(intro hc;try (exfalso;omega))<;>(first|(refine OD.st 17 ?_)|(refine OD.of 17 ?_))<;>refine OD.st2 18 19 ?_<;>refine OD.st 20 ?_<;>refine OD.c1 21 hv Tryz.func128 ?_<;>refine OD.st2 22 23 ?_<;>refine OD.dn ?_)
       refine TX.thenN ?_;refine goW ?_;exact TX.rd (k+1) [0] ⟨by omega,hyes⟩ (by omega)
end
theorem Ysb {p:Prg} {os:List Ob} (ho:Ygy p.cls os=true):∀ x∈os,obW p x:=fun x hx=>by
 simp only [Ygy,Bool.and_eq_true,decide_eq_true_eq] at ho;have:=List.all_eq_true.1 ho.2 x hx
 simp only [obB,Bool.and_eq_true,decide_eq_true_eq] at this;exact ⟨x.1.toNat,by omega,by omega,by omega,this.2.1⟩
section
variable (p:Prg) (hs:Ya9 p.cls) (hpk:∀ x∈p.nodes,x.2.2.length*8≤140737488355328)
include hs hpk
theorem Yf8 (os:List Ob) (hol:os.length*32≤140737488355328) (hox:∀ x∈os,x.2.length*16≤140737488355328):V.Spec Tryz.prog 33 [Ya0 p,Yef os] [] (V.bool (Ybk p&&Ygy p.cls os)) []:=by
 have h0:=Yd5 p hs hpk
 cases hp:Ybk p with
 | false =>
   rw [hp] at h0;refine Se Tryz.func33 rfl rfl rfl fun B hB=>?_;repeat' (first|(with_reducible refine TC.seq ?_)|(with_reducible refine TC.region ?_))
   with_reducible refine OL.box ?_
   refine OL.frzB 2 ?_;refine goW ?_;refine OL.c h0 Tryz.func42 ?_;refine goW ?_;exact TX.rt1 [] (.bool rfl)
 | true =>
   rw [hp] at h0;rw [Bool.true_and];have hcb:=YaC hp;have h1:=Yb1 p hs (by have:=(YbO hcb).1;omega);have h2:=Yk6 p hcb os hol hox;refine Se Tryz.func33 rfl rfl rfl fun B hB=>?_;repeat' (first|(with_reducible refine TC.seq ?_)|(with_reducible refine TC.region ?_))
   with_reducible refine OL.box ?_
   refine OL.frzB 2 ?_;refine goW ?_;refine OL.c h0 Tryz.func42 ?_;refine goW ?_;refine OL.c h1 Tryz.func92 ?_;refine goW ?_;refine OL.c h2 Tryz.func91 ?_;refine goW ?_;exact TX.rt1 [] (.ren rfl)
end
end Go.Proofs
