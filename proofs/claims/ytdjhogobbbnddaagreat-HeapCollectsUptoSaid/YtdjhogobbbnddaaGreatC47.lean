/- Lemmas for the claim; no conditions. -/
import Derived.Test.YtdjhogobbbnddaaGreatC23
import Derived.Test.YtdjhogobbbnddaaGreatC19
import Derived.Test.YtdjhogobbbnddaaGreatC18
import Derived.Test.YtdjhogobbbnddaaGreatC30
namespace Go.Proofs
open Go Go.W Go.V
set_option maxHeartbeats 8000000 in
theorem Yl4 (g:List (List Int)) (ow:List Int) (us:List Nat) (hgb:g.length≤1000000):∀ m:Nat,m≤12→Yik g ow us m:=by
 intro m;induction m with
 | zero =>
   intro _ f left h0 h24;have e:okF g.length ow.length left ((0:Nat):Int) f=false:=by
    rw [Bool.eq_false_iff];intro h;rw [okF,Bool.and_eq_true,Bool.and_eq_true,decide_eq_true_eq,decide_eq_true_eq] at h;have:=YnX f
    omega
   rw [e];simp only [Yc8,cond_false];rw [Ydm];refine Se Tryz.func238 rfl rfl rfl fun B hB=>?_;by_cases hl:1≤left
   ·refine goW ?_;(refine Zal (id:=2) true 27 27 ?_<;>refine Zaf 0 1 2 3 ?_<;>refine OD.st 4 ?_<;>refine Zaw 18 ?_ ?_<;>(intro hc;try (exfalso;omega))<;>(first|(refine OD.st 5 ?_)|(refine OD.of 5 ?_))<;>refine Zae 6 7 ?_<;>refine OD.st 8 ?_<;>refine OD.of 9 ?_<;>refine OD.of 10 ?_<;>refine OD.of 11 ?_<;>refine Zae 12 13 ?_<;>refine OD.of 14 ?_<;>refine OD.of 15 ?_<;>refine OD.of 16 ?_<;>refine Zae 17 18 ?_<;>refine OD.of 19 ?_<;>refine OD.of 20 ?_<;>refine OD.of 21 ?_<;>refine OD.of 22 ?_<;>refine OD.of 23 ?_<;>refine OD.of 24 ?_<;>refine OD.of 25 ?_<;>refine OD.st 26 ?_<;>refine Zaa ?_)
    all_goals refine goW ?_
    all_goals exact Zad [0] (.ren rfl) (ho:=⟨⟨_,rfl,OE.junk1⟩,trivial⟩)
   ·refine goW ?_;(refine Zal (id:=2) true 27 27 ?_<;>refine Zaf 0 1 2 3 ?_<;>refine OD.st 4 ?_<;>refine Zaw 18 ?_ ?_<;>(intro hc;try (exfalso;omega))<;>(first|(refine OD.st 5 ?_)|(refine OD.of 5 ?_))<;>refine OD.of 6 ?_<;>refine Zae 7 8 ?_<;>refine OD.of 9 ?_<;>refine OD.of 10 ?_<;>refine OD.of 11 ?_<;>refine Zae 12 13 ?_<;>refine OD.of 14 ?_<;>refine OD.of 15 ?_<;>refine OD.of 16 ?_<;>refine Zae 17 18 ?_<;>refine OD.of 19 ?_<;>refine OD.of 20 ?_<;>refine OD.of 21 ?_<;>refine OD.of 22 ?_<;>refine OD.of 23 ?_<;>refine OD.of 24 ?_<;>refine OD.of 25 ?_<;>refine OD.st 26 ?_<;>refine Zaa ?_)
    all_goals refine goW ?_
    all_goals exact Zad [0] (.ren rfl) (ho:=⟨⟨_,rfl,OE.junk1⟩,trivial⟩)
 | succ m ih =>
   intro hm f left h0 h24;have hdd:(((m+1:Nat):Int))-1=(m:Int):=by omega
   have H:Yik g ow us (((m+1:Nat):Int)-1):=by rw [hdd];exact ih (by omega)
   have heq:=YuY g.length ow.length left ((m+1:Nat):Int) f;have hnf:=Yfj f;have hkn:=YlZ f.op;have hlf:=YmK f;have hpa:=Yl7 g ow us f.path;have hcl:=Ykc g ow us hgb f.cls;have hall:=fun T (h1:1≤left)=>YmG (us:=us) (deep:=((m+1:Nat):Int)) (by omega) (by omega) H T f.kids (left-1) (by omega) (by omega)
   generalize hD:(((m+1:Nat):Int))=D at *
   have hD0:1≤D:=by omega
   have hD12:D≤12:=by omega
   rw [Ydm] at hlf ⊢;obtain ⟨op,arg,path,cls,fn,l⟩:=f;rw [Yl2] at heq;simp only [Fct.op,Fct.arg,Fct.path,Fct.cls,Fct.n,Fct.kids] at *
   by_cases hr2:(1≤left∧1≤op∧op≤7)∧l.length=Yeh op;rotate_left
   ·have e:okF g.length ow.length left D (Fct.mk op arg path cls fn l)=false:=by
     rw [heq,Bool.eq_false_iff];intro h;simp only [Bool.and_eq_true,decide_eq_true_eq] at h;omega
    rw [e];simp only [Yc8,cond_false];by_cases hr3:1≤left∧1≤op∧op≤7
    ·have hlk:¬ l.length=Yeh op:=fun h=>hr2 ⟨hr3,h⟩
     obtain ⟨h1,h2,h3⟩:=hr3;generalize Yeh op=kn at *
     refine Se Tryz.func238 rfl rfl rfl fun B hB=>?_;refine goW ?_;(refine Zal (id:=2) true 27 27 ?_<;>refine Zaf 0 1 2 3 ?_<;>refine OD.st 4 ?_<;>refine Zaw 18 ?_ ?_<;>(intro hc;try (exfalso;omega))<;>(first|(refine OD.st 5 ?_)|(refine OD.of 5 ?_))<;>refine Zae 6 7 ?_<;>refine OD.st 8 ?_<;>refine Zaw 22 ?_ ?_<;>(intro hc;try (exfalso;omega))<;>(first|(refine OD.st 9 ?_)|(refine OD.of 9 ?_))<;>refine Zaf 10 11 12 13 ?_<;>refine Zaw 27 ?_ ?_<;>(intro hc;try (exfalso;omega))<;>(first|(refine OD.st 14 ?_)|(refine OD.of 14 ?_))<;>refine Zaf 15 16 17 18 ?_<;>refine Zaw 32 ?_ ?_<;>(intro hc;try (exfalso;omega))<;>(first|(refine OD.st 19 ?_)|(refine OD.of 19 ?_))<;>refine Zaf 20 21 22 23 ?_<;>refine Zah 24 hkn Tryz.func251 ?_<;>refine Zae 25 26 ?_<;>refine Zaa ?_)
     all_goals refine goW ?_
     all_goals exact Zad [0] (.ren rfl) (ho:=⟨⟨_,rfl,OE.junk1⟩,trivial⟩)
    ·refine Se Tryz.func238 rfl rfl rfl fun B hB=>?_;refine goW ?_;(refine Zal (id:=2) true 27 27 ?_<;>refine Zaf 0 1 2 3 ?_<;>refine OD.st 4 ?_<;>refine Zaw 18 ?_ ?_<;>(intro hc;try (exfalso;omega))<;>(first|(refine OD.st 5 ?_)|(refine OD.of 5 ?_))<;>(first|refine OD.st 6 ?_|refine OD.of 6 ?_)<;>refine Zae 7 8 ?_<;>(first|refine OD.of 9 ?_|refine Zaw 22 ?_ ?_<;>(intro hc;try (exfalso;omega))<;>(first|(refine OD.st 9 ?_)|(refine OD.of 9 ?_)))<;>(first|refine OD.st 10 ?_|refine OD.of 10 ?_)<;>(first|refine OD.st 11 ?_|refine OD.of 11 ?_)<;>refine Zae 12 13 ?_<;>(first|refine OD.of 14 ?_|refine Zaw 27 ?_ ?_<;>(intro hc;try (exfalso;omega))<;>(first|(refine OD.st 14 ?_)|(refine OD.of 14 ?_)))<;>(first|refine OD.st 15 ?_|refine OD.of 15 ?_)<;>(first|refine OD.st 16 ?_|refine OD.of 16 ?_)<;>refine Zae 17 18 ?_<;>(first|refine OD.of 19 ?_|refine Zaw 32 ?_ ?_<;>(intro hc;try (exfalso;omega))<;>(first|(refine OD.st 19 ?_)|(refine OD.of 19 ?_)))<;>refine OD.of 20 ?_<;>refine OD.of 21 ?_<;>refine OD.of 22 ?_<;>refine OD.of 23 ?_<;>refine OD.of 24 ?_<;>refine OD.of 25 ?_<;>refine OD.st 26 ?_<;>refine Zaa ?_)
     all_goals refine goW ?_
     all_goals exact Zad [0] (.ren rfl) (ho:=⟨⟨_,rfl,OE.junk1⟩,trivial⟩)
   obtain ⟨⟨h1,h2,h3⟩,hlk⟩:=hr2;have hh:(decide (1≤op)&&decide (op≤7)&&decide (l.length=Yeh op))=true:=by simp only [Bool.and_eq_true,decide_eq_true_eq];omega
   have hh2:(decide (1≤left)&&decide (1≤D))=true:=by simp only [Bool.and_eq_true,decide_eq_true_eq];omega
   rw [hh,hh2,Bool.true_and,Bool.and_true] at heq
   cases hlb:YcE op
   ·rw [hlb] at heq hlf;simp only [Bool.false_eq_true,if_false] at heq;generalize Yeh op=kn at *
    by_cases hz:(arg=0∧path.length=0)∧cls=0∧fn=0;rotate_left
    ·have e:okF g.length ow.length left D (Fct.mk op arg path cls fn l)=false:=by
      rw [heq,Bool.eq_false_iff];intro h;simp only [Bool.and_eq_true,decide_eq_true_eq] at h;exact hz h.1
     rw [e];simp only [Yc8,cond_false];refine Se Tryz.func238 rfl rfl rfl fun B hB=>?_;refine goW ?_;(refine Zal (id:=2) true 27 27 ?_<;>refine Zaf 0 1 2 3 ?_<;>refine OD.st 4 ?_<;>refine Zaw 18 ?_ ?_<;>(intro hc;try (exfalso;omega))<;>(first|(refine OD.st 5 ?_)|(refine OD.of 5 ?_))<;>refine Zae 6 7 ?_<;>refine OD.st 8 ?_<;>refine Zaw 22 ?_ ?_<;>(intro hc;try (exfalso;omega))<;>(first|(refine OD.st 9 ?_)|(refine OD.of 9 ?_))<;>refine Zaf 10 11 12 13 ?_<;>refine Zaw 27 ?_ ?_<;>(intro hc;try (exfalso;omega))<;>(first|(refine OD.st 14 ?_)|(refine OD.of 14 ?_))<;>refine Zaf 15 16 17 18 ?_<;>refine Zaw 32 ?_ ?_<;>(intro hc;try (exfalso;omega))<;>(first|(refine OD.st 19 ?_)|(refine OD.of 19 ?_))<;>refine Zaf 20 21 22 23 ?_<;>refine Zah 24 hkn Tryz.func251 ?_<;>refine Zae 25 26 ?_<;>refine Zaa ?_)
     all_goals refine goW ?_
     all_goals refine OL.c hlf Tryz.func252 ?_
     all_goals repeat' (with_reducible first|refine OL.st ?_|refine TC.region ?_|refine TC.seq ?_|refine OL.nil ?_|refine Zap ?_|refine ZaY ?_|refine ZaB ?_|refine ZaD ?_|refine Zay ?_ ?_<;>(intro hc;try (exfalso;omega))|refine Zaz ?_ ?_<;>(intro hc;try (exfalso;omega))|refine TC.ret ?_|refine ZaE ?_|refine ZaK ?_|fail)
     all_goals exact Zad [0] (.ren rfl) (ho:=⟨⟨_,rfl,OE.junk1⟩,trivial⟩)
    have hh3:((decide (arg=0)&&decide (path.length=0))&&(decide (cls=0)&&decide (fn=0)))=true:=by simp only [Bool.and_eq_true,decide_eq_true_eq];exact hz
    rw [hh3,Bool.true_and] at heq;obtain ⟨⟨z1,z2⟩,z3,z4⟩:=hz;have hall:=fun T=>hall T h1
    rw [← heq] at hall;have hln:left-1-(nodesL l:Int)=left-(nodesF (Fct.mk op arg path cls fn l):Int):=by omega
    rw [hln] at hall;generalize left-(nodesF (Fct.mk op arg path cls fn l):Int)=ln at *
    cases hb:okF g.length ow.length left D (Fct.mk op arg path cls fn l)<;>rw [hb] at hall<;>simp only [Yc8,cond_false,cond_true] at hall ⊢
    all_goals
     refine Se Tryz.func238 rfl rfl rfl fun B hB=>?_;refine goW ?_;(refine Zal (id:=2) true 27 27 ?_<;>refine Zaf 0 1 2 3 ?_<;>refine OD.st 4 ?_<;>refine Zaw 18 ?_ ?_<;>(intro hc;try (exfalso;omega))<;>(first|(refine OD.st 5 ?_)|(refine OD.of 5 ?_))<;>refine Zae 6 7 ?_<;>refine OD.st 8 ?_<;>refine Zaw 22 ?_ ?_<;>(intro hc;try (exfalso;omega))<;>(first|(refine OD.st 9 ?_)|(refine OD.of 9 ?_))<;>refine Zaf 10 11 12 13 ?_<;>refine Zaw 27 ?_ ?_<;>(intro hc;try (exfalso;omega))<;>(first|(refine OD.st 14 ?_)|(refine OD.of 14 ?_))<;>refine Zaf 15 16 17 18 ?_<;>refine Zaw 32 ?_ ?_<;>(intro hc;try (exfalso;omega))<;>(first|(refine OD.st 19 ?_)|(refine OD.of 19 ?_))<;>refine Zaf 20 21 22 23 ?_<;>refine Zah 24 hkn Tryz.func251 ?_<;>refine Zae 25 26 ?_<;>refine Zaa ?_)
     all_goals refine goW ?_
     all_goals refine OL.c hlf Tryz.func252 ?_
     all_goals refine goW ?_
     all_goals refine ZbN 1 ?_
     all_goals refine ZbN 4 ?_
     all_goals refine Zaj [0,3] (hall _) Tryz.func236 ?_
     all_goals refine goW ?_
     all_goals exact Zad [0] (.ren rfl)
   ·rw [hlb,if_pos rfl] at heq;rw [hlb] at hlf;have hk0:Yeh op=0:=by
     simp [YcE] at hlb;rw [Yeh,if_neg (by omega),if_neg (by omega)]
    have hl0:l=[]:=List.eq_nil_of_length_eq_zero (by omega);subst hl0;rw [YgL _ _ _ _ (by omega) (by omega),Bool.and_true] at heq;have hn1:nodesF (Fct.mk op arg path cls fn [])=1:=by rw [hnf,nodesL]
    rw [hn1];rw [hk0] at hkn;clear hall hnf;by_cases harg:0≤arg∧arg < 3;rotate_left
    ·have e:okF g.length ow.length left D (Fct.mk op arg path cls fn [])=false:=by
      rw [heq,Bool.eq_false_iff];intro h;simp only [Bool.and_eq_true,decide_eq_true_eq] at h;exact harg h.1.1
     rw [e];simp only [Yc8,cond_false];refine Se Tryz.func238 rfl rfl rfl fun B hB=>?_;refine goW ?_;(refine Zal (id:=2) true 27 27 ?_<;>refine Zaf 0 1 2 3 ?_<;>refine OD.st 4 ?_<;>refine Zaw 18 ?_ ?_<;>(intro hc;try (exfalso;omega))<;>(first|(refine OD.st 5 ?_)|(refine OD.of 5 ?_))<;>refine Zae 6 7 ?_<;>refine OD.st 8 ?_<;>refine Zaw 22 ?_ ?_<;>(intro hc;try (exfalso;omega))<;>(first|(refine OD.st 9 ?_)|(refine OD.of 9 ?_))<;>refine Zaf 10 11 12 13 ?_<;>refine Zaw 27 ?_ ?_<;>(intro hc;try (exfalso;omega))<;>(first|(refine OD.st 14 ?_)|(refine OD.of 14 ?_))<;>refine Zaf 15 16 17 18 ?_<;>refine Zaw 32 ?_ ?_<;>(intro hc;try (exfalso;omega))<;>(first|(refine OD.st 19 ?_)|(refine OD.of 19 ?_))<;>refine Zaf 20 21 22 23 ?_<;>refine Zah 24 hkn Tryz.func251 ?_<;>refine Zae 25 26 ?_<;>refine Zaa ?_)
     all_goals refine goW ?_
     all_goals refine OL.c hlf Tryz.func252 ?_
     all_goals (refine YnB ?_ ?_<;>intro hc<;>refine goW ?_)
     all_goals exact Zad [0] (.ren rfl) (ho:=⟨⟨_,rfl,OE.junk1⟩,trivial⟩)
    have e1:(decide (0≤arg)&&decide (arg < 3))=true:=by simp only [Bool.and_eq_true,decide_eq_true_eq];exact harg
    rw [e1,Bool.true_and] at heq
    cases hpb:Yig ow.length path
    ·rw [hpb] at hpa heq;rw [Bool.false_and] at heq;rw [heq];simp only [Yc8,cond_false];refine Se Tryz.func238 rfl rfl rfl fun B hB=>?_;refine goW ?_;(refine Zal (id:=2) true 27 27 ?_<;>refine Zaf 0 1 2 3 ?_<;>refine OD.st 4 ?_<;>refine Zaw 18 ?_ ?_<;>(intro hc;try (exfalso;omega))<;>(first|(refine OD.st 5 ?_)|(refine OD.of 5 ?_))<;>refine Zae 6 7 ?_<;>refine OD.st 8 ?_<;>refine Zaw 22 ?_ ?_<;>(intro hc;try (exfalso;omega))<;>(first|(refine OD.st 9 ?_)|(refine OD.of 9 ?_))<;>refine Zaf 10 11 12 13 ?_<;>refine Zaw 27 ?_ ?_<;>(intro hc;try (exfalso;omega))<;>(first|(refine OD.st 14 ?_)|(refine OD.of 14 ?_))<;>refine Zaf 15 16 17 18 ?_<;>refine Zaw 32 ?_ ?_<;>(intro hc;try (exfalso;omega))<;>(first|(refine OD.st 19 ?_)|(refine OD.of 19 ?_))<;>refine Zaf 20 21 22 23 ?_<;>refine Zah 24 hkn Tryz.func251 ?_<;>refine Zae 25 26 ?_<;>refine Zaa ?_)
     all_goals refine goW ?_
     all_goals refine OL.c hlf Tryz.func252 ?_
     all_goals refine goW ?_
     all_goals refine OL.c hpa Tryz.func253 ?_
     all_goals refine goW ?_
     all_goals exact Zad [0] (.ren rfl) (ho:=⟨⟨_,rfl,OE.junk1⟩,trivial⟩)
    rw [hpb] at hpa heq;rw [Bool.true_and] at heq;rw [heq];by_cases hop2:op=2
    ·rw [if_pos hop2];generalize (decide (0≤cls)&&decide (cls < 3+(g.length:Int)))=cb at *
     refine Se Tryz.func238 rfl rfl rfl fun B hB=>?_;refine goW ?_;(refine Zal (id:=2) true 27 27 ?_<;>refine Zaf 0 1 2 3 ?_<;>refine OD.st 4 ?_<;>refine Zaw 18 ?_ ?_<;>(intro hc;try (exfalso;omega))<;>(first|(refine OD.st 5 ?_)|(refine OD.of 5 ?_))<;>refine Zae 6 7 ?_<;>refine OD.st 8 ?_<;>refine Zaw 22 ?_ ?_<;>(intro hc;try (exfalso;omega))<;>(first|(refine OD.st 9 ?_)|(refine OD.of 9 ?_))<;>refine Zaf 10 11 12 13 ?_<;>refine Zaw 27 ?_ ?_<;>(intro hc;try (exfalso;omega))<;>(first|(refine OD.st 14 ?_)|(refine OD.of 14 ?_))<;>refine Zaf 15 16 17 18 ?_<;>refine Zaw 32 ?_ ?_<;>(intro hc;try (exfalso;omega))<;>(first|(refine OD.st 19 ?_)|(refine OD.of 19 ?_))<;>refine Zaf 20 21 22 23 ?_<;>refine Zah 24 hkn Tryz.func251 ?_<;>refine Zae 25 26 ?_<;>refine Zaa ?_)
     all_goals refine goW ?_
     all_goals refine OL.c hlf Tryz.func252 ?_
     all_goals refine goW ?_
     all_goals refine OL.c hpa Tryz.func253 ?_
     all_goals repeat' (with_reducible first|refine OL.st ?_|refine TC.region ?_|refine TC.seq ?_|refine OL.nil ?_|refine Zap ?_|refine Za9 ?_|refine ZaB ?_|refine ZaD ?_|refine Zay ?_ ?_<;>(intro hc;try (exfalso;omega))|refine Zaz ?_ ?_<;>(intro hc;try (exfalso;omega))|refine TC.ret ?_|refine ZaE ?_|refine ZaK ?_|fail)
     ·refine OL.c hcl Tryz.func254 ?_;refine goW ?_;refine Zad [0] (.bool ?_) (ho:=⟨⟨_,rfl,OE.left (fun _=>rfl)⟩,trivial⟩);simp [*]
     all_goals refine Zad [0] (.bool ?_) (ho:=⟨⟨_,rfl,OE.left (fun _=>rfl)⟩,trivial⟩)
     all_goals simp [*]
    ·rw [if_neg hop2];refine Se Tryz.func238 rfl rfl rfl fun B hB=>?_;refine goW ?_;(refine Zal (id:=2) true 27 27 ?_<;>refine Zaf 0 1 2 3 ?_<;>refine OD.st 4 ?_<;>refine Zaw 18 ?_ ?_<;>(intro hc;try (exfalso;omega))<;>(first|(refine OD.st 5 ?_)|(refine OD.of 5 ?_))<;>refine Zae 6 7 ?_<;>refine OD.st 8 ?_<;>refine Zaw 22 ?_ ?_<;>(intro hc;try (exfalso;omega))<;>(first|(refine OD.st 9 ?_)|(refine OD.of 9 ?_))<;>refine Zaf 10 11 12 13 ?_<;>refine Zaw 27 ?_ ?_<;>(intro hc;try (exfalso;omega))<;>(first|(refine OD.st 14 ?_)|(refine OD.of 14 ?_))<;>refine Zaf 15 16 17 18 ?_<;>refine Zaw 32 ?_ ?_<;>(intro hc;try (exfalso;omega))<;>(first|(refine OD.st 19 ?_)|(refine OD.of 19 ?_))<;>refine Zaf 20 21 22 23 ?_<;>refine Zah 24 hkn Tryz.func251 ?_<;>refine Zae 25 26 ?_<;>refine Zaa ?_)
     all_goals refine goW ?_
     all_goals refine OL.c hlf Tryz.func252 ?_
     all_goals refine goW ?_
     all_goals refine OL.c hpa Tryz.func253 ?_
     all_goals repeat' (with_reducible first|refine OL.st ?_|refine TC.region ?_|refine TC.seq ?_|refine OL.nil ?_|refine Zap ?_|refine Za9 ?_|refine ZaB ?_|refine ZaD ?_|refine Zay ?_ ?_<;>(intro hc;try (exfalso;omega))|refine Zaz ?_ ?_<;>(intro hc;try (exfalso;omega))|refine TC.ret ?_|refine ZaE ?_|refine ZaK ?_|fail)
     all_goals refine Zad [0] (.bool ?_) (ho:=⟨⟨_,rfl,OE.left (fun _=>rfl)⟩,trivial⟩)
     all_goals simp [YaE, *]
end Go.Proofs
