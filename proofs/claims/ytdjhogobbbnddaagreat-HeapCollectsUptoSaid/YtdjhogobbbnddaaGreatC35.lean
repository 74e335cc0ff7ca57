/- Lemmas for the claim; no conditions. -/
import Derived.Test.YtdjhogobbbnddaaGreatC19
import Derived.Test.YtdjhogobbbnddaaGreatC18
import Derived.Test.YtdjhogobbbnddaaGreatC49
import Derived.Test.YtdjhogobbbnddaaGreatC50
import Derived.Test.YtdjhogobbbnddaaGreatC34
import Derived.Test.YtdjhogobbbnddaaGreatC33
import Derived.Test.YtdjhogobbbnddaaGreatC29
import Derived.Test.YtdjhogobbbnddaaGreatC23
import Derived.Test.YtdjhogobbbnddaaGreatC20
import Derived.Test.YtdjhogobbbnddaaGreatC28
import Derived.Test.YtdjhogobbbnddaaGreatC21
namespace Go.Proofs
open Go Go.W Go.V
theorem YjT (l:List Cls) {o:Int} (ho:o∈ownF 0 l):3≤o∧o < 3+((graphOf l).length:Int):=by
 obtain ⟨i,hi,rfl⟩:=List.getElem_of_mem ho;obtain ⟨k,hk,_,_,h⟩:=Ydp l 0 i (by rw [← YbL l 0];exact hi);rw [Yai hi] at h;have:(graphOf l).length=l.length:=by simp [graphOf]
 omega
theorem Yhb {p:Prg}:(Ybs p).isSome=true↔(Yag p=true∧Yed p=true)∧∃ o1 o2,Yb4 p (List.replicate p.nodes.length (-1)) p.mths=some o1∧YcA p false o1 (YbY p p.main 0)=some o2∧o2.contains (-1)=false:=by
 unfold Ybs
 cases hc:Yag p
 ·simp
 cases hl:Yed p
 ·simp
 simp only [Bool.and_self,if_true,true_and]
 cases h1:Yb4 p (List.replicate p.nodes.length (-1)) p.mths with
 | none=>simp
 | some o1 =>
   simp only [Option.bind_some]
   cases h2:YcA p false o1 (YbY p p.main 0) with
   | none=>simp [h2]
   | some o2 =>
     cases h3:o2.contains (-1)
     all_goals simp [Option.filter, *]
abbrev Yx3 (o:Option (List Int)):List AO:=[.cb 23 [.hs 1],.gs true 3 1 none ((o.getD []).map V.int)]
set_option maxHeartbeats 8000000 in
theorem YkF (p:Prg) (hs:Ya9 p.cls) (hpk:∀ x∈p.nodes,x.2.2.length*8≤140737488355328) :
  Ybu Tryz.prog 161 [.ep (YbB p) 0,.bp 0 0] [.cb 23 [.raw (.slice none 0 0)]] (.tp []) (Yx3 (Ybs p)) ((Ybs p).isSome=true) upv [.cb 23 [.junk]]:=by
 have hiff:=@Yhb p;have hgl:(graphOf p.cls).length=p.cls.length:=by simp [graphOf]
 refine Ybu.enter Tryz.tabOK Tryz.mixed Tryz.func161 rfl rfl rfl fun B hB=>?_;by_cases hcl:Yag p=true;rotate_left
 ·refine goW ?_;refine Zar [] ((Yem p hs).no hcl) Tryz.func162 ?_;repeat' (first|refine Zam ?_|refine Zak ?_)
  exact TX.no (fun h=>hcl (hiff.1 h).1.1) (Zas [0] (ho:=⟨⟨_,rfl,OE.junk1⟩,trivial⟩))
 refine goW ?_;refine OL.c ((Yem p hs).yes hcl) Tryz.func162 ?_;by_cases hlen:(p.gens.length≤8∧p.mths.length≤16)∧1≤p.nodes.length∧p.nodes.length≤120;rotate_left
 ·have hno:¬ (Ybs p).isSome=true:=fun h=>by
   have:=(hiff.1 h).1.2
   simp only [Yed,Bool.and_eq_true,decide_eq_true_eq] at this;omega
  repeat' (with_reducible first|refine OL.st ?_|refine TC.region ?_|refine TC.seq ?_|refine OL.nil ?_|refine Zap ?_|refine ZaB ?_|refine ZaD ?_|refine Zaz ?_ ?_<;>(intro hc;try (exfalso;omega))|fail)
  all_goals first|refine Zbk ?_|refine Zbv (p:=(p.nodes.length:Int)≤120) (fun h=>absurd hlen (by omega)) (fun _=>?_)
  all_goals repeat' (first|refine Zam ?_|refine Zak ?_)
  all_goals exact TX.no hno (Zas [0] (ho:=⟨⟨_,rfl,OE.junk1⟩,trivial⟩))
 obtain ⟨⟨hg8,hm16⟩,hn1,hn120⟩:=hlen;refine goW ?_;refine Zbv (p:=(p.nodes.length:Int)≤120) (fun _=>?_) (fun h=>absurd hn120 (by omega));refine goW ?_;refine Zat (fun k:Nat=>[(0,.ep (YbB p) 0),(1,.bp 0 0),(34,ints p.gens),(35,V.int p.gens.length),(36,V.int k)]) (fun _=>[.cb 23 [.raw (.slice none 0 0)]]) (fun k=>k≤p.gens.length∧∀ i (h:i < p.gens.length),i < k→1≤p.gens[i]∧p.gens[i]≤3) (fun k=>p.gens.length-k) 0 [0] ⟨Nat.zero_le _,fun i _ h=>by omega⟩ ?_;rintro k ⟨hk,hall⟩;by_cases hkl:k < p.gens.length
 ·by_cases hg:1≤p.gens[k]∧p.gens[k]≤3
  ·obtain ⟨hg1,hg3⟩:=hg;refine goW ?_;refine Zbv (p:=p.gens[k]≤3) (fun _=>?_) (fun h=>absurd hg3 h);refine goW ?_;refine Zan (k+1) [0] ⟨by omega,fun i h hi=>?_⟩ (by omega);by_cases hik:i=k
   ·subst hik;exact ⟨hg1,hg3⟩
   ·exact hall i h (by omega)
  ·have hno:¬ (Ybs p).isSome=true:=fun h=>by
    have:=YgP (hiff.1 h).1.2 hkl
    exact hg this
   repeat' (with_reducible first|refine OL.st ?_|refine TC.region ?_|refine TC.seq ?_|refine OL.nil ?_|refine Zap ?_|refine TC.block ?_|refine TC.skip ?_|refine ZaB ?_|refine ZaD ?_|refine Zay ?_ ?_<;>(intro hc;try (exfalso;omega))|refine Zaz ?_ ?_<;>(intro hc;try (exfalso;omega))|fail)
   all_goals first|refine Zbk ?_|refine Zbv (p:=p.gens[k]≤3) (fun h=>absurd hg (by omega)) (fun _=>?_)
   all_goals repeat' (first|refine Zam ?_|refine Zak ?_)
   all_goals exact TX.no hno (Zas [0] (ho:=⟨⟨_,rfl,OE.junk1⟩,trivial⟩))
 have hlB:Yed p=true:=by
  simp only [Yed,Bool.and_eq_true,decide_eq_true_eq,List.all_eq_true];refine ⟨⟨⟨hg8,hm16⟩,hn1,hn120⟩,fun n hn=>?_⟩;obtain ⟨i,hi,rfl⟩:=List.getElem_of_mem hn;exact hall i hi (by omega)
 have hcB:=hcl;simp only [Yag,Bool.and_eq_true,decide_eq_true_eq] at hcB;obtain ⟨⟨hc10,hclB⟩,⟨_,hfine⟩,_⟩:=hcB;have hsl4:=Ydu hclB;have hrp:=Yrd p.nodes.length hn1 (by omega);have hwo:=Ylx p hs (by omega);have hl0:(List.replicate p.nodes.length (-1:Int)).length=p.nodes.length:=by simp
 have hsz:Ybs p=((Yb4 p (List.replicate p.nodes.length (-1)) p.mths).bind fun o=>YcA p false o (YbY p p.main 0)).filter fun o=>!o.contains (-1):=by rw [Ybs,hcl,hlB];rfl
 obtain ⟨rep,hrep⟩:∃ rep,rep=List.replicate p.nodes.length (-1:Int):=⟨_,rfl⟩;rw [← hrep] at hrp hl0 hsz hiff;refine goW ?_;refine Zbs 0 ?_;refine OL.c hrp Tryz.func164 ?_;refine goW ?_;refine OL.c hwo Tryz.func169 ?_;refine goW ?_;refine Za6 5 ?_;refine Zat (fun q:Nat × List Int=>[(0,.ep (YbB p) 0),(1,.bp 0 0),(4,.fn (.func 165) [] [.ep (YbB p) 0,.bp 0 0]),(5,.ep (fwC (graphOf p.cls) (ownF 0 p.cls)) 0),(57,YpH p.mths),(58,V.int p.mths.length),(59,V.int q.1)]) (fun q=>YtU (some q.2)) (fun q=>q.1≤p.mths.length∧q.2.length=p.nodes.length∧Yb4 p rep (p.mths.take q.1)=some q.2) (fun q=>p.mths.length-q.1) (0,rep) [0,2] ⟨Nat.zero_le _,hl0,by simp [Yb4]⟩ ?_;rintro ⟨k,o⟩ ⟨hk,hol,hrun⟩;dsimp only at hk hol hrun ⊢;by_cases hkl:k < p.mths.length
 ·obtain ⟨m,hm⟩:∃ m,m=p.mths[k]:=⟨_,rfl⟩;have hbad:Yjh p o m=none→¬ (Ybs p).isSome=true:=fun h hh=>by
   rw [hsz,YmX hkl hrun (by rw [← hm];exact h)] at hh;simp at hh
  have hfo:=Yjq (graphOf p.cls) (ownF 0 p.cls) hfine (fun o ho=>YjT p.cls ho) (by rw [YbL];omega) m.fact;rw [hgl,YbL] at hfo;by_cases hkg:(1≤m.kind∧m.kind≤4)∧0≤m.gen∧m.gen < p.gens.length;rotate_left
  ·have hno:=hbad (by rw [Yjh,if_neg];simp only [Bool.and_eq_true,decide_eq_true_eq];exact hkg);refine goW ?_;rw [YeH,← hm];repeat' (with_reducible first|refine OL.st ?_|refine OL.alloc ?_|refine Zau ?_|refine TC.region ?_|refine TC.seq ?_|refine OL.nil ?_|refine Zap ?_|refine ZaB ?_|refine ZaD ?_|refine Zaz ?_ ?_<;>(intro hc;try (exfalso;omega))|fail)
   all_goals first|refine Zbk ?_|refine Zbv (p:=m.gen < (p.gens.length:Int)) (fun h=>absurd hkg (by omega)) (fun _=>?_)
   all_goals repeat' (first|refine Zam ?_|refine Zak ?_)
   all_goals exact TX.no hno (Zas [0] (ho:=⟨⟨_,rfl,OE.junk1⟩,trivial⟩))
  obtain ⟨⟨hk1,hk4⟩,hg0,hgn⟩:=hkg;have hgg:p.gens.getD m.gen.toNat 0=p.gens[m.gen.toNat]'(by omega):=Yai (by omega);have hgp:=YgP hlB (k:=m.gen.toNat) (by omega);have hmb:Yjh p o m=if okF p.cls.length (slN p.cls) 24 12 m.fact&&decide (Ybf m.fact≤p.gens[m.gen.toNat]'(by omega)) then YcA p (YqG m.kind) o (YbY p m.node (p.gens[m.gen.toNat]'(by omega))) else none:=by
   rw [Yjh,if_pos,hgg];simp only [Bool.and_eq_true,decide_eq_true_eq];omega
  refine goW ?_;rw [YeH,← hm];refine goW ?_;refine Zbv (p:=m.gen < (p.gens.length:Int)) (fun _=>?_) (fun h=>absurd hgn h);refine goW ?_
  cases hok:okF p.cls.length (slN p.cls) 24 12 m.fact
  ·rw [hok] at hfo hmb;have hno:=hbad (by rw [hmb];rfl);simp only [Bool.false_eq_true,if_false] at hfo;(refine Zal (id:=14) true 17 18 ?_<;>refine Zae 0 1 ?_<;>refine OD.st 2 ?_ (h:=gvM)<;>refine Zah 3 hfo Tryz.func170 ?_<;>refine Zae 4 5 ?_<;>refine OD.of 6 ?_<;>refine OD.of 7 ?_<;>refine OD.of 9 ?_<;>refine OD.of 10 ?_<;>refine OD.of 11 ?_<;>refine OD.of 12 ?_<;>refine OD.of 13 ?_<;>refine OD.of 14 ?_<;>refine OD.of 8 ?_<;>refine OD.of 15 ?_<;>refine OD.st 16 ?_)<;>((refine Zac 17 ?_);refine Zbk ?_<;>refine Zav ?_<;>(repeat' (first|refine Zam ?_|refine Zak ?_))<;>exact TX.no hno (Zas [0] (ho:=⟨⟨_,rfl,OE.junk1⟩,trivial⟩)))<;>(refine Zaa ?_)
  have hsp:=YjA p.cls.length (slN p.cls) 24 m.fact (by have:=(YdU.1 hok).1.1;omega) (YdU.1 hok).2;rw [hok] at hfo;simp only [if_true] at hfo;rw [hok,Bool.true_and] at hmb;by_cases hspk:Ybf m.fact≤p.gens[m.gen.toNat]'(by omega);rotate_left
  ·have hno:=hbad (by rw [hmb,if_neg (by simpa using hspk)]);have hd0:decide (Ybf m.fact≤p.gens[m.gen.toNat]'(by omega))=false:=decide_eq_false hspk;(refine Zal (id:=14) true 17 18 ?_<;>refine Zae 0 1 ?_<;>refine OD.st 2 ?_ (h:=gvM)<;>refine Zah 3 hfo Tryz.func170 ?_<;>refine Zae 4 5 ?_<;>refine OD.st 6 ?_<;>refine OD.st 7 ?_ (h:=gvM)<;>refine Zaf 9 10 11 12 ?_<;>refine Zae 13 14 ?_<;>refine Zah 8 hsp Tryz.func171 ?_<;>refine Zae 15 16 ?_)<;>((refine Zac 17 ?_);rw [hd0]<;>refine Zbk ?_<;>refine Zav ?_<;>(repeat' (first|refine Zam ?_|refine Zak ?_))<;>exact TX.no hno (Zas [0] (ho:=⟨⟨_,rfl,OE.junk1⟩,trivial⟩)))<;>(refine Zaa ?_)
  rw [if_pos (by simpa using hspk)] at hmb;have hd1:decide (Ybf m.fact≤p.gens[m.gen.toNat]'(by omega))=true:=decide_eq_true hspk;have hv:=Yg4 p hpk (by omega) m.node (p.gens[m.gen.toNat]'(by omega)) (by omega) (by omega) (YqG m.kind) o hol;rw [← hmb] at hv;(refine Zal (id:=14) true 17 18 ?_<;>refine Zae 0 1 ?_<;>refine OD.st 2 ?_ (h:=gvM)<;>refine Zah 3 hfo Tryz.func170 ?_<;>refine Zae 4 5 ?_<;>refine OD.st 6 ?_<;>refine OD.st 7 ?_ (h:=gvM)<;>refine Zaf 9 10 11 12 ?_<;>refine Zae 13 14 ?_<;>refine Zah 8 hsp Tryz.func171 ?_<;>refine Zae 15 16 ?_)<;>((refine Zac 17 ?_);rw [hd1]<;>refine ZbY ?_<;>refine OL.nil (Zab ?_))<;>(refine Zaa ?_)
  all_goals refine goW ?_
  all_goals cases hq:Yjh p o m with
   | none =>
     have hno:=hbad hq;have hvx:=hv.no (by rw [hq];decide);(refine Zal (id:=15) true 17 18 ?_<;>refine Zaf 0 1 2 3 ?_<;>refine Zaf 4 5 6 7 ?_<;>refine Zaf 8 9 10 11 ?_<;>refine OD.st 12 ?_<;>refine Zaw 115 ?_ ?_<;>(intro hc;try (exfalso;omega))<;>(first|(refine OD.st 13 ?_)|(refine OD.of 13 ?_)))<;>(first|(refine OD.st 14 ?_)|(refine OD.of 14 ?_))<;>(first|(refine OD.st 15 ?_)|(refine OD.of 15 ?_))<;>(refine OD.st 16 ?_)<;>((refine Zac 17 ?_);refine ZcC [0,1] hvx Tryz.func165 ?_ (hle:=by with_unfolding_all exact ⟨.ren rfl,.ren rfl,LE.bool (by simp [YqG,hc]),.ren rfl,.ren rfl,trivial⟩)<;>refine Zav ?_<;>(repeat' (first|refine Zam ?_|refine Zak ?_))<;>exact TX.no hno (Zas [0]))<;>(refine Zaa ?_)
   | some o2 =>
     have hlo2:=Yjc hq;have hvy:=hv.yes (by rw [hq];rfl);rw [hq] at hvy;have hsn:Yb4 p rep (p.mths.take (k+1))=some o2:=by rw [Yab hkl,YfX,hrun,Option.bind_some,← hm];exact hq
     (refine Zal (id:=15) true 17 18 ?_<;>refine Zaf 0 1 2 3 ?_<;>refine Zaf 4 5 6 7 ?_<;>refine Zaf 8 9 10 11 ?_<;>refine OD.st 12 ?_<;>refine Zaw 115 ?_ ?_<;>(intro hc;try (exfalso;omega))<;>(first|(refine OD.st 13 ?_)|(refine OD.of 13 ?_)))<;>(first|(refine OD.st 14 ?_)|(refine OD.of 14 ?_))<;>(first|(refine OD.st 15 ?_)|(refine OD.of 15 ?_))<;>(refine OD.st 16 ?_)<;>((refine Zac 17 ?_);refine Zbg [0,1] hvy Tryz.func165 ?_ (hle:=by with_unfolding_all exact ⟨.ren rfl,.ren rfl,LE.bool (by simp [YqG,hc]),.ren rfl,.ren rfl,trivial⟩)<;>refine OL.nil (Zab ?_))<;>(refine Zaa ?_)
     all_goals refine goW ?_
     all_goals exact Zan (k+1,o2) [0,1] ⟨by dsimp only;omega,by dsimp only;omega,hsn⟩ (by dsimp only;omega)
 rw [Yaf (by omega)] at hrun;rw [hrun,Option.bind_some] at hsz;have hol2:=Ykl hrun;have hv:=Yg4 p hpk (by omega) p.main 0 (by omega) (by omega) false o hol;refine goW ?_
 cases hq:YcA p false o (YbY p p.main 0) with
 | none =>
   have hno:¬ (Ybs p).isSome=true:=by rw [hsz,hq];simp
   refine ZcC [0,1] (hv.no (by rw [hq];decide)) Tryz.func165 ?_;repeat' (first|refine Zam ?_|refine Zak ?_)
   exact TX.no hno (Zas [0])
 | some o2 =>
   rw [hq] at hsz;have hct:=Yav o2 (-1);have hvy:=hv.yes (by rw [hq];rfl);rw [hq] at hvy;refine Zbg [0,1] hvy Tryz.func165 ?_;refine goW ?_;refine Zbs 0 ?_;refine OL.c hct Tryz.func172 ?_
   cases hcn:o2.contains (-1)
   ·have hs2:Ybs p=some o2:=by rw [hsz,Option.filter,if_pos (by rw [hcn];rfl)]
    rw [hs2];refine goW ?_;refine ZbY ?_;refine goW ?_;exact TX.yes rfl (Za1 [0,1])
   ·have hno:¬ (Ybs p).isSome=true:=by rw [hsz,Option.filter,if_neg (by rw [hcn];decide)];decide
    refine goW ?_;refine Zbk ?_;repeat' (first|refine Zam ?_|refine Zak ?_)
    exact TX.no hno (Zas [0] (ho:=⟨⟨_,rfl,OE.junk1⟩,trivial⟩))
def Yc4 (p:Prg) (c:Int):Bool:=decide (3≤c)&&(decide (c < 3+(p.cls.length:Int))&&Ybk p)
theorem YaC {p:Prg} (h:Ybk p=true):Yag p=true:=(Yhb.1 h).1.1
section
variable (p:Prg) (hs:Ya9 p.cls) (hpk:∀ x∈p.nodes,x.2.2.length*8≤140737488355328)
include hs hpk
theorem Ygx {o:List Int} (h:Ybs p=some o):V.Spec Tryz.prog 140 [Ya0 p] [] (.tp [ints o,V.bool true]) []:=by
 have h1:=(YkF p hs hpk).yes (by rw [h];rfl);rw [h] at h1;have h2:=YnF Tryz.func161 rfl h1;refine Se Tryz.func140 rfl rfl rfl fun B hB=>?_;repeat' (first|(with_reducible refine TC.seq ?_)|(with_reducible refine TC.region ?_))
 with_reducible refine OL.box ?_
 refine Zag 1 ?_;refine goW ?_;refine Zaj [1] h2 Tryz.func160 ?_;refine goW ?_;refine Zbo (ZbA (t:=2) (by with_unfolding_all exact rfl) (by with_unfolding_all exact rfl)) ?_;exact ZaA [] (.ren rfl) (.ren rfl)
theorem YhG (h:Ybs p=none):V.Spec Tryz.prog 140 [Ya0 p] [] (.tp [.junk,V.bool false]) []:=by
 have h1:=(YkF p hs hpk).no (by rw [h];decide);have h2:=YoS Tryz.func161 rfl h1;refine Se Tryz.func140 rfl rfl rfl fun B hB=>?_;repeat' (first|(with_reducible refine TC.seq ?_)|(with_reducible refine TC.region ?_))
 with_reducible refine OL.box ?_
 refine Zag 1 ?_;refine goW ?_;refine Zaj [1] h2 Tryz.func160 ?_;refine goW ?_;exact ZaA [] (.ren rfl) (.ren rfl)
theorem YcT:V.Spec Tryz.prog 113 [Ya0 p] [] (V.int (if Ybk p then 0 else 2)) []:=by
 unfold Ybk
 cases h:Ybs p with
 | none =>
   have h1:=YhG p hs hpk h;refine Se Tryz.func113 rfl rfl rfl fun B hB=>?_;refine goW ?_;refine OL.c h1 Tryz.func140 ?_;refine goW ?_;exact Zad [] (.ren rfl)
 | some o =>
   have h1:=Ygx p hs hpk h;refine Se Tryz.func113 rfl rfl rfl fun B hB=>?_;refine goW ?_;refine OL.c h1 Tryz.func140 ?_;refine goW ?_;exact Zad [] (.ren rfl)
theorem YfI (c:Int):V.Spec Tryz.prog 141 [Ya0 p,V.int c] [] (V.bool (Yc4 p c)) []:=by
 unfold Yc4;have h1:=YcT p hs hpk;have hb:=hs.1;by_cases hc3:3≤c
 ·by_cases hcl:c < 3+(p.cls.length:Int)
  ·rw [decide_eq_true hc3,decide_eq_true hcl,Bool.true_and,Bool.true_and];refine Se Tryz.func141 rfl rfl rfl fun B hB=>?_;refine goW ?_;refine OL.c h1 Tryz.func113 ?_
   cases Ybk p
   ·refine goW ?_;exact Zad [] (.ren rfl)
   ·refine goW ?_;exact Zad [] (.ren rfl)
  ·rw [decide_eq_false hcl,Bool.false_and,Bool.and_false];refine Se Tryz.func141 rfl rfl rfl fun B hB=>?_;refine goW ?_;all_goals exact Zad [] (.ren rfl)
 ·rw [decide_eq_false hc3,Bool.false_and];refine Se Tryz.func141 rfl rfl rfl fun B hB=>?_;refine goW ?_;all_goals exact Zad [] (.ren rfl)
theorem Yco (c:Int) (h:Yc4 p c=true):V.Spec Tryz.prog 114 [Ya0 p,V.int c] [] (.tp [ints (YfE p.cls c),V.int 0]) []:=by
 have h1:=YfI p hs hpk c;rw [h] at h1;simp only [Yc4,Bool.and_eq_true,decide_eq_true_eq] at h;have hcB:=YaC h.2.2;simp only [Yag,Bool.and_eq_true,decide_eq_true_eq] at hcB;have h2:=YfJ p hcB.2.1.2 hcB.1.2 (c:=c.toNat) (by omega) (by omega);rw [show ((c.toNat:Nat):Int)=c by omega] at h2;refine Se Tryz.func114 rfl rfl rfl fun B hB=>?_;refine goW ?_;refine OL.c h1 Tryz.func141 ?_;refine goW ?_;refine OL.c h2 Tryz.func142 ?_;refine goW ?_;exact ZaA [] (.ren rfl) (.ren rfl)
theorem Yi2 (c:Int) (h:Yc4 p c=false):V.Spec Tryz.prog 114 [Ya0 p,V.int c] [] (.tp [.raw (.slice none 0 0),V.int 2]) []:=by
 have h1:=YfI p hs hpk c;rw [h] at h1;refine Se Tryz.func114 rfl rfl rfl fun B hB=>?_;refine goW ?_;refine OL.c h1 Tryz.func141 ?_;refine goW ?_;exact ZaA [] (.ren rfl) (.ren rfl)
end
theorem Yta (es:List (Int × AV)) (s:Int) (b:Option Int) (h:afind s es=b.map V.int) (te:Value) (hte:te=.int .i64 0) :
  (b.isSome=true∧afind s es=some (V.int (b.getD 0)))∨(b.isSome=false∧afind s es=none∧∀ m w γ,Rep m w γ te (V.int (b.getD 0))):=by
 subst hte
 cases b with
 | some n=>exact .inl ⟨rfl,h⟩
 | none=>exact .inr ⟨rfl,h,fun _ _ _=>.raw rfl⟩
section
variable (p:Prg) (hs:Ya9 p.cls) (hpk:∀ x∈p.nodes,x.2.2.length*8≤140737488355328)
include hs hpk
set_option maxHeartbeats 4000000 in
theorem Ykm {c:Nat} (h:Yc4 p c=true):V.Spec Tryz.prog 177 [Ya0 p,V.int c] [] (.tp [Yde (Yqm p.cls c),V.int 0]) []:=by
 have h1:=YfI p hs hpk c;rw [h] at h1;simp only [Yc4,Bool.and_eq_true,decide_eq_true_eq] at h;have hcB0:=YaC h.2.2;have hcB:=hcB0;simp only [Yag,Bool.and_eq_true,decide_eq_true_eq] at hcB;have hf:=hcB.2.1.2;have h10:=hcB.1.1;have h2:=YfJ p hf hcB.1.2 (c:=c) (by omega) (by omega);rw [Ya4 hcB0] at h2;have hgr:=YdN p hs;have hlk:=Yiw (graphOf p.cls) c;have hgl:(graphOf p.cls).length=p.cls.length:=by simp [graphOf]
 have hokc:okc (graphOf p.cls) c=true:=by simp [okc,hf];omega
 obtain ⟨hord,_⟩:=Ygs hcB0 (k:=c-3) (by omega);rw [show ((3+(c-3):Nat):Int)=(c:Int) by omega] at hord;have hlt:=Yvh hf (c:=c) (by omega) (by omega);have hnd:∀ x∈p.cls,(x.2.2.map (·.1)).Nodup:=fun x hx=>by
  obtain ⟨k,hk,rfl⟩:=List.mem_iff_getElem.1 hx;exact (Ygs hcB0 hk).2
 rw [Yq5,if_pos hokc,if_neg (by omega),linL,if_pos hokc] at hlk;have hfind:=fun s=>Yip p.cls hnd s (at_ (orders (graphOf p.cls)) c)
 have hol:(at_ (orders (graphOf p.cls)) (c:Int)).length≤1000000000:=by
  have h16:=YaP hf;have hsm:=(Yb2 hf).1.small (by have:=(Yb2 hf).2;omega);rcases Ynp (ords:=orders (graphOf p.cls)) (p:=(c:Int)) with e|e
  ·rw [e];simp
  ·exact Nat.le_trans (hsm _ e) (by omega)
 have hsl:(slotsOf p.cls c).length≤40*16:=Nat.le_trans (Ydq p.cls c 40) (Nat.mul_le_mul_left _ (by omega));rw [Yqm];generalize at_ (orders (graphOf p.cls)) (c:Int)=o at *
 generalize slotsOf p.cls c=ss at *
 have hbk:=YfM o hol;have hal:=fun k (hk:k < p.cls.length)=>(hs.2 p.cls[k] (List.getElem_mem _)).2.2
 refine ZdR Tryz.tabOK Tryz.mixed Tryz.func177 rfl rfl rfl fun B hB=>?_;refine goW ?_;refine Zag 2 ?_;refine OL.c h1 Tryz.func141 ?_;refine goW ?_;refine OL.c hgr Tryz.func187 ?_;refine goW ?_;refine OL.c hlk Tryz.func189 ?_;refine goW ?_;refine OL.c hbk Tryz.func199 ?_;refine goW ?_;refine Zdd (fun i:Nat=>V.int (i:Int)) (fun i:Nat=>V.int (o.getD i 0)) [(1,V.int c),(2,.ep (YbB p) 0),(8,.bp 1 0)] (fun pre=>[.mo (YrK p.cls (o.drop (o.length-pre.length))),.cb (110) [.mp 0]]) 2 [1,2] rfl rfl rfl (fun _=>rfl) rfl rfl ?_ ?_ ?_ (Nat.zero_le _) (by simp) rfl rfl rfl (fun pre x Bx hBx l hx=>?_) (fun B3 hB3 D hM=>?_)
 ·rw [List.length_nil,Nat.sub_zero,List.drop_length];with_unfolding_all exact ⟨⟨_,rfl,OE.ren rfl⟩,⟨_,rfl,OE.ren rfl⟩,trivial⟩
 ·with_unfolding_all exact ⟨⟨_,rfl,LE.ren rfl⟩,⟨_,rfl,LE.ren rfl⟩,⟨_,rfl,LE.ren rfl⟩,trivial⟩
 ·with_unfolding_all exact ⟨⟨_,rfl,LE.ren rfl⟩,⟨_,rfl,LE.ren rfl⟩,⟨_,rfl,LE.ren rfl⟩,trivial⟩
 ·have hxn:=YsE hx;have hxo:x < o.length:=by omega
  have e1:o.length-(pre++[x]).length=x:=by simp;omega
  have e2:o.length-pre.length=x+1:=by omega
  have hgd:o.getD x 0=o[x]:=Yai hxo;have hdc:YrK p.cls (o.drop x)=insC p.cls (YrK p.cls (o.drop (x+1))) o[x]:=by rw [Yac hxo,Ykx]
  have hox:=hlt o[x] (List.getElem_mem _);dsimp only;rw [e1,e2,hgd,hdc];generalize YrK p.cls (o.drop (x+1))=M at *
  generalize hoe:o[x]=y at *
  rw [insC];by_cases hy:y < 3
  ·rw [if_pos hy];refine YaF ?_;exact Zc2 [0,1] (by with_unfolding_all exact ⟨⟨_,rfl,OE.ren rfl⟩,⟨_,rfl,OE.ren rfl⟩,trivial⟩)
  ·rw [if_neg hy];have hyl:(y-3).toNat < p.cls.length:=by omega
   rw [clsAt,Yai hyl];have hal1:=hal _ hyl;generalize hie:(p.cls[(y-3).toNat]'hyl).2.2=is at *
   refine YaF ?_;simp only [hie];refine Zat (fun j:Nat=>[(1,V.int c),(2,.ep (YbB p) 0),(8,.bp 1 0),(45,Yde is),(46,V.int is.length),(47,V.int j)]) (fun j=>[.mo (YpT M (is.take j)),.cb (110) [.mp 0]]) (fun j=>j≤is.length) (fun j=>is.length-j) 0 [0,1] (Nat.zero_le _) ?_;rintro j hj;by_cases hjl:j < is.length
   ·have hin:YpT M (is.take (j+1))=aput is[j].1 (V.int is[j].2) (YpT M (is.take j)):=by rw [Yab hjl,YoQ]
    generalize YpT M (is.take j)=Mj at *
    refine YaF ?_;refine Zct ?_;rw [← hin];refine YaF ?_;exact Zan (j+1) [0,1] (by omega) (by omega)
   ·rw [Yaf (by omega)];refine YaF ?_;exact Zc2 [0,1] (by with_unfolding_all exact ⟨⟨_,rfl,OE.ren rfl⟩,⟨_,rfl,OE.ren rfl⟩,trivial⟩)
 ·dsimp only;rw [List.length_reverse,List.length_range,Nat.sub_self,List.drop_zero];generalize YrK p.cls o=M at *
  refine YaF ?_;refine OL.c h2 Tryz.func142 ?_;refine YaF ?_;refine ZaT 13 151 2 ?_;refine Zat (fun j:Nat=>[(8,.bp 1 0),(13,.hs 2),(59,ints ss),(60,V.int ss.length),(61,V.int j)]) (fun j=>[.mo M,.cb (110) [.mp 0],.gs false 151 2 none ((begO p.cls o (ss.take j)).map YhF)]) (fun j=>j≤ss.length) (fun j=>ss.length-j) 0 [0,1,2] (Nat.zero_le _) ?_;rintro j hj;by_cases hjl:j < ss.length
  ·have hv:=Yta M ss[j] (YbI p.cls o ss[j]) (hfind _) (.int .i64 0) rfl;have hbs:=Yo6 p.cls o (ss.take j) ss[j];rw [← Yab hjl] at hbs;have hbl:=YqJ p.cls o (ss.take j);have htl:(ss.take j).length≤1000:=by simp;omega
   generalize hb0:begO p.cls o (ss.take j)=bj at *
   generalize hb1:begO p.cls o (ss.take (j+1))=bj1 at *
   cases hb:YbI p.cls o ss[j] with
   | none =>
     rw [hb] at hv hbs;rw [List.append_nil] at hbs;refine YaF ?_;refine OL.st ?_ (h:=YrA hv);refine YaF ?_;exact Zan (j+1) [0,1,2] (by omega) (by omega) (ho:=⟨⟨_,rfl,OE.ren rfl⟩,⟨_,rfl,OE.ren rfl⟩,⟨_,rfl,OE.gsS (by rw [hb1,hbs])⟩,trivial⟩)
   | some n =>
     rw [hb] at hv hbs;have e:bj.map YhF++[YhF (ss[j],n)]=bj1.map YhF:=by rw [hbs,List.map_append];rfl
     refine YaF ?_;refine OL.st ?_ (h:=YrA hv);refine YaF ?_;exact Zan (j+1) [0,1,4] (by omega) (by omega) (ho:=⟨⟨_,rfl,OE.ren rfl⟩,⟨_,rfl,OE.ren rfl⟩,⟨_,rfl,OE.gsS (by rw [hb1,← e];rfl)⟩,trivial⟩)
  ·rw [Yaf (by omega)];refine YaF ?_;refine Zbs 0 ?_;refine OL.c (YnS _) Tryz.func200 ?_;refine YaF ?_;exact ZdS hM hB [] (.ren rfl) (.ren rfl)
end
def slM (l:List Cls) (n:Nat):List (Int × AV):=(List.range n).map fun i=>(((3+i:Nat):Int),ints (slotsOf l (3+i)))
def frM (l:List Cls) (n:Nat):List (Int × AV):=(List.range n).map fun i=>(((3+i:Nat):Int),obA (YlH l ((3+i:Nat):Int)))
theorem YdT (f:Nat→AV) (c:Nat):∀ n,afind ((c:Nat):Int) ((List.range n).map fun i=>(((3+i:Nat):Int),f i))=if 3≤c∧c < 3+n then some (f (c-3)) else none
 | 0=>by simp [afind]
 | n+1=>by
   rw [List.range_succ,List.map_append,YfA,YdT f c n];by_cases h:3≤c∧c < 3+n
   ·rw [if_pos h,if_pos ⟨h.1,by omega⟩];rfl
   ·rw [if_neg h];by_cases e:c=3+n
    ·subst e;rw [if_pos ⟨by omega,by omega⟩];simp [afind]
    ·rw [if_neg (by omega)];have:((c:Int)==((3+n:Nat):Int))=false:=by simpa using (by omega:¬ (c:Int)=3+(n:Int))
     simp only [List.map_cons,List.map_nil,afind];rw [this];rfl
theorem Yne (l:List Cls) (n:Nat):slM l n++[(((3+n:Nat):Int),ints (slotsOf l (3+n)))]=slM l (n+1):=by rw [slM,slM,List.range_succ,List.map_append];rfl
theorem Yrn (l:List Cls) (n:Nat):frM l n++[(((3+n:Nat):Int),obA (YlH l ((3+n:Nat):Int)))]=frM l (n+1):=by rw [frM,frM,List.range_succ,List.map_append];rfl
theorem Yoy (l:List Cls) (n:Nat):afind ((3+n:Nat):Int) (slM l n)=none:=by rw [slM,YdT,if_neg (by omega)]
theorem Yto (l:List Cls) (n:Nat):afind ((3+n:Nat):Int) (frM l n)=none:=by rw [frM,YdT,if_neg (by omega)]
theorem Yp0 (l:List Cls) {n c:Nat} (h3:3≤c) (hc:c < 3+n):afind (c:Int) (slM l n)=some (ints (slotsOf l c)):=by
 rw [slM,YdT,if_pos ⟨h3,hc⟩];congr 3;omega
theorem Yt2 (l:List Cls) {n c:Nat} (h3:3≤c) (hc:c < 3+n):afind (c:Int) (frM l n)=some (obA (YlH l c)):=by
 rw [frM,YdT,if_pos ⟨h3,hc⟩];congr 3;omega
abbrev knC (p:Prg) (i j:Nat):List AV:=[Yei p.cls,V.int p.slots,ints p.gens,YpH p.mths,Yvx p.nodes,V.int p.main,.mp i,.mp j]
abbrev knO (p:Prg) (n:Nat):Eta:=[.cb 216 (knC p 1 2),.mo (slM p.cls n),.mo (frM p.cls n)]
theorem Yks (x:Int × Int) (s:Int):V.Spec Tryz.prog 179 [YhF x,.ep [V.int s] 0] [] (V.bool (x.1==s)) []:=by
 refine Se Tryz.func179 rfl rfl rfl fun B hB=>?_;refine goW ?_;refine Zad [] (.bool ?_);rw [Bool.eq_iff_iff];simp
theorem YgQ (l:List Cls) (c:Nat):(YlH l (c:Int)).2=(slotsOf l c).map (Yao l c):=by rw [YlH,Int.toNat_natCast,YlT]
section
variable (p:Prg) (hs:Ya9 p.cls) (hpk:∀ x∈p.nodes,x.2.2.length*8≤140737488355328)
include hs hpk
set_option maxHeartbeats 8000000 in
theorem Ykv (h:Ybk p=true):V.Spec Tryz.prog 149 [Ya0 p] [] (.bp 0 0) (knO p p.cls.length):=by
 have hcB0:=YaC h;have hcB:=hcB0;simp only [Yag,Bool.and_eq_true,decide_eq_true_eq] at hcB;have h10:=hcB.1.1;have hbd:=hs.1;have hown:∀ k,k < p.cls.length→Yc4 p ((3+k:Nat):Int)=true:=fun k hk=>by
  simp only [Yc4,Bool.and_eq_true,decide_eq_true_eq];exact ⟨by omega,by omega,h⟩
 have hHas:=fun k (hk:k < p.cls.length)=>Yco p hs hpk ((3+k:Nat):Int) (hown k hk)
 have hBeg:=fun k (hk:k < p.cls.length)=>Ykm p hs hpk (hown k hk)
 refine Se Tryz.func149 rfl rfl rfl fun B hB=>?_;refine goW ?_;refine Zat (fun k:Nat=>[(1,.bp 0 0),(3,.bp 3 0),(19,Yei p.cls),(20,V.int p.cls.length),(21,V.int k)]) (fun k=>[.cb 27 (YbB p),.mo (slM p.cls k),.mo (frM p.cls k),.cb 216 (knC p 1 2)]) (fun k=>k≤p.cls.length) (fun k=>p.cls.length-k) 0 [0,1,2,3] (Nat.zero_le _) ?_;rintro k hk;by_cases hkl:k < p.cls.length
 ·have hh:=hHas k hkl;have hbg:=hBeg k hkl;rw [Ya4 hcB0] at hh;have hnS:=Yoy p.cls k;have hnF:=Yto p.cls k;have hS:=Yne p.cls k;have hF:=Yrn p.cls k;have hvS:afind ((3+k:Nat):Int) (slM p.cls (k+1))=some (ints (slotsOf p.cls (3+k))):=Yp0 p.cls (by omega) (by omega);have hbl:=fun s (h:s∈slotsOf p.cls (3+k))=>Ytb p.cls (3+k) h
  have hno:=YgQ p.cls (3+k);have hif:=fun s=>Ybb (Yqm p.cls (3+k)) (fun x=>x.1==s)
  have hsl:(slotsOf p.cls (3+k)).length≤40*16:=Nat.le_trans (Ydq p.cls (3+k) 40) (Nat.mul_le_mul_left _ (by omega));have e3:((3+k:Nat):Int)=(k:Int)+3:=by omega
  have hob:obA (YlH p.cls ((3+k:Nat):Int))=.st [V.int ((k:Int)+3),Ych ((slotsOf p.cls (3+k)).map (Yao p.cls (3+k)))]:=by rw [obA,hno,← e3];rfl
  rw [hob] at hF;rw [e3] at hh hbg hnS hnF hS hF hvS;generalize slM p.cls k=S0 at *
  generalize frM p.cls k=F0 at *
  generalize hbe:Yqm p.cls (3+k)=be at *
  generalize slotsOf p.cls (3+k)=ss at *
  refine goW ?_;(refine Zal (id:=6) true 11 12 ?_<;>refine Zaf 0 1 2 3 ?_<;>refine Zae 4 5 ?_<;>refine OD.st 6 ?_<;>refine Zah 7 hh Tryz.func114 ?_<;>refine Zae 8 9 ?_<;>refine Zao 10 ?_<;>(refine Zac 11 ?_;refine Za8 ?_ hnS;refine OL.nil ?_;refine Zab ?_)<;>refine Zaa ?_)
  rw [hS];refine goW ?_;refine OL.c hbg Tryz.func177 ?_;refine goW ?_;refine OL.lookup ?_ (.inl hvS);refine goW ?_;refine ZbO 4 1 63 2 ?_;refine Zat (fun j:Nat=>[(1,.bp 0 0),(3,.bp 3 0),(5,V.int ((k:Int)+3)),(6,.bp 4 0),(7,Yde be),(19,Yei p.cls),(20,V.int p.cls.length),(21,V.int k),(50,ints ss),(51,V.int ss.length),(52,V.int j)]) (fun j=>[.cb 27 (YbB p),.mo (slM p.cls (k+1)),.mo F0,.cb 216 (knC p 1 2),.cb 89 [V.int ((k:Int)+3),.hs 5],.gs false 63 2 none (((ss.take j).map (Yao p.cls (3+k))).map Ycb)]) (fun j=>j≤ss.length) (fun j=>ss.length-j) 0 [0,1,2,3,4,5] (Nat.zero_le _) ?_;rintro j hj;by_cases hjl:j < ss.length
  ·have hlen:((ss.take j).map (Yao p.cls (3+k))).length≤1000:=by simp;omega
   have e:((ss.take j).map (Yao p.cls (3+k))).map Ycb++[Ycb (Yao p.cls (3+k) ss[j])]=((ss.take (j+1)).map (Yao p.cls (3+k))).map Ycb:=by rw [Yab hjl,List.map_append,List.map_append];rfl
   generalize (ss.take j).map (Yao p.cls (3+k))=gj at *
   have hb1:=hbl ss[j] (List.getElem_mem _);have hi1:=hif ss[j];rcases hb1 with ⟨f1,f2⟩|⟨i,hil,f1,f2⟩
   ·rw [f2] at e;generalize Yb3 (fun x:Int × Int=>x.1==ss[j]) 0 be=fi at *
    refine goW ?_;refine ZbN 6 ?_;refine OL.c hi1 Tryz.func178 ?_ (hle:=by exact ⟨.ren rfl,LE.fun_ (first':=[]) (caps':=[.ep [V.int ss[j]] 0]) Tryz.func179 rfl trivial ⟨.ren rfl,trivial⟩ (fun x hx=>Yks x ss[j]),trivial⟩);refine goW ?_;exact Zan (j+1) [0,1,2,3,4,9] (by omega) (by omega)
   ·rw [f2] at e;rw [f1] at hi1;refine goW ?_;refine ZbN 6 ?_;refine OL.c hi1 Tryz.func178 ?_ (hle:=by exact ⟨.ren rfl,LE.fun_ (first':=[]) (caps':=[.ep [V.int ss[j]] 0]) Tryz.func179 rfl trivial ⟨.ren rfl,trivial⟩ (fun x hx=>Yks x ss[j]),trivial⟩);refine goW ?_;exact Zan (j+1) [0,1,2,3,4,9] (by omega) (by omega)
  ·rw [Yaf (by omega)];refine goW ?_;refine Zbp 4 1 ?_;(refine Zal (id:=18) true 6 7 ?_<;>refine Zaf 0 1 2 3 ?_<;>refine Zae 4 5 ?_<;>(refine Zac 6 ?_;refine Za8 ?_ hnF;refine OL.nil ?_;refine Zab ?_)<;>refine Zaa ?_)
   refine goW ?_;exact Zan (k+1) [0,1,2,3] (by omega) (by omega) (ho:=⟨⟨_,rfl,OE.ren rfl⟩,⟨_,rfl,OE.ren rfl⟩,⟨_,rfl,OE.ren (by rw [← hF];rfl)⟩,⟨_,rfl,OE.ren rfl⟩,trivial⟩)
 ·obtain rfl:k=p.cls.length:=by omega
  refine goW ?_;exact Zad [3,1,2] (.ren rfl)
end
theorem Ya3 {l:List Cls} (h10:l.length≤10) (c:Nat):(slotsOf l c).length≤640:=by
 have:=Ydq l c 40
 show (YbV l c 40).length≤640;omega
theorem Yjn {l:List Cls} (h10:l.length≤10) (c:Nat):(YlH l (c:Int)).2.length≤640:=by
 rw [YgQ,List.length_map];exact Ya3 h10 c
theorem Ytn {α β:Type} (f g:α→β) (l:List α) {k:Nat} (hk:k < l.length) (y:β) (hy:y=f l[k]):((l.take k).map f++(l.drop k).map g).set k y=(l.take (k+1)).map f++(l.drop (k+1)).map g:=by
 subst hy;rw [Yac hk,List.map_cons,Yab hk,List.map_append,List.append_assoc,List.set_append_right _ _ (by simp;omega)];rw [show k-((l.take k).map f).length=0 by simp;omega];rfl
theorem YjY (p:Prg) (h10:p.cls.length≤10) {c:Nat} (h3:3≤c) (hc:c < 3+p.cls.length):V.Spec Tryz.prog 150 [.bp 0 0,V.int c] (knO p p.cls.length) (.st [V.int c,.hs 3]) (knO p p.cls.length++[.gs false 63 2 none ((YlH p.cls c).2.map Ycb)]):=by
 have hv:=Yt2 p.cls h3 hc;have hvl:=Yjn h10 c;have hva:=Ymb (YlH p.cls c).2 (by omega);have hn1:(YlH p.cls c).1=(c:Int):=rfl;rw [obA,hn1] at hv;generalize (YlH p.cls c).2=nv at *
 refine Se Tryz.func150 rfl rfl rfl fun B hB=>?_;refine goW ?_;refine OL.lookup ?_ (.inl hv);refine goW ?_;refine OL.c hva Tryz.func180 ?_;refine goW ?_;exact Zba [0,1,2,4] (.ren rfl)
theorem Ybq {p:Prg} (h:Ybk p=true):p.cls.length≤10:=by
 have:=YaC h
 simp only [Yag,Bool.and_eq_true,decide_eq_true_eq] at this;exact this.1.1
section
variable (p:Prg) (hs:Ya9 p.cls) (hpk:∀ x∈p.nodes,x.2.2.length*8≤140737488355328)
include hs hpk
theorem Yiy {c:Nat} (h:Yc4 p c=true):V.Spec Tryz.prog 130 [Ya0 p,V.int c] [] (.tp [obA (YlH p.cls c),V.int 0]) []:=by
 have hh:=Yco p hs hpk c h;simp only [Yc4,Bool.and_eq_true,decide_eq_true_eq] at h;have h10:=Ybq h.2.2;have hkn:=Ykv p hs hpk h.2.2;have hob:=YjY p h10 (c:=c) (by omega) (by omega);have hn1:(YlH p.cls c).1=(c:Int):=rfl;rw [obA,hn1];generalize (YlH p.cls c).2=nv at *
 refine Se Tryz.func130 rfl rfl rfl fun B hB=>?_;refine goW ?_;refine OL.c hh Tryz.func114 ?_;refine goW ?_;refine OL.c hkn Tryz.func149 ?_;refine goW ?_;refine Zaj [2,3,4] hob Tryz.func150 ?_;refine Zc8 20 1 ?_;refine goW ?_;exact Zd6 [] (.ren rfl) (.ren rfl)
set_option maxHeartbeats 4000000 in
theorem Ygr (objs:List Ob):V.Spec Tryz.prog 48 [Ya0 p,Yef objs] [] (V.int (if Ybk p&&Ygy p.cls objs then 0 else 2)) []:=by
 have h1:=YcT p hs hpk
 cases hpb:Ybk p
 ·rw [hpb] at h1;simp only [Bool.false_and,Bool.false_eq_true,if_false] at h1 ⊢;refine Se Tryz.func48 rfl rfl rfl fun B hB=>?_;refine goW ?_;refine OL.c h1 Tryz.func113 ?_;refine goW ?_;exact Zad [] (.ren rfl)
 rw [hpb] at h1;simp only [Bool.true_and,if_true] at h1 ⊢;have hcB:=YaC hpb;have h10:=Ybq hpb;by_cases h40:objs.length≤40
 ·have hob:Ygy p.cls objs=objs.all (obB p.cls objs.length):=by rw [Ygy,decide_eq_true h40,Bool.true_and]
  obtain ⟨P,hP⟩:∃ P,P=obB p.cls objs.length:=⟨_,rfl⟩;obtain ⟨res,hres⟩:∃ res,res=objs.all P:=⟨_,rfl⟩;rw [hob,← hP,← hres];refine Se Tryz.func48 rfl rfl rfl fun B hB=>?_;refine goW ?_;refine OL.c h1 Tryz.func113 ?_;refine goW ?_;refine Zat (fun k:Nat=>[(1,Yef objs),(2,.bp 0 0),(17,Yef objs),(18,V.int objs.length),(19,V.int k)]) (fun _=>[.cb 27 (YbB p)]) (fun k=>k≤objs.length∧res=(objs.drop k).all P) (fun k=>objs.length-k) 0 [0] ⟨Nat.zero_le _,hres⟩ ?_;rintro k ⟨hk,hinv⟩;by_cases hkl:k < objs.length
  ·rw [Yac hkl,List.all_cons] at hinv;have no:P objs[k]=false→res=false:=fun h=>by rw [hinv,h,Bool.false_and]
   have hP1:P objs[k]=((decide (3≤objs[k].1)&&decide (objs[k].1 < 3+(p.cls.length:Int)))&&(decide (objs[k].2.length=(slotsOf p.cls objs[k].1.toNat).length)&&objs[k].2.all (YgF · objs.length))):=by rw [hP,obB]
   cases how:Yc4 p objs[k].1
   ·have hh:=Yi2 p hs hpk objs[k].1 how;have:P objs[k]=false:=by
     rw [hP1];simp only [Yc4,hpb,Bool.and_true] at how;rw [how,Bool.false_and]
    rw [no this];refine goW ?_;refine OL.c hh Tryz.func114 ?_;refine goW ?_;exact Zad [] (.ren rfl)
   ·have hh:=Yco p hs hpk objs[k].1 how;simp only [Yc4,hpb,Bool.and_true] at how;rw [how,Bool.true_and] at hP1;have how2:3≤objs[k].1:=by
     simp only [Bool.and_eq_true,decide_eq_true_eq] at how;exact how.1
    have hcast:objs[k].1=((objs[k].1.toNat:Nat):Int):=by omega
    have hhs:YfE p.cls objs[k].1=slotsOf p.cls objs[k].1.toNat:=by
     have:=Ya4 hcB objs[k].1.toNat
     rwa [← hcast] at this
    rw [hhs] at hh;have hsl:=Ya3 h10 objs[k].1.toNat;generalize slotsOf p.cls objs[k].1.toNat=ss at *
    have hva:=YjH objs[k].2 objs.length;by_cases hlen:objs[k].2.length=ss.length
    ·rw [decide_eq_true hlen,Bool.true_and] at hP1;rw [← hP1] at hva
     cases hv:P objs[k]
     ·rw [hv] at hva;rw [no hv];refine goW ?_;refine OL.c hh Tryz.func114 ?_;refine goW ?_;refine OL.c hva Tryz.func115 ?_;refine goW ?_;exact Zad [] (.ren rfl)
     ·rw [hv] at hva;rw [hv,Bool.true_and] at hinv;refine goW ?_;refine OL.c hh Tryz.func114 ?_;refine goW ?_;refine OL.c hva Tryz.func115 ?_;refine goW ?_;exact Zan (k+1) [0] ⟨by omega,hinv⟩ (by omega)
    ·rw [decide_eq_false hlen,Bool.false_and] at hP1;rw [no hP1];refine goW ?_;refine OL.c hh Tryz.func114 ?_;refine goW ?_;exact Zad [] (.ren rfl)
  ·rw [Yat (by omega)] at hinv;rw [show res=true from hinv];refine goW ?_;exact Zad [] (.ren rfl)
 ·have hob:Ygy p.cls objs=false:=by rw [Ygy,decide_eq_false h40,Bool.false_and]
  rw [hob];refine Se Tryz.func48 rfl rfl rfl fun B hB=>?_;refine goW ?_;refine OL.c h1 Tryz.func113 ?_;refine goW ?_;exact Zad [] (.ren rfl)
end
def shp (l:List Cls) (c:Int):Option Nat:=if 3≤c∧c < 3+(l.length:Int) then some (slotsOf l c.toNat).length else none
theorem YcS {l:List Cls} {c:Int} {n:Nat} (h:shp l c=some n):∃ k:Nat,c=k∧3≤k∧k < 3+l.length∧n=(slotsOf l k).length:=by
 unfold shp at h;split at h
 ·rename_i hc
  exact ⟨c.toNat,by omega,by omega,by omega,(Option.some.inj h).symm⟩
 ·cases h
theorem Yrp {l:List Cls} {c:Int} (h:shp l c=none):¬ (3≤c∧c < 3+(l.length:Int)):=by
 unfold shp at h;split at h
 ·cases h
 ·assumption
theorem YjL {l:List Cls} {c:Int} (h:shp l c=none) (n:Nat) (hn:n≤l.length):afind c (slM l n)=none:=by
 have hc:=Yrp h;rw [slM];induction n with
 | zero=>rfl
 | succ n ih =>
   rw [List.range_succ,List.map_append];have key:∀ (a b:List (Int × AV)),afind c a=none→afind c b=none→afind c (a++b)=none:=by
    intro a;induction a with
    | nil=>intro b _ h;exact h
    | cons x a ih =>
      intro b h1 h2;obtain ⟨k,v⟩:=x;simp only [afind,List.cons_append] at h1 ⊢;split at h1
      ·cases h1
      ·rename_i hk;rw [if_neg hk];exact ih b h1 h2
   refine key _ _ (ih (by omega)) ?_;simp only [List.map_cons,List.map_nil,afind];rw [if_neg (by simp only [beq_iff_eq];omega)]
theorem YcG {w:Int}:w.tmod 2=0↔w % 2=0:=by rw [← Int.dvd_iff_tmod_eq_zero];omega
abbrev stC (p:Prg) (w:AV) (j:Nat) (st:AV):List AV:=[w,Yei p.cls,V.int p.slots,ints p.gens,YpH p.mths,Yvx p.nodes,V.int p.main,.mp j,st]
abbrev bools (l:List Bool):AV:=.sl 1 none (l.map V.bool)
abbrev stO (p:Prg) (W:List Int) (st:AV):Eta:=[.cb 93 (stC p (.hs 1) 2 st),.gs false 3 1 none (W.map V.int),.mo (slM p.cls p.cls.length)]
abbrev stF (p:Prg) (W:List Int) (st:AV):Eta:=[.cb 93 (stC p (ints W) 1 st),.mo (slM p.cls p.cls.length)]
def marks (n:Nat) (st:List Nat):List Bool:=(List.range n).map fun i=>st.contains i
theorem Ye0 (n:Nat) (st:List Nat):(marks n st).length=n:=by simp [marks]
theorem YkX {n i:Nat} {st:List Nat} (h:i < (marks n st).length):(marks n st)[i]=st.contains i:=by simp [marks]
theorem Ycw (n:Int) (h:0≤n):V.Spec Tryz.prog 120 [V.int n] [] (V.int (n % 64)) []:=by
 refine Se Tryz.func120 rfl rfl rfl fun B hB=>?_;refine goW ?_;exact Zad [] (.ren rfl)
theorem YbJ (n:Int) (h:0≤n) (h1:n≤9223372036854775807):V.Spec Tryz.prog 67 [V.int n] [] (V.int (n / 64)) []:=by
 refine Se Tryz.func67 rfl rfl rfl fun B hB=>?_;refine goW ?_;refine OL.quo ?_;refine goW ?_;exact Zad [] (.ren rfl)
theorem Ymk:V.Spec Tryz.prog 146 [V.bool true] [] (.tp []) []:=by
 refine Se Tryz.func146 rfl rfl rfl fun B hB=>?_;refine goW ?_;refine OL.c (Ya5 2) Tryz.func68 ?_;refine goW ?_;exact Za1 []
theorem Ymg:YaZ Tryz.prog 146 [V.bool false] [] (rfv 2) []:=by
 refine YaZ.enter Tryz.tabOK Tryz.mixed Tryz.func146 rfl rfl rfl fun B hB=>?_;refine goW ?_;refine Zar [] (Ybm 2) Tryz.func68 ?_;repeat' (first|refine Zam ?_|refine Zak ?_)
 exact Zas []
theorem YpV {W:List Int} {st:List Nat} (hst:∀ x∈st,x < W.length) {w:Int} (h:w % 2=0) (h0:w≠0):okW st w=(decide (0 < w)&&(decide (w / 2 < (W.length:Int))&&(marks W.length st).getD (w / 2).toNat false)):=by
 rw [okW,if_neg (by omega),decide_eq_false h0,Bool.false_or];by_cases h1:0 < w
 ·rw [decide_eq_true h1,Bool.true_and,Bool.true_and];by_cases h2:w / 2 < (W.length:Int)
  ·rw [decide_eq_true h2,Bool.true_and,List.getD_eq_getElem?_getD,List.getElem?_eq_getElem (by rw [Ye0];omega),Option.getD_some,YkX]
  ·rw [decide_eq_false h2,Bool.false_and,Bool.eq_false_iff];intro hm;have:=hst _ (by simpa using hm)
   omega
 ·rw [decide_eq_false h1,Bool.false_and,Bool.false_and]
def YbC (x:Int):Prop:=-9223372036854775808≤x∧x≤9223372036854775807
theorem YpE (p:Prg) (W:List Int) (st:List Nat) (hst:∀ x∈st,x < W.length) (w:Int) (hw:YbC w):V.Spec Tryz.prog 119 [.bp 0 0,V.int w] (stO p W (bools (marks W.length st))) (V.bool (okW st w)) (stO p W (bools (marks W.length st))):=by
 have hml:=Ye0 W.length st;by_cases h0:w=0
 ·have e:okW st w=true:=by subst h0;rfl
  rw [e];refine Se Tryz.func119 rfl rfl rfl fun B hB=>?_;refine goW ?_;exact Zad [0,1,2] (.ren rfl)
 ·by_cases h1:w % 2=0
  ·rw [YpV hst h1 h0];have ht:w.tmod 2=0:=YcG.2 h1;generalize hm:marks W.length st=ms at *
   refine Se Tryz.func119 rfl rfl rfl fun B hB=>?_;refine goW ?_;refine Zbq ht ?_;(refine YnB ?_ ?_<;>intro hc<;>refine goW ?_)
   ·have:=hw.2
    refine OL.quo ?_;(refine YnB ?_ ?_<;>intro hc<;>refine goW ?_)
    ·refine OL.quo ?_;refine goW ?_;refine Zad [0,1,2] (.bool ?_);rw [List.getD_eq_getElem?_getD,List.getElem?_eq_getElem (show (w / 2).toNat < ms.length by omega),decide_eq_true (show 0 < w by omega),decide_eq_true (show w / 2 < (W.length:Int) by omega)];rfl
    ·refine Zad [0,1,2] (.bool ?_);rw [decide_eq_false (show ¬ w / 2 < (W.length:Int) by omega)];simp
   ·refine Zad [0,1,2] (.bool ?_);simp;omega
  ·have ht:w.tmod 2≠0:=fun h=>h1 (YcG.1 h)
   have e:okW st w=(decide (-1999999999≤w)&&decide (w≤2000000001)):=by rw [okW,if_pos h1]
   rw [e];refine Se Tryz.func119 rfl rfl rfl fun B hB=>?_;refine goW ?_;refine Zbq rfl ?_;repeat' (with_reducible first|refine OL.st ?_|refine TC.region ?_|refine TC.seq ?_|refine OL.nil ?_|refine Zap ?_|refine ZaB ?_|refine ZaD ?_|refine Zay ?_ ?_<;>(intro hc;try (exfalso;omega))|refine Zaz ?_ ?_<;>(intro hc;try (exfalso;omega))|refine TC.ret ?_|refine ZaE ?_|refine ZaK ?_|fail)
   all_goals
    refine Zad [0,1,2] (.bool ?_);simp;try omega
section
variable (p:Prg) (hs:Ya9 p.cls) (hpk:∀ x∈p.nodes,x.2.2.length*8≤140737488355328)
include hs hpk
theorem Yky (h:Ybk p=false):YaZ Tryz.prog 49 [Ya0 p] [] (rfv 2) []:=by
 have h1:=YcT p hs hpk;rw [h] at h1;refine YaZ.enter Tryz.tabOK Tryz.mixed Tryz.func49 rfl rfl rfl fun B hB=>?_;refine goW ?_;refine OL.c h1 Tryz.func113 ?_;refine goW ?_;refine Zar [] (Ybm 2) Tryz.func68 ?_;repeat' (first|refine Zam ?_|refine Zak ?_)
 exact Zas []
set_option maxHeartbeats 2000000 in
theorem YdY (h:Ybk p=true):V.Spec Tryz.prog 49 [Ya0 p] [] (.bp 0 0) [.cb 93 (stC p (.raw (.slice none 0 0)) 1 (.raw (.slice none 0 0))),.mo (slM p.cls p.cls.length)]:=by
 have h0:=YcT p hs hpk;rw [h] at h0;have hcB0:=YaC h;have hcB:=hcB0;simp only [Yag,Bool.and_eq_true,decide_eq_true_eq] at hcB;have h10:=hcB.1.1;have hbd:=hs.1;have hown:∀ k,k < p.cls.length→Yc4 p ((3+k:Nat):Int)=true:=fun k hk=>by
  simp only [Yc4,Bool.and_eq_true,decide_eq_true_eq];exact ⟨by omega,by omega,h⟩
 have hHas:=fun k (hk:k < p.cls.length)=>Yco p hs hpk ((3+k:Nat):Int) (hown k hk)
 refine Se Tryz.func49 rfl rfl rfl fun B hB=>?_;refine goW ?_;refine OL.c h0 Tryz.func113 ?_;refine goW ?_;refine OL.c (Ya5 2) Tryz.func68 ?_;refine goW ?_;refine Zat (fun k:Nat=>[(1,.bp 0 0),(3,.bp 2 0),(15,V.int p.cls.length),(16,V.int k)]) (fun k=>[.cb 27 (YbB p),.mo (slM p.cls k),.cb 93 (stC p (.raw (.slice none 0 0)) 1 (.raw (.slice none 0 0)))]) (fun k=>k≤p.cls.length) (fun k=>p.cls.length-k) 0 [0,1,2] (Nat.zero_le _) ?_;rintro k hk;by_cases hkl:k < p.cls.length
 ·have hh:=hHas k hkl;rw [Ya4 hcB0] at hh;have hnS:=Yoy p.cls k;have hS:=Yne p.cls k;have e3:((3+k:Nat):Int)=(k:Int)+3:=by omega
  rw [e3] at hh hnS hS;generalize slM p.cls k=S0 at *
  generalize slotsOf p.cls (3+k)=ss at *
  refine goW ?_;(refine Zal (id:=6) true 13 14 ?_<;>refine Zaf 0 1 2 3 ?_<;>refine Zaf 4 5 6 7 ?_<;>refine OD.st 8 ?_<;>refine Zah 9 hh Tryz.func114 ?_<;>refine Zae 10 11 ?_<;>refine Zao 12 ?_<;>(refine Zac 13 ?_;refine Za8 ?_ hnS;refine OL.nil ?_;refine Zab ?_)<;>refine Zaa ?_)
  rw [hS];refine goW ?_;exact Zan (k+1) [0,1,2] (by omega) (by omega)
 ·obtain rfl:k=p.cls.length:=by omega
  refine goW ?_;exact Zad [2,1] (.ren rfl)
end
end Go.Proofs
namespace Go.V
open Go Go.W
theorem Zdi {C:Cx} {M:Bool} {fi:Nat} {ops:Array Oper} {Q:Qt} {fuel:Nat} {listed:Array Bool} {ρ:Ro} {η:Eta} {i:Nat} {a:Option Addr} {n c:Nat} (t:Nat) (hγ:C.B.γ[i]?=some (.slice a n c)) (k:OD C M fi ops Q fuel listed ((t,.raw (.slice a n c))::ρ) η) (hx:lk ρ t=some (.hs i):=by with_unfolding_all exact rfl) :
  OD C M fi ops Q fuel listed ρ η:=fun a w hA=>k a w (ZbR hx hγ a w hA)
end Go.V
namespace Go.Proofs
open Go Go.W Go.V
theorem YeT {l:List Cls} {c:Int} {n:Nat} (h:shp l c=some n):afind c (slM l l.length)=some (ints (slotsOf l c.toNat))∧(slotsOf l c.toNat).length=n:=by
 obtain ⟨k,rfl,h3,hk,rfl⟩:=YcS h;exact ⟨Yp0 l h3 hk,rfl⟩
def Ymc (l h:Nat) (γ:List Value):AV:=match γ[1]? with
 | some (Value.slice (some a) _ c)=>.raw (partV a.block 0 c l h)
 | _=>.junk
theorem Yes (p:Prg) (W:List Int) (b:List Bool) (i:Nat) (hW:W.length≤600) (hh:hdB (shp p.cls) W i=true) :
  Ypq Tryz.prog 72 [.bp 0 0,V.int i] (stO p W (bools b)) (Ymc (i+1) (i+1+szW (shp p.cls) (wAt W i))) (stO p W (bools b)):=by
 have hi:=Yk5 hh;obtain ⟨h0,n,h1,h2⟩:=Ybd.1 hh;obtain ⟨g1,g2⟩:=YeT h1;have hsz:szW (shp p.cls) (wAt W i)=n:=by rw [szW,h1];rfl
 have hil:i < W.length:=by omega
 have hwi:wAt W i=W[i]:=by rw [wAt,List.getD_eq_getElem?_getD,List.getElem?_eq_getElem hil];rfl
 rw [hsz] at hi ⊢;rw [hwi] at h0 g1 g2;have hcl:=Ycw W[i] h0;generalize slotsOf p.cls (W[i] % 64).toNat=ss at *
 refine Ypq.enter Tryz.tabOK Tryz.mixed Tryz.func72 rfl rfl rfl fun B hB hf=>?_;obtain ⟨v,hv1,hv2⟩:=hf 1 _ rfl;obtain ⟨g,cap,rfl,hc⟩:=Yhn hv2 (by simp;omega);simp only [List.length_map] at hv1 hc;have hr:Ymc (i+1) (i+1+n) B.γ=.raw (partV g 0 cap (i+1) (i+1+n)):=by rw [Ymc,hv1]
 rw [hr];refine goW ?_;(refine Zal (id:=1) true 26 27 ?_<;>refine Zaf 0 1 2 3 ?_<;>refine OD.st 4 ?_ (h:=gv)<;>refine Zdi 9 hv1 ?_<;>refine Zaf 5 6 7 8 ?_<;>refine Zaf 9 10 11 12 ?_<;>refine Zaf 13 14 15 16 ?_<;>refine Zaf 17 18 19 20 ?_<;>refine Zah 21 hcl Tryz.func120 ?_<;>refine Zai 22 ?_ (h:=YaH (.inl g1))<;>refine Zae 23 24 ?_<;>refine OD.st 25 ?_ (h:=Ysv (h:=i+1+n) (l:=i+1))<;>refine OD.st 26 ?_<;>refine Zaa ?_)
 refine goW ?_;exact Zad [0,1,2] (.ren rfl)
structure ObS where
 i:Nat
 pre:List Nat
 B:Base
 hB:B.γ.length=3
theorem Ymh (p:Prg) (W:List Int) (b:List Bool) (st:List Nat) (pv:Value) (hst:starts (shp p.cls) W=some st):Yqf Tryz.prog 66 (fun x:Nat=>[V.int x]) pv st (stO p W (bools b)) [.bp 0 0] []:=by
 obtain ⟨hl0,hl6,_,hsf⟩:=Yah hst;refine Yqf.enter Tryz.tabOK Tryz.mixed Tryz.func66 rfl rfl rfl fun γ0 I m0 W0 B hB hA=>?_;refine YaF ?_;refine Zb3 (S:=ObS) (fun S=>⟨Tryz.prog,Tryz.tab,Tryz.tabOK,Tryz.mixed,35,[],S.B,3,S.hB,some none,0⟩) (fun S=>[(0,.bp 0 0),(1,.raw (.func (.yield I.l) #[] #[])),(4,V.int S.i)]) (fun _=>stO p W (bools b)) (fun S=>AtO I m0 W0 S.pre S.B∧∃ r,startsF (shp p.cls) W W.length S.i=some r∧S.pre++r=st) (fun S=>W.length-S.i) ⟨1,[],B,hB⟩ ⟨hA,st,hsf,rfl⟩ rfl (fun _ _=>rfl) [0,1,2] rfl rfl ?_ ?_ ?_
 ·repeat' (first|with_unfolding_all exact trivial|exact OE.ren (by with_unfolding_all exact rfl)|with_unfolding_all refine And.intro ⟨_,by with_unfolding_all exact rfl,?_⟩ ?_)
 ·repeat' (first|with_unfolding_all exact trivial|exact LE.ren (by with_unfolding_all exact rfl)|with_unfolding_all refine And.intro ⟨_,by with_unfolding_all exact rfl,?_⟩ ?_)
 rintro ⟨i,pre,B1,hB1⟩ ⟨hA1,r,hr,he⟩;dsimp only at hA1 hr he ⊢;rw [YcU] at hr;by_cases hi:i < W.length
 ·rw [if_pos hi] at hr;by_cases hd:hdB (shp p.cls) W i=true
  ·rw [if_pos hd] at hr;obtain ⟨r',hr',rfl⟩:=Option.map_eq_some_iff.1 hr;obtain ⟨h0,n,h1,h2⟩:=Ybd.1 hd;obtain ⟨g1,g2⟩:=YeT h1;have hsz:szW (shp p.cls) (wAt W i)=n:=by rw [szW,h1];rfl
   have hwi:wAt W i=W[i]:=by rw [wAt,List.getD_eq_getElem?_getD,List.getElem?_eq_getElem hi];rfl
   rw [hsz] at hr';rw [hwi] at h0 g1 g2;have hcl:=Ycw W[i] h0;generalize slotsOf p.cls (W[i] % 64).toNat=ss at *
   refine YaF ?_;refine Zcl hA1 ⟨r',he⟩ (fun B2 hB2 hA2=>?_) (fun a w hd h=>⟨rfl,hd,h⟩);refine YaF ?_;(refine Zal (id:=2) true 18 19 ?_<;>refine Zaf 0 1 2 3 ?_<;>refine Zaf 4 5 6 7 ?_<;>refine Zaf 8 9 10 11 ?_<;>refine OD.st 12 ?_<;>refine Zah 13 hcl Tryz.func120 ?_<;>refine Zai 14 ?_ (h:=YaH (.inl g1))<;>refine Zaf 15 16 17 18 ?_<;>refine Zaa ?_)
   refine YaF ?_;exact ZbP ⟨i+1+n,pre++[i],B2,hB2⟩ [0,1,2] ⟨hA2,r',hr',by dsimp only;rw [List.append_assoc];exact he⟩ (by dsimp only;omega) (hr:=⟨⟨_,rfl,LE.ren rfl⟩,⟨_,rfl,LE.ren rfl⟩,⟨_,rfl,LE.int (by dsimp only;omega)⟩,trivial⟩)
  ·rw [if_neg hd] at hr;cases hr
 ·rw [if_neg hi] at hr
  cases hr
  rw [List.append_nil] at he;subst he;refine YaF ?_;refine Zcn ?_;exact Zcm hA1
end Go.Proofs
