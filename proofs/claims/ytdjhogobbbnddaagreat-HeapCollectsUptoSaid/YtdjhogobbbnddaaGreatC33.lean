/- Lemmas for the claim; no conditions. -/
import Derived.Test.YtdjhogobbbnddaaGreatC23
import Derived.Test.YtdjhogobbbnddaaGreatC19
import Derived.Test.YtdjhogobbbnddaaGreatC18
import Derived.Test.YtdjhogobbbnddaaGreatC31
import Derived.Test.YtdjhogobbbnddaaGreatC32
namespace Go.Proofs
open Go Go.W Go.V
theorem YeH (x:Mth):YuR x=.st [V.int x.kind,V.int x.gen,V.int x.fact.op,V.int x.fact.arg,ints x.fact.path,V.int x.fact.cls,V.int x.fact.n,.sl 6 none (x.fact.kids.map Yld),V.int x.node]:=by rw [YuR,YhH];rfl
theorem YdU {np no:Nat} {left deep:Int} {f:Fct}:okF np no left deep f=true↔((nodesF f:Int)≤left∧(depthF f:Int)≤deep)∧nodeOkB np no f=true:=by
 rw [okF,Bool.and_eq_true,Bool.and_eq_true,decide_eq_true_eq,decide_eq_true_eq]
theorem Yh8 (g:List (List Int)) (ow:List Int) (hb:g.length≤1000000) (f:Fct):V.Spec Tryz.prog 133 [fwA g ow,Yck f] [] (V.bool (okF g.length ow.length 24 12 f)) []:=by
 have h1:=YjO f;have hno:=fun (h:¬ (((nodesF f:Int)≤24∧(depthF f:Int)≤12)∧nodeOkB g.length ow.length f=true))=>show okF g.length ow.length 24 12 f=false from by rw [Bool.eq_false_iff];exact fun q=>h (YdU.1 q)
 by_cases hn:nodesF f≤24;rotate_left
 ·rw [hno (by omega),show min (nodesF f) 25=25 by omega] at *
  refine Se Tryz.func133 rfl rfl rfl fun B hB=>?_;refine goW ?_;refine OL.c h1 Tryz.func154 ?_;refine goW ?_;exact Zad [] (.ren rfl)
 have h2:=Yjb 24 f hn (by omega);have h3:=YkE g ow hb 24 f hn;rw [show min (nodesF f) 25=nodesF f by omega] at h1;by_cases hd:depthF f≤12;rotate_left
 ·rw [hno (by omega)];refine Se Tryz.func133 rfl rfl rfl fun B hB=>?_;refine goW ?_;refine OL.c h1 Tryz.func154 ?_;refine goW ?_;refine OL.c h2 Tryz.func155 ?_;refine goW ?_;exact Zad [] (.ren rfl)
 have e:okF g.length ow.length 24 12 f=nodeOkB g.length ow.length f:=by
  rw [okF,decide_eq_true (by omega),decide_eq_true (by omega)];rfl
 rw [e];refine Se Tryz.func133 rfl rfl rfl fun B hB=>?_;refine goW ?_;refine OL.c h1 Tryz.func154 ?_;refine goW ?_;refine OL.c h2 Tryz.func155 ?_;refine goW ?_;refine OL.c h3 Tryz.func156 ?_;refine goW ?_;exact Zad [] (.ren rfl)
theorem YhK {p:Prg} (h:(Yag p&&Yed p)=false):Ybs p=none:=by rw [Ybs,if_neg (by simp [h])]
theorem YmX {p:Prg} {out o:List Int} {k:Nat} (hk:k < p.mths.length) (h1:Yb4 p out (p.mths.take k)=some o) (h2:Yjh p o p.mths[k]=none):Yb4 p out p.mths=none:=by
 have e:p.mths=p.mths.take (k+1)++p.mths.drop (k+1):=(List.take_append_drop ..).symm;rw [e,Yhe,Yab hk,YfX,h1,Option.bind_some,h2,Option.bind_none]
set_option maxHeartbeats 8000000 in
theorem YkY (p:Prg) (hs:Ya9 p.cls) (hpk:∀ x∈p.nodes,x.2.2.length*8≤140737488355328) :
  V.Spec Tryz.prog 106 [Ya0 p] [] (.tp [ints ((Ybs p).getD []),V.bool (Ybs p).isSome]) []:=by
 have hcs:=Yhg p hs
 cases hc:Yag p
 ·rw [hc] at hcs;rw [YhK (by rw [hc];rfl)];simp only [Option.getD_none,Option.isSome_none];refine Se Tryz.func106 rfl rfl rfl fun B hB=>?_;refine goW ?_;refine OL.c hcs Tryz.func132 ?_;refine goW ?_;exact ZaA [] (.nil (by decide)) (.ren rfl)
 rw [hc] at hcs;have hcB:Yag p=true:=hc;have hcb:=hc;simp only [Yag,Bool.and_eq_true,decide_eq_true_eq] at hcb;obtain ⟨⟨h10,hcl⟩,⟨hslots,hf⟩,hin⟩:=hcb;have hsl4:=Ydu hcl;have hgl:(graphOf p.cls).length=p.cls.length:=by simp [graphOf]
 by_cases hlen:(p.gens.length≤8∧p.mths.length≤16)∧1≤p.nodes.length∧p.nodes.length≤120;rotate_left
 ·have e:Yed p=false:=by
   rw [Bool.eq_false_iff];intro h;simp only [Yed,Bool.and_eq_true,decide_eq_true_eq] at h;exact hlen h.1
  rw [YhK (by rw [e,Bool.and_false])];simp only [Option.getD_none,Option.isSome_none];refine Se Tryz.func106 rfl rfl rfl fun B hB=>?_;refine goW ?_;refine OL.c hcs Tryz.func132 ?_;repeat' (with_reducible first|refine OL.st ?_|refine TC.region ?_|refine TC.seq ?_|refine OL.nil ?_|refine Zap ?_|refine ZaY ?_|refine ZaB ?_|refine ZaD ?_|refine Zay ?_ ?_<;>(intro hc;try (exfalso;omega))|refine Zaz ?_ ?_<;>(intro hc;try (exfalso;omega))|refine TC.ret ?_|refine ZaE ?_|fail)
  all_goals exact ZaA [] (.nil (by decide)) (.ren rfl)
 obtain ⟨⟨hg8,hm16⟩,hn1,hn120⟩:=hlen;have hlB:Yed p=p.gens.all fun n=>decide (1≤n)&&decide (n≤3):=by
  rw [Yed,decide_eq_true hg8,decide_eq_true hm16,decide_eq_true hn1,decide_eq_true hn120];rfl
 refine Se Tryz.func106 rfl rfl rfl fun B hB=>?_;refine goW ?_;refine Zag 1 ?_;refine OL.c hcs Tryz.func132 ?_;refine goW ?_;refine Zat (fun k:Nat=>[(1,.ep (YbB p) 0),(4,V.int k)]) (fun _=>[]) (fun k=>k≤p.gens.length∧Yed p=(p.gens.drop k).all fun n=>decide (1≤n)&&decide (n≤3)) (fun k=>p.gens.length-k) 0 [] ⟨Nat.zero_le _,hlB⟩ ?_;rintro k ⟨hk,hinv⟩;by_cases hkl:k < p.gens.length
 ·rw [Yac hkl,List.all_cons] at hinv;by_cases hg:1≤p.gens[k]∧p.gens[k]≤3
  ·rw [decide_eq_true hg.1,decide_eq_true hg.2,Bool.true_and,Bool.true_and] at hinv;refine goW ?_;exact Zan (k+1) [] ⟨by omega,hinv⟩ (by omega)
  ·have hz:(decide (1≤p.gens[k])&&decide (p.gens[k]≤3))=false:=by
    rw [Bool.eq_false_iff];simp only [ne_eq,Bool.and_eq_true,decide_eq_true_eq];exact hg
   rw [hz,Bool.false_and] at hinv;rw [YhK (by rw [hinv,Bool.and_false])];simp only [Option.getD_none,Option.isSome_none];repeat' (with_reducible first|refine OL.st ?_|refine TC.region ?_|refine TC.seq ?_|refine OL.nil ?_|refine Zap ?_|refine TC.block ?_|refine TC.skip ?_|refine ZaY ?_|refine ZaB ?_|refine ZaD ?_|refine Zay ?_ ?_<;>(intro hc;try (exfalso;omega))|refine Zaz ?_ ?_<;>(intro hc;try (exfalso;omega))|refine TC.ret ?_|refine ZaE ?_|refine ZaK ?_|fail)
   all_goals exact ZaA [] (.nil (by decide)) (.ren rfl)
 rw [Yat (by omega),List.all_nil] at hinv;have hsz:Ybs p=((Yb4 p (List.replicate p.nodes.length (-1)) p.mths).bind fun o=>YcA p false o (YbY p p.main 0)).filter fun o=>!o.contains (-1):=by rw [Ybs,hcB,hinv];rfl
 have hwo:=Yb1 p hs (by omega);refine goW ?_;refine ZaT 5 3 1 ?_;refine Zat (fun k:Nat=>[(1,.ep (YbB p) 0),(5,.hs 0),(6,V.int k)]) (fun k=>[.gs false 3 1 none ((List.replicate k (-1:Int)).map V.int)]) (fun k=>k≤p.nodes.length) (fun k=>p.nodes.length-k) 0 [0] (Nat.zero_le _) ?_;rintro k hk;by_cases hkl:k < p.nodes.length
 ·have e:(List.replicate k (-1:Int)).map V.int++[V.int (-1)]=(List.replicate (k+1) (-1:Int)).map V.int:=by rw [List.replicate_succ'];simp
  have hq:(List.replicate k (-1:Int)).length=k:=by simp
  generalize List.replicate k (-1:Int)=q at *
  refine goW ?_;exact Zan (k+1) [2] (by omega) (by omega)
 obtain rfl:k=p.nodes.length:=by omega
 refine goW ?_;refine OL.c hwo Tryz.func92 ?_;refine goW ?_;refine Za6 7 ?_;have hl0:(List.replicate p.nodes.length (-1:Int)).length=p.nodes.length:=by simp
 obtain ⟨rep,hrep⟩:∃ rep,rep=List.replicate p.nodes.length (-1:Int):=⟨_,rfl⟩;have hrge:∀ y∈rep,-1≤y:=by rw [hrep];intro y hy;rw [(List.mem_replicate.1 hy).2];omega
 rw [← hrep] at hsz hl0 ⊢;refine Zat (fun q:Nat × List Int=>[(1,.ep (YbB p) 0),(5,.hs 0),(7,.ep (fwC (graphOf p.cls) (ownF 0 p.cls)) 0),(8,V.int q.1)]) (fun q=>[.gs false 3 1 none (q.2.map V.int)]) (fun q=>q.1≤p.mths.length∧q.2.length=p.nodes.length∧Yb4 p rep (p.mths.take q.1)=some q.2) (fun q=>p.mths.length-q.1) (0,rep) [0] ⟨Nat.zero_le _,hl0,by simp [Yb4]⟩ ?_;rintro ⟨k,o⟩ ⟨hk,hol,hrun⟩;dsimp only at hk hol hrun ⊢;by_cases hkl:k < p.mths.length
 ·obtain ⟨m,hm⟩:∃ m,m=p.mths[k]:=⟨_,rfl⟩;have hbad:Yjh p o m=none→Ybs p=none:=fun h=>by rw [hsz,YmX hkl hrun (by rw [← hm];exact h)];rfl
  have hfo:=Yh8 (graphOf p.cls) (ownF 0 p.cls) (by omega) m.fact;have hnx:=YkT m.kind;rw [hgl,YbL] at hfo;by_cases hkg:(1≤m.kind∧m.kind≤4)∧0≤m.gen∧m.gen < p.gens.length;rotate_left
  ·rw [hbad (by rw [Yjh,if_neg];simp only [Bool.and_eq_true,decide_eq_true_eq];exact hkg)];simp only [Option.getD_none,Option.isSome_none];refine goW ?_;rw [YeH,← hm];refine goW ?_;(refine Zal (id:=18) true 40 40 ?_<;>refine Zaf 0 1 2 3 ?_<;>refine Zaw 86 ?_ ?_<;>(intro hc;try (exfalso;omega))<;>(first|(refine OD.st 4 ?_)|(refine OD.of 4 ?_))<;>(first|refine OD.st 5 ?_|refine OD.of 5 ?_)<;>(first|refine OD.st 6 ?_|refine OD.of 6 ?_)<;>refine Zae 7 8 ?_<;>(first|refine OD.of 9 ?_|refine Zaw 91 ?_ ?_<;>(intro hc;try (exfalso;omega))<;>(first|(refine OD.st 9 ?_)|(refine OD.of 9 ?_)))<;>(first|refine OD.st 10 ?_|refine OD.of 10 ?_)<;>(first|refine OD.st 11 ?_|refine OD.of 11 ?_)<;>refine Zae 12 13 ?_<;>(first|refine OD.of 14 ?_|refine Zaw 96 ?_ ?_<;>(intro hc;try (exfalso;omega))<;>(first|(refine OD.st 14 ?_)|(refine OD.of 14 ?_)))<;>(first|refine OD.st 15 ?_|refine OD.of 15 ?_)<;>(first|refine OD.st 16 ?_|refine OD.of 16 ?_)<;>(first|refine OD.st 17 ?_|refine OD.of 17 ?_)<;>(first|refine OD.st 18 ?_|refine OD.of 18 ?_)<;>(first|refine OD.st 19 ?_|refine OD.of 19 ?_)<;>refine Zae 20 21 ?_<;>(first|refine OD.of 22 ?_|refine Zaw 104 ?_ ?_<;>(intro hc;try (exfalso;omega))<;>(first|(refine OD.st 22 ?_)|(refine OD.of 22 ?_)))<;>refine OD.of 23 ?_<;>refine OD.of 24 ?_<;>refine OD.of 25 ?_<;>refine OD.of 26 ?_<;>refine Zae 27 28 ?_<;>refine OD.of 29 ?_<;>refine OD.of 30 ?_<;>refine OD.of 32 ?_<;>refine OD.of 33 ?_<;>refine OD.of 34 ?_<;>refine OD.of 35 ?_<;>refine OD.of 36 ?_<;>refine OD.of 37 ?_<;>refine OD.of 31 ?_<;>refine OD.of 38 ?_<;>refine OD.st 39 ?_<;>refine Zaa ?_)
   all_goals refine goW ?_
   all_goals exact ZaA [] (.nil (by decide)) (.ren rfl)
  obtain ⟨⟨hk1,hk4⟩,hg0,hgn⟩:=hkg;have hgg:p.gens.getD m.gen.toNat 0=p.gens[m.gen.toNat]'(by omega):=Yai (by omega);have hgp:=YgP hinv (k:=m.gen.toNat) (by omega);have hmb:Yjh p o m=if okF p.cls.length (slN p.cls) 24 12 m.fact&&decide (Ybf m.fact≤p.gens[m.gen.toNat]'(by omega)) then YcA p (YqG m.kind) o (YbY p m.node (p.gens[m.gen.toNat]'(by omega))) else none:=by
   rw [Yjh,if_pos,hgg];simp only [Bool.and_eq_true,decide_eq_true_eq];omega
  cases hok:okF p.cls.length (slN p.cls) 24 12 m.fact
  ·rw [hok] at hfo hmb;rw [hbad (by rw [hmb];rfl)];simp only [Option.getD_none,Option.isSome_none];refine goW ?_;rw [YeH,← hm];refine goW ?_;(refine Zal (id:=18) true 40 40 ?_<;>refine Zaf 0 1 2 3 ?_<;>refine Zaw 86 ?_ ?_<;>(intro hc;try (exfalso;omega))<;>(first|(refine OD.st 4 ?_)|(refine OD.of 4 ?_))<;>refine Zaf 5 6 7 8 ?_<;>refine Zaw 91 ?_ ?_<;>(intro hc;try (exfalso;omega))<;>(first|(refine OD.st 9 ?_)|(refine OD.of 9 ?_))<;>refine Zaf 10 11 12 13 ?_<;>refine Zaw 96 ?_ ?_<;>(intro hc;try (exfalso;omega))<;>(first|(refine OD.st 14 ?_)|(refine OD.of 14 ?_))<;>refine Zaf 15 16 17 18 ?_<;>refine Zae 19 20 ?_<;>refine OD.st 21 ?_<;>refine Zaw 104 ?_ ?_<;>(intro hc;try (exfalso;omega))<;>(first|(refine OD.st 22 ?_)|(refine OD.of 22 ?_))<;>refine OD.st 23 ?_<;>refine OD.st 24 ?_ (h:=gvM)<;>refine Zah 25 hfo Tryz.func133 ?_<;>refine Zae 26 27 ?_<;>refine OD.st 28 ?_<;>refine OD.of 29 ?_<;>refine OD.of 30 ?_<;>refine OD.of 32 ?_<;>refine OD.of 33 ?_<;>refine OD.of 34 ?_<;>refine OD.of 35 ?_<;>refine OD.of 36 ?_<;>refine OD.of 37 ?_<;>refine OD.of 31 ?_<;>refine OD.of 38 ?_<;>refine OD.st 39 ?_<;>refine Zaa ?_)
   all_goals refine goW ?_
   all_goals exact ZaA [] (.nil (by decide)) (.ren rfl)
  have hsp:=Yh9 p.cls.length (slN p.cls) 24 m.fact (by have:=(YdU.1 hok).1.1;omega) (YdU.1 hok).2;rw [hok] at hfo;rw [hok,Bool.true_and] at hmb;by_cases hspk:Ybf m.fact≤p.gens[m.gen.toNat]'(by omega);rotate_left
  ·rw [hbad (by rw [hmb,if_neg (by simpa using hspk)])];simp only [Option.getD_none,Option.isSome_none];refine goW ?_;rw [YeH,← hm];refine goW ?_;(refine Zal (id:=18) true 40 40 ?_<;>refine Zaf 0 1 2 3 ?_<;>refine Zaw 86 ?_ ?_<;>(intro hc;try (exfalso;omega))<;>(first|(refine OD.st 4 ?_)|(refine OD.of 4 ?_))<;>refine Zaf 5 6 7 8 ?_<;>refine Zaw 91 ?_ ?_<;>(intro hc;try (exfalso;omega))<;>(first|(refine OD.st 9 ?_)|(refine OD.of 9 ?_))<;>refine Zaf 10 11 12 13 ?_<;>refine Zaw 96 ?_ ?_<;>(intro hc;try (exfalso;omega))<;>(first|(refine OD.st 14 ?_)|(refine OD.of 14 ?_))<;>refine Zaf 15 16 17 18 ?_<;>refine Zae 19 20 ?_<;>refine OD.st 21 ?_<;>refine Zaw 104 ?_ ?_<;>(intro hc;try (exfalso;omega))<;>(first|(refine OD.st 22 ?_)|(refine OD.of 22 ?_))<;>refine OD.st 23 ?_<;>refine OD.st 24 ?_ (h:=gvM)<;>refine Zah 25 hfo Tryz.func133 ?_<;>refine Zaf 26 27 28 29 ?_<;>refine OD.st 30 ?_ (h:=gvM)<;>refine Zaf 32 33 34 35 ?_<;>refine Zae 36 37 ?_<;>refine Zah 31 hsp Tryz.func134 ?_<;>refine Zae 38 39 ?_<;>refine Zaa ?_)
   all_goals refine goW ?_
   all_goals exact ZaA [] (.nil (by decide)) (.ren rfl)
  rw [if_pos (by simpa using hspk)] at hmb;have hv:=Yf6 p hpk (by omega) (YqG m.kind) 12 m.node (p.gens[m.gen.toNat]'(by omega)) 1 o (by omega) (by omega) (by omega) (by omega) hol;rw [← show YbY p m.node (p.gens[m.gen.toNat]'(by omega))=YgE p.nodes 12 m.node (p.gens[m.gen.toNat]'(by omega)) 1 from rfl,← hmb] at hv
  cases hq:Yjh p o m with
  | none =>
    rw [hq] at hv;simp only [outW,Option.isSome_none] at hv;rw [hbad hq];simp only [Option.getD_none,Option.isSome_none];refine goW ?_;rw [YeH,← hm];refine goW ?_;(refine Zal (id:=18) true 40 40 ?_<;>refine Zaf 0 1 2 3 ?_<;>refine Zaw 86 ?_ ?_<;>(intro hc;try (exfalso;omega))<;>(first|(refine OD.st 4 ?_)|(refine OD.of 4 ?_))<;>refine Zaf 5 6 7 8 ?_<;>refine Zaw 91 ?_ ?_<;>(intro hc;try (exfalso;omega))<;>(first|(refine OD.st 9 ?_)|(refine OD.of 9 ?_))<;>refine Zaf 10 11 12 13 ?_<;>refine Zaw 96 ?_ ?_<;>(intro hc;try (exfalso;omega))<;>(first|(refine OD.st 14 ?_)|(refine OD.of 14 ?_))<;>refine Zaf 15 16 17 18 ?_<;>refine Zae 19 20 ?_<;>refine OD.st 21 ?_<;>refine Zaw 104 ?_ ?_<;>(intro hc;try (exfalso;omega))<;>(first|(refine OD.st 22 ?_)|(refine OD.of 22 ?_))<;>refine OD.st 23 ?_<;>refine OD.st 24 ?_ (h:=gvM)<;>refine Zah 25 hfo Tryz.func133 ?_<;>refine Zaf 26 27 28 29 ?_<;>refine OD.st 30 ?_ (h:=gvM)<;>refine Zaf 32 33 34 35 ?_<;>refine Zae 36 37 ?_<;>refine Zah 31 hsp Tryz.func134 ?_<;>refine Zae 38 39 ?_<;>refine Zaa ?_)
    all_goals refine goW ?_
    all_goals
     (refine Zal (id:=20) true 13 15 ?_<;>refine Zaf 0 1 2 3 ?_<;>refine Zaf 4 5 6 7 ?_<;>refine Zaf 8 9 10 12 ?_<;>refine Zah 11 hnx Tryz.func136 ?_)<;>((refine Zac 13 ?_);refine Zaj [0] hv Tryz.func135 ?_<;>refine OL.nil (Zab ?_))<;>(refine OD.st 14 ?_<;>refine Zaa ?_)
     all_goals refine goW ?_
     all_goals exact ZaA [] (.nil (by decide)) (.ren rfl)
  | some o2 =>
    have hlo2:=Yjc hq;rw [hq] at hv;simp only [outW,Option.isSome_some] at hv;have hsn:Yb4 p rep (p.mths.take (k+1))=some o2:=by rw [Yab hkl,YfX,hrun,Option.bind_some,← hm];exact hq
    refine goW ?_;rw [YeH,← hm];refine goW ?_;(refine Zal (id:=18) true 40 40 ?_<;>refine Zaf 0 1 2 3 ?_<;>refine Zaw 86 ?_ ?_<;>(intro hc;try (exfalso;omega))<;>(first|(refine OD.st 4 ?_)|(refine OD.of 4 ?_))<;>refine Zaf 5 6 7 8 ?_<;>refine Zaw 91 ?_ ?_<;>(intro hc;try (exfalso;omega))<;>(first|(refine OD.st 9 ?_)|(refine OD.of 9 ?_))<;>refine Zaf 10 11 12 13 ?_<;>refine Zaw 96 ?_ ?_<;>(intro hc;try (exfalso;omega))<;>(first|(refine OD.st 14 ?_)|(refine OD.of 14 ?_))<;>refine Zaf 15 16 17 18 ?_<;>refine Zae 19 20 ?_<;>refine OD.st 21 ?_<;>refine Zaw 104 ?_ ?_<;>(intro hc;try (exfalso;omega))<;>(first|(refine OD.st 22 ?_)|(refine OD.of 22 ?_))<;>refine OD.st 23 ?_<;>refine OD.st 24 ?_ (h:=gvM)<;>refine Zah 25 hfo Tryz.func133 ?_<;>refine Zaf 26 27 28 29 ?_<;>refine OD.st 30 ?_ (h:=gvM)<;>refine Zaf 32 33 34 35 ?_<;>refine Zae 36 37 ?_<;>refine Zah 31 hsp Tryz.func134 ?_<;>refine Zae 38 39 ?_<;>refine Zaa ?_)
    all_goals refine goW ?_
    all_goals
     (refine Zal (id:=20) true 13 15 ?_<;>refine Zaf 0 1 2 3 ?_<;>refine Zaf 4 5 6 7 ?_<;>refine Zaf 8 9 10 12 ?_<;>refine Zah 11 hnx Tryz.func136 ?_)<;>((refine Zac 13 ?_);refine Zaj [0] hv Tryz.func135 ?_<;>refine OL.nil (Zab ?_))<;>(refine OD.st 14 ?_<;>refine Zaa ?_)
     all_goals refine goW ?_
     all_goals exact Zan (k+1,o2) [0] ⟨by dsimp only;omega,by dsimp only;omega,hsn⟩ (by dsimp only;omega)
 rw [Yaf (by omega)] at hrun;rw [hrun,Option.bind_some] at hsz;have hv:=Yf6 p hpk (by omega) false 12 p.main 0 1 o (by omega) (by omega) (by omega) (by omega) hol;rw [← show YbY p p.main 0=YgE p.nodes 12 p.main 0 1 from rfl] at hv;have hoge:=Ynw hinv hrun hrge
 cases hq:YcA p false o (YbY p p.main 0) with
 | none =>
   rw [hq] at hv hsz;simp only [outW,Option.isSome_none] at hv;rw [hsz];simp only [Option.filter_none,Option.getD_none,Option.isSome_none];refine goW ?_;refine Zaj [0] hv Tryz.func135 ?_;refine goW ?_;exact ZaA [] (.nil (by decide)) (.ren rfl)
 | some o2 =>
   have hlo2:=Ye5 hq;have hge2:=YlI hq hoge (YlY _ _ _ _ _ (by omega));rw [hq] at hv hsz;simp only [outW,Option.isSome_some] at hv;rw [Option.filter_some,Ysl hge2] at hsz;refine goW ?_;refine Zaj [0] hv Tryz.func135 ?_;refine goW ?_;refine Zat (fun i:Nat=>[(5,.hs 0),(10,V.int i)]) (fun _=>[.gs false 3 1 none (o2.map V.int)]) (fun i=>i≤o2.length∧(o2.any fun y=>decide (y < 0))=((o2.drop i).any fun y=>decide (y < 0))) (fun i=>o2.length-i) 0 [0] ⟨Nat.zero_le _,rfl⟩ ?_;rintro i ⟨hi,hany⟩;by_cases hil:i < o2.length
   ·rw [Yac hil,List.any_cons] at hany;by_cases hneg:o2[i] < 0
    ·rw [hany,decide_eq_true hneg] at hsz;simp only [Bool.true_or,Bool.not_true,Bool.false_eq_true,if_false] at hsz;rw [hsz];simp only [Option.getD_none,Option.isSome_none];refine goW ?_;exact ZaA [] (.nil (by decide)) (.ren rfl)
    ·rw [decide_eq_false hneg,Bool.false_or] at hany;refine goW ?_;exact Zan (i+1) [0] ⟨by omega,hany⟩ (by omega)
   ·rw [Yat (by omega),List.any_nil] at hany;rw [hany] at hsz;simp only [Bool.not_false,if_true] at hsz;rw [hsz];simp only [Option.getD_some,Option.isSome_some];refine goW ?_;refine Za4 2 ?_;exact ZaA [] (.ren rfl) (.ren rfl)
theorem Yd5 (p:Prg) (hs:Ya9 p.cls) (hpk:∀ x∈p.nodes,x.2.2.length*8≤140737488355328):V.Spec Tryz.prog 42 [Ya0 p] [] (V.bool (Ybk p)) []:=by
 have h:=YkY p hs hpk;refine Se Tryz.func42 rfl rfl rfl fun B hB=>?_;refine goW ?_;refine OL.c h Tryz.func106 ?_;refine goW ?_;exact Zad [] (.ren rfl)
end Go.Proofs
