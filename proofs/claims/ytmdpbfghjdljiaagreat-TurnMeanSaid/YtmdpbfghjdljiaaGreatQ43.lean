/- Part 43 of what the claim is proved by: lemmas on the model and walks through functions of the program; no conditions. -/
import Derived.Test.YtmdpbfghjdljiaaGreatQ13
import Derived.Test.YtmdpbfghjdljiaaGreatQ16
import Derived.Test.YtmdpbfghjdljiaaGreatQ41
import Derived.Test.YtmdpbfghjdljiaaGreatQ42
import Derived.Test.YtmdpbfghjdljiaaGreatQ39
import Derived.Test.YtmdpbfghjdljiaaGreatQ40
import Derived.Test.YtmdpbfghjdljiaaGreatQ38
import Derived.Test.YtmdpbfghjdljiaaGreatQ26
namespace Go.Proofs
open Go Go.W Go.V
theorem mthA_eq (x:Mth):mthA x=.st [V.int x.kind,V.int x.gen,V.int x.fact.op,V.int x.fact.arg,ints x.fact.path,V.int x.fact.cls,V.int x.fact.n,.sl 6 none (x.fact.kids.map factA),V.int x.node]:=by rw [mthA,factA_fct];rfl
theorem okF_parts {np no:Nat} {left deep:Int} {f:Fct}:okF np no left deep f=true↔((nodesF f:Int)≤left∧(depthF f:Int)≤deep)∧nodeOkB np no f=true:=by
 rw [okF,Bool.and_eq_true,Bool.and_eq_true,decide_eq_true_eq,decide_eq_true_eq]
theorem Ct239 (g:List (List Int)) (ow:List Int) (hb:g.length≤1000000) (f:Fct):V.Spec Tryz.prog 131 [fwA g ow,fctA f] [] (V.bool (okF g.length ow.length 24 12 f)) []:=by
 have h1:=Ct241 f
 have hno:=fun (h:¬ (((nodesF f:Int)≤24∧(depthF f:Int)≤12)∧nodeOkB g.length ow.length f=true))=>show okF g.length ow.length 24 12 f=false from by rw [Bool.eq_false_iff];exact fun q=>h (okF_parts.1 q)
 by_cases hn:nodesF f≤24
 rotate_left
 ·rw [hno (by omega),show min (nodesF f) 25=25 by omega] at *
  refine V.Spec.enter Tryz.tabOK Tryz.mixed Tryz.func131 rfl rfl rfl fun B hB=>?_
  refine goW ?_
  refine OL.c h1 Tryz.func187 ?_
  refine goW ?_
  exact TX.rt1 [] (.ren rfl)
 have h2:=Ct238 24 f hn (by omega)
 have h3:=Ct249 g ow hb 24 f hn
 rw [show min (nodesF f) 25=nodesF f by omega] at h1
 by_cases hd:depthF f≤12
 rotate_left
 ·rw [hno (by omega)]
  refine V.Spec.enter Tryz.tabOK Tryz.mixed Tryz.func131 rfl rfl rfl fun B hB=>?_
  refine goW ?_
  refine OL.c h1 Tryz.func187 ?_
  refine goW ?_
  refine OL.c h2 Tryz.func188 ?_
  refine goW ?_
  exact TX.rt1 [] (.ren rfl)
 have e:okF g.length ow.length 24 12 f=nodeOkB g.length ow.length f:=by
  rw [okF,decide_eq_true (by omega),decide_eq_true (by omega)];rfl
 rw [e]
 refine V.Spec.enter Tryz.tabOK Tryz.mixed Tryz.func131 rfl rfl rfl fun B hB=>?_
 refine goW ?_
 refine OL.c h1 Tryz.func187 ?_
 refine goW ?_
 refine OL.c h2 Tryz.func188 ?_
 refine goW ?_
 refine OL.c h3 Tryz.func189 ?_
 refine goW ?_
 exact TX.rt1 [] (.ren rfl)
theorem sizesV_no {p:Prg} (h:(classesB p&&lensB p)=false):sizesV p=none:=by rw [sizesV,if_neg (by simp [h])]
theorem mthsB_no {p:Prg} {out o:List Int} {k:Nat} (hk:k < p.mths.length) (h1:mthsB p out (p.mths.take k)=some o) (h2:mthB p o p.mths[k]=none):mthsB p out p.mths=none:=by
 have e:p.mths=p.mths.take (k+1)++p.mths.drop (k+1):=(List.take_append_drop ..).symm
 rw [e,mthsB_app,take_succ hk,mthsB_snoc,h1,Option.bind_some,h2,Option.bind_none]
set_option maxHeartbeats 8000000 in
theorem Ct259 (p:Prg) (hs:Short p.cls) (hpk:∀ x∈p.nodes,x.2.2.length*8≤140737488355328) :
  V.Spec Tryz.prog 94 [prgA p] [] (.tp [ints ((sizesV p).getD []),V.bool (sizesV p).isSome]) []:=by
 have hcs:=Ct257 p hs
 cases hc:classesB p
 ·rw [hc] at hcs
  rw [sizesV_no (by rw [hc];rfl)]
  simp only [Option.getD_none,Option.isSome_none]
  refine V.Spec.enter Tryz.tabOK Tryz.mixed Tryz.func94 rfl rfl rfl fun B hB=>?_
  refine goW ?_
  refine OL.c hcs Tryz.func129 ?_
  refine goW ?_
  exact TX.rt2 [] (.nil (by decide)) (.ren rfl)
 rw [hc] at hcs
 have hcB:classesB p=true:=hc
 have hcb:=hc
 simp only [classesB,Bool.and_eq_true,decide_eq_true_eq] at hcb
 obtain ⟨⟨h10,hcl⟩,⟨hslots,hf⟩,hin⟩:=hcb
 have hsl4:=clsB_len hcl
 have hgl:(graphOf p.cls).length=p.cls.length:=by simp [graphOf]
 by_cases hlen:(p.gens.length≤8∧p.mths.length≤16)∧1≤p.nodes.length∧p.nodes.length≤120
 rotate_left
 ·have e:lensB p=false:=by
   rw [Bool.eq_false_iff];intro h
   simp only [lensB,Bool.and_eq_true,decide_eq_true_eq] at h
   exact hlen h.1
  rw [sizesV_no (by rw [e,Bool.and_false])]
  simp only [Option.getD_none,Option.isSome_none]
  refine V.Spec.enter Tryz.tabOK Tryz.mixed Tryz.func94 rfl rfl rfl fun B hB=>?_
  refine goW ?_
  refine OL.c hcs Tryz.func129 ?_
  repeat' (with_reducible first|refine OL.st ?_|refine TC.region ?_|refine TC.seq ?_|refine OL.nil ?_|refine TX.thenN ?_|refine TC.ifT ?_|refine OL.gOn ?_|refine OL.gOff ?_|refine TC.ifD ?_ ?_<;>(intro hc;try (exfalso;omega))|refine OL.gD ?_ ?_<;>(intro hc;try (exfalso;omega))|refine TC.ret ?_|refine TX.thenR ?_|fail)
  all_goals exact TX.rt2 [] (.nil (by decide)) (.ren rfl)
 obtain ⟨⟨hg8,hm16⟩,hn1,hn120⟩:=hlen
 have hlB:lensB p=p.gens.all fun n=>decide (1≤n)&&decide (n≤3):=by
  rw [lensB,decide_eq_true hg8,decide_eq_true hm16,decide_eq_true hn1,decide_eq_true hn120];rfl
 refine V.Spec.enter Tryz.tabOK Tryz.mixed Tryz.func94 rfl rfl rfl fun B hB=>?_
 refine goW ?_
 refine OL.frzB 1 ?_
 refine OL.c hcs Tryz.func129 ?_
 refine goW ?_
 refine TC.lp (fun k:Nat=>[(1,.ep (prgC p) 0),(4,V.int k)]) (fun _=>[]) (fun k=>k≤p.gens.length∧lensB p=(p.gens.drop k).all fun n=>decide (1≤n)&&decide (n≤3)) (fun k=>p.gens.length-k) 0 [] ⟨Nat.zero_le _,hlB⟩ ?_
 rintro k ⟨hk,hinv⟩
 by_cases hkl:k < p.gens.length
 ·rw [drop_cons hkl,List.all_cons] at hinv
  by_cases hg:1≤p.gens[k]∧p.gens[k]≤3
  ·rw [decide_eq_true hg.1,decide_eq_true hg.2,Bool.true_and,Bool.true_and] at hinv
   refine goW ?_
   exact TX.rd (k+1) [] ⟨by omega,hinv⟩ (by omega)
  ·have hz:(decide (1≤p.gens[k])&&decide (p.gens[k]≤3))=false:=by
    rw [Bool.eq_false_iff];simp only [ne_eq,Bool.and_eq_true,decide_eq_true_eq];exact hg
   rw [hz,Bool.false_and] at hinv
   rw [sizesV_no (by rw [hinv,Bool.and_false])]
   simp only [Option.getD_none,Option.isSome_none]
   repeat' (with_reducible first|refine OL.st ?_|refine TC.region ?_|refine TC.seq ?_|refine OL.nil ?_|refine TX.thenN ?_|refine TC.block ?_|refine TC.skip ?_|refine TC.ifT ?_|refine OL.gOn ?_|refine OL.gOff ?_|refine TC.ifD ?_ ?_<;>(intro hc;try (exfalso;omega))|refine OL.gD ?_ ?_<;>(intro hc;try (exfalso;omega))|refine TC.ret ?_|refine TX.thenR ?_|refine TX.blkR ?_|fail)
   all_goals exact TX.rt2 [] (.nil (by decide)) (.ren rfl)
 rw [drop_nil (by omega),List.all_nil] at hinv
 have hsz:sizesV p=((mthsB p (List.replicate p.nodes.length (-1)) p.mths).bind fun o=>runB p false o (belowL p p.main 0)).filter fun o=>!o.contains (-1):=by rw [sizesV,hcB,hinv];rfl
 have hwo:=Ct256 p hs (by omega)
 refine goW ?_
 refine TC.adp 5 Tc.int 1 ?_
 refine TC.lp (fun k:Nat=>[(1,.ep (prgC p) 0),(5,.hs 0),(6,V.int k)]) (fun k=>[.gs false Tc.int 1 none ((List.replicate k (-1:Int)).map V.int)]) (fun k=>k≤p.nodes.length) (fun k=>p.nodes.length-k) 0 [0] (Nat.zero_le _) ?_
 rintro k hk
 by_cases hkl:k < p.nodes.length
 ·have e:(List.replicate k (-1:Int)).map V.int++[V.int (-1)]=(List.replicate (k+1) (-1:Int)).map V.int:=by rw [List.replicate_succ'];simp
  have hq:(List.replicate k (-1:Int)).length=k:=by simp
  generalize List.replicate k (-1:Int)=q at *
  refine goW ?_
  exact TX.rd (k+1) [2] (by omega) (by omega)
 obtain rfl:k=p.nodes.length:=by omega
 refine goW ?_
 refine OL.c hwo Tryz.func130 ?_
 refine goW ?_
 refine TC.frzB 7 ?_
 have hl0:(List.replicate p.nodes.length (-1:Int)).length=p.nodes.length:=by simp
 obtain ⟨rep,hrep⟩:∃ rep,rep=List.replicate p.nodes.length (-1:Int):=⟨_,rfl⟩
 have hrge:∀ y∈rep,-1≤y:=by rw [hrep];intro y hy;rw [(List.mem_replicate.1 hy).2];omega
 rw [← hrep] at hsz hl0 ⊢
 refine TC.lp (fun q:Nat × List Int=>[(1,.ep (prgC p) 0),(5,.hs 0),(7,.ep (fwC (graphOf p.cls) (ownF 0 p.cls)) 0),(8,V.int q.1)]) (fun q=>[.gs false Tc.int 1 none (q.2.map V.int)]) (fun q=>q.1≤p.mths.length∧q.2.length=p.nodes.length∧mthsB p rep (p.mths.take q.1)=some q.2) (fun q=>p.mths.length-q.1) (0,rep) [0] ⟨Nat.zero_le _,hl0,by simp [mthsB]⟩ ?_
 rintro ⟨k,o⟩ ⟨hk,hol,hrun⟩
 dsimp only at hk hol hrun ⊢
 by_cases hkl:k < p.mths.length
 ·obtain ⟨m,hm⟩:∃ m,m=p.mths[k]:=⟨_,rfl⟩
  have hbad:mthB p o m=none→sizesV p=none:=fun h=>by rw [hsz,mthsB_no hkl hrun (by rw [← hm];exact h)];rfl
  have hfo:=Ct239 (graphOf p.cls) (ownF 0 p.cls) (by omega) m.fact
  have hnx:=Ct253 m.kind
  rw [hgl,ownF_len] at hfo
  by_cases hkg:(1≤m.kind∧m.kind≤4)∧0≤m.gen∧m.gen < p.gens.length
  rotate_left
  ·rw [hbad (by rw [mthB,if_neg];simp only [Bool.and_eq_true,decide_eq_true_eq];exact hkg)]
   simp only [Option.getD_none,Option.isSome_none]
   refine goW ?_
   rw [mthA_eq,← hm]
   refine goW ?_
   (with_reducible refine TC.draw (id:=18) true 40 40 ?_<;>refine OD.st4 0 1 2 3 ?_<;>refine OD.sD 86 ?_ ?_<;>(intro hc;try (exfalso;omega))<;>(first|(with_reducible refine OD.st 4 ?_)|(with_reducible refine OD.of 4 ?_))<;>(first|refine OD.st 5 ?_|refine OD.of 5 ?_)<;>(first|refine OD.st 6 ?_|refine OD.of 6 ?_)<;>refine OD.st2 7 8 ?_<;>(first|refine OD.of 9 ?_|refine OD.sD 91 ?_ ?_<;>(intro hc;try (exfalso;omega))<;>(first|(with_reducible refine OD.st 9 ?_)|(with_reducible refine OD.of 9 ?_)))<;>(first|refine OD.st 10 ?_|refine OD.of 10 ?_)<;>(first|refine OD.st 11 ?_|refine OD.of 11 ?_)<;>refine OD.st2 12 13 ?_<;>(first|refine OD.of 14 ?_|refine OD.sD 96 ?_ ?_<;>(intro hc;try (exfalso;omega))<;>(first|(with_reducible refine OD.st 14 ?_)|(with_reducible refine OD.of 14 ?_)))<;>(first|refine OD.st 15 ?_|refine OD.of 15 ?_)<;>(first|refine OD.st 16 ?_|refine OD.of 16 ?_)<;>(first|refine OD.st 17 ?_|refine OD.of 17 ?_)<;>(first|refine OD.st 18 ?_|refine OD.of 18 ?_)<;>(first|refine OD.st 19 ?_|refine OD.of 19 ?_)<;>refine OD.st2 20 21 ?_<;>(first|refine OD.of 22 ?_|refine OD.sD 104 ?_ ?_<;>(intro hc;try (exfalso;omega))<;>(first|(with_reducible refine OD.st 22 ?_)|(with_reducible refine OD.of 22 ?_)))<;>refine OD.of 23 ?_<;>refine OD.of 24 ?_<;>refine OD.of 25 ?_<;>refine OD.of 26 ?_<;>refine OD.st2 27 28 ?_<;>refine OD.of 29 ?_<;>refine OD.of 30 ?_<;>refine OD.of 32 ?_<;>refine OD.of 33 ?_<;>refine OD.of 34 ?_<;>refine OD.of 35 ?_<;>refine OD.of 36 ?_<;>refine OD.of 37 ?_<;>refine OD.of 31 ?_<;>refine OD.of 38 ?_<;>refine OD.st 39 ?_<;>refine OD.dn ?_)
   all_goals refine goW ?_
   all_goals exact TX.rt2 [] (.nil (by decide)) (.ren rfl)
  obtain ⟨⟨hk1,hk4⟩,hg0,hgn⟩:=hkg
  have hgg:p.gens.getD m.gen.toNat 0=p.gens[m.gen.toNat]'(by omega):=getD_lt (by omega)
  have hgp:=gens_pos hinv (k:=m.gen.toNat) (by omega)
  have hmb:mthB p o m=if okF p.cls.length (slN p.cls) 24 12 m.fact&&decide (speaksF m.fact≤p.gens[m.gen.toNat]'(by omega)) then runB p (nxtB m.kind) o (belowL p m.node (p.gens[m.gen.toNat]'(by omega))) else none:=by
   rw [mthB,if_pos,hgg]
   simp only [Bool.and_eq_true,decide_eq_true_eq];omega
  cases hok:okF p.cls.length (slN p.cls) 24 12 m.fact
  ·rw [hok] at hfo hmb
   rw [hbad (by rw [hmb];rfl)]
   simp only [Option.getD_none,Option.isSome_none]
   refine goW ?_
   rw [mthA_eq,← hm]
   refine goW ?_
   (with_reducible refine TC.draw (id:=18) true 40 40 ?_<;>refine OD.st4 0 1 2 3 ?_<;>refine OD.sD 86 ?_ ?_<;>(intro hc;try (exfalso;omega))<;>(first|(with_reducible refine OD.st 4 ?_)|(with_reducible refine OD.of 4 ?_))<;>refine OD.st4 5 6 7 8 ?_<;>refine OD.sD 91 ?_ ?_<;>(intro hc;try (exfalso;omega))<;>(first|(with_reducible refine OD.st 9 ?_)|(with_reducible refine OD.of 9 ?_))<;>refine OD.st4 10 11 12 13 ?_<;>refine OD.sD 96 ?_ ?_<;>(intro hc;try (exfalso;omega))<;>(first|(with_reducible refine OD.st 14 ?_)|(with_reducible refine OD.of 14 ?_))<;>refine OD.st4 15 16 17 18 ?_<;>refine OD.st2 19 20 ?_<;>refine OD.st 21 ?_<;>refine OD.sD 104 ?_ ?_<;>(intro hc;try (exfalso;omega))<;>(first|(with_reducible refine OD.st 22 ?_)|(with_reducible refine OD.of 22 ?_))<;>refine OD.st 23 ?_<;>refine OD.st 24 ?_ (h:=gvM)<;>refine OD.c1 25 hfo Tryz.func131 ?_<;>refine OD.st2 26 27 ?_<;>refine OD.st 28 ?_<;>refine OD.of 29 ?_<;>refine OD.of 30 ?_<;>refine OD.of 32 ?_<;>refine OD.of 33 ?_<;>refine OD.of 34 ?_<;>refine OD.of 35 ?_<;>refine OD.of 36 ?_<;>refine OD.of 37 ?_<;>refine OD.of 31 ?_<;>refine OD.of 38 ?_<;>refine OD.st 39 ?_<;>refine OD.dn ?_)
   all_goals refine goW ?_
   all_goals exact TX.rt2 [] (.nil (by decide)) (.ren rfl)
  have hsp:=Ct244 p.cls.length (slN p.cls) 24 m.fact (by have:=(okF_parts.1 hok).1.1;omega) (okF_parts.1 hok).2
  rw [hok] at hfo
  rw [hok,Bool.true_and] at hmb
  by_cases hspk:speaksF m.fact≤p.gens[m.gen.toNat]'(by omega)
  rotate_left
  ·rw [hbad (by rw [hmb,if_neg (by simpa using hspk)])]
   simp only [Option.getD_none,Option.isSome_none]
   refine goW ?_
   rw [mthA_eq,← hm]
   refine goW ?_
   (with_reducible refine TC.draw (id:=18) true 40 40 ?_<;>refine OD.st4 0 1 2 3 ?_<;>refine OD.sD 86 ?_ ?_<;>(intro hc;try (exfalso;omega))<;>(first|(with_reducible refine OD.st 4 ?_)|(with_reducible refine OD.of 4 ?_))<;>refine OD.st4 5 6 7 8 ?_<;>refine OD.sD 91 ?_ ?_<;>(intro hc;try (exfalso;omega))<;>(first|(with_reducible refine OD.st 9 ?_)|(with_reducible refine OD.of 9 ?_))<;>refine OD.st4 10 11 12 13 ?_<;>refine OD.sD 96 ?_ ?_<;>(intro hc;try (exfalso;omega))<;>(first|(with_reducible refine OD.st 14 ?_)|(with_reducible refine OD.of 14 ?_))<;>refine OD.st4 15 16 17 18 ?_<;>refine OD.st2 19 20 ?_<;>refine OD.st 21 ?_<;>refine OD.sD 104 ?_ ?_<;>(intro hc;try (exfalso;omega))<;>(first|(with_reducible refine OD.st 22 ?_)|(with_reducible refine OD.of 22 ?_))<;>refine OD.st 23 ?_<;>refine OD.st 24 ?_ (h:=gvM)<;>refine OD.c1 25 hfo Tryz.func131 ?_<;>refine OD.st4 26 27 28 29 ?_<;>refine OD.st 30 ?_ (h:=gvM)<;>refine OD.st4 32 33 34 35 ?_<;>refine OD.st2 36 37 ?_<;>refine OD.c1 31 hsp Tryz.func132 ?_<;>refine OD.st2 38 39 ?_<;>refine OD.dn ?_)
   all_goals refine goW ?_
   all_goals exact TX.rt2 [] (.nil (by decide)) (.ren rfl)
  rw [if_pos (by simpa using hspk)] at hmb
  have hv:=Ct261 p hpk (by omega) (nxtB m.kind) 12 m.node (p.gens[m.gen.toNat]'(by omega)) 1 o (by omega) (by omega) (by omega) (by omega) hol
  rw [← show belowL p m.node (p.gens[m.gen.toNat]'(by omega))=visL p.nodes 12 m.node (p.gens[m.gen.toNat]'(by omega)) 1 from rfl,← hmb] at hv
  cases hq:mthB p o m with
  | none =>
    rw [hq] at hv
    simp only [outW,Option.isSome_none] at hv
    rw [hbad hq]
    simp only [Option.getD_none,Option.isSome_none]
    refine goW ?_
    rw [mthA_eq,← hm]
    refine goW ?_
    (with_reducible refine TC.draw (id:=18) true 40 40 ?_<;>refine OD.st4 0 1 2 3 ?_<;>refine OD.sD 86 ?_ ?_<;>(intro hc;try (exfalso;omega))<;>(first|(with_reducible refine OD.st 4 ?_)|(with_reducible refine OD.of 4 ?_))<;>refine OD.st4 5 6 7 8 ?_<;>refine OD.sD 91 ?_ ?_<;>(intro hc;try (exfalso;omega))<;>(first|(with_reducible refine OD.st 9 ?_)|(with_reducible refine OD.of 9 ?_))<;>refine OD.st4 10 11 12 13 ?_<;>refine OD.sD 96 ?_ ?_<;>(intro hc;try (exfalso;omega))<;>(first|(with_reducible refine OD.st 14 ?_)|(with_reducible refine OD.of 14 ?_))<;>refine OD.st4 15 16 17 18 ?_<;>refine OD.st2 19 20 ?_<;>refine OD.st 21 ?_<;>refine OD.sD 104 ?_ ?_<;>(intro hc;try (exfalso;omega))<;>(first|(with_reducible refine OD.st 22 ?_)|(with_reducible refine OD.of 22 ?_))<;>refine OD.st 23 ?_<;>refine OD.st 24 ?_ (h:=gvM)<;>refine OD.c1 25 hfo Tryz.func131 ?_<;>refine OD.st4 26 27 28 29 ?_<;>refine OD.st 30 ?_ (h:=gvM)<;>refine OD.st4 32 33 34 35 ?_<;>refine OD.st2 36 37 ?_<;>refine OD.c1 31 hsp Tryz.func132 ?_<;>refine OD.st2 38 39 ?_<;>refine OD.dn ?_)
    all_goals refine goW ?_
    all_goals
     (with_reducible refine TC.draw (id:=20) true 13 15 ?_<;>refine OD.st4 0 1 2 3 ?_<;>refine OD.st4 4 5 6 7 ?_<;>refine OD.st4 8 9 10 12 ?_<;>refine OD.c1 11 hnx Tryz.func134 ?_)<;>((with_reducible refine OD.a1 13 ?_);refine OL.ch [0] hv Tryz.func133 ?_<;>refine OL.nil ?_<;>refine TX.od ?_)<;>(with_reducible refine OD.st 14 ?_<;>refine OD.dn ?_)
     all_goals refine goW ?_
     all_goals exact TX.rt2 [] (.nil (by decide)) (.ren rfl)
  | some o2 =>
    have hlo2:=mthB_len hq
    rw [hq] at hv
    simp only [outW,Option.isSome_some] at hv
    have hsn:mthsB p rep (p.mths.take (k+1))=some o2:=by rw [take_succ hkl,mthsB_snoc,hrun,Option.bind_some,← hm];exact hq
    refine goW ?_
    rw [mthA_eq,← hm]
    refine goW ?_
    (with_reducible refine TC.draw (id:=18) true 40 40 ?_<;>refine OD.st4 0 1 2 3 ?_<;>refine OD.sD 86 ?_ ?_<;>(intro hc;try (exfalso;omega))<;>(first|(with_reducible refine OD.st 4 ?_)|(with_reducible refine OD.of 4 ?_))<;>refine OD.st4 5 6 7 8 ?_<;>refine OD.sD 91 ?_ ?_<;>(intro hc;try (exfalso;omega))<;>(first|(with_reducible refine OD.st 9 ?_)|(with_reducible refine OD.of 9 ?_))<;>refine OD.st4 10 11 12 13 ?_<;>refine OD.sD 96 ?_ ?_<;>(intro hc;try (exfalso;omega))<;>(first|(with_reducible refine OD.st 14 ?_)|(with_reducible refine OD.of 14 ?_))<;>refine OD.st4 15 16 17 18 ?_<;>refine OD.st2 19 20 ?_<;>refine OD.st 21 ?_<;>refine OD.sD 104 ?_ ?_<;>(intro hc;try (exfalso;omega))<;>(first|(with_reducible refine OD.st 22 ?_)|(with_reducible refine OD.of 22 ?_))<;>refine OD.st 23 ?_<;>refine OD.st 24 ?_ (h:=gvM)<;>refine OD.c1 25 hfo Tryz.func131 ?_<;>refine OD.st4 26 27 28 29 ?_<;>refine OD.st 30 ?_ (h:=gvM)<;>refine OD.st4 32 33 34 35 ?_<;>refine OD.st2 36 37 ?_<;>refine OD.c1 31 hsp Tryz.func132 ?_<;>refine OD.st2 38 39 ?_<;>refine OD.dn ?_)
    all_goals refine goW ?_
    all_goals
     (with_reducible refine TC.draw (id:=20) true 13 15 ?_<;>refine OD.st4 0 1 2 3 ?_<;>refine OD.st4 4 5 6 7 ?_<;>refine OD.st4 8 9 10 12 ?_<;>refine OD.c1 11 hnx Tryz.func134 ?_)<;>((with_reducible refine OD.a1 13 ?_);refine OL.ch [0] hv Tryz.func133 ?_<;>refine OL.nil ?_<;>refine TX.od ?_)<;>(with_reducible refine OD.st 14 ?_<;>refine OD.dn ?_)
     all_goals refine goW ?_
     all_goals exact TX.rd (k+1,o2) [0] ⟨by dsimp only;omega,by dsimp only;omega,hsn⟩ (by dsimp only;omega)
 rw [take_all (by omega)] at hrun
 rw [hrun,Option.bind_some] at hsz
 have hv:=Ct261 p hpk (by omega) false 12 p.main 0 1 o (by omega) (by omega) (by omega) (by omega) hol
 rw [← show belowL p p.main 0=visL p.nodes 12 p.main 0 1 from rfl] at hv
 have hoge:=mthsB_ge hinv hrun hrge
 cases hq:runB p false o (belowL p p.main 0) with
 | none =>
   rw [hq] at hv hsz
   simp only [outW,Option.isSome_none] at hv
   rw [hsz]
   simp only [Option.filter_none,Option.getD_none,Option.isSome_none]
   refine goW ?_
   refine OL.ch [0] hv Tryz.func133 ?_
   refine goW ?_
   exact TX.rt2 [] (.nil (by decide)) (.ren rfl)
 | some o2 =>
   have hlo2:=runB_len hq
   have hge2:=runB_ge hq hoge (visL_ge _ _ _ _ _ (by omega))
   rw [hq] at hv hsz
   simp only [outW,Option.isSome_some] at hv
   rw [Option.filter_some,neg_iff hge2] at hsz
   refine goW ?_
   refine OL.ch [0] hv Tryz.func133 ?_
   refine goW ?_
   refine TC.lp (fun i:Nat=>[(5,.hs 0),(10,V.int i)]) (fun _=>[.gs false Tc.int 1 none (o2.map V.int)]) (fun i=>i≤o2.length∧(o2.any fun y=>decide (y < 0))=((o2.drop i).any fun y=>decide (y < 0))) (fun i=>o2.length-i) 0 [0] ⟨Nat.zero_le _,rfl⟩ ?_
   rintro i ⟨hi,hany⟩
   by_cases hil:i < o2.length
   ·rw [drop_cons hil,List.any_cons] at hany
    by_cases hneg:o2[i] < 0
    ·rw [hany,decide_eq_true hneg] at hsz
     simp only [Bool.true_or,Bool.not_true,Bool.false_eq_true,if_false] at hsz
     rw [hsz]
     simp only [Option.getD_none,Option.isSome_none]
     refine goW ?_
     exact TX.rt2 [] (.nil (by decide)) (.ren rfl)
    ·rw [decide_eq_false hneg,Bool.false_or] at hany
     refine goW ?_
     exact TX.rd (i+1) [0] ⟨by omega,hany⟩ (by omega)
   ·rw [drop_nil (by omega),List.any_nil] at hany
    rw [hany] at hsz
    simp only [Bool.not_false,if_true] at hsz
    rw [hsz]
    simp only [Option.getD_some,Option.isSome_some]
    refine goW ?_
    refine TX.vw 2 ?_
    exact TX.rt2 [] (.ren rfl) (.ren rfl)
theorem Ct254 (p:Prg) (hs:Short p.cls) (hpk:∀ x∈p.nodes,x.2.2.length*8≤140737488355328):V.Spec Tryz.prog 56 [prgA p] [] (V.bool (progB p)) []:=by
 have h:=Ct259 p hs hpk
 refine V.Spec.enter Tryz.tabOK Tryz.mixed Tryz.func56 rfl rfl rfl fun B hB=>?_
 refine goW ?_
 refine OL.c h Tryz.func94 ?_
 refine goW ?_
 exact TX.rt1 [] (.ren rfl)
end Go.Proofs
namespace Go.V
open Go Go.W Go.Proofs
section
variable {C:Cx} {ops:Array Oper} {Q:Qt} {ρ:Ro} {η η2:Eta} {rest:List Oper} {T d X:Nat} {pos:String} {af:Array Edge} {x y:Operand}
theorem gvIdxU {M:Bool} {i len E:Nat} {j:Int} (n:Nat) (hs:(C.tab X).map (·.sh)=some (.array len E):=by with_unfolding_all exact rfl) (hz:(C.tab E).map (·.size)=some 1:=by with_unfolding_all exact rfl)
  (hx:ev2 ρ x=some (.bp i 2):=by with_unfolding_all exact rfl) (hy:ev2 ρ y=some (.raw (.int .i64 j)):=by with_unfolding_all exact rfl) (hj:j=(n:Nat):=by omega) (hn:n < len:=by omega):Gives C.P C.N C.D (.indexAddr X x y) ρ η (.bp i (2+n)) M:=
 give_idx_arr C.hT hs hz hx hy hj hn (u':=.bp i (2+n)) (by simp [ptrAdd])
theorem OL.idxU {i len E:Nat} {j:Int} (n:Nat) (k:OL C ops Q rest ((d,.bp i (2+n))::ρ) η) (hs:(C.tab X).map (·.sh)=some (.array len E):=by with_unfolding_all exact rfl) (hz:(C.tab E).map (·.size)=some 1:=by with_unfolding_all exact rfl)
  (hx:ev2 ρ x=some (.bp i 2):=by with_unfolding_all exact rfl) (hy:ev2 ρ y=some (.raw (.int .i64 j)):=by with_unfolding_all exact rfl) (hd:Nat.blt d C.N=true:=by with_unfolding_all exact rfl) (hj:j=(n:Nat):=by omega) (hn:n < len:=by omega):OL C ops Q (⟨some d,.indexAddr X x y,T,pos,af,none⟩::rest) ρ η:=
 OL.give (gvIdxU n hs hz hx hy hj hn) hd k
theorem OL.ldU {i E n:Nat} {g:List (List Int)} {ow:List Int} {us:List Nat} (k:∀ hn:n < us.length,OL C ops Q rest ((d,V.u64 us[n])::ρ) η) (hs:(C.tab X).map (·.sh.agg)=some false:=by with_unfolding_all exact rfl)
  (hx:ev2 ρ x=some (.bp i (2+n)):=by with_unfolding_all exact rfl) (ho:η[i]?=some (.cb E (wC g ow us)):=by with_unfolding_all exact rfl) (hd:Nat.blt d C.N=true:=by with_unfolding_all exact rfl) (hn:n < us.length:=by omega):OL C ops Q (⟨some d,.load X x,T,pos,af,none⟩::rest) ρ η:=
 OL.give (give_load (cs:=wC g ow us) (o:=2+n) C.hT hs hx (by simp only [behind,ho]) (by rw [Nat.add_comm];simp [hn])) hd (k hn)
theorem OL.stU {i E n:Nat} {g:List (List Int)} {ow:List Int} {us:List Nat} {v:Nat} (k:OL C ops Q rest ρ η2) (hs:(C.tab X).map (fun e=>(e.sh.agg,e.size))=some (false,1):=by with_unfolding_all exact rfl)
  (hx:ev2 ρ x=some (.bp i (2+n)):=by with_unfolding_all exact rfl) (hy:ev2 ρ y=some (V.u64 v):=by with_unfolding_all exact rfl) (ho:η[i]?=some (.cb E (wC g ow us)):=by with_unfolding_all exact rfl) (hη:η.set i (.cb E (wC g ow (us.set n v)))=η2:=by (try dsimp only [List.set])<;>exact rfl) (hn:n < us.length:=by omega):OL C ops Q (⟨none,.store X x y,T,pos,af,none⟩::rest) ρ η:=
 OL.store (cs:=wC g ow us) (o:=2+n) (u:=V.u64 v) (u0:=V.u64 us[n]) k hs hx hy rfl rfl ho (by rw [Nat.add_comm];simp [hn]) (by rw [← hη];congr 2;rw [Nat.add_comm];simp [List.map_set])
end
theorem OE.wC {τ T} {g:List (List Int)} {ow:List Int} {us us':List Nat} (h:us=us'):OE τ (.cb T (wC g ow us)) (.cb T (wC g ow us')):=by
 subst h
 refine OE.ren ?_
 simp only [renO,List.map_append,List.map_map,List.map_cons,List.map_nil]
 congr 1
theorem wC_pure (g:List (List Int)) (ow:List Int) (us:List Nat):(wC g ow us).all pureA=true:=by
 simp [pureA]
end Go.V
namespace Go.Proofs
open Go Go.W Go.V
theorem Ct3 (l:List Fct) (p:Fct→Bool):V.Spec Tryz.prog 273 [.sl 6 none (l.map fctA),predE Tryz.prog fctA (·∈l) p] [] (V.int (fidx p 0 l)) []:=by
 refine V.Spec.enter Tryz.tabOK Tryz.mixed Tryz.func273 rfl rfl rfl fun B hB=>?_
 refine TC.bl 0 fun hl=>?_
 refine goW ?_
 refine TC.lp (fun k:Nat=>[(0,.sl 6 none (l.map fctA)),(1,predE Tryz.prog fctA (·∈l) p),(7,V.int l.length),(8,V.int k)]) (fun _=>[]) (fun k=>k≤l.length∧fidx p 0 l=fidx p k (l.drop k)) (fun k=>l.length-k) 0 [] ⟨Nat.zero_le _,rfl⟩ ?_
 rintro k ⟨hk,hinv⟩
 (refine goSW ?_ ?_<;>intro hc<;>refine goW ?_)
 ·refine OL.cf l[k] (List.getElem_mem _) ?_
  refine goW ?_
  refine TC.ifB (fun hp=>?_) (fun hp=>?_)
  ·refine goW ?_
   refine TX.rt1 [] (.int ?_)
   rw [hinv,drop_cons (by omega)]
   simp [fidx,hp]
  ·refine goW ?_
   refine TX.rd (k+1) [] ⟨by omega,?_⟩ (by omega)
   rw [hinv,drop_cons (by omega)]
   simp [fidx,hp]
 ·refine TX.rt1 [] (.int ?_)
  rw [hinv,drop_nil (by omega)]
  rfl
theorem Ct1 (l:List Fct) (p:Fct→Bool):V.Spec Tryz.prog 266 [.sl 6 none (l.map fctA),predE Tryz.prog fctA (·∈l) p] [] (V.bool (l.any p)) []:=by
 refine V.Spec.enter Tryz.tabOK Tryz.mixed Tryz.func266 rfl rfl rfl fun B hB=>?_
 refine goW ?_
 refine OL.c (Ct3 l p) Tryz.func273 ?_
 refine goW ?_
 refine TX.rt1 [] (.bool ?_)
 cases h:l.any p
 ·rw [decide_eq_false];intro h';rw [(fidx_nonneg _ _ _).1 h'] at h;cases h
 ·exact decide_eq_true ((fidx_nonneg _ _ _).2 h)
theorem Ct14 (dom:Fct→Prop) (p:Fct→Bool) (x:Fct) (hx:dom x):V.Spec Tryz.prog 267 [fctA x,.ep [predE Tryz.prog fctA dom p] 0] [] (V.bool (!p x)) []:=by
 refine V.Spec.enter Tryz.tabOK Tryz.mixed Tryz.func267 rfl rfl rfl fun B hB=>?_
 refine goW ?_
 refine OL.cf x hx ?_
 refine goW ?_
 exact TX.rt1 [] (.ren rfl)
theorem Ct11 (l:List Fct) (p:Fct→Bool):V.Spec Tryz.prog 261 [.sl 6 none (l.map fctA),predE Tryz.prog fctA (·∈l) p] [] (V.bool (l.all p)) []:=by
 have h:=Ct1 l (fun x=>!p x)
 refine V.Spec.enter Tryz.tabOK Tryz.mixed Tryz.func261 rfl rfl rfl fun B hB=>?_
 refine goW ?_
 refine OL.frzA 0 ?_
 refine OL.c h Tryz.func266 ?_ (hle:=by exact ⟨.ren rfl,LE.fun_ (first':=[]) (caps':=[.ep [predE Tryz.prog fctA (·∈l) p] 0]) Tryz.func267 rfl trivial ⟨.ren rfl,trivial⟩ (fun x hx=>Ct14 (·∈l) p x hx),trivial⟩)
 refine goW ?_
 refine TX.rt1 [] (.bool ?_)
 rw [List.not_any_eq_all_not];simp
section
variable (g:List (List Int)) (ow:List Int) (us:List Nat)
theorem Ct55 (hgb:g.length≤1000000) (f:Fct):V.Spec Tryz.prog 262 [fctA f,.ep [wP g ow us] 0] [] (V.bool (okF g.length ow.length 24 12 f)) []:=by
 have h:=Ct58 g ow us hgb 12 (Nat.le_refl _) f 24 (by omega) (by omega)
 refine V.Spec.enter Tryz.tabOK Tryz.mixed Tryz.func262 rfl rfl rfl fun B hB=>?_
 refine goW ?_
 refine OL.ch [1] h Tryz.func263 ?_
 refine goW ?_
 exact TX.rt1 [] (.ren rfl)
theorem Ct54 (hgb:g.length≤1000000) (l:List Fct):V.Spec Tryz.prog 251 [wP g ow us,.sl 6 none (l.map fctA)] [] (V.bool (l.all fun f=>okF g.length ow.length 24 12 f)) []:=by
 have h:=Ct11 l fun f=>okF g.length ow.length 24 12 f
 refine V.Spec.enter Tryz.tabOK Tryz.mixed Tryz.func251 rfl rfl rfl fun B hB=>?_
 refine goW ?_
 refine OL.frzA 0 ?_
 refine OL.c h Tryz.func261 ?_ (hle:=by exact ⟨.ren rfl,LE.fun_ (first':=[]) (caps':=[.ep [wP g ow us] 0]) Tryz.func262 rfl trivial ⟨.ren rfl,trivial⟩ (fun x hx=>Ct55 g ow us hgb x),trivial⟩)
 refine goW ?_
 exact TX.rt1 [] (.ren rfl)
end
/-! ## Worlds are opened -/
theorem Ct65 (x:Nat) (hx:x < 2 ^ 64) (c:Int) (h0:0≤c) (h1:c < 64):V.Spec Tryz.prog 258 [V.u64 x,V.int c] [] (V.u64 (setWith x c.toNat)) []:=by
 refine V.Spec.enter Tryz.tabOK Tryz.mixed Tryz.func258 rfl rfl rfl fun B hB=>?_
 refine goW ?_
 exact TX.rt1 [] (.ren rfl)
theorem upsF_app:∀ (a b:List (List Int)) (us:List Nat),upsF us (a++b)=upsF (upsF us a) b
 | [],b,us=>rfl
 | p::r,b,us=>by rw [List.cons_append,upsF,upsF,upsF_app r b]
theorem ups_take {g:List (List Int)} {k:Nat} (h:k < g.length):ups (g.take (k+1))=ups (g.take k)++[upOf (ups (g.take k)) g[k] (3+k)]:=by
 have e:(ups (g.take k)).length=3+k:=by rw [ups_length,List.length_take,Nat.min_eq_left (by omega)]
 rw [ups,parentsOf,take_succ h,← List.append_assoc,upsF_app]
 rw [show upsF [] ([[],[],[]]++g.take k)=ups (g.take k) from rfl,upsF,upsF,e]
def usT (g:List (List Int)) (k:Nat):List Nat:=ups (g.take k)++List.replicate (60-k) 0
def usF (g:List (List Int)):List Nat:=usT g g.length
theorem usT_len {g:List (List Int)} {k:Nat} (hk:k≤g.length) (h60:g.length≤60):(usT g k).length=63:=by
 rw [usT,List.length_append,ups_length,List.length_take,List.length_replicate];omega
theorem usT_set {g:List (List Int)} {k:Nat} (hk:k < g.length) (h60:g.length≤60):(usT g k).set (3+k) (upOf (ups (g.take k)) g[k] (3+k))=usT g (k+1):=by
 have e:(ups (g.take k)).length=3+k:=by rw [ups_length,List.length_take,Nat.min_eq_left (by omega)]
 rw [usT,usT,ups_take hk,List.set_append_right _ _ (by omega),e,Nat.sub_self,show 60-k=(60-(k+1))+1 by omega,List.replicate_succ,List.set_cons_zero,List.append_assoc]
 rfl
theorem usT_get {g:List (List Int)} {k p:Nat} (hk:k≤g.length) (hp:p < 3+k) (h:p < (usT g k).length):(usT g k)[p]=(ups (g.take k)).getD p 0:=by
 have e:(ups (g.take k)).length=3+k:=by rw [ups_length,List.length_take,Nat.min_eq_left (by omega)]
 rw [getD_lt (by omega)]
 exact List.getElem_append_left (by omega)
theorem ups_ltT {g:List (List Int)} (h60:g.length≤60) (k:Nat):∀ u∈ups (g.take k),u < 2 ^ 64:=upsF_lt _ [] (by rw [parentsOf_length,List.length_take];simp;omega) (by simp)
set_option maxHeartbeats 4000000 in
theorem Ct59 (g:List (List Int)) (ow:List Int) (hf:fine g=true) (how:∀ o∈ow,3≤o∧o < 3+(g.length:Int)) (h40:ow.length≤40) :
  V.Spec Tryz.prog 250 [fwA g ow] [] (.tp [wP g ow (usF g),V.bool true]) []:=by
 have h16:=fine_len hf
 have hal:=Ct51 ow (fun c=>decide (3≤c)&&decide (c < 3+(g.length:Int)))
 have hall:ow.all (fun c=>decide (3≤c)&&decide (c < 3+(g.length:Int)))=true:=by
  rw [List.all_eq_true];intro o ho;have:=how o ho;simp;omega
 rw [hall] at hal
 have hu0:=usT_len (g:=g) (k:=0) (Nat.zero_le _) (by omega)
 refine V.Spec.enter Tryz.tabOK Tryz.mixed Tryz.func250 rfl rfl rfl fun B hB=>?_
 refine goW ?_
 refine TC.frzB 1 ?_
 refine TC.lp (fun k:Nat=>[(1,.ep (fwC g ow) 0),(4,.bp 1 0),(24,V.int k)]) (fun k=>[.dead,.cb Tc.fact_world (wC g ow (((List.range k).map fun c=>setWith 1 c)++List.replicate (63-k) 0))]) (fun k=>k≤3) (fun k=>3-k) 0 [0,1] (Nat.zero_le _) ?_ (ho:=⟨⟨_,rfl,OE.ren rfl⟩,⟨_,rfl,OE.ren (by with_unfolding_all exact rfl)⟩,trivial⟩)
 rintro k hk
 by_cases hk3:k < 3
 ·have hw:=Ct65 1 (by omega) k (by omega) (by omega)
  have hst:(((List.range k).map fun c=>setWith 1 c)++List.replicate (63-k) 0).set k (setWith 1 k)=(((List.range (k+1)).map fun c=>setWith 1 c)++List.replicate (63-(k+1)) 0):=by
   rw [List.set_append_right _ _ (by simp),List.length_map,List.length_range,Nat.sub_self,show 63-k=(63-(k+1))+1 by omega,List.replicate_succ,List.set_cons_zero,List.range_succ,List.map_append,List.append_assoc]
   rfl
  have hlen:(((List.range k).map fun c=>setWith 1 c)++List.replicate (63-k) 0).length=63:=by simp;omega
  generalize (((List.range k).map fun c=>setWith 1 c)++List.replicate (63-k) 0)=us at *
  refine goW ?_
  (with_reducible refine TC.draw (id:=7) true 7 8 ?_<;>refine OD.st 0 ?_<;>refine OD.st 1 ?_<;>refine OD.st 2 ?_<;>refine OD.st 4 ?_<;>refine OD.st 5 ?_<;>refine OD.c1 3 hw Tryz.func258 ?_<;>refine OD.st 6 ?_ (h:=(gvIdxU k))<;>(refine OD.a1 7 ?_;refine OL.stU (n:=k) ?_;refine OL.nil ?_;refine TX.od ?_)<;>refine OD.dn ?_)
  all_goals refine goW ?_
  all_goals exact TX.rd (k+1) [0,1] (by omega) (by omega) (ho:=⟨⟨_,rfl,OE.ren rfl⟩,⟨_,rfl,OE.wC (by rw [Int.toNat_natCast] at *;exact hst)⟩,trivial⟩)
 obtain rfl:k=3:=by omega
 have e3:(((List.range 3).map fun c=>setWith 1 c)++List.replicate (63-3) 0)=usT g 0:=by rw [usT,List.take_zero];rfl
 rw [e3]
 refine goW ?_
 refine TC.lp (fun k:Nat=>[(1,.ep (fwC g ow) 0),(4,.bp 1 0),(36,rows g),(37,V.int g.length),(38,V.int k)]) (fun k=>[.dead,.cb Tc.fact_world (wC g ow (usT g k))]) (fun k=>k≤g.length) (fun k=>g.length-k) 0 [0,1] (Nat.zero_le _) ?_ (ho:=⟨⟨_,rfl,OE.ren rfl⟩,⟨_,rfl,OE.wC rfl⟩,trivial⟩)
 rintro k hk
 have hul:=usT_len hk (show g.length≤60 by omega)
 by_cases hkl:k < g.length
 ·have hw:=Ct65 1 (by omega) (3+(k:Int)) (by omega) (by omega)
  have hset:=usT_set hkl (show g.length≤60 by omega)
  have hps:=fine_pOf hf (c:=((3+k:Nat):Int)) (by omega)
  have hpi:pOf g ((3+k:Nat):Int)=g[k]:=by rw [pOf_ge (by omega),getD_lt (by omega)];congr 1;omega
  rw [hpi] at hps
  obtain ⟨hp3,hpr,hpn⟩:=hps
  have hult:=ups_ltT (show g.length≤60 by omega) k
  have huln:(ups (g.take k)).length=3+k:=by rw [ups_length,List.length_take,Nat.min_eq_left (by omega)]
  have hgt:∀ (p:Int) (hp:p∈g[k]),(usT g k)[p.toNat]'(by have:=hpr p hp;omega)=(ups (g.take k)).getD p.toNat 0:=fun p hp=>usT_get (by omega) (by have:=hpr p hp;omega) (by have:=hpr p hp;omega)
  have huK:∀ i,i≤g[k].length→upK (ups (g.take k)) g[k] (3+k) i < 2 ^ 64:=by
   intro i
   induction i with
   | zero =>
     intro _
     rw [upK,List.take_zero,List.foldl_nil]
     exact Nat.or_lt_two_pow (Nat.or_lt_two_pow (by decide) (by rw [Nat.one_shiftLeft];exact Nat.pow_lt_pow_right (by omega) (by omega))) (by decide)
   | succ i ih =>
     intro hi
     have hpm:=hpr g[k][i] (List.getElem_mem _)
     rw [upK_succ (by omega) (by omega)]
     exact Nat.or_lt_two_pow (ih (by omega)) (hult _ (List.getElem_mem _))
  have hw0:setWith 1 (3+k)=upK (ups (g.take k)) g[k] (3+k) 0:=by
   rw [upK,List.take_zero,List.foldl_nil,setWith,setWith,setWith,Nat.zero_or,Nat.or_comm];rfl
  rw [show (3+(k:Int)).toNat=3+k by omega,hw0] at hw
  refine goW ?_
  refine OL.c hw Tryz.func258 ?_
  refine goW ?_
  generalize hgk:g[k]=ps at *
  refine TC.lp (fun i:Nat=>[(1,.ep (fwC g ow) 0),(4,.bp 1 0),(36,rows g),(37,V.int g.length),(38,V.int k),(6,V.int k),(7,ints ps),(8,V.u64 (upK (ups (g.take k)) ps (3+k) i)),(46,ints ps),(47,V.int ps.length),(48,V.int i)]) (fun i=>[.dead,.cb Tc.fact_world (wC g ow (usT g k))]) (fun i=>i≤ps.length) (fun i=>ps.length-i) 0 [0,1] (Nat.zero_le _) ?_ (ho:=⟨⟨_,rfl,OE.ren rfl⟩,⟨_,rfl,OE.wC rfl⟩,trivial⟩)
  rintro i hi
  by_cases hil:i < ps.length
  ·have hpm:=hpr ps[i] (List.getElem_mem _)
   have hct:=Ct318 (ps.take i) ps[i]
   have hcf:(ps.take i).contains ps[i]=false:=by
    rw [Bool.eq_false_iff,ne_eq,List.contains_iff_mem,List.mem_take_iff_getElem]
    rintro ⟨j,hj,he⟩
    have:=(List.getElem_inj (h₀:=by omega) (h₁:=hil) hpn).1 he
    omega
   rw [hcf] at hct
   have hk1:=huK i (by omega)
   have hk2:=upK_succ (us:=ups (g.take k)) (ps:=ps) (c:=3+k) hil (by omega)
   have hg1:(usT g k)[ps[i].toNat]'(by omega)=(ups (g.take k))[ps[i].toNat]'(by omega):=by rw [hgt _ (List.getElem_mem _),getD_lt]
   have hk3:(usT g k)[ps[i].toNat]'(by omega) < 2 ^ 64:=by rw [hg1];exact hult _ (List.getElem_mem _)
   rw [← hg1] at hk2
   generalize upK (ups (g.take k)) ps (3+k) i=s0 at *
   refine goW ?_
   refine OL.c hct Tryz.func30 ?_
   refine goW ?_
   refine OL.idxU ps[i].toNat ?_
   refine OL.ldU (n:=ps[i].toNat) (fun _=>?_)
   refine goW ?_
   exact TX.rd (i+1) [0,1] (by omega) (by omega) (ho:=⟨⟨_,rfl,OE.ren rfl⟩,⟨_,rfl,OE.wC rfl⟩,trivial⟩) (hr:=by rw [hk2];with_unfolding_all exact ⟨⟨_,rfl,LE.ren rfl⟩,⟨_,rfl,LE.ren rfl⟩,⟨_,rfl,LE.ren rfl⟩,⟨_,rfl,LE.ren rfl⟩,⟨_,rfl,LE.ren rfl⟩,⟨_,rfl,LE.ren rfl⟩,⟨_,rfl,LE.ren rfl⟩,⟨_,rfl,LE.ren rfl⟩,⟨_,rfl,LE.ren rfl⟩,⟨_,rfl,LE.ren rfl⟩,⟨_,rfl,LE.ren rfl⟩,trivial⟩)
  ·obtain rfl:i=ps.length:=by omega
   rw [show upK (ups (g.take k)) ps (3+k) ps.length=upOf (ups (g.take k)) ps (3+k) from rfl]
   refine goW ?_
   refine OL.idxU (3+k) ?_
   refine OL.stU (n:=3+k) ?_
   refine goW ?_
   exact TX.rd (k+1) [0,1] (by omega) (by omega) (ho:=⟨⟨_,rfl,OE.ren rfl⟩,⟨_,rfl,OE.wC hset⟩,trivial⟩)
 ·obtain rfl:k=g.length:=by omega
  rw [show usT g g.length=usF g from rfl]
  refine TC.frzB 4 ?_ (hp:=wC_pure _ _ _)
  refine goW ?_
  refine OL.c hal Tryz.func259 ?_ (hle:=by exact ⟨.ren rfl,LE.fun_ (first':=[wP g ow (usF g)]) (caps':=[]) Tryz.func260 rfl ⟨.ren rfl,trivial⟩ trivial (fun x _=>Ct60 g ow (usF g) (by omega) x),trivial⟩)
  refine goW ?_
  exact TX.rt2 [] (.ren rfl) (.ren rfl)
theorem Ct63 (b:Bool):V.Spec Tryz.prog 230 [V.bool b] [] (V.int (if b then 0 else 2)) []:=by
 refine V.Spec.enter Tryz.tabOK Tryz.mixed Tryz.func230 rfl rfl rfl fun B hB=>?_
 cases b
 ·refine goW ?_
  exact TX.rt1 [] (.ren rfl)
 ·refine goW ?_
  exact TX.rt1 [] (.ren rfl)
section
variable (g:List (List Int)) (ow:List Int) (hf:fine g=true) (how:∀ o∈ow,3≤o∧o < 3+(g.length:Int)) (h40:ow.length≤40)
include hf how h40
theorem Ct62 (l:List Fct):V.Spec Tryz.prog 229 [fwA g ow,.sl 6 none (l.map fctA)] [] (.tp [wP g ow (usF g),V.bool (l.all fun f=>okF g.length ow.length 24 12 f)]) []:=by
 have h16:=fine_len hf
 have h1:=Ct59 g ow hf how h40
 have h2:=Ct54 g ow (usF g) (by omega) l
 refine V.Spec.enter Tryz.tabOK Tryz.mixed Tryz.func229 rfl rfl rfl fun B hB=>?_
 refine goW ?_
 refine OL.c h1 Tryz.func250 ?_
 refine goW ?_
 refine OL.c h2 Tryz.func251 ?_
 refine goW ?_
 exact TX.rt2 [] (.ren rfl) (.ren rfl)
theorem Ct50 (f:Fct):V.Spec Tryz.prog 182 [fwA g ow,fctA f] [] (V.int (if okF g.length ow.length 24 12 f then 0 else 2)) []:=by
 have h1:=Ct62 g ow hf how h40 [f]
 have h2:=Ct63 (okF g.length ow.length 24 12 f)
 rw [show [f].all (fun f=>okF g.length ow.length 24 12 f)=okF g.length ow.length 24 12 f by simp] at h1
 refine V.Spec.enter Tryz.tabOK Tryz.mixed Tryz.func182 rfl rfl rfl fun B hB=>?_
 refine goW ?_
 refine OL.vwA 1 ?_
 refine OL.c h1 Tryz.func229 ?_
 refine goW ?_
 refine OL.c h2 Tryz.func230 ?_
 refine goW ?_
 exact TX.rt1 [] (.ren rfl)
end
end Go.Proofs
namespace Go.Proofs
open Go Go.W Go.V
set_option maxHeartbeats 1000000 in
theorem Ct37 (np no:Nat):∀ (n:Nat) (f:Fct),nodesF f≤n→nodeOkB np no f=true→V.Spec Tryz.prog 183 [fctA f] [] (V.int (speaksF f)) []:=by
 intro n
 induction n with
 | zero=>intro f h;have:=nodesF_pos f;omega
 | succ n ih =>
   intro f hn hok
   rw [nodeOkB_eq,Bool.and_eq_true] at hok
   obtain ⟨hh,hks⟩:=hok
   have hkk:∀ l:List Fct,nodesOkB np no l=true→∀ k∈l,nodeOkB np no k=true:=by
    intro l
    induction l with
    | nil=>simp
    | cons x r ih2 =>
      intro h k hk
      rw [nodesOkB,Bool.and_eq_true] at h
      rcases List.mem_cons.1 hk with rfl|hk
      ·exact h.1
      ·exact ih2 h.2 k hk
   have hkid:∀ k∈f.kids,V.Spec Tryz.prog 183 [fctA k] [] (V.int (speaksF k)) []:=fun k hk=>ih k (by have:=kid_nodes hk;omega) (hkk _ hks k hk)
   have harg:leafB f.op=true→0≤f.arg∧f.arg < 3:=by
    intro hlf
    obtain ⟨op,arg,path,cls,fn,l⟩:=f
    rw [headB,if_pos hlf] at hh
    simp only [Bool.and_eq_true,decide_eq_true_eq] at hh
    exact hh.2.1.1
   rw [speaksF_eq]
   rw [fctA_eq]
   obtain ⟨op,arg,path,cls,fn,l⟩:=f
   simp only [Fct.op,Fct.arg,Fct.path,Fct.cls,Fct.n,Fct.kids] at *
   by_cases hlf:op=2∨op=3∨op=4
   ·have hl1:leafB op=true:=by simp [leafB];omega
    have harg:=harg hl1
    rw [if_pos hl1]
    refine V.Spec.enter Tryz.tabOK Tryz.mixed Tryz.func183 rfl rfl rfl fun B hB=>?_
    with_reducible refine TC.seq ?_
    with_reducible refine TC.region ?_
    with_reducible refine OL.box ?_
    with_reducible refine OL.st ?_
    with_reducible refine OL.nil ?_
    with_reducible refine TX.thenN ?_
    with_reducible refine TC.seq ?_
    with_reducible refine TC.region ?_
    with_reducible refine OL.st ?_
    with_reducible refine OL.nil ?_
    with_reducible refine TX.thenN ?_
    with_reducible refine TC.seq ?_
    refine TC.cut [(1,.bp 0 0),(3,V.int (arg+1))] [.cb Tc.api_Fact [V.int op,V.int arg,ints path,V.int cls,V.int fn,.sl 6 none (l.map fctA)]] ?_ ?_
    ·repeat' (with_reducible first|refine OL.st ?_|refine TC.region ?_|refine TC.seq ?_|refine OL.nil ?_|refine TX.thenN ?_|refine TC.ifT ?_|refine OL.gOn ?_|refine OL.gOff ?_|refine TC.ifD ?_ ?_<;>(intro hc;try (exfalso;omega))|refine OL.gD ?_ ?_<;>(intro hc;try (exfalso;omega))|fail)
     all_goals exact TX.ct [0]
    refine goW ?_
    refine TC.bl 23 fun hll=>?_
    refine TC.lp (fun k:Nat=>[(3,V.int (max (arg+1) (speaksL (l.take k)))),(23,.sl 6 none (l.map fctA)),(24,V.int l.length),(25,V.int k)]) (fun _=>[]) (fun k=>k≤l.length) (fun k=>l.length-k) 0 [] (Nat.zero_le _) ?_ (hr:=⟨⟨_,rfl,LE.int (by rw [List.take_zero,speaksL];omega)⟩,⟨_,rfl,LE.ren rfl⟩,⟨_,rfl,LE.ren rfl⟩,⟨_,rfl,LE.ren rfl⟩,trivial⟩)
    rintro k hk
    by_cases hkl:k < l.length
    ·have hs:=hkid l[k] (List.getElem_mem _)
     have e:speaksL (l.take (k+1))=max (speaksL (l.take k)) (speaksF l[k]):=by rw [take_succ hkl,speaksL_snoc]
     refine goW ?_
     refine OL.c hs Tryz.func183 ?_
     refine OL.max (max (arg+1) (speaksL (l.take (k+1)))) ?_ (hc:=by rw [e];omega)
     refine goW ?_
     exact TX.rd (k+1) [] (by omega) (by omega)
    ·rw [take_all (by omega)]
     refine goW ?_
     exact TX.rt1 [] (.ren rfl)
   ·have hl1:leafB op=false:=by rw [Bool.eq_false_iff];simp [leafB];omega
    rw [if_neg (by rw [hl1];decide)]
    refine V.Spec.enter Tryz.tabOK Tryz.mixed Tryz.func183 rfl rfl rfl fun B hB=>?_
    refine goW ?_
    refine TC.bl 23 fun hll=>?_
    refine TC.lp (fun k:Nat=>[(3,V.int (max 0 (speaksL (l.take k)))),(23,.sl 6 none (l.map fctA)),(24,V.int l.length),(25,V.int k)]) (fun _=>[]) (fun k=>k≤l.length) (fun k=>l.length-k) 0 [] (Nat.zero_le _) ?_
    rintro k hk
    by_cases hkl:k < l.length
    ·have hs:=hkid l[k] (List.getElem_mem _)
     have e:speaksL (l.take (k+1))=max (speaksL (l.take k)) (speaksF l[k]):=by rw [take_succ hkl,speaksL_snoc]
     refine goW ?_
     refine OL.c hs Tryz.func183 ?_
     refine OL.max (max 0 (speaksL (l.take (k+1)))) ?_ (hc:=by rw [e];omega)
     refine goW ?_
     exact TX.rd (k+1) [] (by omega) (by omega)
    ·rw [take_all (by omega)]
     refine goW ?_
     exact TX.rt1 [] (.ren rfl)
end Go.Proofs
namespace Go.V
open Go Go.W Go.Proofs
section
variable {C:Cx} {ops:Array Oper} {Q:Qt} {ρ:Ro} {η:Eta} {rest:List Oper} {T d:Nat} {pos:String} {af:Array Edge} {args:List Operand} {at_:Array TypeId}
theorem OL.needB {b:Bool} (h1:b=true→OL C ops Q rest ((d,.tp [])::ρ) η) (h2:b=false→TX C Q (.panic (pan upv)) ρ η) (hx:evs2 ρ args=some [V.bool b]:=by with_unfolding_all exact rfl) (hP:C.P=Tryz.prog:=by with_unfolding_all exact rfl) (hd:Nat.blt d C.N=true:=by with_unfolding_all exact rfl) :
  OL C ops Q (⟨some d,.call ⟨.value (.func 175),args.toArray,at_⟩,T,pos,af,none⟩::rest) ρ η:=by
 cases b
 ·exact OL.cX [] Ct194 Tryz.func175 (h2 rfl) (hP:=hP) (hl:=hx) (ho:=trivial) (hle:=⟨.ren rfl,trivial⟩) (hη:=by simp [upd])
 ·exact OL.c Ct195 Tryz.func175 (h1 rfl) (hP:=hP) (hl:=hx) (hle:=⟨.ren rfl,trivial⟩) (hd:=hd) (hη:=by simp)
theorem OL.needT (k:OL C ops Q rest ((d,.tp [])::ρ) η) (hx:evs2 ρ args=some [V.bool true]:=by with_unfolding_all exact rfl) (hP:C.P=Tryz.prog:=by with_unfolding_all exact rfl) (hd:Nat.blt d C.N=true:=by with_unfolding_all exact rfl) :
  OL C ops Q (⟨some d,.call ⟨.value (.func 175),args.toArray,at_⟩,T,pos,af,none⟩::rest) ρ η:=OL.needB (b:=true) (fun _=>k) (fun h=>by cases h) hx hP hd
theorem OL.needF (k:TX C Q (.panic (pan upv)) ρ η) (hx:evs2 ρ args=some [V.bool false]:=by with_unfolding_all exact rfl) (hP:C.P=Tryz.prog:=by with_unfolding_all exact rfl) (hd:Nat.blt d C.N=true:=by with_unfolding_all exact rfl) :
  OL C ops Q (⟨some d,.call ⟨.value (.func 175),args.toArray,at_⟩,T,pos,af,none⟩::rest) ρ η:=OL.needB (b:=false) (fun h=>by cases h) (fun _=>k) hx hP hd
theorem OL.needD {p:Prop} [Decidable p] (h1:p→OL C ops Q rest ((d,.tp [])::ρ) η) (h2:¬ p→TX C Q (.panic (pan upv)) ρ η) (hx:evs2 ρ args=some [V.bool (decide p)]:=by with_unfolding_all exact rfl) (hP:C.P=Tryz.prog:=by with_unfolding_all exact rfl) (hd:Nat.blt d C.N=true:=by with_unfolding_all exact rfl) :
  OL C ops Q (⟨some d,.call ⟨.value (.func 175),args.toArray,at_⟩,T,pos,af,none⟩::rest) ρ η:=
 OL.needB (fun h=>h1 (of_decide_eq_true h)) (fun h=>h2 (of_decide_eq_false h)) hx hP hd
end
end Go.V
namespace Go.Proofs
open Go Go.W Go.V
abbrev esK (L:List Int):List (Int × AV):=L.map fun k=>(k,V.bool true)
theorem afind_esK (c:Int):∀ L:List Int,afind c (esK L)=if L.contains c then some (V.bool true) else none
 | []=>rfl
 | k::r=>by
   rw [esK,List.map_cons,afind,List.contains_cons]
   cases h:c==k with
   | true=>simp
   | false =>
     simp only [Bool.false_eq_true,if_false,Bool.false_or]
     exact afind_esK c r
theorem aput_esK (k:Int):∀ L:List Int,aput k (V.bool true) (esK L)=esK (insK L k)
 | []=>rfl
 | x::r=>by
   have ih:=aput_esK k r
   rw [esK,List.map_cons,aput]
   by_cases h:k=x
   ·subst h
    simp [insK]
   ·have hb:(k==x)=false:=by simpa using h
    rw [hb]
    simp only [Bool.false_eq_true,if_false]
    rw [show List.map (fun k=>(k,V.bool true)) r=esK r from rfl,ih,insK,insK,List.contains_cons,hb,Bool.false_or]
    split<;>simp [esK]
theorem hv_esK (L:List Int) (c:Int) (te:Value) (hte:te=.bool false):afind c (esK L)=some (V.bool (L.contains c))∨(afind c (esK L)=none∧∀ m w γ,Rep m w γ te (V.bool (L.contains c))):=by
 subst hte
 rw [afind_esK]
 cases L.contains c
 ·exact .inr ⟨rfl,fun _ _ _=>.raw rfl⟩
 ·exact .inl rfl
set_option maxHeartbeats 2000000 in
theorem Ct30 (p:Prg) (hf:fine (graphOf p.cls)=true) (hcl:clsB 0 p.cls=true) {c:Nat} (h3:3≤c) (hc:c < 3+p.cls.length):V.Spec Tryz.prog 136 [prgA p,V.int c] [] (ints (hasL p.cls c)) []:=by
 have hgl:(graphOf p.cls).length=p.cls.length:=by simp [graphOf]
 have h16:=fine_len hf
 have hlen:=fun j hj=>hasRaw_len hcl hc j hj
 have hso:=Ct331 (hasRaw p.cls c (c-2)) (by have:=hlen (c-2) (by omega);omega)
 rw [sort_hasRaw hf hcl h3 hc] at hso
 refine V.Spec.enter Tryz.tabOK Tryz.mixed Tryz.func136 rfl rfl rfl fun B hB=>?_
 refine goW ?_
 refine OL.frzB 2 ?_
 refine OL.mapIns ?_ rfl
 refine goW ?_
 refine TC.adp 6 Tc.int 1 ?_
 refine TC.lp (fun j:Nat=>[(2,.ep (prgC p) 0),(5,.mp 1),(6,.hs 2),(7,V.int ((c:Int)-j))]) (fun j=>[.dead,.mo (esK (upKeys (graphOf p.cls) c j)),.gs false Tc.int 1 none ((hasRaw p.cls c j).map V.int)]) (fun j=>j≤c-2) (fun j=>c-2-j) 0 [0,1,2] (Nat.zero_le _) ?_ (hr:=⟨⟨_,rfl,LE.ren rfl⟩,⟨_,rfl,LE.ren rfl⟩,⟨_,rfl,LE.ren rfl⟩,⟨_,rfl,LE.int (by omega)⟩,trivial⟩)
 rintro j hj
 by_cases hjc:j < c-2
 ·have hidx:((c:Int)-j-3).toNat < p.cls.length:=by clear hlen hso;omega
  have hjl:=hlen j (by omega)
  have hk:=upKeys_has hf h3 (by omega) (show j≤c-3 by omega)
  have hus:upKeys (graphOf p.cls) c (j+1)=if (upKeys (graphOf p.cls) c j).contains ((c-j:Nat):Int) then (pOf (graphOf p.cls) ((c-j:Nat):Int)).foldl insK (upKeys (graphOf p.cls) c j) else upKeys (graphOf p.cls) c j:=rfl
  have hrs:=hasRaw_succ p.cls c j
  rw [← hk] at hrs
  obtain ⟨x,hx⟩:∃ x,x=p.cls[((c:Int)-j-3).toNat]'hidx:=⟨_,rfl⟩
  have hxi:p.cls.getD (c-j-3) ([],[],[])=x:=by rw [getD_lt (by omega),hx];congr 1;omega
  have hpx:pOf (graphOf p.cls) ((c-j:Nat):Int)=x.1:=by
   have:=graphOf_at (l:=p.cls) (k:=c-j-3) (by omega)
   rw [show 3+(c-j-3)=c-j by omega] at this
   rw [this,← hxi,getD_lt (by omega)]
  rw [hxi] at hrs
  rw [hpx] at hus
  have ecj:((c-j:Nat):Int)=(c:Int)-j:=by omega
  rw [ecj] at hus hrs
  have hx4:x.2.1.length≤4:=by rw [← hxi,getD_lt (by omega)];exact (clsB_at hcl (by omega)).1
  generalize upKeys (graphOf p.cls) c j=K at *
  generalize hasRaw p.cls c j=out at *
  have hv:=hv_esK K ((c:Int)-j)
  cases hq:K.contains ((c:Int)-j)
  ·rw [hq] at hus hrs hv
   simp only [Bool.false_eq_true,if_false,List.append_nil] at hus hrs
   have e1:=congrArg esK hus.symm
   have e2:=congrArg (List.map V.int) hrs.symm
   refine goW ?_
   refine OL.lookup ?_ (hv _ rfl)
   refine goW ?_
   exact TX.rd (j+1) [0,1,2] (by omega) (by omega) (ho:=⟨⟨_,rfl,OE.ren rfl⟩,⟨_,rfl,OE.ren (by rw [hus];rfl)⟩,⟨_,rfl,OE.gsS (by rw [hrs])⟩,trivial⟩) (hr:=⟨⟨_,rfl,LE.ren rfl⟩,⟨_,rfl,LE.ren rfl⟩,⟨_,rfl,LE.ren rfl⟩,⟨_,rfl,LE.int (by omega)⟩,trivial⟩)
  ·rw [hq] at hus hrs hv
   simp only [if_true] at hus hrs
   refine goW ?_
   refine OL.lookup ?_ (hv _ rfl)
   refine goW ?_
   simp only [← hx]
   refine OL.app ?_
   rw [← List.map_append,← hrs]
   have hls:(hasRaw p.cls c (j+1)).length≤1000:=by rw [hrs,List.length_append];omega
   obtain ⟨out2,ho2⟩:∃ o,o=hasRaw p.cls c (j+1):=⟨_,rfl⟩
   rw [← ho2] at hls ⊢
   refine goW ?_
   simp only [← hx]
   obtain ⟨ps,hps⟩:∃ ps,ps=x.1:=⟨_,rfl⟩
   rw [← hps] at hus ⊢
   have hpl:ps.length≤3:=by
    have:=(fine_pOf hf (c:=((c-j:Nat):Int)) (by omega)).1
    rw [hpx,← hps] at this;exact this
   refine TC.lp (fun i:Nat=>[(2,.ep (prgC p) 0),(5,.mp 1),(6,.hs 3),(7,V.int ((c:Int)-j)),(36,ints ps),(37,V.int ps.length),(38,V.int i)]) (fun i=>[.dead,.mo (esK ((ps.take i).foldl insK K)),.dead,.gs false Tc.int 1 none (out2.map V.int)]) (fun i=>i≤ps.length) (fun i=>ps.length-i) 0 [0,1,2,3] (Nat.zero_le _) ?_
   rintro i hi
   by_cases hil:i < ps.length
   ·have hsn:(ps.take (i+1)).foldl insK K=insK ((ps.take i).foldl insK K) ps[i]:=by rw [take_succ hil,List.foldl_append];rfl
    generalize (ps.take i).foldl insK K=Ki at *
    refine goW ?_
    refine OL.mapUpd ?_
    rw [aput_esK,← hsn]
    refine goW ?_
    exact TX.rd (i+1) [0,1,2,3] (by omega) (by omega)
   ·rw [take_all (by omega),← hus]
    refine goW ?_
    exact TX.rd (j+1) [0,1,3] (by omega) (by omega) (ho:=⟨⟨_,rfl,OE.ren rfl⟩,⟨_,rfl,OE.ren rfl⟩,⟨_,rfl,OE.gsS (by rw [ho2])⟩,trivial⟩) (hr:=⟨⟨_,rfl,LE.ren rfl⟩,⟨_,rfl,LE.ren rfl⟩,⟨_,rfl,LE.ren rfl⟩,⟨_,rfl,LE.int (by omega)⟩,trivial⟩)
 ·obtain rfl:j=c-2:=by omega
  generalize hasRaw p.cls c (c-2)=out at *
  refine goW ?_
  refine OL.ch [2] hso Tryz.func126 ?_
  refine goW ?_
  refine OL.vwA 0 ?_
  refine OL.c (clip_ints _) Tryz.func193 ?_
  refine goW ?_
  exact TX.rt1 [] (.ren rfl)
end Go.Proofs
