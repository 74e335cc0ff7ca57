/- Part 46 of what the claim is proved by: lemmas on the model and walks through functions of the program; no conditions. -/
import Derived.Test.YtmdpbfghjdljiaaGreatQ13
import Derived.Test.YtmdpbfghjdljiaaGreatQ16
import Derived.Test.YtmdpbfghjdljiaaGreatQ43
import Derived.Test.YtmdpbfghjdljiaaGreatQ44
import Derived.Test.YtmdpbfghjdljiaaGreatQ45
import Derived.Test.YtmdpbfghjdljiaaGreatQ38
namespace Go.Proofs
open Go Go.W Go.V
theorem ownF_mem (l:List Cls) {o:Int} (ho:o∈ownF 0 l):3≤o∧o < 3+((graphOf l).length:Int):=by
 obtain ⟨i,hi,rfl⟩:=List.getElem_of_mem ho
 obtain ⟨k,hk,_,_,h⟩:=ownF_get l 0 i (by rw [← ownF_len l 0];exact hi)
 rw [getD_lt hi] at h
 have:(graphOf l).length=l.length:=by simp [graphOf]
 omega
theorem sizesV_some {p:Prg}:(sizesV p).isSome=true↔(classesB p=true∧lensB p=true)∧∃ o1 o2,mthsB p (List.replicate p.nodes.length (-1)) p.mths=some o1∧runB p false o1 (belowL p p.main 0)=some o2∧o2.contains (-1)=false:=by
 unfold sizesV
 cases hc:classesB p
 ·simp
 cases hl:lensB p
 ·simp
 simp only [Bool.and_self,if_true,true_and]
 cases h1:mthsB p (List.replicate p.nodes.length (-1)) p.mths with
 | none=>simp
 | some o1 =>
   simp only [Option.bind_some]
   cases h2:runB p false o1 (belowL p p.main 0) with
   | none=>simp [h2]
   | some o2 =>
     cases h3:o2.contains (-1)
     all_goals simp [Option.filter, *]
abbrev outV (o:Option (List Int)):List AO:=[.cb Tc.Lint [.hs 1],.gs true Tc.int 1 none ((o.getD []).map V.int)]
set_option maxHeartbeats 8000000 in
theorem Ct304 (p:Prg) (hs:Short p.cls) (hpk:∀ x∈p.nodes,x.2.2.length*8≤140737488355328) :
  SpecY Tryz.prog 173 [.ep (prgC p) 0,.bp 0 0] [.cb Tc.Lint [.raw (.slice none 0 0)]] (.tp []) (outV (sizesV p)) ((sizesV p).isSome=true) upv [.cb Tc.Lint [.junk]]:=by
 have hiff:=@sizesV_some p
 have hgl:(graphOf p.cls).length=p.cls.length:=by simp [graphOf]
 refine SpecY.enter Tryz.tabOK Tryz.mixed Tryz.func173 rfl rfl rfl fun B hB=>?_
 by_cases hcl:classesB p=true
 rotate_left
 ·refine goW ?_
  refine OL.cX [] ((Ct26 p hs).no hcl) Tryz.func174 ?_
  repeat' (first|refine TX.thenP ?_|refine TX.blkP ?_)
  exact TX.no (fun h=>hcl (hiff.1 h).1.1) (TX.rtP [0] (ho:=⟨⟨_,rfl,OE.junk1⟩,trivial⟩))
 refine goW ?_
 refine OL.c ((Ct26 p hs).yes hcl) Tryz.func174 ?_
 by_cases hlen:(p.gens.length≤8∧p.mths.length≤16)∧1≤p.nodes.length∧p.nodes.length≤120
 rotate_left
 ·have hno:¬ (sizesV p).isSome=true:=fun h=>by
   have:=(hiff.1 h).1.2
   simp only [lensB,Bool.and_eq_true,decide_eq_true_eq] at this
   omega
  repeat' (with_reducible first|refine OL.st ?_|refine TC.region ?_|refine TC.seq ?_|refine OL.nil ?_|refine TX.thenN ?_|refine OL.gOn ?_|refine OL.gOff ?_|refine OL.gD ?_ ?_<;>(intro hc;try (exfalso;omega))|fail)
  all_goals first|refine OL.needF ?_|refine OL.needD (p:=(p.nodes.length:Int)≤120) (fun h=>absurd hlen (by omega)) (fun _=>?_)
  all_goals repeat' (first|refine TX.thenP ?_|refine TX.blkP ?_)
  all_goals exact TX.no hno (TX.rtP [0] (ho:=⟨⟨_,rfl,OE.junk1⟩,trivial⟩))
 obtain ⟨⟨hg8,hm16⟩,hn1,hn120⟩:=hlen
 refine goW ?_
 refine OL.needD (p:=(p.nodes.length:Int)≤120) (fun _=>?_) (fun h=>absurd hn120 (by omega))
 refine goW ?_
 refine TC.lp (fun k:Nat=>[(0,.ep (prgC p) 0),(1,.bp 0 0),(34,ints p.gens),(35,V.int p.gens.length),(36,V.int k)]) (fun _=>[.cb Tc.Lint [.raw (.slice none 0 0)]]) (fun k=>k≤p.gens.length∧∀ i (h:i < p.gens.length),i < k→1≤p.gens[i]∧p.gens[i]≤3) (fun k=>p.gens.length-k) 0 [0] ⟨Nat.zero_le _,fun i _ h=>by omega⟩ ?_
 rintro k ⟨hk,hall⟩
 by_cases hkl:k < p.gens.length
 ·by_cases hg:1≤p.gens[k]∧p.gens[k]≤3
  ·obtain ⟨hg1,hg3⟩:=hg
   refine goW ?_
   refine OL.needD (p:=p.gens[k]≤3) (fun _=>?_) (fun h=>absurd hg3 h)
   refine goW ?_
   refine TX.rd (k+1) [0] ⟨by omega,fun i h hi=>?_⟩ (by omega)
   by_cases hik:i=k
   ·subst hik;exact ⟨hg1,hg3⟩
   ·exact hall i h (by omega)
  ·have hno:¬ (sizesV p).isSome=true:=fun h=>by
    have:=gens_pos (hiff.1 h).1.2 hkl
    exact hg this
   repeat' (with_reducible first|refine OL.st ?_|refine TC.region ?_|refine TC.seq ?_|refine OL.nil ?_|refine TX.thenN ?_|refine TC.block ?_|refine TC.skip ?_|refine OL.gOn ?_|refine OL.gOff ?_|refine TC.ifD ?_ ?_<;>(intro hc;try (exfalso;omega))|refine OL.gD ?_ ?_<;>(intro hc;try (exfalso;omega))|fail)
   all_goals first|refine OL.needF ?_|refine OL.needD (p:=p.gens[k]≤3) (fun h=>absurd hg (by omega)) (fun _=>?_)
   all_goals repeat' (first|refine TX.thenP ?_|refine TX.blkP ?_)
   all_goals exact TX.no hno (TX.rtP [0] (ho:=⟨⟨_,rfl,OE.junk1⟩,trivial⟩))
 have hlB:lensB p=true:=by
  simp only [lensB,Bool.and_eq_true,decide_eq_true_eq,List.all_eq_true]
  refine ⟨⟨⟨hg8,hm16⟩,hn1,hn120⟩,fun n hn=>?_⟩
  obtain ⟨i,hi,rfl⟩:=List.getElem_of_mem hn
  exact hall i hi (by omega)
 have hcB:=hcl
 simp only [classesB,Bool.and_eq_true,decide_eq_true_eq] at hcB
 obtain ⟨⟨hc10,hclB⟩,⟨_,hfine⟩,_⟩:=hcB
 have hsl4:=clsB_len hclB
 have hrp:=Ct9 p.nodes.length hn1 (by omega)
 have hwo:=Ct38 p hs (by omega)
 have hl0:(List.replicate p.nodes.length (-1:Int)).length=p.nodes.length:=by simp
 have hsz:sizesV p=((mthsB p (List.replicate p.nodes.length (-1)) p.mths).bind fun o=>runB p false o (belowL p p.main 0)).filter fun o=>!o.contains (-1):=by rw [sizesV,hcl,hlB];rfl
 obtain ⟨rep,hrep⟩:∃ rep,rep=List.replicate p.nodes.length (-1:Int):=⟨_,rfl⟩
 rw [← hrep] at hrp hl0 hsz hiff
 refine goW ?_
 refine OL.vwA 0 ?_
 refine OL.c hrp Tryz.func176 ?_
 refine goW ?_
 refine OL.c hwo Tryz.func181 ?_
 refine goW ?_
 refine TC.frzB 5 ?_
 refine TC.lp (fun q:Nat × List Int=>[(0,.ep (prgC p) 0),(1,.bp 0 0),(4,.fn (.func 177) [] [.ep (prgC p) 0,.bp 0 0]),(5,.ep (fwC (graphOf p.cls) (ownF 0 p.cls)) 0),(57,mthsA p.mths),(58,V.int p.mths.length),(59,V.int q.1)]) (fun q=>outA (some q.2)) (fun q=>q.1≤p.mths.length∧q.2.length=p.nodes.length∧mthsB p rep (p.mths.take q.1)=some q.2) (fun q=>p.mths.length-q.1) (0,rep) [0,2] ⟨Nat.zero_le _,hl0,by simp [mthsB]⟩ ?_
 rintro ⟨k,o⟩ ⟨hk,hol,hrun⟩
 dsimp only at hk hol hrun ⊢
 by_cases hkl:k < p.mths.length
 ·obtain ⟨m,hm⟩:∃ m,m=p.mths[k]:=⟨_,rfl⟩
  have hbad:mthB p o m=none→¬ (sizesV p).isSome=true:=fun h hh=>by
   rw [hsz,mthsB_no hkl hrun (by rw [← hm];exact h)] at hh;simp at hh
  have hfo:=Ct50 (graphOf p.cls) (ownF 0 p.cls) hfine (fun o ho=>ownF_mem p.cls ho) (by rw [ownF_len];omega) m.fact
  rw [hgl,ownF_len] at hfo
  by_cases hkg:(1≤m.kind∧m.kind≤4)∧0≤m.gen∧m.gen < p.gens.length
  rotate_left
  ·have hno:=hbad (by rw [mthB,if_neg];simp only [Bool.and_eq_true,decide_eq_true_eq];exact hkg)
   refine goW ?_
   rw [mthA_eq,← hm]
   repeat' (with_reducible first|refine OL.st ?_|refine OL.alloc ?_|refine OL.storeAgg ?_|refine TC.region ?_|refine TC.seq ?_|refine OL.nil ?_|refine TX.thenN ?_|refine OL.gOn ?_|refine OL.gOff ?_|refine OL.gD ?_ ?_<;>(intro hc;try (exfalso;omega))|fail)
   all_goals first|refine OL.needF ?_|refine OL.needD (p:=m.gen < (p.gens.length:Int)) (fun h=>absurd hkg (by omega)) (fun _=>?_)
   all_goals repeat' (first|refine TX.thenP ?_|refine TX.blkP ?_)
   all_goals exact TX.no hno (TX.rtP [0] (ho:=⟨⟨_,rfl,OE.junk1⟩,trivial⟩))
  obtain ⟨⟨hk1,hk4⟩,hg0,hgn⟩:=hkg
  have hgg:p.gens.getD m.gen.toNat 0=p.gens[m.gen.toNat]'(by omega):=getD_lt (by omega)
  have hgp:=gens_pos hlB (k:=m.gen.toNat) (by omega)
  have hmb:mthB p o m=if okF p.cls.length (slN p.cls) 24 12 m.fact&&decide (speaksF m.fact≤p.gens[m.gen.toNat]'(by omega)) then runB p (nxtB m.kind) o (belowL p m.node (p.gens[m.gen.toNat]'(by omega))) else none:=by
   rw [mthB,if_pos,hgg]
   simp only [Bool.and_eq_true,decide_eq_true_eq];omega
  refine goW ?_
  rw [mthA_eq,← hm]
  refine goW ?_
  refine OL.needD (p:=m.gen < (p.gens.length:Int)) (fun _=>?_) (fun h=>absurd hgn h)
  refine goW ?_
  cases hok:okF p.cls.length (slN p.cls) 24 12 m.fact
  ·rw [hok] at hfo hmb
   have hno:=hbad (by rw [hmb];rfl)
   simp only [Bool.false_eq_true,if_false] at hfo
   (with_reducible refine TC.draw (id:=14) true 17 18 ?_<;>refine OD.st2 0 1 ?_<;>refine OD.st 2 ?_ (h:=gvM)<;>refine OD.c1 3 hfo Tryz.func182 ?_<;>refine OD.st2 4 5 ?_<;>refine OD.of 6 ?_<;>refine OD.of 7 ?_<;>refine OD.of 9 ?_<;>refine OD.of 10 ?_<;>refine OD.of 11 ?_<;>refine OD.of 12 ?_<;>refine OD.of 13 ?_<;>refine OD.of 14 ?_<;>refine OD.of 8 ?_<;>refine OD.of 15 ?_<;>refine OD.st 16 ?_)<;>((with_reducible refine OD.a1 17 ?_);refine OL.needF ?_<;>refine TX.qdP ?_<;>(repeat' (first|refine TX.thenP ?_|refine TX.blkP ?_))<;>exact TX.no hno (TX.rtP [0] (ho:=⟨⟨_,rfl,OE.junk1⟩,trivial⟩)))<;>(with_reducible refine OD.dn ?_)
  have hsp:=Ct37 p.cls.length (slN p.cls) 24 m.fact (by have:=(okF_parts.1 hok).1.1;omega) (okF_parts.1 hok).2
  rw [hok] at hfo
  simp only [if_true] at hfo
  rw [hok,Bool.true_and] at hmb
  by_cases hspk:speaksF m.fact≤p.gens[m.gen.toNat]'(by omega)
  rotate_left
  ·have hno:=hbad (by rw [hmb,if_neg (by simpa using hspk)])
   have hd0:decide (speaksF m.fact≤p.gens[m.gen.toNat]'(by omega))=false:=decide_eq_false hspk
   (with_reducible refine TC.draw (id:=14) true 17 18 ?_<;>refine OD.st2 0 1 ?_<;>refine OD.st 2 ?_ (h:=gvM)<;>refine OD.c1 3 hfo Tryz.func182 ?_<;>refine OD.st2 4 5 ?_<;>refine OD.st 6 ?_<;>refine OD.st 7 ?_ (h:=gvM)<;>refine OD.st4 9 10 11 12 ?_<;>refine OD.st2 13 14 ?_<;>refine OD.c1 8 hsp Tryz.func183 ?_<;>refine OD.st2 15 16 ?_)<;>((with_reducible refine OD.a1 17 ?_);rw [hd0]<;>refine OL.needF ?_<;>refine TX.qdP ?_<;>(repeat' (first|refine TX.thenP ?_|refine TX.blkP ?_))<;>exact TX.no hno (TX.rtP [0] (ho:=⟨⟨_,rfl,OE.junk1⟩,trivial⟩)))<;>(with_reducible refine OD.dn ?_)
  rw [if_pos (by simpa using hspk)] at hmb
  have hd1:decide (speaksF m.fact≤p.gens[m.gen.toNat]'(by omega))=true:=decide_eq_true hspk
  have hv:=Ct305 p hpk (by omega) m.node (p.gens[m.gen.toNat]'(by omega)) (by omega) (by omega) (nxtB m.kind) o hol
  rw [← hmb] at hv
  (with_reducible refine TC.draw (id:=14) true 17 18 ?_<;>refine OD.st2 0 1 ?_<;>refine OD.st 2 ?_ (h:=gvM)<;>refine OD.c1 3 hfo Tryz.func182 ?_<;>refine OD.st2 4 5 ?_<;>refine OD.st 6 ?_<;>refine OD.st 7 ?_ (h:=gvM)<;>refine OD.st4 9 10 11 12 ?_<;>refine OD.st2 13 14 ?_<;>refine OD.c1 8 hsp Tryz.func183 ?_<;>refine OD.st2 15 16 ?_)<;>((with_reducible refine OD.a1 17 ?_);rw [hd1]<;>refine OL.needT ?_<;>refine OL.nil ?_<;>refine TX.od ?_)<;>(with_reducible refine OD.dn ?_)
  all_goals refine goW ?_
  all_goals cases hq:mthB p o m with
   | none =>
     have hno:=hbad hq
     have hvx:=hv.no (by rw [hq];decide)
     (with_reducible refine TC.draw (id:=15) true 17 18 ?_<;>refine OD.st4 0 1 2 3 ?_<;>refine OD.st4 4 5 6 7 ?_<;>refine OD.st4 8 9 10 11 ?_<;>refine OD.st 12 ?_<;>refine OD.sD 115 ?_ ?_<;>(intro hc;try (exfalso;omega))<;>(first|(with_reducible refine OD.st 13 ?_)|(with_reducible refine OD.of 13 ?_)))<;>(first|(with_reducible refine OD.st 14 ?_)|(with_reducible refine OD.of 14 ?_))<;>(first|(with_reducible refine OD.st 15 ?_)|(with_reducible refine OD.of 15 ?_))<;>(with_reducible refine OD.st 16 ?_)<;>((with_reducible refine OD.a1 17 ?_);refine OL.cvX [0,1] hvx Tryz.func177 ?_ (hle:=by with_unfolding_all exact ⟨.ren rfl,.ren rfl,LE.bool (by simp [nxtB,hc]),.ren rfl,.ren rfl,trivial⟩)<;>refine TX.qdP ?_<;>(repeat' (first|refine TX.thenP ?_|refine TX.blkP ?_))<;>exact TX.no hno (TX.rtP [0]))<;>(with_reducible refine OD.dn ?_)
   | some o2 =>
     have hlo2:=mthB_len hq
     have hvy:=hv.yes (by rw [hq];rfl)
     rw [hq] at hvy
     have hsn:mthsB p rep (p.mths.take (k+1))=some o2:=by rw [take_succ hkl,mthsB_snoc,hrun,Option.bind_some,← hm];exact hq
     (with_reducible refine TC.draw (id:=15) true 17 18 ?_<;>refine OD.st4 0 1 2 3 ?_<;>refine OD.st4 4 5 6 7 ?_<;>refine OD.st4 8 9 10 11 ?_<;>refine OD.st 12 ?_<;>refine OD.sD 115 ?_ ?_<;>(intro hc;try (exfalso;omega))<;>(first|(with_reducible refine OD.st 13 ?_)|(with_reducible refine OD.of 13 ?_)))<;>(first|(with_reducible refine OD.st 14 ?_)|(with_reducible refine OD.of 14 ?_))<;>(first|(with_reducible refine OD.st 15 ?_)|(with_reducible refine OD.of 15 ?_))<;>(with_reducible refine OD.st 16 ?_)<;>((with_reducible refine OD.a1 17 ?_);refine OL.chv [0,1] hvy Tryz.func177 ?_ (hle:=by with_unfolding_all exact ⟨.ren rfl,.ren rfl,LE.bool (by simp [nxtB,hc]),.ren rfl,.ren rfl,trivial⟩)<;>refine OL.nil ?_<;>refine TX.od ?_)<;>(with_reducible refine OD.dn ?_)
     all_goals refine goW ?_
     all_goals exact TX.rd (k+1,o2) [0,1] ⟨by dsimp only;omega,by dsimp only;omega,hsn⟩ (by dsimp only;omega)
 rw [take_all (by omega)] at hrun
 rw [hrun,Option.bind_some] at hsz
 have hol2:=mthsB_len hrun
 have hv:=Ct305 p hpk (by omega) p.main 0 (by omega) (by omega) false o hol
 refine goW ?_
 cases hq:runB p false o (belowL p p.main 0) with
 | none =>
   have hno:¬ (sizesV p).isSome=true:=by rw [hsz,hq];simp
   refine OL.cvX [0,1] (hv.no (by rw [hq];decide)) Tryz.func177 ?_
   repeat' (first|refine TX.thenP ?_|refine TX.blkP ?_)
   exact TX.no hno (TX.rtP [0])
 | some o2 =>
   rw [hq] at hsz
   have hct:=Ct318 o2 (-1)
   have hvy:=hv.yes (by rw [hq];rfl)
   rw [hq] at hvy
   refine OL.chv [0,1] hvy Tryz.func177 ?_
   refine goW ?_
   refine OL.vwA 0 ?_
   refine OL.c hct Tryz.func30 ?_
   cases hcn:o2.contains (-1)
   ·have hs2:sizesV p=some o2:=by rw [hsz,Option.filter,if_pos (by rw [hcn];rfl)]
    rw [hs2]
    refine goW ?_
    refine OL.needT ?_
    refine goW ?_
    exact TX.yes rfl (TX.rt0 [0,1])
   ·have hno:¬ (sizesV p).isSome=true:=by rw [hsz,Option.filter,if_neg (by rw [hcn];decide)];decide
    refine goW ?_
    refine OL.needF ?_
    repeat' (first|refine TX.thenP ?_|refine TX.blkP ?_)
    exact TX.no hno (TX.rtP [0] (ho:=⟨⟨_,rfl,OE.junk1⟩,trivial⟩))
end Go.Proofs
namespace Go.Proofs
open Go Go.W Go.V
def ownP (p:Prg) (c:Int):Bool:=decide (3≤c)&&(decide (c < 3+(p.cls.length:Int))&&progB p)
theorem progB_classes {p:Prg} (h:progB p=true):classesB p=true:=(sizesV_some.1 h).1.1
section
variable (p:Prg) (hs:Short p.cls) (hpk:∀ x∈p.nodes,x.2.2.length*8≤140737488355328)
include hs hpk
theorem Ct35 {o:List Int} (h:sizesV p=some o):V.Spec Tryz.prog 128 [prgA p] [] (.tp [ints o,V.bool true]) []:=by
 have h1:=(Ct304 p hs hpk).yes (by rw [h];rfl)
 rw [h] at h1
 have h2:=formed_yes Tryz.func173 rfl h1
 refine V.Spec.enter Tryz.tabOK Tryz.mixed Tryz.func128 rfl rfl rfl fun B hB=>?_
 repeat' (first|(with_reducible refine TC.seq ?_)|(with_reducible refine TC.region ?_))
 with_reducible refine OL.box ?_
 refine OL.frzB 1 ?_
 refine goW ?_
 refine OL.ch [1] h2 Tryz.func172 ?_
 refine goW ?_
 refine TX.wk (Wk.view (t:=2) (by with_unfolding_all exact rfl) (by with_unfolding_all exact rfl)) ?_
 exact TX.rt2 [] (.ren rfl) (.ren rfl)
theorem Ct34 (h:sizesV p=none):V.Spec Tryz.prog 128 [prgA p] [] (.tp [.junk,V.bool false]) []:=by
 have h1:=(Ct304 p hs hpk).no (by rw [h];decide)
 have h2:=formed_no Tryz.func173 rfl h1
 refine V.Spec.enter Tryz.tabOK Tryz.mixed Tryz.func128 rfl rfl rfl fun B hB=>?_
 repeat' (first|(with_reducible refine TC.seq ?_)|(with_reducible refine TC.region ?_))
 with_reducible refine OL.box ?_
 refine OL.frzB 1 ?_
 refine goW ?_
 refine OL.ch [1] h2 Tryz.func172 ?_
 refine goW ?_
 exact TX.rt2 [] (.ren rfl) (.ren rfl)
theorem Ct20:V.Spec Tryz.prog 93 [prgA p] [] (V.int (if progB p then 0 else 2)) []:=by
 unfold progB
 cases h:sizesV p with
 | none =>
   have h1:=Ct34 p hs hpk h
   refine V.Spec.enter Tryz.tabOK Tryz.mixed Tryz.func93 rfl rfl rfl fun B hB=>?_
   refine goW ?_
   refine OL.c h1 Tryz.func128 ?_
   refine goW ?_
   exact TX.rt1 [] (.ren rfl)
 | some o =>
   have h1:=Ct35 p hs hpk h
   refine V.Spec.enter Tryz.tabOK Tryz.mixed Tryz.func93 rfl rfl rfl fun B hB=>?_
   refine goW ?_
   refine OL.c h1 Tryz.func128 ?_
   refine goW ?_
   exact TX.rt1 [] (.ren rfl)
theorem Ct33 (c:Int):V.Spec Tryz.prog 135 [prgA p,V.int c] [] (V.bool (ownP p c)) []:=by
 unfold ownP
 have h1:=Ct20 p hs hpk
 have hb:=hs.1
 by_cases hc3:3≤c
 ·by_cases hcl:c < 3+(p.cls.length:Int)
  ·rw [decide_eq_true hc3,decide_eq_true hcl,Bool.true_and,Bool.true_and]
   refine V.Spec.enter Tryz.tabOK Tryz.mixed Tryz.func135 rfl rfl rfl fun B hB=>?_
   refine goW ?_
   refine OL.c h1 Tryz.func93 ?_
   cases progB p
   ·refine goW ?_
    exact TX.rt1 [] (.ren rfl)
   ·refine goW ?_
    exact TX.rt1 [] (.ren rfl)
  ·rw [decide_eq_false hcl,Bool.false_and,Bool.and_false]
   refine V.Spec.enter Tryz.tabOK Tryz.mixed Tryz.func135 rfl rfl rfl fun B hB=>?_
   refine goW ?_
   all_goals exact TX.rt1 [] (.ren rfl)
 ·rw [decide_eq_false hc3,Bool.false_and]
  refine V.Spec.enter Tryz.tabOK Tryz.mixed Tryz.func135 rfl rfl rfl fun B hB=>?_
  refine goW ?_
  all_goals exact TX.rt1 [] (.ren rfl)
theorem Ct22 (c:Int) (h:ownP p c=true):V.Spec Tryz.prog 95 [prgA p,V.int c] [] (.tp [ints (hasL p.cls c),V.int 0]) []:=by
 have h1:=Ct33 p hs hpk c
 rw [h] at h1
 simp only [ownP,Bool.and_eq_true,decide_eq_true_eq] at h
 have hcB:=progB_classes h.2.2
 simp only [classesB,Bool.and_eq_true,decide_eq_true_eq] at hcB
 have h2:=Ct30 p hcB.2.1.2 hcB.1.2 (c:=c.toNat) (by omega) (by omega)
 rw [show ((c.toNat:Nat):Int)=c by omega] at h2
 refine V.Spec.enter Tryz.tabOK Tryz.mixed Tryz.func95 rfl rfl rfl fun B hB=>?_
 refine goW ?_
 refine OL.c h1 Tryz.func135 ?_
 refine goW ?_
 refine OL.c h2 Tryz.func136 ?_
 refine goW ?_
 exact TX.rt2 [] (.ren rfl) (.ren rfl)
theorem Ct21 (c:Int) (h:ownP p c=false):V.Spec Tryz.prog 95 [prgA p,V.int c] [] (.tp [.raw (.slice none 0 0),V.int 2]) []:=by
 have h1:=Ct33 p hs hpk c
 rw [h] at h1
 refine V.Spec.enter Tryz.tabOK Tryz.mixed Tryz.func95 rfl rfl rfl fun B hB=>?_
 refine goW ?_
 refine OL.c h1 Tryz.func135 ?_
 refine goW ?_
 exact TX.rt2 [] (.ren rfl) (.ren rfl)
end
end Go.Proofs
