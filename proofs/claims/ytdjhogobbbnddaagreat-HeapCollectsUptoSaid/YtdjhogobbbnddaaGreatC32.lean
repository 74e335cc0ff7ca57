/- Lemmas for the claim; no conditions. -/
import Derived.Test.YtdjhogobbbnddaaGreatC23
import Derived.Test.YtdjhogobbbnddaaGreatC19
import Derived.Test.YtdjhogobbbnddaaGreatC18
import Derived.Test.YtdjhogobbbnddaaGreatC48
import Derived.Test.YtdjhogobbbnddaaGreatC29
namespace Go.Proofs
open Go Go.W Go.V
abbrev outW:Option (List Int)→List AO
 | some o=>[.gs false 3 1 none (o.map V.int)]
 | none=>[.dead]
theorem Ylp (p:Prg) (next:Bool) (out:List Int) (x:Pl) (l:List Pl):YcA p next out (x::l)=(YbP p next out x).bind fun o=>YcA p next o l:=by
 rw [← List.singleton_append,Ydr,show YcA p next out [x]=YbP p next out x by simp [YcA]]
theorem Yql (p:Prg) (x:Nd) {s:Int} (hn:YbE p x s=true) (m:Nat):(m:Int)=Yiq p x↔manyV p x=some (m:Int):=by
 have h5:x.1=5→0≤x.2.1:=by
  intro h;rw [YbE,if_neg (by omega),if_neg (by omega)] at hn;simp at hn;exact hn.1
 rw [Yiq,if_neg (by omega)]
 cases manyV p x with
 | none=>simp<;>omega
 | some q=>simp;constructor<;>(intro h;exact h.symm)
set_option maxHeartbeats 8000000 in
theorem Yf6 (p:Prg) (hpk:∀ x∈p.nodes,x.2.2.length*8≤140737488355328) (hcl:p.cls.length < 1000000000) (next:Bool):∀ (f:Nat) (n s d:Int) (sz:List Int),d+f=13→0≤s→s+f < 1000000000→1≤d→sz.length=p.nodes.length →
  V.Spec Tryz.prog 135 [Ya0 p,V.int n,V.int s,V.int d,V.bool next,.hs 0] [.gs false 3 1 none (sz.map V.int)] (V.bool (YcA p next sz (YgE p.nodes f n s d)).isSome) (outW (YcA p next sz (YgE p.nodes f n s d))):=by
 intro f;induction f with
 | zero =>
   intro n s d sz hd hs hsf hd1 hl;have hst:YbP p next sz (n,s,d)=none:=by rw [YbP,if_neg];rintro ⟨_,_,_,h⟩;dsimp only at h;omega
   rw [YgE,Ylp,hst];simp only [Option.bind_none,outW,Option.isSome_none];refine Se Tryz.func135 rfl rfl rfl fun B hB=>?_;by_cases hn:0≤n∧n < p.nodes.length
   ·repeat' (with_reducible first|refine OL.st ?_|refine OL.box ?_|refine TC.region ?_|refine TC.seq ?_|refine OL.nil ?_|refine Zap ?_|refine ZaY ?_|refine ZaB ?_|refine ZaD ?_|refine Zay ?_ ?_<;>(intro hc;try (exfalso;omega))|refine Zaz ?_ ?_<;>(intro hc;try (exfalso;omega))|refine TC.ret ?_|refine ZaE ?_|fail)
    all_goals exact Zad [0] (LE.ren rfl) (ho:=⟨⟨_,rfl,OE.dead⟩,trivial⟩)
   ·(refine YnB ?_ ?_<;>intro hc<;>refine goW ?_)
    all_goals exact Zad [0] (LE.ren rfl) (ho:=⟨⟨_,rfl,OE.dead⟩,trivial⟩)
 | succ f ih =>
   intro n s d sz hd hs hsf hd1 hl;rw [YgE,Ylp];by_cases hn:0≤n∧n < p.nodes.length;rotate_left
   ·have hst:YbP p next sz (n,s,d)=none:=by rw [YbP,if_neg];rintro ⟨h1,h2,_,_⟩;exact hn ⟨h1,h2⟩
    rw [hst];simp only [Option.bind_none,outW,Option.isSome_none];refine Se Tryz.func135 rfl rfl rfl fun B hB=>?_;(refine YnB ?_ ?_<;>intro hc<;>refine goW ?_)
    all_goals exact Zad [0] (LE.ren rfl) (ho:=⟨⟨_,rfl,OE.dead⟩,trivial⟩)
   obtain ⟨hn0,hn1⟩:=hn;have hgz:sz.getD n.toNat 0=sz[n.toNat]'(by omega):=Yai (by omega);by_cases hz:sz[n.toNat]'(by omega) < 0;rotate_left
   ·have hst:YbP p next sz (n,s,d)=none:=by rw [YbP,if_neg];rintro ⟨_,_,h3,_⟩;dsimp only at h3;omega
    rw [hst];simp only [Option.bind_none,outW,Option.isSome_none];refine Se Tryz.func135 rfl rfl rfl fun B hB=>?_;refine goW ?_;all_goals exact Zad [0] (LE.ren rfl) (ho:=⟨⟨_,rfl,OE.dead⟩,trivial⟩)
   obtain ⟨nd,hnd⟩:∃ nd,nd=p.nodes[n.toNat]'(by omega):=⟨_,rfl⟩;have hna:nodeAt p.nodes n=nd:=by rw [hnd,nodeAt,List.getD_eq_getElem?_getD,List.getElem?_eq_getElem (by omega)];rfl
   have hst:YbP p next sz (n,s,d)=if YbE p nd s=true∧(next=true∨nd.1≠18)∧manyV p nd=some (nd.2.2.length:Int) then some (sz.set n.toNat s) else none:=by
    rw [YbP,if_pos ⟨hn0,hn1,by dsimp only;omega,by dsimp only;omega⟩,hna]
   have hkd:=Yk9 p nd;have hnu:=Yie p nd s hcl;have hlk:=hpk nd (hnd ▸ List.getElem_mem _);rw [hna];have hno:¬ (YbE p nd s=true∧(next=true∨nd.1≠18)∧manyV p nd=some (nd.2.2.length:Int))→(YbP p next sz (n,s,d))=none:=fun h=>by rw [hst,if_neg h]
   cases hnv:YbE p nd s
   ·rw [hno (by rw [hnv];exact fun h=>absurd h.1 (by decide))];rw [hnv] at hnu;simp only [Option.bind_none,outW,Option.isSome_none];by_cases hk:(nd.2.2.length:Int)=Yiq p nd
    ·obtain ⟨op,xn,kids⟩:=nd;refine Se Tryz.func135 rfl rfl rfl fun B hB=>?_;refine goW ?_;refine ZbC (k:=n.toNat) (o:=0) (sz:=1) (e:=V.int sz[n.toNat]) (e':=V.int s) ?_;refine goW ?_;rw [← hnd];(refine Zal (id:=5) true 23 23 ?_<;>refine Zaf 0 1 2 3 ?_<;>refine OD.st 4 ?_<;>refine Zah 5 hkd Tryz.func158 ?_<;>refine Zae 6 7 ?_<;>refine Zaw 52 ?_ ?_<;>(intro hc;try (exfalso;omega))<;>(first|(refine OD.st 8 ?_)|(refine OD.of 8 ?_))<;>refine Zae 9 10 ?_<;>refine Zah 11 hnu Tryz.func159 ?_<;>refine Zae 12 13 ?_<;>refine OD.st 14 ?_<;>refine OD.of 15 ?_<;>refine OD.of 16 ?_<;>refine OD.of 17 ?_<;>refine OD.of 18 ?_<;>refine ZaW 19 ?_<;>refine ZaW 20 ?_<;>refine OD.of 21 ?_<;>refine OD.st 22 ?_<;>refine Zaa ?_)
     all_goals refine goW ?_
     all_goals exact Zad [0] (LE.ren rfl) (ho:=⟨⟨_,rfl,OE.dead⟩,trivial⟩)
    ·obtain ⟨op,xn,kids⟩:=nd;refine Se Tryz.func135 rfl rfl rfl fun B hB=>?_;refine goW ?_;refine ZbC (k:=n.toNat) (o:=0) (sz:=1) (e:=V.int sz[n.toNat]) (e':=V.int s) ?_;refine goW ?_;rw [← hnd];(refine Zal (id:=5) true 23 23 ?_<;>refine Zaf 0 1 2 3 ?_<;>refine OD.st 4 ?_<;>refine Zah 5 hkd Tryz.func158 ?_<;>refine Zae 6 7 ?_<;>refine Zaw 52 ?_ ?_<;>(intro hc;try (exfalso;omega))<;>(first|(refine OD.st 8 ?_)|(refine OD.of 8 ?_))<;>refine OD.of 9 ?_<;>refine OD.of 10 ?_<;>refine OD.of 11 ?_<;>refine OD.of 12 ?_<;>refine Zae 13 14 ?_<;>refine OD.of 15 ?_<;>refine OD.of 16 ?_<;>refine OD.of 17 ?_<;>refine OD.of 18 ?_<;>refine ZaW 19 ?_<;>refine ZaW 20 ?_<;>refine OD.of 21 ?_<;>refine OD.st 22 ?_<;>refine Zaa ?_)
     all_goals refine goW ?_
     all_goals exact Zad [0] (LE.ren rfl) (ho:=⟨⟨_,rfl,OE.dead⟩,trivial⟩)
   have hki:=Yql p nd hnv nd.2.2.length;rw [hnv] at hnu;by_cases hk:(nd.2.2.length:Int)=Yiq p nd;rotate_left
   ·rw [hno (fun h=>hk (hki.2 h.2.2))];simp only [Option.bind_none,outW,Option.isSome_none];obtain ⟨op,xn,kids⟩:=nd;refine Se Tryz.func135 rfl rfl rfl fun B hB=>?_;refine goW ?_;refine ZbC (k:=n.toNat) (o:=0) (sz:=1) (e:=V.int sz[n.toNat]) (e':=V.int s) ?_;refine goW ?_;rw [← hnd];(refine Zal (id:=5) true 23 23 ?_<;>refine Zaf 0 1 2 3 ?_<;>refine OD.st 4 ?_<;>refine Zah 5 hkd Tryz.func158 ?_<;>refine Zae 6 7 ?_<;>refine Zaw 52 ?_ ?_<;>(intro hc;try (exfalso;omega))<;>(first|(refine OD.st 8 ?_)|(refine OD.of 8 ?_))<;>refine OD.of 9 ?_<;>refine OD.of 10 ?_<;>refine OD.of 11 ?_<;>refine OD.of 12 ?_<;>refine Zae 13 14 ?_<;>refine OD.of 15 ?_<;>refine OD.of 16 ?_<;>refine OD.of 17 ?_<;>refine OD.of 18 ?_<;>refine ZaW 19 ?_<;>refine ZaW 20 ?_<;>refine OD.of 21 ?_<;>refine OD.st 22 ?_<;>refine Zaa ?_)
    all_goals refine goW ?_
    all_goals exact Zad [0] (LE.ren rfl) (ho:=⟨⟨_,rfl,OE.dead⟩,trivial⟩)
   by_cases hnx:next=true∨nd.1≠18;rotate_left
   ·rw [hno (fun h=>hnx h.2.1)];simp only [Option.bind_none,outW,Option.isSome_none];obtain ⟨op,xn,kids⟩:=nd;obtain ⟨rfl,rfl⟩:next=false∧op=18:=by
     constructor
     ·cases next
      ·rfl
      ·exact absurd (.inl rfl) hnx
     ·exact Decidable.byContradiction fun h=>hnx (.inr h)
    refine Se Tryz.func135 rfl rfl rfl fun B hB=>?_;refine goW ?_;refine ZbC (k:=n.toNat) (o:=0) (sz:=1) (e:=V.int sz[n.toNat]) (e':=V.int s) ?_;refine goW ?_;rw [← hnd];(refine Zal (id:=5) true 23 23 ?_<;>refine Zaf 0 1 2 3 ?_<;>refine OD.st 4 ?_<;>refine Zah 5 hkd Tryz.func158 ?_<;>refine Zae 6 7 ?_<;>refine Zaw 52 ?_ ?_<;>(intro hc;try (exfalso;omega))<;>(first|(refine OD.st 8 ?_)|(refine OD.of 8 ?_))<;>refine Zae 9 10 ?_<;>refine Zah 11 hnu Tryz.func159 ?_<;>refine Zaf 12 13 14 15 ?_<;>refine Zaf 16 17 18 19 ?_<;>refine Zae 20 21 ?_<;>refine OD.st 22 ?_<;>refine Zaa ?_)
    all_goals refine goW ?_
    all_goals exact Zad [0] (LE.ren rfl) (ho:=⟨⟨_,rfl,OE.dead⟩,trivial⟩)
   have hmk:=hki.1 hk;have hsome:YbP p next sz (n,s,d)=some (sz.set n.toNat s):=by rw [hst,if_pos ⟨hnv,hnx,hmk⟩]
   rw [hsome,Option.bind_some];have hl1:(sz.set n.toNat s).length=p.nodes.length:=by rw [List.length_set];exact hl
   by_cases h18:nd.1=18
   ·obtain ⟨op,xn,kids⟩:=nd;dsimp only at h18;subst h18;obtain rfl:next=true:=hnx.resolve_right (fun h=>absurd rfl h);have hk0:kids=[]:=by
     simp [manyV] at hmk;exact List.eq_nil_of_length_eq_zero (by omega)
    subst hk0;have hr0:YcA p true (sz.set n.toNat s) (([]:List Int).zipIdx.flatMap fun q=>YgE p.nodes f q.1 (if (18:Int)=9∧q.2=1 then s+1 else s) (d+1))=some (sz.set n.toNat s):=by simp [YcA]
    dsimp only;rw [hr0];simp only [outW,Option.isSome_some];refine Se Tryz.func135 rfl rfl rfl fun B hB=>?_;refine goW ?_;refine ZbC (k:=n.toNat) (o:=0) (sz:=1) (e:=V.int sz[n.toNat]) (e':=V.int s) ?_;rw [show (sz.map V.int).set n.toNat (V.int s)=(sz.set n.toNat s).map V.int from List.map_set.symm];refine goW ?_;rw [← hnd];(refine Zal (id:=5) true 23 23 ?_<;>refine Zaf 0 1 2 3 ?_<;>refine OD.st 4 ?_<;>refine Zah 5 hkd Tryz.func158 ?_<;>refine Zaf 6 7 8 9 ?_<;>refine OD.st 10 ?_<;>refine Zah 11 hnu Tryz.func159 ?_<;>refine Zaf 12 13 14 15 ?_<;>refine Zaf 16 17 18 19 ?_<;>refine Zae 20 21 ?_<;>refine OD.st 22 ?_<;>refine Zaa ?_)
    all_goals refine goW ?_
    all_goals refine Zat (fun i:Nat=>[(13,.bp 2 0),(14,V.int i)]) (fun i=>[.gs false 3 1 none ((sz.set n.toNat s).map V.int),.dead,.cb 164 [V.int 18,V.int xn,ints []]]) (fun i=>i=0) (fun i=>0) 0 [0,1,2] rfl ?_ (ho:=⟨⟨_,rfl,OE.ren rfl⟩,⟨_,rfl,OE.dead⟩,⟨_,rfl,OE.ren rfl⟩,trivial⟩)
    rintro i rfl;refine goW ?_;exact Zad [0] (.ren rfl)
   have h18':¬ nd.1=18:=h18;obtain ⟨op,xn,kids⟩:=nd;dsimp only at h18' hlk ⊢;obtain ⟨g,hg⟩:∃ g:Int × Nat→List Pl,g=fun q=>YgE p.nodes f q.1 (if op=9∧q.2=1 then s+1 else s) (d+1):=⟨_,rfl⟩
   rw [← hg];have hzl:kids.zipIdx.length=kids.length:=by simp
   obtain ⟨sz1,hsz1⟩:∃ sz1,sz1=sz.set n.toNat s:=⟨_,rfl⟩;have hmp:(sz.map V.int).set n.toNat (V.int s)=sz1.map V.int:=by rw [hsz1];exact List.map_set.symm
   rw [← hsz1] at hl1 ⊢;obtain ⟨R,hR⟩:∃ R,R=YcA p next sz1 (kids.zipIdx.flatMap g):=⟨_,rfl⟩;rw [← hR];refine Se Tryz.func135 rfl rfl rfl fun B hB=>?_;refine goW ?_;refine ZbC (k:=n.toNat) (o:=0) (sz:=1) (e:=V.int sz[n.toNat]) (e':=V.int s) ?_;rw [hmp];refine goW ?_;rw [← hnd];(refine Zal (id:=5) true 23 23 ?_<;>refine Zaf 0 1 2 3 ?_<;>refine OD.st 4 ?_<;>refine Zah 5 hkd Tryz.func158 ?_<;>refine Zae 6 7 ?_<;>refine Zaw 52 ?_ ?_<;>(intro hc;try (exfalso;omega))<;>(first|(refine OD.st 8 ?_)|(refine OD.of 8 ?_))<;>refine Zae 9 10 ?_<;>refine Zah 11 hnu Tryz.func159 ?_<;>refine Zaf 12 13 14 15 ?_<;>refine Zae 16 17 ?_<;>refine OD.st 18 ?_<;>refine Zaw 63 ?_ ?_<;>(intro hc;try (exfalso;omega))<;>(first|(refine OD.st 19 ?_)|(refine OD.of 19 ?_))<;>refine OD.of 20 ?_<;>refine Zae 21 22 ?_<;>refine Zaa ?_)
   all_goals refine goW ?_
   all_goals refine Za6 6 ?_
   all_goals refine Za6 13 ?_
   all_goals refine Zat (fun q:Nat × List Int=>[(2,V.int s),(3,V.int d),(4,V.bool next),(5,.hs 0),(6,.ep (YbB p) 0),(13,.ep [V.int op,V.int xn,ints kids] 0),(14,V.int q.1)]) (fun q=>[.gs false 3 1 none (q.2.map V.int)]) (fun q=>q.1≤kids.length∧q.2.length=p.nodes.length∧YcA p next sz1 ((kids.zipIdx.take q.1).flatMap g)=some q.2) (fun q=>kids.length-q.1) (0,sz1) [0] ⟨Nat.zero_le _,hl1,by simp [YcA]⟩ ?_
   rintro ⟨i,o⟩ ⟨hi,hol,hrun⟩;dsimp only at hi hol hrun ⊢;by_cases hil:i < kids.length
   ·have hts:kids.zipIdx.take (i+1)=kids.zipIdx.take i++[(kids[i],i)]:=by
     rw [Yab (by simpa using hil)];simp
    obtain ⟨s2,hs2⟩:∃ s2,s2=if op=9∧i=1 then s+1 else s:=⟨_,rfl⟩;have hgk:g (kids[i],i)=YgE p.nodes f kids[i] s2 (d+1):=by rw [hg,hs2]
    have hsn:YcA p next sz1 ((kids.zipIdx.take (i+1)).flatMap g)=YcA p next o (YgE p.nodes f kids[i] s2 (d+1)):=by
     rw [hts,List.flatMap_append,List.flatMap_cons,List.flatMap_nil,List.append_nil,hgk,Ydr,hrun,Option.bind_some]
    have hRn:YcA p next o (YgE p.nodes f kids[i] s2 (d+1))=none→R=none:=by
     intro h;have e:kids.zipIdx.flatMap g=(kids.zipIdx.take (i+1)).flatMap g++(kids.zipIdx.drop (i+1)).flatMap g:=by rw [← List.flatMap_append,List.take_append_drop]
     rw [hR,e,Ydr,hsn,h,Option.bind_none]
    have hv:=ih kids[i] s2 (d+1) o (by omega) (by rw [hs2];split<;>omega) (by rw [hs2];split<;>omega) (by omega) hol
    cases hq:YcA p next o (YgE p.nodes f kids[i] s2 (d+1)) with
    | none =>
      rw [hq] at hv;simp only [outW,Option.isSome_none] at hv;rw [hRn hq];simp only [outW,Option.isSome_none];repeat' (with_reducible first|refine OL.st ?_|refine TC.region ?_|refine TC.seq ?_|refine OL.nil ?_|refine Zap ?_|refine TC.block ?_|refine TC.skip ?_|refine Za9 ?_|refine ZaB ?_|refine ZaD ?_|refine Zay ?_ ?_<;>(intro hc;try (exfalso;omega))|refine Zaz ?_ ?_<;>(intro hc;try (exfalso;omega))|fail)
      ·obtain rfl:s2=s+1:=by rw [hs2,if_pos ⟨by omega,by omega⟩]
       (refine Zal (id:=13) true 11 13 ?_<;>refine Zaf 0 1 2 3 ?_<;>refine Zaf 4 5 6 7 ?_<;>refine Zae 8 9 ?_<;>refine OD.st 10 ?_)<;>((refine Zac 11 ?_);refine Zaj [0] hv Tryz.func135 ?_<;>refine OL.nil (Zab ?_))<;>(refine OD.st 12 ?_<;>refine Zaa ?_)
       all_goals refine goW ?_
       all_goals exact Zad [0] (.ren rfl)
      all_goals obtain rfl:s2=s:=by rw [hs2,if_neg (by omega)]
      all_goals
       (refine Zal (id:=13) true 11 13 ?_<;>refine Zaf 0 1 2 3 ?_<;>refine Zaf 4 5 6 7 ?_<;>refine Zae 8 9 ?_<;>refine OD.st 10 ?_)<;>((refine Zac 11 ?_);refine Zaj [0] hv Tryz.func135 ?_<;>refine OL.nil (Zab ?_))<;>(refine OD.st 12 ?_<;>refine Zaa ?_)
       all_goals refine goW ?_
       all_goals exact Zad [0] (.ren rfl)
    | some o2 =>
      have hlo2:=Ye5 hq;rw [hq] at hv hsn;simp only [outW,Option.isSome_some] at hv;repeat' (with_reducible first|refine OL.st ?_|refine TC.region ?_|refine TC.seq ?_|refine OL.nil ?_|refine Zap ?_|refine TC.block ?_|refine TC.skip ?_|refine Za9 ?_|refine ZaB ?_|refine ZaD ?_|refine Zay ?_ ?_<;>(intro hc;try (exfalso;omega))|refine Zaz ?_ ?_<;>(intro hc;try (exfalso;omega))|fail)
      ·obtain rfl:s2=s+1:=by rw [hs2,if_pos ⟨by omega,by omega⟩]
       (refine Zal (id:=13) true 11 13 ?_<;>refine Zaf 0 1 2 3 ?_<;>refine Zaf 4 5 6 7 ?_<;>refine Zae 8 9 ?_<;>refine OD.st 10 ?_)<;>((refine Zac 11 ?_);refine Zaj [0] hv Tryz.func135 ?_<;>refine OL.nil (Zab ?_))<;>(refine OD.st 12 ?_<;>refine Zaa ?_)
       all_goals refine goW ?_
       all_goals exact Zan (i+1,o2) [0] ⟨by dsimp only;omega,by dsimp only;omega,hsn⟩ (by dsimp only;omega)
      all_goals obtain rfl:s2=s:=by rw [hs2,if_neg (by omega)]
      all_goals
       (refine Zal (id:=13) true 11 13 ?_<;>refine Zaf 0 1 2 3 ?_<;>refine Zaf 4 5 6 7 ?_<;>refine Zae 8 9 ?_<;>refine OD.st 10 ?_)<;>((refine Zac 11 ?_);refine Zaj [0] hv Tryz.func135 ?_<;>refine OL.nil (Zab ?_))<;>(refine OD.st 12 ?_<;>refine Zaa ?_)
       all_goals refine goW ?_
       all_goals exact Zan (i+1,o2) [0] ⟨by dsimp only;omega,by dsimp only;omega,hsn⟩ (by dsimp only;omega)
   ·rw [List.take_of_length_le (by simp;omega)] at hrun;rw [hrun] at hR;subst hR;simp only [outW,Option.isSome_some];refine goW ?_;exact Zad [0] (.ren rfl)
end Go.Proofs
