/- Lemmas for the claim; no conditions. -/
import Derived.Test.YtdjhogobbbnddaaGreatC23
import Derived.Test.YtdjhogobbbnddaaGreatC18
import Derived.Test.YtdjhogobbbnddaaGreatC27
import Derived.Test.YtdjhogobbbnddaaGreatC19
import Derived.Test.YtdjhogobbbnddaaGreatC14
namespace Go.Proofs
open Go Go.W Go.V
set_option maxHeartbeats 4000000 in
theorem YkE (g:List (List Int)) (ow:List Int) (hb:g.length≤1000000):∀ (n:Nat) (f:Fct),nodesF f≤n→V.Spec Tryz.prog 156 [fwA g ow,Yck f] [] (V.bool (nodeOkB g.length ow.length f)) []:=by
 intro n;induction n with
 | zero=>intro f h;have:=Yby f;omega
 | succ n ih =>
   intro f hn;have hkid:∀ k∈f.kids,V.Spec Tryz.prog 156 [fwA g ow,Yck k] [] (V.bool (nodeOkB g.length ow.length k)) []:=fun k hk=>ih k (by have:=YdV hk;omega)
   have hcls:=Yi3 g ow f.cls (by omega);have hpath:=YkA g ow f.path;have hleaf:=Yf5 f;rw [YfN];rw [Ydm] at hleaf ⊢;obtain ⟨op,arg,path,cls,fn,l⟩:=f;rw [Yl2];simp only [Fct.op,Fct.arg,Fct.path,Fct.cls,Fct.n,Fct.kids] at *
   by_cases hsw:(1≤op∧op≤7)∧(op=2→fn=0∧0≤cls∧cls < 3+(g.length:Int))∧(op=3∨op=4→cls=0∧-1000000000≤fn∧fn≤1000000000)
   ·obtain ⟨hop,h2,h34⟩:=hsw;refine Se Tryz.func156 rfl rfl rfl fun B hB=>?_;with_reducible refine TC.seq ?_
    with_reducible refine TC.region ?_
    with_reducible refine OL.box ?_
    with_reducible refine OL.box ?_
    with_reducible refine OL.st ?_
    with_reducible refine OL.nil ?_
    with_reducible refine Zap ?_
    refine Za6 2 ?_;refine Za6 3 ?_;with_reducible refine TC.seq ?_
    with_reducible refine TC.region ?_
    with_reducible refine OL.st ?_
    with_reducible refine OL.nil ?_
    with_reducible refine Zap ?_
    with_reducible refine TC.seq ?_
    refine ZaO [(2,.ep (fwC g ow) 0),(3,.ep [V.int op,V.int arg,ints path,V.int cls,V.int fn,.sl 6 none (l.map Yck)] 0),(5,V.int (Yeh op))] [] ?_ ?_
    ·repeat' (with_reducible first|refine OL.st ?_|refine TC.region ?_|refine TC.seq ?_|refine OL.nil ?_|refine Zap ?_|refine TC.block ?_|refine TC.skip ?_|refine ZaM ?_|refine ZaB ?_|refine Zay ?_ ?_<;>(intro hc;try (exfalso;omega))|refine Zaz ?_ ?_<;>(intro hc;try (exfalso;omega))|fail)
     all_goals first
      | (refine OL.c hcls Tryz.func184 ?_)
      | skip
     all_goals repeat' (with_reducible first|refine OL.st ?_|refine OL.nil ?_|refine Zap ?_|refine TC.skip ?_|refine ZaM ?_|refine ZaB ?_|refine Zay ?_ ?_<;>(intro hc;try (exfalso;omega))|fail)
     all_goals refine ZaP [] (hr:=⟨⟨_,rfl,LE.ren rfl⟩,⟨_,rfl,LE.ren rfl⟩,⟨_,rfl,LE.int (by rw [Yeh];simp [*];try omega)⟩,trivial⟩)
    have hsum:(decide (1≤op)&&decide (op≤7))=true:=by simp;omega
    rw [hsum,Bool.true_and];have hkn:Yeh op≤2:=by rw [Yeh];split<;>(try split)<;>omega
    generalize Yeh op=kn at *
    by_cases hlen:l.length=kn;rotate_left
    ·have e:decide (l.length=kn)=false:=decide_eq_false hlen;rw [e];refine goW ?_;exact Zad [] (.ren rfl)
    have e:decide (l.length=kn)=true:=decide_eq_true hlen;rw [e,Bool.true_and];have hla:YcE op=true→(if op=2 then decide (fn=0)&&(decide (0≤cls)&&decide (cls < 3+(g.length:Int))) else decide (cls=0)&&YaE fn)=true:=by
     intro hl;by_cases ho:op=2
     ·have:=h2 ho;rw [if_pos ho];simp;omega
     ·rw [if_neg ho];have:op=3∨op=4:=by simp [YcE] at hl;omega
      have:=h34 this
      simp [YaE];omega
    by_cases harg:0≤arg∧arg < 3;rotate_left
    ·have hf:(if YcE op=true then ((decide (0≤arg)&&decide (arg < 3))&&Yig ow.length path)&&(if op=2 then decide (fn=0)&&(decide (0≤cls)&&decide (cls < 3+(g.length:Int))) else decide (cls=0)&&YaE fn) else (decide (arg=0)&&decide (path.length=0))&&(decide (cls=0)&&decide (fn=0)))=false:=by
      have e1:(decide (0≤arg)&&decide (arg < 3))=false:=by rw [Bool.eq_false_iff];simp;omega
      have e2:decide (arg=0)=false:=by simp;omega
      rw [e1,e2];split<;>rfl
     rw [hf];repeat' (with_reducible first|refine OL.st ?_|refine TC.region ?_|refine TC.seq ?_|refine OL.nil ?_|refine Zap ?_|refine ZaY ?_|refine ZaB ?_|refine ZaD ?_|refine Zaz ?_ ?_<;>(intro hc;try (exfalso;omega))|refine TC.ret ?_|refine ZaE ?_|fail)
     all_goals exact Zad [] (.ren rfl)
    have e1:(decide (0≤arg)&&decide (arg < 3))=true:=by simp;omega
    rw [e1,Bool.true_and]
    cases hp:Yig ow.length path
    ·rw [hp] at hpath;have hf:(if YcE op=true then false&&(if op=2 then decide (fn=0)&&(decide (0≤cls)&&decide (cls < 3+(g.length:Int))) else decide (cls=0)&&YaE fn) else (decide (arg=0)&&decide (path.length=0))&&(decide (cls=0)&&decide (fn=0)))=false:=by
      have:path.length≠0:=by
       intro h0;have:path=[]:=List.eq_nil_of_length_eq_zero h0
       subst this;simp [Yig] at hp
      simp [this]
     rw [hf];refine goW ?_;refine OL.c hpath Tryz.func185 ?_;refine goW ?_;exact Zad [] (.ren rfl)
    rw [hp] at hpath;rw [Bool.true_and];refine goW ?_;refine OL.c hpath Tryz.func185 ?_;refine goW ?_;refine OL.c hleaf Tryz.func157 ?_;have hno:∀ k (hk:k < l.length),nodesOkB g.length ow.length (l.drop k)=(nodeOkB g.length ow.length l[k]&&nodesOkB g.length ow.length (l.drop (k+1))):=fun k hk=>by rw [Yac hk,nodesOkB]
    cases hlf:YcE op
    ·simp only [Bool.false_eq_true,if_false];by_cases hz:arg=0∧path.length=0∧cls=0∧fn=0;rotate_left
     ·have hf:((decide (arg=0)&&decide (path.length=0))&&(decide (cls=0)&&decide (fn=0)))=false:=by rw [Bool.eq_false_iff];simp only [ne_eq,Bool.and_eq_true,decide_eq_true_eq];omega
      rw [hf];repeat' (with_reducible first|refine OL.st ?_|refine TC.region ?_|refine TC.seq ?_|refine OL.nil ?_|refine Zap ?_|refine ZaY ?_|refine ZaB ?_|refine ZaD ?_|refine Zay ?_ ?_<;>(intro hc;try (exfalso;omega))|refine Zaz ?_ ?_<;>(intro hc;try (exfalso;omega))|refine TC.ret ?_|refine ZaE ?_|fail)
      all_goals exact Zad [] (.ren rfl)
     have hf:((decide (arg=0)&&decide (path.length=0))&&(decide (cls=0)&&decide (fn=0)))=true:=by simp only [Bool.and_eq_true,decide_eq_true_eq];omega
     rw [hf,Bool.true_and];refine goW ?_;refine Zat (fun k:Nat=>[(2,.ep (fwC g ow) 0),(92,.sl 6 none (l.map Yck)),(93,V.int l.length),(94,V.int k)]) (fun _=>[]) (fun k=>k≤l.length∧nodesOkB g.length ow.length l=nodesOkB g.length ow.length (l.drop k)) (fun k=>l.length-k) 0 [] ⟨Nat.zero_le _,rfl⟩ ?_;rintro k ⟨hk,hinv⟩;by_cases hkl:k < l.length
     ·have hs:=hkid l[k] (List.getElem_mem _);rw [hno k hkl] at hinv
      cases hq:nodeOkB g.length ow.length l[k]
      ·rw [hq] at hs hinv;refine goW ?_;refine OL.c hs Tryz.func156 ?_;refine goW ?_;exact Zad [] (.bool (by rw [hinv]))
      ·rw [hq] at hs hinv;refine goW ?_;refine OL.c hs Tryz.func156 ?_;refine goW ?_;exact Zan (k+1) [] ⟨by omega,hinv⟩ (by omega)
     ·rw [Yat (by omega)] at hinv;refine goW ?_;exact Zad [] (.bool (by rw [hinv]))
    ·rw [if_pos rfl,hla hlf,Bool.true_and];refine goW ?_;refine Zat (fun k:Nat=>[(2,.ep (fwC g ow) 0),(92,.sl 6 none (l.map Yck)),(93,V.int l.length),(94,V.int k)]) (fun _=>[]) (fun k=>k≤l.length∧nodesOkB g.length ow.length l=nodesOkB g.length ow.length (l.drop k)) (fun k=>l.length-k) 0 [] ⟨Nat.zero_le _,rfl⟩ ?_;rintro k ⟨hk,hinv⟩;by_cases hkl:k < l.length
     ·have hs:=hkid l[k] (List.getElem_mem _);rw [hno k hkl] at hinv
      cases hq:nodeOkB g.length ow.length l[k]
      ·rw [hq] at hs hinv;refine goW ?_;refine OL.c hs Tryz.func156 ?_;refine goW ?_;exact Zad [] (.bool (by rw [hinv]))
      ·rw [hq] at hs hinv;refine goW ?_;refine OL.c hs Tryz.func156 ?_;refine goW ?_;exact Zan (k+1) [] ⟨by omega,hinv⟩ (by omega)
     ·rw [Yat (by omega)] at hinv;refine goW ?_;exact Zad [] (.bool (by rw [hinv]))
   ·have hf:((decide (1≤op)&&decide (op≤7)&&decide (l.length=Yeh op))&&(if YcE op then ((decide (0≤arg)&&decide (arg < 3))&&Yig ow.length path)&&(if op=2 then decide (fn=0)&&(decide (0≤cls)&&decide (cls < 3+(g.length:Int))) else decide (cls=0)&&YaE fn) else (decide (arg=0)&&decide (path.length=0))&&(decide (cls=0)&&decide (fn=0))))=false:=by
     rw [Bool.eq_false_iff];intro h;refine hsw ?_;simp only [Bool.and_eq_true,decide_eq_true_eq] at h;refine ⟨h.1.1,fun h2=>?_,fun h34=>?_⟩
     ·have:=h.2
      rw [if_pos (by simp [YcE,h2])] at this;rw [if_pos h2] at this;simp only [Bool.and_eq_true,decide_eq_true_eq] at this;exact this.2
     ·have:=h.2
      rw [if_pos (by simp [YcE];omega),if_neg (by omega)] at this;simp only [Bool.and_eq_true,decide_eq_true_eq,YaE] at this;exact this.2
    rw [hf];refine Se Tryz.func156 rfl rfl rfl fun B hB=>?_;repeat' (with_reducible first|refine OL.st ?_|refine OL.box ?_|refine TC.region ?_|refine TC.seq ?_|refine OL.nil ?_|refine Zap ?_|refine TC.block ?_|refine TC.skip ?_|refine ZaY ?_|refine ZaB ?_|refine ZaD ?_|refine Zay ?_ ?_<;>(intro hc;try (exfalso;omega))|refine Zaz ?_ ?_<;>(intro hc;try (exfalso;omega))|refine TC.ret ?_|refine ZaE ?_|refine ZaK ?_|fail)
    all_goals first
     | (refine OL.c hcls Tryz.func184 ?_)
     | skip
    all_goals refine goW ?_
    all_goals exact Zad [] (.ren rfl)
end Go.Proofs
namespace Go.V
open Go Go.W
section
variable {C:Cx} {ops:Array Oper} {Q:Qt} {ρ:Ro} {η η2:Eta} {rest:List Oper} {T d X:Nat} {pos:String} {af:Array Edge} {x y:Operand}
theorem ZbX {i k E:Nat} {ab:List Bool} {t:Bool} {nl:Option Bool} (hk:k < ab.length) (kk:OL C ops Q rest ρ η2) (hs:(C.tab X).map (fun e=>(e.sh.agg,e.size))=some (false,1):=by with_unfolding_all exact rfl)
  (hx:ev2 ρ x=some (.gp i 1 k 0):=by with_unfolding_all exact rfl) (hy:ev2 ρ y=some (.raw (.bool t)):=by with_unfolding_all exact rfl) (ho:η[i]?=some (.gs false E 1 nl (ab.map V.bool)):=by with_unfolding_all exact rfl) (hη:η.set i (.gs false E 1 nl ((ab.set k t).map V.bool))=η2:=by (try dsimp only [List.set])<;>exact rfl):OL C ops Q (⟨none,.store X x y,T,pos,af,none⟩::rest) ρ η:=
 ZbC (e:=V.bool ab[k]) (e':=V.bool t) kk hs hx hy ho (Ybp hk) rfl (by decide) (by rw [← List.map_set];exact hη)
end
end Go.V
namespace Go.Proofs
open Go Go.W Go.V
def bL (n:Nat) (K:List Int):List Bool:=(List.range n).map fun b=>K.contains ((b:Nat):Int)
theorem YrJ (n:Nat) (K:List Int):(bL n K).length=n:=by simp [bL]
theorem Yis (n:Nat) (K:List Int) {k:Nat} (h:k < (bL n K).length):(bL n K)[k]=K.contains ((k:Nat):Int):=by simp [bL]
theorem Yug (n:Nat) (K K':List Int) {p:Nat} (_hp:p < n) (h:∀ b:Nat,b≠p→K.contains ((b:Nat):Int)=K'.contains ((b:Nat):Int)):(bL n K).set p (K'.contains ((p:Nat):Int))=bL n K':=by
 refine List.ext_getElem (by simp [bL]) fun b h1 h2=>?_;rw [List.getElem_set,Yis,Yis];split
 ·rename_i e;subst e;rfl
 ·rename_i e;exact h b (fun e'=>e e'.symm)
theorem Yfb (L:List Int) (k b:Int):(insK L k).contains b=(L.contains b || b==k):=by
 rw [Bool.eq_iff_iff,List.contains_iff_mem,Ym4,Bool.or_eq_true,List.contains_iff_mem,beq_iff_eq]
theorem YnZ {g:List (List Int)} (hf:fine g=true) {c:Nat} (h3:3≤c) (hc:c < 3+g.length) {b:Int} (hb:3≤b):(YaW g c (c-2)).contains b=upHas g c b:=by
 rw [Bool.eq_iff_iff,List.contains_iff_mem,(YiP hf h3 hc (c-2) (Nat.le_refl _)).1];constructor
 ·rintro (h|⟨q,q1,q2,q3,q4⟩)
  ·rw [h];exact YbT hf hc
  ·exact Yjm hf (c+1) c (by omega) hc q _ (by omega) q3 q4
 ·intro h;rcases YfZ hf (c+1) c (by omega) hc _ hb h with h|⟨q,q0,q1,q2,q4⟩
  ·exact .inl h
  ·exact .inr ⟨q,by omega,q1,q2,q4⟩
set_option maxHeartbeats 2000000 in
theorem Yoo (g:List (List Int)) (ow:List Int) (hf:fine g=true) {c:Nat} (h3:3≤c) (hc:c < 3+g.length) :
  V.Spec Tryz.prog 198 [fwA g ow,V.int c] [] (.sl 1 none ((bL (3+g.length) (YaW g c (c-2))).map V.bool)) []:=by
 have h16:=YaP hf;obtain ⟨N,hN⟩:∃ N,N=3+g.length:=⟨_,rfl⟩;rw [← hN];refine Se Tryz.func198 rfl rfl rfl fun B hB=>?_;repeat' (with_reducible first|refine OL.st ?_|refine OL.box ?_|refine TC.region ?_|refine TC.seq ?_|refine OL.nil ?_|refine Zap ?_|fail)
 refine Zag 2 ?_;refine Zb1 (l:=N) (c:=N) (i:=3+(g.length:Int)) (j:=3+(g.length:Int)) (u:=V.bool false) (u0:=V.bool false) ?_ (fun m w γ=>.raw rfl) (hi:=by omega) (hj:=by omega);have e0:List.replicate N (V.bool false)=(List.replicate N false).map V.bool:=by simp
 rw [e0];have hl0:(List.replicate N false).length=N:=by simp
 repeat' (with_reducible first|refine OL.st ?_|refine TC.region ?_|refine TC.seq ?_|refine OL.nil ?_|refine Zap ?_|fail)
 refine ZbX (k:=c) (ab:=List.replicate N false) (by simp;omega) ?_;have e1:(List.replicate N false).set c true=bL N (YaW g c 0):=by
  refine List.ext_getElem (by simp [bL]) fun b h1 h2=>?_;rw [List.getElem_set,Yis,YaW];split
  ·rename_i e;subst e;simp
  ·rename_i e;simp;omega
 rw [e1];repeat' (with_reducible first|refine OL.st ?_|refine TC.region ?_|refine TC.seq ?_|refine OL.nil ?_|refine Zap ?_|refine TC.block ?_|fail)
 refine Zat (fun j:Nat=>[(2,.ep (fwC g ow) 0),(5,.hs 1),(6,V.int ((c:Int)-j))]) (fun j=>[.dead,.gs false 4 1 none ((bL N (YaW g c j)).map V.bool)]) (fun j=>j≤c-2) (fun j=>c-2-j) 0 [0,1] (Nat.zero_le _) ?_ (hr:=⟨⟨_,rfl,LE.ren rfl⟩,⟨_,rfl,LE.ren rfl⟩,⟨_,rfl,LE.int (by omega)⟩,trivial⟩);rintro j hj;by_cases hjc:j < c-2
 ·have hps:=YaK hf (c:=((c-j:Nat):Int)) (by omega);have hpi:g[((c:Int)-j-3).toNat]'(by omega)=pOf g ((c-j:Nat):Int):=by
   rw [Yk0 (by omega),Yai (by omega)];congr 1;omega
  have hus:YaW g c (j+1)=if (YaW g c j).contains ((c-j:Nat):Int) then (pOf g ((c-j:Nat):Int)).foldl insK (YaW g c j) else YaW g c j:=rfl;generalize YaW g c j=K at *
  repeat' (with_reducible first|refine OL.st ?_|refine TC.region ?_|refine TC.seq ?_|refine OL.nil ?_|refine Zap ?_|refine TC.block ?_|refine TC.skip ?_|refine Zay ?_ ?_<;>(intro hc;try (exfalso;omega))|fail)
  rw [hpi];generalize pOf g ((c-j:Nat):Int)=ps at *
  obtain ⟨Kf,hKf⟩:∃ Kf:Nat→List Int,Kf=fun i=>if K.contains ((c-j:Nat):Int) then (ps.take i).foldl insK K else K:=⟨_,rfl⟩
  have hK0:Kf 0=K:=by rw [hKf];simp
  have hKl:Kf ps.length=if K.contains ((c-j:Nat):Int) then ps.foldl insK K else K:=by rw [hKf];simp
  rw [← hKl] at hus;refine Zat (fun i:Nat=>[(2,.ep (fwC g ow) 0),(5,.hs 1),(6,V.int ((c:Int)-j)),(27,ints ps),(28,V.int ps.length),(29,V.int i)]) (fun i=>[.dead,.gs false 4 1 none ((bL N (Kf i)).map V.bool)]) (fun i=>i≤ps.length) (fun i=>ps.length-i) 0 [0,1] (Nat.zero_le _) ?_ (ho:=⟨⟨_,rfl,OE.ren rfl⟩,⟨_,rfl,OE.gsS (by rw [hK0])⟩,trivial⟩);rintro i hi;have hlb:=YrJ N (Kf i);by_cases hil:i < ps.length
  ·have hp:=hps.2.1 ps[i] (List.getElem_mem _);have hcin:(Kf i).contains ((c-j:Nat):Int)=K.contains ((c-j:Nat):Int):=by
    rw [hKf]
    cases hq:K.contains ((c-j:Nat):Int) with
    | false=>simp only [Bool.false_eq_true,if_false];exact hq
    | true =>
      simp only [if_true];rw [List.contains_iff_mem,Yhi];exact .inl (List.contains_iff_mem.1 hq)
   have hsn:(bL N (Kf i)).set ps[i].toNat ((Kf i).contains ps[i] || (Kf i).contains ((c-j:Nat):Int))=bL N (Kf (i+1)):=by
    have ht:Kf (i+1)=if K.contains ((c-j:Nat):Int) then insK (Kf i) ps[i] else Kf i:=by
     rw [hKf];dsimp only;split
     ·rw [Yab hil,List.foldl_append];rfl
     ·rfl
    have hpe:((ps[i].toNat:Nat):Int)=ps[i]:=by omega
    have hv:((Kf i).contains ps[i] || (Kf i).contains ((c-j:Nat):Int))=(Kf (i+1)).contains ((ps[i].toNat:Nat):Int):=by
     rw [hpe,ht,hcin]
     cases K.contains ((c-j:Nat):Int)
     ·simp
     ·rw [if_pos rfl,Yfb];simp
    rw [hv];refine Yug N _ _ (by omega) fun b hb=>?_;rw [ht];split
    ·rw [Yfb];have:((b:Int)==ps[i])=false:=by simp;omega
     rw [this,Bool.or_false]
    ·rfl
   obtain ⟨ub,hub⟩:∃ ub,ub=bL N (Kf i):=⟨_,rfl⟩;rw [← hub] at hlb hsn ⊢;have hg1:ub[ps[i].toNat]'(by omega)=(Kf i).contains ps[i]:=by subst hub;rw [Yis,show ((ps[i].toNat:Nat):Int)=ps[i] by omega]
   have hg2:ub[((c:Int)-j).toNat]'(by omega)=(Kf i).contains ((c-j:Nat):Int):=by subst hub;rw [Yis,show ((((c:Int)-j).toNat:Nat):Int)=((c-j:Nat):Int) by omega]
   generalize (Kf i).contains ps[i]=q1 at *
   generalize (Kf i).contains ((c-j:Nat):Int)=q2 at *
   repeat' (with_reducible first|refine OL.st ?_|refine TC.region ?_|refine TC.seq ?_|refine OL.nil ?_|refine Zap ?_|refine TC.block ?_|refine TC.skip ?_|refine Zay ?_ ?_<;>(intro hc;try (exfalso;omega))|fail)
   simp only [hg1]
   cases q1
   ·rw [Bool.false_or] at hsn;repeat' (first|(with_reducible refine OL.st ?_)|(with_reducible refine ZaB ?_)|fail)
    simp only [hg2];refine ZbX (k:=ps[i].toNat) (ab:=ub) (by omega) ?_;rw [hsn];repeat' (with_reducible first|refine OL.st ?_|refine TC.region ?_|refine OL.nil ?_|refine Zap ?_|refine ZaM ?_|fail)
    exact Zan (i+1) [0,1] (by omega) (by omega)
   ·rw [Bool.true_or] at hsn;repeat' (first|(with_reducible refine OL.st ?_)|(with_reducible refine ZaD ?_)|fail)
    refine ZbX (k:=ps[i].toNat) (ab:=ub) (by omega) ?_;rw [hsn];repeat' (with_reducible first|refine OL.st ?_|refine TC.region ?_|refine OL.nil ?_|refine Zap ?_|refine ZaM ?_|fail)
    exact Zan (i+1) [0,1] (by omega) (by omega)
  ·obtain rfl:i=ps.length:=by omega
   repeat' (with_reducible first|refine OL.st ?_|refine TC.region ?_|refine TC.seq ?_|refine OL.nil ?_|refine Zap ?_|refine ZaM ?_|refine TC.exit ?_|refine Za3 ?_|refine Za2 ?_|refine Zay ?_ ?_<;>(intro hc;try (exfalso;omega))|fail)
   exact Zan (j+1) [0,1] (by omega) (by omega) (ho:=⟨⟨_,rfl,OE.ren rfl⟩,⟨_,rfl,OE.gsS (by rw [hus])⟩,trivial⟩) (hr:=⟨⟨_,rfl,LE.ren rfl⟩,⟨_,rfl,LE.ren rfl⟩,⟨_,rfl,LE.int (by omega)⟩,trivial⟩)
 ·obtain rfl:j=c-2:=by omega
  repeat' (with_reducible first|refine OL.st ?_|refine TC.region ?_|refine TC.seq ?_|refine OL.nil ?_|refine Zap ?_|refine TC.exit ?_|refine Za3 ?_|refine Za2 ?_|refine Zay ?_ ?_<;>(intro hc;try (exfalso;omega))|refine TC.ret ?_|fail)
  refine Za4 4 ?_;exact Zad [] (.ren rfl)
theorem Yjw (g:List (List Int)) (ow:List Int) (hf:fine g=true) {a b:Nat} (h3:3≤a) (ha:a < 3+g.length) (hb3:3≤b) (hb:b < 3+g.length):V.Spec Tryz.prog 176 [fwA g ow,V.int a,V.int b] [] (V.bool (upHas g a b)) []:=by
 have hu:=Yoo g ow hf h3 ha;have hk:=YnZ hf h3 ha (b:=b) (by omega);have hself:=YbT hf ha;have hlb:=YrJ (3+g.length) (YaW g a (a-2));obtain ⟨ub,hub⟩:∃ ub,ub=bL (3+g.length) (YaW g a (a-2)):=⟨_,rfl⟩;rw [← hub] at hu hlb;have hgt:ub[b]'(by omega)=upHas g a b:=by subst hub;rw [Yis,hk]
 refine Se Tryz.func176 rfl rfl rfl fun B hB=>?_;repeat' (with_reducible first|refine OL.st ?_|refine OL.box ?_|refine TC.region ?_|refine TC.seq ?_|refine OL.nil ?_|refine Zap ?_|refine TC.skip ?_|refine ZaY ?_|refine ZaB ?_|refine ZaD ?_|refine Zay ?_ ?_<;>(intro hc;try (exfalso;omega))|refine Zaz ?_ ?_<;>(intro hc;try (exfalso;omega))|refine TC.ret ?_|refine ZaE ?_|fail)
 ·obtain rfl:a=b:=by omega
  exact Zad [] (.bool hself.symm)
 ·refine OL.c hu Tryz.func198 ?_;repeat' (with_reducible first|refine OL.st ?_|refine TC.region ?_|refine TC.seq ?_|refine OL.nil ?_|refine Zap ?_|refine TC.ret ?_|fail)
  exact Zad [] (.bool hgt)
theorem Yhr (g:List (List Int)) (ow:List Int) (hf:fine g=true) {c:Nat} (h3:3≤c) (hc:c < 3+g.length) {s:Nat} (hs:s < ow.length) (how:3≤ow[s]∧ow[s] < 3+(g.length:Int)):V.Spec Tryz.prog 147 [fwA g ow,V.int c,V.int s] [] (V.bool (upHas g c ow[s])) []:=by
 have hb:=Yjw g ow hf h3 hc (b:=ow[s].toNat) (by omega) (by omega);have e:((ow[s].toNat:Nat):Int)=ow[s]:=by omega
 rw [e] at hb;refine Se Tryz.func147 rfl rfl rfl fun B hB=>?_;repeat' (with_reducible first|refine OL.st ?_|refine OL.box ?_|refine TC.region ?_|refine TC.seq ?_|refine OL.nil ?_|refine Zap ?_|fail)
 (refine Zal (id:=1) true 13 13 ?_<;>refine Zae 0 1 ?_<;>refine OD.st 2 ?_<;>refine Zaw 9 ?_ ?_<;>(intro hc;try (exfalso;omega))<;>(first|(refine OD.st 3 ?_)|(refine OD.of 3 ?_))<;>refine Zaf 4 5 6 7 ?_<;>refine Zae 8 9 ?_<;>refine Zah 10 hb Tryz.func176 ?_<;>refine Zae 11 12 ?_<;>refine Zaa ?_)
 all_goals repeat' (first|(with_reducible refine Zap ?_)|(with_reducible refine TC.ret ?_)|fail)
 all_goals exact Zad [] (.ren rfl)
end Go.Proofs
