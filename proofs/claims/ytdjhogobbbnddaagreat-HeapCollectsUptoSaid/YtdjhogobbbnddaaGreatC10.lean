/- Lemmas for the claim; no conditions. -/
import Derived.Test.YtdjhogobbbnddaaGreatC9
import Derived.Carry
import Derived.ProofKit
import Derived.ChangeSlices
import Derived.Deep.Slices
import Derived.ChangeSame
import Derived.OpenShut
namespace Go.V
open Go Go.W Go.ChangeShapes Go.WideShapes Go.ChangeAt Go.RowKit Go.Deep
def YhS (w:World):Nat→Nat:=fun b=>match w.heap[b]? with|some (.cells c _ _)=>c.size|_=>0
theorem Ynb {w:World} {a:Addr} {c:Value} (h:w.cell? a=some c):a.spot=none∧a.off < YhS w a.block∧w.cell? ⟨a.block,a.off,none⟩=some c:=by
 unfold World.cell? at h;split at h
 ·rename_i cs t z hb
  split at h
  ·cases h
  ·rename_i hs
   have hsp:a.spot=none:=by cases hq:a.spot with|none=>rfl|some x=>rw [hq] at hs;simp at hs
   have hlt:a.off < cs.size:=(Array.getElem?_eq_some_iff.1 h).1;refine ⟨hsp,by unfold YhS;rw [hb];exact hlt,?_⟩;unfold World.cell?;simp only [hb];simpa using h
 ·cases h
section
variable {H:Type} {enc:TypeId × Value→H} {P:Program} {w:World} {spare:Nat→Bool} {held:Bool}
def Rd (enc:TypeId × Value→H) (P:Program) (w:World) (spare:Nat→Bool) (held:Bool) (e sz:Nat) {α:Type} (f:α→AV) (ok:α→Prop):Prop:=
 ∀ n cs y,DataW.trod enc P w 0 spare held n e cs=some y→∃ x:α,CL [] (YhS w) w cs (f x).cells∧cs.length=sz∧ok x
theorem CL.one {m w v x} (h:v.oneCell'=true) (hr:Rep m w [] v x):CL [] m w [v] [x]:=by
 refine ⟨rfl,by simpa using h,fun j u c hu hc=>?_⟩;have:j=0:=by
  have:=(List.getElem?_eq_some_iff.1 hu).1
  simp at this;omega
 subst this;simp at hu hc;subst hu hc;exact hr
theorem Rd.int {e:Nat} {k:IntKind} (he:P.underlying e=some (.int k)):Rd enc P w spare held e 1 (fun n:Int=>.raw (.int k n)) (fun n=>(Lit.int k n).wf=true):=by
 intro n cs y h;obtain ⟨i,rfl,rfl,hw⟩:=DataW.trod_int he h;exact ⟨i,CL.one rfl (.raw rfl),rfl,hw⟩
theorem Addr.add_block (a:Addr) (n:Nat):(a.add n).block=a.block:=by unfold Addr.add;split<;>rfl
theorem Addr.add_off (a:Addr) (n:Nat):(a.add n).off=a.off+n:=by unfold Addr.add;split<;>simp_all
theorem Ynx {α β:Type} {f:α→Option β}:∀ {l:List α} {r:List β},l.mapM f=some r→r.length=l.length∧∀ (i:Nat) x,l[i]?=some x→∃ y,r[i]?=some y∧f x=some y
 | [],r,h=>by simp at h;subst h;simp
 | a::l,r,h=>by
   rw [List.mapM_cons] at h
   cases ha:f a with
   | none=>rw [ha] at h;simp at h
   | some b =>
     rw [ha] at h
     cases hl:l.mapM f with
     | none=>rw [hl] at h;simp at h
     | some s =>
       rw [hl] at h;simp at h;subst h;obtain ⟨h1,h2⟩:=Ynx hl;refine ⟨by simp [h1],fun i x hx=>?_⟩
       cases i with
       | zero=>simp at hx;subst hx;exact ⟨b,rfl,ha⟩
       | succ i=>simpa using h2 i x (by simpa using hx)
theorem Yda {a:Addr} {n:Nat} {cs:List Value} (h:w.cells? 0 a n=some cs):cs.length=n∧YaA (YhS w) w ⟨a.block,a.off,none⟩ cs∧(0 < n→a.spot=none):=by
 unfold World.cells? at h;rw [if_pos (Nat.zero_le _)] at h;obtain ⟨h1,h2⟩:=Ynx h;have h1':cs.length=n:=by simpa using h1
 have h3:∀ j,j < n→∃ y,cs[j]?=some y∧w.cell? (a.add j)=some y:=fun j hj=>h2 j j (by simp [hj])
 refine ⟨h1',fun j c hj=>?_,fun h0=>?_⟩
 ·have hlt:j < n:=by rw [← h1'];exact (List.getElem?_eq_some_iff.1 hj).1
  obtain ⟨y,e1,e2⟩:=h3 j hlt;rw [hj] at e1;cases e1;obtain ⟨_,g1,g2⟩:=Ynb e2;rw [Addr.add_block,Addr.add_off] at g1 g2;exact ⟨g1,g2⟩
 ·obtain ⟨y,e1,e2⟩:=h3 0 h0;have:=(Ynb e2).1
  simpa [Addr.add] using this
theorem Rd.slice {t e sz:Nat} {α:Type} {f:α→AV} {ok:α→Prop} (ht:P.underlying t=some (.slice e)) (hc:P.cellsOf e=sz) (hsz:0 < sz) (h:Rd enc P w (fun _=>true) held e sz f ok) :
  Rd enc P w (fun _=>true) held t 1 (fun l:List α=>.sl sz none (l.map f)) (fun l=>∀ x∈l,ok x):=by
 intro n cs y hy;rcases open_slice ht hy with ⟨rfl,rfl⟩|⟨a,len,cap,m,n',D,Pl,rfl,_,hl,hm,hmm,rfl,hx⟩
 ·exact ⟨[],CL.one rfl (.nil nofun),rfl,by simp⟩
 ·have hlm:len≤m:=by rw [hmm];split<;>omega
  have each:∀ i,i < len→∃ q:α × List Value,CL [] (YhS w) w q.2 (f q.1).cells∧q.2.length=sz∧ok q.1∧YaA (YhS w) w ⟨a.block,a.off+i*sz,none⟩ q.2∧(i=0→a.spot=none):=by
   intro i hi;obtain ⟨cs',h1,h2⟩:=hx i (by omega);obtain ⟨x,g1,g2,g3⟩:=h n' cs' _ h2;rw [hc] at h1;obtain ⟨k1,k2,k3⟩:=Yda h1;rw [Addr.add_block,Addr.add_off] at k2;refine ⟨(x,cs'),g1,g2,g3,k2,fun e=>?_⟩;subst e;have:=k3 hsz
   simpa [Addr.add] using this
  by_cases hl0:len=0
  ·subst hl0;refine ⟨[],CL.one rfl ?_,rfl,by simp⟩;simp only [if_true] at hmm;subst hmm;obtain ⟨b,o,s⟩:=a;by_cases hc0:m=0
   ·subst hc0;exact .sl0 nofun
   ·obtain ⟨cs',h1,_⟩:=hx 0 (by omega);rw [hc] at h1;have h2:=(Yda h1).2.2 hsz;obtain rfl:s=none:=by simpa [Addr.add] using h2
    exact Rep.sl (xs:=[]) (fun _=>[]) nofun (Nat.zero_le _) hm (by simp) (by simp)
  obtain ⟨q0,_⟩:=each 0 (by omega);haveI:Inhabited (α × List Value):=⟨q0⟩
  obtain ⟨q,hq⟩:=choose_lt each;have key:∀ (i:Nat) x,((List.range len).map fun i=>(q i).1)[i]?=some x→i < len∧x=(q i).1:=by
   intro i x hx;rw [List.getElem?_map] at hx;have hi:i < len:=by
    cases hr:(List.range len)[i]? with
    | none=>rw [hr] at hx;simp at hx
    | some z=>have:=(List.getElem?_eq_some_iff.1 hr).1;simpa using this
   rw [List.getElem?_range hi] at hx;simp at hx;exact ⟨hi,hx.symm⟩
  refine ⟨(List.range len).map fun i=>(q i).1,CL.one rfl ?_,rfl,fun x hx=>?_⟩
  ·obtain ⟨b,o,s⟩:=a;have hlen:(((List.range len).map fun i=>(q i).1).map f).length=len:=by simp
   have hx2:∀ (i:Nat) x,(((List.range len).map fun i=>(q i).1).map f)[i]?=some x→i < len∧x=f (q i).1:=by
    intro i x hx;rw [List.getElem?_map] at hx
    cases hr:((List.range len).map fun i=>(q i).1)[i]? with
    | none=>rw [hr] at hx;simp at hx
    | some z=>rw [hr] at hx;simp at hx;obtain ⟨h1,rfl⟩:=key i z hr;exact ⟨h1,hx.symm⟩
   have hs:s=none:=(hq 0 (by omega)).2.2.2.2 rfl;subst hs;have hfin:=Rep.sl (m:=YhS w) (w:=w) (γ:=[]) (sz:=sz) (nl:=none) (xs:=((List.range len).map fun i=>(q i).1).map f) (b:=b) (o:=o) (cap:=cap) (fun i=>(q i).2) nofun (by rw [hlen];exact hl) hm (fun i x hx=>?_) (fun i x j c y hx hj hy=>?_)
   ·rw [hlen] at hfin;exact hfin
   ·obtain ⟨hi,rfl⟩:=hx2 i x hx;obtain ⟨c1,c2,c3,c4,_⟩:=hq i hi;exact ⟨c2,by rw [← c1.1,c2],c4,c1.2.1⟩
   ·obtain ⟨hi,rfl⟩:=hx2 i x hx;exact (hq i hi).1.2.2 j c y hj hy
  ·obtain ⟨i,hi,rfl⟩:=List.mem_map.1 hx;exact (hq i (List.mem_range.1 hi)).2.2.1
theorem Zed {f:Nat} {as:List AV} {r:AV} {η':Eta} (h:Spec P f as [] r η') {m:Nat→Nat} {w:World} {vs:List Value} (hv:VL m w [] vs as) :
  Calls P f vs.toArray w fun e w'=>∃ v m' γ',e=.returned v∧Rep m' w' γ' v r∧Below w.heap.size w w':=by
 refine (h m w [] vs ⟨rfl,by simp,by simp⟩ hv).mono fun e w' ⟨v,m',γ',he,hI,hr⟩=>⟨v,m',γ',he,hr,?_⟩
 have hf:=hI.far.keep;exact ⟨hf.grown.os,hf.grown.tape,hf.grown.output,hf.grown.size,fun k hk=>hf.block hk⟩
theorem YoD {f:Func} {s:ChangeSpec} {apart fresh handsOn again:Bool} {W W':World} {args:Array Value} {v:Value} {ds gs:List (DataW H)} {before pa pv:List MemPlace}
  (hW:DataW.Whole enc P f.params.toList s.vars apart W args.toList ds gs before)
  (hres:∀ (b:Nat) (sp:Nat→Bool) (hd:Bool),DataW.TrodAll enc P W' b sp hd f.resultTypes.toList (v.resultList f.resultTypes.size) (s.fn H (ds++gs)).results [])
  (hargs:∀ sp:Nat→Bool,(∀ p∈before,sp p.block=true)→DataW.TrodAll enc P W' 0 sp true f.params.toList args.toList (s.fn H (ds++gs)).args pa)
  (hvars:∀ sp:Nat→Bool,(∀ p∈before,sp p.block=true)→DataW.TrodVars enc P W' sp s.vars (s.fn H (ds++gs)).vars pv)
  (hps:before=pa++pv) (hb:Below W.heap.size W W')
  (hok:∀ (j:Nat) (t:TypeId) (r:Value),f.resultTypes[j]?=some t→(v.resultList f.resultTypes.size)[j]?=some r→Value.okWide P W' .any 0 t r) :
  s.post enc P f apart fresh handsOn again W args v W':=by
 have hold:∀ p∈before,(fun b=>decide (b < W.heap.size)) p.block=true:=fun p hp=>by simpa using hW.lt p hp
 have hlt:=hW.lt;refine ⟨ds,gs,before,[],pa,pv,hW,hres _ _ _,hargs _ hold,hvars _ hold,World.keptBut_mono (fun p hp=>⟨hp,?_⟩) (hb.frame (·∈before)),fun _=>?_⟩
 ·rw [hps,List.mem_append] at hp;exact Or.inr hp
 ·obtain ⟨_,_,_,_,_,hz,hn⟩:=hW;refine ⟨hok,_,_,([]++pa)++pv,⟨[]++pa,pv,trodAll_append (hargs _ (fun _ _=>rfl)) (hres _ _ _),hvars _ (fun _ _=>rfl),rfl,?_,?_⟩,?_⟩
  ·intro b off hp;have hp':MemPlace.cell b off∈before:=by rw [hps];simpa using hp
   have hlt':b < W.heap.size:=hlt _ hp';rw [hb.frozen hlt'];exact hz b off hp'
  ·intro ha;have:=hn ha
   rw [hps] at this;simpa using this
  ·intro p hp _;rw [hps];simpa using hp
theorem Yiv (hl:laidOutB P=true) {W W':World} (hb:Below W.heap.size W W') {sp:Nat→Bool}:∀ {ts:List Nat} {vs:List Value} {ds:List (DataW H)} {ps:List MemPlace},(∀ t∈ts,P.readableRec t=true∧t < P.types.size)→(∀ x∈ps,x.block < W.heap.size∧sp x.block=true) →
  DataW.TrodAll enc P W 0 (fun _=>true) true ts vs ds ps→DataW.TrodAll enc P W' 0 sp true ts vs ds ps
 | [],[],[],_,_,_,h=>h
 | t::ts,v::vs,d::ds,ps,ht,hlt,⟨p,q,h1,h2,e⟩=>by
   subst e;refine ⟨p,q,WideElems.Trod_stays hl (ht t (by simp)).1 (ht t (by simp)).2 h1 (fun x hx=>hb.same (hlt x (by simp [hx])).1) (fun x hx=>by simpa using (hlt x (by simp [hx])).2),?_,rfl⟩;exact Yiv hl hb (fun t h=>ht t (by simp [h])) (fun x hx=>hlt x (by simp [hx])) h2
 | [],_::_,_,_,_,_,h=>h.elim
 | [],[],_::_,_,_,_,h=>h.elim
 | _::_,[],_,_,_,_,h=>h.elim
 | _::_,_::_,[],_,_,_,h=>h.elim
theorem Ylq {f:Nat} {fn:Func} {s:ChangeSpec} {as:List AV} {η':Eta} {tb:Nat} (h:Spec P f as [] (bool true) η') (hl:laidOutB P=true) (htb:P.underlying tb=some .bool) (hres:fn.resultTypes=#[tb])
  {W:World} {vs:List Value} {ds gs:List (DataW H)} {before p:List MemPlace}
  (hW:DataW.Whole enc P fn.params.toList s.vars false W vs.toArray.toList ds gs before) (hA:DataW.TrodAll enc P W 0 (fun _=>true) true fn.params.toList vs ds p) (hbf:before=p++[]) (hvs:s.vars=[])
  (hr:(s.fn H (ds++gs)).results=[.lit (.bool true)]) (ha:(s.fn H (ds++gs)).args=ds) (hg:(s.fn H (ds++gs)).vars=[]) (hts:∀ t∈fn.params.toList,P.readableRec t=true∧t < P.types.size) (hv:VL (YhS W) W [] vs as) :
  Calls P f vs.toArray W fun e W'=>∃ v,e=.returned v∧s.post enc P fn false true false false W vs.toArray v W':=by
 refine (Zed h hv).mono fun e W' ⟨v,m',γ',he,hr',hb⟩=>?_;obtain rfl:=hr'.raw_eq;subst he;have hlt:∀ x∈p,x.block < W.heap.size:=fun x hx=>hW.lt x (by rw [hbf];simpa using hx)
 refine ⟨_,rfl,YoD (pa:=p) (pv:=[]) hW (fun _ _ _=>?_) (fun sp hsp=>?_) (fun sp _=>?_) hbf hb (ok_one hres rfl (okWide_bool_mk htb true))⟩
 ·rw [hres,hr];exact trodAll_cons_mk (shut_bool htb true) trodAll_mk0
 ·rw [ha];exact Yiv hl hb hts (fun x hx=>⟨hlt x hx,hsp x (by rw [hbf];simpa using hx)⟩) hA
 ·rw [hvs,hg];rfl
end
end Go.V
