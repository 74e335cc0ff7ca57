/- Lemmas for the claim; no conditions. -/
import Derived.Test.YtdjhogobbbnddaaGreatC10
import Derived.SizedLaws
import Derived.Test.YtdjhogobbbnddaaGreatC9
import Derived.Laws.MakeOwn
namespace Go.V
open Go Go.W Go.ChangeShapes Go.WideShapes Go.ChangeAt Go.RowKit Go.Deep
theorem YrQ {a b:Bool} (h:a=true) (k:b=true):(a&&b)=true:=by rw [h,k];rfl
section
variable {H:Type} {enc:TypeId × Value→H} {P:Program} {w:World} {held:Bool}
def YgC (P:Program) (t:TypeId) (d:DataW H):Prop:=∀ q∈d.weights P t,q≤reachBytes
def Rs (enc:TypeId × Value→H) (P:Program) (w:World) (held:Bool) (e sz:Nat) {α:Type} (f:α→AV) (ok:α→Prop):Prop:=
 ∀ n cs y,DataW.trod enc P w 0 (fun _=>true) held n e cs=some y→YgC P e y.1→∃ x:α,CL [] (YhS w) w cs (f x).cells∧cs.length=sz∧ok x
theorem Rs.int {e:Nat} {k:IntKind} (he:P.underlying e=some (.int k)):Rs enc P w held e 1 (fun n:Int=>.raw (.int k n)) (fun _=>True):=by
 intro n cs y h _;obtain ⟨i,rfl,rfl,_⟩:=DataW.trod_int he h;exact ⟨i,CL.one rfl (.raw rfl),rfl,trivial⟩
theorem Rs.bool {e:Nat} (he:P.underlying e=some .bool):Rs enc P w held e 1 (fun b:Bool=>.raw (.bool b)) (fun _=>True):=by
 intro n cs y h _;obtain ⟨i,rfl,rfl⟩:=DataW.trod_bool he h;exact ⟨i,CL.one rfl (.raw rfl),rfl,trivial⟩
theorem YmF {e:TypeId} {d:DataW H} {q:Nat}:∀ {l:List (DataW H)},d∈l→q∈d.weights P e→q∈DataW.weightsAll P e l
 | x::l,h,hq=>by
   rw [DataW.weightsAll,List.mem_append];rcases List.mem_cons.1 h with rfl|h
   ·exact .inl hq
   ·exact .inr (YmF h hq)
theorem Ydx {t:TypeId} {d:DataW H} {q:Nat}:∀ {ts:List TypeId} {l:List (DataW H)} {i:Nat},ts[i]?=some t→l[i]?=some d→q∈d.weights P t→q∈DataW.weightsEach P ts l
 | u::ts,x::l,i,h,h',hq=>by
   rw [DataW.weightsEach,List.mem_append]
   cases i with
   | zero=>simp at h h';subst h h';exact .inl hq
   | succ i=>exact .inr (Ydx (by simpa using h) (by simpa using h') hq)
 | [],_,i,h,_,_=>by simp at h
 | _::_,[],i,_,h,_=>by simp at h
theorem Rs.slice {t e sz B:Nat} {α:Type} {f:α→AV} {ok:α→Prop} (ht:P.underlying t=some (.slice e)) (hc:P.cellsOf e=sz) (hB:P.bytesOf e=B) (hsz:0 < sz) (h:Rs enc P w held e sz f ok) :
  Rs enc P w held t 1 (fun l:List α=>.sl sz none (l.map f)) (fun l=>l.length*B≤reachBytes∧∀ x∈l,ok x):=by
 intro n cs y hy hlight;rcases open_slice ht hy with ⟨rfl,rfl⟩|⟨a,len,cap,m,n',D,Pl,rfl,_,hl,hm,hmm,rfl,hx⟩
 ·exact ⟨[],CL.one rfl (.nil nofun),rfl,by simp⟩
 ·have hlm:len≤m:=by rw [hmm];split<;>omega
  have hwt:∀ q,q∈((((List.range len).map D).length+((List.range (m-len)).map fun j=>D (len+j)).length)*P.bytesOf e::(DataW.weightsAll P e ((List.range len).map D)++DataW.weightsAll P e ((List.range (m-len)).map fun j=>D (len+j))))→q≤reachBytes:=fun q hq=>hlight q (by
   show q∈DataW.weights P t (.slice _ _);rw [DataW.weights,ht];exact hq)
  have hD:∀ i,i < len→YgC P e (D i):=fun i hi q hq=>hwt q (by
   refine List.mem_cons_of_mem _ (List.mem_append_left _ (YmF (d:=D i) (List.mem_map.2 ⟨i,List.mem_range.2 hi,rfl⟩) hq))
   )
  have hlen:len*B≤reachBytes:=by
   have:=hwt _ (List.mem_cons_self ..)
   rw [hB] at this;simp only [List.length_map,List.length_range] at this;exact Nat.le_trans (Nat.mul_le_mul_right B (by omega)) this
  have each:∀ i,i < len→∃ q:α × List Value,CL [] (YhS w) w q.2 (f q.1).cells∧q.2.length=sz∧ok q.1∧YaA (YhS w) w ⟨a.block,a.off+i*sz,none⟩ q.2∧(i=0→a.spot=none):=by
   intro i hi;obtain ⟨cs',h1,h2⟩:=hx i (by omega);obtain ⟨x,g1,g2,g3⟩:=h n' cs' _ h2 (hD i hi);rw [hc] at h1;obtain ⟨k1,k2,k3⟩:=Yda h1;rw [Addr.add_block,Addr.add_off] at k2;refine ⟨(x,cs'),g1,g2,g3,k2,fun e=>?_⟩;subst e;have:=k3 hsz
   simpa [Addr.add] using this
  by_cases hl0:len=0
  ·subst hl0;refine ⟨[],CL.one rfl ?_,rfl,by simp⟩;simp only [if_true] at hmm;subst hmm;obtain ⟨b,o,s⟩:=a;by_cases hc0:m=0
   ·subst hc0;exact .sl0 nofun
   ·obtain ⟨cs',h1,_⟩:=hx 0 (by omega);rw [hc] at h1;have h2:=(Yda h1).2.2 hsz;obtain rfl:s=none:=by simpa [Addr.add] using h2
    exact Rep.sl (xs:=[]) (fun _=>[]) nofun (Nat.zero_le _) hm (by simp) (by simp)
  obtain ⟨q0,_⟩:=each 0 (by omega);haveI:Inhabited (α × List Value):=⟨q0⟩
  obtain ⟨q,hq⟩:=choose_lt each;have key:∀ (i:Nat) x,((List.range len).map fun i=>(q i).1)[i]?=some x→i < len∧x=(q i).1:=by
   intro i x hx;rw [List.getElem?_map] at hx;have hi:i < len:=by
    cases hr:(List.range len)[i]? with
    | none=>rw [hr] at hx;simp at hx
    | some z=>have:=(List.getElem?_eq_some_iff.1 hr).1;simpa using this
   rw [List.getElem?_range hi] at hx;simp at hx;exact ⟨hi,hx.symm⟩
  refine ⟨(List.range len).map fun i=>(q i).1,CL.one rfl ?_,rfl,by simpa using hlen,fun x hx=>?_⟩
  ·obtain ⟨b,o,s⟩:=a;have hlen:(((List.range len).map fun i=>(q i).1).map f).length=len:=by simp
   have hx2:∀ (i:Nat) x,(((List.range len).map fun i=>(q i).1).map f)[i]?=some x→i < len∧x=f (q i).1:=by
    intro i x hx;rw [List.getElem?_map] at hx
    cases hr:((List.range len).map fun i=>(q i).1)[i]? with
    | none=>rw [hr] at hx;simp at hx
    | some z=>rw [hr] at hx;simp at hx;obtain ⟨h1,rfl⟩:=key i z hr;exact ⟨h1,hx.symm⟩
   have hs:s=none:=(hq 0 (by omega)).2.2.2.2 rfl;subst hs;have hfin:=Rep.sl (m:=YhS w) (w:=w) (γ:=[]) (sz:=sz) (nl:=none) (xs:=((List.range len).map fun i=>(q i).1).map f) (b:=b) (o:=o) (cap:=cap) (fun i=>(q i).2) nofun (by rw [hlen];exact hl) hm (fun i x hx=>?_) (fun i x j c y hx hj hy=>?_)
   ·rw [hlen] at hfin;exact hfin
   ·obtain ⟨hi,rfl⟩:=hx2 i x hx;obtain ⟨c1,c2,c3,c4,_⟩:=hq i hi;exact ⟨c2,by rw [← c1.1,c2],c4,c1.2.1⟩
   ·obtain ⟨hi,rfl⟩:=hx2 i x hx;exact (hq i hi).1.2.2 j c y hj hy
  ·obtain ⟨i,hi,rfl⟩:=List.mem_map.1 hx;exact (hq i (List.mem_range.1 hi)).2.2.1
/-! ### Structs, field by field -/
def RsS (enc:TypeId × Value→H) (P:Program) (w:World) (held:Bool) (fs:List Field) (o sz:Nat) {α:Type} (g:α→List AV) (ok:α→Prop):Prop:=
 ∀ (m:Nat) (cs:List Value) (xs:List (DataW H × List MemPlace)),(∀ (i:Nat) f,fs[i]?=some f→DataW.trod enc P w 0 (fun _=>true) held m f.type ((cs.drop f.offset).take (P.cellsOf f.type))=xs[i]?)→xs.length=fs.length →
  (∀ (i:Nat) f x,fs[i]?=some f→xs[i]?=some x→YgC P f.type x.1)→∃ x:α,CL [] (YhS w) w ((cs.drop o).take sz) (g x)∧((cs.drop o).take sz).length=sz∧ok x
theorem RsS.nil {o:Nat}:RsS enc P w held [] o 0 (fun _:Unit=>[]) (fun _=>True):=fun _ _ _ _ _ _=>⟨(),⟨rfl,by simp,by simp⟩,rfl,trivial⟩
theorem CL.app {γ m} {w:World} {vs us:List Value} {cs ds:List AV} (h:CL γ m w vs cs) (k:CL γ m w us ds):CL γ m w (vs++us) (cs++ds):=by
 refine ⟨by rw [List.length_append,List.length_append,h.1,k.1],fun c hc=>(List.mem_append.1 hc).elim (h.2.1 c) (k.2.1 c),fun j v c hv hc=>?_⟩;by_cases hj:j < vs.length
 ·rw [List.getElem?_append_left hj] at hv;rw [List.getElem?_append_left (by rw [← h.1];exact hj)] at hc;exact h.2.2 j v c hv hc
 ·rw [List.getElem?_append_right (by omega)] at hv;rw [List.getElem?_append_right (by rw [← h.1];omega),← h.1] at hc;exact k.2.2 _ v c hv hc
theorem RsS.cons {fs:List Field} {f:Field} {o s1 s2:Nat} {α β:Type} {f1:α→AV} {g:β→List AV} {ok1:α→Prop} {ok2:β→Prop} (hf:Rs enc P w held f.type s1 f1 ok1) (h:RsS enc P w held fs (o+s1) s2 g ok2) (ho:f.offset=o) (hc:P.cellsOf f.type=s1) :
  RsS enc P w held (f::fs) o (s1+s2) (fun x:α × β=>(f1 x.1).cells++g x.2) (fun x=>ok1 x.1∧ok2 x.2):=by
 intro m cs xs hx hl hlt;match xs,hl with
 | y::ys,hl =>
   have h0:=hx 0 f rfl;simp only [List.getElem?_cons_zero] at h0;rw [ho,hc] at h0;obtain ⟨x,a1,a2,a3⟩:=hf m _ y h0 (hlt 0 f y rfl rfl);obtain ⟨x2,b1,b2,b3⟩:=h m cs ys (fun i f hi=>by have:=hx (i+1) f (by simpa using hi);simpa using this) (by simpa using hl) (fun i f x hi hj=>hlt (i+1) f x (by simpa using hi) (by simpa using hj));have e:(cs.drop o).take (s1+s2)=(cs.drop o).take s1++(cs.drop (o+s1)).take s2:=by rw [List.take_add,List.drop_drop]
   exact ⟨(x,x2),by rw [e];exact a1.app b1,by rw [e,List.length_append,a2,b2],a3,b3⟩
theorem Rs.struct {t sz:Nat} {fs:Array Field} {α:Type} {g:α→List AV} {ok:α→Prop} (ht:P.underlying t=some (.struct fs)) (hc:P.cellsOf t=sz) (h:RsS enc P w held fs.toList 0 sz g ok):Rs enc P w held t sz (fun x=>.st (g x)) ok:=by
 intro n cs y hy hlight;obtain ⟨xs,m,hm,rfl,hcl,hxl,hf⟩:=DataW.trod_struct ht hy;rw [hc] at hcl;obtain ⟨x,h1,h2,h3⟩:=h m cs xs (fun i f hi=>hf i f (by simpa using hi)) (by simpa using hxl) (fun i f x hi hxi q hq=>hlight q (by
  show q∈DataW.weights P t (.agg _);rw [DataW.weights,ht];exact Ydx (i:=i) (by rw [List.getElem?_map,hi];rfl) (by rw [List.getElem?_map,hxi];rfl) hq))
 rw [List.drop_zero,List.take_of_length_le (by omega)] at h1;exact ⟨x,h1,hcl,h3⟩
theorem Rs.map {e sz:Nat} {α β:Type} {f:α→AV} {f':β→AV} {ok:α→Prop} {ok':β→Prop} (h:Rs enc P w held e sz f ok) (φ:α→β) (hf:∀ x,(f' (φ x)).cells=(f x).cells) (hok:∀ x,ok x→ok' (φ x)):Rs enc P w held e sz f' ok':=fun n cs y hy hl=>by
 obtain ⟨x,h1,h2,h3⟩:=h n cs y hy hl;exact ⟨φ x,by rw [hf];exact h1,h2,hok x h3⟩
theorem Rs.argS {t sz:Nat} {α:Type} {g:α→List AV} {ok:α→Prop} {vs:Array Value} {d:DataW H} {p:List MemPlace} (h:Rs enc P w held t sz (fun x=>.st (g x)) ok) (ht:DataW.Trod enc P w 0 (fun _=>true) held t (.agg vs) d p) (hl:YgC P t d):∃ x:α,Rep (YhS w) w [] (.agg vs) (.st (g x))∧ok x:=by
 obtain ⟨fuel,hy⟩:=ht;obtain ⟨x,h1,_,h3⟩:=h _ _ _ hy hl;refine ⟨x,?_,h3⟩;have hcells:Value.cells (.agg vs)=vs:=rfl;rw [hcells] at h1;obtain ⟨a,b,c⟩:=h1;exact .st a b c
end
section
variable {H:Type} {enc:TypeId × Value→H} {P:Program} {w:World} {held:Bool}
def RsZ (N:Nat) (enc:TypeId × Value→H) (P:Program) (w:World) (held:Bool) (e sz:Nat) {α:Type} (f:α→AV) (ok:α→Prop):Prop:=
 ∀ n cs y,DataW.trod enc P w 0 (fun _=>true) held n e cs=some y→SizeOf.sizeOf y.1≤N→YgC P e y.1→∃ x:α,CL [] (YhS w) w cs (f x).cells∧cs.length=sz∧ok x
theorem Rs.z {e sz:Nat} {α:Type} {f:α→AV} {ok:α→Prop} (h:Rs enc P w held e sz f ok) (N:Nat):RsZ N enc P w held e sz f ok:=fun n cs y hy _ hl=>h n cs y hy hl
theorem Rs.ofZ {e sz:Nat} {α:Type} {f:α→AV} {ok:α→Prop} (h:∀ N,RsZ N enc P w held e sz f ok):Rs enc P w held e sz f ok:=fun n cs y hy hl=>h _ n cs y hy (Nat.le_refl _) hl
theorem RsZ.zero {e sz:Nat} {α:Type} {f:α→AV} {ok:α→Prop}:RsZ 0 enc P w held e sz f ok:=fun n cs y hy hz hl=>by
 exfalso;obtain ⟨d,l⟩:=y
 cases d<;>simp at hz
theorem RsZ.slice {N t e sz B:Nat} {α:Type} {f:α→AV} {ok:α→Prop} (ht:P.underlying t=some (.slice e)) (hc:P.cellsOf e=sz) (hB:P.bytesOf e=B) (hsz:0 < sz) (h:RsZ N enc P w held e sz f ok) :
  RsZ N enc P w held t 1 (fun l:List α=>.sl sz none (l.map f)) (fun l=>l.length*B≤reachBytes∧∀ x∈l,ok x):=by
 intro n cs y hy hZ hlight;rcases open_slice ht hy with ⟨rfl,rfl⟩|⟨a,len,cap,m,n',D,Pl,rfl,_,hl,hm,hmm,rfl,hx⟩
 ·exact ⟨[],CL.one rfl (.nil nofun),rfl,by simp⟩
 ·have hlm:len≤m:=by rw [hmm];split<;>omega
  have hwt:∀ q,q∈((((List.range len).map D).length+((List.range (m-len)).map fun j=>D (len+j)).length)*P.bytesOf e::(DataW.weightsAll P e ((List.range len).map D)++DataW.weightsAll P e ((List.range (m-len)).map fun j=>D (len+j))))→q≤reachBytes:=fun q hq=>hlight q (by
   show q∈DataW.weights P t (.slice _ _);rw [DataW.weights,ht];exact hq)
  have hD:∀ i,i < len→YgC P e (D i):=fun i hi q hq=>hwt q (by
   refine List.mem_cons_of_mem _ (List.mem_append_left _ (YmF (d:=D i) (List.mem_map.2 ⟨i,List.mem_range.2 hi,rfl⟩) hq))
   )
  have hZD:∀ i,i < len→SizeOf.sizeOf (D i)≤N:=fun i hi=>by
   have h1:SizeOf.sizeOf (D i) < SizeOf.sizeOf ((List.range len).map D):=List.sizeOf_lt_of_mem (List.mem_map.2 ⟨i,List.mem_range.2 hi,rfl⟩);have h2:SizeOf.sizeOf ((List.range len).map D) < SizeOf.sizeOf (DataW.slice ((List.range len).map D) ((List.range (m-len)).map fun j=>D (len+j))):=by rw [DataW.slice.sizeOf_spec];omega
   exact Nat.le_trans (Nat.le_of_lt (Nat.lt_trans h1 h2)) hZ
  have hlen:len*B≤reachBytes:=by
   have:=hwt _ (List.mem_cons_self ..)
   rw [hB] at this;simp only [List.length_map,List.length_range] at this;exact Nat.le_trans (Nat.mul_le_mul_right B (by omega)) this
  have each:∀ i,i < len→∃ q:α × List Value,CL [] (YhS w) w q.2 (f q.1).cells∧q.2.length=sz∧ok q.1∧YaA (YhS w) w ⟨a.block,a.off+i*sz,none⟩ q.2∧(i=0→a.spot=none):=by
   intro i hi;obtain ⟨cs',h1,h2⟩:=hx i (by omega);obtain ⟨x,g1,g2,g3⟩:=h n' cs' _ h2 (hZD i hi) (hD i hi);rw [hc] at h1;obtain ⟨k1,k2,k3⟩:=Yda h1;rw [Addr.add_block,Addr.add_off] at k2;refine ⟨(x,cs'),g1,g2,g3,k2,fun e=>?_⟩;subst e;have:=k3 hsz
   simpa [Addr.add] using this
  by_cases hl0:len=0
  ·subst hl0;refine ⟨[],CL.one rfl ?_,rfl,by simp⟩;simp only [if_true] at hmm;subst hmm;obtain ⟨b,o,s⟩:=a;by_cases hc0:m=0
   ·subst hc0;exact .sl0 nofun
   ·obtain ⟨cs',h1,_⟩:=hx 0 (by omega);rw [hc] at h1;have h2:=(Yda h1).2.2 hsz;obtain rfl:s=none:=by simpa [Addr.add] using h2
    exact Rep.sl (xs:=[]) (fun _=>[]) nofun (Nat.zero_le _) hm (by simp) (by simp)
  obtain ⟨q0,_⟩:=each 0 (by omega);haveI:Inhabited (α × List Value):=⟨q0⟩
  obtain ⟨q,hq⟩:=choose_lt each;have key:∀ (i:Nat) x,((List.range len).map fun i=>(q i).1)[i]?=some x→i < len∧x=(q i).1:=by
   intro i x hx;rw [List.getElem?_map] at hx;have hi:i < len:=by
    cases hr:(List.range len)[i]? with
    | none=>rw [hr] at hx;simp at hx
    | some z=>have:=(List.getElem?_eq_some_iff.1 hr).1;simpa using this
   rw [List.getElem?_range hi] at hx;simp at hx;exact ⟨hi,hx.symm⟩
  refine ⟨(List.range len).map fun i=>(q i).1,CL.one rfl ?_,rfl,by simpa using hlen,fun x hx=>?_⟩
  ·obtain ⟨b,o,s⟩:=a;have hlen:(((List.range len).map fun i=>(q i).1).map f).length=len:=by simp
   have hx2:∀ (i:Nat) x,(((List.range len).map fun i=>(q i).1).map f)[i]?=some x→i < len∧x=f (q i).1:=by
    intro i x hx;rw [List.getElem?_map] at hx
    cases hr:((List.range len).map fun i=>(q i).1)[i]? with
    | none=>rw [hr] at hx;simp at hx
    | some z=>rw [hr] at hx;simp at hx;obtain ⟨h1,rfl⟩:=key i z hr;exact ⟨h1,hx.symm⟩
   have hs:s=none:=(hq 0 (by omega)).2.2.2.2 rfl;subst hs;have hfin:=Rep.sl (m:=YhS w) (w:=w) (γ:=[]) (sz:=sz) (nl:=none) (xs:=((List.range len).map fun i=>(q i).1).map f) (b:=b) (o:=o) (cap:=cap) (fun i=>(q i).2) nofun (by rw [hlen];exact hl) hm (fun i x hx=>?_) (fun i x j c y hx hj hy=>?_)
   ·rw [hlen] at hfin;exact hfin
   ·obtain ⟨hi,rfl⟩:=hx2 i x hx;obtain ⟨c1,c2,c3,c4,_⟩:=hq i hi;exact ⟨c2,by rw [← c1.1,c2],c4,c1.2.1⟩
   ·obtain ⟨hi,rfl⟩:=hx2 i x hx;exact (hq i hi).1.2.2 j c y hj hy
  ·obtain ⟨i,hi,rfl⟩:=List.mem_map.1 hx;exact (hq i (List.mem_range.1 hi)).2.2.1
def Yn7 (N:Nat) (enc:TypeId × Value→H) (P:Program) (w:World) (held:Bool) (fs:List Field) (o sz:Nat) {α:Type} (g:α→List AV) (ok:α→Prop):Prop:=
 ∀ (m:Nat) (cs:List Value) (xs:List (DataW H × List MemPlace)),(∀ (i:Nat) f,fs[i]?=some f→DataW.trod enc P w 0 (fun _=>true) held m f.type ((cs.drop f.offset).take (P.cellsOf f.type))=xs[i]?)→xs.length=fs.length →
  (∀ (x:DataW H × List MemPlace),x∈xs→SizeOf.sizeOf x.1≤N)→(∀ (i:Nat) f x,fs[i]?=some f→xs[i]?=some x→YgC P f.type x.1)→∃ x:α,CL [] (YhS w) w ((cs.drop o).take sz) (g x)∧((cs.drop o).take sz).length=sz∧ok x
theorem Yn7.nil {N o:Nat}:Yn7 N enc P w held [] o 0 (fun _:Unit=>[]) (fun _=>True):=fun _ _ _ _ _ _ _=>⟨(),⟨rfl,by simp,by simp⟩,rfl,trivial⟩
theorem Yn7.cons {N:Nat} {fs:List Field} {f:Field} {o s1 s2:Nat} {α β:Type} {f1:α→AV} {g:β→List AV} {ok1:α→Prop} {ok2:β→Prop} (hf:RsZ N enc P w held f.type s1 f1 ok1) (h:Yn7 N enc P w held fs (o+s1) s2 g ok2) (ho:f.offset=o) (hc:P.cellsOf f.type=s1) :
  Yn7 N enc P w held (f::fs) o (s1+s2) (fun x:α × β=>(f1 x.1).cells++g x.2) (fun x=>ok1 x.1∧ok2 x.2):=by
 intro m cs xs hx hl hz hlt;match xs,hl with
 | y::ys,hl =>
   have h0:=hx 0 f rfl;simp only [List.getElem?_cons_zero] at h0;rw [ho,hc] at h0;obtain ⟨x,a1,a2,a3⟩:=hf m _ y h0 (hz y (by simp)) (hlt 0 f y rfl rfl);obtain ⟨x2,b1,b2,b3⟩:=h m cs ys (fun i f hi=>by have:=hx (i+1) f (by simpa using hi);simpa using this) (by simpa using hl) (fun x hx=>hz x (by simp [hx])) (fun i f x hi hj=>hlt (i+1) f x (by simpa using hi) (by simpa using hj));have e:(cs.drop o).take (s1+s2)=(cs.drop o).take s1++(cs.drop (o+s1)).take s2:=by rw [List.take_add,List.drop_drop]
   exact ⟨(x,x2),by rw [e];exact a1.app b1,by rw [e,List.length_append,a2,b2],a3,b3⟩
theorem RsZ.struct {N t sz:Nat} {fs:Array Field} {α:Type} {g:α→List AV} {ok:α→Prop} (ht:P.underlying t=some (.struct fs)) (hc:P.cellsOf t=sz) (h:Yn7 N enc P w held fs.toList 0 sz g ok):RsZ (N+1) enc P w held t sz (fun x=>.st (g x)) ok:=by
 intro n cs y hy hZ hlight;obtain ⟨xs,m,hm,rfl,hcl,hxl,hf⟩:=DataW.trod_struct ht hy;rw [hc] at hcl;obtain ⟨x,h1,h2,h3⟩:=h m cs xs (fun i f hi=>hf i f (by simpa using hi)) (by simpa using hxl) (fun x hx=>by
  have h1:SizeOf.sizeOf x.1 < SizeOf.sizeOf (xs.map (·.1)):=List.sizeOf_lt_of_mem (List.mem_map.2 ⟨x,hx,rfl⟩);have h2:SizeOf.sizeOf (DataW.agg (xs.map (·.1)):DataW H)=1+SizeOf.sizeOf (xs.map (·.1)):=DataW.agg.sizeOf_spec _;have h3:SizeOf.sizeOf (DataW.agg (xs.map (·.1)):DataW H)≤N+1:=hZ;omega) (fun i f x hi hxi q hq=>hlight q (by
  show q∈DataW.weights P t (.agg _);rw [DataW.weights,ht];exact Ydx (i:=i) (by rw [List.getElem?_map,hi];rfl) (by rw [List.getElem?_map,hxi];rfl) hq))
 rw [List.drop_zero,List.take_of_length_le (by omega)] at h1;exact ⟨x,h1,hcl,h3⟩
theorem RsZ.map {N e sz:Nat} {α β:Type} {f:α→AV} {f':β→AV} {ok:α→Prop} {ok':β→Prop} (h:RsZ N enc P w held e sz f ok) (φ:α→β) (hf:∀ x,(f' (φ x)).cells=(f x).cells) (hok:∀ x,ok x→ok' (φ x)):RsZ N enc P w held e sz f' ok':=fun n cs y hy hz hl=>by
 obtain ⟨x,h1,h2,h3⟩:=h n cs y hy hz hl;exact ⟨φ x,by rw [hf];exact h1,h2,hok x h3⟩
end
open Go Go.W
def Wk (C:Cx) (ρ:Ro) (η:Eta) (ρ':Ro) (η':Eta):Prop:=∀ a w,A2 C.N C.D C.B a w ρ η→A2 C.N C.D C.B a w ρ' η'
section
variable {C:Cx} {ops:Array Oper} {Q:Qt} {ρ ρ':Ro} {η η' η2:Eta} {rest:List Oper} {T d X Y:Nat} {pos:String} {af:Array Edge} {op:Op} {x y z:Operand} {A K:Code} {e:Exit}
theorem Za5 (h:Wk C ρ η ρ' η') (k:OL C ops Q rest ρ' η'):OL C ops Q rest ρ η:=fun a w hA=>k a w (h a w hA)
theorem Zbd (h:Wk C ρ η ρ' η') (k:TC C Q A ρ' η'):TC C Q A ρ η:=fun a w hA=>k a w (h a w hA)
theorem Zbo (h:Wk C ρ η ρ' η') (k:TX C Q e ρ' η'):TX C Q e ρ η:=fun a w hA=>k a w (h a w hA)
/-! ## Freezing, views -/
theorem In.freeze {B m w γ η} {i:Nat} {fz T sz nl} {xs:List AV} {v} (h:In B m w γ η) (hv:γ[i]?=some v) (ho:η[i]?=some (.gs fz T sz nl xs)) :
  ∃ m',Ext m w m' w∧W.Own T sz CA m' w v xs∧In B m' w γ (η.set i (.gs true T sz nl xs)):=by
 obtain ⟨h1,h2,h3⟩:=h.heap.ok i v _ hv ho
 cases fz with
 | true=>exact ⟨m,.refl _ _,h1,h.put (o':=.gs true T sz nl xs) hv ho ((Keep.refl m w).touch _) ⟨h1,h2,h3⟩ (.inl rfl)⟩
 | false =>
   obtain ⟨m',a,b,c,d⟩:=Yoc.ext h1;have a':W.Own T sz CA m' w v xs:=Own.imp a (fun cs x hc=>CMono.mono (R:=CA) d hc);refine ⟨m',d,a',h.put (o':=.gs true T sz nl xs) hv ho ⟨⟨rfl,rfl,rfl,Nat.le_refl _,fun _ _ _=>rfl⟩,fun b' _ hb=>b b' hb,d⟩ ⟨a',h2,h3⟩ (.inl rfl)⟩
theorem Wk.freeze {i:Nat} {fz E sz nl} {xs:List AV} (ho:η[i]?=some (.gs fz E sz nl xs)):Wk C ρ η ρ (η.set i (.gs true E sz nl xs)):=by
 rintro a w ⟨m,γ,ρc,hE,hR,hI⟩;obtain ⟨v,hv,_⟩:=hI.heap.get ho;obtain ⟨m',h1,_,h3⟩:=hI.freeze hv ho;exact ⟨m',γ,ρc,hE,hR.mono h1 (.refl _),h3⟩
theorem ZbA {t i:Nat} {fz E sz nl} {xs:List AV} (hx:lk ρ t=some (.hs i)) (ho:η[i]?=some (.gs fz E sz nl xs)):Wk C ρ η ((t,.sl sz none xs)::ρ) (η.set i (.gs true E sz nl xs)):=by
 rintro a w ⟨m,γ,ρc,hE,hR,hI⟩;obtain ⟨v,hv,hok⟩:=hI.heap.get ho;obtain ⟨m',h1,h2,h3⟩:=hI.freeze hv ho;obtain ⟨u,g1,g2⟩:=hR.look hx;have:u=v:=by
  have:=g2.hs_get.1
  rw [hv] at this;cases this;rfl
 subst this;refine ⟨m',γ,(t,u)::ρc,⟨hE.size,hE.defers,fun s q hs=>?_⟩,⟨rfl,Rep.of_rs h2.rs (NL.none _),hR.mono h1 (.refl _)⟩,h3⟩;simp only [W.look] at hs
 cases hb:Nat.beq t s with
 | true =>
   rw [hb] at hs;simp at hs;subst hs;rw [← Nat.eq_of_beq_eq_true hb];exact hE.look _ _ g1
 | false=>rw [hb] at hs;exact hE.look _ _ (by simpa using hs)
theorem ZcT {t k E sz:Nat} (hx:lk ρ t=some (.raw (.slice none 0 0))) (hk:η.length=k):Wk C ρ η ((t,.hs k)::ρ) (η++[.gs false E sz (some true) []]):=by
 rintro a w ⟨m,γ,ρc,hE,hR,hI⟩;obtain ⟨u,g1,g2⟩:=hR.look hx;rw [g2.raw_eq] at g1;have hl:=hI.heap.len;refine ⟨m,γ++[.slice none 0 0],(t,.slice none 0 0)::ρc,⟨hE.size,hE.defers,fun s q hs=>?_⟩,⟨rfl,.hs (by rw [← hk,← hl];exact YaD),hR.mono (.refl _ _) (.app _ _)⟩,hI.new (.refl _ _) ⟨⟨m,.nil,fun _ _=>rfl,fun b hb=>by simp [Yay] at hb⟩,⟨fun _=>rfl,nofun⟩,by simp⟩ (fun b hb=>by simp [blk,Yay] at hb)⟩;simp only [W.look] at hs
 cases hb:Nat.beq t s with
 | true =>
   rw [hb] at hs;simp at hs;subst hs;rw [← Nat.eq_of_beq_eq_true hb];exact hE.look _ _ g1
 | false=>rw [hb] at hs;exact hE.look _ _ (by simpa using hs)
theorem ZdL {t sz:Nat} {nl} {xs:List AV} (hx:lk ρ t=some (.sl sz nl xs)) (k:xs.length≤9223372036854775807→TC C Q A ρ η):TC C Q A ρ η:=by
 rintro a w ⟨m,γ,ρc,hE,hR,hI⟩;obtain ⟨u,g1,g2⟩:=hR.look hx;exact k g2.sl_len a w ⟨m,γ,ρc,hE,hR,hI⟩
/-! ## Variables in memory -/
def YpK:List Value→Option (List AV)
 | []=>some []
 | v::r=>if v.oneCell' then (match YpK r with|some l=>some (.raw v::l)|none=>none) else none
theorem YeZ {m w γ}:∀ {vs:List Value} {cs:List AV},YpK vs=some cs→CL γ m w vs cs
 | [],cs,h=>by simp [YpK] at h;subst h;exact ⟨rfl,by simp,by simp⟩
 | v::r,cs,h=>by
   simp only [YpK] at h;split at h
   ·rename_i hv
    split at h
    ·rename_i l hl
     cases h
     obtain ⟨a,b,c⟩:=YeZ (m:=m) (w:=w) (γ:=γ) hl;refine ⟨by simp [a],by simpa using ⟨hv,b⟩,fun j u y h1 h2=>?_⟩
     cases j with
     | zero=>simp at h1 h2;subst h1 h2;exact .raw hv
     | succ j=>exact c j u y (by simpa using h1) (by simpa using h2)
    ·cases h
   ·cases h
def okc:AV→Bool
 | .tp _=>false
 | .junk=>false
 | _=>true
def Yu2:AV→Bool
 | .st _=>true
 | _=>false
theorem Rep.one {m w γ v u} (h:Rep m w γ v u) (ho:okc u=true):v.oneCell'=true∨∃ cs,u=.st cs:=by
 cases h<;>first|(simp [okc] at ho;done)|exact .inl rfl|exact .inr ⟨_,rfl⟩|(left;assumption)|(left;exact MP.one _ (by assumption))
theorem A2.newvar {a w} {k:Nat} {cells:List Value} {cs:List AV} {N D B} (m:Nat→Nat) (γ:List Value) (ρc:List (Nat × Value)) (hE:Env N D a ρc) (hR:RL m w γ ρc ρ) (hI:In B m w γ η) (hC:CL γ m w cells cs) (hk:η.length=k) (hd:d < N) :
  A2 N D B (a.put (some d) (.pointer (some ⟨w.heap.size,0,none⟩))) (w.alloc (.cells cells.toArray X)) ((d,.bp k 0)::ρ) (η++[.cb X cs]):=by
 have hK:=Keep.alloc m w (.cells cells.toArray X) 0;have hl:=hI.heap.len;refine ⟨_,γ++[.pointer (some ⟨w.heap.size,0,none⟩)],_,hE.put _ hd,⟨rfl,.bp (by rw [← hk,← hl];exact YaD),hR.mono hK.ext (.app _ _)⟩,hI.new hK ⟨w.heap.size,cells,rfl,⟨heap_alloc_new w _,by simp⟩,hC.mono hK.ext (.app _ _)⟩ (fun b hb=>by simp [blk] at hb;omega)⟩
theorem One.alloc {cs:List AV} {k:Nat} (hz:(C.tab X).bind (fun e=>YpK e.zero.cells.toList)=some cs) (hk:η.length=k) (hη:η++[.cb X cs]=η2) (hd:Nat.blt d C.N=true) :
  Yli C ops Q ⟨some d,.alloc X,T,pos,af,none⟩ ρ η ((d,.bp k 0)::ρ) η2:=by
 rintro a w Kc ⟨m,γ,ρc,hE,hR,hI⟩ kk
 cases ht:C.tab X with
 | none=>rw [ht] at hz;cases hz
 | some te =>
   rw [ht] at hz;simp only [Option.bind_some] at hz;obtain ⟨i,i1,i2,i3,i4,i5⟩:=(C.hT X te ht).info;subst hη;refine wl_value (v:=.pointer (some ⟨w.heap.size,0,none⟩)) (w':=w.alloc (.cells te.zero.cells.toList.toArray X)) rfl ?_ (kk _ _ (World.grownBy_alloc w _ none) (A2.newvar m γ ρc hE hR hI (YeZ hz) hk (by simpa using hd)));simp [execOp,Instr.alloc,zeroValue,typeInfo,i1,i4,newVar,newRow]
theorem OL.alloc {cs:List AV} {k:Nat} (kk:OL C ops Q rest ((d,.bp k 0)::ρ) η2) (hz:(C.tab X).bind (fun e=>YpK e.zero.cells.toList)=some cs:=by with_unfolding_all exact rfl) (hk:η.length=k:=by (try dsimp only [List.length])<;>exact rfl) (hη:η++[.cb X cs]=η2:=by (try dsimp only [List.cons_append,List.nil_append,List.append_eq])<;>exact rfl) (hd:Nat.blt d C.N=true:=by with_unfolding_all exact rfl) :
  OL C ops Q (⟨some d,.alloc X,T,pos,af,none⟩::rest) ρ η:=OL.one (One.alloc hz hk hη hd) kk
theorem One.box {u} {cs:List AV} {k:Nat} (hx:ev2 ρ x=some u) (hu:okc u=true) (hc:u.cells=cs) (hk:η.length=k) (hη:η++[.cb X cs]=η2) (hd:Nat.blt d C.N=true) :
  Yli C ops Q ⟨some d,.box X x,T,pos,af,none⟩ ρ η ((d,.bp k 0)::ρ) η2:=by
 rintro a w Kc ⟨m,γ,ρc,hE,hR,hI⟩ kk;obtain ⟨v,g1,g2⟩:=hR.ev hx;obtain ⟨vs,h1,h2⟩:=g2.cellsOf (g2.one hu);subst hη hc;refine wl_value (v:=.pointer (some ⟨w.heap.size,0,none⟩)) (w':=w.alloc (.cells vs.toArray X)) rfl ?_ (kk _ _ (World.grownBy_alloc w _ none) (A2.newvar m γ ρc hE hR hI h2 hk (by simpa using hd)));simp [execOp,Instr.box,hE.ev g1,newVar,newRow,h1]
theorem OL.box {u} {cs:List AV} {k:Nat} (kk:OL C ops Q rest ((d,.bp k 0)::ρ) η2) (hx:ev2 ρ x=some u:=by with_unfolding_all exact rfl) (hu:okc u=true:=by with_unfolding_all exact rfl) (hc:u.cells=cs:=by (try dsimp only [AV.cells])<;>exact rfl) (hk:η.length=k:=by (try dsimp only [List.length])<;>exact rfl) (hη:η++[.cb X cs]=η2:=by (try dsimp only [List.cons_append,List.nil_append,List.append_eq])<;>exact rfl) (hd:Nat.blt d C.N=true:=by with_unfolding_all exact rfl) :
  OL C ops Q (⟨some d,.box X x,T,pos,af,none⟩::rest) ρ η:=OL.one (One.box hx hu hc hk hη hd) kk
/-! ## Stores -/
theorem CL.set {γ m w} {vs:List Value} {cs:List AV} {o:Nat} {v:Value} {u:AV} (h:CL γ m w vs cs) (h1:v.oneCell'=true) (hr:Rep m w γ v u):CL γ m w (vs.set o v) (cs.set o u):=by
 refine ⟨by simp [h.1],fun c hc=>?_,fun j a b ha hb=>?_⟩
 ·rcases List.mem_or_eq_of_mem_set hc with h'|h'
  ·exact h.2.1 c h'
  ·subst h';exact h1
 ·rw [List.getElem?_set] at ha hb;split at ha
  ·rename_i e
   rw [if_pos e] at hb;split at ha
   ·rename_i hlt
    split at hb
    ·cases ha;cases hb;exact hr
    ·cases hb
   ·cases ha
  ·rename_i e
   rw [if_neg e] at hb;exact h.2.2 j a b ha hb
theorem OL.store {i o E:Nat} {cs:List AV} {u u0:AV} (kk:OL C ops Q rest ρ η2) (hs:(C.tab X).map (fun e=>(e.sh.agg,e.size))=some (false,1):=by with_unfolding_all exact rfl) (hx:ev2 ρ x=some (.bp i o):=by with_unfolding_all exact rfl) (hy:ev2 ρ y=some u:=by with_unfolding_all exact rfl) (hu:(okc u&&Nat.beq u.cells.length 1)=true:=by with_unfolding_all exact rfl) (hns:Yu2 u=false:=by with_unfolding_all exact rfl)
  (ho:η[i]?=some (.cb E cs):=by with_unfolding_all exact rfl) (hold:cs[o]?=some u0:=by with_unfolding_all exact rfl) (hη:η.set i (.cb E (cs.set o u))=η2:=by (try dsimp only [List.set])<;>exact rfl) :
  OL C ops Q (⟨none,.store X x y,T,pos,af,none⟩::rest) ρ η:=by
 rintro a w ⟨m,γ,ρc,hE,hR,hI⟩;obtain ⟨v1,g1,g2⟩:=hR.ev hx;obtain ⟨v,g3,g4⟩:=hR.ev hy
 cases g2 with
 | @bp _ _ _ b hb =>
 simp only [Bool.and_eq_true] at hu;have h1:v.oneCell'=true:=(g4.one hu.1).elim id (fun ⟨cs,e⟩=>by subst e;cases hns);obtain ⟨b',vs,e,hB,hC⟩:=hI.heap.ok i _ _ hb ho
 cases e
 obtain ⟨t1,t2⟩:=YcK (o:=o) hB v;have hlt:o < vs.length:=by rw [hC.1];exact (List.getElem?_eq_some_iff.1 hold).1
 have hc:=hB.cell (List.getElem?_eq_getElem hlt);have hf:w.frozen? ⟨b,o,none⟩=false:=by simp [World.frozen?,hB.heap]
 have hst:(Go.store ⟨b,o,none⟩ v).run C.P w=.ok () (w.setCell ⟨b,o,none⟩ v):=by
  rw [run_store C.P w _ v .plain h1];simp [hc,hf]
 have hadd:(⟨b,o,none⟩:Addr).add 0=⟨b,o,none⟩:=rfl;subst hη
 cases ht:C.tab X with
 | none=>rw [ht] at hs;cases hs
 | some te =>
   rw [ht] at hs;simp at hs;obtain ⟨inf,i1,i2,i3,i4,i5⟩:=(C.hT X te ht).info;refine Cx.lcons (Yce (w':=w.setCell ⟨b,o,none⟩ v) rfl ?_ (kk _ _ ⟨m,γ,ρc,by simpa [Act.put] using hE,hR.mono t1.ext (.refl _),hI.put (o':=.cb E (cs.set o u)) hb ho t1 ⟨b,vs.set o v,rfl,t2,(hC.mono t1.ext (.refl _)).set h1 (g4.mono t1.ext (.refl _))⟩ (.inl rfl)⟩));simp [execOp,hE.ev g1,hE.ev g3,Instr.storeAt,Instr.sureAddr,storeVar,sizeOf,typeInfo,i1,i2,hs.2,Ycs h1,storeCells,hadd,hst]
theorem Zau {i E n:Nat} {cs us:List AV} (kk:OL C ops Q rest ρ η2) (hs:(C.tab X).map (fun e=>(e.sh.agg,e.size))=some (true,n):=by with_unfolding_all exact rfl) (hx:ev2 ρ x=some (.bp i 0):=by with_unfolding_all exact rfl) (hy:ev2 ρ y=some (.st us):=by with_unfolding_all exact rfl)
  (ho:η[i]?=some (.cb E cs):=by with_unfolding_all exact rfl) (hn:cs.length=n:=by with_unfolding_all exact rfl) (hn':us.length=n:=by with_unfolding_all exact rfl) (hη:η.set i (.cb E us)=η2:=by (try dsimp only [List.set])<;>exact rfl) :
  OL C ops Q (⟨none,.store X x y,T,pos,af,none⟩::rest) ρ η:=by
 rintro a w ⟨m,γ,ρc,hE,hR,hI⟩;obtain ⟨v1,g1,g2⟩:=hR.ev hx;obtain ⟨v,g3,g4⟩:=hR.ev hy
 cases g2 with
 | @bp _ _ _ b hb =>
 cases g4 with
 | @st _ qs _ ql q1 qr =>
 obtain ⟨b',vs,e,hB,hC⟩:=hI.heap.ok i _ _ hb ho
 cases e
 obtain ⟨t1,t2⟩:=Yci (vs:=qs) hB;subst hη
 cases ht:C.tab X with
 | none=>rw [ht] at hs;cases hs
 | some te =>
   rw [ht] at hs;simp at hs;obtain ⟨inf,i1,i2,i3,i4,i5⟩:=(C.hT X te ht).info;have hvl:=hC.1;have hst:=run_storeCells_at C.P b 0 E qs 0 vs.toArray w hB.heap (by simp;omega) q1;have e:(vs.toArray.toList.take (0+0)++qs++vs.toArray.toList.drop (0+0+qs.length)).toArray=qs.toArray:=by
    apply Array.ext';simp;omega
   rw [e] at hst;refine Cx.lcons (Yce (w':=w.setRow b qs.toArray) rfl ?_ (kk _ _ ⟨m,γ,ρc,by simpa [Act.put] using hE,hR.mono t1.ext (.refl _),hI.put (o':=.cb E us) hb ho t1 ⟨b,qs,rfl,t2,⟨ql,q1,fun j v c h1 h2=>(qr j v c h1 h2).mono t1.ext (.refl _)⟩⟩ (.inl rfl)⟩));have hq:qs.length=te.size:=by omega
   simp [execOp,hE.ev g1,hE.ev g3,Instr.storeAt,Instr.sureAddr,storeVar,sizeOf,typeInfo,i1,i2,Value.cells,hq,hst]
/-! ## append -/
theorem Yev {w:World} {P:Program} {ty:Nat} {sz:Nat} {m:Nat→Nat} {fz E nl} {xs ys:List AV} {v u:Value} {te:TyE} {B γ} {η:Eta} {i:Nat} (hI:In B m w γ η) (hT:TyOK P X ⟨.slice E,te.size,te.bytes,te.zero⟩) {tE:TyE} (hE:TyOK P E tE) (hsz:tE.size=sz) (h0:0 < sz)
  (hv:γ[i]?=some v) (ho:η[i]?=some (.gs fz E sz nl xs)) (hr:RS sz CA m w u ys) (hy:∀ y∈ys,y.cells.length=sz) (hlen:xs.length+ys.length≤9223372036854775807) (hb:(xs.length+ys.length)*tE.bytes≤140737488355328) :
  ∃ v' m' w',(Builtin.append_ #[X,X] ty #[v,u]).run P w=.ok v' w'∧Ext m w m' w'∧(∃ a n c,v'=.slice a n c)∧(ys≠[]→v'≠.slice none 0 0) ∧
   ∀ nl',NL nl' v'→In B m' w' (γ++[v']) (η.set i .dead++[.gs fz E sz nl' (xs++ys)]):=by
 obtain ⟨m1,o1,o2,o3,o4⟩:=hI.heap.gs ho hv;obtain ⟨h1,h2,h3⟩:=hI.heap.ok i v _ hv ho;obtain ⟨inf,i1,i2,i3,i4,i5⟩:=hE.info;obtain ⟨d,hu,hd⟩:=hT.sh;obtain rfl:d=_:=hd;have hr1:RS sz (CK m w) m1 w u ys:=by
  rcases hr with hn|⟨b,o,cap,e,c1,c2,c3⟩|hw
  ·exact .inl hn
  ·exact .inr (.inl ⟨b,o,cap,e,c1,c2,fun i x hx=>let ⟨cs,a1,a2,a3⟩:=c3 i x hx;⟨cs,a1,a2.mono o4,a3⟩⟩)
  ·exact .inr (.inr hw)
 obtain ⟨v',m2,w',hrun,hA⟩:=YfQ (P:=P) (ty:=ty) hu i1 (i2.trans hsz) i3 i4 (i5.trans hsz) h0 o1 hr1 hlen hb;obtain ⟨hT1,hO,hob,hnil⟩:=hA;have hsh:∃ a n c,v'=.slice a n c:=by
  obtain ⟨b,cap,e,_⟩:=hO.rs.shape;exact ⟨_,_,_,e⟩
 have hne:ys≠[]→v'≠.slice none 0 0:=fun hy e=>by
  have:=(hnil.1 e).2
  simp at this;exact hy this.2
 have hcells:∀ x∈xs++ys,x.cells.length=sz:=fun x hx=>by
  rcases List.mem_append.1 hx with h|h
  ·exact h3 x h
  ·exact hy x h
 have hblk:∀ b,Yay v'=some b→Yay v=some b∨w.heap.size≤b:=fun b hb=>by
  rcases hob with e|e
  ·exact .inl (e ▸ hb)
  ·exact .inr (e b hb)
 cases fz with
 | true =>
   obtain rfl:=o2 rfl;refine ⟨v',m2,w',hrun,hT1.ext,hsh,hne,fun nl' hnl=>hI.over hv ho hT1 ⟨Own.imp hO (fun cs x hc=>CMono.mono (R:=CA) hT1.ext hc),hnl,hcells⟩ hblk⟩
 | false =>
   obtain ⟨_,_,_,c3⟩:=h1
   have hT3:W.Touch (Yay v) m w (fun b=>if some b=Yay v' then 0 else m2 b) w':=by
    refine ⟨hT1.grown,fun b hb hX=>?_,hT1.grown.size,fun b hb=>?_,fun b k c hk hc=>?_⟩
    ·split
     ·rename_i e
      rcases hblk b e.symm with h|h
      ·exact (hX h.symm).elim
      ·omega
     ·rw [hT1.lim b hb hX,o3 b hX]
    ·split
     ·rename_i e
      rcases hblk b e.symm with h|h
      ·rw [c3 b h];exact Nat.le_refl _
      ·omega
     ·exact Nat.le_trans (o4.lim b hb) (hT1.ext.lim b hb)
    ·have hne':some b≠Yay v:=fun e=>by rw [c3 b e.symm] at hk;omega
     rw [World.cell?_of_block (w:=w) (hT1.grown.block b (YbQ hc) hne')];exact hc
   refine ⟨v',_,w',hrun,hT3.ext,hsh,hne,fun nl' hnl=>hI.over hv ho hT3 ⟨⟨m2,Own.imp hO (fun cs x hc=>CMono.mono (R:=CA) hT3.ext hc),fun b hb=>?_,fun b hb=>?_⟩,hnl,hcells⟩ hblk⟩
   ·simp only [if_neg hb]
   ·simp only [hb,if_true]
theorem TyOK.re {P:Program} {t:Nat} {te:TyE} {s:Sh} (h:TyOK P t te) (hs:te.sh=s):TyOK P t ⟨s,te.size,te.bytes,te.zero⟩:=by subst hs;exact h
theorem OL.app {i k E sz bt:Nat} {fz nl ny} {xs ys:List AV} (kk:OL C ops Q rest ((d,.hs k)::ρ) η2)
  (hs:(C.tab X).map (·.sh)=some (.slice E):=by with_unfolding_all exact rfl) (hz:(C.tab E).map (fun e=>(e.size,e.bytes))=some (sz+1,bt):=by with_unfolding_all exact rfl)
  (hx:ev2 ρ x=some (.hs i):=by with_unfolding_all exact rfl) (ho:η[i]?=some (.gs fz E (sz+1) nl xs):=by with_unfolding_all exact rfl) (hy:ev2 ρ y=some (.sl (sz+1) ny ys):=by with_unfolding_all exact rfl)
  (hk:η.length=k:=by (try dsimp only [List.length])<;>exact rfl) (hη:η.set i .dead++[.gs fz E (sz+1) none (xs++ys)]=η2:=by (try dsimp only [List.set,List.cons_append,List.nil_append,List.append_eq])<;>exact rfl) (hd:Nat.blt d C.N=true:=by with_unfolding_all exact rfl)
  (hlen:xs.length+ys.length≤9223372036854775807:=by (try simp only [List.length_append,List.length_map,List.length_cons,List.length_nil,List.length_take,List.length_drop]);omega) (hb:(xs.length+ys.length)*bt≤140737488355328:=by (try simp only [List.length_append,List.length_map,List.length_cons,List.length_nil,List.length_take,List.length_drop]);omega) :
  OL C ops Q (⟨some d,.call ⟨.builtin .append,#[x,y],#[X,X]⟩,T,pos,af,none⟩::rest) ρ η:=by
 rintro a w ⟨m,γ,ρc,hE,hR,hI⟩;obtain ⟨v,g1,g2⟩:=hR.ev hx;obtain ⟨u,g3,g4⟩:=hR.ev hy;obtain ⟨r1,r2,r3⟩:=g4.rs
 cases ht:C.tab X with
 | none=>rw [ht] at hs;cases hs
 | some te =>
   rw [ht] at hs;simp at hs
   cases hte:C.tab E with
   | none=>rw [hte] at hz;cases hz
   | some tE =>
     rw [hte] at hz;simp at hz;obtain ⟨v',m',w',hrun,hext,⟨q1,q2,q3,rfl⟩,_,hin⟩:=Yev (ty:=T) hI ((C.hT X te ht).re hs) (C.hT E tE hte) hz.1 (by omega) g2.hs_get.1 ho r1 r3 hlen (by rw [hz.2];exact hb);subst hη;have hl:=hI.heap.len;refine Cx.lcons (wl_value (v:=.slice q1 q2 q3) (w':=w') rfl ?_ (kk _ _ ⟨m',_,_,hE.put _ (by simpa using hd),⟨rfl,.hs (by rw [← hk,← hl];exact YaD),hR.mono hext (.app _ _)⟩,hin none (NL.none _)⟩));simp [execOp,resolve,invoke,builtin,hE.ev g1,hE.ev g3,hrun]
end
theorem ZaS {C:Cx} {Q:Qt} {A:Code} {ρ:Ro} {η:Eta} {α:Type} {f:α→AV} {l:List α} {sz:Nat} {nl} (t:Nat) (k:l.length≤9223372036854775807→TC C Q A ρ η) (hx:lk ρ t=some (.sl sz nl (l.map f)):=by with_unfolding_all exact rfl):TC C Q A ρ η:=
 ZdL hx fun h=>k (by simpa using h)
end Go.V
