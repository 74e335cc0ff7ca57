/- Lemmas for the claim; no conditions. -/
import Derived.Test.YtdjhogobbbnddaaGreatC7
namespace Go.V
open Go Go.W
theorem Heap.sel {m w γ η η'} {σ:List Nat} (hH:Heap m w γ η) (hn:YbG σ=true) (ho:Ybw (ts σ) η σ η') :
  Sh2 (ts σ) γ (σ.map fun i=>γ.getD i undef)∧Heap m w (σ.map fun i=>γ.getD i undef) η' ∧
   ∀ (j:Nat) v o' b,(σ.map fun i=>γ.getD i undef)[j]?=some v→η'[j]?=some o'→blk o' v=some b→∃ (i:Nat) (o:AO),σ[j]?=some i∧γ[i]?=some v∧η[i]?=some o∧blk o v=some b:=by
 obtain ⟨hl,hlt⟩:=ho.len;have hgl:=hH.len;have hγ:∀ (j i:Nat),σ[j]?=some i→∀ v,(σ.map fun i=>γ.getD i undef)[j]?=some v→γ[i]?=some v:=by
  intro j i hj v hv;rw [List.getElem?_map,hj] at hv;simp only [Option.map_some,Option.some.injEq] at hv;have:i < γ.length:=by rw [hgl];exact hlt i (List.mem_of_getElem? hj)
  rw [← hv,List.getD_eq_getElem?_getD,List.getElem?_eq_getElem this];rfl
 have hsh:Sh2 (ts σ) γ (σ.map fun i=>γ.getD i undef):=by
  intro i j hij v hv;obtain ⟨k,h1,h2⟩:=YcD σ i 0 j hij;obtain rfl:j=k:=by omega
  rw [List.getElem?_map,h2];simp [List.getD_eq_getElem?_getD,hv]
 have hget:∀ (j:Nat) v o',(σ.map fun i=>γ.getD i undef)[j]?=some v→η'[j]?=some o'→∃ i o,σ[j]?=some i∧γ[i]?=some v∧η[i]?=some o∧OE (ts σ) o o':=by
  intro j v o' hv ho';obtain ⟨i,o,h1,h2,h3⟩:=ho.get j o' ho';exact ⟨i,o,h1,hγ j i h1 v hv,h2,h3⟩
 have hbk:∀ {v o o' b},OE (ts σ) o o'→YcR m w γ v o→blk o' v=some b→blk o v=some b:=by
  intro v o o' b hoe hok hb;rcases (hoe m w γ _ hsh v hok).2 with e|e
  ·rw [← e];exact hb
  ·rw [e] at hb;cases hb
 refine ⟨hsh,⟨by simp [hl],fun j v o' hv ho'=>?_,fun j k v v' o o' b hne hv ho1 hv' ho2 hb hb'=>?_⟩,fun j v o' b hv ho' hb=>?_⟩
 ·obtain ⟨i,o,h1,h2,h3,h4⟩:=hget j v o' hv ho';exact (h4 m w γ _ hsh v (hH.ok i v o h2 h3)).1
 ·obtain ⟨i,oi,h1,h2,h3,h4⟩:=hget j v o hv ho1;obtain ⟨i',oi',h1',h2',h3',h4'⟩:=hget k v' o' hv' ho2;refine hH.apart i i' v v' oi oi' b ?_ h2 h3 h2' h3' (hbk h4 (hH.ok i v oi h2 h3) hb) (hbk h4' (hH.ok i' v' oi' h2' h3') hb');intro e;subst e;exact hne (Yhk hn j k i h1 h1')
 ·obtain ⟨i,o,h1,h2,h3,h4⟩:=hget j v o' hv ho';exact ⟨i,o,h1,h2,h3,hbk h4 (hH.ok i v o h2 h3) hb⟩
def upd:List Nat→Eta→Eta→Eta
 | i::s,o::r,η=>upd s r (η.set i o)
 | _,_,η=>η
theorem YpM:∀ (s:List Nat) (r η:Eta),(upd s r η).length=η.length
 | [],r,η=>by simp [upd]
 | _::_,[],η=>by simp [upd]
 | i::s,o::r,η=>by simp [upd,YpM s r]
theorem YmA:∀ (s:List Nat) (r η:Eta) (i:Nat),i ∉ s→(upd s r η)[i]?=η[i]?
 | [],r,η,i,_=>by simp [upd]
 | _::_,[],η,i,_=>by simp [upd]
 | k::s,o::r,η,i,h=>by
   simp only [upd];rw [YmA s r _ i (fun e=>h (by simp [e])),List.getElem?_set_ne (fun e=>h (by simp [e]))]
theorem YrV:∀ (s:List Nat) (r η:Eta),YbG s=true→(∀ i∈s,i < η.length)→∀ (j i:Nat) o,s[j]?=some i→r[j]?=some o→(upd s r η)[i]?=some o
 | [],r,η,_,_,j,i,o,h,_=>by simp at h
 | _::_,[],η,_,_,j,i,o,_,h=>by simp at h
 | k::s,p::r,η,hn,hlt,j,i,o,h1,h2=>by
   simp only [YbG,Bool.and_eq_true,List.all_eq_true] at hn;simp only [upd]
   cases j with
   | zero =>
     simp at h1 h2;subst h1 h2;rw [YmA _ _ _ _ (fun hm=>by have:=hn.1 k hm;simp at this),List.getElem?_set_self (hlt k (by simp))]
   | succ j=>exact YrV s r _ hn.2 (fun i hi=>by simpa using hlt i (by simp [hi])) j i o (by simpa using h1) (by simpa using h2)
def back (is:List Nat) (k:Nat):Nat→Option Nat:=fun j=>bif Nat.blt j is.length then is[j]? else some (k+(j-is.length))
theorem In.call {B m w γ η η1 η1' m' w' γ1'} {is:List Nat} (hI:In B m w γ η) (hn:YbG is=true) (ho:Ybw (ts is) η is η1)
  (hC:In (Ya1 m w (is.map fun i=>γ.getD i undef) η1) m' w' γ1' η1') :
  ∃ γ2,Pre γ γ2∧Sh2 (back is η.length) γ1' γ2∧In B m' w' γ2 (upd is (η1'.map (renO (back is η.length))) η++(η1'.drop is.length).map (renO (back is η.length)))∧Ext m w m' w':=by
 obtain ⟨hsh,hH1,hbl⟩:=hI.heap.sel hn ho;obtain ⟨hl1,hlt⟩:=ho.len;have hgl:=hI.heap.len;have hl1':γ1'.length=η1'.length:=hC.heap.len;have hpre:Pre (is.map fun i=>γ.getD i undef) γ1':=hC.pre;have hnle:is.length≤γ1'.length:=by
  rcases Nat.lt_or_ge γ1'.length is.length with h|h
  ·have hq:=hpre γ1'.length (is.map fun i=>γ.getD i undef)[γ1'.length]! (by rw [List.getElem?_eq_getElem (by simpa using h)];simp [h]);have:=(List.getElem?_eq_some_iff.1 hq).1
   omega
  ·exact h
 have hfar:Far (Ybl (is.map fun i=>γ.getD i undef) η1) m w m' w':=hC.far;have hbS:∀ b∈Ybl (is.map fun i=>γ.getD i undef) η1,∃ (i:Nat) (v:Value) (o:AO),i∈is∧γ[i]?=some v∧η[i]?=some o∧blk o v=some b:=by
  intro b hb;obtain ⟨j,v,o',h1,h2,h3⟩:=Yap.1 hb;obtain ⟨i,o,a1,a2,a3,a4⟩:=hbl j v o' b h1 h2 h3;exact ⟨i,v,o,List.mem_of_getElem? a1,a2,a3,a4⟩
 have hγ2:∀ (j i:Nat),is[j]?=some i→γ1'[j]?=γ[i]?:=by
  intro j i hj;have hi:i < γ.length:=by rw [hgl];exact hlt i (List.mem_of_getElem? hj)
  rw [List.getElem?_eq_getElem hi];refine hpre j _ ?_;rw [List.getElem?_map,hj];simp [List.getD_eq_getElem?_getD,List.getElem?_eq_getElem hi]
 have hshb:Sh2 (back is η.length) γ1' (γ++γ1'.drop is.length):=by
  intro j i hij v hv;simp only [back] at hij
  cases hb:Nat.blt j is.length with
  | true =>
    rw [hb] at hij;simp only [cond_true] at hij;rw [hγ2 j i hij] at hv;rw [List.getElem?_append_left (List.getElem?_eq_some_iff.1 hv).1];exact hv
  | false =>
    rw [hb] at hij;simp only [cond_false,Option.some.injEq] at hij;have hge:is.length≤j:=by
     rcases Nat.lt_or_ge j is.length with h|h
     ·have:Nat.blt j is.length=true:=by simpa using h
      rw [this] at hb;cases hb
     ·exact h
    subst hij;rw [List.getElem?_append_right (by omega),List.getElem?_drop,hgl];rw [show is.length+(η.length+(j-is.length)-η.length)=j by omega];exact hv
 have hlen2:(upd is (η1'.map (renO (back is η.length))) η).length=η.length:=YpM _ _ _;have cases2:∀ (i:Nat) v o,(γ++γ1'.drop is.length)[i]?=some v→(upd is (η1'.map (renO (back is η.length))) η++(η1'.drop is.length).map (renO (back is η.length)))[i]?=some o →
   (∃ (j:Nat) (o1:AO),(back is η.length) j=some i∧γ1'[j]?=some v∧η1'[j]?=some o1∧o=renO (back is η.length) o1)∨(i ∉ is∧γ[i]?=some v∧η[i]?=some o):=by
  intro i v o hv ho2;rcases Nat.lt_or_ge i η.length with hi|hi
  ·rw [List.getElem?_append_left (by omega)] at hv;rw [List.getElem?_append_left (by omega)] at ho2;by_cases hm:i∈is
   ·obtain ⟨j,hj,e⟩:=List.mem_iff_getElem.1 hm;have hjs:is[j]?=some i:=by rw [List.getElem?_eq_getElem hj,e]
    have hj1:j < η1'.length:=by omega
    left;refine ⟨j,η1'[j],?_,by rw [hγ2 j i hjs];exact hv,List.getElem?_eq_getElem hj1,?_⟩
    ·simp only [back];rw [show Nat.blt j is.length=true by simpa using hj];exact hjs
    ·have:=YrV is (η1'.map (renO (back is η.length))) η hn hlt j i _ hjs (by rw [List.getElem?_map,List.getElem?_eq_getElem hj1];rfl)
     rw [this] at ho2
     cases ho2;rfl
   ·right;rw [YmA _ _ _ _ hm] at ho2;exact ⟨hm,hv,ho2⟩
  ·rw [List.getElem?_append_right (by omega),List.getElem?_drop] at hv;rw [List.getElem?_append_right (by omega),List.getElem?_map,List.getElem?_drop,hlen2] at ho2
   cases hq:η1'[is.length+(i-η.length)]? with
   | none=>rw [hq] at ho2;cases ho2
   | some o1 =>
     rw [hq] at ho2;left;refine ⟨is.length+(i-η.length),o1,?_,by rw [← hgl];exact hv,hq,by cases ho2;rfl⟩;simp only [back];have:Nat.blt (is.length+(i-η.length)) is.length=false:=by
      cases h:Nat.blt (is.length+(i-η.length)) is.length
      ·rfl
      ·simp at h;omega
     rw [this];simp;omega
 have blkren:∀ {τ o v b},blk (renO τ o) v=some b→blk o v=some b:=by
  intro τ o v b h
  cases o<;>first|exact h|(cases v<;>first|exact h|(rename_i q;cases q<;>exact h))
 have hnew:∀ (j:Nat) v o b,γ1'[j]?=some v→η1'[j]?=some o→blk o v=some b→(∃ (i:Nat) (v':Value) (o':AO),i∈is∧γ[i]?=some v'∧η[i]?=some o'∧blk o' v'=some b)∨w.heap.size≤b:=by
  intro j v o b h1 h2 h3;rcases hC.own j v o b h1 h2 h3 with h|h
  ·exact .inl (hbS b h)
  ·exact .inr h
 have inj:∀ (j j' i i':Nat),(back is η.length) j=some i→(back is η.length) j'=some i'→i≠i'→j≠j':=by
  intro j j' i i' h1 h2 hne e;subst e;rw [h1] at h2;cases h2;exact hne rfl
 refine ⟨γ++γ1'.drop is.length,.app _ _,hshb,⟨⟨by simp [hlen2,hgl,hl1'],fun i v o hv ho2=>?_,fun i i' v v' o o' b hne hv ho1 hv' ho2 hb hb'=>?_⟩,hI.far.trans hfar (fun b hb=>?_),fun i v o b hv ho2 hb=>?_,hI.pre.trans (.app _ _)⟩,hfar.ext⟩
 ·rcases cases2 i v o hv ho2 with ⟨j,o1,h1,h2,h3,rfl⟩|⟨hm,h1,h2⟩
  ·exact ((OE.ren rfl) m' w' γ1' _ hshb v (hC.heap.ok j v o1 h2 h3)).1
  ·refine (hI.heap.ok i v o h1 h2).far hfar (fun b hb hmem=>?_) (.app _ _);obtain ⟨k,u,p,hk,a1,a2,a3⟩:=hbS b hmem;exact hI.heap.apart i k v u o p b (fun e=>hm (e ▸ hk)) h1 h2 a1 a2 hb a3
 ·rcases cases2 i v o hv ho1 with ⟨j,o1,h1,h2,h3,rfl⟩|⟨hm,h1,h2⟩
  ·rcases cases2 i' v' o' hv' ho2 with ⟨j',o1',h1',h2',h3',rfl⟩|⟨hm',h1',h2'⟩
   ·exact hC.heap.apart j j' v v' o1 o1' b (inj j j' i i' h1 h1' hne) h2 h3 h2' h3' (blkren hb) (blkren hb')
   ·rcases hnew j v o1 b h2 h3 (blkren hb) with ⟨k,u,p,hk,a1,a2,a3⟩|hge
    ·exact hI.heap.apart k i' u v' p o' b (fun e=>hm' (e ▸ hk)) a1 a2 h1' h2' a3 hb'
    ·have:=(hI.heap.ok i' v' o' h1' h2').lt hb';omega
  ·rcases cases2 i' v' o' hv' ho2 with ⟨j',o1',h1',h2',h3',rfl⟩|⟨hm',h1',h2'⟩
   ·rcases hnew j' v' o1' b h2' h3' (blkren hb') with ⟨k,u,p,hk,a1,a2,a3⟩|hge
    ·exact hI.heap.apart k i u v p o b (fun e=>hm (e ▸ hk)) a1 a2 h1 h2 a3 hb
    ·have:=(hI.heap.ok i v o h1 h2).lt hb;omega
   ·exact hI.heap.apart i i' v v' o o' b hne h1 h2 h1' h2' hb hb'
 ·obtain ⟨k,u,p,_,a1,a2,a3⟩:=hbS b hb;exact hI.own k u p b a1 a2 a3
 ·rcases cases2 i v o hv ho2 with ⟨j,o1,h1,h2,h3,rfl⟩|⟨hm,h1,h2⟩
  ·rcases hnew j v o1 b h2 h3 (blkren hb) with ⟨k,u,p,hk,a1,a2,a3⟩|hge
   ·exact hI.own k u p b a1 a2 a3
   ·exact .inr (Nat.le_trans hI.far.size hge)
  ·exact hI.own i v o b h1 h2 hb
def Yc6 (ρ:Ro):List Operand→Option (List AV)
 | []=>some []
 | x::r=>match ev2 ρ x,Yc6 ρ r with
   | some v,some vs=>some (v::vs)
   | _,_=>none
theorem RL.evs {m w γ ρc ρ} (h:RL m w γ ρc ρ):∀ {l:List Operand} {us:List AV},Yc6 ρ l=some us→∃ vs,W.evs ρc l=some vs∧VL m w γ vs us
 | [],us,hl=>by simp [Yc6] at hl;subst hl;exact ⟨[],rfl,trivial⟩
 | x::r,us,hl=>by
   simp only [Yc6] at hl;split at hl
   ·rename_i v vs h1 h2
    simp at hl;subst hl;obtain ⟨q,a1,a2⟩:=h.ev h1;obtain ⟨qs,b1,b2⟩:=RL.evs h h2;exact ⟨q::qs,by simp [W.evs,a1,b1],a2,b2⟩
   ·cases hl
def LEs (τ:Nat→Option Nat):List AV→List AV→Prop
 | [],[]=>True
 | x::r,y::s=>LE τ x y∧LEs τ r s
 | _,_=>False
theorem LEs.vl {τ m w γ γ'} (hs:Sh2 τ γ γ'):∀ {us as:List AV} {vs:List Value},LEs τ us as→VL m w γ vs us→VL m w γ' vs as
 | [],[],[],_,_=>trivial
 | _x::_r,_y::_s,_v::_vs,⟨h1,h2⟩,⟨k1,k2⟩=>⟨h1 _ _ _ _ hs _ k1,LEs.vl hs h2 k2⟩
 | [],_::_,_,h,_=>h.elim
 | _::_,[],_,h,_=>h.elim
 | [],[],_::_,_,h=>h.elim
 | _::_,_::_,[],_,h=>h.elim
theorem VL.app {m w γ}:∀ {vs us:List Value} {as bs:List AV},VL m w γ vs as→VL m w γ us bs→VL m w γ (vs++us) (as++bs)
 | [],_,[],_,_,h=>h
 | _::_,_,_::_,_,⟨a,b⟩,h=>⟨a,VL.app b h⟩
 | [],_,_::_,_,h,_=>h.elim
 | _::_,_,[],_,h,_=>h.elim
theorem VL.of {m w γ}:∀ {vs:List Value} {as:List AV},vs.length=as.length→(∀ (j:Nat) v c,vs[j]?=some v→as[j]?=some c→Rep m w γ v c)→VL m w γ vs as
 | [],[],_,_=>trivial
 | _::_,_::_,hl,h=>⟨h 0 _ _ rfl rfl,VL.of (by simpa using hl) fun j v c a b=>h (j+1) v c (by simpa using a) (by simpa using b)⟩
 | [],_::_,hl,_=>by simp at hl
 | _::_,[],hl,_=>by simp at hl
theorem VL.get {m w γ}:∀ {vs:List Value} {as:List AV},VL m w γ vs as→∀ (j:Nat) v c,vs[j]?=some v→as[j]?=some c→Rep m w γ v c
 | [],[],_,j,v,c,h,_=>by simp at h
 | _::_,_::_,⟨a,b⟩,j,v,c,h1,h2=>by
   cases j with
   | zero=>simp at h1 h2;subst h1 h2;exact a
   | succ j=>exact VL.get b j v c (by simpa using h1) (by simpa using h2)
 | [],_::_,h,_,_,_,_,_=>h.elim
 | _::_,[],h,_,_,_,_,_=>h.elim
theorem VL.mono {m w γ m' w' γ'} (he:Ext m w m' w') (hp:Pre γ γ'):∀ {vs:List Value} {as:List AV},VL m w γ vs as→VL m' w' γ' vs as
 | [],[],_=>trivial
 | _::_,_::_,⟨a,b⟩=>⟨a.mono he hp,VL.mono he hp b⟩
 | [],_::_,h=>h.elim
 | _::_,[],h=>h.elim
section
variable {C:Cx} {ops:Array Oper} {Q:Qt} {ρ:Ro} {η η1 η1' η2:Eta} {rest:List Oper} {T d:Nat} {pos:String} {af:Array Edge} {x:Operand} {args:List Operand} {at_:Array TypeId}
theorem OL.call {f : Nat} {fn : Func} {us as : List AV} {r r2} (is : List Nat) (hs : Spec C.P f as η1 r η1') (hf : C.P.funcs[f]? = some fn) (hb : (fn.body.isNone || fn.name == "runtime.NumGoroutine") = false) (hl : Yc6 ρ args = some us)
  (hn:YbG is=true) (ho:Ybw (ts is) η is η1) (hle:LEs (ts is) us as) (hd:Nat.blt d C.N=true) (hr:ren (back is η.length) r=r2) (hη:upd is (η1'.map (renO (back is η.length))) η++(η1'.drop is.length).map (renO (back is η.length))=η2)
  (k:OL C ops Q rest ((d,r2)::ρ) η2):OL C ops Q (⟨some d,.call ⟨.value (.func f),args.toArray,at_⟩,T,pos,af,none⟩::rest) ρ η:=by
 rintro a w ⟨m,γ,ρc,hE,hR,hI⟩;obtain ⟨vs,h1,h2⟩:=hR.evs hl;obtain ⟨hsh,hH1,_⟩:=hI.heap.sel hn ho;have hc:=hs m w _ vs hH1 (hle.vl hsh h2);simp at hb;have hb':fn.body≠none:=Option.isSome_iff_ne_none.1 hb.1;refine Cx.lcons (Ycf (f:=f) (args:=vs.toArray) rfl ?_ (hc.mono fun e w' ⟨v,m',γ1',he,hC,hv⟩=>⟨v,he,?_⟩))
 ·have he:a.eval (.func f)=.func (.func f) #[] #[]:=rfl;simp [execOp,resolve,he,Deferred.ofValue,invoke,callFunc,hf,hb.2,hb',hE.evs h1]
 ·obtain ⟨γ2,p1,p2,p3,p4⟩:=hI.call hn ho hC;subst hr hη;exact k _ _ ⟨m',γ2,_,hE.put v (by simpa using hd),⟨rfl,YdC p2 hv,hR.mono p4 p1⟩,p3⟩
theorem One.call {f : Nat} {fn : Func} {us as : List AV} {r r2} (hs : Spec C.P f as [] r η1') (hf : C.P.funcs[f]? = some fn) (hb : (fn.body.isNone || fn.name == "runtime.NumGoroutine") = false) (hl : Yc6 ρ args = some us)
  (hle:LEs (ts []) us as) (hd:Nat.blt d C.N=true) (hr:ren (back [] η.length) r=r2) (hη:η++η1'.map (renO (back [] η.length))=η2) :
  Yli C ops Q ⟨some d,.call ⟨.value (.func f),args.toArray,at_⟩,T,pos,af,none⟩ ρ η ((d,r2)::ρ) η2:=by
 rintro a w Kc ⟨m,γ,ρc,hE,hR,hI⟩ k;obtain ⟨vs,h1,h2⟩:=hR.evs hl;obtain ⟨hsh,hH1,_⟩:=hI.heap.sel (η':=[]) (σ:=[]) rfl trivial;have hc:=hs m w _ vs hH1 (hle.vl hsh h2);simp at hb;have hb':fn.body≠none:=Option.isSome_iff_ne_none.1 hb.1;refine (Ycf (f:=f) (args:=vs.toArray) rfl ?_ (hc.mono fun e w' ⟨v,m',γ1',he,hC,hv⟩=>⟨v,he,?_⟩))
 ·have he:a.eval (.func f)=.func (.func f) #[] #[]:=rfl;simp [execOp,resolve,he,Deferred.ofValue,invoke,callFunc,hf,hb.2,hb',hE.evs h1]
 ·obtain ⟨γ2,p1,p2,p3,p4⟩:=hI.call (is:=[]) (η1:=[]) rfl trivial hC;subst hr hη;have hfar:Far [] m w m' w':=hC.far;exact k _ _ hfar.keep.grown ⟨m',γ2,_,hE.put v (by simpa using hd),⟨rfl,YdC p2 hv,hR.mono p4 p1⟩,by simpa [upd] using p3⟩
theorem ZdJ {f : Nat} {fn : Func} {us as first caps : List AV} {r r2} (is : List Nat) (hx : ev2 ρ x = some (.fn (.func f) first caps)) (hs : Spec C.P f as η1 r η1') (hf : C.P.funcs[f]? = some fn) (hb : (fn.body.isNone || fn.name == "runtime.NumGoroutine") = false) (hl : Yc6 ρ args = some us)
  (hn:YbG is=true) (ho:Ybw (ts is) η is η1) (hle:LEs (ts is) (first++us++caps) as) (hd:Nat.blt d C.N=true) (hr:ren (back is η.length) r=r2) (hη:upd is (η1'.map (renO (back is η.length))) η++(η1'.drop is.length).map (renO (back is η.length))=η2)
  (k:OL C ops Q rest ((d,r2)::ρ) η2):OL C ops Q (⟨some d,.call ⟨.value x,args.toArray,at_⟩,T,pos,af,none⟩::rest) ρ η:=by
 rintro a w ⟨m,γ,ρc,hE,hR,hI⟩;obtain ⟨vs,h1,h2⟩:=hR.evs hl;obtain ⟨fv,g1,g2⟩:=hR.ev hx
 cases g2 with
 | @fn _ _ v1 v2 _ _ l1 l2 q1 q2 =>
 obtain ⟨hsh,hH1,_⟩:=hI.heap.sel hn ho;have hc:=hs m w _ (v1++vs++v2) hH1 (hle.vl hsh ((VL.app (VL.of l1 q1) h2).app (VL.of l2 q2)));simp at hb;have hb':fn.body≠none:=Option.isSome_iff_ne_none.1 hb.1;refine Cx.lcons (Ycf (f:=f) (args:=(v1++vs++v2).toArray) rfl ?_ (hc.mono fun e w' ⟨v,m',γ1',he,hC,hv⟩=>⟨v,he,?_⟩))
 ·simp [execOp,resolve,hE.ev g1,Deferred.ofValue,invoke,callFunc,hf,hb.2,hb',hE.evs h1]
 ·obtain ⟨γ2,p1,p2,p3,p4⟩:=hI.call hn ho hC;subst hr hη;exact k _ _ ⟨m',γ2,_,hE.put v (by simpa using hd),⟨rfl,YdC p2 hv,hR.mono p4 p1⟩,p3⟩
/-! ### Functions that are known by what they do -/
def Ywb (P:Program) {ι:Type} (dom:ι→Prop) (as:ι→List AV) (r:ι→AV) (e:ι→Eta) (m:Nat→Nat) (w:World) (fv:Value):Prop:=
 ∃ f first caps fn, fv = .func (.func f) first caps ∧ P.funcs[f]? = some fn ∧ (fn.body.isNone || fn.name == "runtime.NumGoroutine") = false ∧
  ∀ m' w' vs x,Ext m w m' w'→VL m' w' [] vs (as x)→dom x→Calls P f (first++vs.toArray++caps) w' (YbF (Ya1 m' w' [] []) (r x) (e x))
def YdQ (P:Program) {ι:Type} (dom:ι→Prop) (as:ι→List AV) (r:ι→AV) (e:ι→Eta):MP where
 R:=Ywb P dom as r e
 mono:=fun he ⟨f,first,caps,fn,h1,h2,h3,h4⟩=>⟨f,first,caps,fn,h1,h2,h3,fun m' w' vs x he'=>h4 m' w' vs x (he.trans he')⟩
 one:=fun ⟨f,first,caps,fn,h1,_⟩=>by subst h1;rfl
theorem LE.fun_ {P : Program} {ι : Type} {f : Nat} {fn : Func} {first caps first' caps' : List AV} {dom : ι → Prop} {as r e} (hf : P.funcs[f]? = some fn) (hb : (fn.body.isNone || fn.name == "runtime.NumGoroutine") = false) (h1 : LEs (ts []) first first') (h2 : LEs (ts []) caps caps')
  (hs:∀ x,dom x→Spec P f (first'++as x++caps') [] (r x) (e x)):LE (ts []) (.fn (.func f) first caps) (.pr (YdQ P dom as r e)):=fun m w γ γ' hsh v hr=>by
 cases hr with
 | @fn _ _ v1 v2 _ _ l1 l2 q1 q2 =>
 have e1:=h1.vl (γ':=[]) (fun i j h=>by cases h) (VL.of l1 q1);have e2:=h2.vl (γ':=[]) (fun i j h=>by cases h) (VL.of l2 q2);refine .pr ⟨f,v1.toArray,v2.toArray,fn,rfl,hf,hb,fun m' w' vs x he hV hd=>?_⟩;have:=hs x hd m' w' [] (v1++vs++v2) ⟨rfl,fun i v o h=>by simp at h,fun i j v v' o o' b _ h=>by simp at h⟩ (((e1.mono he (.refl _)).app hV).app (e2.mono he (.refl _)))
 simpa using this
theorem ZdK {P:Program} {ι:Type} {us:List AV} {dom:ι→Prop} {as r e} {r2} {t:ι} (hP:C.P=P) (hx:ev2 ρ x=some (.pr (YdQ P dom as r e))) (hl:Yc6 ρ args=some us) (hdom:dom t) (hle:LEs (ts []) us (as t)) (hd:Nat.blt d C.N=true)
  (hr:ren (back [] η.length) (r t)=r2) (hη:η++(e t).map (renO (back [] η.length))=η2):Yli C ops Q ⟨some d,.call ⟨.value x,args.toArray,at_⟩,T,pos,af,none⟩ ρ η ((d,r2)::ρ) η2:=by
 rintro a w Kc ⟨m,γ,ρc,hE,hR,hI⟩ k;subst hP;obtain ⟨vs,h1,h2⟩:=hR.evs hl;obtain ⟨fv,g1,g2⟩:=hR.ev hx
 cases g2 with
 | pr hpr =>
 obtain ⟨f,first,caps,fn,rfl,hf,hb,hs⟩:=hpr;have hc:=hs m w vs t (.refl _ _) (hle.vl (γ':=[]) (fun i j h=>by cases h) h2) hdom;simp at hb;have hb':fn.body≠none:=Option.isSome_iff_ne_none.1 hb.1;refine (Ycf (f:=f) (args:=first++vs.toArray++caps) rfl ?_ (hc.mono fun e' w' ⟨v,m',γ1',he,hC,hv⟩=>⟨v,he,?_⟩))
 ·simp [execOp,resolve,hE.ev g1,Deferred.ofValue,invoke,callFunc,hf,hb.2,hb',hE.evs h1]
 ·obtain ⟨γ2,p1,p2,p3,p4⟩:=hI.call (is:=[]) (η1:=[]) rfl trivial hC;subst hr hη;have hfar:Far [] m w m' w':=hC.far;exact k _ _ hfar.keep.grown ⟨m',γ2,_,hE.put v (by simpa using hd),⟨rfl,YdC p2 hv,hR.mono p4 p1⟩,by simpa [upd] using p3⟩
end
end Go.V
