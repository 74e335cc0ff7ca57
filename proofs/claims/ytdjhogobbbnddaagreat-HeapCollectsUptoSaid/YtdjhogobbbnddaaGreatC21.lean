/- Lemmas for the claim; no conditions. -/
import Derived.Test.YtdjhogobbbnddaaGreatC20
import Derived.Test.YtdjhogobbbnddaaGreatC13
namespace Go.V
open Go Go.W Go.RowKit
section
variable {P:Program} {α:Type} {as:α→List AV} {pv:Value} {L:List α} {γ0:List Value} {η0:Eta}
structure AtO (I:ItO P as pv L γ0 η0) (m0:Nat→Nat) (W0:World) (pre:List α) (B:Base):Prop where
 ext:Ext m0 W0 B.m B.w
 γ:B.γ=γ0
 holds:∃ S,I.J pre B.m B.w S∧∀ b∈B.S,b∈Ybl γ0 η0∨(b ∉ S∧I.B0≤b)
theorem AtO.step {I:ItO P as pv L γ0 η0} {m0 W0 pre B m w γ η} (hA:AtO I m0 W0 pre B) (hI:In B m w γ η) (hn:YbG (List.range η0.length)=true) (ho:Ybw (ts (List.range η0.length)) η (List.range η0.length) η0) :
  Ext m0 W0 m w∧∃ S,I.J pre m w S∧(∀ b∈S,b < w.heap.size)∧I.B0≤w.heap.size∧∀ (i:Nat) v o b,η0.length≤i→γ[i]?=some v→η[i]?=some o→blk o v=some b→b ∉ S∧I.B0≤b:=by
 obtain ⟨S,hJ,hoff⟩:=hA.holds;obtain ⟨h1,h2,h3,h4⟩:=I.heap _ _ _ _ hJ;obtain ⟨hsh,hH,hbl⟩:=hI.heap.sel hn ho;obtain ⟨hl1,hlt⟩:=ho.len;have hγ0:γ0.length=η0.length:=h1.len;have hgl:=hI.heap.len;have hle:η0.length≤η.length:=by
  rcases Nat.eq_zero_or_pos η0.length with h|h
  ·omega
  ·have:=hlt (η0.length-1) (by simp;omega)
   omega
 have e0:(List.range η0.length).map (fun i=>γ.getD i undef)=γ0:=by
  refine List.ext_getElem? fun i=>?_;by_cases hi:i < η0.length
  ·have hp:=hI.pre i (γ0[i]'(by omega)) (by rw [hA.γ];exact List.getElem?_eq_getElem (by omega));rw [List.getElem?_map,List.getElem?_range hi,List.getElem?_eq_getElem (by omega)];simp [List.getD_eq_getElem?_getD,hp]
  ·rw [List.getElem?_eq_none (by simp;omega),List.getElem?_eq_none (by omega)]
 rw [e0] at hH hbl;have hoff':∀ b,b ∉ Ybl γ0 η0→(b < I.B0∨b∈S)→b ∉ B.S:=fun b hn hc hm=>by
  rcases hoff b hm with h|⟨q1,q2⟩
  ·exact hn h
  ·rcases hc with hc|hc
   ·omega
   ·exact q1 hc
 have hs:StepO I.B0 (Ybl γ0 η0) S B.m B.w m w:=⟨hI.far.os,hI.far.tape,hI.far.output,hI.far.size,hI.far.ext,fun b hb hn hc=>⟨hI.far.block b hb (hoff' b hn hc),hI.far.lim b hb (hoff' b hn hc)⟩⟩;have hJ':=I.stay _ _ _ _ _ _ hJ hs hH;obtain ⟨_,_,k3,k4⟩:=I.heap _ _ _ _ hJ';refine ⟨hA.ext.trans hI.far.ext,S,hJ',k3,k4,fun i v o b hi hv hq hb=>?_⟩;rcases hI.own i v o b hv hq hb with h|h
 ·rcases hoff b h with h|h
  ·obtain ⟨j,v',o',q1,q2,q3⟩:=Yap.1 h;obtain ⟨i',o'',p1,p2,p3,p4⟩:=hbl j v' o' b q1 q2 q3;have hj:j < η0.length:=(List.getElem?_eq_some_iff.1 q2).1;rw [List.getElem?_range hj] at p1
   cases p1
   exact (hI.heap.apart i j v v' o o'' b (by omega) hv hq p2 p3 hb p4).elim
  ·exact h
 ·exact ⟨fun hm=>by have:=h3 b hm;omega,by omega⟩
def qO (Q:Qt) (K:World→Prop) (pv:Value):Qt:=fun e a w=>match e with
 | .panic ch=>ch=pan pv∧a.defers=[]∧K w
 | e=>Q e a w
def YsO (I:ItO P as pv L γ0 η0) (fn:Func) (m0:Nat→Nat) (W0:World):Qt:=qO (bodyPostM Fence.wide 0 P fn (Yv0 I m0 W0)) (fun w=>∃ m' S',Ext m0 W0 m' w∧I.Jp m' w S') pv
theorem YsO.of {I:ItO P as pv L γ0 η0} {m0 W0} {fn:Func} {e a w} (h:YsO I fn m0 W0 e a w):bodyPostM Fence.wide 0 P fn (Yv0 I m0 W0) e a w:=by
 cases e with
 | panic ch =>
   obtain ⟨rfl,hd,m',S',h1,h2⟩:=h;show LeavesInM Fence.wide 0 P fn a.tmps _ a.defers (.panicking (pan pv)) w;rw [hd];exact ⟨m',S',h1,.inr ⟨rfl,h2⟩⟩
 | _=>exact h
theorem Yqf.enter {f:Nat} {fn:Func} {c:Code} {first caps:List AV} {tab:Tab} {N:Nat} (hT:YaX P tab) (hm:P.follows .mixedOrders=true) (hf:P.funcs[f]?=some fn) (hb:fn.body=some c) (hN:fn.ntmps=N) (ha:Nat.ble (first.length+(caps.length+1)) N=true)
  (h:∀ γ0 (I:ItO P as pv L γ0 η0) m0 W0 B (hB:B.γ.length=η0.length),AtO I m0 W0 [] B→TC ⟨P,tab,hT,hm,N,[],B,η0.length,hB,some none,0⟩ (YsO I fn m0 W0) c (Ym3 0 (first++.raw (.func (.yield I.l) #[] #[])::caps)) η0):Yqf P f as pv L η0 first caps:=by
 intro γ0 I m w S fv cv hJ hv1 hv2;obtain ⟨h1,h2,h3,h4⟩:=I.heap _ _ _ _ hJ;have hV:VL m w γ0 (fv++.func (.yield I.l) #[] #[]::cv) (first++.raw (.func (.yield I.l) #[] #[])::caps):=hv1.app ⟨.raw rfl,hv2⟩;have hl:=hV.len;refine Go.W.enterM (N:=N) 0 (Go.W.zipA 0 (fv++.func (.yield I.l) #[] #[]::cv)) hf hb hN (by simp) (by simp at ha hl ⊢;omega) fun a hE=>?_;have hb':=h γ0 I m w ⟨m,w,Ybl γ0 η0,γ0⟩ h1.len ⟨.refl _ _,rfl,S,hJ,fun b hb=>.inl hb⟩ a w
  ⟨m,γ0,_,hE,hV.zip 0,h1,.refl _ _ _,fun i v o b q1 q2 q3=>.inl (Yap.2 ⟨i,v,o,q1,q2,q3⟩),.refl _⟩
 rw [Cx.W_some rfl] at hb';exact wpIn_wide.1 (wpIn_mono hb' fun _ _ _=>YsO.of)
end
section
variable {C:Cx} {ops:Array Oper} {Q:Qt} {ρ ρ':Ro} {η η':Eta} {rest:List Oper} {T d:Nat} {pos:String} {af:Array Edge} {x:Operand} {args:List Operand} {at_:Array TypeId}
variable {P:Program} {α:Type} {as:α→List AV} {pv:Value} {L:List α} {γ0:List Value} {η0:Eta}
theorem Zcl {I:ItO P as pv L γ0 η0} {m0 W0} {pre:List α} {y:α} {us:List AV} {r:Option Nat} (hA:AtO I m0 W0 pre C.B) (hpre:∃ r,pre++y::r=L)
  (k1:∀ B (hB:B.γ.length=C.n),AtO I m0 W0 (pre++[y]) B→OL (C.at B hB) ops Q rest ((d,V.bool true)::ρ) η)
  (kp:∀ a w,a.defers=C.D→(∃ m' S',Ext m0 W0 m' w∧I.Jp m' w S')→Q (.panic (pan pv)) a w)
  (hP:C.P=P:=by with_unfolding_all exact rfl) (hr:C.r=some r:=by with_unfolding_all exact rfl) (hk:C.k=0:=by with_unfolding_all exact rfl)
  (hx:ev2 ρ x=some (.raw (.func (.yield I.l) #[] #[])):=by with_unfolding_all exact rfl) (hl:Yc6 ρ args=some us:=by with_unfolding_all exact rfl)
  (hle:LEs (ts []) us (as y):=by repeat' (first|with_unfolding_all exact trivial|exact LE.ren (by with_unfolding_all exact rfl)|with_unfolding_all exact LE.sl|with_unfolding_all exact LE.nil (by decide)|with_unfolding_all refine And.intro ?_ ?_))
  (hd:Nat.blt d C.N=true:=by with_unfolding_all exact rfl) (hη:η.take η0.length=η0:=by with_unfolding_all exact rfl) (hn:YbG (List.range η0.length)=true:=by with_unfolding_all exact rfl)
  (ho:Ybw (ts (List.range η0.length)) η (List.range η0.length) η0:=by repeat' (first|with_unfolding_all exact trivial|exact OE.ren (by with_unfolding_all exact rfl)|with_unfolding_all exact OE.gs|with_unfolding_all refine And.intro ⟨_,by with_unfolding_all exact rfl,?_⟩ ?_)) :
  OL C ops Q (⟨some d,.call ⟨.value x,args.toArray,at_⟩,T,pos,af,none⟩::rest) ρ η:=by
 rintro a w ⟨m,γ,ρc,hE,hR,hI⟩;subst hP;obtain ⟨hext,S,hJ,hlt,hB0,hpriv⟩:=hA.step hI hn ho;obtain ⟨vs,h1,h2⟩:=hR.evs hl;have hvl:VL m w [] vs (as y):=hle.vl (γ':=[]) (fun i j h=>by cases h) h2;obtain ⟨fn',tmps,assign,body,q1,q2⟩:=I.hy pre y m w S vs hJ hpre hvl;have hBn:γ0.length=C.n:=by rw [← hA.γ];exact C.hn
 rw [Cx.L_some hr,hk];unfold wpListIn;rw [if_pos (by simp [Region.wanted])];refine ⟨fun f _=>trivial,?_⟩;rw [Oper.semAt_plain _ _ _ (by simp)];have hrun:(execOp a.eval ⟨some d,.call ⟨.value x,args.toArray,at_⟩,T,pos,af,none⟩).run C.P w=.ok (.round I.l fn' tmps assign body) w:=by
  simp [execOp,resolve,hE.ev (hR.raw hx),Deferred.ofValue,invoke,hE.evs h1,q1]
 rw [hrun,Oper.uponIn_round];refine ⟨fun h=>(by cases h),RoundIn.mono (show RoundIn (WF r) 0 C.P I.l fn' tmps assign body w _ from q2) fun e w'' ⟨m',S',hf,hS',hc⟩=>?_⟩;rcases hc with ⟨rfl,hj⟩|⟨rfl,hj⟩
 ·obtain ⟨j1,j2,j3,j4⟩:=I.heap _ _ _ _ hj;have hpg:Pre γ0 γ:=hA.γ ▸ hI.pre;have hIn:In ⟨m',w'',Ybl γ η,γ0⟩ m' w'' γ η:=by
   refine ⟨⟨hI.heap.len,fun i v o hv hq=>?_,hI.heap.apart⟩,.refl _ _ _,fun i v o b q1 q2 q3=>.inl (Yap.2 ⟨i,v,o,q1,q2,q3⟩),hpg⟩;by_cases hi:i < η0.length
   ·have e1:η0[i]?=some o:=by rw [← hη,List.getElem?_take,if_pos hi];exact hq
    have hi2:i < γ0.length:=by rw [j1.len];exact hi
    have e2:=hpg i _ (List.getElem?_eq_getElem hi2);rw [hv] at e2
    cases e2
    exact (j1.ok i _ o (List.getElem?_eq_getElem hi2) e1).far (.refl [] _ _) (by simp) hpg
   ·exact (hI.heap.ok i v o hv hq).far hf (fun b hb=>(hpriv i v o b (by omega) hv hq hb).1) (.refl _)
  have hAt:AtO I m0 W0 (pre++[y]) ⟨m',w'',Ybl γ η,γ0⟩:=by
   refine ⟨hext.trans hf.ext,rfl,S',hj,fun b hb=>?_⟩;obtain ⟨i,v,o,q1,q2,q3⟩:=Yap.1 hb;by_cases hi:i < η0.length
   ·have e1:η0[i]?=some o:=by rw [← hη,List.getElem?_take,if_pos hi];exact q2
    have hi2:i < γ0.length:=by rw [j1.len];exact hi
    have e2:=hpg i _ (List.getElem?_eq_getElem hi2);rw [q1] at e2
    cases e2
    exact .inl (Yap.2 ⟨i,_,o,List.getElem?_eq_getElem hi2,e1,q3⟩)
   ·obtain ⟨p1,p2⟩:=hpriv i v o b (by omega) q1 q2 q3;have hbl:=(hI.heap.ok i v o q1 q2).lt q3;exact .inr ⟨fun hm=>by rcases hS' b hm with h|h;exact p1 h;omega,p2⟩
  have:=k1 ⟨m',w'',Ybl γ η,γ0⟩ hBn hAt _ w'' ⟨m',γ,_,hE.put _ (by simpa using hd),⟨rfl,.raw rfl,hR.mono hf.ext (.refl _)⟩,hIn⟩
  rwa [Cx.L_some (C:=C.at ⟨m',w'',Ybl γ η,γ0⟩ hBn) hr,show (C.at ⟨m',w'',Ybl γ η,γ0⟩ hBn).k=0 from hk] at this
 ·exact kp a w'' hE.defers ⟨m',S',hext.trans hf.ext,hj⟩
theorem Zcm {I:ItO P as pv L γ0 η0} {m0 W0} {fn:Func} (hA:AtO I m0 W0 L C.B) (hD:C.D=[]:=by with_unfolding_all exact rfl) (hres:fn.results=#[]:=by with_unfolding_all exact rfl) (hn:YbG (List.range η0.length)=true:=by with_unfolding_all exact rfl)
  (ho:Ybw (ts (List.range η0.length)) η (List.range η0.length) η0:=by repeat' (first|with_unfolding_all exact trivial|exact OE.ren (by with_unfolding_all exact rfl)|with_unfolding_all exact OE.gs|with_unfolding_all refine And.intro ⟨_,by with_unfolding_all exact rfl,?_⟩ ?_)) :
  TX C (YsO I fn m0 W0) .ret ρ η:=by
 rintro a w ⟨m,γ,ρc,hE,hR,hI⟩;obtain ⟨hext,S,hJ,_⟩:=hA.step hI hn ho;show LeavesInM Fence.wide 0 P fn a.tmps _ a.defers .returning w;rw [hE.defers,hD];exact ⟨_,results_none hres _ P _,m,S,hext,.inl ⟨_,rfl,hJ⟩⟩
theorem Zcn {I:ItO P as pv L γ0 η0} {m0 W0} {fn:Func} (h:TX C (YsO I fn m0 W0) .ret ρ η):TX C (YsO I fn m0 W0) .normal ρ η:=h
/-! ## The range over it -/
abbrev bk (is:List Nat):Nat→Option Nat:=fun j=>is[j]?
def Yt7 (τ:Nat→Option Nat) (η:Eta):List Nat→Eta→Prop
 | i::s,o::r=>η[i]?=some (renO τ o)∧Yt7 τ η s r
 | [],[]=>True
 | _,_=>False
theorem Yt7.get {τ η}:∀ {s:List Nat} {r:Eta},Yt7 τ η s r→∀ (j i:Nat) o,s[j]?=some i→r[j]?=some o→η[i]?=some (renO τ o)
 | [],[],_,j,i,o,h,_=>by simp at h
 | _::_,_::_,h,0,i,o,h1,h2=>by simp at h1 h2;subst h1 h2;exact h.1
 | _::s,_::r,h,j+1,i,o,h1,h2=>Yt7.get (s:=s) (r:=r) h.2 j i o (by simpa using h1) (by simpa using h2)
 | [],_::_,h,_,_,_,_,_=>h.elim
 | _::_,[],h,_,_,_,_,_=>h.elim
set_option maxHeartbeats 1000000 in
theorem ZbV {f0 gf T d t rid:Nat} {g:Operand} {body:Code} {fn fn0:Func} {us1 us2 first caps:List AV} (u:α→AV) (ρ0:Ro) (ηs:List α→Eta) (is:List Nat) (ηX:Eta) (good:List α→Prop) (bad:Prop) (n0:Nat) (σ:List Nat)
  (hseq : Yqf C.P gf as pv L η0 first caps) (hf0 : C.P.funcs[f0]? = some fn0) (hf : C.P.funcs[gf]? = some fn) (hb : (fn.body.isNone || fn.name == "runtime.NumGoroutine") = false) (hx : ev2 ρ0 g = some (.fn (.func gf) us1 us2)) (hle1 : LEs (ts is) us1 first) (hle2 : LEs (ts is) us2 caps)
  (has:∀ x,as x=[u x]) (hn:YbG σ=true) (hp:Ycy C.n 0 σ=true) (ho:Ybw (ts σ) η σ (ηs [])) (hρ:YdG (ts σ) ρ ρ0) (hself:YdG (ts (List.range n0)) ρ0 ρ0) (hnn:C.n≤n0) (hn0:n0≤(ηs []).length) (ht:Nat.blt t C.N=true) (hd:Nat.blt d C.N=true)
  (hni:YbG is=true) (his:∀ i∈is,i < n0) (hsub:∀ pre,Ybw (ts is) (ηs pre) is η0) (hbk:∀ pre,Yt7 (bk is) (ηs pre) is η0) (hg0:good [])
  (hround:∀ pre x (Bx:Base) (hB:Bx.γ.length=n0) l,(∃ r,pre++x::r=L)→good pre→TC ⟨C.P,C.tab,C.hT,C.hm,C.N,[],Bx,n0,hB,some (some l),0⟩ (RQX ⟨C.P,C.tab,C.hT,C.hm,C.N,[],Bx,n0,hB,some (some l),0⟩ (ηs (pre++[x])) (good (pre++[x])) ηX bad pv) body ((d,u x)::(t,u x)::ρ0) (ηs pre))
  (hdone:good L→∀ (B':Base) (hB':B'.γ.length=C.n) D,Marked C.B B' D→TX ⟨C.P,C.tab,C.hT,C.hm,C.N,YbD D::C.D,B',C.n,hB',none,0⟩ Q .normal ρ0 (ηs L))
  (hpanic:bad→∀ (B':Base) (hB':B'.γ.length=C.n) D,Marked C.B B' D→TX ⟨C.P,C.tab,C.hT,C.hm,C.N,YbD D::C.D,B',C.n,hB',none,0⟩ Q (.panic (pan pv)) ρ0 ηX) :
  TF C f0 Q (.rangeFunc g #[t] (.region rid #[⟨some d,.assign (.tmp t),T,pos,af,none⟩] false) body) ρ η:=by
 rintro a w ⟨m,γ,ρc,hE,hR,hI⟩;obtain ⟨γ',hsh,hI'⟩:=hI.sel C.hn hn hp ho;obtain ⟨ρc',hR',hsub'⟩:=YdG.rl hsh hR hρ;have hE':=hE.sel hsub';obtain ⟨v,hv1,hv2⟩:=hR'.ev hx;have hg0':=hE'.ev hv1
 cases hv2 with
 | @fn _ _ fv cv _ _ l1 l2 q1 q2 =>
 have hl':=hI'.heap.len;have hsh0:Sh2 (ts (List.range n0)) γ' (γ'.take n0):=by
  intro i j hij w' hw';obtain ⟨k,h1,h2⟩:=YcD (List.range n0) i 0 j hij;have hk:k < n0:=by have:=(List.getElem?_eq_some_iff.1 h2).1;simpa using this
  rw [List.getElem?_range hk] at h2
  cases h2
  rw [h1,Nat.zero_add,List.getElem?_take,if_pos hk];exact hw'
 obtain ⟨ρc0,hR0,hsub0⟩:=YdG.rl hsh0 hR' hself;have hE0:=hE'.sel hsub0;have hpre0:Pre (γ'.take n0) γ':=fun i v h=>by
  rw [List.getElem?_take] at h;split at h
  ·exact h
  ·cases h
 have hlen0:(γ'.take n0).length=n0:=by simp;omega
 have hIb:=hI'.rebase hpre0;have hpc:Pre C.B.γ (γ'.take n0):=fun i v h=>by
  have hi:=(List.getElem?_eq_some_iff.1 h).1;rw [C.hn] at hi;rw [List.getElem?_take,if_pos (by omega)];exact hI'.pre i v h
 obtain ⟨γ0,hγ0⟩:∃ γ0,γ0=is.map fun i=>γ'.getD i undef:=⟨_,rfl⟩
 have hsame:∀ γ1,Pre (γ'.take n0) γ1→(is.map fun i=>γ1.getD i undef)=γ0:=fun γ1 hp1=>by
  rw [hγ0];refine List.map_congr_left fun i hi=>?_;have h1:i < γ'.length:=by have:=his i hi;omega
  have h2:=hp1 i γ'[i] (by rw [List.getElem?_take,if_pos (his i hi)];exact List.getElem?_eq_getElem h1);simp [List.getD_eq_getElem?_getD,h2,List.getElem?_eq_getElem h1]
 have hheap:∀ pre m1 W1 γ1,In ⟨m,w,Ybl γ' (ηs []),γ'.take n0⟩ m1 W1 γ1 (ηs pre)→Heap m1 W1 γ0 η0∧(∀ b∈Ybl γ0 η0,b∈Ybl γ1 (ηs pre))∧∀ (i:Nat) v o b,i ∉ is→γ1[i]?=some v→(ηs pre)[i]?=some o→blk o v=some b→b ∉ Ybl γ0 η0:=by
  intro pre m1 W1 γ1 h1;obtain ⟨_,a2,a3⟩:=h1.heap.sel hni (hsub pre);rw [hsame γ1 h1.pre] at a2 a3;refine ⟨a2,fun b hb=>?_,fun i v o b hi hv hq hbl hb=>?_⟩
  ·obtain ⟨j,v,o,p1,p2,p3⟩:=Yap.1 hb;obtain ⟨i,o',e1,e2,e3,e4⟩:=a3 j v o b p1 p2 p3;exact Yap.2 ⟨i,v,o',e2,e3,e4⟩
  ·obtain ⟨j,v',o',p1,p2,p3⟩:=Yap.1 hb;obtain ⟨i',o'',e1,e2,e3,e4⟩:=a3 j v' o' b p1 p2 p3;exact h1.heap.apart i i' v v' o o'' b (fun e=>hi (e ▸ List.mem_of_getElem? e1)) hv hq e2 e3 hbl e4
 have hstay:∀ pre m1 W1 γ1 m2 W2,In ⟨m,w,Ybl γ' (ηs []),γ'.take n0⟩ m1 W1 γ1 (ηs pre)→StepO w.heap.size (Ybl γ0 η0) (Ybl γ1 (ηs pre)) m1 W1 m2 W2→Heap m2 W2 γ0 η0→In ⟨m,w,Ybl γ' (ηs []),γ'.take n0⟩ m2 W2 γ1 (ηs pre):=by
  intro pre m1 W1 γ1 m2 W2 h1 hs hH;obtain ⟨a1,a2,a3⟩:=hheap _ _ _ _ h1;obtain ⟨Tb,hfT,hT⟩:=hs.far;refine ⟨⟨h1.heap.len,fun i v o hv hq=>?_,h1.heap.apart⟩,h1.far.trans hfT (fun b hb=>?_),h1.own,h1.pre⟩
  ·by_cases hi:i∈is
   ·obtain ⟨j,hj,rfl⟩:=List.mem_iff_getElem.1 hi;have hj':is[j]?=some is[j]:=List.getElem?_eq_getElem hj;have hjl:j < η0.length:=by have:=(hsub pre).len.1;omega
    have hoj:=List.getElem?_eq_getElem hjl;have e1:=(hbk pre).get j _ _ hj' hoj;rw [hq] at e1
    cases e1
    have hgj:γ0[j]?=some v:=by
     rw [← hsame γ1 h1.pre,List.getElem?_map,hj'];simp [List.getD_eq_getElem?_getD,hv]
    refine ((OE.ren rfl:OE (bk is) η0[j] (renO (bk is) η0[j])) m2 W2 γ0 γ1 (fun p q hpq u hu=>?_) v (hH.ok j v _ hgj hoj)).1;have hpq:is[p]?=some q:=hpq;rw [← hsame γ1 h1.pre,List.getElem?_map,hpq] at hu;simp only [Option.map_some,Option.some.injEq] at hu;have hq1:q < γ1.length:=by
     have h2:=(hsub pre).len.2 q (List.mem_of_getElem? hpq);have:=h1.heap.len;omega
    rw [← hu,List.getD_eq_getElem?_getD,List.getElem?_eq_getElem hq1];rfl
   ·refine (h1.heap.ok i v o hv hq).far hfT (fun b hb hm=>?_) (.refl _);rcases hT b hm with h|⟨_,h⟩
    ·exact a3 i v o b hi hv hq hb h
    ·exact h (Yap.2 ⟨i,v,o,hv,hq,hb⟩)
  ·rcases hT b hb with h|⟨h,_⟩
   ·exact Yaq h1 b (a2 b h)
   ·exact .inr h
 have hVL:∀ {vs:List Value} {us as':List AV},vs.length=us.length→(∀ (j:Nat) v c,vs[j]?=some v→us[j]?=some c→Rep m w γ' v c)→LEs (ts is) us as'→VL m w γ0 vs as':=by
  intro vs us as' hl hr hle;refine hle.vl (γ:=γ') (fun i j hij u hu=>?_) (VL.of hl hr);obtain ⟨k,e1,e2⟩:=YcD is i 0 j hij;obtain rfl:j=k:=by omega
  rw [hγ0,List.getElem?_map,e2];simp [List.getD_eq_getElem?_getD,hu]
 have hend:∀ m' W' γL ηL,In ⟨m,w,Ybl γ' (ηs []),γ'.take n0⟩ m' W' γL ηL→W'.heap[w.heap.size]?=some (.deferred (some []))→In ⟨m',W',Ybl γL ηL,C.B.γ⟩ m' W' γL ηL∧Marked C.B ⟨m',W',Ybl γL ηL,C.B.γ⟩ w.heap.size:=by
  intro m' W' γL ηL hL hD;refine ⟨hL.rebase (hpc.trans hL.pre),⟨hI'.far.trans hL.far (Yaq hI'),fun b hb=>?_,.refl _,hD,fun hm=>?_,hI'.far.size⟩⟩
  ·rcases Yaq hL b hb with h|h
   ·exact Yaq hI' b h
   ·exact .inr (Nat.le_trans hI'.far.size h)
  ·have:=Ybc hL _ hm _ hD;cases this
 refine Yth (γ0:=γ0) hf0 hg0' hf hb hseq (hVL l1 q1 hle1) (hVL l2 q2 hle2) (fun pre m1 W1 S=>good pre∧∃ γ1,In ⟨m,w,Ybl γ' (ηs []),γ'.take n0⟩ m1 W1 γ1 (ηs pre)∧S=Ybl γ1 (ηs pre)) (fun m1 W1 _=>bad∧∃ γ1,In ⟨m,w,Ybl γ' (ηs []),γ'.take n0⟩ m1 W1 γ1 ηX) ?_ ?_ _ ⟨hg0,γ',hIb,rfl⟩ ?_ ?_ ?_ ?_
 ·rintro pre m1 W1 S ⟨hgd,γ1,h1,rfl⟩;obtain ⟨a1,a2,_⟩:=hheap _ _ _ _ h1;exact ⟨a1,a2,h1.heap.lt,h1.heap.notLD⟩
 ·rintro pre m1 W1 S m2 W2 ⟨hgd,γ1,h1,rfl⟩ hs hH;exact ⟨hgd,γ1,hstay _ _ _ _ _ _ h1 hs hH,rfl⟩
 ·intro x;rw [has];rfl
 ·rintro l pre x m1 W1 S v hl ⟨hgd,γ1,h1,rfl⟩ hpre hv he;rw [has] at hv;have hrep:Rep m1 W1 γ1 v (u x):=hv.1.mono (.refl _ _) (fun i v h=>by simp at h);have hIx:=h1.rebase h1.pre;have hEr:Env C.N [] (({ tmps:=a.tmps.setIfInBounds t v,defers:=[] }:Act).put (some d) (({ tmps:=a.tmps.setIfInBounds t v,defers:=[] }:Act).eval (.tmp t))) ((d,v)::(t,v)::ρc0):=by
   have h2:=Env.setT (v:=v) hE0 (by simpa using ht);have h3:({ tmps:=a.tmps.setIfInBounds t v,defers:=[] }:Act).eval (.tmp t)=v:=h2.ev (x:=.tmp t) (by simp [W.ev,W.look]);rw [h3];exact h2.put v (by simpa using hd)
  have hbd:=hround pre x ⟨m1,W1,Ybl γ1 (ηs pre),γ'.take n0⟩ hlen0 l hpre hgd _ _ ⟨m1,γ1,_,hEr,⟨rfl,hrep,rfl,hrep,hR0.mono he h1.pre⟩,hIx⟩;rw [Cx.W_some rfl] at hbd;refine wpIn_mono hbd fun e a3 w3 hq=>?_
  cases e with
  | normal =>
    obtain ⟨hgd',m3,γ3,_,_,_,h4⟩:=hq;exact ⟨m3,_,h4.far,fun b hb=>Yaq h4 b hb,.inl ⟨rfl,hgd',γ3,h4.comp h1.far (Yaq h1) (.refl _),rfl⟩⟩
  | panic ch =>
    obtain ⟨rfl,hbd',hd4,m3,γ3,h4⟩:=hq;exact ⟨m3,[],h4.far,fun b hb=>(by cases hb),.inr ⟨rfl,hd4,hbd',γ3,h4.comp h1.far (Yaq h1) (.refl _)⟩⟩
  | _=>exact hq.elim
 ·rintro m' W' S' he ⟨hgd,γL,hL,_⟩ hD;obtain ⟨h1,h2⟩:=hend m' W' γL (ηs L) hL hD;exact hdone hgd ⟨m',W',Ybl γL (ηs L),C.B.γ⟩ C.hn _ h2 _ _ ⟨m',γL,ρc0,⟨hE0.size,by show _::a.defers=_;rw [hE0.defers],hE0.look⟩,hR0.mono he hL.pre,h1⟩
 ·rintro m' W' S' he ⟨hbd,γL,hL⟩ hD;obtain ⟨h1,h2⟩:=hend m' W' γL ηX hL hD;exact hpanic hbd ⟨m',W',Ybl γL ηX,C.B.γ⟩ C.hn _ h2 _ _ ⟨m',γL,ρc0,⟨hE0.size,by show _::a.defers=_;rw [hE0.defers],hE0.look⟩,hR0.mono he hL.pre,h1⟩
/-! ## A function that holds such a range, and may panic -/
def qA (Q:Qt):Qt:=fun e a w=>match e with
 | .panic ch=>∀ a':Act,a'.defers=a.defers→Q (.panic ch) a' w
 | e=>Q e a w
theorem qA.of {e a w} (h:qA Q e a w):Q e a w:=by
 cases e with
 | panic ch=>exact h a rfl
 | _=>exact h
variable {fn:Func} {c:Code} {B:Base} {p:Prop} {k D:Nat} {r:AV} {ηX:Eta}
theorem Zco {f0:Nat} {ar:List AV} {tab:Tab} {N:Nat} (hT:YaX P tab) (hm:P.follows .mixedOrders=true) (hf:P.funcs[f0]?=some fn) (hb:fn.body=some c) (hN:fn.ntmps=N) (ha:Nat.ble ar.length N=true)
  (h:∀ B (hB:B.γ.length=η.length),TF ⟨P,tab,hT,hm,N,[],B,η.length,hB,none,0⟩ f0 (qA (bodyPostM Fence.wide 0 P fn (Yho B r η' p pv ηX))) c (Ym3 0 ar) η):Ybu P f0 ar η r η' p pv ηX:=
 ZcP hT hm hf hb hN ha fun B hB a w hA=>YqQ (h B hB a w hA) fun _ _ _=>qA.of
theorem Zcp (h:TX C Q .normal ρ η):TX C (qA Q) .normal ρ η:=h
theorem Zb5 (hp:¬ p) (σ:List Nat) (hD:C.D=[]:=by with_unfolding_all exact rfl)
  (hn:YbG σ=true:=by with_unfolding_all exact rfl) (hpr:Ycy C.n 0 σ=true:=by with_unfolding_all exact rfl) (ho:Ybw (ts σ) η σ ηX:=by repeat' (first|with_unfolding_all exact trivial|exact OE.ren (by with_unfolding_all exact rfl)|with_unfolding_all exact OE.gs|with_unfolding_all refine And.intro ⟨_,by with_unfolding_all exact rfl,?_⟩ ?_)) :
  TX C (qA (bodyPostM Fence.wide k P fn (Yho C.B r η' p pv ηX))) (.panic (pan pv)) ρ η:=by
 rintro a w ⟨m,γ,ρc,hE,hR,hI⟩ a' ha;obtain ⟨γ',g1,g2⟩:=hI.sel C.hn hn hpr ho;show LeavesInM Fence.wide k P fn a'.tmps _ a'.defers (.panicking (pan pv)) w;rw [ha,hE.defers,hD];exact .inr ⟨hp,m,γ',rfl,g2⟩
theorem ZcG (hp:¬ p) (hM:Marked B C.B D) (hBn:B.γ.length=C.n) (σ:List Nat) (hD:C.D=[YbD D]:=by with_unfolding_all exact rfl)
  (hn:YbG σ=true:=by with_unfolding_all exact rfl) (hpr:Ycy C.n 0 σ=true:=by with_unfolding_all exact rfl) (ho:Ybw (ts σ) η σ ηX:=by repeat' (first|with_unfolding_all exact trivial|exact OE.ren (by with_unfolding_all exact rfl)|with_unfolding_all exact OE.gs|with_unfolding_all refine And.intro ⟨_,by with_unfolding_all exact rfl,?_⟩ ?_)) :
  TX C (qA (bodyPostM Fence.wide k P fn (Yho B r η' p pv ηX))) (.panic (pan pv)) ρ η:=by
 rintro a w ⟨m,γ,ρc,hE,hR,hI⟩ a' ha;have hDw:w.heap[D]?=some (.deferred (some [])):=by
  rw [hI.far.block D (Array.getElem?_eq_some_iff.1 hM.mark).1 hM.off];exact hM.mark
 have hI0:In B m w γ η:=hI.comp hM.far hM.own hM.pre;obtain ⟨γ',g1,g2⟩:=hI0.sel hBn hn hpr ho;have hs:Yam B.w.heap.size m w m (w.putObj D (.deferred none)):=.put hDw rfl hM.le;show LeavesInM Fence.wide k P fn a'.tmps _ a'.defers (.panicking (pan pv)) w;rw [ha,hE.defers,hD];exact ⟨by simp,.inl ⟨D,_,rfl,run_takeDeferred hDw,.inr ⟨hp,m,γ',rfl,g2.step hs⟩⟩⟩
end
end Go.V
namespace Go.Proofs
section
variable {sh:Int→Option Nat} {W:List Int} {st:List Nat}
structure GH (sh:Int→Option Nat) (W:List Int) (st:List Nat):Prop where
 eq:starts sh W=some st
 ob:∀ x∈st,YkL sh W st x=true
theorem Ypx:Ydi sh W=true↔∃ st,GH sh W st:=by
 unfold Ydi;constructor
 ·intro h
  cases hs:starts sh W with
  | none=>rw [hs] at h;cases h
  | some st=>rw [hs] at h;exact ⟨st,hs,List.all_eq_true.1 h⟩
 ·rintro ⟨st,h1,h2⟩;rw [h1];exact List.all_eq_true.2 h2
theorem GH.fwd (h:GH sh W st) {x:Nat} (hx:x∈st):wAt W x / 64=0∨((x:Int) < wAt W x / 64∧(wAt W x / 64).toNat∈st):=by
 have:=h.ob x hx
 simp only [YkL,Bool.and_eq_true,Bool.or_eq_true,decide_eq_true_eq,List.contains_iff_mem] at this;exact this.1
theorem GH.slot (h:GH sh W st) {x:Nat} (hx:x∈st) {w:Int} (hw:w∈slotsW sh W x):okW st w=true∧(wAt W x / 64=0∨w=0):=by
 have:=h.ob x hx
 simp only [YkL,Bool.and_eq_true,List.all_eq_true,Bool.or_eq_true,decide_eq_true_eq] at this;exact ⟨(this.2 w hw).2,(this.2 w hw).1⟩
theorem GH.hd (h:GH sh W st) {x:Nat} (hx:x∈st):1≤x∧x < W.length∧hdB sh W x=true:=Yc7 h.eq hx
theorem GH.sz (h:GH sh W st) {x:Nat} (hx:x∈st):x+szW sh (wAt W x) < W.length:=Yk5 (h.hd hx).2.2
theorem GH.slots_len (h:GH sh W st) {x:Nat} (hx:x∈st):(slotsW sh W x).length=szW sh (wAt W x):=by
 have:=h.sz hx
 rw [slotsW,List.length_take,List.length_drop];omega
theorem GH.nonneg (h:GH sh W st) {x:Nat} (hx:x∈st):0≤wAt W x:=(Ybd.1 (h.hd hx).2.2).1
theorem GH.cls (h:GH sh W st) {x:Nat} (hx:x∈st) (h0:wAt W x / 64=0):wAt W x % 64=wAt W x:=by
 have:=h.nonneg hx;omega
theorem YfS (h:GH sh W st):∀ (f x:Nat),W.length≤x+f→x∈st→realF W f x∈st∧wAt W (realF W f x) / 64=0
 | 0,x,hf,hx=>by have:=(h.hd hx).2.1;omega
 | f+1,x,hf,hx=>by
   rw [realF];split
   ·rename_i h0;exact ⟨hx,h0⟩
   ·rename_i h0
    rcases h.fwd hx with h1|⟨h1,h2⟩
    ·exact (h0 h1).elim
    ·exact YfS h f _ (by omega) h2
theorem GH.real (h:GH sh W st) {x:Nat} (hx:x∈st):real W x∈st∧wAt W (real W x) / 64=0:=YfS h _ _ (by omega) hx
theorem YhA {x:Nat} (h0:wAt W x / 64=0):real W x=x:=by
 unfold real
 cases W.length with
 | zero=>rfl
 | succ n=>rw [realF,if_pos h0]
theorem YiU:∀ (f g x:Nat),wAt W (realF W f x) / 64=0→f≤g→realF W g x=realF W f x
 | 0,g,x,h0,_=>by
   rw [realF] at h0 ⊢
   cases g with
   | zero=>rfl
   | succ g=>rw [realF,if_pos h0]
 | f+1,g,x,h0,hg=>by
   obtain ⟨g,rfl⟩:∃ k,g=k+1:=⟨g-1,by omega⟩;rw [realF] at h0;rw [realF,realF];split at h0
   ·rename_i q;rw [if_pos q,if_pos q]
   ·rename_i q;rw [if_neg q,if_neg q];exact YiU f g _ h0 (by omega)
theorem Yg3 (h:GH sh W st) {x:Nat} (hx:x∈st) (h0:wAt W x / 64≠0):Go.Proofs.real W x=Go.Proofs.real W (wAt W x / 64).toNat:=by
 rcases h.fwd hx with h1|⟨h1,h2⟩
 ·exact (h0 h1).elim
 ·have hlt:=(h.hd hx).2.1;obtain ⟨n,hn⟩:∃ n,W.length=n+1:=⟨W.length-1,by omega⟩;have hr:=YfS h n _ (by omega) h2;unfold Go.Proofs.real;rw [hn,realF,if_neg h0,YiU n (n+1) _ hr.2 (by omega)]
theorem YlJ {w:Int} (hw:okW st w=true):(w % 2≠0∨w=0)∨(w % 2=0∧0 < w∧(w / 2).toNat∈st):=by
 unfold okW at hw;split at hw
 ·rename_i h;exact .inl (.inl h)
 ·rename_i h
  simp only [Bool.or_eq_true,Bool.and_eq_true,decide_eq_true_eq,List.contains_iff_mem] at hw;rcases hw with h0|⟨h1,h2⟩
  ·exact .inl (.inr h0)
  ·exact .inr ⟨by omega,h1,h2⟩
theorem Ycp {w:Int} (h:w % 2≠0∨w=0):Yax W w=0:=by rw [Yax,if_pos h]
theorem GH.obj (h:GH sh W st) {w:Int} (hw:okW st w=true) (hn:¬ (w % 2≠0∨w=0)):Yax W w∈st∧wAt W (Yax W w) / 64=0∧0 < Yax W w:=by
 rcases YlJ hw with h0|⟨_,_,h2⟩
 ·exact (hn h0).elim
 ·rw [Yax,if_neg hn];have:=h.real h2
  exact ⟨this.1,this.2,(h.hd this.1).1⟩
theorem GH.obj_iff (h:GH sh W st) {w:Int} (hw:okW st w=true):Yax W w=0↔(w % 2≠0∨w=0):=
 ⟨fun h0=>Classical.byContradiction fun hn=>by have:=(h.obj hw hn).2.2;omega,Ycp⟩
def Re (W:List Int) (st:List Nat) (x:Nat):Prop:=x∈st∧wAt W x / 64=0
theorem GH.re_obj (h:GH sh W st) {w:Int} (hw:okW st w=true) (h0:Yax W w≠0):Re W st (Yax W w):=by
 have:=h.obj hw (fun q=>h0 (Ycp q))
 exact ⟨this.1,this.2.1⟩
/-! ## What words come to -/
theorem Yd3 (row:List Nat):Ybr W row []=row:=rfl
theorem YbS (row:List Nat) (w:Int) (ws:List Int):Ybr W row (w::ws)=Ybr W (if Yax W w=0∨Yax W w∈row then row else row++[Yax W w]) ws:=rfl
theorem Yps (row:List Nat) (a b:List Int):Ybr W row (a++b)=Ybr W (Ybr W row a) b:=by simp [Ybr]
theorem YcN:∀ (ws:List Int) (row:List Nat),∃ r,Ybr W row ws=row++r
 | [],row=>⟨[],by simp [Yd3]⟩
 | w::ws,row=>by
   rw [YbS];split
   ·exact YcN ws row
   ·obtain ⟨r,hr⟩:=YcN ws (row++[Yax W w]);exact ⟨Yax W w::r,by rw [hr];simp⟩
theorem Yc9:∀ (ws:List Int) (row:List Nat) (x:Nat),x∈Ybr W row ws↔x∈row∨(x≠0∧∃ w∈ws,Yax W w=x)
 | [],row,x=>by simp [Yd3]
 | w::ws,row,x=>by
   rw [YbS];split
   ·rename_i h
    rw [Yc9 ws row x];constructor
    ·rintro (h1|⟨h1,w',h2,h3⟩)
     ·exact .inl h1
     ·exact .inr ⟨h1,w',by simp [h2],h3⟩
    ·rintro (h1|⟨h1,w',h2,h3⟩)
     ·exact .inl h1
     ·rcases List.mem_cons.1 h2 with rfl|h2
      ·subst h3;rcases h with h|h
       ·exact (h1 h).elim
       ·exact .inl h
      ·exact .inr ⟨h1,w',h2,h3⟩
   ·rename_i h
    rw [Yc9 ws _ x];simp only [not_or] at h;constructor
    ·rintro (h1|⟨h1,w',h2,h3⟩)
     ·rcases List.mem_append.1 h1 with h1|h1
      ·exact .inl h1
      ·simp at h1;subst h1;exact .inr ⟨h.1,w,by simp,rfl⟩
     ·exact .inr ⟨h1,w',by simp [h2],h3⟩
    ·rintro (h1|⟨h1,w',h2,h3⟩)
     ·exact .inl (by simp [h1])
     ·rcases List.mem_cons.1 h2 with rfl|h2
      ·exact .inl (by simp [h3])
      ·exact .inr ⟨h1,w',h2,h3⟩
theorem YeN:∀ (ws:List Int) (row:List Nat),row.Nodup→(Ybr W row ws).Nodup
 | [],row,h=>h
 | w::ws,row,h=>by
   rw [YbS];split
   ·exact YeN ws row h
   ·rename_i hn
    simp only [not_or] at hn;refine YeN ws _ (List.nodup_append.2 ⟨h,by simp,fun a ha b hb=>?_⟩);simp at hb;subst hb;intro e;subst e;exact hn.2 ha
theorem Yrw (h:GH sh W st) {ws:List Int} (hw:∀ w∈ws,okW st w=true) {row:List Nat} (hr:∀ x∈row,Re W st x):∀ x∈Ybr W row ws,Re W st x:=by
 intro x hx;rcases (Yc9 ws row x).1 hx with h1|⟨h1,w,h2,rfl⟩
 ·exact hr x h1
 ·exact h.re_obj (hw w h2) h1
structure RowOK (W:List Int) (st row:List Nat):Prop where
 re:∀ x∈row,Re W st x
 nd:row.Nodup
theorem RowOK.meet (h:GH sh W st) {row:List Nat} (hr:RowOK W st row) {ws:List Int} (hw:∀ w∈ws,okW st w=true):RowOK W st (Ybr W row ws):=⟨Yrw h hw hr.re,YeN ws row hr.nd⟩
theorem YkO {a b:List Nat} (ha:a.Nodup) (hs:∀ x∈a,x∈b):a.length≤b.length:=by
 induction a generalizing b with
 | nil=>simp
 | cons x a ih =>
   have hx:x∈b:=hs x (by simp);rw [List.nodup_cons] at ha;have:=ih (b:=b.erase x) ha.2 (fun y hy=>(List.mem_erase_of_ne (fun e=>ha.1 (by rw [← e];exact hy))).2 (hs y (by simp [hy])))
   rw [List.length_erase_of_mem hx] at this;have:=List.length_pos_of_mem hx
   simp only [List.length_cons];omega
theorem Yuv (h:GH sh W st):st.length < W.length:=by
 have h1:=Ygt h.eq;have h2:(0::st).Nodup:=List.nodup_cons.2 ⟨fun hm=>by have:=(h.hd hm).1;omega,h1⟩;have:=YkO (b:=List.range W.length) h2 (fun x hx=>by
  rcases List.mem_cons.1 hx with rfl|hx
  ·have:=(Yah h.eq).1;simpa using this
  ·have:=(h.hd hx).2.1;simpa using this)
 simp at this;omega
theorem RowOK.len (h:GH sh W st) {row:List Nat} (hr:RowOK W st row):row.length < W.length:=by
 have:=YkO hr.nd (fun x hx=>(hr.re x hx).1)
 have:=Yuv h;omega
theorem YbW (h:GH sh W st) {x:Nat} (hx:x∈st):∀ w∈slotsW sh W x,okW st w=true:=fun _ hw=>(h.slot hx hw).1
theorem Yo9 (h:GH sh W st):∀ (f i:Nat) (row:List Nat),RowOK W st row→RowOK W st (metF sh W f i row)
 | 0,_,_,hr=>hr
 | f+1,i,row,hr=>by
   rw [metF];split
   ·rename_i hi
    refine Yo9 h f _ _ (hr.meet h (YbW h ?_));rw [List.getD_eq_getElem?_getD,List.getElem?_eq_getElem hi];exact (hr.re _ (List.getElem_mem hi)).1
   ·exact hr
theorem YjK:∀ (f i:Nat) (row:List Nat),∃ r,metF sh W f i row=row++r
 | 0,_,row=>⟨[],by simp [metF]⟩
 | f+1,i,row=>by
   rw [metF];split
   ·obtain ⟨r,hr⟩:=YjK f (i+1) (Ybr W row (slotsW sh W (row.getD i 0)));obtain ⟨q,hq⟩:=YcN (W:=W) (slotsW sh W (row.getD i 0)) row;exact ⟨q++r,by rw [hr,hq];simp⟩
   ·exact ⟨[],by simp⟩
theorem YhL (h:GH sh W st):∀ (f i:Nat) (row:List Nat),RowOK W st row→W.length≤i+f→(∀ k,k < i→k < row.length→∀ w∈slotsW sh W (row.getD k 0),Yax W w≠0→Yax W w∈row) →
  ∀ x∈metF sh W f i row,∀ w∈slotsW sh W x,Yax W w≠0→Yax W w∈metF sh W f i row
 | 0,i,row,hr,hf,hc,x,hx,w,hw,h0=>by
   rw [metF] at hx ⊢;obtain ⟨k,hk,rfl⟩:=List.mem_iff_getElem.1 hx;have:=hr.len h
   exact hc k (by omega) hk w (by rwa [List.getD_eq_getElem?_getD,List.getElem?_eq_getElem hk]) h0
 | f+1,i,row,hr,hf,hc,x,hx,w,hw,h0=>by
   rw [metF] at hx ⊢;split at hx
   ·rename_i hi
    rw [if_pos hi];have hm:row.getD i 0∈row:=by rw [List.getD_eq_getElem?_getD,List.getElem?_eq_getElem hi];exact List.getElem_mem hi
    obtain ⟨q,hq⟩:=YcN (W:=W) (slotsW sh W (row.getD i 0)) row;refine YhL h f (i+1) _ (hr.meet h (YbW h (hr.re _ hm).1)) (by omega) (fun k hk hkl w hw h0=>?_) x hx w hw h0;by_cases hki:k=i
    ·subst hki;have e:(Ybr W row (slotsW sh W (row.getD k 0))).getD k 0=row.getD k 0:=by rw [hq];simp [List.getD_eq_getElem?_getD,List.getElem?_append_left hi]
     rw [e] at hw;exact (Yc9 _ _ _).2 (.inr ⟨h0,w,hw,rfl⟩)
    ·have hkr:k < row.length:=by omega
     have e:(Ybr W row (slotsW sh W (row.getD i 0))).getD k 0=row.getD k 0:=by rw [hq];simp [List.getD_eq_getElem?_getD,List.getElem?_append_left hkr]
     rw [e] at hw;exact (Yc9 _ _ _).2 (.inl (hc k (by omega) hkr w hw h0))
   ·rename_i hi
    rw [if_neg hi];obtain ⟨k,hk,rfl⟩:=List.mem_iff_getElem.1 hx;exact hc k (by omega) hk w (by rwa [List.getD_eq_getElem?_getD,List.getElem?_eq_getElem hk]) h0
structure Met (sh:Int→Option Nat) (W:List Int) (st:List Nat) (ws:List Int) (row:List Nat):Prop where
 ok:RowOK W st row
 root:∀ w∈ws,Yax W w≠0→Yax W w∈row
 next:∀ x∈row,∀ w∈slotsW sh W x,Yax W w≠0→Yax W w∈row
theorem YpA (h:GH sh W st) {ws:List Int} (hw:∀ w∈ws,okW st w=true):Met sh W st ws (YjF sh W ws):=by
 have h0:RowOK W st (Ybr W [] ws):=RowOK.meet h ⟨by simp,List.nodup_nil⟩ hw;refine ⟨Yo9 h _ _ _ h0,fun w hm hn=>?_,YhL h _ _ _ h0 (by omega) (fun k hk=>by omega)⟩;obtain ⟨r,hr⟩:=YjK (sh:=sh) (W:=W) W.length 0 (Ybr W [] ws);rw [YjF,hr];exact List.mem_append_left _ ((Yc9 _ _ _).2 (.inr ⟨hn,w,hm,rfl⟩))
theorem Yfs (h:GH sh W st):∀ (f g i:Nat) (row:List Nat),RowOK W st row→W.length≤i+f→W.length≤i+g→metF sh W f i row=metF sh W g i row
 | 0,0,_,_,_,_,_=>rfl
 | 0,g+1,i,row,hr,hf,_=>by have:=hr.len h;rw [metF,metF,if_neg (by omega)]
 | f+1,0,i,row,hr,_,hg=>by have:=hr.len h;rw [metF,metF,if_neg (by omega)]
 | f+1,g+1,i,row,hr,hf,hg=>by
   rw [metF,metF];split
   ·rename_i hi
    have hm:row.getD i 0∈row:=by rw [List.getD_eq_getElem?_getD,List.getElem?_eq_getElem hi];exact List.getElem_mem hi
    exact Yfs h f g _ _ (hr.meet h (YbW h (hr.re _ hm).1)) (by omega) (by omega)
   ·rfl
end
section
variable {sh:Int→Option Nat} {W:List Int} {st:List Nat}
structure Todo (sh:Int→Option Nat) (W:List Int) (st:List Nat) (ws:List Int) (i:Nat) (todo:List Int) (out:List Nat):Prop where
 ok:RowOK W st out
 okw:∀ w∈todo,okW st w=true
 inv:∃ j cur,j≤out.length∧todo.drop i=cur++(out.drop j).flatMap (slotsW sh W)∧YjF sh W ws=metF sh W W.length j (Ybr W out cur)
theorem ZcM {ws:List Int} (hw:∀ w∈ws,okW st w=true):Todo sh W st ws 0 ws []:=⟨⟨by simp,List.nodup_nil⟩,hw,0,ws,by simp,by simp,rfl⟩
theorem YkB (h:GH sh W st) {j:Nat} {row:List Nat} (hr:RowOK W st row) (hj:j < row.length):metF sh W W.length j row=metF sh W W.length (j+1) (Ybr W row (slotsW sh W (row.getD j 0))):=by
 rw [Yfs h W.length (W.length+1) j row hr (by omega) (by omega),metF,if_pos hj]
theorem ZcN (h:GH sh W st) {i:Nat} {todo ws:List Int} {out:List Nat} (hr:RowOK W st out):∀ (n j:Nat) (cur:List Int),out.length≤j+n→j≤out.length→todo.drop i=cur++(out.drop j).flatMap (slotsW sh W)→YjF sh W ws=metF sh W W.length j (Ybr W out cur) →
  (todo.length≤i∧YjF sh W ws=out)∨∃ j cur,∃ (hi:i < todo.length),j≤out.length∧todo.drop i=todo[i]::cur++(out.drop j).flatMap (slotsW sh W)∧YjF sh W ws=metF sh W W.length j (Ybr W out (todo[i]::cur)):=by
 intro n;induction n with
 | zero =>
   intro j cur hn hj he hm
   cases cur with
   | nil =>
     refine .inl ?_;have:j=out.length:=by omega
     subst this;rw [List.drop_length,List.flatMap_nil,List.append_nil,List.drop_eq_nil_iff] at he;refine ⟨he,?_⟩;rw [hm,Yd3]
     cases W.length with
     | zero=>rfl
     | succ k=>rw [metF,if_neg (by omega)]
   | cons w cur =>
     refine .inr ?_;have hi:i < todo.length:=by
      rcases Nat.lt_or_ge i todo.length with q|q
      ·exact q
      ·rw [List.drop_eq_nil_iff.2 q] at he;simp at he
     have hw:todo[i]=w:=by
      have:=congrArg (fun l=>l[0]?) he
      simp at this;rw [List.getElem?_eq_getElem hi] at this;exact Option.some.inj this
     subst hw;exact ⟨j,cur,hi,hj,he,hm⟩
 | succ n ih =>
   intro j cur hn hj he hm
   cases cur with
   | nil =>
     by_cases hjl:j < out.length
     ·rw [Yd3,YkB h hr hjl] at hm;refine ih (j+1) (slotsW sh W (out.getD j 0)) (by omega) (by omega) ?_ hm;rw [he,List.nil_append,List.drop_eq_getElem_cons hjl,List.flatMap_cons,List.getD_eq_getElem?_getD,List.getElem?_eq_getElem hjl];rfl
     ·exact ih j [] (by omega) hj he hm
   | cons w cur =>
     refine .inr ?_;have hi:i < todo.length:=by
      rcases Nat.lt_or_ge i todo.length with q|q
      ·exact q
      ·rw [List.drop_eq_nil_iff.2 q] at he;simp at he
     have hw:todo[i]=w:=by
      have:=congrArg (fun l=>l[0]?) he
      simp at this;rw [List.getElem?_eq_getElem hi] at this;exact Option.some.inj this
     subst hw;exact ⟨j,cur,hi,hj,he,hm⟩
theorem Todo.done (h:GH sh W st) {ws:List Int} {i:Nat} {todo:List Int} {out:List Nat} (ht:Todo sh W st ws i todo out) (hi:todo.length≤i):YjF sh W ws=out:=by
 obtain ⟨j,cur,h1,h2,h3⟩:=ht.inv;rcases ZcN h ht.ok (out.length) j cur (by omega) h1 h2 h3 with q|⟨_,_,q,_⟩
 ·exact q.2
 ·omega
theorem Todo.step (h:GH sh W st) {ws:List Int} {i:Nat} {todo:List Int} {out:List Nat} (ht:Todo sh W st ws i todo out) (hi:i < todo.length) :
  ((Yax W todo[i]=0∨Yax W todo[i]∈out)→Todo sh W st ws (i+1) todo out) ∧
  (¬ (Yax W todo[i]=0∨Yax W todo[i]∈out)→Todo sh W st ws (i+1) (todo++slotsW sh W (Yax W todo[i])) (out++[Yax W todo[i]])):=by
 obtain ⟨j,cur,h1,h2,h3⟩:=ht.inv;rcases ZcN h ht.ok (out.length) j cur (by omega) h1 h2 h3 with q|⟨j,cur,_,q1,q2,q3⟩
 ·omega
 have hok:=ht.okw _ (List.getElem_mem hi);have hd:todo.drop (i+1)=cur++(out.drop j).flatMap (slotsW sh W):=by
  have:=List.drop_eq_getElem_cons hi
  rw [q2,List.cons_append] at this;exact (List.cons.inj this).2.symm
 constructor
 ·intro hc;rw [YbS,if_pos hc] at q3;exact ⟨ht.ok,ht.okw,j,cur,q1,hd,q3⟩
 ·intro hc;rw [YbS,if_neg hc] at q3;have hn:=not_or.1 hc;have hre:=h.re_obj hok hn.1;refine ⟨⟨fun x hx=>?_,?_⟩,fun w hw=>?_,j,cur,by simp;omega,?_,q3⟩
  ·rcases List.mem_append.1 hx with hx|hx
   ·exact ht.ok.re x hx
   ·simp at hx;subst hx;exact hre
  ·refine List.nodup_append.2 ⟨ht.ok.nd,by simp,fun a ha b hb=>?_⟩;simp at hb;subst hb;intro e;subst e;exact hn.2 ha
  ·rcases List.mem_append.1 hw with hw|hw
   ·exact ht.okw w hw
   ·exact YbW h hre.1 w hw
  ·rw [List.drop_append_of_le_length (by omega),hd,List.drop_append_of_le_length q1,List.flatMap_append];simp
/-! ## What is collected -/
def adsF (sh:Int→Option Nat) (W:List Int):Nat→List Nat→List Nat
 | _,[]=>[]
 | n,r::rs=>n::adsF sh W (n+1+szW sh (wAt W r)) rs
def endF (sh:Int→Option Nat) (W:List Int):Nat→List Nat→Nat
 | n,[]=>n
 | n,r::rs=>endF sh W (n+1+szW sh (wAt W r)) rs
theorem YgM:∀ (n:Nat) (row:List Nat),(adsF sh W n row).length=row.length
 | _,[]=>rfl
 | n,r::rs=>by rw [adsF];simp [YgM _ rs]
theorem Ynh:∀ (n:Nat) (a b:List Nat),adsF sh W n (a++b)=adsF sh W n a++adsF sh W (endF sh W n a) b
 | _,[],_=>rfl
 | n,r::rs,b=>by rw [List.cons_append,adsF,adsF,endF,Ynh _ rs b];rfl
theorem Yno:∀ (n:Nat) (a b:List Nat),endF sh W n (a++b)=endF sh W (endF sh W n a) b
 | _,[],_=>rfl
 | n,r::rs,b=>by rw [List.cons_append,endF,endF,Yno _ rs b]
theorem Yo1:∀ (n:Nat) (a:List Nat),n+a.length≤endF sh W n a
 | _,[]=>by simp [endF]
 | n,r::rs=>by rw [endF];have:=Yo1 (n+1+szW sh (wAt W r)) rs;simp only [List.length_cons];omega
def adW (sh:Int→Option Nat) (W:List Int) (row:List Nat) (x:Nat):Nat:=(adsF sh W 1 row).getD (row.idxOf x) 0
def YqK (sh:Int→Option Nat) (W:List Int) (row:List Nat) (w:Int):Int:=if Yax W w=0 then w else 2*(adW sh W row (Yax W w):Int)
def rowW (sh:Int→Option Nat) (W:List Int) (row:List Nat) (x:Nat):List Int:=wAt W x::(slotsW sh W x).map (YqK sh W row)
def Yt8 (sh:Int→Option Nat) (W ws:List Int):List Int:=0::(YjF sh W ws).flatMap (rowW sh W (YjF sh W ws))
def YuJ (sh:Int→Option Nat) (W ws:List Int):List Int:=ws.map (YqK sh W (YjF sh W ws))
end
end Go.Proofs
namespace Go.V
open Go Go.W
def Ytg (C:Cx) (ρ:Ro) (η:Eta):ResultVar→AV→Prop
 | .tmp t,u=>lk ρ t=some u
 | .cell t X,u=>Yaj C.P C.N C.D (.load X (.tmp t)) ρ η u
def Yii (tmps:Array Value):ResultVar→Sem Value
 | .tmp t=>pure (tmps.getD t undef)
 | .cell a t=>do loadVar t (← asAddr (tmps.getD a undef))
theorem Ytg.run {C:Cx} {ρ:Ro} {η:Eta} {rv:ResultVar} {u:AV} {m w γ ρc a} (h:Ytg C ρ η rv u) (hE:Env C.N C.D a ρc) (hR:RL m w γ ρc ρ) (hH:Heap m w γ η):∃ v,Rep m w γ v u∧(Yii a.tmps rv).run C.P w=.ok v w:=by
 cases rv with
 | tmp t =>
   obtain ⟨v,h1,h2⟩:=hR.look h;have hg:=hE.get h1;exact ⟨v,h2,by rw [Yii,hg];rfl⟩
 | cell t X =>
   obtain ⟨v,h1,h2⟩:=h hE hR hH;refine ⟨v,h1,?_⟩;have h3 := h2 (fun _ => .refl _ _) 0 0 "" #[] none;have he:a.eval (.tmp t)=a.tmps.getD t undef:=rfl;simp only [execOp,he,Instr.loadAt] at h3;rw [Yii];generalize a.tmps.getD t undef=p at *
   cases p with
   | pointer q =>
     cases q with
     | some q =>
       simp [Instr.sureAddr] at h3;simp [asAddr]
       cases hl:(loadVar X q).run C.P w with
       | ok x w'=>rw [hl] at h3;simp [Result.andThen] at h3;rw [h3.1,h3.2]
       | _=>rw [hl] at h3;simp [Result.andThen] at h3
     | none=>simp [Instr.sureAddr,go_sem] at h3
   | _=>simp [Instr.sureAddr,go_sem] at h3
section
variable {C:Cx} {Q:Qt} {ρ:Ro} {η η':Eta} {fn:Func} {a b c:ResultVar} {u1 u2 u3 r1 r2 r3:AV}
theorem Yqo (hres:fn.results=#[a,b]) (tm:Array Value) (w:World) {v1 v2:Value} {P:Program} (h1:(Yii tm a).run P w=.ok v1 w) (h2:(Yii tm b).run P w=.ok v2 w):(results fn tm).run P w=.ok (.tuple #[v1,v2]) w:=by
 have e:results fn tm=(do let vs ← (#[a,b]:Array ResultVar).mapM (Yii tm);pure (if h:vs.size=1 then vs[0] else .tuple vs)):=by
  unfold results;rw [hres];congr 1
 rw [e];simp [Array.mapM_eq_mapM_toList,h1,h2,Result.andThen]
theorem YqD (hres:fn.results=#[a,b,c]) (tm:Array Value) (w:World) {v1 v2 v3:Value} {P:Program} (h1:(Yii tm a).run P w=.ok v1 w) (h2:(Yii tm b).run P w=.ok v2 w) (h3:(Yii tm c).run P w=.ok v3 w):(results fn tm).run P w=.ok (.tuple #[v1,v2,v3]) w:=by
 have e:results fn tm=(do let vs ← (#[a,b,c]:Array ResultVar).mapM (Yii tm);pure (if h:vs.size=1 then vs[0] else .tuple vs)):=by
  unfold results;rw [hres];congr 1
 rw [e];simp [Array.mapM_eq_mapM_toList,h1,h2,h3,Result.andThen]
theorem ZaZ (σ:List Nat) (hle1:LE (ts σ) u1 r1) (hle2:LE (ts σ) u2 r2) (hD:C.D=[]:=by with_unfolding_all exact rfl) (hres:fn.results=#[a,b]:=by with_unfolding_all exact rfl) (h1:Ytg C ρ η a u1:=by first|with_unfolding_all exact rfl|with_unfolding_all exact gv) (h2:Ytg C ρ η b u2:=by first|with_unfolding_all exact rfl|with_unfolding_all exact gv)
  (hn:YbG σ=true:=by with_unfolding_all exact rfl) (hp:Ycy C.n 0 σ=true:=by with_unfolding_all exact rfl)
  (ho:Ybw (ts σ) η σ η':=by repeat' (first|with_unfolding_all exact trivial|exact OE.ren (by with_unfolding_all exact rfl)|with_unfolding_all exact OE.gs|with_unfolding_all refine And.intro ⟨_,by with_unfolding_all exact rfl,?_⟩ ?_)) :
  TX C (bodyPost C.P fn (YbF C.B (.tp [r1,r2]) η')) .ret ρ η:=by
 rintro ac w ⟨m,γ,ρc,hE,hR,hI⟩;obtain ⟨v1,p1,q1⟩:=h1.run hE hR hI.heap;obtain ⟨v2,p2,q2⟩:=h2.run hE hR hI.heap;obtain ⟨γ',g1,g2⟩:=hI.sel C.hn hn hp ho;rw [hD] at hE;refine bodyPost_ret (v:=.tuple #[v1,v2]) (Yqo hres _ _ q1 q2) hE.defers ⟨_,m,γ',rfl,g2,.tp (vs:=[v1,v2]) rfl fun j v c hv hc=>?_⟩;match j with
 | 0=>simp at hv hc;subst hv hc;exact hle1 _ _ _ _ g1 _ p1
 | 1=>simp at hv hc;subst hv hc;exact hle2 _ _ _ _ g1 _ p2
 | j+2=>simp at hv
theorem Za7 (σ:List Nat) (hle1:LE (ts σ) u1 r1) (hle2:LE (ts σ) u2 r2) (hle3:LE (ts σ) u3 r3) (hD:C.D=[]:=by with_unfolding_all exact rfl) (hres:fn.results=#[a,b,c]:=by with_unfolding_all exact rfl) (h1:Ytg C ρ η a u1:=by first|with_unfolding_all exact rfl|with_unfolding_all exact gv) (h2:Ytg C ρ η b u2:=by first|with_unfolding_all exact rfl|with_unfolding_all exact gv) (h3:Ytg C ρ η c u3:=by first|with_unfolding_all exact rfl|with_unfolding_all exact gv)
  (hn:YbG σ=true:=by with_unfolding_all exact rfl) (hp:Ycy C.n 0 σ=true:=by with_unfolding_all exact rfl)
  (ho:Ybw (ts σ) η σ η':=by repeat' (first|with_unfolding_all exact trivial|exact OE.ren (by with_unfolding_all exact rfl)|with_unfolding_all exact OE.gs|with_unfolding_all refine And.intro ⟨_,by with_unfolding_all exact rfl,?_⟩ ?_)) :
  TX C (bodyPost C.P fn (YbF C.B (.tp [r1,r2,r3]) η')) .ret ρ η:=by
 rintro ac w ⟨m,γ,ρc,hE,hR,hI⟩;obtain ⟨v1,p1,q1⟩:=h1.run hE hR hI.heap;obtain ⟨v2,p2,q2⟩:=h2.run hE hR hI.heap;obtain ⟨v3,p3,q3⟩:=h3.run hE hR hI.heap;obtain ⟨γ',g1,g2⟩:=hI.sel C.hn hn hp ho;rw [hD] at hE;refine bodyPost_ret (v:=.tuple #[v1,v2,v3]) (YqD hres _ _ q1 q2 q3) hE.defers ⟨_,m,γ',rfl,g2,.tp (vs:=[v1,v2,v3]) rfl fun j v c hv hc=>?_⟩;match j with
 | 0=>simp at hv hc;subst hv hc;exact hle1 _ _ _ _ g1 _ p1
 | 1=>simp at hv hc;subst hv hc;exact hle2 _ _ _ _ g1 _ p2
 | 2=>simp at hv hc;subst hv hc;exact hle3 _ _ _ _ g1 _ p3
 | j+3=>simp at hv
end
end Go.V
namespace Go.Proofs
def Yh1 (R:Int→Int→Prop):List Int→List Int→Prop
 | [],[]=>True
 | w::ws,v::vs=>R w v∧Yh1 R ws vs
 | _,_=>False
theorem Yh1.len {R:Int→Int→Prop}:∀ {ws vs:List Int},Yh1 R ws vs→ws.length=vs.length
 | [],[],_=>rfl
 | _::ws,_::vs,h=>by simp [Yh1.len (ws:=ws) (vs:=vs) h.2]
 | [],_::_,h=>h.elim
 | _::_,[],h=>h.elim
theorem Yh1.mono {R S:Int→Int→Prop}:∀ {ws vs:List Int},Yh1 R ws vs→(∀ w v,w∈ws→v∈vs→R w v→S w v)→Yh1 S ws vs
 | [],[],_,_=>trivial
 | w::ws,v::vs,h,k=>⟨k w v (List.mem_cons_self ..) (List.mem_cons_self ..) h.1,Yh1.mono (ws:=ws) (vs:=vs) h.2 fun a b ha hb=>k a b (List.mem_cons_of_mem _ ha) (List.mem_cons_of_mem _ hb)⟩
 | [],_::_,h,_=>h.elim
 | _::_,[],h,_=>h.elim
theorem Yh1.map {R:Int→Int→Prop} {f g:Int→Int}:∀ {ws vs:List Int},Yh1 R ws vs→(∀ w v,w∈ws→v∈vs→R w v→f w=g v)→ws.map f=vs.map g
 | [],[],_,_=>rfl
 | w::ws,v::vs,h,k=>by
   rw [List.map_cons,List.map_cons,k w v (List.mem_cons_self ..) (List.mem_cons_self ..) h.1,Yh1.map (ws:=ws) (vs:=vs) h.2 fun a b ha hb=>k a b (List.mem_cons_of_mem _ ha) (List.mem_cons_of_mem _ hb)]
 | [],_::_,h,_=>h.elim
 | _::_,[],h,_=>h.elim
def Ya2 (G H:List Int):List (Nat × Nat)→List Int→List Int→Option (List (Nat × Nat))
 | row,[],[]=>some row
 | row,w::ws,v::vs =>
   if Yax G w=0∨Yax H v=0 then (if w=v then Ya2 G H row ws vs else none)
   else if Yax G w ∉ row.map (·.1)∧Yax H v ∉ row.map (·.2) then Ya2 G H (row++[(Yax G w,Yax H v)]) ws vs
   else if (Yax G w,Yax H v)∈row then Ya2 G H row ws vs else none
 | _,_,_=>none
def Yih (sh:Int→Option Nat) (G H:List Int):Nat→Nat→List (Nat × Nat)→Bool
 | 0,_,_=>true
 | f+1,i,row=>if i < row.length then
   (if wAt G (row.getD i (0,0)).1=wAt H (row.getD i (0,0)).2 then
    match Ya2 G H row (slotsW sh G (row.getD i (0,0)).1) (slotsW sh H (row.getD i (0,0)).2) with
    | some row'=>Yih sh G H f (i+1) row'
    | none=>false
   else false) else true
def YdM (sh:Int→Option Nat) (G H a b:List Int):Bool:=match Ya2 G H [] a b with
 | some row=>Yih sh G H (G.length+H.length) 0 row
 | none=>false
theorem YiQ {G H:List Int}:∀ (ws vs:List Int) (row:List (Nat × Nat)),ws.length≠vs.length→Ya2 G H row ws vs=none
 | [],[],_,h=>absurd rfl h
 | [],_::_,_,_=>by rw [Ya2];all_goals simp
 | _::_,[],_,_=>by rw [Ya2];all_goals simp
 | w::ws,v::vs,row,h=>by
   have h1:ws.length≠vs.length:=by simpa using h
   have hr:=fun r=>YiQ (G:=G) (H:=H) ws vs r h1
   rw [Ya2];split
   ·split
    ·exact hr _
    ·rfl
   ·split
    ·exact hr _
    ·split
     ·exact hr _
     ·rfl
def Cor (G H:List Int) (row:List (Nat × Nat)) (w v:Int):Prop:=(Yax G w=0∧Yax H v=0∧w=v)∨(Yax G w≠0∧Yax H v≠0∧(Yax G w,Yax H v)∈row)
structure PairOK (row:List (Nat × Nat)):Prop where
 n1:(row.map (·.1)).Nodup
 n2:(row.map (·.2)).Nodup
theorem PairOK.snoc {row:List (Nat × Nat)} (h:PairOK row) {s t:Nat} (h1:s ∉ row.map (·.1)) (h2:t ∉ row.map (·.2)):PairOK (row++[(s,t)]):=by
 constructor
 ·rw [List.map_append];refine List.nodup_append.2 ⟨h.n1,by simp,fun a ha b hb=>?_⟩;simp at hb;subst hb;intro e;subst e;exact h1 ha
 ·rw [List.map_append];refine List.nodup_append.2 ⟨h.n2,by simp,fun a ha b hb=>?_⟩;simp at hb;subst hb;intro e;subst e;exact h2 ha
theorem Yix {row:List (Nat × Nat)} (h:(row.map (·.1)).Nodup) {s t t':Nat} (h1:(s,t)∈row) (h2:(s,t')∈row):t=t':=by
 induction row with
 | nil=>cases h1
 | cons x row ih =>
   rw [List.map_cons,List.nodup_cons] at h;rcases List.mem_cons.1 h1 with e1|m1<;>rcases List.mem_cons.1 h2 with e2|m2
   ·rw [← e1] at e2;exact (Prod.mk.inj e2).2.symm
   ·exact (h.1 (by rw [← e1];exact List.mem_map.2 ⟨_,m2,rfl⟩)).elim
   ·exact (h.1 (by rw [← e2];exact List.mem_map.2 ⟨_,m1,rfl⟩)).elim
   ·exact ih h.2 m1 m2
theorem Yio {row:List (Nat × Nat)} (h:(row.map (·.2)).Nodup) {s s' t:Nat} (h1:(s,t)∈row) (h2:(s',t)∈row):s=s':=by
 induction row with
 | nil=>cases h1
 | cons x row ih =>
   rw [List.map_cons,List.nodup_cons] at h;rcases List.mem_cons.1 h1 with e1|m1<;>rcases List.mem_cons.1 h2 with e2|m2
   ·rw [← e1] at e2;exact (Prod.mk.inj e2).1.symm
   ·exact (h.1 (by rw [← e1];exact List.mem_map.2 ⟨_,m2,rfl⟩)).elim
   ·exact (h.1 (by rw [← e2];exact List.mem_map.2 ⟨_,m1,rfl⟩)).elim
   ·exact ih h.2 m1 m2
section
variable {sh:Int→Option Nat} {G H:List Int} {sg sk:List Nat}
theorem YqE (hG:GH sh G sg) (hH:GH sh H sk) {w v:Int} (hw:okW sg w=true) (hv:okW sk v=true) (h:Yax G w=0∨Yax H v=0) (e:w=v):Yax G w=0∧Yax H v=0:=by
 subst e;rcases h with h|h
 ·have:=(hG.obj_iff hw).1 h
  exact ⟨h,Ycp this⟩
 ·have:=(hH.obj_iff hv).1 h
  exact ⟨Ycp this,h⟩
theorem Cor.mono {row row':List (Nat × Nat)} (h:∀ x∈row,x∈row') {w v:Int} (k:Cor G H row w v):Cor G H row' w v:=k.imp id fun ⟨a,b,c⟩=>⟨a,b,h _ c⟩
theorem YbM (hG:GH sh G sg) (hH:GH sh H sk):∀ (ws vs:List Int) (row row':List (Nat × Nat)),(∀ w∈ws,okW sg w=true)→(∀ v∈vs,okW sk v=true)→PairOK row→Ya2 G H row ws vs=some row' →
  PairOK row'∧(∀ x∈row,x∈row')∧row'.map (·.1)=Ybr G (row.map (·.1)) ws∧row'.map (·.2)=Ybr H (row.map (·.2)) vs∧Yh1 (Cor G H row') ws vs
 | [],[],row,row',_,_,hp,h=>by rw [Ya2] at h;cases h;exact ⟨hp,fun _ h=>h,rfl,rfl,trivial⟩
 | [],_::_,row,row',_,_,_,h=>by rw [Ya2] at h;cases h;all_goals simp
 | _::_,[],row,row',_,_,_,h=>by rw [Ya2] at h;cases h;all_goals simp
 | w::ws,v::vs,row,row',hw,hv,hp,h=>by
   have hw1:=hw w (List.mem_cons_self ..);have hv1:=hv v (List.mem_cons_self ..);have hw2:=fun x hx=>hw x (List.mem_cons_of_mem _ hx)
   have hv2:=fun x hx=>hv x (List.mem_cons_of_mem _ hx)
   rw [Ya2] at h;rw [YbS,YbS];split at h
   ·rename_i h0
    split at h
    ·rename_i e
     obtain ⟨z1,z2⟩:=YqE hG hH hw1 hv1 h0 e;obtain ⟨a1,a2,a3,a4,a5⟩:=YbM hG hH ws vs row row' hw2 hv2 hp h;rw [if_pos (.inl z1),if_pos (.inl z2)];exact ⟨a1,a2,a3,a4,.inl ⟨z1,z2,e⟩,a5⟩
    ·cases h
   ·rename_i h0
    rw [not_or] at h0;split at h
    ·rename_i hn
     obtain ⟨a1,a2,a3,a4,a5⟩:=YbM hG hH ws vs _ row' hw2 hv2 (hp.snoc hn.1 hn.2) h;rw [if_neg (not_or.2 ⟨h0.1,hn.1⟩),if_neg (not_or.2 ⟨h0.2,hn.2⟩)];rw [List.map_append] at a3 a4;exact ⟨a1,fun x hx=>a2 x (List.mem_append_left _ hx),a3,a4,.inr ⟨h0.1,h0.2,a2 _ (by simp)⟩,a5⟩
    ·split at h
     ·rename_i hm
      obtain ⟨a1,a2,a3,a4,a5⟩:=YbM hG hH ws vs row row' hw2 hv2 hp h;rw [if_pos (.inr (List.mem_map.2 ⟨_,hm,rfl⟩)),if_pos (.inr (List.mem_map.2 ⟨_,hm,rfl⟩))];exact ⟨a1,a2,a3,a4,.inr ⟨h0.1,h0.2,a2 _ hm⟩,a5⟩
     ·cases h
structure Bis (sh:Int→Option Nat) (G H:List Int) (a b:List Int) (row:List (Nat × Nat)):Prop where
 ok:PairOK row
 hd:∀ x∈row,wAt G x.1=wAt H x.2
 sl:∀ x∈row,Yh1 (Cor G H row) (slotsW sh G x.1) (slotsW sh H x.2)
 rt:Yh1 (Cor G H row) a b
theorem YhN {α:Type} {l:List α} {i:Nat} {d:α} (h:i < l.length):l.getD i d∈l:=by
 rw [List.getD_eq_getElem?_getD,List.getElem?_eq_getElem h];exact List.getElem_mem h
/-! ## Where all corresponds, all is paired -/
end
section
variable {sh:Int→Option Nat} {W:List Int} {st:List Nat}
theorem YdA:∀ (f i:Nat) (st:List Nat),startsF sh W f i=some st→W.length≤i+f→i≤W.length→i+(st.map fun x=>1+szW sh (wAt W x)).sum=W.length
 | 0,i,st,h,h1,h2=>by rw [startsF] at h;cases h;simp;omega
 | f+1,i,st,h,h1,h2=>by
   rw [startsF] at h;split at h
   ·rename_i hi
    split at h
    ·rename_i hd
     obtain ⟨r,hr,rfl⟩:=Option.map_eq_some_iff.1 h;have:=Yk5 hd
     have:=YdA f _ r hr (by omega) (by omega)
     simp only [List.map_cons,List.sum_cons];omega
    ·cases h
   ·cases h;simp;omega
theorem Yoz {f:Nat→Nat}:∀ {a b:List Nat},a.Nodup→(∀ x∈a,x∈b)→(a.map f).sum≤(b.map f).sum
 | [],_,_,_=>by simp
 | x::a,b,hn,hs=>by
   have hx:=hs x (List.mem_cons_self ..);have hp:=List.perm_cons_erase hx;rw [List.nodup_cons] at hn;have h1:=Yoz (f:=f) (a:=a) (b:=b.erase x) hn.2 (fun y hy=>(List.mem_erase_of_ne (fun e:y=x=>hn.1 (by rw [← e];exact hy))).2 (hs y (List.mem_cons_of_mem _ hy)));have h2:=(hp.map f).sum_nat;simp only [List.map_cons,List.sum_cons] at h2 ⊢;omega
theorem Ynj:∀ (n:Nat) (row:List Nat),endF sh W n row=n+(row.map fun x=>1+szW sh (wAt W x)).sum
 | _,[]=>by simp [endF]
 | n,r::rs=>by rw [endF,Ynj _ rs];simp only [List.map_cons,List.sum_cons];omega
theorem YmD (h:GH sh W st) {row:List Nat} (hr:RowOK W st row):endF sh W 1 row≤W.length:=by
 have h0:=Yah h.eq;have h1:=YdA _ _ _ h0.2.2.2 (by omega) (by omega);have h2:=Yoz (f:=fun x=>1+szW sh (wAt W x)) hr.nd (fun x hx=>(hr.re x hx).1);rw [Ynj];omega
theorem Ymv:∀ (n:Nat) (row:List Nat),∀ a∈adsF sh W n row,n≤a∧a < endF sh W n row
 | _,[],a,h=>by cases h
 | n,r::rs,a,h=>by
   rw [adsF] at h;rw [endF];have hg:=Yo1 (sh:=sh) (W:=W) (n+1+szW sh (wAt W r)) rs;rcases List.mem_cons.1 h with rfl|h
   ·omega
   ·have:=Ymv _ rs a h;omega
theorem Ysm {row:List Nat} {x:Nat} (hx:x∈row):adW sh W row x∈adsF sh W 1 row:=by
 have hi:=List.idxOf_lt_length_of_mem hx;rw [adW];exact YhN (by rw [YgM];exact hi)
theorem Yvj (h:GH sh W st) {row:List Nat} (hr:RowOK W st row) {x:Nat} (hx:x∈row):1≤adW sh W row x∧adW sh W row x < W.length:=by
 have h1:=Ymv _ _ _ (Ysm (sh:=sh) (W:=W) hx);have h2:=YmD h hr;omega
theorem YmV (h:GH sh W st) (row:List Nat):∀ (n:Nat) (pre:List Nat),(∀ x∈pre,x∈st)→n+(pre.flatMap (rowW sh W row)).length=endF sh W n pre
 | _,[],_=>rfl
 | n,r::rs,hs=>by
   have h1:=YmV h row (n+1+szW sh (wAt W r)) rs (fun x hx=>hs x (List.mem_cons_of_mem _ hx));have h2:=h.slots_len (hs r (List.mem_cons_self ..));rw [endF,← h1,List.flatMap_cons,List.length_append,rowW,List.length_cons,List.length_map,h2];omega
end
end Go.Proofs
