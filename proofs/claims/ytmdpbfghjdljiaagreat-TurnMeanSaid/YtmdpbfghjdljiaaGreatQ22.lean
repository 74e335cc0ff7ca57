/- Part 22 of what the claim is proved by: lemmas on the model and walks through functions of the program; no conditions. -/
import Derived.Test.YtmdpbfghjdljiaaGreatQ21
import Derived.Test.YtmdpbfghjdljiaaGreatQ14
import Derived.Test.YtmdpbfghjdljiaaGreatQ15
import Derived.Test.YtmdpbfghjdljiaaGreatQ20
import Derived.Test.YtmdpbfghjdljiaaGreatQ12
import Derived.Tactics
namespace Go.V
open Go Go.W Go.RowKit
structure ItX (P:Program) {α:Type} (as:α→List AV) (ok:α→Prop) (pv:Value) (L:List α) where
 l:Nat
 J:List α→(Nat→Nat)→World→Prop
 Jp:(Nat→Nat)→World→Prop
 m:Nat→Nat
 W:World
 sJ:Stays W.heap.size J
 sJp:Stays W.heap.size (fun (_:Unit)=>Jp)
 hok:∀ pre m W,J pre m W→∀ x∈pre,ok x
 hy:∀ pre x m1 W1 vs,J pre m1 W1→(∃ r,pre++x::r=L)→VL m1 W1 [] vs (as x)→YieldX P l vs m1 W1 (J (pre++[x])) Jp pv
section
variable {P:Program} {α:Type} {as:α→List AV} {ok:α→Prop} {pv:Value} {L:List α}
structure AtX (I:ItX P as ok pv L) (m0:Nat→Nat) (W0:World) (K:(Nat→Nat)→World→Prop) (B:Base):Prop where
 le:Ext I.m I.W m0 W0
 ext:Ext m0 W0 B.m B.w
 noS:B.S=[]
 noγ:B.γ=[]
 stays:∀ m w m' w',K m w→StepOK I.W.heap.size m w m' w'→K m' w'
 holds:K B.m B.w
theorem AtX.keep {I:ItX P as ok pv L} {m0 W0 K B m w} (h:AtX I m0 W0 K B) (hk:Keep B.m B.w m w):AtX I m0 W0 K ⟨m,w,[],[]⟩:=
 ⟨h.le,h.ext.trans hk.ext,rfl,rfl,h.stays,h.stays _ _ _ _ h.holds (.keep hk)⟩
def EndX (I:ItX P as ok pv L) (m0:Nat→Nat) (W0:World) (post:List α) (r:Value):Ending→World→Prop:=fun e W' =>
 ∃ m',Ext m0 W0 m' W'∧((e=.returned r∧I.J post m' W')∨(e=.panicked (pan pv)∧I.Jp m' W'))
def VisX (I:ItX P as ok pv L) (f:Nat) (us:List AV) (pre post:List α) (r:Value):Prop:=
 ∀ m w vs,Ext I.m I.W m w→I.J pre m w→VL m w [] vs us→Calls P f vs.toArray w (EndX I m w post r)
end
section
variable {C:Cx} {ops:Array Oper} {Q:Qt} {ρ ρ':Ro} {η η':Eta} {rest:List Oper} {T d:Nat} {pos:String} {af:Array Edge} {x:Operand} {args:List Operand} {at_:Array TypeId}
variable {P:Program} {α:Type} {as:α→List AV} {ok:α→Prop} {pv:Value} {L:List α}
theorem OL.yieldX {I:ItX P as ok pv L} {m0 W0} {pre:List α} {y:α} {us:List AV} {r:Option Nat} (hA:AtX I m0 W0 (I.J pre) C.B) (hpre:∃ r,pre++y::r=L)
  (k1:∀ B (hB:B.γ.length=C.n),AtX I m0 W0 (I.J (pre++[y])) B→OL (C.at B hB) ops Q rest ((d,V.bool true)::ρ) η)
  (kp:∀ B (hB:B.γ.length=C.n),AtX I m0 W0 I.Jp B→TX (C.at B hB) Q (.panic (pan pv)) ρ η)
  (hP:C.P=P:=by with_unfolding_all exact rfl) (hn:C.n=0:=by with_unfolding_all exact rfl) (hr:C.r=some r:=by with_unfolding_all exact rfl) (hk:C.k=0:=by with_unfolding_all exact rfl)
  (hx:ev2 ρ x=some (.raw (.func (.yield I.l) #[] #[])):=by with_unfolding_all exact rfl) (hl:evs2 ρ args=some us:=by with_unfolding_all exact rfl)
  (hle:LEs (ts []) us (as y):=by repeat' (first|with_unfolding_all exact trivial|exact LE.ren (by with_unfolding_all exact rfl)|with_unfolding_all exact LE.sl|with_unfolding_all exact LE.nil (by decide)|with_unfolding_all refine And.intro ?_ ?_))
  (hd:Nat.blt d C.N=true:=by with_unfolding_all exact rfl) (hη:η.all isDead=true:=by with_unfolding_all exact rfl) :
  OL C ops Q (⟨some d,.call ⟨.value x,args.toArray,at_⟩,T,pos,af,none⟩::rest) ρ η:=by
 rintro a w ⟨m,γ,ρc,hE,hR,hI⟩
 subst hP
 have hK:=hI.keep0 hA.noS
 have hA':=hA.keep hK
 obtain ⟨vs,h1,h2⟩:=hR.evs hl
 have hvl:VL m w [] vs (as y):=hle.vl (γ':=[]) (fun i j h=>by cases h) h2
 have hY:=I.hy pre y m w vs hA'.holds hpre hvl
 have hB0:([]:List Value).length=C.n:=by rw [hn];rfl
 obtain ⟨fn',tmps,assign,body,q1,q2⟩:=hY
 rw [Cx.L_some hr,hk]
 unfold wpListIn
 rw [if_pos (by simp [Region.wanted])]
 refine ⟨fun f _=>trivial,?_⟩
 rw [Oper.semAt_plain _ _ _ (by simp)]
 have hrun:(execOp a.eval ⟨some d,.call ⟨.value x,args.toArray,at_⟩,T,pos,af,none⟩).run C.P w=.ok (.round I.l fn' tmps assign body) w:=by
  simp [execOp,resolve,hE.ev (hR.raw hx),Deferred.ofValue,invoke,hE.evs h1,q1]
 rw [hrun,Oper.uponIn_round]
 refine ⟨fun h=>(by cases h),RoundIn.mono (show RoundIn (WF r) 0 C.P I.l fn' tmps assign body w _ from q2) fun e w'' ⟨m',he,hc⟩=>?_⟩
 rcases hc with ⟨rfl,hj⟩|⟨rfl,hj⟩
 ·have:=k1 ⟨m',w'',[],[]⟩ hB0 ⟨hA'.le,hA'.ext.trans he,rfl,rfl,fun m w m' w'=>I.sJ _ m w m' w',hj⟩ _ w'' ⟨m',γ,_,hE.put _ (by simpa using hd),⟨rfl,.raw rfl,hR.mono he (.refl _)⟩,hI.deadB hη⟩
  rwa [Cx.L_some (C:=C.at ⟨m',w'',[],[]⟩ hB0) hr,show (C.at ⟨m',w'',[],[]⟩ hB0).k=0 from hk] at this
 ·exact kp ⟨m',w'',[],[]⟩ hB0 ⟨hA'.le,hA'.ext.trans he,rfl,rfl,fun m w m' w'=>I.sJp () m w m' w',hj⟩ a w'' ⟨m',γ,ρc,hE,hR.mono he (.refl _),hI.deadB hη⟩
theorem OL.visX {I:ItX P as ok pv L} {m0 W0} {pre post:List α} {f:Nat} {fn:Func} {us vs' first caps:List AV} {r:Option Nat} {rv:Value} (hA:AtX I m0 W0 (I.J pre) C.B) (hV:VisX I f vs' pre post rv) (hf:P.funcs[f]?=some fn) (hrv:rv.oneCell'=true)
  (k1:∀ B (hB:B.γ.length=C.n),AtX I m0 W0 (I.J post) B→OL (C.at B hB) ops Q rest ((d,.raw rv)::ρ) η)
  (kp:∀ B (hB:B.γ.length=C.n),AtX I m0 W0 I.Jp B→TX (C.at B hB) Q (.panic (pan pv)) ρ η)
  (hP:C.P=P:=by with_unfolding_all exact rfl) (hn:C.n=0:=by with_unfolding_all exact rfl) (hr:C.r=some r:=by with_unfolding_all exact rfl) (hk:C.k=0:=by with_unfolding_all exact rfl)
  (hx : ev2 ρ x = some (.fn (.func f) first caps) := by with_unfolding_all exact rfl) (hb : (fn.body.isNone || fn.name == "runtime.NumGoroutine") = false := by with_unfolding_all exact rfl) (hl : evs2 ρ args = some us := by with_unfolding_all exact rfl)
  (hle:LEs (ts []) (first++us++caps) vs':=by repeat' (first|with_unfolding_all exact trivial|exact LE.ren (by with_unfolding_all exact rfl)|with_unfolding_all exact LE.sl|with_unfolding_all exact LE.nil (by decide)|with_unfolding_all refine And.intro ?_ ?_))
  (hd:Nat.blt d C.N=true:=by with_unfolding_all exact rfl) (hη:η.all isDead=true:=by with_unfolding_all exact rfl) :
  OL C ops Q (⟨some d,.call ⟨.value x,args.toArray,at_⟩,T,pos,af,none⟩::rest) ρ η:=by
 rintro a w ⟨m,γ,ρc,hE,hR,hI⟩
 subst hP
 have hK:=hI.keep0 hA.noS
 have hA':=hA.keep hK
 obtain ⟨vs,h1,h2⟩:=hR.evs hl
 obtain ⟨fv,g1,g2⟩:=hR.ev hx
 cases g2 with
 | @fn _ _ v1 v2 _ _ l1 l2 q1 q2 =>
 have hvl:VL m w [] (v1++vs++v2) vs':=hle.vl (γ':=[]) (fun i j h=>by cases h) ((VL.app (VL.of l1 q1) h2).app (VL.of l2 q2))
 have hc:=hV m w _ (hA'.le.trans hA'.ext) hA'.holds hvl
 have hB0:([]:List Value).length=C.n:=by rw [hn];rfl
 simp at hb
 have hb':fn.body≠none:=Option.isSome_iff_ne_none.1 hb.1
 rw [Cx.L_some hr,hk]
 unfold wpListIn
 rw [if_pos (by simp [Region.wanted])]
 refine ⟨fun f _=>trivial,?_⟩
 rw [Oper.semAt_plain _ _ _ (by simp)]
 have hrun:(execOp a.eval ⟨some d,.call ⟨.value x,args.toArray,at_⟩,T,pos,af,none⟩).run C.P w=.ok (.enter f (v1++vs++v2).toArray) w:=by
  simp [execOp,resolve,hE.ev g1,Deferred.ofValue,invoke,callFunc,hf,hb.2,hb',hE.evs h1]
 rw [hrun,Oper.uponIn_enter]
 refine ⟨fun hd=>(by cases hd),CallsIn.mono (show CallsIn (WF r) 0 C.P f (v1++vs++v2).toArray w _ from (callsIn_wide (n:=0)).2 hc) (fun e w'' ⟨m',he,hq⟩=>?_)⟩
 rcases hq with ⟨rfl,hj⟩|⟨rfl,hj⟩
 ·have:=k1 ⟨m',w'',[],[]⟩ hB0 ⟨hA'.le,hA'.ext.trans he,rfl,rfl,fun m w m' w'=>I.sJ _ m w m' w',hj⟩ _ w'' ⟨m',γ,_,hE.put _ (by simpa using hd),⟨rfl,.raw hrv,hR.mono he (.refl _)⟩,hI.deadB hη⟩
  rwa [Cx.L_some (C:=C.at ⟨m',w'',[],[]⟩ hB0) hr,show (C.at ⟨m',w'',[],[]⟩ hB0).k=0 from hk] at this
 ·exact kp ⟨m',w'',[],[]⟩ hB0 ⟨hA'.le,hA'.ext.trans he,rfl,rfl,fun m w m' w'=>I.sJp () m w m' w',hj⟩ a w'' ⟨m',γ,ρc,hE,hR.mono he (.refl _),hI.deadB hη⟩
/-! ## Its ends -/
theorem TX.endX {I:ItX P as ok pv L} {m0 W0} {post:List α} {fn:Func} {t k:Nat} {u:AV} {rv:Value} (hA:AtX I m0 W0 (I.J post) C.B) (hu:u=.raw rv) (hD:C.D=[]:=by with_unfolding_all exact rfl) (hres:fn.results=#[.tmp t]:=by with_unfolding_all exact rfl) (hx:lk ρ t=some u:=by with_unfolding_all exact rfl) :
  TX C (bodyPostM Fence.wide k P fn (EndX I m0 W0 post rv)) .ret ρ η:=by
 rintro a w ⟨m,γ,ρc,hE,hR,hI⟩
 subst hu
 have hA':=hA.keep (hI.keep0 hA.noS)
 obtain ⟨v,h1,h2⟩:=hR.look hx
 cases h2 with
 | raw h =>
 show LeavesInM Fence.wide k P fn a.tmps _ a.defers .returning w
 rw [hE.defers,hD]
 exact ⟨_,by rw [results_tmp hres a.tmps P _,hE.get h1],m,hA'.ext,.inl ⟨rfl,hA'.holds⟩⟩
theorem TX.endX0 {I:ItX P as ok pv L} {m0 W0} {post:List α} {fn:Func} {k:Nat} (hA:AtX I m0 W0 (I.J post) C.B) (hD:C.D=[]:=by with_unfolding_all exact rfl) (hres:fn.results=#[]:=by with_unfolding_all exact rfl) :
  TX C (bodyPostM Fence.wide k P fn (EndX I m0 W0 post (.tuple #[]))) .ret ρ η:=by
 rintro a w ⟨m,γ,ρc,hE,hR,hI⟩
 have hA':=hA.keep (hI.keep0 hA.noS)
 show LeavesInM Fence.wide k P fn a.tmps _ a.defers .returning w
 rw [hE.defers,hD]
 exact ⟨_,results_none hres _ P _,m,hA'.ext,.inl ⟨rfl,hA'.holds⟩⟩
theorem TX.endXP {I:ItX P as ok pv L} {m0 W0} {post:List α} {fn:Func} {k:Nat} {rv:Value} (hA:AtX I m0 W0 I.Jp C.B) (hD:C.D=[]:=by with_unfolding_all exact rfl) :
  TX C (bodyPostM Fence.wide k P fn (EndX I m0 W0 post rv)) (.panic (pan pv)) ρ η:=by
 rintro a w ⟨m,γ,ρc,hE,hR,hI⟩
 have hA':=hA.keep (hI.keep0 hA.noS)
 show LeavesInM Fence.wide k P fn a.tmps _ a.defers (.panicking (pan pv)) w
 rw [hE.defers,hD]
 exact ⟨m,hA'.ext,.inr ⟨rfl,hA'.holds⟩⟩
/-! ## Contracts out of bodies -/
theorem VisX.enter {I:ItX P as ok pv L} {f:Nat} {fn:Func} {c:Code} {us:List AV} {pre post:List α} {rv:Value} {tab:Tab} {N:Nat} (hT:TabOK P tab) (hm:P.follows .mixedOrders=true) (hf:P.funcs[f]?=some fn) (hb:fn.body=some c) (hN:fn.ntmps=N) (ha:Nat.ble us.length N=true)
  (h:∀ (m0:Nat→Nat) (W0:World) (B:Base) (hB:B.γ.length=0),AtX I m0 W0 (I.J pre) B→TC ⟨P,tab,hT,hm,N,[],B,0,hB,some none,0⟩ (bodyPostM Fence.wide 0 P fn (EndX I m0 W0 post rv)) c (zip2 0 us) []):VisX I f us pre post rv:=by
 intro m w vs he hJ hv
 have hl:=hv.len
 refine Go.W.enterM (N:=N) 0 (Go.W.zipA 0 vs) hf hb hN (by simp) (by simp at ha;simp;omega) fun a hE=>?_
 have hb':=h m w ⟨m,w,[],[]⟩ rfl ⟨he,.refl _ _,rfl,rfl,fun m w m' w'=>I.sJ _ m w m' w',hJ⟩ a w
  ⟨m,[],_,hE,hv.zip 0,⟨rfl,by simp,by simp⟩,.refl _ _ _,fun i v o b h=>by simp at h,.refl _⟩
 rw [Cx.W_some rfl] at hb'
 exact wpIn_wide.1 hb'
theorem SeqX.of {f:Nat} {caps:List AV} {m0:Nat→Nat} {w0:World} {vs:List Value} (hv:VL m0 w0 [] vs caps)
  (h:∀ (I:ItX P as ok pv L),VisX I f (.raw (.func (.yield I.l) #[] #[])::caps) [] L (.tuple #[])):SeqX P f vs.toArray as ok pv L m0 w0:=by
 intro l J Jp m W he sJ sJp hok hy hJ
 have:=h ⟨l,J,Jp,m,W,sJ,sJp,hok,hy⟩ m W (.func (.yield l) #[] #[]::vs) (.refl _ _) hJ ⟨.raw rfl,hv.mono he (.refl _)⟩
 have ez:(#[Value.func (.yield l) #[] #[]]++vs.toArray:Array Value)=(Value.func (.yield l) #[] #[]::vs).toArray:=by simp
 rw [ez]
 refine this.mono fun e W' ⟨m',h1,h2⟩=>⟨m',h1,?_⟩
 rcases h2 with ⟨rfl,h⟩|h
 ·exact .inl ⟨_,rfl,h⟩
 ·exact .inr h
end
end Go.V
namespace Go.W
open Go
def mput (k:Int) (v:Value):List (Int × Value)→List (Int × Value)
 | []=>[(k,v)]
 | p::r=>if k==p.1 then (p.1,v)::r else p::mput k v r
theorem findNow_put (k:Int) (v:Value):∀ (es:List MapEntry) (l:List (Int × Value)) (i:Nat),es.map (fun e=>(e.key,e.val))=l.map (fun p=>(Value.int .i64 p.1,p.2))→mfind k l≠none →
  ∃ j v',Instr.findNow (.int .i64) (.int .i64 k) es i=some (some (i+j,v'))∧(es[j]?).map (·.key)=some (.int .i64 k) ∧
   (es.modify j fun e=>{ e with key:=.int .i64 k,val:=v }).map (fun e=>(e.key,e.val))=(mput k v l).map (fun p=>(Value.int .i64 p.1,p.2))
 | [],[],i,_,hn=>absurd rfl hn
 | [],_::_,_,h,_=>by simp at h
 | _::_,[],_,h,_=>by simp at h
 | e::es,p::l,i,h,hn=>by
   simp only [List.map_cons,List.cons.injEq,Prod.mk.injEq] at h
   obtain ⟨⟨hk,hv⟩,h⟩:=h
   simp only [mfind] at hn
   simp only [Instr.findNow,hk,Instr.sameNow,if_true,mput]
   cases hb:k==p.1 with
   | true =>
     have hkp:k=p.1:=by simpa using hb
     refine ⟨0,e.val,by simp,by simp [hk,hkp],?_⟩
     simp [List.modify,hkp,h]
   | false =>
     rw [hb] at hn
     obtain ⟨j,v',g1,g2,g3⟩:=findNow_put k v es l (i+1) h (by simpa using hn)
     refine ⟨j+1,v',by simp [g1];omega,by simpa using g2,?_⟩
     simp [List.modify_succ_cons,hk,hv,g3]
theorem mput_keys (k:Int) (v:Value):∀ l:List (Int × Value),mfind k l≠none→(mput k v l).map (·.1)=l.map (·.1)
 | [],h=>absurd rfl h
 | p::r,h=>by
   simp only [mfind] at h
   simp only [mput]
   cases hb:k==p.1 with
   | true=>simp
   | false=>rw [hb] at h;simp [mput_keys k v r (by simpa using h)]
end Go.W
namespace Go.V
open Go Go.W
def aput (k:Int) (u:AV):List (Int × AV)→List (Int × AV)
 | []=>[(k,u)]
 | p::r=>if k==p.1 then (p.1,u)::r else p::aput k u r
theorem aput_new (k:Int) (u:AV):∀ es:List (Int × AV),afind k es=none→aput k u es=es++[(k,u)]
 | [],_=>rfl
 | p::r,h=>by
   simp only [afind] at h
   simp only [aput]
   cases hb:k==p.1 with
   | true=>rw [hb] at h;simp at h
   | false=>rw [hb] at h;simp [aput_new k u r (by simpa using h)]
theorem afind_aput (k j:Int) (u:AV):∀ es:List (Int × AV),afind j (aput k u es)=if j=k then some u else afind j es
 | []=>by simp [aput,afind]
 | p::r=>by
   simp only [aput]
   cases hb:k==p.1 with
   | true =>
     have hkp:k=p.1:=by simpa using hb
     simp only [if_true,afind,hkp,beq_iff_eq]
     split<;>rfl
   | false =>
     have hkp:k≠p.1:=by simpa using hb
     simp only [Bool.false_eq_true,if_false,afind,afind_aput k j u r,beq_iff_eq]
     by_cases hj:j=p.1
     ·have:j≠k:=fun e=>hkp (by omega)
      simp [hj,Ne.symm hkp]
     ·simp [hj]
theorem aput_get {m w} (k:Int) (v:Value) (u:AV) (hv:Rep m w [] v u∧okV v u):∀ (l:List (Int × Value)) (es:List (Int × AV)),l.map (·.1)=es.map (·.1)→(∀ (j:Nat) p q,l[j]?=some p→es[j]?=some q→Rep m w [] p.2 q.2∧okV p.2 q.2) →
  ∀ (j:Nat) p q,(mput k v l)[j]?=some p→(aput k u es)[j]?=some q→Rep m w [] p.2 q.2∧okV p.2 q.2
 | [],[],_,_,j,p,q,hp,hq=>by
   cases j with
   | zero=>simp [mput,aput] at hp hq;subst hp hq;exact hv
   | succ j=>simp [mput] at hp
 | [],_::_,h,_,_,_,_,_,_=>by simp at h
 | _::_,[],h,_,_,_,_,_,_=>by simp at h
 | p0::l,q0::es,h,hr,j,p,q,hp,hq=>by
   simp only [List.map_cons,List.cons.injEq] at h
   simp only [mput,aput,h.1] at hp hq
   cases hb:k==q0.1 with
   | true =>
     rw [hb] at hp hq
     simp only [if_true] at hp hq
     cases j with
     | zero=>simp at hp hq;subst hp hq;exact hv
     | succ j=>exact hr (j+1) p q (by simpa using hp) (by simpa using hq)
   | false =>
     rw [hb] at hp hq
     simp only [Bool.false_eq_true,if_false] at hp hq
     cases j with
     | zero=>exact hr 0 p q (by simpa using hp) (by simpa using hq)
     | succ j=>exact aput_get k v u hv l es h.2 (fun j a b h1 h2=>hr (j+1) a b (by simpa using h1) (by simpa using h2)) j p q (by simpa using hp) (by simpa using hq)
theorem aput_keys (k:Int) (u:AV):∀ es:List (Int × AV),afind k es≠none→(aput k u es).map (·.1)=es.map (·.1)
 | [],h=>absurd rfl h
 | p::r,h=>by
   simp only [afind] at h
   simp only [aput]
   cases hb:k==p.1 with
   | true=>simp
   | false=>rw [hb] at h;simp [aput_keys k u r (by simpa using h)]
section
variable {C:Cx} {ops:Array Oper} {Q:Qt} {ρ:Ro} {η η2:Eta} {rest:List Oper} {T X E:Nat} {pos:String} {af:Array Edge} {x y z:Operand}
theorem OL.mapUpd {i K:Nat} {es:List (Int × AV)} {k:Int} {u:AV} (kk:OL C ops Q rest ρ η2) (hs:(C.tab X).map (·.sh)=some (.map K E):=by with_unfolding_all exact rfl) (hkt:(C.tab K).map (·.sh)=some (.int .i64):=by with_unfolding_all exact rfl)
  (hx:ev2 ρ x=some (.mp i):=by with_unfolding_all exact rfl) (ho:η[i]?=some (.mo es):=by with_unfolding_all exact rfl) (hy:ev2 ρ y=some (.raw (.int .i64 k)):=by with_unfolding_all exact rfl) (hz:ev2 ρ z=some u:=by with_unfolding_all exact rfl) (hu:(okc u&&pureA u)=true:=by with_unfolding_all exact rfl)
  (hη:η.set i (.mo (aput k u es))=η2:=by (try dsimp only [List.set])<;>exact rfl) :
  OL C ops Q (⟨none,.mapUpdate X x y z,T,pos,af,none⟩::rest) ρ η:=by
 cases hn:afind k es with
 | none=>exact OL.mapNewC kk (.inl rfl) hn hs hkt hx ho hy hz hu (by rw [← hη,aput_new k u es hn])
 | some u0 =>
 rintro a w ⟨m,γ,ρc,hE',hR,hI⟩
 obtain ⟨u1,g1,g2⟩:=hR.ev hx
 obtain ⟨v,g3,g4⟩:=hR.ev hz
 simp only [Bool.and_eq_true] at hu
 have hone:okV v u:=g4.one hu.1
 have hpure:=pureA_rep g4 hu.2
 cases g2 with
 | @mp _ _ b hb =>
 obtain ⟨b',l,e,h0,hM,hkeys,hrep⟩:=hI.heap.ok i _ _ hb ho
 cases e
 obtain ⟨ut,uk⟩:=map_of hs hkt
 haveI:IntTy C.P K .i64:=⟨uk⟩
 obtain ⟨es',clock,hb',hl⟩:=id hM
 have hck:=run_checkInt (P:=C.P) (Y:=K) (w:=w)
 have hlt:b < w.heap.size:=(Array.getElem?_eq_some_iff.1 hb').1
 have hmn:mfind k l≠none:=by
  rcases afind_of k l es hkeys hrep with ⟨_,a2⟩|⟨_,_,a1,_⟩
  ·rw [hn] at a2;cases a2
  ·rw [a1];exact nofun
 have hother:∀ (o:Obj) (j:Nat),j≠b→(w.heap.setIfInBounds b o)[j]?=w.heap[j]?:=fun o j hj=>by rw [Array.getElem?_setIfInBounds_ne (by omega)]
 subst hη
 obtain ⟨j,v',e2,e3,e4⟩:=findNow_put k v es'.toList l 0 hl hmn
 rw [Nat.zero_add] at e2
 obtain ⟨en,he1,he2⟩:∃ en,es'[j]?=some en∧en.key=.int .i64 k:=by
  cases hq:es'[j]? with
  | none=>rw [Array.getElem?_toList,hq] at e3;cases e3
  | some en=>rw [Array.getElem?_toList,hq] at e3;exact ⟨en,rfl,by simpa using e3⟩
 have hsb:Instr.sameBits 10000 (.int .i64 k) (.int .i64 k)=true:=by simp [Instr.sameBits]
 have hT:W.Touch (some b) m w m { w with heap:=w.heap.setIfInBounds b (.map (es'.modify j fun e=>{ e with key:=.int .i64 k,val:=v }) clock) }:=
  ⟨⟨rfl,rfl,rfl,by simp,fun i _ hi=>hother _ i (by simpa using hi)⟩,fun _ _ _=>rfl,⟨by simp,fun _ _=>Nat.le_refl _,fun i j c hj hc=>by
   have hne:i≠b:=fun e=>by subst e;omega
   rw [World.cell?_of_block (w:=w) (hother _ i hne)];exact hc⟩⟩
 refine Cx.lcons (wl_skip (w':={ w with heap:=w.heap.setIfInBounds b (.map (es'.modify j fun e=>{ e with key:=.int .i64 k,val:=v }) clock) }) rfl ?_ (kk _ _ ⟨m,γ,ρc,by simpa [Act.put] using hE',hR.mono hT.ext (.refl _),hI.put (o':=.mo (aput k u es)) hb ho hT ⟨b,mput k v l,rfl,h0,⟨es'.modify j fun e=>{ e with key:=.int .i64 k,val:=v },clock,by simp [hlt],by rw [Array.toList_modify];exact e4⟩,?_,?_⟩ (.inl rfl)⟩))
 ·simp [execOp,hE'.ev g1,hE'.ev (hR.raw hy),hE'.ev g3,Instr.mapUpdate,run_underlying ut,MapKept.run_getObj_map hb',hck,Instr.findKey,run_underlying uk,e2,he1,he2,Instr.keyThatStays,hsb,MapKept.run_setObj_map _ hb']
 ·rw [mput_keys k v l hmn,aput_keys k u es (by rw [hn];exact nofun),hkeys]
 ·exact aput_get k v u ⟨hpure.mono hT.ext (.refl _),hone⟩ l es hkeys (fun j p q h1 h2=>⟨(hrep j p q h1 h2).1.mono hT.ext (.refl _),(hrep j p q h1 h2).2⟩)
end
end Go.V
namespace Go.V
open Go Go.W
section
variable {C:Cx} {ops:Array Oper} {Q:Qt} {ρ:Ro} {η η2:Eta} {rest:List Oper} {T d X:Nat} {pos:String} {af:Array Edge} {x y z:Operand}
theorem OL.clipO {i k E sz:Nat} {nl} {xs:List AV} {n1 n2:Int} (kk:OL C ops Q rest ((d,.hs k)::ρ) η2) (hs:(C.tab X).map (·.sh)=some (.slice E):=by with_unfolding_all exact rfl) (hz:(C.tab E).map (·.size)=some sz:=by with_unfolding_all exact rfl)
  (hx:ev2 ρ x=some (.hs i):=by with_unfolding_all exact rfl) (hy:ev2 ρ y=some (.raw (.int .i64 n1)):=by with_unfolding_all exact rfl) (hw:ev2 ρ z=some (.raw (.int .i64 n2)):=by with_unfolding_all exact rfl) (ho:η[i]?=some (.gs false E sz nl xs):=by with_unfolding_all exact rfl)
  (hk:η.length=k:=by (try dsimp only [List.length])<;>exact rfl) (hη:η.set i .dead++[.gs false E sz none xs]=η2:=by (try dsimp only [List.set,List.cons_append,List.nil_append,List.append_eq])<;>exact rfl)
  (hn1:n1=(xs.length:Nat):=by first|rfl|simp) (hn2:n2=(xs.length:Nat):=by first|rfl|simp) (hd:Nat.blt d C.N=true:=by with_unfolding_all exact rfl) :
  OL C ops Q (⟨some d,.slice X x none (some y) (some z),T,pos,af,none⟩::rest) ρ η:=by
 rintro a w ⟨m,γ,ρc,hE,hR,hI⟩
 obtain ⟨v,g1,g2⟩:=hR.ev hx
 obtain ⟨hg,_⟩:=g2.hs_get
 have g3:=hR.raw hy
 have g4:=hR.raw hw
 obtain ⟨dd,hu,hd'⟩:=shOf C.hT hs
 obtain rfl:dd=_:=hd'
 obtain ⟨inf,i1,i2⟩:=sizeOf' C.hT hz
 have hl:=hI.heap.len
 obtain ⟨⟨m',hown,hm1,hm2⟩,_,hcl⟩:=hI.heap.ok i _ _ hg ho
 subst hk hη hn1 hn2
 rcases hown with ⟨rfl,rfl⟩|⟨b,o,rfl,rfl⟩|⟨g,cap,cur,rfl,h0,hgc,h1,h2,h3,h4,h5⟩
 ·refine Cx.lcons (wl_value (v:=.slice none 0 0) (w':=w) rfl ?_ (kk _ _ ⟨m,γ++[.slice none 0 0],_,hE.put _ (by simpa using hd),⟨rfl,.hs (by rw [← hl];exact get_last),hR.mono (.refl _ _) (.app _ _)⟩,
   hI.over (v':=.slice none 0 0) (o':=.gs false E sz none []) hg ho ((Keep.refl m w).touch _) ⟨⟨m,.inl ⟨rfl,by simp⟩,fun _ _=>rfl,fun b hb=>by simp [ownB] at hb⟩,NL.none _,by simp⟩ (fun b hb=>by simp [blk,ownB] at hb)⟩))
  simp [execOp,hE.ev g1,hE.ev g3,hE.ev g4,Instr.sliceAt,Instr.slice,run_underlying hu,Instr.sliceBounds,Instr.sliceBound,asIntOf,sizeOf,typeInfo,i1]
 ·refine Cx.lcons (wl_value (v:=.slice (some ⟨b,o,none⟩) 0 0) (w':=w) rfl ?_ (kk _ _ ⟨m,γ++[.slice (some ⟨b,o,none⟩) 0 0],_,hE.put _ (by simpa using hd),⟨rfl,.hs (by rw [← hl];exact get_last),hR.mono (.refl _ _) (.app _ _)⟩,
   hI.over (v':=.slice (some ⟨b,o,none⟩) 0 0) (o':=.gs false E sz none []) hg ho ((Keep.refl m w).touch _) ⟨⟨m,.inr (.inl ⟨b,o,rfl,by simp⟩),fun _ _=>rfl,fun b hb=>by simp [ownB] at hb⟩,NL.none _,by simp⟩ (fun b hb=>by simp [blk,ownB] at hb)⟩))
  simp [execOp,hE.ev g1,hE.ev g3,hE.ev g4,Instr.sliceAt,Instr.slice,run_underlying hu,Instr.sliceBounds,Instr.sliceBound,asIntOf,sizeOf,typeInfo,i1]
 ·by_cases hn0:xs=[]
  ·subst hn0
   refine Cx.lcons (wl_value (v:=.slice (some ⟨g,0,none⟩) 0 0) (w':=w) rfl ?_ (kk _ _ ⟨m,γ++[.slice (some ⟨g,0,none⟩) 0 0],_,hE.put _ (by simpa using hd),⟨rfl,.hs (by rw [← hl];exact get_last),hR.mono (.refl _ _) (.app _ _)⟩,
    hI.over (v':=.slice (some ⟨g,0,none⟩) 0 0) (o':=.gs false E sz none []) hg ho ((Keep.refl m w).touch _) ⟨⟨m,.inr (.inl ⟨g,0,rfl,by simp⟩),fun _ _=>rfl,fun b hb=>by simp [ownB] at hb⟩,NL.none _,by simp⟩ (fun b hb=>by simp [blk,ownB] at hb)⟩))
   simp [execOp,hE.ev g1,hE.ev g3,hE.ev g4,Instr.sliceAt,Instr.slice,run_underlying hu,Instr.sliceBounds,Instr.sliceBound,asIntOf,sizeOf,typeInfo,i1]
  ·have hnp:0 < xs.length:=List.length_pos_iff.2 hn0
   have hob:∀ q,0 < q→ownB (.slice (some ⟨g,0,none⟩) xs.length q)=some g:=fun q hq=>by
    obtain ⟨c',rfl⟩:∃ c',q=c'+1:=⟨q-1,by omega⟩
    simp [ownB]
   refine Cx.lcons (wl_value (v:=.slice (some ⟨g,0,none⟩) xs.length xs.length) (w':=w) rfl ?_ (kk _ _ ⟨m,γ++[.slice (some ⟨g,0,none⟩) xs.length xs.length],_,hE.put _ (by simpa using hd),⟨rfl,.hs (by rw [← hl];exact get_last),hR.mono (.refl _ _) (.app _ _)⟩,
    hI.over (v':=.slice (some ⟨g,0,none⟩) xs.length xs.length) (o':=.gs false E sz none xs) hg ho ((Keep.refl m w).touch _) ⟨⟨m',.inr (.inr ⟨g,xs.length,cur,rfl,hnp,hgc,Nat.le_refl _,by omega,Nat.le_trans (Nat.mul_le_mul_right _ h1) h3,h4,h5⟩),fun b hb=>?_,fun b hb=>?_⟩,NL.none _,hcl⟩ (fun b hb=>?_)⟩))
   ·have hc0:¬ cap=0:=by omega
    have hml:maxLen=9223372036854775807:=rfl
    simp [execOp,hE.ev g1,hE.ev g3,hE.ev g4,Instr.sliceAt,Instr.slice,run_underlying hu,Instr.sliceBounds,Instr.sliceBound,asIntOf,sizeOf,typeInfo,i1,h1,Addr_add_lit]
   ·rw [hob _ hnp] at hb
    exact hm1 b (by rw [hob _ h0];exact hb)
   ·rw [hob _ hnp] at hb;cases hb
    exact hm2 g (hob _ h0)
   ·simp only [blk] at hb ⊢
    rw [hob _ hnp] at hb
    rw [hob _ h0]
    exact .inl hb
end
end Go.V
namespace Go.V
open Go Go.W
section
variable {C:Cx} {ops:Array Oper} {Q:Qt} {ρ:Ro} {η:Eta} {rest:List Oper} {T d X Y:Nat} {pos:String} {af:Array Edge} {x y:Operand}
theorem OL.conv8 {k:IntKind} {n:Int} (h1:C.P.underlying X=some (.int k)) (h2:C.P.underlying Y=some (.int .i64)) (h0:-9223372036854775808≤n) (h6:n≤9223372036854775807) (kk:OL C ops Q rest ((d,V.int n)::ρ) η) (hx:ev2 ρ x=some (.raw (.int k n)):=by with_unfolding_all exact rfl) (hd:Nat.blt d C.N=true:=by with_unfolding_all exact rfl):OL C ops Q (⟨some d,.convert X Y x,T,pos,af,none⟩::rest) ρ η:=
 OL.give (fun m w γ ρc a hE hR hH=>⟨_,.raw rfl,fun _ _ _ _ _ _=>by
  have hk:C.P.intKind Y=.i64:=by simp [Program.intKind,h2]
  have:=run_convert_int (P:=C.P) (w:=‹World›) X Y k n (by rw [h1];rfl) (by rw [hk];exact h2)
  rw [hk,i64_wrap h0 h6] at this
  simp [execOp,hE.ev (hR.raw hx),this]⟩) hd kk
theorem OL.rem8 {i j:Int} (h0:0≤i) (h1:0 < j) (kk:OL C ops Q rest ((d,.raw (.int .u8 (i % j)))::ρ) η) (hx:ev2 ρ x=some (.raw (.int .u8 i)):=by with_unfolding_all exact rfl) (hy:ev2 ρ y=some (.raw (.int .u8 j)):=by with_unfolding_all exact rfl) (hd:Nat.blt d C.N=true:=by with_unfolding_all exact rfl):OL C ops Q (⟨some d,.binOp .rem X x y Y,T,pos,af,none⟩::rest) ρ η:=
 OL.give (fun m w γ ρc a hE hR hH=>⟨_,.raw rfl,fun _ _ _ _ _ _=>by simp [execOp,hE.ev (hR.raw hx),hE.ev (hR.raw hy),binOp,eqGuard,Op.intDiv,show j≠0 by omega,Int.tmod_eq_emod_of_nonneg h0]⟩) hd kk
end
end Go.V
