/- Lemmas for the claim; no conditions. -/
import Derived.Test.YtdjhogobbbnddaaGreatC18
import Derived.Test.YtdjhogobbbnddaaGreatC13
import Derived.Test.YtdjhogobbbnddaaGreatC14
import Derived.Test.YtdjhogobbbnddaaGreatC12
namespace Go.V
open Go Go.W Go.RowKit
structure ItX (P:Program) {α:Type} (as:α→List AV) (ok:α→Prop) (pv:Value) (L:List α) where
 l:Nat
 J:List α→(Nat→Nat)→World→Prop
 Jp:(Nat→Nat)→World→Prop
 m:Nat→Nat
 W:World
 sJ:Ydt W.heap.size J
 sJp:Ydt W.heap.size (fun (_:Unit)=>Jp)
 hok:∀ pre m W,J pre m W→∀ x∈pre,ok x
 hy:∀ pre x m1 W1 vs,J pre m1 W1→(∃ r,pre++x::r=L)→VL m1 W1 [] vs (as x)→YrL P l vs m1 W1 (J (pre++[x])) Jp pv
section
variable {P:Program} {α:Type} {as:α→List AV} {ok:α→Prop} {pv:Value} {L:List α}
structure AtX (I:ItX P as ok pv L) (m0:Nat→Nat) (W0:World) (K:(Nat→Nat)→World→Prop) (B:Base):Prop where
 le:Ext I.m I.W m0 W0
 ext:Ext m0 W0 B.m B.w
 noS:B.S=[]
 noγ:B.γ=[]
 stays:∀ m w m' w',K m w→Yam I.W.heap.size m w m' w'→K m' w'
 holds:K B.m B.w
theorem AtX.keep {I:ItX P as ok pv L} {m0 W0 K B m w} (h:AtX I m0 W0 K B) (hk:Keep B.m B.w m w):AtX I m0 W0 K ⟨m,w,[],[]⟩:=
 ⟨h.le,h.ext.trans hk.ext,rfl,rfl,h.stays,h.stays _ _ _ _ h.holds (.keep hk)⟩
def Yub (I:ItX P as ok pv L) (m0:Nat→Nat) (W0:World) (post:List α) (r:Value):Ending→World→Prop:=fun e W' =>
 ∃ m',Ext m0 W0 m' W'∧((e=.returned r∧I.J post m' W')∨(e=.panicked (pan pv)∧I.Jp m' W'))
def Yrs (I:ItX P as ok pv L) (f:Nat) (us:List AV) (pre post:List α) (r:Value):Prop:=
 ∀ m w vs,Ext I.m I.W m w→I.J pre m w→VL m w [] vs us→Calls P f vs.toArray w (Yub I m w post r)
end
section
variable {C:Cx} {ops:Array Oper} {Q:Qt} {ρ ρ':Ro} {η η':Eta} {rest:List Oper} {T d:Nat} {pos:String} {af:Array Edge} {x:Operand} {args:List Operand} {at_:Array TypeId}
variable {P:Program} {α:Type} {as:α→List AV} {ok:α→Prop} {pv:Value} {L:List α}
theorem ZcR {I:ItX P as ok pv L} {m0 W0} {pre:List α} {y:α} {us:List AV} {r:Option Nat} (hA:AtX I m0 W0 (I.J pre) C.B) (hpre:∃ r,pre++y::r=L)
  (k1:∀ B (hB:B.γ.length=C.n),AtX I m0 W0 (I.J (pre++[y])) B→OL (C.at B hB) ops Q rest ((d,V.bool true)::ρ) η)
  (kp:∀ B (hB:B.γ.length=C.n),AtX I m0 W0 I.Jp B→TX (C.at B hB) Q (.panic (pan pv)) ρ η)
  (hP:C.P=P:=by with_unfolding_all exact rfl) (hn:C.n=0:=by with_unfolding_all exact rfl) (hr:C.r=some r:=by with_unfolding_all exact rfl) (hk:C.k=0:=by with_unfolding_all exact rfl)
  (hx:ev2 ρ x=some (.raw (.func (.yield I.l) #[] #[])):=by with_unfolding_all exact rfl) (hl:Yc6 ρ args=some us:=by with_unfolding_all exact rfl)
  (hle:LEs (ts []) us (as y):=by repeat' (first|with_unfolding_all exact trivial|exact LE.ren (by with_unfolding_all exact rfl)|with_unfolding_all exact LE.sl|with_unfolding_all exact LE.nil (by decide)|with_unfolding_all refine And.intro ?_ ?_))
  (hd:Nat.blt d C.N=true:=by with_unfolding_all exact rfl) (hη:η.all YkZ=true:=by with_unfolding_all exact rfl) :
  OL C ops Q (⟨some d,.call ⟨.value x,args.toArray,at_⟩,T,pos,af,none⟩::rest) ρ η:=by
 rintro a w ⟨m,γ,ρc,hE,hR,hI⟩;subst hP;have hK:=hI.keep0 hA.noS;have hA':=hA.keep hK;obtain ⟨vs,h1,h2⟩:=hR.evs hl;have hvl:VL m w [] vs (as y):=hle.vl (γ':=[]) (fun i j h=>by cases h) h2;have hY:=I.hy pre y m w vs hA'.holds hpre hvl;have hB0:([]:List Value).length=C.n:=by rw [hn];rfl
 obtain ⟨fn',tmps,assign,body,q1,q2⟩:=hY;rw [Cx.L_some hr,hk];unfold wpListIn;rw [if_pos (by simp [Region.wanted])];refine ⟨fun f _=>trivial,?_⟩;rw [Oper.semAt_plain _ _ _ (by simp)];have hrun:(execOp a.eval ⟨some d,.call ⟨.value x,args.toArray,at_⟩,T,pos,af,none⟩).run C.P w=.ok (.round I.l fn' tmps assign body) w:=by
  simp [execOp,resolve,hE.ev (hR.raw hx),Deferred.ofValue,invoke,hE.evs h1,q1]
 rw [hrun,Oper.uponIn_round];refine ⟨fun h=>(by cases h),RoundIn.mono (show RoundIn (WF r) 0 C.P I.l fn' tmps assign body w _ from q2) fun e w'' ⟨m',he,hc⟩=>?_⟩;rcases hc with ⟨rfl,hj⟩|⟨rfl,hj⟩
 ·have:=k1 ⟨m',w'',[],[]⟩ hB0 ⟨hA'.le,hA'.ext.trans he,rfl,rfl,fun m w m' w'=>I.sJ _ m w m' w',hj⟩ _ w'' ⟨m',γ,_,hE.put _ (by simpa using hd),⟨rfl,.raw rfl,hR.mono he (.refl _)⟩,hI.deadB hη⟩
  rwa [Cx.L_some (C:=C.at ⟨m',w'',[],[]⟩ hB0) hr,show (C.at ⟨m',w'',[],[]⟩ hB0).k=0 from hk] at this
 ·exact kp ⟨m',w'',[],[]⟩ hB0 ⟨hA'.le,hA'.ext.trans he,rfl,rfl,fun m w m' w'=>I.sJp () m w m' w',hj⟩ a w'' ⟨m',γ,ρc,hE,hR.mono he (.refl _),hI.deadB hη⟩
theorem Zb7 {I:ItX P as ok pv L} {m0 W0} {pre post:List α} {f:Nat} {fn:Func} {us vs' first caps:List AV} {r:Option Nat} {rv:Value} (hA:AtX I m0 W0 (I.J pre) C.B) (hV:Yrs I f vs' pre post rv) (hf:P.funcs[f]?=some fn) (hrv:rv.oneCell'=true)
  (k1:∀ B (hB:B.γ.length=C.n),AtX I m0 W0 (I.J post) B→OL (C.at B hB) ops Q rest ((d,.raw rv)::ρ) η)
  (kp:∀ B (hB:B.γ.length=C.n),AtX I m0 W0 I.Jp B→TX (C.at B hB) Q (.panic (pan pv)) ρ η)
  (hP:C.P=P:=by with_unfolding_all exact rfl) (hn:C.n=0:=by with_unfolding_all exact rfl) (hr:C.r=some r:=by with_unfolding_all exact rfl) (hk:C.k=0:=by with_unfolding_all exact rfl)
  (hx : ev2 ρ x = some (.fn (.func f) first caps) := by with_unfolding_all exact rfl) (hb : (fn.body.isNone || fn.name == "runtime.NumGoroutine") = false := by with_unfolding_all exact rfl) (hl : Yc6 ρ args = some us := by with_unfolding_all exact rfl)
  (hle:LEs (ts []) (first++us++caps) vs':=by repeat' (first|with_unfolding_all exact trivial|exact LE.ren (by with_unfolding_all exact rfl)|with_unfolding_all exact LE.sl|with_unfolding_all exact LE.nil (by decide)|with_unfolding_all refine And.intro ?_ ?_))
  (hd:Nat.blt d C.N=true:=by with_unfolding_all exact rfl) (hη:η.all YkZ=true:=by with_unfolding_all exact rfl) :
  OL C ops Q (⟨some d,.call ⟨.value x,args.toArray,at_⟩,T,pos,af,none⟩::rest) ρ η:=by
 rintro a w ⟨m,γ,ρc,hE,hR,hI⟩;subst hP;have hK:=hI.keep0 hA.noS;have hA':=hA.keep hK;obtain ⟨vs,h1,h2⟩:=hR.evs hl;obtain ⟨fv,g1,g2⟩:=hR.ev hx
 cases g2 with
 | @fn _ _ v1 v2 _ _ l1 l2 q1 q2 =>
 have hvl:VL m w [] (v1++vs++v2) vs':=hle.vl (γ':=[]) (fun i j h=>by cases h) ((VL.app (VL.of l1 q1) h2).app (VL.of l2 q2));have hc:=hV m w _ (hA'.le.trans hA'.ext) hA'.holds hvl;have hB0:([]:List Value).length=C.n:=by rw [hn];rfl
 simp at hb;have hb':fn.body≠none:=Option.isSome_iff_ne_none.1 hb.1;rw [Cx.L_some hr,hk];unfold wpListIn;rw [if_pos (by simp [Region.wanted])];refine ⟨fun f _=>trivial,?_⟩;rw [Oper.semAt_plain _ _ _ (by simp)];have hrun:(execOp a.eval ⟨some d,.call ⟨.value x,args.toArray,at_⟩,T,pos,af,none⟩).run C.P w=.ok (.enter f (v1++vs++v2).toArray) w:=by
  simp [execOp,resolve,hE.ev g1,Deferred.ofValue,invoke,callFunc,hf,hb.2,hb',hE.evs h1]
 rw [hrun,Oper.uponIn_enter];refine ⟨fun hd=>(by cases hd),CallsIn.mono (show CallsIn (WF r) 0 C.P f (v1++vs++v2).toArray w _ from (callsIn_wide (n:=0)).2 hc) (fun e w'' ⟨m',he,hq⟩=>?_)⟩;rcases hq with ⟨rfl,hj⟩|⟨rfl,hj⟩
 ·have:=k1 ⟨m',w'',[],[]⟩ hB0 ⟨hA'.le,hA'.ext.trans he,rfl,rfl,fun m w m' w'=>I.sJ _ m w m' w',hj⟩ _ w'' ⟨m',γ,_,hE.put _ (by simpa using hd),⟨rfl,.raw hrv,hR.mono he (.refl _)⟩,hI.deadB hη⟩
  rwa [Cx.L_some (C:=C.at ⟨m',w'',[],[]⟩ hB0) hr,show (C.at ⟨m',w'',[],[]⟩ hB0).k=0 from hk] at this
 ·exact kp ⟨m',w'',[],[]⟩ hB0 ⟨hA'.le,hA'.ext.trans he,rfl,rfl,fun m w m' w'=>I.sJp () m w m' w',hj⟩ a w'' ⟨m',γ,ρc,hE,hR.mono he (.refl _),hI.deadB hη⟩
/-! ## Its ends -/
theorem Zdz {I:ItX P as ok pv L} {m0 W0} {post:List α} {fn:Func} {t k:Nat} {u:AV} {rv:Value} (hA:AtX I m0 W0 (I.J post) C.B) (hu:u=.raw rv) (hD:C.D=[]:=by with_unfolding_all exact rfl) (hres:fn.results=#[.tmp t]:=by with_unfolding_all exact rfl) (hx:lk ρ t=some u:=by with_unfolding_all exact rfl) :
  TX C (bodyPostM Fence.wide k P fn (Yub I m0 W0 post rv)) .ret ρ η:=by
 rintro a w ⟨m,γ,ρc,hE,hR,hI⟩;subst hu;have hA':=hA.keep (hI.keep0 hA.noS);obtain ⟨v,h1,h2⟩:=hR.look hx
 cases h2 with
 | raw h =>
 show LeavesInM Fence.wide k P fn a.tmps _ a.defers .returning w;rw [hE.defers,hD];exact ⟨_,by rw [results_tmp hres a.tmps P _,hE.get h1],m,hA'.ext,.inl ⟨rfl,hA'.holds⟩⟩
theorem ZdA {I:ItX P as ok pv L} {m0 W0} {post:List α} {fn:Func} {k:Nat} (hA:AtX I m0 W0 (I.J post) C.B) (hD:C.D=[]:=by with_unfolding_all exact rfl) (hres:fn.results=#[]:=by with_unfolding_all exact rfl) :
  TX C (bodyPostM Fence.wide k P fn (Yub I m0 W0 post (.tuple #[]))) .ret ρ η:=by
 rintro a w ⟨m,γ,ρc,hE,hR,hI⟩;have hA':=hA.keep (hI.keep0 hA.noS);show LeavesInM Fence.wide k P fn a.tmps _ a.defers .returning w;rw [hE.defers,hD];exact ⟨_,results_none hres _ P _,m,hA'.ext,.inl ⟨rfl,hA'.holds⟩⟩
theorem ZbS {I:ItX P as ok pv L} {m0 W0} {post:List α} {fn:Func} {k:Nat} {rv:Value} (hA:AtX I m0 W0 I.Jp C.B) (hD:C.D=[]:=by with_unfolding_all exact rfl) :
  TX C (bodyPostM Fence.wide k P fn (Yub I m0 W0 post rv)) (.panic (pan pv)) ρ η:=by
 rintro a w ⟨m,γ,ρc,hE,hR,hI⟩;have hA':=hA.keep (hI.keep0 hA.noS);show LeavesInM Fence.wide k P fn a.tmps _ a.defers (.panicking (pan pv)) w;rw [hE.defers,hD];exact ⟨m,hA'.ext,.inr ⟨rfl,hA'.holds⟩⟩
/-! ## Contracts out of bodies -/
theorem Yrs.enter {I:ItX P as ok pv L} {f:Nat} {fn:Func} {c:Code} {us:List AV} {pre post:List α} {rv:Value} {tab:Tab} {N:Nat} (hT:YaX P tab) (hm:P.follows .mixedOrders=true) (hf:P.funcs[f]?=some fn) (hb:fn.body=some c) (hN:fn.ntmps=N) (ha:Nat.ble us.length N=true)
  (h:∀ (m0:Nat→Nat) (W0:World) (B:Base) (hB:B.γ.length=0),AtX I m0 W0 (I.J pre) B→TC ⟨P,tab,hT,hm,N,[],B,0,hB,some none,0⟩ (bodyPostM Fence.wide 0 P fn (Yub I m0 W0 post rv)) c (Ym3 0 us) []):Yrs I f us pre post rv:=by
 intro m w vs he hJ hv;have hl:=hv.len;refine Go.W.enterM (N:=N) 0 (Go.W.zipA 0 vs) hf hb hN (by simp) (by simp at ha;simp;omega) fun a hE=>?_;have hb':=h m w ⟨m,w,[],[]⟩ rfl ⟨he,.refl _ _,rfl,rfl,fun m w m' w'=>I.sJ _ m w m' w',hJ⟩ a w
  ⟨m,[],_,hE,hv.zip 0,⟨rfl,by simp,by simp⟩,.refl _ _ _,fun i v o b h=>by simp at h,.refl _⟩
 rw [Cx.W_some rfl] at hb';exact wpIn_wide.1 hb'
theorem YqS.of {f:Nat} {caps:List AV} {m0:Nat→Nat} {w0:World} {vs:List Value} (hv:VL m0 w0 [] vs caps)
  (h:∀ (I:ItX P as ok pv L),Yrs I f (.raw (.func (.yield I.l) #[] #[])::caps) [] L (.tuple #[])):YqS P f vs.toArray as ok pv L m0 w0:=by
 intro l J Jp m W he sJ sJp hok hy hJ;have:=h ⟨l,J,Jp,m,W,sJ,sJp,hok,hy⟩ m W (.func (.yield l) #[] #[]::vs) (.refl _ _) hJ ⟨.raw rfl,hv.mono he (.refl _)⟩
 have ez:(#[Value.func (.yield l) #[] #[]]++vs.toArray:Array Value)=(Value.func (.yield l) #[] #[]::vs).toArray:=by simp
 rw [ez];refine this.mono fun e W' ⟨m',h1,h2⟩=>⟨m',h1,?_⟩
 rcases h2 with ⟨rfl,h⟩|h
 ·exact .inl ⟨_,rfl,h⟩
 ·exact .inr h
end
end Go.V
namespace Go.W
def Yb3 {α:Type} (p:α→Bool):Nat→List α→Int
 | _,[]=>-1
 | k,x::r=>if p x then (k:Int) else Yb3 p (k+1) r
theorem Ya7 {α:Type} (p:α→Bool):∀ (l:List α) (k:Nat),0≤Yb3 p k l↔l.any p=true
 | [],k=>by simp [Yb3]
 | x::r,k=>by
   by_cases h:p x=true
   ·simp [Yb3,h]
   ·simp [Yb3,h,Ya7 p r (k+1)]
theorem Ydj {α:Type} (p:α→Bool):∀ (l:List α) (k:Nat),Yb3 p k l=-1∨((k:Int)≤Yb3 p k l∧Yb3 p k l < k+l.length)
 | [],k=>by simp [Yb3]
 | x::r,k=>by
   by_cases h:p x=true
   ·right;simp [Yb3,h];omega
   ·rcases Ydj p r (k+1) with e|⟨e1,e2⟩
    ·left;simp [Yb3,h,e]
    ·right;simp [Yb3,h];omega
theorem Yac {α:Type} {l:List α} {k:Nat} (h:k < l.length):l.drop k=l[k]::l.drop (k+1):=List.drop_eq_getElem_cons h
theorem Yat {α:Type} {l:List α} {k:Nat} (h:l.length≤k):l.drop k=[]:=List.drop_of_length_le h
theorem Yab {α:Type} {l:List α} {k:Nat} (h:k < l.length):l.take (k+1)=l.take k++[l[k]]:=List.take_succ_eq_append_getElem h
theorem Yaf {α:Type} {l:List α} {k:Nat} (h:l.length≤k):l.take k=l:=List.take_of_length_le h
theorem Yfd {α:Type} {l:List α} {k:Nat} {p:α→Bool} (h:k < l.length) (hp:p l[k]=true):(l.take (k+1)).filter p=(l.take k).filter p++[l[k]]:=by
 rw [Yab h,List.filter_append,List.filter_cons,if_pos hp,List.filter_nil]
theorem Yfh {α:Type} {l:List α} {k:Nat} {p:α→Bool} (h:k < l.length) (hp:p l[k]=false):(l.take (k+1)).filter p=(l.take k).filter p:=by
 rw [Yab h,List.filter_append,List.filter_cons,if_neg (by simp [hp]),List.filter_nil,List.append_nil]
theorem Yai {α:Type} {l:List α} {k:Nat} {d:α} (h:k < l.length):l.getD k d=l[k]:=by
 rw [List.getD_eq_getElem?_getD,List.getElem?_eq_getElem h];rfl
theorem YgI (l:List Int) (n:Int):(l.any fun x=>n==x)=l.contains n:=by
 rw [Bool.eq_iff_iff];simp [List.any_eq_true]
/-! ### Formed graphs -/
def okRow (i:Nat):List Int→List Int→Bool
 | _,[]=>true
 | pre,c::r=>(decide (3≤c)&&decide (c < 3+i)&&!pre.contains c)&&okRow i (pre++[c]) r
def Yb6:Nat→List (List Int)→Bool
 | _,[]=>true
 | i,l::r=>(decide (l.length≤3)&&okRow i [] l)&&Yb6 (i+1) r
def fine (g:List (List Int)):Bool:=decide (g.length≤16)&&Yb6 0 g
def without (l:List Int) (n:Int):List Int:=l.filter fun c=>c != n
def YaY (all:List (List Int)):Nat:=(all.map List.length).sum
def free (all:List (List Int)) (c:Int):Bool:=all.all fun m=>!(m.drop 1).contains c
def YcQ (all:List (List Int)):Bool:=all.any fun l=>!l.isEmpty
def YaG (all:List (List Int)):List (List Int)→Option Int
 | []=>none
 | []::r=>YaG all r
 | (h::_)::r=>if free all h then some h else YaG all r
def YaT:Nat→List (List Int)→List Int→List Int × Bool
 | 0,all,out=>(out,!YcQ all)
 | n+1,all,out=>match YaG all all with
   | none=>(out,!YcQ all)
   | some h=>YaT n (all.map (without · h)) (out++[h])
def merge (all:List (List Int)):List Int × Bool:=YaT (YaY all) all []
theorem YcH (l:List Int) (all:List (List Int)):YaY (l::all)=l.length+YaY all:=by simp [YaY]
theorem Yc5 (l:List Int) (n:Int):(without l n).length≤l.length:=List.length_filter_le _ _
theorem YgD (all:List (List Int)) (h:Int):YaY (all.map (without · h))≤YaY all:=by
 induction all with
 | nil=>simp [YaY]
 | cons l r ih =>
   have:=Yc5 l h
   simp only [List.map_cons,YcH];omega
theorem Ybx (all:List (List Int)):∀ (r:List (List Int)) (h:Int),YaG all r=some h→∃ t,(h::t)∈r∧free all h=true:=by
 intro r;induction r with
 | nil=>intro h e;simp [YaG] at e
 | cons l r ih =>
   intro h e
   cases l with
   | nil =>
     obtain ⟨t,h1,h2⟩:=ih h (by simpa [YaG] using e);exact ⟨t,by simp [h1],h2⟩
   | cons x t =>
     simp only [YaG] at e;split at e
     ·rename_i hf
      cases e
      exact ⟨t,by simp,hf⟩
     ·obtain ⟨t',h1,h2⟩:=ih h e;exact ⟨t',by simp [h1],h2⟩
theorem YaN:∀ (all:List (List Int)) (h:Int) (t:List Int),(h::t)∈all→YaY (all.map (without · h)) < YaY all:=by
 intro all;induction all with
 | nil=>intro h t hm;cases hm
 | cons l r ih =>
   intro h t hm;simp only [List.map_cons,YcH];rcases List.mem_cons.1 hm with e|hm
   ·subst e;have h1:(without (h::t) h).length≤t.length:=by
     simp only [without,List.filter_cons,bne_self_eq_false,Bool.false_eq_true,if_false];exact List.length_filter_le _ _
    have h2:=YgD r h;simp only [List.length_cons];omega
   ·have h1:=ih h t hm;have h2:=Yc5 l h;omega
theorem YcB (all:List (List Int)):∀ r:List (List Int),YaY r=0→YaG all r=none:=by
 intro r;induction r with
 | nil=>intro _;rfl
 | cons l r ih =>
   intro h;rw [YcH] at h
   cases l with
   | nil=>simpa [YaG] using ih (by omega)
   | cons _ _=>simp at h
theorem Ypn:∀ (n m:Nat) (all:List (List Int)) (out:List Int),YaY all≤n→YaY all≤m→YaT n all out=YaT m all out:=by
 have zero:∀ (m:Nat) (all:List (List Int)) (out:List Int),YaY all=0→YaT m all out=(out,!YcQ all):=by
  intro m all out h
  cases m with
  | zero=>rfl
  | succ m=>simp [YaT,YcB all all h]
 intro n;induction n with
 | zero=>intro m all out h _;rw [zero 0 all out (by omega),zero m all out (by omega)]
 | succ n ih =>
   intro m all out h1 h2
   cases m with
   | zero=>rw [zero 0 all out (by omega),zero (n+1) all out (by omega)]
   | succ m =>
     simp only [YaT]
     cases hn:YaG all all with
     | none=>rfl
     | some x =>
       obtain ⟨t,hm,_⟩:=Ybx all all x hn;have:=YaN all x t hm
       exact ih m _ _ (by omega) (by omega)
theorem YfO {all r:List (List Int)}:YaG all ([]::r)=YaG all r:=rfl
theorem Yns {all r:List (List Int)} {h:Int} {t:List Int} (hf:free all h=true):YaG all ((h::t)::r)=some h:=by simp [YaG,hf]
theorem Ynv {all r:List (List Int)} {h:Int} {t:List Int} (hf:free all h=false):YaG all ((h::t)::r)=YaG all r:=by simp [YaG,hf]
theorem Ygh {all r:List (List Int)} {l:List Int} (h0:0 < l.length) (hf:free all l[0]=true):YaG all (l::r)=some l[0]:=by
 cases l with
 | nil=>simp at h0
 | cons x t=>exact Yns hf
theorem Ygm {all r:List (List Int)} {l:List Int} (h0:0 < l.length) (hf:free all l[0]=false):YaG all (l::r)=YaG all r:=by
 cases l with
 | nil=>simp at h0
 | cons x t=>exact Ynv hf
theorem Yd9 (all:List (List Int)) (l:List Int):YcQ (all++[l])=(YcQ all || !l.isEmpty):=by simp [YcQ]
theorem Ynq {all:List (List Int)} {l:List Int} (h:l∈all):l.length≤YaY all:=by
 induction all with
 | nil=>cases h
 | cons x r ih =>
   rw [YcH];rcases List.mem_cons.1 h with rfl|h
   ·omega
   ·have:=ih h;omega
theorem YiE {all:List (List Int)} {out:List Int} {h:Int} (hn:YaG all all=some h) :
  YaT (YaY all) all out=YaT (YaY (all.map (without · h))) (all.map (without · h)) (out++[h]):=by
 obtain ⟨t,hm,_⟩:=Ybx all all h hn;have:=YaN all h t hm
 obtain ⟨k,hk⟩:∃ k,YaY all=k+1:=⟨YaY all-1,by omega⟩;rw [hk];simp only [YaT,hn];exact Ypn _ _ _ _ (by omega) (Nat.le_refl _)
theorem YiV {all:List (List Int)} {out:List Int} (hn:YaG all all=none):YaT (YaY all) all out=(out,!YcQ all):=by
 cases YaY all with
 | zero=>rfl
 | succ k=>simp [YaT,hn]
/-! ### Nothing stands twice in a merge, and nothing but what stood in the lists -/
theorem YaI {l:List Int} {n x:Int}:x∈without l n↔x∈l∧x≠n:=by simp [without,List.mem_filter]
theorem YlD:∀ (n:Nat) (all:List (List Int)) (out:List Int),out.Nodup→(∀ x∈out,∀ m∈all,x ∉ m)→(YaT n all out).1.Nodup:=by
 intro n;induction n with
 | zero=>intro all out h _;exact h
 | succ n ih =>
   intro all out h1 h2;simp only [YaT]
   cases hn:YaG all all with
   | none=>exact h1
   | some x =>
     obtain ⟨t,hm,_⟩:=Ybx all all x hn;refine ih _ _ ?_ ?_
     ·rw [List.nodup_append];refine ⟨h1,by simp,fun a ha b hb e=>?_⟩;simp at hb;subst hb e;exact h2 _ ha _ hm (by simp)
     ·intro y hy m hm';obtain ⟨m0,hm0,rfl⟩:=List.mem_map.1 hm';rw [YaI];rintro ⟨h3,h4⟩;rcases List.mem_append.1 hy with h5|h5
      ·exact h2 y h5 m0 hm0 h3
      ·simp at h5;exact h4 h5
theorem Yn6:∀ (n:Nat) (all:List (List Int)) (out:List Int) (x:Int),x∈(YaT n all out).1→x∈out∨∃ m∈all,x∈m:=by
 intro n;induction n with
 | zero=>intro all out x h;exact .inl h
 | succ n ih =>
   intro all out x h;simp only [YaT] at h
   cases hn:YaG all all with
   | none=>rw [hn] at h;exact .inl h
   | some y =>
     rw [hn] at h;obtain ⟨t,hm,_⟩:=Ybx all all y hn;rcases ih _ _ x h with h1|⟨m,hm1,hx⟩
     ·rcases List.mem_append.1 h1 with h2|h2
      ·exact .inl h2
      ·simp at h2;subst h2;exact .inr ⟨_,hm,by simp⟩
     ·obtain ⟨m0,hm0,rfl⟩:=List.mem_map.1 hm1;exact .inr ⟨m0,hm0,(YaI.1 hx).1⟩
theorem Yl6 (all:List (List Int)):(merge all).1.Nodup:=YlD _ _ _ (by simp) (by simp)
theorem Yp8 {all:List (List Int)} {x:Int} (h:x∈(merge all).1):∃ m∈all,x∈m:=(Yn6 _ _ _ x h).resolve_left (by simp)
theorem Ygu:∀ (N:Nat) (l:List Int),l.Nodup→(∀ x∈l,0≤x∧x < N)→l.length≤N:=by
 intro N;induction N with
 | zero =>
   intro l _ h
   cases l with
   | nil=>simp
   | cons x r=>have:=h x (by simp);omega
 | succ N ih =>
   intro l hn h;have h1:=ih (l.erase (N:Int)) (hn.erase _) (fun x hx=>by
    have h2:=h x (List.mem_of_mem_erase hx);have h3:x≠(N:Int):=fun e=>by subst e;exact (List.Nodup.not_mem_erase hn) hx
    omega)
   by_cases hm:(N:Int)∈l
   ·rw [List.length_erase_of_mem hm] at h1;omega
   ·rw [List.erase_of_not_mem hm] at h1;omega
/-! ### Linear orders -/
def bare (l:List Int):List Int:=without l 0
def at_ (orders:List (List Int)) (p:Int):List Int:=orders.getD p.toNat []
def listsOf (orders:List (List Int)) (ps:List Int):Option (List (List Int)):=
 if ps.all (fun p=>!(at_ orders p).isEmpty) then some (ps.map (fun p=>bare (at_ orders p))++[ps]) else none
def orderOf (orders:List (List Int)) (ps:List Int) (c:Int):List Int:=
 match listsOf orders ps with
 | none=>[]
 | some all=>if (merge all).2 then c::((merge all).1++[0]) else []
def Ybo:List (List Int)→List (List Int)→List (List Int)
 | acc,[]=>acc
 | acc,ps::r=>Ybo (acc++[orderOf acc ps acc.length]) r
def parentsOf (g:List (List Int)):List (List Int):=[[],[],[]]++g
def orders (g:List (List Int)):List (List Int):=Ybo [[0]] ([[],[]]++g)
def YcI (acc:List (List Int)):Prop:=∀ (c:Nat) o,acc[c]?=some o→o.Nodup∧∀ x∈o,0≤x∧x≤(c:Int)
theorem YcI.len {acc} (h:YcI acc) {c:Nat} {o} (ho:acc[c]?=some o):o.length≤c+1:=by
 obtain ⟨h1,h2⟩:=h c o ho;exact Ygu (c+1) o h1 (fun x hx=>by have:=h2 x hx;omega)
theorem YcI.at {acc} (h:YcI acc) (p:Int):(at_ acc p).Nodup∧∀ x∈at_ acc p,0≤x∧x≤p.toNat:=by
 unfold at_;rw [List.getD_eq_getElem?_getD]
 cases hq:acc[p.toNat]? with
 | none=>simp
 | some o=>simpa using h _ _ hq
theorem YfL {acc:List (List Int)} {ps:List Int} (h:YcI acc) (hps:∀ p∈ps,3≤p∧p < acc.length) (hpos:0 < acc.length) :
  (orderOf acc ps acc.length).Nodup∧∀ x∈orderOf acc ps acc.length,0≤x∧x≤(acc.length:Int):=by
 unfold orderOf
 cases hl:listsOf acc ps with
 | none=>simp
 | some all =>
   simp only [];split
   ·unfold listsOf at hl;split at hl
    ·cases hl
     have hm:∀ x∈(merge (ps.map (fun p=>bare (at_ acc p))++[ps])).1,1≤x∧x < acc.length:=by
      intro x hx;obtain ⟨m,hm,hxm⟩:=Yp8 hx;rcases List.mem_append.1 hm with h1|h1
      ·obtain ⟨p,hp,rfl⟩:=List.mem_map.1 h1;obtain ⟨h2,h3⟩:=YaI.1 hxm;have h4:=(h.at p).2 x h2;have h5:=hps p hp;omega
      ·simp at h1;subst h1;have:=hps x hxm
       omega
     refine ⟨?_,?_⟩
     ·rw [List.nodup_cons];refine ⟨fun hc=>?_,?_⟩
      ·rcases List.mem_append.1 hc with h1|h1
       ·have:=hm _ h1;omega
       ·have h1:(acc.length:Int)=0:=by simpa using h1
        omega
      ·rw [List.nodup_append];refine ⟨Yl6 _,by simp,fun a ha b hb e=>?_⟩;have h6:=hm _ ha;simp at hb;omega
     ·intro x hx;rcases List.mem_cons.1 hx with rfl|hx
      ·omega
      ·rcases List.mem_append.1 hx with h1|h1
       ·have:=hm _ h1;omega
       ·have h1:x=0:=by simpa using h1
        omega
    ·cases hl
   ·simp
theorem YcI.snoc {acc:List (List Int)} {o:List Int} (h:YcI acc) (ho:o.Nodup∧∀ x∈o,0≤x∧x≤(acc.length:Int)):YcI (acc++[o]):=by
 intro c o' hc;rcases Nat.lt_or_ge c acc.length with h1|h1
 ·rw [List.getElem?_append_left h1] at hc;exact h c o' hc
 ·rw [List.getElem?_append_right h1] at hc;have:c-acc.length=0:=by
   have:=(List.getElem?_eq_some_iff.1 hc).1
   simp at this;omega
  rw [this] at hc;simp at hc;subst hc;rw [show c=acc.length by omega];exact ho
theorem YcI.start:YcI [[0]]:=by
 intro c o hc;have:c=0:=by
  have:=(List.getElem?_eq_some_iff.1 hc).1
  simp at this;omega
 subst this;simp at hc;subst hc;simp
/-! ### Formed graphs -/
theorem Yod (i:Nat):∀ (l pre:List Int),okRow i pre l=true→(∀ p∈l,3≤p∧p < 3+i)∧l.Nodup∧∀ p∈l,p ∉ pre:=by
 intro l;induction l with
 | nil=>intro pre _;simp
 | cons c r ih =>
   intro pre h;simp only [okRow,Bool.and_eq_true,decide_eq_true_eq,Bool.not_eq_true'] at h;obtain ⟨⟨⟨h1,h2⟩,h3⟩,h4⟩:=h;obtain ⟨a1,a2,a3⟩:=ih _ h4;have h3':c ∉ pre:=by simpa using h3
   refine ⟨fun p hp=>?_,?_,fun p hp=>?_⟩
   ·rcases List.mem_cons.1 hp with rfl|hp
    ·exact ⟨h1,h2⟩
    ·exact a1 p hp
   ·rw [List.nodup_cons];exact ⟨fun hc=>a3 c hc (by simp),a2⟩
   ·rcases List.mem_cons.1 hp with rfl|hp
    ·exact h3'
    ·exact fun hc=>a3 p hp (by simp [hc])
theorem YmC:∀ (g:List (List Int)) (i:Nat),Yb6 i g=true→∀ (k:Nat) l,g[k]?=some l→l.length≤3∧okRow (i+k) [] l=true:=by
 intro g;induction g with
 | nil=>intro i _ k l h;simp at h
 | cons x r ih =>
   intro i h k l hk;simp only [Yb6,Bool.and_eq_true,decide_eq_true_eq] at h
   cases k with
   | zero=>simp at hk;subst hk;exact ⟨h.1.1,by simpa using h.1.2⟩
   | succ k =>
     have:=ih (i+1) h.2 k l (by simpa using hk)
     rwa [show i+1+k=i+(k+1) by omega] at this
def pOf (g:List (List Int)) (c:Int):List Int:=if c < 3 then [] else g.getD (c-3).toNat []
theorem Ypp {g:List (List Int)} {c:Int} (h:c < 3):pOf g c=[]:=by simp [pOf,h]
theorem Yk0 {g:List (List Int)} {c:Int} (h:3≤c):pOf g c=g.getD (c-3).toNat []:=by rw [pOf,if_neg (by omega)]
theorem YaP {g:List (List Int)} (h:fine g=true):g.length≤16:=by
 simp only [fine,Bool.and_eq_true,decide_eq_true_eq] at h;exact h.1
theorem YaK {g:List (List Int)} (h:fine g=true) {c:Int} (hc:c < 3+(g.length:Int)):(pOf g c).length≤3∧(∀ p∈pOf g c,3≤p∧p < c)∧(pOf g c).Nodup:=by
 by_cases h3:c < 3
 ·rw [Ypp h3];simp
 ·rw [Yk0 (by omega)];simp only [fine,Bool.and_eq_true,decide_eq_true_eq] at h;have hk:(c-3).toNat < g.length:=by omega
  obtain ⟨a1,a2⟩:=YmC g 0 h.2 (c-3).toNat _ (List.getElem?_eq_getElem hk);obtain ⟨b1,b2,_⟩:=Yod _ _ _ a2;rw [Yai hk];refine ⟨a1,fun p hp=>?_,b2⟩;have:=b1 p hp
  omega
theorem YbA {g:List (List Int)} {c:Nat} (hc:c < 3+g.length):(parentsOf g)[c]?=some (pOf g c):=by
 unfold parentsOf;by_cases h3:c < 3
 ·rw [Ypp (by omega),List.getElem?_append_left (by simpa using h3)];match c,h3 with
  | 0,_=>rfl
  | 1,_=>rfl
  | 2,_=>rfl
 ·rw [Yk0 (by omega),List.getElem?_append_right (by simp;omega)];simp only [List.length_cons,List.length_nil,Nat.zero_add,Nat.reduceAdd];rw [show ((c:Int)-3).toNat=c-3 by omega,Yai (by omega),List.getElem?_eq_getElem (by omega)]
theorem Yar (g:List (List Int)):(parentsOf g).length=3+g.length:=by simp [parentsOf];omega
theorem Ycn {g:List (List Int)} {c:Nat} (hc:c < 3+g.length):(parentsOf g).drop c=pOf g c::(parentsOf g).drop (c+1):=by
 have hl:c < (parentsOf g).length:=by rw [Yar];exact hc
 rw [Yac hl];have:=YbA hc
 rw [List.getElem?_eq_getElem hl] at this;simp at this;rw [this]
theorem Ybv (acc:List (List Int)) (ps:List Int) (r:List (List Int)):Ybo acc (ps::r)=Ybo (acc++[orderOf acc ps acc.length]) r:=rfl
theorem YcV (g:List (List Int)):orders g=Ybo [[0]] ((parentsOf g).drop 1):=rfl
theorem Yom (g:List (List Int)) (hf:fine g=true):∀ (n c:Nat) (acc:List (List Int)),n+c=3+g.length→acc.length=c→0 < c→YcI acc→YcI (Ybo acc ((parentsOf g).drop c))∧(Ybo acc ((parentsOf g).drop c)).length=3+g.length:=by
 intro n;induction n with
 | zero =>
   intro c acc h1 h2 _ h3;rw [Yat (by rw [Yar];omega)];exact ⟨h3,by simp [Ybo];omega⟩
 | succ n ih =>
   intro c acc h1 h2 h0 h3;rw [Ycn (by omega),Ybv];have hp:=(YaK hf (c:=(c:Int)) (by omega)).2.1;exact ih (c+1) _ (by omega) (by simp [h2]) (by omega) (h3.snoc (YfL h3 (by intro p hp';have:=hp p hp';omega) (by omega)))
theorem Yb2 {g:List (List Int)} (hf:fine g=true):YcI (orders g)∧(orders g).length=3+g.length:=by
 rw [YcV];exact Yom g hf (2+g.length) 1 _ (by omega) rfl (by omega) YcI.start
theorem YcI.small {acc:List (List Int)} (h:YcI acc) (hl:acc.length≤1000):∀ o∈acc,o.length≤1000:=by
 intro o ho;obtain ⟨i,hi,rfl⟩:=List.mem_iff_getElem.1 ho;have:=h.len (List.getElem?_eq_getElem hi)
 omega
theorem YdL {ords:List (List Int)} {ps:List Int} {all:List (List Int)} (h:listsOf ords ps=some all):all=ps.map (fun p=>bare (at_ ords p))++[ps]:=by
 unfold listsOf at h;split at h
 ·cases h;rfl
 ·cases h
theorem Ynp {ords:List (List Int)} {p:Int}:at_ ords p=[]∨at_ ords p∈ords:=by
 unfold at_;rw [List.getD_eq_getElem?_getD]
 cases hq:ords[p.toNat]? with
 | none=>exact .inl rfl
 | some o=>exact .inr (List.mem_of_getElem? hq)
theorem Yen {ords:List (List Int)} {ps:List Int} {all:List (List Int)} (h:listsOf ords ps=some all) (hok:YcI ords) (hl:ords.length≤1000) (hp:ps.length≤3) (hpos:∀ p∈ps,0≤p) :
  YaY all≤3003∧all.length≤4∧∀ l∈all,∀ x∈l,0≤x:=by
 rw [YdL h];have hs:=hok.small hl;have hlen:∀ p,(bare (at_ ords p)).length≤1000:=fun p=>Nat.le_trans (Yc5 _ _) (by
  rcases Ynp (ords:=ords) (p:=p) with e|e
  ·rw [e];simp
  ·exact hs _ e)
 have htot:∀ ps:List Int,YaY (ps.map (fun p=>bare (at_ ords p)))≤1000*ps.length:=by
  intro ps;induction ps with
  | nil=>simp [YaY]
  | cons p r ih =>
    have:=hlen p
    simp only [List.map_cons,YcH,List.length_cons];omega
 refine ⟨?_,by simp;omega,fun l hl' x hx=>?_⟩
 ·have e:∀ (a:List (List Int)) (b:List Int),YaY (a++[b])=YaY a+b.length:=by intro a b;simp [YaY]
  rw [e];have:=htot ps
  omega
 ·rcases List.mem_append.1 hl' with h1|h1
  ·obtain ⟨p,_,rfl⟩:=List.mem_map.1 h1;exact ((hok.at p).2 x (YaI.1 hx).1).1
  ·simp at h1;subst h1;exact hpos x hx
theorem Ygo (all:List (List Int)):(merge all).1.length≤YaY all:=by
 have:∀ (n:Nat) (all:List (List Int)) (out:List Int),(YaT n all out).1.length≤out.length+YaY all:=by
  intro n;induction n with
  | zero=>intro all out;simp [YaT]
  | succ n ih =>
    intro all out;simp only [YaT]
    cases hn:YaG all all with
    | none=>simp
    | some x =>
      obtain ⟨t,hm,_⟩:=Ybx all all x hn;have h1:=YaN all x t hm;have h2:=ih (all.map (without · x)) (out++[x]);simp only [List.length_append,List.length_singleton] at h2;show (YaT n _ _).1.length≤_;omega
 simpa [merge] using this (YaY all) all []
end Go.W
namespace Go.V
open Go Go.W
section
variable {C:Cx} {M:Bool} {fi fuel:Nat} {l:List Oper} {Q:Qt} {listed:Array Bool} {ρ:Ro} {η:Eta}
theorem Zae {op1:Op} {T1 d1:Nat} {pos1:String} {af1:Array Edge} {g1:Option (Nat × Bool)} {u1:AV} {op2:Op} {T2 d2:Nat} {pos2:String} {af2:Array Edge} {g2:Option (Nat × Bool)} {u2:AV} (i1 i2:Nat) (k:OD C M fi l.toArray Q fuel ((listed.setIfInBounds i1 true).setIfInBounds i2 true) ((d2,u2)::((d1,u1)::ρ)) η) (hQ:YaM Q:=by with_unfolding_all exact fun _ _ _ _ _ h=>h)
  (hi1:l.toArray[i1]?=some ⟨some d1,op1,T1,pos1,af1,g1⟩:=by with_unfolding_all exact rfl) (hb1:YeP l.toArray listed fi i1=true:=by kernel_rfl)
  (hg1:GB l.toArray ρ g1 true:=by first|with_unfolding_all exact rfl|with_unfolding_all exact ⟨_,_,rfl,rfl,rfl⟩) (h1:Yaj C.P C.N C.D op1 ρ η u1 M:=by exact gv) (hd1:Nat.blt d1 C.N=true:=by with_unfolding_all exact rfl)
  (hi2:l.toArray[i2]?=some ⟨some d2,op2,T2,pos2,af2,g2⟩:=by with_unfolding_all exact rfl) (hb2:YeP l.toArray (listed.setIfInBounds i1 true) fi i2=true:=by kernel_rfl)
  (hg2:GB l.toArray ((d1,u1)::ρ) g2 true:=by first|with_unfolding_all exact rfl|with_unfolding_all exact ⟨_,_,rfl,rfl,rfl⟩) (h2:Yaj C.P C.N C.D op2 ((d1,u1)::ρ) η u2 M:=by exact gv) (hd2:Nat.blt d2 C.N=true:=by with_unfolding_all exact rfl) :
  OD C M fi l.toArray Q (fuel+1+1) listed ρ η:=
 OD.st i1 (OD.st i2 k hi2 hb2 hQ hg2 h2 hd2) hi1 hb1 hQ hg1 h1 hd1
theorem Zaf {op1:Op} {T1 d1:Nat} {pos1:String} {af1:Array Edge} {g1:Option (Nat × Bool)} {u1:AV} {op2:Op} {T2 d2:Nat} {pos2:String} {af2:Array Edge} {g2:Option (Nat × Bool)} {u2:AV} {op3:Op} {T3 d3:Nat} {pos3:String} {af3:Array Edge} {g3:Option (Nat × Bool)} {u3:AV} {op4:Op} {T4 d4:Nat} {pos4:String} {af4:Array Edge} {g4:Option (Nat × Bool)} {u4:AV} (i1 i2 i3 i4:Nat) (k:OD C M fi l.toArray Q fuel ((((listed.setIfInBounds i1 true).setIfInBounds i2 true).setIfInBounds i3 true).setIfInBounds i4 true) ((d4,u4)::((d3,u3)::((d2,u2)::((d1,u1)::ρ)))) η) (hQ:YaM Q:=by with_unfolding_all exact fun _ _ _ _ _ h=>h)
  (hi1:l.toArray[i1]?=some ⟨some d1,op1,T1,pos1,af1,g1⟩:=by with_unfolding_all exact rfl) (hb1:YeP l.toArray listed fi i1=true:=by kernel_rfl)
  (hg1:GB l.toArray ρ g1 true:=by first|with_unfolding_all exact rfl|with_unfolding_all exact ⟨_,_,rfl,rfl,rfl⟩) (h1:Yaj C.P C.N C.D op1 ρ η u1 M:=by exact gv) (hd1:Nat.blt d1 C.N=true:=by with_unfolding_all exact rfl)
  (hi2:l.toArray[i2]?=some ⟨some d2,op2,T2,pos2,af2,g2⟩:=by with_unfolding_all exact rfl) (hb2:YeP l.toArray (listed.setIfInBounds i1 true) fi i2=true:=by kernel_rfl)
  (hg2:GB l.toArray ((d1,u1)::ρ) g2 true:=by first|with_unfolding_all exact rfl|with_unfolding_all exact ⟨_,_,rfl,rfl,rfl⟩) (h2:Yaj C.P C.N C.D op2 ((d1,u1)::ρ) η u2 M:=by exact gv) (hd2:Nat.blt d2 C.N=true:=by with_unfolding_all exact rfl)
  (hi3:l.toArray[i3]?=some ⟨some d3,op3,T3,pos3,af3,g3⟩:=by with_unfolding_all exact rfl) (hb3:YeP l.toArray ((listed.setIfInBounds i1 true).setIfInBounds i2 true) fi i3=true:=by kernel_rfl)
  (hg3:GB l.toArray ((d2,u2)::((d1,u1)::ρ)) g3 true:=by first|with_unfolding_all exact rfl|with_unfolding_all exact ⟨_,_,rfl,rfl,rfl⟩) (h3:Yaj C.P C.N C.D op3 ((d2,u2)::((d1,u1)::ρ)) η u3 M:=by exact gv) (hd3:Nat.blt d3 C.N=true:=by with_unfolding_all exact rfl)
  (hi4:l.toArray[i4]?=some ⟨some d4,op4,T4,pos4,af4,g4⟩:=by with_unfolding_all exact rfl) (hb4:YeP l.toArray (((listed.setIfInBounds i1 true).setIfInBounds i2 true).setIfInBounds i3 true) fi i4=true:=by kernel_rfl)
  (hg4:GB l.toArray ((d3,u3)::((d2,u2)::((d1,u1)::ρ))) g4 true:=by first|with_unfolding_all exact rfl|with_unfolding_all exact ⟨_,_,rfl,rfl,rfl⟩) (h4:Yaj C.P C.N C.D op4 ((d3,u3)::((d2,u2)::((d1,u1)::ρ))) η u4 M:=by exact gv) (hd4:Nat.blt d4 C.N=true:=by with_unfolding_all exact rfl) :
  OD C M fi l.toArray Q (fuel+1+1+1+1) listed ρ η:=
 OD.st i1 (OD.st i2 (OD.st i3 (OD.st i4 k hi4 hb4 hQ hg4 h4 hd4) hi3 hb3 hQ hg3 h3 hd3) hi2 hb2 hQ hg2 h2 hd2) hi1 hb1 hQ hg1 h1 hd1
end
end Go.V
namespace Go.W
open Go
def Yqc (k:Int) (v:Value):List (Int × Value)→List (Int × Value)
 | []=>[(k,v)]
 | p::r=>if k==p.1 then (p.1,v)::r else p::Yqc k v r
theorem YhE (k:Int) (v:Value):∀ (es:List MapEntry) (l:List (Int × Value)) (i:Nat),es.map (fun e=>(e.key,e.val))=l.map (fun p=>(Value.int .i64 p.1,p.2))→mfind k l≠none →
  ∃ j v',Instr.findNow (.int .i64) (.int .i64 k) es i=some (some (i+j,v'))∧(es[j]?).map (·.key)=some (.int .i64 k) ∧
   (es.modify j fun e=>{ e with key:=.int .i64 k,val:=v }).map (fun e=>(e.key,e.val))=(Yqc k v l).map (fun p=>(Value.int .i64 p.1,p.2))
 | [],[],i,_,hn=>absurd rfl hn
 | [],_::_,_,h,_=>by simp at h
 | _::_,[],_,h,_=>by simp at h
 | e::es,p::l,i,h,hn=>by
   simp only [List.map_cons,List.cons.injEq,Prod.mk.injEq] at h;obtain ⟨⟨hk,hv⟩,h⟩:=h;simp only [mfind] at hn;simp only [Instr.findNow,hk,Instr.sameNow,if_true,Yqc]
   cases hb:k==p.1 with
   | true =>
     have hkp:k=p.1:=by simpa using hb
     refine ⟨0,e.val,by simp,by simp [hk,hkp],?_⟩;simp [List.modify,hkp,h]
   | false =>
     rw [hb] at hn;obtain ⟨j,v',g1,g2,g3⟩:=YhE k v es l (i+1) h (by simpa using hn);refine ⟨j+1,v',by simp [g1];omega,by simpa using g2,?_⟩;simp [List.modify_succ_cons,hk,hv,g3]
theorem Ylu (k:Int) (v:Value):∀ l:List (Int × Value),mfind k l≠none→(Yqc k v l).map (·.1)=l.map (·.1)
 | [],h=>absurd rfl h
 | p::r,h=>by
   simp only [mfind] at h;simp only [Yqc]
   cases hb:k==p.1 with
   | true=>simp
   | false=>rw [hb] at h;simp [Ylu k v r (by simpa using h)]
end Go.W
namespace Go.V
open Go Go.W
def aput (k:Int) (u:AV):List (Int × AV)→List (Int × AV)
 | []=>[(k,u)]
 | p::r=>if k==p.1 then (p.1,u)::r else p::aput k u r
theorem YnD (k:Int) (u:AV):∀ es:List (Int × AV),afind k es=none→aput k u es=es++[(k,u)]
 | [],_=>rfl
 | p::r,h=>by
   simp only [afind] at h;simp only [aput]
   cases hb:k==p.1 with
   | true=>rw [hb] at h;simp at h
   | false=>rw [hb] at h;simp [YnD k u r (by simpa using h)]
theorem Yit (k j:Int) (u:AV):∀ es:List (Int × AV),afind j (aput k u es)=if j=k then some u else afind j es
 | []=>by simp [aput,afind]
 | p::r=>by
   simp only [aput]
   cases hb:k==p.1 with
   | true =>
     have hkp:k=p.1:=by simpa using hb
     simp only [if_true,afind,hkp,beq_iff_eq];split<;>rfl
   | false =>
     have hkp:k≠p.1:=by simpa using hb
     simp only [Bool.false_eq_true,if_false,afind,Yit k j u r,beq_iff_eq];by_cases hj:j=p.1
     ·have:j≠k:=fun e=>hkp (by omega)
      simp [hj,Ne.symm hkp]
     ·simp [hj]
theorem YnC {m w} (k:Int) (v:Value) (u:AV) (hv:Rep m w [] v u∧okV v u):∀ (l:List (Int × Value)) (es:List (Int × AV)),l.map (·.1)=es.map (·.1)→(∀ (j:Nat) p q,l[j]?=some p→es[j]?=some q→Rep m w [] p.2 q.2∧okV p.2 q.2) →
  ∀ (j:Nat) p q,(Yqc k v l)[j]?=some p→(aput k u es)[j]?=some q→Rep m w [] p.2 q.2∧okV p.2 q.2
 | [],[],_,_,j,p,q,hp,hq=>by
   cases j with
   | zero=>simp [Yqc,aput] at hp hq;subst hp hq;exact hv
   | succ j=>simp [Yqc] at hp
 | [],_::_,h,_,_,_,_,_,_=>by simp at h
 | _::_,[],h,_,_,_,_,_,_=>by simp at h
 | p0::l,q0::es,h,hr,j,p,q,hp,hq=>by
   simp only [List.map_cons,List.cons.injEq] at h;simp only [Yqc,aput,h.1] at hp hq
   cases hb:k==q0.1 with
   | true =>
     rw [hb] at hp hq;simp only [if_true] at hp hq
     cases j with
     | zero=>simp at hp hq;subst hp hq;exact hv
     | succ j=>exact hr (j+1) p q (by simpa using hp) (by simpa using hq)
   | false =>
     rw [hb] at hp hq;simp only [Bool.false_eq_true,if_false] at hp hq
     cases j with
     | zero=>exact hr 0 p q (by simpa using hp) (by simpa using hq)
     | succ j=>exact YnC k v u hv l es h.2 (fun j a b h1 h2=>hr (j+1) a b (by simpa using h1) (by simpa using h2)) j p q (by simpa using hp) (by simpa using hq)
theorem YlB (k:Int) (u:AV):∀ es:List (Int × AV),afind k es≠none→(aput k u es).map (·.1)=es.map (·.1)
 | [],h=>absurd rfl h
 | p::r,h=>by
   simp only [afind] at h;simp only [aput]
   cases hb:k==p.1 with
   | true=>simp
   | false=>rw [hb] at h;simp [YlB k u r (by simpa using h)]
section
variable {C:Cx} {ops:Array Oper} {Q:Qt} {ρ:Ro} {η η2:Eta} {rest:List Oper} {T X E:Nat} {pos:String} {af:Array Edge} {x y z:Operand}
theorem Zct {i K:Nat} {es:List (Int × AV)} {k:Int} {u:AV} (kk:OL C ops Q rest ρ η2) (hs:(C.tab X).map (·.sh)=some (.map K E):=by with_unfolding_all exact rfl) (hkt:(C.tab K).map (·.sh)=some (.int .i64):=by with_unfolding_all exact rfl)
  (hx:ev2 ρ x=some (.mp i):=by with_unfolding_all exact rfl) (ho:η[i]?=some (.mo es):=by with_unfolding_all exact rfl) (hy:ev2 ρ y=some (.raw (.int .i64 k)):=by with_unfolding_all exact rfl) (hz:ev2 ρ z=some u:=by with_unfolding_all exact rfl) (hu:(okc u&&pureA u)=true:=by with_unfolding_all exact rfl)
  (hη:η.set i (.mo (aput k u es))=η2:=by (try dsimp only [List.set])<;>exact rfl) :
  OL C ops Q (⟨none,.mapUpdate X x y z,T,pos,af,none⟩::rest) ρ η:=by
 cases hn:afind k es with
 | none=>exact ZbM kk (.inl rfl) hn hs hkt hx ho hy hz hu (by rw [← hη,YnD k u es hn])
 | some u0 =>
 rintro a w ⟨m,γ,ρc,hE',hR,hI⟩;obtain ⟨u1,g1,g2⟩:=hR.ev hx;obtain ⟨v,g3,g4⟩:=hR.ev hz;simp only [Bool.and_eq_true] at hu;have hone:okV v u:=g4.one hu.1;have hpure:=YaV g4 hu.2
 cases g2 with
 | @mp _ _ b hb =>
 obtain ⟨b',l,e,h0,hM,hkeys,hrep⟩:=hI.heap.ok i _ _ hb ho
 cases e
 obtain ⟨ut,uk⟩:=Ypj hs hkt;haveI:IntTy C.P K .i64:=⟨uk⟩
 obtain ⟨es',clock,hb',hl⟩:=id hM;have hck:=YaR (P:=C.P) (Y:=K) (w:=w);have hlt:b < w.heap.size:=(Array.getElem?_eq_some_iff.1 hb').1;have hmn:mfind k l≠none:=by
  rcases YcF k l es hkeys hrep with ⟨_,a2⟩|⟨_,_,a1,_⟩
  ·rw [hn] at a2;cases a2
  ·rw [a1];exact nofun
 have hother:∀ (o:Obj) (j:Nat),j≠b→(w.heap.setIfInBounds b o)[j]?=w.heap[j]?:=fun o j hj=>by rw [Array.getElem?_setIfInBounds_ne (by omega)]
 subst hη;obtain ⟨j,v',e2,e3,e4⟩:=YhE k v es'.toList l 0 hl hmn;rw [Nat.zero_add] at e2;obtain ⟨en,he1,he2⟩:∃ en,es'[j]?=some en∧en.key=.int .i64 k:=by
  cases hq:es'[j]? with
  | none=>rw [Array.getElem?_toList,hq] at e3;cases e3
  | some en=>rw [Array.getElem?_toList,hq] at e3;exact ⟨en,rfl,by simpa using e3⟩
 have hsb:Instr.sameBits 10000 (.int .i64 k) (.int .i64 k)=true:=by simp [Instr.sameBits]
 have hT:W.Touch (some b) m w m { w with heap:=w.heap.setIfInBounds b (.map (es'.modify j fun e=>{ e with key:=.int .i64 k,val:=v }) clock) }:=
  ⟨⟨rfl,rfl,rfl,by simp,fun i _ hi=>hother _ i (by simpa using hi)⟩,fun _ _ _=>rfl,⟨by simp,fun _ _=>Nat.le_refl _,fun i j c hj hc=>by
   have hne:i≠b:=fun e=>by subst e;omega
   rw [World.cell?_of_block (w:=w) (hother _ i hne)];exact hc⟩⟩
 refine Cx.lcons (Yce (w':={ w with heap:=w.heap.setIfInBounds b (.map (es'.modify j fun e=>{ e with key:=.int .i64 k,val:=v }) clock) }) rfl ?_ (kk _ _ ⟨m,γ,ρc,by simpa [Act.put] using hE',hR.mono hT.ext (.refl _),hI.put (o':=.mo (aput k u es)) hb ho hT ⟨b,Yqc k v l,rfl,h0,⟨es'.modify j fun e=>{ e with key:=.int .i64 k,val:=v },clock,by simp [hlt],by rw [Array.toList_modify];exact e4⟩,?_,?_⟩ (.inl rfl)⟩))
 ·simp [execOp,hE'.ev g1,hE'.ev (hR.raw hy),hE'.ev g3,Instr.mapUpdate,run_underlying ut,MapKept.run_getObj_map hb',hck,Instr.findKey,run_underlying uk,e2,he1,he2,Instr.keyThatStays,hsb,MapKept.run_setObj_map _ hb']
 ·rw [Ylu k v l hmn,YlB k u es (by rw [hn];exact nofun),hkeys]
 ·exact YnC k v u ⟨hpure.mono hT.ext (.refl _),hone⟩ l es hkeys (fun j p q h1 h2=>⟨(hrep j p q h1 h2).1.mono hT.ext (.refl _),(hrep j p q h1 h2).2⟩)
end
section
variable {P:Program} {tab:Tab} {N:Nat} {D:List Deferred} {ρ:Ro} {η:Eta} {x y z:Operand} {X:Nat} {M:Bool}
theorem YqN {α:Type} {sz:Nat} {Cr:Ycl α} {m:Nat→Nat} {w1:World} {xs:List α} {v:Value} {e:Nat} {inf:TypeInfo} (hu:P.underlying X=some (.slice e)) (hi1:P.info? e=some inf) (hr:RS sz Cr m w1 v xs) :
  ∃ v',RS sz Cr m w1 v' xs∧∀ w,(Instr.slice X v none (some (.int .i64 (xs.length:Int))) (some (.int .i64 (xs.length:Int)))).run P w=.ok v' w:=by
 rcases hr with ⟨rfl,rfl⟩|⟨b,o,cap,rfl,hc,hm,hel⟩|⟨aw,rfl,rfl⟩
 ·exact ⟨.slice none 0 0,.inl ⟨rfl,rfl⟩,fun w=>by simp [Instr.slice,run_underlying hu,Instr.sliceBounds,Instr.sliceBound,asIntOf,sizeOf,typeInfo,hi1]⟩
 ·refine ⟨.slice (some ⟨b,o,none⟩) xs.length xs.length,.inr (.inl ⟨b,o,xs.length,rfl,Nat.le_refl _,by omega,hel⟩),fun w=>?_⟩;simp [Instr.slice,run_underlying hu,Instr.sliceBounds,Instr.sliceBound,asIntOf,sizeOf,typeInfo,hi1,hc,Addr.add]
 ·exact ⟨.slice (some aw) 0 0,.inr (.inr ⟨aw,rfl,rfl⟩),fun w=>by simp [Instr.slice,run_underlying hu,Instr.sliceBounds,Instr.sliceBound,asIntOf,sizeOf,typeInfo,hi1]⟩
theorem YoJ {sz nl E i j} {xs:List AV} (hT:YaX P tab) (hs:(tab X).map (·.sh)=some (.slice E)) (hz:(tab E).map (·.size)=some sz) (hx:ev2 ρ x=some (.sl sz nl xs)) (hy:ev2 ρ y=some (.raw (.int .i64 i))) (hi:i=(xs.length:Nat)) (hw:ev2 ρ z=some (.raw (.int .i64 j))) (hj:j=(xs.length:Nat)) :
  Yaj P N D (.slice X x none (some y) (some z)) ρ η (.sl sz none xs) M:=fun m w γ ρc a hE hR hH=>by
 obtain ⟨v,h1,h2⟩:=hR.ev hx;obtain ⟨d,hu,hd⟩:=YcO hT hs;obtain rfl:d=_:=hd;obtain ⟨inf,i1,i2⟩:=Ybh hT hz;subst hi hj;obtain ⟨v',g1,g2⟩:=YqN hu i1 h2.rs.1;refine ⟨v',Rep.of_rs g1 (NL.none _),fun _ _ _ _ _ _=>?_⟩;simp [execOp,hE.ev h1,hE.ev (hR.raw hy),hE.ev (hR.raw hw),Instr.sliceAt,run_underlying hu,g2]
end
section
variable {C:Cx} {ops:Array Oper} {Q:Qt} {ρ:Ro} {η:Eta} {rest:List Oper} {T X d E:Nat} {pos:String} {af:Array Edge} {x y z:Operand}
theorem Zcu {α:Type} {f:α→AV} {sz nl} {l:List α} {i j:Int} (k:OL C ops Q rest ((d,.sl sz none (l.map f))::ρ) η) (hs:(C.tab X).map (·.sh)=some (.slice E):=by with_unfolding_all exact rfl) (hz:(C.tab E).map (·.size)=some sz:=by with_unfolding_all exact rfl)
  (hx:ev2 ρ x=some (.sl sz nl (l.map f)):=by with_unfolding_all exact rfl) (hy:ev2 ρ y=some (.raw (.int .i64 i)):=by with_unfolding_all exact rfl) (hw:ev2 ρ z=some (.raw (.int .i64 j)):=by with_unfolding_all exact rfl) (hi:i=(l.length:Nat):=by first|rfl|simp) (hj:j=(l.length:Nat):=by first|rfl|simp) (hd:Nat.blt d C.N=true:=by with_unfolding_all exact rfl) :
  OL C ops Q (⟨some d,.slice X x none (some y) (some z),T,pos,af,none⟩::rest) ρ η:=
 ZaG (YoJ C.hT hs hz hx hy (by rw [hi,List.length_map]) hw (by rw [hj,List.length_map])) hd k
end
theorem Yq1 {P:Program} {N:Nat} {D:List Deferred} {ρ:Ro} {η:Eta} {x y:Operand} {a b:Int} {M:Bool} {ts:Array TypeId} (hx:ev2 ρ x=some (.raw (.int .i64 a))) (hy:ev2 ρ y=some (.raw (.int .i64 b))):Yaj P N D (.call ⟨.builtin .max,#[x,y],ts⟩) ρ η (.raw (.int .i64 (max a b))) M:=fun m w γ ρc ac hE hR hH =>
 ⟨_,.raw rfl,fun _ _ _ _ _ _=>by
  simp [execOp,resolve,invoke,builtin,hE.ev (hR.raw hx),hE.ev (hR.raw hy),Builtin.max_,Builtin.max2];try (split<;>omega)⟩
theorem OL.max {C:Cx} {ops:Array Oper} {Q:Qt} {rest:List Oper} {ρ:Ro} {η:Eta} {x y:Operand} {a b:Int} {ts:Array TypeId} {d T:Nat} {pos:String} {af:Array Edge} (c:Int) (k:OL C ops Q rest ((d,.raw (.int .i64 c))::ρ) η) (hx:ev2 ρ x=some (.raw (.int .i64 a)):=by with_unfolding_all exact rfl) (hy:ev2 ρ y=some (.raw (.int .i64 b)):=by with_unfolding_all exact rfl) (hd:Nat.blt d C.N=true:=by with_unfolding_all exact rfl) (hc:Max.max a b=c:=by omega) :
  OL C ops Q (⟨some d,.call ⟨.builtin .max,#[x,y],ts⟩,T,pos,af,none⟩::rest) ρ η:=by
 subst hc;exact ZaG (Yq1 hx hy) hd k
section
variable {C:Cx} {M:Bool} {fi fuel:Nat} {l:List Oper} {Q:Qt} {listed:Array Bool} {ρ:Ro} {η:Eta} {op:Op} {T d:Nat} {pos:String} {af:Array Edge} {g:Option (Nat × Bool)} {u:AV}
theorem NS (i:Nat) (k:OD C M fi l.toArray Q fuel (listed.setIfInBounds i true) ((d,u)::ρ) η) (hi:l[i]?=some ⟨some d,op,T,pos,af,g⟩:=by with_unfolding_all exact rfl) (hg:GB l.toArray ρ g true:=by first|with_unfolding_all exact rfl|with_unfolding_all exact ⟨_,_,rfl,rfl,rfl⟩) (h:Yaj C.P C.N C.D op ρ η u:=by exact gv) (hd:Nat.blt d C.N=true:=by with_unfolding_all exact rfl):Yaa C M fi l Q fuel listed ρ η i:=Yaa.s k hi hg h hd
theorem NA {dst:Option Tmp} (i:Nat) (k:OL C l.toArray (QD C M fi l.toArray Q fuel (listed.setIfInBounds i true)) [⟨dst,op,T,pos,af,none⟩] ρ η) (hi:l[i]?=some ⟨dst,op,T,pos,af,g⟩:=by with_unfolding_all exact rfl) (hg:GB l.toArray ρ g true:=by first|with_unfolding_all exact rfl|with_unfolding_all exact ⟨_,_,rfl,rfl,rfl⟩) (hM:fi≤i∨M=false:=by first|exact .inl (Nat.le_of_ble_eq_true rfl)|exact .inr rfl):Yaa C M fi l Q fuel listed ρ η i:=Yaa.a k hi hg hM
end
end Go.V
