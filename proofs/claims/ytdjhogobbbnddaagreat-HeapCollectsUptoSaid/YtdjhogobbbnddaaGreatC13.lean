/- Lemmas for the claim; no conditions. -/
import Derived.Test.YtdjhogobbbnddaaGreatC12
import Derived.OrdersIn
import Derived.KernelRfl
namespace Go.V
open Go Go.W
def Cx.O (C:Cx) (ops:Array Oper) (Q:Qt) (i:Nat) (K:Act→World→Prop):Act→World→Prop:=match C.r with
 | none=>wpOp C.P ops Q i K
 | some r=>wpOpIn (WF r) C.k C.P ops Q i K
section
variable {C:Cx} {ops:Array Oper} {Q:Qt} {md:Region.Mode} {R:World→World→Prop} {S:World→Prop} {fi:Nat} {a:Act} {w:World} {K K':Act→World→Prop} {i:Nat}
theorem Cx.O_none (h:C.r=none):C.O=wpOp C.P:=by funext ops Q i K;unfold Cx.O;rw [h]
theorem Cx.O_some {r} (h:C.r=some r):C.O=wpOpIn (WF r) C.k C.P:=by funext ops Q i K;unfold Cx.O;rw [h]
theorem Cx.O_mono (h:∀ a w,K a w→K' a w) (hh:C.O ops Q i K a w):C.O ops Q i K' a w:=by
 cases hr:C.r with
 | none=>rw [Cx.O_none hr] at hh ⊢;exact wpOp_mono h hh
 | some r=>rw [Cx.O_some hr] at hh ⊢;exact wpOpIn_mono h hh
theorem Cx.O_yields {o:Oper} {v:Value} (hi:ops[i]?=some o) (hy:YieldsIf C.P ops S o v a) (hS:S w) (h:K (a.put o.dst v) w):C.O ops Q i K a w:=by
 cases hr:C.r with
 | none=>rw [Cx.O_none hr];exact hy.wpOp hi hS h
 | some r =>
   rw [Cx.O_some hr];unfold wpOpIn;simp only [hi];rcases hy with ⟨hw,hv⟩|⟨hw,rfl⟩
   ·simp only [hw,if_true];exact ⟨fun _ _=>trivial,by rw [Oper.semAt_plain _ _ _ (YfD (hv w hS) (by simp)),hv w hS];exact h⟩
   ·simp only [hw,Bool.false_eq_true,if_false];exact ⟨fun _ _=>trivial,h⟩
theorem Cx.O_put {j:Nat} {oi oj:Oper} {v:Value} (hj:ops[j]?=some oj) (hap:oi.apart ops oj=true)
  (hsi:∀ cs b,oi.op≠.select cs b) (hsj:∀ cs b,oj.op≠.select cs b) (hdj:∀ c,oj.op≠.defer c)
  (hQ:∀ c a w,Q (.panic c) (a.put oi.dst v) w→Q (.panic c) a w)
  (hy:YieldsIf C.P ops S oi v a) (h:C.O ops Q j K (a.put oi.dst v) w) :
  C.O ops Q j (fun a' w'=>YieldsIf C.P ops S oi v a'∧K (a'.put oi.dst v) w') a w:=by
 cases hr:C.r with
 | none=>rw [Cx.O_none hr] at h ⊢;exact wpOp_putIf hj hap hsi hsj hQ hy h
 | some r =>
   rw [Cx.O_some hr] at h ⊢;obtain ⟨h1,h2,h3⟩:=Oper.apart_spec hap;have keep:∀ (a:Act),YieldsIf C.P ops S oi v a→∀ u,YieldsIf C.P ops S oi v (a.put oj.dst u):=fun a hy u =>
    hy.of_same (execOp_put oi hsi a oj.dst u h3) (wanted_put oi a oj.dst u h3)
   have keepD:∀ d,YieldsIf C.P ops S oi v { a with defers:=d::a.defers }:=fun d=>hy.of_same rfl rfl
   unfold wpOpIn at *
   simp only [hj] at *
   rw [wanted_put oj a oi.dst v h1] at h;split
   ·rename_i hw
    simp only [hw,if_true] at h;unfold Oper.wpIn at *
    refine ⟨fun _ _=>trivial,?_⟩;have h:=h.2;rw [Oper.semAt_plain _ _ _ hdj,execOp_put oj hsj a oi.dst v h1] at h;rw [Oper.semAt_plain _ _ _ hdj];generalize (execOp a.eval oj).run C.P w=r at *
    cases r with
    | ok x w' =>
      cases x<;>simp only [Oper.uponIn] at h ⊢
      case value u=>exact ⟨keep a hy u,by rw [← Act.put_comm a v u h2];exact h⟩
      case skip=>exact ⟨keep a hy _,by rw [← Act.put_comm a v undef h2];exact h⟩
      case defer d =>
       refine ⟨keep _ (keepD d) _,?_⟩;rw [← Act.put_comm _ v undef h2,← Act.put_defers];exact h
      case enter f args =>
       refine ⟨h.1,CallsIn.mono h.2 fun e w'' he=>?_⟩
       cases e with
       | returned u=>exact ⟨keep a hy u,by rw [← Act.put_comm a v u h2];exact he⟩
       | panicked c=>exact hQ _ _ _ he
       | outgrown=>exact he
      case row row args=>exact ⟨h.1,RowsIn.mono h.2 fun u w'' he=>⟨keep a hy u,by rw [← Act.put_comm a v u h2];exact he⟩⟩
      case round l f tmps assign body =>
       refine ⟨h.1,RoundIn.mono h.2 fun e w'' he=>?_⟩
       cases e with
       | returned u=>exact ⟨keep a hy u,by rw [← Act.put_comm a v u h2];exact he⟩
       | panicked c=>exact hQ _ _ _ he
       | outgrown=>exact he
    | halt x w' =>
      cases x<;>simp only [Oper.uponIn] at h ⊢
      case panic u=>exact hQ _ _ _ h
   ·rename_i hw
    simp only [hw] at h;exact ⟨fun _ _=>trivial,keep a hy _,by rw [← Act.put_comm a v undef h2];exact h.2⟩
def Yb9 (C:Cx) (md:Region.Mode) (ops:Array Oper) (Q:Qt) (R:World→World→Prop) (fi:Nat):Nat→Array Bool→Act→World→Prop
 | 0,listed,a,w=>Region.ready md ops listed=[]∧Q .normal a w
 | fuel+1,listed,a,w =>
   (Region.ready md ops listed=[]→Q .normal a w) ∧
   ∀ i∈Region.ready md ops listed,C.O ops Q i (fun a' w'=>(fi≤i∨R w w')∧Yb9 C md ops Q R fi fuel (listed.setIfInBounds i true) a' w') a w
theorem YfR (hr:C.r=none):∀ (fuel:Nat) (listed:Array Bool) (a:Act) (w:World),Yb9 C md ops Q R fi fuel listed a w→wpAny C.P md ops Q fuel listed a w
 | 0,_,_,_,h=>h
 | fuel+1,_,_,_,h=>⟨h.1,fun i hi=>by
   have hh:=h.2 i hi;rw [Cx.O_none hr] at hh;exact wpOp_mono (fun a' w' h'=>YfR hr fuel _ a' w' h'.2) hh⟩
theorem YdH {r} (hr:C.r=some r):∀ (fuel:Nat) (listed:Array Bool) (a:Act) (w:World),Yb9 C md ops Q R fi fuel listed a w→wpAnyIn (WF r) C.k C.P md ops Q fuel listed a w
 | 0,_,_,_,h=>h
 | fuel+1,_,_,_,h=>⟨h.1,fun i hi=>by
   have hh:=h.2 i hi;rw [Cx.O_some hr] at hh;exact wpOpIn_mono (fun a' w' h'=>YdH hr fuel _ a' w' h'.2) hh⟩
theorem YieldsIf.sub {P:Program} {S S':World→Prop} {o:Oper} {v:Value} {a:Act} (h:YieldsIf P ops S o v a) (hs:∀ w,S' w→S w):YieldsIf P ops S' o v a:=
 h.imp (fun ⟨h1,h2⟩=>⟨h1,fun w hw=>h2 w (hs w hw)⟩) id
theorem Ygl (hrf:∀ w,R w w) (htr:∀ a b c,R a b→R b c→R a c) {i:Nat} {oi:Oper} {v:Value} (hi:ops[i]?=some oi) (hsel:∀ (j:Nat) (o:Oper) cs b,ops[j]?=some o→o.op≠.select cs b)
  (hdf:∀ (j:Nat) (o:Oper),ops[j]?=some o→∀ c,o.op≠.defer c)
  (hQ:∀ c a w,Q (.panic c) (a.put oi.dst v) w→Q (.panic c) a w) (n:Nat) :
  ∀ (fuel:Nat) (listed:Array Bool) (a:Act) (w:World),YeV md ops listed→(∀ j,fi≤j→j < ops.size→j≠i→listed.getD j true=true∨YdF md ops i n j=true) →
   (∀ (j:Nat) oj,ops[j]?=some oj→j≠i→listed.getD j true=false→(∀ e∈oj.after,Region.binds md e=true→e.on≠i)→oi.apart ops oj=true) →
   i∈Region.ready md ops listed→YieldsIf C.P ops (R w) oi v a →
   Yb9 C md ops Q R fi fuel (listed.setIfInBounds i true) (a.put oi.dst v) w→Yb9 C md ops Q R fi (fuel+1) listed a w:=by
 intro fuel;induction fuel with
 | zero =>
   intro listed a w _ _ _ hr hy H;refine ⟨fun h=>(by rw [h] at hr;cases hr),fun j hj=>?_⟩;by_cases hji:j=i
   ·subst hji;exact Cx.O_yields hi hy (hrf w) ⟨.inr (hrf w),H⟩
   ·have:=ready_mono hj hji
    rw [H.1] at this
    cases this
 | succ fuel ih =>
   intro listed a w hcl hfi hfree hr hy H;refine ⟨fun h=>(by rw [h] at hr;cases hr),fun j hj=>?_⟩;by_cases hji:j=i
   ·subst hji;exact Cx.O_yields hi hy (hrf w) ⟨.inr (hrf w),H⟩
   ·have h1:=H.2 j (ready_mono hj hji);obtain ⟨hjun,oj,hoj,hall⟩:=mem_ready.1 hj;have hnot:∀ e∈oj.after,Region.binds md e=true→e.on≠i:=fun e he hb heq=>by
     have h1:=hall e he hb;have h0:=(mem_ready.1 hr).1;rw [heq] at h1;rcases Nat.lt_or_ge i listed.size with h'|h'
     ·simp [h'] at h0 h1;rw [h0] at h1;cases h1
     ·simp [Array.getElem?_eq_none h'] at h1
    have hjfi:¬ fi≤j:=fun e=>by
     have h0:=(mem_ready.1 hr).1;rcases hfi j e (Array.getElem?_eq_some_iff.1 hoj).1 hji with h1|h1
     ·rw [h1] at hjun;cases hjun
     ·have h2:=Yhx hcl h1 hj;rw [Array.getD_eq_getD_getElem?] at h0 h2
      cases hq:listed[i]? with
      | none=>rw [hq] at h2;simp at h2
      | some b=>rw [hq] at h0 h2;simp at h0 h2;rw [h0] at h2;cases h2
    have hfi':∀ k,fi≤k→k < ops.size→k≠i→(listed.setIfInBounds j true).getD k true=true∨YdF md ops i n k=true:=fun k h1 h2 h3=>by
     rcases hfi k h1 h2 h3 with h4|h4
     ·refine .inl ?_;by_cases hjk:j=k
      ·subst hjk;omega
      ·rw [getD_set_ne true hjk];exact h4
     ·exact .inr h4
    have h2:=Cx.O_put hoj (hfree j oj hoj hji hjun hnot) (fun cs b=>hsel i oi cs b hi) (fun cs b=>hsel j oj cs b hoj) (hdf j oj hoj) hQ hy h1;have hfree':∀ (k:Nat) ok,ops[k]?=some ok→k≠i→(listed.setIfInBounds j true).getD k true=false →
      (∀ e∈ok.after,Region.binds md e=true→e.on≠i)→oi.apart ops ok=true:=fun k ok hk hki hun hno=>by
     refine hfree k ok hk hki ?_ hno;by_cases hjk:j=k
     ·subst hjk;exact hjun
     ·rw [getD_set_ne true hjk] at hun;exact hun
    refine Cx.O_mono (fun a' w' h3=>?_) h2;have hS':R w w':=h3.2.1.resolve_left hjfi;refine ⟨.inr hS',ih (listed.setIfInBounds j true) a' w' (hcl.set hj) hfi' hfree' (ready_mono hr (Ne.symm hji)) (YieldsIf.sub h3.1 fun w'' h=>htr _ _ _ hS' h) ?_⟩;rw [Array.setIfInBounds_comm _ _ hji];exact h3.2.2
end
def YeP (ops:Array Oper) (listed:Array Bool) (fi i:Nat):Bool:=
 Region.noSelect ops&&Region.free .any ops listed i&&(Region.ready .any ops listed).contains i&&Yju .any ops listed &&
  (ops.size≤fi || (List.range ops.size).all fun j=>j < fi || j==i || listed.getD j true || YdF .any ops i ops.size j)&&Yjt ops
def RM (M:Bool) (w w':World):Prop:=M=true→w.grownBy w' none
theorem RM.refl (M w):RM M w w:=fun _=>⟨rfl,rfl,rfl,Nat.le_refl _,fun _ _ _=>rfl⟩
theorem RM.trans {M a b c} (h:RM M a b) (k:RM M b c):RM M a c:=fun e =>
 have h:=h e;have k:=k e;⟨k.os.trans h.os,k.tape.trans h.tape,k.output.trans h.output,Nat.le_trans h.size k.size,fun b hb hX=>(k.block b (Nat.lt_of_lt_of_le hb h.size) hX).trans (h.block b hb hX)⟩
def OD (C:Cx) (M:Bool) (fi:Nat) (ops:Array Oper) (Q:Qt) (fuel:Nat) (listed:Array Bool) (ρ:Ro) (η:Eta):Prop:=
 ∀ a w,A2 C.N C.D C.B a w ρ η→Yb9 C .any ops Q (RM M) fi fuel listed a w
def GB (ops:Array Oper) (ρ:Ro):Option (Nat × Bool)→Bool→Prop
 | none,t=>t=true
 | some (j,b),t=>∃ oj dj,ops[j]?=some oj∧oj.dst=some dj∧lk ρ dj=some (.raw (.bool (bif t then b else !b)))
section
variable {C:Cx} {M:Bool} {fi fuel i n id:Nat} {l:List Oper} {ops:Array Oper} {Q:Qt} {listed:Array Bool} {ρ ρ':Ro} {η η':Eta} {d T:Nat} {pos:String} {af:Array Edge} {op:Op} {g:Option (Nat × Bool)} {u:AV}
theorem Zal (M:Bool) (fi n:Nat) (h:OD C M fi l.toArray Q n (Array.replicate n false) ρ η) (hn:Nat.beq l.length n=true:=by with_unfolding_all exact rfl):TC C Q (.region id l.toArray true) ρ η:=by
 intro a w hA;have hn:l.length=n:=Nat.eq_of_beq_eq_true hn;subst hn;obtain ⟨m,γ,ρc,hE,hR,hI⟩:=hA;have h:=h a w.drew ⟨m,γ,ρc,hE,hR.mono (Keep.drew m w).ext (.refl _),hI.keep (.drew m w)⟩
 cases hr:C.r with
 | none=>rw [Cx.W_none hr];exact wp_region_any C.hm (YfR hr _ _ _ _ h)
 | some r=>rw [Cx.W_some hr];exact wpIn_region_any C.hm (YdH hr _ _ _ _ h)
theorem GB.wanted {m w γ ρc ρ a N D} {o:Oper} (hE:Env N D a ρc) (hR:RL m w γ ρc ρ) {t} (h:GB ops ρ o.guard t):Region.wanted o (yielded ops a.tmps)=t:=by
 cases hg:o.guard with
 | none=>rw [hg] at h;have h:t=true:=h;subst h;simp [Region.wanted,hg]
 | some p =>
   obtain ⟨j,b⟩:=p;rw [hg] at h;obtain ⟨oj,dj,h1,h2,h3⟩:=h;obtain ⟨v,g1,g2⟩:=hR.look h3;rw [g2.raw_eq] at g1
   cases t<;>cases b<;>simp [Region.wanted,hg,yielded,h1,h2,hE.look _ _ g1]
theorem OD.take {oi:Oper} {v:Act→World→Value} (hi:ops[i]?=some oi) (hb:YeP ops listed fi i=true) (hQ:YaM Q) (hd:oi.dst=some d)
  (hy:∀ a w,A2 C.N C.D C.B a w ρ η→YieldsIf C.P ops (RM M w) oi (v a w) a∧A2 C.N C.D C.B (a.put (some d) (v a w)) w ρ' η')
  (k:OD C M fi ops Q fuel (listed.setIfInBounds i true) ρ' η'):OD C M fi ops Q (fuel+1) listed ρ η:=by
 intro a w hA;simp only [YeP,Bool.and_eq_true,Bool.or_eq_true,decide_eq_true_eq,beq_iff_eq,List.all_eq_true,List.mem_range] at hb;obtain ⟨⟨⟨⟨⟨h1,h2⟩,h3⟩,h4⟩,h5⟩,h6⟩:=hb;have hw:∀ j,fi≤j→j < ops.size→j≠i→listed.getD j true=true∨YdF .any ops i ops.size j=true:=by
  intro j a1 a2 a3;rcases h5 with h5|h5
  ·omega
  ·rcases h5 j a2 with ((h5|h5)|h5)|h5
   ·omega
   ·exact absurd h5 a3
   ·exact .inl h5
   ·exact .inr h5
 obtain ⟨y1,y2⟩:=hy a w hA;exact Ygl (fun w=>RM.refl M w) (fun _ _ _=>RM.trans) hi (Region.noSelect_spec h1) (Ycu h6) (by rw [hd];exact fun c a w h=>hQ c a w d _ h) ops.size fuel listed a w (YbR h4) hw (Region.free_spec hi h2) (by simpa using h3) y1 (by rw [hd];exact k _ _ y2)
theorem ZdN (hi:ops[i]?=some ⟨some d,op,T,pos,af,g⟩) (hb:YeP ops listed fi i=true) (hQ:YaM Q) (hg:GB ops ρ g true) (h:Yaj C.P C.N C.D op ρ η u M) (hd:Nat.blt d C.N=true)
  (k:OD C M fi ops Q fuel (listed.setIfInBounds i true) ((d,u)::ρ) η):OD C M fi ops Q (fuel+1) listed ρ η:=by
 have hex:∀ a w,∃ v,A2 C.N C.D C.B a w ρ η→YieldsIf C.P ops (RM M w) ⟨some d,op,T,pos,af,g⟩ v a∧A2 C.N C.D C.B (a.put (some d) v) w ((d,u)::ρ) η:=by
  intro a w;by_cases hA:A2 C.N C.D C.B a w ρ η
  ·obtain ⟨m,γ,ρc,hE,hR,hI⟩:=id hA;obtain ⟨v,hv,hrun⟩:=h hE hR hI.heap;exact ⟨v,fun _=>⟨.inl ⟨GB.wanted (o:=⟨some d,op,T,pos,af,g⟩) hE hR hg,fun w' hw=>hrun (m':=m) (fun e=>⟨hw e,fun _ _=>rfl⟩) d T pos af g⟩,m,γ,(d,v)::ρc,hE.put v (by simpa using hd),⟨rfl,hv,hR⟩,hI⟩⟩
  ·exact ⟨undef,fun h=>(hA h).elim⟩
 exact OD.take (v:=fun a w=>(hex a w).choose) hi hb hQ rfl (fun a w hA=>(hex a w).choose_spec hA) k
theorem OD.off (hi:ops[i]?=some ⟨some d,op,T,pos,af,g⟩) (hb:YeP ops listed fi i=true) (hQ:YaM Q) (hg:GB ops ρ g false) (hd:Nat.blt d C.N=true)
  (k:OD C M fi ops Q fuel (listed.setIfInBounds i true) ((d,.tp [])::ρ) η):OD C M fi ops Q (fuel+1) listed ρ η:=
 OD.take (ρ':=(d,.tp [])::ρ) (η':=η) (v:=fun _ _=>undef) hi hb hQ rfl (fun a w ⟨m,γ,ρc,hE,hR,hI⟩=>⟨.inr ⟨GB.wanted (o:=⟨some d,op,T,pos,af,g⟩) hE hR hg,rfl⟩,⟨m,γ,(d,undef)::ρc,hE.put undef (by simpa using hd),⟨rfl,.tp (vs:=[]) rfl (by simp),hR⟩,hI⟩⟩) k
def QD (C:Cx) (M:Bool) (fi:Nat) (ops:Array Oper) (Q:Qt) (fuel:Nat) (listed:Array Bool):Qt
 | .normal,a,w=>Yb9 C .any ops Q (RM M) fi fuel listed a w
 | e,a,w=>Q e a w
theorem QD.wp {o:Oper} {K:Act→World→Prop} {a w} (h:o.wp C.P a w K (QD C M fi ops Q fuel listed)):o.wp C.P a w K Q:=by
 unfold Oper.wp at *
 generalize (execOp a.eval o).run C.P w=r at *
 cases r with
 | ok n w'=>cases n<;>first|exact h|(exact Calls.mono h fun e w'' hh=>by cases e<;>exact hh)
 | halt e w'=>cases e<;>exact h
theorem QD.wpIn {o:Oper} {K:Act→World→Prop} {a w r n} (h:o.wpIn (WF r) n C.P a w K (QD C M fi ops Q fuel listed)):o.wpIn (WF r) n C.P a w K Q:=by
 unfold Oper.wpIn at *
 refine ⟨h.1,?_⟩;have h:=h.2;generalize (o.semAt (WF r).round a.eval).run C.P w=q at *
 cases q with
 | ok x w' =>
   cases x<;>simp only [Oper.uponIn] at h ⊢<;>first
    | exact h
    | exact ⟨h.1,CallsIn.mono h.2 (fun e w'' he=>by cases e<;>exact he)⟩
    | exact ⟨h.1,RoundIn.mono h.2 (fun e w'' he=>by cases e<;>exact he)⟩
 | halt x w'=>cases x<;>simp only [Oper.uponIn] at h ⊢<;>exact h
theorem YwM {o:Oper} {o':Oper} (hi:l[i]?=some o) (hg:GB l.toArray ρ o.guard true) (ho:o'={ o with guard:=none }) (h:Yli C l.toArray Q o' ρ η ρ' η') {a w} (hA:A2 C.N C.D C.B a w ρ η)
  (k:OD C M fi l.toArray Q fuel listed ρ' η'):C.O l.toArray Q i (fun a' w'=>(fi≤i∨RM M w w')∧Yb9 C .any l.toArray Q (RM M) fi fuel listed a' w') a w:=by
 obtain ⟨m,γ,ρc,hE,hR,hI⟩:=id hA;have hw:=GB.wanted (o:=o) hE hR hg;have h0:=h a w (fun a' w'=>(fi≤i∨RM M w w')∧Yb9 C .any l.toArray Q (RM M) fi fuel listed a' w') hA (fun a' w' hgr hA'=>⟨.inr fun _=>hgr,k a' w' hA'⟩);subst ho
 cases hr:C.r with
 | none =>
   rw [Cx.O_none hr];unfold wpOp;simp only [List.getElem?_toArray,hi];have h1:=h0.wp (Q:=Q);rw [if_pos (by simp [Region.wanted])] at h1;rw [if_pos hw];exact h1
 | some r =>
   rw [Cx.O_some hr];unfold wpOpIn;simp only [List.getElem?_toArray,hi];unfold OpK at h0;rw [if_pos (by simp [Region.wanted])] at h0;rw [if_pos hw];exact h0.wpIn
theorem YwI {o:Oper} {o':Oper} (hi:l[i]?=some o) (hg:GB l.toArray ρ o.guard true) (ho:o'={ o with guard:=none }) (hM:fi≤i∨M=false) (h:OL C l.toArray (QD C M fi l.toArray Q fuel listed) [o'] ρ η) {a w} (hA:A2 C.N C.D C.B a w ρ η) :
  C.O l.toArray Q i (fun a' w'=>(fi≤i∨RM M w w')∧Yb9 C .any l.toArray Q (RM M) fi fuel listed a' w') a w:=by
 obtain ⟨m,γ,ρc,hE,hR,hI⟩:=id hA;have hw:=GB.wanted (o:=o) hE hR hg;have h1:=h a w hA;have hM':∀ w',fi≤i∨RM M w w':=fun w'=>hM.imp id (fun e h=>by rw [e] at h;cases h)
 subst ho
 cases hr:C.r with
 | none =>
   rw [Cx.O_none hr];rw [Cx.L_none hr] at h1;unfold wpOp;simp only [List.getElem?_toArray,hi];unfold wpList at h1;rw [if_pos (by simp [Region.wanted])] at h1;rw [if_pos hw];rcases h1 with h2|h2
   ·exact .inl (Oper.wp_mono (Q:=Q) (fun a' w' h=>⟨hM' w',h⟩) (QD.wp h2))
   ·exact .inr h2
 | some r =>
   rw [Cx.O_some hr];rw [Cx.L_some hr] at h1;unfold wpOpIn;simp only [List.getElem?_toArray,hi];unfold wpListIn at h1;rw [if_pos (by simp [Region.wanted])] at h1;rw [if_pos hw];exact Oper.wpIn_mono (Q:=Q) (fun a' w' h=>⟨hM' w',h⟩) (QD.wpIn h1)
theorem Zab (h:OD C M fi ops Q fuel listed ρ η):TX C (QD C M fi ops Q fuel listed) .normal ρ η:=h
/-! ### The next one: just one may come, or one of two -/
def Yaa (C:Cx) (M:Bool) (fi:Nat) (l:List Oper) (Q:Qt) (fuel:Nat) (listed:Array Bool) (ρ:Ro) (η:Eta) (i:Nat):Prop:=
 ∀ a w,A2 C.N C.D C.B a w ρ η→C.O l.toArray Q i (fun a' w'=>(fi≤i∨RM M w w')∧Yb9 C .any l.toArray Q (RM M) fi fuel (listed.setIfInBounds i true) a' w') a w
theorem ZcV (hr:Region.ready .any l.toArray listed=[i]) (h:Yaa C M fi l Q fuel listed ρ η i):OD C M fi l.toArray Q (fuel+1) listed ρ η:=fun a w hA =>
 ⟨fun h=>(by rw [hr] at h;cases h),fun j hj=>by
  rw [hr] at hj;obtain rfl:j=i:=by simpa using hj
  exact h a w hA⟩
theorem ZdO {j:Nat} (hr:Region.ready .any l.toArray listed=[i,j]) (h:Yaa C M fi l Q fuel listed ρ η i) (h':Yaa C M fi l Q fuel listed ρ η j):OD C M fi l.toArray Q (fuel+1) listed ρ η:=fun a w hA =>
 ⟨fun h=>(by rw [hr] at h;cases h),fun k hk=>by
  rw [hr] at hk;rcases List.mem_cons.1 hk with rfl|hk
  ·exact h a w hA
  ·obtain rfl:k=j:=by simpa using hk
   exact h' a w hA⟩
theorem ZdP {j k:Nat} (hr:Region.ready .any l.toArray listed=[i,j,k]) (h:Yaa C M fi l Q fuel listed ρ η i) (h':Yaa C M fi l Q fuel listed ρ η j) (h'':Yaa C M fi l Q fuel listed ρ η k):OD C M fi l.toArray Q (fuel+1) listed ρ η:=fun a w hA =>
 ⟨fun h=>(by rw [hr] at h;cases h),fun q hq=>by
  rw [hr] at hq;rcases List.mem_cons.1 hq with rfl|hq
  ·exact h a w hA
  ·rcases List.mem_cons.1 hq with rfl|hq
   ·exact h' a w hA
   ·obtain rfl:q=k:=by simpa using hq
    exact h'' a w hA⟩
theorem OD.done (hr:Region.ready .any ops listed=[]) (h:TX C Q .normal ρ η):OD C M fi ops Q fuel listed ρ η:=fun a w hA=>by
 cases fuel with
 | zero=>exact ⟨hr,h a w hA⟩
 | succ n=>exact ⟨fun _=>h a w hA,by rw [hr];simp⟩
theorem Yaa.one {o o':Oper} (h:Yli C l.toArray Q o' ρ η ρ' η') (k:OD C M fi l.toArray Q fuel (listed.setIfInBounds i true) ρ' η') (hi:l[i]?=some o) (hg:GB l.toArray ρ o.guard true) (ho:o'={ o with guard:=none }):Yaa C M fi l Q fuel listed ρ η i:=
 fun _ _ hA=>YwM hi hg ho h hA k
theorem Yaa.any {o o':Oper} (h:OL C l.toArray (QD C M fi l.toArray Q fuel (listed.setIfInBounds i true)) [o'] ρ η) (hM:fi≤i∨M=false) (hi:l[i]?=some o) (hg:GB l.toArray ρ o.guard true) (ho:o'={ o with guard:=none }):Yaa C M fi l Q fuel listed ρ η i:=
 fun _ _ hA=>YwI hi hg ho hM h hA
theorem Yaa.off {o:Oper} (k:OD C M fi l.toArray Q fuel (listed.setIfInBounds i true) ((d,.tp [])::ρ) η) (hi:l[i]?=some o) (hg:GB l.toArray ρ o.guard false) (hd:o.dst=some d) (hN:Nat.blt d C.N=true):Yaa C M fi l Q fuel listed ρ η i:=by
 intro a w hA;obtain ⟨m,γ,ρc,hE,hR,hI⟩:=id hA;have hw:=GB.wanted (o:=o) hE hR hg;refine Cx.O_yields (S:=fun _=>True) (v:=undef) (by simpa using hi) (.inr ⟨hw,rfl⟩) trivial ⟨.inr (RM.refl M w),k _ _ ⟨m,γ,(d,undef)::ρc,?_,⟨rfl,.tp (vs:=[]) rfl (by simp),hR⟩,hI⟩⟩;rw [hd];exact hE.put undef (by simpa using hN)
end
section
variable {C:Cx} {M:Bool} {fi fuel n id:Nat} {l:List Oper} {Q:Qt} {listed:Array Bool} {ρ ρ':Ro} {η η':Eta} {d T:Nat} {pos:String} {af:Array Edge} {op:Op} {g:Option (Nat × Bool)} {u:AV}
theorem OD.st (i:Nat) (k:OD C M fi l.toArray Q fuel (listed.setIfInBounds i true) ((d,u)::ρ) η) (hi:l.toArray[i]?=some ⟨some d,op,T,pos,af,g⟩:=by with_unfolding_all exact rfl) (hb:YeP l.toArray listed fi i=true:=by kernel_rfl) (hQ:YaM Q:=by with_unfolding_all exact fun _ _ _ _ _ h=>h)
  (hg:GB l.toArray ρ g true:=by first|with_unfolding_all exact rfl|with_unfolding_all exact ⟨_,_,rfl,rfl,rfl⟩) (h:Yaj C.P C.N C.D op ρ η u M:=by exact gv) (hd:Nat.blt d C.N=true:=by with_unfolding_all exact rfl):OD C M fi l.toArray Q (fuel+1) listed ρ η:=
 ZdN hi hb hQ hg h hd k
theorem OD.of (i:Nat) (k:OD C M fi l.toArray Q fuel (listed.setIfInBounds i true) ((d,.tp [])::ρ) η) (hi:l.toArray[i]?=some ⟨some d,op,T,pos,af,g⟩:=by with_unfolding_all exact rfl) (hb:YeP l.toArray listed fi i=true:=by kernel_rfl) (hQ:YaM Q:=by with_unfolding_all exact fun _ _ _ _ _ h=>h)
  (hg:GB l.toArray ρ g false:=by with_unfolding_all exact ⟨_,_,rfl,rfl,rfl⟩) (hd:Nat.blt d C.N=true:=by with_unfolding_all exact rfl):OD C M fi l.toArray Q (fuel+1) listed ρ η:=
 OD.off hi hb hQ hg hd k
theorem Zaw (t:Nat) {p:Prop} [Decidable p] {ops:Array Oper} (h1:p→OD C M fi ops Q fuel listed ((t,bool true)::ρ) η) (h2:¬p→OD C M fi ops Q fuel listed ((t,bool false)::ρ) η) (hl:lk ρ t=some (.raw (.bool (decide p))):=by with_unfolding_all exact rfl):OD C M fi ops Q fuel listed ρ η:=by
 intro a w hA;by_cases h:p
 ·exact h1 h a w (hA.know hl fun m w γ v hr=>by simpa [h] using hr)
 ·exact h2 h a w (hA.know hl fun m w γ v hr=>by simpa [h] using hr)
theorem OD.n1 {dst:Option Tmp} (i:Nat) (h:Yli C l.toArray Q ⟨dst,op,T,pos,af,none⟩ ρ η ρ' η') (k:OD C M fi l.toArray Q fuel (listed.setIfInBounds i true) ρ' η') (hi:l[i]?=some ⟨dst,op,T,pos,af,g⟩:=by with_unfolding_all exact rfl) (hg:GB l.toArray ρ g true:=by first|with_unfolding_all exact rfl|with_unfolding_all exact ⟨_,_,rfl,rfl,rfl⟩) (hr:Region.ready .any l.toArray listed=[i]:=by kernel_rfl):OD C M fi l.toArray Q (fuel+1) listed ρ η:=
 ZcV hr (.one h k hi hg rfl)
theorem Zac {dst:Option Tmp} (i:Nat) (k:OL C l.toArray (QD C M fi l.toArray Q fuel (listed.setIfInBounds i true)) [⟨dst,op,T,pos,af,none⟩] ρ η) (hi:l[i]?=some ⟨dst,op,T,pos,af,g⟩:=by with_unfolding_all exact rfl) (hg:GB l.toArray ρ g true:=by first|with_unfolding_all exact rfl|with_unfolding_all exact ⟨_,_,rfl,rfl,rfl⟩) (hM:fi≤i∨M=false:=by first|exact .inl (Nat.le_of_ble_eq_true rfl)|exact .inr rfl) (hr:Region.ready .any l.toArray listed=[i]:=by kernel_rfl):OD C M fi l.toArray Q (fuel+1) listed ρ η:=
 ZcV hr (.any k hM hi hg rfl)
theorem Zaa {ops:Array Oper} (h:TX C Q .normal ρ η) (hr:Region.ready .any ops listed=[]:=by kernel_rfl):OD C M fi ops Q fuel listed ρ η:=OD.done hr h
theorem OD.n2 (i j:Nat) (h:Yaa C M fi l Q fuel listed ρ η i) (h':Yaa C M fi l Q fuel listed ρ η j) (hr:Region.ready .any l.toArray listed=[i,j]:=by kernel_rfl):OD C M fi l.toArray Q (fuel+1) listed ρ η:=ZdO hr h h'
theorem ZaJ (i j k:Nat) (h:Yaa C M fi l Q fuel listed ρ η i) (h':Yaa C M fi l Q fuel listed ρ η j) (h'':Yaa C M fi l Q fuel listed ρ η k) (hr:Region.ready .any l.toArray listed=[i,j,k]:=by kernel_rfl):OD C M fi l.toArray Q (fuel+1) listed ρ η:=ZdP hr h h' h''
theorem ZbU {dst:Option Tmp} {i:Nat} (h:Yli C l.toArray Q ⟨dst,op,T,pos,af,none⟩ ρ η ρ' η') (k:OD C M fi l.toArray Q fuel (listed.setIfInBounds i true) ρ' η') (hi:l[i]?=some ⟨dst,op,T,pos,af,g⟩:=by with_unfolding_all exact rfl) (hg:GB l.toArray ρ g true:=by first|with_unfolding_all exact rfl|with_unfolding_all exact ⟨_,_,rfl,rfl,rfl⟩):Yaa C M fi l Q fuel listed ρ η i:=.one h k hi hg rfl
theorem Yaa.a {dst:Option Tmp} {i:Nat} (k:OL C l.toArray (QD C M fi l.toArray Q fuel (listed.setIfInBounds i true)) [⟨dst,op,T,pos,af,none⟩] ρ η) (hi:l[i]?=some ⟨dst,op,T,pos,af,g⟩:=by with_unfolding_all exact rfl) (hg:GB l.toArray ρ g true:=by first|with_unfolding_all exact rfl|with_unfolding_all exact ⟨_,_,rfl,rfl,rfl⟩) (hM:fi≤i∨M=false:=by first|exact .inl (Nat.le_of_ble_eq_true rfl)|exact .inr rfl):Yaa C M fi l Q fuel listed ρ η i:=.any k hM hi hg rfl
theorem One.st {ops:Array Oper} (h:Yaj C.P C.N C.D op ρ η u:=by exact gv) (hd:Nat.blt d C.N=true:=by with_unfolding_all exact rfl):Yli C ops Q ⟨some d,op,T,pos,af,none⟩ ρ η ((d,u)::ρ) η:=by
 rintro a w Kc ⟨m,γ,ρc,hE,hR,hI⟩ k;obtain ⟨v,hv,hrun⟩:=h hE hR hI.heap;exact wl_value rfl (hrun (fun _=>.refl _ _) d T pos af none) (k _ _ (RM.refl true w rfl) ⟨m,γ,(d,v)::ρc,hE.put v (by simpa using hd),⟨rfl,hv,hR⟩,hI⟩)
theorem ZcW {P:Program} {ops:Array Oper} {f:Nat} {fn:Func} {us as:List AV} {r r2} {η1' η2:Eta} {n:Nat} {args:List Operand} {at_:Array TypeId} (hs:Spec P f as [] r η1') (hf:P.funcs[f]?=some fn)
  (hP : C.P = P := by with_unfolding_all exact rfl) (hb : (fn.body.isNone || fn.name == "runtime.NumGoroutine") = false := by with_unfolding_all exact rfl) (hl : Yc6 ρ args = some us := by with_unfolding_all exact rfl)
  (hle:LEs (ts []) us as:=by repeat' (first|with_unfolding_all exact trivial|exact LE.ren (by with_unfolding_all exact rfl)|with_unfolding_all exact LE.sl|with_unfolding_all exact LE.nil (by decide)|with_unfolding_all refine And.intro ?_ ?_)) (hd:Nat.blt d C.N=true:=by with_unfolding_all exact rfl)
  (hk:η.length=n:=by (try dsimp only [List.length])<;>exact rfl) (hr:ren (fun j=>some (n+j)) r=r2:=by (try dsimp only [ren,ren0,ren1,ren2,List.map,Nat.add_zero,Nat.zero_add,Nat.reduceAdd])<;>exact rfl)
  (hη:η++η1'.map (renO (fun j=>some (n+j)))=η2:=by (try dsimp only [renO,ren,ren0,ren1,ren2,List.map,List.cons_append,List.nil_append,Nat.add_zero,Nat.zero_add,Nat.reduceAdd])<;>exact rfl) :
  Yli C ops Q ⟨some d,.call ⟨.value (.func f),args.toArray,at_⟩,T,pos,af,none⟩ ρ η ((d,r2)::ρ) η2:=by
 subst hk hP;exact One.call hs hf hb hl hle hd (by rw [Yc2];exact hr) (by rw [Yc2];exact hη)
theorem Zah {P:Program} {f:Nat} {fn:Func} {us as:List AV} {r r2} {η1' η2:Eta} {q:Nat} {args:List Operand} {at_:Array TypeId} (i:Nat) (hs:Spec P f as [] r η1') (hf:P.funcs[f]?=some fn) (k:OD C M fi l.toArray Q fuel (listed.setIfInBounds i true) ((d,r2)::ρ) η2)
  (hi:l[i]?=some ⟨some d,.call ⟨.value (.func f),args.toArray,at_⟩,T,pos,af,g⟩:=by with_unfolding_all exact rfl) (hg:GB l.toArray ρ g true:=by first|with_unfolding_all exact rfl|with_unfolding_all exact ⟨_,_,rfl,rfl,rfl⟩)
  (hP : C.P = P := by with_unfolding_all exact rfl) (hb : (fn.body.isNone || fn.name == "runtime.NumGoroutine") = false := by with_unfolding_all exact rfl) (hl : Yc6 ρ args = some us := by with_unfolding_all exact rfl)
  (hle:LEs (ts []) us as:=by repeat' (first|with_unfolding_all exact trivial|exact LE.ren (by with_unfolding_all exact rfl)|with_unfolding_all exact LE.sl|with_unfolding_all exact LE.nil (by decide)|with_unfolding_all refine And.intro ?_ ?_)) (hd:Nat.blt d C.N=true:=by with_unfolding_all exact rfl)
  (hk:η.length=q:=by (try dsimp only [List.length])<;>exact rfl) (hr:ren (fun j=>some (q+j)) r=r2:=by (try dsimp only [ren,ren0,ren1,ren2,List.map,Nat.add_zero,Nat.zero_add,Nat.reduceAdd])<;>exact rfl)
  (hη:η++η1'.map (renO (fun j=>some (q+j)))=η2:=by (try dsimp only [renO,ren,ren0,ren1,ren2,List.map,List.cons_append,List.nil_append,Nat.add_zero,Nat.zero_add,Nat.reduceAdd])<;>exact rfl)
  (hrd:Region.ready .any l.toArray listed=[i]:=by kernel_rfl):OD C M fi l.toArray Q (fuel+1) listed ρ η:=OD.n1 i (ZcW hs hf hP hb hl hle hd hk hr hη) k hi hg hrd
theorem ZaN {P:Program} {f:Nat} {fn:Func} {us as:List AV} {r r2} {η1' η2:Eta} {q:Nat} {args:List Operand} {at_:Array TypeId} {i:Nat} (hs:Spec P f as [] r η1') (hf:P.funcs[f]?=some fn) (k:OD C M fi l.toArray Q fuel (listed.setIfInBounds i true) ((d,r2)::ρ) η2)
  (hi:l[i]?=some ⟨some d,.call ⟨.value (.func f),args.toArray,at_⟩,T,pos,af,g⟩:=by with_unfolding_all exact rfl) (hg:GB l.toArray ρ g true:=by first|with_unfolding_all exact rfl|with_unfolding_all exact ⟨_,_,rfl,rfl,rfl⟩)
  (hP : C.P = P := by with_unfolding_all exact rfl) (hb : (fn.body.isNone || fn.name == "runtime.NumGoroutine") = false := by with_unfolding_all exact rfl) (hl : Yc6 ρ args = some us := by with_unfolding_all exact rfl)
  (hle:LEs (ts []) us as:=by repeat' (first|with_unfolding_all exact trivial|exact LE.ren (by with_unfolding_all exact rfl)|with_unfolding_all exact LE.sl|with_unfolding_all exact LE.nil (by decide)|with_unfolding_all refine And.intro ?_ ?_)) (hd:Nat.blt d C.N=true:=by with_unfolding_all exact rfl)
  (hk:η.length=q:=by (try dsimp only [List.length])<;>exact rfl) (hr:ren (fun j=>some (q+j)) r=r2:=by (try dsimp only [ren,ren0,ren1,ren2,List.map,Nat.add_zero,Nat.zero_add,Nat.reduceAdd])<;>exact rfl)
  (hη:η++η1'.map (renO (fun j=>some (q+j)))=η2:=by (try dsimp only [renO,ren,ren0,ren1,ren2,List.map,List.cons_append,List.nil_append,Nat.add_zero,Nat.zero_add,Nat.reduceAdd])<;>exact rfl):Yaa C M fi l Q fuel listed ρ η i:=ZbU (ZcW hs hf hP hb hl hle hd hk hr hη) k hi hg
theorem Yaa.s {i:Nat} (k:OD C M fi l.toArray Q fuel (listed.setIfInBounds i true) ((d,u)::ρ) η) (hi:l[i]?=some ⟨some d,op,T,pos,af,g⟩:=by with_unfolding_all exact rfl) (hg:GB l.toArray ρ g true:=by first|with_unfolding_all exact rfl|with_unfolding_all exact ⟨_,_,rfl,rfl,rfl⟩) (h:Yaj C.P C.N C.D op ρ η u:=by exact gv) (hd:Nat.blt d C.N=true:=by with_unfolding_all exact rfl):Yaa C M fi l Q fuel listed ρ η i:=ZbU (One.st h hd) k hi hg
end
theorem ZdV {C:Cx} {ρ:Ro} {η:Eta} {i j:Nat} {u v:AV} (hne:Nat.beq i j=false):Wk C ((i,u)::(j,v)::ρ) η ((j,v)::(i,u)::ρ) η:=by
 rintro a w ⟨m,γ,ρc,hE,hR,hI⟩;match ρc,hR with
 | (i',u')::(j',v')::r,⟨e1,h1,e2,h2,h3⟩ =>
   subst e1 e2;refine ⟨m,γ,(j',v')::(i',u')::r,⟨hE.size,hE.defers,fun t x hx=>hE.look t x ?_⟩,⟨rfl,h2,rfl,h1,h3⟩,hI⟩;simp only [W.look] at hx ⊢
   cases h4:Nat.beq i' t with
   | false=>rw [h4] at hx;exact hx
   | true =>
     rw [h4] at hx;have:Nat.beq j' t=false:=by
      have:=Nat.eq_of_beq_eq_true h4
      subst this
      cases h5:Nat.beq j' i' with
      | false=>rfl
      | true=>rw [Nat.eq_of_beq_eq_true h5] at hne;simp at hne
     rw [this] at hx;exact hx
section
variable {C:Cx} {Q:Qt} {ρ:Ro} {η:Eta} {Ti Tj di dj:Nat} {posi posj:String} {afi afj:Array Edge} {opi opj:Op} {vi vj:AV} {M:Bool} {fi fuel:Nat} {l:List Oper} {listed:Array Bool} {gi gj:Option (Nat × Bool)}
theorem ZdW {ops:Array Oper} {ρ':Ro} (h:Wk C ρ η ρ' η) (k:OD C M fi ops Q fuel listed ρ' η):OD C M fi ops Q fuel listed ρ η:=fun a w hA=>k a w (h a w hA)
theorem Zbf (i j:Nat) (k:OD C M fi l.toArray Q fuel ((listed.setIfInBounds i true).setIfInBounds j true) ((dj,vj)::(di,vi)::ρ) η)
  (hi:l[i]?=some ⟨some di,opi,Ti,posi,afi,gi⟩:=by with_unfolding_all exact rfl) (hj:l[j]?=some ⟨some dj,opj,Tj,posj,afj,gj⟩:=by with_unfolding_all exact rfl)
  (hgi:GB l.toArray ρ gi true:=by first|with_unfolding_all exact rfl|with_unfolding_all exact ⟨_,_,rfl,rfl,rfl⟩) (hgj:GB l.toArray ρ gj true:=by first|with_unfolding_all exact rfl|with_unfolding_all exact ⟨_,_,rfl,rfl,rfl⟩)
  (hvi:Yaj C.P C.N C.D opi ρ η vi:=by exact gv) (hvj:Yaj C.P C.N C.D opj ρ η vj:=by exact gv)
  (hgi':GB l.toArray ((dj,vj)::ρ) gi true:=by first|with_unfolding_all exact rfl|with_unfolding_all exact ⟨_,_,rfl,rfl,rfl⟩) (hgj':GB l.toArray ((di,vi)::ρ) gj true:=by first|with_unfolding_all exact rfl|with_unfolding_all exact ⟨_,_,rfl,rfl,rfl⟩)
  (hvi':Yaj C.P C.N C.D opi ((dj,vj)::ρ) η vi:=by exact gv) (hvj':Yaj C.P C.N C.D opj ((di,vi)::ρ) η vj:=by exact gv)
  (hdi:Nat.blt di C.N=true:=by with_unfolding_all exact rfl) (hdj:Nat.blt dj C.N=true:=by with_unfolding_all exact rfl) (hne:Nat.beq di dj=false:=by with_unfolding_all exact rfl) (hij:Nat.beq i j=false:=by with_unfolding_all exact rfl)
  (hr:Region.ready .any l.toArray listed=[i,j]:=by kernel_rfl) (hr1:Region.ready .any l.toArray (listed.setIfInBounds i true)=[j]:=by kernel_rfl) (hr2:Region.ready .any l.toArray (listed.setIfInBounds j true)=[i]:=by kernel_rfl) :
  OD C M fi l.toArray Q (fuel+1+1) listed ρ η:=by
 have hc:(listed.setIfInBounds i true).setIfInBounds j true=(listed.setIfInBounds j true).setIfInBounds i true:=by
  refine Array.setIfInBounds_comm true true ?_;intro e;subst e;simp at hij
 refine OD.n2 i j ?_ ?_ hr
 ·exact Yaa.s (OD.n1 j (One.st hvj' hdj) k hj hgj' hr1) hi hgi hvi hdi
 ·rw [hc] at k;exact Yaa.s (OD.n1 i (One.st hvi' hdi) (ZdW (ZdV hne) k) hi hgi' hr2) hj hgj hvj hdj
end
end Go.V
