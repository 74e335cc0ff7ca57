/- Lemmas for the claim; no conditions. -/
import Derived.Test.YtdjhogobbbnddaaGreatC6
import Derived.RangeFuncNested
import Derived.RangeFuncFrom
import Derived.RangeFuncCalls
import Derived.OwnWalkIn
import Derived.LoopNIn
import Derived.LoopIn
namespace Go.W
open Go
abbrev WF (r:Option Nat):Fence:={ Fence.wide with round:=r }
section
variable {P:Program} {ops:Array Oper} {Q:Exit→Act→World→Prop} {Kc:Act→World→Prop} {w:World} {a:Act} {r:Option Nat} {n:Nat}
theorem YfD {o:Oper} {nx:Next} {w':World} (h:(execOp a.eval o).run P w=.ok nx w') (hn:∀ d,nx≠.defer d):∀ c,o.op≠.defer c:=by
 intro c hc;simp only [execOp,hc,Sem.run_bind] at h
 cases hr:(resolve a.eval c o.type).run P w with
 | ok d w1=>rw [hr] at h;simp [Result.andThen] at h;exact hn d h.1.symm
 | halt e w1=>rw [hr] at h;simp [Result.andThen] at h
theorem Yry.wpIn {o:Oper} {K:Act→World→Prop} (h:Yry P o K a w):o.wpIn (WF r) n P a w K Q:=by
 refine ⟨fun _ _=>trivial,?_⟩;rcases h with ⟨v,w',h1,h2⟩|⟨w',h1,h2⟩|⟨f,args,h1,h2⟩
 ·rw [Oper.semAt_plain _ _ _ (YfD h1 (by simp)),h1];exact h2
 ·rw [Oper.semAt_plain _ _ _ (YfD h1 (by simp)),h1];exact h2
 ·rw [Oper.semAt_plain _ _ _ (YfD h1 (by simp)),h1,Oper.uponIn_enter];refine ⟨fun hd=>(by cases hd),CallsIn.mono (show CallsIn (WF r) (n-1) P f args w _ from (callsIn_wide (n:=n-1)).2 h2) (fun e w'' ⟨v,he,hk⟩=>?_)⟩;subst he;exact hk
theorem OpK.wpIn {o:Oper} {rest:List Oper} (h:OpK P ops Q o (wpListIn (WF r) n P ops Q rest) a w):wpListIn (WF r) n P ops Q (o::rest) a w:=by
 unfold OpK at h;unfold wpListIn;split
 ·rename_i hw;rw [if_pos hw] at h;exact h.wpIn
 ·rename_i hw;rw [if_neg hw] at h;exact ⟨fun _ _=>trivial,h⟩
/-! ### Control -/
variable {F:Fence} {A B:Code} {id id':Nat} {lo:List Oper} {x:Operand} {N:Nat} {D:List Deferred} {ρ:List (Nat × Value)} {nx:Act→World→Prop}
theorem i_lcons {o:Oper} {rest:List Oper} (h:OpK P ops Q o (wpListIn (WF r) n P ops Q rest) a w):wpListIn (WF r) n P ops Q (o::rest) a w:=h.wpIn
/-! ### A function that holds a range over a function -/
theorem enterM {f:FuncId} {fn:Func} {c:Code} {args:Array Value} {R:Ending→World→Prop} (k:Nat) (ρ:List (Nat × Value)) (hf:P.funcs[f]?=some fn) (hb:fn.body=some c) (hN:fn.ntmps=N)
  (hρ:zipA 0 args.toList=ρ) (ha:args.size≤N) (h:∀ a,Env N [] a ρ→c.wp P (bodyPostM Fence.wide k P fn R) a w):Calls P f args w R:=by
 refine callsIn_wide.1 (callsIn_of_wp_marks (F:=Fence.wide) (n:=k) hf hb trivial (wpIn_wide.2 (h _ ⟨by simp [hN];omega,rfl,?_⟩)));intro t v ht;subst hρ;obtain ⟨_,h2⟩:=zipA_look args.toList 0 t v ht;have h3:args[t]?=some v:=by simpa using h2
 have hlt:t < args.size:=by
  rcases Array.getElem?_eq_some_iff.1 h3 with ⟨q,_⟩;exact q
 simp only [Array.getElem?_append,hlt,if_true];exact h3
theorem retM2 {fn:Func} {R:Ending→World→Prop} {k t1 t2 b:Nat} {v1 v2:Value} {A:Array Value} (hE:Env N [{ target:=.collected b,args:=A }] a ρ) (hr:fn.results=#[.tmp t1,.tmp t2]) (h1:look ρ t1=some v1) (h2:look ρ t2=some v2)
  (hb:w.heap[b]?=some (.deferred (some []))) (hR:R (.returned (.tuple #[v1,v2])) (w.putObj b (.deferred none))):bodyPostM Fence.wide k P fn R .ret a w:=by
 show LeavesInM Fence.wide k P fn a.tmps R a.defers .returning w;rw [hE.defers];refine ⟨by simp,.inl ⟨b,_,rfl,run_takeDeferred hb,?_⟩⟩;exact ⟨_,by rw [results_tmp2 hr a.tmps P _,hE.get h1,hE.get h2],hR⟩
theorem retM0 {fn:Func} {R:Ending→World→Prop} {k b:Nat} {A:Array Value} (hE:Env N [{ target:=.collected b,args:=A }] a ρ) (hr:fn.results=#[])
  (hb:w.heap[b]?=some (.deferred (some []))) (hR:R (.returned (.tuple #[])) (w.putObj b (.deferred none))):bodyPostM Fence.wide k P fn R .ret a w:=by
 show LeavesInM Fence.wide k P fn a.tmps R a.defers .returning w;rw [hE.defers];exact ⟨by simp,.inl ⟨b,_,rfl,run_takeDeferred hb,_,results_none hr _ P _,hR⟩⟩
theorem i_yield {ly d T:Nat} {lst:List Operand} {vs:List Value} {at_:Array TypeId} {pos:String} {af:Array Edge} {rest:List Oper} {K:Bool→World→Prop} (hF:∀ f,F.fn f) (hdp:F.depth=none) (hE:Env N D a ρ) (hx:ev ρ x=some (.func (.yield ly) #[] #[])) (hl:evs ρ lst=some vs) (hd:d < N)
  (hY:YieldAt F (n-1) P ly vs.toArray w fun e w''=>∃ b,e=.returned (.bool b)∧K b w'')
  (k:∀ b w'',K b w''→∀ a',Env N D a' ((d,.bool b)::ρ)→wpListIn F n P ops Q rest a' w'') :
  wpListIn F n P ops Q (⟨some d,.call ⟨.value x,lst.toArray,at_⟩,T,pos,af,none⟩::rest) a w:=by
 obtain ⟨fn,tmps,assign,body,hy,hR⟩:=hY;unfold wpListIn;rw [if_pos (by simp [Region.wanted])];refine ⟨fun f _=>hF f,?_⟩;rw [Oper.semAt_plain _ _ _ (by simp)];have hrun:(execOp a.eval ⟨some d,.call ⟨.value x,lst.toArray,at_⟩,T,pos,af,none⟩).run P w=.ok (.round ly fn tmps assign body) w:=by
  simp [execOp,resolve,hE.ev hx,Deferred.ofValue,invoke,hE.evs hl,hy]
 rw [hrun,Oper.uponIn_round];refine ⟨fun h=>(by rw [hdp] at h;cases h),hR.mono fun e w'' ⟨b,he,hk⟩=>?_⟩;subst he;exact k b w'' hk _ (hE.put _ hd)
end
end Go.W
namespace Go.V
open Go Go.W
structure Cx where
 P:Program
 tab:Tab
 hT:YaX P tab
 hm:P.follows .mixedOrders=true
 N:Nat
 D:List Deferred
 B:Base
 n:Nat
 hn:B.γ.length=n
 r:Option (Option Nat):=none
 k:Nat:=0
def Cx.L (C:Cx) (ops:Array Oper) (Q:Exit→Act→World→Prop) (l:List Oper):Act→World→Prop:=match C.r with
 | none=>wpList C.P ops Q l
 | some r=>wpListIn (WF r) C.k C.P ops Q l
def Cx.W (C:Cx) (c:Code) (Q:Exit→Act→World→Prop):Act→World→Prop:=match C.r with
 | none=>c.wp C.P Q
 | some r=>c.wpIn (WF r) C.k C.P Q
section
variable {C:Cx} {ops:Array Oper} {Q:Exit→Act→World→Prop} {a:Act} {w:World}
theorem Cx.L_none (h:C.r=none):C.L=wpList C.P:=by funext ops Q l;unfold Cx.L;rw [h]
theorem Cx.L_some {r} (h:C.r=some r):C.L=wpListIn (WF r) C.k C.P:=by funext ops Q l;unfold Cx.L;rw [h]
theorem Cx.W_none (h:C.r=none):C.W=fun c Q=>c.wp C.P Q:=by funext c Q;unfold Cx.W;rw [h]
theorem Cx.W_some {r} (h:C.r=some r):C.W=fun c Q=>c.wpIn (WF r) C.k C.P Q:=by funext c Q;unfold Cx.W;rw [h]
theorem Cx.lcons {o:Oper} {rest:List Oper} (h:OpK C.P ops Q o (C.L ops Q rest) a w):C.L ops Q (o::rest) a w:=by
 cases hr:C.r with
 | none=>rw [Cx.L_none hr] at h ⊢;exact W.lcons h
 | some r=>rw [Cx.L_some hr] at h ⊢;exact W.i_lcons h
theorem Cx.nil (h:Q .normal a w):C.L ops Q [] a w:=by
 cases hr:C.r with
 | none=>rw [Cx.L_none hr];exact h
 | some r=>rw [Cx.L_some hr];exact h
variable {A K:Code} {id:Nat} {x:Operand}
theorem Cx.region {l:List Oper} (h:C.L l.toArray Q l a w):C.W (.region id l.toArray false) Q a w:=by
 cases hr:C.r with
 | none=>rw [Cx.L_none hr] at h;rw [Cx.W_none hr];exact wp_region_lit h
 | some r=>rw [Cx.L_some hr] at h;rw [Cx.W_some hr];exact wpIn_region_lit h
theorem Cx.seq (h:C.W A (Exit.then (C.W K Q) Q) a w):C.W (A.seq K) Q a w:=by
 cases hr:C.r with
 | none=>rw [Cx.W_none hr] at h ⊢;exact wp_seq h
 | some r=>rw [Cx.W_some hr] at h ⊢;exact wpIn_seq h
theorem Cx.skip (h:Q .normal a w):C.W .skip Q a w:=by
 cases hr:C.r with
 | none=>rw [Cx.W_none hr];exact wp_skip h
 | some r=>rw [Cx.W_some hr];exact wpIn_skip h
theorem Cx.exit (h:Q (.exit id) a w):C.W (.exit id) Q a w:=by
 cases hr:C.r with
 | none=>rw [Cx.W_none hr];exact wp_exit h
 | some r=>rw [Cx.W_some hr];exact wpIn_exit h
theorem Cx.ret (h:Q .ret a w):C.W .ret Q a w:=by
 cases hr:C.r with
 | none=>rw [Cx.W_none hr];exact wp_ret h
 | some r=>rw [Cx.W_some hr];exact wpIn_ret h
theorem Cx.label {n:Nat} (h:Q .normal a w):C.W (.label n) Q a w:=by
 cases hr:C.r with
 | none=>rw [Cx.W_none hr];exact wp_label h
 | some r=>rw [Cx.W_some hr];exact wpIn_label h
theorem Cx.block (h:C.W A (Exit.inBlock id Q) a w):C.W (.block id A) Q a w:=by
 cases hr:C.r with
 | none=>rw [Cx.W_none hr] at h ⊢;exact wp_block h
 | some r=>rw [Cx.W_some hr] at h ⊢;exact wpIn_block h
theorem Cx.cond {t:Bool} (he:a.eval x=.bool t) (h1:t=true→C.W A Q a w) (h2:t=false→C.W K Q a w):C.W (.cond x A K) Q a w:=by
 cases hr:C.r with
 | none=>rw [Cx.W_none hr] at h1 h2 ⊢;exact wp_cond_split he h1 h2
 | some r =>
   rw [Cx.W_some hr] at h1 h2 ⊢
   cases t with
   | true=>exact wpIn_cond_true he (h1 rfl)
   | false=>exact wpIn_cond_false he (h2 rfl)
theorem Cx.mono {Q':Exit→Act→World→Prop} (h:C.W A Q a w) (hq:∀ e a w,Q e a w→Q' e a w):C.W A Q' a w:=by
 cases hr:C.r with
 | none=>rw [Cx.W_none hr] at h ⊢;exact wp_mono h hq
 | some r=>rw [Cx.W_some hr] at h ⊢;exact wpIn_mono h hq
theorem Cx.loop {S:Type} (I:S→Act→World→Prop) (μ:S→Nat) (s0:S) (h0:I s0 a w)
  (round:∀ s a w,I s a w→C.W A (Exit.then (fun a' w'=>∃ s',I s' a' w'∧μ s' < μ s) Q) a w):C.W (.loop A) Q a w:=by
 cases hr:C.r with
 | none=>rw [Cx.W_none hr] at round ⊢;exact W.loop I μ s0 h0 round
 | some r =>
   rw [Cx.W_some hr] at round ⊢;have key:∀ n s a w,μ s < n→I s a w→Code.roundsIn (WF r) C.k C.P A Q n a w:=by
    intro n;induction n with
    | zero=>intro s a w h;omega
    | succ n ih =>
      intro s a w hn hI;rw [roundsIn_succ];refine wpIn_mono (round s a w hI) fun e a' w' q=>?_
      cases e with
      | normal=>obtain ⟨s',h1,h2⟩:=q;exact ih s' a' w' (by omega) h1
      | _=>exact q
   exact wpIn_loop_rounds _ (key (μ s0+1) s0 a w (by omega) h0)
end
abbrev Ro:=List (Nat × AV)
abbrev Eta:=List AO
abbrev Qt:=Exit→Act→World→Prop
def OL (C:Cx) (ops:Array Oper) (Q:Qt) (l:List Oper) (ρ:Ro) (η:Eta):Prop:=∀ a w,A2 C.N C.D C.B a w ρ η→C.L ops Q l a w
def TC (C:Cx) (Q:Qt) (c:Code) (ρ:Ro) (η:Eta):Prop:=∀ a w,A2 C.N C.D C.B a w ρ η→C.W c Q a w
def TX (C:Cx) (Q:Qt) (e:Exit) (ρ:Ro) (η:Eta):Prop:=∀ a w,A2 C.N C.D C.B a w ρ η→Q e a w
section
variable {C:Cx} {ops:Array Oper} {Q:Qt} {ρ ρ':Ro} {η η':Eta} {rest:List Oper} {T d:Nat} {pos:String} {af:Array Edge} {op:Op} {x:Operand}
def Yli (C:Cx) (ops:Array Oper) (Q:Qt) (o:Oper) (ρ:Ro) (η:Eta) (ρ':Ro) (η':Eta):Prop:=
 ∀ a w K,A2 C.N C.D C.B a w ρ η→(∀ a' w',w.grownBy w' none→A2 C.N C.D C.B a' w' ρ' η'→K a' w')→OpK C.P ops Q o K a w
theorem OL.one {o:Oper} (h:Yli C ops Q o ρ η ρ' η') (k:OL C ops Q rest ρ' η'):OL C ops Q (o::rest) ρ η:=fun a w hA=>Cx.lcons (h a w _ hA fun a' w' _ hA'=>k a' w' hA')
/-! ## Operations that give -/
theorem ZaG {u} (h:Yaj C.P C.N C.D op ρ η u true) (hd:Nat.blt d C.N=true) (k:OL C ops Q rest ((d,u)::ρ) η):OL C ops Q (⟨some d,op,T,pos,af,none⟩::rest) ρ η:=by
 rintro a w ⟨m,γ,ρc,hE,hR,hI⟩;obtain ⟨v,hv,hrun⟩:=h hE hR hI.heap;exact Cx.lcons (wl_value rfl (hrun (fun _=>.refl _ _) d T pos af none) (k _ _ ⟨m,γ,(d,v)::ρc,hE.put v (by simpa using hd),⟨rfl,hv,hR⟩,hI⟩))
/-! ### Guards -/
theorem OL.guard {dst:Option Tmp} {j dj:Nat} {b t:Bool} {oj:Oper} (hj:ops[j]?=some oj) (hd:oj.dst=some dj) (hl:lk ρ dj=some (.raw (.bool t)))
  (h1:t=b→OL C ops Q (⟨dst,op,T,pos,af,none⟩::rest) ρ η) (h2:t=!b→∀ e,dst=some e→Nat.blt e C.N=true→OL C ops Q rest ((e,.tp [])::ρ) η) (hN:∃ e,dst=some e∧Nat.blt e C.N=true) :
  OL C ops Q (⟨dst,op,T,pos,af,some (j,b)⟩::rest) ρ η:=by
 rintro a w ⟨m,γ,ρc,hE,hR,hI⟩;obtain ⟨v,g1,g2⟩:=hR.look hl;rw [g2.raw_eq] at g1;by_cases hb:t=b
 ·subst hb;have k:=h1 rfl a w ⟨m,γ,ρc,hE,hR,hI⟩;have hy:yielded ops a.tmps j=some t:=by simp [yielded,hj,hd,hE.look _ _ g1]
  have e1:(Region.wanted ⟨dst,op,T,pos,af,some (j,t)⟩ (yielded ops a.tmps))=true:=by simp [Region.wanted,hy]
  have e2:(Region.wanted ⟨dst,op,T,pos,af,none⟩ (yielded ops a.tmps))=true:=by simp [Region.wanted]
  cases hr:C.r with
  | none =>
    rw [Cx.L_none hr] at k ⊢;unfold wpList at k ⊢;rw [if_pos e2] at k;rw [if_pos e1];exact k
  | some r =>
    rw [Cx.L_some hr] at k ⊢;unfold wpListIn at k ⊢;rw [if_pos e2] at k;rw [if_pos e1];exact k
 ·obtain ⟨e,rfl,he⟩:=hN;have hb':t=!b:=by cases t<;>cases b<;>simp_all
  refine Cx.lcons (YpO hE hj hd g1 hb' (by simpa using he) fun a' hE'=>h2 hb' e rfl he a' w ⟨m,γ,_,hE',⟨rfl,.tp (vs:=[]) rfl (by simp),hR⟩,hI⟩)
theorem ZdB {j dj:Nat} {b:Bool} {oj:Oper} (hj:ops[j]?=some oj) (hd:oj.dst=some dj) (hl:lk ρ dj=some (.tp [])) (hN:Nat.blt d C.N=true)
  (k:OL C ops Q rest ((d,.tp [])::ρ) η):OL C ops Q (⟨some d,op,T,pos,af,some (j,b)⟩::rest) ρ η:=by
 rintro a w ⟨m,γ,ρc,hE,hR,hI⟩;obtain ⟨v,g1,g2⟩:=hR.look hl;have:v=undef:=by
  cases g2 with
  | tp hl hr =>
    simp at hl;subst hl;rfl
 subst this;exact Cx.lcons (W.guard_un hE hj hd g1 (by simpa using hN) fun a' hE'=>k a' w ⟨m,γ,_,hE',⟨rfl,.tp (vs:=[]) rfl (by simp),hR⟩,hI⟩)
/-! ## Control -/
variable {A K:Code} {id id':Nat} {l:List Oper} {e:Exit}
theorem OL.nil (h:TX C Q .normal ρ η):OL C ops Q [] ρ η:=fun a w hA=>Cx.nil (h a w hA)
theorem TC.region (h:OL C l.toArray Q l ρ η):TC C Q (.region id l.toArray false) ρ η:=fun a w hA=>Cx.region (h a w hA)
theorem TC.seq (h:TC C (Exit.then (C.W K Q) Q) A ρ η):TC C Q (A.seq K) ρ η:=fun a w hA=>Cx.seq (h a w hA)
theorem Zap (h:TC C Q K ρ η):TX C (Exit.then (C.W K Q) Q) .normal ρ η:=fun a w hA=>h a w hA
theorem Za2 {nx} (h:TX C Q (.exit id) ρ η):TX C (Exit.then nx Q) (.exit id) ρ η:=fun a w hA=>h a w hA
theorem ZaE {nx} (h:TX C Q .ret ρ η):TX C (Exit.then nx Q) .ret ρ η:=fun a w hA=>h a w hA
theorem ZaM (h:TX C Q .normal ρ η):TX C (Exit.inBlock id Q) .normal ρ η:=fun a w hA=>h a w hA
theorem Za3 (h:TX C Q .normal ρ η):TX C (Exit.inBlock id Q) (.exit id) ρ η:=fun a w hA=>by have:=h a w hA;simpa [Exit.inBlock] using this
theorem Zbr (h:TX C Q (.exit id') ρ η) (hne:Nat.beq id' id=false):TX C (Exit.inBlock id Q) (.exit id') ρ η:=fun a w hA=>YuX (h a w hA) (by intro e;subst e;simp at hne)
theorem ZaK (h:TX C Q .ret ρ η):TX C (Exit.inBlock id Q) .ret ρ η:=fun a w hA=>h a w hA
theorem Zbx (h:TX C Q (.exit id) ρ η):TX C (Exit.noGoto Q) (.exit id) ρ η:=fun a w hA=>h a w hA
theorem Zby (h:TX C Q .ret ρ η):TX C (Exit.noGoto Q) .ret ρ η:=fun a w hA=>h a w hA
theorem TC.skip (h:TX C Q .normal ρ η):TC C Q .skip ρ η:=fun a w hA=>Cx.skip (h a w hA)
theorem TC.exit (h:TX C Q (.exit id) ρ η):TC C Q (.exit id) ρ η:=fun a w hA=>Cx.exit (h a w hA)
theorem TC.ret (h:TX C Q .ret ρ η):TC C Q .ret ρ η:=fun a w hA=>Cx.ret (h a w hA)
theorem TC.label {n:Nat} (h:TX C Q .normal ρ η):TC C Q (.label n) ρ η:=fun a w hA=>Cx.label (h a w hA)
theorem TC.scope (h:TC C (Exit.noGoto Q) A ρ η) (hr:C.r=none:=by with_unfolding_all exact rfl):TC C Q (.scope A) ρ η:=fun a w hA=>by
 have:=h a w hA
 rw [Cx.W_none hr] at this ⊢;exact wp_scope_straight this
theorem TC.block (h:TC C (Exit.inBlock id Q) A ρ η):TC C Q (.block id A) ρ η:=fun a w hA=>Cx.block (h a w hA)
theorem TC.cond {t:Bool} (hx:ev2 ρ x=some (.raw (.bool t))) (h1:t=true→TC C Q A ρ η) (h2:t=false→TC C Q K ρ η):TC C Q (.cond x A K) ρ η:=by
 rintro a w ⟨m,γ,ρc,hE,hR,hI⟩;exact Cx.cond (hE.ev (hR.raw hx)) (fun h=>h1 h a w ⟨m,γ,ρc,hE,hR,hI⟩) (fun h=>h2 h a w ⟨m,γ,ρc,hE,hR,hI⟩)
theorem ZdC {p:Prop} [Decidable p] (hx:ev2 ρ x=some (.raw (.bool (decide p)))) (h1:p→TC C Q A ρ η) (h2:¬p→TC C Q K ρ η):TC C Q (.cond x A K) ρ η:=
 TC.cond hx (fun h=>h1 (of_decide_eq_true h)) (fun h=>h2 (of_decide_eq_false h))
theorem ZdD (hx:ev2 ρ x=some (.raw (.bool true))) (h1:TC C Q A ρ η):TC C Q (.cond x A K) ρ η:=TC.cond hx (fun _=>h1) nofun
theorem ZdE (hx:ev2 ρ x=some (.raw (.bool false))) (h2:TC C Q K ρ η):TC C Q (.cond x A K) ρ η:=TC.cond hx nofun (fun _=>h2)
/-! ## Weakening -/
def idx:List Nat→Nat→Nat→Option Nat
 | [],_,_=>none
 | j::r,i,k=>bif Nat.beq j i then some k else idx r i (k+1)
def ren0 (τ:Nat→Option Nat):AV→AV
 | .bp i o=>match τ i with|some j=>.bp j o|none=>.junk
 | .gp i sz k o=>match τ i with|some j=>.gp j sz k o|none=>.junk
 | .hs i=>match τ i with|some j=>.hs j|none=>.junk
 | .mp i=>match τ i with|some j=>.mp j|none=>.junk
 | .st _=>.junk
 | .tp _=>.junk
 | .fn _ _ _=>.junk
 | .raw v=>.raw v
 | .sl a b c=>.sl a b c
 | .ep a b=>.ep a b
 | .pr a=>.pr a
 | .junk=>.junk
def ren1 (τ:Nat→Option Nat):AV→AV
 | .st cs=>.st (cs.map (ren0 τ))
 | .tp cs=>.tp (cs.map (ren0 τ))
 | .fn f a b=>.fn f (a.map (ren0 τ)) (b.map (ren0 τ))
 | .raw v=>.raw v
 | .sl a b c=>.sl a b c
 | .ep a b=>.ep a b
 | .pr a=>.pr a
 | .junk=>.junk
 | .bp i o=>ren0 τ (.bp i o)
 | .gp i sz k o=>ren0 τ (.gp i sz k o)
 | .hs i=>ren0 τ (.hs i)
 | .mp i=>ren0 τ (.mp i)
def ren2 (τ:Nat→Option Nat):AV→AV
 | .st cs=>.st (cs.map (ren1 τ))
 | .tp cs=>.tp (cs.map (ren1 τ))
 | .fn f a b=>.fn f (a.map (ren1 τ)) (b.map (ren1 τ))
 | .raw v=>.raw v
 | .sl a b c=>.sl a b c
 | .ep a b=>.ep a b
 | .pr a=>.pr a
 | .junk=>.junk
 | .bp i o=>ren0 τ (.bp i o)
 | .gp i sz k o=>ren0 τ (.gp i sz k o)
 | .hs i=>ren0 τ (.hs i)
 | .mp i=>ren0 τ (.mp i)
def ren (τ:Nat→Option Nat):AV→AV
 | .st cs=>.st (cs.map (ren2 τ))
 | .tp cs=>.tp (cs.map (ren2 τ))
 | .fn f a b=>.fn f (a.map (ren2 τ)) (b.map (ren2 τ))
 | .raw v=>.raw v
 | .sl a b c=>.sl a b c
 | .ep a b=>.ep a b
 | .pr a=>.pr a
 | .junk=>.junk
 | .bp i o=>ren0 τ (.bp i o)
 | .gp i sz k o=>ren0 τ (.gp i sz k o)
 | .hs i=>ren0 τ (.hs i)
 | .mp i=>ren0 τ (.mp i)
def Sh2 (τ:Nat→Option Nat) (γ γ':List Value):Prop:=∀ (i j:Nat),τ i=some j→∀ v,γ[i]?=some v→γ'[j]?=some v
theorem Ydn {τ γ γ' m w v x} (h:Sh2 τ γ γ') (hr:Rep m w γ v x):Rep m w γ' v (ren0 τ x):=by
 cases hr with
 | raw h=>exact .raw h
 | nil h=>exact .nil h
 | sl cv hn h1 h2 hc hr=>exact .sl cv hn h1 h2 hc hr
 | sl0 h=>exact .sl0 h
 | st=>exact .junk
 | tp=>exact .junk
 | ep hc hl h1 hr=>exact .ep hc hl h1 hr
 | @bp _ i o b hb=>simp only [ren0];cases hq:τ i with
   | none=>exact .junk
   | some j=>exact .bp (h i j hq _ hb)
 | @gp _ i sz k o b n c hb=>simp only [ren0];cases hq:τ i with
   | none=>exact .junk
   | some j=>exact .gp (h i j hq _ hb)
 | @hs _ i a n c hb=>simp only [ren0];cases hq:τ i with
   | none=>exact .junk
   | some j=>exact .hs (h i j hq _ hb)
 | @mp _ i b hb=>simp only [ren0];cases hq:τ i with
   | none=>exact .junk
   | some j=>exact .mp (h i j hq _ hb)
 | fn=>exact .junk
 | pr h=>exact .pr h
 | junk=>exact .junk
theorem Ybz {m w γ γ'} {f:AV→AV} (hf:∀ v x,Rep m w γ v x→Rep m w γ' v (f x)) {vs:List Value} {cs:List AV} (hr:∀ (j:Nat) v c,vs[j]?=some v→cs[j]?=some c→Rep m w γ v c) :
  ∀ (j:Nat) v c,vs[j]?=some v→(cs.map f)[j]?=some c→Rep m w γ' v c:=by
 intro j v c hv hc;rw [List.getElem?_map] at hc
 cases hq:cs[j]? with
 | none=>rw [hq] at hc;cases hc
 | some c'=>rw [hq] at hc;cases hc;exact hf _ _ (hr j v c' hv hq)
theorem YgN {τ γ γ' m w v x} (h:Sh2 τ γ γ') (hr:Rep m w γ v x):Rep m w γ' v (ren1 τ x):=by
 cases x with
 | st cs=>cases hr with|st hl h1 hr=>exact .st (by simpa using hl) h1 (Ybz (fun _ _=>Ydn h) hr)
 | tp cs=>cases hr with|tp hl hr=>exact .tp (by simpa using hl) (Ybz (fun _ _=>Ydn h) hr)
 | fn f a b=>cases hr with|fn l1 l2 h1 h2=>exact .fn (by simpa using l1) (by simpa using l2) (Ybz (fun _ _=>Ydn h) h1) (Ybz (fun _ _=>Ydn h) h2)
 | _=>exact Ydn h hr
theorem Yfv {τ γ γ' m w v x} (h:Sh2 τ γ γ') (hr:Rep m w γ v x):Rep m w γ' v (ren2 τ x):=by
 cases x with
 | st cs=>cases hr with|st hl h1 hr=>exact .st (by simpa using hl) h1 (Ybz (fun _ _=>YgN h) hr)
 | tp cs=>cases hr with|tp hl hr=>exact .tp (by simpa using hl) (Ybz (fun _ _=>YgN h) hr)
 | fn f a b=>cases hr with|fn l1 l2 h1 h2=>exact .fn (by simpa using l1) (by simpa using l2) (Ybz (fun _ _=>YgN h) h1) (Ybz (fun _ _=>YgN h) h2)
 | _=>exact Ydn h hr
theorem YdC {τ γ γ' m w v x} (h:Sh2 τ γ γ') (hr:Rep m w γ v x):Rep m w γ' v (ren τ x):=by
 cases x with
 | st cs=>cases hr with|st hl h1 hr=>exact .st (by simpa using hl) h1 (Ybz (fun _ _=>Yfv h) hr)
 | tp cs=>cases hr with|tp hl hr=>exact .tp (by simpa using hl) (Ybz (fun _ _=>Yfv h) hr)
 | fn f a b=>cases hr with|fn l1 l2 h1 h2=>exact .fn (by simpa using l1) (by simpa using l2) (Ybz (fun _ _=>Yfv h) h1) (Ybz (fun _ _=>Yfv h) h2)
 | _=>exact Ydn h hr
def LE (τ:Nat→Option Nat) (x y:AV):Prop:=∀ m w γ γ',Sh2 τ γ γ'→∀ v,Rep m w γ v x→Rep m w γ' v y
theorem LE.ren {τ x y} (h:V.ren τ x=y):LE τ x y:=fun _m _w _γ _γ' hs _v hr=>h ▸ YdC hs hr
theorem LE.sl {τ sz nl xs}:LE τ (.sl sz nl xs) (.sl sz none xs):=fun m w γ γ' hs v hr=>by
 obtain ⟨a,b,c⟩:=hr.rs;exact (Rep.of_rs a (NL.none _))
theorem LE.nil {τ sz nl} (h:nl≠some false):LE τ (.raw (.slice none 0 0)) (.sl sz nl []):=fun m w γ γ' hs v hr=>by
 rw [hr.raw_eq];exact .nil h
theorem LE.junk {τ x}:LE τ x .junk:=fun _ _ _ _ _ _ _=>.junk
def renO (τ:Nat→Option Nat):AO→AO
 | .cb T cs=>.cb T (cs.map (ren τ))
 | .gs a b c d e=>.gs a b c d e
 | .mo es=>.mo es
 | .gw T sz nl xs=>.gw T sz nl (xs.map (ren τ))
 | .mk ks=>.mk ks
 | .dead=>.dead
def OE (τ:Nat→Option Nat) (o o':AO):Prop:=∀ m w γ γ',Sh2 τ γ γ'→∀ v,YcR m w γ v o→YcR m w γ' v o'∧(blk o' v=blk o v∨blk o' v=none)
theorem CL.ren {τ γ γ' m w vs cs} (hs:Sh2 τ γ γ') (h:CL γ m w vs cs):CL γ' m w vs (cs.map (V.ren τ)):=
 ⟨by simpa using h.1,h.2.1,Ybz (fun _ _=>YdC hs) h.2.2⟩
theorem Ylt (τ) (x:AV):(V.ren τ x).cells.length=x.cells.length:=by
 cases x<;>first
  | rfl
  | (simp only [V.ren,AV.cells,List.length_map];done)
  | (unfold V.ren ren0;dsimp only;split<;>rfl)
theorem CL.renX {τ γ γ' m w vs} {x:AV} (hs:Sh2 τ γ γ') (h:CL γ m w vs x.cells):CL γ' m w vs (V.ren τ x).cells:=by
 refine ⟨by rw [Ylt];exact h.1,h.2.1,fun j v c hv hc=>?_⟩;have key:∀ {x:AV},x.cells=[x]→(V.ren τ x).cells=[V.ren τ x]→CL γ m w vs x.cells→(V.ren τ x).cells[j]?=some c→Rep m w γ' v c:=fun {x} e1 e2 h hc=>by
  rw [e2] at hc
  cases j with
  | zero =>
    simp at hc;subst hc;exact YdC hs (h.2.2 0 v x hv (by rw [e1];rfl))
  | succ j=>simp at hc
 cases x with
 | st cs =>
   simp only [V.ren,AV.cells,List.getElem?_map] at hc
   cases hq:cs[j]? with
   | none=>rw [hq] at hc;cases hc
   | some c0=>rw [hq] at hc;cases hc;exact Yfv hs (h.2.2 j v c0 hv hq)
 | bp i o=>exact key rfl (by unfold V.ren ren0;dsimp only;split<;>rfl) h hc
 | gp i sz k o=>exact key rfl (by unfold V.ren ren0;dsimp only;split<;>rfl) h hc
 | hs i=>exact key rfl (by unfold V.ren ren0;dsimp only;split<;>rfl) h hc
 | mp i=>exact key rfl (by unfold V.ren ren0;dsimp only;split<;>rfl) h hc
 | _=>exact key rfl rfl h hc
theorem OE.ren {τ o o'} (h:renO τ o=o'):OE τ o o':=fun m w γ γ' hs v hr=>by
 subst h
 cases o with
 | cb T cs =>
   obtain ⟨b,vs,rfl,hB,hC⟩:=hr;exact ⟨⟨b,vs,rfl,hB,hC.ren hs⟩,.inl rfl⟩
 | gs fz T sz nl xs=>exact ⟨hr,.inl rfl⟩
 | mo es=>exact ⟨hr,.inl rfl⟩
 | mk ks=>exact ⟨hr,.inl rfl⟩
 | gw T sz nl xs =>
   obtain ⟨⟨m',h1,h2,h3⟩,h4,h5⟩:=hr;refine ⟨⟨⟨m',?_,h2,h3⟩,h4,fun x hx=>?_⟩,.inl rfl⟩
   ·rcases h1 with ⟨e1,rfl⟩|⟨b,o,e1,rfl⟩|⟨g,cap,cur,hv,h0,hg,k1,k2,k3,k4,k5⟩
    ·exact .inl ⟨e1,rfl⟩
    ·exact .inr (.inl ⟨b,o,e1,rfl⟩)
    ·refine .inr (.inr ⟨g,cap,cur,by simpa using hv,h0,hg,by simpa using k1,k2,k3,by simpa using k4,fun i x hx=>?_⟩);rw [List.getElem?_map] at hx
     cases hq:xs[i]? with
     | none=>rw [hq] at hx;cases hx
     | some y =>
       rw [hq] at hx;cases hx;obtain ⟨cs,a,b,c⟩:=k5 i y hq;exact ⟨cs,a,b,CL.renX hs c⟩
   ·obtain ⟨y,hy,rfl⟩:=List.mem_map.1 hx;rw [Ylt];exact h5 y hy
 | dead=>exact ⟨trivial,.inl rfl⟩
theorem OE.gs {τ fz T sz nl xs}:OE τ (.gs fz T sz nl xs) (.gs fz T sz none xs):=fun _m _w _γ _γ' _hs _v hr=>⟨⟨hr.1,NL.none _,hr.2.2⟩,.inl rfl⟩
def YdG (τ:Nat→Option Nat) (ρ:Ro):Ro→Prop
 | []=>True
 | (t,y)::r=>(∃ x,lk ρ t=some x∧LE τ x y)∧YdG τ ρ r
def Ybw (τ:Nat→Option Nat) (η:Eta):List Nat→Eta→Prop
 | [],[]=>True
 | i::s,o'::r=>(∃ o,η[i]?=some o∧OE τ o o')∧Ybw τ η s r
 | _,_=>False
def YbG:List Nat→Bool
 | []=>true
 | i::r=>r.all (fun j=>!Nat.beq i j)&&YbG r
def Ycy:Nat→Nat→List Nat→Bool
 | 0,_,_=>true
 | n+1,k,i::r=>Nat.beq i k&&Ycy n (k+1) r
 | _+1,_,[]=>false
abbrev ts (σ:List Nat):Nat→Option Nat:=fun i=>idx σ i 0
theorem YcD:∀ (σ:List Nat) (i k j:Nat),idx σ i k=some j→∃ n,j=k+n∧σ[n]?=some i
 | [],_,_,_,h=>by simp [idx] at h
 | a::r,i,k,j,h=>by
   simp only [idx] at h
   cases hb:Nat.beq a i with
   | true=>rw [hb] at h;simp at h;exact ⟨0,by omega,by simp [Nat.eq_of_beq_eq_true hb]⟩
   | false =>
     rw [hb] at h;obtain ⟨n,h1,h2⟩:=YcD r i (k+1) j (by simpa using h);exact ⟨n+1,by omega,by simpa using h2⟩
theorem Yhk:∀ {σ:List Nat},YbG σ=true→∀ (j k i:Nat),σ[j]?=some i→σ[k]?=some i→j=k
 | [],_,j,k,i,h,_=>by simp at h
 | a::r,hn,j,k,i,h1,h2=>by
   simp only [YbG,Bool.and_eq_true,List.all_eq_true] at hn;have hm:∀ n:Nat,r[n]?=some a→False:=fun n hn'=>by
    have:=hn.1 a (List.mem_of_getElem? hn')
    simp at this
   cases j with
   | zero =>
     cases k with
     | zero=>rfl
     | succ k=>simp at h1 h2;subst h1;exact (hm k h2).elim
   | succ j =>
     cases k with
     | zero=>simp at h1 h2;subst h2;exact (hm j h1).elim
     | succ k=>simp at h1 h2;rw [Yhk hn.2 j k i h1 h2]
theorem YkR:∀ {n k:Nat} {σ:List Nat},Ycy n k σ=true→∀ i,i < n→σ[i]?=some (k+i)
 | 0,_,_,_,i,h=>by omega
 | n+1,k,[],h,_,_=>by simp [Ycy] at h
 | n+1,k,a::r,h,i,hi=>by
   simp only [Ycy,Bool.and_eq_true] at h
   cases i with
   | zero=>simp;exact Nat.eq_of_beq_eq_true h.1
   | succ i=>have:=YkR h.2 i (by omega);simp;rw [this];congr 1;omega
theorem YdG.rl {τ m w γ γ' ρc ρ} (hs:Sh2 τ γ γ') (hR:RL m w γ ρc ρ):∀ {ρ':Ro},YdG τ ρ ρ'→∃ ρc',RL m w γ' ρc' ρ'∧W.Sub ρc ρc'
 | [],_=>⟨[],trivial,trivial⟩
 | (t,y)::r,⟨⟨x,h1,h2⟩,h3⟩=>by
   obtain ⟨v,g1,g2⟩:=hR.look h1;obtain ⟨ρc',k1,k2⟩:=YdG.rl hs hR h3;exact ⟨(t,v)::ρc',⟨rfl,h2 _ _ _ _ hs _ g2,k1⟩,g1,k2⟩
theorem Ybw.get {τ η}:∀ {s:List Nat} {η':Eta},Ybw τ η s η'→∀ (j:Nat) o',η'[j]?=some o'→∃ i o,s[j]?=some i∧η[i]?=some o∧OE τ o o'
 | [],[],_,j,o',h=>by simp at h
 | i::s,o1::r,⟨⟨o,h1,h2⟩,h3⟩,j,o',h=>by
   cases j with
   | zero=>simp at h;subst h;exact ⟨i,o,rfl,h1,h2⟩
   | succ j=>simpa using Ybw.get h3 j o' (by simpa using h)
 | [],_::_,h,_,_,_=>h.elim
 | _::_,[],h,_,_,_=>h.elim
theorem Ybw.len {τ η}:∀ {s:List Nat} {η':Eta},Ybw τ η s η'→s.length=η'.length∧∀ i∈s,i < η.length
 | [],[],_=>⟨rfl,by simp⟩
 | i::s,o1::r,⟨⟨o,h1,_⟩,h3⟩=>by
   obtain ⟨a,b⟩:=Ybw.len h3;exact ⟨by simp [a],fun k hk=>by
    rcases List.mem_cons.1 hk with rfl|hk
    ·exact (List.getElem?_eq_some_iff.1 h1).1
    ·exact b k hk⟩
 | [],_::_,h=>h.elim
 | _::_,[],h=>h.elim
theorem In.sel {B m w γ η η'} {σ:List Nat} {n:Nat} (hI:In B m w γ η) (hB:B.γ.length=n) (hn:YbG σ=true) (hp:Ycy n 0 σ=true) (ho:Ybw (ts σ) η σ η') :
  ∃ γ',Sh2 (ts σ) γ γ'∧In B m w γ' η':=by
 obtain ⟨hl,hlt⟩:=ho.len;have hgl:=hI.heap.len;have hγ:∀ (j i:Nat),σ[j]?=some i→∀ v,(σ.map fun i=>γ.getD i undef)[j]?=some v→γ[i]?=some v:=by
  intro j i hj v hv;rw [List.getElem?_map,hj] at hv;simp only [Option.map_some,Option.some.injEq] at hv;have:i < γ.length:=by rw [hgl];exact hlt i (List.mem_of_getElem? hj)
  rw [← hv,List.getD_eq_getElem?_getD,List.getElem?_eq_getElem this];rfl
 have hsh:Sh2 (ts σ) γ (σ.map fun i=>γ.getD i undef):=by
  intro i j hij v hv;obtain ⟨k,h1,h2⟩:=YcD σ i 0 j hij;obtain rfl:j=k:=by omega
  rw [List.getElem?_map,h2];simp [List.getD_eq_getElem?_getD,hv]
 have hget:∀ (j:Nat) v o',(σ.map fun i=>γ.getD i undef)[j]?=some v→η'[j]?=some o'→∃ i o,σ[j]?=some i∧γ[i]?=some v∧η[i]?=some o∧OE (ts σ) o o':=by
  intro j v o' hv ho';obtain ⟨i,o,h1,h2,h3⟩:=ho.get j o' ho';exact ⟨i,o,h1,hγ j i h1 v hv,h2,h3⟩
 have hbk:∀ {v o o' b},OE (ts σ) o o'→YcR m w γ v o→blk o' v=some b→blk o v=some b:=by
  intro v o o' b hoe hok hb;rcases (hoe m w γ _ hsh v hok).2 with e|e
  ·rw [← e];exact hb
  ·rw [e] at hb;cases hb
 refine ⟨_,hsh,⟨by simp [hl],fun j v o' hv ho'=>?_,fun j k v v' o o' b hne hv ho1 hv' ho2 hb hb'=>?_⟩,hI.far,fun j v o' b hv ho' hb=>?_,fun i v hv=>?_⟩
 ·obtain ⟨i,o,h1,h2,h3,h4⟩:=hget j v o' hv ho';exact (h4 m w γ _ hsh v (hI.heap.ok i v o h2 h3)).1
 ·obtain ⟨i,oi,h1,h2,h3,h4⟩:=hget j v o hv ho1;obtain ⟨i',oi',h1',h2',h3',h4'⟩:=hget k v' o' hv' ho2;refine hI.heap.apart i i' v v' oi oi' b ?_ h2 h3 h2' h3' (hbk h4 (hI.heap.ok i v oi h2 h3) hb) (hbk h4' (hI.heap.ok i' v' oi' h2' h3') hb');intro e;subst e;exact hne (Yhk hn j k i h1 h1')
 ·obtain ⟨i,o,h1,h2,h3,h4⟩:=hget j v o' hv ho';exact hI.own i v o b h2 h3 (hbk h4 (hI.heap.ok i v o h2 h3) hb)
 ·have hi:i < n:=by rw [← hB];exact (List.getElem?_eq_some_iff.1 hv).1
  have h1:=YkR hp i hi;rw [Nat.zero_add] at h1;rw [List.getElem?_map,h1];simp [List.getD_eq_getElem?_getD,hI.pre i v hv]
theorem A2.sel {a w} {n:Nat} {σ:List Nat} {N D B} (hA:A2 N D B a w ρ η) (hB:B.γ.length=n) (hn:YbG σ=true) (hp:Ycy n 0 σ=true) (ho:Ybw (ts σ) η σ η') (hr:YdG (ts σ) ρ ρ'):A2 N D B a w ρ' η':=by
 obtain ⟨m,γ,ρc,hE,hR,hI⟩:=hA;obtain ⟨γ',h1,h2⟩:=hI.sel hB hn hp ho;obtain ⟨ρc',h3,h4⟩:=YdG.rl h1 hR hr;exact ⟨m,γ',ρc',hE.sel h4,h3,h2⟩
/-! ## Loops -/
def Next (C:Cx) {S:Type} (ρs:S→Ro) (ηs:S→Eta) (I:S→Prop) (μ:S→Nat) (s:S):Act→World→Prop:=fun a w=>∃ s',(I s'∧μ s' < μ s)∧A2 C.N C.D C.B a w (ρs s') (ηs s')
theorem TC.loop {S:Type} (ρs:S→Ro) (ηs:S→Eta) (I:S→Prop) (μ:S→Nat) (s0:S) (σ:List Nat) (h0:I s0) (hn:YbG σ=true) (hp:Ycy C.n 0 σ=true) (ho:Ybw (ts σ) η σ (ηs s0)) (hr:YdG (ts σ) ρ (ρs s0))
  (round:∀ s,I s→TC C (Exit.then (Next C ρs ηs I μ s) Q) A (ρs s) (ηs s)):TC C Q (.loop A) ρ η:=fun a w hA =>
 Cx.loop (fun s a w=>I s∧A2 C.N C.D C.B a w (ρs s) (ηs s)) μ s0 ⟨h0,hA.sel C.hn hn hp ho hr⟩ fun s a w hI =>
  Cx.mono (round s hI.1 a w hI.2) fun e a' w' q=>by
   cases e with
   | normal=>obtain ⟨s',⟨h1,h2⟩,h3⟩:=q;exact ⟨s',⟨h1,h3⟩,h2⟩
   | _=>exact q
theorem TX.round {S:Type} {ρs:S→Ro} {ηs:S→Eta} {I:S→Prop} {μ:S→Nat} {s:S} (s':S) (σ:List Nat) (hI:I s') (hμ:μ s' < μ s) (hn:YbG σ=true) (hp:Ycy C.n 0 σ=true) (ho:Ybw (ts σ) η σ (ηs s')) (hr:YdG (ts σ) ρ (ρs s')) :
  TX C (Exit.then (Next C ρs ηs I μ s) Q) .normal ρ η:=fun _ _ hA=>⟨s',⟨hI,hμ⟩,hA.sel C.hn hn hp ho hr⟩
theorem ZcS (h:η=η') (k:TX C Q e ρ η'):TX C Q e ρ η:=h ▸ k
/-! ## Contracts -/
def VL (m:Nat→Nat) (w:World) (γ:List Value):List Value→List AV→Prop
 | [],[]=>True
 | v::r,x::s=>Rep m w γ v x∧VL m w γ r s
 | _,_=>False
def Ybl:List Value→Eta→List Nat
 | v::r,o::s=>(blk o v).toList++Ybl r s
 | _,_=>[]
theorem Yap:∀ {γ:List Value} {η:Eta} {b:Nat},b∈Ybl γ η↔∃ (i:Nat) (v:Value) (o:AO),γ[i]?=some v∧η[i]?=some o∧blk o v=some b
 | [],_,b=>by simp [Ybl]
 | _::_,[],b=>by simp [Ybl]
 | v::r,o::s,b=>by
   simp only [Ybl,List.mem_append,Option.mem_toList,Yap (γ:=r) (η:=s)];constructor
   ·rintro (h|⟨i,v',o',h1,h2,h3⟩)
    ·exact ⟨0,v,o,rfl,rfl,h⟩
    ·exact ⟨i+1,v',o',by simpa using h1,by simpa using h2,h3⟩
   ·rintro ⟨i,v',o',h1,h2,h3⟩
    cases i with
    | zero=>simp at h1 h2;subst h1 h2;exact .inl h3
    | succ i=>exact .inr ⟨i,v',o',by simpa using h1,by simpa using h2,h3⟩
def YbF (B:Base) (r:AV) (η':Eta):Ending→World→Prop:=fun e w'=>∃ v m' γ',e=.returned v∧In B m' w' γ' η'∧Rep m' w' γ' v r
def Ya1 (m:Nat→Nat) (w:World) (γ:List Value) (η:Eta):Base:=⟨m,w,Ybl γ η,γ⟩
def Spec (P:Program) (f:Nat) (as:List AV) (η:Eta) (r:AV) (η':Eta):Prop:=
 ∀ m w γ vs,Heap m w γ η→VL m w γ vs as→Calls P f vs.toArray w (YbF (Ya1 m w γ η) r η')
def Ym3:Nat→List AV→Ro
 | _,[]=>[]
 | k,x::r=>(k,x)::Ym3 (k+1) r
theorem VL.zip {m w γ}:∀ {vs:List Value} {as:List AV} (k:Nat),VL m w γ vs as→RL m w γ (W.zipA k vs) (Ym3 k as)
 | [],[],_,_=>trivial
 | _::_,_::_,k,⟨h1,h2⟩=>⟨rfl,h1,VL.zip (k+1) h2⟩
 | [],_::_,_,h=>h.elim
 | _::_,[],_,h=>h.elim
theorem VL.len {m w γ}:∀ {vs:List Value} {as:List AV},VL m w γ vs as→vs.length=as.length
 | [],[],_=>rfl
 | _::_,_::_,⟨_,h2⟩=>by simp [VL.len h2]
 | [],_::_,h=>h.elim
 | _::_,[],h=>h.elim
theorem Spec.enter {P:Program} {f:Nat} {fn:Func} {c:Code} {as:List AV} {r:AV} {tab:Tab} {N:Nat} (hT:YaX P tab) (hm:P.follows .mixedOrders=true) (hf:P.funcs[f]?=some fn) (hb:fn.body=some c) (hN:fn.ntmps=N) (ha:Nat.ble as.length N=true)
  (h:∀ B (hB:B.γ.length=η.length),TC ⟨P,tab,hT,hm,N,[],B,η.length,hB,none,0⟩ (bodyPost P fn (YbF B r η')) c (Ym3 0 as) η):Spec P f as η r η':=by
 intro m w γ vs hH hV;refine W.enter (N:=N) (W.zipA 0 vs) hf hb hN (by simp) (by have:=hV.len;simp at ha;simp;omega) fun a hE=>?_;refine h (Ya1 m w γ η) hH.len a w ⟨m,γ,_,hE,hV.zip 0,hH,.refl _ _ _,fun i v o b h1 h2 h3=>.inl (Yap.2 ⟨i,v,o,h1,h2,h3⟩),.refl _⟩
/-! ## Returns -/
theorem ZdF {fn:Func} {t:Nat} {u r} (σ:List Nat) (hD:C.D=[]) (hres:fn.results=#[.tmp t]) (hx:lk ρ t=some u) (hn:YbG σ=true) (hp:Ycy C.n 0 σ=true) (ho:Ybw (ts σ) η σ η') (hle:LE (ts σ) u r) :
  TX C (bodyPost C.P fn (YbF C.B r η')) .ret ρ η:=by
 rintro a w ⟨m,γ,ρc,hE,hR,hI⟩;obtain ⟨v,h1,h2⟩:=hR.look hx;obtain ⟨γ',g1,g2⟩:=hI.sel C.hn hn hp ho;rw [hD] at hE;exact W.ret1 hE hres h1 ⟨v,m,γ',rfl,g2,hle _ _ _ _ g1 _ h2⟩
theorem ZdG {fn:Func} {t1 t2:Nat} {u1 u2 r1 r2} (σ:List Nat) (hD:C.D=[]) (hres:fn.results=#[.tmp t1,.tmp t2]) (hx1:lk ρ t1=some u1) (hx2:lk ρ t2=some u2) (hn:YbG σ=true) (hp:Ycy C.n 0 σ=true) (ho:Ybw (ts σ) η σ η') (hle1:LE (ts σ) u1 r1) (hle2:LE (ts σ) u2 r2) :
  TX C (bodyPost C.P fn (YbF C.B (.tp [r1,r2]) η')) .ret ρ η:=by
 rintro a w ⟨m,γ,ρc,hE,hR,hI⟩;obtain ⟨v1,h1,h2⟩:=hR.look hx1;obtain ⟨v2,k1,k2⟩:=hR.look hx2;obtain ⟨γ',g1,g2⟩:=hI.sel C.hn hn hp ho;rw [hD] at hE;refine W.ret2 hE hres h1 k1 ⟨_,m,γ',rfl,g2,.tp (vs:=[v1,v2]) rfl fun j v c hv hc=>?_⟩;match j with
 | 0=>simp at hv hc;subst hv hc;exact hle1 _ _ _ _ g1 _ h2
 | 1=>simp at hv hc;subst hv hc;exact hle2 _ _ _ _ g1 _ k2
 | j+2=>simp at hv
theorem ZdI {fn:Func} (σ:List Nat) (hD:C.D=[]) (hres:fn.results=#[]) (hn:YbG σ=true) (hp:Ycy C.n 0 σ=true) (ho:Ybw (ts σ) η σ η'):TX C (bodyPost C.P fn (YbF C.B (.tp []) η')) .ret ρ η:=by
 rintro a w ⟨m,γ,ρc,hE,hR,hI⟩;obtain ⟨γ',g1,g2⟩:=hI.sel C.hn hn hp ho;rw [hD] at hE;exact W.ret0 hE hres ⟨_,m,γ',rfl,g2,.tp (vs:=[]) rfl (by simp)⟩
theorem Zbz {fn:Func} {R} (h:TX C (bodyPost C.P fn R) .ret ρ η):TX C (bodyPost C.P fn R) .normal ρ η:=fun a w hA=>h a w hA
end
end Go.V
