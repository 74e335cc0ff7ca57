/- Part 20 of what the claim is proved by: lemmas on the model and walks through functions of the program; no conditions. -/
import Derived.Test.YtmdpbfghjdljiaaGreatQ19
import Derived.Test.YtmdpbfghjdljiaaGreatQ16
import Derived.Test.YtmdpbfghjdljiaaGreatQ18
namespace Go.V
open Go Go.W Go.RowKit
set_option maxHeartbeats 1000000 in
theorem rangeV2 {P:Program} {α:Type} {as:α→List AV} {L:List α} {g:Operand} {t1 t2 d1 d2 T1 T2 rid rid2 k:Nat} {pos1 pos2:String} {af1 af2:Array Edge} {body:Code} {Q:Exit→Act→World→Prop} {a:Act} {w:World} {m:Nat→Nat} {gf:Nat} {lb:Array Value} {fn:Func}
  (hg : a.eval g = .func (.func gf) #[] lb) (hf : P.funcs[gf]? = some fn) (hb : (fn.body.isNone || fn.name == "runtime.NumGoroutine") = false) (hseq : SeqV P gf lb as L m w)
  (E0:Nat→Prop) (hE0:∀ b,E0 b→b < w.heap.size) (I Ix:List α→(Nat→Nat)→World→Prop) (hI:Stays w.heap.size I) (hIx:Stays w.heap.size Ix) (h0:I [] m w)
  (has:∀ x,(as x).length=2)
  (hround:∀ l pre x m1 W1 v1 v2,w.heap.size≤l→I pre m1 W1→(∃ r,pre++x::r=L)→VL m1 W1 [] [v1,v2] (as x)→Ext m w m1 W1 →
   body.wpIn (WF (some l)) 0 P (bodyQ E0 I Ix (pre++[x]) m1 W1) ((({ tmps:=(a.tmps.setIfInBounds t1 v1).setIfInBounds t2 v2,defers:=[] }:Act).put (some d1) (({ tmps:=(a.tmps.setIfInBounds t1 v1).setIfInBounds t2 v2,defers:=[] }:Act).eval (.tmp t1))).put (some d2) ((({ tmps:=(a.tmps.setIfInBounds t1 v1).setIfInBounds t2 v2,defers:=[] }:Act).put (some d1) (({ tmps:=(a.tmps.setIfInBounds t1 v1).setIfInBounds t2 v2,defers:=[] }:Act).eval (.tmp t1))).eval (.tmp t2))) W1)
  (hdone:∀ m' W',Ext m w m' W'→I L m' W'→W'.heap[w.heap.size]?=some (.deferred (some []))→Q .normal { a with defers:=markD w.heap.size::a.defers } W')
  (hstop:∀ pre m' W',Ext m w m' W'→Ix pre m' W'→W'.heap[w.heap.size]?=some (.deferred (some []))→Q .ret { a with defers:=markD w.heap.size::a.defers } W') :
  (Code.rangeFunc g #[t1,t2] ((Code.region rid #[⟨some d1,.assign (.tmp t1),T1,pos1,af1,none⟩] false).seq (Code.region rid2 #[⟨some d2,.assign (.tmp t2),T2,pos2,af2,none⟩] false)) body).wpIn Fence.wide k P Q a w:=by
 have hb':=hb
 simp at hb'
 have hbn:fn.body≠none:=Option.isSome_iff_ne_none.1 hb'.1
 have eg:∀ args w,(callFunc gf args).run P w=.ok (.enter gf args) w:=fun args w=>by simp [callFunc,hf,hb'.2,hbn]
 refine wpIn_rangeFunc ?_
 intro fn' hfn'
 have hround':(Fence.wide).round=none:=rfl
 rw [hround']
 obtain ⟨rec,hrec⟩:∃ rec:LoopState→Option Code→Loop,rec=fun st pe=>{ state:=st,pending:=pe,fn:=fn',tmps:=a.tmps,params:=#[t1,t2],assign:=((Code.region rid #[⟨some d1,.assign (.tmp t1),T1,pos1,af1,none⟩] false).seq (Code.region rid2 #[⟨some d2,.assign (.tmp t2),T2,pos2,af2,none⟩] false)),body,defers:=w.heap.size }:=⟨_,rfl⟩
 obtain ⟨W1,hW1⟩:∃ W1,(w.alloc (.deferred (some []))).alloc (.loop (rec .ready none))=W1:=⟨_,rfl⟩
 have hL1:W1.heap[w.heap.size+1]?=some (.loop (rec .ready none)):=by
  rw [← hW1];have:=World.alloc_heap_new (w.alloc (.deferred (some []))) (.loop (rec .ready none));rwa [World.size_alloc] at this
 have hK1:W1.heap[w.heap.size]?=some (.deferred (some [])):=by
  rw [← hW1];exact (Below.heap_alloc _ _ _ (by simp)).trans (World.alloc_heap_new w _)
 have hz1:W1.heap.size=w.heap.size+2:=by rw [← hW1];simp
 have hkp:Keep m w m W1:=by
  rw [← hW1]
  exact ⟨⟨rfl,rfl,rfl,by simp;omega,fun b hb _=>((World.grownBy_alloc _ _ none).block b (by simp;omega) (by simp)).trans ((World.grownBy_alloc w _ none).block b hb (by simp))⟩,fun _ _=>rfl⟩
 obtain ⟨mS,hmS⟩:∃ mS,mS=m:=⟨_,rfl⟩
 have hI1:I [] m W1:=hI _ _ _ _ _ h0 (.keep hkp)
 refine ⟨w.heap.size+1,[markD w.heap.size],W1,{ target:=.fn (.func gf) lb,args:=#[.func (.yield (w.heap.size+1)) #[] #[]] },W1,gf,
  #[.func (.yield (w.heap.size+1)) #[] #[]]++lb,W1,?_,?_,?_,?_,fun h=>(by cases h),callsIn_wide.2 ?_⟩
 ·rw [← hW1,hrec];exact run_enterLoop_outer _ _ _ _ _
 ·simp only [resolve,hg]
  simp [go_sem]
 ·intro f' hf';trivial
 ·simp [invoke,go_sem,eg]
 ·refine (hseq (w.heap.size+1) (fun b=>E0 b∨b=w.heap.size+1)
   (fun pre m W=>I pre m W∧Ext mS w m W∧W.heap[w.heap.size+1]?=some (.loop (rec .ready none))∧W.heap[w.heap.size]?=some (.deferred (some [])))
   (fun pre m W=>Ix pre m W∧Ext mS w m W∧W.heap[w.heap.size+1]?=some (.loop (rec .done (some .ret)))∧W.heap[w.heap.size]?=some (.deferred (some [])))
   m W1 hkp.ext (.inr rfl) (fun b hb=>hb.elim (fun h=>by have:=hE0 b h;omega) (fun h=>by omega)) ?_ ?_ ?_ ⟨hI1,hmS ▸ hkp.ext,hL1,hK1⟩).mono ?_
  ·rintro pre m1 W m2 W' ⟨h1,h2,h3,h4⟩ hs
   refine ⟨(hI.le (by omega)) _ _ _ _ _ h1 hs,h2.trans hs.ext,?_,?_⟩
   all_goals
    obtain ⟨row,hgr,hr,_⟩:=hs
    first
    | exact (hgr.block _ (Array.getElem?_eq_some_iff.1 h3).1 (fun e=>by have:=(hr _ e.symm).1;omega)).trans h3
    | exact (hgr.block _ (Array.getElem?_eq_some_iff.1 h4).1 (fun e=>by have:=(hr _ e.symm).1;omega)).trans h4
  ·rintro pre m1 W m2 W' ⟨h1,h2,h3,h4⟩ hs
   refine ⟨(hIx.le (by omega)) _ _ _ _ _ h1 hs,h2.trans hs.ext,?_,?_⟩
   all_goals
    obtain ⟨row,hgr,hr,_⟩:=hs
    first
    | exact (hgr.block _ (Array.getElem?_eq_some_iff.1 h3).1 (fun e=>by have:=(hr _ e.symm).1;omega)).trans h3
    | exact (hgr.block _ (Array.getElem?_eq_some_iff.1 h4).1 (fun e=>by have:=(hr _ e.symm).1;omega)).trans h4
  ·-- one round
   rintro pre x m1 W vs ⟨hi,he,hl,hk⟩ hpre hv
   have hlt:w.heap.size+1 < W.heap.size:=(Array.getElem?_eq_some_iff.1 hl).1
   obtain ⟨v1,v2,rfl⟩:∃ v1 v2,vs=[v1,v2]:=by
    have:=hv.len
    rw [has] at this
    match vs,this with
    | [v1,v2],_=>exact ⟨v1,v2,rfl⟩
   have hy:=run_yield (P:=P) (args:=#[v1,v2]) hl (by rw [hrec];rfl)
   rw [hrec] at hy
   dsimp only at hy
   have ez:Array.foldl (fun (tmps:Array Value) (x:Tmp × Value)=>match x with|(t,a)=>tmps.setIfInBounds t a) a.tmps ((#[t1,t2]:Array Tmp).zip #[v1,v2])=(a.tmps.setIfInBounds t1 v1).setIfInBounds t2 v2:=by simp
   rw [ez] at hy
   refine ⟨fn',_,_,body,hy,roundIn_of_wpIn hfn' ?_⟩
   refine wpIn_seq (wpIn_region_lit (l:=[⟨some d1,.assign (.tmp t1),T1,pos1,af1,none⟩]) ?_)
   refine Go.W.i_lcons (r:=some (w.heap.size+1)) (Go.W.wl_value (v:=_) (w':=W) rfl (by simp [execOp];rfl) ?_)
   refine Go.W.i_fin ?_
   refine wpIn_region_lit (l:=[⟨some d2,.assign (.tmp t2),T2,pos2,af2,none⟩]) ?_
   refine Go.W.i_lcons (r:=some (w.heap.size+1)) (Go.W.wl_value (v:=_) (w':=W) rfl (by simp [execOp];rfl) ?_)
   refine ⟨_,run_beginRound hl (by rw [hrec]),?_⟩
   have hl2:(W.putObj (w.heap.size+1) (.loop { rec .ready none with state:=.busy })).heap[w.heap.size+1]?=some (.loop { rec .ready none with state:=.busy }):=World.putObj_heap_same hlt
   have hk2:(W.putObj (w.heap.size+1) (.loop { rec .ready none with state:=.busy })).heap[w.heap.size]?=some (.deferred (some [])):=(World.putObj_heap_other (by omega)).trans hk
   have hs2:StepOK w.heap.size m1 W m1 (W.putObj (w.heap.size+1) (.loop { rec .ready none with state:=.busy })):=.put hl rfl (by omega)
   have hkl2:∀ b o,b≠w.heap.size+1→W.heap[b]?=some o→(W.putObj (w.heap.size+1) (.loop { rec .ready none with state:=.busy })).heap[b]?=some o:=fun b o hb ho=>(World.putObj_heap_other hb).trans ho
   generalize hW2:W.putObj (w.heap.size+1) (.loop { rec .ready none with state:=.busy })=W2 at *
   have hv2:VL m1 W2 [] [v1,v2] (as x):=hv.mono hs2.ext (.refl _)
   refine wpIn_mono (hround (w.heap.size+1) pre x m1 W2 v1 v2 (by omega) (hI _ _ _ _ _ hi hs2) hpre hv2 (hmS ▸ he.trans hs2.ext)) ?_
   rintro e a3 W3 hp
   cases e with
   | normal =>
     obtain ⟨m3,he3,hkl3,hi3⟩:=hp
     have hl3:=hkl3 _ _ (fun h=>h) hl2 rfl
     have hk3:=hkl3 _ _ (fun h=>h) hk2 rfl
     have hr:(Instr.endRound (w.heap.size+1) none).run P W3=.ok (.bool true) (W3.putObj (w.heap.size+1) (.loop (rec .ready none))):=by
      have:=run_endRound (P:=P) none hl3
      rw [hrec] at this ⊢
      exact this
     have hs3:StepOK w.heap.size m3 W3 m3 (W3.putObj (w.heap.size+1) (.loop (rec .ready none))):=.put hl3 rfl (by omega)
     refine ⟨_,_,hr,m3,?_,.inl ⟨rfl,?_,hI _ _ _ _ _ hi3 hs3,(he.trans hs2.ext).trans (he3.trans hs3.ext),World.putObj_heap_same (Array.getElem?_eq_some_iff.1 hl3).1,(World.putObj_heap_other (by omega)).trans hk3⟩⟩
     ·exact hs2.ext.trans (he3.trans hs3.ext)
     ·intro b o _ ho hld
      by_cases hb:b=w.heap.size+1
      ·subst hb
       rw [hl] at ho
       cases ho
       exact World.putObj_heap_same (Array.getElem?_eq_some_iff.1 hl3).1
      ·exact (World.putObj_heap_other hb).trans (hkl3 _ _ (fun h=>h) (hkl2 b o hb ho) hld)
   | ret =>
     obtain ⟨m3,he3,hkl3,hi3⟩:=hp
     have hl3:=hkl3 _ _ (fun h=>by have:=hE0 _ h;omega) hl2 rfl
     have hk3:=hkl3 _ _ (fun h=>by have:=hE0 _ h;omega) hk2 rfl
     have hr:(Instr.endRound (w.heap.size+1) (some .ret)).run P W3=.ok (.bool false) (W3.putObj (w.heap.size+1) (.loop (rec .done (some .ret)))):=by
      have:=run_endRound (P:=P) (some .ret) hl3
      rw [hrec] at this ⊢
      exact this
     have hs3:StepOK w.heap.size m3 W3 m3 (W3.putObj (w.heap.size+1) (.loop (rec .done (some .ret)))):=.put hl3 rfl (by omega)
     refine ⟨_,_,hr,m3,?_,.inr ⟨rfl,?_,hIx _ _ _ _ _ hi3 hs3,(he.trans hs2.ext).trans (he3.trans hs3.ext),World.putObj_heap_same (Array.getElem?_eq_some_iff.1 hl3).1,(World.putObj_heap_other (by omega)).trans hk3⟩⟩
     ·exact hs2.ext.trans (he3.trans hs3.ext)
     ·intro b o hb ho hld
      have hb1:¬ E0 b:=fun h=>hb (.inl h)
      have hb2:b≠w.heap.size+1:=fun h=>hb (.inr h)
      exact (World.putObj_heap_other hb2).trans (hkl3 _ _ hb1 (hkl2 b o hb2 ho) hld)
   | _=>exact hp.elim
  ·-- behind the iterator
   rintro e W2 ⟨v,m2,rfl,he2,(⟨hi,he,hl,hk⟩|⟨pre,hi,he,hl,hk⟩)⟩
   ·have hr:=run_endLoop (P:=P) hl (by rw [hrec];simp)
    have hs3:StepOK w.heap.size m2 W2 m2 (W2.putObj (w.heap.size+1) (.loop { rec .ready none with state:=.exhausted })):=.put hl rfl (by omega)
    refine ⟨none,_,by rw [hrec] at hr ⊢;exact hr,hdone m2 _ (hmS ▸ he.trans hs3.ext) (hI _ _ _ _ _ hi hs3) ((World.putObj_heap_other (by omega)).trans hk)⟩
   ·have hr:=run_endLoop (P:=P) hl (by rw [hrec];simp)
    have hs3:StepOK w.heap.size m2 W2 m2 (W2.putObj (w.heap.size+1) (.loop { rec .done (some .ret) with state:=.exhausted })):=.put hl rfl (by omega)
    refine ⟨some .ret,_,by rw [hrec] at hr ⊢;exact hr,wpIn_ret (hstop pre m2 _ (hmS ▸ he.trans hs3.ext) (hIx _ _ _ _ _ hi hs3) ((World.putObj_heap_other (by omega)).trans hk))⟩
section
variable {C:Cx} {Q:Qt} {ρ ρ':Ro} {η η':Eta}
set_option maxHeartbeats 1000000 in
theorem TC.rfV2 {P:Program} {α:Type} {as:α→List AV} {L:List α} {g:Operand} {t1 t2 d1 d2 T1 T2 rid rid2:Nat} {pos1 pos2:String} {af1 af2:Array Edge} {body:Code} (u1 u2:α→AV) (ρ0:Ro) (ηs:List α→Eta) (n0:Nat) (σ:List Nat)
  (hx:ev2 ρ g=some (.pr (SeqMP P as L))) (hP:C.P=P) (hr:C.r=none) (has:∀ x,as x=[u1 x,u2 x]) (hn:nodB σ=true) (hp:preB C.n 0 σ=true) (ho:SubO (ts σ) η σ (ηs [])) (hρ:SubR (ts σ) ρ ρ0) (hself:SubR (ts (List.range n0)) ρ0 ρ0)
  (hnn:C.n≤n0) (hn0:n0≤(ηs []).length) (ht1:Nat.blt t1 C.N=true) (ht2:Nat.blt t2 C.N=true) (hd1:Nat.blt d1 C.N=true) (hd2:Nat.blt d2 C.N=true) (hne:(t2==t1)=false) (hne2:(d1==t2)=false)
  (hround:∀ pre x (Bx:Base) (hB:Bx.γ.length=n0) l,(∃ r,pre++x::r=L)→TC ⟨C.P,C.tab,C.hT,C.hm,C.N,[],Bx,n0,hB,some (some l),0⟩ (RQ ⟨C.P,C.tab,C.hT,C.hm,C.N,[],Bx,n0,hB,some (some l),0⟩ (ηs (pre++[x]))) body ((d2,u2 x)::(d1,u1 x)::(t2,u2 x)::(t1,u1 x)::ρ0) (ηs pre))
  (hdone:∀ (B':Base) (hB':B'.γ.length=C.n) D,Marked C.B B' D→TX ⟨C.P,C.tab,C.hT,C.hm,C.N,markD D::C.D,B',C.n,hB',none,0⟩ Q .normal ρ0 (ηs L)) :
  TC C Q (.rangeFunc g #[t1,t2] ((Code.region rid #[⟨some d1,.assign (.tmp t1),T1,pos1,af1,none⟩] false).seq (Code.region rid2 #[⟨some d2,.assign (.tmp t2),T2,pos2,af2,none⟩] false)) body) ρ η:=by
 rintro a w ⟨m,γ,ρc,hE,hR,hI⟩
 rw [Cx.W_none hr]
 obtain ⟨v,hv1,hv2⟩:=hR.ev hx
 obtain ⟨γ',hsh,hI'⟩:=hI.sel C.hn hn hp ho
 obtain ⟨ρc',hR',hsub⟩:=SubR.rl hsh hR hρ
 have hE':=hE.sel hsub
 have hg0:=hE.ev hv1
 cases hv2 with
 | pr hseq =>
 obtain ⟨gf,lb,fn,rfl,hf,hb,hseq⟩:=hseq
 subst hP
 have hl':=hI'.heap.len
 have hsh0:Sh2 (ts (List.range n0)) γ' (γ'.take n0):=by
  intro i j hij w' hw'
  obtain ⟨k,h1,h2⟩:=idx_spec (List.range n0) i 0 j hij
  have hk:k < n0:=by have:=(List.getElem?_eq_some_iff.1 h2).1;simpa using this
  rw [List.getElem?_range hk] at h2
  cases h2
  rw [h1,Nat.zero_add,List.getElem?_take,if_pos hk]
  exact hw'
 obtain ⟨ρc0,hR0,hsub0⟩:=SubR.rl hsh0 hR' hself
 have hE0:=hE'.sel hsub0
 have hpre0:Pre (γ'.take n0) γ':=fun i v h=>by
  rw [List.getElem?_take] at h
  split at h
  ·exact h
  ·cases h
 have hlen0:(γ'.take n0).length=n0:=by simp;omega
 have hIb:=hI'.rebase hpre0
 refine wpIn_wide.1 (rangeV2 (k:=0) hg0 hf hb hseq (fun _=>False) (fun _ h=>h.elim) (fun pre m1 W1=>∃ γ1,In ⟨m,w,blks γ' (ηs []),γ'.take n0⟩ m1 W1 γ1 (ηs pre)) (fun _ _ _=>False) ?_ ?_ ⟨γ',hIb⟩ ?_ ?_ ?_ ?_)
 ·rintro pre m1 W1 m2 W2 ⟨γ1,h1⟩ hs
  exact ⟨γ1,h1.step hs⟩
 ·rintro _ _ _ _ _ h _;exact h
 ·intro x;rw [has];rfl
 ·rintro l pre x m1 W1 v1 v2 hl ⟨γ1,h1⟩ hpre hv he
  rw [has] at hv
  have hrep1:Rep m1 W1 γ1 v1 (u1 x):=hv.1.mono (.refl _ _) (fun i v h=>by simp at h)
  have hrep2:Rep m1 W1 γ1 v2 (u2 x):=hv.2.1.mono (.refl _ _) (fun i v h=>by simp at h)
  have hIx:=h1.rebase h1.pre
  have hEr:Env C.N [] ((({ tmps:=(a.tmps.setIfInBounds t1 v1).setIfInBounds t2 v2,defers:=[] }:Act).put (some d1) (({ tmps:=(a.tmps.setIfInBounds t1 v1).setIfInBounds t2 v2,defers:=[] }:Act).eval (.tmp t1))).put (some d2) ((({ tmps:=(a.tmps.setIfInBounds t1 v1).setIfInBounds t2 v2,defers:=[] }:Act).put (some d1) (({ tmps:=(a.tmps.setIfInBounds t1 v1).setIfInBounds t2 v2,defers:=[] }:Act).eval (.tmp t1))).eval (.tmp t2))) ((d2,v2)::(d1,v1)::(t2,v2)::(t1,v1)::ρc0):=by
   have hb1:Nat.beq t2 t1=false:=by
    cases h:Nat.beq t2 t1 with
    | false=>rfl
    | true=>exact absurd (Nat.eq_of_beq_eq_true h) (by simpa using hne)
   have hb2:Nat.beq d1 t2=false:=by
    cases h:Nat.beq d1 t2 with
    | false=>rfl
    | true=>exact absurd (Nat.eq_of_beq_eq_true h) (by simpa using hne2)
   have h1:=Env.setT (v:=v1) hE0 (by simpa using ht1)
   have h2:Env C.N [] ({ tmps:=(a.tmps.setIfInBounds t1 v1).setIfInBounds t2 v2,defers:=[] }:Act) ((t2,v2)::(t1,v1)::ρc0):=Env.setT (v:=v2) h1 (by simpa using ht2)
   have h3:({ tmps:=(a.tmps.setIfInBounds t1 v1).setIfInBounds t2 v2,defers:=[] }:Act).eval (.tmp t1)=v1:=h2.ev (x:=.tmp t1) (by simp [W.ev,W.look,hb1])
   rw [h3]
   have h4:=h2.put (d:=d1) v1 (by simpa using hd1)
   have h5:(({ tmps:=(a.tmps.setIfInBounds t1 v1).setIfInBounds t2 v2,defers:=[] }:Act).put (some d1) v1).eval (.tmp t2)=v2:=h4.ev (x:=.tmp t2) (by simp [W.ev,W.look,hb2])
   rw [h5]
   exact h4.put v2 (by simpa using hd2)
  have hb:=hround pre x ⟨m1,W1,blks γ1 (ηs pre),γ'.take n0⟩ hlen0 l hpre _ _ ⟨m1,γ1,_,hEr,⟨rfl,hrep2,rfl,hrep1,rfl,hrep2,rfl,hrep1,hR0.mono he h1.pre⟩,hIx⟩
  rw [Cx.W_some rfl] at hb
  refine wpIn_mono hb fun e a' W' hq=>?_
  cases e with
  | normal =>
    obtain ⟨m3,γ3,_,_,_,h3⟩:=hq
    refine ⟨m3,h3.far.ext,fun b o _ hbo hld=>?_,γ3,h3.comp h1.far (blks_own h1) (.refl _)⟩
    have hn:b ∉ blks γ1 (ηs pre):=fun hm=>by rw [blks_notLD h1 b hm o hbo] at hld;cases hld
    rw [h3.far.block b (Array.getElem?_eq_some_iff.1 hbo).1 hn];exact hbo
  | _=>exact hq.elim
 ·rintro m' W' he ⟨γL,hL⟩ hD
  have hpc:Pre C.B.γ (γ'.take n0):=fun i v h=>by
   have hi:=(List.getElem?_eq_some_iff.1 h).1
   rw [C.hn] at hi
   rw [List.getElem?_take,if_pos (by omega)]
   exact hI'.pre i v h
  have hIL:=hL.rebase (hpc.trans hL.pre)
  have hM:Marked C.B ⟨m',W',blks γL (ηs L),C.B.γ⟩ w.heap.size:=by
   refine ⟨hI'.far.trans hL.far (blks_own hI'),fun b hb=>?_,.refl _,hD,fun hm=>?_,hI'.far.size⟩
   ·rcases blks_own hL b hb with h|h
    ·exact blks_own hI' b h
    ·exact .inr (Nat.le_trans hI'.far.size h)
   ·have:=blks_notLD hL _ hm _ hD;cases this
  exact hdone ⟨m',W',blks γL (ηs L),C.B.γ⟩ C.hn _ hM _ _ ⟨m',γL,ρc0,⟨hE0.size,by show _::a.defers=_;rw [hE0.defers],hE0.look⟩,hR0.mono he hL.pre,hIL⟩
 ·rintro _ _ _ _ h;exact h.elim
end
end Go.V
namespace Go.V
open Go Go.W Go.RowKit
def noPan (Q:Qt):Qt:=fun e a w=>match e with
 | .panic _=>False
 | e=>Q e a w
section
variable {C:Cx} {Q:Qt} {ρ:Ro} {η:Eta} {A:Code}
theorem noPan_of {e a w} (h:noPan Q e a w):Q e a w:=by
 cases e<;>first|exact h|exact h.elim
theorem TC.np (h:TC C (noPan Q) A ρ η):TC C Q A ρ η:=fun a w hA=>Cx.mono (h a w hA) fun _ _ _=>noPan_of
theorem TX.npN (h:TX C Q .normal ρ η):TX C (noPan Q) .normal ρ η:=h
end
end Go.V
namespace Go.V
open Go Go.W
section
variable {C:Cx} {ops:Array Oper} {Q:Qt} {ρ ρ':Ro} {η η' η2:Eta} {rest:List Oper} {T d X Y:Nat} {pos:String} {af:Array Edge} {op:Op} {x y z:Operand} {A K:Code} {e:Exit}
variable {M:Bool} {fi fuel:Nat} {l:List Oper} {listed:Array Bool} {g:Option (Nat × Bool)}
theorem OD.li {len sz E k:Nat} {parts:Array (Nat × Operand)} {us:List AV} (i:Nat) (kk:OD C M fi l.toArray Q fuel (listed.setIfInBounds i true) ((d,.hs k)::ρ) η2) (hi:l[i]?=some ⟨some d,.buildSlice X (len+1) parts,T,pos,af,g⟩:=by with_unfolding_all exact rfl) (hg:GB l.toArray ρ g true:=by first|with_unfolding_all exact rfl|with_unfolding_all exact ⟨_,_,rfl,rfl,rfl⟩)
  (hs:(C.tab X).map (·.sh)=some (.slice E):=by with_unfolding_all exact rfl) (hz:(C.tab E).map (·.size)=some (sz+1):=by with_unfolding_all exact rfl) (hp1:parts.toList.map (·.1)=List.range' 0 (len+1):=by with_unfolding_all exact rfl) (hp2:evs2 ρ (parts.toList.map (·.2))=some us:=by with_unfolding_all exact rfl) (hu:litOk (sz+1) us=true:=by with_unfolding_all exact rfl) (hl:Nat.ble ((len+1)*(sz+1)) 16000=true:=by with_unfolding_all exact rfl)
  (hk:η.length=k:=by (try dsimp only [List.length])<;>exact rfl) (hη:η++[.gs false E (sz+1) (some false) us]=η2:=by (try dsimp only [List.cons_append,List.nil_append,List.append_eq])<;>exact rfl) (hd:Nat.blt d C.N=true:=by with_unfolding_all exact rfl) (hrd:Region.ready .any l.toArray listed=[i]:=by kernel_rfl):OD C M fi l.toArray Q (fuel+1) listed ρ η:=OD.n1 i (One.lit hs hz hp1 hp2 hu hl hk hη hd) kk hi hg hrd
theorem NextBy.li {i:Nat} {len sz E k:Nat} {parts:Array (Nat × Operand)} {us:List AV} (kk:OD C M fi l.toArray Q fuel (listed.setIfInBounds i true) ((d,.hs k)::ρ) η2) (hi:l[i]?=some ⟨some d,.buildSlice X (len+1) parts,T,pos,af,g⟩:=by with_unfolding_all exact rfl) (hg:GB l.toArray ρ g true:=by first|with_unfolding_all exact rfl|with_unfolding_all exact ⟨_,_,rfl,rfl,rfl⟩)
  (hs:(C.tab X).map (·.sh)=some (.slice E):=by with_unfolding_all exact rfl) (hz:(C.tab E).map (·.size)=some (sz+1):=by with_unfolding_all exact rfl) (hp1:parts.toList.map (·.1)=List.range' 0 (len+1):=by with_unfolding_all exact rfl) (hp2:evs2 ρ (parts.toList.map (·.2))=some us:=by with_unfolding_all exact rfl) (hu:litOk (sz+1) us=true:=by with_unfolding_all exact rfl) (hl:Nat.ble ((len+1)*(sz+1)) 16000=true:=by with_unfolding_all exact rfl)
  (hk:η.length=k:=by (try dsimp only [List.length])<;>exact rfl) (hη:η++[.gs false E (sz+1) (some false) us]=η2:=by (try dsimp only [List.cons_append,List.nil_append,List.append_eq])<;>exact rfl) (hd:Nat.blt d C.N=true:=by with_unfolding_all exact rfl):NextBy C M fi l Q fuel listed ρ η i:=NextBy.o (One.lit hs hz hp1 hp2 hu hl hk hη hd) kk hi hg
theorem OD.wk2 {ops:Array Oper} (h:Wk C ρ η ρ' η') (k:OD C M fi ops Q fuel listed ρ' η'):OD C M fi ops Q fuel listed ρ η:=fun a w hA=>k a w (h a w hA)
theorem OD.vw {ops:Array Oper} {i E sz:Nat} {fz nl} {xs:List AV} (t:Nat) (k:OD C M fi ops Q fuel listed ((t,.sl sz none xs)::ρ) η2) (hx:lk ρ t=some (.hs i):=by with_unfolding_all exact rfl) (ho:η[i]?=some (.gs fz E sz nl xs):=by with_unfolding_all exact rfl) (hη:η.set i (.gs true E sz nl xs)=η2:=by (try dsimp only [List.set])<;>exact rfl):OD C M fi ops Q fuel listed ρ η:=OD.wk2 (Wk.view hx ho) (hη ▸ k)
theorem gvW {i k o E sz:Nat} {nl} {xs:List AV} {el c:AV} (he:xs[k]?=some el) (hs:(C.tab X).map (·.sh.agg)=some false:=by with_unfolding_all exact rfl) (hx:ev2 ρ x=some (.gp i sz k o):=by with_unfolding_all exact rfl) (ho:η[i]?=some (.gw E sz nl xs):=by with_unfolding_all exact rfl) (hc:el.cells[o]?=some c:=by with_unfolding_all exact rfl):Gives C.P C.N C.D (.load X x) ρ η c:=give_load_gw C.hT hs hx ho he hc
theorem OL.toG {E sz:Nat} {nl} {xs:List AV} (i:Nat) (kk:OL C ops Q rest ρ η2) (ho:η[i]?=some (.gs false E sz nl xs):=by with_unfolding_all exact rfl) (hη:η.set i (.gw E sz nl xs)=η2:=by (try dsimp only [List.set])<;>exact rfl):OL C ops Q rest ρ η:=OL.wk (Wk.toG ho) (hη ▸ kk)
theorem TC.toG {E sz:Nat} {nl} {xs:List AV} (i:Nat) (kk:TC C Q A ρ η2) (ho:η[i]?=some (.gs false E sz nl xs):=by with_unfolding_all exact rfl) (hη:η.set i (.gw E sz nl xs)=η2:=by (try dsimp only [List.set])<;>exact rfl):TC C Q A ρ η:=TC.wk (Wk.toG ho) (hη ▸ kk)
theorem TC.ofG {E sz:Nat} {nl} {xs ys:List AV} (i:Nat) (h:xs=ys) (hp:∀ x∈ys,x.cells.all pureA=true) (kk:TC C Q A ρ η2) (ho:η[i]?=some (.gw E sz nl xs):=by with_unfolding_all exact rfl) (hη:η.set i (.gs false E sz nl ys)=η2:=by (try dsimp only [List.set])<;>exact rfl):TC C Q A ρ η:=by
 subst h;exact TC.wk (Wk.ofG ho hp) (hη ▸ kk)
theorem TX.ofG {E sz:Nat} {nl} {xs ys:List AV} (i:Nat) (h:xs=ys) (hp:∀ x∈ys,x.cells.all pureA=true) (kk:TX C Q e ρ η2) (ho:η[i]?=some (.gw E sz nl xs):=by with_unfolding_all exact rfl) (hη:η.set i (.gs false E sz nl ys)=η2:=by (try dsimp only [List.set])<;>exact rfl):TX C Q e ρ η:=by
 subst h;exact TX.wk (Wk.ofG ho hp) (hη ▸ kk)
theorem OL.frz {E sz:Nat} {fz nl} {xs:List AV} (i:Nat) (k:OL C ops Q rest ρ η2) (ho:η[i]?=some (.gs fz E sz nl xs):=by with_unfolding_all exact rfl) (hη:η.set i (.gs true E sz nl xs)=η2:=by (try dsimp only [List.set])<;>exact rfl):OL C ops Q rest ρ η:=OL.wk (Wk.freeze ho) (hη ▸ k)
theorem TX.frz {E sz:Nat} {fz nl} {xs:List AV} (i:Nat) (k:TX C Q e ρ η2) (ho:η[i]?=some (.gs fz E sz nl xs):=by with_unfolding_all exact rfl) (hη:η.set i (.gs true E sz nl xs)=η2:=by (try dsimp only [List.set])<;>exact rfl):TX C Q e ρ η:=TX.wk (Wk.freeze ho) (hη ▸ k)
theorem TX.viewEl {i j o E sz E2 sz2:Nat} {nl} {fz nl2} {xs ys cs:List AV} (n:Nat) (hn:xs[n]?=some (.st cs)) (kk:TX C Q e ρ η2) (ho:η[i]?=some (.gw E sz nl xs):=by with_unfolding_all exact rfl) (hc:cs[o]?=some (.hs j):=by with_unfolding_all exact rfl) (hj:η[j]?=some (.gs fz E2 sz2 nl2 ys):=by with_unfolding_all exact rfl)
  (hη:(η.set j (.gs true E2 sz2 nl2 ys)).set i (.gw E sz nl (xs.set n (.st (cs.set o (.sl sz2 none ys)))))=η2:=by (try dsimp only [List.set])<;>exact rfl):TX C Q e ρ η:=TX.wk (Wk.viewEl ho hn hc hj) (hη ▸ kk)
variable {args:List Operand} {at_:Array TypeId}
theorem OL.chv {P:Program} {f:Nat} {fn:Func} {us as first caps:List AV} {r r2} {η1 η1' η2:Eta} {args:List Operand} {at_:Array TypeId} (is:List Nat) (hs:Spec P f as η1 r η1') (hf:P.funcs[f]?=some fn) (k:OL C ops Q rest ((d,r2)::ρ) η2)
  (hP : C.P = P := by with_unfolding_all exact rfl) (hx : ev2 ρ x = some (.fn (.func f) first caps) := by with_unfolding_all exact rfl) (hb : (fn.body.isNone || fn.name == "runtime.NumGoroutine") = false := by with_unfolding_all exact rfl) (hl : evs2 ρ args = some us := by with_unfolding_all exact rfl)
  (hn:nodB is=true:=by with_unfolding_all exact rfl)
  (ho:SubO (ts is) η is η1:=by repeat' (first|with_unfolding_all exact trivial|exact OE.ren (by with_unfolding_all exact rfl)|with_unfolding_all exact OE.gs|with_unfolding_all refine And.intro ⟨_,by with_unfolding_all exact rfl,?_⟩ ?_))
  (hle:LEs (ts is) (first++us++caps) as:=by repeat' (first|with_unfolding_all exact trivial|exact LE.ren (by with_unfolding_all exact rfl)|with_unfolding_all exact LE.sl|with_unfolding_all exact LE.nil (by decide)|with_unfolding_all refine And.intro ?_ ?_)) (hd:Nat.blt d C.N=true:=by with_unfolding_all exact rfl)
  (hr:ren (back is η.length) r=r2:=by (try simp only [ren,ren0,ren1,ren2,back,Nat.blt,Nat.ble,cond_true,cond_false,List.map,List.length,List.getElem?_cons_succ,List.getElem?_cons_zero,List.getElem?_nil,Nat.add_zero,Nat.zero_add,Nat.reduceAdd,Nat.reduceSub])<;>exact rfl)
  (hη:upd is (η1'.map (renO (back is η.length))) η++(η1'.drop is.length).map (renO (back is η.length))=η2:=by (try simp only [upd,renO,ren,ren0,ren1,ren2,back,Nat.blt,Nat.ble,cond_true,cond_false,List.set,List.drop,List.map,List.length,List.cons_append,List.nil_append,List.append_nil,List.getElem?_cons_succ,List.getElem?_cons_zero,List.getElem?_nil,Nat.add_zero,Nat.zero_add,Nat.reduceAdd,Nat.reduceSub])<;>exact rfl) :
  OL C ops Q (⟨some d,.call ⟨.value x,args.toArray,at_⟩,T,pos,af,none⟩::rest) ρ η:=by
 subst hP
 exact OL.callv is hx hs hf hb hl hn ho hle hd hr hη k
theorem gvLk {i:Nat} {es:List (Int × AV)} {k:Int} {K E:Nat} {te:TyE} {v:AV} {found:Bool} (hv:(found=true∧afind k es=some v)∨(found=false∧afind k es=none∧∀ m w γ,Rep m w γ te.zero v)) (hs:(C.tab X).map (·.sh)=some (.map K E):=by with_unfolding_all exact rfl) (hkt:(C.tab K).map (·.sh)=some (.int .i64):=by with_unfolding_all exact rfl) (hE:C.tab E=some te:=by with_unfolding_all exact rfl)
  (hx:ev2 ρ x=some (.mp i):=by with_unfolding_all exact rfl) (ho:η[i]?=some (.mo es):=by with_unfolding_all exact rfl) (hy:ev2 ρ y=some (.raw (.int .i64 k)):=by with_unfolding_all exact rfl):Gives C.P C.N C.D (.lookup X x y true) ρ η (.tp [v,.raw (.bool found)]):=give_lookup2 C.hT hv hs hkt hE hx ho hy
end
end Go.V
namespace Go.V
open Go Go.W
section
variable {P:Program} (w:World)
structure EqF4 (P:Program) (t e s e1 e2:Nat) (k:IntKind):Prop where
 st:P.underlying t=some (.struct (P.fieldsOf t))
 held:P.stoodInHeld t=false
 fs : (P.fieldsOf t).toList.map (fun f => (f.name == "_", f.type, f.offset)) = [(false, e, 0), (false, e, 1), (false, s, 2)]
 el:P.underlying e=some (.int k)
 inn:EqD2 P s e1 e2 k
 sz:∃ i,P.info? s=some i
 cz:P.cellsOf s=2
 gd:P.eqGuardType P.depth t=false
theorem eqD2n {n:Nat} {t e e2:Nat} {k:IntKind} (h:EqD2 P t e e2 k) (a b c d:Int):(Op.equalIn (n+2) t (.agg #[.int k a,.int k b]) (.agg #[.int k c,.int k d])).run P w=.ok (a==c&&b==d) w:=by
 have hna:∀ w,(isAgg e).run P w=.ok false w:=fun w=>by simp [isAgg,run_underlying h.el]
 have hna2:∀ w,(isAgg e2).run P w=.ok false w:=fun w=>by simp [isAgg,run_underlying h.el2]
 rw [show n+2=(n+1)+1 from rfl,run_equalIn_struct w (n+1) t _ _ h.st h.held]
 have hf:=h.fs
 generalize (P.fieldsOf t).toList=fs at hf
 have hi':∀ w,∀ x y:Int,(Op.equalIn (n+1) e (.int k x) (.int k y)).run P w=.ok (x==y) w:=fun w x y=>run_equalIn_int w n e k k x y h.el
 have hi2':∀ w,∀ x y:Int,(Op.equalIn (n+1) e2 (.int k x) (.int k y)).run P w=.ok (x==y) w:=fun w x y=>run_equalIn_int w n e2 k k x y h.el2
 obtain ⟨f0,f1,rfl⟩:∃ f0 f1,fs=[f0,f1]:=by
  have hl:fs.length=2:=by have:=congrArg List.length hf;simpa using this
  match fs,hl with
  | [f0,f1],_=>exact ⟨f0,f1,rfl⟩
 simp only [List.map_cons,List.map_nil,List.cons.injEq,Prod.mk.injEq,beq_eq_false_iff_ne,and_true] at hf
 obtain ⟨⟨n0,t0,o0⟩,n1,t1,o1⟩:=hf
 have p0:∀ w (a b:Int),(part e #[Value.int k a,.int k b] 0).run P w=.ok (.int k a) w:=fun w a b=>run_part1 w hna rfl
 have p1:∀ w (a b:Int),(part e2 #[Value.int k a,.int k b] 1).run P w=.ok (.int k b) w:=fun w a b=>run_part1 w hna2 rfl
 simp only [Op.eqFields,ne_eq,n0,n1,not_false_eq_true,if_true,Sem.run_bind,t0,t1,o0,o1,p0,Result.andThen_ok,hi']
 by_cases h1:a=c<;>by_cases h2:b=d<;>simp [h1,h2,p1,hi2']
theorem eqF4 {t e s e1 e2:Nat} {k:IntKind} (h:EqF4 P t e s e1 e2 k) (a b c d a' b' c' d':Int) :
  (Op.equalIn 10000 t (.agg #[.int k a,.int k b,.int k c,.int k d]) (.agg #[.int k a',.int k b',.int k c',.int k d'])).run P w=.ok (a==a'&&(b==b'&&(c==c'&&d==d'))) w:=by
 have hna:∀ w,(isAgg e).run P w=.ok false w:=fun w=>by simp [isAgg,run_underlying h.el]
 have hns:∀ w,(isAgg s).run P w=.ok true w:=fun w=>by simp [isAgg,run_underlying h.inn.st]
 obtain ⟨i,hi⟩:=h.sz
 have hz:=h.cz
 rw [show (10000:Nat)=9999+1 from rfl,run_equalIn_struct w 9999 t _ _ h.st h.held]
 have hf:=h.fs
 generalize (P.fieldsOf t).toList=fs at hf
 have hi':∀ w,∀ x y:Int,(Op.equalIn 9999 e (.int k x) (.int k y)).run P w=.ok (x==y) w:=fun w x y=>run_equalIn_int w 9998 e k k x y h.el
 have hs':∀ w,∀ x y x' y':Int,(Op.equalIn 9999 s (.agg #[.int k x,.int k y]) (.agg #[.int k x',.int k y'])).run P w=.ok (x==x'&&y==y') w:=fun w x y x' y'=>eqD2n w h.inn x y x' y'
 obtain ⟨f0,f1,f2,rfl⟩:∃ f0 f1 f2,fs=[f0,f1,f2]:=by
  have hl:fs.length=3:=by have:=congrArg List.length hf;simpa using this
  match fs,hl with
  | [f0,f1,f2],_=>exact ⟨f0,f1,f2,rfl⟩
 simp only [List.map_cons,List.map_nil,List.cons.injEq,Prod.mk.injEq,beq_eq_false_iff_ne,and_true] at hf
 obtain ⟨⟨n0,t0,o0⟩,⟨n1,t1,o1⟩,n2,t2,o2⟩:=hf
 have p0:∀ w (a b c d:Int),(part e #[Value.int k a,.int k b,.int k c,.int k d] 0).run P w=.ok (.int k a) w:=fun w a b c d=>run_part1 w hna rfl
 have p1:∀ w (a b c d:Int),(part e #[Value.int k a,.int k b,.int k c,.int k d] 1).run P w=.ok (.int k b) w:=fun w a b c d=>run_part1 w hna rfl
 have p2:∀ w (a b c d:Int),(part s #[Value.int k a,.int k b,.int k c,.int k d] 2).run P w=.ok (.agg #[.int k c,.int k d]) w:=fun w a b c d=>by
  simp [part,hns,run_sizeOf w hi,hz]
 simp only [Op.eqFields,ne_eq,n0,n1,n2,not_false_eq_true,if_true,Sem.run_bind,t0,t1,t2,o0,o1,o2,p0,Result.andThen_ok,hi']
 by_cases h1:a=a'<;>by_cases h2:b=b'<;>by_cases h3:c=c'<;>by_cases h4:d=d'<;>simp [h1,h2,h3,h4,p1,p2,hi',hs']
end
section
variable {C:Cx} {ops:Array Oper} {Q:Qt} {ρ ρ':Ro} {η η' η2:Eta} {rest:List Oper} {T d X Y:Nat} {pos:String} {af:Array Edge} {op:Op} {x y z:Operand}
theorem OL.neF4 {P:Program} {e s e1 e2:Nat} {k:IntKind} {a b c f a' b' c' f':Int} (h:EqF4 P X e s e1 e2 k) (kk:OL C ops Q rest ((d,bool (!(a==a'&&(b==b'&&(c==c'&&f==f')))))::ρ) η) (hP:C.P=P:=by with_unfolding_all exact rfl)
  (hx:ev2 ρ x=some (.st [.raw (.int k a),.raw (.int k b),.raw (.int k c),.raw (.int k f)]):=by with_unfolding_all exact rfl) (hy:ev2 ρ y=some (.st [.raw (.int k a'),.raw (.int k b'),.raw (.int k c'),.raw (.int k f')]):=by with_unfolding_all exact rfl) (hd:Nat.blt d C.N=true:=by with_unfolding_all exact rfl) :
  OL C ops Q (⟨some d,.binOp .neq X x y Y,T,pos,af,none⟩::rest) ρ η:=by
 subst hP
 exact OL.give (give_eqn (ng:=true) (us:=[.int k a,.int k b,.int k c,.int k f]) (vs:=[.int k a',.int k b',.int k c',.int k f']) hx hy (fun w=>V.eqF4 w h a b c f a' b' c' f') h.gd) hd kk
end
end Go.V
namespace Go.V
open Go Go.W
def LEcs:List AV→List AV→Prop
 | [],[]=>True
 | x::r,y::s=>LEs (ts []) x.cells y.cells∧LEcs r s
 | _,_=>False
theorem LEcs.len:∀ {xs ys:List AV},LEcs xs ys→xs.length=ys.length
 | [],[],_=>rfl
 | _::_,_::_,h=>by rw [List.length_cons,List.length_cons,LEcs.len h.2]
 | [],_::_,h=>h.elim
 | _::_,[],h=>h.elim
theorem LEcs.get:∀ {xs ys:List AV},LEcs xs ys→∀ (j:Nat) x y,xs[j]?=some x→ys[j]?=some y→LEs (ts []) x.cells y.cells
 | [],_,_,j,x,y,h,_=>by simp at h
 | _::_,[],h,_,_,_,_,_=>h.elim
 | a::r,b::s,h,0,x,y,h1,h2=>by simp at h1 h2;subst h1 h2;exact h.1
 | a::r,b::s,h,j+1,x,y,h1,h2=>LEcs.get h.2 j x y (by simpa using h1) (by simpa using h2)
theorem LE.slc {τ:Nat→Option Nat} {sz nl} {xs ys:List AV} (h:LEcs xs ys):LE τ (.sl sz nl xs) (.sl sz none ys):=by
 intro m w γ γ' _ v hr
 have hl:=h.len
 cases hr with
 | nil _ =>
   have:ys=[]:=List.eq_nil_of_length_eq_zero (by simpa using hl.symm)
   subst this;exact .nil nofun
 | sl0 _ =>
   have:ys=[]:=List.eq_nil_of_length_eq_zero (by simpa using hl.symm)
   subst this;exact .sl0 nofun
 | sl cv hn h1 h2 hc hr =>
   rw [hl]
   have hxi:∀ (i:Nat) y,ys[i]?=some y→∃ x,xs[i]?=some x:=fun i y hi=>by
    have hlt:=(List.getElem?_eq_some_iff.1 hi).1
    exact ⟨_,List.getElem?_eq_getElem (by omega)⟩
   refine .sl cv nofun (by omega) h2 (fun i y hi=>?_) (fun i y j c z hi hc1 hz=>?_)
   ·obtain ⟨x,hx⟩:=hxi i y hi
    obtain ⟨a,b,c,d⟩:=hc i x hx
    exact ⟨a,by rw [← (LEs.get (h.get i x y hx hi)).1];exact b,c,d⟩
   ·obtain ⟨x,hx⟩:=hxi i y hi
    have hle:=h.get i x y hx hi
    have hj:j < x.cells.length:=by rw [(LEs.get hle).1];exact (List.getElem?_eq_some_iff.1 hz).1
    exact (LEs.get hle).2 j _ z (List.getElem?_eq_getElem hj) hz m w [] [] (fun i j h=>by cases h) c (hr i x j c _ hx hc1 (List.getElem?_eq_getElem hj))
section
variable {C:Cx} {ops:Array Oper} {Q:Qt} {ρ:Ro} {η η2:Eta} {rest:List Oper} {T d X:Nat} {pos:String} {af:Array Edge} {x y:Operand} {A:Code}
variable {z:Operand} {M:Bool}
theorem gvs2 {α:Type} {f:α→AV} {sz E:Nat} {nl:Option Bool} {i j:Int} {xs:List α} (l h:Nat) (hs:(C.tab X).map (·.sh)=some (.slice E):=by with_unfolding_all exact rfl) (hz:(C.tab E).map (·.size)=some sz:=by with_unfolding_all exact rfl)
  (hx:ev2 ρ x=some (.sl sz nl (xs.map f)):=by with_unfolding_all exact rfl) (hy:ev2 ρ y=some (.raw (.int .i64 i)):=by with_unfolding_all exact rfl) (hz':ev2 ρ z=some (.raw (.int .i64 j)):=by with_unfolding_all exact rfl) (hi:i=(l:Nat):=by omega) (hj:j=(h:Nat):=by omega) (hlh:l≤h:=by omega) (hh:h≤xs.length:=by omega) :
  Gives C.P C.N C.D (.slice X x (some y) (some z) none) ρ η (.sl sz none (((xs.take h).drop l).map f)) M:=give_slice_2 (Cx.hT _) hs hz hx hy hi hz' hj hlh hh
theorem OL.sl2 {α:Type} {f:α→AV} {sz:Nat} {xs:List α} (l h:Nat) (kk:OL C ops Q rest ((d,.sl sz none (((xs.take h).drop l).map f))::ρ) η) (hg:Gives C.P C.N C.D (.slice X x (some y) (some z) none) ρ η (.sl sz none (((xs.take h).drop l).map f)) true:=by exact gvs2 _ _) (hd:Nat.blt d C.N=true:=by with_unfolding_all exact rfl) :
  OL C ops Q (⟨some d,.slice X x (some y) (some z) none,T,pos,af,none⟩::rest) ρ η:=OL.give hg hd kk
theorem gvEqD2 {P:Program} {e e2:Nat} {k:IntKind} {a b a' b':Int} {M:Bool} {Y:Nat} (h:EqD2 P X e e2 k) (hP:C.P=P:=by with_unfolding_all exact rfl)
  (hx:ev2 ρ x=some (.st [.raw (.int k a),.raw (.int k b)]):=by with_unfolding_all exact rfl) (hy:ev2 ρ y=some (.st [.raw (.int k a'),.raw (.int k b')]):=by with_unfolding_all exact rfl):Gives C.P C.N C.D (.binOp .eql X x y Y) ρ η (bool (a==a'&&b==b')) M:=by
 subst hP
 exact give_eqn (ng:=false) (us:=[.int k a,.int k b]) (vs:=[.int k a',.int k b']) hx hy (fun w=>V.eqD2 w h a b a' b') h.gd
theorem gvNeD2 {P:Program} {e e2:Nat} {k:IntKind} {a b a' b':Int} {M:Bool} {Y:Nat} (h:EqD2 P X e e2 k) (hP:C.P=P:=by with_unfolding_all exact rfl)
  (hx:ev2 ρ x=some (.st [.raw (.int k a),.raw (.int k b)]):=by with_unfolding_all exact rfl) (hy:ev2 ρ y=some (.st [.raw (.int k a'),.raw (.int k b')]):=by with_unfolding_all exact rfl):Gives C.P C.N C.D (.binOp .neq X x y Y) ρ η (bool (!(a==a'&&b==b'))) M:=by
 subst hP
 exact give_eqn (ng:=true) (us:=[.int k a,.int k b]) (vs:=[.int k a',.int k b']) hx hy (fun w=>V.eqD2 w h a b a' b') h.gd
def CutQ (C:Cx) (ρ1:Ro) (η1:Eta) (Q:Qt):Qt:=fun e a w=>match e with
 | .normal=>A2 C.N C.D C.B a w ρ1 η1
 | e=>Q e a w
theorem TC.cut {Q:Qt} (ρ1:Ro) (η1:Eta) (h1:TC C (CutQ C ρ1 η1 Q) A ρ η) (h2:TX C Q .normal ρ1 η1):TC C Q A ρ η:=fun a w hA=>Cx.mono (h1 a w hA) fun e a w h=>by
 cases e with
 | normal=>exact h2 a w h
 | _=>exact h
theorem TX.ct {Q:Qt} {ρ1:Ro} {η1:Eta} (σ:List Nat) (hn:nodB σ=true:=by with_unfolding_all exact rfl) (hp:preB C.n 0 σ=true:=by with_unfolding_all exact rfl)
  (ho:SubO (ts σ) η σ η1:=by repeat' (first|with_unfolding_all exact trivial|exact OE.ren (by with_unfolding_all exact rfl)|with_unfolding_all exact OE.gs|with_unfolding_all refine And.intro ⟨_,by with_unfolding_all exact rfl,?_⟩ ?_))
  (hr:SubR (ts σ) ρ ρ1:=by repeat' (first|with_unfolding_all exact trivial|exact LE.ren (by with_unfolding_all exact rfl)|with_unfolding_all exact LE.sl|with_unfolding_all exact LE.nil (by decide)|with_unfolding_all exact LE.junk|with_unfolding_all refine And.intro ⟨_,by with_unfolding_all exact rfl,?_⟩ ?_)):TX C (CutQ C ρ1 η1 Q) .normal ρ η:=fun _ _ hA=>hA.sel C.hn hn hp ho hr
theorem OD.kn {ops:Array Oper} {fi fuel:Nat} {listed:Array Bool} {x y:AV} (t:Nat) (h:LE (ts []) x y) (k:OD C M fi ops Q fuel listed ((t,y)::ρ) η) (hx:lk ρ t=some x:=by with_unfolding_all exact rfl):OD C M fi ops Q fuel listed ρ η:=
 fun a w hA=>k a w (hA.know hx fun m w γ v hr=>h m w γ γ (fun i j h=>by cases h) v hr)
end
end Go.V
namespace Go.V
open Go Go.W
section
variable {C:Cx} {ops:Array Oper} {Q:Qt} {md:Region.Mode} {R:World→World→Prop} {fi:Nat}
theorem wpAnyR_firstT (hrf:∀ w,R w w) {i:Nat} {oi:Oper} {v:Value} (hi:ops[i]?=some oi) (hsel:∀ (j:Nat) (o:Oper) cs b,ops[j]?=some o→o.op≠.select cs b)
  (hdf:∀ (j:Nat) (o:Oper),ops[j]?=some o→∀ c,o.op≠.defer c)
  (hQ:∀ c a w,Q (.panic c) (a.put oi.dst v) w→Q (.panic c) a w) :
  ∀ (fuel:Nat) (listed:Array Bool) (a:Act) (w:World),Closed md ops listed →
   (∀ (j:Nat) oj,ops[j]?=some oj→j≠i→listed.getD j true=false→(∀ e∈oj.after,Region.binds md e=true→e.on≠i)→oi.apart ops oj=true) →
   i∈Region.ready md ops listed→YieldsIf C.P ops (fun _=>True) oi v a →
   wpAnyR C md ops Q R fi fuel (listed.setIfInBounds i true) (a.put oi.dst v) w→wpAnyR C md ops Q R fi (fuel+1) listed a w:=by
 intro fuel
 induction fuel with
 | zero =>
   intro listed a w _ _ hr hy H
   refine ⟨fun h=>(by rw [h] at hr;cases hr),fun j hj=>?_⟩
   by_cases hji:j=i
   ·subst hji;exact Cx.O_yields hi hy trivial ⟨.inr (hrf w),H⟩
   ·have:=ready_mono hj hji
    rw [H.1] at this
    cases this
 | succ fuel ih =>
   intro listed a w hcl hfree hr hy H
   refine ⟨fun h=>(by rw [h] at hr;cases hr),fun j hj=>?_⟩
   by_cases hji:j=i
   ·subst hji;exact Cx.O_yields hi hy trivial ⟨.inr (hrf w),H⟩
   ·have h1:=H.2 j (ready_mono hj hji)
    obtain ⟨hjun,oj,hoj,hall⟩:=mem_ready.1 hj
    have hnot:∀ e∈oj.after,Region.binds md e=true→e.on≠i:=fun e he hb heq=>by
     have h1:=hall e he hb
     have h0:=(mem_ready.1 hr).1
     rw [heq] at h1
     rcases Nat.lt_or_ge i listed.size with h'|h'
     ·simp [h'] at h0 h1;rw [h0] at h1;cases h1
     ·simp [Array.getElem?_eq_none h'] at h1
    have h2:=Cx.O_put hoj (hfree j oj hoj hji hjun hnot) (fun cs b=>hsel i oi cs b hi) (fun cs b=>hsel j oj cs b hoj) (hdf j oj hoj) hQ hy h1
    have hfree':∀ (k:Nat) ok,ops[k]?=some ok→k≠i→(listed.setIfInBounds j true).getD k true=false →
      (∀ e∈ok.after,Region.binds md e=true→e.on≠i)→oi.apart ops ok=true:=fun k ok hk hki hun hno=>by
     refine hfree k ok hk hki ?_ hno
     by_cases hjk:j=k
     ·subst hjk;exact hjun
     ·rw [getD_set_ne true hjk] at hun;exact hun
    refine Cx.O_mono (fun a' w' h3=>?_) h2
    refine ⟨h3.2.1,ih (listed.setIfInBounds j true) a' w' (hcl.set hj) hfree' (ready_mono hr (Ne.symm hji)) h3.1 ?_⟩
    rw [Array.setIfInBounds_comm _ _ hji]
    exact h3.2.2
end
def takeT (ops:Array Oper) (listed:Array Bool) (i:Nat):Bool:=
 Region.noSelect ops&&Region.free .any ops listed i&&(Region.ready .any ops listed).contains i&&closedB .any ops listed&&noDefer ops
section
variable {C:Cx} {M:Bool} {fi fuel i:Nat} {l:List Oper} {Q:Qt} {listed:Array Bool} {ρ:Ro} {η:Eta} {d T:Nat} {pos:String} {af:Array Edge} {op:Op} {g:Option (Nat × Bool)} {u:AV}
theorem OD.stT (i:Nat) (k:OD C M fi l.toArray Q fuel (listed.setIfInBounds i true) ((d,u)::ρ) η) (hi:l.toArray[i]?=some ⟨some d,op,T,pos,af,g⟩:=by with_unfolding_all exact rfl) (hb:takeT l.toArray listed i=true:=by kernel_rfl) (hQ:NoPan Q:=by with_unfolding_all exact fun _ _ _ _ _ h=>h)
  (hg:GB l.toArray ρ g true:=by first|with_unfolding_all exact rfl|with_unfolding_all exact ⟨_,_,rfl,rfl,rfl⟩) (h:Gives C.P C.N C.D op ρ η u false:=by exact gv) (hd:Nat.blt d C.N=true:=by with_unfolding_all exact rfl):OD C M fi l.toArray Q (fuel+1) listed ρ η:=by
 intro a w hA
 simp only [takeT,Bool.and_eq_true] at hb
 obtain ⟨⟨⟨⟨h1,h2⟩,h3⟩,h4⟩,h6⟩:=hb
 obtain ⟨m,γ,ρc,hE,hR,hI⟩:=id hA
 obtain ⟨v,hv,hrun⟩:=h hE hR hI.heap
 have hA':A2 C.N C.D C.B (a.put (some d) v) w ((d,u)::ρ) η:=⟨m,γ,(d,v)::ρc,hE.put v (by simpa using hd),⟨rfl,hv,hR⟩,hI⟩
 exact wpAnyR_firstT (RM.refl M) hi (Region.noSelect_spec h1) (noDefer_spec h6) (fun c a w h=>hQ c a w d _ h) fuel listed a w (closedB_spec h4) (Region.free_spec hi h2) (by simpa using h3)
  (.inl ⟨GB.wanted (o:=⟨some d,op,T,pos,af,g⟩) hE hR hg,fun w' _=>hrun (m':=m) nofun d T pos af g⟩) (k _ _ hA')
variable {A:Code} {e:Exit} {ops:Array Oper} {rest:List Oper} {η2:Eta}
theorem Wk.eqW {E sz nl} {xs ys:List AV} {i:Nat} (h:xs=ys) (ho:η[i]?=some (.gw E sz nl xs)):η.set i (.gw E sz nl ys)=η:=by
 subst h
 apply List.ext_getElem?
 intro j
 rw [List.getElem?_set]
 split
 ·rename_i hij;subst hij
  split
  ·exact ho.symm
  ·rename_i hlt;exact (List.getElem?_eq_none (by omega)).symm
 ·rfl
theorem OL.eqW {E sz nl} {xs ys:List AV} (i:Nat) (h:xs=ys) (kk:OL C ops Q rest ρ η2) (ho:η[i]?=some (.gw E sz nl xs):=by with_unfolding_all exact rfl) (hη:η.set i (.gw E sz nl ys)=η2:=by (try dsimp only [List.set])<;>exact rfl):OL C ops Q rest ρ η:=Wk.eqW h ho ▸ hη ▸ kk
theorem TC.eqW {E sz nl} {xs ys:List AV} (i:Nat) (h:xs=ys) (kk:TC C Q A ρ η2) (ho:η[i]?=some (.gw E sz nl xs):=by with_unfolding_all exact rfl) (hη:η.set i (.gw E sz nl ys)=η2:=by (try dsimp only [List.set])<;>exact rfl):TC C Q A ρ η:=Wk.eqW h ho ▸ hη ▸ kk
theorem TX.eqW {E sz nl} {xs ys:List AV} (i:Nat) (h:xs=ys) (kk:TX C Q e ρ η2) (ho:η[i]?=some (.gw E sz nl xs):=by with_unfolding_all exact rfl) (hη:η.set i (.gw E sz nl ys)=η2:=by (try dsimp only [List.set])<;>exact rfl):TX C Q e ρ η:=Wk.eqW h ho ▸ hη ▸ kk
theorem TX.ctk {ρ1:Ro} {η1:Eta} {k:Nat} (s:Nat) (is:List Nat) (_hk:lk ρ s=some (.bp k 0):=by with_unfolding_all exact rfl) (hn:nodB (is++[k])=true:=by with_unfolding_all exact rfl) (hp:preB C.n 0 (is++[k])=true:=by with_unfolding_all exact rfl)
  (ho:SubO (ts (is++[k])) η (is++[k]) η1:=by repeat' (first|with_unfolding_all exact trivial|exact OE.ren (by with_unfolding_all exact rfl)|with_unfolding_all exact OE.gs|with_unfolding_all refine And.intro ⟨_,by with_unfolding_all exact rfl,?_⟩ ?_))
  (hr:SubR (ts (is++[k])) ρ ρ1:=by repeat' (first|with_unfolding_all exact trivial|exact LE.ren (by with_unfolding_all exact rfl)|with_unfolding_all exact LE.sl|with_unfolding_all exact LE.nil (by decide)|with_unfolding_all exact LE.junk|with_unfolding_all refine And.intro ⟨_,by with_unfolding_all exact rfl,?_⟩ ?_)):TX C (CutQ C ρ1 η1 Q) .normal ρ η:=fun _ _ hA=>hA.sel C.hn hn hp ho hr
end
end Go.V
