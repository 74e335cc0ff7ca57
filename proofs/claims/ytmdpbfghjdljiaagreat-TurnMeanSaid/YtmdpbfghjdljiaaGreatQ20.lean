/- Part 20 of what the claim is proved by: lemmas on the model and walks through functions of the program; no conditions. -/
import Derived.Test.YtmdpbfghjdljiaaGreatQ19
import Derived.Test.YtmdpbfghjdljiaaGreatQ12
namespace Go.V
open Go Go.W Go.RowKit
set_option maxHeartbeats 1000000 in
theorem rangeW2 {P:Program} {α:Type} {as:α→List AV} {L:List α} {g:Operand} {t1 t2 d2 T2 rid2 k:Nat} {pos2:String} {af2:Array Edge} {body:Code} {Q:Exit→Act→World→Prop} {a:Act} {w:World} {m:Nat→Nat} {gf:Nat} {lb:Array Value} {fn:Func}
  (hg : a.eval g = .func (.func gf) #[] lb) (hf : P.funcs[gf]? = some fn) (hb : (fn.body.isNone || fn.name == "runtime.NumGoroutine") = false) (hseq : SeqV P gf lb as L m w)
  (E0:Nat→Prop) (hE0:∀ b,E0 b→b < w.heap.size) (I Ix:List α→(Nat→Nat)→World→Prop) (hI:Stays w.heap.size I) (hIx:Stays w.heap.size Ix) (h0:I [] m w)
  (has:∀ x,(as x).length=2)
  (hround:∀ l pre x m1 W1 v1 v2,w.heap.size≤l→I pre m1 W1→(∃ r,pre++x::r=L)→VL m1 W1 [] [v1,v2] (as x)→Ext m w m1 W1 →
   body.wpIn (WF (some l)) 0 P (bodyQ E0 I Ix (pre++[x]) m1 W1) (({ tmps:=(a.tmps.setIfInBounds t1 v1).setIfInBounds t2 v2,defers:=[] }:Act).put (some d2) (({ tmps:=(a.tmps.setIfInBounds t1 v1).setIfInBounds t2 v2,defers:=[] }:Act).eval (.tmp t2))) W1)
  (hdone:∀ m' W',Ext m w m' W'→I L m' W'→W'.heap[w.heap.size]?=some (.deferred (some []))→Q .normal { a with defers:=markD w.heap.size::a.defers } W')
  (hstop:∀ pre m' W',Ext m w m' W'→Ix pre m' W'→W'.heap[w.heap.size]?=some (.deferred (some []))→Q .ret { a with defers:=markD w.heap.size::a.defers } W') :
  (Code.rangeFunc g #[t1,t2] (Code.region rid2 #[⟨some d2,.assign (.tmp t2),T2,pos2,af2,none⟩] false) body).wpIn Fence.wide k P Q a w:=by
 have hb':=hb
 simp at hb'
 have hbn:fn.body≠none:=Option.isSome_iff_ne_none.1 hb'.1
 have eg:∀ args w,(callFunc gf args).run P w=.ok (.enter gf args) w:=fun args w=>by simp [callFunc,hf,hb'.2,hbn]
 refine wpIn_rangeFunc ?_
 intro fn' hfn'
 have hround':(Fence.wide).round=none:=rfl
 rw [hround']
 obtain ⟨rec,hrec⟩:∃ rec:LoopState→Option Code→Loop,rec=fun st pe=>{ state:=st,pending:=pe,fn:=fn',tmps:=a.tmps,params:=#[t1,t2],assign:=(Code.region rid2 #[⟨some d2,.assign (.tmp t2),T2,pos2,af2,none⟩] false),body,defers:=w.heap.size }:=⟨_,rfl⟩
 obtain ⟨W1,hW1⟩:∃ W1,(w.alloc (.deferred (some []))).alloc (.loop (rec .ready none))=W1:=⟨_,rfl⟩
 have hL1:W1.heap[w.heap.size+1]?=some (.loop (rec .ready none)):=by
  rw [← hW1];have:=World.alloc_heap_new (w.alloc (.deferred (some []))) (.loop (rec .ready none));rwa [World.size_alloc] at this
 have hK1:W1.heap[w.heap.size]?=some (.deferred (some [])):=by
  rw [← hW1];exact (Below.heap_alloc _ _ _ (by simp)).trans (World.alloc_heap_new w _)
 have hz1:W1.heap.size=w.heap.size+2:=by rw [← hW1];simp
 have hkp:Keep m w m W1:=by
  rw [← hW1]
  exact ⟨⟨rfl,rfl,rfl,by simp;omega,fun b hb _=>((World.grownBy_alloc _ _ none).block b (by simp;omega) (by simp)).trans ((World.grownBy_alloc w _ none).block b hb (by simp))⟩,fun _ _=>rfl⟩
 obtain ⟨mS,hmS⟩:∃ mS,mS=m:=⟨_,rfl⟩
 have hI1:I [] m W1:=hI _ _ _ _ _ h0 (.keep hkp)
 refine ⟨w.heap.size+1,[markD w.heap.size],W1,{ target:=.fn (.func gf) lb,args:=#[.func (.yield (w.heap.size+1)) #[] #[]] },W1,gf,
  #[.func (.yield (w.heap.size+1)) #[] #[]]++lb,W1,?_,?_,?_,?_,fun h=>(by cases h),callsIn_wide.2 ?_⟩
 ·rw [← hW1,hrec];exact run_enterLoop_outer _ _ _ _ _
 ·simp only [resolve,hg]
  simp [go_sem]
 ·intro f' hf';trivial
 ·simp [invoke,go_sem,eg]
 ·refine (hseq (w.heap.size+1) (fun b=>E0 b∨b=w.heap.size+1)
   (fun pre m W=>I pre m W∧Ext mS w m W∧W.heap[w.heap.size+1]?=some (.loop (rec .ready none))∧W.heap[w.heap.size]?=some (.deferred (some [])))
   (fun pre m W=>Ix pre m W∧Ext mS w m W∧W.heap[w.heap.size+1]?=some (.loop (rec .done (some .ret)))∧W.heap[w.heap.size]?=some (.deferred (some [])))
   m W1 hkp.ext (.inr rfl) (fun b hb=>hb.elim (fun h=>by have:=hE0 b h;omega) (fun h=>by omega)) ?_ ?_ ?_ ⟨hI1,hmS ▸ hkp.ext,hL1,hK1⟩).mono ?_
  ·rintro pre m1 W m2 W' ⟨h1,h2,h3,h4⟩ hs
   refine ⟨(hI.le (by omega)) _ _ _ _ _ h1 hs,h2.trans hs.ext,?_,?_⟩
   all_goals
    obtain ⟨row,hgr,hr,_⟩:=hs
    first
    | exact (hgr.block _ (Array.getElem?_eq_some_iff.1 h3).1 (fun e=>by have:=(hr _ e.symm).1;omega)).trans h3
    | exact (hgr.block _ (Array.getElem?_eq_some_iff.1 h4).1 (fun e=>by have:=(hr _ e.symm).1;omega)).trans h4
  ·rintro pre m1 W m2 W' ⟨h1,h2,h3,h4⟩ hs
   refine ⟨(hIx.le (by omega)) _ _ _ _ _ h1 hs,h2.trans hs.ext,?_,?_⟩
   all_goals
    obtain ⟨row,hgr,hr,_⟩:=hs
    first
    | exact (hgr.block _ (Array.getElem?_eq_some_iff.1 h3).1 (fun e=>by have:=(hr _ e.symm).1;omega)).trans h3
    | exact (hgr.block _ (Array.getElem?_eq_some_iff.1 h4).1 (fun e=>by have:=(hr _ e.symm).1;omega)).trans h4
  ·-- one round
   rintro pre x m1 W vs ⟨hi,he,hl,hk⟩ hpre hv
   have hlt:w.heap.size+1 < W.heap.size:=(Array.getElem?_eq_some_iff.1 hl).1
   obtain ⟨v1,v2,rfl⟩:∃ v1 v2,vs=[v1,v2]:=by
    have:=hv.len
    rw [has] at this
    match vs,this with
    | [v1,v2],_=>exact ⟨v1,v2,rfl⟩
   have hy:=run_yield (P:=P) (args:=#[v1,v2]) hl (by rw [hrec];rfl)
   rw [hrec] at hy
   dsimp only at hy
   have ez:Array.foldl (fun (tmps:Array Value) (x:Tmp × Value)=>match x with|(t,a)=>tmps.setIfInBounds t a) a.tmps ((#[t1,t2]:Array Tmp).zip #[v1,v2])=(a.tmps.setIfInBounds t1 v1).setIfInBounds t2 v2:=by simp
   rw [ez] at hy
   refine ⟨fn',_,_,body,hy,roundIn_of_wpIn hfn' ?_⟩
   refine wpIn_region_lit (l:=[⟨some d2,.assign (.tmp t2),T2,pos2,af2,none⟩]) ?_
   refine Go.W.i_lcons (r:=some (w.heap.size+1)) (Go.W.wl_value (v:=_) (w':=W) rfl (by simp [execOp];rfl) ?_)
   refine ⟨_,run_beginRound hl (by rw [hrec]),?_⟩
   have hl2:(W.putObj (w.heap.size+1) (.loop { rec .ready none with state:=.busy })).heap[w.heap.size+1]?=some (.loop { rec .ready none with state:=.busy }):=World.putObj_heap_same hlt
   have hk2:(W.putObj (w.heap.size+1) (.loop { rec .ready none with state:=.busy })).heap[w.heap.size]?=some (.deferred (some [])):=(World.putObj_heap_other (by omega)).trans hk
   have hs2:StepOK w.heap.size m1 W m1 (W.putObj (w.heap.size+1) (.loop { rec .ready none with state:=.busy })):=.put hl rfl (by omega)
   have hkl2:∀ b o,b≠w.heap.size+1→W.heap[b]?=some o→(W.putObj (w.heap.size+1) (.loop { rec .ready none with state:=.busy })).heap[b]?=some o:=fun b o hb ho=>(World.putObj_heap_other hb).trans ho
   generalize hW2:W.putObj (w.heap.size+1) (.loop { rec .ready none with state:=.busy })=W2 at *
   have hv2:VL m1 W2 [] [v1,v2] (as x):=hv.mono hs2.ext (.refl _)
   refine wpIn_mono (hround (w.heap.size+1) pre x m1 W2 v1 v2 (by omega) (hI _ _ _ _ _ hi hs2) hpre hv2 (hmS ▸ he.trans hs2.ext)) ?_
   rintro e a3 W3 hp
   cases e with
   | normal =>
     obtain ⟨m3,he3,hkl3,hi3⟩:=hp
     have hl3:=hkl3 _ _ (fun h=>h) hl2 rfl
     have hk3:=hkl3 _ _ (fun h=>h) hk2 rfl
     have hr:(Instr.endRound (w.heap.size+1) none).run P W3=.ok (.bool true) (W3.putObj (w.heap.size+1) (.loop (rec .ready none))):=by
      have:=run_endRound (P:=P) none hl3
      rw [hrec] at this ⊢
      exact this
     have hs3:StepOK w.heap.size m3 W3 m3 (W3.putObj (w.heap.size+1) (.loop (rec .ready none))):=.put hl3 rfl (by omega)
     refine ⟨_,_,hr,m3,?_,.inl ⟨rfl,?_,hI _ _ _ _ _ hi3 hs3,(he.trans hs2.ext).trans (he3.trans hs3.ext),World.putObj_heap_same (Array.getElem?_eq_some_iff.1 hl3).1,(World.putObj_heap_other (by omega)).trans hk3⟩⟩
     ·exact hs2.ext.trans (he3.trans hs3.ext)
     ·intro b o _ ho hld
      by_cases hb:b=w.heap.size+1
      ·subst hb
       rw [hl] at ho
       cases ho
       exact World.putObj_heap_same (Array.getElem?_eq_some_iff.1 hl3).1
      ·exact (World.putObj_heap_other hb).trans (hkl3 _ _ (fun h=>h) (hkl2 b o hb ho) hld)
   | ret =>
     obtain ⟨m3,he3,hkl3,hi3⟩:=hp
     have hl3:=hkl3 _ _ (fun h=>by have:=hE0 _ h;omega) hl2 rfl
     have hk3:=hkl3 _ _ (fun h=>by have:=hE0 _ h;omega) hk2 rfl
     have hr:(Instr.endRound (w.heap.size+1) (some .ret)).run P W3=.ok (.bool false) (W3.putObj (w.heap.size+1) (.loop (rec .done (some .ret)))):=by
      have:=run_endRound (P:=P) (some .ret) hl3
      rw [hrec] at this ⊢
      exact this
     have hs3:StepOK w.heap.size m3 W3 m3 (W3.putObj (w.heap.size+1) (.loop (rec .done (some .ret)))):=.put hl3 rfl (by omega)
     refine ⟨_,_,hr,m3,?_,.inr ⟨rfl,?_,hIx _ _ _ _ _ hi3 hs3,(he.trans hs2.ext).trans (he3.trans hs3.ext),World.putObj_heap_same (Array.getElem?_eq_some_iff.1 hl3).1,(World.putObj_heap_other (by omega)).trans hk3⟩⟩
     ·exact hs2.ext.trans (he3.trans hs3.ext)
     ·intro b o hb ho hld
      have hb1:¬ E0 b:=fun h=>hb (.inl h)
      have hb2:b≠w.heap.size+1:=fun h=>hb (.inr h)
      exact (World.putObj_heap_other hb2).trans (hkl3 _ _ hb1 (hkl2 b o hb2 ho) hld)
   | _=>exact hp.elim
  ·-- behind the iterator
   rintro e W2 ⟨v,m2,rfl,he2,(⟨hi,he,hl,hk⟩|⟨pre,hi,he,hl,hk⟩)⟩
   ·have hr:=run_endLoop (P:=P) hl (by rw [hrec];simp)
    have hs3:StepOK w.heap.size m2 W2 m2 (W2.putObj (w.heap.size+1) (.loop { rec .ready none with state:=.exhausted })):=.put hl rfl (by omega)
    refine ⟨none,_,by rw [hrec] at hr ⊢;exact hr,hdone m2 _ (hmS ▸ he.trans hs3.ext) (hI _ _ _ _ _ hi hs3) ((World.putObj_heap_other (by omega)).trans hk)⟩
   ·have hr:=run_endLoop (P:=P) hl (by rw [hrec];simp)
    have hs3:StepOK w.heap.size m2 W2 m2 (W2.putObj (w.heap.size+1) (.loop { rec .done (some .ret) with state:=.exhausted })):=.put hl rfl (by omega)
    refine ⟨some .ret,_,by rw [hrec] at hr ⊢;exact hr,wpIn_ret (hstop pre m2 _ (hmS ▸ he.trans hs3.ext) (hIx _ _ _ _ _ hi hs3) ((World.putObj_heap_other (by omega)).trans hk))⟩
section
variable {C:Cx} {Q:Qt} {ρ ρ':Ro} {η η':Eta}
set_option maxHeartbeats 1000000 in
theorem TC.rfW2 {P:Program} {α:Type} {as:α→List AV} {L:List α} {g:Operand} {t1 t2 d2 T2 rid2:Nat} {pos2:String} {af2:Array Edge} {body:Code} (u1 u2:α→AV) (ρ0:Ro) (ηs:List α→Eta) (n0:Nat) (σ:List Nat)
  (hx:ev2 ρ g=some (.pr (SeqMP P as L))) (hP:C.P=P) (hr:C.r=none) (has:∀ x,as x=[u1 x,u2 x]) (hn:nodB σ=true) (hp:preB C.n 0 σ=true) (ho:SubO (ts σ) η σ (ηs [])) (hρ:SubR (ts σ) ρ ρ0) (hself:SubR (ts (List.range n0)) ρ0 ρ0)
  (hnn:C.n≤n0) (hn0:n0≤(ηs []).length) (ht1:Nat.blt t1 C.N=true) (ht2:Nat.blt t2 C.N=true) (hd2:Nat.blt d2 C.N=true)
  (hround:∀ pre x (Bx:Base) (hB:Bx.γ.length=n0) l,(∃ r,pre++x::r=L)→TC ⟨C.P,C.tab,C.hT,C.hm,C.N,[],Bx,n0,hB,some (some l),0⟩ (RQ ⟨C.P,C.tab,C.hT,C.hm,C.N,[],Bx,n0,hB,some (some l),0⟩ (ηs (pre++[x]))) body ((d2,u2 x)::(t2,u2 x)::(t1,u1 x)::ρ0) (ηs pre))
  (hdone:∀ (B':Base) (hB':B'.γ.length=C.n) D,Marked C.B B' D→TX ⟨C.P,C.tab,C.hT,C.hm,C.N,markD D::C.D,B',C.n,hB',none,0⟩ Q .normal ρ0 (ηs L)) :
  TC C Q (.rangeFunc g #[t1,t2] (Code.region rid2 #[⟨some d2,.assign (.tmp t2),T2,pos2,af2,none⟩] false) body) ρ η:=by
 rintro a w ⟨m,γ,ρc,hE,hR,hI⟩
 rw [Cx.W_none hr]
 obtain ⟨v,hv1,hv2⟩:=hR.ev hx
 obtain ⟨γ',hsh,hI'⟩:=hI.sel C.hn hn hp ho
 obtain ⟨ρc',hR',hsub⟩:=SubR.rl hsh hR hρ
 have hE':=hE.sel hsub
 have hg0:=hE.ev hv1
 cases hv2 with
 | pr hseq =>
 obtain ⟨gf,lb,fn,rfl,hf,hb,hseq⟩:=hseq
 subst hP
 have hl':=hI'.heap.len
 have hsh0:Sh2 (ts (List.range n0)) γ' (γ'.take n0):=by
  intro i j hij w' hw'
  obtain ⟨k,h1,h2⟩:=idx_spec (List.range n0) i 0 j hij
  have hk:k < n0:=by have:=(List.getElem?_eq_some_iff.1 h2).1;simpa using this
  rw [List.getElem?_range hk] at h2
  cases h2
  rw [h1,Nat.zero_add,List.getElem?_take,if_pos hk]
  exact hw'
 obtain ⟨ρc0,hR0,hsub0⟩:=SubR.rl hsh0 hR' hself
 have hE0:=hE'.sel hsub0
 have hpre0:Pre (γ'.take n0) γ':=fun i v h=>by
  rw [List.getElem?_take] at h
  split at h
  ·exact h
  ·cases h
 have hlen0:(γ'.take n0).length=n0:=by simp;omega
 have hIb:=hI'.rebase hpre0
 refine wpIn_wide.1 (rangeW2 (k:=0) hg0 hf hb hseq (fun _=>False) (fun _ h=>h.elim) (fun pre m1 W1=>∃ γ1,In ⟨m,w,blks γ' (ηs []),γ'.take n0⟩ m1 W1 γ1 (ηs pre)) (fun _ _ _=>False) ?_ ?_ ⟨γ',hIb⟩ ?_ ?_ ?_ ?_)
 ·rintro pre m1 W1 m2 W2 ⟨γ1,h1⟩ hs
  exact ⟨γ1,h1.step hs⟩
 ·rintro _ _ _ _ _ h _;exact h
 ·intro x;rw [has];rfl
 ·rintro l pre x m1 W1 v1 v2 hl ⟨γ1,h1⟩ hpre hv he
  rw [has] at hv
  have hrep1:Rep m1 W1 γ1 v1 (u1 x):=hv.1.mono (.refl _ _) (fun i v h=>by simp at h)
  have hrep2:Rep m1 W1 γ1 v2 (u2 x):=hv.2.1.mono (.refl _ _) (fun i v h=>by simp at h)
  have hIx:=h1.rebase h1.pre
  have hEr:Env C.N [] (({ tmps:=(a.tmps.setIfInBounds t1 v1).setIfInBounds t2 v2,defers:=[] }:Act).put (some d2) (({ tmps:=(a.tmps.setIfInBounds t1 v1).setIfInBounds t2 v2,defers:=[] }:Act).eval (.tmp t2))) ((d2,v2)::(t2,v2)::(t1,v1)::ρc0):=by
   have h1:=Env.setT (v:=v1) hE0 (by simpa using ht1)
   have h2:Env C.N [] ({ tmps:=(a.tmps.setIfInBounds t1 v1).setIfInBounds t2 v2,defers:=[] }:Act) ((t2,v2)::(t1,v1)::ρc0):=Env.setT (v:=v2) h1 (by simpa using ht2)
   have h5:({ tmps:=(a.tmps.setIfInBounds t1 v1).setIfInBounds t2 v2,defers:=[] }:Act).eval (.tmp t2)=v2:=h2.ev (x:=.tmp t2) (by simp [W.ev,W.look])
   rw [h5]
   exact h2.put v2 (by simpa using hd2)
  have hb:=hround pre x ⟨m1,W1,blks γ1 (ηs pre),γ'.take n0⟩ hlen0 l hpre _ _ ⟨m1,γ1,_,hEr,⟨rfl,hrep2,rfl,hrep2,rfl,hrep1,hR0.mono he h1.pre⟩,hIx⟩
  rw [Cx.W_some rfl] at hb
  refine wpIn_mono hb fun e a' W' hq=>?_
  cases e with
  | normal =>
    obtain ⟨m3,γ3,_,_,_,h3⟩:=hq
    refine ⟨m3,h3.far.ext,fun b o _ hbo hld=>?_,γ3,h3.comp h1.far (blks_own h1) (.refl _)⟩
    have hn:b ∉ blks γ1 (ηs pre):=fun hm=>by rw [blks_notLD h1 b hm o hbo] at hld;cases hld
    rw [h3.far.block b (Array.getElem?_eq_some_iff.1 hbo).1 hn];exact hbo
  | _=>exact hq.elim
 ·rintro m' W' he ⟨γL,hL⟩ hD
  have hpc:Pre C.B.γ (γ'.take n0):=fun i v h=>by
   have hi:=(List.getElem?_eq_some_iff.1 h).1
   rw [C.hn] at hi
   rw [List.getElem?_take,if_pos (by omega)]
   exact hI'.pre i v h
  have hIL:=hL.rebase (hpc.trans hL.pre)
  have hM:Marked C.B ⟨m',W',blks γL (ηs L),C.B.γ⟩ w.heap.size:=by
   refine ⟨hI'.far.trans hL.far (blks_own hI'),fun b hb=>?_,.refl _,hD,fun hm=>?_,hI'.far.size⟩
   ·rcases blks_own hL b hb with h|h
    ·exact blks_own hI' b h
    ·exact .inr (Nat.le_trans hI'.far.size h)
   ·have:=blks_notLD hL _ hm _ hD;cases this
  exact hdone ⟨m',W',blks γL (ηs L),C.B.γ⟩ C.hn _ hM _ _ ⟨m',γL,ρc0,⟨hE0.size,by show _::a.defers=_;rw [hE0.defers],hE0.look⟩,hR0.mono he hL.pre,hIL⟩
 ·rintro _ _ _ _ h;exact h.elim
end
end Go.V
namespace Go.V
open Go Go.W
section
variable {P:Program} {tab:Tab} {N:Nat} {D:List Deferred} {ρ:Ro} {η:Eta} {x y z:Operand} {X:Nat} {M:Bool}
theorem run_clip {α:Type} {sz:Nat} {Cr:CRel α} {m:Nat→Nat} {w1:World} {xs:List α} {v:Value} {e:Nat} {inf:TypeInfo} (hu:P.underlying X=some (.slice e)) (hi1:P.info? e=some inf) (hr:RS sz Cr m w1 v xs) :
  ∃ v',RS sz Cr m w1 v' xs∧∀ w,(Instr.slice X v none (some (.int .i64 (xs.length:Int))) (some (.int .i64 (xs.length:Int)))).run P w=.ok v' w:=by
 rcases hr with ⟨rfl,rfl⟩|⟨b,o,cap,rfl,hc,hm,hel⟩|⟨aw,rfl,rfl⟩
 ·exact ⟨.slice none 0 0,.inl ⟨rfl,rfl⟩,fun w=>by simp [Instr.slice,run_underlying hu,Instr.sliceBounds,Instr.sliceBound,asIntOf,sizeOf,typeInfo,hi1]⟩
 ·refine ⟨.slice (some ⟨b,o,none⟩) xs.length xs.length,.inr (.inl ⟨b,o,xs.length,rfl,Nat.le_refl _,by omega,hel⟩),fun w=>?_⟩
  simp [Instr.slice,run_underlying hu,Instr.sliceBounds,Instr.sliceBound,asIntOf,sizeOf,typeInfo,hi1,hc,Addr.add]
 ·exact ⟨.slice (some aw) 0 0,.inr (.inr ⟨aw,rfl,rfl⟩),fun w=>by simp [Instr.slice,run_underlying hu,Instr.sliceBounds,Instr.sliceBound,asIntOf,sizeOf,typeInfo,hi1]⟩
theorem give_clip {sz nl E i j} {xs:List AV} (hT:TabOK P tab) (hs:(tab X).map (·.sh)=some (.slice E)) (hz:(tab E).map (·.size)=some sz) (hx:ev2 ρ x=some (.sl sz nl xs)) (hy:ev2 ρ y=some (.raw (.int .i64 i))) (hi:i=(xs.length:Nat)) (hw:ev2 ρ z=some (.raw (.int .i64 j))) (hj:j=(xs.length:Nat)) :
  Gives P N D (.slice X x none (some y) (some z)) ρ η (.sl sz none xs) M:=fun m w γ ρc a hE hR hH=>by
 obtain ⟨v,h1,h2⟩:=hR.ev hx
 obtain ⟨d,hu,hd⟩:=shOf hT hs
 obtain rfl:d=_:=hd
 obtain ⟨inf,i1,i2⟩:=sizeOf' hT hz
 subst hi hj
 obtain ⟨v',g1,g2⟩:=run_clip hu i1 h2.rs.1
 refine ⟨v',Rep.of_rs g1 (NL.none _),fun _ _ _ _ _ _=>?_⟩
 simp [execOp,hE.ev h1,hE.ev (hR.raw hy),hE.ev (hR.raw hw),Instr.sliceAt,run_underlying hu,g2]
end
section
variable {C:Cx} {ops:Array Oper} {Q:Qt} {ρ:Ro} {η:Eta} {rest:List Oper} {T X d E:Nat} {pos:String} {af:Array Edge} {x y z:Operand}
theorem OL.clip {α:Type} {f:α→AV} {sz nl} {l:List α} {i j:Int} (k:OL C ops Q rest ((d,.sl sz none (l.map f))::ρ) η) (hs:(C.tab X).map (·.sh)=some (.slice E):=by with_unfolding_all exact rfl) (hz:(C.tab E).map (·.size)=some sz:=by with_unfolding_all exact rfl)
  (hx:ev2 ρ x=some (.sl sz nl (l.map f)):=by with_unfolding_all exact rfl) (hy:ev2 ρ y=some (.raw (.int .i64 i)):=by with_unfolding_all exact rfl) (hw:ev2 ρ z=some (.raw (.int .i64 j)):=by with_unfolding_all exact rfl) (hi:i=(l.length:Nat):=by first|rfl|simp) (hj:j=(l.length:Nat):=by first|rfl|simp) (hd:Nat.blt d C.N=true:=by with_unfolding_all exact rfl) :
  OL C ops Q (⟨some d,.slice X x none (some y) (some z),T,pos,af,none⟩::rest) ρ η:=
 OL.give (give_clip C.hT hs hz hx hy (by rw [hi,List.length_map]) hw (by rw [hj,List.length_map])) hd k
end
end Go.V
namespace Go.V
open Go Go.W
theorem give_max {P:Program} {N:Nat} {D:List Deferred} {ρ:Ro} {η:Eta} {x y:Operand} {a b:Int} {M:Bool} {ts:Array TypeId} (hx:ev2 ρ x=some (.raw (.int .i64 a))) (hy:ev2 ρ y=some (.raw (.int .i64 b))):Gives P N D (.call ⟨.builtin .max,#[x,y],ts⟩) ρ η (.raw (.int .i64 (max a b))) M:=fun m w γ ρc ac hE hR hH =>
 ⟨_,.raw rfl,fun _ _ _ _ _ _=>by
  simp [execOp,resolve,invoke,builtin,hE.ev (hR.raw hx),hE.ev (hR.raw hy),Builtin.max_,Builtin.max2]
  try (split<;>omega)⟩
theorem OL.max {C:Cx} {ops:Array Oper} {Q:Qt} {rest:List Oper} {ρ:Ro} {η:Eta} {x y:Operand} {a b:Int} {ts:Array TypeId} {d T:Nat} {pos:String} {af:Array Edge} (c:Int) (k:OL C ops Q rest ((d,.raw (.int .i64 c))::ρ) η) (hx:ev2 ρ x=some (.raw (.int .i64 a)):=by with_unfolding_all exact rfl) (hy:ev2 ρ y=some (.raw (.int .i64 b)):=by with_unfolding_all exact rfl) (hd:Nat.blt d C.N=true:=by with_unfolding_all exact rfl) (hc:Max.max a b=c:=by omega) :
  OL C ops Q (⟨some d,.call ⟨.builtin .max,#[x,y],ts⟩,T,pos,af,none⟩::rest) ρ η:=by
 subst hc;exact OL.give (give_max hx hy) hd k
end Go.V
namespace Go.V
open Go Go.W
section
variable {P:Program} {f:Nat} {as:List AV} {r r2:AV} {η η1 η2:Eta} {tab:Tab} {ρ:Ro}
theorem Spec.ofWk (hT:TabOK P tab) (hm:P.follows .mixedOrders=true) (h:Spec P f as η r η1) (hw:∀ B (hB:B.γ.length=η.length),Wk ⟨P,tab,hT,hm,1,[],B,η.length,hB,none,0⟩ [(0,r)] η1 ((0,r2)::ρ) η2):Spec P f as η r2 η2:=by
 intro m w γ vs hH hV
 refine (h m w γ vs hH hV).mono ?_
 rintro e w' ⟨v,m',γ',rfl,hI,hr⟩
 obtain ⟨m2,γ2,ρc2,hE2,hR2,hI2⟩:=hw (baseOf m w γ η) hH.len { tmps:=#[v],defers:=[] } w' ⟨m',γ',[(0,v)],⟨rfl,rfl,fun t u hu=>by
  cases t with
  | zero =>
    have e:W.look [(0,v)] 0=some v:=rfl
    rw [e] at hu;cases hu;rfl
  | succ t =>
    have e:W.look [(0,v)] (t+1)=none:=rfl
    rw [e] at hu;cases hu⟩,⟨rfl,hr,trivial⟩,hI⟩
 match ρc2,hR2 with
 | (t,u)::ρc,hR =>
   obtain ⟨ht,hu,_⟩:=hR
   subst ht
   have:=hE2.look 0 u (by simp [W.look])
   simp at this
   subst this
   exact ⟨_,m2,γ2,rfl,hI2,hu⟩
theorem Spec.vwS {i o E sz:Nat} {fz nl} {xs cs:List AV} (hT:TabOK P tab) (hm:P.follows .mixedOrders=true) (h:Spec P f as η (.st cs) η1) (hc:cs[o]?=some (.hs i)) (ho:η1[i]?=some (.gs fz E sz nl xs)):Spec P f as η (.st (cs.set o (.sl sz none xs))) (η1.set i (.gs true E sz nl xs)):=
 Spec.ofWk hT hm h (fun _ _=>Wk.viewS (t:=0) rfl hc ho)
theorem Spec.drop (h:Spec P f as [] r η1) (hle:LE (ts []) r r2):Spec P f as [] r2 []:=by
 intro m w γ vs hH hV
 refine (h m w γ vs hH hV).mono ?_
 rintro e w' ⟨v,m',γ',rfl,hI,hr⟩
 obtain ⟨γ2,h1,h2⟩:=hI.sel (n:=0) (σ:=[]) (η':=[]) (by show γ.length=0;exact hH.len) rfl rfl trivial
 exact ⟨v,m',γ2,rfl,h2,hle _ _ _ _ h1 _ hr⟩
end
theorem give_min {P:Program} {N:Nat} {D:List Deferred} {ρ:Ro} {η:Eta} {x y:Operand} {a b:Int} {M:Bool} {ts:Array TypeId} (hx:ev2 ρ x=some (.raw (.int .i64 a))) (hy:ev2 ρ y=some (.raw (.int .i64 b))):Gives P N D (.call ⟨.builtin .min,#[x,y],ts⟩) ρ η (.raw (.int .i64 (if b < a then b else a))) M:=fun m w γ ρc ac hE hR hH =>
 ⟨_,.raw rfl,fun _ _ _ _ _ _=>by simp [execOp,resolve,invoke,builtin,hE.ev (hR.raw hx),hE.ev (hR.raw hy),Builtin.min_,Builtin.min2]⟩
theorem OL.min {C:Cx} {ops:Array Oper} {Q:Qt} {rest:List Oper} {ρ:Ro} {η:Eta} {x y:Operand} {a b c:Int} {ts:Array TypeId} {d T:Nat} {pos:String} {af:Array Edge} (hc:(if b < a then b else a)=c) (k:OL C ops Q rest ((d,.raw (.int .i64 c))::ρ) η) (hx:ev2 ρ x=some (.raw (.int .i64 a)):=by with_unfolding_all exact rfl) (hy:ev2 ρ y=some (.raw (.int .i64 b)):=by with_unfolding_all exact rfl) (hd:Nat.blt d C.N=true:=by with_unfolding_all exact rfl) :
  OL C ops Q (⟨some d,.call ⟨.builtin .min,#[x,y],ts⟩,T,pos,af,none⟩::rest) ρ η:=by
 subst hc;exact OL.give (give_min hx hy) hd k
theorem OL.bl {C:Cx} {ops:Array Oper} {Q:Qt} {rest:List Oper} {ρ:Ro} {η:Eta} {α:Type} {f:α→AV} {l:List α} {sz:Nat} {nl} (t:Nat) (k:l.length≤9223372036854775807→OL C ops Q rest ρ η) (hx:lk ρ t=some (.sl sz nl (l.map f)):=by with_unfolding_all exact rfl):OL C ops Q rest ρ η:=by
 rintro a w ⟨m,γ,ρc,hE,hR,hI⟩
 obtain ⟨v,_,h2⟩:=hR.look hx
 have:=h2.sl_len
 rw [List.length_map] at this
 exact k this a w ⟨m,γ,ρc,hE,hR,hI⟩
section
variable {C:Cx} {M:Bool} {fi:Nat} {l:List Oper} {Q:Qt} {fuel:Nat} {listed:Array Bool} {ρ:Ro} {η:Eta}
theorem OD.n4 (i j k q:Nat) (h1:NextBy C M fi l Q fuel listed ρ η i) (h2:NextBy C M fi l Q fuel listed ρ η j) (h3:NextBy C M fi l Q fuel listed ρ η k) (h4:NextBy C M fi l Q fuel listed ρ η q) (hr:Region.ready .any l.toArray listed=[i,j,k,q]:=by kernel_rfl):OD C M fi l.toArray Q (fuel+1) listed ρ η:=fun a w hA =>
 ⟨fun h=>(by rw [hr] at h;cases h),fun x hx=>by
  rw [hr] at hx
  simp only [List.mem_cons,List.not_mem_nil,or_false] at hx
  rcases hx with rfl|rfl|rfl|rfl
  ·exact h1 a w hA
  ·exact h2 a w hA
  ·exact h3 a w hA
  ·exact h4 a w hA⟩
end
theorem CL.app2 {γ m} {w:World} {vs us:List Value} {cs ds:List AV} (h:CL γ m w vs cs) (k:CL γ m w us ds):CL γ m w (vs++us) (cs++ds):=by
 refine ⟨by rw [List.length_append,List.length_append,h.1,k.1],fun c hc=>(List.mem_append.1 hc).elim (h.2.1 c) (k.2.1 c),fun j v c hv hc=>?_⟩
 by_cases hj:j < vs.length
 ·rw [List.getElem?_append_left hj] at hv
  rw [List.getElem?_append_left (by rw [← h.1];exact hj)] at hc
  exact h.2.2 j v c hv hc
 ·rw [List.getElem?_append_right (by omega)] at hv
  rw [List.getElem?_append_right (by rw [← h.1];omega),← h.1] at hc
  exact k.2.2 _ v c hv hc
theorem CL.take {γ m} {w:World} {vs:List Value} {cs:List AV} (n:Nat) (h:CL γ m w vs cs):CL γ m w (vs.take n) (cs.take n):=by
 refine ⟨by rw [List.length_take,List.length_take,h.1],fun c hc=>h.2.1 c (List.mem_of_mem_take hc),fun j v c hv hc=>?_⟩
 rw [List.getElem?_take] at hv hc
 split at hv
 ·rename_i hj
  rw [if_pos hj] at hc
  exact h.2.2 j v c hv hc
 ·cases hv
theorem CL.drop {γ m} {w:World} {vs:List Value} {cs:List AV} (n:Nat) (h:CL γ m w vs cs):CL γ m w (vs.drop n) (cs.drop n):=by
 refine ⟨by rw [List.length_drop,List.length_drop,h.1],fun c hc=>h.2.1 c (List.mem_of_mem_drop hc),fun j v c hv hc=>?_⟩
 rw [List.getElem?_drop] at hv hc
 exact h.2.2 _ v c hv hc
section
variable {C:Cx} {ops:Array Oper} {Q:Qt} {ρ:Ro} {η η2:Eta} {rest:List Oper} {T X:Nat} {pos:String} {af:Array Edge} {x y:Operand}
theorem OL.storeAt {i o E n:Nat} {cs us:List AV} (kk:OL C ops Q rest ρ η2) (hs:(C.tab X).map (fun e=>(e.sh.agg,e.size))=some (true,n):=by with_unfolding_all exact rfl) (hx:ev2 ρ x=some (.bp i o):=by with_unfolding_all exact rfl) (hy:ev2 ρ y=some (.st us):=by with_unfolding_all exact rfl)
  (ho:η[i]?=some (.cb E cs):=by with_unfolding_all exact rfl) (hn':us.length=n:=by with_unfolding_all exact rfl) (hn:Nat.ble (o+n) cs.length=true:=by with_unfolding_all exact rfl) (hη:η.set i (.cb E (cs.take o++us++cs.drop (o+n)))=η2:=by (try dsimp only [List.set,List.take,List.drop,List.cons_append,List.nil_append,Nat.add_zero,Nat.zero_add,Nat.reduceAdd])<;>exact rfl) :
  OL C ops Q (⟨none,.store X x y,T,pos,af,none⟩::rest) ρ η:=by
 rintro a w ⟨m,γ,ρc,hE,hR,hI⟩
 obtain ⟨v1,g1,g2⟩:=hR.ev hx
 obtain ⟨v,g3,g4⟩:=hR.ev hy
 cases g2 with
 | @bp _ _ _ b hb =>
 cases g4 with
 | @st _ qs _ ql q1 qr =>
 obtain ⟨b',vs,e,hB,hC⟩:=hI.heap.ok i _ _ hb ho
 cases e
 have hqn:qs.length=n:=by omega
 have hvn:o+n≤vs.length:=by rw [hC.1];exact Nat.le_of_ble_eq_true hn
 obtain ⟨t1,t2⟩:=setRow_box (vs:=vs.take o++qs++vs.drop (o+n)) hB
 subst hη
 cases ht:C.tab X with
 | none=>rw [ht] at hs;cases hs
 | some te =>
   rw [ht] at hs
   simp at hs
   obtain ⟨inf,i1,i2,i3,i4,i5⟩:=(C.hT X te ht).info
   have hst:=run_storeCells_at C.P b o E qs 0 vs.toArray w hB.heap (by simp;omega) q1
   have e:(vs.toArray.toList.take (o+0)++qs++vs.toArray.toList.drop (o+0+qs.length)).toArray=(vs.take o++qs++vs.drop (o+n)).toArray:=by
    simp [hqn]
   rw [e] at hst
   have hC':CL γ m w (vs.take o++qs++vs.drop (o+n)) (cs.take o++us++cs.drop (o+n)):=((hC.take o).app2 ⟨ql,q1,qr⟩).app2 (hC.drop (o+n))
   refine Cx.lcons (wl_skip (w':=w.setRow b (vs.take o++qs++vs.drop (o+n)).toArray) rfl ?_ (kk _ _ ⟨m,γ,ρc,by simpa [Act.put] using hE,hR.mono t1.ext (.refl _),hI.put (o':=.cb E (cs.take o++us++cs.drop (o+n))) hb ho t1 ⟨b,_,rfl,t2,hC'.mono t1.ext (.refl _)⟩ (.inl rfl)⟩))
   have hq:qs.length=te.size:=by omega
   simp only [List.append_assoc] at hst
   simp [execOp,hE.ev g1,hE.ev g3,Instr.storeAt,Instr.sureAddr,storeVar,sizeOf,typeInfo,i1,i2,Value.cells,hq,hst,Result.andThen]
end
end Go.V
