/- Part 17 of what the claim is proved by: lemmas on the model and walks through functions of the program; no conditions. -/
import Derived.Test.YtmdpbfghjdljiaaGreatQ16
namespace Go.V
open Go Go.W Go.RowKit
def isLD:Obj→Bool
 | .loop _=>true
 | .deferred _=>true
 | _=>false
def StepOK (B0:Nat) (m:Nat→Nat) (w:World) (m':Nat→Nat) (w':World):Prop:=
 ∃ row,w.grownBy w' row∧(∀ r,row=some r→B0≤r∧∃ o,w.heap[r]?=some o∧isLD o=true)∧∀ b,b < w.heap.size→m' b=m b
def Stays {β:Type} (B0:Nat) (J:β→(Nat→Nat)→World→Prop):Prop:=∀ s m w m' w',J s m w→StepOK B0 m w m' w'→J s m' w'
theorem Stays.le {β:Type} {B0 B1:Nat} {J:β→(Nat→Nat)→World→Prop} (h:Stays B0 J) (hb:B0≤B1):Stays B1 J:=fun s m w m' w' hj ⟨row,h1,h2,h3⟩ =>
 h s m w m' w' hj ⟨row,h1,fun r e=>⟨Nat.le_trans hb (h2 r e).1,(h2 r e).2⟩,h3⟩
theorem StepOK.keep {B0 m w m' w'} (h:Keep m w m' w'):StepOK B0 m w m' w':=⟨none,h.grown,nofun,h.lim⟩
theorem StepOK.put {B0 m} {w:World} {l:Nat} {o o':Obj} (hl:w.heap[l]?=some o) (ho:isLD o=true) (hB:B0≤l):StepOK B0 m w m (w.putObj l o'):=
 ⟨some l,grownBy_putObj' w l o',fun r e=>by cases e;exact ⟨hB,o,hl,ho⟩,fun _ _=>rfl⟩
theorem LD_cell {w:World} {b i c} (h:w.cell? ⟨b,i,none⟩=some c) {o:Obj} (ho:w.heap[b]?=some o):isLD o=false:=by
 unfold World.cell? at h
 rw [ho] at h
 cases o<;>simp_all [isLD]
theorem StepOK.ext {B0 m w m' w'} (h:StepOK B0 m w m' w'):Ext m w m' w':=by
 obtain ⟨row,hg,hr,hm⟩:=h
 refine ⟨hg.size,fun b hb=>by rw [hm b hb];exact Nat.le_refl _,fun b i c _ hc=>?_⟩
 have hlt:=lt_of_cell hc
 have hne:some b≠row:=fun e=>by
  obtain ⟨_,o,ho,hl⟩:=hr b e.symm
  rw [LD_cell hc ho] at hl;cases hl
 rw [World.cell?_of_block (w:=w) (hg.block b hlt hne)];exact hc
def KeepL (E:Nat→Prop) (w w':World):Prop:=∀ b o,¬ E b→w.heap[b]?=some o→isLD o=true→w'.heap[b]?=some o
theorem KeepL.refl (E w):KeepL E w w:=fun _ _ _ h _=>h
theorem KeepL.trans {E a b c} (h:KeepL E a b) (k:KeepL E b c):KeepL E a c:=fun x o he ho hl=>k x o he (h x o he ho hl) hl
theorem KeepL.mono {E E':Nat→Prop} {a b} (h:KeepL E a b) (he:∀ x,E x→E' x):KeepL E' a b:=fun x o hx ho hl=>h x o (fun e=>hx (he x e)) ho hl
theorem KeepL.keep {E m w m' w'} (h:Keep m w m' w'):KeepL E w w':=fun b o _ ho _=>by rw [h.block (Array.getElem?_eq_some_iff.1 ho).1];exact ho
theorem KeepL.put {E:Nat→Prop} {w:World} {l:Nat} {o':Obj} (h:E l):KeepL E w (w.putObj l o'):=fun b o hb ho _=>(World.putObj_heap_other (fun e=>hb (by rw [e];exact h))).trans ho
def YieldV (P:Program) (l:Nat) (E:Nat→Prop) (vs:List Value) (m:Nat→Nat) (W:World) (K1 K0:(Nat→Nat)→World→Prop):Prop:=
 YieldAt Fence.wide 0 P l vs.toArray W fun e W'=>∃ m',Ext m W m' W'∧((e=.returned (.bool true)∧KeepL (fun _=>False) W W'∧K1 m' W')∨(e=.returned (.bool false)∧KeepL E W W'∧K0 m' W'))
def SeqV (P:Program) (gf:Nat) (lb:Array Value) {α:Type} (as:α→List AV) (L:List α) (m0:Nat→Nat) (w0:World):Prop:=
 ∀ (l:Nat) (E:Nat→Prop) (J Jx:List α→(Nat→Nat)→World→Prop) (m:Nat→Nat) (W:World),Ext m0 w0 m W→E l→(∀ b,E b→b < W.heap.size)→Stays W.heap.size J→Stays W.heap.size Jx →
  (∀ pre x m1 W1 vs,J pre m1 W1→(∃ r,pre++x::r=L)→VL m1 W1 [] vs (as x)→YieldV P l E vs m1 W1 (J (pre++[x])) (Jx (pre++[x]))) →
  J [] m W →
  Calls P gf (#[.func (.yield l) #[] #[]]++lb) W fun e W'=>∃ v m',e=.returned v∧Ext m W m' W'∧(J L m' W'∨∃ pre,Jx pre m' W')
theorem SeqV.later {P:Program} {gf:Nat} {lb:Array Value} {α:Type} {as:α→List AV} {L:List α} {m0 w0 m w} (h:SeqV P gf lb as L m0 w0) (he:Ext m0 w0 m w):SeqV P gf lb as L m w:=
 fun l E J Jx m1 W h1=>h l E J Jx m1 W (he.trans h1)
def SeqMP (P:Program) {α:Type} (as:α→List AV) (L:List α):MP where
 R m w v := ∃ gf lb fn, v = .func (.func gf) #[] lb ∧ P.funcs[gf]? = some fn ∧ (fn.body.isNone || fn.name == "runtime.NumGoroutine") = false ∧ SeqV P gf lb as L m w
 mono:=fun he ⟨gf,lb,fn,h1,h2,h3,h4⟩=>⟨gf,lb,fn,h1,h2,h3,h4.later he⟩
 one:=fun ⟨gf,lb,fn,h1,_⟩=>by subst h1;rfl
/-! ## The statement -/
def bodyQ {α:Type} (E:Nat→Prop) (I Ix:List α→(Nat→Nat)→World→Prop) (xs:List α) (m:Nat→Nat) (W:World):Exit→Act→World→Prop
 | .normal,_,W'=>∃ m',Ext m W m' W'∧KeepL (fun _=>False) W W'∧I xs m' W'
 | .ret,_,W'=>∃ m',Ext m W m' W'∧KeepL E W W'∧Ix xs m' W'
 | _,_,_=>False
abbrev markD (D:Nat):Deferred:={ target:=.collected D,args:=#[] }
set_option maxHeartbeats 1000000 in
theorem rangeV {P:Program} {α:Type} {as:α→List AV} {L:List α} {g:Operand} {t d T rid k:Nat} {pos:String} {af:Array Edge} {body:Code} {Q:Exit→Act→World→Prop} {a:Act} {w:World} {m:Nat→Nat} {gf:Nat} {lb:Array Value} {fn:Func}
  (hg : a.eval g = .func (.func gf) #[] lb) (hf : P.funcs[gf]? = some fn) (hb : (fn.body.isNone || fn.name == "runtime.NumGoroutine") = false) (hseq : SeqV P gf lb as L m w)
  (E0:Nat→Prop) (hE0:∀ b,E0 b→b < w.heap.size) (I Ix:List α→(Nat→Nat)→World→Prop) (hI:Stays w.heap.size I) (hIx:Stays w.heap.size Ix) (h0:I [] m w)
  (has:∀ x,(as x).length=1)
  (hround:∀ l pre x m1 W1 v,w.heap.size≤l→I pre m1 W1→(∃ r,pre++x::r=L)→VL m1 W1 [] [v] (as x)→Ext m w m1 W1 →
   body.wpIn (WF (some l)) 0 P (bodyQ E0 I Ix (pre++[x]) m1 W1) (({ tmps:=a.tmps.setIfInBounds t v,defers:=[] }:Act).put (some d) (({ tmps:=a.tmps.setIfInBounds t v,defers:=[] }:Act).eval (.tmp t))) W1)
  (hdone:∀ m' W',Ext m w m' W'→I L m' W'→W'.heap[w.heap.size]?=some (.deferred (some []))→Q .normal { a with defers:=markD w.heap.size::a.defers } W')
  (hstop:∀ pre m' W',Ext m w m' W'→Ix pre m' W'→W'.heap[w.heap.size]?=some (.deferred (some []))→Q .ret { a with defers:=markD w.heap.size::a.defers } W') :
  (Code.rangeFunc g #[t] (.region rid #[⟨some d,.assign (.tmp t),T,pos,af,none⟩] false) body).wpIn Fence.wide k P Q a w:=by
 have hb':=hb
 simp at hb'
 have hbn:fn.body≠none:=Option.isSome_iff_ne_none.1 hb'.1
 have eg:∀ args w,(callFunc gf args).run P w=.ok (.enter gf args) w:=fun args w=>by simp [callFunc,hf,hb'.2,hbn]
 refine wpIn_rangeFunc ?_
 intro fn' hfn'
 have hround':(Fence.wide).round=none:=rfl
 rw [hround']
 obtain ⟨rec,hrec⟩:∃ rec:LoopState→Option Code→Loop,rec=fun st pe=>{ state:=st,pending:=pe,fn:=fn',tmps:=a.tmps,params:=#[t],assign:=(.region rid #[⟨some d,.assign (.tmp t),T,pos,af,none⟩] false),body,defers:=w.heap.size }:=⟨_,rfl⟩
 obtain ⟨W1,hW1⟩:∃ W1,(w.alloc (.deferred (some []))).alloc (.loop (rec .ready none))=W1:=⟨_,rfl⟩
 have hL1:W1.heap[w.heap.size+1]?=some (.loop (rec .ready none)):=by
  rw [← hW1];have:=World.alloc_heap_new (w.alloc (.deferred (some []))) (.loop (rec .ready none));rwa [World.size_alloc] at this
 have hK1:W1.heap[w.heap.size]?=some (.deferred (some [])):=by
  rw [← hW1];exact (Below.heap_alloc _ _ _ (by simp)).trans (World.alloc_heap_new w _)
 have hz1:W1.heap.size=w.heap.size+2:=by rw [← hW1];simp
 have hkp:Keep m w m W1:=by
  rw [← hW1]
  exact ⟨⟨rfl,rfl,rfl,by simp;omega,fun b hb _=>((World.grownBy_alloc _ _ none).block b (by simp;omega) (by simp)).trans ((World.grownBy_alloc w _ none).block b hb (by simp))⟩,fun _ _=>rfl⟩
 obtain ⟨mS,hmS⟩:∃ mS,mS=m:=⟨_,rfl⟩
 have hI1:I [] m W1:=hI _ _ _ _ _ h0 (.keep hkp)
 refine ⟨w.heap.size+1,[markD w.heap.size],W1,{ target:=.fn (.func gf) lb,args:=#[.func (.yield (w.heap.size+1)) #[] #[]] },W1,gf,
  #[.func (.yield (w.heap.size+1)) #[] #[]]++lb,W1,?_,?_,?_,?_,fun h=>(by cases h),callsIn_wide.2 ?_⟩
 ·rw [← hW1,hrec];exact run_enterLoop_outer _ _ _ _ _
 ·simp only [resolve,hg]
  simp [go_sem]
 ·intro f' hf';trivial
 ·simp [invoke,go_sem,eg]
 ·refine (hseq (w.heap.size+1) (fun b=>E0 b∨b=w.heap.size+1)
   (fun pre m W=>I pre m W∧Ext mS w m W∧W.heap[w.heap.size+1]?=some (.loop (rec .ready none))∧W.heap[w.heap.size]?=some (.deferred (some [])))
   (fun pre m W=>Ix pre m W∧Ext mS w m W∧W.heap[w.heap.size+1]?=some (.loop (rec .done (some .ret)))∧W.heap[w.heap.size]?=some (.deferred (some [])))
   m W1 hkp.ext (.inr rfl) (fun b hb=>hb.elim (fun h=>by have:=hE0 b h;omega) (fun h=>by omega)) ?_ ?_ ?_ ⟨hI1,hmS ▸ hkp.ext,hL1,hK1⟩).mono ?_
  ·rintro pre m1 W m2 W' ⟨h1,h2,h3,h4⟩ hs
   refine ⟨(hI.le (by omega)) _ _ _ _ _ h1 hs,h2.trans hs.ext,?_,?_⟩
   all_goals
    obtain ⟨row,hgr,hr,_⟩:=hs
    first
    | exact (hgr.block _ (Array.getElem?_eq_some_iff.1 h3).1 (fun e=>by have:=(hr _ e.symm).1;omega)).trans h3
    | exact (hgr.block _ (Array.getElem?_eq_some_iff.1 h4).1 (fun e=>by have:=(hr _ e.symm).1;omega)).trans h4
  ·rintro pre m1 W m2 W' ⟨h1,h2,h3,h4⟩ hs
   refine ⟨(hIx.le (by omega)) _ _ _ _ _ h1 hs,h2.trans hs.ext,?_,?_⟩
   all_goals
    obtain ⟨row,hgr,hr,_⟩:=hs
    first
    | exact (hgr.block _ (Array.getElem?_eq_some_iff.1 h3).1 (fun e=>by have:=(hr _ e.symm).1;omega)).trans h3
    | exact (hgr.block _ (Array.getElem?_eq_some_iff.1 h4).1 (fun e=>by have:=(hr _ e.symm).1;omega)).trans h4
  ·-- one round
   rintro pre x m1 W vs ⟨hi,he,hl,hk⟩ hpre hv
   have hlt:w.heap.size+1 < W.heap.size:=(Array.getElem?_eq_some_iff.1 hl).1
   obtain ⟨v,rfl⟩:∃ v,vs=[v]:=by
    have:=hv.len
    rw [has] at this
    match vs,this with
    | [v],_=>exact ⟨v,rfl⟩
   have hy:=run_yield (P:=P) (args:=#[v]) hl (by rw [hrec];rfl)
   rw [hrec] at hy
   dsimp only at hy
   have ez:Array.foldl (fun (tmps:Array Value) (x:Tmp × Value)=>match x with|(t,a)=>tmps.setIfInBounds t a) a.tmps ((#[t]:Array Tmp).zip #[v])=a.tmps.setIfInBounds t v:=by simp
   rw [ez] at hy
   refine ⟨fn',_,_,body,hy,roundIn_of_wpIn hfn' ?_⟩
   refine wpIn_region_lit (l:=[⟨some d,.assign (.tmp t),T,pos,af,none⟩]) ?_
   refine Go.W.i_lcons (r:=some (w.heap.size+1)) (Go.W.wl_value (v:=_) (w':=W) rfl (by simp [execOp];rfl) ?_)
   refine ⟨_,run_beginRound hl (by rw [hrec]),?_⟩
   have hl2:(W.putObj (w.heap.size+1) (.loop { rec .ready none with state:=.busy })).heap[w.heap.size+1]?=some (.loop { rec .ready none with state:=.busy }):=World.putObj_heap_same hlt
   have hk2:(W.putObj (w.heap.size+1) (.loop { rec .ready none with state:=.busy })).heap[w.heap.size]?=some (.deferred (some [])):=(World.putObj_heap_other (by omega)).trans hk
   have hs2:StepOK w.heap.size m1 W m1 (W.putObj (w.heap.size+1) (.loop { rec .ready none with state:=.busy })):=.put hl rfl (by omega)
   have hkl2:∀ b o,b≠w.heap.size+1→W.heap[b]?=some o→(W.putObj (w.heap.size+1) (.loop { rec .ready none with state:=.busy })).heap[b]?=some o:=fun b o hb ho=>(World.putObj_heap_other hb).trans ho
   generalize hW2:W.putObj (w.heap.size+1) (.loop { rec .ready none with state:=.busy })=W2 at *
   have hv2:VL m1 W2 [] [v] (as x):=hv.mono hs2.ext (.refl _)
   refine wpIn_mono (hround (w.heap.size+1) pre x m1 W2 v (by omega) (hI _ _ _ _ _ hi hs2) hpre hv2 (hmS ▸ he.trans hs2.ext)) ?_
   rintro e a3 W3 hp
   cases e with
   | normal =>
     obtain ⟨m3,he3,hkl3,hi3⟩:=hp
     have hl3:=hkl3 _ _ (fun h=>h) hl2 rfl
     have hk3:=hkl3 _ _ (fun h=>h) hk2 rfl
     have hr:(Instr.endRound (w.heap.size+1) none).run P W3=.ok (.bool true) (W3.putObj (w.heap.size+1) (.loop (rec .ready none))):=by
      have:=run_endRound (P:=P) none hl3
      rw [hrec] at this ⊢
      exact this
     have hs3:StepOK w.heap.size m3 W3 m3 (W3.putObj (w.heap.size+1) (.loop (rec .ready none))):=.put hl3 rfl (by omega)
     refine ⟨_,_,hr,m3,?_,.inl ⟨rfl,?_,hI _ _ _ _ _ hi3 hs3,(he.trans hs2.ext).trans (he3.trans hs3.ext),World.putObj_heap_same (Array.getElem?_eq_some_iff.1 hl3).1,(World.putObj_heap_other (by omega)).trans hk3⟩⟩
     ·exact hs2.ext.trans (he3.trans hs3.ext)
     ·intro b o _ ho hld
      by_cases hb:b=w.heap.size+1
      ·subst hb
       rw [hl] at ho
       cases ho
       exact World.putObj_heap_same (Array.getElem?_eq_some_iff.1 hl3).1
      ·exact (World.putObj_heap_other hb).trans (hkl3 _ _ (fun h=>h) (hkl2 b o hb ho) hld)
   | ret =>
     obtain ⟨m3,he3,hkl3,hi3⟩:=hp
     have hl3:=hkl3 _ _ (fun h=>by have:=hE0 _ h;omega) hl2 rfl
     have hk3:=hkl3 _ _ (fun h=>by have:=hE0 _ h;omega) hk2 rfl
     have hr:(Instr.endRound (w.heap.size+1) (some .ret)).run P W3=.ok (.bool false) (W3.putObj (w.heap.size+1) (.loop (rec .done (some .ret)))):=by
      have:=run_endRound (P:=P) (some .ret) hl3
      rw [hrec] at this ⊢
      exact this
     have hs3:StepOK w.heap.size m3 W3 m3 (W3.putObj (w.heap.size+1) (.loop (rec .done (some .ret)))):=.put hl3 rfl (by omega)
     refine ⟨_,_,hr,m3,?_,.inr ⟨rfl,?_,hIx _ _ _ _ _ hi3 hs3,(he.trans hs2.ext).trans (he3.trans hs3.ext),World.putObj_heap_same (Array.getElem?_eq_some_iff.1 hl3).1,(World.putObj_heap_other (by omega)).trans hk3⟩⟩
     ·exact hs2.ext.trans (he3.trans hs3.ext)
     ·intro b o hb ho hld
      have hb1:¬ E0 b:=fun h=>hb (.inl h)
      have hb2:b≠w.heap.size+1:=fun h=>hb (.inr h)
      exact (World.putObj_heap_other hb2).trans (hkl3 _ _ hb1 (hkl2 b o hb2 ho) hld)
   | _=>exact hp.elim
  ·-- behind the iterator
   rintro e W2 ⟨v,m2,rfl,he2,(⟨hi,he,hl,hk⟩|⟨pre,hi,he,hl,hk⟩)⟩
   ·have hr:=run_endLoop (P:=P) hl (by rw [hrec];simp)
    have hs3:StepOK w.heap.size m2 W2 m2 (W2.putObj (w.heap.size+1) (.loop { rec .ready none with state:=.exhausted })):=.put hl rfl (by omega)
    refine ⟨none,_,by rw [hrec] at hr ⊢;exact hr,hdone m2 _ (hmS ▸ he.trans hs3.ext) (hI _ _ _ _ _ hi hs3) ((World.putObj_heap_other (by omega)).trans hk)⟩
   ·have hr:=run_endLoop (P:=P) hl (by rw [hrec];simp)
    have hs3:StepOK w.heap.size m2 W2 m2 (W2.putObj (w.heap.size+1) (.loop { rec .done (some .ret) with state:=.exhausted })):=.put hl rfl (by omega)
    refine ⟨some .ret,_,by rw [hrec] at hr ⊢;exact hr,wpIn_ret (hstop pre m2 _ (hmS ▸ he.trans hs3.ext) (hIx _ _ _ _ _ hi hs3) ((World.putObj_heap_other (by omega)).trans hk))⟩
end Go.V
namespace Go.V
open Go Go.W Go.RowKit
theorem ObjOK.notLD {m w γ v o b} (h:ObjOK m w γ v o) (hb:blk o v=some b) {ob:Obj} (ho:w.heap[b]?=some ob):isLD ob=false:=by
 cases o with
 | cb T cs =>
   obtain ⟨b',vs,rfl,hB,hC⟩:=h
   cases hb
   rw [hB.heap] at ho;cases ho;rfl
 | gs fz T sz nl xs =>
   obtain ⟨h1,h2⟩:=h
   have key:∀ {C:CRel AV} {m},W.Own T sz C m w v xs→isLD ob=false:=by
    intro C m h
    rcases h with ⟨rfl,_⟩|⟨_,_,rfl,_⟩|⟨g,cap,cur,rfl,h0,hg,_⟩
    ·cases hb
    ·cases hb
    ·obtain ⟨c,rfl⟩:∃ c,cap=c+1:=⟨cap-1,by omega⟩
     cases hb
     rw [hg] at ho;cases ho;rfl
   cases fz with
   | true=>exact key h1
   | false=>obtain ⟨m1,h1,_⟩:=h1;exact key h1
 | mo es =>
   obtain ⟨b',l,rfl,h0,hM,_⟩:=h
   cases hb
   obtain ⟨es',clock,hM1,hM2⟩:=hM
   rw [hM1] at ho;cases ho;rfl
 | gw T sz nl xs =>
   obtain ⟨⟨m1,h,_⟩,h2⟩:=h
   rcases h with ⟨rfl,_⟩|⟨_,_,rfl,_⟩|⟨g,cap,cur,rfl,h0,hg,_⟩
   ·cases hb
   ·cases hb
   ·obtain ⟨c,rfl⟩:∃ c,cap=c+1:=⟨cap-1,by omega⟩
    cases hb
    rw [hg] at ho;cases ho;rfl
 | dead=>cases hb
theorem StepOK.far {B0 m w m' w'} (h:StepOK B0 m w m' w'):∃ S:List Nat,Far S m w m' w'∧∀ b∈S,B0≤b∧∃ o,w.heap[b]?=some o∧isLD o=true:=by
 have he:=h.ext
 obtain ⟨row,hg,hr,hm⟩:=h
 refine ⟨row.toList,⟨hg.os,hg.tape,hg.output,hg.size,fun b hb hn=>hg.block b hb (fun e=>hn (by rw [← e];simp)),fun b hb _=>hm b hb,he⟩,fun b hb=>hr b (by simpa using hb)⟩
theorem In.step {B m w γ η m' w'} (h:In B m w γ η) (hs:StepOK B.w.heap.size m w m' w'):In B m' w' γ η:=by
 obtain ⟨S,hf,hS⟩:=hs.far
 have hoff:∀ (i:Nat) v o,γ[i]?=some v→η[i]?=some o→∀ b,blk o v=some b→b ∉ S:=fun i v o hv ho b hb hm=>by
  obtain ⟨_,ob,h1,h2⟩:=hS b hm
  rw [(h.heap.ok i v o hv ho).notLD hb h1] at h2;cases h2
 exact ⟨⟨h.heap.len,fun i v o a b=>(h.heap.ok i v o a b).far hf (hoff i v o a b) (.refl _),h.heap.apart⟩,h.far.trans hf (fun b hb=>.inr (hS b hb).1),h.own,h.pre⟩
theorem In.comp {B B' m w γ η} (h:In B' m w γ η) (hf:Far B.S B.m B.w B'.m B'.w) (ho:∀ b∈B'.S,b∈B.S∨B.w.heap.size≤b) (hp:Pre B.γ B'.γ):In B m w γ η:=
 ⟨h.heap,hf.trans h.far ho,fun i v o b hv hq hb=>(h.own i v o b hv hq hb).elim (fun e=>ho b e) (fun e=>.inr (Nat.le_trans hf.size e)),hp.trans h.pre⟩
theorem In.rebase {B m w γ η} (h:In B m w γ η) {γ0:List Value} (hp:Pre γ0 γ):In ⟨m,w,blks γ η,γ0⟩ m w γ η:=
 ⟨h.heap,.refl _ _ _,fun i v o _b h1 h2 h3=>.inl (mem_blks.2 ⟨i,v,o,h1,h2,h3⟩),hp⟩
theorem blks_own {B m w γ η} (h:In B m w γ η):∀ b∈blks γ η,b∈B.S∨B.w.heap.size≤b:=fun b hb=>by
 obtain ⟨i,v,o,h1,h2,h3⟩:=mem_blks.1 hb
 exact h.own i v o b h1 h2 h3
theorem blks_notLD {B m w γ η} (h:In B m w γ η):∀ b∈blks γ η,∀ ob,w.heap[b]?=some ob→isLD ob=false:=fun b hb ob ho=>by
 obtain ⟨i,v,o,h1,h2,h3⟩:=mem_blks.1 hb
 exact (h.heap.ok i v o h1 h2).notLD h3 ho
structure Marked (B B':Base) (D:Nat):Prop where
 far:Far B.S B.m B.w B'.m B'.w
 own:∀ b∈B'.S,b∈B.S∨B.w.heap.size≤b
 pre:Pre B.γ B'.γ
 mark:B'.w.heap[D]?=some (.deferred (some []))
 off:D ∉ B'.S
 le:B.w.heap.size≤D
def RQ (C:Cx) (η':Eta):Qt
 | .normal,a,w=>A2 C.N C.D C.B a w [] η'
 | _,_,_=>False
section
variable {C:Cx} {Q:Qt} {ρ ρ':Ro} {η η':Eta}
theorem TX.rq (σ:List Nat) (ho:SubO (ts σ) η σ η') (hn:nodB σ=true:=by with_unfolding_all exact rfl) (hp:preB C.n 0 σ=true:=by with_unfolding_all exact rfl):TX C (RQ C η') .normal ρ η:=fun _ _ hA=>hA.sel C.hn hn hp ho trivial
theorem Env.setT {N D a ρ t} {v:Value} (h:Env N D a ρ) (ht:t < N):Env N [] { tmps:=a.tmps.setIfInBounds t v,defers:=[] } ((t,v)::ρ):=by
 have h0:Env N [] { tmps:=a.tmps,defers:=[] } ρ:=⟨h.size,rfl,h.look⟩
 have:=h0.put v ht
 simpa [Act.put] using this
set_option maxHeartbeats 1000000 in
theorem TC.rfV {P:Program} {α:Type} {as:α→List AV} {L:List α} {g:Operand} {t d T rid:Nat} {pos:String} {af:Array Edge} {body:Code} (u:α→AV) (ρ0:Ro) (ηs:List α→Eta) (n0:Nat) (σ:List Nat)
  (hx:ev2 ρ g=some (.pr (SeqMP P as L))) (hP:C.P=P) (hr:C.r=none) (has:∀ x,as x=[u x]) (hn:nodB σ=true) (hp:preB C.n 0 σ=true) (ho:SubO (ts σ) η σ (ηs [])) (hρ:SubR (ts σ) ρ ρ0) (hself:SubR (ts (List.range n0)) ρ0 ρ0)
  (hnn:C.n≤n0) (hn0:n0≤(ηs []).length) (ht:Nat.blt t C.N=true) (hd:Nat.blt d C.N=true)
  (hround:∀ pre x (Bx:Base) (hB:Bx.γ.length=n0) l,(∃ r,pre++x::r=L)→TC ⟨C.P,C.tab,C.hT,C.hm,C.N,[],Bx,n0,hB,some (some l),0⟩ (RQ ⟨C.P,C.tab,C.hT,C.hm,C.N,[],Bx,n0,hB,some (some l),0⟩ (ηs (pre++[x]))) body ((d,u x)::(t,u x)::ρ0) (ηs pre))
  (hdone:∀ (B':Base) (hB':B'.γ.length=C.n) D,Marked C.B B' D→TX ⟨C.P,C.tab,C.hT,C.hm,C.N,markD D::C.D,B',C.n,hB',none,0⟩ Q .normal ρ0 (ηs L)) :
  TC C Q (.rangeFunc g #[t] (.region rid #[⟨some d,.assign (.tmp t),T,pos,af,none⟩] false) body) ρ η:=by
 rintro a w ⟨m,γ,ρc,hE,hR,hI⟩
 rw [Cx.W_none hr]
 obtain ⟨v,hv1,hv2⟩:=hR.ev hx
 obtain ⟨γ',hsh,hI'⟩:=hI.sel C.hn hn hp ho
 obtain ⟨ρc',hR',hsub⟩:=SubR.rl hsh hR hρ
 have hE':=hE.sel hsub
 have hg0:=hE.ev hv1
 cases hv2 with
 | pr hseq =>
 obtain ⟨gf,lb,fn,rfl,hf,hb,hseq⟩:=hseq
 subst hP
 have hl':=hI'.heap.len
 have hsh0:Sh2 (ts (List.range n0)) γ' (γ'.take n0):=by
  intro i j hij w' hw'
  obtain ⟨k,h1,h2⟩:=idx_spec (List.range n0) i 0 j hij
  have hk:k < n0:=by have:=(List.getElem?_eq_some_iff.1 h2).1;simpa using this
  rw [List.getElem?_range hk] at h2
  cases h2
  rw [h1,Nat.zero_add,List.getElem?_take,if_pos hk]
  exact hw'
 obtain ⟨ρc0,hR0,hsub0⟩:=SubR.rl hsh0 hR' hself
 have hE0:=hE'.sel hsub0
 have hpre0:Pre (γ'.take n0) γ':=fun i v h=>by
  rw [List.getElem?_take] at h
  split at h
  ·exact h
  ·cases h
 have hlen0:(γ'.take n0).length=n0:=by simp;omega
 have hIb:=hI'.rebase hpre0
 refine wpIn_wide.1 (rangeV (k:=0) hg0 hf hb hseq (fun _=>False) (fun _ h=>h.elim) (fun pre m1 W1=>∃ γ1,In ⟨m,w,blks γ' (ηs []),γ'.take n0⟩ m1 W1 γ1 (ηs pre)) (fun _ _ _=>False) ?_ ?_ ⟨γ',hIb⟩ ?_ ?_ ?_ ?_)
 ·rintro pre m1 W1 m2 W2 ⟨γ1,h1⟩ hs
  exact ⟨γ1,h1.step hs⟩
 ·rintro _ _ _ _ _ h _;exact h
 ·intro x;rw [has];rfl
 ·rintro l pre x m1 W1 v hl ⟨γ1,h1⟩ hpre hv he
  rw [has] at hv
  have hrep:Rep m1 W1 γ1 v (u x):=hv.1.mono (.refl _ _) (fun i v h=>by simp at h)
  have hIx:=h1.rebase h1.pre
  have hEr:Env C.N [] (({ tmps:=a.tmps.setIfInBounds t v,defers:=[] }:Act).put (some d) (({ tmps:=a.tmps.setIfInBounds t v,defers:=[] }:Act).eval (.tmp t))) ((d,v)::(t,v)::ρc0):=by
   have h2:=Env.setT (v:=v) hE0 (by simpa using ht)
   have h3:({ tmps:=a.tmps.setIfInBounds t v,defers:=[] }:Act).eval (.tmp t)=v:=h2.ev (x:=.tmp t) (by simp [W.ev,W.look])
   rw [h3]
   exact h2.put v (by simpa using hd)
  have hb:=hround pre x ⟨m1,W1,blks γ1 (ηs pre),γ'.take n0⟩ hlen0 l hpre _ _ ⟨m1,γ1,_,hEr,⟨rfl,hrep,rfl,hrep,hR0.mono he h1.pre⟩,hIx⟩
  rw [Cx.W_some rfl] at hb
  refine wpIn_mono hb fun e a' W' hq=>?_
  cases e with
  | normal =>
    obtain ⟨m3,γ3,_,_,_,h3⟩:=hq
    refine ⟨m3,h3.far.ext,fun b o _ hbo hld=>?_,γ3,h3.comp h1.far (blks_own h1) (.refl _)⟩
    have hn:b ∉ blks γ1 (ηs pre):=fun hm=>by rw [blks_notLD h1 b hm o hbo] at hld;cases hld
    rw [h3.far.block b (Array.getElem?_eq_some_iff.1 hbo).1 hn];exact hbo
  | _=>exact hq.elim
 ·rintro m' W' he ⟨γL,hL⟩ hD
  have hpc:Pre C.B.γ (γ'.take n0):=fun i v h=>by
   have hi:=(List.getElem?_eq_some_iff.1 h).1
   rw [C.hn] at hi
   rw [List.getElem?_take,if_pos (by omega)]
   exact hI'.pre i v h
  have hIL:=hL.rebase (hpc.trans hL.pre)
  have hM:Marked C.B ⟨m',W',blks γL (ηs L),C.B.γ⟩ w.heap.size:=by
   refine ⟨hI'.far.trans hL.far (blks_own hI'),fun b hb=>?_,.refl _,hD,fun hm=>?_,hI'.far.size⟩
   ·rcases blks_own hL b hb with h|h
    ·exact blks_own hI' b h
    ·exact .inr (Nat.le_trans hI'.far.size h)
   ·have:=blks_notLD hL _ hm _ hD;cases this
  exact hdone ⟨m',W',blks γL (ηs L),C.B.γ⟩ C.hn _ hM _ _ ⟨m',γL,ρc0,⟨hE0.size,by show _::a.defers=_;rw [hE0.defers],hE0.look⟩,hR0.mono he hL.pre,hIL⟩
 ·rintro _ _ _ _ h;exact h.elim
/-! ## Entry and return of a function that holds such a loop -/
theorem Spec.enterM {P:Program} {f:Nat} {fn:Func} {c:Code} {as:List AV} {r:AV} {tab:Tab} {N:Nat} (hT:TabOK P tab) (hm:P.follows .mixedOrders=true) (hf:P.funcs[f]?=some fn) (hb:fn.body=some c) (hN:fn.ntmps=N) (ha:Nat.ble as.length N=true)
  (h:∀ B (hB:B.γ.length=η.length),TC ⟨P,tab,hT,hm,N,[],B,η.length,hB,none,0⟩ (bodyPostM Fence.wide 0 P fn (PostB B r η')) c (zip2 0 as) η):Spec P f as η r η':=by
 intro m w γ vs hH hV
 refine W.enterM (N:=N) 0 (W.zipA 0 vs) hf hb hN (by simp) (by have:=hV.len;simp at ha;simp;omega) fun a hE=>?_
 have:=h (baseOf m w γ η) hH.len a w ⟨m,γ,_,hE,hV.zip 0,hH,.refl _ _ _,fun i v o b h1 h2 h3=>.inl (mem_blks.2 ⟨i,v,o,h1,h2,h3⟩),.refl _⟩
 rwa [Cx.W_none rfl] at this
theorem TX.endM {fn:Func} {R k} (h:TX C (bodyPostM Fence.wide k C.P fn R) .ret ρ η):TX C (bodyPostM Fence.wide k C.P fn R) .normal ρ η:=fun a w hA=>h a w hA
end
end Go.V
namespace Go.V
open Go Go.W Go.RowKit
structure It (P:Program) {α:Type} (as:α→List AV) (L:List α) where
 l:Nat
 E:Nat→Prop
 J:List α→(Nat→Nat)→World→Prop
 Jx:List α→(Nat→Nat)→World→Prop
 m:Nat→Nat
 W:World
 hl:E l
 hE:∀ b,E b→b < W.heap.size
 sJ:Stays W.heap.size J
 sJx:Stays W.heap.size Jx
 hy:∀ pre x m1 W1 vs,J pre m1 W1→(∃ r,pre++x::r=L)→VL m1 W1 [] vs (as x)→YieldV P l E vs m1 W1 (J (pre++[x])) (Jx (pre++[x]))
section
variable {P:Program} {α:Type} {as:α→List AV} {L:List α}
structure At (I:It P as L) (K:(Nat→Nat)→World→Prop) (ds:List Nat) (B:Base):Prop where
 ext:Ext I.m I.W B.m B.w
 noS:B.S=[]
 noγ:B.γ=[]
 stays:∀ m w m' w',K m w→StepOK I.W.heap.size m w m' w'→K m' w'
 holds:K B.m B.w
 marks:∀ d∈ds,I.W.heap.size≤d∧B.w.heap[d]?=some (.deferred (some []))
 nodup:ds.Nodup
theorem At.keep {I:It P as L} {K ds B m w} (h:At I K ds B) (hk:Keep B.m B.w m w):At I K ds ⟨m,w,[],[]⟩:=
 ⟨h.ext.trans hk.ext,rfl,rfl,h.stays,h.stays _ _ _ _ h.holds (.keep hk),fun d hd=>⟨(h.marks d hd).1,hk.heap (h.marks d hd).2⟩,h.nodup⟩
theorem In.keep0 {B m w γ η} (h:In B m w γ η) (hS:B.S=[]):Keep B.m B.w m w:=(hS ▸ h.far).keep
def isDead:AO→Bool
 | .dead=>true
 | _=>false
theorem In.deadB {B m w γ η m' w'} (h:In B m w γ η) (hη:η.all isDead=true):In ⟨m',w',[],[]⟩ m' w' γ η:=by
 have hd:∀ (i:Nat) o,η[i]?=some o→o=.dead:=fun i o ho=>by
  have:=List.all_eq_true.1 hη o (List.mem_of_getElem? ho)
  cases o<;>first|rfl|cases this
 have nb:∀ {i:Nat} {v o b},η[i]?=some o→blk o v=some b→False:=fun {i v o b} ho hb=>by
  rw [hd i o ho] at hb;cases v<;>cases hb
 exact ⟨⟨h.heap.len,fun i v o _ ho=>by rw [hd i o ho];trivial,fun i j v v' o o' b _ _ ho _ _ hb=>(nb ho hb).elim⟩,.refl _ _ _,fun i v o b _ ho hb=>(nb ho hb).elim,fun i v hv=>by simp at hv⟩
end
abbrev Cx.at (C:Cx) (B:Base) (hB:B.γ.length=C.n):Cx:=⟨C.P,C.tab,C.hT,C.hm,C.N,C.D,B,C.n,hB,C.r,C.k⟩
section
variable {C:Cx} {ops:Array Oper} {Q:Qt} {ρ ρ':Ro} {η η':Eta} {rest:List Oper} {T d:Nat} {pos:String} {af:Array Edge} {x:Operand} {args:List Operand} {at_:Array TypeId}
variable {P:Program} {α:Type} {as:α→List AV} {L:List α}
theorem OL.yield {I:It P as L} {pre:List α} {y:α} {ds:List Nat} {us:List AV} {r:Option Nat} (hA:At I (I.J pre) ds C.B) (hpre:∃ r,pre++y::r=L)
  (k1:∀ B (hB:B.γ.length=C.n),At I (I.J (pre++[y])) ds B→Ext C.B.m C.B.w B.m B.w→KeepL (fun _=>False) C.B.w B.w→OL (C.at B hB) ops Q rest ((d,V.bool true)::ρ) η)
  (k0:∀ B (hB:B.γ.length=C.n),At I (I.Jx (pre++[y])) ds B→Ext C.B.m C.B.w B.m B.w→KeepL I.E C.B.w B.w→OL (C.at B hB) ops Q rest ((d,V.bool false)::ρ) η)
  (hP:C.P=P:=by with_unfolding_all exact rfl) (hn:C.n=0:=by with_unfolding_all exact rfl) (hr:C.r=some r:=by with_unfolding_all exact rfl) (hk:C.k=0:=by with_unfolding_all exact rfl)
  (hx:ev2 ρ x=some (.raw (.func (.yield I.l) #[] #[])):=by with_unfolding_all exact rfl) (hl:evs2 ρ args=some us:=by with_unfolding_all exact rfl)
  (hle:LEs (ts []) us (as y):=by repeat' (first|with_unfolding_all exact trivial|exact LE.ren (by with_unfolding_all exact rfl)|with_unfolding_all exact LE.sl|with_unfolding_all exact LE.nil (by decide)|with_unfolding_all refine And.intro ?_ ?_))
  (hd:Nat.blt d C.N=true:=by with_unfolding_all exact rfl) (hη:η.all isDead=true:=by with_unfolding_all exact rfl) :
  OL C ops Q (⟨some d,.call ⟨.value x,args.toArray,at_⟩,T,pos,af,none⟩::rest) ρ η:=by
 rintro a w ⟨m,γ,ρc,hE,hR,hI⟩
 subst hP
 have hK:=hI.keep0 hA.noS
 have hA':=hA.keep hK
 obtain ⟨vs,h1,h2⟩:=hR.evs hl
 have hvl:VL m w [] vs (as y):=hle.vl (γ':=[]) (fun i j h=>by cases h) h2
 have hY:=I.hy pre y m w vs hA'.holds hpre hvl
 rw [Cx.L_some hr,hk]
 refine W.i_yield (F:=WF r) (n:=0) (fun _=>trivial) rfl hE (hR.raw hx) h1 (by simpa using hd)
  (K:=fun b w''=>∃ m',Ext m w m' w''∧((b=true∧KeepL (fun _=>False) w w''∧I.J (pre++[y]) m' w'')∨(b=false∧KeepL I.E w w''∧I.Jx (pre++[y]) m' w''))) ?_ ?_
 ·obtain ⟨fn',tmps,assign,body,q1,q2⟩:=hY
  refine ⟨fn',tmps,assign,body,q1,RoundIn.mono (show RoundIn (WF r) 0 C.P I.l fn' tmps assign body w _ from q2) fun e w'' ⟨m',he,hc⟩=>?_⟩
  rcases hc with ⟨rfl,h1,h2⟩|⟨rfl,h1,h2⟩
  ·exact ⟨true,rfl,m',he,.inl ⟨rfl,h1,h2⟩⟩
  ·exact ⟨false,rfl,m',he,.inr ⟨rfl,h1,h2⟩⟩
 ·rintro b w'' ⟨m',he,hc⟩ a' hE'
  have hB0:([]:List Value).length=C.n:=by rw [hn];rfl
  have key:∀ (E:Nat→Prop) (K:(Nat→Nat)→World→Prop),(∀ b,E b→b < I.W.heap.size)→(∀ m w m' w',K m w→StepOK I.W.heap.size m w m' w'→K m' w')→KeepL E w w''→K m' w''→At I K ds ⟨m',w'',[],[]⟩:=fun E K hE hs hkl hK =>
   ⟨hA'.ext.trans he,rfl,rfl,hs,hK,fun d hd=>⟨(hA'.marks d hd).1,hkl d _ (fun h=>by have:=hE d h;have:=(hA'.marks d hd).1;omega) (hA'.marks d hd).2 rfl⟩,hA'.nodup⟩
  rcases hc with ⟨rfl,h3,h4⟩|⟨rfl,h3,h4⟩
  ·have:=k1 ⟨m',w'',[],[]⟩ hB0 (key _ _ (fun _ h=>h.elim) (fun m w m' w'=>I.sJ _ m w m' w') h3 h4) (hK.ext.trans he) ((KeepL.keep hK).trans h3) a' w'' ⟨m',γ,_,hE',⟨rfl,.raw rfl,hR.mono he (.refl _)⟩,hI.deadB hη⟩
   rwa [Cx.L_some (C:=C.at ⟨m',w'',[],[]⟩ hB0) hr,show (C.at ⟨m',w'',[],[]⟩ hB0).k=0 from hk] at this
  ·have:=k0 ⟨m',w'',[],[]⟩ hB0 (key _ _ I.hE (fun m w m' w'=>I.sJx _ m w m' w') h3 h4) (hK.ext.trans he) ((KeepL.keep hK).trans h3) a' w'' ⟨m',γ,_,hE',⟨rfl,.raw rfl,hR.mono he (.refl _)⟩,hI.deadB hη⟩
   rwa [Cx.L_some (C:=C.at ⟨m',w'',[],[]⟩ hB0) hr,show (C.at ⟨m',w'',[],[]⟩ hB0).k=0 from hk] at this
def ItEnd (I:It P as L):Ending→World→Prop:=fun e W'=>∃ v m',e=.returned v∧Ext I.m I.W m' W'∧(I.J L m' W'∨∃ pre,I.Jx pre m' W')
theorem leaves_marks {F:Fence} {k:Nat} {fn:Func} {tmps:Array Value} {R:Ending→World→Prop} (hres:fn.results=#[]):∀ (ds:List Nat) (w:World),ds.Nodup→(∀ d∈ds,w.heap[d]?=some (.deferred (some []))) →
  R (.returned (.tuple #[])) (ds.foldl (fun w d=>w.putObj d (.deferred none)) w)→LeavesInM F k P fn tmps R (ds.map markD) .returning w
 | [],w,_,_,h=>⟨_,results_none hres _ P _,h⟩
 | d::ds,w,hn,hm,h=>by
   refine ⟨by simp,.inl ⟨d,_,rfl,run_takeDeferred (hm d (by simp)),leaves_marks hres ds _ (List.nodup_cons.1 hn).2 (fun d' hd'=>?_) h⟩⟩
   have hne:d'≠d:=fun e=>(List.nodup_cons.1 hn).1 (e ▸ hd')
   exact (World.putObj_heap_other hne).trans (hm d' (by simp [hd']))
theorem StepOK.trans {B0 m w m1 w1 m2 w2} (K:(Nat→Nat)→World→Prop) (hs:∀ m w m' w',K m w→StepOK B0 m w m' w'→K m' w') (h:K m w) (h1:StepOK B0 m w m1 w1) (h2:StepOK B0 m1 w1 m2 w2):K m2 w2:=hs _ _ _ _ (hs _ _ _ _ h h1) h2
theorem marks_stays {B0:Nat} {m:Nat→Nat} (K:(Nat→Nat)→World→Prop) (hs:∀ m w m' w',K m w→StepOK B0 m w m' w'→K m' w'):∀ (ds:List Nat) (w:World),ds.Nodup→(∀ d∈ds,B0≤d∧w.heap[d]?=some (.deferred (some [])))→K m w →
  K m (ds.foldl (fun w d=>w.putObj d (.deferred none)) w)∧Ext m w m (ds.foldl (fun w d=>w.putObj d (.deferred none)) w)
 | [],w,_,_,h=>⟨h,.refl _ _⟩
 | d::ds,w,hn,hm,h=>by
   have h1:StepOK B0 m w m (w.putObj d (.deferred none)):=.put (hm d (by simp)).2 rfl (hm d (by simp)).1
   obtain ⟨a,b⟩:=marks_stays K hs ds _ (List.nodup_cons.1 hn).2 (fun d' hd'=>⟨(hm d' (by simp [hd'])).1,(World.putObj_heap_other (show d'≠d from fun e=>(List.nodup_cons.1 hn).1 (e ▸ hd'))).trans (hm d' (by simp [hd'])).2⟩) (hs _ _ _ _ h h1)
   exact ⟨a,h1.ext.trans b⟩
theorem TX.rtIt {I:It P as L} {K} {ds:List Nat} {fn:Func} {k:Nat} (hA:At I K ds C.B) (hK:∀ m w,K m w→I.J L m w∨∃ pre,I.Jx pre m w) (_hP:C.P=P:=by with_unfolding_all exact rfl) (hD:C.D=ds.map markD:=by with_unfolding_all exact rfl) (hres:fn.results=#[]:=by with_unfolding_all exact rfl) :
  TX C (bodyPostM Fence.wide k P fn (ItEnd I)) .ret ρ η:=by
 rintro a w ⟨m,γ,ρc,hE,hR,hI⟩
 have hA':=hA.keep (hI.keep0 hA.noS)
 show LeavesInM Fence.wide k P fn a.tmps _ a.defers .returning w
 rw [hE.defers,hD]
 obtain ⟨h1,h2⟩:=marks_stays K hA'.stays ds w hA'.nodup hA'.marks hA'.holds
 exact leaves_marks hres ds w hA'.nodup (fun d hd=>(hA'.marks d hd).2) ⟨_,m,rfl,hA'.ext.trans h2,hK _ _ h1⟩
theorem SeqV.enter {f:Nat} {fn:Func} {c:Code} {caps:List AV} {tab:Tab} {N:Nat} {m0:Nat→Nat} {w0:World} {vs:List Value} (hv:VL m0 w0 [] vs caps) (hT:TabOK P tab) (hm:P.follows .mixedOrders=true) (hf:P.funcs[f]?=some fn) (hb:fn.body=some c) (hN:fn.ntmps=N) (ha:Nat.ble (caps.length+1) N=true)
  (h:∀ (I:It P as L) (B:Base) (hB:B.γ.length=0),At I (I.J []) [] B→TC ⟨P,tab,hT,hm,N,[],B,0,hB,some none,0⟩ (bodyPostM Fence.wide 0 P fn (ItEnd I)) c ((0,.raw (.func (.yield I.l) #[] #[]))::zip2 1 caps) []):SeqV P f vs.toArray as L m0 w0:=by
 intro l E J Jx m W he hEl hElt sJ sJx hy hJ
 have hl:=hv.len
 have ez:(#[Value.func (.yield l) #[] #[]]++vs.toArray:Array Value).toList=Value.func (.yield l) #[] #[]::vs:=by simp
 refine Go.W.enterM (N:=N) 0 ((0,.func (.yield l) #[] #[])::Go.W.zipA 1 vs) hf hb hN (by rw [ez];rfl) (by simp at ha ⊢;omega) fun a hE=>?_
 have hb':=h ⟨l,E,J,Jx,m,W,hEl,hElt,sJ,sJx,hy⟩ ⟨m,W,[],[]⟩ rfl ⟨.refl _ _,rfl,rfl,fun m w m' w'=>sJ _ m w m' w',hJ,by simp,List.nodup_nil⟩ a W
  ⟨m,[],_,hE,⟨rfl,.raw rfl,(hv.mono he (.refl _)).zip 1⟩,⟨rfl,by simp,by simp⟩,.refl _ _ _,fun i v o b h=>by simp at h,.refl _⟩
 rw [Cx.W_some rfl] at hb'
 exact wpIn_wide.1 hb'
/-! ## A range over a function in an iterator -/
theorem TX.thenW {C':Cx} {A:Code} {Q2:Qt} (k:TC C Q A ρ η) (h:C'.W=C.W:=by with_unfolding_all exact rfl):TX C (Exit.then (C'.W A Q) Q2) .normal ρ η:=fun a w hA=>by
 show C'.W A Q a w
 rw [h];exact k a w hA
/-! ## A loop whose rounds begin at later times -/
def NextC {S:Type} (Cs:S→Cx) (ρs:S→Ro) (ηs:S→Eta) (I:S→Prop) (μ:S→Nat) (s:S):Act→World→Prop:=fun a w=>∃ s',(I s'∧μ s' < μ s)∧A2 (Cs s').N (Cs s').D (Cs s').B a w (ρs s') (ηs s')
theorem TC.loopC {A:Code} {S:Type} (Cs:S→Cx) (ρs:S→Ro) (ηs:S→Eta) (I:S→Prop) (μ:S→Nat) (s0:S) (h0:I s0) (hs:A2 C.N C.D C.B=A2 (Cs s0).N (Cs s0).D (Cs s0).B) (hw:∀ s,I s→(Cs s).W=C.W) (σ:List Nat) (hn:nodB σ=true) (hp:preB C.n 0 σ=true) (ho:SubO (ts σ) η σ (ηs s0)) (hr:SubR (ts σ) ρ (ρs s0))
  (round:∀ s,I s→TC (Cs s) (Exit.then (NextC Cs ρs ηs I μ s) Q) A (ρs s) (ηs s)):TC C Q (.loop A) ρ η:=fun a w hA =>
 Cx.loop (fun s a w=>I s∧A2 (Cs s).N (Cs s).D (Cs s).B a w (ρs s) (ηs s)) μ s0 ⟨h0,hs ▸ hA.sel C.hn hn hp ho hr⟩ fun s a w hI=>by
  have:=round s hI.1 a w hI.2
  rw [hw s hI.1] at this
  refine Cx.mono this fun e a' w' q=>?_
  cases e with
  | normal=>obtain ⟨s',⟨h1,h2⟩,h3⟩:=q;exact ⟨s',⟨h1,h3⟩,h2⟩
  | _=>exact q
theorem TX.rdC {S:Type} {Cs:S→Cx} {ρs:S→Ro} {ηs:S→Eta} {I:S→Prop} {μ:S→Nat} {s:S} (s':S) (σ:List Nat) (hI:I s') (hμ:μ s' < μ s) (hs:A2 C.N C.D C.B=A2 (Cs s').N (Cs s').D (Cs s').B:=by with_unfolding_all exact rfl)
  (hn:nodB σ=true:=by with_unfolding_all exact rfl) (hp:preB C.n 0 σ=true:=by with_unfolding_all exact rfl)
  (ho:SubO (ts σ) η σ (ηs s'):=by repeat' (first|with_unfolding_all exact trivial|exact OE.ren (by with_unfolding_all exact rfl)|with_unfolding_all exact OE.gs|with_unfolding_all refine And.intro ⟨_,by with_unfolding_all exact rfl,?_⟩ ?_))
  (hr:SubR (ts σ) ρ (ρs s'):=by repeat' (first|with_unfolding_all exact trivial|exact LE.ren (by with_unfolding_all exact rfl)|with_unfolding_all exact LE.sl|with_unfolding_all exact LE.nil (by decide)|exact LE.bool (by first|assumption|(symm;assumption))|exact LE.int (by first|assumption|omega)|with_unfolding_all refine And.intro ⟨_,by with_unfolding_all exact rfl,?_⟩ ?_)) :
  TX C (Exit.then (NextC Cs ρs ηs I μ s) Q) .normal ρ η:=fun _ _ hA=>⟨s',⟨hI,hμ⟩,hs ▸ hA.sel C.hn hn hp ho hr⟩
end
end Go.V
namespace Go.V
open Go Go.W
structure Left (R:Prop):Prop where
 out:R
theorem go {R G:Prop} (k:R) (h:Left R→G:=by
  intro b
  repeat' (with_reducible first|refine OL.st ?_|refine OL.box ?_|refine OL.alloc ?_|refine OL.store ?_|refine OL.storeAgg ?_|refine OL.litV ?_|refine OL.litN ?_|refine OL.lit ?_|refine OL.lit0 ?_|refine OL.appO ?_|refine OL.app ?_|refine OL.makeMap ?_|refine OL.build ?_|refine TC.region ?_|refine TC.seq ?_|refine OL.nil ?_|refine TX.thenN ?_|refine TC.block ?_|refine TC.skip ?_|refine TX.blkN ?_|refine TC.exit ?_|refine TX.hit ?_|refine TX.thenX ?_|refine TX.miss ?_ rfl|refine TC.ifT ?_|refine TC.ifF ?_|refine OL.gOn ?_|refine OL.gOff ?_|refine OL.gUn ?_|refine OL.pkT ?_|refine OL.pkF ?_|refine TC.ifD ?_ ?_<;>(intro hc;try (exfalso;omega))|refine OL.gD ?_ ?_<;>(intro hc;try (exfalso;omega))|refine OL.pkD ?_ ?_<;>(intro hc;try (exfalso;omega))|refine TC.ret ?_|refine TX.thenR ?_|refine TX.blkR ?_|refine TC.scope ?_|refine TC.label ?_|refine TX.ngN ?_|refine TX.ngX ?_|refine TX.ngR ?_|refine TX.end_ ?_|fail)
  exact b.out):G:=h ⟨k⟩
theorem goW {R G:Prop} (k:R) (h:Left R→G:=by
  intro b
  repeat' (with_reducible first|refine OL.st ?_|refine OL.box ?_|refine OL.alloc ?_|refine OL.store ?_|refine OL.storeAgg ?_|refine OL.litV ?_|refine OL.litN ?_|refine OL.lit ?_|refine OL.lit0 ?_|refine OL.appO ?_|refine OL.app ?_|refine OL.makeMap ?_|refine OL.build ?_|refine TC.region ?_|refine TC.seq ?_|refine OL.nil ?_|refine TX.thenN ?_|refine TC.block ?_|refine TC.skip ?_|refine TX.blkN ?_|refine TC.exit ?_|refine TX.hit ?_|refine TX.thenX ?_|refine TX.miss ?_ rfl|refine TC.ifT ?_|refine TC.ifF ?_|refine OL.gOn ?_|refine OL.gOff ?_|refine OL.gUn ?_|refine OL.pkT ?_|refine OL.pkF ?_|refine TC.ifD ?_ ?_<;>(intro hc;try (exfalso;omega))|refine OL.gD ?_ ?_<;>(intro hc;try (exfalso;omega))|refine OL.pkD ?_ ?_<;>(intro hc;try (exfalso;omega))|refine TC.ret ?_|refine TX.thenR ?_|refine TX.blkR ?_|refine TC.scope ?_|refine TC.label ?_|refine TX.ngN ?_|refine TX.ngX ?_|refine TX.ngR ?_|refine TX.end_ ?_|refine OL.lenW ?_|refine OL.idxW ?_|refine OL.ldW ?_|refine OL.ldWA ?_|refine OL.storeW1 ?_|refine OL.ldM ?_|fail)
  exact b.out):G:=h ⟨k⟩
theorem goy {R G:Prop} (k:R) (h:Left R→G:=by
  intro b
  repeat' (with_reducible first|refine OL.st ?_|refine OL.box ?_|refine OL.alloc ?_|refine OL.store ?_|refine OL.storeAgg ?_|refine OL.litV ?_|refine OL.litN ?_|refine OL.lit ?_|refine OL.lit0 ?_|refine OL.appO ?_|refine OL.app ?_|refine OL.makeMap ?_|refine OL.build ?_|refine TC.region ?_|refine TC.seq ?_|refine OL.nil ?_|refine TX.thenN ?_|refine TC.block ?_|refine TC.skip ?_|refine TX.blkN ?_|refine TC.exit ?_|refine TX.hit ?_|refine TX.thenX ?_|refine TX.miss ?_ rfl|refine TC.ifT ?_|refine TC.ifF ?_|refine OL.gOn ?_|refine OL.gOff ?_|refine OL.gUn ?_|refine OL.pkT ?_|refine OL.pkF ?_|refine TC.ifD ?_ ?_<;>(intro hc;try (exfalso;omega))|refine OL.gD ?_ ?_<;>(intro hc;try (exfalso;omega))|refine OL.pkD ?_ ?_<;>(intro hc;try (exfalso;omega))|refine TC.ret ?_|refine TX.thenR ?_|refine TX.blkR ?_|refine TC.scope ?_|refine TC.label ?_|refine TX.ngN ?_|refine TX.ngX ?_|refine TX.ngR ?_|refine TX.end_ ?_|refine TX.thenW ?_|fail)
  exact b.out):G:=h ⟨k⟩
theorem goyW {R G:Prop} (k:R) (h:Left R→G:=by
  intro b
  repeat' (with_reducible first|refine OL.st ?_|refine OL.box ?_|refine OL.alloc ?_|refine OL.store ?_|refine OL.storeAgg ?_|refine OL.litV ?_|refine OL.litN ?_|refine OL.lit ?_|refine OL.lit0 ?_|refine OL.appO ?_|refine OL.app ?_|refine OL.makeMap ?_|refine OL.build ?_|refine TC.region ?_|refine TC.seq ?_|refine OL.nil ?_|refine TX.thenN ?_|refine TC.block ?_|refine TC.skip ?_|refine TX.blkN ?_|refine TC.exit ?_|refine TX.hit ?_|refine TX.thenX ?_|refine TX.miss ?_ rfl|refine TC.ifT ?_|refine TC.ifF ?_|refine OL.gOn ?_|refine OL.gOff ?_|refine OL.gUn ?_|refine OL.pkT ?_|refine OL.pkF ?_|refine TC.ifD ?_ ?_<;>(intro hc;try (exfalso;omega))|refine OL.gD ?_ ?_<;>(intro hc;try (exfalso;omega))|refine OL.pkD ?_ ?_<;>(intro hc;try (exfalso;omega))|refine TC.ret ?_|refine TX.thenR ?_|refine TX.blkR ?_|refine TC.scope ?_|refine TC.label ?_|refine TX.ngN ?_|refine TX.ngX ?_|refine TX.ngR ?_|refine TX.end_ ?_|refine TX.thenW ?_|refine OL.lenW ?_|refine OL.idxW ?_|refine OL.ldW ?_|refine OL.ldWA ?_|refine OL.storeW1 ?_|refine OL.ldM ?_|fail)
  exact b.out):G:=h ⟨k⟩
theorem goS {R S G:Prop} (k:R) (l:S) (h:Left R→Left S→G:=by
  intro b c
  repeat' (with_reducible first|refine OL.st ?_|refine OL.box ?_|refine OL.alloc ?_|refine OL.store ?_|refine OL.storeAgg ?_|refine OL.litV ?_|refine OL.litN ?_|refine OL.lit ?_|refine OL.lit0 ?_|refine OL.appO ?_|refine OL.app ?_|refine OL.makeMap ?_|refine OL.build ?_|refine TC.region ?_|refine TC.seq ?_|refine OL.nil ?_|refine TX.thenN ?_|refine TC.block ?_|refine TC.skip ?_|refine TX.blkN ?_|refine TC.exit ?_|refine TX.hit ?_|refine TX.thenX ?_|refine TX.miss ?_ rfl|refine TC.ifT ?_|refine TC.ifF ?_|refine OL.gOn ?_|refine OL.gOff ?_|refine OL.gUn ?_|refine OL.pkT ?_|refine OL.pkF ?_|(refine TC.ifD ?_ ?_;focus (intro hc;exfalso;omega);intro hc)|(refine TC.ifD ?_ ?_;rotate_left;focus (intro hc;exfalso;omega);intro hc)|refine TC.ifD ?_ ?_|(refine OL.gD ?_ ?_;focus (intro hc;exfalso;omega);intro hc)|(refine OL.gD ?_ ?_;rotate_left;focus (intro hc;exfalso;omega);intro hc)|refine OL.gD ?_ ?_|(refine OL.pkD ?_ ?_;focus (intro hc;exfalso;omega);intro hc)|(refine OL.pkD ?_ ?_;rotate_left;focus (intro hc;exfalso;omega);intro hc)|refine OL.pkD ?_ ?_|refine TC.ret ?_|refine TX.thenR ?_|refine TX.blkR ?_|refine TC.scope ?_|refine TC.label ?_|refine TX.ngN ?_|refine TX.ngX ?_|refine TX.ngR ?_|refine TX.end_ ?_|fail)
  focus exact b.out
  exact c.out):G:=h ⟨k⟩ ⟨l⟩
theorem goSW {R S G:Prop} (k:R) (l:S) (h:Left R→Left S→G:=by
  intro b c
  repeat' (with_reducible first|refine OL.st ?_|refine OL.box ?_|refine OL.alloc ?_|refine OL.store ?_|refine OL.storeAgg ?_|refine OL.litV ?_|refine OL.litN ?_|refine OL.lit ?_|refine OL.lit0 ?_|refine OL.appO ?_|refine OL.app ?_|refine OL.makeMap ?_|refine OL.build ?_|refine TC.region ?_|refine TC.seq ?_|refine OL.nil ?_|refine TX.thenN ?_|refine TC.block ?_|refine TC.skip ?_|refine TX.blkN ?_|refine TC.exit ?_|refine TX.hit ?_|refine TX.thenX ?_|refine TX.miss ?_ rfl|refine TC.ifT ?_|refine TC.ifF ?_|refine OL.gOn ?_|refine OL.gOff ?_|refine OL.gUn ?_|refine OL.pkT ?_|refine OL.pkF ?_|(refine TC.ifD ?_ ?_;focus (intro hc;exfalso;omega);intro hc)|(refine TC.ifD ?_ ?_;rotate_left;focus (intro hc;exfalso;omega);intro hc)|refine TC.ifD ?_ ?_|(refine OL.gD ?_ ?_;focus (intro hc;exfalso;omega);intro hc)|(refine OL.gD ?_ ?_;rotate_left;focus (intro hc;exfalso;omega);intro hc)|refine OL.gD ?_ ?_|(refine OL.pkD ?_ ?_;focus (intro hc;exfalso;omega);intro hc)|(refine OL.pkD ?_ ?_;rotate_left;focus (intro hc;exfalso;omega);intro hc)|refine OL.pkD ?_ ?_|refine TC.ret ?_|refine TX.thenR ?_|refine TX.blkR ?_|refine TC.scope ?_|refine TC.label ?_|refine TX.ngN ?_|refine TX.ngX ?_|refine TX.ngR ?_|refine TX.end_ ?_|refine OL.lenW ?_|refine OL.idxW ?_|refine OL.ldW ?_|refine OL.ldWA ?_|refine OL.storeW1 ?_|refine OL.ldM ?_|fail)
  focus exact b.out
  exact c.out):G:=h ⟨k⟩ ⟨l⟩
end Go.V
namespace Go.W
def fidx {α:Type} (p:α→Bool):Nat→List α→Int
 | _,[]=>-1
 | k,x::r=>if p x then (k:Int) else fidx p (k+1) r
theorem fidx_nonneg {α:Type} (p:α→Bool):∀ (l:List α) (k:Nat),0≤fidx p k l↔l.any p=true
 | [],k=>by simp [fidx]
 | x::r,k=>by
   by_cases h:p x=true
   ·simp [fidx,h]
   ·simp [fidx,h,fidx_nonneg p r (k+1)]
theorem drop_cons {α:Type} {l:List α} {k:Nat} (h:k < l.length):l.drop k=l[k]::l.drop (k+1):=List.drop_eq_getElem_cons h
theorem drop_nil {α:Type} {l:List α} {k:Nat} (h:l.length≤k):l.drop k=[]:=List.drop_of_length_le h
theorem take_succ {α:Type} {l:List α} {k:Nat} (h:k < l.length):l.take (k+1)=l.take k++[l[k]]:=List.take_succ_eq_append_getElem h
theorem take_all {α:Type} {l:List α} {k:Nat} (h:l.length≤k):l.take k=l:=List.take_of_length_le h
theorem filter_take_t {α:Type} {l:List α} {k:Nat} {p:α→Bool} (h:k < l.length) (hp:p l[k]=true):(l.take (k+1)).filter p=(l.take k).filter p++[l[k]]:=by
 rw [take_succ h,List.filter_append,List.filter_cons,if_pos hp,List.filter_nil]
theorem filter_take_f {α:Type} {l:List α} {k:Nat} {p:α→Bool} (h:k < l.length) (hp:p l[k]=false):(l.take (k+1)).filter p=(l.take k).filter p:=by
 rw [take_succ h,List.filter_append,List.filter_cons,if_neg (by simp [hp]),List.filter_nil,List.append_nil]
theorem getD_lt {α:Type} {l:List α} {k:Nat} {d:α} (h:k < l.length):l.getD k d=l[k]:=by
 rw [List.getD_eq_getElem?_getD,List.getElem?_eq_getElem h];rfl
theorem any_beq_contains (l:List Int) (n:Int):(l.any fun x=>n==x)=l.contains n:=by
 rw [Bool.eq_iff_iff]
 simp [List.any_eq_true]
/-! ### Formed graphs -/
def okRow (i:Nat):List Int→List Int→Bool
 | _,[]=>true
 | pre,c::r=>(decide (3≤c)&&decide (c < 3+i)&&!pre.contains c)&&okRow i (pre++[c]) r
def okRows:Nat→List (List Int)→Bool
 | _,[]=>true
 | i,l::r=>(decide (l.length≤3)&&okRow i [] l)&&okRows (i+1) r
def fine (g:List (List Int)):Bool:=decide (g.length≤16)&&okRows 0 g
end Go.W
