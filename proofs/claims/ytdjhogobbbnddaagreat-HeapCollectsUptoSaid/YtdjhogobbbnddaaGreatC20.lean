/- Lemmas for the claim; no conditions. -/
import Derived.Test.YtdjhogobbbnddaaGreatC18
import Derived.Test.YtdjhogobbbnddaaGreatC15
import Derived.Test.YtdjhogobbbnddaaGreatC19
import Derived.Test.YtdjhogobbbnddaaGreatC14
import Derived.Test.YtdjhogobbbnddaaGreatC16
namespace Go.V
open Go Go.W Go.RowKit
structure StepO (B0:Nat) (S0 S:List Nat) (m:Nat→Nat) (w:World) (m':Nat→Nat) (w':World):Prop where
 os:w'.os=w.os
 tape:w'.tape=w.tape
 output:w'.output=w.output
 size:w.heap.size≤w'.heap.size
 ext:Ext m w m' w'
 same:∀ b,b < w.heap.size→b ∉ S0→(b < B0∨b∈S)→w'.heap[b]?=w.heap[b]?∧m' b=m b
theorem Yam.toO {B0 m w m' w'} (h:Yam B0 m w m' w') {S0 S:List Nat} (hS:∀ b∈S,∀ ob,w.heap[b]?=some ob→Ym5 ob=false):StepO B0 S0 S m w m' w':=by
 obtain ⟨T,hf,hT⟩:=h.far;refine ⟨hf.os,hf.tape,hf.output,hf.size,hf.ext,fun b hb _ hc=>?_⟩;have hn:b ∉ T:=fun hm=>by
  obtain ⟨h1,ob,h2,h3⟩:=hT b hm;rcases hc with hc|hc
  ·omega
  ·rw [hS b hc ob h2] at h3;cases h3
 exact ⟨hf.block b hb hn,hf.lim b hb hn⟩
theorem StepO.far {B0 S0 S m w m' w'} (h:StepO B0 S0 S m w m' w'):∃ T:List Nat,Far T m w m' w'∧∀ b∈T,b∈S0∨(B0≤b∧b ∉ S):=by
 refine ⟨(List.range w.heap.size).filter fun b=>decide (b∈S0∨¬ (b < B0∨b∈S)),⟨h.os,h.tape,h.output,h.size,fun b hb hn=>?_,fun b hb hn=>?_,h.ext⟩,fun b hb=>?_⟩
 ·have hn':¬ (b∈S0∨¬ (b < B0∨b∈S)):=fun hc=>hn (List.mem_filter.2 ⟨List.mem_range.2 hb,by simpa using hc⟩)
  exact (h.same b hb (fun h=>hn' (.inl h)) (Classical.byContradiction fun h=>hn' (.inr h))).1
 ·have hn':¬ (b∈S0∨¬ (b < B0∨b∈S)):=fun hc=>hn (List.mem_filter.2 ⟨List.mem_range.2 hb,by simpa using hc⟩)
  exact (h.same b hb (fun h=>hn' (.inl h)) (Classical.byContradiction fun h=>hn' (.inr h))).2
 ·have:=(List.mem_filter.1 hb).2
  rw [decide_eq_true_eq] at this;rcases this with h|h
  ·exact .inl h
  ·exact .inr ⟨by rcases Nat.lt_or_ge b B0 with q|q;exact (h (.inl q)).elim;exact q,fun q=>h (.inr q)⟩
theorem Heap.lt {m w γ η} (h:Heap m w γ η):∀ b∈Ybl γ η,b < w.heap.size:=fun b hb=>by
 obtain ⟨i,v,o,h1,h2,h3⟩:=Yap.1 hb;exact (h.ok i v o h1 h2).lt h3
theorem Heap.notLD {m w γ η} (h:Heap m w γ η):∀ b∈Ybl γ η,∀ ob,w.heap[b]?=some ob→Ym5 ob=false:=fun b hb ob ho=>by
 obtain ⟨i,v,o,h1,h2,h3⟩:=Yap.1 hb;exact (h.ok i v o h1 h2).notLD h3 ho
theorem Heap.far {m w γ η T m' w'} (h:Heap m w γ η) (hf:Far T m w m' w') (hn:∀ b∈Ybl γ η,b ∉ T):Heap m' w' γ η:=
 ⟨h.len,fun i v o a b=>(h.ok i v o a b).far hf (fun c hc=>hn c (Yap.2 ⟨i,v,o,a,b,hc⟩)) (.refl _),h.apart⟩
theorem Heap.step {B0 m w γ η m' w'} (h:Heap m w γ η) (hs:Yam B0 m w m' w'):Heap m' w' γ η:=by
 obtain ⟨T,hf,hT⟩:=hs.far;refine h.far hf fun b hb hm=>?_;obtain ⟨_,ob,h2,h3⟩:=hT b hm;rw [h.notLD b hb ob h2] at h3;cases h3
def Yu6 (P:Program) (l:Nat) (vs:List Value) (m:Nat→Nat) (W:World) (S:List Nat) (K1 Kp:(Nat→Nat)→World→List Nat→Prop) (pv:Value):Prop:=
 YieldAt Fence.wide 0 P l vs.toArray W fun e W'=>∃ m' S',Far S m W m' W'∧(∀ b∈S',b∈S∨W.heap.size≤b)∧((e=.returned (.bool true)∧K1 m' W' S')∨(e=.panicked (pan pv)∧Kp m' W' S'))
structure ItO (P:Program) {α:Type} (as:α→List AV) (pv:Value) (L:List α) (γ0:List Value) (η0:Eta) where
 l:Nat
 B0:Nat
 J:List α→(Nat→Nat)→World→List Nat→Prop
 Jp:(Nat→Nat)→World→List Nat→Prop
 heap:∀ pre m w S,J pre m w S→Heap m w γ0 η0∧(∀ b∈Ybl γ0 η0,b∈S)∧(∀ b∈S,b < w.heap.size)∧B0≤w.heap.size
 stay:∀ pre m w S m' w',J pre m w S→StepO B0 (Ybl γ0 η0) S m w m' w'→Heap m' w' γ0 η0→J pre m' w' S
 hy:∀ pre x m1 W1 S vs,J pre m1 W1 S→(∃ r,pre++x::r=L)→VL m1 W1 [] vs (as x)→Yu6 P l vs m1 W1 S (J (pre++[x])) Jp pv
section
variable {P:Program} {α:Type} {as:α→List AV} {pv:Value} {L:List α} {γ0:List Value} {η0:Eta}
def Yv0 (I:ItO P as pv L γ0 η0) (m0:Nat→Nat) (W0:World):Ending→World→Prop:=fun e W' =>
 ∃ m' S',Ext m0 W0 m' W'∧((∃ v,e=.returned v∧I.J L m' W' S')∨(e=.panicked (pan pv)∧I.Jp m' W' S'))
def Yqf (P:Program) (f:Nat) {α:Type} (as:α→List AV) (pv:Value) (L:List α) (η0:Eta) (first caps:List AV):Prop:=
 ∀ γ0 (I:ItO P as pv L γ0 η0) m w S fv cv,I.J [] m w S→VL m w γ0 fv first→VL m w γ0 cv caps→Calls P f (fv++.func (.yield I.l) #[] #[]::cv).toArray w (Yv0 I m w)
end
set_option maxHeartbeats 1000000 in
theorem Yth {P:Program} {α:Type} {as:α→List AV} {pv:Value} {L:List α} {g:Operand} {t d T rid:Nat} {pos:String} {af:Array Edge} {body:Code} {Q:Exit→Act→World→Prop} {a:Act} {w:World} {m:Nat→Nat} {gf f0:Nat} {fv cv:List Value} {first caps:List AV} {fn fn0:Func} {γ0:List Value} {η0:Eta}
  (hf0 : P.funcs[f0]? = some fn0) (hg : a.eval g = .func (.func gf) fv.toArray cv.toArray) (hf : P.funcs[gf]? = some fn) (hb : (fn.body.isNone || fn.name == "runtime.NumGoroutine") = false) (hseq : Yqf P gf as pv L η0 first caps) (hv1 : VL m w γ0 fv first) (hv2 : VL m w γ0 cv caps)
  (J:List α→(Nat→Nat)→World→List Nat→Prop) (Jp:(Nat→Nat)→World→List Nat→Prop)
  (hJ:∀ pre m W S,J pre m W S→Heap m W γ0 η0∧(∀ b∈Ybl γ0 η0,b∈S)∧(∀ b∈S,b < W.heap.size)∧∀ b∈S,∀ ob,W.heap[b]?=some ob→Ym5 ob=false)
  (hJs:∀ pre m W S m' W',J pre m W S→StepO w.heap.size (Ybl γ0 η0) S m W m' W'→Heap m' W' γ0 η0→J pre m' W' S) (S0:List Nat) (h0:J [] m w S0)
  (has:∀ x,(as x).length=1)
  (hround:∀ l pre x m1 W1 S v,w.heap.size≤l→J pre m1 W1 S→(∃ r,pre++x::r=L)→VL m1 W1 [] [v] (as x)→Ext m w m1 W1 →
   body.wpIn (WF (some l)) 0 P (fun e a3 w3=>∃ m3 S3,Far S m1 W1 m3 w3∧(∀ b∈S3,b∈S∨W1.heap.size≤b)∧((e=.normal∧J (pre++[x]) m3 w3 S3)∨(e=.panic (pan pv)∧a3.defers=[]∧Jp m3 w3 S3)))
    (({ tmps:=a.tmps.setIfInBounds t v,defers:=[] }:Act).put (some d) (({ tmps:=a.tmps.setIfInBounds t v,defers:=[] }:Act).eval (.tmp t))) W1)
  (hdone:∀ m' W' S',Ext m w m' W'→J L m' W' S'→W'.heap[w.heap.size]?=some (.deferred (some []))→Q .normal { a with defers:=YbD w.heap.size::a.defers } W')
  (hpanic:∀ m' W' S',Ext m w m' W'→Jp m' W' S'→W'.heap[w.heap.size]?=some (.deferred (some []))→Q (.panic (pan pv)) { a with defers:=YbD w.heap.size::a.defers } W') :
  wpF P f0 (Code.rangeFunc g #[t] (.region rid #[⟨some d,.assign (.tmp t),T,pos,af,none⟩] false) body) Q a w:=by
 have hb':=hb;simp at hb';have hbn:fn.body≠none:=Option.isSome_iff_ne_none.1 hb'.1;have eg:∀ args w,(callFunc gf args).run P w=.ok (.enter gf args) w:=fun args w=>by simp [callFunc,hf,hb'.2,hbn]
 refine Ye9 ?_;obtain ⟨rec,hrec⟩:∃ rec:LoopState→Option Code→Loop,rec=fun st pe=>{ state:=st,pending:=pe,fn:=f0,tmps:=a.tmps,params:=#[t],assign:=(.region rid #[⟨some d,.assign (.tmp t),T,pos,af,none⟩] false),body,defers:=w.heap.size }:=⟨_,rfl⟩
 obtain ⟨W1,hW1⟩:∃ W1,(w.alloc (.deferred (some []))).alloc (.loop (rec .ready none))=W1:=⟨_,rfl⟩;have hL1:W1.heap[w.heap.size+1]?=some (.loop (rec .ready none)):=by
  rw [← hW1];have:=World.alloc_heap_new (w.alloc (.deferred (some []))) (.loop (rec .ready none));rwa [World.size_alloc] at this
 have hK1:W1.heap[w.heap.size]?=some (.deferred (some [])):=by
  rw [← hW1];exact (Below.heap_alloc _ _ _ (by simp)).trans (World.alloc_heap_new w _)
 have hz1:W1.heap.size=w.heap.size+2:=by rw [← hW1];simp
 have hkp:Keep m w m W1:=by
  rw [← hW1];exact ⟨⟨rfl,rfl,rfl,by simp;omega,fun b hb _=>((World.grownBy_alloc _ _ none).block b (by simp;omega) (by simp)).trans ((World.grownBy_alloc w _ none).block b hb (by simp))⟩,fun _ _=>rfl⟩
 obtain ⟨mS,hmS⟩:∃ mS,mS=m:=⟨_,rfl⟩;have hstep:∀ {pre m W S m' W'},J pre m W S→Yam w.heap.size m W m' W'→J pre m' W' S:=fun h hs =>
  hJs _ _ _ _ _ _ h (hs.toO (hJ _ _ _ _ h).2.2.2) ((hJ _ _ _ _ h).1.step hs)
 have hI1:J [] m W1 S0:=hstep h0 (.keep hkp);let I:ItO P as pv L γ0 η0:={
  l:=w.heap.size+1
  B0:=w.heap.size
  J:=fun pre m W S=>∃ S1,S=S1++[w.heap.size,w.heap.size+1]∧J pre m W S1∧Ext mS w m W∧W.heap[w.heap.size+1]?=some (.loop (rec .ready none))∧W.heap[w.heap.size]?=some (.deferred (some []))
  Jp:=fun m W S=>∃ S1,S=S1++[w.heap.size,w.heap.size+1]∧Jp m W S1∧Ext mS w m W∧W.heap[w.heap.size]?=some (.deferred (some []))
  heap:=by
   rintro pre m W S ⟨S1,rfl,h1,h2,h3,h4⟩;obtain ⟨a1,a2,a3,a4⟩:=hJ _ _ _ _ h1;have hl:=(Array.getElem?_eq_some_iff.1 h3).1;exact ⟨a1,fun b hb=>List.mem_append_left _ (a2 b hb),fun b hb=>by rcases List.mem_append.1 hb with h|h;exact a3 b h;simp at h;omega,by omega⟩
  stay:=by
   rintro pre m W S m' W' ⟨S1,rfl,h1,h2,h3,h4⟩ hs hh;obtain ⟨a1,a2,a3,a4⟩:=hJ _ _ _ _ h1;have hl:=(Array.getElem?_eq_some_iff.1 h3).1;have hn:∀ b,(∃ ob,W.heap[b]?=some ob∧Ym5 ob=true)→b ∉ Ybl γ0 η0:=fun b ⟨ob,q1,q2⟩ hm=>by rw [a1.notLD b hm ob q1] at q2;cases q2
   have hs1:StepO w.heap.size (Ybl γ0 η0) S1 m W m' W':=⟨hs.os,hs.tape,hs.output,hs.size,hs.ext,fun b hb hn hc=>hs.same b hb hn (hc.imp id fun h=>List.mem_append_left _ h)⟩;exact ⟨S1,rfl,hJs _ _ _ _ _ _ h1 hs1 hh,h2.trans hs.ext,(hs.same _ hl (hn _ ⟨_,h3,rfl⟩) (.inr (by simp))).1.trans h3,(hs.same _ (by omega) (hn _ ⟨_,h4,rfl⟩) (.inr (by simp))).1.trans h4⟩
  hy:=by
   rintro pre x m1 W S vs ⟨S1,rfl,hi,he,hl,hk⟩ hpre hv;have hlt:w.heap.size+1 < W.heap.size:=(Array.getElem?_eq_some_iff.1 hl).1;obtain ⟨v,rfl⟩:∃ v,vs=[v]:=by
    have:=hv.len
    rw [has] at this;match vs,this with
    | [v],_=>exact ⟨v,rfl⟩
   have hy:=run_yield (P:=P) (args:=#[v]) hl (by rw [hrec];rfl);rw [hrec] at hy;dsimp only at hy;have ez:Array.foldl (fun (tmps:Array Value) (x:Tmp × Value)=>match x with|(t,a)=>tmps.setIfInBounds t a) a.tmps ((#[t]:Array Tmp).zip #[v])=a.tmps.setIfInBounds t v:=by simp
   rw [ez] at hy;refine ⟨f0,_,_,body,hy,Yeq hf0 ?_⟩;refine wpIn_region_lit (l:=[⟨some d,.assign (.tmp t),T,pos,af,none⟩]) ?_;refine Go.W.i_lcons (r:=some (w.heap.size+1)) (Go.W.wl_value (v:=_) (w':=W) rfl (by simp [execOp];rfl) ?_);refine ⟨_,run_beginRound hl (by rw [hrec]),?_⟩;have hl2:(W.putObj (w.heap.size+1) (.loop { rec .ready none with state:=.busy })).heap[w.heap.size+1]?=some (.loop { rec .ready none with state:=.busy }):=World.putObj_heap_same hlt;have hk2:(W.putObj (w.heap.size+1) (.loop { rec .ready none with state:=.busy })).heap[w.heap.size]?=some (.deferred (some [])):=(World.putObj_heap_other (by omega)).trans hk;have hs2:Yam w.heap.size m1 W m1 (W.putObj (w.heap.size+1) (.loop { rec .ready none with state:=.busy })):=.put hl rfl (by omega);have hfar2:Far [w.heap.size+1] m1 W m1 (W.putObj (w.heap.size+1) (.loop { rec .ready none with state:=.busy })):=by
    obtain ⟨T,hf,hT⟩:=hs2.far;exact ⟨hf.os,hf.tape,hf.output,hf.size,fun b _ hn=>World.putObj_heap_other (by simpa using hn),fun _ _ _=>rfl,hf.ext⟩
   have hsz2:(W.putObj (w.heap.size+1) (.loop { rec .ready none with state:=.busy })).heap.size=W.heap.size:=by simp [World.putObj]
   generalize hW2:W.putObj (w.heap.size+1) (.loop { rec .ready none with state:=.busy })=W2 at *
   have hi2:=hstep hi hs2;obtain ⟨_,_,a3,a4⟩:=hJ _ _ _ _ hi2;have hv2:VL m1 W2 [] [v] (as x):=hv.mono hs2.ext (.refl _);have hlS:w.heap.size+1 ∉ S1:=fun hm=>by have:=a4 _ hm _ hl2;cases this
   have hkS:w.heap.size ∉ S1:=fun hm=>by have:=a4 _ hm _ hk2;cases this
   refine wpIn_mono (hround (w.heap.size+1) pre x m1 W2 S1 v (by omega) hi2 hpre hv2 (hmS ▸ he.trans hs2.ext)) ?_;rintro e a3 W3 ⟨m3,S3,hf3,hS3,hp⟩;have hl3:=(hf3.block _ (by omega) hlS).trans hl2;have hk3:=(hf3.block _ (by omega) hkS).trans hk2;have hfar3:Far (S1++[w.heap.size,w.heap.size+1]) m1 W m3 W3:=(hfar2.sub (S':=S1++[w.heap.size,w.heap.size+1]) (fun b hb=>by simp at hb;simp [hb])).trans hf3 (fun b hb=>.inl (List.mem_append_left _ hb));rcases hp with ⟨rfl,hi3⟩|⟨rfl,hd,hp3⟩
   ·have hr:(Instr.endRound (w.heap.size+1) none).run P W3=.ok (.bool true) (W3.putObj (w.heap.size+1) (.loop (rec .ready none))):=by
     have:=run_endRound (P:=P) none hl3
     rw [hrec] at this ⊢;exact this
    have hs3:Yam w.heap.size m3 W3 m3 (W3.putObj (w.heap.size+1) (.loop (rec .ready none))):=.put hl3 rfl (by omega);have hlt3:=(Array.getElem?_eq_some_iff.1 hl3).1;have hfar4:Far [w.heap.size+1] m3 W3 m3 (W3.putObj (w.heap.size+1) (.loop (rec .ready none))):=by
     obtain ⟨T,hf,hT⟩:=hs3.far;exact ⟨hf.os,hf.tape,hf.output,hf.size,fun b _ hn=>World.putObj_heap_other (by simpa using hn),fun _ _ _=>rfl,hf.ext⟩
    refine ⟨_,_,hr,m3,S3++[w.heap.size,w.heap.size+1],?_,?_,.inl ⟨rfl,S3,rfl,hstep hi3 hs3,(he.trans hs2.ext).trans (hf3.ext.trans hs3.ext),World.putObj_heap_same hlt3,(World.putObj_heap_other (by omega)).trans hk3⟩⟩
    ·exact hfar3.trans hfar4 (fun b hb=>.inl (by simp at hb;simp [hb]))
    ·intro b hb;rcases List.mem_append.1 hb with h|h
     ·rcases hS3 b h with q|q
      ·exact .inl (List.mem_append_left _ q)
      ·exact .inr (by omega)
     ·exact .inl (List.mem_append_right _ h)
   ·refine ⟨hd,m3,S3++[w.heap.size,w.heap.size+1],hfar3,?_,.inr ⟨rfl,S3,rfl,hp3,(he.trans hs2.ext).trans hf3.ext,hk3⟩⟩;intro b hb;rcases List.mem_append.1 hb with h|h
    ·rcases hS3 b h with q|q
     ·exact .inl (List.mem_append_left _ q)
     ·exact .inr (by omega)
    ·exact .inl (List.mem_append_right _ h) }
 refine ⟨w.heap.size+1,[YbD w.heap.size],W1,{ target:=.fn (.func gf) cv.toArray,args:=fv.toArray.push (.func (.yield (w.heap.size+1)) #[] #[]) },W1,gf,
  (fv++.func (.yield (w.heap.size+1)) #[] #[]::cv).toArray,W1,?_,?_,?_,?_⟩
 ·rw [← hW1,hrec];exact run_enterLoop_outer _ _ _ _ _
 ·simp only [resolve,hg];simp [go_sem]
 ·simp [invoke,go_sem,eg]
 ·refine (hseq γ0 I m W1 (S0++[w.heap.size,w.heap.size+1]) fv cv ⟨S0,rfl,hI1,hmS ▸ hkp.ext,hL1,hK1⟩ (hv1.mono hkp.ext (.refl _)) (hv2.mono hkp.ext (.refl _))).mono ?_;rintro e W2 ⟨m2,S2,he2,(⟨v,rfl,S3,_,hi,he,hl,hk⟩|⟨rfl,S3,_,hi,he,hk⟩)⟩
  ·have hr:=run_endLoop (P:=P) hl (by rw [hrec];simp);have hs3:Yam w.heap.size m2 W2 m2 (W2.putObj (w.heap.size+1) (.loop { rec .ready none with state:=.exhausted })):=.put hl rfl (by omega);refine ⟨_,by rw [hrec] at hr ⊢;exact hr,hdone m2 _ S3 (hmS ▸ he.trans hs3.ext) (hstep hi hs3) ((World.putObj_heap_other (by omega)).trans hk)⟩
  ·exact hpanic m2 _ S3 (hmS ▸ he) hi hk
set_option maxHeartbeats 1000000 in
theorem YsZ {P:Program} {α:Type} {as:α→List AV} {L:List α} {g:Operand} {t1 t2 d2 T2 rid2 k:Nat} {pos2:String} {af2:Array Edge} {body:Code} {Q:Exit→Act→World→Prop} {a:Act} {w:World} {m:Nat→Nat} {gf:Nat} {lb:Array Value} {fn:Func}
  (hg : a.eval g = .func (.func gf) #[] lb) (hf : P.funcs[gf]? = some fn) (hb : (fn.body.isNone || fn.name == "runtime.NumGoroutine") = false) (hseq : Yox P gf lb as L m w)
  (E0:Nat→Prop) (hE0:∀ b,E0 b→b < w.heap.size) (I Ix:List α→(Nat→Nat)→World→Prop) (hI:Ydt w.heap.size I) (hIx:Ydt w.heap.size Ix) (h0:I [] m w)
  (has:∀ x,(as x).length=2)
  (hround:∀ l pre x m1 W1 v1 v2,w.heap.size≤l→I pre m1 W1→(∃ r,pre++x::r=L)→VL m1 W1 [] [v1,v2] (as x)→Ext m w m1 W1 →
   body.wpIn (WF (some l)) 0 P (Ysz E0 I Ix (pre++[x]) m1 W1) (({ tmps:=(a.tmps.setIfInBounds t1 v1).setIfInBounds t2 v2,defers:=[] }:Act).put (some d2) (({ tmps:=(a.tmps.setIfInBounds t1 v1).setIfInBounds t2 v2,defers:=[] }:Act).eval (.tmp t2))) W1)
  (hdone:∀ m' W',Ext m w m' W'→I L m' W'→W'.heap[w.heap.size]?=some (.deferred (some []))→Q .normal { a with defers:=YbD w.heap.size::a.defers } W')
  (hstop:∀ pre m' W',Ext m w m' W'→Ix pre m' W'→W'.heap[w.heap.size]?=some (.deferred (some []))→Q .ret { a with defers:=YbD w.heap.size::a.defers } W') :
  (Code.rangeFunc g #[t1,t2] (Code.region rid2 #[⟨some d2,.assign (.tmp t2),T2,pos2,af2,none⟩] false) body).wpIn Fence.wide k P Q a w:=by
 have hb':=hb;simp at hb';have hbn:fn.body≠none:=Option.isSome_iff_ne_none.1 hb'.1;have eg:∀ args w,(callFunc gf args).run P w=.ok (.enter gf args) w:=fun args w=>by simp [callFunc,hf,hb'.2,hbn]
 refine wpIn_rangeFunc ?_;intro fn' hfn';have hround':(Fence.wide).round=none:=rfl;rw [hround'];obtain ⟨rec,hrec⟩:∃ rec:LoopState→Option Code→Loop,rec=fun st pe=>{ state:=st,pending:=pe,fn:=fn',tmps:=a.tmps,params:=#[t1,t2],assign:=(Code.region rid2 #[⟨some d2,.assign (.tmp t2),T2,pos2,af2,none⟩] false),body,defers:=w.heap.size }:=⟨_,rfl⟩
 obtain ⟨W1,hW1⟩:∃ W1,(w.alloc (.deferred (some []))).alloc (.loop (rec .ready none))=W1:=⟨_,rfl⟩;have hL1:W1.heap[w.heap.size+1]?=some (.loop (rec .ready none)):=by
  rw [← hW1];have:=World.alloc_heap_new (w.alloc (.deferred (some []))) (.loop (rec .ready none));rwa [World.size_alloc] at this
 have hK1:W1.heap[w.heap.size]?=some (.deferred (some [])):=by
  rw [← hW1];exact (Below.heap_alloc _ _ _ (by simp)).trans (World.alloc_heap_new w _)
 have hz1:W1.heap.size=w.heap.size+2:=by rw [← hW1];simp
 have hkp:Keep m w m W1:=by
  rw [← hW1];exact ⟨⟨rfl,rfl,rfl,by simp;omega,fun b hb _=>((World.grownBy_alloc _ _ none).block b (by simp;omega) (by simp)).trans ((World.grownBy_alloc w _ none).block b hb (by simp))⟩,fun _ _=>rfl⟩
 obtain ⟨mS,hmS⟩:∃ mS,mS=m:=⟨_,rfl⟩;have hI1:I [] m W1:=hI _ _ _ _ _ h0 (.keep hkp);refine ⟨w.heap.size+1,[YbD w.heap.size],W1,{ target:=.fn (.func gf) lb,args:=#[.func (.yield (w.heap.size+1)) #[] #[]] },W1,gf,
  #[.func (.yield (w.heap.size+1)) #[] #[]]++lb,W1,?_,?_,?_,?_,fun h=>(by cases h),callsIn_wide.2 ?_⟩
 ·rw [← hW1,hrec];exact run_enterLoop_outer _ _ _ _ _
 ·simp only [resolve,hg];simp [go_sem]
 ·intro f' hf';trivial
 ·simp [invoke,go_sem,eg]
 ·refine (hseq (w.heap.size+1) (fun b=>E0 b∨b=w.heap.size+1)
   (fun pre m W=>I pre m W∧Ext mS w m W∧W.heap[w.heap.size+1]?=some (.loop (rec .ready none))∧W.heap[w.heap.size]?=some (.deferred (some [])))
   (fun pre m W=>Ix pre m W∧Ext mS w m W∧W.heap[w.heap.size+1]?=some (.loop (rec .done (some .ret)))∧W.heap[w.heap.size]?=some (.deferred (some [])))
   m W1 hkp.ext (.inr rfl) (fun b hb=>hb.elim (fun h=>by have:=hE0 b h;omega) (fun h=>by omega)) ?_ ?_ ?_ ⟨hI1,hmS ▸ hkp.ext,hL1,hK1⟩).mono ?_
  ·rintro pre m1 W m2 W' ⟨h1,h2,h3,h4⟩ hs;refine ⟨(hI.le (by omega)) _ _ _ _ _ h1 hs,h2.trans hs.ext,?_,?_⟩;all_goals
    obtain ⟨row,hgr,hr,_⟩:=hs;first
    | exact (hgr.block _ (Array.getElem?_eq_some_iff.1 h3).1 (fun e=>by have:=(hr _ e.symm).1;omega)).trans h3
    | exact (hgr.block _ (Array.getElem?_eq_some_iff.1 h4).1 (fun e=>by have:=(hr _ e.symm).1;omega)).trans h4
  ·rintro pre m1 W m2 W' ⟨h1,h2,h3,h4⟩ hs;refine ⟨(hIx.le (by omega)) _ _ _ _ _ h1 hs,h2.trans hs.ext,?_,?_⟩;all_goals
    obtain ⟨row,hgr,hr,_⟩:=hs;first
    | exact (hgr.block _ (Array.getElem?_eq_some_iff.1 h3).1 (fun e=>by have:=(hr _ e.symm).1;omega)).trans h3
    | exact (hgr.block _ (Array.getElem?_eq_some_iff.1 h4).1 (fun e=>by have:=(hr _ e.symm).1;omega)).trans h4
  ·-- one round
   rintro pre x m1 W vs ⟨hi,he,hl,hk⟩ hpre hv;have hlt:w.heap.size+1 < W.heap.size:=(Array.getElem?_eq_some_iff.1 hl).1;obtain ⟨v1,v2,rfl⟩:∃ v1 v2,vs=[v1,v2]:=by
    have:=hv.len
    rw [has] at this;match vs,this with
    | [v1,v2],_=>exact ⟨v1,v2,rfl⟩
   have hy:=run_yield (P:=P) (args:=#[v1,v2]) hl (by rw [hrec];rfl);rw [hrec] at hy;dsimp only at hy;have ez:Array.foldl (fun (tmps:Array Value) (x:Tmp × Value)=>match x with|(t,a)=>tmps.setIfInBounds t a) a.tmps ((#[t1,t2]:Array Tmp).zip #[v1,v2])=(a.tmps.setIfInBounds t1 v1).setIfInBounds t2 v2:=by simp
   rw [ez] at hy;refine ⟨fn',_,_,body,hy,roundIn_of_wpIn hfn' ?_⟩;refine wpIn_region_lit (l:=[⟨some d2,.assign (.tmp t2),T2,pos2,af2,none⟩]) ?_;refine Go.W.i_lcons (r:=some (w.heap.size+1)) (Go.W.wl_value (v:=_) (w':=W) rfl (by simp [execOp];rfl) ?_);refine ⟨_,run_beginRound hl (by rw [hrec]),?_⟩;have hl2:(W.putObj (w.heap.size+1) (.loop { rec .ready none with state:=.busy })).heap[w.heap.size+1]?=some (.loop { rec .ready none with state:=.busy }):=World.putObj_heap_same hlt;have hk2:(W.putObj (w.heap.size+1) (.loop { rec .ready none with state:=.busy })).heap[w.heap.size]?=some (.deferred (some [])):=(World.putObj_heap_other (by omega)).trans hk;have hs2:Yam w.heap.size m1 W m1 (W.putObj (w.heap.size+1) (.loop { rec .ready none with state:=.busy })):=.put hl rfl (by omega);have hkl2:∀ b o,b≠w.heap.size+1→W.heap[b]?=some o→(W.putObj (w.heap.size+1) (.loop { rec .ready none with state:=.busy })).heap[b]?=some o:=fun b o hb ho=>(World.putObj_heap_other hb).trans ho
   generalize hW2:W.putObj (w.heap.size+1) (.loop { rec .ready none with state:=.busy })=W2 at *
   have hv2:VL m1 W2 [] [v1,v2] (as x):=hv.mono hs2.ext (.refl _);refine wpIn_mono (hround (w.heap.size+1) pre x m1 W2 v1 v2 (by omega) (hI _ _ _ _ _ hi hs2) hpre hv2 (hmS ▸ he.trans hs2.ext)) ?_;rintro e a3 W3 hp
   cases e with
   | normal =>
     obtain ⟨m3,he3,hkl3,hi3⟩:=hp;have hl3:=hkl3 _ _ (fun h=>h) hl2 rfl;have hk3:=hkl3 _ _ (fun h=>h) hk2 rfl;have hr:(Instr.endRound (w.heap.size+1) none).run P W3=.ok (.bool true) (W3.putObj (w.heap.size+1) (.loop (rec .ready none))):=by
      have:=run_endRound (P:=P) none hl3
      rw [hrec] at this ⊢;exact this
     have hs3:Yam w.heap.size m3 W3 m3 (W3.putObj (w.heap.size+1) (.loop (rec .ready none))):=.put hl3 rfl (by omega);refine ⟨_,_,hr,m3,?_,.inl ⟨rfl,?_,hI _ _ _ _ _ hi3 hs3,(he.trans hs2.ext).trans (he3.trans hs3.ext),World.putObj_heap_same (Array.getElem?_eq_some_iff.1 hl3).1,(World.putObj_heap_other (by omega)).trans hk3⟩⟩
     ·exact hs2.ext.trans (he3.trans hs3.ext)
     ·intro b o _ ho hld;by_cases hb:b=w.heap.size+1
      ·subst hb;rw [hl] at ho
       cases ho
       exact World.putObj_heap_same (Array.getElem?_eq_some_iff.1 hl3).1
      ·exact (World.putObj_heap_other hb).trans (hkl3 _ _ (fun h=>h) (hkl2 b o hb ho) hld)
   | ret =>
     obtain ⟨m3,he3,hkl3,hi3⟩:=hp;have hl3:=hkl3 _ _ (fun h=>by have:=hE0 _ h;omega) hl2 rfl;have hk3:=hkl3 _ _ (fun h=>by have:=hE0 _ h;omega) hk2 rfl;have hr:(Instr.endRound (w.heap.size+1) (some .ret)).run P W3=.ok (.bool false) (W3.putObj (w.heap.size+1) (.loop (rec .done (some .ret)))):=by
      have:=run_endRound (P:=P) (some .ret) hl3
      rw [hrec] at this ⊢;exact this
     have hs3:Yam w.heap.size m3 W3 m3 (W3.putObj (w.heap.size+1) (.loop (rec .done (some .ret)))):=.put hl3 rfl (by omega);refine ⟨_,_,hr,m3,?_,.inr ⟨rfl,?_,hIx _ _ _ _ _ hi3 hs3,(he.trans hs2.ext).trans (he3.trans hs3.ext),World.putObj_heap_same (Array.getElem?_eq_some_iff.1 hl3).1,(World.putObj_heap_other (by omega)).trans hk3⟩⟩
     ·exact hs2.ext.trans (he3.trans hs3.ext)
     ·intro b o hb ho hld;have hb1:¬ E0 b:=fun h=>hb (.inl h)
      have hb2:b≠w.heap.size+1:=fun h=>hb (.inr h)
      exact (World.putObj_heap_other hb2).trans (hkl3 _ _ hb1 (hkl2 b o hb2 ho) hld)
   | _=>exact hp.elim
  ·-- YaJ the iterator
   rintro e W2 ⟨v,m2,rfl,he2,(⟨hi,he,hl,hk⟩|⟨pre,hi,he,hl,hk⟩)⟩
   ·have hr:=run_endLoop (P:=P) hl (by rw [hrec];simp);have hs3:Yam w.heap.size m2 W2 m2 (W2.putObj (w.heap.size+1) (.loop { rec .ready none with state:=.exhausted })):=.put hl rfl (by omega);refine ⟨none,_,by rw [hrec] at hr ⊢;exact hr,hdone m2 _ (hmS ▸ he.trans hs3.ext) (hI _ _ _ _ _ hi hs3) ((World.putObj_heap_other (by omega)).trans hk)⟩
   ·have hr:=run_endLoop (P:=P) hl (by rw [hrec];simp);have hs3:Yam w.heap.size m2 W2 m2 (W2.putObj (w.heap.size+1) (.loop { rec .done (some .ret) with state:=.exhausted })):=.put hl rfl (by omega);refine ⟨some .ret,_,by rw [hrec] at hr ⊢;exact hr,wpIn_ret (hstop pre m2 _ (hmS ▸ he.trans hs3.ext) (hIx _ _ _ _ _ hi hs3) ((World.putObj_heap_other (by omega)).trans hk))⟩
section
variable {C:Cx} {Q:Qt} {ρ ρ':Ro} {η η':Eta}
set_option maxHeartbeats 1000000 in
theorem Zdd {P:Program} {α:Type} {as:α→List AV} {L:List α} {g:Operand} {t1 t2 d2 T2 rid2:Nat} {pos2:String} {af2:Array Edge} {body:Code} (u1 u2:α→AV) (ρ0:Ro) (ηs:List α→Eta) (n0:Nat) (σ:List Nat)
  (hx:ev2 ρ g=some (.pr (YnM P as L))) (hP:C.P=P) (hr:C.r=none) (has:∀ x,as x=[u1 x,u2 x]) (hn:YbG σ=true) (hp:Ycy C.n 0 σ=true) (ho:Ybw (ts σ) η σ (ηs [])) (hρ:YdG (ts σ) ρ ρ0) (hself:YdG (ts (List.range n0)) ρ0 ρ0)
  (hnn:C.n≤n0) (hn0:n0≤(ηs []).length) (ht1:Nat.blt t1 C.N=true) (ht2:Nat.blt t2 C.N=true) (hd2:Nat.blt d2 C.N=true)
  (hround:∀ pre x (Bx:Base) (hB:Bx.γ.length=n0) l,(∃ r,pre++x::r=L)→TC ⟨C.P,C.tab,C.hT,C.hm,C.N,[],Bx,n0,hB,some (some l),0⟩ (RQ ⟨C.P,C.tab,C.hT,C.hm,C.N,[],Bx,n0,hB,some (some l),0⟩ (ηs (pre++[x]))) body ((d2,u2 x)::(t2,u2 x)::(t1,u1 x)::ρ0) (ηs pre))
  (hdone:∀ (B':Base) (hB':B'.γ.length=C.n) D,Marked C.B B' D→TX ⟨C.P,C.tab,C.hT,C.hm,C.N,YbD D::C.D,B',C.n,hB',none,0⟩ Q .normal ρ0 (ηs L)) :
  TC C Q (.rangeFunc g #[t1,t2] (Code.region rid2 #[⟨some d2,.assign (.tmp t2),T2,pos2,af2,none⟩] false) body) ρ η:=by
 rintro a w ⟨m,γ,ρc,hE,hR,hI⟩;rw [Cx.W_none hr];obtain ⟨v,hv1,hv2⟩:=hR.ev hx;obtain ⟨γ',hsh,hI'⟩:=hI.sel C.hn hn hp ho;obtain ⟨ρc',hR',hsub⟩:=YdG.rl hsh hR hρ;have hE':=hE.sel hsub;have hg0:=hE.ev hv1
 cases hv2 with
 | pr hseq =>
 obtain ⟨gf,lb,fn,rfl,hf,hb,hseq⟩:=hseq;subst hP;have hl':=hI'.heap.len;have hsh0:Sh2 (ts (List.range n0)) γ' (γ'.take n0):=by
  intro i j hij w' hw';obtain ⟨k,h1,h2⟩:=YcD (List.range n0) i 0 j hij;have hk:k < n0:=by have:=(List.getElem?_eq_some_iff.1 h2).1;simpa using this
  rw [List.getElem?_range hk] at h2
  cases h2
  rw [h1,Nat.zero_add,List.getElem?_take,if_pos hk];exact hw'
 obtain ⟨ρc0,hR0,hsub0⟩:=YdG.rl hsh0 hR' hself;have hE0:=hE'.sel hsub0;have hpre0:Pre (γ'.take n0) γ':=fun i v h=>by
  rw [List.getElem?_take] at h;split at h
  ·exact h
  ·cases h
 have hlen0:(γ'.take n0).length=n0:=by simp;omega
 have hIb:=hI'.rebase hpre0;refine wpIn_wide.1 (YsZ (k:=0) hg0 hf hb hseq (fun _=>False) (fun _ h=>h.elim) (fun pre m1 W1=>∃ γ1,In ⟨m,w,Ybl γ' (ηs []),γ'.take n0⟩ m1 W1 γ1 (ηs pre)) (fun _ _ _=>False) ?_ ?_ ⟨γ',hIb⟩ ?_ ?_ ?_ ?_)
 ·rintro pre m1 W1 m2 W2 ⟨γ1,h1⟩ hs;exact ⟨γ1,h1.step hs⟩
 ·rintro _ _ _ _ _ h _;exact h
 ·intro x;rw [has];rfl
 ·rintro l pre x m1 W1 v1 v2 hl ⟨γ1,h1⟩ hpre hv he;rw [has] at hv;have hrep1:Rep m1 W1 γ1 v1 (u1 x):=hv.1.mono (.refl _ _) (fun i v h=>by simp at h);have hrep2:Rep m1 W1 γ1 v2 (u2 x):=hv.2.1.mono (.refl _ _) (fun i v h=>by simp at h);have hIx:=h1.rebase h1.pre;have hEr:Env C.N [] (({ tmps:=(a.tmps.setIfInBounds t1 v1).setIfInBounds t2 v2,defers:=[] }:Act).put (some d2) (({ tmps:=(a.tmps.setIfInBounds t1 v1).setIfInBounds t2 v2,defers:=[] }:Act).eval (.tmp t2))) ((d2,v2)::(t2,v2)::(t1,v1)::ρc0):=by
   have h1:=Env.setT (v:=v1) hE0 (by simpa using ht1);have h2:Env C.N [] ({ tmps:=(a.tmps.setIfInBounds t1 v1).setIfInBounds t2 v2,defers:=[] }:Act) ((t2,v2)::(t1,v1)::ρc0):=Env.setT (v:=v2) h1 (by simpa using ht2);have h5:({ tmps:=(a.tmps.setIfInBounds t1 v1).setIfInBounds t2 v2,defers:=[] }:Act).eval (.tmp t2)=v2:=h2.ev (x:=.tmp t2) (by simp [W.ev,W.look]);rw [h5];exact h2.put v2 (by simpa using hd2)
  have hb:=hround pre x ⟨m1,W1,Ybl γ1 (ηs pre),γ'.take n0⟩ hlen0 l hpre _ _ ⟨m1,γ1,_,hEr,⟨rfl,hrep2,rfl,hrep2,rfl,hrep1,hR0.mono he h1.pre⟩,hIx⟩;rw [Cx.W_some rfl] at hb;refine wpIn_mono hb fun e a' W' hq=>?_
  cases e with
  | normal =>
    obtain ⟨m3,γ3,_,_,_,h3⟩:=hq;refine ⟨m3,h3.far.ext,fun b o _ hbo hld=>?_,γ3,h3.comp h1.far (Yaq h1) (.refl _)⟩;have hn:b ∉ Ybl γ1 (ηs pre):=fun hm=>by rw [Ybc h1 b hm o hbo] at hld;cases hld
    rw [h3.far.block b (Array.getElem?_eq_some_iff.1 hbo).1 hn];exact hbo
  | _=>exact hq.elim
 ·rintro m' W' he ⟨γL,hL⟩ hD;have hpc:Pre C.B.γ (γ'.take n0):=fun i v h=>by
   have hi:=(List.getElem?_eq_some_iff.1 h).1;rw [C.hn] at hi;rw [List.getElem?_take,if_pos (by omega)];exact hI'.pre i v h
  have hIL:=hL.rebase (hpc.trans hL.pre);have hM:Marked C.B ⟨m',W',Ybl γL (ηs L),C.B.γ⟩ w.heap.size:=by
   refine ⟨hI'.far.trans hL.far (Yaq hI'),fun b hb=>?_,.refl _,hD,fun hm=>?_,hI'.far.size⟩
   ·rcases Yaq hL b hb with h|h
    ·exact Yaq hI' b h
    ·exact .inr (Nat.le_trans hI'.far.size h)
   ·have:=Ybc hL _ hm _ hD;cases this
  exact hdone ⟨m',W',Ybl γL (ηs L),C.B.γ⟩ C.hn _ hM _ _ ⟨m',γL,ρc0,⟨hE0.size,by show _::a.defers=_;rw [hE0.defers],hE0.look⟩,hR0.mono he hL.pre,hIL⟩
 ·rintro _ _ _ _ h;exact h.elim
end
open Go Go.W
section
variable {C:Cx} {ops:Array Oper} {Q:Qt} {ρ:Ro} {η η2:Eta} {rest:List Oper} {T d X:Nat} {pos:String} {af:Array Edge} {x y z:Operand}
theorem Zdc {i k E sz:Nat} {nl} {xs:List AV} {n1 n2:Int} (kk:OL C ops Q rest ((d,.hs k)::ρ) η2) (hs:(C.tab X).map (·.sh)=some (.slice E):=by with_unfolding_all exact rfl) (hz:(C.tab E).map (·.size)=some sz:=by with_unfolding_all exact rfl)
  (hx:ev2 ρ x=some (.hs i):=by with_unfolding_all exact rfl) (hy:ev2 ρ y=some (.raw (.int .i64 n1)):=by with_unfolding_all exact rfl) (hw:ev2 ρ z=some (.raw (.int .i64 n2)):=by with_unfolding_all exact rfl) (ho:η[i]?=some (.gs false E sz nl xs):=by with_unfolding_all exact rfl)
  (hk:η.length=k:=by (try dsimp only [List.length])<;>exact rfl) (hη:η.set i .dead++[.gs false E sz none xs]=η2:=by (try dsimp only [List.set,List.cons_append,List.nil_append,List.append_eq])<;>exact rfl)
  (hn1:n1=(xs.length:Nat):=by first|rfl|simp) (hn2:n2=(xs.length:Nat):=by first|rfl|simp) (hd:Nat.blt d C.N=true:=by with_unfolding_all exact rfl) :
  OL C ops Q (⟨some d,.slice X x none (some y) (some z),T,pos,af,none⟩::rest) ρ η:=by
 rintro a w ⟨m,γ,ρc,hE,hR,hI⟩;obtain ⟨v,g1,g2⟩:=hR.ev hx;obtain ⟨hg,_⟩:=g2.hs_get;have g3:=hR.raw hy;have g4:=hR.raw hw;obtain ⟨dd,hu,hd'⟩:=YcO C.hT hs;obtain rfl:dd=_:=hd';obtain ⟨inf,i1,i2⟩:=Ybh C.hT hz;have hl:=hI.heap.len;obtain ⟨⟨m',hown,hm1,hm2⟩,_,hcl⟩:=hI.heap.ok i _ _ hg ho;subst hk hη hn1 hn2;rcases hown with ⟨rfl,rfl⟩|⟨b,o,rfl,rfl⟩|⟨g,cap,cur,rfl,h0,hgc,h1,h2,h3,h4,h5⟩
 ·refine Cx.lcons (wl_value (v:=.slice none 0 0) (w':=w) rfl ?_ (kk _ _ ⟨m,γ++[.slice none 0 0],_,hE.put _ (by simpa using hd),⟨rfl,.hs (by rw [← hl];exact YaD),hR.mono (.refl _ _) (.app _ _)⟩,
   hI.over (v':=.slice none 0 0) (o':=.gs false E sz none []) hg ho ((Keep.refl m w).touch _) ⟨⟨m,.inl ⟨rfl,by simp⟩,fun _ _=>rfl,fun b hb=>by simp [Yay] at hb⟩,NL.none _,by simp⟩ (fun b hb=>by simp [blk,Yay] at hb)⟩))
  simp [execOp,hE.ev g1,hE.ev g3,hE.ev g4,Instr.sliceAt,Instr.slice,run_underlying hu,Instr.sliceBounds,Instr.sliceBound,asIntOf,sizeOf,typeInfo,i1]
 ·refine Cx.lcons (wl_value (v:=.slice (some ⟨b,o,none⟩) 0 0) (w':=w) rfl ?_ (kk _ _ ⟨m,γ++[.slice (some ⟨b,o,none⟩) 0 0],_,hE.put _ (by simpa using hd),⟨rfl,.hs (by rw [← hl];exact YaD),hR.mono (.refl _ _) (.app _ _)⟩,
   hI.over (v':=.slice (some ⟨b,o,none⟩) 0 0) (o':=.gs false E sz none []) hg ho ((Keep.refl m w).touch _) ⟨⟨m,.inr (.inl ⟨b,o,rfl,by simp⟩),fun _ _=>rfl,fun b hb=>by simp [Yay] at hb⟩,NL.none _,by simp⟩ (fun b hb=>by simp [blk,Yay] at hb)⟩))
  simp [execOp,hE.ev g1,hE.ev g3,hE.ev g4,Instr.sliceAt,Instr.slice,run_underlying hu,Instr.sliceBounds,Instr.sliceBound,asIntOf,sizeOf,typeInfo,i1]
 ·by_cases hn0:xs=[]
  ·subst hn0;refine Cx.lcons (wl_value (v:=.slice (some ⟨g,0,none⟩) 0 0) (w':=w) rfl ?_ (kk _ _ ⟨m,γ++[.slice (some ⟨g,0,none⟩) 0 0],_,hE.put _ (by simpa using hd),⟨rfl,.hs (by rw [← hl];exact YaD),hR.mono (.refl _ _) (.app _ _)⟩,
    hI.over (v':=.slice (some ⟨g,0,none⟩) 0 0) (o':=.gs false E sz none []) hg ho ((Keep.refl m w).touch _) ⟨⟨m,.inr (.inl ⟨g,0,rfl,by simp⟩),fun _ _=>rfl,fun b hb=>by simp [Yay] at hb⟩,NL.none _,by simp⟩ (fun b hb=>by simp [blk,Yay] at hb)⟩))
   simp [execOp,hE.ev g1,hE.ev g3,hE.ev g4,Instr.sliceAt,Instr.slice,run_underlying hu,Instr.sliceBounds,Instr.sliceBound,asIntOf,sizeOf,typeInfo,i1]
  ·have hnp:0 < xs.length:=List.length_pos_iff.2 hn0;have hob:∀ q,0 < q→Yay (.slice (some ⟨g,0,none⟩) xs.length q)=some g:=fun q hq=>by
    obtain ⟨c',rfl⟩:∃ c',q=c'+1:=⟨q-1,by omega⟩;simp [Yay]
   refine Cx.lcons (wl_value (v:=.slice (some ⟨g,0,none⟩) xs.length xs.length) (w':=w) rfl ?_ (kk _ _ ⟨m,γ++[.slice (some ⟨g,0,none⟩) xs.length xs.length],_,hE.put _ (by simpa using hd),⟨rfl,.hs (by rw [← hl];exact YaD),hR.mono (.refl _ _) (.app _ _)⟩,
    hI.over (v':=.slice (some ⟨g,0,none⟩) xs.length xs.length) (o':=.gs false E sz none xs) hg ho ((Keep.refl m w).touch _) ⟨⟨m',.inr (.inr ⟨g,xs.length,cur,rfl,hnp,hgc,Nat.le_refl _,by omega,Nat.le_trans (Nat.mul_le_mul_right _ h1) h3,h4,h5⟩),fun b hb=>?_,fun b hb=>?_⟩,NL.none _,hcl⟩ (fun b hb=>?_)⟩))
   ·have hc0:¬ cap=0:=by omega
    have hml:maxLen=9223372036854775807:=rfl;simp [execOp,hE.ev g1,hE.ev g3,hE.ev g4,Instr.sliceAt,Instr.slice,run_underlying hu,Instr.sliceBounds,Instr.sliceBound,asIntOf,sizeOf,typeInfo,i1,h1,Yak]
   ·rw [hob _ hnp] at hb;exact hm1 b (by rw [hob _ h0];exact hb)
   ·rw [hob _ hnp] at hb;cases hb;exact hm2 g (hob _ h0)
   ·simp only [blk] at hb ⊢;rw [hob _ hnp] at hb;rw [hob _ h0];exact .inl hb
end
def Yos (m m1:Nat→Nat) (w:World):Prop:=∀ b i k n,m1 b≠m b→i < m1 b→w.cell? ⟨b,i,none⟩≠some (.int k n)
theorem Yos.trans {m m1 m2 w} (h:Yos m m1 w) (k:Yos m1 m2 w):Yos m m2 w:=fun b i kk n hne hi=>by
 by_cases e:m2 b=m1 b
 ·exact h b i kk n (by rw [← e];exact hne) (by omega)
 ·exact k b i kk n e hi
def WkI (C:Cx) (ρ:Ro) (η:Eta) (ρ':Ro) (η':Eta):Prop:=∀ a w m γ ρc,Env C.N C.D a ρc→RL m w γ ρc ρ→In C.B m w γ η→∃ m1 ρc1,Env C.N C.D a ρc1∧RL m1 w γ ρc1 ρ'∧In C.B m1 w γ η'∧Yos m m1 w
section
variable {C:Cx} {ops:Array Oper} {Q:Qt} {ρ ρ1 ρ2:Ro} {η η1 η2:Eta} {rest:List Oper} {T d:Nat} {pos:String} {af:Array Edge} {x:Operand}
theorem WkI.trans (h:WkI C ρ η ρ1 η1) (k:WkI C ρ1 η1 ρ2 η2):WkI C ρ η ρ2 η2:=fun a w m γ ρc h1 h2 h3=>by
 obtain ⟨m1,ρc1,a1,a2,a3,a4⟩:=h a w m γ ρc h1 h2 h3;obtain ⟨m2,ρc2,b1,b2,b3,b4⟩:=k a w m1 γ ρc1 a1 a2 a3;exact ⟨m2,ρc2,b1,b2,b3,a4.trans b4⟩
end
end Go.V
namespace Go.Proofs
abbrev wAt (W:List Int) (i:Nat):Int:=W.getD i 0
def szW (sh:Int→Option Nat) (x:Int):Nat:=(sh (x % 64)).getD 0
def hdB (sh:Int→Option Nat) (W:List Int) (i:Nat):Bool:=decide (0≤wAt W i)&&match sh (wAt W i % 64) with
 | some n=>decide (i+n < W.length)
 | none=>false
def startsF (sh:Int→Option Nat) (W:List Int):Nat→Nat→Option (List Nat)
 | 0,_=>some []
 | f+1,i=>if i < W.length then (if hdB sh W i then (startsF sh W f (i+1+szW sh (wAt W i))).map (i::·) else none) else some []
def starts (sh:Int→Option Nat) (W:List Int):Option (List Nat):=if W.length=0∨600 < W.length∨wAt W 0≠0 then none else startsF sh W W.length 1
theorem Ygc (sh:Int→Option Nat) (W:List Int):∀ (f g i:Nat),W.length≤i+f→W.length≤i+g→startsF sh W f i=startsF sh W g i
 | 0,0,_,_,_=>rfl
 | 0,g+1,i,h,_=>by rw [startsF,startsF,if_neg (by omega)]
 | f+1,0,i,_,h=>by rw [startsF,startsF,if_neg (by omega)]
 | f+1,g+1,i,h1,h2=>by
   rw [startsF,startsF];split
   ·split
    ·rw [Ygc sh W f g _ (by omega) (by omega)]
    ·rfl
   ·rfl
theorem YcU (sh:Int→Option Nat) (W:List Int) (i:Nat):startsF sh W W.length i=if i < W.length then (if hdB sh W i then (startsF sh W W.length (i+1+szW sh (wAt W i))).map (i::·) else none) else some []:=by
 rw [Ygc sh W W.length (W.length+1) i (by omega) (by omega),startsF]
def okW (st:List Nat) (w:Int):Bool:=if w % 2≠0 then decide (-1999999999≤w)&&decide (w≤2000000001) else decide (w=0) || (decide (0 < w)&&st.contains (w / 2).toNat)
def slotsW (sh:Int→Option Nat) (W:List Int) (i:Nat):List Int:=(W.drop (i+1)).take (szW sh (wAt W i))
def YkL (sh:Int→Option Nat) (W:List Int) (st:List Nat) (i:Nat):Bool:=
 (decide (wAt W i / 64=0) || (decide ((i:Int) < wAt W i / 64)&&st.contains (wAt W i / 64).toNat))&&(slotsW sh W i).all fun x=>(decide (wAt W i / 64=0) || decide (x=0))&&okW st x
def Ydi (sh:Int→Option Nat) (W:List Int):Bool:=match starts sh W with
 | some st=>st.all (YkL sh W st)
 | none=>false
def realF (W:List Int):Nat→Nat→Nat
 | 0,i=>i
 | f+1,i=>if wAt W i / 64=0 then i else realF W f (wAt W i / 64).toNat
def real (W:List Int) (i:Nat):Nat:=realF W W.length i
def Yax (W:List Int) (w:Int):Nat:=if w % 2≠0∨w=0 then 0 else real W (w / 2).toNat
def Ybr (W:List Int):List Nat→List Int→List Nat:=List.foldl fun row w=>if Yax W w=0∨Yax W w∈row then row else row++[Yax W w]
def metF (sh:Int→Option Nat) (W:List Int):Nat→Nat→List Nat→List Nat
 | 0,_,row=>row
 | f+1,i,row=>if i < row.length then metF sh W f (i+1) (Ybr W row (slotsW sh W (row.getD i 0))) else row
def YjF (sh:Int→Option Nat) (W ws:List Int):List Nat:=metF sh W W.length 0 (Ybr W [] ws)
/-! ## Where objects begin -/
section
variable {sh:Int→Option Nat} {W:List Int}
theorem Ybd {i:Nat}:hdB sh W i=true↔0≤wAt W i∧∃ n,sh (wAt W i % 64)=some n∧i+n < W.length:=by
 unfold hdB
 cases h:sh (wAt W i % 64) with
 | none=>simp
 | some n=>simp
theorem Yk5 {i:Nat} (h:hdB sh W i=true):i+szW sh (wAt W i) < W.length:=by
 obtain ⟨_,n,h1,h2⟩:=Ybd.1 h;rw [szW,h1];exact h2
theorem YeM:∀ (f i:Nat) (st:List Nat),startsF sh W f i=some st→∀ x∈st,i≤x∧x < W.length∧hdB sh W x=true
 | 0,i,st,h,x,hx=>by rw [startsF] at h;cases h;cases hx
 | f+1,i,st,h,x,hx=>by
   rw [startsF] at h;split at h
   ·rename_i hi
    split at h
    ·rename_i hd
     cases h1:startsF sh W f (i+1+szW sh (wAt W i)) with
     | none=>rw [h1] at h;cases h
     | some r =>
       rw [h1] at h;simp only [Option.map_some,Option.some.injEq] at h;subst h;rcases List.mem_cons.1 hx with rfl|hx
       ·exact ⟨Nat.le_refl _,hi,hd⟩
       ·have:=YeM f _ r h1 x hx
        exact ⟨by omega,this.2⟩
    ·cases h
   ·cases h;cases hx
theorem Ygi:∀ (f i:Nat) (st:List Nat),startsF sh W f i=some st→st.Pairwise fun a b=>a+szW sh (wAt W a) < b
 | 0,i,st,h=>by rw [startsF] at h;cases h;exact .nil
 | f+1,i,st,h=>by
   rw [startsF] at h;split at h
   ·split at h
    ·cases h1:startsF sh W f (i+1+szW sh (wAt W i)) with
     | none=>rw [h1] at h;cases h
     | some r =>
       rw [h1] at h;simp only [Option.map_some,Option.some.injEq] at h;subst h;exact .cons (fun x hx=>by have:=YeM f _ r h1 x hx;omega) (Ygi f _ r h1)
    ·cases h
   ·cases h;exact .nil
theorem Yah {st:List Nat} (h:starts sh W=some st):0 < W.length∧W.length≤600∧wAt W 0=0∧startsF sh W W.length 1=some st:=by
 rw [starts] at h;split at h
 ·cases h
 ·rename_i hn
  simp only [not_or,Decidable.not_not] at hn;exact ⟨by omega,by omega,hn.2.2,h⟩
theorem Yc7 {st:List Nat} (h:starts sh W=some st) {x:Nat} (hx:x∈st):1≤x∧x < W.length∧hdB sh W x=true:=YeM _ _ _ (Yah h).2.2.2 x hx
theorem Ymn {st:List Nat} (h:starts sh W=some st):st.Pairwise fun a b=>a+szW sh (wAt W a) < b:=Ygi _ _ _ (Yah h).2.2.2
theorem Ygt {st:List Nat} (h:starts sh W=some st):st.Nodup:=(Ymn h).imp fun h e=>by omega
end
end Go.Proofs
