/- Part 19 of what the claim is proved by: lemmas on the model and walks through functions of the program; no conditions. -/
import Derived.Test.YtmdpbfghjdljiaaGreatQ18
import Derived.Test.YtmdpbfghjdljiaaGreatQ17
namespace Go.V
open Go Go.W Go.RowKit
structure It (P:Program) {α:Type} (as:α → List AV) (L:List α) where
 l:Nat
 E:Nat → Prop
 J:List α → (Nat → Nat) → World → Prop
 Jx:List α → (Nat → Nat) → World → Prop
 m:Nat → Nat
 W:World
 hl:E l
 hE:∀ b,E b → b < W.heap.size
 sJ:Stays W.heap.size J
 sJx:Stays W.heap.size Jx
 hy:∀ pre x m1 W1 vs,J pre m1 W1 → (∃ r,pre ++ x :: r = L) → VL m1 W1 [] vs (as x) → YieldV P l E vs m1 W1 (J (pre ++ [x])) (Jx (pre ++ [x]))
section
variable {P:Program} {α:Type} {as:α → List AV} {L:List α}
structure At (I:It P as L) (K:(Nat → Nat) → World → Prop) (ds:List Nat) (B:Base):Prop where
 ext:Ext I.m I.W B.m B.w
 noS:B.S = []
 noγ:B.γ = []
 stays:∀ m w m' w',K m w → StepOK I.W.heap.size m w m' w' → K m' w'
 holds:K B.m B.w
 marks:∀ d ∈ ds,I.W.heap.size ≤ d ∧ B.w.heap[d]? = some (.deferred (some []))
 nodup:ds.Nodup
theorem At.keep {I:It P as L} {K ds B m w} (h:At I K ds B) (hk:Keep B.m B.w m w):At I K ds ⟨m,w,[],[]⟩:=
 ⟨h.ext.trans hk.ext,rfl,rfl,h.stays,h.stays _ _ _ _ h.holds (.keep hk),fun d hd=>⟨(h.marks d hd).1,hk.heap (h.marks d hd).2⟩,h.nodup⟩
theorem In.keep0 {B m w γ η} (h:In B m w γ η) (hS:B.S = []):Keep B.m B.w m w:=(hS ▸ h.far).keep
def isDead:AO → Bool
 | .dead=>true
 | _=>false
theorem In.deadB {B m w γ η m' w'} (h:In B m w γ η) (hη:η.all isDead = true):In ⟨m',w',[],[]⟩ m' w' γ η:=by
 have hd:∀ (i:Nat) o,η[i]? = some o → o = .dead:=fun i o ho=>by
  have:=List.all_eq_true.1 hη o (List.mem_of_getElem? ho)
  cases o<;>first | rfl | cases this
 have nb:∀ {i:Nat} {v o b},η[i]? = some o → blk o v = some b → False:=fun {i v o b} ho hb=>by
  rw [hd i o ho] at hb; cases v<;>cases hb
 exact ⟨⟨h.heap.len,fun i v o _ ho=>by rw [hd i o ho]; trivial,fun i j v v' o o' b _ _ ho _ _ hb=>(nb ho hb).elim⟩,.refl _ _ _,fun i v o b _ ho hb=>(nb ho hb).elim,fun i v hv=>by simp at hv⟩
end
abbrev Cx.at (C:Cx) (B:Base) (hB:B.γ.length = C.n):Cx:=⟨C.P,C.tab,C.hT,C.hm,C.N,C.D,B,C.n,hB,C.r,C.k⟩
section
variable {C:Cx} {ops:Array Oper} {Q:Qt} {ρ ρ':Ro} {η η':Eta} {rest:List Oper} {T d:Nat} {pos:String} {af:Array Edge} {x:Operand} {args:List Operand} {at_:Array TypeId}
variable {P:Program} {α:Type} {as:α → List AV} {L:List α}
theorem OL.yield {I:It P as L} {pre:List α} {y:α} {ds:List Nat} {us:List AV} {r:Option Nat} (hA:At I (I.J pre) ds C.B) (hpre:∃ r,pre ++ y :: r = L)
  (k1:∀ B (hB:B.γ.length = C.n),At I (I.J (pre ++ [y])) ds B → Ext C.B.m C.B.w B.m B.w → KeepL (fun _=>False) C.B.w B.w → OL (C.at B hB) ops Q rest ((d,V.bool true) :: ρ) η)
  (k0:∀ B (hB:B.γ.length = C.n),At I (I.Jx (pre ++ [y])) ds B → Ext C.B.m C.B.w B.m B.w → KeepL I.E C.B.w B.w → OL (C.at B hB) ops Q rest ((d,V.bool false) :: ρ) η)
  (hP:C.P = P:=by with_unfolding_all exact rfl) (hn:C.n = 0:=by with_unfolding_all exact rfl) (hr:C.r = some r:=by with_unfolding_all exact rfl) (hk:C.k = 0:=by with_unfolding_all exact rfl)
  (hx:ev2 ρ x = some (.raw (.func (.yield I.l) #[] #[])):=by with_unfolding_all exact rfl) (hl:evs2 ρ args = some us:=by with_unfolding_all exact rfl)
  (hle:LEs (ts []) us (as y):=by repeat' (first | with_unfolding_all exact trivial | exact LE.ren (by with_unfolding_all exact rfl) | with_unfolding_all exact LE.sl | with_unfolding_all exact LE.nil (by decide) | with_unfolding_all refine And.intro ?_ ?_))
  (hd:Nat.blt d C.N = true:=by with_unfolding_all exact rfl) (hη:η.all isDead = true:=by with_unfolding_all exact rfl) :
  OL C ops Q (⟨some d,.call ⟨.value x,args.toArray,at_⟩,T,pos,af,none⟩ :: rest) ρ η:=by
 rintro a w ⟨m,γ,ρc,hE,hR,hI⟩
 subst hP
 have hK:=hI.keep0 hA.noS
 have hA':=hA.keep hK
 obtain ⟨vs,h1,h2⟩:=hR.evs hl
 have hvl:VL m w [] vs (as y):=hle.vl (γ':=[]) (fun i j h=>by cases h) h2
 have hY:=I.hy pre y m w vs hA'.holds hpre hvl
 rw [Cx.L_some hr,hk]
 refine W.i_yield (F:=WF r) (n:=0) (fun _=>trivial) rfl hE (hR.raw hx) h1 (by simpa using hd)
  (K:=fun b w''=>∃ m',Ext m w m' w'' ∧ ((b = true ∧ KeepL (fun _=>False) w w'' ∧ I.J (pre ++ [y]) m' w'') ∨ (b = false ∧ KeepL I.E w w'' ∧ I.Jx (pre ++ [y]) m' w''))) ?_ ?_
 ·obtain ⟨fn',tmps,assign,body,q1,q2⟩:=hY
  refine ⟨fn',tmps,assign,body,q1,RoundIn.mono (show RoundIn (WF r) 0 C.P I.l fn' tmps assign body w _ from q2) fun e w'' ⟨m',he,hc⟩=>?_⟩
  rcases hc with ⟨rfl,h1,h2⟩ | ⟨rfl,h1,h2⟩
  ·exact ⟨true,rfl,m',he,.inl ⟨rfl,h1,h2⟩⟩
  ·exact ⟨false,rfl,m',he,.inr ⟨rfl,h1,h2⟩⟩
 ·rintro b w'' ⟨m',he,hc⟩ a' hE'
  have hB0:([]:List Value).length = C.n:=by rw [hn]; rfl
  have key:∀ (E:Nat → Prop) (K:(Nat → Nat) → World → Prop),(∀ b,E b → b < I.W.heap.size) → (∀ m w m' w',K m w → StepOK I.W.heap.size m w m' w' → K m' w') → KeepL E w w'' → K m' w'' → At I K ds ⟨m',w'',[],[]⟩:=fun E K hE hs hkl hK =>
   ⟨hA'.ext.trans he,rfl,rfl,hs,hK,fun d hd=>⟨(hA'.marks d hd).1,hkl d _ (fun h=>by have:=hE d h; have:=(hA'.marks d hd).1; omega) (hA'.marks d hd).2 rfl⟩,hA'.nodup⟩
  rcases hc with ⟨rfl,h3,h4⟩ | ⟨rfl,h3,h4⟩
  ·have:=k1 ⟨m',w'',[],[]⟩ hB0 (key _ _ (fun _ h=>h.elim) (fun m w m' w'=>I.sJ _ m w m' w') h3 h4) (hK.ext.trans he) ((KeepL.keep hK).trans h3) a' w'' ⟨m',γ,_,hE',⟨rfl,.raw rfl,hR.mono he (.refl _)⟩,hI.deadB hη⟩
   rwa [Cx.L_some (C:=C.at ⟨m',w'',[],[]⟩ hB0) hr,show (C.at ⟨m',w'',[],[]⟩ hB0).k = 0 from hk] at this
  ·have:=k0 ⟨m',w'',[],[]⟩ hB0 (key _ _ I.hE (fun m w m' w'=>I.sJx _ m w m' w') h3 h4) (hK.ext.trans he) ((KeepL.keep hK).trans h3) a' w'' ⟨m',γ,_,hE',⟨rfl,.raw rfl,hR.mono he (.refl _)⟩,hI.deadB hη⟩
   rwa [Cx.L_some (C:=C.at ⟨m',w'',[],[]⟩ hB0) hr,show (C.at ⟨m',w'',[],[]⟩ hB0).k = 0 from hk] at this
def ItEnd (I:It P as L):Ending → World → Prop:=fun e W'=>∃ v m',e = .returned v ∧ Ext I.m I.W m' W' ∧ (I.J L m' W' ∨ ∃ pre,I.Jx pre m' W')
theorem leaves_marks {F:Fence} {k:Nat} {fn:Func} {tmps:Array Value} {R:Ending → World → Prop} (hres:fn.results = #[]):∀ (ds:List Nat) (w:World),ds.Nodup → (∀ d ∈ ds,w.heap[d]? = some (.deferred (some []))) →
  R (.returned (.tuple #[])) (ds.foldl (fun w d=>w.putObj d (.deferred none)) w) → LeavesInM F k P fn tmps R (ds.map markD) .returning w
 | [],w,_,_,h=>⟨_,results_none hres _ P _,h⟩
 | d :: ds,w,hn,hm,h=>by
   refine ⟨by simp,.inl ⟨d,_,rfl,run_takeDeferred (hm d (by simp)),leaves_marks hres ds _ (List.nodup_cons.1 hn).2 (fun d' hd'=>?_) h⟩⟩
   have hne:d' ≠ d:=fun e=>(List.nodup_cons.1 hn).1 (e ▸ hd')
   exact (World.putObj_heap_other hne).trans (hm d' (by simp [hd']))
theorem StepOK.trans {B0 m w m1 w1 m2 w2} (K:(Nat → Nat) → World → Prop) (hs:∀ m w m' w',K m w → StepOK B0 m w m' w' → K m' w') (h:K m w) (h1:StepOK B0 m w m1 w1) (h2:StepOK B0 m1 w1 m2 w2):K m2 w2:=hs _ _ _ _ (hs _ _ _ _ h h1) h2
theorem marks_stays {B0:Nat} {m:Nat → Nat} (K:(Nat → Nat) → World → Prop) (hs:∀ m w m' w',K m w → StepOK B0 m w m' w' → K m' w'):∀ (ds:List Nat) (w:World),ds.Nodup → (∀ d ∈ ds,B0 ≤ d ∧ w.heap[d]? = some (.deferred (some []))) → K m w →
  K m (ds.foldl (fun w d=>w.putObj d (.deferred none)) w) ∧ Ext m w m (ds.foldl (fun w d=>w.putObj d (.deferred none)) w)
 | [],w,_,_,h=>⟨h,.refl _ _⟩
 | d :: ds,w,hn,hm,h=>by
   have h1:StepOK B0 m w m (w.putObj d (.deferred none)):=.put (hm d (by simp)).2 rfl (hm d (by simp)).1
   obtain ⟨a,b⟩:=marks_stays K hs ds _ (List.nodup_cons.1 hn).2 (fun d' hd'=>⟨(hm d' (by simp [hd'])).1,(World.putObj_heap_other (show d' ≠ d from fun e=>(List.nodup_cons.1 hn).1 (e ▸ hd'))).trans (hm d' (by simp [hd'])).2⟩) (hs _ _ _ _ h h1)
   exact ⟨a,h1.ext.trans b⟩
theorem TX.rtIt {I:It P as L} {K} {ds:List Nat} {fn:Func} {k:Nat} (hA:At I K ds C.B) (hK:∀ m w,K m w → I.J L m w ∨ ∃ pre,I.Jx pre m w) (_hP:C.P = P:=by with_unfolding_all exact rfl) (hD:C.D = ds.map markD:=by with_unfolding_all exact rfl) (hres:fn.results = #[]:=by with_unfolding_all exact rfl) :
  TX C (bodyPostM Fence.wide k P fn (ItEnd I)) .ret ρ η:=by
 rintro a w ⟨m,γ,ρc,hE,hR,hI⟩
 have hA':=hA.keep (hI.keep0 hA.noS)
 show LeavesInM Fence.wide k P fn a.tmps _ a.defers .returning w
 rw [hE.defers,hD]
 obtain ⟨h1,h2⟩:=marks_stays K hA'.stays ds w hA'.nodup hA'.marks hA'.holds
 exact leaves_marks hres ds w hA'.nodup (fun d hd=>(hA'.marks d hd).2) ⟨_,m,rfl,hA'.ext.trans h2,hK _ _ h1⟩
theorem SeqV.enter {f:Nat} {fn:Func} {c:Code} {caps:List AV} {tab:Tab} {N:Nat} {m0:Nat → Nat} {w0:World} {vs:List Value} (hv:VL m0 w0 [] vs caps) (hT:TabOK P tab) (hm:P.follows .mixedOrders = true) (hf:P.funcs[f]? = some fn) (hb:fn.body = some c) (hN:fn.ntmps = N) (ha:Nat.ble (caps.length + 1) N = true)
  (h:∀ (I:It P as L) (B:Base) (hB:B.γ.length = 0),At I (I.J []) [] B → TC ⟨P,tab,hT,hm,N,[],B,0,hB,some none,0⟩ (bodyPostM Fence.wide 0 P fn (ItEnd I)) c ((0,.raw (.func (.yield I.l) #[] #[])) :: zip2 1 caps) []):SeqV P f vs.toArray as L m0 w0:=by
 intro l E J Jx m W he hEl hElt sJ sJx hy hJ
 have hl:=hv.len
 have ez:(#[Value.func (.yield l) #[] #[]] ++ vs.toArray:Array Value).toList = Value.func (.yield l) #[] #[] :: vs:=by simp
 refine Go.W.enterM (N:=N) 0 ((0,.func (.yield l) #[] #[]) :: Go.W.zipA 1 vs) hf hb hN (by rw [ez]; rfl) (by simp at ha ⊢; omega) fun a hE=>?_
 have hb':=h ⟨l,E,J,Jx,m,W,hEl,hElt,sJ,sJx,hy⟩ ⟨m,W,[],[]⟩ rfl ⟨.refl _ _,rfl,rfl,fun m w m' w'=>sJ _ m w m' w',hJ,by simp,List.nodup_nil⟩ a W
  ⟨m,[],_,hE,⟨rfl,.raw rfl,(hv.mono he (.refl _)).zip 1⟩,⟨rfl,by simp,by simp⟩,.refl _ _ _,fun i v o b h=>by simp at h,.refl _⟩
 rw [Cx.W_some rfl] at hb'
 exact wpIn_wide.1 hb'
/-! ## A range over a function in an iterator -/
theorem TX.thenW {C':Cx} {A:Code} {Q2:Qt} (k:TC C Q A ρ η) (h:C'.W = C.W:=by with_unfolding_all exact rfl):TX C (Exit.then (C'.W A Q) Q2) .normal ρ η:=fun a w hA=>by
 show C'.W A Q a w
 rw [h]; exact k a w hA
/-! ## A loop whose rounds begin at later times -/
def NextC {S:Type} (Cs:S → Cx) (ρs:S → Ro) (ηs:S → Eta) (I:S → Prop) (μ:S → Nat) (s:S):Act → World → Prop:=fun a w=>∃ s',(I s' ∧ μ s' < μ s) ∧ A2 (Cs s').N (Cs s').D (Cs s').B a w (ρs s') (ηs s')
theorem TC.loopC {A:Code} {S:Type} (Cs:S → Cx) (ρs:S → Ro) (ηs:S → Eta) (I:S → Prop) (μ:S → Nat) (s0:S) (h0:I s0) (hs:A2 C.N C.D C.B = A2 (Cs s0).N (Cs s0).D (Cs s0).B) (hw:∀ s,I s → (Cs s).W = C.W) (σ:List Nat) (hn:nodB σ = true) (hp:preB C.n 0 σ = true) (ho:SubO (ts σ) η σ (ηs s0)) (hr:SubR (ts σ) ρ (ρs s0))
  (round:∀ s,I s → TC (Cs s) (Exit.then (NextC Cs ρs ηs I μ s) Q) A (ρs s) (ηs s)):TC C Q (.loop A) ρ η:=fun a w hA =>
 Cx.loop (fun s a w=>I s ∧ A2 (Cs s).N (Cs s).D (Cs s).B a w (ρs s) (ηs s)) μ s0 ⟨h0,hs ▸ hA.sel C.hn hn hp ho hr⟩ fun s a w hI=>by
  have:=round s hI.1 a w hI.2
  rw [hw s hI.1] at this
  refine Cx.mono this fun e a' w' q=>?_
  cases e with
  | normal=>obtain ⟨s',⟨h1,h2⟩,h3⟩:=q; exact ⟨s',⟨h1,h3⟩,h2⟩
  | _=>exact q
theorem TX.rdC {S:Type} {Cs:S → Cx} {ρs:S → Ro} {ηs:S → Eta} {I:S → Prop} {μ:S → Nat} {s:S} (s':S) (σ:List Nat) (hI:I s') (hμ:μ s' < μ s) (hs:A2 C.N C.D C.B = A2 (Cs s').N (Cs s').D (Cs s').B:=by with_unfolding_all exact rfl)
  (hn:nodB σ = true:=by with_unfolding_all exact rfl) (hp:preB C.n 0 σ = true:=by with_unfolding_all exact rfl)
  (ho:SubO (ts σ) η σ (ηs s'):=by repeat' (first | with_unfolding_all exact trivial | exact OE.ren (by with_unfolding_all exact rfl) | with_unfolding_all exact OE.gs | with_unfolding_all refine And.intro ⟨_,by with_unfolding_all exact rfl,?_⟩ ?_))
  (hr:SubR (ts σ) ρ (ρs s'):=by repeat' (first | with_unfolding_all exact trivial | exact LE.ren (by with_unfolding_all exact rfl) | with_unfolding_all exact LE.sl | with_unfolding_all exact LE.nil (by decide) | exact LE.bool (by first | assumption | (symm; assumption)) | exact LE.int (by first | assumption | omega) | with_unfolding_all refine And.intro ⟨_,by with_unfolding_all exact rfl,?_⟩ ?_)) :
  TX C (Exit.then (NextC Cs ρs ηs I μ s) Q) .normal ρ η:=fun _ _ hA=>⟨s',⟨hI,hμ⟩,hs ▸ hA.sel C.hn hn hp ho hr⟩
end
end Go.V
namespace Go.V
open Go Go.W
structure Left (R:Prop):Prop where
 out:R
theorem go {R G:Prop} (k:R) (h:Left R → G:=by
  intro b
  repeat' (with_reducible first | refine OL.st ?_ | refine OL.box ?_ | refine OL.alloc ?_ | refine OL.store ?_ | refine OL.storeAgg ?_ | refine OL.litV ?_ | refine OL.litN ?_ | refine OL.lit ?_ | refine OL.lit0 ?_ | refine OL.appO ?_ | refine OL.app ?_ | refine OL.makeMap ?_ | refine OL.build ?_ | refine TC.region ?_ | refine TC.seq ?_ | refine OL.nil ?_ | refine TX.thenN ?_ | refine TC.block ?_ | refine TC.skip ?_ | refine TX.blkN ?_ | refine TC.exit ?_ | refine TX.hit ?_ | refine TX.thenX ?_ | refine TX.miss ?_ rfl | refine TC.ifT ?_ | refine TC.ifF ?_ | refine OL.gOn ?_ | refine OL.gOff ?_ | refine OL.gUn ?_ | refine OL.pkT ?_ | refine OL.pkF ?_ | refine TC.ifD ?_ ?_<;>(intro hc; try (exfalso; omega)) | refine OL.gD ?_ ?_<;>(intro hc; try (exfalso; omega)) | refine OL.pkD ?_ ?_<;>(intro hc; try (exfalso; omega)) | refine TC.ret ?_ | refine TX.thenR ?_ | refine TX.blkR ?_ | refine TC.scope ?_ | refine TC.label ?_ | refine TX.ngN ?_ | refine TX.ngX ?_ | refine TX.ngR ?_ | refine TX.end_ ?_ | fail)
  exact b.out):G:=h ⟨k⟩
theorem goW {R G:Prop} (k:R) (h:Left R → G:=by
  intro b
  repeat' (with_reducible first | refine OL.st ?_ | refine OL.box ?_ | refine OL.alloc ?_ | refine OL.store ?_ | refine OL.storeAgg ?_ | refine OL.litV ?_ | refine OL.litN ?_ | refine OL.lit ?_ | refine OL.lit0 ?_ | refine OL.appO ?_ | refine OL.app ?_ | refine OL.makeMap ?_ | refine OL.build ?_ | refine TC.region ?_ | refine TC.seq ?_ | refine OL.nil ?_ | refine TX.thenN ?_ | refine TC.block ?_ | refine TC.skip ?_ | refine TX.blkN ?_ | refine TC.exit ?_ | refine TX.hit ?_ | refine TX.thenX ?_ | refine TX.miss ?_ rfl | refine TC.ifT ?_ | refine TC.ifF ?_ | refine OL.gOn ?_ | refine OL.gOff ?_ | refine OL.gUn ?_ | refine OL.pkT ?_ | refine OL.pkF ?_ | refine TC.ifD ?_ ?_<;>(intro hc; try (exfalso; omega)) | refine OL.gD ?_ ?_<;>(intro hc; try (exfalso; omega)) | refine OL.pkD ?_ ?_<;>(intro hc; try (exfalso; omega)) | refine TC.ret ?_ | refine TX.thenR ?_ | refine TX.blkR ?_ | refine TC.scope ?_ | refine TC.label ?_ | refine TX.ngN ?_ | refine TX.ngX ?_ | refine TX.ngR ?_ | refine TX.end_ ?_ | refine OL.lenW ?_ | refine OL.idxW ?_ | refine OL.ldW ?_ | refine OL.ldWA ?_ | refine OL.storeW1 ?_ | refine OL.ldM ?_ | fail)
  exact b.out):G:=h ⟨k⟩
theorem goy {R G:Prop} (k:R) (h:Left R → G:=by
  intro b
  repeat' (with_reducible first | refine OL.st ?_ | refine OL.box ?_ | refine OL.alloc ?_ | refine OL.store ?_ | refine OL.storeAgg ?_ | refine OL.litV ?_ | refine OL.litN ?_ | refine OL.lit ?_ | refine OL.lit0 ?_ | refine OL.appO ?_ | refine OL.app ?_ | refine OL.makeMap ?_ | refine OL.build ?_ | refine TC.region ?_ | refine TC.seq ?_ | refine OL.nil ?_ | refine TX.thenN ?_ | refine TC.block ?_ | refine TC.skip ?_ | refine TX.blkN ?_ | refine TC.exit ?_ | refine TX.hit ?_ | refine TX.thenX ?_ | refine TX.miss ?_ rfl | refine TC.ifT ?_ | refine TC.ifF ?_ | refine OL.gOn ?_ | refine OL.gOff ?_ | refine OL.gUn ?_ | refine OL.pkT ?_ | refine OL.pkF ?_ | refine TC.ifD ?_ ?_<;>(intro hc; try (exfalso; omega)) | refine OL.gD ?_ ?_<;>(intro hc; try (exfalso; omega)) | refine OL.pkD ?_ ?_<;>(intro hc; try (exfalso; omega)) | refine TC.ret ?_ | refine TX.thenR ?_ | refine TX.blkR ?_ | refine TC.scope ?_ | refine TC.label ?_ | refine TX.ngN ?_ | refine TX.ngX ?_ | refine TX.ngR ?_ | refine TX.end_ ?_ | refine TX.thenW ?_ | fail)
  exact b.out):G:=h ⟨k⟩
theorem goyW {R G:Prop} (k:R) (h:Left R → G:=by
  intro b
  repeat' (with_reducible first | refine OL.st ?_ | refine OL.box ?_ | refine OL.alloc ?_ | refine OL.store ?_ | refine OL.storeAgg ?_ | refine OL.litV ?_ | refine OL.litN ?_ | refine OL.lit ?_ | refine OL.lit0 ?_ | refine OL.appO ?_ | refine OL.app ?_ | refine OL.makeMap ?_ | refine OL.build ?_ | refine TC.region ?_ | refine TC.seq ?_ | refine OL.nil ?_ | refine TX.thenN ?_ | refine TC.block ?_ | refine TC.skip ?_ | refine TX.blkN ?_ | refine TC.exit ?_ | refine TX.hit ?_ | refine TX.thenX ?_ | refine TX.miss ?_ rfl | refine TC.ifT ?_ | refine TC.ifF ?_ | refine OL.gOn ?_ | refine OL.gOff ?_ | refine OL.gUn ?_ | refine OL.pkT ?_ | refine OL.pkF ?_ | refine TC.ifD ?_ ?_<;>(intro hc; try (exfalso; omega)) | refine OL.gD ?_ ?_<;>(intro hc; try (exfalso; omega)) | refine OL.pkD ?_ ?_<;>(intro hc; try (exfalso; omega)) | refine TC.ret ?_ | refine TX.thenR ?_ | refine TX.blkR ?_ | refine TC.scope ?_ | refine TC.label ?_ | refine TX.ngN ?_ | refine TX.ngX ?_ | refine TX.ngR ?_ | refine TX.end_ ?_ | refine TX.thenW ?_ | refine OL.lenW ?_ | refine OL.idxW ?_ | refine OL.ldW ?_ | refine OL.ldWA ?_ | refine OL.storeW1 ?_ | refine OL.ldM ?_ | fail)
  exact b.out):G:=h ⟨k⟩
theorem goS {R S G:Prop} (k:R) (l:S) (h:Left R → Left S → G:=by
  intro b c
  repeat' (with_reducible first | refine OL.st ?_ | refine OL.box ?_ | refine OL.alloc ?_ | refine OL.store ?_ | refine OL.storeAgg ?_ | refine OL.litV ?_ | refine OL.litN ?_ | refine OL.lit ?_ | refine OL.lit0 ?_ | refine OL.appO ?_ | refine OL.app ?_ | refine OL.makeMap ?_ | refine OL.build ?_ | refine TC.region ?_ | refine TC.seq ?_ | refine OL.nil ?_ | refine TX.thenN ?_ | refine TC.block ?_ | refine TC.skip ?_ | refine TX.blkN ?_ | refine TC.exit ?_ | refine TX.hit ?_ | refine TX.thenX ?_ | refine TX.miss ?_ rfl | refine TC.ifT ?_ | refine TC.ifF ?_ | refine OL.gOn ?_ | refine OL.gOff ?_ | refine OL.gUn ?_ | refine OL.pkT ?_ | refine OL.pkF ?_ | (refine TC.ifD ?_ ?_; focus (intro hc; exfalso; omega); intro hc) | (refine TC.ifD ?_ ?_; rotate_left; focus (intro hc; exfalso; omega); intro hc) | refine TC.ifD ?_ ?_ | (refine OL.gD ?_ ?_; focus (intro hc; exfalso; omega); intro hc) | (refine OL.gD ?_ ?_; rotate_left; focus (intro hc; exfalso; omega); intro hc) | refine OL.gD ?_ ?_ | (refine OL.pkD ?_ ?_; focus (intro hc; exfalso; omega); intro hc) | (refine OL.pkD ?_ ?_; rotate_left; focus (intro hc; exfalso; omega); intro hc) | refine OL.pkD ?_ ?_ | refine TC.ret ?_ | refine TX.thenR ?_ | refine TX.blkR ?_ | refine TC.scope ?_ | refine TC.label ?_ | refine TX.ngN ?_ | refine TX.ngX ?_ | refine TX.ngR ?_ | refine TX.end_ ?_ | fail)
  focus exact b.out
  exact c.out):G:=h ⟨k⟩ ⟨l⟩
theorem goSW {R S G:Prop} (k:R) (l:S) (h:Left R → Left S → G:=by
  intro b c
  repeat' (with_reducible first | refine OL.st ?_ | refine OL.box ?_ | refine OL.alloc ?_ | refine OL.store ?_ | refine OL.storeAgg ?_ | refine OL.litV ?_ | refine OL.litN ?_ | refine OL.lit ?_ | refine OL.lit0 ?_ | refine OL.appO ?_ | refine OL.app ?_ | refine OL.makeMap ?_ | refine OL.build ?_ | refine TC.region ?_ | refine TC.seq ?_ | refine OL.nil ?_ | refine TX.thenN ?_ | refine TC.block ?_ | refine TC.skip ?_ | refine TX.blkN ?_ | refine TC.exit ?_ | refine TX.hit ?_ | refine TX.thenX ?_ | refine TX.miss ?_ rfl | refine TC.ifT ?_ | refine TC.ifF ?_ | refine OL.gOn ?_ | refine OL.gOff ?_ | refine OL.gUn ?_ | refine OL.pkT ?_ | refine OL.pkF ?_ | (refine TC.ifD ?_ ?_; focus (intro hc; exfalso; omega); intro hc) | (refine TC.ifD ?_ ?_; rotate_left; focus (intro hc; exfalso; omega); intro hc) | refine TC.ifD ?_ ?_ | (refine OL.gD ?_ ?_; focus (intro hc; exfalso; omega); intro hc) | (refine OL.gD ?_ ?_; rotate_left; focus (intro hc; exfalso; omega); intro hc) | refine OL.gD ?_ ?_ | (refine OL.pkD ?_ ?_; focus (intro hc; exfalso; omega); intro hc) | (refine OL.pkD ?_ ?_; rotate_left; focus (intro hc; exfalso; omega); intro hc) | refine OL.pkD ?_ ?_ | refine TC.ret ?_ | refine TX.thenR ?_ | refine TX.blkR ?_ | refine TC.scope ?_ | refine TC.label ?_ | refine TX.ngN ?_ | refine TX.ngX ?_ | refine TX.ngR ?_ | refine TX.end_ ?_ | refine OL.lenW ?_ | refine OL.idxW ?_ | refine OL.ldW ?_ | refine OL.ldWA ?_ | refine OL.storeW1 ?_ | refine OL.ldM ?_ | fail)
  focus exact b.out
  exact c.out):G:=h ⟨k⟩ ⟨l⟩
end Go.V
namespace Go.W
def fidx {α:Type} (p:α → Bool):Nat → List α → Int
 | _,[]=>-1
 | k,x :: r=>if p x then (k:Int) else fidx p (k + 1) r
theorem fidx_nonneg {α:Type} (p:α → Bool):∀ (l:List α) (k:Nat),0 ≤ fidx p k l ↔ l.any p = true
 | [],k=>by simp [fidx]
 | x :: r,k=>by
   by_cases h:p x = true
   ·simp [fidx,h]
   ·simp [fidx,h,fidx_nonneg p r (k + 1)]
theorem drop_cons {α:Type} {l:List α} {k:Nat} (h:k < l.length):l.drop k = l[k] :: l.drop (k + 1):=List.drop_eq_getElem_cons h
theorem drop_nil {α:Type} {l:List α} {k:Nat} (h:l.length ≤ k):l.drop k = []:=List.drop_of_length_le h
theorem take_succ {α:Type} {l:List α} {k:Nat} (h:k < l.length):l.take (k + 1) = l.take k ++ [l[k]]:=List.take_succ_eq_append_getElem h
theorem take_all {α:Type} {l:List α} {k:Nat} (h:l.length ≤ k):l.take k = l:=List.take_of_length_le h
theorem filter_take_t {α:Type} {l:List α} {k:Nat} {p:α → Bool} (h:k < l.length) (hp:p l[k] = true):(l.take (k + 1)).filter p = (l.take k).filter p ++ [l[k]]:=by
 rw [take_succ h,List.filter_append,List.filter_cons,if_pos hp,List.filter_nil]
theorem filter_take_f {α:Type} {l:List α} {k:Nat} {p:α → Bool} (h:k < l.length) (hp:p l[k] = false):(l.take (k + 1)).filter p = (l.take k).filter p:=by
 rw [take_succ h,List.filter_append,List.filter_cons,if_neg (by simp [hp]),List.filter_nil,List.append_nil]
theorem getD_lt {α:Type} {l:List α} {k:Nat} {d:α} (h:k < l.length):l.getD k d = l[k]:=by
 rw [List.getD_eq_getElem?_getD,List.getElem?_eq_getElem h]; rfl
theorem any_beq_contains (l:List Int) (n:Int):(l.any fun x=>n == x) = l.contains n:=by
 rw [Bool.eq_iff_iff]
 simp [List.any_eq_true]
/-! ### Formed graphs -/
def okRow (i:Nat):List Int → List Int → Bool
 | _,[]=>true
 | pre,c :: r=>(decide (3 ≤ c) && decide (c < 3 + i) && !pre.contains c) && okRow i (pre ++ [c]) r
def okRows:Nat → List (List Int) → Bool
 | _,[]=>true
 | i,l :: r=>(decide (l.length ≤ 3) && okRow i [] l) && okRows (i + 1) r
def fine (g:List (List Int)):Bool:=decide (g.length ≤ 16) && okRows 0 g
end Go.W
namespace Go.W
def without (l:List Int) (n:Int):List Int:=l.filter fun c=>c != n
def total (all:List (List Int)):Nat:=(all.map List.length).sum
def free (all:List (List Int)) (c:Int):Bool:=all.all fun m=>!(m.drop 1).contains c
def anyNE (all:List (List Int)):Bool:=all.any fun l=>!l.isEmpty
def nextOf (all:List (List Int)):List (List Int) → Option Int
 | []=>none
 | [] :: r=>nextOf all r
 | (h :: _) :: r=>if free all h then some h else nextOf all r
def mergeF:Nat → List (List Int) → List Int → List Int × Bool
 | 0,all,out=>(out,!anyNE all)
 | n + 1,all,out=>match nextOf all all with
   | none=>(out,!anyNE all)
   | some h=>mergeF n (all.map (without · h)) (out ++ [h])
def merge (all:List (List Int)):List Int × Bool:=mergeF (total all) all []
theorem total_cons (l:List Int) (all:List (List Int)):total (l :: all) = l.length + total all:=by simp [total]
theorem without_length (l:List Int) (n:Int):(without l n).length ≤ l.length:=List.length_filter_le _ _
theorem total_without_le (all:List (List Int)) (h:Int):total (all.map (without · h)) ≤ total all:=by
 induction all with
 | nil=>simp [total]
 | cons l r ih =>
   have:=without_length l h
   simp only [List.map_cons,total_cons]
   omega
theorem nextOf_mem (all:List (List Int)):∀ (r:List (List Int)) (h:Int),nextOf all r = some h → ∃ t,(h :: t) ∈ r ∧ free all h = true:=by
 intro r
 induction r with
 | nil=>intro h e; simp [nextOf] at e
 | cons l r ih =>
   intro h e
   cases l with
   | nil =>
     obtain ⟨t,h1,h2⟩:=ih h (by simpa [nextOf] using e)
     exact ⟨t,by simp [h1],h2⟩
   | cons x t =>
     simp only [nextOf] at e
     split at e
     ·rename_i hf
      cases e
      exact ⟨t,by simp,hf⟩
     ·obtain ⟨t',h1,h2⟩:=ih h e
      exact ⟨t',by simp [h1],h2⟩
theorem total_without_lt:∀ (all:List (List Int)) (h:Int) (t:List Int),(h :: t) ∈ all → total (all.map (without · h)) < total all:=by
 intro all
 induction all with
 | nil=>intro h t hm; cases hm
 | cons l r ih =>
   intro h t hm
   simp only [List.map_cons,total_cons]
   rcases List.mem_cons.1 hm with e | hm
   ·subst e
    have h1:(without (h :: t) h).length ≤ t.length:=by
     simp only [without,List.filter_cons,bne_self_eq_false,Bool.false_eq_true,if_false]
     exact List.length_filter_le _ _
    have h2:=total_without_le r h
    simp only [List.length_cons]
    omega
   ·have h1:=ih h t hm
    have h2:=without_length l h
    omega
theorem nextOf_none_of_empty (all:List (List Int)):∀ r:List (List Int),total r = 0 → nextOf all r = none:=by
 intro r
 induction r with
 | nil=>intro _; rfl
 | cons l r ih =>
   intro h
   rw [total_cons] at h
   cases l with
   | nil=>simpa [nextOf] using ih (by omega)
   | cons _ _=>simp at h
theorem mergeF_eq:∀ (n m:Nat) (all:List (List Int)) (out:List Int),total all ≤ n → total all ≤ m → mergeF n all out = mergeF m all out:=by
 have zero:∀ (m:Nat) (all:List (List Int)) (out:List Int),total all = 0 → mergeF m all out = (out,!anyNE all):=by
  intro m all out h
  cases m with
  | zero=>rfl
  | succ m=>simp [mergeF,nextOf_none_of_empty all all h]
 intro n
 induction n with
 | zero=>intro m all out h _; rw [zero 0 all out (by omega),zero m all out (by omega)]
 | succ n ih =>
   intro m all out h1 h2
   cases m with
   | zero=>rw [zero 0 all out (by omega),zero (n + 1) all out (by omega)]
   | succ m =>
     simp only [mergeF]
     cases hn:nextOf all all with
     | none=>rfl
     | some x =>
       obtain ⟨t,hm,_⟩:=nextOf_mem all all x hn
       have:=total_without_lt all x t hm
       exact ih m _ _ (by omega) (by omega)
theorem nextOf_nil {all r:List (List Int)}:nextOf all ([] :: r) = nextOf all r:=rfl
theorem nextOf_t {all r:List (List Int)} {h:Int} {t:List Int} (hf:free all h = true):nextOf all ((h :: t) :: r) = some h:=by simp [nextOf,hf]
theorem nextOf_f {all r:List (List Int)} {h:Int} {t:List Int} (hf:free all h = false):nextOf all ((h :: t) :: r) = nextOf all r:=by simp [nextOf,hf]
theorem nextOf_get_t {all r:List (List Int)} {l:List Int} (h0:0 < l.length) (hf:free all l[0] = true):nextOf all (l :: r) = some l[0]:=by
 cases l with
 | nil=>simp at h0
 | cons x t=>exact nextOf_t hf
theorem nextOf_get_f {all r:List (List Int)} {l:List Int} (h0:0 < l.length) (hf:free all l[0] = false):nextOf all (l :: r) = nextOf all r:=by
 cases l with
 | nil=>simp at h0
 | cons x t=>exact nextOf_f hf
theorem anyNE_snoc (all:List (List Int)) (l:List Int):anyNE (all ++ [l]) = (anyNE all || !l.isEmpty):=by simp [anyNE]
theorem total_le {all:List (List Int)} {l:List Int} (h:l ∈ all):l.length ≤ total all:=by
 induction all with
 | nil=>cases h
 | cons x r ih =>
   rw [total_cons]
   rcases List.mem_cons.1 h with rfl | h
   ·omega
   ·have:=ih h; omega
theorem merge_next {all:List (List Int)} {out:List Int} {h:Int} (hn:nextOf all all = some h) :
  mergeF (total all) all out = mergeF (total (all.map (without · h))) (all.map (without · h)) (out ++ [h]):=by
 obtain ⟨t,hm,_⟩:=nextOf_mem all all h hn
 have:=total_without_lt all h t hm
 obtain ⟨k,hk⟩:∃ k,total all = k + 1:=⟨total all - 1,by omega⟩
 rw [hk]
 simp only [mergeF,hn]
 exact mergeF_eq _ _ _ _ (by omega) (Nat.le_refl _)
theorem merge_none {all:List (List Int)} {out:List Int} (hn:nextOf all all = none):mergeF (total all) all out = (out,!anyNE all):=by
 cases total all with
 | zero=>rfl
 | succ k=>simp [mergeF,hn]
/-! ### Nothing stands twice in a merge, and nothing but what stood in the lists -/
theorem mem_without {l:List Int} {n x:Int}:x ∈ without l n ↔ x ∈ l ∧ x ≠ n:=by simp [without,List.mem_filter]
theorem mergeF_nodup:∀ (n:Nat) (all:List (List Int)) (out:List Int),out.Nodup → (∀ x ∈ out,∀ m ∈ all,x ∉ m) → (mergeF n all out).1.Nodup:=by
 intro n
 induction n with
 | zero=>intro all out h _; exact h
 | succ n ih =>
   intro all out h1 h2
   simp only [mergeF]
   cases hn:nextOf all all with
   | none=>exact h1
   | some x =>
     obtain ⟨t,hm,_⟩:=nextOf_mem all all x hn
     refine ih _ _ ?_ ?_
     ·rw [List.nodup_append]
      refine ⟨h1,by simp,fun a ha b hb e=>?_⟩
      simp at hb
      subst hb e
      exact h2 _ ha _ hm (by simp)
     ·intro y hy m hm'
      obtain ⟨m0,hm0,rfl⟩:=List.mem_map.1 hm'
      rw [mem_without]
      rintro ⟨h3,h4⟩
      rcases List.mem_append.1 hy with h5 | h5
      ·exact h2 y h5 m0 hm0 h3
      ·simp at h5; exact h4 h5
theorem mergeF_mem:∀ (n:Nat) (all:List (List Int)) (out:List Int) (x:Int),x ∈ (mergeF n all out).1 → x ∈ out ∨ ∃ m ∈ all,x ∈ m:=by
 intro n
 induction n with
 | zero=>intro all out x h; exact .inl h
 | succ n ih =>
   intro all out x h
   simp only [mergeF] at h
   cases hn:nextOf all all with
   | none=>rw [hn] at h; exact .inl h
   | some y =>
     rw [hn] at h
     obtain ⟨t,hm,_⟩:=nextOf_mem all all y hn
     rcases ih _ _ x h with h1 | ⟨m,hm1,hx⟩
     ·rcases List.mem_append.1 h1 with h2 | h2
      ·exact .inl h2
      ·simp at h2; subst h2; exact .inr ⟨_,hm,by simp⟩
     ·obtain ⟨m0,hm0,rfl⟩:=List.mem_map.1 hm1
      exact .inr ⟨m0,hm0,(mem_without.1 hx).1⟩
theorem merge_nodup (all:List (List Int)):(merge all).1.Nodup:=mergeF_nodup _ _ _ (by simp) (by simp)
theorem merge_mem {all:List (List Int)} {x:Int} (h:x ∈ (merge all).1):∃ m ∈ all,x ∈ m:=(mergeF_mem _ _ _ x h).resolve_left (by simp)
theorem nodup_length:∀ (N:Nat) (l:List Int),l.Nodup → (∀ x ∈ l,0 ≤ x ∧ x < N) → l.length ≤ N:=by
 intro N
 induction N with
 | zero =>
   intro l _ h
   cases l with
   | nil=>simp
   | cons x r=>have:=h x (by simp); omega
 | succ N ih =>
   intro l hn h
   have h1:=ih (l.erase (N:Int)) (hn.erase _) (fun x hx=>by
    have h2:=h x (List.mem_of_mem_erase hx)
    have h3:x ≠ (N:Int):=fun e=>by subst e; exact (List.Nodup.not_mem_erase hn) hx
    omega)
   by_cases hm:(N:Int) ∈ l
   ·rw [List.length_erase_of_mem hm] at h1; omega
   ·rw [List.erase_of_not_mem hm] at h1; omega
/-! ### Linear orders -/
def bare (l:List Int):List Int:=without l 0
def at_ (orders:List (List Int)) (p:Int):List Int:=orders.getD p.toNat []
def listsOf (orders:List (List Int)) (ps:List Int):Option (List (List Int)):=
 if ps.all (fun p=>!(at_ orders p).isEmpty) then some (ps.map (fun p=>bare (at_ orders p)) ++ [ps]) else none
def orderOf (orders:List (List Int)) (ps:List Int) (c:Int):List Int:=
 match listsOf orders ps with
 | none=>[]
 | some all=>if (merge all).2 then c :: ((merge all).1 ++ [0]) else []
def ordersF:List (List Int) → List (List Int) → List (List Int)
 | acc,[]=>acc
 | acc,ps :: r=>ordersF (acc ++ [orderOf acc ps acc.length]) r
def parentsOf (g:List (List Int)):List (List Int):=[[],[],[]] ++ g
def orders (g:List (List Int)):List (List Int):=ordersF [[0]] ([[],[]] ++ g)
def OrdOK (acc:List (List Int)):Prop:=∀ (c:Nat) o,acc[c]? = some o → o.Nodup ∧ ∀ x ∈ o,0 ≤ x ∧ x ≤ (c:Int)
theorem OrdOK.len {acc} (h:OrdOK acc) {c:Nat} {o} (ho:acc[c]? = some o):o.length ≤ c + 1:=by
 obtain ⟨h1,h2⟩:=h c o ho
 exact nodup_length (c + 1) o h1 (fun x hx=>by have:=h2 x hx; omega)
theorem OrdOK.at {acc} (h:OrdOK acc) (p:Int):(at_ acc p).Nodup ∧ ∀ x ∈ at_ acc p,0 ≤ x ∧ x ≤ p.toNat:=by
 unfold at_
 rw [List.getD_eq_getElem?_getD]
 cases hq:acc[p.toNat]? with
 | none=>simp
 | some o=>simpa using h _ _ hq
theorem orderOf_ok {acc:List (List Int)} {ps:List Int} (h:OrdOK acc) (hps:∀ p ∈ ps,3 ≤ p ∧ p < acc.length) (hpos:0 < acc.length) :
  (orderOf acc ps acc.length).Nodup ∧ ∀ x ∈ orderOf acc ps acc.length,0 ≤ x ∧ x ≤ (acc.length:Int):=by
 unfold orderOf
 cases hl:listsOf acc ps with
 | none=>simp
 | some all =>
   simp only []
   split
   ·unfold listsOf at hl
    split at hl
    ·cases hl
     have hm:∀ x ∈ (merge (ps.map (fun p=>bare (at_ acc p)) ++ [ps])).1,1 ≤ x ∧ x < acc.length:=by
      intro x hx
      obtain ⟨m,hm,hxm⟩:=merge_mem hx
      rcases List.mem_append.1 hm with h1 | h1
      ·obtain ⟨p,hp,rfl⟩:=List.mem_map.1 h1
       obtain ⟨h2,h3⟩:=mem_without.1 hxm
       have h4:=(h.at p).2 x h2
       have h5:=hps p hp
       omega
      ·simp at h1
       subst h1
       have:=hps x hxm
       omega
     refine ⟨?_,?_⟩
     ·rw [List.nodup_cons]
      refine ⟨fun hc=>?_,?_⟩
      ·rcases List.mem_append.1 hc with h1 | h1
       ·have:=hm _ h1; omega
       ·have h1:(acc.length:Int) = 0:=by simpa using h1
        omega
      ·rw [List.nodup_append]
       refine ⟨merge_nodup _,by simp,fun a ha b hb e=>?_⟩
       have h6:=hm _ ha
       simp at hb
       omega
     ·intro x hx
      rcases List.mem_cons.1 hx with rfl | hx
      ·omega
      ·rcases List.mem_append.1 hx with h1 | h1
       ·have:=hm _ h1; omega
       ·have h1:x = 0:=by simpa using h1
        omega
    ·cases hl
   ·simp
theorem OrdOK.snoc {acc:List (List Int)} {o:List Int} (h:OrdOK acc) (ho:o.Nodup ∧ ∀ x ∈ o,0 ≤ x ∧ x ≤ (acc.length:Int)):OrdOK (acc ++ [o]):=by
 intro c o' hc
 rcases Nat.lt_or_ge c acc.length with h1 | h1
 ·rw [List.getElem?_append_left h1] at hc; exact h c o' hc
 ·rw [List.getElem?_append_right h1] at hc
  have:c - acc.length = 0:=by
   have:=(List.getElem?_eq_some_iff.1 hc).1
   simp at this; omega
  rw [this] at hc
  simp at hc
  subst hc
  rw [show c = acc.length by omega]
  exact ho
theorem OrdOK.start:OrdOK [[0]]:=by
 intro c o hc
 have:c = 0:=by
  have:=(List.getElem?_eq_some_iff.1 hc).1
  simp at this; omega
 subst this
 simp at hc
 subst hc
 simp
/-! ### Formed graphs -/
theorem okRow_spec (i:Nat):∀ (l pre:List Int),okRow i pre l = true → (∀ p ∈ l,3 ≤ p ∧ p < 3 + i) ∧ l.Nodup ∧ ∀ p ∈ l,p ∉ pre:=by
 intro l
 induction l with
 | nil=>intro pre _; simp
 | cons c r ih =>
   intro pre h
   simp only [okRow,Bool.and_eq_true,decide_eq_true_eq,Bool.not_eq_true'] at h
   obtain ⟨⟨⟨h1,h2⟩,h3⟩,h4⟩:=h
   obtain ⟨a1,a2,a3⟩:=ih _ h4
   have h3':c ∉ pre:=by simpa using h3
   refine ⟨fun p hp=>?_,?_,fun p hp=>?_⟩
   ·rcases List.mem_cons.1 hp with rfl | hp
    ·exact ⟨h1,h2⟩
    ·exact a1 p hp
   ·rw [List.nodup_cons]
    exact ⟨fun hc=>a3 c hc (by simp),a2⟩
   ·rcases List.mem_cons.1 hp with rfl | hp
    ·exact h3'
    ·exact fun hc=>a3 p hp (by simp [hc])
theorem okRows_spec:∀ (g:List (List Int)) (i:Nat),okRows i g = true → ∀ (k:Nat) l,g[k]? = some l → l.length ≤ 3 ∧ okRow (i + k) [] l = true:=by
 intro g
 induction g with
 | nil=>intro i _ k l h; simp at h
 | cons x r ih =>
   intro i h k l hk
   simp only [okRows,Bool.and_eq_true,decide_eq_true_eq] at h
   cases k with
   | zero=>simp at hk; subst hk; exact ⟨h.1.1,by simpa using h.1.2⟩
   | succ k =>
     have:=ih (i + 1) h.2 k l (by simpa using hk)
     rwa [show i + 1 + k = i + (k + 1) by omega] at this
def pOf (g:List (List Int)) (c:Int):List Int:=if c < 3 then [] else g.getD (c - 3).toNat []
theorem pOf_lt {g:List (List Int)} {c:Int} (h:c < 3):pOf g c = []:=by simp [pOf,h]
theorem pOf_ge {g:List (List Int)} {c:Int} (h:3 ≤ c):pOf g c = g.getD (c - 3).toNat []:=by rw [pOf,if_neg (by omega)]
theorem fine_len {g:List (List Int)} (h:fine g = true):g.length ≤ 16:=by
 simp only [fine,Bool.and_eq_true,decide_eq_true_eq] at h; exact h.1
theorem fine_pOf {g:List (List Int)} (h:fine g = true) {c:Int} (hc:c < 3 + (g.length:Int)):(pOf g c).length ≤ 3 ∧ (∀ p ∈ pOf g c,3 ≤ p ∧ p < c) ∧ (pOf g c).Nodup:=by
 by_cases h3:c < 3
 ·rw [pOf_lt h3]; simp
 ·rw [pOf_ge (by omega)]
  simp only [fine,Bool.and_eq_true,decide_eq_true_eq] at h
  have hk:(c - 3).toNat < g.length:=by omega
  obtain ⟨a1,a2⟩:=okRows_spec g 0 h.2 (c - 3).toNat _ (List.getElem?_eq_getElem hk)
  obtain ⟨b1,b2,_⟩:=okRow_spec _ _ _ a2
  rw [getD_lt hk]
  refine ⟨a1,fun p hp=>?_,b2⟩
  have:=b1 p hp
  omega
theorem parentsOf_get {g:List (List Int)} {c:Nat} (hc:c < 3 + g.length):(parentsOf g)[c]? = some (pOf g c):=by
 unfold parentsOf
 by_cases h3:c < 3
 ·rw [pOf_lt (by omega),List.getElem?_append_left (by simpa using h3)]
  match c,h3 with
  | 0,_=>rfl
  | 1,_=>rfl
  | 2,_=>rfl
 ·rw [pOf_ge (by omega),List.getElem?_append_right (by simp; omega)]
  simp only [List.length_cons,List.length_nil,Nat.zero_add,Nat.reduceAdd]
  rw [show ((c:Int) - 3).toNat = c - 3 by omega,getD_lt (by omega),List.getElem?_eq_getElem (by omega)]
theorem parentsOf_length (g:List (List Int)):(parentsOf g).length = 3 + g.length:=by simp [parentsOf]; omega
theorem parentsOf_drop {g:List (List Int)} {c:Nat} (hc:c < 3 + g.length):(parentsOf g).drop c = pOf g c :: (parentsOf g).drop (c + 1):=by
 have hl:c < (parentsOf g).length:=by rw [parentsOf_length]; exact hc
 rw [drop_cons hl]
 have:=parentsOf_get hc
 rw [List.getElem?_eq_getElem hl] at this
 simp at this
 rw [this]
theorem ordersF_cons (acc:List (List Int)) (ps:List Int) (r:List (List Int)):ordersF acc (ps :: r) = ordersF (acc ++ [orderOf acc ps acc.length]) r:=rfl
theorem orders_start (g:List (List Int)):orders g = ordersF [[0]] ((parentsOf g).drop 1):=rfl
theorem ordersF_ok (g:List (List Int)) (hf:fine g = true):∀ (n c:Nat) (acc:List (List Int)),n + c = 3 + g.length → acc.length = c → 0 < c → OrdOK acc → OrdOK (ordersF acc ((parentsOf g).drop c)) ∧ (ordersF acc ((parentsOf g).drop c)).length = 3 + g.length:=by
 intro n
 induction n with
 | zero =>
   intro c acc h1 h2 _ h3
   rw [drop_nil (by rw [parentsOf_length]; omega)]
   exact ⟨h3,by simp [ordersF]; omega⟩
 | succ n ih =>
   intro c acc h1 h2 h0 h3
   rw [parentsOf_drop (by omega),ordersF_cons]
   have hp:=(fine_pOf hf (c:=(c:Int)) (by omega)).2.1
   exact ih (c + 1) _ (by omega) (by simp [h2]) (by omega) (h3.snoc (orderOf_ok h3 (by intro p hp'; have:=hp p hp'; omega) (by omega)))
theorem orders_ok {g:List (List Int)} (hf:fine g = true):OrdOK (orders g) ∧ (orders g).length = 3 + g.length:=by
 rw [orders_start]
 exact ordersF_ok g hf (2 + g.length) 1 _ (by omega) rfl (by omega) OrdOK.start
theorem OrdOK.small {acc:List (List Int)} (h:OrdOK acc) (hl:acc.length ≤ 1000):∀ o ∈ acc,o.length ≤ 1000:=by
 intro o ho
 obtain ⟨i,hi,rfl⟩:=List.mem_iff_getElem.1 ho
 have:=h.len (List.getElem?_eq_getElem hi)
 omega
theorem listsOf_some {ords:List (List Int)} {ps:List Int} {all:List (List Int)} (h:listsOf ords ps = some all):all = ps.map (fun p=>bare (at_ ords p)) ++ [ps]:=by
 unfold listsOf at h
 split at h
 ·cases h; rfl
 ·cases h
theorem at_mem {ords:List (List Int)} {p:Int}:at_ ords p = [] ∨ at_ ords p ∈ ords:=by
 unfold at_
 rw [List.getD_eq_getElem?_getD]
 cases hq:ords[p.toNat]? with
 | none=>exact .inl rfl
 | some o=>exact .inr (List.mem_of_getElem? hq)
theorem listsOf_bounds {ords:List (List Int)} {ps:List Int} {all:List (List Int)} (h:listsOf ords ps = some all) (hok:OrdOK ords) (hl:ords.length ≤ 1000) (hp:ps.length ≤ 3) (hpos:∀ p ∈ ps,0 ≤ p) :
  total all ≤ 3003 ∧ all.length ≤ 4 ∧ ∀ l ∈ all,∀ x ∈ l,0 ≤ x:=by
 rw [listsOf_some h]
 have hs:=hok.small hl
 have hlen:∀ p,(bare (at_ ords p)).length ≤ 1000:=fun p=>Nat.le_trans (without_length _ _) (by
  rcases at_mem (ords:=ords) (p:=p) with e | e
  ·rw [e]; simp
  ·exact hs _ e)
 have htot:∀ ps:List Int,total (ps.map (fun p=>bare (at_ ords p))) ≤ 1000 * ps.length:=by
  intro ps
  induction ps with
  | nil=>simp [total]
  | cons p r ih =>
    have:=hlen p
    simp only [List.map_cons,total_cons,List.length_cons]
    omega
 refine ⟨?_,by simp; omega,fun l hl' x hx=>?_⟩
 ·have e:∀ (a:List (List Int)) (b:List Int),total (a ++ [b]) = total a + b.length:=by intro a b; simp [total]
  rw [e]
  have:=htot ps
  omega
 ·rcases List.mem_append.1 hl' with h1 | h1
  ·obtain ⟨p,_,rfl⟩:=List.mem_map.1 h1
   exact ((hok.at p).2 x (mem_without.1 hx).1).1
  ·simp at h1; subst h1; exact hpos x hx
theorem merge_length (all:List (List Int)):(merge all).1.length ≤ total all:=by
 have:∀ (n:Nat) (all:List (List Int)) (out:List Int),(mergeF n all out).1.length ≤ out.length + total all:=by
  intro n
  induction n with
  | zero=>intro all out; simp [mergeF]
  | succ n ih =>
    intro all out
    simp only [mergeF]
    cases hn:nextOf all all with
    | none=>simp
    | some x =>
      obtain ⟨t,hm,_⟩:=nextOf_mem all all x hn
      have h1:=total_without_lt all x t hm
      have h2:=ih (all.map (without · x)) (out ++ [x])
      simp only [List.length_append,List.length_singleton] at h2
      show (mergeF n _ _).1.length ≤ _
      omega
 simpa [merge] using this (total all) all []
end Go.W
