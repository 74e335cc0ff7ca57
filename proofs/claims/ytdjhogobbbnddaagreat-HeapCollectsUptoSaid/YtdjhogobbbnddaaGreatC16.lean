/- Lemmas for the claim; no conditions. -/
import Derived.Test.YtdjhogobbbnddaaGreatC15
import Derived.Test.YtdjhogobbbnddaaGreatC13
namespace Go.V
open Go Go.W Go.RowKit
structure It (P:Program) {α:Type} (as:α→List AV) (L:List α) where
 l:Nat
 E:Nat→Prop
 J:List α→(Nat→Nat)→World→Prop
 Jx:List α→(Nat→Nat)→World→Prop
 m:Nat→Nat
 W:World
 hl:E l
 hE:∀ b,E b→b < W.heap.size
 sJ:Ydt W.heap.size J
 sJx:Ydt W.heap.size Jx
 hy:∀ pre x m1 W1 vs,J pre m1 W1→(∃ r,pre++x::r=L)→VL m1 W1 [] vs (as x)→YrN P l E vs m1 W1 (J (pre++[x])) (Jx (pre++[x]))
section
variable {P:Program} {α:Type} {as:α→List AV} {L:List α}
structure At (I:It P as L) (K:(Nat→Nat)→World→Prop) (ds:List Nat) (B:Base):Prop where
 ext:Ext I.m I.W B.m B.w
 noS:B.S=[]
 noγ:B.γ=[]
 stays:∀ m w m' w',K m w→Yam I.W.heap.size m w m' w'→K m' w'
 holds:K B.m B.w
 marks:∀ d∈ds,I.W.heap.size≤d∧B.w.heap[d]?=some (.deferred (some []))
 nodup:ds.Nodup
theorem At.keep {I:It P as L} {K ds B m w} (h:At I K ds B) (hk:Keep B.m B.w m w):At I K ds ⟨m,w,[],[]⟩:=
 ⟨h.ext.trans hk.ext,rfl,rfl,h.stays,h.stays _ _ _ _ h.holds (.keep hk),fun d hd=>⟨(h.marks d hd).1,hk.heap (h.marks d hd).2⟩,h.nodup⟩
theorem In.keep0 {B m w γ η} (h:In B m w γ η) (hS:B.S=[]):Keep B.m B.w m w:=(hS ▸ h.far).keep
def YkZ:AO→Bool
 | .dead=>true
 | _=>false
theorem In.deadB {B m w γ η m' w'} (h:In B m w γ η) (hη:η.all YkZ=true):In ⟨m',w',[],[]⟩ m' w' γ η:=by
 have hd:∀ (i:Nat) o,η[i]?=some o→o=.dead:=fun i o ho=>by
  have:=List.all_eq_true.1 hη o (List.mem_of_getElem? ho)
  cases o<;>first|rfl|cases this
 have nb:∀ {i:Nat} {v o b},η[i]?=some o→blk o v=some b→False:=fun {i v o b} ho hb=>by
  rw [hd i o ho] at hb;cases v<;>cases hb
 exact ⟨⟨h.heap.len,fun i v o _ ho=>by rw [hd i o ho];trivial,fun i j v v' o o' b _ _ ho _ _ hb=>(nb ho hb).elim⟩,.refl _ _ _,fun i v o b _ ho hb=>(nb ho hb).elim,fun i v hv=>by simp at hv⟩
end
abbrev Cx.at (C:Cx) (B:Base) (hB:B.γ.length=C.n):Cx:=⟨C.P,C.tab,C.hT,C.hm,C.N,C.D,B,C.n,hB,C.r,C.k⟩
section
variable {C:Cx} {ops:Array Oper} {Q:Qt} {ρ ρ':Ro} {η η':Eta} {rest:List Oper} {T d:Nat} {pos:String} {af:Array Edge} {x:Operand} {args:List Operand} {at_:Array TypeId}
variable {P:Program} {α:Type} {as:α→List AV} {L:List α}
theorem OL.yield {I:It P as L} {pre:List α} {y:α} {ds:List Nat} {us:List AV} {r:Option Nat} (hA:At I (I.J pre) ds C.B) (hpre:∃ r,pre++y::r=L)
  (k1:∀ B (hB:B.γ.length=C.n),At I (I.J (pre++[y])) ds B→Ext C.B.m C.B.w B.m B.w→YbN (fun _=>False) C.B.w B.w→OL (C.at B hB) ops Q rest ((d,V.bool true)::ρ) η)
  (k0:∀ B (hB:B.γ.length=C.n),At I (I.Jx (pre++[y])) ds B→Ext C.B.m C.B.w B.m B.w→YbN I.E C.B.w B.w→OL (C.at B hB) ops Q rest ((d,V.bool false)::ρ) η)
  (hP:C.P=P:=by with_unfolding_all exact rfl) (hn:C.n=0:=by with_unfolding_all exact rfl) (hr:C.r=some r:=by with_unfolding_all exact rfl) (hk:C.k=0:=by with_unfolding_all exact rfl)
  (hx:ev2 ρ x=some (.raw (.func (.yield I.l) #[] #[])):=by with_unfolding_all exact rfl) (hl:Yc6 ρ args=some us:=by with_unfolding_all exact rfl)
  (hle:LEs (ts []) us (as y):=by repeat' (first|with_unfolding_all exact trivial|exact LE.ren (by with_unfolding_all exact rfl)|with_unfolding_all exact LE.sl|with_unfolding_all exact LE.nil (by decide)|with_unfolding_all refine And.intro ?_ ?_))
  (hd:Nat.blt d C.N=true:=by with_unfolding_all exact rfl) (hη:η.all YkZ=true:=by with_unfolding_all exact rfl) :
  OL C ops Q (⟨some d,.call ⟨.value x,args.toArray,at_⟩,T,pos,af,none⟩::rest) ρ η:=by
 rintro a w ⟨m,γ,ρc,hE,hR,hI⟩;subst hP;have hK:=hI.keep0 hA.noS;have hA':=hA.keep hK;obtain ⟨vs,h1,h2⟩:=hR.evs hl;have hvl:VL m w [] vs (as y):=hle.vl (γ':=[]) (fun i j h=>by cases h) h2;have hY:=I.hy pre y m w vs hA'.holds hpre hvl;rw [Cx.L_some hr,hk];refine W.i_yield (F:=WF r) (n:=0) (fun _=>trivial) rfl hE (hR.raw hx) h1 (by simpa using hd)
  (K:=fun b w''=>∃ m',Ext m w m' w''∧((b=true∧YbN (fun _=>False) w w''∧I.J (pre++[y]) m' w'')∨(b=false∧YbN I.E w w''∧I.Jx (pre++[y]) m' w''))) ?_ ?_
 ·obtain ⟨fn',tmps,assign,body,q1,q2⟩:=hY;refine ⟨fn',tmps,assign,body,q1,RoundIn.mono (show RoundIn (WF r) 0 C.P I.l fn' tmps assign body w _ from q2) fun e w'' ⟨m',he,hc⟩=>?_⟩;rcases hc with ⟨rfl,h1,h2⟩|⟨rfl,h1,h2⟩
  ·exact ⟨true,rfl,m',he,.inl ⟨rfl,h1,h2⟩⟩
  ·exact ⟨false,rfl,m',he,.inr ⟨rfl,h1,h2⟩⟩
 ·rintro b w'' ⟨m',he,hc⟩ a' hE';have hB0:([]:List Value).length=C.n:=by rw [hn];rfl
  have key:∀ (E:Nat→Prop) (K:(Nat→Nat)→World→Prop),(∀ b,E b→b < I.W.heap.size)→(∀ m w m' w',K m w→Yam I.W.heap.size m w m' w'→K m' w')→YbN E w w''→K m' w''→At I K ds ⟨m',w'',[],[]⟩:=fun E K hE hs hkl hK =>
   ⟨hA'.ext.trans he,rfl,rfl,hs,hK,fun d hd=>⟨(hA'.marks d hd).1,hkl d _ (fun h=>by have:=hE d h;have:=(hA'.marks d hd).1;omega) (hA'.marks d hd).2 rfl⟩,hA'.nodup⟩
  rcases hc with ⟨rfl,h3,h4⟩|⟨rfl,h3,h4⟩
  ·have:=k1 ⟨m',w'',[],[]⟩ hB0 (key _ _ (fun _ h=>h.elim) (fun m w m' w'=>I.sJ _ m w m' w') h3 h4) (hK.ext.trans he) ((YbN.keep hK).trans h3) a' w'' ⟨m',γ,_,hE',⟨rfl,.raw rfl,hR.mono he (.refl _)⟩,hI.deadB hη⟩
   rwa [Cx.L_some (C:=C.at ⟨m',w'',[],[]⟩ hB0) hr,show (C.at ⟨m',w'',[],[]⟩ hB0).k=0 from hk] at this
  ·have:=k0 ⟨m',w'',[],[]⟩ hB0 (key _ _ I.hE (fun m w m' w'=>I.sJx _ m w m' w') h3 h4) (hK.ext.trans he) ((YbN.keep hK).trans h3) a' w'' ⟨m',γ,_,hE',⟨rfl,.raw rfl,hR.mono he (.refl _)⟩,hI.deadB hη⟩
   rwa [Cx.L_some (C:=C.at ⟨m',w'',[],[]⟩ hB0) hr,show (C.at ⟨m',w'',[],[]⟩ hB0).k=0 from hk] at this
def YuA (I:It P as L):Ending→World→Prop:=fun e W'=>∃ v m',e=.returned v∧Ext I.m I.W m' W'∧(I.J L m' W'∨∃ pre,I.Jx pre m' W')
theorem Yf4 {F:Fence} {k:Nat} {fn:Func} {tmps:Array Value} {R:Ending→World→Prop} (hres:fn.results=#[]):∀ (ds:List Nat) (w:World),ds.Nodup→(∀ d∈ds,w.heap[d]?=some (.deferred (some []))) →
  R (.returned (.tuple #[])) (ds.foldl (fun w d=>w.putObj d (.deferred none)) w)→LeavesInM F k P fn tmps R (ds.map YbD) .returning w
 | [],w,_,_,h=>⟨_,results_none hres _ P _,h⟩
 | d::ds,w,hn,hm,h=>by
   refine ⟨by simp,.inl ⟨d,_,rfl,run_takeDeferred (hm d (by simp)),Yf4 hres ds _ (List.nodup_cons.1 hn).2 (fun d' hd'=>?_) h⟩⟩;have hne:d'≠d:=fun e=>(List.nodup_cons.1 hn).1 (e ▸ hd')
   exact (World.putObj_heap_other hne).trans (hm d' (by simp [hd']))
theorem Yam.trans {B0 m w m1 w1 m2 w2} (K:(Nat→Nat)→World→Prop) (hs:∀ m w m' w',K m w→Yam B0 m w m' w'→K m' w') (h:K m w) (h1:Yam B0 m w m1 w1) (h2:Yam B0 m1 w1 m2 w2):K m2 w2:=hs _ _ _ _ (hs _ _ _ _ h h1) h2
theorem YgR {B0:Nat} {m:Nat→Nat} (K:(Nat→Nat)→World→Prop) (hs:∀ m w m' w',K m w→Yam B0 m w m' w'→K m' w'):∀ (ds:List Nat) (w:World),ds.Nodup→(∀ d∈ds,B0≤d∧w.heap[d]?=some (.deferred (some [])))→K m w →
  K m (ds.foldl (fun w d=>w.putObj d (.deferred none)) w)∧Ext m w m (ds.foldl (fun w d=>w.putObj d (.deferred none)) w)
 | [],w,_,_,h=>⟨h,.refl _ _⟩
 | d::ds,w,hn,hm,h=>by
   have h1:Yam B0 m w m (w.putObj d (.deferred none)):=.put (hm d (by simp)).2 rfl (hm d (by simp)).1;obtain ⟨a,b⟩:=YgR K hs ds _ (List.nodup_cons.1 hn).2 (fun d' hd'=>⟨(hm d' (by simp [hd'])).1,(World.putObj_heap_other (show d'≠d from fun e=>(List.nodup_cons.1 hn).1 (e ▸ hd'))).trans (hm d' (by simp [hd'])).2⟩) (hs _ _ _ _ h h1);exact ⟨a,h1.ext.trans b⟩
theorem Zc4 {I:It P as L} {K} {ds:List Nat} {fn:Func} {k:Nat} (hA:At I K ds C.B) (hK:∀ m w,K m w→I.J L m w∨∃ pre,I.Jx pre m w) (_hP:C.P=P:=by with_unfolding_all exact rfl) (hD:C.D=ds.map YbD:=by with_unfolding_all exact rfl) (hres:fn.results=#[]:=by with_unfolding_all exact rfl) :
  TX C (bodyPostM Fence.wide k P fn (YuA I)) .ret ρ η:=by
 rintro a w ⟨m,γ,ρc,hE,hR,hI⟩;have hA':=hA.keep (hI.keep0 hA.noS);show LeavesInM Fence.wide k P fn a.tmps _ a.defers .returning w;rw [hE.defers,hD];obtain ⟨h1,h2⟩:=YgR K hA'.stays ds w hA'.nodup hA'.marks hA'.holds;exact Yf4 hres ds w hA'.nodup (fun d hd=>(hA'.marks d hd).2) ⟨_,m,rfl,hA'.ext.trans h2,hK _ _ h1⟩
theorem Yox.enter {f:Nat} {fn:Func} {c:Code} {caps:List AV} {tab:Tab} {N:Nat} {m0:Nat→Nat} {w0:World} {vs:List Value} (hv:VL m0 w0 [] vs caps) (hT:YaX P tab) (hm:P.follows .mixedOrders=true) (hf:P.funcs[f]?=some fn) (hb:fn.body=some c) (hN:fn.ntmps=N) (ha:Nat.ble (caps.length+1) N=true)
  (h:∀ (I:It P as L) (B:Base) (hB:B.γ.length=0),At I (I.J []) [] B→TC ⟨P,tab,hT,hm,N,[],B,0,hB,some none,0⟩ (bodyPostM Fence.wide 0 P fn (YuA I)) c ((0,.raw (.func (.yield I.l) #[] #[]))::Ym3 1 caps) []):Yox P f vs.toArray as L m0 w0:=by
 intro l E J Jx m W he hEl hElt sJ sJx hy hJ;have hl:=hv.len;have ez:(#[Value.func (.yield l) #[] #[]]++vs.toArray:Array Value).toList=Value.func (.yield l) #[] #[]::vs:=by simp
 refine Go.W.enterM (N:=N) 0 ((0,.func (.yield l) #[] #[])::Go.W.zipA 1 vs) hf hb hN (by rw [ez];rfl) (by simp at ha ⊢;omega) fun a hE=>?_;have hb':=h ⟨l,E,J,Jx,m,W,hEl,hElt,sJ,sJx,hy⟩ ⟨m,W,[],[]⟩ rfl ⟨.refl _ _,rfl,rfl,fun m w m' w'=>sJ _ m w m' w',hJ,by simp,List.nodup_nil⟩ a W
  ⟨m,[],_,hE,⟨rfl,.raw rfl,(hv.mono he (.refl _)).zip 1⟩,⟨rfl,by simp,by simp⟩,.refl _ _ _,fun i v o b h=>by simp at h,.refl _⟩
 rw [Cx.W_some rfl] at hb';exact wpIn_wide.1 hb'
/-! ## A range over a function in an iterator -/
theorem Zb2 {C':Cx} {A:Code} {Q2:Qt} (k:TC C Q A ρ η) (h:C'.W=C.W:=by with_unfolding_all exact rfl):TX C (Exit.then (C'.W A Q) Q2) .normal ρ η:=fun a w hA=>by
 show C'.W A Q a w;rw [h];exact k a w hA
/-! ## A loop whose rounds begin at later times -/
def Yul {S:Type} (Cs:S→Cx) (ρs:S→Ro) (ηs:S→Eta) (I:S→Prop) (μ:S→Nat) (s:S):Act→World→Prop:=fun a w=>∃ s',(I s'∧μ s' < μ s)∧A2 (Cs s').N (Cs s').D (Cs s').B a w (ρs s') (ηs s')
theorem Zb3 {A:Code} {S:Type} (Cs:S→Cx) (ρs:S→Ro) (ηs:S→Eta) (I:S→Prop) (μ:S→Nat) (s0:S) (h0:I s0) (hs:A2 C.N C.D C.B=A2 (Cs s0).N (Cs s0).D (Cs s0).B) (hw:∀ s,I s→(Cs s).W=C.W) (σ:List Nat) (hn:YbG σ=true) (hp:Ycy C.n 0 σ=true) (ho:Ybw (ts σ) η σ (ηs s0)) (hr:YdG (ts σ) ρ (ρs s0))
  (round:∀ s,I s→TC (Cs s) (Exit.then (Yul Cs ρs ηs I μ s) Q) A (ρs s) (ηs s)):TC C Q (.loop A) ρ η:=fun a w hA =>
 Cx.loop (fun s a w=>I s∧A2 (Cs s).N (Cs s).D (Cs s).B a w (ρs s) (ηs s)) μ s0 ⟨h0,hs ▸ hA.sel C.hn hn hp ho hr⟩ fun s a w hI=>by
  have:=round s hI.1 a w hI.2
  rw [hw s hI.1] at this;refine Cx.mono this fun e a' w' q=>?_
  cases e with
  | normal=>obtain ⟨s',⟨h1,h2⟩,h3⟩:=q;exact ⟨s',⟨h1,h3⟩,h2⟩
  | _=>exact q
theorem ZbP {S:Type} {Cs:S→Cx} {ρs:S→Ro} {ηs:S→Eta} {I:S→Prop} {μ:S→Nat} {s:S} (s':S) (σ:List Nat) (hI:I s') (hμ:μ s' < μ s) (hs:A2 C.N C.D C.B=A2 (Cs s').N (Cs s').D (Cs s').B:=by with_unfolding_all exact rfl)
  (hn:YbG σ=true:=by with_unfolding_all exact rfl) (hp:Ycy C.n 0 σ=true:=by with_unfolding_all exact rfl)
  (ho:Ybw (ts σ) η σ (ηs s'):=by repeat' (first|with_unfolding_all exact trivial|exact OE.ren (by with_unfolding_all exact rfl)|with_unfolding_all exact OE.gs|with_unfolding_all refine And.intro ⟨_,by with_unfolding_all exact rfl,?_⟩ ?_))
  (hr:YdG (ts σ) ρ (ρs s'):=by repeat' (first|with_unfolding_all exact trivial|exact LE.ren (by with_unfolding_all exact rfl)|with_unfolding_all exact LE.sl|with_unfolding_all exact LE.nil (by decide)|exact LE.bool (by first|assumption|(symm;assumption))|exact LE.int (by first|assumption|omega)|with_unfolding_all refine And.intro ⟨_,by with_unfolding_all exact rfl,?_⟩ ?_)) :
  TX C (Exit.then (Yul Cs ρs ηs I μ s) Q) .normal ρ η:=fun _ _ hA=>⟨s',⟨hI,hμ⟩,hs ▸ hA.sel C.hn hn hp ho hr⟩
end
open Go Go.W
section
variable {C:Cx} {ops:Array Oper} {Q:Qt} {ρ ρ':Ro} {η η' η2:Eta} {rest:List Oper} {T d X Y:Nat} {pos:String} {af:Array Edge} {op:Op} {x y z:Operand} {A K:Code} {e:Exit}
theorem Zd6 {fn:Func} {v1 v2:ResultVar} {u1 u2 r1 r2:AV} (σ:List Nat) (hle1:LE (ts σ) u1 r1) (hle2:LE (ts σ) u2 r2) (hD:C.D=[]:=by with_unfolding_all exact rfl) (hres:fn.results=#[v1,v2]:=by with_unfolding_all exact rfl)
  (h1:RV C ρ η v1 u1:=by first|with_unfolding_all exact rfl|with_unfolding_all exact ⟨_,_,_,_,rfl,rfl,rfl,rfl,rfl⟩) (h2:RV C ρ η v2 u2:=by first|with_unfolding_all exact rfl|with_unfolding_all exact ⟨_,_,_,_,rfl,rfl,rfl,rfl,rfl⟩)
  (hn:YbG σ=true:=by with_unfolding_all exact rfl) (hp:Ycy C.n 0 σ=true:=by with_unfolding_all exact rfl) (ho:Ybw (ts σ) η σ η':=by repeat' (first|with_unfolding_all exact trivial|exact OE.ren (by with_unfolding_all exact rfl)|with_unfolding_all exact OE.gs|with_unfolding_all refine And.intro ⟨_,by with_unfolding_all exact rfl,?_⟩ ?_)) :
  TX C (bodyPost C.P fn (YbF C.B (.tp [r1,r2]) η')) .ret ρ η:=Zd3 σ hD hres h1 h2 hn hp ho hle1 hle2
theorem LE.st {τ:Nat→Option Nat} {xs ys:List AV} (h:LEs τ xs ys):LE τ (.st xs) (.st ys):=fun m w γ γ' hs v hr=>by
 cases hr with
 | @st _ vs _ hl h1 hr =>
 have hv:VL m w γ vs xs:=VL.of hl hr;have hv':=h.vl hs hv;exact .st hv'.len h1 hv'.get
theorem Zbu {k E E2 sz:Nat} {cs:List AV} {fz nl} {xs:List AV} (i o:Nat) (kk:OL C ops Q rest ρ η2) (ho:η[i]?=some (.cb E cs):=by with_unfolding_all exact rfl) (hc:cs[o]?=some (.hs k):=by with_unfolding_all exact rfl) (hk:η[k]?=some (.gs fz E2 sz nl xs):=by with_unfolding_all exact rfl)
  (hη:(η.set k (.gs true E2 sz nl xs)).set i (.cb E (cs.set o (.sl sz none xs)))=η2:=by (try dsimp only [List.set])<;>exact rfl):OL C ops Q rest ρ η:=Za5 (Zb9 ho hc hk) (hη ▸ kk)
theorem Zcg {k E E2 sz:Nat} {cs:List AV} {fz nl} {xs:List AV} (i o:Nat) (kk:TX C Q e ρ η2) (ho:η[i]?=some (.cb E cs):=by with_unfolding_all exact rfl) (hc:cs[o]?=some (.hs k):=by with_unfolding_all exact rfl) (hk:η[k]?=some (.gs fz E2 sz nl xs):=by with_unfolding_all exact rfl)
  (hη:(η.set k (.gs true E2 sz nl xs)).set i (.cb E (cs.set o (.sl sz none xs)))=η2:=by (try dsimp only [List.set])<;>exact rfl):TX C Q e ρ η:=Zbo (Zb9 ho hc hk) (hη ▸ kk)
theorem Zcz {i:Nat} {fz E sz nl} {xs ys:List AV} (h:xs=ys) (ho:η[i]?=some (.gs fz E sz nl xs)):Wk C ρ η ρ (η.set i (.gs fz E sz nl ys)):=by
 subst h;have:η.set i (.gs fz E sz nl xs)=η:=by
  refine List.ext_getElem? fun j=>?_;rw [List.getElem?_set];split
  ·rename_i e;subst e
   split
   ·exact ho.symm
   ·rename_i hn;rw [List.getElem?_eq_none (by omega)]
  ·rfl
 rw [this];exact Wk.refl
theorem Zd7 {fz E sz nl} {xs ys:List AV} (i:Nat) (h:xs=ys) (kk:OL C ops Q rest ρ η2) (ho:η[i]?=some (.gs fz E sz nl xs):=by with_unfolding_all exact rfl) (hη:η.set i (.gs fz E sz nl ys)=η2:=by (try dsimp only [List.set])<;>exact rfl):OL C ops Q rest ρ η:=Za5 (Zcz h ho) (hη ▸ kk)
theorem Zd8 {fz E sz nl} {xs ys:List AV} (i:Nat) (h:xs=ys) (kk:TX C Q e ρ η2) (ho:η[i]?=some (.gs fz E sz nl xs):=by with_unfolding_all exact rfl) (hη:η.set i (.gs fz E sz nl ys)=η2:=by (try dsimp only [List.set])<;>exact rfl):TX C Q e ρ η:=Zbo (Zcz h ho) (hη ▸ kk)
section
variable {M:Bool} {fi fuel:Nat} {l:List Oper} {listed:Array Bool} {g:Option (Nat × Bool)}
theorem Zbh {cs:List AV} {k:Nat} (i:Nat) (kk:OD C M fi l.toArray Q fuel (listed.setIfInBounds i true) ((d,.bp k 0)::ρ) η2) (hi:l[i]?=some ⟨some d,.alloc X,T,pos,af,g⟩:=by with_unfolding_all exact rfl) (hg:GB l.toArray ρ g true:=by first|with_unfolding_all exact rfl|with_unfolding_all exact ⟨_,_,rfl,rfl,rfl⟩)
  (hz:(C.tab X).bind (fun e=>YpK e.zero.cells.toList)=some cs:=by with_unfolding_all exact rfl) (hk:η.length=k:=by (try dsimp only [List.length])<;>exact rfl) (hη:η++[.cb X cs]=η2:=by (try dsimp only [List.cons_append,List.nil_append,List.append_eq])<;>exact rfl) (hd:Nat.blt d C.N=true:=by with_unfolding_all exact rfl) (hrd:Region.ready .any l.toArray listed=[i]:=by kernel_rfl):OD C M fi l.toArray Q (fuel+1) listed ρ η:=OD.n1 i (One.alloc hz hk hη hd) kk hi hg hrd
theorem ZaC {cs:List AV} {k i:Nat} (kk:OD C M fi l.toArray Q fuel (listed.setIfInBounds i true) ((d,.bp k 0)::ρ) η2) (hi:l[i]?=some ⟨some d,.alloc X,T,pos,af,g⟩:=by with_unfolding_all exact rfl) (hg:GB l.toArray ρ g true:=by first|with_unfolding_all exact rfl|with_unfolding_all exact ⟨_,_,rfl,rfl,rfl⟩)
  (hz:(C.tab X).bind (fun e=>YpK e.zero.cells.toList)=some cs:=by with_unfolding_all exact rfl) (hk:η.length=k:=by (try dsimp only [List.length])<;>exact rfl) (hη:η++[.cb X cs]=η2:=by (try dsimp only [List.cons_append,List.nil_append,List.append_eq])<;>exact rfl) (hd:Nat.blt d C.N=true:=by with_unfolding_all exact rfl):Yaa C M fi l Q fuel listed ρ η i:=ZbU (One.alloc hz hk hη hd) kk hi hg
end
/-! ### A call of yield among operations in any order -/
end
section
variable {C:Cx} {ops:Array Oper} {Q:Qt} {ρ ρ':Ro} {η η' η2:Eta} {rest:List Oper} {T d X Y:Nat} {pos:String} {af:Array Edge} {op:Op} {x y z:Operand} {A K:Code} {e:Exit}
variable {M:Bool} {fi fuel:Nat} {l:List Oper} {listed:Array Bool} {g:Option (Nat × Bool)}
theorem Zbe {len sz E k:Nat} {parts:Array (Nat × Operand)} {us:List AV} (i:Nat) (kk:OD C M fi l.toArray Q fuel (listed.setIfInBounds i true) ((d,.hs k)::ρ) η2) (hi:l[i]?=some ⟨some d,.buildSlice X (len+1) parts,T,pos,af,g⟩:=by with_unfolding_all exact rfl) (hg:GB l.toArray ρ g true:=by first|with_unfolding_all exact rfl|with_unfolding_all exact ⟨_,_,rfl,rfl,rfl⟩)
  (hs:(C.tab X).map (·.sh)=some (.slice E):=by with_unfolding_all exact rfl) (hz:(C.tab E).map (·.size)=some (sz+1):=by with_unfolding_all exact rfl) (hp1:parts.toList.map (·.1)=List.range' 0 (len+1):=by with_unfolding_all exact rfl) (hp2:Yc6 ρ (parts.toList.map (·.2))=some us:=by with_unfolding_all exact rfl) (hu:Ymm (sz+1) us=true:=by with_unfolding_all exact rfl) (hl:Nat.ble ((len+1)*(sz+1)) 16000=true:=by with_unfolding_all exact rfl)
  (hk:η.length=k:=by (try dsimp only [List.length])<;>exact rfl) (hη:η++[.gs false E (sz+1) (some false) us]=η2:=by (try dsimp only [List.cons_append,List.nil_append,List.append_eq])<;>exact rfl) (hd:Nat.blt d C.N=true:=by with_unfolding_all exact rfl) (hrd:Region.ready .any l.toArray listed=[i]:=by kernel_rfl):OD C M fi l.toArray Q (fuel+1) listed ρ η:=OD.n1 i (One.lit hs hz hp1 hp2 hu hl hk hη hd) kk hi hg hrd
theorem ZcA {i:Nat} {len sz E k:Nat} {parts:Array (Nat × Operand)} {us:List AV} (kk:OD C M fi l.toArray Q fuel (listed.setIfInBounds i true) ((d,.hs k)::ρ) η2) (hi:l[i]?=some ⟨some d,.buildSlice X (len+1) parts,T,pos,af,g⟩:=by with_unfolding_all exact rfl) (hg:GB l.toArray ρ g true:=by first|with_unfolding_all exact rfl|with_unfolding_all exact ⟨_,_,rfl,rfl,rfl⟩)
  (hs:(C.tab X).map (·.sh)=some (.slice E):=by with_unfolding_all exact rfl) (hz:(C.tab E).map (·.size)=some (sz+1):=by with_unfolding_all exact rfl) (hp1:parts.toList.map (·.1)=List.range' 0 (len+1):=by with_unfolding_all exact rfl) (hp2:Yc6 ρ (parts.toList.map (·.2))=some us:=by with_unfolding_all exact rfl) (hu:Ymm (sz+1) us=true:=by with_unfolding_all exact rfl) (hl:Nat.ble ((len+1)*(sz+1)) 16000=true:=by with_unfolding_all exact rfl)
  (hk:η.length=k:=by (try dsimp only [List.length])<;>exact rfl) (hη:η++[.gs false E (sz+1) (some false) us]=η2:=by (try dsimp only [List.cons_append,List.nil_append,List.append_eq])<;>exact rfl) (hd:Nat.blt d C.N=true:=by with_unfolding_all exact rfl):Yaa C M fi l Q fuel listed ρ η i:=ZbU (One.lit hs hz hp1 hp2 hu hl hk hη hd) kk hi hg
theorem Zea {ops:Array Oper} (h:Wk C ρ η ρ' η') (k:OD C M fi ops Q fuel listed ρ' η'):OD C M fi ops Q fuel listed ρ η:=fun a w hA=>k a w (h a w hA)
theorem Zbb {ops:Array Oper} {i E sz:Nat} {fz nl} {xs:List AV} (t:Nat) (k:OD C M fi ops Q fuel listed ((t,.sl sz none xs)::ρ) η2) (hx:lk ρ t=some (.hs i):=by with_unfolding_all exact rfl) (ho:η[i]?=some (.gs fz E sz nl xs):=by with_unfolding_all exact rfl) (hη:η.set i (.gs true E sz nl xs)=η2:=by (try dsimp only [List.set])<;>exact rfl):OD C M fi ops Q fuel listed ρ η:=Zea (ZbA hx ho) (hη ▸ k)
variable {args:List Operand} {at_:Array TypeId}
theorem Zbg {P:Program} {f:Nat} {fn:Func} {us as first caps:List AV} {r r2} {η1 η1' η2:Eta} {args:List Operand} {at_:Array TypeId} (is:List Nat) (hs:Spec P f as η1 r η1') (hf:P.funcs[f]?=some fn) (k:OL C ops Q rest ((d,r2)::ρ) η2)
  (hP : C.P = P := by with_unfolding_all exact rfl) (hx : ev2 ρ x = some (.fn (.func f) first caps) := by with_unfolding_all exact rfl) (hb : (fn.body.isNone || fn.name == "runtime.NumGoroutine") = false := by with_unfolding_all exact rfl) (hl : Yc6 ρ args = some us := by with_unfolding_all exact rfl)
  (hn:YbG is=true:=by with_unfolding_all exact rfl)
  (ho:Ybw (ts is) η is η1:=by repeat' (first|with_unfolding_all exact trivial|exact OE.ren (by with_unfolding_all exact rfl)|with_unfolding_all exact OE.gs|with_unfolding_all refine And.intro ⟨_,by with_unfolding_all exact rfl,?_⟩ ?_))
  (hle:LEs (ts is) (first++us++caps) as:=by repeat' (first|with_unfolding_all exact trivial|exact LE.ren (by with_unfolding_all exact rfl)|with_unfolding_all exact LE.sl|with_unfolding_all exact LE.nil (by decide)|with_unfolding_all refine And.intro ?_ ?_)) (hd:Nat.blt d C.N=true:=by with_unfolding_all exact rfl)
  (hr:ren (back is η.length) r=r2:=by (try simp only [ren,ren0,ren1,ren2,back,Nat.blt,Nat.ble,cond_true,cond_false,List.map,List.length,List.getElem?_cons_succ,List.getElem?_cons_zero,List.getElem?_nil,Nat.add_zero,Nat.zero_add,Nat.reduceAdd,Nat.reduceSub])<;>exact rfl)
  (hη:upd is (η1'.map (renO (back is η.length))) η++(η1'.drop is.length).map (renO (back is η.length))=η2:=by (try simp only [upd,renO,ren,ren0,ren1,ren2,back,Nat.blt,Nat.ble,cond_true,cond_false,List.set,List.drop,List.map,List.length,List.cons_append,List.nil_append,List.append_nil,List.getElem?_cons_succ,List.getElem?_cons_zero,List.getElem?_nil,Nat.add_zero,Nat.zero_add,Nat.reduceAdd,Nat.reduceSub])<;>exact rfl) :
  OL C ops Q (⟨some d,.call ⟨.value x,args.toArray,at_⟩,T,pos,af,none⟩::rest) ρ η:=by
 subst hP;exact ZdJ is hx hs hf hb hl hn ho hle hd hr hη k
theorem YrA {i:Nat} {es:List (Int × AV)} {k:Int} {K E:Nat} {te:TyE} {v:AV} {found:Bool} (hv:(found=true∧afind k es=some v)∨(found=false∧afind k es=none∧∀ m w γ,Rep m w γ te.zero v)) (hs:(C.tab X).map (·.sh)=some (.map K E):=by with_unfolding_all exact rfl) (hkt:(C.tab K).map (·.sh)=some (.int .i64):=by with_unfolding_all exact rfl) (hE:C.tab E=some te:=by with_unfolding_all exact rfl)
  (hx:ev2 ρ x=some (.mp i):=by with_unfolding_all exact rfl) (ho:η[i]?=some (.mo es):=by with_unfolding_all exact rfl) (hy:ev2 ρ y=some (.raw (.int .i64 k)):=by with_unfolding_all exact rfl):Yaj C.P C.N C.D (.lookup X x y true) ρ η (.tp [v,.raw (.bool found)]):=Yk3 C.hT hv hs hkt hE hx ho hy
end
section
variable {C:Cx} {ρ:Ro} {η:Eta} {X:Nat}
theorem Yp6 {M:Bool} {fs pls:List (Nat × Nat)} {te:TyE} {parts:List (Nat × Operand)} {us zs cs0 cs:List AV} (ht:C.tab X=some te:=by with_unfolding_all exact rfl) (hsh:te.sh=.strct fs:=by with_unfolding_all exact rfl)
  (hl:Yc6 ρ (parts.map (·.2))=some us:=by with_unfolding_all exact rfl) (hz:YpK te.zero.cells.toList=some zs:=by with_unfolding_all exact rfl) (hp:YfW C.tab fs=some pls:=by with_unfolding_all exact rfl) (hf:Ymp (fun i=>pls[i]?) zs ((parts.map (·.1)).zip us)=some cs0:=by with_unfolding_all exact rfl) (hc:cs0=cs:=by (try dsimp only [YeQ,AV.cells])<;>exact rfl):
  Yaj C.P C.N C.D (.build X parts.toArray) ρ η (.st cs) M:=fun m w γ ρc a hE hR hH=>by
 subst hc;obtain ⟨vs,g1,g2⟩:=hR.evs hl;obtain ⟨dd,hu,hd'⟩:=(C.hT X te ht).sh;rw [hsh] at hd';obtain ⟨fields,rfl,hfs⟩:=hd';obtain ⟨inf,i1,i2,i3,i4,i5⟩:=(C.hT X te ht).info;have hul:us.length=parts.length:=by
  have:=g2.len
  have e2:=congrArg List.length (hE.evs g1);simp at e2;omega
 have hp2:((parts.map (·.1)).zip us).map (·.2)=us:=by rw [List.map_snd_zip];simp;omega
 have hp1:((parts.map (·.1)).zip us).map (·.1)=parts.map (·.1):=by rw [List.map_fst_zip];simp;omega
 subst hfs;have hpl:=YeE C.hT _ _ hp;obtain ⟨os,o1,o2⟩:=Yfm (γ:=γ) (m:=m) (w:=w) _ vs zs cs0 te.zero.cells.toList (YeZ hz) (by rw [hp2];exact g2) hf;rw [hp1] at o1;have hb:C.P.built X ((parts.map (·.1)).zip vs)=some os:=by
  unfold Program.built;simp only [i1,hu,i4,hpl];simpa using o1
 refine ⟨.agg os,?_,fun {m' w'} _ _ _ _ _ _=>?_⟩
 ·have:Rep m w γ (.agg os.toList.toArray) (.st cs0):=.st o2.1 o2.2.1 o2.2.2
  simpa using this
 ·have he:((parts.map fun p=>(p.1,a.eval p.2)))=(parts.map (·.1)).zip vs:=by
   rw [← hE.evs g1];clear hp2 hp1 hf g1 g2 o1 hb hl hul;induction parts with
   | nil=>rfl
   | cons p r ih=>simp [ih]
  rw [← he] at hb;have hr:=run_build (P:=C.P) w' X (parts.map fun p=>(p.1,a.eval p.2)).toArray os hb;simp only [execOp];have e2:(parts.toArray.map fun (x:Nat × Operand)=>(x.1,a.eval x.2))=(parts.map fun p=>(p.1,a.eval p.2)).toArray:=by simp
  rw [e2];simp [hr]
end
section
variable {C:Cx} {ops:Array Oper} {Q:Qt} {ρ ρ':Ro} {η η' η2:Eta} {rest:List Oper} {T d X:Nat} {pos:String} {af:Array Edge} {y:Operand}
theorem ZdY {k E sz bt:Nat} {ny} {ys:List AV}
  (hs:(C.tab X).map (·.sh)=some (.slice E)) (hz:(C.tab E).map (fun e=>(e.size,e.bytes))=some (sz+1,bt)) (hy:ev2 ρ y=some (.sl (sz+1) ny ys))
  (hk:η.length+1=k) (hη:η++[.dead,.gs false E (sz+1) none ys]=η2) (hd:Nat.blt d C.N=true) (hlen:ys.length≤9223372036854775807) (hb:ys.length*bt≤140737488355328) :
  ∀ a w K,A2 C.N C.D C.B a w ρ η→(∀ a' w',A2 C.N C.D C.B a' w' ((d,.hs k)::ρ) η2→K a' w')→OpK C.P ops Q ⟨some d,.call ⟨.builtin .append,#[.const (.slice none 0 0),y],#[X,X]⟩,T,pos,af,none⟩ K a w:=by
 rintro a w K ⟨m,γ,ρc,hE,hR,hI⟩ kk;obtain ⟨u,g3,g4⟩:=hR.ev hy;obtain ⟨r1,r2,r3⟩:=g4.rs;have hl:=hI.heap.len;have hI1:In C.B m w (γ++[.slice none 0 0]) (η++[.gs false E (sz+1) (some true) []]):=hI.new (.refl _ _) ⟨⟨m,.nil,fun _ _=>rfl,fun b hb=>by simp [Yay] at hb⟩,⟨fun _=>rfl,nofun⟩,by simp⟩ (fun b hb=>by simp [blk,Yay] at hb)
 cases ht:C.tab X with
 | none=>rw [ht] at hs;cases hs
 | some te =>
   rw [ht] at hs;simp at hs
   cases hte:C.tab E with
   | none=>rw [hte] at hz;cases hz
   | some tE =>
     rw [hte] at hz;simp at hz;obtain ⟨v',m',w',hrun,hext,⟨q1,q2,q3,rfl⟩,_,hin⟩:=Yev (ty:=T) (i:=η.length) (xs:=[]) hI1 ((C.hT X te ht).re hs) (C.hT E tE hte) hz.1 (by omega) (by rw [← hl];exact YaD) YaD r1 r3 (by rw [List.length_nil,Nat.zero_add];exact hlen) (by rw [hz.2,List.length_nil,Nat.zero_add];exact hb);have hin:=hin none (NL.none _);have es:(η++[AO.gs false E (sz+1) (some true) []]).set η.length .dead++[AO.gs false E (sz+1) none ([]++ys)]=η++[.dead,.gs false E (sz+1) none ys]:=by
      rw [List.set_append_right _ _ (Nat.le_refl _),Nat.sub_self,List.append_assoc];rfl
     rw [es] at hin;subst hη hk;have hg:((γ++[.slice none 0 0])++[.slice q1 q2 q3])[η.length+1]?=some (.slice q1 q2 q3):=by
      have:(γ++[Value.slice none 0 0]).length=η.length+1:=by rw [List.length_append,hl];rfl
      rw [← this];exact YaD
     refine wl_value (v:=.slice q1 q2 q3) (w':=w') rfl ?_ (kk _ _ ⟨m',_,_,hE.put _ (by simpa using hd),⟨rfl,.hs hg,hR.mono hext ((Pre.app γ [.slice none 0 0]).trans (.app _ _))⟩,hin⟩);have hc:a.eval (.const (.slice none 0 0))=.slice none 0 0:=rfl;simp [execOp,resolve,invoke,builtin,hc,hE.ev g3,hrun]
theorem ZdZ {k E sz bt:Nat} {ny} {ys:List AV} (kk:OL C ops Q rest ((d,.hs k)::ρ) η2)
  (hs:(C.tab X).map (·.sh)=some (.slice E):=by with_unfolding_all exact rfl) (hz:(C.tab E).map (fun e=>(e.size,e.bytes))=some (sz+1,bt):=by with_unfolding_all exact rfl) (hy:ev2 ρ y=some (.sl (sz+1) ny ys):=by with_unfolding_all exact rfl)
  (hk:η.length+1=k:=by (try dsimp only [List.length])<;>exact rfl) (hη:η++[.dead,.gs false E (sz+1) none ys]=η2:=by (try dsimp only [List.cons_append,List.nil_append,List.append_eq])<;>exact rfl) (hd:Nat.blt d C.N=true:=by with_unfolding_all exact rfl)
  (hlen:ys.length≤9223372036854775807:=by (try simp only [List.length_map]);omega) (hb:ys.length*bt≤140737488355328:=by (try simp only [List.length_map]);omega) :
  OL C ops Q (⟨some d,.call ⟨.builtin .append,#[.const (.slice none 0 0),y],#[X,X]⟩,T,pos,af,none⟩::rest) ρ η:=
 fun a w hA=>Cx.lcons (ZdY hs hz hy hk hη hd hlen hb a w _ hA fun a' w' hA'=>kk a' w' hA')
end
section
variable {P:Program} (w:World)
structure EqD2 (P:Program) (t e e2:Nat) (k:IntKind):Prop where
 st:P.underlying t=some (.struct (P.fieldsOf t))
 held:P.stoodInHeld t=false
 fs : (P.fieldsOf t).toList.map (fun f => (f.name == "_", f.type, f.offset)) = [(false, e, 0), (false, e2, 1)]
 el:P.underlying e=some (.int k)
 el2:P.underlying e2=some (.int k)
 gd:P.eqGuardType P.depth t=false
theorem eqD2 {t e e2:Nat} {k:IntKind} (h:EqD2 P t e e2 k) (a b c d:Int):(Op.equalIn 10000 t (.agg #[.int k a,.int k b]) (.agg #[.int k c,.int k d])).run P w=.ok (a==c&&b==d) w:=by
 have hna:∀ w,(isAgg e).run P w=.ok false w:=fun w=>by simp [isAgg,run_underlying h.el]
 have hna2:∀ w,(isAgg e2).run P w=.ok false w:=fun w=>by simp [isAgg,run_underlying h.el2]
 rw [show (10000:Nat)=9999+1 from rfl,run_equalIn_struct w 9999 t _ _ h.st h.held];have hf:=h.fs;generalize (P.fieldsOf t).toList=fs at hf;have hi':∀ w,∀ x y:Int,(Op.equalIn 9999 e (.int k x) (.int k y)).run P w=.ok (x==y) w:=fun w x y=>run_equalIn_int w 9998 e k k x y h.el
 have hi2':∀ w,∀ x y:Int,(Op.equalIn 9999 e2 (.int k x) (.int k y)).run P w=.ok (x==y) w:=fun w x y=>run_equalIn_int w 9998 e2 k k x y h.el2
 obtain ⟨f0,f1,rfl⟩:∃ f0 f1,fs=[f0,f1]:=by
  have hl:fs.length=2:=by have:=congrArg List.length hf;simpa using this
  match fs,hl with
  | [f0,f1],_=>exact ⟨f0,f1,rfl⟩
 simp only [List.map_cons,List.map_nil,List.cons.injEq,Prod.mk.injEq,beq_eq_false_iff_ne,and_true] at hf;obtain ⟨⟨n0,t0,o0⟩,n1,t1,o1⟩:=hf;have p0:∀ w (a b:Int),(part e #[Value.int k a,.int k b] 0).run P w=.ok (.int k a) w:=fun w a b=>Yb0 w hna rfl
 have p1:∀ w (a b:Int),(part e2 #[Value.int k a,.int k b] 1).run P w=.ok (.int k b) w:=fun w a b=>Yb0 w hna2 rfl
 simp only [Op.eqFields,ne_eq,n0,n1,not_false_eq_true,if_true,Sem.run_bind,t0,t1,o0,o1,p0,Result.andThen_ok,hi'];by_cases h1:a=c<;>by_cases h2:b=d<;>simp [h1,h2,p1,hi2']
end
section
variable {C:Cx} {ops:Array Oper} {Q:Qt} {ρ ρ':Ro} {η η' η2:Eta} {rest:List Oper} {T d X Y:Nat} {pos:String} {af:Array Edge} {op:Op} {x y z:Operand}
theorem Zd0 {P:Program} {e e2:Nat} {k:IntKind} {a b a' b':Int} (h:EqD2 P X e e2 k) (kk:OL C ops Q rest ((d,bool (!(a==a'&&b==b')))::ρ) η) (hP:C.P=P:=by with_unfolding_all exact rfl)
  (hx:ev2 ρ x=some (.st [.raw (.int k a),.raw (.int k b)]):=by with_unfolding_all exact rfl) (hy:ev2 ρ y=some (.st [.raw (.int k a'),.raw (.int k b')]):=by with_unfolding_all exact rfl) (hd:Nat.blt d C.N=true:=by with_unfolding_all exact rfl) :
  OL C ops Q (⟨some d,.binOp .neq X x y Y,T,pos,af,none⟩::rest) ρ η:=by
 subst hP;exact ZaG (Ycm (ng:=true) (us:=[.int k a,.int k b]) (vs:=[.int k a',.int k b']) hx hy (fun w=>V.eqD2 w h a b a' b') h.gd) hd kk
end
def YrS:List AV→List AV→Prop
 | [],[]=>True
 | x::r,y::s=>LEs (ts []) x.cells y.cells∧YrS r s
 | _,_=>False
theorem YrS.len:∀ {xs ys:List AV},YrS xs ys→xs.length=ys.length
 | [],[],_=>rfl
 | _::_,_::_,h=>by rw [List.length_cons,List.length_cons,YrS.len h.2]
 | [],_::_,h=>h.elim
 | _::_,[],h=>h.elim
theorem YrS.get:∀ {xs ys:List AV},YrS xs ys→∀ (j:Nat) x y,xs[j]?=some x→ys[j]?=some y→LEs (ts []) x.cells y.cells
 | [],_,_,j,x,y,h,_=>by simp at h
 | _::_,[],h,_,_,_,_,_=>h.elim
 | a::r,b::s,h,0,x,y,h1,h2=>by simp at h1 h2;subst h1 h2;exact h.1
 | a::r,b::s,h,j+1,x,y,h1,h2=>YrS.get h.2 j x y (by simpa using h1) (by simpa using h2)
theorem LE.slc {τ:Nat→Option Nat} {sz nl} {xs ys:List AV} (h:YrS xs ys):LE τ (.sl sz nl xs) (.sl sz none ys):=by
 intro m w γ γ' _ v hr;have hl:=h.len
 cases hr with
 | nil _ =>
   have:ys=[]:=List.eq_nil_of_length_eq_zero (by simpa using hl.symm)
   subst this;exact .nil nofun
 | sl0 _ =>
   have:ys=[]:=List.eq_nil_of_length_eq_zero (by simpa using hl.symm)
   subst this;exact .sl0 nofun
 | sl cv hn h1 h2 hc hr =>
   rw [hl];have hxi:∀ (i:Nat) y,ys[i]?=some y→∃ x,xs[i]?=some x:=fun i y hi=>by
    have hlt:=(List.getElem?_eq_some_iff.1 hi).1;exact ⟨_,List.getElem?_eq_getElem (by omega)⟩
   refine .sl cv nofun (by omega) h2 (fun i y hi=>?_) (fun i y j c z hi hc1 hz=>?_)
   ·obtain ⟨x,hx⟩:=hxi i y hi;obtain ⟨a,b,c,d⟩:=hc i x hx;exact ⟨a,by rw [← (LEs.get (h.get i x y hx hi)).1];exact b,c,d⟩
   ·obtain ⟨x,hx⟩:=hxi i y hi;have hle:=h.get i x y hx hi;have hj:j < x.cells.length:=by rw [(LEs.get hle).1];exact (List.getElem?_eq_some_iff.1 hz).1
    exact (LEs.get hle).2 j _ z (List.getElem?_eq_getElem hj) hz m w [] [] (fun i j h=>by cases h) c (hr i x j c _ hx hc1 (List.getElem?_eq_getElem hj))
section
variable {C:Cx} {ops:Array Oper} {Q:Qt} {ρ:Ro} {η η2:Eta} {rest:List Oper} {T d X:Nat} {pos:String} {af:Array Edge} {x y:Operand} {A:Code}
variable {z:Operand} {M:Bool}
def YuW (C:Cx) (ρ1:Ro) (η1:Eta) (Q:Qt):Qt:=fun e a w=>match e with
 | .normal=>A2 C.N C.D C.B a w ρ1 η1
 | e=>Q e a w
theorem ZaO {Q:Qt} (ρ1:Ro) (η1:Eta) (h1:TC C (YuW C ρ1 η1 Q) A ρ η) (h2:TX C Q .normal ρ1 η1):TC C Q A ρ η:=fun a w hA=>Cx.mono (h1 a w hA) fun e a w h=>by
 cases e with
 | normal=>exact h2 a w h
 | _=>exact h
theorem ZaP {Q:Qt} {ρ1:Ro} {η1:Eta} (σ:List Nat) (hn:YbG σ=true:=by with_unfolding_all exact rfl) (hp:Ycy C.n 0 σ=true:=by with_unfolding_all exact rfl)
  (ho:Ybw (ts σ) η σ η1:=by repeat' (first|with_unfolding_all exact trivial|exact OE.ren (by with_unfolding_all exact rfl)|with_unfolding_all exact OE.gs|with_unfolding_all refine And.intro ⟨_,by with_unfolding_all exact rfl,?_⟩ ?_))
  (hr:YdG (ts σ) ρ ρ1:=by repeat' (first|with_unfolding_all exact trivial|exact LE.ren (by with_unfolding_all exact rfl)|with_unfolding_all exact LE.sl|with_unfolding_all exact LE.nil (by decide)|with_unfolding_all exact LE.junk|with_unfolding_all refine And.intro ⟨_,by with_unfolding_all exact rfl,?_⟩ ?_)):TX C (YuW C ρ1 η1 Q) .normal ρ η:=fun _ _ hA=>hA.sel C.hn hn hp ho hr
theorem ZaL {ops:Array Oper} {fi fuel:Nat} {listed:Array Bool} {x y:AV} (t:Nat) (h:LE (ts []) x y) (k:OD C M fi ops Q fuel listed ((t,y)::ρ) η) (hx:lk ρ t=some x:=by with_unfolding_all exact rfl):OD C M fi ops Q fuel listed ρ η:=
 fun a w hA=>k a w (hA.know hx fun m w γ v hr=>h m w γ γ (fun i j h=>by cases h) v hr)
end
section
variable {C:Cx} {ops:Array Oper} {Q:Qt} {md:Region.Mode} {R:World→World→Prop} {fi:Nat}
theorem Ydk (hrf:∀ w,R w w) {i:Nat} {oi:Oper} {v:Value} (hi:ops[i]?=some oi) (hsel:∀ (j:Nat) (o:Oper) cs b,ops[j]?=some o→o.op≠.select cs b)
  (hdf:∀ (j:Nat) (o:Oper),ops[j]?=some o→∀ c,o.op≠.defer c)
  (hQ:∀ c a w,Q (.panic c) (a.put oi.dst v) w→Q (.panic c) a w) :
  ∀ (fuel:Nat) (listed:Array Bool) (a:Act) (w:World),YeV md ops listed →
   (∀ (j:Nat) oj,ops[j]?=some oj→j≠i→listed.getD j true=false→(∀ e∈oj.after,Region.binds md e=true→e.on≠i)→oi.apart ops oj=true) →
   i∈Region.ready md ops listed→YieldsIf C.P ops (fun _=>True) oi v a →
   Yb9 C md ops Q R fi fuel (listed.setIfInBounds i true) (a.put oi.dst v) w→Yb9 C md ops Q R fi (fuel+1) listed a w:=by
 intro fuel;induction fuel with
 | zero =>
   intro listed a w _ _ hr hy H;refine ⟨fun h=>(by rw [h] at hr;cases hr),fun j hj=>?_⟩;by_cases hji:j=i
   ·subst hji;exact Cx.O_yields hi hy trivial ⟨.inr (hrf w),H⟩
   ·have:=ready_mono hj hji
    rw [H.1] at this
    cases this
 | succ fuel ih =>
   intro listed a w hcl hfree hr hy H;refine ⟨fun h=>(by rw [h] at hr;cases hr),fun j hj=>?_⟩;by_cases hji:j=i
   ·subst hji;exact Cx.O_yields hi hy trivial ⟨.inr (hrf w),H⟩
   ·have h1:=H.2 j (ready_mono hj hji);obtain ⟨hjun,oj,hoj,hall⟩:=mem_ready.1 hj;have hnot:∀ e∈oj.after,Region.binds md e=true→e.on≠i:=fun e he hb heq=>by
     have h1:=hall e he hb;have h0:=(mem_ready.1 hr).1;rw [heq] at h1;rcases Nat.lt_or_ge i listed.size with h'|h'
     ·simp [h'] at h0 h1;rw [h0] at h1;cases h1
     ·simp [Array.getElem?_eq_none h'] at h1
    have h2:=Cx.O_put hoj (hfree j oj hoj hji hjun hnot) (fun cs b=>hsel i oi cs b hi) (fun cs b=>hsel j oj cs b hoj) (hdf j oj hoj) hQ hy h1;have hfree':∀ (k:Nat) ok,ops[k]?=some ok→k≠i→(listed.setIfInBounds j true).getD k true=false →
      (∀ e∈ok.after,Region.binds md e=true→e.on≠i)→oi.apart ops ok=true:=fun k ok hk hki hun hno=>by
     refine hfree k ok hk hki ?_ hno;by_cases hjk:j=k
     ·subst hjk;exact hjun
     ·rw [getD_set_ne true hjk] at hun;exact hun
    refine Cx.O_mono (fun a' w' h3=>?_) h2;refine ⟨h3.2.1,ih (listed.setIfInBounds j true) a' w' (hcl.set hj) hfree' (ready_mono hr (Ne.symm hji)) h3.1 ?_⟩;rw [Array.setIfInBounds_comm _ _ hji];exact h3.2.2
end
def Yn8 (ops:Array Oper) (listed:Array Bool) (i:Nat):Bool:=
 Region.noSelect ops&&Region.free .any ops listed i&&(Region.ready .any ops listed).contains i&&Yju .any ops listed&&Yjt ops
section
variable {C:Cx} {M:Bool} {fi fuel i:Nat} {l:List Oper} {Q:Qt} {listed:Array Bool} {ρ:Ro} {η:Eta} {d T:Nat} {pos:String} {af:Array Edge} {op:Op} {g:Option (Nat × Bool)} {u:AV}
theorem Zao (i:Nat) (k:OD C M fi l.toArray Q fuel (listed.setIfInBounds i true) ((d,u)::ρ) η) (hi:l.toArray[i]?=some ⟨some d,op,T,pos,af,g⟩:=by with_unfolding_all exact rfl) (hb:Yn8 l.toArray listed i=true:=by kernel_rfl) (hQ:YaM Q:=by with_unfolding_all exact fun _ _ _ _ _ h=>h)
  (hg:GB l.toArray ρ g true:=by first|with_unfolding_all exact rfl|with_unfolding_all exact ⟨_,_,rfl,rfl,rfl⟩) (h:Yaj C.P C.N C.D op ρ η u false:=by exact gv) (hd:Nat.blt d C.N=true:=by with_unfolding_all exact rfl):OD C M fi l.toArray Q (fuel+1) listed ρ η:=by
 intro a w hA;simp only [Yn8,Bool.and_eq_true] at hb;obtain ⟨⟨⟨⟨h1,h2⟩,h3⟩,h4⟩,h6⟩:=hb;obtain ⟨m,γ,ρc,hE,hR,hI⟩:=id hA;obtain ⟨v,hv,hrun⟩:=h hE hR hI.heap;have hA':A2 C.N C.D C.B (a.put (some d) v) w ((d,u)::ρ) η:=⟨m,γ,(d,v)::ρc,hE.put v (by simpa using hd),⟨rfl,hv,hR⟩,hI⟩;exact Ydk (RM.refl M) hi (Region.noSelect_spec h1) (Ycu h6) (fun c a w h=>hQ c a w d _ h) fuel listed a w (YbR h4) (Region.free_spec hi h2) (by simpa using h3)
  (.inl ⟨GB.wanted (o:=⟨some d,op,T,pos,af,g⟩) hE hR hg,fun w' _=>hrun (m':=m) nofun d T pos af g⟩) (k _ _ hA')
variable {A:Code} {e:Exit} {ops:Array Oper} {rest:List Oper} {η2:Eta}
theorem Zeb {ρ1:Ro} {η1:Eta} {k:Nat} (s:Nat) (is:List Nat) (_hk:lk ρ s=some (.bp k 0):=by with_unfolding_all exact rfl) (hn:YbG (is++[k])=true:=by with_unfolding_all exact rfl) (hp:Ycy C.n 0 (is++[k])=true:=by with_unfolding_all exact rfl)
  (ho:Ybw (ts (is++[k])) η (is++[k]) η1:=by repeat' (first|with_unfolding_all exact trivial|exact OE.ren (by with_unfolding_all exact rfl)|with_unfolding_all exact OE.gs|with_unfolding_all refine And.intro ⟨_,by with_unfolding_all exact rfl,?_⟩ ?_))
  (hr:YdG (ts (is++[k])) ρ ρ1:=by repeat' (first|with_unfolding_all exact trivial|exact LE.ren (by with_unfolding_all exact rfl)|with_unfolding_all exact LE.sl|with_unfolding_all exact LE.nil (by decide)|with_unfolding_all exact LE.junk|with_unfolding_all refine And.intro ⟨_,by with_unfolding_all exact rfl,?_⟩ ?_)):TX C (YuW C ρ1 η1 Q) .normal ρ η:=fun _ _ hA=>hA.sel C.hn hn hp ho hr
end
section
variable {P:Program} {f:Nat} {as:List AV} {r r2:AV} {η η1 η2:Eta} {tab:Tab} {ρ:Ro}
theorem Spec.drop (h:Spec P f as [] r η1) (hle:LE (ts []) r r2):Spec P f as [] r2 []:=by
 intro m w γ vs hH hV;refine (h m w γ vs hH hV).mono ?_;rintro e w' ⟨v,m',γ',rfl,hI,hr⟩;obtain ⟨γ2,h1,h2⟩:=hI.sel (n:=0) (σ:=[]) (η':=[]) (by show γ.length=0;exact hH.len) rfl rfl trivial;exact ⟨v,m',γ2,rfl,h2,hle _ _ _ _ h1 _ hr⟩
end
section
variable {C:Cx} {M:Bool} {fi:Nat} {l:List Oper} {Q:Qt} {fuel:Nat} {listed:Array Bool} {ρ:Ro} {η:Eta}
theorem Zch (i j k q:Nat) (h1:Yaa C M fi l Q fuel listed ρ η i) (h2:Yaa C M fi l Q fuel listed ρ η j) (h3:Yaa C M fi l Q fuel listed ρ η k) (h4:Yaa C M fi l Q fuel listed ρ η q) (hr:Region.ready .any l.toArray listed=[i,j,k,q]:=by kernel_rfl):OD C M fi l.toArray Q (fuel+1) listed ρ η:=fun a w hA =>
 ⟨fun h=>(by rw [hr] at h;cases h),fun x hx=>by
  rw [hr] at hx;simp only [List.mem_cons,List.not_mem_nil,or_false] at hx;rcases hx with rfl|rfl|rfl|rfl
  ·exact h1 a w hA
  ·exact h2 a w hA
  ·exact h3 a w hA
  ·exact h4 a w hA⟩
end
theorem CL.take {γ m} {w:World} {vs:List Value} {cs:List AV} (n:Nat) (h:CL γ m w vs cs):CL γ m w (vs.take n) (cs.take n):=by
 refine ⟨by rw [List.length_take,List.length_take,h.1],fun c hc=>h.2.1 c (List.mem_of_mem_take hc),fun j v c hv hc=>?_⟩;rw [List.getElem?_take] at hv hc;split at hv
 ·rename_i hj
  rw [if_pos hj] at hc;exact h.2.2 j v c hv hc
 ·cases hv
theorem CL.drop {γ m} {w:World} {vs:List Value} {cs:List AV} (n:Nat) (h:CL γ m w vs cs):CL γ m w (vs.drop n) (cs.drop n):=by
 refine ⟨by rw [List.length_drop,List.length_drop,h.1],fun c hc=>h.2.1 c (List.mem_of_mem_drop hc),fun j v c hv hc=>?_⟩;rw [List.getElem?_drop] at hv hc;exact h.2.2 _ v c hv hc
end Go.V
