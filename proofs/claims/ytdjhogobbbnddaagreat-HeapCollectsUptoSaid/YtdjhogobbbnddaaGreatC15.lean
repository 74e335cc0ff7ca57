/- Lemmas for the claim; no conditions. -/
import Derived.Test.YtdjhogobbbnddaaGreatC14
import Derived.Laws.StructEq
import Derived.ChangeKeysEq
import Derived.Test.YtdjhogobbbnddaaGreatC13
import Derived.Lib.SliceRun
namespace Go.V
open Go Go.W
section
variable {P:Program} (w:World)
theorem Yb0 {e:Nat} {xs:Array Value} {o:Nat} {v:Value} (h:∀ w,(isAgg e).run P w=.ok false w) (hx:xs[o]?=some v):(part e xs o).run P w=.ok v w:=by
 simp [part,h,hx]
end
section
variable {C:Cx} {ops:Array Oper} {Q:Qt} {ρ ρ':Ro} {η η' η2:Eta} {rest:List Oper} {T d X Y:Nat} {pos:String} {af:Array Edge} {op:Op} {x y z:Operand}
theorem YpX {m w γ v} {us:List Value} (h:Rep m w γ v (.st (us.map .raw))):v=.agg us.toArray:=by
 cases h with
 | @st _ vs _ hl h1 hr =>
 congr;refine List.ext_getElem? fun j=>?_
 cases hv:vs[j]? with
 | none =>
   have:us[j]?=none:=by
    rw [List.getElem?_eq_none_iff] at hv ⊢;simp at hl;omega
   rw [this]
 | some q =>
   have hlt:=(List.getElem?_eq_some_iff.1 hv).1;have hu:us[j]?=some (us[j]'(by simp at hl;omega)):=List.getElem?_eq_getElem _;rw [hu];have:=(hr j q (.raw (us[j]'(by simp at hl;omega))) hv (by rw [List.getElem?_map,hu];rfl)).raw_eq
   rw [this]
theorem Ycm {us vs:List Value} {b:Bool} {ng:Bool} (hx:ev2 ρ x=some (.st (us.map .raw))) (hy:ev2 ρ y=some (.st (vs.map .raw))) (h:∀ w,(Op.equalIn 10000 X (.agg us.toArray) (.agg vs.toArray)).run C.P w=.ok b w) (hg:C.P.eqGuardType C.P.depth X=false) {M} :
  Yaj C.P C.N C.D (.binOp (bif ng then .neq else .eql) X x y Y) ρ η (.raw (.bool (bif ng then !b else b))) M:=fun m w γ ρc a hE hR hH=>by
 obtain ⟨v1,g1,g2⟩:=hR.ev hx;obtain ⟨v2,g3,g4⟩:=hR.ev hy;have e1:=YpX g2;have e2:=YpX g4;subst e1 e2;refine ⟨_,.raw rfl,fun {m' w'} _ _ _ _ _ _=>?_⟩
 cases ng<;>simp only [cond_true,cond_false]<;>simp [execOp,hE.ev g1,hE.ev g3,run_eqGuard_agg w' _ X x y us.toArray vs.toArray hg,run_eql_struct,run_neq_struct,h]
end
/-! ### An operation whose guard's own operation was not run -/
def GU (ops:Array Oper) (ρ:Ro) (g:Option (Nat × Bool)):Prop:=∃ j b oj dj,g=some (j,b)∧ops[j]?=some oj∧oj.dst=some dj∧lk ρ dj=some (.tp [])
theorem GU.wanted {ops:Array Oper} {m w γ ρc ρ a N D} {o:Oper} (hE:Env N D a ρc) (hR:RL m w γ ρc ρ) (h:GU ops ρ o.guard):Region.wanted o (yielded ops a.tmps)=false:=by
 obtain ⟨j,b,oj,dj,hg,h1,h2,h3⟩:=h;obtain ⟨v,g1,g2⟩:=hR.look h3
 cases g2 with
 | @tp _ vs _ hl hr =>
   obtain rfl:vs=[]:=List.length_eq_zero_iff.1 hl;simp [Region.wanted,hg,yielded,h1,h2,hE.look _ _ g1]
section
variable {C:Cx} {M:Bool} {fi fuel:Nat} {l:List Oper} {Q:Qt} {listed:Array Bool} {ρ:Ro} {η:Eta} {d T:Nat} {pos:String} {af:Array Edge} {op:Op} {g:Option (Nat × Bool)}
theorem ZaW (i:Nat) (k:OD C M fi l.toArray Q fuel (listed.setIfInBounds i true) ((d,.tp [])::ρ) η) (hi:l.toArray[i]?=some ⟨some d,op,T,pos,af,g⟩:=by with_unfolding_all exact rfl) (hb:YeP l.toArray listed fi i=true:=by kernel_rfl) (hQ:YaM Q:=by with_unfolding_all exact fun _ _ _ _ _ h=>h)
  (hg:GU l.toArray ρ g:=by with_unfolding_all exact ⟨_,_,_,_,rfl,rfl,rfl,rfl⟩) (hd:Nat.blt d C.N=true:=by with_unfolding_all exact rfl):OD C M fi l.toArray Q (fuel+1) listed ρ η:=
 OD.take (ρ':=(d,.tp [])::ρ) (η':=η) (v:=fun _ _=>undef) hi hb hQ rfl (fun a w ⟨m,γ,ρc,hE,hR,hI⟩=>⟨.inr ⟨GU.wanted (o:=⟨some d,op,T,pos,af,g⟩) hE hR hg,rfl⟩,⟨m,γ,(d,undef)::ρc,hE.put undef (by simpa using hd),⟨rfl,.tp (vs:=[]) rfl (by simp),hR⟩,hI⟩⟩) k
end
section
variable {C:Cx} {ops:Array Oper} {Q:Qt} {ρ ρ1:Ro} {η η1 η2:Eta} {rest:List Oper} {T d:Nat} {pos:String} {af:Array Edge} {x:Operand}
theorem Wk.trans {ρ2:Ro} (h:Wk C ρ η ρ1 η1) (k:Wk C ρ1 η1 ρ2 η2):Wk C ρ η ρ2 η2:=fun a w hA=>k a w (h a w hA)
theorem Wk.refl:Wk C ρ η ρ η:=fun _ _ h=>h
def Yr5:AV→Bool
 | .raw _=>true
 | .tp vs=>vs.all fun|.raw _=>true|_=>false
 | _=>false
theorem Ypd {m w γ v x} (h:Yr5 x=true) (hr:Rep m w γ v x) (m' w' γ'):Rep m' w' γ' v x:=by
 cases hr with
 | raw h'=>exact .raw h'
 | tp hl hr =>
   refine .tp hl fun j v c a b=>?_;have hc:=List.all_eq_true.1 (show List.all _ _=true from h) c (List.mem_of_getElem? b);have hrr:=hr j v c a b
   cases hrr with
   | raw h'=>exact .raw h'
   | _=>simp at hc
 | _=>cases h
theorem Zc5 {P:Program} {f:Nat} {fn:Func} {us as:List AV} {r:AV} {args:List Operand} {at_:Array TypeId} (hwk:Wk C ρ η ρ1 η1) (hs:Spec P f as [] r []) (hf:P.funcs[f]?=some fn) (k:OL C ops Q rest ((d,r)::ρ) η)
  (hP : C.P = P := by with_unfolding_all exact rfl) (hb : (fn.body.isNone || fn.name == "runtime.NumGoroutine") = false := by with_unfolding_all exact rfl) (hl : Yc6 ρ1 args = some us := by with_unfolding_all exact rfl)
  (hle:LEs (ts []) us as:=by repeat' (first|with_unfolding_all exact trivial|exact LE.ren (by with_unfolding_all exact rfl)|with_unfolding_all exact LE.sl|with_unfolding_all exact LE.nil (by decide)|with_unfolding_all refine And.intro ?_ ?_)) (hd:Nat.blt d C.N=true:=by with_unfolding_all exact rfl) (hq:Yr5 r=true:=by with_unfolding_all exact rfl) :
  OL C ops Q (⟨some d,.call ⟨.value (.func f),args.toArray,at_⟩,T,pos,af,none⟩::rest) ρ η:=by
 subst hP;rintro a w hA;obtain ⟨m1,γ1,ρc1,hE1,hR1,hI1⟩:=hwk a w hA;obtain ⟨m,γ,ρc,hE,hR,hI⟩:=hA;obtain ⟨vs,h1,h2⟩:=hR1.evs hl;obtain ⟨hsh,hH1,_⟩:=hI1.heap.sel (η':=[]) (σ:=[]) rfl trivial;have hc:=hs m1 w _ vs hH1 (hle.vl hsh h2);simp at hb;have hb':fn.body≠none:=Option.isSome_iff_ne_none.1 hb.1;refine Cx.lcons (Ycf (f:=f) (args:=vs.toArray) rfl ?_ (hc.mono fun e w' ⟨v,m',γ1',he,hC,hv⟩=>⟨v,he,?_⟩))
 ·have he:a.eval (.func f)=.func (.func f) #[] #[]:=rfl;simp [execOp,resolve,he,Deferred.ofValue,invoke,callFunc,hf,hb.2,hb',hE1.evs h1]
 ·have hfar:Far [] m1 w m' w':=hC.far;have hk:Keep m w (fun b=>if b < w.heap.size then m b else m' b) w':=⟨hfar.keep.grown,fun b hb=>if_pos hb⟩;have hext:=hk.ext;exact k _ _ ⟨_,γ,_,hE.put v (by simpa using hd),⟨rfl,Ypd hq hv _ _ _,hR.mono hext (.refl _)⟩,hI.keep hk⟩
end
theorem LE.funT {τ : Nat → Option Nat} {P : Program} {ι : Type} {f : Nat} {fn : Func} {first caps first' caps' : List AV} {dom : ι → Prop} {as r e} (hf : P.funcs[f]? = some fn) (hb : (fn.body.isNone || fn.name == "runtime.NumGoroutine") = false) (h1 : LEs (ts []) first first') (h2 : LEs (ts []) caps caps')
  (hs:∀ x,dom x→Spec P f (first'++as x++caps') [] (r x) (e x)):LE τ (.fn (.func f) first caps) (.pr (YdQ P dom as r e)):=fun _m _w _γ _γ' _hsh _v hr=>by
 have:=LE.fun_ (P:=P) (dom:=dom) (as:=as) (r:=r) (e:=e) hf hb h1 h2 hs
 exact Rep.mono (.refl _ _) (fun i v h=>by simp at h) (this _ _ _ [] (fun i j h=>by cases h) _ hr)
section
variable {C:Cx} {ops:Array Oper} {Q:Qt} {ρ ρ':Ro} {η η' η2:Eta} {rest:List Oper} {T d X Y:Nat} {pos:String} {af:Array Edge} {op:Op} {x y z:Operand} {A K:Code} {e:Exit}
def rvG (tmps:Array Value) (rv:ResultVar):Sem Value:=match rv with
 | .tmp t=>pure (tmps.getD t undef)
 | .cell p t=>do loadVar t (← asAddr (tmps.getD p undef))
theorem Yec (fn:Func) (tmps:Array Value):results fn tmps=(do
  let vs ← fn.results.mapM (rvG tmps)
  pure (if h:vs.size=1 then vs[0] else .tuple vs)):=by
 unfold results;congr 1
def RV (C:Cx) (ρ:Ro) (η:Eta):ResultVar→AV→Prop
 | .tmp t,u=>lk ρ t=some u
 | .cell t X,u=>∃ i E n cs,lk ρ t=some (.bp i 0)∧(C.tab X).map (fun e=>(e.sh.agg,e.size))=some (true,n)∧η[i]?=some (.cb E cs)∧cs.length=n∧u=.st cs
theorem RV.run {rv:ResultVar} {u:AV} {m w γ ρc N D a} (h:RV C ρ η rv u) (hE:Env N D a ρc) (hR:RL m w γ ρc ρ) (hH:Heap m w γ η) :
  ∃ v,(rvG a.tmps rv).run C.P w=.ok v w∧Rep m w γ v u:=by
 cases rv with
 | tmp t =>
   obtain ⟨v,h1,h2⟩:=hR.look h;have hg:=hE.get h1;exact ⟨v,by simp only [rvG,hg];rfl,h2⟩
 | cell t X =>
   obtain ⟨i,E,n,cs,hx,hs,hb,hl,rfl⟩:=h;obtain ⟨v,h1,h2⟩:=hR.look hx
   cases h2 with
   | @bp _ _ _ b hb' =>
   obtain ⟨b',vs,e,hB,hC⟩:=hH.ok i _ _ hb' hb
   cases e
   cases ht:C.tab X with
   | none=>rw [ht] at hs;cases hs
   | some te =>
     rw [ht] at hs;simp at hs;obtain ⟨dd,hu,hd⟩:=(C.hT X te ht).sh;obtain ⟨inf,i1,i2,_⟩:=(C.hT X te ht).info;have hvl:vs.length=te.size:=by rw [hC.1,hl,hs.2]
     refine ⟨.agg vs.toArray,?_,.st hC.1 hC.2.1 hC.2.2⟩;have hagg:=(C.hT X te ht).agg hs.1 w;have hll:=run_loadCells_list (P:=C.P) w ⟨b,0,none⟩ vs (fun j c hj=>by rw [Yak,Nat.zero_add];exact hB.cell hj);have hl':(loadCells ⟨b,0,none⟩ te.size).run C.P w=.ok vs.toArray w:=by rw [← hvl];simpa using hll
     have hg:=hE.get h1;have hlv:(loadVar X ⟨b,0,none⟩).run C.P w=.ok (.agg vs.toArray) w:=by simp [loadVar,hagg,sizeOf,typeInfo,i1,i2,hl']
     simp only [rvG,hg];simp [asAddr,hlv]
theorem Zd3 {fn:Func} {v1 v2:ResultVar} {u1 u2 r1 r2:AV} (σ:List Nat) (hD:C.D=[]) (hres:fn.results=#[v1,v2]) (h1:RV C ρ η v1 u1) (h2:RV C ρ η v2 u2) (hn:YbG σ=true) (hp:Ycy C.n 0 σ=true) (ho:Ybw (ts σ) η σ η') (hle1:LE (ts σ) u1 r1) (hle2:LE (ts σ) u2 r2) :
  TX C (bodyPost C.P fn (YbF C.B (.tp [r1,r2]) η')) .ret ρ η:=by
 rintro a w ⟨m,γ,ρc,hE,hR,hI⟩;obtain ⟨w1,a1,b1⟩:=h1.run hE hR hI.heap;obtain ⟨w2,a2,b2⟩:=h2.run hE hR hI.heap;obtain ⟨γ',g1,g2⟩:=hI.sel C.hn hn hp ho;rw [hD] at hE;refine bodyPost_ret (v:=.tuple #[w1,w2]) ?_ hE.defers ⟨_,m,γ',rfl,g2,.tp (vs:=[w1,w2]) rfl fun j v c hv hc=>?_⟩
 ·rw [Yec,hres];simp [a1,a2]
 match j with
 | 0=>simp at hv hc;subst hv hc;exact hle1 _ _ _ _ g1 _ b1
 | 1=>simp at hv hc;subst hv hc;exact hle2 _ _ _ _ g1 _ b2
 | j+2=>simp at hv
theorem Zc7 {t i o:Nat} {fz E sz nl} {xs cs:List AV} (hx:lk ρ t=some (.st cs)) (hc:cs[o]?=some (.hs i)) (ho:η[i]?=some (.gs fz E sz nl xs)):Wk C ρ η ((t,.st (cs.set o (.sl sz none xs)))::ρ) (η.set i (.gs true E sz nl xs)):=by
 rintro a w ⟨m,γ,ρc,hE,hR,hI⟩;obtain ⟨v,hv,hok⟩:=hI.heap.get ho;obtain ⟨m',h1,h2,h3⟩:=hI.freeze hv ho;obtain ⟨u,g1,g2⟩:=hR.look hx;have g3:=g2.mono h1 (.refl _)
 cases g2 with
 | @st _ vs _ hl k1 k2 =>
 refine ⟨m',γ,(t,.agg vs.toArray)::ρc,⟨hE.size,hE.defers,fun s q hs=>?_⟩,⟨rfl,.st (by simpa using hl) k1 (fun j p c hp hcc=>?_),hR.mono h1 (.refl _)⟩,h3⟩
 ·simp only [W.look] at hs
  cases hb:Nat.beq t s with
  | true =>
    rw [hb] at hs;simp at hs;subst hs;rw [← Nat.eq_of_beq_eq_true hb];exact hE.look _ _ g1
  | false=>rw [hb] at hs;exact hE.look _ _ (by simpa using hs)
 ·rw [List.getElem?_set] at hcc;split at hcc
  ·rename_i e
   subst e;split at hcc
   ·cases hcc
    have:=(k2 o p (.hs i) hp hc).hs_get.1
    rw [hv] at this;cases this;exact Rep.of_rs h2.rs (NL.none _)
   ·cases hcc
  ·exact (k2 j p c hp hcc).mono h1 (.refl _)
theorem Zc8 {i E sz:Nat} {fz nl} {xs cs us:List AV} (t o:Nat) (k:OL C ops Q rest ((t,.st us)::ρ) η2) (hx:lk ρ t=some (.st cs):=by with_unfolding_all exact rfl) (hc:cs[o]?=some (.hs i):=by with_unfolding_all exact rfl) (ho:η[i]?=some (.gs fz E sz nl xs):=by with_unfolding_all exact rfl) (hu:cs.set o (.sl sz none xs)=us:=by (try dsimp only [List.set])<;>exact rfl) (hη:η.set i (.gs true E sz nl xs)=η2:=by (try dsimp only [List.set])<;>exact rfl):OL C ops Q rest ρ η:=Za5 (Zc7 hx hc ho) (by rw [hu,hη];exact k)
theorem Yfy {P:Program} {tab:Tab} {N:Nat} {D:List Deferred} {u} {cs us:List AV} {o n:Nat} (hT:YaX P tab) (hs:(tab X).map (fun e=>(e.sh.agg,e.size))=some (true,n)) (hx:ev2 ρ x=some u) (hb:YaJ η u=some (cs,o)) (hu:(cs.drop o).take n=us) (hn:us.length=n):Yaj P N D (.load X x) ρ η (.st us):=fun _ _ _ _ _ hE hR hH=>by
 obtain ⟨v,h1,h2⟩:=hR.ev hx;obtain ⟨b,q,vs,rfl,hC,hK⟩:=YfV hH h2 hb;subst hu;have hlen:((vs.drop o).take n).length=n:=by
  rw [List.length_take,List.length_drop] at hn ⊢;rw [hC.1];exact hn
 have hj:∀ (j:Nat) (l:List AV) (c:AV),((l.drop o).take n)[j]?=some c→l[o+j]?=some c:=fun j l c h=>by
  rw [List.getElem?_take] at h;split at h
  ·simpa using h
  ·cases h
 have hj2:∀ (j:Nat) (c:Value),((vs.drop o).take n)[j]?=some c→vs[o+j]?=some c:=fun j c h=>by
  rw [List.getElem?_take] at h;split at h
  ·simpa using h
  ·cases h
 refine ⟨.agg ((vs.drop o).take n).toArray,.st (by rw [hlen,hn]) (fun c hc=>hC.2.1 c (List.mem_of_mem_drop (List.mem_of_mem_take hc))) (fun j v c a a'=>hC.2.2 (o+j) v c (hj2 j v a) (hj j cs c a')),fun {m' w'} hk _ _ _ _ _=>?_⟩
 cases ht:tab X with
 | none=>rw [ht] at hs;cases hs
 | some te =>
   rw [ht] at hs;simp at hs;have hagg:=(hT X te ht).agg hs.1;obtain ⟨inf,i1,i2,_⟩:=(hT X te ht).info;have hl:=run_loadCells_list (P:=P) w' ⟨b,q+o,none⟩ ((vs.drop o).take n) (fun j c h=>by rw [Yak,Nat.add_assoc];exact hK (hk rfl) (o+j) c (hj2 j c h));rw [hlen] at hl;have hq:inf.size=n:=i2.trans hs.2;simp [execOp,hE.ev h1,Instr.loadAt,Instr.sureAddr,loadVar,hagg,sizeOf,typeInfo,i1,hq,hl]
theorem Zbt {u} {cs us:List AV} {o n:Nat} (kk:OL C ops Q rest ((d,.st us)::ρ) η) (hs:(C.tab X).map (fun e=>(e.sh.agg,e.size))=some (true,n):=by with_unfolding_all exact rfl) (hx:ev2 ρ x=some u:=by with_unfolding_all exact rfl) (hb:YaJ η u=some (cs,o):=by with_unfolding_all exact rfl) (hu:(cs.drop o).take n=us:=by with_unfolding_all exact rfl) (hn:us.length=n:=by with_unfolding_all exact rfl) (hd:Nat.blt d C.N=true:=by with_unfolding_all exact rfl) :
  OL C ops Q (⟨some d,.load X x,T,pos,af,none⟩::rest) ρ η:=ZaG (Yfy C.hT hs hx hb hu hn) hd kk
theorem gvM {M:Bool} {u} {cs us:List AV} {o n:Nat} (hM:M=true:=by rfl) (hs:(C.tab X).map (fun e=>(e.sh.agg,e.size))=some (true,n):=by with_unfolding_all exact rfl) (hx:ev2 ρ x=some u:=by with_unfolding_all exact rfl) (hb:YaJ η u=some (cs,o):=by with_unfolding_all exact rfl) (hu:(cs.drop o).take n=us:=by with_unfolding_all exact rfl) (hn:us.length=n:=by with_unfolding_all exact rfl):Yaj C.P C.N C.D (.load X x) ρ η (.st us) M:=by
 subst hM;exact Yfy C.hT hs hx hb hu hn
end
theorem LEs.get {τ:Nat→Option Nat}:∀ {us as:List AV},LEs τ us as→us.length=as.length∧∀ (j:Nat) x y,us[j]?=some x→as[j]?=some y→LE τ x y
 | [],[],_=>⟨rfl,by simp⟩
 | u::us,a::as,h=>by
   obtain ⟨h1,h2⟩:=LEs.get (us:=us) (as:=as) h.2;refine ⟨by simp [h1],fun j x y hx hy=>?_⟩
   cases j with
   | zero=>simp at hx hy;subst hx hy;exact h.1
   | succ j=>exact h2 j x y (by simpa using hx) (by simpa using hy)
 | [],_::_,h=>h.elim
 | _::_,[],h=>h.elim
open Go Go.W Go.RowKit
def Ym5:Obj→Bool
 | .loop _=>true
 | .deferred _=>true
 | _=>false
def Yam (B0:Nat) (m:Nat→Nat) (w:World) (m':Nat→Nat) (w':World):Prop:=
 ∃ row,w.grownBy w' row∧(∀ r,row=some r→B0≤r∧∃ o,w.heap[r]?=some o∧Ym5 o=true)∧∀ b,b < w.heap.size→m' b=m b
def Ydt {β:Type} (B0:Nat) (J:β→(Nat→Nat)→World→Prop):Prop:=∀ s m w m' w',J s m w→Yam B0 m w m' w'→J s m' w'
theorem Ydt.le {β:Type} {B0 B1:Nat} {J:β→(Nat→Nat)→World→Prop} (h:Ydt B0 J) (hb:B0≤B1):Ydt B1 J:=fun s m w m' w' hj ⟨row,h1,h2,h3⟩ =>
 h s m w m' w' hj ⟨row,h1,fun r e=>⟨Nat.le_trans hb (h2 r e).1,(h2 r e).2⟩,h3⟩
theorem Yam.keep {B0 m w m' w'} (h:Keep m w m' w'):Yam B0 m w m' w':=⟨none,h.grown,nofun,h.lim⟩
theorem Yam.put {B0 m} {w:World} {l:Nat} {o o':Obj} (hl:w.heap[l]?=some o) (ho:Ym5 o=true) (hB:B0≤l):Yam B0 m w m (w.putObj l o'):=
 ⟨some l,grownBy_putObj' w l o',fun r e=>by cases e;exact ⟨hB,o,hl,ho⟩,fun _ _=>rfl⟩
theorem YsQ {w:World} {b i c} (h:w.cell? ⟨b,i,none⟩=some c) {o:Obj} (ho:w.heap[b]?=some o):Ym5 o=false:=by
 unfold World.cell? at h;rw [ho] at h
 cases o<;>simp_all [Ym5]
theorem Yam.ext {B0 m w m' w'} (h:Yam B0 m w m' w'):Ext m w m' w':=by
 obtain ⟨row,hg,hr,hm⟩:=h;refine ⟨hg.size,fun b hb=>by rw [hm b hb];exact Nat.le_refl _,fun b i c _ hc=>?_⟩;have hlt:=YbQ hc;have hne:some b≠row:=fun e=>by
  obtain ⟨_,o,ho,hl⟩:=hr b e.symm;rw [YsQ hc ho] at hl;cases hl
 rw [World.cell?_of_block (w:=w) (hg.block b hlt hne)];exact hc
def YbN (E:Nat→Prop) (w w':World):Prop:=∀ b o,¬ E b→w.heap[b]?=some o→Ym5 o=true→w'.heap[b]?=some o
theorem YbN.refl (E w):YbN E w w:=fun _ _ _ h _=>h
theorem YbN.trans {E a b c} (h:YbN E a b) (k:YbN E b c):YbN E a c:=fun x o he ho hl=>k x o he (h x o he ho hl) hl
theorem YbN.mono {E E':Nat→Prop} {a b} (h:YbN E a b) (he:∀ x,E x→E' x):YbN E' a b:=fun x o hx ho hl=>h x o (fun e=>hx (he x e)) ho hl
theorem YbN.keep {E m w m' w'} (h:Keep m w m' w'):YbN E w w':=fun b o _ ho _=>by rw [h.block (Array.getElem?_eq_some_iff.1 ho).1];exact ho
theorem YbN.put {E:Nat→Prop} {w:World} {l:Nat} {o':Obj} (h:E l):YbN E w (w.putObj l o'):=fun b o hb ho _=>(World.putObj_heap_other (fun e=>hb (by rw [e];exact h))).trans ho
def YrN (P:Program) (l:Nat) (E:Nat→Prop) (vs:List Value) (m:Nat→Nat) (W:World) (K1 K0:(Nat→Nat)→World→Prop):Prop:=
 YieldAt Fence.wide 0 P l vs.toArray W fun e W'=>∃ m',Ext m W m' W'∧((e=.returned (.bool true)∧YbN (fun _=>False) W W'∧K1 m' W')∨(e=.returned (.bool false)∧YbN E W W'∧K0 m' W'))
def Yox (P:Program) (gf:Nat) (lb:Array Value) {α:Type} (as:α→List AV) (L:List α) (m0:Nat→Nat) (w0:World):Prop:=
 ∀ (l:Nat) (E:Nat→Prop) (J Jx:List α→(Nat→Nat)→World→Prop) (m:Nat→Nat) (W:World),Ext m0 w0 m W→E l→(∀ b,E b→b < W.heap.size)→Ydt W.heap.size J→Ydt W.heap.size Jx →
  (∀ pre x m1 W1 vs,J pre m1 W1→(∃ r,pre++x::r=L)→VL m1 W1 [] vs (as x)→YrN P l E vs m1 W1 (J (pre++[x])) (Jx (pre++[x]))) →
  J [] m W →
  Calls P gf (#[.func (.yield l) #[] #[]]++lb) W fun e W'=>∃ v m',e=.returned v∧Ext m W m' W'∧(J L m' W'∨∃ pre,Jx pre m' W')
theorem Yox.later {P:Program} {gf:Nat} {lb:Array Value} {α:Type} {as:α→List AV} {L:List α} {m0 w0 m w} (h:Yox P gf lb as L m0 w0) (he:Ext m0 w0 m w):Yox P gf lb as L m w:=
 fun l E J Jx m1 W h1=>h l E J Jx m1 W (he.trans h1)
def YnM (P:Program) {α:Type} (as:α→List AV) (L:List α):MP where
 R m w v := ∃ gf lb fn, v = .func (.func gf) #[] lb ∧ P.funcs[gf]? = some fn ∧ (fn.body.isNone || fn.name == "runtime.NumGoroutine") = false ∧ Yox P gf lb as L m w
 mono:=fun he ⟨gf,lb,fn,h1,h2,h3,h4⟩=>⟨gf,lb,fn,h1,h2,h3,h4.later he⟩
 one:=fun ⟨gf,lb,fn,h1,_⟩=>by subst h1;rfl
/-! ## The statement -/
def Ysz {α:Type} (E:Nat→Prop) (I Ix:List α→(Nat→Nat)→World→Prop) (xs:List α) (m:Nat→Nat) (W:World):Exit→Act→World→Prop
 | .normal,_,W'=>∃ m',Ext m W m' W'∧YbN (fun _=>False) W W'∧I xs m' W'
 | .ret,_,W'=>∃ m',Ext m W m' W'∧YbN E W W'∧Ix xs m' W'
 | _,_,_=>False
abbrev YbD (D:Nat):Deferred:={ target:=.collected D,args:=#[] }
theorem YcR.notLD {m w γ v o b} (h:YcR m w γ v o) (hb:blk o v=some b) {ob:Obj} (ho:w.heap[b]?=some ob):Ym5 ob=false:=by
 cases o with
 | cb T cs =>
   obtain ⟨b',vs,rfl,hB,hC⟩:=h
   cases hb
   rw [hB.heap] at ho;cases ho;rfl
 | gs fz T sz nl xs =>
   obtain ⟨h1,h2⟩:=h;have key:∀ {C:Ycl AV} {m},W.Own T sz C m w v xs→Ym5 ob=false:=by
    intro C m h;rcases h with ⟨rfl,_⟩|⟨_,_,rfl,_⟩|⟨g,cap,cur,rfl,h0,hg,_⟩
    ·cases hb
    ·cases hb
    ·obtain ⟨c,rfl⟩:∃ c,cap=c+1:=⟨cap-1,by omega⟩
     cases hb
     rw [hg] at ho;cases ho;rfl
   cases fz with
   | true=>exact key h1
   | false=>obtain ⟨m1,h1,_⟩:=h1;exact key h1
 | mo es =>
   obtain ⟨b',l,rfl,h0,hM,_⟩:=h
   cases hb
   obtain ⟨es',clock,hM1,hM2⟩:=hM;rw [hM1] at ho;cases ho;rfl
 | mk ks =>
   obtain ⟨b',es,clock,rfl,h0,hM,_⟩:=h
   cases hb
   rw [hM] at ho;cases ho;rfl
 | gw T sz nl xs =>
   obtain ⟨⟨m1,h,_⟩,h2⟩:=h;rcases h with ⟨rfl,_⟩|⟨_,_,rfl,_⟩|⟨g,cap,cur,rfl,h0,hg,_⟩
   ·cases hb
   ·cases hb
   ·obtain ⟨c,rfl⟩:∃ c,cap=c+1:=⟨cap-1,by omega⟩
    cases hb
    rw [hg] at ho;cases ho;rfl
 | dead=>cases hb
theorem Yam.far {B0 m w m' w'} (h:Yam B0 m w m' w'):∃ S:List Nat,Far S m w m' w'∧∀ b∈S,B0≤b∧∃ o,w.heap[b]?=some o∧Ym5 o=true:=by
 have he:=h.ext;obtain ⟨row,hg,hr,hm⟩:=h;refine ⟨row.toList,⟨hg.os,hg.tape,hg.output,hg.size,fun b hb hn=>hg.block b hb (fun e=>hn (by rw [← e];simp)),fun b hb _=>hm b hb,he⟩,fun b hb=>hr b (by simpa using hb)⟩
theorem In.step {B m w γ η m' w'} (h:In B m w γ η) (hs:Yam B.w.heap.size m w m' w'):In B m' w' γ η:=by
 obtain ⟨S,hf,hS⟩:=hs.far;have hoff:∀ (i:Nat) v o,γ[i]?=some v→η[i]?=some o→∀ b,blk o v=some b→b ∉ S:=fun i v o hv ho b hb hm=>by
  obtain ⟨_,ob,h1,h2⟩:=hS b hm;rw [(h.heap.ok i v o hv ho).notLD hb h1] at h2;cases h2
 exact ⟨⟨h.heap.len,fun i v o a b=>(h.heap.ok i v o a b).far hf (hoff i v o a b) (.refl _),h.heap.apart⟩,h.far.trans hf (fun b hb=>.inr (hS b hb).1),h.own,h.pre⟩
theorem In.comp {B B' m w γ η} (h:In B' m w γ η) (hf:Far B.S B.m B.w B'.m B'.w) (ho:∀ b∈B'.S,b∈B.S∨B.w.heap.size≤b) (hp:Pre B.γ B'.γ):In B m w γ η:=
 ⟨h.heap,hf.trans h.far ho,fun i v o b hv hq hb=>(h.own i v o b hv hq hb).elim (fun e=>ho b e) (fun e=>.inr (Nat.le_trans hf.size e)),hp.trans h.pre⟩
theorem In.rebase {B m w γ η} (h:In B m w γ η) {γ0:List Value} (hp:Pre γ0 γ):In ⟨m,w,Ybl γ η,γ0⟩ m w γ η:=
 ⟨h.heap,.refl _ _ _,fun i v o _b h1 h2 h3=>.inl (Yap.2 ⟨i,v,o,h1,h2,h3⟩),hp⟩
theorem Yaq {B m w γ η} (h:In B m w γ η):∀ b∈Ybl γ η,b∈B.S∨B.w.heap.size≤b:=fun b hb=>by
 obtain ⟨i,v,o,h1,h2,h3⟩:=Yap.1 hb;exact h.own i v o b h1 h2 h3
theorem Ybc {B m w γ η} (h:In B m w γ η):∀ b∈Ybl γ η,∀ ob,w.heap[b]?=some ob→Ym5 ob=false:=fun b hb ob ho=>by
 obtain ⟨i,v,o,h1,h2,h3⟩:=Yap.1 hb;exact (h.heap.ok i v o h1 h2).notLD h3 ho
structure Marked (B B':Base) (D:Nat):Prop where
 far:Far B.S B.m B.w B'.m B'.w
 own:∀ b∈B'.S,b∈B.S∨B.w.heap.size≤b
 pre:Pre B.γ B'.γ
 mark:B'.w.heap[D]?=some (.deferred (some []))
 off:D ∉ B'.S
 le:B.w.heap.size≤D
def RQ (C:Cx) (η':Eta):Qt
 | .normal,a,w=>A2 C.N C.D C.B a w [] η'
 | _,_,_=>False
section
variable {C:Cx} {Q:Qt} {ρ ρ':Ro} {η η':Eta}
theorem Zc2 (σ:List Nat) (ho:Ybw (ts σ) η σ η') (hn:YbG σ=true:=by with_unfolding_all exact rfl) (hp:Ycy C.n 0 σ=true:=by with_unfolding_all exact rfl):TX C (RQ C η') .normal ρ η:=fun _ _ hA=>hA.sel C.hn hn hp ho trivial
theorem Env.setT {N D a ρ t} {v:Value} (h:Env N D a ρ) (ht:t < N):Env N [] { tmps:=a.tmps.setIfInBounds t v,defers:=[] } ((t,v)::ρ):=by
 have h0:Env N [] { tmps:=a.tmps,defers:=[] } ρ:=⟨h.size,rfl,h.look⟩;have:=h0.put v ht
 simpa [Act.put] using this
/-! ## Entry and return of a function that holds such a loop -/
theorem ZdR {P:Program} {f:Nat} {fn:Func} {c:Code} {as:List AV} {r:AV} {tab:Tab} {N:Nat} (hT:YaX P tab) (hm:P.follows .mixedOrders=true) (hf:P.funcs[f]?=some fn) (hb:fn.body=some c) (hN:fn.ntmps=N) (ha:Nat.ble as.length N=true)
  (h:∀ B (hB:B.γ.length=η.length),TC ⟨P,tab,hT,hm,N,[],B,η.length,hB,none,0⟩ (bodyPostM Fence.wide 0 P fn (YbF B r η')) c (Ym3 0 as) η):Spec P f as η r η':=by
 intro m w γ vs hH hV;refine W.enterM (N:=N) 0 (W.zipA 0 vs) hf hb hN (by simp) (by have:=hV.len;simp at ha;simp;omega) fun a hE=>?_;have:=h (Ya1 m w γ η) hH.len a w ⟨m,γ,_,hE,hV.zip 0,hH,.refl _ _ _,fun i v o b h1 h2 h3=>.inl (Yap.2 ⟨i,v,o,h1,h2,h3⟩),.refl _⟩
 rwa [Cx.W_none rfl] at this
theorem Zc3 {fn:Func} {R k} (h:TX C (bodyPostM Fence.wide k C.P fn R) .ret ρ η):TX C (bodyPostM Fence.wide k C.P fn R) .normal ρ η:=fun a w hA=>h a w hA
theorem ZdS {fn:Func} {k t1 t2 D:Nat} {u1 u2 r1 r2:AV} {P:Program} {B:Base} (hM:Marked B C.B D) (hBn:B.γ.length=C.n) (σ:List Nat) (hle1:LE (ts σ) u1 r1) (hle2:LE (ts σ) u2 r2) (hD:C.D=[YbD D]:=by with_unfolding_all exact rfl) (hres:fn.results=#[.tmp t1,.tmp t2]:=by with_unfolding_all exact rfl) (hx1:lk ρ t1=some u1:=by with_unfolding_all exact rfl) (hx2:lk ρ t2=some u2:=by with_unfolding_all exact rfl)
  (hn:YbG σ=true:=by with_unfolding_all exact rfl) (hp:Ycy C.n 0 σ=true:=by with_unfolding_all exact rfl) (ho:Ybw (ts σ) η σ η':=by repeat' (first|with_unfolding_all exact trivial|with_unfolding_all refine And.intro ?_ ?_)):TX C (bodyPostM Fence.wide k P fn (YbF B (.tp [r1,r2]) η')) .ret ρ η:=by
 rintro a w ⟨m,γ,ρc,hE,hR,hI⟩;obtain ⟨v1,h1,h2⟩:=hR.look hx1;obtain ⟨v2,k1,k2⟩:=hR.look hx2;have hDw:w.heap[D]?=some (.deferred (some [])):=by
  rw [hI.far.block D (Array.getElem?_eq_some_iff.1 hM.mark).1 hM.off];exact hM.mark
 have hI0:In B m w γ η:=hI.comp hM.far hM.own hM.pre;obtain ⟨γ',g1,g2⟩:=hI0.sel hBn hn hp ho;have hs:Yam B.w.heap.size m w m (w.putObj D (.deferred none)):=.put hDw rfl hM.le;rw [hD] at hE;refine W.retM2 hE hres h1 k1 hDw ⟨_,m,γ',rfl,g2.step hs,.tp (vs:=[v1,v2]) rfl fun j v c hv hc=>?_⟩;match j with
 | 0=>simp at hv hc;subst hv hc;exact (hle1 _ _ _ _ g1 _ h2).mono hs.ext (.refl _)
 | 1=>simp at hv hc;subst hv hc;exact (hle2 _ _ _ _ g1 _ k2).mono hs.ext (.refl _)
 | j+2=>simp at hv
end
end Go.V
