/- Lemmas for the claim; no conditions. -/
import Derived.Test.YtdjhogobbbnddaaGreatC2
import Derived.Lib.SliceRun
import Derived.Laws.Cover3
import Derived.OrdersHeld
import Derived.Laws.Cells
namespace Go.W
open Go
section
variable {P:Program} {ops:Array Oper} {Q:Exit→Act→World→Prop} {Kc:Act→World→Prop} {w w':World} {a:Act}
variable {N:Nat} {D:List Deferred} {ρ:List (Nat × Value)} {d T X Y:Nat} {pos:String} {af:Array Edge} {x y z:Operand} {u v:Value}
theorem Ycs {v:Value} (h:v.oneCell'=true):v.cells=#[v]:=by cases v<;>first|rfl|simp [Value.oneCell'] at h
/-! ### Slices that are written out -/
def Yr4 {α:Type} (R:Value→α→Prop):List Value→List α→Prop
 | [],[]=>True
 | v::vs,x::xs=>R v x∧Yr4 R vs xs
 | _,_=>False
theorem Yr4.len {α:Type} {R:Value→α→Prop}:∀ {vs:List Value} {xs:List α},Yr4 R vs xs→vs.length=xs.length
 | [],[],_=>rfl
 | _::_,_::_,h=>by simp [Yr4.len h.2]
 | [],_::_,h=>h.elim
 | _::_,[],h=>h.elim
/-! ### Variables in memory -/
structure Box (m:Nat→Nat) (w:World) (b:Nat) (cs:List Value) (E:Nat):Prop where
 heap:w.heap[b]?=some (.cells cs.toArray E (0,0))
 lim:m b=0
theorem Box.lt {m w b cs E} (h:Box m w b cs E):b < w.heap.size:=(Array.getElem?_eq_some_iff.1 h.heap).1
theorem Box.touch {m w b cs E Z m' w'} (h:Box m w b cs E) (ht:Touch Z m w m' w') (hb:some b≠Z):Box m' w' b cs E:=
 ⟨ht.heap h.heap hb,by rw [ht.lim b h.lt hb];exact h.lim⟩
theorem Box.keep {m w b cs E m' w'} (h:Box m w b cs E) (hk:Keep m w m' w'):Box m' w' b cs E:=h.touch (hk.touch none) (by simp)
theorem Box.cell {m w b cs E} (h:Box m w b cs E) {o:Nat} {v:Value} (hv:cs[o]?=some v):w.cell? ⟨b,o,none⟩=some v:=by
 simp only [World.cell?,h.heap];simpa using hv
theorem Box.freeze {m w b cs E} (h:Box m w b cs E):Ext m w (Yb8 m b cs.length) w∧YaA (Yb8 m b cs.length) w ⟨b,0,none⟩ cs:=by
 refine ⟨⟨Nat.le_refl _,fun k _=>?_,fun _ _ _ _ hc=>hc⟩,fun j c hj=>?_⟩
 ·by_cases e:k=b
  ·subst e;rw [h.lim];exact Nat.zero_le _
  ·rw [Ycj e];exact Nat.le_refl _
 ·have hlt:j < cs.length:=(List.getElem?_eq_some_iff.1 hj).1;refine ⟨by simpa using hlt,?_⟩;simp only [Nat.zero_add];exact h.cell hj
theorem YcK {m:Nat→Nat} {b E o:Nat} {cs:List Value} (h:Box m w b cs E) (v:Value) :
  Touch (some b) m w m (w.setCell ⟨b,o,none⟩ v)∧Box m (w.setCell ⟨b,o,none⟩ v) b (cs.set o v) E:=by
 have hs:(w.setCell ⟨b,o,none⟩ v).heap.size=w.heap.size:=by simp [World.setCell]
 have hoth:∀ k,k≠b→(w.setCell ⟨b,o,none⟩ v).heap[k]?=w.heap[k]?:=fun k hk=>by
  simp only [World.setCell,Array.getElem?_modify];rw [if_neg (by omega)]
 refine ⟨⟨⟨rfl,rfl,rfl,by omega,fun k _ hk=>hoth k (by simpa using hk)⟩,fun _ _ _=>rfl,⟨by omega,fun _ _=>Nat.le_refl _,fun k i c hi hc=>?_⟩⟩,?_,h.lim⟩
 ·have hne:k≠b:=fun e=>by subst e;rw [h.lim] at hi;omega
  rw [World.cell?_of_block (w:=w) (hoth k hne)];exact hc
 ·simp only [World.setCell,Array.getElem?_modify,if_true,h.heap];simp
/-! ### Functions as values -/
def evs (ρ:List (Nat × Value)):List Operand→Option (List Value)
 | []=>some []
 | x::r=>match ev ρ x,evs ρ r with
   | some v,some vs=>some (v::vs)
   | _,_=>none
theorem Env.evs (hE:Env N D a ρ):∀ {l:List Operand} {vs:List Value},W.evs ρ l=some vs→l.map a.eval=vs
 | [],vs,h=>by simp [W.evs] at h;simp [h]
 | x::r,vs,h=>by
   simp only [W.evs] at h;split at h
   ·rename_i v vs' h1 h2
    simp at h;subst h;simp [hE.ev h1,Env.evs hE h2]
   ·cases h
def Yv1 (P:Program) {α β:Type} (R:Rel α) (S:Rel β) (dom:α→Prop) (m:Nat→Nat) (w:World) (fv:Value) (p:α→β):Prop:=
 ∃ f first caps fn, fv = .func (.func f) first caps ∧ P.funcs[f]? = some fn ∧ (fn.body.isNone || fn.name == "runtime.NumGoroutine") = false ∧
  ∀ m' w' c x,Ext m w m' w'→R m' w' c x→dom x→Calls P f (first++#[c]++caps) w' (YvL m' w' fun m'' w'' r=>S m'' w'' r (p x))
theorem Yv1.mono {α β:Type} {R:Rel α} {S:Rel β} {dom:α→Prop} {m w m' w' fv} {p:α→β} (h:Yv1 P R S dom m w fv p) (he:Ext m w m' w'):Yv1 P R S dom m' w' fv p:=by
 obtain ⟨f,first,caps,fn,h1,h2,h3,h4⟩:=h;exact ⟨f,first,caps,fn,h1,h2,h3,fun m'' w'' c x he' hr hd=>h4 m'' w'' c x (he.trans he') hr hd⟩
/-! ### The call's own slices, told from what was there when it began (B blocks) -/
structure Mine {α:Type} (B:Nat) (T:TypeId) (sz:Nat) (C:Ycl α) (m:Nat→Nat) (w:World) (v:Value) (xs:List α):Prop where
 own:Own T sz C m w v xs
 new:∀ g,Yay v=some g→B≤g
theorem Mine.nil {α:Type} {B T sz:Nat} {C:Ycl α} {m w}:Mine B T sz C m w (.slice none 0 0) ([]:List α):=⟨.nil,fun g h=>by simp [Yay] at h⟩
theorem Mine.touch {α:Type} {B T sz:Nat} {C:Ycl α} [CMono C] {m w v} {xs:List α} {X m' w'} (h:Mine B T sz C m w v xs) (ht:Touch X m w m' w') (hX:Yay v=none∨Yay v≠X):Mine B T sz C m' w' v xs:=⟨h.own.touch ht hX,h.new⟩
def YsY (v u:Value):Prop:=Yay u=none∨Yay v≠Yay u
theorem Mine.apart {α:Type} {B T sz:Nat} {C:Ycl α} [CMono C] {m w v u u'} {xs:List α} {m' w'} (h:Mine B T sz C m w v xs) (hs:YsY v u) (ht:Touch (Yay u) m w m' w') (hob:Yay u'=Yay u∨∀ g,Yay u'=some g→w.heap.size≤g) :
  Mine B T sz C m' w' v xs∧YsY v u':=by
 refine ⟨h.touch ht ?_,?_⟩
 ·rcases hs with e|e
  ·rw [e]
   cases hv:Yay v with
   | none=>exact .inl rfl
   | some g=>exact .inr (by simp)
  ·exact .inr e
 ·rcases hob with e|e
  ·unfold YsY;rw [e];exact hs
  ·cases hu:Yay u' with
   | none=>exact .inl hu
   | some g =>
     refine .inr fun e'=>?_;have:=h.own.lt g (e'.trans hu)
     have:=e g hu
     omega
end
section
variable {P:Program} {ops:Array Oper} {Q:Exit→Act→World→Prop} {md:Region.Mode} {S:World→Prop} {fi:Nat}
def Yad (P:Program) (md:Region.Mode) (ops:Array Oper) (Q:Exit→Act→World→Prop) (S:World→Prop) (fi:Nat):Nat→Array Bool→Act→World→Prop
 | 0,listed,a,w=>Region.ready md ops listed=[]∧Q .normal a w
 | fuel+1,listed,a,w =>
   (Region.ready md ops listed=[]→Q .normal a w) ∧
   ∀ i∈Region.ready md ops listed,wpOp P ops Q i (fun a' w'=>(i=fi∨S w')∧Yad P md ops Q S fi fuel (listed.setIfInBounds i true) a' w') a w
def YeV (md:Region.Mode) (ops:Array Oper) (listed:Array Bool):Prop:=
 ∀ (j:Nat) oj,ops[j]?=some oj→listed.getD j true=true→∀ e∈oj.after,Region.binds md e=true→listed.getD e.on false=true
def YdF (md:Region.Mode) (ops:Array Oper) (i:Nat):Nat→Nat→Bool
 | 0,_=>false
 | n+1,j=>match ops[j]? with
   | some oj=>oj.after.any fun e=>Region.binds md e&&(e.on==i || YdF md ops i n e.on)
   | none=>false
theorem YkW {listed:Array Bool} (hc:YeV md ops listed) {i:Nat}:∀ n j,YdF md ops i n j=true→listed.getD j true=true→listed.getD i false=true:=by
 intro n;induction n with
 | zero=>intro j h;simp [YdF] at h
 | succ n ih =>
   intro j h hj;simp only [YdF] at h;split at h
   ·rename_i oj ho
    obtain ⟨e,he,hb⟩:=Array.any_eq_true'.1 h;simp only [Bool.and_eq_true,Bool.or_eq_true,beq_iff_eq] at hb;have h1:=hc j oj ho hj e he hb.1;rcases hb.2 with e1|e1
    ·rw [e1] at h1;exact h1
    ·refine ih e.on e1 ?_;rw [Array.getD_eq_getD_getElem?] at h1 ⊢
     cases hq:listed[e.on]? with
     | none=>rfl
     | some b=>rw [hq] at h1;simpa using h1
   ·cases h
theorem Yhx {listed:Array Bool} (hc:YeV md ops listed) {i n j:Nat} (h:YdF md ops i n j=true) (hr:j∈Region.ready md ops listed):listed.getD i false=true:=by
 obtain ⟨hju,oj,hoj,hall⟩:=mem_ready.1 hr
 cases n with
 | zero=>simp [YdF] at h
 | succ n =>
   simp only [YdF,hoj] at h;obtain ⟨e,he,hb⟩:=Array.any_eq_true'.1 h;simp only [Bool.and_eq_true,Bool.or_eq_true,beq_iff_eq] at hb;have h1:=hall e he hb.1;rcases hb.2 with e1|e1
   ·rw [e1] at h1;exact h1
   ·refine YkW hc n e.on e1 ?_;rw [Array.getD_eq_getD_getElem?] at h1 ⊢
    cases hq:listed[e.on]? with
    | none=>rfl
    | some b=>rw [hq] at h1;simpa using h1
theorem YeV.set {listed:Array Bool} (hc:YeV md ops listed) {i:Nat} (hr:i∈Region.ready md ops listed):YeV md ops (listed.setIfInBounds i true):=by
 obtain ⟨hiu,oi,hoi,hall⟩:=mem_ready.1 hr;have up:∀ k,listed.getD k false=true→(listed.setIfInBounds i true).getD k false=true:=by
  intro k hk;rw [Array.getD_eq_getD_getElem?] at hk ⊢;by_cases e:i=k
  ·subst e
   cases hq:listed[i]? with
   | none=>rw [hq] at hk;simp at hk
   | some b =>
     rcases Array.getElem?_eq_some_iff.1 hq with ⟨hlt,_⟩;simp [hlt]
  ·rw [Array.getElem?_setIfInBounds_ne e];exact hk
 intro j oj hoj hj e he hb;by_cases hji:i=j
 ·subst hji;rw [hoi] at hoj
  cases hoj
  exact up _ (hall e he hb)
 ·rw [getD_set_ne true hji] at hj;exact up _ (hc j oj hoj hj e he hb)
theorem Yly {i:Nat} {oi:Oper} {v:Value} (hi:ops[i]?=some oi) (hsel:∀ (j:Nat) (o:Oper) cs b,ops[j]?=some o→o.op≠.select cs b)
  (hQ:∀ c a w,Q (.panic c) (a.put oi.dst v) w→Q (.panic c) a w) (n:Nat) (hfi:fi < ops.size→fi≠i→YdF md ops i n fi=true) :
  ∀ (fuel:Nat) (listed:Array Bool) (a:Act) (w:World),YeV md ops listed →
   (∀ (j:Nat) oj,ops[j]?=some oj→j≠i→listed.getD j true=false→(∀ e∈oj.after,Region.binds md e=true→e.on≠i)→oi.apart ops oj=true) →
   i∈Region.ready md ops listed→YieldsIf P ops S oi v a→S w →
   Yad P md ops Q S fi fuel (listed.setIfInBounds i true) (a.put oi.dst v) w→Yad P md ops Q S fi (fuel+1) listed a w:=by
 intro fuel;induction fuel with
 | zero =>
   intro listed a w _ _ hr hy hS H;refine ⟨fun h=>(by rw [h] at hr;cases hr),fun j hj=>?_⟩;by_cases hji:j=i
   ·subst hji;exact hy.wpOp hi hS ⟨.inr hS,H⟩
   ·have:=ready_mono hj hji
    rw [H.1] at this
    cases this
 | succ fuel ih =>
   intro listed a w hcl hfree hr hy hS H;refine ⟨fun h=>(by rw [h] at hr;cases hr),fun j hj=>?_⟩;by_cases hji:j=i
   ·subst hji;exact hy.wpOp hi hS ⟨.inr hS,H⟩
   ·have h1:=H.2 j (ready_mono hj hji);obtain ⟨hjun,oj,hoj,hall⟩:=mem_ready.1 hj;have hnot:∀ e∈oj.after,Region.binds md e=true→e.on≠i:=fun e he hb heq=>by
     have h1:=hall e he hb;have h0:=(mem_ready.1 hr).1;rw [heq] at h1;rcases Nat.lt_or_ge i listed.size with h'|h'
     ·simp [h'] at h0 h1;rw [h0] at h1;cases h1
     ·simp [Array.getElem?_eq_none h'] at h1
    have hjfi:j≠fi:=fun e=>by
     subst e;have h0:=(mem_ready.1 hr).1;have h2:=Yhx hcl (hfi (Array.getElem?_eq_some_iff.1 hoj).1 hji) hj;rw [Array.getD_eq_getD_getElem?] at h0 h2
     cases hq:listed[i]? with
     | none=>rw [hq] at h2;simp at h2
     | some b=>rw [hq] at h0 h2;simp at h0 h2;rw [h0] at h2;cases h2
    have h2:=wpOp_putIf hoj (hfree j oj hoj hji hjun hnot) (fun cs b=>hsel i oi cs b hi) (fun cs b=>hsel j oj cs b hoj) hQ hy h1;have hfree':∀ (k:Nat) ok,ops[k]?=some ok→k≠i→(listed.setIfInBounds j true).getD k true=false →
      (∀ e∈ok.after,Region.binds md e=true→e.on≠i)→oi.apart ops ok=true:=fun k ok hk hki hun hno=>by
     refine hfree k ok hk hki ?_ hno;by_cases hjk:j=k
     ·subst hjk;exact hjun
     ·rw [getD_set_ne true hjk] at hun;exact hun
    refine wpOp_mono (fun a' w' h3=>?_) h2;have hS':S w':=h3.2.1.resolve_left hjfi;refine ⟨.inr hS',ih (listed.setIfInBounds j true) a' w' (hcl.set hj) hfree' (ready_mono hr (Ne.symm hji)) h3.1 hS' ?_⟩;rw [Array.setIfInBounds_comm _ _ hji];exact h3.2.2
def Yju (md:Region.Mode) (ops:Array Oper) (listed:Array Bool):Bool:=
 (List.range ops.size).all fun j=>match ops[j]? with
  | some oj=>!listed.getD j true || oj.after.all fun e=>!Region.binds md e || listed.getD e.on false
  | none=>true
theorem YbR {listed:Array Bool} (h:Yju md ops listed=true):YeV md ops listed:=by
 intro j oj hoj hj e he hb;have hlt:j < ops.size:=(Array.getElem?_eq_some_iff.1 hoj).1;have h1:=List.all_eq_true.1 h j (List.mem_range.2 hlt);simp only [hoj,hj,Bool.not_true,Bool.false_or] at h1;have h2:=Array.all_eq_true_iff_forall_mem.1 h1 e he;simpa [hb] using h2
def Yjt (ops:Array Oper):Bool:=ops.all fun o=>match o.op with
 | .defer _=>false
 | _=>true
theorem Ycu (h:Yjt ops=true) (j:Nat) (o:Oper) (ho:ops[j]?=some o):∀ c,o.op≠.defer c:=by
 obtain ⟨hlt,rfl⟩:=Array.getElem?_eq_some_iff.1 ho;have:=Array.all_eq_true.1 h j hlt
 intro c hc;rw [hc] at this
 cases this
def Yba (ops:Array Oper) (listed:Array Bool) (fi i:Nat):Bool:=
 Region.noSelect ops&&Region.free .any ops listed i&&(Region.ready .any ops listed).contains i&&Yju .any ops listed &&
  (ops.size≤fi || fi==i || YdF .any ops i ops.size fi)&&Yjt ops
variable {N:Nat} {D:List Deferred} {ρ:List (Nat × Value)} {a:Act} {w:World} {fuel i:Nat} {listed:Array Bool} {v:Value}
theorem take {oi:Oper} (hi:ops[i]?=some oi) (hb:Yba ops listed fi i=true) (hQ:∀ c a w,Q (.panic c) (a.put oi.dst v) w→Q (.panic c) a w) (hS:S w) (hy:YieldsIf P ops S oi v a)
  (k:Yad P .any ops Q S fi fuel (listed.setIfInBounds i true) (a.put oi.dst v) w):Yad P .any ops Q S fi (fuel+1) listed a w:=by
 simp only [Yba,Bool.and_eq_true,Bool.or_eq_true,decide_eq_true_eq,beq_iff_eq] at hb;obtain ⟨⟨⟨⟨⟨h1,h2⟩,h3⟩,h4⟩,h5⟩,_⟩:=hb;have hw:fi < ops.size→fi≠i→YdF .any ops i ops.size fi=true:=by
  intro hlt hne;rcases h5 with (h5|h5)|h5
  ·omega
  ·exact absurd h5 hne
  ·exact h5
 exact Yly hi (Region.noSelect_spec h1) hQ ops.size hw fuel listed a w (YbR h4) (Region.free_spec hi h2) (by simpa using h3) hy hS k
theorem only {l:List Oper} {oi:Oper} (hi:l[i]?=some oi) (hr:Region.ready .any l.toArray listed=[i])
  (k:OpK P l.toArray Q oi (fun a' w'=>(i=fi∨S w')∧Yad P .any l.toArray Q S fi fuel (listed.setIfInBounds i true) a' w') a w) :
  Yad P .any l.toArray Q S fi (fuel+1) listed a w:=by
 refine ⟨fun h=>(by rw [hr] at h;cases h),fun j hj=>?_⟩;rw [hr] at hj;obtain rfl:j=i:=by simpa using hj
 unfold wpOp;simp only [List.getElem?_toArray,hi];exact k.wp
theorem two {l:List Oper} {i j:Nat} {oi oj:Oper} (hi:l[i]?=some oi) (hj:l[j]?=some oj) (hr:Region.ready .any l.toArray listed=[i,j])
  (ki:OpK P l.toArray Q oi (fun a' w'=>(i=fi∨S w')∧Yad P .any l.toArray Q S fi fuel (listed.setIfInBounds i true) a' w') a w)
  (kj:OpK P l.toArray Q oj (fun a' w'=>(j=fi∨S w')∧Yad P .any l.toArray Q S fi fuel (listed.setIfInBounds j true) a' w') a w) :
  Yad P .any l.toArray Q S fi (fuel+1) listed a w:=by
 refine ⟨fun h=>(by rw [hr] at h;cases h),fun k hk=>?_⟩;rw [hr] at hk;unfold wpOp;rcases List.mem_cons.1 hk with rfl|hk
 ·simp only [List.getElem?_toArray,hi];exact ki.wp
 ·obtain rfl:k=j:=by simpa using hk
  simp only [List.getElem?_toArray,hj];exact kj.wp
theorem done (hr:Region.ready .any ops listed=[]) (h:Q .normal a w):∀ fuel,Yad P .any ops Q S fi fuel listed a w
 | 0=>⟨hr,h⟩
 | _+1=>⟨fun _=>h,by rw [hr];simp⟩
end
section
variable {P:Program} {ops:Array Oper} {Q:Exit→Act→World→Prop} {S:World→Prop} {fi:Nat}
variable {N:Nat} {D:List Deferred} {ρ:List (Nat × Value)} {a:Act} {w:World} {fuel i:Nat} {listed:Array Bool} {u v:Value}
variable {d T X Y:Nat} {pos:String} {af:Array Edge} {x y z:Operand} {g:Option (Nat × Bool)}
def GOn (ops:Array Oper) (ρ:List (Nat × Value)):Option (Nat × Bool)→Prop
 | none=>True
 | some (j,b)=>∃ oj dj,ops[j]?=some oj∧oj.dst=some dj∧look ρ dj=some (.bool b)
def Yww (ops:Array Oper) (ρ:List (Nat × Value)):Option (Nat × Bool)→Prop
 | none=>False
 | some (j,b)=>∃ oj dj,ops[j]?=some oj∧oj.dst=some dj∧look ρ dj=some (.bool (!b))
theorem GOn.wanted {o:Oper} (hE:Env N D a ρ) (h:GOn ops ρ o.guard):Region.wanted o (yielded ops a.tmps)=true:=by
 cases hg:o.guard with
 | none=>simp [Region.wanted,hg]
 | some p =>
   obtain ⟨j,b⟩:=p;rw [hg] at h;obtain ⟨oj,dj,h1,h2,h3⟩:=h;simp [Region.wanted,hg,yielded,h1,h2,hE.look _ _ h3]
theorem Yww.wanted {o:Oper} (hE:Env N D a ρ) (h:Yww ops ρ o.guard):Region.wanted o (yielded ops a.tmps)=false:=by
 cases hg:o.guard with
 | none=>rw [hg] at h;exact h.elim
 | some p =>
   obtain ⟨j,b⟩:=p;rw [hg] at h;obtain ⟨oj,dj,h1,h2,h3⟩:=h
   cases b<;>simp [Region.wanted,hg,yielded,h1,h2,hE.look _ _ h3]
theorem OpK.on {dst:Option Tmp} {op:Op} {g:Option (Nat × Bool)} {K:Act→World→Prop} (hE:Env N D a ρ) (h:GOn ops ρ g) (k:OpK P ops Q ⟨dst,op,T,pos,af,none⟩ K a w):OpK P ops Q ⟨dst,op,T,pos,af,g⟩ K a w:=by
 unfold OpK at *
 have h':GOn ops ρ (⟨dst,op,T,pos,af,g⟩:Oper).guard:=h;rw [if_pos (h'.wanted hE)];rw [if_pos (by simp [Region.wanted])] at k;exact k
def YaM (Q:Exit→Act→World→Prop):Prop:=∀ c (a:Act) w (d:Nat) v,Q (.panic c) (a.put (some d) v) w→Q (.panic c) a w
def Fut (m:Nat→Nat) (w:World):World→Prop:=fun w'=>∃ m',Keep m w m' w'
theorem Fut.ext {m:Nat→Nat} {w:World}:∀ w',Fut m w w'→∃ m',Ext m w m' w':=fun _ ⟨m',h⟩=>⟨m',h.ext⟩
end
section
variable {P:Program} {ops:Array Oper} {Q:Exit→Act→World→Prop} {Kc:Act→World→Prop} {w w':World} {a:Act}
variable {N:Nat} {D:List Deferred} {ρ:List (Nat × Value)} {d T X Y:Nat} {pos:String} {af:Array Edge} {x y z:Operand} {u v:Value} {g:Option (Nat × Bool)}
/-! ### Arrays and structs YaJ a pointer -/
theorem Yci {m:Nat→Nat} {b E:Nat} {cs vs:List Value} (h:Box m w b cs E) :
  Touch (some b) m w m (w.setRow b vs.toArray)∧Box m (w.setRow b vs.toArray) b vs E:=by
 have hoth:∀ k,k≠b→(w.setRow b vs.toArray).heap[k]?=w.heap[k]?:=fun k hk=>setRow_other w b k _ hk
 have hs:(w.setRow b vs.toArray).heap.size=w.heap.size:=by simp
 refine ⟨⟨⟨rfl,rfl,rfl,by omega,fun k _ hk=>hoth k (by simpa using hk)⟩,fun _ _ _=>rfl,⟨by omega,fun _ _=>Nat.le_refl _,fun k i c hi hc=>?_⟩⟩,setRow_heap w b cs.toArray vs.toArray E _ h.heap,h.lim⟩;have hne:k≠b:=fun e=>by subst e;rw [h.lim] at hi;omega
 rw [World.cell?_of_block (w:=w) (hoth k hne)];exact hc
/-! ### Results in memory -/
/-! ### Bits -/
theorem YcX {i:Int} (h0:0≤i) (h1:i≤18446744073709551615):IntKind.u64.wrap i=i:=by
 simp [IntKind.wrap,IntKind.signed,IntKind.bits];omega
theorem YtP (x:Nat) (hx:x < 2 ^ 64):(BitVec.ofInt IntKind.u64.bits (x:Int)).toNat=x:=by
 simp [IntKind.bits];omega
theorem Yt9 {x:Nat} (h:x < 2 ^ 64):(x:Int)≤18446744073709551615:=by
 have:(2:Nat) ^ 64=18446744073709551616:=by decide
 omega
theorem YmQ {p q:Nat} (hE:Env N D a ρ) (hx:ev ρ x=some (.int .u64 (p:Int))) (hy:ev ρ y=some (.int .u64 (q:Int))) (hp:p < 2 ^ 64) (hq:q < 2 ^ 64) :
  (execOp a.eval ⟨some d,.binOp .or X x y Y,T,pos,af,g⟩).run P w=.ok (.value (.int .u64 ((p ||| q:Nat):Int))) w:=by
 have hpq:p ||| q < 2 ^ 64:=Nat.or_lt_two_pow hp hq;have e3:p % 2 ^ IntKind.u64.bits=p:=Nat.mod_eq_of_lt hp;have e4:q % 2 ^ IntKind.u64.bits=q:=Nat.mod_eq_of_lt hq;have e5:=YcX (Int.natCast_nonneg _) (Yt9 hpq);simp only [execOp,hE.ev hx,hE.ev hy,binOp,eqGuard,Op.intBits];simp [e3,e4,e5]
theorem Yjx {c:Int} (hE:Env N D a ρ) (hy:ev ρ y=some (.int .i64 c)) (h0:0≤c) (h1:c < 64) :
  (execOp a.eval ⟨some d,.binOp .shl X (.const (.int .u64 1)) y Y,T,pos,af,g⟩).run P w=.ok (.value (.int .u64 ((1 <<< c.toNat:Nat):Int))) w:=by
 have hlt:1 <<< c.toNat < 2 ^ 64:=by rw [Nat.one_shiftLeft];exact Nat.pow_lt_pow_right (by omega) (by omega)
 have hm:min c.toNat 64=c.toNat:=by omega
 have hc:¬ c < 0:=by omega
 have e:(1*2 ^ c.toNat:Int)=((1 <<< c.toNat:Nat):Int):=by rw [Nat.one_shiftLeft];simp
 have ha:a.eval (.const (.int .u64 1))=.int .u64 1:=rfl;simp only [execOp,ha,hE.ev hy,binOp,eqGuard,Op.shift];simp only [hc,if_false,IntKind.bits,hm,e];have e5:=YcX (Int.natCast_nonneg _) (Yt9 hlt);generalize (1 <<< c.toNat:Nat)=q at *
 simp [e5]
/-! ### Slice expressions -/
theorem RS.sliced {α:Type} {sz:Nat} {C:Ycl α} {m:Nat→Nat} {xs:List α} {b o cap l h:Nat} (hcap:xs.length≤cap) (hm:cap≤maxLen)
  (hel:∀ i x,xs[i]?=some x→∃ cs,cs.length=sz∧YaA m w ⟨b,o+i*sz,none⟩ cs∧C m w cs x) (hl:l≤h) (hh:h≤xs.length) :
  RS sz C m w (.slice (some (if cap=l then ⟨b,o,none⟩ else (⟨b,o,none⟩:Addr).add (l*sz))) (h-l) (cap-l)) ((xs.take h).drop l):=by
 have hlen:((xs.take h).drop l).length=h-l:=by simp;omega
 by_cases e:cap=l
 ·rw [if_pos e];refine .inr (.inl ⟨b,o,cap-l,by rw [hlen],by rw [hlen];omega,by omega,fun i x hx=>?_⟩);have:=(List.getElem?_eq_some_iff.1 hx).1
  omega
 ·rw [if_neg e,Yak];refine .inr (.inl ⟨b,o+l*sz,cap-l,by rw [hlen],by rw [hlen];omega,by omega,fun i x hx=>?_⟩);have hi:i < h-l:=by rw [← hlen];exact (List.getElem?_eq_some_iff.1 hx).1
  rw [List.getElem?_drop,List.getElem?_take,if_pos (by omega)] at hx;obtain ⟨cs,a1,a2,a3⟩:=hel (l+i) x hx;refine ⟨cs,a1,?_,a3⟩;rw [show o+l*sz+i*sz=o+(l+i)*sz by rw [Nat.add_mul];omega];exact a2
/-! ### .. taken first -/
variable {S:World→Prop} {fi fuel i:Nat} {listed:Array Bool}
end
end Go.W
