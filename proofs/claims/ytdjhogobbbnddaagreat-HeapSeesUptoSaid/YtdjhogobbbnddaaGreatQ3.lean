/- Lemmas for the claim, part 3; no conditions. -/
import Derived.Test.YtdjhogobbbnddaaGreatQ2
import Derived.Lib.SliceRun
import Derived.Laws.Cover3
namespace Go.W
open Go
section
variable {P:Program} {ops:Array Oper} {Q:Exit→Act→World→Prop} {Kc:Act→World→Prop} {w w':World} {a:Act}
variable {N:Nat} {D:List Deferred} {ρ:List (Nat × Value)} {d T X Y:Nat} {pos:String} {af:Array Edge} {x y z:Operand} {u v:Value}
theorem Ycs {v:Value} (h:v.oneCell'=true):v.cells=#[v]:=by cases v<;>first|rfl|simp [Value.oneCell'] at h
/-! ### Slices that are written out -/
def Yr4 {α:Type} (R:Value→α→Prop):List Value→List α→Prop
 | [],[]=>True
 | v::vs,x::xs=>R v x∧Yr4 R vs xs
 | _,_=>False
theorem Yr4.len {α:Type} {R:Value→α→Prop}:∀ {vs:List Value} {xs:List α},Yr4 R vs xs→vs.length=xs.length
 | [],[],_=>rfl
 | _::_,_::_,h=>by simp [Yr4.len h.2]
 | [],_::_,h=>h.elim
 | _::_,[],h=>h.elim
theorem Yr4.get {α:Type} {R:Value→α→Prop}:∀ {vs:List Value} {xs:List α},Yr4 R vs xs→∀ (i:Nat) x,xs[i]?=some x→∃ v,vs[i]?=some v∧R v x
 | [],[],_,i,x,hx=>by simp at hx
 | v::_,y::_,h,0,x,hx=>by simp at hx;subst hx;exact ⟨v,rfl,h.1⟩
 | _::_,_::_,h,i+1,x,hx=>by simpa using Yr4.get h.2 i x (by simpa using hx)
 | [],_::_,h,_,_,_=>h.elim
 | _::_,[],h,_,_,_=>h.elim
/-! ### Variables in memory -/
structure Box (m:Nat→Nat) (w:World) (b:Nat) (cs:List Value) (E:Nat):Prop where
 heap:w.heap[b]?=some (.cells cs.toArray E (0,0))
 lim:m b=0
theorem Box.lt {m w b cs E} (h:Box m w b cs E):b < w.heap.size:=(Array.getElem?_eq_some_iff.1 h.heap).1
theorem Box.touch {m w b cs E Z m' w'} (h:Box m w b cs E) (ht:Touch Z m w m' w') (hb:some b≠Z):Box m' w' b cs E:=
 ⟨ht.heap h.heap hb,by rw [ht.lim b h.lt hb];exact h.lim⟩
theorem Box.keep {m w b cs E m' w'} (h:Box m w b cs E) (hk:Keep m w m' w'):Box m' w' b cs E:=h.touch (hk.touch none) (by simp)
theorem Box.cell {m w b cs E} (h:Box m w b cs E) {o:Nat} {v:Value} (hv:cs[o]?=some v):w.cell? ⟨b,o,none⟩=some v:=by
 simp only [World.cell?,h.heap];simpa using hv
theorem Box.freeze {m w b cs E} (h:Box m w b cs E):Ext m w (Yb8 m b cs.length) w∧YaA (Yb8 m b cs.length) w ⟨b,0,none⟩ cs:=by
 refine ⟨⟨Nat.le_refl _,fun k _=>?_,fun _ _ _ _ hc=>hc⟩,fun j c hj=>?_⟩
 ·by_cases e:k=b
  ·subst e;rw [h.lim];exact Nat.zero_le _
  ·rw [Ycj e];exact Nat.le_refl _
 ·have hlt:j < cs.length:=(List.getElem?_eq_some_iff.1 hj).1;refine ⟨by simpa using hlt,?_⟩;simp only [Nat.zero_add];exact h.cell hj
theorem YcK {m:Nat→Nat} {b E o:Nat} {cs:List Value} (h:Box m w b cs E) (v:Value) :
  Touch (some b) m w m (w.setCell ⟨b,o,none⟩ v)∧Box m (w.setCell ⟨b,o,none⟩ v) b (cs.set o v) E:=by
 have hs:(w.setCell ⟨b,o,none⟩ v).heap.size=w.heap.size:=by simp [World.setCell]
 have hoth:∀ k,k≠b→(w.setCell ⟨b,o,none⟩ v).heap[k]?=w.heap[k]?:=fun k hk=>by
  simp only [World.setCell,Array.getElem?_modify];rw [if_neg (by omega)]
 refine ⟨⟨⟨rfl,rfl,rfl,by omega,fun k _ hk=>hoth k (by simpa using hk)⟩,fun _ _ _=>rfl,⟨by omega,fun _ _=>Nat.le_refl _,fun k i c hi hc=>?_⟩⟩,?_,h.lim⟩
 ·have hne:k≠b:=fun e=>by subst e;rw [h.lim] at hi;omega
  rw [World.cell?_of_block (w:=w) (hoth k hne)];exact hc
 ·simp only [World.setCell,Array.getElem?_modify,if_true,h.heap];simp
/-! ### Functions as values -/
def evs (ρ:List (Nat × Value)):List Operand→Option (List Value)
 | []=>some []
 | x::r=>match ev ρ x,evs ρ r with
   | some v,some vs=>some (v::vs)
   | _,_=>none
theorem Env.evs (hE:Env N D a ρ):∀ {l:List Operand} {vs:List Value},W.evs ρ l=some vs→l.map a.eval=vs
 | [],vs,h=>by simp [W.evs] at h;simp [h]
 | x::r,vs,h=>by
   simp only [W.evs] at h;split at h
   ·rename_i v vs' h1 h2
    simp at h;subst h;simp [hE.ev h1,Env.evs hE h2]
   ·cases h
def Yv1 (P:Program) {α β:Type} (R:Rel α) (S:Rel β) (dom:α→Prop) (m:Nat→Nat) (w:World) (fv:Value) (p:α→β):Prop:=
 ∃ f first caps fn, fv = .func (.func f) first caps ∧ P.funcs[f]? = some fn ∧ (fn.body.isNone || fn.name == "runtime.NumGoroutine") = false ∧
  ∀ m' w' c x,Ext m w m' w'→R m' w' c x→dom x→Calls P f (first++#[c]++caps) w' (YvL m' w' fun m'' w'' r=>S m'' w'' r (p x))
theorem Yv1.mono {α β:Type} {R:Rel α} {S:Rel β} {dom:α→Prop} {m w m' w' fv} {p:α→β} (h:Yv1 P R S dom m w fv p) (he:Ext m w m' w'):Yv1 P R S dom m' w' fv p:=by
 obtain ⟨f,first,caps,fn,h1,h2,h3,h4⟩:=h;exact ⟨f,first,caps,fn,h1,h2,h3,fun m'' w'' c x he' hr hd=>h4 m'' w'' c x (he.trans he') hr hd⟩
/-! ### The call's own slices, told from what was there when it began (B blocks) -/
structure Mine {α:Type} (B:Nat) (T:TypeId) (sz:Nat) (C:Ycl α) (m:Nat→Nat) (w:World) (v:Value) (xs:List α):Prop where
 own:Own T sz C m w v xs
 new:∀ g,Yay v=some g→B≤g
theorem Mine.nil {α:Type} {B T sz:Nat} {C:Ycl α} {m w}:Mine B T sz C m w (.slice none 0 0) ([]:List α):=⟨.nil,fun g h=>by simp [Yay] at h⟩
theorem Mine.rs {α:Type} {B T sz:Nat} {C:Ycl α} {m w v} {xs:List α} (h:Mine B T sz C m w v xs):RS sz C m w v xs:=h.own.rs
theorem Mine.touch {α:Type} {B T sz:Nat} {C:Ycl α} [CMono C] {m w v} {xs:List α} {X m' w'} (h:Mine B T sz C m w v xs) (ht:Touch X m w m' w') (hX:Yay v=none∨Yay v≠X):Mine B T sz C m' w' v xs:=⟨h.own.touch ht hX,h.new⟩
def YsY (v u:Value):Prop:=Yay u=none∨Yay v≠Yay u
theorem Mine.apart {α:Type} {B T sz:Nat} {C:Ycl α} [CMono C] {m w v u u'} {xs:List α} {m' w'} (h:Mine B T sz C m w v xs) (hs:YsY v u) (ht:Touch (Yay u) m w m' w') (hob:Yay u'=Yay u∨∀ g,Yay u'=some g→w.heap.size≤g) :
  Mine B T sz C m' w' v xs∧YsY v u':=by
 refine ⟨h.touch ht ?_,?_⟩
 ·rcases hs with e|e
  ·rw [e]
   cases hv:Yay v with
   | none=>exact .inl rfl
   | some g=>exact .inr (by simp)
  ·exact .inr e
 ·rcases hob with e|e
  ·unfold YsY;rw [e];exact hs
  ·cases hu:Yay u' with
   | none=>exact .inl hu
   | some g =>
     refine .inr fun e'=>?_;have:=h.own.lt g (e'.trans hu)
     have:=e g hu
     omega
end
end Go.W
