/- Lemmas for the claim; no conditions. -/
import Derived.Tactics
import Derived.Laws.AppendOwn
import Derived.Laws.Slices
import Derived.Laws.MakeOwn
import Derived.Orders
import Derived.KernelRfl
namespace Go.W
open Go
/-! ## The frame as a list of known slots -/
def look:List (Nat × Value)→Nat→Option Value
 | [],_=>none
 | (k,v)::r,t=>bif Nat.beq k t then some v else look r t
structure Env (N:Nat) (D:List Deferred) (a:Act) (ρ:List (Nat × Value)):Prop where
 size:a.tmps.size=N
 defers:a.defers=D
 look:∀ t v,look ρ t=some v→a.tmps[t]?=some v
def ev (ρ:List (Nat × Value)):Operand→Option Value
 | .tmp t=>look ρ t
 | .const v=>some v
 | .func f=>some (.func (.func f) #[] #[])
 | .global g=>some (.pointer (some ⟨g,0,none⟩))
theorem Env.ev {N D a ρ x v} (h:Env N D a ρ) (hx:ev ρ x=some v):a.eval x=v:=by
 cases x with
 | tmp t =>
   have:=h.look t v hx
   simp [Act.eval,this]
 | const c=>simpa [W.ev,Act.eval] using hx
 | func f=>simpa [W.ev,Act.eval] using hx
 | global g=>simpa [W.ev,Act.eval] using hx
theorem Env.put {N D a ρ d} (h:Env N D a ρ) (v:Value) (hd:d < N):Env N D (a.put (some d) v) ((d,v)::ρ):=by
 refine ⟨by simp [Act.put,h.size],by simp [Act.put,h.defers],?_⟩;intro t u ht;simp only [W.look] at ht;by_cases e:d=t
 ·subst e;have hb:Nat.beq d d=true:=by simp
  rw [hb] at ht;simp at ht;subst ht;simp [Act.put,h.size,hd]
 ·have hb:Nat.beq d t=false:=by
   cases hq:Nat.beq d t
   ·rfl
   ·exact absurd (Nat.eq_of_beq_eq_true hq) e
  rw [hb] at ht;simp at ht;simp [Act.put,Array.getElem?_setIfInBounds_ne e,h.look t u ht]
theorem Env.nil {N D a ρ} (h:Env N D a ρ):Env N D a []:=⟨h.size,h.defers,fun _ _ e=>by simp [W.look] at e⟩
theorem Env.cons {N D a ρ ρ' t v} (h:Env N D a ρ) (h':Env N D a ρ') (e:W.look ρ t=some v):Env N D a ((t,v)::ρ'):=by
 refine ⟨h.size,h.defers,fun s u hs=>?_⟩;simp only [W.look] at hs
 cases hb:Nat.beq t s with
 | true =>
   rw [hb] at hs;simp at hs;obtain rfl:=Nat.eq_of_beq_eq_true hb;subst hs;exact h.look _ _ e
 | false =>
   rw [hb] at hs;exact h'.look _ _ (by simpa using hs)
def Sub (ρ:List (Nat × Value)):List (Nat × Value)→Prop
 | []=>True
 | (t,v)::r=>W.look ρ t=some v∧Sub ρ r
theorem Env.sel {N D a ρ} (h:Env N D a ρ):∀ {ρ'},Sub ρ ρ'→Env N D a ρ'
 | [],_=>h.nil
 | (_,_)::_,hs=>h.cons (h.sel hs.2) hs.1
/-! ## Memory that grows -/
structure Ext (m:Nat→Nat) (w:World) (m':Nat→Nat) (w':World):Prop where
 size:w.heap.size≤w'.heap.size
 lim:∀ b,b < w.heap.size→m b≤m' b
 cell:∀ b i c,i < m b→w.cell? ⟨b,i,none⟩=some c→w'.cell? ⟨b,i,none⟩=some c
theorem YbQ {w:World} {b i c} (h:w.cell? ⟨b,i,none⟩=some c):b < w.heap.size:=World.block_lt_of_cell? w ⟨b,i,none⟩ h
theorem Ext.refl (m w):Ext m w m w:=⟨Nat.le_refl _,fun _ _=>Nat.le_refl _,fun _ _ _ _ h=>h⟩
theorem Ext.trans {m w m1 w1 m2 w2} (h:Ext m w m1 w1) (k:Ext m1 w1 m2 w2):Ext m w m2 w2:=
 ⟨Nat.le_trans h.size k.size,fun b hb=>Nat.le_trans (h.lim b hb) (k.lim b (Nat.lt_of_lt_of_le hb h.size)),fun b i c hi hc =>
  have h1:=h.cell b i c hi hc;k.cell b i c (Nat.lt_of_lt_of_le hi (h.lim b (YbQ hc))) h1⟩
structure Keep (m:Nat→Nat) (w:World) (m':Nat→Nat) (w':World):Prop where
 grown:w.grownBy w' none
 lim:∀ b,b < w.heap.size→m' b=m b
theorem Keep.refl (m w):Keep m w m w:=⟨⟨rfl,rfl,rfl,Nat.le_refl _,fun _ _ _=>rfl⟩,fun _ _=>rfl⟩
theorem Keep.trans {m w m1 w1 m2 w2} (h:Keep m w m1 w1) (k:Keep m1 w1 m2 w2):Keep m w m2 w2:=
 ⟨⟨k.grown.os.trans h.grown.os,k.grown.tape.trans h.grown.tape,k.grown.output.trans h.grown.output,Nat.le_trans h.grown.size k.grown.size,
  fun b hb _=>(k.grown.block b (Nat.lt_of_lt_of_le hb h.grown.size) (by simp)).trans (h.grown.block b hb (by simp))⟩,
  fun b hb=>(k.lim b (Nat.lt_of_lt_of_le hb h.grown.size)).trans (h.lim b hb)⟩
theorem Keep.block {m w m' w'} (h:Keep m w m' w') {b:Nat} (hb:b < w.heap.size):w'.heap[b]?=w.heap[b]?:=h.grown.block b hb (by simp)
theorem Keep.ext {m w m' w'} (h:Keep m w m' w'):Ext m w m' w':=
 ⟨h.grown.size,fun b hb=>by rw [h.lim b hb];exact Nat.le_refl _,fun b i c _ hc=>by
  rw [World.cell?_of_block (w:=w) (h.block (YbQ hc))];exact hc⟩
theorem Keep.heap {m w m' w'} (h:Keep m w m' w') {b:Nat} {o:Obj} (hb:w.heap[b]?=some o):w'.heap[b]?=some o:=by
 rw [h.block (by
  rcases Array.getElem?_eq_some_iff.1 hb with ⟨hlt,_⟩;exact hlt)]
 exact hb
theorem Keep.drew (m w):Keep m w m w.drew:=⟨⟨rfl,rfl,rfl,Nat.le_refl _,fun _ _ _=>rfl⟩,fun _ _=>rfl⟩
def Yb8 (m:Nat→Nat) (b n:Nat):Nat→Nat:=fun k=>if k=b then n else m k
@[simp] theorem mset_same (m b n):Yb8 m b n b=n:=by simp [Yb8]
theorem Ycj {m b n k} (h:k≠b):Yb8 m b n k=m k:=by simp [Yb8,h]
theorem Keep.alloc (m w o n):Keep m w (Yb8 m w.heap.size n) (w.alloc o):=
 ⟨World.grownBy_alloc w o none,fun b hb=>Ycj (by omega)⟩
/-! ## What values stand for -/
abbrev Rel (α:Type):=(Nat→Nat)→World→Value→α→Prop
abbrev Ycl (α:Type):=(Nat→Nat)→World→List Value→α→Prop
class Mono {α:Type} (R:Rel α):Prop where
 mono:∀ {m w m' w' v x},Ext m w m' w'→R m w v x→R m' w' v x
class CMono {α:Type} (R:Ycl α):Prop where
 mono:∀ {m w m' w' v x},Ext m w m' w'→R m w v x→R m' w' v x
def RI (k:IntKind):Rel Int:=fun _ _ v n=>v=.int k n
def RB:Rel Bool:=fun _ _ v b=>v=.bool b
instance (k):Mono (RI k):=⟨fun _ h=>h⟩
instance:Mono RB:=⟨fun _ h=>h⟩
class One {α:Type} (R:Rel α):Prop where
 cell:∀ {m w v x},R m w v x→v.oneCell'=true
instance (k):One (RI k):=⟨fun h=>by have h:_=_:=h;subst h;rfl⟩
instance:One RB:=⟨fun h=>by have h:_=_:=h;subst h;rfl⟩
class COne {α:Type} (C:Ycl α):Prop where
 cell:∀ {m w cs x},C m w cs x→∀ c∈cs,c.oneCell'=true
def one {α:Type} (R:Rel α):Ycl α:=fun m w cs x=>∃ c,cs=[c]∧R m w c x
instance {α:Type} (R:Rel α) [Mono R]:CMono (one R):=⟨fun h ⟨c,e,hr⟩=>⟨c,e,Mono.mono h hr⟩⟩
instance {α:Type} (R:Rel α) [One R]:COne (one R):=⟨fun ⟨c,e,hr⟩ u hu=>by subst e;simp at hu;subst hu;exact One.cell hr⟩
def YaA (m:Nat→Nat) (w:World) (p:Addr) (cs:List Value):Prop:=
 ∀ j c,cs[j]?=some c→p.off+j < m p.block∧w.cell? ⟨p.block,p.off+j,none⟩=some c
theorem YaA.mono {m w m' w' p cs} (h:Ext m w m' w') (hc:YaA m w p cs):YaA m' w' p cs:=fun j c hj =>
 let ⟨h1,h2⟩:=hc j c hj
 ⟨Nat.lt_of_lt_of_le h1 (h.lim _ (YbQ h2)),h.cell _ _ _ h1 h2⟩
def RS {α:Type} (sz:Nat) (C:Ycl α):Rel (List α):=fun m w v xs =>
 (v=.slice none 0 0∧xs=[]) ∨
 (∃ b o cap,v=.slice (some ⟨b,o,none⟩) xs.length cap∧xs.length≤cap∧cap≤maxLen ∧
  ∀ i x,xs[i]?=some x→∃ cs,cs.length=sz∧YaA m w ⟨b,o+i*sz,none⟩ cs∧C m w cs x) ∨
 ∃ a,v=.slice (some a) 0 0∧xs=[]
instance {α:Type} (sz:Nat) (C:Ycl α) [CMono C]:Mono (RS sz C):=⟨fun h hr=>by
 rcases hr with hn|⟨b,o,cap,hv,h1,h2,h3⟩|hw
 ·exact .inl hn
 ·exact .inr (.inl ⟨b,o,cap,hv,h1,h2,fun i x hx=>let ⟨cs,a1,a2,a3⟩:=h3 i x hx;⟨cs,a1,a2.mono h,CMono.mono h a3⟩⟩)
 ·exact .inr (.inr hw)⟩
instance {α:Type} (sz:Nat) (C:Ycl α):One (RS sz C):=⟨fun h=>by rcases h with ⟨rfl,_⟩|⟨_,_,_,rfl,_⟩|⟨_,rfl,_⟩<;>rfl⟩
theorem RS.len_le {α:Type} {sz} {C:Ycl α} {m w v xs} (h:RS sz C m w v xs):xs.length≤9223372036854775807:=by
 rcases h with ⟨_,rfl⟩|⟨b,o,cap,_,h1,h2,_⟩|⟨_,_,rfl⟩
 ·simp
 ·have:maxLen=9223372036854775807:=rfl
  omega
 ·simp
theorem RS.shape {α:Type} {sz} {C:Ycl α} {m w v xs} (h:RS sz C m w v xs):∃ b cap,v=.slice b xs.length cap∧xs.length≤cap:=by
 rcases h with ⟨rfl,rfl⟩|⟨b,o,cap,hv,h1,_,_⟩|⟨a,rfl,rfl⟩
 ·exact ⟨none,0,rfl,Nat.le_refl _⟩
 ·exact ⟨_,_,hv,h1⟩
 ·exact ⟨some a,0,rfl,Nat.le_refl _⟩
theorem RS.index {α:Type} {sz} {C:Ycl α} {m w v xs} (h:RS sz C m w v xs) {i x} (hi:xs[i]?=some x) :
  ∃ b o cap,v=.slice (some ⟨b,o,none⟩) xs.length cap∧∃ cs,cs.length=sz∧YaA m w ⟨b,o+i*sz,none⟩ cs∧C m w cs x:=by
 rcases h with ⟨_,rfl⟩|⟨b,o,cap,hv,_,_,h3⟩|⟨_,_,rfl⟩
 ·simp at hi
 ·exact ⟨b,o,cap,hv,h3 i x hi⟩
 ·simp at hi
theorem RS.news {α:Type} {sz} {C:Ycl α} [COne C] {m w} {b o:Nat} {xs:List α} (hsz:0 < sz)
  (h:∀ i x,xs[i]?=some x→∃ cs,cs.length=sz∧YaA m w ⟨b,o+i*sz,none⟩ cs∧C m w cs x) :
  ∃ news:List Value,news.length=xs.length*sz∧(∀ j u,news[j]?=some u→w.cell? ((⟨b,o,none⟩:Addr).add j)=some u)∧(∀ u∈news,u.oneCell'=true) ∧
   ∀ i x,xs[i]?=some x→∃ cs,cs.length=sz∧(∀ j c,cs[j]?=some c→news[i*sz+j]?=some c)∧C m w cs x:=by
 have hadd:∀ j,(⟨b,o,none⟩:Addr).add j=⟨b,o+j,none⟩:=fun j=>by unfold Addr.add;split<;>simp_all
 have hcell:∀ j,j < xs.length*sz→∃ u,w.cell? ⟨b,o+j,none⟩=some u∧u.oneCell'=true:=by
  intro j hj;have hi:j / sz < xs.length:=Nat.div_lt_of_lt_mul (by rw [Nat.mul_comm];exact hj);obtain ⟨cs,h1,h2,h3⟩:=h (j / sz) _ (List.getElem?_eq_getElem hi);have hr:j % sz < cs.length:=by rw [h1];exact Nat.mod_lt _ hsz
  refine ⟨cs[j % sz],?_,COne.cell h3 _ (List.getElem_mem hr)⟩;have:=(h2 (j % sz) _ (List.getElem?_eq_getElem hr)).2
  have e:o+j / sz*sz+j % sz=o+j:=by have:=Nat.div_add_mod j sz;rw [Nat.mul_comm] at this;omega
  rw [← e];exact this
 refine ⟨(List.range (xs.length*sz)).map fun j=>(w.cell? ⟨b,o+j,none⟩).getD default,by simp,?_,?_,?_⟩
 ·intro j u hu;rw [hadd];have hj:j < xs.length*sz:=by
   have:=(List.getElem?_eq_some_iff.1 hu).1
   simpa using this
  obtain ⟨c,hc,_⟩:=hcell j hj;simp [List.getElem?_map,List.getElem?_range hj,hc] at hu;subst hu;exact hc
 ·intro u hu;obtain ⟨j,hj,rfl⟩:=List.mem_map.1 hu;obtain ⟨c,hc,h1⟩:=hcell j (by simpa using hj);simpa [hc] using h1
 ·intro i x hx;obtain ⟨cs,h1,h2,h3⟩:=h i x hx;refine ⟨cs,h1,fun j c hc=>?_,h3⟩;have hi:i < xs.length:=(List.getElem?_eq_some_iff.1 hx).1;have hj:j < sz:=by rw [← h1];exact (List.getElem?_eq_some_iff.1 hc).1
  have hlt:i*sz+j < xs.length*sz:=Nat.lt_of_lt_of_le (by rw [Nat.succ_mul];omega:i*sz+j < (i+1)*sz) (Nat.mul_le_mul_right _ hi);have h4:=(h2 j c hc).2;have e:o+(i*sz+j)=o+i*sz+j:=by omega
  simp [List.getElem?_map,List.getElem?_range hlt,e,h4]
/-! ## Slices of the call's own: what is appended to -/
structure Touch (X:Option Nat) (m:Nat→Nat) (w:World) (m':Nat→Nat) (w':World):Prop where
 grown:w.grownBy w' X
 lim:∀ b,b < w.heap.size→some b≠X→m' b=m b
 ext:Ext m w m' w'
theorem Keep.touch {m w m' w'} (h:Keep m w m' w') (X:Option Nat):Touch X m w m' w':=
 ⟨⟨h.grown.os,h.grown.tape,h.grown.output,h.grown.size,fun _b hb _=>h.block hb⟩,fun b hb _=>h.lim b hb,h.ext⟩
theorem Touch.heap {X m w m' w'} (h:Touch X m w m' w') {b:Nat} {o:Obj} (hb:w.heap[b]?=some o) (hX:some b≠X):w'.heap[b]?=some o:=by
 rcases Array.getElem?_eq_some_iff.1 hb with ⟨hlt,_⟩;rw [h.grown.block b hlt hX];exact hb
theorem Touch.trans {X m w m1 w1 m2 w2} (h:Touch X m w m1 w1) (k:Touch X m1 w1 m2 w2):Touch X m w m2 w2:=
 ⟨⟨k.grown.os.trans h.grown.os,k.grown.tape.trans h.grown.tape,k.grown.output.trans h.grown.output,Nat.le_trans h.grown.size k.grown.size,
  fun b hb hX=>(k.grown.block b (Nat.lt_of_lt_of_le hb h.grown.size) hX).trans (h.grown.block b hb hX)⟩,
  fun b hb hX=>(k.lim b (Nat.lt_of_lt_of_le hb h.grown.size) hX).trans (h.lim b hb hX),h.ext.trans k.ext⟩
def Yay:Value→Option Nat
 | .slice (some a) _ (_+1)=>some a.block
 | _=>none
def Own {α:Type} (T:TypeId) (sz:Nat) (C:Ycl α) (m:Nat→Nat) (w:World) (v:Value) (xs:List α):Prop:=
 (v=.slice none 0 0∧xs=[])∨(∃ b o,v=.slice (some ⟨b,o,none⟩) 0 0∧xs=[]) ∨
 ∃ g cap cur,v=.slice (some ⟨g,0,none⟩) xs.length cap∧0 < cap∧w.heap[g]?=some (.cells cur T (0,0))∧xs.length≤cap∧cap≤maxLen∧cap*sz≤cur.size∧m g=xs.length*sz ∧
  ∀ i x,xs[i]?=some x→∃ cs,cs.length=sz∧(∀ j c,cs[j]?=some c→cur[i*sz+j]?=some c)∧C m w cs x
theorem Own.rs {α:Type} {T sz} {C:Ycl α} {m w v} {xs:List α} (h:Own T sz C m w v xs):RS sz C m w v xs:=by
 rcases h with hn|⟨b,o,rfl,rfl⟩|⟨g,cap,cur,hv,h0,hg,h1,h2,h3,h4,h5⟩
 ·exact .inl hn
 ·exact .inr (.inl ⟨b,o,0,rfl,Nat.le_refl _,Nat.zero_le _,fun i x hx=>by simp at hx⟩)
 ·refine .inr (.inl ⟨g,0,cap,hv,h1,h2,fun i x hx=>?_⟩);obtain ⟨cs,a1,a2,a3⟩:=h5 i x hx;refine ⟨cs,a1,fun j c hj=>?_,a3⟩;have hi:i < xs.length:=(List.getElem?_eq_some_iff.1 hx).1;have hjs:j < sz:=by rw [← a1];exact (List.getElem?_eq_some_iff.1 hj).1
  refine ⟨?_,?_⟩
  ·show 0+i*sz+j < m g;rw [h4];exact Nat.lt_of_lt_of_le (by rw [Nat.succ_mul];omega:0+i*sz+j < (i+1)*sz) (Nat.mul_le_mul_right _ hi)
  ·have:=a2 j c hj
   simp only [World.cell?,hg];simpa using this
theorem Own.touch {α:Type} {T sz} {C:Ycl α} [CMono C] {m w v} {xs:List α} {X m' w'} (h:Own T sz C m w v xs) (ht:Touch X m w m' w') (hX:Yay v=none∨Yay v≠X):Own T sz C m' w' v xs:=by
 rcases h with hn|hn|⟨g,cap,cur,hv,h0,hg,h1,h2,h3,h4,h5⟩
 ·exact .inl hn
 ·exact .inr (.inl hn)
 ·have hne:some g≠X:=by
   subst hv;obtain ⟨c,rfl⟩:∃ c,cap=c+1:=⟨cap-1,by omega⟩;simpa [Yay] using hX
  refine .inr (.inr ⟨g,cap,cur,hv,h0,ht.heap hg hne,h1,h2,h3,?_,fun i x hx=>?_⟩)
  ·rcases Array.getElem?_eq_some_iff.1 hg with ⟨hlt,_⟩;rw [ht.lim g hlt hne];exact h4
  ·obtain ⟨cs,a1,a2,a3⟩:=h5 i x hx;exact ⟨cs,a1,a2,CMono.mono ht.ext a3⟩
theorem Own.lt {α:Type} {T sz} {C:Ycl α} {m w v} {xs:List α} (h:Own T sz C m w v xs):∀ g,Yay v=some g→g < w.heap.size:=by
 intro g hg;rcases h with ⟨rfl,_⟩|⟨b,o,rfl,_⟩|⟨g',cap,cur,rfl,h0,hg',_⟩
 ·simp [Yay] at hg
 ·simp [Yay] at hg
 ·obtain ⟨c,rfl⟩:∃ c,cap=c+1:=⟨cap-1,by omega⟩;simp [Yay] at hg;subst hg;exact (Array.getElem?_eq_some_iff.1 hg').1
theorem Own.nil {α:Type} {T sz} {C:Ycl α} {m w}:Own T sz C m w (.slice none 0 0) ([]:List α):=.inl ⟨rfl,rfl⟩
/-! ## Endings -/
def YvL (m:Nat→Nat) (w:World) (K:(Nat→Nat)→World→Value→Prop):Ending→World→Prop:=
 fun e w'=>∃ v m',e=.returned v∧Keep m w m' w'∧K m' w' v
/-! ## Facts on types, as instances -/
class IntTy (P:Program) (T:Nat) (k:outParam IntKind):Prop where
 int:P.underlying T=some (.int k)
class SliceTy (P:Program) (T:Nat) (E:outParam Nat):Prop where
 slice:P.underlying T=some (.slice E)
class ElemTy (P:Program) (E:Nat) (sz bytes:outParam Nat) (z:outParam Value):Prop where
 elem:∃ i,P.info? E=some i∧i.size=sz∧i.bytes=bytes∧i.zero=some z∧z.cells.size=sz∧0 < sz
section
variable {P:Program} {ops:Array Oper} {Q:Exit→Act→World→Prop} {Kc:Act→World→Prop} {w w':World} {a:Act}
variable {N:Nat} {D:List Deferred} {ρ:List (Nat × Value)} {d T:Nat} {pos:String} {af:Array Edge} {x y z:Operand} {u v:Value}
def Yry (P:Program) (o:Oper) (K:Act→World→Prop) (a:Act) (w:World):Prop:=
 (∃ v w',(execOp a.eval o).run P w=.ok (.value v) w'∧K (a.put o.dst v) w') ∨
 (∃ w',(execOp a.eval o).run P w=.ok .skip w'∧K (a.put o.dst undef) w') ∨
 ∃ f args,(execOp a.eval o).run P w=.ok (.enter f args) w∧Calls P f args w fun e w''=>∃ v,e=.returned v∧K (a.put o.dst v) w''
theorem Yry.mono {o:Oper} {K K':Act→World→Prop} (h:∀ a w,K a w→K' a w) (hh:Yry P o K a w):Yry P o K' a w:=by
 rcases hh with ⟨v,w',h1,h2⟩|⟨w',h1,h2⟩|⟨f,args,h1,h2⟩
 ·exact .inl ⟨v,w',h1,h _ _ h2⟩
 ·exact .inr (.inl ⟨w',h1,h _ _ h2⟩)
 ·exact .inr (.inr ⟨f,args,h1,h2.mono fun e w'' ⟨v,he,hk⟩=>⟨v,he,h _ _ hk⟩⟩)
theorem Yry.wp {o:Oper} {K:Act→World→Prop} (h:Yry P o K a w):o.wp P a w K Q:=by
 unfold Oper.wp;rcases h with ⟨v,w',h1,h2⟩|⟨w',h1,h2⟩|⟨f,args,h1,h2⟩
 ·rw [h1];exact h2
 ·rw [h1];exact h2
 ·rw [h1];exact h2.mono fun e w'' ⟨v,he,hk⟩=>by subst he;exact hk
def OpK (P:Program) (ops:Array Oper) (_Q:Exit→Act→World→Prop) (o:Oper) (K:Act→World→Prop) (a:Act) (w:World):Prop:=
 if Region.wanted o (yielded ops a.tmps) then Yry P o K a w else K (a.put o.dst undef) w
theorem OpK.wp {o:Oper} {K:Act→World→Prop} (h:OpK P ops Q o K a w):if Region.wanted o (yielded ops a.tmps) then o.wp P a w K Q∨(o.asks P a w∧LetsOut Q) else K (a.put o.dst undef) w:=by
 unfold OpK at h;split
 ·rename_i hw;rw [if_pos hw] at h;exact .inl h.wp
 ·rename_i hw;rw [if_neg hw] at h;exact h
theorem lcons {o:Oper} {rest:List Oper} (h:OpK P ops Q o (wpList P ops Q rest) a w):wpList P ops Q (o::rest) a w:=h.wp
theorem OpK.mono {o:Oper} {K K':Act→World→Prop} (h:∀ a w,K a w→K' a w) (hh:OpK P ops Q o K a w):OpK P ops Q o K' a w:=by
 unfold OpK at *
 split
 ·rename_i hw;rw [if_pos hw] at hh;exact hh.mono h
 ·rename_i hw;rw [if_neg hw] at hh;exact h _ _ hh
theorem wl_value {o:Oper} (hg:o.guard=none) (hrun:(execOp a.eval o).run P w=.ok (.value v) w') (k:Kc (a.put o.dst v) w') :
  OpK P ops Q o Kc a w:=by
 unfold OpK;rw [if_pos (by simp [Region.wanted,hg])];exact .inl ⟨v,w',hrun,k⟩
theorem Yce {o:Oper} (hg:o.guard=none) (hrun:(execOp a.eval o).run P w=.ok .skip w') (k:Kc (a.put o.dst undef) w') :
  OpK P ops Q o Kc a w:=by
 unfold OpK;rw [if_pos (by simp [Region.wanted,hg])];exact .inr (.inl ⟨w',hrun,k⟩)
theorem Ycf {o:Oper} {f:FuncId} {args:Array Value} (hg:o.guard=none) (hrun:(execOp a.eval o).run P w=.ok (.enter f args) w)
  (hc:Calls P f args w fun e w''=>∃ v,e=.returned v∧Kc (a.put o.dst v) w'') :
  OpK P ops Q o Kc a w:=by
 unfold OpK;rw [if_pos (by simp [Region.wanted,hg])];exact .inr (.inr ⟨f,args,hrun,hc⟩)
/-! ### Guards -/
theorem YpO {op:Op} {j dj:Nat} {b b':Bool} {oj:Oper} (hE:Env N D a ρ) (hj:ops[j]?=some oj) (hd:oj.dst=some dj) (hl:look ρ dj=some (.bool b')) (hne:b'=!b) (hdN:d < N)
  (k:∀ a',Env N D a' ((d,undef)::ρ)→Kc a' w):OpK P ops Q ⟨some d,op,T,pos,af,some (j,b)⟩ Kc a w:=by
 have hy:yielded ops a.tmps j=some b':=by simp [yielded,hj,hd,hE.look _ _ hl]
 subst hne;have e1:(Region.wanted ⟨some d,op,T,pos,af,some (j,b)⟩ (yielded ops a.tmps))=false:=by cases b<;>simp [Region.wanted,hy]
 unfold OpK;rw [if_neg (by simp [e1])];exact k _ (hE.put undef hdN)
/-! ### Moves and arithmetic -/
variable {X Y:Nat} {kd:IntKind} {i j:Int}
theorem YbX {i:Int} (h0:-9223372036854775808≤i) (h1:i≤9223372036854775807):IntKind.i64.wrap i=i:=by
 simp [IntKind.wrap,IntKind.signed,IntKind.bits];omega
/-! A comparison parts the walk in two; the slot holds a literal YaJ it. -/
/-! ### Slices that are read -/
theorem Yak (b o n:Nat):(⟨b,o,none⟩:Addr).add n=⟨b,o+n,none⟩:=by
 unfold Addr.add;split<;>simp_all
/-! ### Calls -/
end
end Go.W
