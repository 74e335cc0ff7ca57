/- Lemmas for the claim; no conditions. -/
import Derived.Test.YtdjhogobbbnddaaGreatC4
import Derived.Carry
import Derived.Laws.MakeOwn
import Derived.Laws.Tables
namespace Go.W
open Go
theorem Box.frz {m w b cs E} (h:Box m w b cs E):Touch (some b) m w (Yb8 m b cs.length) w:=
 ⟨⟨rfl,rfl,rfl,Nat.le_refl _,fun _ _ _=>rfl⟩,fun k _ hk=>Ycj (fun e=>hk (by rw [e])),h.freeze.1⟩
/-! ### Maps whose keys are integers -/
def Yeg (w:World) (b:Nat) (l:List (Int × Value)):Prop:=
 ∃ es clock,w.heap[b]?=some (.map es clock)∧es.toList.map (fun e=>(e.key,e.val))=l.map (fun p=>(Value.int .i64 p.1,p.2))
theorem Yeg.lt {w b l} (h:Yeg w b l):b < w.heap.size:=by
 obtain ⟨es,clock,h,_⟩:=h;exact (Array.getElem?_eq_some_iff.1 h).1
theorem Yeg.touch {X m w m' w' b l} (ht:Touch X m w m' w') (hX:some b≠X) (h:Yeg w b l):Yeg w' b l:=by
 obtain ⟨es,clock,h,h'⟩:=h;exact ⟨es,clock,ht.heap h hX,h'⟩
def mfind (k:Int):List (Int × Value)→Option Value
 | []=>none
 | p::r=>if k==p.1 then some p.2 else mfind k r
theorem Ycg (k:Int):∀ (es:List MapEntry) (l:List (Int × Value)) (i:Nat),es.map (fun e=>(e.key,e.val))=l.map (fun p=>(Value.int .i64 p.1,p.2)) →
  (mfind k l=none∧Instr.findNow (.int .i64) (.int .i64 k) es i=some none)∨∃ v j,mfind k l=some v∧Instr.findNow (.int .i64) (.int .i64 k) es i=some (some (j,v))
 | [],[],i,_=>.inl ⟨rfl,rfl⟩
 | [],_::_,_,h=>by simp at h
 | _::_,[],_,h=>by simp at h
 | e::es,p::l,i,h=>by
   simp only [List.map_cons,List.cons.injEq,Prod.mk.injEq] at h;obtain ⟨⟨hk,hv⟩,h⟩:=h;simp only [mfind,Instr.findNow,hk,Instr.sameNow,if_true]
   cases hb:k==p.1 with
   | true=>exact .inr ⟨p.2,i,by simp,by simp [hv]⟩
   | false=>simpa using Ycg k es l (i+1) h
section
variable {P:Program} {ops:Array Oper} {Q:Exit→Act→World→Prop} {Kc:Act→World→Prop} {w w':World} {a:Act} {T X Y E:Nat}
variable {N:Nat} {D:List Deferred} {ρ:List (Nat × Value)} {d:Nat} {pos:String} {af:Array Edge} {x y z:Operand} {u v:Value} {g:Option (Nat × Bool)}
theorem YaR [IntTy P Y .i64] (e:Bool) (k:Int):(Instr.checkKey e 10000 Y (.int .i64 k)).run P w=.ok () w:=by
 have hk:=IntTy.int (P:=P) (T:=Y);show (Instr.checkKey e (9999+1) Y (.int .i64 k)).run P w=.ok () w;unfold Instr.checkKey;simp [run_underlying hk]
/-! ### Structs that are laid, slices that are made -/
theorem YwG (zc:Value) (n:Nat):madeCells #[zc] n=(List.replicate n zc).toArray:=by
 apply Array.ext
 ·simp [madeCells]
 ·intro i h1 h2;simp [madeCells,Nat.mod_one]
theorem Yfc {zv zc:Value} {bt l c:Nat} [SliceTy P X Y] [ElemTy P Y 1 bt zv] (hE:Env N D a ρ) (hx:ev ρ x=some (.int .i64 (l:Int))) (hy:ev ρ y=some (.int .i64 (c:Int))) (hlc:l≤c) (hz:zv.cells=#[zc])
  (hbt:bt*c≤16777216) (hc:c≤16777216) :
  (execOp a.eval ⟨some d,.makeSlice X x y,T,pos,af,g⟩).run P w=.ok (.value (.slice (some ⟨w.heap.size,0,none⟩) l c)) (w.alloc (.cells (List.replicate c zc).toArray Y)):=by
 obtain ⟨inf,i1,i2,i3,i4,i5,i6⟩:=ElemTy.elem (P:=P) (E:=Y);have hu:=SliceTy.slice (P:=P) (T:=X);have hb:(inf.bytes:Int)*(c:Int)≤281474976710656:=by
  rw [i3];have:((bt*c:Nat):Int)≤281474976710656:=by omega
  simpa using this
 have h:=run_makeSlice (P:=P) w X Y inf zv hu i1 i4 .i64 .i64 (l:Int) (c:Int) (by omega) (by omega) (by simp [i2];omega) hb (by omega);simp [i2,hz,YwG] at h;simp [execOp,hE.ev hx,hE.ev hy,h]
/-! ### Calls that write one block -/
end
theorem Box.off {α:Type} {T E sz:Nat} {C:Ycl α} {m w b cs v} {xs:List α} (h:Box m w b cs E) (ho:Own T sz C m w v xs) (hne:E≠T):Yay v≠some b:=by
 intro e;rcases ho with ⟨rfl,_⟩|⟨_,_,rfl,_⟩|⟨g,cap,cur,rfl,h0,hg,_⟩
 ·simp [Yay] at e
 ·simp [Yay] at e
 ·obtain ⟨c,rfl⟩:∃ c,cap=c+1:=⟨cap-1,by omega⟩;simp [Yay] at e;subst e;rw [h.heap] at hg;simp at hg;exact hne hg.2
/-! ### A slice literal of one element of several cells -/
/-! ### A region in which the call's own memory is written, though not two of its blocks -/
def Off (b1 b2:Nat) (m:Nat→Nat) (w:World):World→Prop:=fun w'=>∃ Z m',Touch Z m w m' w'∧Z≠some b1∧Z≠some b2
theorem Off.one {b1 b2:Nat} {m w}:∀ w',Off b1 b2 m w w'→∃ Z m',Touch Z m w m' w'∧Z≠some b1:=fun _ ⟨Z,m',h1,h2,_⟩=>⟨Z,m',h1,h2⟩
/-! ### A guard that was itself passed over -/
section
variable {P:Program} {ops:Array Oper} {Q:Exit→Act→World→Prop} {Kc:Act→World→Prop} {w:World} {a:Act} {T:Nat}
variable {N:Nat} {D:List Deferred} {ρ:List (Nat × Value)} {d:Nat} {pos:String} {af:Array Edge}
theorem guard_un {op:Op} {j dj:Nat} {b:Bool} {oj:Oper} (hE:Env N D a ρ) (hj:ops[j]?=some oj) (hd:oj.dst=some dj) (hl:look ρ dj=some undef) (hdN:d < N)
  (k:∀ a',Env N D a' ((d,undef)::ρ)→Kc a' w):OpK P ops Q ⟨some d,op,T,pos,af,some (j,b)⟩ Kc a w:=by
 have hy:yielded ops a.tmps j=none:=by simp [yielded,hj,hd,hE.look _ _ hl,undef]
 have e1:(Region.wanted ⟨some d,op,T,pos,af,some (j,b)⟩ (yielded ops a.tmps))=false:=by simp [Region.wanted,hy]
 unfold OpK;rw [if_neg (by simp [e1])];exact k _ (hE.put undef hdN)
end
/-! ### Structs and arrays that are never written again, loaded whole; function values with first arguments -/
end Go.W
namespace Go.V
open Go Go.W
structure MP where
 R:(Nat→Nat)→World→Value→Prop
 mono:∀ {m w m' w' v},Ext m w m' w'→R m w v→R m' w' v
 one:∀ {m w v},R m w v→v.oneCell'=true
inductive AV:Type where
 | raw (v:Value)
 | sl (sz:Nat) (nl:Option Bool) (xs:List AV)
 | st (cs:List AV)
 | tp (vs:List AV)
 | ep (cs:List AV) (o:Nat)
 | bp (i o:Nat)
 | gp (i sz k o:Nat)
 | hs (i:Nat)
 | mp (i:Nat)
 | fn (f:Fn) (first caps:List AV)
 | pr (R:MP)
 | junk
def AV.cells:AV→List AV
 | .st cs=>cs
 | x=>[x]
inductive Rep (m:Nat→Nat) (w:World):List Value→Value→AV→Prop
 | raw {γ v} (h:v.oneCell'=true):Rep m w γ v (.raw v)
 | nil {γ sz nl} (h:nl≠some false):Rep m w γ (.slice none 0 0) (.sl sz nl [])
 | sl {γ sz nl} {xs:List AV} {b o cap} (cv:Nat→List Value) (hn:nl≠some true) (h1:xs.length≤cap) (h2:cap≤maxLen)
   (hc:∀ (i:Nat) x,xs[i]?=some x→(cv i).length=sz∧x.cells.length=sz∧YaA m w ⟨b,o+i*sz,none⟩ (cv i)∧∀ c∈cv i,c.oneCell'=true)
   (hr:∀ (i:Nat) x (j:Nat) c y,xs[i]?=some x→(cv i)[j]?=some c→x.cells[j]?=some y→Rep m w [] c y) :
   Rep m w γ (.slice (some ⟨b,o,none⟩) xs.length cap) (.sl sz nl xs)
 | sl0 {γ sz nl a} (h:nl≠some true):Rep m w γ (.slice (some a) 0 0) (.sl sz nl [])
 | st {γ} {vs:List Value} {cs:List AV} (hl:vs.length=cs.length) (h1:∀ c∈vs,c.oneCell'=true) (hr:∀ (j:Nat) v c,vs[j]?=some v→cs[j]?=some c→Rep m w γ v c):Rep m w γ (.agg vs.toArray) (.st cs)
 | tp {γ} {vs:List Value} {cs:List AV} (hl:vs.length=cs.length) (hr:∀ (j:Nat) v c,vs[j]?=some v→cs[j]?=some c→Rep m w γ v c):Rep m w γ (.tuple vs.toArray) (.tp cs)
 | ep {γ b q o} {vs:List Value} {cs:List AV} (hc:YaA m w ⟨b,q,none⟩ vs) (hl:vs.length=cs.length) (h1:∀ c∈vs,c.oneCell'=true) (hr:∀ (j:Nat) v c,vs[j]?=some v→cs[j]?=some c→Rep m w [] v c) :
   Rep m w γ (.pointer (some ⟨b,q+o,none⟩)) (.ep cs o)
 | bp {γ i o b} (h:γ[i]?=some (.pointer (some ⟨b,0,none⟩))):Rep m w γ (.pointer (some ⟨b,o,none⟩)) (.bp i o)
 | gp {γ i sz k o b n c} (h:γ[i]?=some (.slice (some ⟨b,0,none⟩) n c)):Rep m w γ (.pointer (some ⟨b,k*sz+o,none⟩)) (.gp i sz k o)
 | hs {γ i a n c} (h:γ[i]?=some (.slice a n c)):Rep m w γ (.slice a n c) (.hs i)
 | mp {γ i b} (h:γ[i]?=some (.map (some b))):Rep m w γ (.map (some b)) (.mp i)
 | fn {γ f} {fv cv:List Value} {first caps:List AV} (l1:fv.length=first.length) (l2:cv.length=caps.length) (h1:∀ (j:Nat) v c,fv[j]?=some v→first[j]?=some c→Rep m w γ v c) (h2:∀ (j:Nat) v c,cv[j]?=some v→caps[j]?=some c→Rep m w γ v c) :
   Rep m w γ (.func f fv.toArray cv.toArray) (.fn f first caps)
 | pr {γ v R} (h:R.R m w v):Rep m w γ v (.pr R)
 | junk {γ v}:Rep m w γ v .junk
def Pre (γ γ':List Value):Prop:=∀ (i:Nat) v,γ[i]?=some v→γ'[i]?=some v
theorem Pre.refl (γ):Pre γ γ:=fun _ _ h=>h
theorem Pre.trans {a b c} (h:Pre a b) (k:Pre b c):Pre a c:=fun i v q=>k i v (h i v q)
theorem Pre.app (γ δ):Pre γ (γ++δ):=fun i v h=>by
 rw [List.getElem?_append_left (List.getElem?_eq_some_iff.1 h).1];exact h
theorem Rep.mono {m w γ m' w' γ' v x} (he:Ext m w m' w') (hp:Pre γ γ') (h:Rep m w γ v x):Rep m' w' γ' v x:=by
 induction h generalizing γ' with
 | raw h=>exact .raw h
 | nil h=>exact .nil h
 | sl cv hn h1 h2 hc _ ih=>exact .sl cv hn h1 h2 (fun i x hx=>let ⟨a,b,c,d⟩:=hc i x hx;⟨a,b,c.mono he,d⟩) (fun i x j c y h1 h2 h3=>ih i x j c y h1 h2 h3 (.refl _))
 | sl0 h=>exact .sl0 h
 | st hl h1 _ ih=>exact .st hl h1 (fun j v c a b=>ih j v c a b hp)
 | tp hl _ ih=>exact .tp hl (fun j v c a b=>ih j v c a b hp)
 | ep hc hl h1 _ ih=>exact .ep (hc.mono he) hl h1 (fun j v c a b=>ih j v c a b (.refl _))
 | bp h=>exact .bp (hp _ _ h)
 | gp h=>exact .gp (hp _ _ h)
 | hs h=>exact .hs (hp _ _ h)
 | mp h=>exact .mp (hp _ _ h)
 | fn l1 l2 _ _ i1 i2=>exact .fn l1 l2 (fun j v c a b=>i1 j v c a b hp) (fun j v c a b=>i2 j v c a b hp)
 | pr h=>exact .pr (MP.mono _ he h)
 | junk=>exact .junk
def CL (γ:List Value) (m:Nat→Nat) (w:World) (vs:List Value) (cs:List AV):Prop:=
 vs.length=cs.length∧(∀ c∈vs,c.oneCell'=true)∧∀ (j:Nat) v c,vs[j]?=some v→cs[j]?=some c→Rep m w γ v c
theorem CL.mono {m w γ m' w' γ' vs cs} (he:Ext m w m' w') (hp:Pre γ γ') (h:CL γ m w vs cs):CL γ' m' w' vs cs:=
 ⟨h.1,h.2.1,fun j v c a b=>(h.2.2 j v c a b).mono he hp⟩
def CA:Ycl AV:=fun m w vs x=>CL [] m w vs x.cells
instance:CMono CA:=⟨fun he h=>CL.mono he (.refl _) h⟩
instance:COne CA:=⟨fun h=>h.2.1⟩
theorem Rep.cellsOf {m w γ v x} (h:Rep m w γ v x) (ho:v.oneCell'=true∨∃ cs,x=.st cs):∃ vs,v.cells=vs.toArray∧CL γ m w vs x.cells:=by
 rcases ho with ho|⟨cs,rfl⟩
 ·have key:x.cells=[x]→∃ vs,v.cells=vs.toArray∧CL γ m w vs x.cells:=by
   intro hx;refine ⟨[v],by rw [Ycs ho],?_⟩;rw [hx];refine ⟨rfl,by simpa using ho,fun j u c a b=>?_⟩;have:j=0:=by
    have:=(List.getElem?_eq_some_iff.1 a).1
    simp at this;omega
   subst this;simp at a b;subst a b;exact h
  cases h with
  | st=>simp [Value.oneCell'] at ho
  | _=>exact key rfl
 ·cases h with
  | st hl h1 hr=>exact ⟨_,rfl,hl,h1,hr⟩
def NL (nl:Option Bool) (v:Value):Prop:=(nl=some true→v=.slice none 0 0)∧(nl=some false→v≠.slice none 0 0)
theorem NL.none (v):NL none v:=⟨nofun,nofun⟩
theorem Rep.rs {m w γ v sz nl xs} (h:Rep m w γ v (.sl sz nl xs)):RS sz CA m w v xs∧NL nl v∧∀ x∈xs,x.cells.length=sz:=by
 cases h with
 | nil h=>exact ⟨.inl ⟨rfl,rfl⟩,⟨fun _=>rfl,fun e=>(h e).elim⟩,by simp⟩
 | sl0 h=>exact ⟨.inr (.inr ⟨_,rfl,rfl⟩),⟨fun e=>(h e).elim,fun _=>by simp⟩,by simp⟩
 | sl cv hn h1 h2 hc hr =>
   refine ⟨.inr (.inl ⟨_,_,_,rfl,h1,h2,fun i x hx=>?_⟩),⟨fun e=>(hn e).elim,fun _=>by simp⟩,fun x hx=>?_⟩
   ·obtain ⟨a,b,c,d⟩:=hc i x hx;exact ⟨cv i,a,c,by rw [a,b],d,fun j v y h1 h2=>hr i x j v y hx h1 h2⟩
   ·obtain ⟨i,hi,rfl⟩:=List.mem_iff_getElem.1 hx;exact (hc i _ (List.getElem?_eq_getElem hi)).2.1
theorem Rep.of_rs {m w γ v sz nl xs} (h:RS sz CA m w v xs) (hn:NL nl v):Rep m w γ v (.sl sz nl xs):=by
 rcases h with ⟨rfl,rfl⟩|⟨b,o,cap,rfl,h1,h2,h3⟩|⟨a,rfl,rfl⟩;rotate_right
 ·exact .sl0 (fun e=>by have:=hn.1 e;simp at this)
 ·exact .nil (fun e=>hn.2 e rfl)
 ·have:∀ i,∃ cs:List Value,∀ x,xs[i]?=some x→cs.length=sz∧YaA m w ⟨b,o+i*sz,none⟩ cs∧CA m w cs x:=by
   intro i
   cases hx:xs[i]? with
   | none=>exact ⟨[],by simp⟩
   | some x =>
     obtain ⟨cs,a⟩:=h3 i x hx;exact ⟨cs,fun y hy=>by cases hy;exact a⟩
  refine .sl (fun i=>(this i).choose) (fun e=>by have:=hn.1 e;simp at this) h1 h2 (fun i x hx=>?_) (fun i x j c y hx hc hy=>?_)
  ·obtain ⟨a,b,c⟩:=(this i).choose_spec x hx;exact ⟨a,by rw [← c.1,a],b,c.2.1⟩
  ·exact ((this i).choose_spec x hx).2.2.2.2 j c y hc hy
theorem Rep.sl_shape {m w γ v sz nl xs} (h:Rep m w γ v (.sl sz nl xs)):∃ b cap,v=.slice b xs.length cap∧xs.length≤cap:=h.rs.1.shape
theorem Rep.sl_len {m w γ v sz nl xs} (h:Rep m w γ v (.sl sz nl xs)):xs.length≤9223372036854775807:=h.rs.1.len_le
/-! ## Objects -/
def okV (v:Value) (x:AV):Prop:=v.oneCell'=true∨∃ cs,x=.st cs
inductive AO:Type where
 | cb (T:TypeId) (cs:List AV)
 | gs (fz:Bool) (T:TypeId) (sz:Nat) (nl:Option Bool) (xs:List AV)
 | mo (es:List (Int × AV))
 | gw (T:TypeId) (sz:Nat) (nl:Option Bool) (xs:List AV)
 | mk (ks:List (Value × AV))
 | dead
def CK (m:Nat→Nat) (w:World):Ycl AV:=fun _ _ vs x=>CA m w vs x
instance (m w):CMono (CK m w):=⟨fun _ h=>h⟩
instance (m w):COne (CK m w):=⟨fun h=>h.2.1⟩
def Yoc (T sz:Nat) (m:Nat→Nat) (w:World) (v:Value) (xs:List AV):Prop:=
 ∃ m',Own T sz (CK m w) m' w v xs∧(∀ b,some b≠Yay v→m' b=m b)∧∀ b,Yay v=some b→m b=0
theorem Own.imp {α:Type} {T sz} {C C':Ycl α} {m w v} {xs:List α} (h:Own T sz C m w v xs) (hC:∀ cs x,C m w cs x→C' m w cs x):Own T sz C' m w v xs:=by
 rcases h with hn|hn|⟨g,cap,cur,hv,h0,hg,h1,h2,h3,h4,h5⟩
 ·exact .inl hn
 ·exact .inr (.inl hn)
 ·exact .inr (.inr ⟨g,cap,cur,hv,h0,hg,h1,h2,h3,h4,fun i x hx=>let ⟨cs,a,b,c⟩:=h5 i x hx;⟨cs,a,b,hC _ _ c⟩⟩)
def CKG (γ:List Value) (m:Nat→Nat) (w:World):Ycl AV:=fun _ _ vs x=>CL γ m w vs x.cells
instance (γ m w):CMono (CKG γ m w):=⟨fun _ h=>h⟩
instance (γ m w):COne (CKG γ m w):=⟨fun h=>h.2.1⟩
def YtN (γ:List Value) (T sz:Nat) (m:Nat→Nat) (w:World) (v:Value) (xs:List AV):Prop:=
 ∃ m',Own T sz (CKG γ m w) m' w v xs∧(∀ b,some b≠Yay v→m' b=m b)∧∀ b,Yay v=some b→m b=0
def YcR (m:Nat→Nat) (w:World) (γ:List Value) (v:Value):AO→Prop
 | .cb T cs=>∃ b vs,v=.pointer (some ⟨b,0,none⟩)∧Box m w b vs T∧CL γ m w vs cs
 | .gs fz T sz nl xs=>(if fz then Own T sz CA m w v xs else Yoc T sz m w v xs)∧NL nl v∧∀ x∈xs,x.cells.length=sz
 | .mo es=>∃ b l,v=.map (some b)∧m b=0∧Yeg w b l∧l.map (·.1)=es.map (·.1)∧∀ (j:Nat) p q,l[j]?=some p→es[j]?=some q→Rep m w [] p.2 q.2∧okV p.2 q.2
 | .gw T sz nl xs=>YtN γ T sz m w v xs∧NL nl v∧∀ x∈xs,x.cells.length=sz
 | .mk ks=>∃ b es clock,v=.map (some b)∧m b=0∧w.heap[b]?=some (.map es clock)∧es.toList.map (·.key)=ks.map (·.1)∧∀ (j:Nat) p q,es.toList[j]?=some p→ks[j]?=some q→Rep m w [] p.val q.2∧okV p.val q.2
 | .dead=>True
def blk:AO→Value→Option Nat
 | .cb _ _,.pointer (some a)=>some a.block
 | .gs _ _ _ _ _,v=>Yay v
 | .mo _,.map (some b)=>some b
 | .gw _ _ _ _,v=>Yay v
 | .mk _,.map (some b)=>some b
 | _,_=>none
theorem Own.mark {α:Type} {T sz} {C:Ycl α} {m m' w v} {xs:List α} (h:Own T sz C m w v xs) (hm:∀ b,Yay v=some b→m' b=m b) (hC:∀ cs x,C m w cs x→C m' w cs x):Own T sz C m' w v xs:=by
 rcases h with hn|hn|⟨g,cap,cur,hv,h0,hg,h1,h2,h3,h4,h5⟩
 ·exact .inl hn
 ·exact .inr (.inl hn)
 ·refine .inr (.inr ⟨g,cap,cur,hv,h0,hg,h1,h2,h3,?_,fun i x hx=>let ⟨cs,a,b,c⟩:=h5 i x hx;⟨cs,a,b,hC _ _ c⟩⟩);rw [hm g (by subst hv;obtain ⟨c,rfl⟩:∃ c,cap=c+1:=⟨cap-1,by omega⟩;rfl)];exact h4
theorem Yoc.ext {T sz m w v xs} (h:Yoc T sz m w v xs):∃ m',Own T sz (CK m w) m' w v xs∧(∀ b,some b≠Yay v→m' b=m b)∧(∀ b,Yay v=some b→m b=0)∧Ext m w m' w:=by
 obtain ⟨m',h1,h2,h3⟩:=h;refine ⟨m',h1,h2,h3,Nat.le_refl _,fun b _=>?_,fun _ _ _ _ h=>h⟩
 cases hb:Yay v with
 | none=>rw [h2 b (by simp [hb])];exact Nat.le_refl _
 | some g =>
   by_cases e:b=g
   ·subst e;rw [h3 b hb];exact Nat.zero_le _
   ·rw [h2 b (by rw [hb];simpa using e)];exact Nat.le_refl _
structure Far (S:List Nat) (m:Nat→Nat) (w:World) (m':Nat→Nat) (w':World):Prop where
 os:w'.os=w.os
 tape:w'.tape=w.tape
 output:w'.output=w.output
 size:w.heap.size≤w'.heap.size
 block:∀ b,b < w.heap.size→b ∉ S→w'.heap[b]?=w.heap[b]?
 lim:∀ b,b < w.heap.size→b ∉ S→m' b=m b
 ext:Ext m w m' w'
theorem Far.refl (S m w):Far S m w m w:=⟨rfl,rfl,rfl,Nat.le_refl _,fun _ _ _=>rfl,fun _ _ _=>rfl,.refl _ _⟩
theorem Far.trans {S S' m w m1 w1 m2 w2} (h:Far S m w m1 w1) (k:Far S' m1 w1 m2 w2) (hS:∀ b∈S',b∈S∨w.heap.size≤b):Far S m w m2 w2:=
 ⟨k.os.trans h.os,k.tape.trans h.tape,k.output.trans h.output,Nat.le_trans h.size k.size,
  fun b hb hS'=>(k.block b (Nat.lt_of_lt_of_le hb h.size) (fun e=>(hS b e).elim hS' (by omega))).trans (h.block b hb hS'),
  fun b hb hS'=>(k.lim b (Nat.lt_of_lt_of_le hb h.size) (fun e=>(hS b e).elim hS' (by omega))).trans (h.lim b hb hS'),h.ext.trans k.ext⟩
theorem _root_.Go.W.Touch.far {X m w m' w'} (h:W.Touch X m w m' w'):Far X.toList m w m' w':=
 ⟨h.grown.os,h.grown.tape,h.grown.output,h.grown.size,fun b hb hX=>h.grown.block b hb (fun e=>hX (by rw [← e];simp)),fun b hb hX=>h.lim b hb (fun e=>hX (by rw [← e];simp)),h.ext⟩
theorem _root_.Go.W.Keep.far {m w m' w'} (h:Keep m w m' w') (S:List Nat):Far S m w m' w':=
 ⟨h.grown.os,h.grown.tape,h.grown.output,h.grown.size,fun _b hb _=>h.block hb,fun b hb _=>h.lim b hb,h.ext⟩
theorem Far.keep {m w m' w'} (h:Far [] m w m' w'):Keep m w m' w':=
 ⟨⟨h.os,h.tape,h.output,h.size,fun b hb _=>h.block b hb (by simp)⟩,fun b hb=>h.lim b hb (by simp)⟩
theorem Far.sub {S S' m w m' w'} (h:Far S m w m' w') (hS:∀ b∈S,b∈S'):Far S' m w m' w':=
 ⟨h.os,h.tape,h.output,h.size,fun b hb hn=>h.block b hb (fun e=>hn (hS b e)),fun b hb hn=>h.lim b hb (fun e=>hn (hS b e)),h.ext⟩
theorem Far.heap {S m w m' w'} (h:Far S m w m' w') {b:Nat} {o:Obj} (hb:w.heap[b]?=some o) (hS:b ∉ S):w'.heap[b]?=some o:=by
 rw [h.block b (Array.getElem?_eq_some_iff.1 hb).1 hS];exact hb
theorem Own.far {C:Ycl AV} [CMono C] {T sz m w v} {xs:List AV} {S m' w'} (h:Own T sz C m w v xs) (ht:Far S m w m' w') (hX:∀ b,Yay v=some b→b ∉ S):Own T sz C m' w' v xs:=by
 rcases h with hn|hn|⟨g,cap,cur,hv,h0,hg,h1,h2,h3,h4,h5⟩
 ·exact .inl hn
 ·exact .inr (.inl hn)
 ·have hne:g ∉ S:=hX g (by subst hv;obtain ⟨c,rfl⟩:∃ c,cap=c+1:=⟨cap-1,by omega⟩;rfl);refine .inr (.inr ⟨g,cap,cur,hv,h0,ht.heap hg hne,h1,h2,h3,?_,fun i x hx=>?_⟩)
  ·rw [ht.lim g (Array.getElem?_eq_some_iff.1 hg).1 hne];exact h4
  ·obtain ⟨cs,a1,a2,a3⟩:=h5 i x hx;exact ⟨cs,a1,a2,CMono.mono ht.ext a3⟩
theorem Yoc.far {T sz m w v} {xs:List AV} {S m' w'} (h:Yoc T sz m w v xs) (ht:Far S m w m' w') (hX:∀ b,Yay v=some b→b ∉ S):Yoc T sz m' w' v xs:=by
 obtain ⟨m1,h1,h2,h3⟩:=h;have hlt:=h1.lt;refine ⟨fun b=>if some b=Yay v then m1 b else m' b,?_,fun b hb=>by simp only [if_neg hb],fun b hb=>by rw [ht.lim b (hlt b hb) (hX b hb)];exact h3 b hb⟩;refine Own.far (S:=S) (Own.imp h1 (C':=CK m' w') (fun cs x h=>show CA m' w' cs x from CMono.mono ht.ext (show CA m w cs x from h))) ⟨ht.os,ht.tape,ht.output,ht.size,ht.block,fun b hb hS=>?_,ht.size,fun b hb=>?_,fun b i c hi hc=>?_⟩ hX
 ·split
  ·rfl
  ·rename_i hn;rw [ht.lim b hb hS,h2 b hn]
 ·split
  ·exact Nat.le_refl _
  ·rename_i hn;rw [h2 b hn];exact ht.ext.lim b hb
 ·by_cases hn:some b=Yay v
  ·have:=ht.block b (hlt b hn.symm) (hX b hn.symm)
   rw [World.cell?_of_block (w:=w) this];exact hc
  ·rw [h2 b hn] at hi;exact ht.ext.cell b i c hi hc
theorem YtN.far {γ γ' T sz m w v} {xs:List AV} {S m' w'} (h:YtN γ T sz m w v xs) (ht:Far S m w m' w') (hX:∀ b,Yay v=some b→b ∉ S) (hp:Pre γ γ'):YtN γ' T sz m' w' v xs:=by
 obtain ⟨m1,h1,h2,h3⟩:=h;have hlt:=h1.lt;refine ⟨fun b=>if some b=Yay v then m1 b else m' b,?_,fun b hb=>by simp only [if_neg hb],fun b hb=>by rw [ht.lim b (hlt b hb) (hX b hb)];exact h3 b hb⟩;refine Own.far (S:=S) (Own.imp h1 (C':=CKG γ' m' w') (fun cs x h=>CL.mono ht.ext hp (show CL γ m w cs x.cells from h))) ⟨ht.os,ht.tape,ht.output,ht.size,ht.block,fun b hb hS=>?_,ht.size,fun b hb=>?_,fun b i c hi hc=>?_⟩ hX
 ·split
  ·rfl
  ·rename_i hn;rw [ht.lim b hb hS,h2 b hn]
 ·split
  ·exact Nat.le_refl _
  ·rename_i hn;rw [h2 b hn];exact ht.ext.lim b hb
 ·by_cases hn:some b=Yay v
  ·have:=ht.block b (hlt b hn.symm) (hX b hn.symm)
   rw [World.cell?_of_block (w:=w) this];exact hc
  ·rw [h2 b hn] at hi;exact ht.ext.cell b i c hi hc
theorem YcR.far {m w γ v o S m' w' γ'} (h:YcR m w γ v o) (ht:Far S m w m' w') (hX:∀ b,blk o v=some b→b ∉ S) (hp:Pre γ γ'):YcR m' w' γ' v o:=by
 cases o with
 | cb T cs =>
   obtain ⟨b,vs,rfl,hB,hC⟩:=h;have hb:b ∉ S:=hX b rfl;exact ⟨b,vs,rfl,⟨ht.heap hB.heap hb,by rw [ht.lim b hB.lt hb];exact hB.lim⟩,hC.mono ht.ext hp⟩
 | gs fz T sz nl xs =>
   obtain ⟨h1,h2,h3⟩:=h;refine ⟨?_,h2,h3⟩
   cases fz with
   | true=>exact Own.far h1 ht hX
   | false=>exact Yoc.far h1 ht hX
 | mo es =>
   obtain ⟨b,l,rfl,h0,hM,hk,hR⟩:=h;have hb:b ∉ S:=hX b rfl;have hlt:=hM.lt;obtain ⟨es',clock,hM1,hM2⟩:=hM;exact ⟨b,l,rfl,by rw [ht.lim b hlt hb];exact h0,⟨es',clock,ht.heap hM1 hb,hM2⟩,hk,fun j p q a c=>⟨(hR j p q a c).1.mono ht.ext (.refl _),(hR j p q a c).2⟩⟩
 | gw T sz nl xs =>
   obtain ⟨h1,h2,h3⟩:=h;exact ⟨YtN.far h1 ht hX hp,h2,h3⟩
 | mk ks =>
   obtain ⟨b,es,clock,rfl,h0,hM,hk,hR⟩:=h;have hb:b ∉ S:=hX b rfl;have hlt:=(Array.getElem?_eq_some_iff.1 hM).1;exact ⟨b,es,clock,rfl,by rw [ht.lim b hlt hb];exact h0,ht.heap hM hb,hk,fun j p q a c=>⟨(hR j p q a c).1.mono ht.ext (.refl _),(hR j p q a c).2⟩⟩
 | dead=>trivial
theorem YcR.lt {m w γ v o} (h:YcR m w γ v o) {b} (hb:blk o v=some b):b < w.heap.size:=by
 cases o with
 | cb T cs=>obtain ⟨b',vs,rfl,hB,hC⟩:=h;cases hb;exact hB.lt
 | gs fz T sz nl xs =>
   obtain ⟨h1,h2⟩:=h
   cases fz with
   | true=>exact Own.lt h1 b hb
   | false=>obtain ⟨m1,h1,_⟩:=h1;exact h1.lt b hb
 | mo es=>obtain ⟨b',l,rfl,h0,hM,_⟩:=h;cases hb;exact hM.lt
 | gw T sz nl xs =>
   obtain ⟨⟨m1,h1,_⟩,h2⟩:=h;exact h1.lt b hb
 | mk ks=>obtain ⟨b',es,clock,rfl,h0,hM,_⟩:=h;cases hb;exact (Array.getElem?_eq_some_iff.1 hM).1
 | dead=>cases hb
structure Heap (m:Nat→Nat) (w:World) (γ:List Value) (η:List AO):Prop where
 len:γ.length=η.length
 ok:∀ (i:Nat) v o,γ[i]?=some v→η[i]?=some o→YcR m w γ v o
 apart:∀ (i j:Nat) v v' o o' b,i≠j→γ[i]?=some v→η[i]?=some o→γ[j]?=some v'→η[j]?=some o'→blk o v=some b→blk o' v'≠some b
theorem Heap.get {m w γ η} (h:Heap m w γ η) {i:Nat} {o:AO} (hi:η[i]?=some o):∃ v,γ[i]?=some v∧YcR m w γ v o:=by
 have hlt:i < γ.length:=by rw [h.len];exact (List.getElem?_eq_some_iff.1 hi).1
 exact ⟨_,List.getElem?_eq_getElem hlt,h.ok i _ o (List.getElem?_eq_getElem hlt) hi⟩
theorem Heap.keep {m w γ η m' w'} (h:Heap m w γ η) (hk:Keep m w m' w'):Heap m' w' γ η:=
 ⟨h.len,fun i v o a b=>(h.ok i v o a b).far (hk.far []) (by simp) (.refl _),h.apart⟩
structure Base where
 m:Nat→Nat
 w:World
 S:List Nat
 γ:List Value
structure In (B:Base) (m:Nat→Nat) (w:World) (γ:List Value) (η:List AO):Prop where
 heap:Heap m w γ η
 far:Far B.S B.m B.w m w
 own:∀ (i:Nat) v o b,γ[i]?=some v→η[i]?=some o→blk o v=some b→b∈B.S∨B.w.heap.size≤b
 pre:Pre B.γ γ
theorem In.keep {B m w γ η m' w'} (h:In B m w γ η) (hk:Keep m w m' w'):In B m' w' γ η:=
 ⟨h.heap.keep hk,h.far.trans (hk.far []) (by simp),h.own,h.pre⟩
theorem In.put {B m w γ η m' w'} {i:Nat} {v o o'} (h:In B m w γ η) (hv:γ[i]?=some v) (ho:η[i]?=some o) (ht:W.Touch (blk o v) m w m' w') (hok:YcR m' w' γ v o') (hb:blk o' v=blk o v∨blk o' v=none):In B m' w' γ (η.set i o'):=by
 have hi:i < η.length:=(List.getElem?_eq_some_iff.1 ho).1;have key:∀ (j:Nat) x,(η.set i o')[j]?=some x→(j=i∧x=o')∨(j≠i∧η[j]?=some x):=by
  intro j x hx;rw [List.getElem?_set] at hx;split at hx
  ·rename_i e;subst e
   cases hx;exact .inl ⟨rfl,rfl⟩
  ·rename_i e;exact .inr ⟨fun e'=>e e'.symm,hx⟩
 have hsame:∀ {b},blk o' v=some b→blk o v=some b:=by
  intro b hq;rcases hb with e|e
  ·rw [← e];exact hq
  ·rw [e] at hq;cases hq
 refine ⟨⟨by simp [h.heap.len],fun j u x hu hx=>?_,fun j k u u' x x' b hne hu hx hu' hx' hbx=>?_⟩,h.far.trans ht.far (fun b hb=>?_),fun j u x b hu hx hbx=>?_,h.pre⟩
 ·rcases key j x hx with ⟨rfl,rfl⟩|⟨e,q⟩
  ·rw [hv] at hu;cases hu;exact hok
  ·refine (h.heap.ok j u x hu q).far ht.far (fun b hb hm=>?_) (.refl _);have hm:blk o v=some b:=by simpa using hm
   exact h.heap.apart i j v u o x b (Ne.symm e) hv ho hu q hm hb
 ·rcases key j x hx with ⟨e1,e2⟩|⟨e,q⟩
  ·subst e2;rw [e1,hv] at hu;cases hu;rcases key k x' hx' with ⟨e3,e4⟩|⟨e',q'⟩
   ·exact (hne (e1.trans e3.symm)).elim
   ·exact h.heap.apart i k v u' o x' b (Ne.symm e') hv ho hu' q' (hsame hbx)
  ·rcases key k x' hx' with ⟨e3,e4⟩|⟨e',q'⟩
   ·subst e4;rw [e3,hv] at hu';cases hu';intro hq;exact h.heap.apart j i u v x o b e hu q hv ho hbx (hsame hq)
   ·exact h.heap.apart j k u u' x x' b hne hu q hu' q' hbx
 ·have hb:blk o v=some b:=by simpa using hb
  exact h.own i v o b hv ho hb
 ·rcases key j x hx with ⟨rfl,rfl⟩|⟨e,q⟩
  ·rw [hv] at hu;cases hu;exact h.own j v o b hv ho (hsame hbx)
  ·exact h.own j u x b hu q hbx
theorem Yal {α:Type} {l:List α} {x y:α} {i:Nat} (h:(l++[x])[i]?=some y):l[i]?=some y∨(i=l.length∧y=x):=by
 rw [List.getElem?_append] at h;split at h
 ·exact .inl h
 ·rename_i hn
  have:i-l.length=0:=by
   have:=(List.getElem?_eq_some_iff.1 h).1
   simp at this;omega
  rw [this] at h;simp at h;exact .inr ⟨by omega,h.symm⟩
theorem YaD {α:Type} {l:List α} {x:α}:(l++[x])[l.length]?=some x:=by simp
theorem In.new {B m w γ η m' w' v o} (h:In B m w γ η) (hk:Keep m w m' w') (hok:YcR m' w' (γ++[v]) v o) (hnew:∀ b,blk o v=some b→w.heap.size≤b):In B m' w' (γ++[v]) (η++[o]):=by
 have hl:=h.heap.len;have hlt:∀ {i:Nat} {u},γ[i]?=some u→i < γ.length:=fun h=>(List.getElem?_eq_some_iff.1 h).1
 have hlt':∀ {i:Nat} {u},η[i]?=some u→i < η.length:=fun h=>(List.getElem?_eq_some_iff.1 h).1
 refine ⟨⟨by simp [hl],fun j u x hu hx=>?_,fun j k u u' x x' b hne hu hx hu' hx' hbx=>?_⟩,h.far.trans (hk.far []) (by simp),fun j u x b hu hx hbx=>?_,h.pre.trans (.app _ _)⟩
 ·rcases Yal hu with hu|⟨e,rfl⟩
  ·rcases Yal hx with hx|⟨e,rfl⟩
   ·exact (h.heap.ok j u x hu hx).far (hk.far []) (by simp) (.app _ _)
   ·have:=hlt hu;omega
  ·rcases Yal hx with hx|⟨_,rfl⟩
   ·have:=hlt' hx;omega
   ·exact hok
 ·rcases Yal hu with hu|⟨e,rfl⟩
  ·rcases Yal hx with hx|⟨e,rfl⟩
   ·have hb1:=(h.heap.ok j u x hu hx).lt hbx;rcases Yal hu' with hu'|⟨e',rfl⟩
    ·rcases Yal hx' with hx'|⟨e',rfl⟩
     ·exact h.heap.apart j k u u' x x' b hne hu hx hu' hx' hbx
     ·have:=hlt hu';omega
    ·rcases Yal hx' with hx'|⟨_,rfl⟩
     ·have:=hlt' hx';omega
     ·intro hq;have:=hnew b hq;omega
   ·have:=hlt hu;omega
  ·rcases Yal hx with hx|⟨_,rfl⟩
   ·have:=hlt' hx;omega
   ·have hb1:=hnew b hbx;rcases Yal hu' with hu'|⟨e',rfl⟩
    ·rcases Yal hx' with hx'|⟨e',rfl⟩
     ·intro hq;have:=(h.heap.ok k u' x' hu' hx').lt hq;omega
     ·have:=hlt hu';omega
    ·omega
 ·rcases Yal hu with hu|⟨e,rfl⟩
  ·rcases Yal hx with hx|⟨e,rfl⟩
   ·exact h.own j u x b hu hx hbx
   ·have:=hlt hu;omega
  ·rcases Yal hx with hx|⟨_,rfl⟩
   ·have:=hlt' hx;omega
   ·exact .inr (Nat.le_trans h.far.size (hnew b hbx))
theorem In.over {B m w γ η m' w'} {i:Nat} {v o v' o'} (h:In B m w γ η) (hv:γ[i]?=some v) (ho:η[i]?=some o) (ht:W.Touch (blk o v) m w m' w') (hok:YcR m' w' (γ++[v']) v' o') (hb:∀ b,blk o' v'=some b→blk o v=some b∨w.heap.size≤b) :
  In B m' w' (γ++[v']) (η.set i .dead++[o']):=by
 have h1:=h.put (o':=.dead) hv ho ht trivial (.inr (by cases v<;>rfl));have hl:=h.heap.len;have hlt:∀ {i:Nat} {u},γ[i]?=some u→i < γ.length:=fun h=>(List.getElem?_eq_some_iff.1 h).1
 have hlt':∀ {j:Nat} {u},(η.set i .dead)[j]?=some u→j < η.length:=fun h=>by have:=(List.getElem?_eq_some_iff.1 h).1;simpa using this
 have off:∀ (j:Nat) u x b,γ[j]?=some u→(η.set i .dead)[j]?=some x→blk x u=some b→blk o' v'≠some b:=by
  intro j u x b hu hx hbx hq;rcases hb b hq with e|e
  ·by_cases hji:j=i
   ·subst hji;rw [List.getElem?_set_self (by have:=(List.getElem?_eq_some_iff.1 ho).1;omega)] at hx
    cases hx
    cases u<;>cases hbx
   ·rw [List.getElem?_set_ne (Ne.symm hji)] at hx;exact h.heap.apart i j v u o x b (Ne.symm hji) hv ho hu hx e hbx
  ·by_cases hji:j=i
   ·subst hji;rw [List.getElem?_set_self (by have:=(List.getElem?_eq_some_iff.1 ho).1;omega)] at hx
    cases hx
    cases u<;>cases hbx
   ·rw [List.getElem?_set_ne (Ne.symm hji)] at hx;have:=(h.heap.ok j u x hu hx).lt hbx
    omega
 refine ⟨⟨by simp [hl],fun j u x hu hx=>?_,fun j k u u' x x' b hne hu hx hu' hx' hbx=>?_⟩,h1.far,fun j u x b hu hx hbx=>?_,h1.pre.trans (.app _ _)⟩
 ·rcases Yal hu with p|⟨e,e1⟩
  ·rcases Yal hx with q|⟨e,e1⟩
   ·exact (h1.heap.ok j u x p q).far (.refl [] _ _) (by simp) (.app _ _)
   ·have:=hlt p;simp at e;omega
  ·rcases Yal hx with q|⟨_,e2⟩
   ·have:=hlt' q;omega
   ·subst e1 e2;exact hok
 ·rcases Yal hu with p|⟨e,e1⟩
  ·rcases Yal hx with q|⟨e,e1⟩
   ·rcases Yal hu' with p'|⟨e',e1'⟩
    ·rcases Yal hx' with q'|⟨e',e1'⟩
     ·exact h1.heap.apart j k u u' x x' b hne p q p' q' hbx
     ·have:=hlt p';simp at e';omega
    ·rcases Yal hx' with q'|⟨_,e2'⟩
     ·have:=hlt' q';omega
     ·subst e1' e2';exact off j u x b p q hbx
   ·have:=hlt p;simp at e;omega
  ·rcases Yal hx with q|⟨_,e2⟩
   ·have:=hlt' q;omega
   ·rcases Yal hu' with p'|⟨e',e1'⟩
    ·rcases Yal hx' with q'|⟨e',e1'⟩
     ·subst e1 e2;intro hq;exact off k u' x' b p' q' hq hbx
     ·have:=hlt p';simp at e';omega
    ·omega
 ·rcases Yal hu with p|⟨e,e1⟩
  ·rcases Yal hx with q|⟨e,e1⟩
   ·exact h1.own j u x b p q hbx
   ·have:=hlt p;simp at e;omega
  ·rcases Yal hx with q|⟨_,e2⟩
   ·have:=hlt' q;omega
   ·subst e1 e2;rcases hb b hbx with e|e
    ·exact h.own i v o b hv ho e
    ·exact .inr (Nat.le_trans h.far.size e)
/-! ## An activation -/
def lk:List (Nat × AV)→Nat→Option AV
 | [],_=>none
 | (k,v)::r,t=>bif Nat.beq k t then some v else lk r t
def RL (m:Nat→Nat) (w:World) (γ:List Value):List (Nat × Value)→List (Nat × AV)→Prop
 | [],[]=>True
 | (t,v)::r,(t',x)::s=>t=t'∧Rep m w γ v x∧RL m w γ r s
 | _,_=>False
theorem RL.look {m w γ}:∀ {ρc ρ},RL m w γ ρc ρ→∀ {t x},lk ρ t=some x→∃ v,W.look ρc t=some v∧Rep m w γ v x
 | [],[],_,t,x,h=>by simp [lk] at h
 | (k,v)::r,(k',y)::s,⟨hk,hr,hl⟩,t,x,h=>by
   subst hk;simp only [lk] at h;simp only [W.look]
   cases hb:Nat.beq k t with
   | true=>rw [hb] at h;simp at h;subst h;exact ⟨v,by simp,hr⟩
   | false=>rw [hb] at h;simpa using RL.look hl (by simpa using h)
 | [],_::_,h,_,_,_=>h.elim
 | _::_,[],h,_,_,_=>h.elim
theorem RL.mono {m w γ m' w' γ'} (he:Ext m w m' w') (hp:Pre γ γ'):∀ {ρc ρ},RL m w γ ρc ρ→RL m' w' γ' ρc ρ
 | [],[],_=>trivial
 | _::_,_::_,⟨a,b,c⟩=>⟨a,b.mono he hp,RL.mono he hp c⟩
 | [],_::_,h=>h.elim
 | _::_,[],h=>h.elim
def rawOf (v:Value):Option AV:=if v.oneCell' then some (.raw v) else none
def Yml:Value→Option AV
 | .agg cs=>if cs.toList.all (·.oneCell') then some (.st (cs.toList.map .raw)) else none
 | v=>rawOf v
def ev2 (ρ:List (Nat × AV)):Operand→Option AV
 | .tmp t=>lk ρ t
 | .const v=>Yml v
 | .func f=>some (.fn (.func f) [] [])
 | .global _=>none
theorem YlS {m w γ v x} (h:Yml v=some x):Rep m w γ v x:=by
 unfold Yml at h;split at h
 ·rename_i cs
  split at h
  ·rename_i hc
   cases h
   have e:cs=cs.toList.toArray:=by simp
   rw [e];refine .st (by simp) (fun c hcm=>by simpa using List.all_eq_true.1 hc c hcm) (fun j v c hv hc'=>?_);have hv':cs.toList[j]?=some v:=by simpa using hv
   simp only [List.getElem?_map,hv',Option.map_some] at hc'
   cases hc'
   exact .raw (by simpa using List.all_eq_true.1 hc v (List.mem_of_getElem? hv'))
  ·cases h
 ·unfold rawOf at h;split at h
  ·cases h;rename_i hq;exact .raw hq
  ·cases h
theorem RL.ev {m w γ ρc ρ} (h:RL m w γ ρc ρ) {x:Operand} {y} (hx:ev2 ρ x=some y):∃ v,W.ev ρc x=some v∧Rep m w γ v y:=by
 cases x with
 | tmp t=>exact h.look hx
 | const v=>exact ⟨v,rfl,YlS hx⟩
 | func f =>
   simp only [ev2,Option.some.injEq] at hx;subst hx;exact ⟨_,rfl,.fn (fv:=[]) (cv:=[]) rfl rfl (by simp) (by simp)⟩
 | global g=>cases hx
def A2 (N:Nat) (D:List Deferred) (B:Base) (a:Act) (w:World) (ρ:List (Nat × AV)) (η:List AO):Prop:=
 ∃ m γ ρc,Env N D a ρc∧RL m w γ ρc ρ∧In B m w γ η
theorem A2.ev {N D B a w ρ η} (h:A2 N D B a w ρ η) {x:Operand} {y} (hx:ev2 ρ x=some y):∃ m γ v,a.eval x=v∧Rep m w γ v y:=by
 obtain ⟨m,γ,ρc,h1,h2,h3⟩:=h;obtain ⟨v,a1,a2⟩:=h2.ev hx;exact ⟨m,γ,v,h1.ev a1,a2⟩
/-! ## Types -/
inductive Sh where
 | plain
 | int (k:IntKind)
 | slice (e:Nat)
 | array (n e:Nat)
 | map (k e:Nat)
 | strct (fs:List (Nat × Nat))
 | ptr (e:Nat)
structure TyE where
 sh:Sh
 size:Nat
 bytes:Nat
 zero:Value
def Yt3 (d:TypeDesc):Sh→Prop
 | .plain=>(∀ fs,d≠.struct fs)∧(∀ n e,d≠.array n e)
 | .int k=>d=.int k
 | .slice e=>d=.slice e
 | .array n e=>d=.array n e
 | .map k e=>d=.map k e
 | .ptr e=>d=.pointer e
 | .strct fs=>∃ fields,d=.struct fields∧fields.toList.map (fun f=>(f.offset,f.type))=fs
def Sh.agg:Sh→Bool
 | .array _ _=>true
 | .strct _=>true
 | _=>false
structure TyOK (P:Program) (t:Nat) (e:TyE):Prop where
 sh:∃ d,P.underlying t=some d∧Yt3 d e.sh
 info:∃ i,P.info? t=some i∧i.size=e.size∧i.bytes=e.bytes∧i.zero=some e.zero∧e.zero.cells.size=e.size
abbrev Tab:=Nat→Option TyE
def YaX (P:Program) (tab:Tab):Prop:=∀ t e,tab t=some e→TyOK P t e
theorem TyOK.nagg {P t e} (h:TyOK P t e) (ha:e.sh.agg=false) (w:World):(isAgg t).run P w=.ok false w:=by
 obtain ⟨d,hu,hd⟩:=h.sh
 cases hs:e.sh<;>rw [hs] at hd ha<;>simp only [Yt3] at hd<;>first|(simp [Sh.agg] at ha;done)|(subst hd;simp [isAgg,run_underlying hu];done)|skip
 cases d<;>simp [isAgg,run_underlying hu]<;>first|exact absurd rfl (hd.1 _)|exact absurd rfl (hd.2 _ _)
theorem TyOK.agg {P t e} (h:TyOK P t e) (ha:e.sh.agg=true) (w:World):(isAgg t).run P w=.ok true w:=by
 obtain ⟨d,hu,hd⟩:=h.sh
 cases hs:e.sh<;>rw [hs] at hd ha<;>simp only [Yt3] at hd<;>first|(simp [Sh.agg] at ha;done)|skip
 ·subst hd;simp [isAgg,run_underlying hu]
 ·obtain ⟨fs,rfl,_⟩:=hd;simp [isAgg,run_underlying hu]
def Yaj (P:Program) (N:Nat) (D:List Deferred) (op:Op) (ρ:List (Nat × AV)) (η:List AO) (x:AV) (M:Bool:=true):Prop:=
 ∀ ⦃m w γ ρc a⦄,Env N D a ρc→RL m w γ ρc ρ→Heap m w γ η →
  ∃ v,Rep m w γ v x∧∀ {m' w'},(M=true→Keep m w m' w')→∀ (d:Nat) (T:Nat) (pos:String) (af:Array Edge) (g:Option (Nat × Bool)),(execOp a.eval ⟨some d,op,T,pos,af,g⟩).run P w'=.ok (.value v) w'
section
variable {P:Program} {tab:Tab} {N:Nat} {D:List Deferred} {ρ:List (Nat × AV)} {η:List AO} {x y z:Operand} {X Y:Nat} {M:Bool}
theorem YoB {u} (hx:ev2 ρ x=some u):Yaj P N D (.move x) ρ η u M:=fun _ _ _ _ _ hE hR hH=>by
 obtain ⟨v,h1,h2⟩:=hR.ev hx;exact ⟨v,h2,fun _ _ _ _ _ _=>by simp [execOp,hE.ev h1]⟩
theorem Yma {u} (hx:ev2 ρ x=some u):Yaj P N D (.assign x) ρ η u M:=fun _ _ _ _ _ hE hR hH=>by
 obtain ⟨v,h1,h2⟩:=hR.ev hx;exact ⟨v,h2,fun _ _ _ _ _ _=>by simp [execOp,hE.ev h1]⟩
theorem Rep.raw_eq {m w γ v u} (h:Rep m w γ v (.raw u)):v=u:=by cases h;rfl
theorem RL.raw {m w γ ρc ρ} (hR:RL m w γ ρc ρ) {x:Operand} {u} (hx:ev2 ρ x=some (.raw u)):W.ev ρc x=some u:=by
 obtain ⟨v,h1,h2⟩:=hR.ev hx;rw [h2.raw_eq] at h1;exact h1
theorem Ynk {b Ty} (hx:ev2 ρ x=some (.raw (.bool b))):Yaj P N D (.unOp .not Ty x) ρ η (.raw (.bool (!b))) M:=fun _ _ _ _ _ hE hR hH =>
 ⟨_,.raw rfl,fun _ _ _ _ _ _=>by simp [execOp,hE.ev (hR.raw hx),Op.unary]⟩
/-! ### Comparisons -/
def YsG:BinOp→Int→Int→Option Bool
 | .eql,i,j=>some (decide (i=j))
 | .neq,i,j=>some (decide (i≠j))
 | .lss,i,j=>some (decide (i < j))
 | .leq,i,j=>some (decide (i≤j))
 | .gtr,i,j=>some (decide (j < i))
 | .geq,i,j=>some (decide (j≤i))
 | _,_,_=>none
def bin:BinOp→AV→AV→Option AV
 | op,.raw (.int .i64 i),.raw (.int .i64 j)=>(YsG op i j).map fun b=>.raw (.bool b)
 | op,.raw (.int .u8 i),.raw (.int .u8 j)=>(YsG op i j).map fun b=>.raw (.bool b)
 | op,.raw (.int .i32 i),.raw (.int .i32 j)=>(YsG op i j).map fun b=>.raw (.bool b)
 | op,.raw (.int .u64 i),.raw (.int .u64 j)=>(YsG op i j).map fun b=>.raw (.bool b)
 | _,_,_=>none
theorem YsV {op:BinOp} {k:IntKind} {i j:Int} {b:Bool} {X:Nat} (h:YsG op i j=some b) (w:World):(binOp op X (.int k i) (.int k j)).run P w=.ok (.bool b) w:=by
 cases op<;>simp only [YsG,Option.some.injEq,reduceCtorEq] at h<;>subst h<;>simp [binOp,Op.intCmp]
 all_goals (by_cases e:i=j<;>simp [e])
theorem YpN {op k} {i j:Int} {b} (hx:ev2 ρ x=some (.raw (.int k i))) (hy:ev2 ρ y=some (.raw (.int k j))) (hb:YsG op i j=some b):Yaj P N D (.binOp op X x y Y) ρ η (.raw (.bool b)) M:=fun _ _ _ _ _ hE hR hH =>
 ⟨_,.raw rfl,fun _ _ _ _ _ _=>by
  have hc:=YsV (P:=P) (X:=X) (k:=k) hb;simp [execOp,hE.ev (hR.raw hx),hE.ev (hR.raw hy),hc]
  cases op<;>simp [eqGuard]⟩
theorem Yrv {op u1 u2 u} (hx:ev2 ρ x=some u1) (hy:ev2 ρ y=some u2) (h:bin op u1 u2=some u):Yaj P N D (.binOp op X x y Y) ρ η u M:=by
 unfold bin at h;split at h;all_goals first
  | (simp only [Option.map_eq_some_iff] at h;obtain ⟨b,hb,rfl⟩:=h;exact YpN hx hy hb)
  | cases h
/-! ### Arithmetic -/
variable {i j:Int}
theorem YqL (hx:ev2 ρ x=some (.raw (.int .i64 i))) (hy:ev2 ρ y=some (.raw (.int .i64 j))) (h0:-9223372036854775808≤i+j) (h1:i+j≤9223372036854775807) :
  Yaj P N D (.binOp .add X x y Y) ρ η (.raw (.int .i64 (i+j))) M:=fun _ _ _ _ _ hE hR hH =>
 ⟨_,.raw rfl,fun _ _ _ _ _ _=>by simp [execOp,hE.ev (hR.raw hx),hE.ev (hR.raw hy),binOp,eqGuard,Op.intArith,YbX h0 h1]⟩
theorem Yq4 (hx:ev2 ρ x=some (.raw (.int .i64 i))) (hy:ev2 ρ y=some (.raw (.int .i64 j))) (h0:-9223372036854775808≤i-j) (h1:i-j≤9223372036854775807) :
  Yaj P N D (.binOp .sub X x y Y) ρ η (.raw (.int .i64 (i-j))) M:=fun _ _ _ _ _ hE hR hH =>
 ⟨_,.raw rfl,fun _ _ _ _ _ _=>by simp [execOp,hE.ev (hR.raw hx),hE.ev (hR.raw hy),binOp,eqGuard,Op.intArith,YbX h0 h1]⟩
theorem Yrt (hx:ev2 ρ x=some (.raw (.int .i64 i))) (hy:ev2 ρ y=some (.raw (.int .i64 j))) (h0:-9223372036854775808≤i*j) (h1:i*j≤9223372036854775807) :
  Yaj P N D (.binOp .mul X x y Y) ρ η (.raw (.int .i64 (i*j))) M:=fun _ _ _ _ _ hE hR hH =>
 ⟨_,.raw rfl,fun _ _ _ _ _ _=>by simp [execOp,hE.ev (hR.raw hx),hE.ev (hR.raw hy),binOp,eqGuard,Op.intArith,YbX h0 h1]⟩
theorem Yqj (hx:ev2 ρ x=some (.raw (.int .i64 i))) (hy:ev2 ρ y=some (.raw (.int .i64 j))) (h0:0≤i) (h1:0 < j) :
  Yaj P N D (.binOp .rem X x y Y) ρ η (.raw (.int .i64 (i % j))) M:=fun _ _ _ _ _ hE hR hH =>
 ⟨_,.raw rfl,fun _ _ _ _ _ _=>by simp [execOp,hE.ev (hR.raw hx),hE.ev (hR.raw hy),binOp,eqGuard,Op.intDiv,show j≠0 by omega,Int.tmod_eq_emod_of_nonneg h0]⟩
/-! ### Lengths -/
theorem YhM {sz nl xs e} (hT:YaX P tab) (hs:(tab X).map (·.sh)=some (.slice e)) (hx:ev2 ρ x=some (.sl sz nl xs)):Yaj P N D (.call ⟨.builtin .len,#[x],#[X]⟩) ρ η (.raw (.int .i64 xs.length)) M:=fun _ _ _ _ _ hE hR hH=>by
 obtain ⟨v,h1,h2⟩:=hR.ev hx;obtain ⟨b,cap,rfl,_⟩:=h2.sl_shape
 cases ht:tab X with
 | none=>rw [ht] at hs;cases hs
 | some te =>
   rw [ht] at hs;simp at hs;obtain ⟨d,hu,hd⟩:=(hT X te ht).sh;rw [hs] at hd;obtain rfl:d=_:=hd;exact ⟨_,.raw rfl,fun _ _ _ _ _ _=>by simp [execOp,resolve,invoke,builtin,hE.ev h1,Builtin.len_,run_underlying hu,goInt]⟩
theorem Yln {α:Type} {sz nl e} {f:α→AV} {l:List α} (hT:YaX P tab) (hs:(tab X).map (·.sh)=some (.slice e)) (hx:ev2 ρ x=some (.sl sz nl (l.map f))):Yaj P N D (.call ⟨.builtin .len,#[x],#[X]⟩) ρ η (.raw (.int .i64 l.length)) M:=by
 have:=YhM (P:=P) (N:=N) (D:=D) (η:=η) (M:=M) hT hs hx
 rwa [List.length_map] at this
theorem Rep.hs_get {m w γ v i} (h:Rep m w γ v (.hs i)):γ[i]?=some v∧∃ a n c,v=.slice a n c:=by
 cases h with
 | hs h=>exact ⟨h,_,_,_,rfl⟩
theorem Heap.gs {m w γ η} (h:Heap m w γ η) {i:Nat} {fz T sz nl xs v} (hi:η[i]?=some (.gs fz T sz nl xs)) (hv:γ[i]?=some v) :
  ∃ m1,Own T sz (CK m w) m1 w v xs∧(fz=true→m1=m)∧(∀ b,some b≠Yay v→m1 b=m b)∧Ext m w m1 w:=by
 obtain ⟨h1,_⟩:=h.ok i v _ hv hi
 cases fz with
 | true=>exact ⟨m,Own.imp h1 (fun _ _ h=>h),fun _=>rfl,fun _ _=>rfl,.refl _ _⟩
 | false =>
   obtain ⟨m',a,b,c,d⟩:=Yoc.ext h1;exact ⟨m',a,nofun,b,d⟩
theorem YhD {k:Nat} {fz T sz nl xs e} (hT:YaX P tab) (hs:(tab X).map (·.sh)=some (.slice e)) (hx:ev2 ρ x=some (.hs k)) (hk:η[k]?=some (.gs fz T sz nl xs)):Yaj P N D (.call ⟨.builtin .len,#[x],#[X]⟩) ρ η (.raw (.int .i64 xs.length)) M:=fun _ _ _ _ _ hE hR hH=>by
 obtain ⟨v,h1,h2⟩:=hR.ev hx;obtain ⟨m1,ho,_⟩:=hH.gs hk h2.hs_get.1;obtain ⟨b,cap,rfl,_⟩:=ho.rs.shape
 cases ht:tab X with
 | none=>rw [ht] at hs;cases hs
 | some te =>
   rw [ht] at hs;simp at hs;obtain ⟨d,hu,hd⟩:=(hT X te ht).sh;rw [hs] at hd;obtain rfl:d=_:=hd;exact ⟨_,.raw rfl,fun _ _ _ _ _ _=>by simp [execOp,resolve,invoke,builtin,hE.ev h1,Builtin.len_,run_underlying hu,goInt]⟩
theorem Yhl {α:Type} {k:Nat} {fz T sz nl e} {f:α→AV} {l:List α} (hT:YaX P tab) (hs:(tab X).map (·.sh)=some (.slice e)) (hx:ev2 ρ x=some (.hs k)) (hk:η[k]?=some (.gs fz T sz nl (l.map f))):Yaj P N D (.call ⟨.builtin .len,#[x],#[X]⟩) ρ η (.raw (.int .i64 l.length)) M:=by
 have:=YhD (P:=P) (N:=N) (D:=D) (M:=M) hT hs hx hk
 rwa [List.length_map] at this
/-! ### Elements -/
theorem YcO {t:Nat} {s:Sh} (hT:YaX P tab) (hs:(tab t).map (·.sh)=some s):∃ d,P.underlying t=some d∧Yt3 d s:=by
 cases ht:tab t with
 | none=>rw [ht] at hs;cases hs
 | some te=>rw [ht] at hs;simp at hs;subst hs;exact (hT t te ht).sh
theorem Ybh {t n:Nat} (hT:YaX P tab) (hs:(tab t).map (·.size)=some n):∃ i,P.info? t=some i∧i.size=n:=by
 cases ht:tab t with
 | none=>rw [ht] at hs;cases hs
 | some te=>rw [ht] at hs;simp at hs;subst hs;obtain ⟨i,a,b,_⟩:=(hT t te ht).info;exact ⟨i,a,b⟩
theorem YjZ {sz nl xs E} {n:Nat} {e} (hT:YaX P tab) (hs:(tab X).map (·.sh)=some (.slice E)) (hz:(tab E).map (·.size)=some sz) (hx:ev2 ρ x=some (.sl sz nl xs)) (hy:ev2 ρ y=some (.raw (.int .i64 i))) (hi:i=(n:Nat)) (he:xs[n]?=some e) :
  Yaj P N D (.indexAddr X x y) ρ η (.ep e.cells 0) M:=fun m w γ ρc a hE hR hH=>by
 obtain ⟨v,h1,h2⟩:=hR.ev hx;obtain ⟨d,hu,hd⟩:=YcO hT hs;obtain rfl:d=_:=hd;obtain ⟨inf,i1,i2⟩:=Ybh hT hz;obtain ⟨b,o,cap,rfl,cs,g1,g2,g3⟩:=h2.rs.1.index he;subst hi;have hlt:n < xs.length:=(List.getElem?_eq_some_iff.1 he).1;refine ⟨.pointer (some ⟨b,o+n*sz+0,none⟩),.ep g2 g3.1 g3.2.1 g3.2.2,fun _ _ _ _ _ _=>?_⟩;simp [execOp,hE.ev h1,hE.ev (hR.raw hy),Instr.indexAt,asIntOf,run_underlying hu,sizeOf,typeInfo,i1,i2,Yak,hlt]
theorem Ybp {α β:Type} {f:α→β} {l:List α} {n:Nat} (h:n < l.length):(l.map f)[n]?=some (f l[n]):=by simp [h]
theorem Yhp {k:Nat} {fz T sz nl xs E} {n:Nat} {e} (hT:YaX P tab) (hs:(tab X).map (·.sh)=some (.slice E)) (hz:(tab E).map (·.size)=some sz) (hx:ev2 ρ x=some (.hs k)) (hk:η[k]?=some (.gs fz T sz nl xs)) (hy:ev2 ρ y=some (.raw (.int .i64 i))) (hi:i=(n:Nat)) (he:xs[n]?=some e) :
  Yaj P N D (.indexAddr X x y) ρ η (.gp k sz n 0) M:=fun m w γ ρc a hE hR hH=>by
 obtain ⟨v,h1,h2⟩:=hR.ev hx;obtain ⟨d,hu,hd⟩:=YcO hT hs;obtain rfl:d=_:=hd;obtain ⟨inf,i1,i2⟩:=Ybh hT hz;obtain ⟨hg,_⟩:=h2.hs_get;obtain ⟨m1,ho,_⟩:=hH.gs hk hg;subst hi;have hlt:n < xs.length:=(List.getElem?_eq_some_iff.1 he).1;rcases ho with ⟨_,rfl⟩|⟨_,_,_,rfl⟩|⟨g,cap,cur,rfl,_⟩
 ·simp at he
 ·simp at he
 refine ⟨.pointer (some ⟨g,n*sz+0,none⟩),.gp hg,fun _ _ _ _ _ _=>?_⟩;simp [execOp,hE.ev h1,hE.ev (hR.raw hy),Instr.indexAt,asIntOf,run_underlying hu,sizeOf,typeInfo,i1,i2,Yak,hlt]
def Ygb (k:Nat):AV→Option AV
 | .ep cs o=>some (.ep cs (o+k))
 | .bp i o=>some (.bp i (o+k))
 | .gp i sz n o=>some (.gp i sz n (o+k))
 | _=>none
theorem YfY {m w γ v u u' k} (h:Rep m w γ v u) (hk:Ygb k u=some u'):∃ b o,v=.pointer (some ⟨b,o,none⟩)∧Rep m w γ (.pointer (some ⟨b,o+k,none⟩)) u':=by
 cases h<;>simp only [Ygb,Option.some.injEq,reduceCtorEq] at hk
 case ep hc hl h1 hr=>subst hk;exact ⟨_,_,rfl,by rw [Nat.add_assoc];exact .ep hc hl h1 hr⟩
 case bp h=>subst hk;exact ⟨_,_,rfl,.bp h⟩
 case gp h=>subst hk;exact ⟨_,_,rfl,by rw [Nat.add_assoc];exact .gp h⟩
theorem YcZ {n len E sz u u'} (hT:YaX P tab) (hs:(tab X).map (·.sh)=some (.array len E)) (hz:(tab E).map (·.size)=some sz) (hx:ev2 ρ x=some u) (hy:ev2 ρ y=some (.raw (.int .i64 i))) (hi:i=(n:Nat)) (hn:n < len) (hu':Ygb (n*sz) u=some u') :
  Yaj P N D (.indexAddr X x y) ρ η u' M:=fun _ _ _ _ _ hE hR hH=>by
 obtain ⟨v,h1,h2⟩:=hR.ev hx;obtain ⟨d,hu,hd⟩:=YcO hT hs;obtain rfl:d=_:=hd;obtain ⟨inf,i1,i2⟩:=Ybh hT hz;obtain ⟨b,o,rfl,h3⟩:=YfY h2 hu';subst hi;exact ⟨_,h3,fun _ _ _ _ _ _=>by simp [execOp,hE.ev h1,hE.ev (hR.raw hy),Instr.indexAt,asIntOf,run_underlying hu,Instr.sureAddr,sizeOf,typeInfo,i1,i2,Yak,hn]⟩
theorem Yg1 {f:Nat} {fs:List (Nat × Nat)} {off F sz u u'} (hT:YaX P tab) (hs:(tab X).map (·.sh)=some (.strct fs)) (hf:fs[f]?=some (off,F)) (hz:(tab F).map (·.size)=some (sz+1)) (hx:ev2 ρ x=some u) (hu':Ygb off u=some u') :
  Yaj P N D (.fieldAddr X x f) ρ η u' M:=fun _ _ _ _ _ hE hR hH=>by
 obtain ⟨v,h1,h2⟩:=hR.ev hx;obtain ⟨d,hu,fields,rfl,hfs⟩:=YcO hT hs;obtain ⟨inf,i1,i2⟩:=Ybh hT hz;obtain ⟨b,o,rfl,h3⟩:=YfY h2 hu';subst hfs;have hq:∃ fd,fields[f]?=some fd∧fd.offset=off∧fd.type=F:=by
  simp only [List.getElem?_map,Array.getElem?_toList] at hf
  cases hq:fields[f]? with
  | none=>rw [hq] at hf;cases hf
  | some fd=>rw [hq] at hf;simp at hf;exact ⟨fd,rfl,hf.1,hf.2⟩
 obtain ⟨fd,hq,rfl,rfl⟩:=hq;exact ⟨_,h3,fun _ _ _ _ _ _=>by simp [execOp,hE.ev h1,Instr.fieldAt,run_underlying hu,hq,Instr.sureAddr,fieldPlace,sizeOf,typeInfo,i1,i2,Yak]⟩
theorem Yi6 {u u'} (hx:ev2 ρ x=some u) (hu':Ygb 0 u=some u'):Yaj P N D (.nilCheck x) ρ η u M:=fun _ _ _ _ _ hE hR hH=>by
 obtain ⟨v,h1,h2⟩:=hR.ev hx;obtain ⟨b,o,rfl,h3⟩:=YfY h2 hu';exact ⟨_,h2,fun _ _ _ _ _ _=>by simp [execOp,hE.ev h1]⟩
/-! ### Loads -/
def YaJ (η:List AO):AV→Option (List AV × Nat)
 | .ep cs o=>some (cs,o)
 | .bp i o=>match η[i]? with
   | some (.cb _ cs)=>some (cs,o)
   | _=>none
 | _=>none
theorem YfV {m w γ η v u} {cs:List AV} {o:Nat} (hH:Heap m w γ η) (h:Rep m w γ v u) (hb:YaJ η u=some (cs,o)) :
  ∃ b q vs,v=.pointer (some ⟨b,q+o,none⟩)∧CL γ m w vs cs∧∀ {m' w'},Keep m w m' w'→∀ (j:Nat) c,vs[j]?=some c→w'.cell? ⟨b,q+j,none⟩=some c:=by
 cases h<;>simp only [YaJ,Option.some.injEq,reduceCtorEq,Prod.mk.injEq] at hb
 case ep b q o' vs cs' hc hl h1 hr =>
  obtain ⟨rfl,rfl⟩:=hb;exact ⟨b,q,vs,rfl,⟨hl,h1,fun j v c a a'=>(hr j v c a a').mono (.refl _ _) (fun _ _ h=>by simp at h)⟩,fun hk j c hj=>((hc.mono hk.ext) j c hj).2⟩
 case bp i o' b h =>
  split at hb
  ·rename_i T cs' he
   simp at hb;obtain ⟨rfl,rfl⟩:=hb;obtain ⟨b',vs,e,hB,hC⟩:=hH.ok i _ _ h he
   cases e
   exact ⟨b,0,vs,by simp,hC,fun hk j c hj=>by rw [Nat.zero_add];exact (hB.keep hk).cell hj⟩
  ·cases hb
theorem Yg8 {u} {cs:List AV} {o:Nat} {c} (hT:YaX P tab) (hs:(tab X).map (·.sh.agg)=some false) (hx:ev2 ρ x=some u) (hb:YaJ η u=some (cs,o)) (hc:cs[o]?=some c):Yaj P N D (.load X x) ρ η c:=fun _ _ _ _ _ hE hR hH=>by
 obtain ⟨v,h1,h2⟩:=hR.ev hx;obtain ⟨b,q,vs,rfl,hC,hK⟩:=YfV hH h2 hb;have hlt:o < vs.length:=by rw [hC.1];exact (List.getElem?_eq_some_iff.1 hc).1
 refine ⟨vs[o],hC.2.2 o _ _ (List.getElem?_eq_getElem hlt) hc,fun {m' w'} hk _ _ _ _ _=>?_⟩;have hcell:=hK (hk rfl) o _ (List.getElem?_eq_getElem hlt)
 cases ht:tab X with
 | none=>rw [ht] at hs;cases hs
 | some te =>
   rw [ht] at hs;simp at hs;have hagg:=(hT X te ht).nagg hs;simp [execOp,hE.ev h1,Instr.loadAt,Instr.sureAddr,loadVar,hagg,hcell]
theorem Yjs {u} {cs:List AV} {o n:Nat} (hT:YaX P tab) (hs:(tab X).map (fun e=>(e.sh.agg,e.size))=some (true,n)) (hx:ev2 ρ x=some u) (hb:YaJ η u=some (cs,o)) (hn:(cs.drop o).length=n):Yaj P N D (.load X x) ρ η (.st (cs.drop o)):=fun _ _ _ _ _ hE hR hH=>by
 obtain ⟨v,h1,h2⟩:=hR.ev hx;obtain ⟨b,q,vs,rfl,hC,hK⟩:=YfV hH h2 hb;have hlen:(vs.drop o).length=n:=by rw [← hn,List.length_drop,List.length_drop,hC.1]
 refine ⟨.agg (vs.drop o).toArray,.st (by rw [hlen,hn]) (fun c hc=>hC.2.1 c (List.mem_of_mem_drop hc)) (fun j v c a a'=>hC.2.2 (o+j) v c (by simpa using a) (by simpa using a')),fun {m' w'} hk _ _ _ _ _=>?_⟩
 cases ht:tab X with
 | none=>rw [ht] at hs;cases hs
 | some te =>
   rw [ht] at hs;simp at hs;have hagg:=(hT X te ht).agg hs.1;obtain ⟨inf,i1,i2,_⟩:=(hT X te ht).info;have hl:=run_loadCells_list (P:=P) w' ⟨b,q+o,none⟩ (vs.drop o) (fun j c hj=>by rw [Yak,Nat.add_assoc];exact hK (hk rfl) (o+j) c (by simpa using hj));rw [hlen,← hs.2,← i2] at hl;simp [execOp,hE.ev h1,Instr.loadAt,Instr.sureAddr,loadVar,hagg,sizeOf,typeInfo,i1,hl]
theorem YmP {m w γ η v} {i sz k o:Nat} {fz T nl} {xs:List AV} {e} (hH:Heap m w γ η) (h:Rep m w γ v (.gp i sz k o)) (hi:η[i]?=some (.gs fz T sz nl xs)) (he:xs[k]?=some e) :
  ∃ b vs,v=.pointer (some ⟨b,k*sz+o,none⟩)∧CL [] m w vs e.cells∧∀ {m' w'},Keep m w m' w'→∀ (j:Nat) c,vs[j]?=some c→w'.cell? ⟨b,k*sz+j,none⟩=some c:=by
 cases h with
 | gp h =>
   obtain ⟨m1,ho,_,_,hext⟩:=hH.gs hi h;rcases ho with ⟨_,rfl⟩|⟨_,_,_,rfl⟩|⟨g,cap,cur,hv,h0,hg,h1,h2,h3,h4,h5⟩
   ·simp at he
   ·simp at he
   ·cases hv
    obtain ⟨cs,a1,a2,a3⟩:=h5 k e he;refine ⟨_,cs,rfl,a3,fun {m' w'} hk j c hj=>?_⟩
    ·have hg':=hk.heap hg;simp only [World.cell?,hg'];simpa using a2 j c hj
end
def Yqz:List (Option TyE)→Nat→Option TyE
 | [],_=>none
 | e::_,0=>e
 | _::r,t+1=>Yqz r t
def Yl9 (P:Program):Nat→List (Option TyE)→Prop
 | _,[]=>True
 | k,some e::r=>TyOK P k e∧Yl9 P (k+1) r
 | k,none::r=>Yl9 P (k+1) r
theorem Yl9.get {P:Program}:∀ {L:List (Option TyE)} {k:Nat},Yl9 P k L→∀ t e,Yqz L t=some e→TyOK P (k+t) e
 | [],_,_,t,e,h=>by simp [Yqz] at h
 | some x::r,k,⟨h1,h2⟩,t,e,h=>by
   cases t with
   | zero=>simp [Yqz] at h;subst h;exact h1
   | succ t=>have:=Yl9.get h2 t e (by simpa [Yqz] using h);rwa [show k+(t+1)=k+1+t by omega]
 | none::r,k,h2,t,e,h=>by
   cases t with
   | zero=>simp [Yqz] at h
   | succ t=>have:=Yl9.get (k:=k+1) h2 t e (by simpa [Yqz] using h);rwa [show k+(t+1)=k+1+t by omega]
theorem Yo4 {P:Program} {L:List (Option TyE)} (h:Yl9 P 0 L):YaX P (fun t=>Yqz L t):=fun t e ht=>by
 have:=h.get t e ht
 rwa [Nat.zero_add] at this
end Go.V
