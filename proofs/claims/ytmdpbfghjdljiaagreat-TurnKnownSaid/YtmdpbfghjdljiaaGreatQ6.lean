/- Part 6 of what the claim is proved by: lemmas on the model and walks through functions of the program; no conditions. -/
import Derived.Test.YtmdpbfghjdljiaaGreatQ5
import Derived.Carry
import Derived.Laws.MakeOwn
import Derived.Laws.Tables
namespace Go.W
open Go
theorem Box.frz {m w b cs E} (h:Box m w b cs E):Touch (some b) m w (mset m b cs.length) w:=
 ⟨⟨rfl,rfl,rfl,Nat.le_refl _,fun _ _ _=>rfl⟩,fun k _ hk=>mset_ne (fun e=>hk (by rw [e])),h.freeze.1⟩
theorem Mine.newvar {α:Type} {B T sz:Nat} {C:CRel α} [CMono C] {m w v} {xs:List α} {m1 w1 m2 w2 b} (h:Mine B T sz C m w v xs) (hk:Keep m w m1 w1) (hb:w.heap.size≤b) (ht:Touch (some b) m1 w1 m2 w2):Mine B T sz C m2 w2 v xs:=by
 refine (h.keep hk).touch ht ?_
 cases hv:ownB v with
 | none=>exact .inl rfl
 | some g=>exact .inr (fun e=>by cases e;have:=h.own.lt _ hv;omega)
theorem Keep.newvar {m w m1 w1 m2 w2 m3 w3 b} (h:Keep m w m1 w1) (hk:Keep m1 w1 m2 w2) (hb:w1.heap.size≤b) (ht:Touch (some b) m2 w2 m3 w3):Keep m w m3 w3:=
 (h.trans hk).touched ht (fun g hg=>by cases hg;exact Nat.le_trans h.grown.size hb)
/-! ### Maps whose keys are integers -/
def MapAt (w:World) (b:Nat) (l:List (Int × Value)):Prop:=
 ∃ es clock,w.heap[b]?=some (.map es clock)∧es.toList.map (fun e=>(e.key,e.val))=l.map (fun p=>(Value.int .i64 p.1,p.2))
theorem MapAt.lt {w b l} (h:MapAt w b l):b < w.heap.size:=by
 obtain ⟨es,clock,h,_⟩:=h
 exact (Array.getElem?_eq_some_iff.1 h).1
theorem MapAt.keep {m w m' w' b l} (hk:Keep m w m' w') (h:MapAt w b l):MapAt w' b l:=by
 obtain ⟨es,clock,h,h'⟩:=h
 exact ⟨es,clock,hk.heap h,h'⟩
theorem MapAt.touch {X m w m' w' b l} (ht:Touch X m w m' w') (hX:some b≠X) (h:MapAt w b l):MapAt w' b l:=by
 obtain ⟨es,clock,h,h'⟩:=h
 exact ⟨es,clock,ht.heap h hX,h'⟩
def mfind (k:Int):List (Int × Value)→Option Value
 | []=>none
 | p::r=>if k==p.1 then some p.2 else mfind k r
theorem findNow_of (k:Int):∀ (es:List MapEntry) (l:List (Int × Value)) (i:Nat),es.map (fun e=>(e.key,e.val))=l.map (fun p=>(Value.int .i64 p.1,p.2)) →
  (mfind k l=none∧Instr.findNow (.int .i64) (.int .i64 k) es i=some none)∨∃ v j,mfind k l=some v∧Instr.findNow (.int .i64) (.int .i64 k) es i=some (some (j,v))
 | [],[],i,_=>.inl ⟨rfl,rfl⟩
 | [],_::_,_,h=>by simp at h
 | _::_,[],_,h=>by simp at h
 | e::es,p::l,i,h=>by
   simp only [List.map_cons,List.cons.injEq,Prod.mk.injEq] at h
   obtain ⟨⟨hk,hv⟩,h⟩:=h
   simp only [mfind,Instr.findNow,hk,Instr.sameNow,if_true]
   cases hb:k==p.1 with
   | true=>exact .inr ⟨p.2,i,by simp,by simp [hv]⟩
   | false=>simpa using findNow_of k es l (i+1) h
section
variable {P:Program} {ops:Array Oper} {Q:Exit→Act→World→Prop} {Kc:Act→World→Prop} {w w':World} {a:Act} {T X Y E:Nat}
variable {N:Nat} {D:List Deferred} {ρ:List (Nat × Value)} {d:Nat} {pos:String} {af:Array Edge} {x y z:Operand} {u v:Value} {g:Option (Nat × Bool)}
theorem run_checkInt [IntTy P Y .i64] (e:Bool) (k:Int):(Instr.checkKey e 10000 Y (.int .i64 k)).run P w=.ok () w:=by
 have hk:=IntTy.int (P:=P) (T:=Y)
 show (Instr.checkKey e (9999+1) Y (.int .i64 k)).run P w=.ok () w
 unfold Instr.checkKey
 simp [run_underlying hk]
/-! ### Structs that are laid, slices that are made -/
theorem made1 (zc:Value) (n:Nat):madeCells #[zc] n=(List.replicate n zc).toArray:=by
 apply Array.ext
 ·simp [madeCells]
 ·intro i h1 h2
  simp [madeCells,Nat.mod_one]
theorem run_make1 {zv zc:Value} {bt l c:Nat} [SliceTy P X Y] [ElemTy P Y 1 bt zv] (hE:Env N D a ρ) (hx:ev ρ x=some (.int .i64 (l:Int))) (hy:ev ρ y=some (.int .i64 (c:Int))) (hlc:l≤c) (hz:zv.cells=#[zc])
  (hbt:bt*c≤16777216) (hc:c≤16777216) :
  (execOp a.eval ⟨some d,.makeSlice X x y,T,pos,af,g⟩).run P w=.ok (.value (.slice (some ⟨w.heap.size,0,none⟩) l c)) (w.alloc (.cells (List.replicate c zc).toArray Y)):=by
 obtain ⟨inf,i1,i2,i3,i4,i5,i6⟩:=ElemTy.elem (P:=P) (E:=Y)
 have hu:=SliceTy.slice (P:=P) (T:=X)
 have hb:(inf.bytes:Int)*(c:Int)≤281474976710656:=by
  rw [i3]
  have:((bt*c:Nat):Int)≤281474976710656:=by omega
  simpa using this
 have h:=run_makeSlice (P:=P) w X Y inf zv hu i1 i4 .i64 .i64 (l:Int) (c:Int) (by omega) (by omega) (by simp [i2];omega) hb (by omega)
 simp [i2,hz,made1] at h
 simp [execOp,hE.ev hx,hE.ev hy,h]
/-! ### Calls that write one block -/
end
theorem Box.off {α:Type} {T E sz:Nat} {C:CRel α} {m w b cs v} {xs:List α} (h:Box m w b cs E) (ho:Own T sz C m w v xs) (hne:E≠T):ownB v≠some b:=by
 intro e
 rcases ho with ⟨rfl,_⟩|⟨_,_,rfl,_⟩|⟨g,cap,cur,rfl,h0,hg,_⟩
 ·simp [ownB] at e
 ·simp [ownB] at e
 ·obtain ⟨c,rfl⟩:∃ c,cap=c+1:=⟨cap-1,by omega⟩
  simp [ownB] at e
  subst e
  rw [h.heap] at hg
  simp at hg
  exact hne hg.2
/-! ### A slice literal of one element of several cells -/
section
variable {P:Program} {ops:Array Oper} {Q:Exit→Act→World→Prop} {Kc:Act→World→Prop} {w:World} {a:Act} {T X Y:Nat}
variable {N:Nat} {D:List Deferred} {ρ:List (Nat × Value)} {d:Nat} {pos:String} {af:Array Edge} {x:Operand} {v:Value}
end
/-! ### A region in which the call's own memory is written, though not two of its blocks -/
def Off (b1 b2:Nat) (m:Nat→Nat) (w:World):World→Prop:=fun w'=>∃ Z m',Touch Z m w m' w'∧Z≠some b1∧Z≠some b2
theorem Off.drew (b1 b2:Nat) (m w):Off b1 b2 m w w.drew:=⟨none,m,(Keep.drew m w).touch none,by simp,by simp⟩
theorem Off.one {b1 b2:Nat} {m w}:∀ w',Off b1 b2 m w w'→∃ Z m',Touch Z m w m' w'∧Z≠some b1:=fun _ ⟨Z,m',h1,h2,_⟩=>⟨Z,m',h1,h2⟩
theorem Off.two {b1 b2:Nat} {m w}:∀ w',Off b1 b2 m w w'→∃ Z m',Touch Z m w m' w'∧Z≠some b2:=fun _ ⟨Z,m',h1,_,h2⟩=>⟨Z,m',h1,h2⟩
section
variable {P:Program} {ops:Array Oper} {Q:Exit→Act→World→Prop} {S:World→Prop} {fi:Nat}
variable {N:Nat} {D:List Deferred} {ρ:List (Nat × Value)} {a:Act} {w:World} {fuel i:Nat} {listed:Array Bool} {v:Value}
variable {d T X:Nat} {pos:String} {af:Array Edge} {x:Operand} {g:Option (Nat × Bool)}
end
/-! ### A guard that was itself passed over -/
section
variable {P:Program} {ops:Array Oper} {Q:Exit→Act→World→Prop} {Kc:Act→World→Prop} {w:World} {a:Act} {T:Nat}
variable {N:Nat} {D:List Deferred} {ρ:List (Nat × Value)} {d:Nat} {pos:String} {af:Array Edge}
theorem guard_un {op:Op} {j dj:Nat} {b:Bool} {oj:Oper} (hE:Env N D a ρ) (hj:ops[j]?=some oj) (hd:oj.dst=some dj) (hl:look ρ dj=some undef) (hdN:d < N)
  (k:∀ a',Env N D a' ((d,undef)::ρ)→Kc a' w):OpK P ops Q ⟨some d,op,T,pos,af,some (j,b)⟩ Kc a w:=by
 have hy:yielded ops a.tmps j=none:=by simp [yielded,hj,hd,hE.look _ _ hl,undef]
 have e1:(Region.wanted ⟨some d,op,T,pos,af,some (j,b)⟩ (yielded ops a.tmps))=false:=by simp [Region.wanted,hy]
 unfold OpK
 rw [if_neg (by simp [e1])]
 exact k _ (hE.put undef hdN)
end
/-! ### Structs and arrays that are never written again, loaded whole; function values with first arguments -/
section
variable {P:Program} {ops:Array Oper} {Q:Exit→Act→World→Prop} {Kc:Act→World→Prop} {w w1:World} {a:Act} {T X Y:Nat} {m:Nat→Nat}
variable {N:Nat} {D:List Deferred} {ρ:List (Nat × Value)} {d:Nat} {pos:String} {af:Array Edge} {x y:Operand} {g:Option (Nat × Bool)}
end
end Go.W
namespace Go.V
open Go Go.W
structure MP where
 R:(Nat→Nat)→World→Value→Prop
 mono:∀ {m w m' w' v},Ext m w m' w'→R m w v→R m' w' v
 one:∀ {m w v},R m w v→v.oneCell'=true
inductive AV:Type where
 | raw (v:Value)
 | sl (sz:Nat) (nl:Option Bool) (xs:List AV)
 | st (cs:List AV)
 | tp (vs:List AV)
 | ep (cs:List AV) (o:Nat)
 | bp (i o:Nat)
 | gp (i sz k o:Nat)
 | hs (i:Nat)
 | mp (i:Nat)
 | fn (f:Fn) (first caps:List AV)
 | pr (R:MP)
 | junk
def AV.cells:AV→List AV
 | .st cs=>cs
 | x=>[x]
inductive Rep (m:Nat→Nat) (w:World):List Value→Value→AV→Prop
 | raw {γ v} (h:v.oneCell'=true):Rep m w γ v (.raw v)
 | nil {γ sz nl} (h:nl≠some false):Rep m w γ (.slice none 0 0) (.sl sz nl [])
 | sl {γ sz nl} {xs:List AV} {b o cap} (cv:Nat→List Value) (hn:nl≠some true) (h1:xs.length≤cap) (h2:cap≤maxLen)
   (hc:∀ (i:Nat) x,xs[i]?=some x→(cv i).length=sz∧x.cells.length=sz∧CellsAt m w ⟨b,o+i*sz,none⟩ (cv i)∧∀ c∈cv i,c.oneCell'=true)
   (hr:∀ (i:Nat) x (j:Nat) c y,xs[i]?=some x→(cv i)[j]?=some c→x.cells[j]?=some y→Rep m w [] c y) :
   Rep m w γ (.slice (some ⟨b,o,none⟩) xs.length cap) (.sl sz nl xs)
 | sl0 {γ sz nl a} (h:nl≠some true):Rep m w γ (.slice (some a) 0 0) (.sl sz nl [])
 | st {γ} {vs:List Value} {cs:List AV} (hl:vs.length=cs.length) (h1:∀ c∈vs,c.oneCell'=true) (hr:∀ (j:Nat) v c,vs[j]?=some v→cs[j]?=some c→Rep m w γ v c):Rep m w γ (.agg vs.toArray) (.st cs)
 | tp {γ} {vs:List Value} {cs:List AV} (hl:vs.length=cs.length) (hr:∀ (j:Nat) v c,vs[j]?=some v→cs[j]?=some c→Rep m w γ v c):Rep m w γ (.tuple vs.toArray) (.tp cs)
 | ep {γ b q o} {vs:List Value} {cs:List AV} (hc:CellsAt m w ⟨b,q,none⟩ vs) (hl:vs.length=cs.length) (h1:∀ c∈vs,c.oneCell'=true) (hr:∀ (j:Nat) v c,vs[j]?=some v→cs[j]?=some c→Rep m w [] v c) :
   Rep m w γ (.pointer (some ⟨b,q+o,none⟩)) (.ep cs o)
 | bp {γ i o b} (h:γ[i]?=some (.pointer (some ⟨b,0,none⟩))):Rep m w γ (.pointer (some ⟨b,o,none⟩)) (.bp i o)
 | gp {γ i sz k o b n c} (h:γ[i]?=some (.slice (some ⟨b,0,none⟩) n c)):Rep m w γ (.pointer (some ⟨b,k*sz+o,none⟩)) (.gp i sz k o)
 | hs {γ i a n c} (h:γ[i]?=some (.slice a n c)):Rep m w γ (.slice a n c) (.hs i)
 | mp {γ i b} (h:γ[i]?=some (.map (some b))):Rep m w γ (.map (some b)) (.mp i)
 | fn {γ f} {fv cv:List Value} {first caps:List AV} (l1:fv.length=first.length) (l2:cv.length=caps.length) (h1:∀ (j:Nat) v c,fv[j]?=some v→first[j]?=some c→Rep m w γ v c) (h2:∀ (j:Nat) v c,cv[j]?=some v→caps[j]?=some c→Rep m w γ v c) :
   Rep m w γ (.func f fv.toArray cv.toArray) (.fn f first caps)
 | pr {γ v R} (h:R.R m w v):Rep m w γ v (.pr R)
 | junk {γ v}:Rep m w γ v .junk
def Pre (γ γ':List Value):Prop:=∀ (i:Nat) v,γ[i]?=some v→γ'[i]?=some v
theorem Pre.refl (γ):Pre γ γ:=fun _ _ h=>h
theorem Pre.trans {a b c} (h:Pre a b) (k:Pre b c):Pre a c:=fun i v q=>k i v (h i v q)
theorem Pre.app (γ δ):Pre γ (γ++δ):=fun i v h=>by
 rw [List.getElem?_append_left (List.getElem?_eq_some_iff.1 h).1];exact h
theorem Rep.mono {m w γ m' w' γ' v x} (he:Ext m w m' w') (hp:Pre γ γ') (h:Rep m w γ v x):Rep m' w' γ' v x:=by
 induction h generalizing γ' with
 | raw h=>exact .raw h
 | nil h=>exact .nil h
 | sl cv hn h1 h2 hc _ ih=>exact .sl cv hn h1 h2 (fun i x hx=>let ⟨a,b,c,d⟩:=hc i x hx;⟨a,b,c.mono he,d⟩) (fun i x j c y h1 h2 h3=>ih i x j c y h1 h2 h3 (.refl _))
 | sl0 h=>exact .sl0 h
 | st hl h1 _ ih=>exact .st hl h1 (fun j v c a b=>ih j v c a b hp)
 | tp hl _ ih=>exact .tp hl (fun j v c a b=>ih j v c a b hp)
 | ep hc hl h1 _ ih=>exact .ep (hc.mono he) hl h1 (fun j v c a b=>ih j v c a b (.refl _))
 | bp h=>exact .bp (hp _ _ h)
 | gp h=>exact .gp (hp _ _ h)
 | hs h=>exact .hs (hp _ _ h)
 | mp h=>exact .mp (hp _ _ h)
 | fn l1 l2 _ _ i1 i2=>exact .fn l1 l2 (fun j v c a b=>i1 j v c a b hp) (fun j v c a b=>i2 j v c a b hp)
 | pr h=>exact .pr (MP.mono _ he h)
 | junk=>exact .junk
def CL (γ:List Value) (m:Nat→Nat) (w:World) (vs:List Value) (cs:List AV):Prop:=
 vs.length=cs.length∧(∀ c∈vs,c.oneCell'=true)∧∀ (j:Nat) v c,vs[j]?=some v→cs[j]?=some c→Rep m w γ v c
theorem CL.mono {m w γ m' w' γ' vs cs} (he:Ext m w m' w') (hp:Pre γ γ') (h:CL γ m w vs cs):CL γ' m' w' vs cs:=
 ⟨h.1,h.2.1,fun j v c a b=>(h.2.2 j v c a b).mono he hp⟩
def CA:CRel AV:=fun m w vs x=>CL [] m w vs x.cells
instance:CMono CA:=⟨fun he h=>CL.mono he (.refl _) h⟩
instance:COne CA:=⟨fun h=>h.2.1⟩
theorem Rep.cellsOf {m w γ v x} (h:Rep m w γ v x) (ho:v.oneCell'=true∨∃ cs,x=.st cs):∃ vs,v.cells=vs.toArray∧CL γ m w vs x.cells:=by
 rcases ho with ho|⟨cs,rfl⟩
 ·have key:x.cells=[x]→∃ vs,v.cells=vs.toArray∧CL γ m w vs x.cells:=by
   intro hx
   refine ⟨[v],by rw [cells_one ho],?_⟩
   rw [hx]
   refine ⟨rfl,by simpa using ho,fun j u c a b=>?_⟩
   have:j=0:=by
    have:=(List.getElem?_eq_some_iff.1 a).1
    simp at this;omega
   subst this
   simp at a b
   subst a b
   exact h
  cases h with
  | st=>simp [Value.oneCell'] at ho
  | _=>exact key rfl
 ·cases h with
  | st hl h1 hr=>exact ⟨_,rfl,hl,h1,hr⟩
def NL (nl:Option Bool) (v:Value):Prop:=(nl=some true→v=.slice none 0 0)∧(nl=some false→v≠.slice none 0 0)
theorem NL.none (v):NL none v:=⟨nofun,nofun⟩
theorem Rep.rs {m w γ v sz nl xs} (h:Rep m w γ v (.sl sz nl xs)):RS sz CA m w v xs∧NL nl v∧∀ x∈xs,x.cells.length=sz:=by
 cases h with
 | nil h=>exact ⟨.inl ⟨rfl,rfl⟩,⟨fun _=>rfl,fun e=>(h e).elim⟩,by simp⟩
 | sl0 h=>exact ⟨.inr (.inr ⟨_,rfl,rfl⟩),⟨fun e=>(h e).elim,fun _=>by simp⟩,by simp⟩
 | sl cv hn h1 h2 hc hr =>
   refine ⟨.inr (.inl ⟨_,_,_,rfl,h1,h2,fun i x hx=>?_⟩),⟨fun e=>(hn e).elim,fun _=>by simp⟩,fun x hx=>?_⟩
   ·obtain ⟨a,b,c,d⟩:=hc i x hx
    exact ⟨cv i,a,c,by rw [a,b],d,fun j v y h1 h2=>hr i x j v y hx h1 h2⟩
   ·obtain ⟨i,hi,rfl⟩:=List.mem_iff_getElem.1 hx
    exact (hc i _ (List.getElem?_eq_getElem hi)).2.1
theorem Rep.of_rs {m w γ v sz nl xs} (h:RS sz CA m w v xs) (hn:NL nl v):Rep m w γ v (.sl sz nl xs):=by
 rcases h with ⟨rfl,rfl⟩|⟨b,o,cap,rfl,h1,h2,h3⟩|⟨a,rfl,rfl⟩
 rotate_right
 ·exact .sl0 (fun e=>by have:=hn.1 e;simp at this)
 ·exact .nil (fun e=>hn.2 e rfl)
 ·have:∀ i,∃ cs:List Value,∀ x,xs[i]?=some x→cs.length=sz∧CellsAt m w ⟨b,o+i*sz,none⟩ cs∧CA m w cs x:=by
   intro i
   cases hx:xs[i]? with
   | none=>exact ⟨[],by simp⟩
   | some x =>
     obtain ⟨cs,a⟩:=h3 i x hx
     exact ⟨cs,fun y hy=>by cases hy;exact a⟩
  refine .sl (fun i=>(this i).choose) (fun e=>by have:=hn.1 e;simp at this) h1 h2 (fun i x hx=>?_) (fun i x j c y hx hc hy=>?_)
  ·obtain ⟨a,b,c⟩:=(this i).choose_spec x hx
   exact ⟨a,by rw [← c.1,a],b,c.2.1⟩
  ·exact ((this i).choose_spec x hx).2.2.2.2 j c y hc hy
theorem Rep.sl_shape {m w γ v sz nl xs} (h:Rep m w γ v (.sl sz nl xs)):∃ b cap,v=.slice b xs.length cap∧xs.length≤cap:=h.rs.1.shape
theorem Rep.sl_len {m w γ v sz nl xs} (h:Rep m w γ v (.sl sz nl xs)):xs.length≤9223372036854775807:=h.rs.1.len_le
/-! ## Objects -/
def okV (v:Value) (x:AV):Prop:=v.oneCell'=true∨∃ cs,x=.st cs
inductive AO:Type where
 | cb (T:TypeId) (cs:List AV)
 | gs (fz:Bool) (T:TypeId) (sz:Nat) (nl:Option Bool) (xs:List AV)
 | mo (es:List (Int × AV))
 | gw (T:TypeId) (sz:Nat) (nl:Option Bool) (xs:List AV)
 | dead
def CK (m:Nat→Nat) (w:World):CRel AV:=fun _ _ vs x=>CA m w vs x
instance (m w):CMono (CK m w):=⟨fun _ h=>h⟩
instance (m w):COne (CK m w):=⟨fun h=>h.2.1⟩
def OwnX (T sz:Nat) (m:Nat→Nat) (w:World) (v:Value) (xs:List AV):Prop:=
 ∃ m',Own T sz (CK m w) m' w v xs∧(∀ b,some b≠ownB v→m' b=m b)∧∀ b,ownB v=some b→m b=0
theorem Own.imp {α:Type} {T sz} {C C':CRel α} {m w v} {xs:List α} (h:Own T sz C m w v xs) (hC:∀ cs x,C m w cs x→C' m w cs x):Own T sz C' m w v xs:=by
 rcases h with hn|hn|⟨g,cap,cur,hv,h0,hg,h1,h2,h3,h4,h5⟩
 ·exact .inl hn
 ·exact .inr (.inl hn)
 ·exact .inr (.inr ⟨g,cap,cur,hv,h0,hg,h1,h2,h3,h4,fun i x hx=>let ⟨cs,a,b,c⟩:=h5 i x hx;⟨cs,a,b,hC _ _ c⟩⟩)
def CKG (γ:List Value) (m:Nat→Nat) (w:World):CRel AV:=fun _ _ vs x=>CL γ m w vs x.cells
instance (γ m w):CMono (CKG γ m w):=⟨fun _ h=>h⟩
instance (γ m w):COne (CKG γ m w):=⟨fun h=>h.2.1⟩
def OwnG (γ:List Value) (T sz:Nat) (m:Nat→Nat) (w:World) (v:Value) (xs:List AV):Prop:=
 ∃ m',Own T sz (CKG γ m w) m' w v xs∧(∀ b,some b≠ownB v→m' b=m b)∧∀ b,ownB v=some b→m b=0
def ObjOK (m:Nat→Nat) (w:World) (γ:List Value) (v:Value):AO→Prop
 | .cb T cs=>∃ b vs,v=.pointer (some ⟨b,0,none⟩)∧Box m w b vs T∧CL γ m w vs cs
 | .gs fz T sz nl xs=>(if fz then Own T sz CA m w v xs else OwnX T sz m w v xs)∧NL nl v∧∀ x∈xs,x.cells.length=sz
 | .mo es=>∃ b l,v=.map (some b)∧m b=0∧MapAt w b l∧l.map (·.1)=es.map (·.1)∧∀ (j:Nat) p q,l[j]?=some p→es[j]?=some q→Rep m w [] p.2 q.2∧okV p.2 q.2
 | .gw T sz nl xs=>OwnG γ T sz m w v xs∧NL nl v∧∀ x∈xs,x.cells.length=sz
 | .dead=>True
def blk:AO→Value→Option Nat
 | .cb _ _,.pointer (some a)=>some a.block
 | .gs _ _ _ _ _,v=>ownB v
 | .mo _,.map (some b)=>some b
 | .gw _ _ _ _,v=>ownB v
 | _,_=>none
theorem Own.mark {α:Type} {T sz} {C:CRel α} {m m' w v} {xs:List α} (h:Own T sz C m w v xs) (hm:∀ b,ownB v=some b→m' b=m b) (hC:∀ cs x,C m w cs x→C m' w cs x):Own T sz C m' w v xs:=by
 rcases h with hn|hn|⟨g,cap,cur,hv,h0,hg,h1,h2,h3,h4,h5⟩
 ·exact .inl hn
 ·exact .inr (.inl hn)
 ·refine .inr (.inr ⟨g,cap,cur,hv,h0,hg,h1,h2,h3,?_,fun i x hx=>let ⟨cs,a,b,c⟩:=h5 i x hx;⟨cs,a,b,hC _ _ c⟩⟩)
  rw [hm g (by subst hv;obtain ⟨c,rfl⟩:∃ c,cap=c+1:=⟨cap-1,by omega⟩;rfl)]
  exact h4
theorem OwnX.ext {T sz m w v xs} (h:OwnX T sz m w v xs):∃ m',Own T sz (CK m w) m' w v xs∧(∀ b,some b≠ownB v→m' b=m b)∧(∀ b,ownB v=some b→m b=0)∧Ext m w m' w:=by
 obtain ⟨m',h1,h2,h3⟩:=h
 refine ⟨m',h1,h2,h3,Nat.le_refl _,fun b _=>?_,fun _ _ _ _ h=>h⟩
 cases hb:ownB v with
 | none=>rw [h2 b (by simp [hb])];exact Nat.le_refl _
 | some g =>
   by_cases e:b=g
   ·subst e;rw [h3 b hb];exact Nat.zero_le _
   ·rw [h2 b (by rw [hb];simpa using e)];exact Nat.le_refl _
theorem OwnX.toG {T sz m w v xs} (γ:List Value) (h:OwnX T sz m w v xs):OwnG γ T sz m w v xs:=by
 obtain ⟨m',h1,h2,h3⟩:=h
 exact ⟨m',Own.imp h1 (C':=CKG γ m w) (fun cs x h=>CL.mono (.refl _ _) (fun i v hv=>by simp at hv) (show CL [] m w cs x.cells from h)),h2,h3⟩
end Go.V
namespace Go.V
open Go Go.W
structure Far (S:List Nat) (m:Nat→Nat) (w:World) (m':Nat→Nat) (w':World):Prop where
 os:w'.os=w.os
 tape:w'.tape=w.tape
 output:w'.output=w.output
 size:w.heap.size≤w'.heap.size
 block:∀ b,b < w.heap.size→b ∉ S→w'.heap[b]?=w.heap[b]?
 lim:∀ b,b < w.heap.size→b ∉ S→m' b=m b
 ext:Ext m w m' w'
theorem Far.refl (S m w):Far S m w m w:=⟨rfl,rfl,rfl,Nat.le_refl _,fun _ _ _=>rfl,fun _ _ _=>rfl,.refl _ _⟩
theorem Far.trans {S S' m w m1 w1 m2 w2} (h:Far S m w m1 w1) (k:Far S' m1 w1 m2 w2) (hS:∀ b∈S',b∈S∨w.heap.size≤b):Far S m w m2 w2:=
 ⟨k.os.trans h.os,k.tape.trans h.tape,k.output.trans h.output,Nat.le_trans h.size k.size,
  fun b hb hS'=>(k.block b (Nat.lt_of_lt_of_le hb h.size) (fun e=>(hS b e).elim hS' (by omega))).trans (h.block b hb hS'),
  fun b hb hS'=>(k.lim b (Nat.lt_of_lt_of_le hb h.size) (fun e=>(hS b e).elim hS' (by omega))).trans (h.lim b hb hS'),h.ext.trans k.ext⟩
theorem _root_.Go.W.Touch.far {X m w m' w'} (h:W.Touch X m w m' w'):Far X.toList m w m' w':=
 ⟨h.grown.os,h.grown.tape,h.grown.output,h.grown.size,fun b hb hX=>h.grown.block b hb (fun e=>hX (by rw [← e];simp)),fun b hb hX=>h.lim b hb (fun e=>hX (by rw [← e];simp)),h.ext⟩
theorem _root_.Go.W.Keep.far {m w m' w'} (h:Keep m w m' w') (S:List Nat):Far S m w m' w':=
 ⟨h.grown.os,h.grown.tape,h.grown.output,h.grown.size,fun _b hb _=>h.block hb,fun b hb _=>h.lim b hb,h.ext⟩
theorem Far.keep {m w m' w'} (h:Far [] m w m' w'):Keep m w m' w':=
 ⟨⟨h.os,h.tape,h.output,h.size,fun b hb _=>h.block b hb (by simp)⟩,fun b hb=>h.lim b hb (by simp)⟩
theorem Far.sub {S S' m w m' w'} (h:Far S m w m' w') (hS:∀ b∈S,b∈S'):Far S' m w m' w':=
 ⟨h.os,h.tape,h.output,h.size,fun b hb hn=>h.block b hb (fun e=>hn (hS b e)),fun b hb hn=>h.lim b hb (fun e=>hn (hS b e)),h.ext⟩
theorem Far.heap {S m w m' w'} (h:Far S m w m' w') {b:Nat} {o:Obj} (hb:w.heap[b]?=some o) (hS:b ∉ S):w'.heap[b]?=some o:=by
 rw [h.block b (Array.getElem?_eq_some_iff.1 hb).1 hS];exact hb
theorem Own.far {C:CRel AV} [CMono C] {T sz m w v} {xs:List AV} {S m' w'} (h:Own T sz C m w v xs) (ht:Far S m w m' w') (hX:∀ b,ownB v=some b→b ∉ S):Own T sz C m' w' v xs:=by
 rcases h with hn|hn|⟨g,cap,cur,hv,h0,hg,h1,h2,h3,h4,h5⟩
 ·exact .inl hn
 ·exact .inr (.inl hn)
 ·have hne:g ∉ S:=hX g (by subst hv;obtain ⟨c,rfl⟩:∃ c,cap=c+1:=⟨cap-1,by omega⟩;rfl)
  refine .inr (.inr ⟨g,cap,cur,hv,h0,ht.heap hg hne,h1,h2,h3,?_,fun i x hx=>?_⟩)
  ·rw [ht.lim g (Array.getElem?_eq_some_iff.1 hg).1 hne];exact h4
  ·obtain ⟨cs,a1,a2,a3⟩:=h5 i x hx
   exact ⟨cs,a1,a2,CMono.mono ht.ext a3⟩
theorem OwnX.far {T sz m w v} {xs:List AV} {S m' w'} (h:OwnX T sz m w v xs) (ht:Far S m w m' w') (hX:∀ b,ownB v=some b→b ∉ S):OwnX T sz m' w' v xs:=by
 obtain ⟨m1,h1,h2,h3⟩:=h
 have hlt:=h1.lt
 refine ⟨fun b=>if some b=ownB v then m1 b else m' b,?_,fun b hb=>by simp only [if_neg hb],fun b hb=>by rw [ht.lim b (hlt b hb) (hX b hb)];exact h3 b hb⟩
 refine Own.far (S:=S) (Own.imp h1 (C':=CK m' w') (fun cs x h=>show CA m' w' cs x from CMono.mono ht.ext (show CA m w cs x from h))) ⟨ht.os,ht.tape,ht.output,ht.size,ht.block,fun b hb hS=>?_,ht.size,fun b hb=>?_,fun b i c hi hc=>?_⟩ hX
 ·split
  ·rfl
  ·rename_i hn;rw [ht.lim b hb hS,h2 b hn]
 ·split
  ·exact Nat.le_refl _
  ·rename_i hn;rw [h2 b hn];exact ht.ext.lim b hb
 ·by_cases hn:some b=ownB v
  ·have:=ht.block b (hlt b hn.symm) (hX b hn.symm)
   rw [World.cell?_of_block (w:=w) this];exact hc
  ·rw [h2 b hn] at hi
   exact ht.ext.cell b i c hi hc
theorem OwnG.far {γ γ' T sz m w v} {xs:List AV} {S m' w'} (h:OwnG γ T sz m w v xs) (ht:Far S m w m' w') (hX:∀ b,ownB v=some b→b ∉ S) (hp:Pre γ γ'):OwnG γ' T sz m' w' v xs:=by
 obtain ⟨m1,h1,h2,h3⟩:=h
 have hlt:=h1.lt
 refine ⟨fun b=>if some b=ownB v then m1 b else m' b,?_,fun b hb=>by simp only [if_neg hb],fun b hb=>by rw [ht.lim b (hlt b hb) (hX b hb)];exact h3 b hb⟩
 refine Own.far (S:=S) (Own.imp h1 (C':=CKG γ' m' w') (fun cs x h=>CL.mono ht.ext hp (show CL γ m w cs x.cells from h))) ⟨ht.os,ht.tape,ht.output,ht.size,ht.block,fun b hb hS=>?_,ht.size,fun b hb=>?_,fun b i c hi hc=>?_⟩ hX
 ·split
  ·rfl
  ·rename_i hn;rw [ht.lim b hb hS,h2 b hn]
 ·split
  ·exact Nat.le_refl _
  ·rename_i hn;rw [h2 b hn];exact ht.ext.lim b hb
 ·by_cases hn:some b=ownB v
  ·have:=ht.block b (hlt b hn.symm) (hX b hn.symm)
   rw [World.cell?_of_block (w:=w) this];exact hc
  ·rw [h2 b hn] at hi
   exact ht.ext.cell b i c hi hc
theorem ObjOK.far {m w γ v o S m' w' γ'} (h:ObjOK m w γ v o) (ht:Far S m w m' w') (hX:∀ b,blk o v=some b→b ∉ S) (hp:Pre γ γ'):ObjOK m' w' γ' v o:=by
 cases o with
 | cb T cs =>
   obtain ⟨b,vs,rfl,hB,hC⟩:=h
   have hb:b ∉ S:=hX b rfl
   exact ⟨b,vs,rfl,⟨ht.heap hB.heap hb,by rw [ht.lim b hB.lt hb];exact hB.lim⟩,hC.mono ht.ext hp⟩
 | gs fz T sz nl xs =>
   obtain ⟨h1,h2,h3⟩:=h
   refine ⟨?_,h2,h3⟩
   cases fz with
   | true=>exact Own.far h1 ht hX
   | false=>exact OwnX.far h1 ht hX
 | mo es =>
   obtain ⟨b,l,rfl,h0,hM,hk,hR⟩:=h
   have hb:b ∉ S:=hX b rfl
   have hlt:=hM.lt
   obtain ⟨es',clock,hM1,hM2⟩:=hM
   exact ⟨b,l,rfl,by rw [ht.lim b hlt hb];exact h0,⟨es',clock,ht.heap hM1 hb,hM2⟩,hk,fun j p q a c=>⟨(hR j p q a c).1.mono ht.ext (.refl _),(hR j p q a c).2⟩⟩
 | gw T sz nl xs =>
   obtain ⟨h1,h2,h3⟩:=h
   exact ⟨OwnG.far h1 ht hX hp,h2,h3⟩
 | dead=>trivial
theorem ObjOK.lt {m w γ v o} (h:ObjOK m w γ v o) {b} (hb:blk o v=some b):b < w.heap.size:=by
 cases o with
 | cb T cs=>obtain ⟨b',vs,rfl,hB,hC⟩:=h;cases hb;exact hB.lt
 | gs fz T sz nl xs =>
   obtain ⟨h1,h2⟩:=h
   cases fz with
   | true=>exact Own.lt h1 b hb
   | false=>obtain ⟨m1,h1,_⟩:=h1;exact h1.lt b hb
 | mo es=>obtain ⟨b',l,rfl,h0,hM,_⟩:=h;cases hb;exact hM.lt
 | gw T sz nl xs =>
   obtain ⟨⟨m1,h1,_⟩,h2⟩:=h
   exact h1.lt b hb
 | dead=>cases hb
structure Heap (m:Nat→Nat) (w:World) (γ:List Value) (η:List AO):Prop where
 len:γ.length=η.length
 ok:∀ (i:Nat) v o,γ[i]?=some v→η[i]?=some o→ObjOK m w γ v o
 apart:∀ (i j:Nat) v v' o o' b,i≠j→γ[i]?=some v→η[i]?=some o→γ[j]?=some v'→η[j]?=some o'→blk o v=some b→blk o' v'≠some b
theorem Heap.get {m w γ η} (h:Heap m w γ η) {i:Nat} {o:AO} (hi:η[i]?=some o):∃ v,γ[i]?=some v∧ObjOK m w γ v o:=by
 have hlt:i < γ.length:=by rw [h.len];exact (List.getElem?_eq_some_iff.1 hi).1
 exact ⟨_,List.getElem?_eq_getElem hlt,h.ok i _ o (List.getElem?_eq_getElem hlt) hi⟩
theorem Heap.keep {m w γ η m' w'} (h:Heap m w γ η) (hk:Keep m w m' w'):Heap m' w' γ η:=
 ⟨h.len,fun i v o a b=>(h.ok i v o a b).far (hk.far []) (by simp) (.refl _),h.apart⟩
structure Base where
 m:Nat→Nat
 w:World
 S:List Nat
 γ:List Value
structure In (B:Base) (m:Nat→Nat) (w:World) (γ:List Value) (η:List AO):Prop where
 heap:Heap m w γ η
 far:Far B.S B.m B.w m w
 own:∀ (i:Nat) v o b,γ[i]?=some v→η[i]?=some o→blk o v=some b→b∈B.S∨B.w.heap.size≤b
 pre:Pre B.γ γ
theorem In.keep {B m w γ η m' w'} (h:In B m w γ η) (hk:Keep m w m' w'):In B m' w' γ η:=
 ⟨h.heap.keep hk,h.far.trans (hk.far []) (by simp),h.own,h.pre⟩
theorem In.put {B m w γ η m' w'} {i:Nat} {v o o'} (h:In B m w γ η) (hv:γ[i]?=some v) (ho:η[i]?=some o) (ht:W.Touch (blk o v) m w m' w') (hok:ObjOK m' w' γ v o') (hb:blk o' v=blk o v∨blk o' v=none):In B m' w' γ (η.set i o'):=by
 have hi:i < η.length:=(List.getElem?_eq_some_iff.1 ho).1
 have key:∀ (j:Nat) x,(η.set i o')[j]?=some x→(j=i∧x=o')∨(j≠i∧η[j]?=some x):=by
  intro j x hx
  rw [List.getElem?_set] at hx
  split at hx
  ·rename_i e;subst e
   cases hx;exact .inl ⟨rfl,rfl⟩
  ·rename_i e;exact .inr ⟨fun e'=>e e'.symm,hx⟩
 have hsame:∀ {b},blk o' v=some b→blk o v=some b:=by
  intro b hq
  rcases hb with e|e
  ·rw [← e];exact hq
  ·rw [e] at hq;cases hq
 refine ⟨⟨by simp [h.heap.len],fun j u x hu hx=>?_,fun j k u u' x x' b hne hu hx hu' hx' hbx=>?_⟩,h.far.trans ht.far (fun b hb=>?_),fun j u x b hu hx hbx=>?_,h.pre⟩
 ·rcases key j x hx with ⟨rfl,rfl⟩|⟨e,q⟩
  ·rw [hv] at hu;cases hu;exact hok
  ·refine (h.heap.ok j u x hu q).far ht.far (fun b hb hm=>?_) (.refl _)
   have hm:blk o v=some b:=by simpa using hm
   exact h.heap.apart i j v u o x b (Ne.symm e) hv ho hu q hm hb
 ·rcases key j x hx with ⟨e1,e2⟩|⟨e,q⟩
  ·subst e2
   rw [e1,hv] at hu;cases hu
   rcases key k x' hx' with ⟨e3,e4⟩|⟨e',q'⟩
   ·exact (hne (e1.trans e3.symm)).elim
   ·exact h.heap.apart i k v u' o x' b (Ne.symm e') hv ho hu' q' (hsame hbx)
  ·rcases key k x' hx' with ⟨e3,e4⟩|⟨e',q'⟩
   ·subst e4
    rw [e3,hv] at hu';cases hu'
    intro hq
    exact h.heap.apart j i u v x o b e hu q hv ho hbx (hsame hq)
   ·exact h.heap.apart j k u u' x x' b hne hu q hu' q' hbx
 ·have hb:blk o v=some b:=by simpa using hb
  exact h.own i v o b hv ho hb
 ·rcases key j x hx with ⟨rfl,rfl⟩|⟨e,q⟩
  ·rw [hv] at hu;cases hu
   exact h.own j v o b hv ho (hsame hbx)
  ·exact h.own j u x b hu q hbx
theorem get_snoc {α:Type} {l:List α} {x y:α} {i:Nat} (h:(l++[x])[i]?=some y):l[i]?=some y∨(i=l.length∧y=x):=by
 rw [List.getElem?_append] at h
 split at h
 ·exact .inl h
 ·rename_i hn
  have:i-l.length=0:=by
   have:=(List.getElem?_eq_some_iff.1 h).1
   simp at this;omega
  rw [this] at h
  simp at h
  exact .inr ⟨by omega,h.symm⟩
theorem get_last {α:Type} {l:List α} {x:α}:(l++[x])[l.length]?=some x:=by simp
theorem In.new {B m w γ η m' w' v o} (h:In B m w γ η) (hk:Keep m w m' w') (hok:ObjOK m' w' (γ++[v]) v o) (hnew:∀ b,blk o v=some b→w.heap.size≤b):In B m' w' (γ++[v]) (η++[o]):=by
 have hl:=h.heap.len
 have hlt:∀ {i:Nat} {u},γ[i]?=some u→i < γ.length:=fun h=>(List.getElem?_eq_some_iff.1 h).1
 have hlt':∀ {i:Nat} {u},η[i]?=some u→i < η.length:=fun h=>(List.getElem?_eq_some_iff.1 h).1
 refine ⟨⟨by simp [hl],fun j u x hu hx=>?_,fun j k u u' x x' b hne hu hx hu' hx' hbx=>?_⟩,h.far.trans (hk.far []) (by simp),fun j u x b hu hx hbx=>?_,h.pre.trans (.app _ _)⟩
 ·rcases get_snoc hu with hu|⟨e,rfl⟩
  ·rcases get_snoc hx with hx|⟨e,rfl⟩
   ·exact (h.heap.ok j u x hu hx).far (hk.far []) (by simp) (.app _ _)
   ·have:=hlt hu;omega
  ·rcases get_snoc hx with hx|⟨_,rfl⟩
   ·have:=hlt' hx;omega
   ·exact hok
 ·rcases get_snoc hu with hu|⟨e,rfl⟩
  ·rcases get_snoc hx with hx|⟨e,rfl⟩
   ·have hb1:=(h.heap.ok j u x hu hx).lt hbx
    rcases get_snoc hu' with hu'|⟨e',rfl⟩
    ·rcases get_snoc hx' with hx'|⟨e',rfl⟩
     ·exact h.heap.apart j k u u' x x' b hne hu hx hu' hx' hbx
     ·have:=hlt hu';omega
    ·rcases get_snoc hx' with hx'|⟨_,rfl⟩
     ·have:=hlt' hx';omega
     ·intro hq;have:=hnew b hq;omega
   ·have:=hlt hu;omega
  ·rcases get_snoc hx with hx|⟨_,rfl⟩
   ·have:=hlt' hx;omega
   ·have hb1:=hnew b hbx
    rcases get_snoc hu' with hu'|⟨e',rfl⟩
    ·rcases get_snoc hx' with hx'|⟨e',rfl⟩
     ·intro hq;have:=(h.heap.ok k u' x' hu' hx').lt hq;omega
     ·have:=hlt hu';omega
    ·omega
 ·rcases get_snoc hu with hu|⟨e,rfl⟩
  ·rcases get_snoc hx with hx|⟨e,rfl⟩
   ·exact h.own j u x b hu hx hbx
   ·have:=hlt hu;omega
  ·rcases get_snoc hx with hx|⟨_,rfl⟩
   ·have:=hlt' hx;omega
   ·exact .inr (Nat.le_trans h.far.size (hnew b hbx))
theorem In.over {B m w γ η m' w'} {i:Nat} {v o v' o'} (h:In B m w γ η) (hv:γ[i]?=some v) (ho:η[i]?=some o) (ht:W.Touch (blk o v) m w m' w') (hok:ObjOK m' w' (γ++[v']) v' o') (hb:∀ b,blk o' v'=some b→blk o v=some b∨w.heap.size≤b) :
  In B m' w' (γ++[v']) (η.set i .dead++[o']):=by
 have h1:=h.put (o':=.dead) hv ho ht trivial (.inr (by cases v<;>rfl))
 have hl:=h.heap.len
 have hlt:∀ {i:Nat} {u},γ[i]?=some u→i < γ.length:=fun h=>(List.getElem?_eq_some_iff.1 h).1
 have hlt':∀ {j:Nat} {u},(η.set i .dead)[j]?=some u→j < η.length:=fun h=>by have:=(List.getElem?_eq_some_iff.1 h).1;simpa using this
 have off:∀ (j:Nat) u x b,γ[j]?=some u→(η.set i .dead)[j]?=some x→blk x u=some b→blk o' v'≠some b:=by
  intro j u x b hu hx hbx hq
  rcases hb b hq with e|e
  ·by_cases hji:j=i
   ·subst hji
    rw [List.getElem?_set_self (by have:=(List.getElem?_eq_some_iff.1 ho).1;omega)] at hx
    cases hx
    cases u<;>cases hbx
   ·rw [List.getElem?_set_ne (Ne.symm hji)] at hx
    exact h.heap.apart i j v u o x b (Ne.symm hji) hv ho hu hx e hbx
  ·by_cases hji:j=i
   ·subst hji
    rw [List.getElem?_set_self (by have:=(List.getElem?_eq_some_iff.1 ho).1;omega)] at hx
    cases hx
    cases u<;>cases hbx
   ·rw [List.getElem?_set_ne (Ne.symm hji)] at hx
    have:=(h.heap.ok j u x hu hx).lt hbx
    omega
 refine ⟨⟨by simp [hl],fun j u x hu hx=>?_,fun j k u u' x x' b hne hu hx hu' hx' hbx=>?_⟩,h1.far,fun j u x b hu hx hbx=>?_,h1.pre.trans (.app _ _)⟩
 ·rcases get_snoc hu with p|⟨e,e1⟩
  ·rcases get_snoc hx with q|⟨e,e1⟩
   ·exact (h1.heap.ok j u x p q).far (.refl [] _ _) (by simp) (.app _ _)
   ·have:=hlt p;simp at e;omega
  ·rcases get_snoc hx with q|⟨_,e2⟩
   ·have:=hlt' q;omega
   ·subst e1 e2;exact hok
 ·rcases get_snoc hu with p|⟨e,e1⟩
  ·rcases get_snoc hx with q|⟨e,e1⟩
   ·rcases get_snoc hu' with p'|⟨e',e1'⟩
    ·rcases get_snoc hx' with q'|⟨e',e1'⟩
     ·exact h1.heap.apart j k u u' x x' b hne p q p' q' hbx
     ·have:=hlt p';simp at e';omega
    ·rcases get_snoc hx' with q'|⟨_,e2'⟩
     ·have:=hlt' q';omega
     ·subst e1' e2';exact off j u x b p q hbx
   ·have:=hlt p;simp at e;omega
  ·rcases get_snoc hx with q|⟨_,e2⟩
   ·have:=hlt' q;omega
   ·rcases get_snoc hu' with p'|⟨e',e1'⟩
    ·rcases get_snoc hx' with q'|⟨e',e1'⟩
     ·subst e1 e2;intro hq;exact off k u' x' b p' q' hq hbx
     ·have:=hlt p';simp at e';omega
    ·omega
 ·rcases get_snoc hu with p|⟨e,e1⟩
  ·rcases get_snoc hx with q|⟨e,e1⟩
   ·exact h1.own j u x b p q hbx
   ·have:=hlt p;simp at e;omega
  ·rcases get_snoc hx with q|⟨_,e2⟩
   ·have:=hlt' q;omega
   ·subst e1 e2
    rcases hb b hbx with e|e
    ·exact h.own i v o b hv ho e
    ·exact .inr (Nat.le_trans h.far.size e)
/-! ## An activation -/
def lk:List (Nat × AV)→Nat→Option AV
 | [],_=>none
 | (k,v)::r,t=>bif Nat.beq k t then some v else lk r t
def RL (m:Nat→Nat) (w:World) (γ:List Value):List (Nat × Value)→List (Nat × AV)→Prop
 | [],[]=>True
 | (t,v)::r,(t',x)::s=>t=t'∧Rep m w γ v x∧RL m w γ r s
 | _,_=>False
theorem RL.look {m w γ}:∀ {ρc ρ},RL m w γ ρc ρ→∀ {t x},lk ρ t=some x→∃ v,W.look ρc t=some v∧Rep m w γ v x
 | [],[],_,t,x,h=>by simp [lk] at h
 | (k,v)::r,(k',y)::s,⟨hk,hr,hl⟩,t,x,h=>by
   subst hk
   simp only [lk] at h
   simp only [W.look]
   cases hb:Nat.beq k t with
   | true=>rw [hb] at h;simp at h;subst h;exact ⟨v,by simp,hr⟩
   | false=>rw [hb] at h;simpa using RL.look hl (by simpa using h)
 | [],_::_,h,_,_,_=>h.elim
 | _::_,[],h,_,_,_=>h.elim
theorem RL.mono {m w γ m' w' γ'} (he:Ext m w m' w') (hp:Pre γ γ'):∀ {ρc ρ},RL m w γ ρc ρ→RL m' w' γ' ρc ρ
 | [],[],_=>trivial
 | _::_,_::_,⟨a,b,c⟩=>⟨a,b.mono he hp,RL.mono he hp c⟩
 | [],_::_,h=>h.elim
 | _::_,[],h=>h.elim
def rawOf (v:Value):Option AV:=if v.oneCell' then some (.raw v) else none
def constAV:Value→Option AV
 | .agg cs=>if cs.toList.all (·.oneCell') then some (.st (cs.toList.map .raw)) else none
 | v=>rawOf v
def ev2 (ρ:List (Nat × AV)):Operand→Option AV
 | .tmp t=>lk ρ t
 | .const v=>constAV v
 | .func f=>some (.fn (.func f) [] [])
 | .global _=>none
theorem constAV_rep {m w γ v x} (h:constAV v=some x):Rep m w γ v x:=by
 unfold constAV at h
 split at h
 ·rename_i cs
  split at h
  ·rename_i hc
   cases h
   have e:cs=cs.toList.toArray:=by simp
   rw [e]
   refine .st (by simp) (fun c hcm=>by simpa using List.all_eq_true.1 hc c hcm) (fun j v c hv hc'=>?_)
   have hv':cs.toList[j]?=some v:=by simpa using hv
   simp only [List.getElem?_map,hv',Option.map_some] at hc'
   cases hc'
   exact .raw (by simpa using List.all_eq_true.1 hc v (List.mem_of_getElem? hv'))
  ·cases h
 ·unfold rawOf at h
  split at h
  ·cases h;rename_i hq;exact .raw hq
  ·cases h
theorem RL.ev {m w γ ρc ρ} (h:RL m w γ ρc ρ) {x:Operand} {y} (hx:ev2 ρ x=some y):∃ v,W.ev ρc x=some v∧Rep m w γ v y:=by
 cases x with
 | tmp t=>exact h.look hx
 | const v=>exact ⟨v,rfl,constAV_rep hx⟩
 | func f =>
   simp only [ev2,Option.some.injEq] at hx
   subst hx
   exact ⟨_,rfl,.fn (fv:=[]) (cv:=[]) rfl rfl (by simp) (by simp)⟩
 | global g=>cases hx
def A2 (N:Nat) (D:List Deferred) (B:Base) (a:Act) (w:World) (ρ:List (Nat × AV)) (η:List AO):Prop:=
 ∃ m γ ρc,Env N D a ρc∧RL m w γ ρc ρ∧In B m w γ η
theorem A2.mk {N D B a w ρ η m γ ρc} (h1:Env N D a ρc) (h2:RL m w γ ρc ρ) (h3:In B m w γ η):A2 N D B a w ρ η:=⟨m,γ,ρc,h1,h2,h3⟩
theorem A2.ev {N D B a w ρ η} (h:A2 N D B a w ρ η) {x:Operand} {y} (hx:ev2 ρ x=some y):∃ m γ v,a.eval x=v∧Rep m w γ v y:=by
 obtain ⟨m,γ,ρc,h1,h2,h3⟩:=h
 obtain ⟨v,a1,a2⟩:=h2.ev hx
 exact ⟨m,γ,v,h1.ev a1,a2⟩
end Go.V
