/- Lemmas for the claim; no conditions. -/
import Derived.Test.YtdjhogobbbnddaaGreatC11
namespace Go.V
open Go Go.W
theorem Ymd (off:Nat):∀ (cs:List Value) (k:Nat) (arr:Array Value),off+k+cs.length≤arr.size →
  ((cs.zipIdx k).foldl (fun (b:Array Value) (x:Value × Nat)=>b.setIfInBounds (off+x.2) x.1) arr).size=arr.size ∧
  (∀ j,j < off+k∨off+k+cs.length≤j→((cs.zipIdx k).foldl (fun (b:Array Value) (x:Value × Nat)=>b.setIfInBounds (off+x.2) x.1) arr)[j]?=arr[j]?) ∧
  ∀ (j:Nat) c,cs[j]?=some c→((cs.zipIdx k).foldl (fun (b:Array Value) (x:Value × Nat)=>b.setIfInBounds (off+x.2) x.1) arr)[off+k+j]?=some c
 | [],k,arr,_=>by simp
 | c::cs,k,arr,h=>by
   simp only [List.length_cons] at h;obtain ⟨h1,h2,h3⟩:=Ymd off cs (k+1) (arr.setIfInBounds (off+k) c) (by simp;omega);simp only [List.zipIdx_cons,List.foldl_cons];refine ⟨by simpa using h1,fun j hj=>?_,fun j c' hj=>?_⟩
   ·simp only [List.length_cons] at hj;rw [h2 j (by omega),Array.getElem?_setIfInBounds_ne (by omega)]
   ·cases j with
    | zero =>
      simp at hj;subst hj;refine (h2 (off+k) (by omega)).trans ?_;rw [Array.getElem?_setIfInBounds_self_of_lt (by omega)]
    | succ j =>
      have:=h3 j c' (by simpa using hj)
      rwa [show off+k+(j+1)=off+(k+1)+j by omega]
theorem Ylc (sz:Nat):∀ (vs:List Value) (k:Nat) (cells:Array Value),(∀ v∈vs,v.cells.size=sz)→(k+vs.length)*sz≤cells.size →
  ∃ out,Instr.fill (fun i=>some (i*sz,sz)) cells ((List.range' k vs.length).zip vs)=some out∧out.size=cells.size∧(∀ j,j < k*sz→out[j]?=cells[j]?) ∧
   ∀ (i:Nat) v (j:Nat) c,vs[i]?=some v→v.cells[j]?=some c→out[(k+i)*sz+j]?=some c
 | [],k,cells,_,_=>⟨cells,rfl,rfl,fun _ _=>rfl,by simp⟩
 | u::r,k,cells,hs,hk=>by
   have hu:=hs u (by simp);simp only [List.length_cons] at hk;have hmul:(k+(r.length+1))*sz=k*sz+sz+r.length*sz:=by rw [Nat.add_mul,Nat.add_mul];omega
   obtain ⟨s1,s2,s3⟩:=Ymd (k*sz) u.cells.toList 0 cells (by simp;omega);obtain ⟨out,o1,o2,o3,o4⟩:=Ylc sz r (k+1) ((u.cells.toList.zipIdx 0).foldl (fun (b:Array Value) (x:Value × Nat)=>b.setIfInBounds (k*sz+x.2) x.1) cells) (fun v hv=>hs v (by simp [hv])) (by rw [s1,show k+1+r.length=k+(r.length+1) by omega];exact hk);refine ⟨out,?_,o2.trans s1,fun j hj=>?_,fun i v j c hi hj=>?_⟩
   ·simp only [List.length_cons,List.range'_succ,List.zip_cons_cons,Instr.fill,hu];rw [if_neg (by simp;omega)];rw [← o1];congr 1;rw [show u.cells.zipIdx=(u.cells.toList.zipIdx 0).toArray from by apply Array.ext';simp];simp
   ·rw [o3 j (by rw [Nat.succ_mul];omega),s2 j (by omega)]
   ·cases i with
    | zero =>
      simp at hi;subst hi;have hjs:j < sz:=by rw [← hu];exact (Array.getElem?_eq_some_iff.1 hj).1
      rw [Nat.add_zero,o3 _ (by rw [Nat.succ_mul];omega)];have:=s3 j c (by simpa using hj)
      rwa [Nat.add_zero] at this
    | succ i =>
      have:=o4 i v j c (by simpa using hi) hj
      rwa [show k+(i+1)=k+1+i by omega]
theorem VL.cells {m w γ} {sz:Nat}:∀ {vs:List Value} {us:List AV},VL m w γ vs us→(∀ u∈us,okc u=true∧u.cells.length=sz)→∀ v∈vs,v.cells.size=sz
 | [],[],_,_,v,h=>by simp at h
 | v::vs,u::us,⟨h1,h2⟩,hs,q,hq=>by
   rcases List.mem_cons.1 hq with rfl|hq
   ·obtain ⟨cs,e,hC⟩:=h1.cellsOf (h1.one (hs u (by simp)).1);rw [e];have:=hC.1
    simp [this,(hs u (by simp)).2]
   ·exact VL.cells h2 (fun u hu=>hs u (by simp [hu])) q hq
 | [],_::_,h,_,_,_=>h.elim
 | _::_,[],h,_,_,_=>h.elim
def pureA:AV→Bool
 | .raw _=>true
 | .sl _ _ _=>true
 | .ep _ _=>true
 | .pr _=>true
 | .fn _ [] []=>true
 | .st cs=>cs.all fun|.raw _=>true|.sl _ _ _=>true|.ep _ _=>true|.pr _=>true|.fn _ [] []=>true|_=>false
 | _=>false
theorem YaV {m w γ v u} (h:Rep m w γ v u) (hp:pureA u=true):Rep m w [] v u:=by
 have base:∀ {v u},Rep m w γ v u→(match u with|.raw _=>true|.sl _ _ _=>true|.ep _ _=>true|.pr _=>true|.fn _ [] []=>true|_=>false)=true→Rep m w [] v u:=by
  intro v u h hp
  cases h with
  | raw h=>exact .raw h
  | nil h=>exact .nil h
  | sl cv hn h1 h2 hc hr=>exact .sl cv hn h1 h2 hc hr
  | sl0 h=>exact .sl0 h
  | ep hc hl h1 hr=>exact .ep hc hl h1 hr
  | pr h=>exact .pr h
  | @fn _ f _ _ first caps l1 l2 h1 h2 =>
    match first,caps,hp with
    | [],[],_=>exact .fn l1 l2 (fun j v c _ hc=>by simp at hc) (fun j v c _ hc=>by simp at hc)
  | _=>simp at hp
 cases u with
 | st cs =>
   cases h with
   | st hl h1 hr =>
     simp only [pureA,List.all_eq_true] at hp;exact .st hl h1 fun j v c a b=>base (hr j v c a b) (hp c (List.mem_of_getElem? b))
 | raw v=>exact base h rfl
 | sl=>exact base h rfl
 | ep=>exact base h rfl
 | pr=>exact base h rfl
 | fn f first caps =>
   match first,caps,hp with
   | [],[],_=>exact base h rfl
 | _=>simp [pureA] at hp
def Ymm (sz:Nat):List AV→Bool
 | []=>true
 | u::r=>okc u&&Nat.beq u.cells.length sz&&pureA u&&Ymm sz r
theorem YiT {sz:Nat}:∀ {us:List AV},Ymm sz us=true→∀ u∈us,okc u=true∧u.cells.length=sz∧pureA u=true
 | [],_,u,h=>by simp at h
 | v::r,h,u,hu=>by
   simp only [Ymm,Bool.and_eq_true] at h;rcases List.mem_cons.1 hu with rfl|hu
   ·exact ⟨h.1.1.1,Nat.eq_of_beq_eq_true h.1.1.2,h.1.2⟩
   ·exact YiT h.2 u hu
section
variable {C:Cx} {ops:Array Oper} {Q:Qt} {ρ ρ':Ro} {η η' η2:Eta} {rest:List Oper} {T d X Y:Nat} {pos:String} {af:Array Edge} {op:Op} {x y z:Operand} {A K:Code} {e:Exit}
theorem One.lit {len sz E k:Nat} {parts:Array (Nat × Operand)} {us:List AV} 
  (hs:(C.tab X).map (·.sh)=some (.slice E)) (hz:(C.tab E).map (·.size)=some (sz+1))
  (hp1:parts.toList.map (·.1)=List.range' 0 (len+1)) (hp2:Yc6 ρ (parts.toList.map (·.2))=some us) (hu:Ymm (sz+1) us=true) (hl:Nat.ble ((len+1)*(sz+1)) 16000=true)
  (hk:η.length=k) (hη:η++[.gs false E (sz+1) (some false) us]=η2) (hd:Nat.blt d C.N=true) :
  Yli C ops Q ⟨some d,.buildSlice X (len+1) parts,T,pos,af,none⟩ ρ η ((d,.hs k)::ρ) η2:=by
 rintro a w Kc ⟨m,γ,ρc,hE,hR,hI⟩ kk;obtain ⟨vs,g1,g2⟩:=hR.evs hp2;have hus:=YiT hu;have hcs:=g2.cells (sz:=sz+1) (fun u h=>⟨(hus u h).1,(hus u h).2.1⟩);have hvl:=g2.len;have hlen:vs.length=len+1:=by
  have e1:=congrArg List.length hp1;have e2:=congrArg List.length (hE.evs g1);simp at e1 e2;omega
 cases ht:C.tab X with
 | none=>rw [ht] at hs;cases hs
 | some te =>
 rw [ht] at hs;simp at hs
 cases hte:C.tab E with
 | none=>rw [hte] at hz;cases hz
 | some tE =>
 rw [hte] at hz;simp at hz;obtain ⟨dd,hu',hd'⟩:=((C.hT X te ht).re hs).sh;obtain rfl:dd=_:=hd';obtain ⟨inf,i1,i2,i3,i4,i5⟩:=(C.hT E tE hte).info;obtain ⟨out,f1,f2,_,f4⟩:=Ylc (sz+1) vs 0 ((Array.range ((len+1)*(sz+1))).map fun j=>tE.zero.cells[j % tE.zero.cells.size]!) hcs (by simp [hlen]);rw [hlen] at f1;have hl':(len+1)*(sz+1)≤16000:=by simpa using hl
 have hlen2:len+1≤16000:=Nat.le_trans (Nat.le_mul_of_pos_right _ (by omega)) hl';have hos:out.size=(len+1)*(sz+1):=by rw [f2];simp
 have hparts:(parts.toList.map fun p=>(p.1,a.eval p.2))=(List.range' 0 (len+1)).zip vs:=by
  rw [← hp1,← hE.evs g1];generalize parts.toList=l;induction l with
  | nil=>rfl
  | cons p r ih=>simp [ih]
 have hK:=Keep.alloc m w (.cells out E) 0;have hKm:Ext m w (Yb8 (Yb8 m w.heap.size 0) w.heap.size ((len+1)*(sz+1))) (w.alloc (.cells out E)):=by
  have:=Keep.alloc m w (.cells out E) ((len+1)*(sz+1))
  have e:Yb8 (Yb8 m w.heap.size 0) w.heap.size ((len+1)*(sz+1))=Yb8 m w.heap.size ((len+1)*(sz+1)):=by funext b;simp only [Yb8];split<;>rfl
  rw [e];exact this.ext
 have hl0:=hI.heap.len;have hul:us.length=len+1:=by omega
 have hown:W.Own E (sz+1) (CK (Yb8 m w.heap.size 0) (w.alloc (.cells out E))) (Yb8 (Yb8 m w.heap.size 0) w.heap.size ((len+1)*(sz+1))) (w.alloc (.cells out E)) (.slice (some ⟨w.heap.size,0,none⟩) (len+1) (len+1)) us:=by
  refine .inr (.inr ⟨w.heap.size,len+1,out,by rw [hul],by omega,heap_alloc_new w _,by omega,by have:maxLen=9223372036854775807:=rfl;omega,Nat.le_of_eq hos.symm,by rw [hul];simp,fun i x hx=>?_⟩);have hi:i < vs.length:=by rw [hvl];exact (List.getElem?_eq_some_iff.1 hx).1
  have hr:=g2.get i _ x (List.getElem?_eq_getElem hi) hx;obtain ⟨hx1,hx2,hx3⟩:=hus x (List.mem_of_getElem? hx);obtain ⟨cs,e,hC⟩:=(YaV hr hx3).cellsOf ((YaV hr hx3).one hx1);refine ⟨cs,by rw [hC.1,hx2],fun j c hj=>?_,hC.mono hK.ext (.refl _)⟩;have:=f4 i _ j c (List.getElem?_eq_getElem hi) (by rw [e];simpa using hj)
  rwa [Nat.zero_add] at this
 subst hη;refine (wl_value (v:=.slice (some ⟨w.heap.size,0,none⟩) (len+1) (len+1)) (w':=w.alloc (.cells out E)) rfl ?_ (kk _ _ (World.grownBy_alloc w _ none) ⟨_,_,_,hE.put _ (by simpa using hd),⟨rfl,.hs (by rw [← hk,← hl0];exact YaD),hR.mono hK.ext (.app _ _)⟩,
  hI.new hK ⟨⟨_,hown,fun b hb=>Ycj (fun e=>hb (by rw [e];rfl)),fun b hb=>by simp [Yay] at hb;subst hb;simp⟩,⟨nofun,fun _=>by simp⟩,fun x hx=>(hus x hx).2.1⟩ (fun b hb=>by simp [blk,Yay] at hb;omega)⟩))
 have hp4:(Array.map (fun x=>(x.fst,a.eval x.snd)) parts).toList=(List.range' 0 (len+1)).zip vs:=by simpa using hparts
 have hbig':¬ (16777216 < (len+1)*(sz+1)):=by omega
 have hz':(len+1)*(sz+1)≠0:=by simp
 have i2':inf.size=sz+1:=i2.trans hz;simp only [execOp,Instr.buildSlice,Sem.run_bind,run_underlying hu',Result.andThen_ok,sizeOf,typeInfo,run_program,i1,i2',Sem.run_pure,zeroValue];rw [if_neg (by simpa using hbig'),if_neg (by simp)];simp only [Sem.run_bind,run_program,Result.andThen_ok,i1,i4,Sem.run_pure];have e1:Instr.fill (fun i=>some (i*(sz+1),sz+1)) (Array.map (fun x=>tE.zero.cells[x % tE.zero.cells.size]!) (Array.range ((len+1)*(sz+1)))) (Array.map (fun x=>(x.fst,a.eval x.snd)) parts).toList=some out:=by
  rw [hp4];exact f1
 rw [e1];rfl
theorem OL.lit {len sz E k:Nat} {parts:Array (Nat × Operand)} {us:List AV} (kk:OL C ops Q rest ((d,.hs k)::ρ) η2)
  (hs:(C.tab X).map (·.sh)=some (.slice E):=by with_unfolding_all exact rfl) (hz:(C.tab E).map (·.size)=some (sz+1):=by with_unfolding_all exact rfl)
  (hp1:parts.toList.map (·.1)=List.range' 0 (len+1):=by with_unfolding_all exact rfl) (hp2:Yc6 ρ (parts.toList.map (·.2))=some us:=by with_unfolding_all exact rfl) (hu:Ymm (sz+1) us=true:=by with_unfolding_all exact rfl) (hl:Nat.ble ((len+1)*(sz+1)) 16000=true:=by with_unfolding_all exact rfl)
  (hk:η.length=k:=by (try dsimp only [List.length])<;>exact rfl) (hη:η++[.gs false E (sz+1) (some false) us]=η2:=by (try dsimp only [List.cons_append,List.nil_append,List.append_eq])<;>exact rfl) (hd:Nat.blt d C.N=true:=by with_unfolding_all exact rfl) :
  OL C ops Q (⟨some d,.buildSlice X (len+1) parts,T,pos,af,none⟩::rest) ρ η:=OL.one (One.lit hs hz hp1 hp2 hu hl hk hη hd) kk
theorem ZdM {sz E k:Nat} 
  (hs:(C.tab X).map (·.sh)=some (.slice E)) (hz:(C.tab E).map (·.size)=some sz)
  (hk:η.length=k) (hη:η++[.gs false E sz (some false) []]=η2) (hd:Nat.blt d C.N=true) :
  Yli C ops Q ⟨some d,.buildSlice X 0 #[],T,pos,af,none⟩ ρ η ((d,.hs k)::ρ) η2:=by
 rintro a w Kc ⟨m,γ,ρc,hE,hR,hI⟩ kk;obtain ⟨dd,hu',hd'⟩:=YcO C.hT hs;obtain rfl:dd=_:=hd';obtain ⟨inf,i1,i2⟩:=Ybh C.hT hz;have hK:=Keep.alloc m w (.cells #[] E) 0;have hl0:=hI.heap.len;subst hη;refine (wl_value (v:=.slice (some ⟨w.heap.size,0,none⟩) 0 0) (w':=w.alloc (.cells #[] E)) rfl ?_ (kk _ _ (World.grownBy_alloc w _ none) ⟨_,_,_,hE.put _ (by simpa using hd),⟨rfl,.hs (by rw [← hk,← hl0];exact YaD),hR.mono hK.ext (.app _ _)⟩,
  hI.new hK ⟨⟨_,.inr (.inl ⟨_,_,rfl,rfl⟩),fun _ _=>rfl,fun b hb=>by simp [Yay] at hb⟩,⟨nofun,fun _=>by simp⟩,by simp⟩ (fun b hb=>by simp [blk,Yay] at hb)⟩))
 simp [execOp,Instr.buildSlice,run_underlying hu',sizeOf,typeInfo,i1,Instr.fill,newRow];rw [show Array.map (fun _:Nat=>(default:Value)) (Array.range 0)=#[] from by apply Array.ext';simp]
theorem ZbK {sz E k:Nat} (kk:OL C ops Q rest ((d,.hs k)::ρ) η2)
  (hs:(C.tab X).map (·.sh)=some (.slice E):=by with_unfolding_all exact rfl) (hz:(C.tab E).map (·.size)=some sz:=by with_unfolding_all exact rfl)
  (hk:η.length=k:=by (try dsimp only [List.length])<;>exact rfl) (hη:η++[.gs false E sz (some false) []]=η2:=by (try dsimp only [List.cons_append,List.nil_append,List.append_eq])<;>exact rfl) (hd:Nat.blt d C.N=true:=by with_unfolding_all exact rfl) :
  OL C ops Q (⟨some d,.buildSlice X 0 #[],T,pos,af,none⟩::rest) ρ η:=OL.one (ZdM hs hz hk hη hd) kk
theorem ZaH {i j k E sz bt:Nat} {fz nl fy ny} {xs ys:List AV} (kk:OL C ops Q rest ((d,.hs k)::ρ) η2)
  (hs:(C.tab X).map (·.sh)=some (.slice E):=by with_unfolding_all exact rfl) (hz:(C.tab E).map (fun e=>(e.size,e.bytes))=some (sz+1,bt):=by with_unfolding_all exact rfl)
  (hx:ev2 ρ x=some (.hs i):=by with_unfolding_all exact rfl) (ho:η[i]?=some (.gs fz E (sz+1) nl xs):=by with_unfolding_all exact rfl) (hy:ev2 ρ y=some (.hs j):=by with_unfolding_all exact rfl) (hoy:η[j]?=some (.gs fy E (sz+1) ny ys):=by with_unfolding_all exact rfl) (hij:Nat.beq i j=false:=by with_unfolding_all exact rfl)
  (hk:η.length=k:=by (try dsimp only [List.length])<;>exact rfl) (hη:(η.set j .dead).set i .dead++[.gs fz E (sz+1) none (xs++ys)]=η2:=by (try dsimp only [List.set,List.cons_append,List.nil_append,List.append_eq])<;>exact rfl) (hd:Nat.blt d C.N=true:=by with_unfolding_all exact rfl)
  (hlen:xs.length+ys.length≤9223372036854775807:=by (try simp only [List.length_append,List.length_map,List.length_cons,List.length_nil,List.length_take,List.length_drop]);omega) (hb:(xs.length+ys.length)*bt≤140737488355328:=by (try simp only [List.length_append,List.length_map,List.length_cons,List.length_nil,List.length_take,List.length_drop]);omega) :
  OL C ops Q (⟨some d,.call ⟨.builtin .append,#[x,y],#[X,X]⟩,T,pos,af,none⟩::rest) ρ η:=by
 rintro a w ⟨m,γ,ρc,hE,hR,hI⟩;obtain ⟨v,g1,g2⟩:=hR.ev hx;obtain ⟨u,g3,g4⟩:=hR.ev hy;have hne:i≠j:=by intro e;subst e;simp at hij
 obtain ⟨hv,_⟩:=g2.hs_get;obtain ⟨hu,_⟩:=g4.hs_get;obtain ⟨m1,f1,f2,f3⟩:=hI.freeze hu hoy
 have hI1:=f3.put (o':=.dead) hu (List.getElem?_set_self (List.getElem?_eq_some_iff.1 hoy).1) ((Keep.refl m1 w).touch _) trivial (.inr (by cases u<;>rfl));rw [List.set_set] at hI1;have ho1:(η.set j .dead)[i]?=some (.gs fz E (sz+1) nl xs):=by rw [List.getElem?_set_ne (Ne.symm hne)];exact ho
 have hyc:=(hI.heap.ok j u _ hu hoy).2.2
 cases ht:C.tab X with
 | none=>rw [ht] at hs;cases hs
 | some te =>
   rw [ht] at hs;simp at hs
   cases hte:C.tab E with
   | none=>rw [hte] at hz;cases hz
   | some tE =>
     rw [hte] at hz;simp at hz;obtain ⟨v',m',w',hrun,hext,⟨q1,q2,q3,rfl⟩,_,hin⟩:=Yev (ty:=T) hI1 ((C.hT X te ht).re hs) (C.hT E tE hte) hz.1 (by omega) hv ho1 f2.rs hyc hlen (by rw [hz.2];exact hb);subst hη;have hl:=hI.heap.len;refine Cx.lcons (wl_value (v:=.slice q1 q2 q3) (w':=w') rfl ?_ (kk _ _ ⟨m',_,_,hE.put _ (by simpa using hd),⟨rfl,.hs (by rw [← hk,← hl];exact YaD),hR.mono (f1.trans hext) (.app _ _)⟩,hin none (NL.none _)⟩));simp [execOp,resolve,invoke,builtin,hE.ev g1,hE.ev g3,hrun]
/-! ## Views, in the walk -/
theorem Zax {i E sz:Nat} {fz nl} {xs:List AV} (t:Nat) (k:OL C ops Q rest ((t,.sl sz none xs)::ρ) η2) (hx:lk ρ t=some (.hs i):=by with_unfolding_all exact rfl) (ho:η[i]?=some (.gs fz E sz nl xs):=by with_unfolding_all exact rfl) (hη:η.set i (.gs true E sz nl xs)=η2:=by (try dsimp only [List.set])<;>exact rfl):OL C ops Q rest ρ η:=by
 subst hη;exact Za5 (ZbA hx ho) k
theorem ZcU {i E sz:Nat} {fz nl} {xs:List AV} (t:Nat) (k:TC C Q A ((t,.sl sz none xs)::ρ) η2) (hx:lk ρ t=some (.hs i):=by with_unfolding_all exact rfl) (ho:η[i]?=some (.gs fz E sz nl xs):=by with_unfolding_all exact rfl) (hη:η.set i (.gs true E sz nl xs)=η2:=by (try dsimp only [List.set])<;>exact rfl):TC C Q A ρ η:=by
 subst hη;exact Zbd (ZbA hx ho) k
theorem Za4 {i E sz:Nat} {fz nl} {xs:List AV} (t:Nat) (k:TX C Q e ((t,.sl sz none xs)::ρ) η2) (hx:lk ρ t=some (.hs i):=by with_unfolding_all exact rfl) (ho:η[i]?=some (.gs fz E sz nl xs):=by with_unfolding_all exact rfl) (hη:η.set i (.gs true E sz nl xs)=η2:=by (try dsimp only [List.set])<;>exact rfl):TX C Q e ρ η:=by
 subst hη;exact Zbo (ZbA hx ho) k
theorem ZaT {k:Nat} (t E sz:Nat) (kk:TC C Q A ((t,.hs k)::ρ) η2) (hx:lk ρ t=some (.raw (.slice none 0 0)):=by with_unfolding_all exact rfl) (hk:η.length=k:=by (try dsimp only [List.length])<;>exact rfl) (hη:η++[.gs false E sz (some true) []]=η2:=by (try dsimp only [List.cons_append,List.nil_append,List.append_eq])<;>exact rfl):TC C Q A ρ η:=by
 subst hη;exact Zbd (ZcT hx hk) kk
theorem ZbB {i E sz t:Nat} {fz nl} {xs:List AV} (k:OL C ops Q (⟨some d,.buildSlice X 1 #[(0,.tmp t)],T,pos,af,none⟩::rest) ((t,.sl sz none xs)::ρ) η2) (hx:lk ρ t=some (.hs i):=by with_unfolding_all exact rfl) (ho:η[i]?=some (.gs fz E sz nl xs):=by with_unfolding_all exact rfl) (hη:η.set i (.gs true E sz nl xs)=η2:=by (try dsimp only [List.set])<;>exact rfl) :
  OL C ops Q (⟨some d,.buildSlice X 1 #[(0,.tmp t)],T,pos,af,none⟩::rest) ρ η:=by
 subst hη;exact Za5 (ZbA hx ho) k
theorem Zbs {dst:Option Tmp} {c:Callee} {args:Array Operand} {at_:Array TypeId} {g:Option (Nat × Bool)} {t i E sz:Nat} {fz nl} {xs:List AV} (n:Nat) (k:OL C ops Q (⟨dst,.call ⟨c,args,at_⟩,T,pos,af,g⟩::rest) ((t,.sl sz none xs)::ρ) η2) (_ht:args.toList[n]?=some (.tmp t):=by with_unfolding_all exact rfl)
  (hx:lk ρ t=some (.hs i):=by with_unfolding_all exact rfl) (ho:η[i]?=some (.gs fz E sz nl xs):=by with_unfolding_all exact rfl) (hη:η.set i (.gs true E sz nl xs)=η2:=by (try dsimp only [List.set])<;>exact rfl) :
  OL C ops Q (⟨dst,.call ⟨c,args,at_⟩,T,pos,af,g⟩::rest) ρ η:=by
 subst hη;exact Za5 (ZbA hx ho) k
theorem ZbL {E E2 sz t:Nat} (k:OL C ops Q (⟨some d,.buildSlice X 1 #[(0,.tmp t)],T,pos,af,none⟩::rest) ((t,.sl sz none [])::ρ) η) (hx:lk ρ t=some (.raw (.slice none 0 0)):=by with_unfolding_all exact rfl) (_h1:(C.tab X).map (·.sh)=some (.slice E):=by with_unfolding_all exact rfl) (_h2:(C.tab E).map (·.sh)=some (.slice E2):=by with_unfolding_all exact rfl) (_h3:(C.tab E2).map (·.size)=some sz:=by with_unfolding_all exact rfl) :
  OL C ops Q (⟨some d,.buildSlice X 1 #[(0,.tmp t)],T,pos,af,none⟩::rest) ρ η:=fun a w hA=>k a w (hA.know hx fun m w γ v hr=>by rw [hr.raw_eq];exact .nil nofun)
theorem TC.frz {E sz:Nat} {fz nl} {xs:List AV} (i:Nat) (k:TC C Q A ρ η2) (ho:η[i]?=some (.gs fz E sz nl xs):=by with_unfolding_all exact rfl) (hη:η.set i (.gs true E sz nl xs)=η2:=by (try dsimp only [List.set])<;>exact rfl):TC C Q A ρ η:=by
 subst hη;exact Zbd (Wk.freeze ho) k
end
end Go.V
