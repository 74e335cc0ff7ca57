/- Lemmas for the claim; no conditions. -/
import Derived.Test.YtdjhogobbbnddaaGreatC13
import Derived.KernelRfl
namespace Go.V
open Go Go.W
def afind (k:Int):List (Int × AV)→Option AV
 | []=>none
 | p::r=>if k==p.1 then some p.2 else afind k r
theorem YcF (k:Int) {m w}:∀ (l:List (Int × Value)) (es:List (Int × AV)),l.map (·.1)=es.map (·.1)→(∀ (j:Nat) p q,l[j]?=some p→es[j]?=some q→Rep m w [] p.2 q.2∧okV p.2 q.2) →
  (mfind k l=none∧afind k es=none)∨∃ v u,mfind k l=some v∧afind k es=some u∧Rep m w [] v u∧okV v u
 | [],[],_,_=>.inl ⟨rfl,rfl⟩
 | [],_::_,h,_=>by simp at h
 | _::_,[],h,_=>by simp at h
 | p::l,q::es,h,hr=>by
   simp only [List.map_cons,List.cons.injEq] at h;simp only [mfind,afind,h.1]
   cases hb:k==q.1 with
   | true=>exact .inr ⟨p.2,q.2,by simp,by simp,hr 0 p q rfl rfl⟩
   | false=>simpa using YcF k l es h.2 (fun j a b h1 h2=>hr (j+1) a b (by simpa using h1) (by simpa using h2))
/-! ## Structs that are laid -/
def YeQ:List AV→Nat→List AV→List AV
 | c::cs,n+1,us=>c::YeQ cs n us
 | _::cs,0,u::us=>u::YeQ cs 0 us
 | cs,0,[]=>cs
 | [],_,_=>[]
theorem Ydh:∀ (cs:List AV) (n:Nat) (us:List AV),(YeQ cs n us).length=cs.length
 | _::cs,n+1,us=>by simp [YeQ,Ydh cs n us]
 | _::cs,0,u::us=>by simp [YeQ,Ydh cs 0 us]
 | _::_,0,[]=>by simp [YeQ]
 | [],0,[]=>by simp [YeQ]
 | [],0,_::_=>by simp [YeQ]
 | [],_+1,_=>by simp [YeQ]
theorem YeY:∀ (cs:List AV) (n:Nat) (us:List AV),n+us.length≤cs.length→∀ j:Nat,(YeQ cs n us)[j]?=if j < n then cs[j]? else if j < n+us.length then us[j-n]? else cs[j]?
 | c::cs,n+1,us,h,j=>by
   cases j with
   | zero=>simp [YeQ]
   | succ j =>
     simp only [YeQ,List.getElem?_cons_succ];rw [YeY cs n us (by simp at h;omega) j];simp only [Nat.add_lt_add_iff_right,show j+1 < n+1+us.length↔j < n+us.length by omega,show j+1-(n+1)=j-n by omega]
 | c::cs,0,u::us,h,j=>by
   cases j with
   | zero=>simp [YeQ]
   | succ j =>
     simp only [YeQ,List.getElem?_cons_succ];rw [YeY cs 0 us (by simp at h;omega) j];simp
 | _::_,0,[],_,j=>by simp [YeQ]
 | [],0,[],_,j=>by simp [YeQ]
 | [],0,_::_,h,j=>by simp at h
 | [],_+1,_,h,j=>by simp at h
def Ymp (places:Nat→Option (Nat × Nat)):List AV→List (Nat × AV)→Option (List AV)
 | cells,[]=>some cells
 | cells,(i,u)::rest=>match places i with
   | none=>none
   | some (off,size)=>bif okc u&&Nat.beq u.cells.length size&&Nat.ble (off+size) cells.length then Ymp places (YeQ cells off u.cells) rest else none
theorem Yfm {γ m w} {places:Nat→Option (Nat × Nat)}:∀ (parts:List (Nat × AV)) (vs:List Value) (cells out:List AV) (cs:List Value),CL γ m w cs cells→VL m w γ vs (parts.map (·.2))→Ymp places cells parts=some out →
  ∃ os,Instr.fill places cs.toArray ((parts.map (·.1)).zip vs)=some os∧CL γ m w os.toList out
 | [],[],cells,out,cs,hC,_,h=>by simp [Ymp] at h;subst h;exact ⟨cs.toArray,rfl,by simpa using hC⟩
 | [],_::_,_,_,_,_,h,_=>h.elim
 | _::_,[],_,_,_,_,h,_=>h.elim
 | (i,u)::rest,v::vs,cells,out,cs,hC,⟨h1,h2⟩,h=>by
   simp only [Ymp] at h
   cases hp:places i with
   | none=>rw [hp] at h;cases h
   | some p =>
     obtain ⟨off,size⟩:=p;rw [hp] at h;simp only at h
     cases hb:okc u&&Nat.beq u.cells.length size&&Nat.ble (off+size) cells.length with
     | false=>rw [hb] at h;cases h
     | true =>
       rw [hb] at h;simp only [Bool.and_eq_true,Nat.beq_eq,Nat.ble_eq] at hb;obtain ⟨⟨hb1,hb2⟩,hb3⟩:=hb;obtain ⟨ws,e,hW⟩:=h1.cellsOf (h1.one hb1);have hwl:ws.length=size:=by rw [hW.1,hb2]
       have hul:u.cells.length=size:=hb2;have hwu:ws.length=u.cells.length:=hW.1;obtain ⟨s1,s2,s3⟩:=Ymd off ws 0 cs.toArray (by simp [hC.1];omega);have hC':CL γ m w ((ws.zipIdx 0).foldl (fun (b:Array Value) (x:Value × Nat)=>b.setIfInBounds (off+x.2) x.1) cs.toArray).toList (YeQ cells off u.cells):=by
        refine ⟨by rw [Ydh,← hC.1];simpa using s1,fun c hc=>?_,fun j a b ha hb=>?_⟩
        ·obtain ⟨j,hj,rfl⟩:=List.mem_iff_getElem.1 hc;have hg:((ws.zipIdx 0).foldl (fun (b:Array Value) (x:Value × Nat)=>b.setIfInBounds (off+x.2) x.1) cs.toArray)[j]?=some (((ws.zipIdx 0).foldl (fun (b:Array Value) (x:Value × Nat)=>b.setIfInBounds (off+x.2) x.1) cs.toArray).toList[j]):=by
          rw [← Array.getElem?_toList,List.getElem?_eq_getElem hj]
         by_cases hin:off≤j∧j < off+ws.length
         ·have:=s3 (j-off) _ (List.getElem?_eq_getElem (by omega))
          rw [show off+0+(j-off)=j by omega,hg] at this;rw [Option.some.inj this];exact hW.2.1 _ (List.getElem_mem _)
         ·have:=s2 j (by omega)
          rw [hg] at this;exact hC.2.1 _ (List.mem_of_getElem? (by simpa using this.symm))
        ·rw [YeY _ _ _ (by rw [hb2];exact hb3)] at hb;rw [Array.getElem?_toList] at ha;split at hb
         ·rw [s2 j (by omega)] at ha;exact hC.2.2 j a b (by simpa using ha) hb
         ·split at hb
          ·have hj:j-off < ws.length:=by omega
           have:=s3 (j-off) _ (List.getElem?_eq_getElem hj)
           rw [show off+0+(j-off)=j by omega,ha] at this;rw [Option.some.inj this];exact hW.2.2 (j-off) _ b (List.getElem?_eq_getElem hj) hb
          ·rw [s2 j (by omega)] at ha;exact hC.2.2 j a b (by simpa using ha) hb
       obtain ⟨os,o1,o2⟩:=Yfm rest vs (YeQ cells off u.cells) out _ hC' h2 h;refine ⟨os,?_,o2⟩;simp only [List.map_cons,List.zip_cons_cons,Instr.fill,hp,e];rw [if_neg (by simp [hwl,hC.1];omega)];rw [← o1];congr 1;rw [show ws.toArray.zipIdx=(ws.zipIdx 0).toArray from by apply Array.ext';simp];simp
def YfW (tab:Tab):List (Nat × Nat)→Option (List (Nat × Nat))
 | []=>some []
 | (off,F)::r=>match tab F,YfW tab r with
   | some e,some l=>some ((off,e.size)::l)
   | _,_=>none
theorem YeE {P:Program} {tab:Tab} (hT:YaX P tab):∀ (fields:List Field) (pls:List (Nat × Nat)),YfW tab (fields.map fun f=>(f.offset,f.type))=some pls→fields.mapM (fun f=>(P.info? f.type).map fun i=>(f.offset,i.size))=some pls
 | [],pls,h=>by simp [YfW] at h;subst h;rfl
 | f::r,pls,h=>by
   simp only [List.map_cons,YfW] at h;split at h
   ·rename_i e l h1 h2
    cases h
    obtain ⟨i,i1,i2,_⟩:=(hT _ _ h1).info;have:=YeE hT r l h2
    simp only [List.mapM_cons,i1,this,Option.map_some];simp [i2]
   ·cases h
section
variable {C:Cx} {ops:Array Oper} {Q:Qt} {ρ ρ':Ro} {η η' η2:Eta} {rest:List Oper} {T d X Y E:Nat} {pos:String} {af:Array Edge} {op:Op} {x y z:Operand} {A K:Code} {e:Exit}
theorem Ypj {X:Nat} {K E:Nat} (hs:(C.tab X).map (·.sh)=some (.map K E)) (hk:(C.tab K).map (·.sh)=some (.int .i64)):C.P.underlying X=some (.map K E)∧C.P.underlying K=some (.int .i64):=by
 obtain ⟨d,h1,h2⟩:=YcO C.hT hs;obtain ⟨d',h1',h2'⟩:=YcO C.hT hk;obtain rfl:d=_:=h2;obtain rfl:d'=_:=h2';exact ⟨h1,h1'⟩
theorem OL.lookup {i:Nat} {es:List (Int × AV)} {k:Int} {K:Nat} {te:TyE} {v:AV} (kk:OL C ops Q rest ((d,v)::ρ) η) (hv:afind k es=some v∨(afind k es=none∧∀ m w γ,Rep m w γ te.zero v)) (hs:(C.tab X).map (·.sh)=some (.map K E):=by with_unfolding_all exact rfl) (hkt:(C.tab K).map (·.sh)=some (.int .i64):=by with_unfolding_all exact rfl) (hE:C.tab E=some te:=by with_unfolding_all exact rfl)
  (hx:ev2 ρ x=some (.mp i):=by with_unfolding_all exact rfl) (ho:η[i]?=some (.mo es):=by with_unfolding_all exact rfl) (hy:ev2 ρ y=some (.raw (.int .i64 k)):=by with_unfolding_all exact rfl) (hd:Nat.blt d C.N=true:=by with_unfolding_all exact rfl) :
  OL C ops Q (⟨some d,.lookup X x y false,T,pos,af,none⟩::rest) ρ η:=by
 rintro a w ⟨m,γ,ρc,hE',hR,hI⟩;obtain ⟨u,g1,g2⟩:=hR.ev hx
 cases g2 with
 | @mp _ _ b hb =>
 obtain ⟨b',l,e,h0,hM,hkeys,hrep⟩:=hI.heap.ok i _ _ hb ho
 cases e
 obtain ⟨ut,uk⟩:=Ypj hs hkt;obtain ⟨inf,i1,i2,i3,i4,i5⟩:=(C.hT E te hE).info;haveI:IntTy C.P K .i64:=⟨uk⟩
 obtain ⟨es',clock,hb',hl⟩:=id hM;have hck:=YaR (P:=C.P) (Y:=K) (w:=w);rcases Ycg k es'.toList l 0 hl with ⟨e1,e2⟩|⟨v',j,e1,e2⟩
 ·rcases YcF k l es hkeys hrep with ⟨_,a2⟩|⟨_,_,a1,_⟩
  ·have hz:∀ m w γ,Rep m w γ te.zero v:=by
    rcases hv with h|h
    ·rw [a2] at h;cases h
    ·exact h.2
   refine Cx.lcons (wl_value (v:=te.zero) rfl ?_ (kk _ _ ⟨m,γ,_,hE'.put _ (by simpa using hd),⟨rfl,hz _ _ _,hR⟩,hI⟩));simp [execOp,hE'.ev g1,hE'.ev (hR.raw hy),Instr.lookup,run_underlying ut,MapKept.run_getObj_map hb',hck,Instr.findKey,run_underlying uk,e2,zeroValue,typeInfo,i1,i4]
  ·rw [e1] at a1;cases a1
 ·rcases YcF k l es hkeys hrep with ⟨a1,_⟩|⟨v2,u2,a1,a2,a3,_⟩
  ·rw [e1] at a1;cases a1
  ·rw [e1] at a1;cases a1;have hu:u2=v:=by
    rcases hv with h|h
    ·rw [a2] at h;cases h;rfl
    ·rw [a2] at h;cases h.1
   subst hu;refine Cx.lcons (wl_value (v:=v') rfl ?_ (kk _ _ ⟨m,γ,_,hE'.put _ (by simpa using hd),⟨rfl,a3.mono (.refl _ _) (fun _ _ h=>by simp at h),hR⟩,hI⟩));simp [execOp,hE'.ev g1,hE'.ev (hR.raw hy),Instr.lookup,run_underlying ut,MapKept.run_getObj_map hb',hck,Instr.findKey,run_underlying uk,e2]
theorem Yk3 {P:Program} {tab:Tab} {N:Nat} {D:List Deferred} {i:Nat} {es:List (Int × AV)} {k:Int} {K:Nat} {te:TyE} {v:AV} {found:Bool} (hT:YaX P tab) (hv:(found=true∧afind k es=some v)∨(found=false∧afind k es=none∧∀ m w γ,Rep m w γ te.zero v)) (hs:(tab X).map (·.sh)=some (.map K E)) (hkt:(tab K).map (·.sh)=some (.int .i64)) (hE:tab E=some te)
  (hx:ev2 ρ x=some (.mp i)) (ho:η[i]?=some (.mo es)) (hy:ev2 ρ y=some (.raw (.int .i64 k))):Yaj P N D (.lookup X x y true) ρ η (.tp [v,.raw (.bool found)]):=by
 intro m w γ ρc a hE' hR hH;obtain ⟨u,g1,g2⟩:=hR.ev hx
 cases g2 with
 | @mp _ _ b hb =>
 obtain ⟨b',l,e,h0,hM,hkeys,hrep⟩:=hH.ok i _ _ hb ho
 cases e
 obtain ⟨d,ut,h2⟩:=YcO hT hs;obtain ⟨d',uk,h2'⟩:=YcO hT hkt;obtain rfl:d=_:=h2;obtain rfl:d'=_:=h2';obtain ⟨inf,i1,i2,i3,i4,i5⟩:=(hT E te hE).info;haveI:IntTy P K .i64:=⟨uk⟩
 obtain ⟨es',clock,hb',hl⟩:=id hM;have hlt:b < w.heap.size:=(Array.getElem?_eq_some_iff.1 hb').1;rcases Ycg k es'.toList l 0 hl with ⟨e1,e2⟩|⟨v',j,e1,e2⟩
 ·rcases YcF k l es hkeys hrep with ⟨_,a2⟩|⟨_,_,a1,_⟩
  ·have hz:found=false∧∀ m w γ,Rep m w γ te.zero v:=by
    rcases hv with h|h
    ·rw [a2] at h;cases h.2
    ·exact ⟨h.1,h.2.2⟩
   obtain ⟨rfl,hz⟩:=hz;refine ⟨.tuple #[te.zero,.bool false],.tp (vs:=[te.zero,.bool false]) rfl (fun j p c hp hc=>?_),fun {m' w'} hk _ _ _ _ _=>?_⟩
   ·match j with
    | 0=>simp at hp hc;subst hp hc;exact hz _ _ _
    | 1=>simp at hp hc;subst hp hc;exact .raw rfl
    | j+2=>simp at hp
   ·have hb2:w'.heap[b]?=some (.map es' clock):=(hk rfl).heap hb';have hck:=YaR (P:=P) (Y:=K) (w:=w');simp [execOp,hE'.ev g1,hE'.ev (hR.raw hy),Instr.lookup,run_underlying ut,MapKept.run_getObj_map hb2,hck,Instr.findKey,run_underlying uk,e2,zeroValue,typeInfo,i1,i4]
  ·rw [e1] at a1;cases a1
 ·rcases YcF k l es hkeys hrep with ⟨a1,_⟩|⟨v2,u2,a1,a2,a3,_⟩
  ·rw [e1] at a1;cases a1
  ·rw [e1] at a1;cases a1;have hu:found=true∧u2=v:=by
    rcases hv with h|h
    ·rw [a2] at h;obtain ⟨h,q⟩:=h;cases q;exact ⟨h,rfl⟩
    ·rw [a2] at h;cases h.2.1
   obtain ⟨rfl,rfl⟩:=hu;refine ⟨.tuple #[v',.bool true],.tp (vs:=[v',.bool true]) rfl (fun j p c hp hc=>?_),fun {m' w'} hk _ _ _ _ _=>?_⟩
   ·match j with
    | 0=>simp at hp hc;subst hp hc;exact a3.mono (.refl _ _) (fun _ _ h=>by simp at h)
    | 1=>simp at hp hc;subst hp hc;exact .raw rfl
    | j+2=>simp at hp
   ·have hb2:w'.heap[b]?=some (.map es' clock):=(hk rfl).heap hb';have hck:=YaR (P:=P) (Y:=K) (w:=w');simp [execOp,hE'.ev g1,hE'.ev (hR.raw hy),Instr.lookup,run_underlying ut,MapKept.run_getObj_map hb2,hck,Instr.findKey,run_underlying uk,e2]
theorem OL.makeMap {k:Nat} (kk:OL C ops Q rest ((d,.mp k)::ρ) η2) (hk:η.length=k:=by (try dsimp only [List.length])<;>exact rfl) (hη:η++[.mo []]=η2:=by (try dsimp only [List.cons_append,List.nil_append,List.append_eq])<;>exact rfl) (hd:Nat.blt d C.N=true:=by with_unfolding_all exact rfl) :
  OL C ops Q (⟨some d,.makeMap X none,T,pos,af,none⟩::rest) ρ η:=by
 rintro a w ⟨m,γ,ρc,hE,hR,hI⟩;have hK:=Keep.alloc m w (.map #[] 0) 0;have hl:=hI.heap.len;subst hη;refine Cx.lcons (wl_value (v:=.map (some w.heap.size)) (w':=w.alloc (.map #[] 0)) rfl ?_ (kk _ _ ⟨_,_,_,hE.put _ (by simpa using hd),⟨rfl,.mp (by rw [← hk,← hl];exact YaD),hR.mono hK.ext (.app _ _)⟩,
  hI.new hK ⟨w.heap.size,[],rfl,by simp,⟨#[],0,heap_alloc_new w _,rfl⟩,rfl,by simp⟩ (fun b hb=>by simp [blk] at hb;omega)⟩))
 simp [execOp,RowKit.run_makeMap]
theorem ZbM {i K:Nat} {es:List (Int × AV)} {k:Int} {u:AV} (kk:OL C ops Q rest ρ η2) (hop:op=.mapUpdate X x y z∨op=.insert X x y z) (hn:afind k es=none) (hs:(C.tab X).map (·.sh)=some (.map K E):=by with_unfolding_all exact rfl) (hkt:(C.tab K).map (·.sh)=some (.int .i64):=by with_unfolding_all exact rfl)
  (hx:ev2 ρ x=some (.mp i):=by with_unfolding_all exact rfl) (ho:η[i]?=some (.mo es):=by with_unfolding_all exact rfl) (hy:ev2 ρ y=some (.raw (.int .i64 k)):=by with_unfolding_all exact rfl) (hz:ev2 ρ z=some u:=by with_unfolding_all exact rfl) (hu:(okc u&&pureA u)=true:=by with_unfolding_all exact rfl)
  (hη:η.set i (.mo (es++[(k,u)]))=η2:=by (try dsimp only [List.set])<;>exact rfl) :
  OL C ops Q (⟨none,op,T,pos,af,none⟩::rest) ρ η:=by
 rintro a w ⟨m,γ,ρc,hE',hR,hI⟩;obtain ⟨u1,g1,g2⟩:=hR.ev hx;obtain ⟨v,g3,g4⟩:=hR.ev hz;simp only [Bool.and_eq_true] at hu;have hone:okV v u:=g4.one hu.1;have hpure:=YaV g4 hu.2
 cases g2 with
 | @mp _ _ b hb =>
 obtain ⟨b',l,e,h0,hM,hkeys,hrep⟩:=hI.heap.ok i _ _ hb ho
 cases e
 obtain ⟨ut,uk⟩:=Ypj hs hkt;haveI:IntTy C.P K .i64:=⟨uk⟩
 obtain ⟨es',clock,hb',hl⟩:=id hM;have hck:=YaR (P:=C.P) (Y:=K) (w:=w);have hlt:b < w.heap.size:=(Array.getElem?_eq_some_iff.1 hb').1;have hmn:mfind k l=none:=by
  rcases YcF k l es hkeys hrep with ⟨a1,_⟩|⟨_,_,_,a2,_⟩
  ·exact a1
  ·rw [hn] at a2;cases a2
 have hother:∀ (o:Obj) (j:Nat),j≠b→(w.heap.setIfInBounds b o)[j]?=w.heap[j]?:=fun o j hj=>by rw [Array.getElem?_setIfInBounds_ne (by omega)]
 subst hη;rcases Ycg k es'.toList l 0 hl with ⟨e1,e2⟩|⟨v',j,e1,e2⟩
 ·have hT:W.Touch (some b) m w m { w with heap:=w.heap.setIfInBounds b (.map (es'.push ⟨.int .i64 k,v,clock⟩) (clock+1)) }:=
   ⟨⟨rfl,rfl,rfl,by simp,fun i _ hi=>hother _ i (by simpa using hi)⟩,fun _ _ _=>rfl,⟨by simp,fun _ _=>Nat.le_refl _,fun i j c hj hc=>by
    have hne:i≠b:=fun e=>by subst e;omega
    rw [World.cell?_of_block (w:=w) (hother _ i hne)];exact hc⟩⟩
  refine Cx.lcons (Yce (w':={ w with heap:=w.heap.setIfInBounds b (.map (es'.push ⟨.int .i64 k,v,clock⟩) (clock+1)) }) rfl ?_ (kk _ _ ⟨m,γ,ρc,by simpa [Act.put] using hE',hR.mono hT.ext (.refl _),hI.put (o':=.mo (es++[(k,u)])) hb ho hT ⟨b,l++[(k,v)],rfl,h0,⟨es'.push ⟨.int .i64 k,v,clock⟩,clock+1,by simp [hlt],by simp [hl]⟩,by simp [hkeys],fun j p q hp hq=>?_⟩ (.inl rfl)⟩))
  ·rcases hop with rfl|rfl<;>simp [execOp,hE'.ev g1,hE'.ev (hR.raw hy),hE'.ev g3,Instr.mapUpdate,run_underlying ut,MapKept.run_getObj_map hb',hck,Instr.findKey,run_underlying uk,e2,MapKept.run_setObj_map _ hb']
  ·have hll:l.length=es.length:=by simpa using congrArg List.length hkeys
   rcases Yal hp with hp|⟨e1,rfl⟩
   ·rcases Yal hq with hq|⟨e2,rfl⟩
    ·exact ⟨(hrep j p q hp hq).1.mono hT.ext (.refl _),(hrep j p q hp hq).2⟩
    ·have:=(List.getElem?_eq_some_iff.1 hp).1;omega
   ·rcases Yal hq with hq|⟨_,rfl⟩
    ·have:=(List.getElem?_eq_some_iff.1 hq).1;omega
    ·exact ⟨hpure.mono hT.ext (.refl _),hone⟩
 ·rw [hmn] at e1;cases e1
theorem Za8 {i K:Nat} {es:List (Int × AV)} {k:Int} {u:AV} (kk:OL C ops Q rest ρ η2) (hn:afind k es=none) (hs:(C.tab X).map (·.sh)=some (.map K E):=by with_unfolding_all exact rfl) (hkt:(C.tab K).map (·.sh)=some (.int .i64):=by with_unfolding_all exact rfl)
  (hx:ev2 ρ x=some (.mp i):=by with_unfolding_all exact rfl) (ho:η[i]?=some (.mo es):=by with_unfolding_all exact rfl) (hy:ev2 ρ y=some (.raw (.int .i64 k)):=by with_unfolding_all exact rfl) (hz:ev2 ρ z=some u:=by with_unfolding_all exact rfl) (hu:(okc u&&pureA u)=true:=by with_unfolding_all exact rfl)
  (hη:η.set i (.mo (es++[(k,u)]))=η2:=by (try dsimp only [List.set])<;>exact rfl) :
  OL C ops Q (⟨none,.mapUpdate X x y z,T,pos,af,none⟩::rest) ρ η:=ZbM kk (.inl rfl) hn hs hkt hx ho hy hz hu hη
theorem ZdQ {i K:Nat} {es:List (Int × AV)} {k:Int} {u:AV} (kk:OL C ops Q rest ρ η2) (hn:afind k es=none) (hs:(C.tab X).map (·.sh)=some (.map K E):=by with_unfolding_all exact rfl) (hkt:(C.tab K).map (·.sh)=some (.int .i64):=by with_unfolding_all exact rfl)
  (hx:ev2 ρ x=some (.mp i):=by with_unfolding_all exact rfl) (ho:η[i]?=some (.mo es):=by with_unfolding_all exact rfl) (hy:ev2 ρ y=some (.raw (.int .i64 k)):=by with_unfolding_all exact rfl) (hz:ev2 ρ z=some u:=by with_unfolding_all exact rfl) (hu:(okc u&&pureA u)=true:=by with_unfolding_all exact rfl)
  (hη:η.set i (.mo (es++[(k,u)]))=η2:=by (try dsimp only [List.set])<;>exact rfl) :
  OL C ops Q (⟨none,.insert X x y z,T,pos,af,none⟩::rest) ρ η:=ZbM kk (.inr rfl) hn hs hkt hx ho hy hz hu hη
theorem OL.build {fs pls:List (Nat × Nat)} {te:TyE} {parts:List (Nat × Operand)} {us zs cs0 cs:List AV} (kk:OL C ops Q rest ((d,.st cs)::ρ) η) (ht:C.tab X=some te:=by with_unfolding_all exact rfl) (hsh:te.sh=.strct fs:=by with_unfolding_all exact rfl)
  (hl:Yc6 ρ (parts.map (·.2))=some us:=by with_unfolding_all exact rfl) (hz:YpK te.zero.cells.toList=some zs:=by with_unfolding_all exact rfl) (hp:YfW C.tab fs=some pls:=by with_unfolding_all exact rfl) (hf:Ymp (fun i=>pls[i]?) zs ((parts.map (·.1)).zip us)=some cs0:=by with_unfolding_all exact rfl) (hc:cs0=cs:=by (try dsimp only [YeQ,AV.cells])<;>exact rfl) (hd:Nat.blt d C.N=true:=by with_unfolding_all exact rfl) :
  OL C ops Q (⟨some d,.build X parts.toArray,T,pos,af,none⟩::rest) ρ η:=by
 subst hc;refine ZaG (fun m w γ ρc a hE hR hH=>?_) hd kk;obtain ⟨vs,g1,g2⟩:=hR.evs hl;obtain ⟨dd,hu,hd'⟩:=(C.hT X te ht).sh;rw [hsh] at hd';obtain ⟨fields,rfl,hfs⟩:=hd';obtain ⟨inf,i1,i2,i3,i4,i5⟩:=(C.hT X te ht).info;have hul:us.length=parts.length:=by
  have:=g2.len
  have e2:=congrArg List.length (hE.evs g1);simp at e2;omega
 have hp2:((parts.map (·.1)).zip us).map (·.2)=us:=by rw [List.map_snd_zip];simp;omega
 have hp1:((parts.map (·.1)).zip us).map (·.1)=parts.map (·.1):=by rw [List.map_fst_zip];simp;omega
 subst hfs;have hpl:=YeE C.hT _ _ hp;obtain ⟨os,o1,o2⟩:=Yfm (γ:=γ) (m:=m) (w:=w) _ vs zs cs0 te.zero.cells.toList (YeZ hz) (by rw [hp2];exact g2) hf;rw [hp1] at o1;have hb:C.P.built X ((parts.map (·.1)).zip vs)=some os:=by
  unfold Program.built;simp only [i1,hu,i4,hpl];simpa using o1
 refine ⟨.agg os,?_,fun {m' w'} _ _ _ _ _ _=>?_⟩
 ·have:Rep m w γ (.agg os.toList.toArray) (.st cs0):=.st o2.1 o2.2.1 o2.2.2
  simpa using this
 ·have he:((parts.map fun p=>(p.1,a.eval p.2)))=(parts.map (·.1)).zip vs:=by
   rw [← hE.evs g1];clear hp2 hp1 hf g1 g2 o1 hb hl hul;induction parts with
   | nil=>rfl
   | cons p r ih=>simp [ih]
  rw [← he] at hb;have hr:=run_build (P:=C.P) w' X (parts.map fun p=>(p.1,a.eval p.2)).toArray os hb;simp only [execOp];have e2:(parts.toArray.map fun (x:Nat × Operand)=>(x.1,a.eval x.2))=(parts.map fun p=>(p.1,a.eval p.2)).toArray:=by simp
  rw [e2];simp [hr]
/-! ## Variables that are read for good from now on -/
theorem ZcX {t i E:Nat} {cs:List AV} (hx:lk ρ t=some (.bp i 0)) (ho:η[i]?=some (.cb E cs)) (hp:cs.all pureA=true):Wk C ρ η ((t,.ep cs 0)::ρ) (η.set i .dead):=by
 rintro a w ⟨m,γ,ρc,hE,hR,hI⟩;obtain ⟨u,g1,g2⟩:=hR.look hx
 cases g2 with
 | @bp _ _ _ b hb =>
 obtain ⟨b',vs,e,hB,hC⟩:=hI.heap.ok i _ _ hb ho
 cases e
 obtain ⟨hx1,hcell⟩:=hB.freeze;have hT:=hB.frz;refine ⟨_,γ,(t,.pointer (some ⟨b,0,none⟩))::ρc,⟨hE.size,hE.defers,fun s q hs=>?_⟩,⟨rfl,?_,hR.mono hx1 (.refl _)⟩,hI.put (o':=.dead) hb ho hT trivial (.inr rfl)⟩
 ·simp only [W.look] at hs
  cases hb':Nat.beq t s with
  | true =>
    rw [hb'] at hs;simp at hs;subst hs;rw [← Nat.eq_of_beq_eq_true hb'];exact hE.look _ _ g1
  | false=>rw [hb'] at hs;exact hE.look _ _ (by simpa using hs)
 ·have:=Rep.ep (γ:=γ) (o:=0) hcell hC.1 hC.2.1 (fun j v c h1 h2=>(YaV (hC.2.2 j v c h1 h2) (List.all_eq_true.1 hp c (List.mem_of_getElem? h2))).mono hx1 (.refl _))
  simpa using this
theorem Za6 {i E:Nat} {cs:List AV} (t:Nat) (k:TC C Q A ((t,.ep cs 0)::ρ) η2) (hx:lk ρ t=some (.bp i 0):=by with_unfolding_all exact rfl) (ho:η[i]?=some (.cb E cs):=by with_unfolding_all exact rfl) (hp:cs.all pureA=true:=by with_unfolding_all exact rfl) (hη:η.set i .dead=η2:=by (try dsimp only [List.set])<;>exact rfl):TC C Q A ρ η:=by
 subst hη;exact Zbd (ZcX hx ho hp) k
theorem Zag {i E:Nat} {cs:List AV} (t:Nat) (k:OL C ops Q rest ((t,.ep cs 0)::ρ) η2) (hx:lk ρ t=some (.bp i 0):=by with_unfolding_all exact rfl) (ho:η[i]?=some (.cb E cs):=by with_unfolding_all exact rfl) (hp:cs.all pureA=true:=by with_unfolding_all exact rfl) (hη:η.set i .dead=η2:=by (try dsimp only [List.set])<;>exact rfl):OL C ops Q rest ρ η:=by
 subst hη;exact Za5 (ZcX hx ho hp) k
theorem Zb9 {i o k E E2 sz:Nat} {cs:List AV} {fz nl} {xs:List AV} (ho:η[i]?=some (.cb E cs)) (hc:cs[o]?=some (.hs k)) (hk:η[k]?=some (.gs fz E2 sz nl xs)):Wk C ρ η ρ ((η.set k (.gs true E2 sz nl xs)).set i (.cb E (cs.set o (.sl sz none xs)))):=by
 rintro a w ⟨m,γ,ρc,hE,hR,hI⟩;obtain ⟨v,hv,_⟩:=hI.heap.get hk;obtain ⟨m',h1,h2,h3⟩:=hI.freeze hv hk;have hne:k≠i:=by intro e;subst e;rw [ho] at hk;cases hk
 have ho':(η.set k (.gs true E2 sz nl xs))[i]?=some (.cb E cs):=by rw [List.getElem?_set_ne hne];exact ho
 obtain ⟨u,hu,hok⟩:=h3.heap.get ho';obtain ⟨b,vs,rfl,hB,hC⟩:=hok;refine ⟨m',γ,ρc,hE,hR.mono h1 (.refl _),h3.put (o':=.cb E (cs.set o (.sl sz none xs))) hu ho' ((Keep.refl m' w).touch _) ?_ (.inl rfl)⟩;have hlt:o < vs.length:=by rw [hC.1];exact (List.getElem?_eq_some_iff.1 hc).1
 have hrep:=hC.2.2 o _ _ (List.getElem?_eq_getElem hlt) hc;have hvo:γ[k]?=some vs[o]:=hrep.hs_get.1;rw [hv] at hvo
 cases hvo
 refine ⟨b,vs,rfl,hB,by simpa using hC.1,hC.2.1,fun j v c hj hcj=>?_⟩;rw [List.getElem?_set] at hcj;split at hcj
 ·rename_i e
  subst e;split at hcj
  ·cases hcj
   rw [List.getElem?_eq_getElem hlt] at hj
   cases hj
   exact Rep.of_rs h2.rs (NL.none _)
  ·cases hcj
 ·exact hC.2.2 j v c hj hcj
theorem Zbp {k E E2 sz:Nat} {cs:List AV} {fz nl} {xs:List AV} (i o:Nat) (kk:TC C Q A ρ η2) (ho:η[i]?=some (.cb E cs):=by with_unfolding_all exact rfl) (hc:cs[o]?=some (.hs k):=by with_unfolding_all exact rfl) (hk:η[k]?=some (.gs fz E2 sz nl xs):=by with_unfolding_all exact rfl) (hη:(η.set k (.gs true E2 sz nl xs)).set i (.cb E (cs.set o (.sl sz none xs)))=η2:=by (try dsimp only [List.set])<;>exact rfl):TC C Q A ρ η:=by
 subst hη;exact Zbd (Zb9 ho hc hk) kk
end
section
variable {C:Cx} {ops:Array Oper} {Q:Qt} {ρ:Ro} {η:Eta} {rest:List Oper} {T d:Nat} {pos:String} {af:Array Edge} {x:Operand} {M:Bool} {fi fuel:Nat} {l:List Oper} {listed:Array Bool} {g:Option (Nat × Bool)}
theorem Yaa.at (i:Nat) (h:Yaa C M fi l Q fuel listed ρ η i):Yaa C M fi l Q fuel listed ρ η i:=h
theorem Zai {op:Op} {u:AV} (i:Nat) (k:OD C M fi l.toArray Q fuel (listed.setIfInBounds i true) ((d,u)::ρ) η) (hi:l[i]?=some ⟨some d,op,T,pos,af,g⟩:=by with_unfolding_all exact rfl) (hg:GB l.toArray ρ g true:=by first|with_unfolding_all exact rfl|with_unfolding_all exact ⟨_,_,rfl,rfl,rfl⟩) (h:Yaj C.P C.N C.D op ρ η u:=by exact gv) (hd:Nat.blt d C.N=true:=by with_unfolding_all exact rfl) (hrd:Region.ready .any l.toArray listed=[i]:=by kernel_rfl):OD C M fi l.toArray Q (fuel+1) listed ρ η:=OD.n1 i (One.st h hd) k hi hg hrd
theorem Zaj {P:Program} {f:Nat} {fn:Func} {us as:List AV} {r r2} {η1 η1' η2:Eta} {args:List Operand} {at_:Array TypeId} (is:List Nat) (hs:Spec P f as η1 r η1') (hf:P.funcs[f]?=some fn) (k:OL C ops Q rest ((d,r2)::ρ) η2)
  (hP : C.P = P := by with_unfolding_all exact rfl) (hb : (fn.body.isNone || fn.name == "runtime.NumGoroutine") = false := by with_unfolding_all exact rfl) (hl : Yc6 ρ args = some us := by with_unfolding_all exact rfl)
  (hn:YbG is=true:=by with_unfolding_all exact rfl)
  (ho:Ybw (ts is) η is η1:=by repeat' (first|with_unfolding_all exact trivial|exact OE.ren (by with_unfolding_all exact rfl)|with_unfolding_all exact OE.gs|with_unfolding_all refine And.intro ⟨_,by with_unfolding_all exact rfl,?_⟩ ?_))
  (hle:LEs (ts is) us as:=by repeat' (first|with_unfolding_all exact trivial|exact LE.ren (by with_unfolding_all exact rfl)|with_unfolding_all exact LE.sl|with_unfolding_all exact LE.nil (by decide)|with_unfolding_all refine And.intro ?_ ?_)) (hd:Nat.blt d C.N=true:=by with_unfolding_all exact rfl)
  (hr:ren (back is η.length) r=r2:=by (try simp only [ren,ren0,ren1,ren2,back,Nat.blt,Nat.ble,cond_true,cond_false,List.map,List.length,List.getElem?_cons_succ,List.getElem?_cons_zero,List.getElem?_nil,Nat.add_zero,Nat.zero_add,Nat.reduceAdd,Nat.reduceSub])<;>exact rfl)
  (hη:upd is (η1'.map (renO (back is η.length))) η++(η1'.drop is.length).map (renO (back is η.length))=η2:=by (try simp only [upd,renO,ren,ren0,ren1,ren2,back,Nat.blt,Nat.ble,cond_true,cond_false,List.set,List.drop,List.map,List.length,List.cons_append,List.nil_append,List.append_nil,List.getElem?_cons_succ,List.getElem?_cons_zero,List.getElem?_nil,Nat.add_zero,Nat.zero_add,Nat.reduceAdd,Nat.reduceSub])<;>exact rfl) :
  OL C ops Q (⟨some d,.call ⟨.value (.func f),args.toArray,at_⟩,T,pos,af,none⟩::rest) ρ η:=by
 subst hP;exact OL.call is hs hf hb hl hn ho hle hd hr hη k
end
section
variable {C:Cx} {ops:Array Oper} {Q:Qt} {ρ ρ':Ro} {η η' η2:Eta} {rest:List Oper} {T d X Y:Nat} {pos:String} {af:Array Edge} {op:Op} {x y z:Operand} {A K:Code} {e:Exit}
theorem ZcY {E k l c:Nat} {i j:Int} {te:TyE} {zc:Value} {u u0:AV} (hu:∀ m w γ,Rep m w γ zc u0) (hs:(C.tab X).map (·.sh)=some (.slice E)) (hE:C.tab E=some te) (hz:te.size=1) (hzc:te.zero.cells=#[zc]) (hone:zc.oneCell'=true) (hul:u.cells=[u0])
  (hx:ev2 ρ x=some (.raw (.int .i64 i))) (hy:ev2 ρ y=some (.raw (.int .i64 j))) (hk:η.length=k) (hi:i=(l:Int)) (hj:j=(c:Int)) (hη:η++[.gs false E 1 (some false) (List.replicate l u)]=η2) (hd:Nat.blt d C.N=true) (hlc:l≤c) (h0:0 < c) (hc:c≤16777216) (hbt:te.bytes*c≤16777216) :
  Yli C ops Q ⟨some d,.makeSlice X x y,T,pos,af,none⟩ ρ η ((d,.hs k)::ρ) η2:=by
 rintro a w K ⟨m,γ,ρc,hE',hR,hI⟩ kk;obtain ⟨inf,i1,i2,i3,i4,i5⟩:=(C.hT E te hE).info;obtain ⟨dd,hu',hd'⟩:=YcO C.hT hs;obtain rfl:dd=_:=hd';haveI:SliceTy C.P X E:=⟨hu'⟩
 haveI:ElemTy C.P E 1 te.bytes te.zero:=⟨inf,i1,i2.trans hz,i3,i4,i5.trans hz,Nat.one_pos⟩
 subst hi hj hη;have hK:=Keep.alloc m w (.cells (List.replicate c zc).toArray E) 0;have hKm:Ext m w (Yb8 (Yb8 m w.heap.size 0) w.heap.size l) (w.alloc (.cells (List.replicate c zc).toArray E)):=by
  have:=Keep.alloc m w (.cells (List.replicate c zc).toArray E) l
  have e:Yb8 (Yb8 m w.heap.size 0) w.heap.size l=Yb8 m w.heap.size l:=by funext b;simp only [Yb8];split<;>rfl
  rw [e];exact this.ext
 have hl0:=hI.heap.len;have hob:Yay (.slice (some ⟨w.heap.size,0,none⟩) l c)=some w.heap.size:=by
  obtain ⟨c',rfl⟩:∃ c',c=c'+1:=⟨c-1,by omega⟩;simp [Yay]
 have hown:W.Own E 1 (CK (Yb8 m w.heap.size 0) (w.alloc (.cells (List.replicate c zc).toArray E))) (Yb8 (Yb8 m w.heap.size 0) w.heap.size l) (w.alloc (.cells (List.replicate c zc).toArray E)) (.slice (some ⟨w.heap.size,0,none⟩) l c) (List.replicate l u):=by
  refine .inr (.inr ⟨w.heap.size,c,_,by simp,h0,heap_alloc_new w _,by simpa using hlc,by have:maxLen=9223372036854775807:=rfl;omega,by simp,by simp,fun i x hx=>?_⟩);have hi:i < l:=by
   have:=(List.getElem?_eq_some_iff.1 hx).1
   simpa using this
  have:x=u:=by
   rw [List.getElem?_replicate,if_pos hi] at hx
   cases hx;rfl
  subst this;refine ⟨[zc],rfl,fun j v hj=>?_,by rw [hul];rfl,by simpa using hone,fun j v c' h1 h2=>?_⟩
  ·cases j with
   | zero =>
     simp at hj;subst hj;have hic:i < c:=by omega
     simp [hic]
   | succ j=>simp at hj
  ·rw [hul] at h2
   cases j with
   | zero=>simp at h1 h2;subst h1 h2;exact hu _ _ _
   | succ j=>simp at h1
 refine wl_value (v:=.slice (some ⟨w.heap.size,0,none⟩) l c) (w':=w.alloc (.cells (List.replicate c zc).toArray E)) rfl ?_ (kk _ _ (World.grownBy_alloc w _ none) ⟨_,_,_,hE'.put _ (by simpa using hd),⟨rfl,.hs (by rw [← hk,← hl0];exact YaD),hR.mono hK.ext (.app _ _)⟩,
  hI.new hK ⟨⟨_,hown,fun b hb=>Ycj (fun e=>hb (by rw [e,hob])),fun b hb=>by rw [hob] at hb;cases hb;simp⟩,⟨nofun,fun _=>by simp⟩,fun x hx=>by rw [List.eq_of_mem_replicate hx,hul];rfl⟩ (fun b hb=>by simp only [blk] at hb;rw [hob] at hb;cases hb;exact Nat.le_refl _)⟩)
 exact Yfc hE' (hR.raw hx) (hR.raw hy) hlc hzc hbt hc
theorem Zb1 {E k l c:Nat} {i j:Int} {te:TyE} {zc:Value} {u u0:AV} (kk:OL C ops Q rest ((d,.hs k)::ρ) η2) (hu:∀ m w γ,Rep m w γ zc u0)
  (hs:(C.tab X).map (·.sh)=some (.slice E):=by with_unfolding_all exact rfl) (hE:C.tab E=some te:=by with_unfolding_all exact rfl) (hz:te.size=1:=by with_unfolding_all exact rfl) (hzc:te.zero.cells=#[zc]:=by with_unfolding_all exact rfl) (hone:zc.oneCell'=true:=by with_unfolding_all exact rfl) (hul:u.cells=[u0]:=by with_unfolding_all exact rfl)
  (hx:ev2 ρ x=some (.raw (.int .i64 i)):=by with_unfolding_all exact rfl) (hy:ev2 ρ y=some (.raw (.int .i64 j)):=by with_unfolding_all exact rfl)
  (hk:η.length=k:=by (try dsimp only [List.length])<;>exact rfl) (hi:i=(l:Int):=by first|rfl|omega) (hj:j=(c:Int):=by first|rfl|omega) (hη:η++[.gs false E 1 (some false) (List.replicate l u)]=η2:=by (try dsimp only [List.cons_append,List.nil_append,List.append_eq,List.replicate])<;>exact rfl) (hd:Nat.blt d C.N=true:=by with_unfolding_all exact rfl)
  (hlc:l≤c:=by omega) (h0:0 < c:=by omega) (hc:c≤16777216:=by omega) (hbt:te.bytes*c≤16777216:=by (first|omega|(simp only [TyE.bytes];omega))) :
  OL C ops Q (⟨some d,.makeSlice X x y,T,pos,af,none⟩::rest) ρ η:=OL.one (ZcY hu hs hE hz hzc hone hul hx hy hk hi hj hη hd hlc h0 hc hbt) kk
theorem ZcZ {i o k T E sz:Nat} {cs:List AV} (ho:η[i]?=some (.cb T cs)) (hc:cs[o]?=some (.raw (.slice none 0 0))) (hk:η.length=k):Wk C ρ η ρ (η.set i (.cb T (cs.set o (.hs k)))++[.gs false E sz (some true) []]):=by
 rintro a w ⟨m,γ,ρc,hE,hR,hI⟩;have hl:=hI.heap.len;have hnew:In C.B m w (γ++[.slice none 0 0]) (η++[.gs false E sz (some true) []]):=hI.new (.refl _ _) ⟨⟨m,.nil,fun _ _=>rfl,fun b hb=>by simp [Yay] at hb⟩,⟨fun _=>rfl,nofun⟩,by simp⟩ (fun b hb=>by simp [blk,Yay] at hb);have hilt:i < η.length:=(List.getElem?_eq_some_iff.1 ho).1;have ho':(η++[.gs false E sz (some true) []])[i]?=some (.cb T cs):=by rw [List.getElem?_append_left hilt];exact ho
 obtain ⟨u,hu,hok⟩:=hnew.heap.get ho';obtain ⟨b,vs,rfl,hB,hC⟩:=hok;have hset:(η++[AO.gs false E sz (some true) []]).set i (.cb T (cs.set o (.hs k)))=η.set i (.cb T (cs.set o (.hs k)))++[.gs false E sz (some true) []]:=by rw [List.set_append_left _ _ hilt]
 rw [← hset];refine ⟨m,γ++[.slice none 0 0],ρc,hE,hR.mono (.refl _ _) (.app _ _),hnew.put (o':=.cb T (cs.set o (.hs k))) hu ho' ((Keep.refl m w).touch _) ?_ (.inl rfl)⟩;have hlt:o < vs.length:=by rw [hC.1];exact (List.getElem?_eq_some_iff.1 hc).1
 have hrep:=hC.2.2 o _ _ (List.getElem?_eq_getElem hlt) hc;have hvo:vs[o]=.slice none 0 0:=hrep.raw_eq;refine ⟨b,vs,rfl,hB,by simpa using hC.1,hC.2.1,fun j v c hj hcj=>?_⟩;rw [List.getElem?_set] at hcj;split at hcj
 ·rename_i e
  subst e;split at hcj
  ·cases hcj
   rw [List.getElem?_eq_getElem hlt] at hj
   cases hj
   rw [hvo];exact .hs (by rw [← hk,← hl];exact YaD)
  ·cases hcj
 ·exact hC.2.2 j v c hj hcj
theorem ZbO {k T:Nat} {cs:List AV} (i o E sz:Nat) (kk:TC C Q A ρ η2) (ho:η[i]?=some (.cb T cs):=by with_unfolding_all exact rfl) (hc:cs[o]?=some (.raw (.slice none 0 0)):=by with_unfolding_all exact rfl) (hk:η.length=k:=by (try dsimp only [List.length])<;>exact rfl) (hη:η.set i (.cb T (cs.set o (.hs k)))++[.gs false E sz (some true) []]=η2:=by (try dsimp only [List.set,List.cons_append,List.nil_append,List.append_eq])<;>exact rfl):TC C Q A ρ η:=by
 subst hη;exact Zbd (ZcZ ho hc hk) kk
theorem Zc0 {n E sz:Nat} {te:TyE} {parts:List (Nat × Operand)} {us zs cs0 cs:List AV} (kk:OL C ops Q rest ((d,.st cs)::ρ) η) (ht:C.tab X=some te:=by with_unfolding_all exact rfl) (hsh:te.sh=.array n E:=by with_unfolding_all exact rfl) (hsz:(C.tab E).map (·.size)=some sz:=by with_unfolding_all exact rfl)
  (hl:Yc6 ρ (parts.map (·.2))=some us:=by with_unfolding_all exact rfl) (hz:YpK te.zero.cells.toList=some zs:=by with_unfolding_all exact rfl) (hf:Ymp (fun i=>some (i*sz,sz)) zs ((parts.map (·.1)).zip us)=some cs0:=by with_unfolding_all exact rfl) (hc:cs0=cs:=by (try dsimp only [YeQ,AV.cells])<;>exact rfl) (hd:Nat.blt d C.N=true:=by with_unfolding_all exact rfl) :
  OL C ops Q (⟨some d,.build X parts.toArray,T,pos,af,none⟩::rest) ρ η:=by
 subst hc;refine ZaG (fun m w γ ρc a hE hR hH=>?_) hd kk;obtain ⟨vs,g1,g2⟩:=hR.evs hl;obtain ⟨dd,hu,hd'⟩:=(C.hT X te ht).sh;rw [hsh] at hd';obtain rfl:dd=_:=hd';obtain ⟨inf,i1,i2,i3,i4,i5⟩:=(C.hT X te ht).info;obtain ⟨ie,j1,j2⟩:=Ybh C.hT hsz;have hul:us.length=parts.length:=by
  have:=g2.len
  have e2:=congrArg List.length (hE.evs g1);simp at e2;omega
 have hp2:((parts.map (·.1)).zip us).map (·.2)=us:=by rw [List.map_snd_zip];simp;omega
 have hp1:((parts.map (·.1)).zip us).map (·.1)=parts.map (·.1):=by rw [List.map_fst_zip];simp;omega
 obtain ⟨os,o1,o2⟩:=Yfm (γ:=γ) (m:=m) (w:=w) _ vs zs cs0 te.zero.cells.toList (YeZ hz) (by rw [hp2];exact g2) hf;rw [hp1] at o1;have hb:C.P.built X ((parts.map (·.1)).zip vs)=some os:=by
  unfold Program.built;simp only [i1,hu,i4,j1,j2];simpa using o1
 refine ⟨.agg os,?_,fun {m' w'} _ _ _ _ _ _=>?_⟩
 ·have:Rep m w γ (.agg os.toList.toArray) (.st cs0):=.st o2.1 o2.2.1 o2.2.2
  simpa using this
 ·have he:((parts.map fun p=>(p.1,a.eval p.2)))=(parts.map (·.1)).zip vs:=by
   rw [← hE.evs g1];clear hp2 hp1 hf g1 g2 o1 hb hl hul;induction parts with
   | nil=>rfl
   | cons p r ih=>simp [ih]
  rw [← he] at hb;have hr:=run_build (P:=C.P) w' X (parts.map fun p=>(p.1,a.eval p.2)).toArray os hb;simp only [execOp];have e2:(parts.toArray.map fun (x:Nat × Operand)=>(x.1,a.eval x.2))=(parts.map fun p=>(p.1,a.eval p.2)).toArray:=by simp
  rw [e2];simp [hr]
end
section
variable {C:Cx} {ops:Array Oper} {Q:Qt} {ρ ρ':Ro} {η η' η2:Eta} {rest:List Oper} {T d X Y:Nat} {pos:String} {af:Array Edge} {op:Op} {x y z:Operand} {A K:Code} {e:Exit}
theorem Zca {sz E:Nat} {nl} {xs:List AV} (h1:xs=[]→OL C ops Q rest ((d,.raw (.bool true))::ρ) η) (h2:OL C ops Q rest ((d,.raw (.bool false))::ρ) η) (hs:(C.tab X).map (·.sh)=some (.slice E):=by with_unfolding_all exact rfl)
  (hx:ev2 ρ x=some (.sl sz nl xs):=by with_unfolding_all exact rfl) (hd:Nat.blt d C.N=true:=by with_unfolding_all exact rfl) :
  OL C ops Q (⟨some d,.binOp .eql X x (.const (.slice none 0 0)) Y,T,pos,af,none⟩::rest) ρ η:=by
 rintro a w ⟨m,γ,ρc,hE,hR,hI⟩;obtain ⟨v,g1,g2⟩:=hR.ev hx;obtain ⟨dd,hu,hd'⟩:=YcO C.hT hs;obtain rfl:dd=_:=hd';rcases g2.rs.1 with ⟨rfl,rfl⟩|⟨b,o,cap,rfl,h3,_,_⟩|⟨aw,rfl,rfl⟩
 ·refine Cx.lcons (wl_value (v:=.bool true) rfl ?_ (h1 rfl _ _ ⟨m,γ,_,hE.put _ (by simpa using hd),⟨rfl,.raw rfl,hR⟩,hI⟩));have he:a.eval (.const (.slice none 0 0))=.slice none 0 0:=rfl;simp [execOp,hE.ev g1,he,eqGuard,Lib.run_eql_slice_nil w X E none 0 0 0 0 hu]
 ·refine Cx.lcons (wl_value (v:=.bool false) rfl ?_ (h2 _ _ ⟨m,γ,_,hE.put _ (by simpa using hd),⟨rfl,.raw rfl,hR⟩,hI⟩));have he:a.eval (.const (.slice none 0 0))=.slice none 0 0:=rfl;simp [execOp,hE.ev g1,he,eqGuard,Lib.run_eql_slice_nil w X E (some ⟨b,o,none⟩) xs.length cap 0 0 hu]
 ·refine Cx.lcons (wl_value (v:=.bool false) rfl ?_ (h2 _ _ ⟨m,γ,_,hE.put _ (by simpa using hd),⟨rfl,.raw rfl,hR⟩,hI⟩));have he:a.eval (.const (.slice none 0 0))=.slice none 0 0:=rfl;simp [execOp,hE.ev g1,he,eqGuard,Lib.run_eql_slice_nil w X E (some aw) 0 0 0 0 hu]
theorem Zcv {k:Nat} (t E sz:Nat) (kk:TX C Q e ((t,.hs k)::ρ) η2) (hx:lk ρ t=some (.raw (.slice none 0 0)):=by with_unfolding_all exact rfl) (hk:η.length=k:=by (try dsimp only [List.length])<;>exact rfl) (hη:η++[.gs false E sz (some true) []]=η2:=by (try dsimp only [List.cons_append,List.nil_append,List.append_eq])<;>exact rfl):TX C Q e ρ η:=by
 subst hη;exact Zbo (ZcT hx hk) kk
end
theorem Ycc {α:Type} (cur vs:List α) (p:Nat) (h:p+vs.length≤cur.length) (j:Nat):(cur.take p++vs++cur.drop (p+vs.length))[j]?=if j < p then cur[j]? else if j < p+vs.length then vs[j-p]? else cur[j]?:=by
 have hp:(cur.take p).length=p:=by rw [List.length_take];omega
 rw [List.append_assoc,List.getElem?_append,hp];split
 ·rename_i h1;rw [List.getElem?_take,if_pos h1]
 ·rename_i h1
  rw [List.getElem?_append];split
  ·rename_i h2;rw [if_pos (by omega)]
  ·rename_i h2;rw [if_neg (by omega),List.getElem?_drop];congr 1;omega
theorem Ycd {α:Type} (cur vs:List α) (p:Nat) (h:p+vs.length≤cur.length):(cur.take p++vs++cur.drop (p+vs.length)).length=cur.length:=by
 simp only [List.length_append,List.length_take,List.length_drop];omega
theorem In.elem {B m w γ} {η:Eta} {i k o T sz:Nat} {nl} {xs:List AV} {g n c:Nat} {vs:List Value} {us:List AV} {e e':AV} (hI:In B m w γ η) (hv:γ[i]?=some (.slice (some ⟨g,0,none⟩) n c)) (ho:η[i]?=some (.gs false T sz nl xs)) (hk:xs[k]?=some e) (hC:CL [] m w vs us) (hou:o+us.length≤sz) (he:e'.cells=YeQ e.cells o us) :
  ∃ cur:List Value,w.heap[g]?=some (.cells cur.toArray T (0,0))∧k*sz+o+vs.length≤cur.length∧Ext m w m (w.setRow g (cur.take (k*sz+o)++vs++cur.drop (k*sz+o+vs.length)).toArray) ∧
   In B m (w.setRow g (cur.take (k*sz+o)++vs++cur.drop (k*sz+o+vs.length)).toArray) γ (η.set i (.gs false T sz nl (xs.set k e'))):=by
 have hok:=hI.heap.ok i _ _ hv ho;obtain ⟨hown,hnl,hlen⟩:=hok;simp only [Bool.false_eq_true,if_false] at hown;obtain ⟨m',hown,hm1,hm2⟩:=hown;rcases hown with ⟨_,rfl⟩|⟨_,_,_,rfl⟩|⟨g',cap,cur,hve,h0,hg,h1,h2,h3,h4,h5⟩
 ·simp at hk
 ·simp at hk
 ·cases hve
  have hob:Yay (.slice (some ⟨g,0,none⟩) xs.length c)=some g:=by
   obtain ⟨c',rfl⟩:∃ c',c=c'+1:=⟨c-1,by omega⟩;simp [Yay]
  have hB:Box m w g cur.toList T:=⟨by simpa using hg,hm2 g hob⟩;have hkl:k < xs.length:=(List.getElem?_eq_some_iff.1 hk).1;have hkc:(k+1)*sz≤c*sz:=Nat.mul_le_mul_right sz (by omega);have hks:(k+1)*sz=k*sz+sz:=Nat.succ_mul k sz;have hvl:=hC.1;have hbd:k*sz+o+vs.length≤cur.toList.length:=by simp;omega
  obtain ⟨t1,t2⟩:=Yci (vs:=cur.toList.take (k*sz+o)++vs++cur.toList.drop (k*sz+o+vs.length)) hB;have hsl:=Ycd cur.toList vs (k*sz+o) hbd;have hsg:=Ycc cur.toList vs (k*sz+o) hbd;refine ⟨cur.toList,by simpa using hg,hbd,t1.ext,hI.put (o':=.gs false T sz nl (xs.set k e')) hv ho (by simp only [blk];rw [hob];exact t1) ⟨?_,hnl,?_⟩ (.inl rfl)⟩
  ·simp only [Bool.false_eq_true,if_false];refine ⟨m',.inr (.inr ⟨g,c,_,by simp,h0,t2.heap,by simpa using h1,h2,by rw [List.size_toArray,hsl];simpa using h3,by simpa using h4,fun i' x hx=>?_⟩),hm1,hm2⟩;rw [List.getElem?_set] at hx;split at hx
   ·rename_i hik
    subst hik
    cases hx
    obtain ⟨cs,a1,a2,a3⟩:=h5 k e hk;have hcb:o+vs.length≤cs.length:=by omega
    have hcl:=Ycd cs vs o hcb;have hcg:=Ycc cs vs o hcb;have hec:e.cells.length=cs.length:=a3.1.symm;have hul:us.length=vs.length:=hvl.symm;refine ⟨cs.take o++vs++cs.drop (o+vs.length),by rw [hcl,a1],fun j cc hj=>?_,?_,fun q hq=>?_,fun j v cc hj hcc=>?_⟩
    ·rw [hcg] at hj;simp only [List.getElem?_toArray];rw [hsg];split at hj
     ·rw [if_pos (by omega),Array.getElem?_toList];exact a2 j cc hj
     ·rename_i hn
      split at hj
      ·rw [if_neg (by omega),if_pos (by omega),show k*sz+j-(k*sz+o)=j-o by omega];exact hj
      ·rw [if_neg (by omega),if_neg (by omega),Array.getElem?_toList];exact a2 j cc hj
    ·rw [hcl,he,Ydh,hec]
    ·rcases List.mem_append.1 hq with hq|hq
     ·rcases List.mem_append.1 hq with hq|hq
      ·exact a3.2.1 q (List.mem_of_mem_take hq)
      ·exact hC.2.1 q hq
     ·exact a3.2.1 q (List.mem_of_mem_drop hq)
    ·rw [he,YeY _ _ _ (by omega)] at hcc;rw [hcg] at hj;rw [hul] at hcc;split at hj
     ·rename_i hn
      rw [if_pos hn] at hcc;exact (a3.2.2 j v cc hj hcc).mono t1.ext (.refl _)
     ·rename_i hn
      rw [if_neg hn] at hcc;split at hj
      ·rename_i hn2
       rw [if_pos hn2] at hcc;exact (hC.2.2 (j-o) v cc hj hcc).mono t1.ext (.refl _)
      ·rename_i hn2
       rw [if_neg hn2] at hcc;exact (a3.2.2 j v cc hj hcc).mono t1.ext (.refl _)
   ·rename_i hik
    obtain ⟨cs,a1,a2,a3⟩:=h5 i' x hx;refine ⟨cs,a1,fun j cc hj=>?_,CL.mono t1.ext (.refl _) a3⟩;have hjs:j < sz:=by rw [← a1];exact (List.getElem?_eq_some_iff.1 hj).1
    simp only [List.getElem?_toArray];rw [hsg];have hne:i'*sz+j < k*sz+o∨k*sz+o+vs.length≤i'*sz+j:=by
     rcases Nat.lt_or_gt_of_ne hik with h|h
     ·right;have:=Nat.mul_le_mul_right sz (show k+1≤i' by omega)
      omega
     ·left;have:=Nat.mul_le_mul_right sz (show i'+1≤k by omega)
      have h9:(i'+1)*sz=i'*sz+sz:=Nat.succ_mul i' sz;omega
    rcases hne with h|h
    ·rw [if_pos h,Array.getElem?_toList];exact a2 j cc hj
    ·rw [if_neg (by omega),if_neg (by omega),Array.getElem?_toList];exact a2 j cc hj
  ·intro x hx;rcases List.mem_or_eq_of_mem_set hx with h|h
   ·exact hlen x h
   ·rw [h,he,Ydh];exact hlen e (List.mem_of_getElem? hk)
section
variable {C:Cx} {ops:Array Oper} {Q:Qt} {ρ ρ':Ro} {η η' η2:Eta} {rest:List Oper} {T d X Y:Nat} {pos:String} {af:Array Edge} {op:Op} {x y z:Operand} {A K:Code} {e:Exit}
theorem ZbC {i k o E sz:Nat} {nl} {xs:List AV} {e e':AV} {v:Value} (kk:OL C ops Q rest ρ η2) (hs:(C.tab X).map (fun e=>(e.sh.agg,e.size))=some (false,1):=by with_unfolding_all exact rfl) (hx:ev2 ρ x=some (.gp i sz k o):=by with_unfolding_all exact rfl) (hy:ev2 ρ y=some (.raw v):=by with_unfolding_all exact rfl)
  (ho:η[i]?=some (.gs false E sz nl xs):=by with_unfolding_all exact rfl) (hk:xs[k]?=some e:=by first|exact Ybp (by omega)|exact List.getElem?_eq_getElem (by omega)) (he:e'.cells=YeQ e.cells o [.raw v]:=by with_unfolding_all exact rfl) (hou:o+1≤sz:=by with_unfolding_all decide) (hη:η.set i (.gs false E sz nl (xs.set k e'))=η2:=by (try dsimp only [List.set])<;>exact rfl) :
  OL C ops Q (⟨none,.store X x y,T,pos,af,none⟩::rest) ρ η:=by
 rintro a w ⟨m,γ,ρc,hE,hR,hI⟩;obtain ⟨v1,g1,g2⟩:=hR.ev hx;have g3:=hR.raw hy
 cases g2 with
 | @gp _ _ _ _ _ b n c hb =>
 obtain ⟨v0,g5,g4⟩:=hR.ev hy;have hv0:=g4.raw_eq;subst hv0;have h1:v0.oneCell'=true:=by cases g4;assumption
 have hC:CL [] m w [v0] [.raw v0]:=by
  refine ⟨rfl,by simpa using h1,fun j u c hu hc=>?_⟩;have:j=0:=by
   have:=(List.getElem?_eq_some_iff.1 hu).1
   simp at this;omega
  subst this;simp at hu hc;subst hu hc;exact .raw h1
 obtain ⟨cur,hg,hbd,hext,hI'⟩:=hI.elem (o:=o) (e':=e') hb ho hk hC hou he;subst hη
 cases ht:C.tab X with
 | none=>rw [ht] at hs;cases hs
 | some te =>
   rw [ht] at hs;simp at hs;obtain ⟨inf,i1,i2,i3,i4,i5⟩:=(C.hT X te ht).info;have hst:=run_storeCells_at C.P b (k*sz+o) E [v0] 0 cur.toArray w hg (by simpa using hbd) (by simpa using h1);simp only [Nat.add_zero] at hst;refine Cx.lcons (Yce (w':=w.setRow b (cur.take (k*sz+o)++[v0]++cur.drop (k*sz+o+[v0].length)).toArray) rfl ?_ (kk _ _ ⟨m,γ,ρc,by simpa [Act.put] using hE,hR.mono hext (.refl _),hI'⟩));have hq:inf.size=1:=by omega
   have hcl:=Ycs h1;simp [execOp,hE.ev g1,hE.ev g3,Instr.storeAt,Instr.sureAddr,storeVar,sizeOf,typeInfo,i1,hq,hcl];simp at hst;rw [hst];simp [Result.andThen]
end
/-! ### A variable is read for good, wherever it is named -/
def sb0 (i:Nat) (cs:List AV):AV→AV
 | .bp j o=>bif Nat.beq j i then .ep cs o else .bp j o
 | x=>x
def sbp (i:Nat) (cs:List AV):AV→AV
 | .bp j o=>bif Nat.beq j i then .ep cs o else .bp j o
 | .fn f a c=>.fn f (a.map (sb0 i cs)) (c.map (sb0 i cs))
 | x=>x
def sbr (i:Nat) (cs:List AV):Ro→Ro
 | []=>[]
 | (t,x)::r=>(t,sbp i cs x)::sbr i cs r
theorem YlX {m w m' γ i cs b} {vs:List Value} (he:Ext m w m' w) (hb:γ[i]?=some (.pointer (some ⟨b,0,none⟩))) (hc:YaA m' w ⟨b,0,none⟩ vs) (hC:CL [] m' w vs cs) {v x} (h:Rep m w γ v x):Rep m' w γ v (sb0 i cs x):=by
 cases x with
 | bp j o =>
   simp only [sb0]
   cases hq:Nat.beq j i with
   | false=>exact h.mono he (.refl _)
   | true =>
     have:=Nat.eq_of_beq_eq_true hq
     subst this
     cases h with
     | bp h' =>
       rw [hb] at h'
       cases h'
       have:=Rep.ep (γ:=γ) (o:=o) hc hC.1 hC.2.1 hC.2.2
       simpa using this
 | _=>exact h.mono he (.refl _)
theorem Ytr {m w m' γ i cs b} {vs:List Value} (he:Ext m w m' w) (hb:γ[i]?=some (.pointer (some ⟨b,0,none⟩))) (hc:YaA m' w ⟨b,0,none⟩ vs) (hC:CL [] m' w vs cs) {v x} (h:Rep m w γ v x):Rep m' w γ v (sbp i cs x):=by
 cases x with
 | bp j o=>exact YlX he hb hc hC h
 | fn f a c =>
   cases h with
   | @fn _ _ v1 v2 _ _ l1 l2 q1 q2 =>
   refine .fn (by simpa using l1) (by simpa using l2) (fun j v x h1 h2=>?_) (fun j v x h1 h2=>?_)
   ·rw [List.getElem?_map] at h2
    cases hq:a[j]? with
    | none=>rw [hq] at h2;cases h2
    | some y=>rw [hq] at h2;cases h2;exact YlX he hb hc hC (q1 j v y h1 hq)
   ·rw [List.getElem?_map] at h2
    cases hq:c[j]? with
    | none=>rw [hq] at h2;cases h2
    | some y=>rw [hq] at h2;cases h2;exact YlX he hb hc hC (q2 j v y h1 hq)
 | _=>exact h.mono he (.refl _)
section
variable {C:Cx} {ops:Array Oper} {Q:Qt} {ρ ρ2:Ro} {η η2:Eta} {rest:List Oper} {A:Code} {e:Exit}
theorem Zcw {i E:Nat} {cs:List AV} (ho:η[i]?=some (.cb E cs)) (hp:cs.all pureA=true):Wk C ρ η (sbr i cs ρ) (η.set i .dead):=by
 rintro a w ⟨m,γ,ρc,hE,hR,hI⟩;obtain ⟨v,hv,hok⟩:=hI.heap.get ho;obtain ⟨b,vs,rfl,hB,hC⟩:=hok;obtain ⟨hx1,hcell⟩:=hB.freeze;have hT:=hB.frz;have hC':CL [] _ w vs cs:=⟨hC.1,hC.2.1,fun j v c h1 h2=>(YaV (hC.2.2 j v c h1 h2) (List.all_eq_true.1 hp c (List.mem_of_getElem? h2))).mono hx1 (.refl _)⟩;have hall:∀ (ρc:List (Nat × Value)) (ρ:Ro),RL m w γ ρc ρ→RL (Yb8 m b vs.length) w γ ρc (sbr i cs ρ):=by
  intro ρc;induction ρc with
  | nil=>intro ρ h;cases ρ with|nil=>trivial|cons _ _=>exact h.elim
  | cons p ρc ih =>
    intro ρ h
    cases ρ with
    | nil=>exact h.elim
    | cons q ρ=>exact ⟨h.1,Ytr hx1 hv hcell hC' h.2.1,ih ρ h.2.2⟩
 exact ⟨_,γ,ρc,hE,hall ρc ρ hR,hI.put (o':=.dead) hv ho hT trivial (.inr rfl)⟩
theorem ZbN {E:Nat} {cs:List AV} (i:Nat) (k:OL C ops Q rest ρ2 η2) (ho:η[i]?=some (.cb E cs):=by with_unfolding_all exact rfl) (hp:cs.all pureA=true:=by with_unfolding_all exact rfl) (hρ:sbr i cs ρ=ρ2:=by (try dsimp only [sbr,sbp,sb0,List.map,Nat.beq,Nat.add_zero,Nat.zero_add,Nat.reduceAdd,cond_true,cond_false])<;>exact rfl) (hη:η.set i .dead=η2:=by (try dsimp only [List.set])<;>exact rfl):OL C ops Q rest ρ η:=by
 subst hρ hη;exact Za5 (Zcw ho hp) k
end
end Go.V
