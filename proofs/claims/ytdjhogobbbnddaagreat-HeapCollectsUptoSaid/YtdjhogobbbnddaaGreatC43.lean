/- Lemmas for the claim; no conditions. -/
import Derived.Test.YtdjhogobbbnddaaGreatC41
import Derived.WideKeyArr
namespace Go.V
open Go Go.W
theorem YxV {P:Program} {K E:Nat} (A:WideMaps.ArrKey P K E 2) (hE:P.underlying E=some (.int .i64)) (hsz:∃ m,P.types.size=m+1) {a b:Int} (ha:-9223372036854775808≤a∧a≤9223372036854775807) (hb:-9223372036854775808≤b∧b≤9223372036854775807) :
  ∃ l,keyOf P K (.agg #[.int .i64 a,.int .i64 b])=some l:=by
 have hk:=A.keyType hsz;obtain ⟨m,hm⟩:=hsz;have hmn:IntKind.i64.min=-9223372036854775808:=by rfl
 have hmx:IntKind.i64.max=9223372036854775807:=by rfl
 have h1:(Lit.int .i64 a).wf=true:=by rw [Lit.wf,hmn,hmx,decide_eq_true ha.1,decide_eq_true ha.2];rfl
 have h2:(Lit.int .i64 b).wf=true:=by rw [Lit.wf,hmn,hmx,decide_eq_true hb.1,decide_eq_true hb.2];rfl
 have hf:(Value.agg #[.int .i64 a,.int .i64 b]).formed P K=true:=by simp [Value.formed,A.hu,A.size]
 have h3:∀ x:Int,(Lit.int .i64 x).wf=true→P.keyLits P.types.size E [.int .i64 x]=some [.int .i64 x]:=fun x hx=>by
  rw [hm];unfold Program.keyLits;rw [hE];simp [hx]
 have h4:P.keyLits (P.types.size+1) K [.int .i64 a,.int .i64 b]=some [.int .i64 a,.int .i64 b]:=by
  unfold Program.keyLits;rw [A.hu];simp [A.size,A.one,List.range,List.range.loop,h3 a h1,h3 b h2]
 unfold keyOf;rw [A.hu];simp only [hk,hf,Bool.and_self,if_true];exact ⟨_,by rw [show (Value.agg #[.int .i64 a,.int .i64 b]).cells.toList=[.int .i64 a,.int .i64 b] from rfl,h4];rfl⟩
section
variable {C:Cx} {ops:Array Oper} {Q:Qt} {A:Code} {ρ:Ro} {η η2:Eta} {rest:List Oper} {T d X E:Nat} {pos:String} {af:Array Edge} {x y z:Operand}
theorem ZcF {i:Nat} (ho:η[i]?=some (.mo [])):Wk C ρ η ρ (η.set i (.mk [])):=by
 rintro a w ⟨m,γ,ρc,hE,hR,hI⟩;obtain ⟨v,hv,b,l,rfl,h0,hM,hkeys,_⟩:=hI.heap.get ho;obtain ⟨es',clock,hb',hl⟩:=hM;have hl0:l=[]:=by simpa using hkeys
 subst hl0;have he:es'.toList=[]:=by simpa using hl
 exact ⟨m,γ,ρc,hE,hR,hI.put (o':=.mk []) hv ho ((Keep.refl m w).touch _) ⟨b,es',clock,rfl,h0,hb',by rw [he];rfl,fun j p q _ hq=>by simp at hq⟩ (.inl rfl)⟩
theorem Zc9 (i:Nat) (kk:OL C ops Q rest ρ η2) (ho:η[i]?=some (.mo []):=by with_unfolding_all exact rfl) (hη:η.set i (.mk [])=η2:=by (try dsimp only [List.set])<;>exact rfl):OL C ops Q rest ρ η:=Za5 (ZcF ho) (hη ▸ kk)
theorem YoX {m w γ v} {a b:Value} (h:Rep m w γ v (.st [.raw a,.raw b])):v=.agg #[a,b]:=by
 cases h with
 | @st _ vs _ hl h1 hr =>
   match vs,hl with
   | [p,q],_ =>
     have e1:=(hr 0 p _ rfl rfl).raw_eq;have e2:=(hr 1 q _ rfl rfl).raw_eq;rw [e1,e2]
theorem Zda {i KT:Nat} {ks:List (Value × AV)} {a b:Value} {te:TyE} {v:AV} (K:WideMaps.KeyLaw C.P KT) (hks:∀ x∈ks,∃ l,keyOf C.P KT x.1=some l) (hk:∃ l,keyOf C.P KT (.agg #[a,b])=some l) (hno:∀ x∈ks,x.1≠.agg #[a,b]) (hz:∀ m w γ,Rep m w γ te.zero v) (kk:OL C ops Q rest ((d,v)::ρ) η)
  (hs:(C.tab X).map (·.sh)=some (.map KT E):=by with_unfolding_all exact rfl) (hE:C.tab E=some te:=by with_unfolding_all exact rfl) (hx:ev2 ρ x=some (.mp i):=by with_unfolding_all exact rfl) (ho:η[i]?=some (.mk ks):=by with_unfolding_all exact rfl) (hy:ev2 ρ y=some (.st [.raw a,.raw b]):=by with_unfolding_all exact rfl) (hd:Nat.blt d C.N=true:=by with_unfolding_all exact rfl) :
  OL C ops Q (⟨some d,.lookup X x y false,T,pos,af,none⟩::rest) ρ η:=by
 rintro ac w ⟨m,γ,ρc,hE',hR,hI⟩;obtain ⟨u,g1,g2⟩:=hR.ev hx;obtain ⟨u2,g3,g4⟩:=hR.ev hy;have e4:=YoX g4;subst e4
 cases g2 with
 | @mp _ _ b2 hb =>
 obtain ⟨b',es,clock,e,h0,hM,hkeys,hrep⟩:=hI.heap.ok i _ _ hb ho
 cases e
 obtain ⟨dd,ut,h2⟩:=YcO C.hT hs;obtain rfl:dd=_:=h2;obtain ⟨inf,i1,i2,i3,i4,i5⟩:=(C.hT E te hE).info;obtain ⟨l,hl⟩:=hk;have hall:∀ e∈es.toList,∃ l,keyOf C.P KT e.key=some l:=fun e he=>by
  have:e.key∈ks.map (·.1):=by rw [← hkeys];exact List.mem_map.2 ⟨e,he,rfl⟩
  obtain ⟨q,hq,e1⟩:=List.mem_map.1 this;rw [← e1];exact hks q hq
 have hck:=K.check w es.isEmpty hl;rcases K.find w hl es.toList hall with ⟨e2,_⟩|⟨j,e,_,e3,e4⟩
 ·refine Cx.lcons (wl_value (v:=te.zero) rfl ?_ (kk _ _ ⟨m,γ,_,hE'.put _ (by simpa using hd),⟨rfl,hz _ _ _,hR⟩,hI⟩));simp [execOp,hE'.ev g1,hE'.ev g3,Instr.lookup,run_underlying ut,MapKept.run_getObj_map hM,hck,e2,zeroValue,typeInfo,i1,i4]
 ·have:e.key∈ks.map (·.1):=by rw [← hkeys];exact List.mem_map.2 ⟨e,List.mem_of_getElem? e3,rfl⟩
  obtain ⟨q,hq,e1⟩:=List.mem_map.1 this;exact (hno q hq (e1.trans e4)).elim
theorem Zdb {i KT:Nat} {ks:List (Value × AV)} {a b:Value} {u:AV} (K:WideMaps.KeyLaw C.P KT) (hks:∀ x∈ks,∃ l,keyOf C.P KT x.1=some l) (hk:∃ l,keyOf C.P KT (.agg #[a,b])=some l) (hno:∀ x∈ks,x.1≠.agg #[a,b]) (kk:OL C ops Q rest ρ η2)
  (hs:(C.tab X).map (·.sh)=some (.map KT E):=by with_unfolding_all exact rfl) (hx:ev2 ρ x=some (.mp i):=by with_unfolding_all exact rfl) (ho:η[i]?=some (.mk ks):=by with_unfolding_all exact rfl) (hy:ev2 ρ y=some (.st [.raw a,.raw b]):=by with_unfolding_all exact rfl) (hz:ev2 ρ z=some u:=by with_unfolding_all exact rfl) (hu:(okc u&&pureA u)=true:=by with_unfolding_all exact rfl)
  (hη:η.set i (.mk (ks++[(.agg #[a,b],u)]))=η2:=by (try dsimp only [List.set])<;>exact rfl) :
  OL C ops Q (⟨none,.mapUpdate X x y z,T,pos,af,none⟩::rest) ρ η:=by
 rintro ac w ⟨m,γ,ρc,hE',hR,hI⟩;obtain ⟨u1,g1,g2⟩:=hR.ev hx;obtain ⟨u2,g3,g4⟩:=hR.ev hy;obtain ⟨v,g5,g6⟩:=hR.ev hz;have e4:=YoX g4;subst e4;simp only [Bool.and_eq_true] at hu;have hone:okV v u:=g6.one hu.1;have hpure:=YaV g6 hu.2
 cases g2 with
 | @mp _ _ b2 hb =>
 obtain ⟨b',es,clock,e,h0,hM,hkeys,hrep⟩:=hI.heap.ok i _ _ hb ho
 cases e
 obtain ⟨dd,ut,h2⟩:=YcO C.hT hs;obtain rfl:dd=_:=h2;obtain ⟨l,hl⟩:=hk;have hall:∀ e∈es.toList,∃ l,keyOf C.P KT e.key=some l:=fun e he=>by
  have:e.key∈ks.map (·.1):=by rw [← hkeys];exact List.mem_map.2 ⟨e,he,rfl⟩
  obtain ⟨q,hq,e1⟩:=List.mem_map.1 this;rw [← e1];exact hks q hq
 have hck:=K.check w false hl;have hlt:b2 < w.heap.size:=(Array.getElem?_eq_some_iff.1 hM).1;have hother:∀ (o:Obj) (j:Nat),j≠b2→(w.heap.setIfInBounds b2 o)[j]?=w.heap[j]?:=fun o j hj=>by rw [Array.getElem?_setIfInBounds_ne (by omega)]
 subst hη;rcases K.find w hl es.toList hall with ⟨e2,_⟩|⟨j,e,_,e3,e4⟩
 ·have hT:W.Touch (some b2) m w m { w with heap:=w.heap.setIfInBounds b2 (.map (es.push ⟨.agg #[a,b],v,clock⟩) (clock+1)) }:=
   ⟨⟨rfl,rfl,rfl,by simp,fun i _ hi=>hother _ i (by simpa using hi)⟩,fun _ _ _=>rfl,⟨by simp,fun _ _=>Nat.le_refl _,fun i j c hj hc=>by
    have hne:i≠b2:=fun e=>by subst e;omega
    rw [World.cell?_of_block (w:=w) (hother _ i hne)];exact hc⟩⟩
  refine Cx.lcons (Yce (w':={ w with heap:=w.heap.setIfInBounds b2 (.map (es.push ⟨.agg #[a,b],v,clock⟩) (clock+1)) }) rfl ?_ (kk _ _ ⟨m,γ,ρc,by simpa [Act.put] using hE',hR.mono hT.ext (.refl _),hI.put (o':=.mk (ks++[(.agg #[a,b],u)])) hb ho hT ⟨b2,es.push ⟨.agg #[a,b],v,clock⟩,clock+1,rfl,h0,by simp [hlt],by simp [hkeys],fun j p q hp hq=>?_⟩ (.inl rfl)⟩))
  ·simp [execOp,hE'.ev g1,hE'.ev g3,hE'.ev g5,Instr.mapUpdate,run_underlying ut,MapKept.run_getObj_map hM,hck,e2,MapKept.run_setObj_map _ hM]
  ·have hll:es.toList.length=ks.length:=by simpa using congrArg List.length hkeys
   rw [Array.toList_push] at hp;rcases Yal hp with hp|⟨e1,rfl⟩
   ·rcases Yal hq with hq|⟨e2,rfl⟩
    ·exact ⟨(hrep j p q hp hq).1.mono hT.ext (.refl _),(hrep j p q hp hq).2⟩
    ·have:=(List.getElem?_eq_some_iff.1 hp).1;omega
   ·rcases Yal hq with hq|⟨_,rfl⟩
    ·have:=(List.getElem?_eq_some_iff.1 hq).1;omega
    ·exact ⟨hpure.mono hT.ext (.refl _),hone⟩
 ·have:e.key∈ks.map (·.1):=by rw [← hkeys];exact List.mem_map.2 ⟨e,List.mem_of_getElem? e3,rfl⟩
  obtain ⟨q,hq,e1⟩:=List.mem_map.1 this;exact (hno q hq (e1.trans e4)).elim
end
end Go.V
