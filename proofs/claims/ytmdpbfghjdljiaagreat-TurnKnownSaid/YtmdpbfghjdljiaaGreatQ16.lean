/- Part 16 of what the claim is proved by: lemmas on the model and walks through functions of the program; no conditions. -/
import Derived.Test.YtmdpbfghjdljiaaGreatQ15
import Derived.Laws.StructEq
import Derived.ChangeKeysEq
import Derived.Test.YtmdpbfghjdljiaaGreatQ14
import Derived.Test.YtmdpbfghjdljiaaGreatQ13
import Derived.Lib.SliceRun
namespace Go.V
open Go Go.W
section
variable {P:Program} (w:World)
theorem run_part1 {e:Nat} {xs:Array Value} {o:Nat} {v:Value} (h:∀ w,(isAgg e).run P w=.ok false w) (hx:xs[o]?=some v):(part e xs o).run P w=.ok v w:=by
 simp [part,h,hx]
structure EqS2 (P:Program) (t e:Nat) (k:IntKind):Prop where
 st:P.underlying t=some (.struct (P.fieldsOf t))
 held:P.stoodInHeld t=false
 fs : (P.fieldsOf t).toList.map (fun f => (f.name == "_", f.type, f.offset)) = [(false, e, 0), (false, e, 1)]
 el:P.underlying e=some (.int k)
 gd:P.eqGuardType P.depth t=false
theorem eqS2 {t e:Nat} {k:IntKind} (h:EqS2 P t e k) (a b c d:Int):(Op.equalIn 10000 t (.agg #[.int k a,.int k b]) (.agg #[.int k c,.int k d])).run P w=.ok (a==c&&b==d) w:=by
 have hna:∀ w,(isAgg e).run P w=.ok false w:=fun w=>by simp [isAgg,run_underlying h.el]
 rw [show (10000:Nat)=9999+1 from rfl,run_equalIn_struct w 9999 t _ _ h.st h.held]
 have hf:=h.fs
 generalize (P.fieldsOf t).toList=fs at hf
 have hi':∀ w,∀ x y:Int,(Op.equalIn 9999 e (.int k x) (.int k y)).run P w=.ok (x==y) w:=fun w x y=>run_equalIn_int w 9998 e k k x y h.el
 obtain ⟨f0,f1,rfl⟩:∃ f0 f1,fs=[f0,f1]:=by
  have hl:fs.length=2:=by have:=congrArg List.length hf;simpa using this
  match fs,hl with
  | [f0,f1],_=>exact ⟨f0,f1,rfl⟩
 simp only [List.map_cons,List.map_nil,List.cons.injEq,Prod.mk.injEq,beq_eq_false_iff_ne,and_true] at hf
 obtain ⟨⟨n0,t0,o0⟩,n1,t1,o1⟩:=hf
 have p0:∀ w (a b:Int),(part e #[Value.int k a,.int k b] 0).run P w=.ok (.int k a) w:=fun w a b=>run_part1 w hna rfl
 have p1:∀ w (a b:Int),(part e #[Value.int k a,.int k b] 1).run P w=.ok (.int k b) w:=fun w a b=>run_part1 w hna rfl
 simp only [Op.eqFields,ne_eq,n0,n1,not_false_eq_true,if_true,Sem.run_bind,t0,t1,o0,o1,p0,Result.andThen_ok,hi']
 by_cases h1:a=c<;>by_cases h2:b=d<;>simp [h1,h2,p1,hi']
end
section
variable {C:Cx} {ops:Array Oper} {Q:Qt} {ρ ρ':Ro} {η η' η2:Eta} {rest:List Oper} {T d X Y:Nat} {pos:String} {af:Array Edge} {op:Op} {x y z:Operand}
theorem raws_eq {m w γ v} {us:List Value} (h:Rep m w γ v (.st (us.map .raw))):v=.agg us.toArray:=by
 cases h with
 | @st _ vs _ hl h1 hr =>
 congr
 refine List.ext_getElem? fun j=>?_
 cases hv:vs[j]? with
 | none =>
   have:us[j]?=none:=by
    rw [List.getElem?_eq_none_iff] at hv ⊢
    simp at hl;omega
   rw [this]
 | some q =>
   have hlt:=(List.getElem?_eq_some_iff.1 hv).1
   have hu:us[j]?=some (us[j]'(by simp at hl;omega)):=List.getElem?_eq_getElem _
   rw [hu]
   have:=(hr j q (.raw (us[j]'(by simp at hl;omega))) hv (by rw [List.getElem?_map,hu];rfl)).raw_eq
   rw [this]
theorem give_eqn {us vs:List Value} {b:Bool} {ng:Bool} (hx:ev2 ρ x=some (.st (us.map .raw))) (hy:ev2 ρ y=some (.st (vs.map .raw))) (h:∀ w,(Op.equalIn 10000 X (.agg us.toArray) (.agg vs.toArray)).run C.P w=.ok b w) (hg:C.P.eqGuardType C.P.depth X=false) {M} :
  Gives C.P C.N C.D (.binOp (bif ng then .neq else .eql) X x y Y) ρ η (.raw (.bool (bif ng then !b else b))) M:=fun m w γ ρc a hE hR hH=>by
 obtain ⟨v1,g1,g2⟩:=hR.ev hx
 obtain ⟨v2,g3,g4⟩:=hR.ev hy
 have e1:=raws_eq g2
 have e2:=raws_eq g4
 subst e1 e2
 refine ⟨_,.raw rfl,fun {m' w'} _ _ _ _ _ _=>?_⟩
 cases ng<;>simp only [cond_true,cond_false]<;>simp [execOp,hE.ev g1,hE.ev g3,run_eqGuard_agg w' _ X x y us.toArray vs.toArray hg,run_eql_struct,run_neq_struct,h]
theorem OL.eqS2 {P:Program} {e:Nat} {k:IntKind} {a b a' b':Int} (h:EqS2 P X e k) (kk:OL C ops Q rest ((d,bool (a==a'&&b==b'))::ρ) η) (hP:C.P=P:=by with_unfolding_all exact rfl)
  (hx:ev2 ρ x=some (.st [.raw (.int k a),.raw (.int k b)]):=by with_unfolding_all exact rfl) (hy:ev2 ρ y=some (.st [.raw (.int k a'),.raw (.int k b')]):=by with_unfolding_all exact rfl) (hd:Nat.blt d C.N=true:=by with_unfolding_all exact rfl) :
  OL C ops Q (⟨some d,.binOp .eql X x y Y,T,pos,af,none⟩::rest) ρ η:=by
 subst hP
 exact OL.give (give_eqn (ng:=false) (us:=[.int k a,.int k b]) (vs:=[.int k a',.int k b']) hx hy (fun w=>V.eqS2 w h a b a' b') h.gd) hd kk
theorem OL.neS2 {P:Program} {e:Nat} {k:IntKind} {a b a' b':Int} (h:EqS2 P X e k) (kk:OL C ops Q rest ((d,bool (!(a==a'&&b==b')))::ρ) η) (hP:C.P=P:=by with_unfolding_all exact rfl)
  (hx:ev2 ρ x=some (.st [.raw (.int k a),.raw (.int k b)]):=by with_unfolding_all exact rfl) (hy:ev2 ρ y=some (.st [.raw (.int k a'),.raw (.int k b')]):=by with_unfolding_all exact rfl) (hd:Nat.blt d C.N=true:=by with_unfolding_all exact rfl) :
  OL C ops Q (⟨some d,.binOp .neq X x y Y,T,pos,af,none⟩::rest) ρ η:=by
 subst hP
 exact OL.give (give_eqn (ng:=true) (us:=[.int k a,.int k b]) (vs:=[.int k a',.int k b']) hx hy (fun w=>V.eqS2 w h a b a' b') h.gd) hd kk
end
end Go.V
namespace Go.V
open Go Go.W
section
variable {C:Cx} {ops:Array Oper} {Q:Qt} {ρ:Ro} {η η2:Eta} {rest:List Oper} {T d X:Nat} {pos:String} {af:Array Edge} {x y:Operand}
theorem OL.eqBl {Y:Nat} {a b:Bool} (hu:C.P.underlying X=some .bool) (k:OL C ops Q rest ((d,V.bool (a==b))::ρ) η) (hx:ev2 ρ x=some (.raw (.bool a)):=by with_unfolding_all exact rfl) (hy:ev2 ρ y=some (.raw (.bool b)):=by with_unfolding_all exact rfl) (hd:Nat.blt d C.N=true:=by with_unfolding_all exact rfl):OL C ops Q (⟨some d,.binOp .eql X x y Y,T,pos,af,none⟩::rest) ρ η:=
 OL.give (fun m w γ ρc a' hE hR hH=>⟨_,.raw rfl,fun _ _ _ _ _ _=>by simp [execOp,hE.ev (hR.raw hx),hE.ev (hR.raw hy),eqGuard,run_eql_bool,hu]⟩) hd k
end
/-! ### An operation whose guard's own operation was not run -/
def GU (ops:Array Oper) (ρ:Ro) (g:Option (Nat × Bool)):Prop:=∃ j b oj dj,g=some (j,b)∧ops[j]?=some oj∧oj.dst=some dj∧lk ρ dj=some (.tp [])
theorem GU.wanted {ops:Array Oper} {m w γ ρc ρ a N D} {o:Oper} (hE:Env N D a ρc) (hR:RL m w γ ρc ρ) (h:GU ops ρ o.guard):Region.wanted o (yielded ops a.tmps)=false:=by
 obtain ⟨j,b,oj,dj,hg,h1,h2,h3⟩:=h
 obtain ⟨v,g1,g2⟩:=hR.look h3
 cases g2 with
 | @tp _ vs _ hl hr =>
   obtain rfl:vs=[]:=List.length_eq_zero_iff.1 hl
   simp [Region.wanted,hg,yielded,h1,h2,hE.look _ _ g1]
section
variable {C:Cx} {M:Bool} {fi fuel:Nat} {l:List Oper} {Q:Qt} {listed:Array Bool} {ρ:Ro} {η:Eta} {d T:Nat} {pos:String} {af:Array Edge} {op:Op} {g:Option (Nat × Bool)}
theorem OD.un (i:Nat) (k:OD C M fi l.toArray Q fuel (listed.setIfInBounds i true) ((d,.tp [])::ρ) η) (hi:l.toArray[i]?=some ⟨some d,op,T,pos,af,g⟩:=by with_unfolding_all exact rfl) (hb:takeC l.toArray listed fi i=true:=by kernel_rfl) (hQ:NoPan Q:=by with_unfolding_all exact fun _ _ _ _ _ h=>h)
  (hg:GU l.toArray ρ g:=by with_unfolding_all exact ⟨_,_,_,_,rfl,rfl,rfl,rfl⟩) (hd:Nat.blt d C.N=true:=by with_unfolding_all exact rfl):OD C M fi l.toArray Q (fuel+1) listed ρ η:=
 OD.take (ρ':=(d,.tp [])::ρ) (η':=η) (v:=fun _ _=>undef) hi hb hQ rfl (fun a w ⟨m,γ,ρc,hE,hR,hI⟩=>⟨.inr ⟨GU.wanted (o:=⟨some d,op,T,pos,af,g⟩) hE hR hg,rfl⟩,⟨m,γ,(d,undef)::ρc,hE.put undef (by simpa using hd),⟨rfl,.tp (vs:=[]) rfl (by simp),hR⟩,hI⟩⟩) k
end
end Go.V
namespace Go.V
open Go Go.W
section
variable {C:Cx} {ops:Array Oper} {Q:Qt} {ρ ρ1:Ro} {η η1 η2:Eta} {rest:List Oper} {T d:Nat} {pos:String} {af:Array Edge} {x:Operand}
theorem Wk.trans {ρ2:Ro} (h:Wk C ρ η ρ1 η1) (k:Wk C ρ1 η1 ρ2 η2):Wk C ρ η ρ2 η2:=fun a w hA=>k a w (h a w hA)
theorem Wk.refl:Wk C ρ η ρ η:=fun _ _ h=>h
def quietB:AV→Bool
 | .raw _=>true
 | .tp vs=>vs.all fun|.raw _=>true|_=>false
 | _=>false
theorem quiet_rep {m w γ v x} (h:quietB x=true) (hr:Rep m w γ v x) (m' w' γ'):Rep m' w' γ' v x:=by
 cases hr with
 | raw h'=>exact .raw h'
 | tp hl hr =>
   refine .tp hl fun j v c a b=>?_
   have hc:=List.all_eq_true.1 (show List.all _ _=true from h) c (List.mem_of_getElem? b)
   have hrr:=hr j v c a b
   cases hrr with
   | raw h'=>exact .raw h'
   | _=>simp at hc
 | _=>cases h
theorem OL.lend {P:Program} {f:Nat} {fn:Func} {us as:List AV} {r:AV} {args:List Operand} {at_:Array TypeId} (hwk:Wk C ρ η ρ1 η1) (hs:Spec P f as [] r []) (hf:P.funcs[f]?=some fn) (k:OL C ops Q rest ((d,r)::ρ) η)
  (hP : C.P = P := by with_unfolding_all exact rfl) (hb : (fn.body.isNone || fn.name == "runtime.NumGoroutine") = false := by with_unfolding_all exact rfl) (hl : evs2 ρ1 args = some us := by with_unfolding_all exact rfl)
  (hle:LEs (ts []) us as:=by repeat' (first|with_unfolding_all exact trivial|exact LE.ren (by with_unfolding_all exact rfl)|with_unfolding_all exact LE.sl|with_unfolding_all exact LE.nil (by decide)|with_unfolding_all refine And.intro ?_ ?_)) (hd:Nat.blt d C.N=true:=by with_unfolding_all exact rfl) (hq:quietB r=true:=by with_unfolding_all exact rfl) :
  OL C ops Q (⟨some d,.call ⟨.value (.func f),args.toArray,at_⟩,T,pos,af,none⟩::rest) ρ η:=by
 subst hP
 rintro a w hA
 obtain ⟨m1,γ1,ρc1,hE1,hR1,hI1⟩:=hwk a w hA
 obtain ⟨m,γ,ρc,hE,hR,hI⟩:=hA
 obtain ⟨vs,h1,h2⟩:=hR1.evs hl
 obtain ⟨hsh,hH1,_⟩:=hI1.heap.sel (η':=[]) (σ:=[]) rfl trivial
 have hc:=hs m1 w _ vs hH1 (hle.vl hsh h2)
 simp at hb
 have hb':fn.body≠none:=Option.isSome_iff_ne_none.1 hb.1
 refine Cx.lcons (wl_call (f:=f) (args:=vs.toArray) rfl ?_ (hc.mono fun e w' ⟨v,m',γ1',he,hC,hv⟩=>⟨v,he,?_⟩))
 ·have he:a.eval (.func f)=.func (.func f) #[] #[]:=rfl
  simp [execOp,resolve,he,Deferred.ofValue,invoke,callFunc,hf,hb.2,hb',hE1.evs h1]
 ·have hfar:Far [] m1 w m' w':=hC.far
  have hk:Keep m w (fun b=>if b < w.heap.size then m b else m' b) w':=⟨hfar.keep.grown,fun b hb=>if_pos hb⟩
  have hext:=hk.ext
  exact k _ _ ⟨_,γ,_,hE.put v (by simpa using hd),⟨rfl,quiet_rep hq hv _ _ _,hR.mono hext (.refl _)⟩,hI.keep hk⟩
end
end Go.V
namespace Go.V
open Go Go.W
section
variable {C:Cx} {ρ:Ro} {η η2:Eta} {ops:Array Oper} {Q:Qt} {rest:List Oper} {T d X:Nat} {pos:String} {af:Array Edge} {x y:Operand}
theorem OL.make0 {E k:Nat} {i j:Int} {te:TyE} {zc:Value} (kk:OL C ops Q rest ((d,.hs k)::ρ) η2)
  (hs:(C.tab X).map (·.sh)=some (.slice E):=by with_unfolding_all exact rfl) (hE:C.tab E=some te:=by with_unfolding_all exact rfl) (hz:te.size=1:=by with_unfolding_all exact rfl) (hzc:te.zero.cells=#[zc]:=by with_unfolding_all exact rfl)
  (hx:ev2 ρ x=some (.raw (.int .i64 i)):=by with_unfolding_all exact rfl) (hy:ev2 ρ y=some (.raw (.int .i64 j)):=by with_unfolding_all exact rfl)
  (hk:η.length=k:=by (try dsimp only [List.length])<;>exact rfl) (hi:i=0:=by first|rfl|omega) (hj:j=0:=by first|rfl|omega) (hη:η++[.gs false E 1 (some false) []]=η2:=by (try dsimp only [List.cons_append,List.nil_append,List.append_eq])<;>exact rfl) (hd:Nat.blt d C.N=true:=by with_unfolding_all exact rfl) :
  OL C ops Q (⟨some d,.makeSlice X x y,T,pos,af,none⟩::rest) ρ η:=by
 rintro a w ⟨m,γ,ρc,hE',hR,hI⟩
 obtain ⟨inf,i1,i2,i3,i4,i5⟩:=(C.hT E te hE).info
 obtain ⟨dd,hu',hd'⟩:=shOf C.hT hs
 obtain rfl:dd=_:=hd'
 haveI:SliceTy C.P X E:=⟨hu'⟩
 haveI:ElemTy C.P E 1 te.bytes te.zero:=⟨inf,i1,i2.trans hz,i3,i4,i5.trans hz,Nat.one_pos⟩
 subst hi hj hη
 have hK:=Keep.alloc m w (.cells (List.replicate 0 zc).toArray E) 0
 have hl0:=hI.heap.len
 have hob:ownB (.slice (some ⟨w.heap.size,0,none⟩) 0 0)=none:=rfl
 refine Cx.lcons (wl_value (v:=.slice (some ⟨w.heap.size,0,none⟩) 0 0) (w':=w.alloc (.cells (List.replicate 0 zc).toArray E)) rfl ?_ (kk _ _ ⟨_,_,_,hE'.put _ (by simpa using hd),⟨rfl,.hs (by rw [← hk,← hl0];exact get_last),hR.mono hK.ext (.app _ _)⟩,
  hI.new hK ⟨⟨_,.inr (.inl ⟨_,_,rfl,rfl⟩),fun _ _=>rfl,fun b hb=>by rw [hob] at hb;cases hb⟩,⟨nofun,fun _=>by simp⟩,by simp⟩ (fun b hb=>by simp only [blk] at hb;rw [hob] at hb;cases hb)⟩))
 exact run_make1 (l:=0) (c:=0) hE' (hR.raw hx) (hR.raw hy) (Nat.le_refl _) hzc (by omega) (by omega)
theorem OL.mk {E k l:Nat} {i j:Int} {te:TyE} {zc:Value} {u u0:AV} (kk:OL C ops Q rest ((d,.hs k)::ρ) η2) (hu:∀ m w γ,Rep m w γ zc u0)
  (hs:(C.tab X).map (·.sh)=some (.slice E):=by with_unfolding_all exact rfl) (hE:C.tab E=some te:=by with_unfolding_all exact rfl) (hz:te.size=1:=by with_unfolding_all exact rfl) (hzc:te.zero.cells=#[zc]:=by with_unfolding_all exact rfl) (hone:zc.oneCell'=true:=by with_unfolding_all exact rfl) (hul:u.cells=[u0]:=by with_unfolding_all exact rfl)
  (hx:ev2 ρ x=some (.raw (.int .i64 i)):=by with_unfolding_all exact rfl) (hy:ev2 ρ y=some (.raw (.int .i64 j)):=by with_unfolding_all exact rfl)
  (hk:η.length=k:=by (try dsimp only [List.length])<;>exact rfl) (hi:i=(l:Int):=by first|rfl|omega) (hj:j=(l:Int):=by first|rfl|omega) (hη:η++[.gs false E 1 (some false) (List.replicate l u)]=η2:=by (try dsimp only [List.cons_append,List.nil_append,List.append_eq,List.replicate])<;>exact rfl) (hd:Nat.blt d C.N=true:=by with_unfolding_all exact rfl)
  (hc:l≤16777216:=by omega) (hbt:te.bytes*l≤16777216:=by (first|omega|(simp only [TyE.bytes];omega))) :
  OL C ops Q (⟨some d,.makeSlice X x y,T,pos,af,none⟩::rest) ρ η:=by
 by_cases h0:l=0
 ·subst h0
  exact OL.make0 kk hs hE hz hzc hx hy hk hi hj hη hd
 ·exact OL.make kk hu hs hE hz hzc hone hul hx hy hk hi hj hη hd (Nat.le_refl _) (by omega) hc hbt
end
end Go.V
namespace Go.V
open Go Go.W
theorem In.elemG {B m w γ} {η:Eta} {i k o T sz:Nat} {nl} {xs:List AV} {g n c:Nat} {vs:List Value} {us:List AV} {e e':AV} (hI:In B m w γ η) (hv:γ[i]?=some (.slice (some ⟨g,0,none⟩) n c)) (ho:η[i]?=some (.gw T sz nl xs)) (hk:xs[k]?=some e) (hC:CL γ m w vs us) (hou:o+us.length≤sz) (he:e'.cells=putA e.cells o us) :
  ∃ cur:List Value,w.heap[g]?=some (.cells cur.toArray T (0,0))∧k*sz+o+vs.length≤cur.length∧Ext m w m (w.setRow g (cur.take (k*sz+o)++vs++cur.drop (k*sz+o+vs.length)).toArray) ∧
   In B m (w.setRow g (cur.take (k*sz+o)++vs++cur.drop (k*sz+o+vs.length)).toArray) γ (η.set i (.gw T sz nl (xs.set k e'))):=by
 have hok:=hI.heap.ok i _ _ hv ho
 obtain ⟨hown,hnl,hlen⟩:=hok
 obtain ⟨m',hown,hm1,hm2⟩:=hown
 rcases hown with ⟨_,rfl⟩|⟨_,_,_,rfl⟩|⟨g',cap,cur,hve,h0,hg,h1,h2,h3,h4,h5⟩
 ·simp at hk
 ·simp at hk
 ·cases hve
  have hob:ownB (.slice (some ⟨g,0,none⟩) xs.length c)=some g:=by
   obtain ⟨c',rfl⟩:∃ c',c=c'+1:=⟨c-1,by omega⟩
   simp [ownB]
  have hB:Box m w g cur.toList T:=⟨by simpa using hg,hm2 g hob⟩
  have hkl:k < xs.length:=(List.getElem?_eq_some_iff.1 hk).1
  have hkc:(k+1)*sz≤c*sz:=Nat.mul_le_mul_right sz (by omega)
  have hks:(k+1)*sz=k*sz+sz:=Nat.succ_mul k sz
  have hvl:=hC.1
  have hbd:k*sz+o+vs.length≤cur.toList.length:=by simp;omega
  obtain ⟨t1,t2⟩:=setRow_box (vs:=cur.toList.take (k*sz+o)++vs++cur.toList.drop (k*sz+o+vs.length)) hB
  have hsl:=splice_len cur.toList vs (k*sz+o) hbd
  have hsg:=splice_get cur.toList vs (k*sz+o) hbd
  refine ⟨cur.toList,by simpa using hg,hbd,t1.ext,hI.put (o':=.gw T sz nl (xs.set k e')) hv ho (by simp only [blk];rw [hob];exact t1) ⟨?_,hnl,?_⟩ (.inl rfl)⟩
  ·refine ⟨m',.inr (.inr ⟨g,c,_,by simp,h0,t2.heap,by simpa using h1,h2,by rw [List.size_toArray,hsl];simpa using h3,by simpa using h4,fun i' x hx=>?_⟩),hm1,hm2⟩
   rw [List.getElem?_set] at hx
   split at hx
   ·rename_i hik
    subst hik
    cases hx
    obtain ⟨cs,a1,a2,a3⟩:=h5 k e hk
    have hcb:o+vs.length≤cs.length:=by omega
    have hcl:=splice_len cs vs o hcb
    have hcg:=splice_get cs vs o hcb
    have hec:e.cells.length=cs.length:=a3.1.symm
    have hul:us.length=vs.length:=hvl.symm
    refine ⟨cs.take o++vs++cs.drop (o+vs.length),by rw [hcl,a1],fun j cc hj=>?_,?_,fun q hq=>?_,fun j v cc hj hcc=>?_⟩
    ·rw [hcg] at hj
     simp only [List.getElem?_toArray]
     rw [hsg]
     split at hj
     ·rw [if_pos (by omega),Array.getElem?_toList];exact a2 j cc hj
     ·rename_i hn
      split at hj
      ·rw [if_neg (by omega),if_pos (by omega),show k*sz+j-(k*sz+o)=j-o by omega];exact hj
      ·rw [if_neg (by omega),if_neg (by omega),Array.getElem?_toList];exact a2 j cc hj
    ·rw [hcl,he,putA_len,hec]
    ·rcases List.mem_append.1 hq with hq|hq
     ·rcases List.mem_append.1 hq with hq|hq
      ·exact a3.2.1 q (List.mem_of_mem_take hq)
      ·exact hC.2.1 q hq
     ·exact a3.2.1 q (List.mem_of_mem_drop hq)
    ·rw [he,putA_get _ _ _ (by omega)] at hcc
     rw [hcg] at hj
     rw [hul] at hcc
     split at hj
     ·rename_i hn
      rw [if_pos hn] at hcc
      exact (a3.2.2 j v cc hj hcc).mono t1.ext (.refl _)
     ·rename_i hn
      rw [if_neg hn] at hcc
      split at hj
      ·rename_i hn2
       rw [if_pos hn2] at hcc
       exact (hC.2.2 (j-o) v cc hj hcc).mono t1.ext (.refl _)
      ·rename_i hn2
       rw [if_neg hn2] at hcc
       exact (a3.2.2 j v cc hj hcc).mono t1.ext (.refl _)
   ·rename_i hik
    obtain ⟨cs,a1,a2,a3⟩:=h5 i' x hx
    refine ⟨cs,a1,fun j cc hj=>?_,CL.mono t1.ext (.refl _) a3⟩
    have hjs:j < sz:=by rw [← a1];exact (List.getElem?_eq_some_iff.1 hj).1
    simp only [List.getElem?_toArray]
    rw [hsg]
    have hne:i'*sz+j < k*sz+o∨k*sz+o+vs.length≤i'*sz+j:=by
     rcases Nat.lt_or_gt_of_ne hik with h|h
     ·right
      have:=Nat.mul_le_mul_right sz (show k+1≤i' by omega)
      omega
     ·left
      have:=Nat.mul_le_mul_right sz (show i'+1≤k by omega)
      have h9:(i'+1)*sz=i'*sz+sz:=Nat.succ_mul i' sz
      omega
    rcases hne with h|h
    ·rw [if_pos h,Array.getElem?_toList];exact a2 j cc hj
    ·rw [if_neg (by omega),if_neg (by omega),Array.getElem?_toList];exact a2 j cc hj
  ·intro x hx
   rcases List.mem_or_eq_of_mem_set hx with h|h
   ·exact hlen x h
   ·rw [h,he,putA_len];exact hlen e (List.mem_of_getElem? hk)
theorem gwp_cells {m w γ η v} {i sz k o:Nat} {T nl} {xs:List AV} {e} (hH:Heap m w γ η) (h:Rep m w γ v (.gp i sz k o)) (hi:η[i]?=some (.gw T sz nl xs)) (he:xs[k]?=some e) :
  ∃ b vs,v=.pointer (some ⟨b,k*sz+o,none⟩)∧CL γ m w vs e.cells∧∀ {m' w'},Keep m w m' w'→∀ (j:Nat) c,vs[j]?=some c→w'.cell? ⟨b,k*sz+j,none⟩=some c:=by
 cases h with
 | gp h =>
   obtain ⟨⟨m1,ho,_,_⟩,_⟩:=hH.ok i _ _ h hi
   rcases ho with ⟨_,rfl⟩|⟨_,_,_,rfl⟩|⟨g,cap,cur,hv,h0,hg,h1,h2,h3,h4,h5⟩
   ·simp at he
   ·simp at he
   ·cases hv
    obtain ⟨cs,a1,a2,a3⟩:=h5 k e he
    refine ⟨_,cs,rfl,a3,fun {m' w'} hk j c hj=>?_⟩
    ·have hg':=hk.heap hg
     simp only [World.cell?,hg']
     simpa using a2 j c hj
theorem gw_size {m w γ η v} {i sz k o:Nat} {T nl} {xs:List AV} {e} (hH:Heap m w γ η) (h:Rep m w γ v (.gp i sz k o)) (hi:η[i]?=some (.gw T sz nl xs)) (he:xs[k]?=some e):e.cells.length=sz:=by
 cases h with
 | gp h=>exact (hH.ok i _ _ h hi).2.2 e (List.mem_of_getElem? he)
section
variable {P:Program} {tab:Tab} {N:Nat} {D:List Deferred} {ρ:Ro} {η:Eta} {X:Nat} {x y:Operand} {M:Bool}
theorem give_load_gw {i sz k o:Nat} {T nl} {xs:List AV} {e c:AV} (hT:TabOK P tab) (hs:(tab X).map (·.sh.agg)=some false) (hx:ev2 ρ x=some (.gp i sz k o)) (hi:η[i]?=some (.gw T sz nl xs)) (he:xs[k]?=some e) (hc:e.cells[o]?=some c):Gives P N D (.load X x) ρ η c:=fun _ _ _ _ _ hE hR hH=>by
 obtain ⟨v,h1,h2⟩:=hR.ev hx
 obtain ⟨b,vs,rfl,hC,hK⟩:=gwp_cells hH h2 hi he
 have hlt:o < vs.length:=by rw [hC.1];exact (List.getElem?_eq_some_iff.1 hc).1
 refine ⟨vs[o],hC.2.2 o _ _ (List.getElem?_eq_getElem hlt) hc,fun {m' w'} hk _ _ _ _ _=>?_⟩
 have hcell:=hK (hk rfl) o _ (List.getElem?_eq_getElem hlt)
 cases ht:tab X with
 | none=>rw [ht] at hs;cases hs
 | some te =>
   rw [ht] at hs
   simp at hs
   have hagg:=(hT X te ht).nagg hs
   simp [execOp,hE.ev h1,Instr.loadAt,Instr.sureAddr,loadVar,hagg,hcell]
theorem give_load_gwA {i sz k:Nat} {T nl} {xs:List AV} {cs:List AV} (hT:TabOK P tab) (hs:(tab X).map (fun e=>(e.sh.agg,e.size))=some (true,sz)) (hx:ev2 ρ x=some (.gp i sz k 0)) (hi:η[i]?=some (.gw T sz nl xs)) (he:xs[k]?=some (.st cs)):Gives P N D (.load X x) ρ η (.st cs):=fun _ _ _ _ _ hE hR hH=>by
 obtain ⟨v,h1,h2⟩:=hR.ev hx
 have hsz:=gw_size hH h2 hi he
 obtain ⟨b,vs,rfl,hC,hK⟩:=gwp_cells hH h2 hi he
 have hlen:vs.length=sz:=by rw [hC.1,hsz]
 refine ⟨.agg vs.toArray,.st hC.1 hC.2.1 hC.2.2,fun {m' w'} hk _ _ _ _ _=>?_⟩
 cases ht:tab X with
 | none=>rw [ht] at hs;cases hs
 | some te =>
   rw [ht] at hs
   simp at hs
   have hagg:=(hT X te ht).agg hs.1
   obtain ⟨inf,i1,i2,_⟩:=(hT X te ht).info
   have hl:=run_loadCells_list (P:=P) w' ⟨b,k*sz+0,none⟩ vs (fun j c hj=>by rw [Addr_add_lit,Nat.add_zero];exact hK (hk rfl) j c hj)
   rw [hlen] at hl
   have hq:inf.size=sz:=i2.trans hs.2
   simp only [Nat.add_zero] at hl
   simp [execOp,hE.ev h1,Instr.loadAt,Instr.sureAddr,loadVar,hagg,sizeOf,typeInfo,i1,hq,hl]
theorem give_len_gw {k:Nat} {T sz nl xs e} (hT:TabOK P tab) (hs:(tab X).map (·.sh)=some (.slice e)) (hx:ev2 ρ x=some (.hs k)) (hk:η[k]?=some (.gw T sz nl xs)):Gives P N D (.call ⟨.builtin .len,#[x],#[X]⟩) ρ η (.raw (.int .i64 xs.length)) M:=fun _ _ _ _ _ hE hR hH=>by
 obtain ⟨v,h1,h2⟩:=hR.ev hx
 obtain ⟨⟨m1,ho,_⟩,_⟩:=hH.ok k _ _ h2.hs_get.1 hk
 obtain ⟨b,cap,rfl,_⟩:=ho.rs.shape
 obtain ⟨d,hu,hd⟩:=shOf hT hs
 obtain rfl:d=_:=hd
 exact ⟨_,.raw rfl,fun _ _ _ _ _ _=>by simp [execOp,resolve,invoke,builtin,hE.ev h1,Builtin.len_,run_underlying hu,goInt]⟩
theorem give_idx_gw {i:Int} {k:Nat} {T sz nl xs E} {n:Nat} {e} (hT:TabOK P tab) (hs:(tab X).map (·.sh)=some (.slice E)) (hz:(tab E).map (·.size)=some sz) (hx:ev2 ρ x=some (.hs k)) (hk:η[k]?=some (.gw T sz nl xs)) (hy:ev2 ρ y=some (.raw (.int .i64 i))) (hi:i=(n:Nat)) (he:xs[n]?=some e) :
  Gives P N D (.indexAddr X x y) ρ η (.gp k sz n 0) M:=fun m w γ ρc a hE hR hH=>by
 obtain ⟨v,h1,h2⟩:=hR.ev hx
 obtain ⟨d,hu,hd⟩:=shOf hT hs
 obtain rfl:d=_:=hd
 obtain ⟨inf,i1,i2⟩:=sizeOf' hT hz
 obtain ⟨hg,_⟩:=h2.hs_get
 obtain ⟨⟨m1,ho,_⟩,_⟩:=hH.ok k _ _ hg hk
 subst hi
 have hlt:n < xs.length:=(List.getElem?_eq_some_iff.1 he).1
 rcases ho with ⟨_,rfl⟩|⟨_,_,_,rfl⟩|⟨g,cap,cur,rfl,_⟩
 ·simp at he
 ·simp at he
 refine ⟨.pointer (some ⟨g,n*sz+0,none⟩),.gp hg,fun _ _ _ _ _ _=>?_⟩
 simp [execOp,hE.ev h1,hE.ev (hR.raw hy),Instr.indexAt,asIntOf,run_underlying hu,sizeOf,typeInfo,i1,i2,Addr_add_lit,hlt]
end
section
variable {C:Cx} {ops:Array Oper} {Q:Qt} {ρ ρ':Ro} {η η' η2:Eta} {rest:List Oper} {T d X Y:Nat} {pos:String} {af:Array Edge} {op:Op} {x y z:Operand} {A K:Code} {e:Exit}
theorem Wk.toG {i E sz:Nat} {nl} {xs:List AV} (ho:η[i]?=some (.gs false E sz nl xs)):Wk C ρ η ρ (η.set i (.gw E sz nl xs)):=by
 rintro a w ⟨m,γ,ρc,hE,hR,hI⟩
 obtain ⟨v,hv,h1,h2,h3⟩:=hI.heap.get ho
 exact ⟨m,γ,ρc,hE,hR,hI.put (o':=.gw E sz nl xs) hv ho ((Keep.refl m w).touch _) ⟨OwnX.toG γ (by simpa using h1),h2,h3⟩ (.inl rfl)⟩
theorem Wk.ofG {i E sz:Nat} {nl} {xs:List AV} (ho:η[i]?=some (.gw E sz nl xs)) (hp:∀ x∈xs,x.cells.all pureA=true):Wk C ρ η ρ (η.set i (.gs false E sz nl xs)):=by
 rintro a w ⟨m,γ,ρc,hE,hR,hI⟩
 obtain ⟨v,hv,⟨m',h1,q1,q2⟩,h2,h3⟩:=hI.heap.get ho
 refine ⟨m,γ,ρc,hE,hR,hI.put (o':=.gs false E sz nl xs) hv ho ((Keep.refl m w).touch _) ⟨?_,h2,h3⟩ (.inl rfl)⟩
 simp only [Bool.false_eq_true,if_false]
 refine ⟨m',?_,q1,q2⟩
 rcases h1 with ⟨e1,rfl⟩|⟨b,o,e1,rfl⟩|⟨g,cap,cur,hv,h0,hg,k1,k2,k3,k4,k5⟩
 ·exact .inl ⟨e1,rfl⟩
 ·exact .inr (.inl ⟨b,o,e1,rfl⟩)
 ·refine .inr (.inr ⟨g,cap,cur,hv,h0,hg,k1,k2,k3,k4,fun i x hx=>?_⟩)
  obtain ⟨cs,a,b,c⟩:=k5 i x hx
  exact ⟨cs,a,b,c.1,c.2.1,fun j v c' a1 a2=>pureA_rep (c.2.2 j v c' a1 a2) (List.all_eq_true.1 (hp x (List.mem_of_getElem? hx)) c' (List.mem_of_getElem? a2))⟩
theorem Wk.viewEl {i j n o E sz E2 sz2:Nat} {nl} {fz nl2} {xs ys cs:List AV} (ho:η[i]?=some (.gw E sz nl xs)) (hn:xs[n]?=some (.st cs)) (hc:cs[o]?=some (.hs j)) (hj:η[j]?=some (.gs fz E2 sz2 nl2 ys)):Wk C ρ η ρ ((η.set j (.gs true E2 sz2 nl2 ys)).set i (.gw E sz nl (xs.set n (.st (cs.set o (.sl sz2 none ys)))))):=by
 rintro a w ⟨m,γ,ρc,hE,hR,hI⟩
 obtain ⟨u,hu,_⟩:=hI.heap.get hj
 obtain ⟨m',h1,h2,h3⟩:=hI.freeze hu hj
 have hne:j≠i:=fun e=>by subst e;rw [ho] at hj;cases hj
 have ho':(η.set j (.gs true E2 sz2 nl2 ys))[i]?=some (.gw E sz nl xs):=by rw [List.getElem?_set_ne hne];exact ho
 obtain ⟨v,hv,⟨m1,q1,q2,q3⟩,q4,q5⟩:=h3.heap.get ho'
 refine ⟨m',γ,ρc,hE,hR.mono h1 (.refl _),h3.put (o':=.gw E sz nl (xs.set n (.st (cs.set o (.sl sz2 none ys))))) hv ho' ((Keep.refl m' w).touch _) ⟨⟨m1,?_,q2,q3⟩,q4,fun x hx=>?_⟩ (.inl rfl)⟩
 ·rcases q1 with ⟨e1,rfl⟩|⟨b,o,e1,rfl⟩|⟨g,cap,cur,hv,h0,hg,k1,k2,k3,k4,k5⟩
  ·simp at hn
  ·simp at hn
  ·refine .inr (.inr ⟨g,cap,cur,by simpa using hv,h0,hg,by simpa using k1,k2,k3,by simpa using k4,fun i' x hx=>?_⟩)
   rw [List.getElem?_set] at hx
   split at hx
   ·rename_i e
    subst e
    split at hx
    ·cases hx
     obtain ⟨vs,a,b,c⟩:=k5 n _ hn
     refine ⟨vs,a,b,by rw [c.1];simp [AV.cells],c.2.1,fun q v c' a1 a2=>?_⟩
     simp only [AV.cells] at a2
     rw [List.getElem?_set] at a2
     split at a2
     ·rename_i e2
      subst e2
      split at a2
      ·cases a2
       have:=c.2.2 o v (.hs j) a1 hc
       have hvu:v=u:=by
        have:=this.hs_get.1
        rw [hu] at this;cases this;rfl
       subst hvu
       exact Rep.of_rs h2.rs (NL.none _)
      ·cases a2
     ·exact c.2.2 q v c' a1 a2
    ·cases hx
   ·exact k5 i' x hx
 ·rcases List.mem_or_eq_of_mem_set hx with h|h
  ·exact q5 x h
  ·rw [h]
   have:=q5 _ (List.mem_of_getElem? hn)
   simpa [AV.cells] using this
theorem OL.storeW {i k o E sz:Nat} {nl} {xs:List AV} {e e' u:AV} (kk:OL C ops Q rest ρ η2) (hs:(C.tab X).map (fun e=>(e.sh.agg,e.size))=some (false,1):=by with_unfolding_all exact rfl) (hx:ev2 ρ x=some (.gp i sz k o):=by with_unfolding_all exact rfl) (hy:ev2 ρ y=some u:=by with_unfolding_all exact rfl) (hu:okc u=true:=by with_unfolding_all exact rfl) (hu1:u.cells=[u]:=by with_unfolding_all exact rfl)
  (ho:η[i]?=some (.gw E sz nl xs):=by with_unfolding_all exact rfl) (hk:xs[k]?=some e:=by first|exact map_get (by omega)|exact List.getElem?_eq_getElem (by omega)) (he:e'.cells=putA e.cells o [u]:=by with_unfolding_all exact rfl) (hou:o+1≤sz:=by with_unfolding_all decide) (hη:η.set i (.gw E sz nl (xs.set k e'))=η2:=by (try dsimp only [List.set])<;>exact rfl) :
  OL C ops Q (⟨none,.store X x y,T,pos,af,none⟩::rest) ρ η:=by
 rintro a w ⟨m,γ,ρc,hE,hR,hI⟩
 obtain ⟨v1,g1,g2⟩:=hR.ev hx
 cases g2 with
 | @gp _ _ _ _ _ b n c hb =>
 obtain ⟨v0,g3,g4⟩:=hR.ev hy
 have h1:v0.oneCell'=true:=by
  rcases g4.one hu with h|⟨cs,h⟩
  ·exact h
  ·subst h
   simp only [AV.cells] at hu1
   cases hu1
 have hC:CL γ m w [v0] [u]:=by
  refine ⟨rfl,by simpa using h1,fun j u' c hu' hc=>?_⟩
  have:j=0:=by
   have:=(List.getElem?_eq_some_iff.1 hu').1
   simp at this;omega
  subst this
  simp at hu' hc
  subst hu' hc
  exact g4
 obtain ⟨cur,hg,hbd,hext,hI'⟩:=hI.elemG (o:=o) (e':=e') hb ho hk hC hou he
 subst hη
 cases ht:C.tab X with
 | none=>rw [ht] at hs;cases hs
 | some te =>
   rw [ht] at hs
   simp at hs
   obtain ⟨inf,i1,i2,i3,i4,i5⟩:=(C.hT X te ht).info
   have hst:=run_storeCells_at C.P b (k*sz+o) E [v0] 0 cur.toArray w hg (by simpa using hbd) (by simpa using h1)
   simp only [Nat.add_zero] at hst
   refine Cx.lcons (wl_skip (w':=w.setRow b (cur.take (k*sz+o)++[v0]++cur.drop (k*sz+o+[v0].length)).toArray) rfl ?_ (kk _ _ ⟨m,γ,ρc,by simpa [Act.put] using hE,hR.mono hext (.refl _),hI'⟩))
   have hq:inf.size=1:=by omega
   have hcl:=cells_one h1
   simp [execOp,hE.ev g1,hE.ev g3,Instr.storeAt,Instr.sureAddr,storeVar,sizeOf,typeInfo,i1,hq,hcl]
   simp at hst
   rw [hst]
   simp [Result.andThen]
end
end Go.V
namespace Go.V
open Go Go.W
section
variable {C:Cx} {ops:Array Oper} {Q:Qt} {ρ ρ':Ro} {η η' η2:Eta} {rest:List Oper} {T T2 d X:Nat} {pos pos2:String} {af af2:Array Edge} {x y:Operand}
theorem OL.cut {i k E sz n:Nat} {nl} {xs:List AV} (kk:OL C ops Q rest ((d,.hs k)::ρ) η2) (hs:(C.tab X).map (·.sh)=some (.slice E):=by with_unfolding_all exact rfl) (hz:(C.tab E).map (·.size)=some sz:=by with_unfolding_all exact rfl)
  (hx:ev2 ρ x=some (.hs i):=by with_unfolding_all exact rfl) (hy:ev2 ρ y=some (.raw (.int .i64 n)):=by with_unfolding_all exact rfl) (ho:η[i]?=some (.gs false E sz nl xs):=by with_unfolding_all exact rfl) (hk:η.length=k:=by (try dsimp only [List.length])<;>exact rfl)
  (hη:η.set i .dead++[.gs false E sz none (xs.take n)]=η2:=by (try dsimp only [List.set,List.cons_append,List.nil_append,List.append_eq])<;>exact rfl) (hn:n≤xs.length:=by first|omega|(simp only [List.length_map];omega)) (hd:Nat.blt d C.N=true:=by with_unfolding_all exact rfl) :
  OL C ops Q (⟨some d,.slice X x none (some y) none,T,pos,af,none⟩::rest) ρ η:=by
 rintro a w ⟨m,γ,ρc,hE,hR,hI⟩
 obtain ⟨v,g1,g2⟩:=hR.ev hx
 obtain ⟨hg,_⟩:=g2.hs_get
 have g3:=hR.raw hy
 obtain ⟨dd,hu,hd'⟩:=shOf C.hT hs
 obtain rfl:dd=_:=hd'
 obtain ⟨inf,i1,i2⟩:=sizeOf' C.hT hz
 have hl:=hI.heap.len
 obtain ⟨⟨m',hown,hm1,hm2⟩,_,hcl⟩:=hI.heap.ok i _ _ hg ho
 subst hk hη
 rcases hown with ⟨rfl,rfl⟩|⟨b,o,rfl,rfl⟩|⟨g,cap,cur,rfl,h0,hgc,h1,h2,h3,h4,h5⟩
 ·obtain rfl:n=0:=by simpa using hn
  refine Cx.lcons (wl_value (v:=.slice none 0 0) (w':=w) rfl ?_ (kk _ _ ⟨m,γ++[.slice none 0 0],_,hE.put _ (by simpa using hd),⟨rfl,.hs (by rw [← hl];exact get_last),hR.mono (.refl _ _) (.app _ _)⟩,
   hI.over (v':=.slice none 0 0) (o':=.gs false E sz none (List.take 0 [])) hg ho ((Keep.refl m w).touch _) ⟨⟨m,.inl ⟨rfl,by simp⟩,fun _ _=>rfl,fun b hb=>by simp [ownB] at hb⟩,NL.none _,by simp⟩ (fun b hb=>by simp [blk,ownB] at hb)⟩))
  simp [execOp,hE.ev g1,hE.ev g3,Instr.sliceAt,Instr.slice,run_underlying hu,Instr.sliceBounds,Instr.sliceBound,asIntOf,sizeOf,typeInfo,i1]
 ·obtain rfl:n=0:=by simpa using hn
  refine Cx.lcons (wl_value (v:=.slice (some ⟨b,o,none⟩) 0 0) (w':=w) rfl ?_ (kk _ _ ⟨m,γ++[.slice (some ⟨b,o,none⟩) 0 0],_,hE.put _ (by simpa using hd),⟨rfl,.hs (by rw [← hl];exact get_last),hR.mono (.refl _ _) (.app _ _)⟩,
   hI.over (v':=.slice (some ⟨b,o,none⟩) 0 0) (o':=.gs false E sz none (List.take 0 [])) hg ho ((Keep.refl m w).touch _) ⟨⟨m,.inr (.inl ⟨b,o,rfl,by simp⟩),fun _ _=>rfl,fun b hb=>by simp [ownB] at hb⟩,NL.none _,by simp⟩ (fun b hb=>by simp [blk,ownB] at hb)⟩))
  simp [execOp,hE.ev g1,hE.ev g3,Instr.sliceAt,Instr.slice,run_underlying hu,Instr.sliceBounds,Instr.sliceBound,asIntOf,sizeOf,typeInfo,i1]
 ·have hob:∀ q,ownB (.slice (some ⟨g,0,none⟩) q cap)=some g:=fun q=>by
   obtain ⟨c',rfl⟩:∃ c',cap=c'+1:=⟨cap-1,by omega⟩
   simp [ownB]
  have hnl:(xs.take n).length=n:=by simp;omega
  refine Cx.lcons (wl_value (v:=.slice (some ⟨g,0,none⟩) n cap) (w':=w) rfl ?_ (kk _ _ ⟨m,γ++[.slice (some ⟨g,0,none⟩) n cap],_,hE.put _ (by simpa using hd),⟨rfl,.hs (by rw [← hl];exact get_last),hR.mono (.refl _ _) (.app _ _)⟩,
   hI.over (v':=.slice (some ⟨g,0,none⟩) n cap) (o':=.gs false E sz none (xs.take n)) hg ho ((Keep.refl m w).touch _) ⟨⟨mset m' g (n*sz),.inr (.inr ⟨g,cap,cur,by rw [hnl],h0,hgc,by omega,h2,h3,by rw [hnl];simp,fun j e he=>?_⟩),fun b hb=>?_,fun b hb=>?_⟩,NL.none _,fun e he=>hcl e (List.mem_of_mem_take he)⟩ (fun b hb=>?_)⟩))
  ·have hcap:n≤cap:=by omega
   have hc0:¬ cap=0:=by omega
   have hml:maxLen=9223372036854775807:=rfl
   simp [execOp,hE.ev g1,hE.ev g3,Instr.sliceAt,Instr.slice,run_underlying hu,Instr.sliceBounds,Instr.sliceBound,asIntOf,sizeOf,typeInfo,i1,hcap,hc0,Addr_add_lit]
  ·rw [List.getElem?_take] at he
   split at he
   ·exact h5 j e he
   ·cases he
  ·rw [hob] at hb
   rw [mset_ne (fun e=>hb (by rw [e]))]
   exact hm1 b (by rw [hob];exact hb)
  ·rw [hob] at hb;cases hb
   exact hm2 g (hob _)
  ·simp only [blk] at hb ⊢
   rw [hob] at hb ⊢
   exact .inl hb
end
end Go.V
namespace Go.V
open Go Go.W
section
variable {C:Cx} {ops:Array Oper} {Q:Qt} {ρ ρ':Ro} {η η' η2:Eta} {rest:List Oper} {T d X Y:Nat} {pos:String} {af:Array Edge} {op:Op} {x y z:Operand} {A K:Code} {e:Exit}
theorem OL.lenW {i E sz:Nat} {nl} {xs:List AV} {F:Nat} (k:OL C ops Q rest ((d,.raw (.int .i64 xs.length))::ρ) η) (hs:(C.tab X).map (·.sh)=some (.slice F):=by with_unfolding_all exact rfl) (hx:ev2 ρ x=some (.hs i):=by with_unfolding_all exact rfl) (ho:η[i]?=some (.gw E sz nl xs):=by with_unfolding_all exact rfl) (hd:Nat.blt d C.N=true:=by with_unfolding_all exact rfl) :
  OL C ops Q (⟨some d,.call ⟨.builtin .len,#[x],#[X]⟩,T,pos,af,none⟩::rest) ρ η:=OL.give (give_len_gw C.hT hs hx ho) hd k
theorem OL.idxW {j:Int} {i n E sz F:Nat} {nl} {xs:List AV} {e:AV} (k:OL C ops Q rest ((d,.gp i sz n 0)::ρ) η) (hs:(C.tab X).map (·.sh)=some (.slice E):=by with_unfolding_all exact rfl) (hz:(C.tab E).map (·.size)=some sz:=by with_unfolding_all exact rfl) (hx:ev2 ρ x=some (.hs i):=by with_unfolding_all exact rfl) (ho:η[i]?=some (.gw F sz nl xs):=by with_unfolding_all exact rfl)
  (hy:ev2 ρ y=some (.raw (.int .i64 j)):=by with_unfolding_all exact rfl) (hj:j=(n:Nat):=by with_unfolding_all exact rfl) (he:xs[n]?=some e:=by first|with_unfolding_all exact rfl|exact map_get (by omega)|exact List.getElem?_eq_getElem (by omega)) (hd:Nat.blt d C.N=true:=by with_unfolding_all exact rfl) :
  OL C ops Q (⟨some d,.indexAddr X x y,T,pos,af,none⟩::rest) ρ η:=OL.give (give_idx_gw C.hT hs hz hx ho hy hj he) hd k
theorem OL.ldW {i k o E sz:Nat} {nl} {xs:List AV} {e c:AV} (kk:OL C ops Q rest ((d,c)::ρ) η) (hs:(C.tab X).map (·.sh.agg)=some false:=by with_unfolding_all exact rfl) (hx:ev2 ρ x=some (.gp i sz k o):=by with_unfolding_all exact rfl) (ho:η[i]?=some (.gw E sz nl xs):=by with_unfolding_all exact rfl)
  (he:xs[k]?=some e:=by first|with_unfolding_all exact rfl|exact map_get (by omega)|exact List.getElem?_eq_getElem (by omega)) (hc:e.cells[o]?=some c:=by with_unfolding_all exact rfl) (hd:Nat.blt d C.N=true:=by with_unfolding_all exact rfl) :
  OL C ops Q (⟨some d,.load X x,T,pos,af,none⟩::rest) ρ η:=OL.give (give_load_gw C.hT hs hx ho he hc) hd kk
theorem OL.ldWA {i k E sz:Nat} {nl} {xs cs:List AV} (kk:OL C ops Q rest ((d,.st cs)::ρ) η) (hs:(C.tab X).map (fun e=>(e.sh.agg,e.size))=some (true,sz):=by with_unfolding_all exact rfl) (hx:ev2 ρ x=some (.gp i sz k 0):=by with_unfolding_all exact rfl) (ho:η[i]?=some (.gw E sz nl xs):=by with_unfolding_all exact rfl)
  (he:xs[k]?=some (.st cs):=by first|with_unfolding_all exact rfl|exact map_get (by omega)|exact List.getElem?_eq_getElem (by omega)) (hd:Nat.blt d C.N=true:=by with_unfolding_all exact rfl) :
  OL C ops Q (⟨some d,.load X x,T,pos,af,none⟩::rest) ρ η:=OL.give (give_load_gwA C.hT hs hx ho he) hd kk
theorem OL.storeW1 {i k E:Nat} {nl} {xs:List AV} {e u:AV} (kk:OL C ops Q rest ρ η2) (hs:(C.tab X).map (fun e=>(e.sh.agg,e.size))=some (false,1):=by with_unfolding_all exact rfl) (hx:ev2 ρ x=some (.gp i 1 k 0):=by with_unfolding_all exact rfl) (hy:ev2 ρ y=some u:=by with_unfolding_all exact rfl) (hu:okc u=true:=by with_unfolding_all exact rfl) (hu1:u.cells=[u]:=by with_unfolding_all exact rfl)
  (ho:η[i]?=some (.gw E 1 nl xs):=by with_unfolding_all exact rfl) (hk:xs[k]?=some e:=by first|with_unfolding_all exact rfl|exact map_get (by omega)|exact List.getElem?_eq_getElem (by omega)) (he:e.cells=[e]:=by with_unfolding_all exact rfl) (hη:η.set i (.gw E 1 nl (xs.set k u))=η2:=by (try dsimp only [List.set])<;>exact rfl) :
  OL C ops Q (⟨none,.store X x y,T,pos,af,none⟩::rest) ρ η:=OL.storeW (e':=u) kk hs hx hy hu hu1 ho hk (by rw [hu1,he];rfl) (by decide) hη
end
end Go.V
namespace Go.V
open Go Go.W
section
variable {C:Cx} {ops:Array Oper} {Q:Qt} {ρ ρ':Ro} {η η' η2:Eta} {rest:List Oper} {T d X Y:Nat} {pos:String} {af:Array Edge} {op:Op} {x y z:Operand} {A K:Code} {e:Exit}
def rvG (tmps:Array Value) (rv:ResultVar):Sem Value:=match rv with
 | .tmp t=>pure (tmps.getD t undef)
 | .cell p t=>do loadVar t (← asAddr (tmps.getD p undef))
theorem results_eq (fn:Func) (tmps:Array Value):results fn tmps=(do
  let vs ← fn.results.mapM (rvG tmps)
  pure (if h:vs.size=1 then vs[0] else .tuple vs)):=by
 unfold results
 congr 1
def RV (C:Cx) (ρ:Ro) (η:Eta):ResultVar→AV→Prop
 | .tmp t,u=>lk ρ t=some u
 | .cell t X,u=>∃ i E n cs,lk ρ t=some (.bp i 0)∧(C.tab X).map (fun e=>(e.sh.agg,e.size))=some (true,n)∧η[i]?=some (.cb E cs)∧cs.length=n∧u=.st cs
theorem RV.run {rv:ResultVar} {u:AV} {m w γ ρc N D a} (h:RV C ρ η rv u) (hE:Env N D a ρc) (hR:RL m w γ ρc ρ) (hH:Heap m w γ η) :
  ∃ v,(rvG a.tmps rv).run C.P w=.ok v w∧Rep m w γ v u:=by
 cases rv with
 | tmp t =>
   obtain ⟨v,h1,h2⟩:=hR.look h
   have hg:=hE.get h1
   exact ⟨v,by simp only [rvG,hg];rfl,h2⟩
 | cell t X =>
   obtain ⟨i,E,n,cs,hx,hs,hb,hl,rfl⟩:=h
   obtain ⟨v,h1,h2⟩:=hR.look hx
   cases h2 with
   | @bp _ _ _ b hb' =>
   obtain ⟨b',vs,e,hB,hC⟩:=hH.ok i _ _ hb' hb
   cases e
   cases ht:C.tab X with
   | none=>rw [ht] at hs;cases hs
   | some te =>
     rw [ht] at hs
     simp at hs
     obtain ⟨dd,hu,hd⟩:=(C.hT X te ht).sh
     obtain ⟨inf,i1,i2,_⟩:=(C.hT X te ht).info
     have hvl:vs.length=te.size:=by rw [hC.1,hl,hs.2]
     refine ⟨.agg vs.toArray,?_,.st hC.1 hC.2.1 hC.2.2⟩
     have hagg:=(C.hT X te ht).agg hs.1 w
     have hll:=run_loadCells_list (P:=C.P) w ⟨b,0,none⟩ vs (fun j c hj=>by rw [Addr_add_lit,Nat.zero_add];exact hB.cell hj)
     have hl':(loadCells ⟨b,0,none⟩ te.size).run C.P w=.ok vs.toArray w:=by rw [← hvl];simpa using hll
     have hg:=hE.get h1
     have hlv:(loadVar X ⟨b,0,none⟩).run C.P w=.ok (.agg vs.toArray) w:=by simp [loadVar,hagg,sizeOf,typeInfo,i1,i2,hl']
     simp only [rvG,hg]
     simp [asAddr,hlv]
theorem TX.res2 {fn:Func} {v1 v2:ResultVar} {u1 u2 r1 r2:AV} (σ:List Nat) (hD:C.D=[]) (hres:fn.results=#[v1,v2]) (h1:RV C ρ η v1 u1) (h2:RV C ρ η v2 u2) (hn:nodB σ=true) (hp:preB C.n 0 σ=true) (ho:SubO (ts σ) η σ η') (hle1:LE (ts σ) u1 r1) (hle2:LE (ts σ) u2 r2) :
  TX C (bodyPost C.P fn (PostB C.B (.tp [r1,r2]) η')) .ret ρ η:=by
 rintro a w ⟨m,γ,ρc,hE,hR,hI⟩
 obtain ⟨w1,a1,b1⟩:=h1.run hE hR hI.heap
 obtain ⟨w2,a2,b2⟩:=h2.run hE hR hI.heap
 obtain ⟨γ',g1,g2⟩:=hI.sel C.hn hn hp ho
 rw [hD] at hE
 refine bodyPost_ret (v:=.tuple #[w1,w2]) ?_ hE.defers ⟨_,m,γ',rfl,g2,.tp (vs:=[w1,w2]) rfl fun j v c hv hc=>?_⟩
 ·rw [results_eq,hres]
  simp [a1,a2]
 match j with
 | 0=>simp at hv hc;subst hv hc;exact hle1 _ _ _ _ g1 _ b1
 | 1=>simp at hv hc;subst hv hc;exact hle2 _ _ _ _ g1 _ b2
 | j+2=>simp at hv
theorem TX.res3 {fn:Func} {v1 v2 v3:ResultVar} {u1 u2 u3 r1 r2 r3:AV} (σ:List Nat) (hD:C.D=[]) (hres:fn.results=#[v1,v2,v3]) (h1:RV C ρ η v1 u1) (h2:RV C ρ η v2 u2) (h3:RV C ρ η v3 u3) (hn:nodB σ=true) (hp:preB C.n 0 σ=true) (ho:SubO (ts σ) η σ η') (hle1:LE (ts σ) u1 r1) (hle2:LE (ts σ) u2 r2) (hle3:LE (ts σ) u3 r3) :
  TX C (bodyPost C.P fn (PostB C.B (.tp [r1,r2,r3]) η')) .ret ρ η:=by
 rintro a w ⟨m,γ,ρc,hE,hR,hI⟩
 obtain ⟨w1,a1,b1⟩:=h1.run hE hR hI.heap
 obtain ⟨w2,a2,b2⟩:=h2.run hE hR hI.heap
 obtain ⟨w3,a3,b3⟩:=h3.run hE hR hI.heap
 obtain ⟨γ',g1,g2⟩:=hI.sel C.hn hn hp ho
 rw [hD] at hE
 refine bodyPost_ret (v:=.tuple #[w1,w2,w3]) ?_ hE.defers ⟨_,m,γ',rfl,g2,.tp (vs:=[w1,w2,w3]) rfl fun j v c hv hc=>?_⟩
 ·rw [results_eq,hres]
  simp [a1,a2,a3]
 match j with
 | 0=>simp at hv hc;subst hv hc;exact hle1 _ _ _ _ g1 _ b1
 | 1=>simp at hv hc;subst hv hc;exact hle2 _ _ _ _ g1 _ b2
 | 2=>simp at hv hc;subst hv hc;exact hle3 _ _ _ _ g1 _ b3
 | j+3=>simp at hv
theorem TX.res4 {fn:Func} {v1 v2 v3 v4:ResultVar} {u1 u2 u3 u4 r1 r2 r3 r4:AV} (σ:List Nat) (hD:C.D=[]) (hres:fn.results=#[v1,v2,v3,v4]) (h1:RV C ρ η v1 u1) (h2:RV C ρ η v2 u2) (h3:RV C ρ η v3 u3) (h4:RV C ρ η v4 u4) (hn:nodB σ=true) (hp:preB C.n 0 σ=true) (ho:SubO (ts σ) η σ η') (hle1:LE (ts σ) u1 r1) (hle2:LE (ts σ) u2 r2) (hle3:LE (ts σ) u3 r3) (hle4:LE (ts σ) u4 r4) :
  TX C (bodyPost C.P fn (PostB C.B (.tp [r1,r2,r3,r4]) η')) .ret ρ η:=by
 rintro a w ⟨m,γ,ρc,hE,hR,hI⟩
 obtain ⟨w1,a1,b1⟩:=h1.run hE hR hI.heap
 obtain ⟨w2,a2,b2⟩:=h2.run hE hR hI.heap
 obtain ⟨w3,a3,b3⟩:=h3.run hE hR hI.heap
 obtain ⟨w4,a4,b4⟩:=h4.run hE hR hI.heap
 obtain ⟨γ',g1,g2⟩:=hI.sel C.hn hn hp ho
 rw [hD] at hE
 refine bodyPost_ret (v:=.tuple #[w1,w2,w3,w4]) ?_ hE.defers ⟨_,m,γ',rfl,g2,.tp (vs:=[w1,w2,w3,w4]) rfl fun j v c hv hc=>?_⟩
 ·rw [results_eq,hres]
  simp [a1,a2,a3,a4]
 match j with
 | 0=>simp at hv hc;subst hv hc;exact hle1 _ _ _ _ g1 _ b1
 | 1=>simp at hv hc;subst hv hc;exact hle2 _ _ _ _ g1 _ b2
 | 2=>simp at hv hc;subst hv hc;exact hle3 _ _ _ _ g1 _ b3
 | 3=>simp at hv hc;subst hv hc;exact hle4 _ _ _ _ g1 _ b4
 | j+4=>simp at hv
theorem Wk.viewS {t i o:Nat} {fz E sz nl} {xs cs:List AV} (hx:lk ρ t=some (.st cs)) (hc:cs[o]?=some (.hs i)) (ho:η[i]?=some (.gs fz E sz nl xs)):Wk C ρ η ((t,.st (cs.set o (.sl sz none xs)))::ρ) (η.set i (.gs true E sz nl xs)):=by
 rintro a w ⟨m,γ,ρc,hE,hR,hI⟩
 obtain ⟨v,hv,hok⟩:=hI.heap.get ho
 obtain ⟨m',h1,h2,h3⟩:=hI.freeze hv ho
 obtain ⟨u,g1,g2⟩:=hR.look hx
 have g3:=g2.mono h1 (.refl _)
 cases g2 with
 | @st _ vs _ hl k1 k2 =>
 refine ⟨m',γ,(t,.agg vs.toArray)::ρc,⟨hE.size,hE.defers,fun s q hs=>?_⟩,⟨rfl,.st (by simpa using hl) k1 (fun j p c hp hcc=>?_),hR.mono h1 (.refl _)⟩,h3⟩
 ·simp only [W.look] at hs
  cases hb:Nat.beq t s with
  | true =>
    rw [hb] at hs
    simp at hs
    subst hs
    rw [← Nat.eq_of_beq_eq_true hb]
    exact hE.look _ _ g1
  | false=>rw [hb] at hs;exact hE.look _ _ (by simpa using hs)
 ·rw [List.getElem?_set] at hcc
  split at hcc
  ·rename_i e
   subst e
   split at hcc
   ·cases hcc
    have:=(k2 o p (.hs i) hp hc).hs_get.1
    rw [hv] at this;cases this
    exact Rep.of_rs h2.rs (NL.none _)
   ·cases hcc
  ·exact (k2 j p c hp hcc).mono h1 (.refl _)
theorem OL.vwS {i E sz:Nat} {fz nl} {xs cs us:List AV} (t o:Nat) (k:OL C ops Q rest ((t,.st us)::ρ) η2) (hx:lk ρ t=some (.st cs):=by with_unfolding_all exact rfl) (hc:cs[o]?=some (.hs i):=by with_unfolding_all exact rfl) (ho:η[i]?=some (.gs fz E sz nl xs):=by with_unfolding_all exact rfl) (hu:cs.set o (.sl sz none xs)=us:=by (try dsimp only [List.set])<;>exact rfl) (hη:η.set i (.gs true E sz nl xs)=η2:=by (try dsimp only [List.set])<;>exact rfl):OL C ops Q rest ρ η:=OL.wk (Wk.viewS hx hc ho) (by rw [hu,hη];exact k)
theorem give_load_mid {P:Program} {tab:Tab} {N:Nat} {D:List Deferred} {u} {cs us:List AV} {o n:Nat} (hT:TabOK P tab) (hs:(tab X).map (fun e=>(e.sh.agg,e.size))=some (true,n)) (hx:ev2 ρ x=some u) (hb:behind η u=some (cs,o)) (hu:(cs.drop o).take n=us) (hn:us.length=n):Gives P N D (.load X x) ρ η (.st us):=fun _ _ _ _ _ hE hR hH=>by
 obtain ⟨v,h1,h2⟩:=hR.ev hx
 obtain ⟨b,q,vs,rfl,hC,hK⟩:=behind_rep hH h2 hb
 subst hu
 have hlen:((vs.drop o).take n).length=n:=by
  rw [List.length_take,List.length_drop] at hn ⊢
  rw [hC.1];exact hn
 have hj:∀ (j:Nat) (l:List AV) (c:AV),((l.drop o).take n)[j]?=some c→l[o+j]?=some c:=fun j l c h=>by
  rw [List.getElem?_take] at h
  split at h
  ·simpa using h
  ·cases h
 have hj2:∀ (j:Nat) (c:Value),((vs.drop o).take n)[j]?=some c→vs[o+j]?=some c:=fun j c h=>by
  rw [List.getElem?_take] at h
  split at h
  ·simpa using h
  ·cases h
 refine ⟨.agg ((vs.drop o).take n).toArray,.st (by rw [hlen,hn]) (fun c hc=>hC.2.1 c (List.mem_of_mem_drop (List.mem_of_mem_take hc))) (fun j v c a a'=>hC.2.2 (o+j) v c (hj2 j v a) (hj j cs c a')),fun {m' w'} hk _ _ _ _ _=>?_⟩
 cases ht:tab X with
 | none=>rw [ht] at hs;cases hs
 | some te =>
   rw [ht] at hs
   simp at hs
   have hagg:=(hT X te ht).agg hs.1
   obtain ⟨inf,i1,i2,_⟩:=(hT X te ht).info
   have hl:=run_loadCells_list (P:=P) w' ⟨b,q+o,none⟩ ((vs.drop o).take n) (fun j c h=>by rw [Addr_add_lit,Nat.add_assoc];exact hK (hk rfl) (o+j) c (hj2 j c h))
   rw [hlen] at hl
   have hq:inf.size=n:=i2.trans hs.2
   simp [execOp,hE.ev h1,Instr.loadAt,Instr.sureAddr,loadVar,hagg,sizeOf,typeInfo,i1,hq,hl]
theorem OL.ldM {u} {cs us:List AV} {o n:Nat} (kk:OL C ops Q rest ((d,.st us)::ρ) η) (hs:(C.tab X).map (fun e=>(e.sh.agg,e.size))=some (true,n):=by with_unfolding_all exact rfl) (hx:ev2 ρ x=some u:=by with_unfolding_all exact rfl) (hb:behind η u=some (cs,o):=by with_unfolding_all exact rfl) (hu:(cs.drop o).take n=us:=by with_unfolding_all exact rfl) (hn:us.length=n:=by with_unfolding_all exact rfl) (hd:Nat.blt d C.N=true:=by with_unfolding_all exact rfl) :
  OL C ops Q (⟨some d,.load X x,T,pos,af,none⟩::rest) ρ η:=OL.give (give_load_mid C.hT hs hx hb hu hn) hd kk
theorem gvM {M:Bool} {u} {cs us:List AV} {o n:Nat} (hM:M=true:=by rfl) (hs:(C.tab X).map (fun e=>(e.sh.agg,e.size))=some (true,n):=by with_unfolding_all exact rfl) (hx:ev2 ρ x=some u:=by with_unfolding_all exact rfl) (hb:behind η u=some (cs,o):=by with_unfolding_all exact rfl) (hu:(cs.drop o).take n=us:=by with_unfolding_all exact rfl) (hn:us.length=n:=by with_unfolding_all exact rfl):Gives C.P C.N C.D (.load X x) ρ η (.st us) M:=by
 subst hM
 exact give_load_mid C.hT hs hx hb hu hn
end
end Go.V
namespace Go.V
open Go Go.W
theorem LEs.get {τ:Nat→Option Nat}:∀ {us as:List AV},LEs τ us as→us.length=as.length∧∀ (j:Nat) x y,us[j]?=some x→as[j]?=some y→LE τ x y
 | [],[],_=>⟨rfl,by simp⟩
 | u::us,a::as,h=>by
   obtain ⟨h1,h2⟩:=LEs.get (us:=us) (as:=as) h.2
   refine ⟨by simp [h1],fun j x y hx hy=>?_⟩
   cases j with
   | zero=>simp at hx hy;subst hx hy;exact h.1
   | succ j=>exact h2 j x y (by simpa using hx) (by simpa using hy)
 | [],_::_,h=>h.elim
 | _::_,[],h=>h.elim
section
variable {C:Cx} {ops:Array Oper} {Q:Qt} {ρ:Ro} {η:Eta} {rest:List Oper} {A:Code} {e:Exit} {x y:AV}
theorem OL.kn (t:Nat) (h:LE (ts []) x y) (k:OL C ops Q rest ((t,y)::ρ) η) (hx:lk ρ t=some x:=by with_unfolding_all exact rfl):OL C ops Q rest ρ η:=
 fun a w hA=>k a w (hA.know hx fun m w γ v hr=>h m w γ γ (fun i j h=>by cases h) v hr)
theorem TX.kn (t:Nat) (h:LE (ts []) x y) (k:TX C Q e ((t,y)::ρ) η) (hx:lk ρ t=some x:=by with_unfolding_all exact rfl):TX C Q e ρ η:=
 fun a w hA=>k a w (hA.know hx fun m w γ v hr=>h m w γ γ (fun i j h=>by cases h) v hr)
end
end Go.V
