/- Lemmas for the claim; no conditions. -/
import Derived.Test.YtdjhogobbbnddaaGreatC15
import Derived.Sort.Grow
import Derived.Test.YtdjhogobbbnddaaGreatC16
import Derived.Test.YtdjhogobbbnddaaGreatC17
namespace Go.V
open Go Go.W Go.Sort
theorem Ykr {w w':World} {g T:Nat} {cur:Array Value} {q:Nat} {os:Array Obj} {zs:List Int} (hg:w.heap[g]?=some (.cells cur T (0,0))) (hz:zs.length≤cur.size) (e:w'=grow (putRow (Value.int .i64) (Sort.ahead w q) g 0 zs.toArray) os) :
  w.grownBy w' (some g)∧∃ cur':Array Value,w'.heap[g]?=some (.cells cur' T (0,0))∧cur'.size=cur.size∧∀ j (h:j < zs.length),cur'[j]?=some (.int .i64 zs[j]):=by
 have hlt:g < w.heap.size:=(Array.getElem?_eq_some_iff.1 hg).1;have hsz:(putRow (Value.int .i64) (Sort.ahead w q) g 0 zs.toArray).heap.size=w.heap.size:=by rw [size_putRow];rfl
 have hh:∀ b,b < w.heap.size→w'.heap[b]?=(putRow (Value.int .i64) (Sort.ahead w q) g 0 zs.toArray).heap[b]?:=fun b hb=>by
  rw [e];simp only [grow];rw [Array.getElem?_append_left (by rw [hsz];exact hb)]
 have hother:∀ b,b≠g→(putRow (Value.int .i64) (Sort.ahead w q) g 0 zs.toArray).heap[b]?=w.heap[b]?:=fun b hb=>by
  simp only [putRow,mapBlock];rw [Array.getElem?_modify,if_neg (fun h=>hb h.symm)];rfl
 refine ⟨⟨by rw [e];rfl,by rw [e];rfl,by rw [e];rfl,by rw [e,size_grow,hsz];omega,fun b hb hne=>?_⟩,putCells (Value.int .i64) 0 zs.toArray cur,?_,?_,fun j h=>?_⟩
 ·rw [hh b hb,hother b (fun h=>hne (by rw [h]))]
 ·rw [hh g hlt];simp only [putRow,mapBlock];rw [Array.getElem?_modify,if_pos rfl];show Option.map _ w.heap[g]?=_;rw [hg];rfl
 ·simp [putCells]
 ·simp only [putCells,Array.getElem?_mapIdx];rw [Array.getElem?_eq_getElem (by omega)];simp [h]
theorem Ykz {m:Nat→Nat} {w w':World} {g:Nat} (hm:m g=0) (h:w.grownBy w' (some g)):W.Touch (some g) m w m w':=by
 refine ⟨h,fun _ _ _=>rfl,h.size,fun _ _=>Nat.le_refl _,fun b i c hi hc=>?_⟩;have hne:b≠g:=fun e=>by subst e;rw [hm] at hi;omega
 rw [World.cell?_of_block (w:=w) (h.block b (YbQ hc) (by simpa using hne))];exact hc
theorem own_holds {m:Nat→Nat} {w:World} {g T:Nat} {cur:Array Value} {l:List Int} (hg:w.heap[g]?=some (.cells cur T (0,0))) (h5:∀ i x,(l.map int)[i]?=some x→∃ cs,cs.length=1∧(∀ j c,cs[j]?=some c→cur[i*1+j]?=some c)∧CK m w m w cs x):Holds (Value.int .i64) w g 0 l.toArray:=by
 intro j hj;have hj':j < l.length:=by simpa using hj
 obtain ⟨cs,a1,a2,a3⟩:=h5 j (int l[j]) (by simp [hj']);have:cs=[.int .i64 l[j]]:=by
  match cs,a1 with
  | [c],_ =>
    have:=a3.2.2 0 c (int l[j]) rfl rfl
    rw [this.raw_eq]
 subst this;have h6:=a2 0 _ rfl;refine ⟨?_,?_⟩
 ·simp only [World.cell?,hg];simp only [Nat.zero_add,Nat.mul_one,Nat.add_zero] at h6 ⊢;rw [h6];simp [hj']
 ·simp [World.frozen?,hg]
theorem Yk1 {P:Program} {f T:Nat} {nl:Option Bool} {l l':List Int} (hp:l'.length=l.length)
  (h1:∀ (g cap:Nat) (w:World),Holds (Value.int .i64) w g 0 l.toArray→g < w.heap.size→Calls P f #[.slice (some ⟨g,0,none⟩) l.length cap] w fun e w'=>e=.returned (.tuple #[])∧∃ n os,w'=grow (putRow (Value.int .i64) (Sort.ahead w n) g 0 l'.toArray) os)
  (h2:l=[]→∀ p cap w,Calls P f #[.slice p 0 cap] w fun e w'=>e=.returned (.tuple #[])∧w'=w):Spec P f [.hs 0] [.gs false T 1 nl (l.map int)] (.tp []) [.gs false T 1 none (l'.map int)]:=by
 intro m w γ vs hH hV;match vs,hV with
 | [v],⟨hv0,_⟩ =>
 have hv:=hv0.hs_get.1;have hI:In (Ya1 m w γ [.gs false T 1 nl (l.map int)]) m w γ [.gs false T 1 nl (l.map int)]:=⟨hH,.refl _ _ _,fun i v o b h1 h2 h3=>.inl (Yap.2 ⟨i,v,o,h1,h2,h3⟩),.refl _⟩;obtain ⟨⟨m',hown,hm1,hm2⟩,hnl,hcl⟩:=hH.ok 0 _ _ hv rfl;have triv:∀ {v},l=[]→γ[0]?=some v→(∃ p cap,v=.slice p 0 cap)→(∃ m',W.Own T 1 (CK m w) m' w v ([]:List AV)∧(∀ b,some b≠Yay v→m' b=m b)∧∀ b,Yay v=some b→m b=0)→Calls P f #[v] w (YbF (Ya1 m w γ [.gs false T 1 nl (l.map int)]) (.tp []) [.gs false T 1 none (l'.map int)]):=fun {v} hl hv ⟨p,cap,e⟩ hO=>by
  have hl':l'=[]:=List.eq_nil_of_length_eq_zero (by rw [hp,hl];rfl);rw [e];refine (h2 hl p cap w).mono fun e' w' ⟨he,hw⟩=>?_;subst hw;refine ⟨_,m,γ,he,?_,.tp (vs:=[]) rfl (by simp)⟩;have:=hI.put (i:=0) (o':=.gs false T 1 none (l'.map int)) hv rfl ((Keep.refl m w').touch _) ⟨by subst hl';exact hO,NL.none _,by subst hl';simp⟩ (.inl rfl)
  exact this
 rcases hown with ⟨rfl,e⟩|⟨b,o,rfl,e⟩|⟨g,cap,cur,rfl,h0,hg,k1,k2,k3,k4,k5⟩
 ·have hl:l=[]:=by simpa using e
  exact triv hl hv ⟨_,_,rfl⟩ ⟨m',.inl ⟨rfl,rfl⟩,hm1,hm2⟩
 ·have hl:l=[]:=by simpa using e
  exact triv hl hv ⟨_,_,rfl⟩ ⟨m',.inr (.inl ⟨b,o,rfl,rfl⟩),hm1,hm2⟩
 ·simp only [List.length_map] at k1 k4 hv ⊢;have hob:Yay (.slice (some ⟨g,0,none⟩) l.length cap)=some g:=by
   obtain ⟨c',rfl⟩:∃ c',cap=c'+1:=⟨cap-1,by omega⟩;simp [Yay]
  have hmg:=hm2 g (by simpa using hob);have hlt:g < w.heap.size:=(Array.getElem?_eq_some_iff.1 hg).1;refine (h1 g cap w (own_holds hg k5) hlt).mono fun e w' ⟨he,n,os,hw⟩=>?_;obtain ⟨r1,cur',r2,r3,r4⟩:=Ykr hg (by omega) hw;have ht:=Ykz (m:=m) hmg r1;refine ⟨_,m,γ,he,?_,.tp (vs:=[]) rfl (by simp)⟩;have:=hI.put (i:=0) (o':=.gs false T 1 none (l'.map int)) hv rfl (by rw [show blk (.gs false T 1 nl (l.map int)) (.slice (some ⟨g,0,none⟩) l.length cap)=some g from hob];exact ht) ⟨⟨m',.inr (.inr ⟨g,cap,cur',by simp [hp],h0,r2,by simpa [hp] using k1,k2,by rw [r3];exact k3,by simpa [hp] using k4,fun i x hx=>?_⟩),?_,?_⟩,NL.none _,by simp [AV.cells]⟩ (.inl rfl)
  ·exact this
  ·rw [List.getElem?_map] at hx
   cases hq:l'[i]? with
   | none=>rw [hq] at hx;cases hx
   | some y =>
     rw [hq] at hx;cases hx;obtain ⟨hlt,rfl⟩:=List.getElem?_eq_some_iff.1 hq;refine ⟨[.int .i64 l'[i]],rfl,fun j c hc=>?_,rfl,by simp [Value.oneCell'],fun j v c a b=>?_⟩
     ·match j with
      | 0=>simp at hc;subst hc;simpa using r4 i hlt
      | j+1=>simp at hc
     ·match j with
      | 0=>simp [AV.cells] at a b;subst a b;exact .raw rfl
      | j+1=>simp at a
  ·intro b hb;exact hm1 b (by simpa using hb)
  ·intro b hb;exact hm2 b (by simpa using hb)
open Go Go.W Go.RowKit
def wpF (P:Program) (f0:FuncId) (c:Code) (Q:Exit→Act→World→Prop) (a:Act) (w:World):Prop:=
 ∀ (b:Frame) (k:List Item) (cs:List Frame),b.roundOf=none→b.fn=f0 →
  ∃ e a' w',Q e a' w'∧ArrivesIn (Machine.fenced P Fence.wide) P (lone (b.atR a (.code c::k)) cs w) b k cs e a' w'
section
variable {P:Program} {f0:FuncId} {Q:Exit→Act→World→Prop} {a:Act} {w:World}
theorem YrM {c:Code} (h:c.wp P Q a w):wpF P f0 c Q a w:=fun b k cs hro _=>(wpIn_wide (n:=0)).2 h b k cs hro trivial (room_wide _)
theorem YqQ {c:Code} {Q':Exit→Act→World→Prop} (h:wpF P f0 c Q a w) (hq:∀ e a w,Q e a w→Q' e a w):wpF P f0 c Q' a w:=
 fun b k cs hro hb=>let ⟨e,a',w',q,r⟩:=h b k cs hro hb;⟨e,a',w',hq _ _ _ q,r⟩
theorem YpR {x y:Code} (h:wpF P f0 x (Exit.then (wpF P f0 y Q) Q) a w):wpF P f0 (.seq x y) Q a w:=by
 intro b k cs hro hb;have h0:(lone (b.atR a (.code (.seq x y)::k)) cs w).fenced P Fence.wide:=fenced_calm (n:=0) trivial (room_wide _) rfl;obtain ⟨e,a₁,w₁,hq,harr⟩:=h b (.code y::k) cs hro hb
 cases e with
 | normal =>
   obtain ⟨e₂,a₂,w₂,hq₂,harr₂⟩:=hq b k cs hro hb;exact ⟨e₂,a₂,w₂,hq₂,.of_steps (.head h0 stepR_seq harr) harr₂⟩
 | exit id=>exact ⟨_,a₁,w₁,hq,.of_steps (.one h0 stepR_seq) (.pass (x:=.code y) rfl (fun _ _=>.inl (by simp)) harr)⟩
 | goto l=>exact ⟨_,a₁,w₁,hq,.of_steps (.one h0 stepR_seq) (.pass (x:=.code y) rfl (fun _ _=>.inl (by simp)) harr)⟩
 | ret=>exact ⟨_,a₁,w₁,hq,.of_steps (.one h0 stepR_seq) (.pass (x:=.code y) rfl (fun _ _=>.inl (by simp)) harr)⟩
 | panic ch=>exact ⟨_,a₁,w₁,hq,.of_steps (.one h0 stepR_seq) (.pass (x:=.code y) rfl (fun _ _=>.inl (by simp)) harr)⟩
 | outgrown=>exact ⟨_,a₁,w₁,hq,.of_steps (.one h0 stepR_seq) (.pass (x:=.code y) rfl (fun _ _=>.inl (by simp)) harr)⟩
theorem YoM {id:Nat} {c:Code} (h:wpF P f0 c (Exit.inBlock id Q) a w):wpF P f0 (.block id c) Q a w:=by
 intro b k cs hro hb;have h0:(lone (b.atR a (.code (.block id c)::k)) cs w).fenced P Fence.wide:=fenced_calm (n:=0) trivial (room_wide _) rfl;obtain ⟨e,a₁,w₁,hq,harr⟩:=h b (.inBlock id::k) cs hro hb
 cases e with
 | normal=>exact ⟨.normal,a₁,w₁,hq,.head h0 stepR_block (StepsIn.trans harr (.one (fenced_calm (n:=0) trivial (room_wide _) rfl) stepR_inBlock))⟩
 | exit id' =>
   by_cases hid:id'=id
   ·simp only [Exit.inBlock,hid,if_true] at hq;exact ⟨.normal,a₁,w₁,hq,.head h0 stepR_block (harr.1 k (by simp [exitTo,hid]))⟩
   ·simp only [Exit.inBlock,hid,if_false] at hq;have this:(id==id')=false:=by simp;exact fun h=>hid h.symm
    have hx:exitTo id' (.inBlock id::k)=exitTo id' k:=by simp [exitTo,this]
    exact ⟨.exit id',a₁,w₁,hq,fun k' hk=>.head h0 stepR_block (harr.1 k' (by rw [hx];exact hk)),
     fun hr' hk=>let ⟨k₁,h1,h2⟩:=harr.2 hr' (by rw [hx];exact hk);⟨k₁,h1,.head h0 stepR_block h2⟩⟩
 | goto l =>
   have hx:gotoIn l (.inBlock id::k)=gotoIn l k:=by simp [gotoIn]
   exact ⟨_,a₁,w₁,hq,fun k' hk=>.head h0 stepR_block (harr.1 k' (by rw [hx];exact hk)),
    fun hr' hk=>let ⟨k₁,h1,h2⟩:=harr.2 hr' (by rw [hx];exact hk);⟨k₁,h1,.head h0 stepR_block h2⟩⟩
 | ret=>exact ⟨_,a₁,w₁,hq,.of_steps (.one h0 stepR_block) harr⟩
 | panic ch=>exact ⟨_,a₁,w₁,hq,.of_steps (.one h0 stepR_block) harr⟩
 | outgrown=>exact ⟨_,a₁,w₁,hq,.of_steps (.one h0 stepR_block) harr⟩
def YnH (P:Program) (l:Nat) (Q:Exit→Act→World→Prop) (a':Act):Ending→World→Prop
 | .returned _,w₃=>∃ w₄,(Instr.endLoop l).run P w₃=.ok none w₄∧Q .normal a' w₄
 | .panicked chain,w₃=>Q (.panic chain) a' w₃
 | .outgrown,_=>False
theorem Ye9 {g:Operand} {ps:Array Tmp} {assign body:Code}
  (h:∃ (l:Nat) (mark:List Deferred) (w₁:World) (d:Deferred) (w₁':World) (f:FuncId) (args:Array Value) (w₂:World),
   (Instr.enterLoop f0 a.tmps ps assign body none).run P w=.ok (l,mark) w₁ ∧
   (resolve a.eval (rangeCall g l) 0).run P w₁=.ok d w₁' ∧
   (invoke d.target d.args).run P w₁'=.ok (.enter f args) w₂ ∧
   Calls P f args w₂ (YnH P l Q { a with defers:=mark++a.defers })) :
  wpF P f0 (Code.rangeFunc g ps assign body) Q a w:=by
 intro b k cs hro hb;obtain ⟨l,mark,w₁,d,w₁',f,args,w₂,he,hres,hinv,hcall⟩:=h;rw [← hro,← hb] at he;have h0:(lone (b.atR a (.code (.rangeFunc g ps assign body)::k)) cs w).fenced P Fence.wide:=
  fenced_lone (.inl trivial) (fun _ _=>trivial) (room_wide _)
 have henter:=stepR_rangeFunc (P:=P) (b:=b) (a:=a) (k:=k) (cs:=cs) (w:=w) he hres hinv;obtain ⟨e,w₃,fr,hR,hsteps,hfn,hleave⟩:=((callsIn_wide (n:=0)).2 hcall).2 (b.atR { a with defers:=mark++a.defers } (.inRangeFunc l::k)::cs) (room_wide _)
 cases e with
 | outgrown=>exact hR.elim
 | returned v =>
   have hl:(lone fr (b.atR { a with defers:=mark++a.defers } (.inRangeFunc l::k)::cs) w₃).fenced P Fence.wide:=fenced_leaving (n:=0) trivial (room_wide _) hleave;obtain ⟨w₄,hend,hj⟩:=hR;have sback:StepsIn (Machine.fenced P Fence.wide) P (lone (b.atR a (.code (.rangeFunc g ps assign body)::k)) cs w) (lone (b.atR { a with defers:=mark++a.defers } k) cs w₄):=by
    refine .head h0 henter (StepsIn.trans hsteps (.head hl ?_ (.one (fenced_calm (n:=0) (fr:=b.atR { a with defers:=mark++a.defers } (.endRangeFunc l::k)) trivial (room_wide _) rfl) (stepR_endRangeFunc hend))));rw [← finish_atR_inRangeFunc l v];exact step_leave_returned hleave
   exact ⟨.normal,_,w₄,hj,sback⟩
 | panicked chain =>
   have hl:(lone fr (b.atR { a with defers:=mark++a.defers } (.inRangeFunc l::k)::cs) w₃).fenced P Fence.wide:=fenced_leaving (n:=0) trivial (room_wide _) hleave;refine ⟨.panic chain,_,w₃,hR,.inRangeFunc l::k,.head h0 henter (StepsIn.trans hsteps (.one hl ?_))⟩;rw [← Frame.raise_atR];exact step_leave_panicked hleave
theorem Yux {fn:Func} {c:Code} {args:Array Value} {R:Ending→World→Prop} (hf:P.funcs[f0]?=some fn) (hb:fn.body=some c)
  (h:wpF P f0 c (bodyPostM Fence.wide 0 P fn R) { tmps:=args++Array.replicate (fn.ntmps-args.size) undef,defers:=[] } w):Calls P f0 args w R:=by
 refine (callsIn_wide (n:=0)).1 ⟨trivial,fun cs hr=>?_⟩;let b:Frame:={ (default:Frame) with fn:=f0,kind:=.normal,roundOf:=none }
 have henter:Frame.enter P f0 args .normal =
   b.atR { tmps:=args++Array.replicate (fn.ntmps-args.size) undef,defers:=[] } [.code c]:=by
  simp [Frame.enter,Frame.atR,hf,hb,b]
 obtain ⟨e,a',w',hq,harr⟩:=h b [] cs rfl rfl;rw [← henter] at harr
 cases e with
 | normal =>
   obtain ⟨e',w'',fr',hR,hs,hfn,hl⟩:=leaves_stepsInM a'.defers .returning w' { b.atR a' [] with mode:=.returning } cs rfl rfl rfl hf rfl trivial hr hq;exact ⟨e',w'',fr',hR,ComesIn.of_steps (StepsIn.trans harr (.one (fenced_calm (fr:=b.atR a' []) trivial hr rfl) (stepR_end rfl))) hs,hfn,hl⟩
 | ret =>
   obtain ⟨todo,hs₀⟩:=harr.1 rfl;obtain ⟨e',w'',fr',hR,hs,hfn,hl⟩:=leaves_stepsInM a'.defers .returning w' { b.atR a' todo with mode:=.returning } cs rfl rfl rfl hf rfl trivial hr hq;exact ⟨e',w'',fr',hR,ComesIn.of_steps hs₀ hs,hfn,hl⟩
 | panic chain =>
   obtain ⟨todo,hs₀⟩:=harr;obtain ⟨e',w'',fr',hR,hs,hfn,hl⟩:=leaves_stepsInM a'.defers (.panicking chain) w' { b.atR a' todo with mode:=.panicking chain } cs rfl rfl rfl hf rfl trivial hr hq;exact ⟨e',w'',fr',hR,ComesIn.of_steps hs₀ hs,hfn,hl⟩
 | exit id=>exact hq.elim
 | goto l=>exact hq.elim
 | outgrown=>exact ⟨.outgrown,w',b,hq,harr.resolve_left (by simp [b]),rfl,trivial⟩
def YnT (P:Program) (l:Nat) (R:Ending→World→Prop):Exit→Act→World→Prop
 | .normal,_,w=>∃ v w',(Instr.endRound l none).run P w=.ok v w'∧R (.returned v) w'
 | .panic chain,a,w=>a.defers=[]∧R (.panicked chain) w
 | _,_,_=>False
theorem Yeq {l:Nat} {f:FuncId} {fn:Func} {tmps:Array Value} {assign body:Code} {w:World} {R:Ending→World→Prop} (hf:P.funcs[f]?=some fn)
  (h:assign.wpIn (WF (some l)) 0 P (Exit.then (fun a₁ w₁=>∃ w₂,(Instr.beginRound l).run P w₁=.ok () w₂∧body.wpIn (WF (some l)) 0 P (YnT P l R) a₁ w₂) (fun _ _ _=>False))
   { tmps:=tmps,defers:=[] } w) :
  RoundIn Fence.wide 0 P l f tmps assign body w R:=by
 refine ⟨trivial,fun c cs hr=>?_⟩;let b:Frame:={ (default:Frame) with fn:=f,kind:=.normal,roundOf:=some l }
 have hb0:Frame.round l f tmps assign body .normal=b.atR { tmps:=tmps,defers:=[] } [.code assign,.beginRound,.code body]:=by
  simp [Frame.round,Frame.atR,b]
 have hr':(Fence.wide.inRound l).room ((c::cs).length+1+0):=hr;have hF':(Fence.wide.inRound l).fn b.fn:=trivial;obtain ⟨e,a₁,w₁,hq,harr⟩:=h b [.beginRound,.code body] (c::cs) rfl hF' hr';rw [← hb0] at harr
 cases e with
 | normal =>
   obtain ⟨w₂,hbr,hbody⟩:=hq;have s1:StepsIn (Machine.fenced P (Fence.wide.inRound l)) P (lone (b.atR a₁ [.beginRound,.code body]) (c::cs) w₁) (lone (b.atR a₁ [.code body]) (c::cs) w₂):=
    .one (fenced_calm (fr:=b.atR a₁ [.beginRound,.code body]) hF' hr' rfl) (stepR_beginRound rfl hbr)
   obtain ⟨e₂,a₂,w₃,hq₂,harr₂⟩:=hbody b [] (c::cs) rfl hF' hr'
   cases e₂ with
   | normal =>
     obtain ⟨v,w₄,hend,hR⟩:=hq₂;exact ⟨.returned v,w₄,hR,(StepsIn.trans harr s1).trans (StepsIn.trans harr₂ (.one (fenced_calm (fr:=b.atR a₂ []) hF' hr' rfl) (stepR_round_end rfl rfl hend)))⟩
   | panic chain =>
     obtain ⟨hd,hR⟩:=hq₂;obtain ⟨todo,hs⟩:=harr₂;have hl:Frame.leaving P { b.atR a₂ todo with mode:=.panicking chain } w₃ (.panicked chain):=⟨rfl,hd,fn,hf⟩;exact ⟨.panicked chain,w₃,hR,(StepsIn.trans harr s1).trans (StepsIn.trans hs (.one (fenced_leaving (n:=0) trivial hr' hl) (step_leave_panicked hl)))⟩
   | ret=>exact hq₂.elim
   | exit id=>exact hq₂.elim
   | goto t=>exact hq₂.elim
   | outgrown=>exact hq₂.elim
 | exit id=>exact hq.elim
 | goto t=>exact hq.elim
 | ret=>exact hq.elim
 | panic chain=>exact hq.elim
 | outgrown=>exact hq.elim
end
def YrL (P:Program) (l:Nat) (vs:List Value) (m:Nat→Nat) (W:World) (K1 Kp:(Nat→Nat)→World→Prop) (pv:Value):Prop:=
 YieldAt Fence.wide 0 P l vs.toArray W fun e W'=>∃ m',Ext m W m' W'∧((e=.returned (.bool true)∧K1 m' W')∨(e=.panicked (pan pv)∧Kp m' W'))
def YqS (P:Program) (gf:Nat) (lb:Array Value) {α:Type} (as:α→List AV) (ok:α→Prop) (pv:Value) (L:List α) (m0:Nat→Nat) (w0:World):Prop:=
 ∀ (l:Nat) (J:List α→(Nat→Nat)→World→Prop) (Jp:(Nat→Nat)→World→Prop) (m:Nat→Nat) (W:World),Ext m0 w0 m W→Ydt W.heap.size J→Ydt W.heap.size (fun (_:Unit)=>Jp) →
  (∀ pre m W,J pre m W→∀ x∈pre,ok x) →
  (∀ pre x m1 W1 vs,J pre m1 W1→(∃ r,pre++x::r=L)→VL m1 W1 [] vs (as x)→YrL P l vs m1 W1 (J (pre++[x])) Jp pv) →
  J [] m W →
  Calls P gf (#[.func (.yield l) #[] #[]]++lb) W fun e W'=>∃ m',Ext m W m' W'∧((∃ v,e=.returned v∧J L m' W')∨(e=.panicked (pan pv)∧Jp m' W'))
theorem YqS.later {P:Program} {gf:Nat} {lb:Array Value} {α:Type} {as:α→List AV} {ok:α→Prop} {pv:Value} {L:List α} {m0 w0 m w} (h:YqS P gf lb as ok pv L m0 w0) (he:Ext m0 w0 m w):YqS P gf lb as ok pv L m w:=
 fun l J Jp m1 W h1=>h l J Jp m1 W (he.trans h1)
def Ys1 (P:Program) {α:Type} (as:α→List AV) (ok:α→Prop) (pv:Value) (L:List α):MP where
 R m w v := ∃ gf lb fn, v = .func (.func gf) #[] lb ∧ P.funcs[gf]? = some fn ∧ (fn.body.isNone || fn.name == "runtime.NumGoroutine") = false ∧ YqS P gf lb as ok pv L m w
 mono:=fun he ⟨gf,lb,fn,h1,h2,h3,h4⟩=>⟨gf,lb,fn,h1,h2,h3,h4.later he⟩
 one:=fun ⟨gf,lb,fn,h1,_⟩=>by subst h1;rfl
set_option maxHeartbeats 1000000 in
theorem YsT {P:Program} {α:Type} {as:α→List AV} {ok:α→Prop} {pv:Value} {L:List α} {g:Operand} {t1 t2:Nat} {assign body:Code} {Q:Exit→Act→World→Prop} {a:Act} {w:World} {m:Nat→Nat} {gf f0:Nat} {lb:Array Value} {fn fn0:Func}
  (hf0 : P.funcs[f0]? = some fn0) (hg : a.eval g = .func (.func gf) #[] lb) (hf : P.funcs[gf]? = some fn) (hb : (fn.body.isNone || fn.name == "runtime.NumGoroutine") = false) (hseq : YqS P gf lb as ok pv L m w)
  (J:List α→(Nat→Nat)→World→Prop) (Jp:(Nat→Nat)→World→Prop) (hJ:Ydt w.heap.size J) (hJp:Ydt w.heap.size (fun (_:Unit)=>Jp)) (hok:∀ pre m W,J pre m W→∀ x∈pre,ok x) (h0:J [] m w)
  (has:∀ x,(as x).length=2)
  (hround:∀ l pre x m1 W1 v1 v2,w.heap.size≤l→J pre m1 W1→(∃ r,pre++x::r=L)→VL m1 W1 [] [v1,v2] (as x)→Ext m w m1 W1 →
   assign.wpIn (WF (some l)) 0 P (fun e a1 w1=>e=.normal∧YbN (fun _=>False) W1 w1∧∃ m2,Ext m1 W1 m2 w1∧∀ w2,Yam w.heap.size m2 w1 m2 w2 →
    body.wpIn (WF (some l)) 0 P (fun e a3 w3=>YbN (fun _=>False) w2 w3∧∃ m3,Ext m2 w2 m3 w3∧((e=.normal∧J (pre++[x]) m3 w3)∨(e=.panic (pan pv)∧a3.defers=[]∧Jp m3 w3))) a1 w2)
    ({ tmps:=(a.tmps.setIfInBounds t1 v1).setIfInBounds t2 v2,defers:=[] }:Act) W1)
  (hdone:∀ m' W',Ext m w m' W'→J L m' W'→W'.heap[w.heap.size]?=some (.deferred (some []))→Q .normal { a with defers:=YbD w.heap.size::a.defers } W')
  (hpanic:∀ m' W',Ext m w m' W'→Jp m' W'→W'.heap[w.heap.size]?=some (.deferred (some []))→Q (.panic (pan pv)) { a with defers:=YbD w.heap.size::a.defers } W') :
  wpF P f0 (Code.rangeFunc g #[t1,t2] assign body) Q a w:=by
 have hb':=hb;simp at hb';have hbn:fn.body≠none:=Option.isSome_iff_ne_none.1 hb'.1;have eg:∀ args w,(callFunc gf args).run P w=.ok (.enter gf args) w:=fun args w=>by simp [callFunc,hf,hb'.2,hbn]
 refine Ye9 ?_;obtain ⟨rec,hrec⟩:∃ rec:LoopState→Option Code→Loop,rec=fun st pe=>{ state:=st,pending:=pe,fn:=f0,tmps:=a.tmps,params:=#[t1,t2],assign:=assign,body,defers:=w.heap.size }:=⟨_,rfl⟩
 obtain ⟨W1,hW1⟩:∃ W1,(w.alloc (.deferred (some []))).alloc (.loop (rec .ready none))=W1:=⟨_,rfl⟩;have hL1:W1.heap[w.heap.size+1]?=some (.loop (rec .ready none)):=by
  rw [← hW1];have:=World.alloc_heap_new (w.alloc (.deferred (some []))) (.loop (rec .ready none));rwa [World.size_alloc] at this
 have hK1:W1.heap[w.heap.size]?=some (.deferred (some [])):=by
  rw [← hW1];exact (Below.heap_alloc _ _ _ (by simp)).trans (World.alloc_heap_new w _)
 have hz1:W1.heap.size=w.heap.size+2:=by rw [← hW1];simp
 have hkp:Keep m w m W1:=by
  rw [← hW1];exact ⟨⟨rfl,rfl,rfl,by simp;omega,fun b hb _=>((World.grownBy_alloc _ _ none).block b (by simp;omega) (by simp)).trans ((World.grownBy_alloc w _ none).block b hb (by simp))⟩,fun _ _=>rfl⟩
 obtain ⟨mS,hmS⟩:∃ mS,mS=m:=⟨_,rfl⟩;have hI1:J [] m W1:=hJ _ _ _ _ _ h0 (.keep hkp);refine ⟨w.heap.size+1,[YbD w.heap.size],W1,{ target:=.fn (.func gf) lb,args:=#[.func (.yield (w.heap.size+1)) #[] #[]] },W1,gf,
  #[.func (.yield (w.heap.size+1)) #[] #[]]++lb,W1,?_,?_,?_,?_⟩
 ·rw [← hW1,hrec];exact run_enterLoop_outer _ _ _ _ _
 ·simp only [resolve,hg];simp [go_sem]
 ·simp [invoke,go_sem,eg]
 ·refine (hseq (w.heap.size+1)
   (fun pre m W=>J pre m W∧Ext mS w m W∧W.heap[w.heap.size+1]?=some (.loop (rec .ready none))∧W.heap[w.heap.size]?=some (.deferred (some [])))
   (fun m W=>Jp m W∧Ext mS w m W∧W.heap[w.heap.size]?=some (.deferred (some [])))
   m W1 hkp.ext ?_ ?_ (fun pre m W h=>hok pre m W h.1) ?_ ⟨hI1,hmS ▸ hkp.ext,hL1,hK1⟩).mono ?_
  ·rintro pre m1 W m2 W' ⟨h1,h2,h3,h4⟩ hs;refine ⟨(hJ.le (by omega)) _ _ _ _ _ h1 hs,h2.trans hs.ext,?_,?_⟩;all_goals
    obtain ⟨row,hgr,hr,_⟩:=hs;first
    | exact (hgr.block _ (Array.getElem?_eq_some_iff.1 h3).1 (fun e=>by have:=(hr _ e.symm).1;omega)).trans h3
    | exact (hgr.block _ (Array.getElem?_eq_some_iff.1 h4).1 (fun e=>by have:=(hr _ e.symm).1;omega)).trans h4
  ·rintro _ m1 W m2 W' ⟨h1,h2,h4⟩ hs;refine ⟨(hJp.le (by omega)) () _ _ _ _ h1 hs,h2.trans hs.ext,?_⟩;obtain ⟨row,hgr,hr,_⟩:=hs;exact (hgr.block _ (Array.getElem?_eq_some_iff.1 h4).1 (fun e=>by have:=(hr _ e.symm).1;omega)).trans h4
  ·-- one round
   rintro pre x m1 W vs ⟨hi,he,hl,hk⟩ hpre hv;have hlt:w.heap.size+1 < W.heap.size:=(Array.getElem?_eq_some_iff.1 hl).1;obtain ⟨v1,v2,rfl⟩:∃ v1 v2,vs=[v1,v2]:=by
    have:=hv.len
    rw [has] at this;match vs,this with
    | [v1,v2],_=>exact ⟨v1,v2,rfl⟩
   have hy:=run_yield (P:=P) (args:=#[v1,v2]) hl (by rw [hrec];rfl);rw [hrec] at hy;dsimp only at hy;have ez:Array.foldl (fun (tmps:Array Value) (x:Tmp × Value)=>match x with|(t,a)=>tmps.setIfInBounds t a) a.tmps ((#[t1,t2]:Array Tmp).zip #[v1,v2])=(a.tmps.setIfInBounds t1 v1).setIfInBounds t2 v2:=by simp
   rw [ez] at hy;refine ⟨f0,_,assign,body,hy,Yeq hf0 ?_⟩;refine wpIn_mono (hround (w.heap.size+1) pre x m1 W v1 v2 (by omega) hi hpre hv (hmS ▸ he)) ?_;rintro e a1 w1 ⟨rfl,hkl,m2,he2,hbody⟩;have hl1:=hkl _ _ (fun h=>h) hl rfl;have hk1:=hkl _ _ (fun h=>h) hk rfl;refine ⟨_,run_beginRound hl1 (by rw [hrec]),?_⟩;have hlt1:w.heap.size+1 < w1.heap.size:=(Array.getElem?_eq_some_iff.1 hl1).1;have hl2:(w1.putObj (w.heap.size+1) (.loop { rec .ready none with state:=.busy })).heap[w.heap.size+1]?=some (.loop { rec .ready none with state:=.busy }):=World.putObj_heap_same hlt1;have hk2:(w1.putObj (w.heap.size+1) (.loop { rec .ready none with state:=.busy })).heap[w.heap.size]?=some (.deferred (some [])):=(World.putObj_heap_other (by omega)).trans hk1;have hs2:Yam w.heap.size m2 w1 m2 (w1.putObj (w.heap.size+1) (.loop { rec .ready none with state:=.busy })):=.put hl1 rfl (by omega);generalize hW2:w1.putObj (w.heap.size+1) (.loop { rec .ready none with state:=.busy })=W2 at *
   refine wpIn_mono (hbody W2 hs2) ?_;rintro e a3 W3 ⟨hkl3,m3,he3,hp⟩;have hl3:=hkl3 _ _ (fun h=>h) hl2 rfl;have hk3:=hkl3 _ _ (fun h=>h) hk2 rfl;rcases hp with ⟨rfl,hi3⟩|⟨rfl,hd,hp3⟩
   ·have hr:(Instr.endRound (w.heap.size+1) none).run P W3=.ok (.bool true) (W3.putObj (w.heap.size+1) (.loop (rec .ready none))):=by
     have:=run_endRound (P:=P) none hl3
     rw [hrec] at this ⊢;exact this
    have hs3:Yam w.heap.size m3 W3 m3 (W3.putObj (w.heap.size+1) (.loop (rec .ready none))):=.put hl3 rfl (by omega);refine ⟨_,_,hr,m3,?_,.inl ⟨rfl,hJ _ _ _ _ _ hi3 hs3,(he.trans (he2.trans hs2.ext)).trans (he3.trans hs3.ext),World.putObj_heap_same (Array.getElem?_eq_some_iff.1 hl3).1,(World.putObj_heap_other (by omega)).trans hk3⟩⟩;exact (he2.trans hs2.ext).trans (he3.trans hs3.ext)
   ·exact ⟨hd,m3,(he2.trans hs2.ext).trans he3,.inr ⟨rfl,hp3,(he.trans (he2.trans hs2.ext)).trans he3,hk3⟩⟩
  ·-- YaJ the iterator
   rintro e W2 ⟨m2,he2,(⟨v,rfl,hi,he,hl,hk⟩|⟨rfl,hi,he,hk⟩)⟩
   ·have hr:=run_endLoop (P:=P) hl (by rw [hrec];simp);have hs3:Yam w.heap.size m2 W2 m2 (W2.putObj (w.heap.size+1) (.loop { rec .ready none with state:=.exhausted })):=.put hl rfl (by omega);refine ⟨_,by rw [hrec] at hr ⊢;exact hr,hdone m2 _ (hmS ▸ he.trans hs3.ext) (hJ _ _ _ _ _ hi hs3) ((World.putObj_heap_other (by omega)).trans hk)⟩
   ·exact hpanic m2 _ (hmS ▸ he) hi hk
def Yho (B:Base) (r:AV) (η':Eta) (p:Prop) (pv:Value) (ηX:Eta):Ending→World→Prop:=fun e w'=>(p∧YbF B r η' e w')∨(¬ p∧YoR B pv ηX e w')
def Ybu (P:Program) (f:Nat) (as:List AV) (η:Eta) (r:AV) (η':Eta) (p:Prop) (pv:Value) (ηX:Eta):Prop:=
 ∀ m w γ vs,Heap m w γ η→VL m w γ vs as→Calls P f vs.toArray w (Yho (Ya1 m w γ η) r η' p pv ηX)
section
variable {P:Program} {f:Nat} {fn:Func} {c:Code} {as:List AV} {η η' ηX:Eta} {r:AV} {p:Prop} {pv:Value}
theorem Ybu.yes (h:Ybu P f as η r η' p pv ηX) (hp:p):Spec P f as η r η':=fun m w γ vs h1 h2=>(h m w γ vs h1 h2).mono fun _ _ q=>q.elim (fun q=>q.2) (fun q=>absurd hp q.1)
theorem Ybu.no (h:Ybu P f as η r η' p pv ηX) (hp:¬ p):YaZ P f as η pv ηX:=fun m w γ vs h1 h2=>(h m w γ vs h1 h2).mono fun _ _ q=>q.elim (fun q=>absurd q.1 hp) (fun q=>q.2)
theorem Ybu.enter {tab:Tab} {N:Nat} (hT:YaX P tab) (hm:P.follows .mixedOrders=true) (hf:P.funcs[f]?=some fn) (hb:fn.body=some c) (hN:fn.ntmps=N) (ha:Nat.ble as.length N=true)
  (h:∀ B (hB:B.γ.length=η.length),TC ⟨P,tab,hT,hm,N,[],B,η.length,hB,none,0⟩ (bodyPost P fn (Yho B r η' p pv ηX)) c (Ym3 0 as) η):Ybu P f as η r η' p pv ηX:=by
 intro m w γ vs hH hV;refine W.enter (N:=N) (W.zipA 0 vs) hf hb hN (by simp) (by have:=hV.len;simp at ha;simp;omega) fun a hE=>?_;exact h (Ya1 m w γ η) hH.len a w ⟨m,γ,_,hE,hV.zip 0,hH,.refl _ _ _,fun i v o b h1 h2 h3=>.inl (Yap.2 ⟨i,v,o,h1,h2,h3⟩),.refl _⟩
end
theorem Yfo {P:Program} {fn:Func} {R R':Ending→World→Prop} {e:Exit} {a:Act} {w:World} (h:bodyPost P fn R e a w) (hr:∀ e w,R e w→R' e w):bodyPost P fn R' e a w:=by
 cases e with
 | normal=>exact ⟨h.1,h.2.choose,h.2.choose_spec.1,hr _ _ h.2.choose_spec.2⟩
 | ret=>exact ⟨h.1,h.2.choose,h.2.choose_spec.1,hr _ _ h.2.choose_spec.2⟩
 | panic ch=>exact ⟨h.1,hr _ _ h.2⟩
 | outgrown=>exact hr _ _ h
 | exit id=>exact h
 | goto l=>exact h
def TF (C:Cx) (f0:Nat) (Q:Qt) (c:Code) (ρ:Ro) (η:Eta):Prop:=∀ a w,A2 C.N C.D C.B a w ρ η→wpF C.P f0 c Q a w
section
variable {C:Cx} {Q Q2:Qt} {ρ ρ':Ro} {η η' ηX:Eta} {f0:Nat} {c x y:Code} {id:Nat} {P:Program} {fn:Func} {R:Ending→World→Prop} {B:Base} {r:AV} {p:Prop} {pv:Value} {e:Exit}
theorem TX.yes (hp:p) (h:TX C (bodyPost P fn (YbF B r η')) e ρ η):TX C (bodyPost P fn (Yho B r η' p pv ηX)) e ρ η:=fun a w hA=>Yfo (h a w hA) fun _ _ q=>.inl ⟨hp,q⟩
theorem TX.no (hp:¬ p) (h:TX C (bodyPost P fn (YoR B pv ηX)) e ρ η):TX C (bodyPost P fn (Yho B r η' p pv ηX)) e ρ η:=fun a w hA=>Yfo (h a w hA) fun _ _ q=>.inr ⟨hp,q⟩
theorem TF.of (h:TC C Q c ρ η) (hr:C.r=none:=by with_unfolding_all exact rfl):TF C f0 Q c ρ η:=fun a w hA=>YrM (by have:=h a w hA;rwa [Cx.W_none hr] at this)
theorem TF.seq (h:TC C (Exit.then (wpF C.P f0 y Q) Q) x ρ η) (hr:C.r=none:=by with_unfolding_all exact rfl):TF C f0 Q (.seq x y) ρ η:=fun a w hA=>YpR (YrM (by have:=h a w hA;rwa [Cx.W_none hr] at this))
theorem ZaX (h:TF C f0 Q y ρ η):TX C (Exit.then (wpF C.P f0 y Q) Q2) .normal ρ η:=fun a w hA=>h a w hA
theorem TF.block (h:TF C f0 (Exit.inBlock id Q) c ρ η):TF C f0 Q (.block id c) ρ η:=fun a w hA=>YoM (h a w hA)
theorem ZcP {as:List AV} {tab:Tab} {N:Nat} (hT:YaX P tab) (hm:P.follows .mixedOrders=true) (hf:P.funcs[f0]?=some fn) (hb:fn.body=some c) (hN:fn.ntmps=N) (ha:Nat.ble as.length N=true)
  (h:∀ B (hB:B.γ.length=η.length),TF ⟨P,tab,hT,hm,N,[],B,η.length,hB,none,0⟩ f0 (bodyPostM Fence.wide 0 P fn (Yho B r η' p pv ηX)) c (Ym3 0 as) η):Ybu P f0 as η r η' p pv ηX:=by
 intro m w γ vs hH hV;have hl:=hV.len;simp at ha;refine Yux hf hb (h (Ya1 m w γ η) hH.len _ w ⟨m,γ,W.zipA 0 vs,⟨by simp [hN];omega,rfl,?_⟩,hV.zip 0,hH,.refl _ _ _,fun i v o b h1 h2 h3=>.inl (Yap.2 ⟨i,v,o,h1,h2,h3⟩),.refl _⟩);intro t v ht;obtain ⟨_,h2⟩:=Go.W.zipA_look vs 0 t v ht;have h3:vs.toArray[t]?=some v:=by simpa using h2
 have hlt:t < vs.toArray.size:=by
  rcases Array.getElem?_eq_some_iff.1 h3 with ⟨q,_⟩;exact q
 simp only [Array.getElem?_append,hlt,if_true];exact h3
def RQX (C:Cx) (η':Eta) (gd:Prop) (ηX:Eta) (bad:Prop) (pv:Value):Qt
 | .normal,a,w=>gd∧A2 C.N C.D C.B a w [] η'
 | .panic ch,a,w=>ch=pan pv∧bad∧a.defers=[]∧∃ m γ,In C.B m w γ ηX
 | _,_,_=>False
theorem Zbw {gd bad:Prop} (hg:gd) (σ:List Nat) (ho:Ybw (ts σ) η σ η':=by repeat' (first|with_unfolding_all exact trivial|exact OE.ren (by with_unfolding_all exact rfl)|with_unfolding_all exact OE.gs|with_unfolding_all refine And.intro ⟨_,by with_unfolding_all exact rfl,?_⟩ ?_)) (hn:YbG σ=true:=by with_unfolding_all exact rfl) (hp:Ycy C.n 0 σ=true:=by with_unfolding_all exact rfl):TX C (RQX C η' gd ηX bad pv) .normal ρ η:=fun _ _ hA=>⟨hg,hA.sel C.hn hn hp ho trivial⟩
theorem ZaV {gd bad:Prop} (hg:bad) (σ:List Nat) (hD:C.D=[]:=by with_unfolding_all exact rfl) (ho:Ybw (ts σ) η σ ηX:=by repeat' (first|with_unfolding_all exact trivial|exact OE.ren (by with_unfolding_all exact rfl)|with_unfolding_all exact OE.gs|with_unfolding_all refine And.intro ⟨_,by with_unfolding_all exact rfl,?_⟩ ?_)) (hn:YbG σ=true:=by with_unfolding_all exact rfl) (hp:Ycy C.n 0 σ=true:=by with_unfolding_all exact rfl):TX C (RQX C η' gd ηX bad pv) (.panic (pan pv)) ρ η:=fun _ _ hA=>by
 obtain ⟨m,γ,ρc,hE,_,hI⟩:=A2.sel (ρ':=[]) hA C.hn hn hp ho trivial;exact ⟨rfl,hg,by rw [hE.defers,hD],m,γ,hI⟩
def RQA (C:Cx) (ρ1:Ro) (η1:Eta):Qt:=fun e a w=>e=.normal∧A2 C.N C.D C.B a w ρ1 η1
theorem Zdu {ρ1:Ro} {η1:Eta} (σ:List Nat) (ho:Ybw (ts σ) η σ η1:=by repeat' (first|with_unfolding_all exact trivial|exact OE.ren (by with_unfolding_all exact rfl)|with_unfolding_all exact OE.gs|with_unfolding_all refine And.intro ⟨_,by with_unfolding_all exact rfl,?_⟩ ?_))
  (hr:YdG (ts σ) ρ ρ1:=by repeat' (first|with_unfolding_all exact trivial|exact LE.ren (by with_unfolding_all exact rfl)|with_unfolding_all exact LE.sl|with_unfolding_all exact LE.nil (by decide)|with_unfolding_all refine And.intro ⟨_,by with_unfolding_all exact rfl,?_⟩ ?_))
  (hn:YbG σ=true:=by with_unfolding_all exact rfl) (hp:Ycy C.n 0 σ=true:=by with_unfolding_all exact rfl):TX C (RQA C ρ1 η1) .normal ρ η:=fun _ _ hA=>⟨rfl,hA.sel C.hn hn hp ho hr⟩
set_option maxHeartbeats 1000000 in
theorem Zdv {α:Type} {as:α→List AV} {ok:α→Prop} {L:List α} {g:Operand} {t1 t2:Nat} {assign body:Code} {fn0:Func} (u1 u2:α→AV) (ρ0:Ro) (ηs:List α→Eta) (ρ1:List α→α→Ro) (η1:List α→α→Eta) (ηX:Eta) (good:List α→Prop) (bad:Prop) (n0:Nat) (σ:List Nat)
  (hf0:C.P.funcs[f0]?=some fn0) (hx:ev2 ρ g=some (.pr (Ys1 C.P as ok pv L))) (has:∀ x,as x=[u1 x,u2 x]) (hn:YbG σ=true) (hp:Ycy C.n 0 σ=true) (ho:Ybw (ts σ) η σ (ηs [])) (hρ:YdG (ts σ) ρ ρ0) (hself:YdG (ts (List.range n0)) ρ0 ρ0)
  (hnn:C.n≤n0) (hn0:n0≤(ηs []).length) (ht1:Nat.blt t1 C.N=true) (ht2:Nat.blt t2 C.N=true) (hg0:good []) (hok:∀ pre,good pre→∀ x∈pre,ok x)
  (hassign:∀ pre x (Bx:Base) (hB:Bx.γ.length=n0) l,(∃ r,pre++x::r=L)→good pre→TC ⟨C.P,C.tab,C.hT,C.hm,C.N,[],Bx,n0,hB,some (some l),0⟩ (RQA ⟨C.P,C.tab,C.hT,C.hm,C.N,[],Bx,n0,hB,some (some l),0⟩ (ρ1 pre x) (η1 pre x)) assign ((t2,u2 x)::(t1,u1 x)::ρ0) (ηs pre))
  (hbody:∀ pre x (Bx:Base) (hB:Bx.γ.length=n0) l,(∃ r,pre++x::r=L)→good pre→TC ⟨C.P,C.tab,C.hT,C.hm,C.N,[],Bx,n0,hB,some (some l),0⟩ (RQX ⟨C.P,C.tab,C.hT,C.hm,C.N,[],Bx,n0,hB,some (some l),0⟩ (ηs (pre++[x])) (good (pre++[x])) ηX bad pv) body (ρ1 pre x) (η1 pre x))
  (hdone:good L→∀ (B':Base) (hB':B'.γ.length=C.n) D,Marked C.B B' D→TX ⟨C.P,C.tab,C.hT,C.hm,C.N,YbD D::C.D,B',C.n,hB',none,0⟩ Q .normal ρ0 (ηs L))
  (hpanic:bad→∀ (B':Base) (hB':B'.γ.length=C.n) D,Marked C.B B' D→TX ⟨C.P,C.tab,C.hT,C.hm,C.N,YbD D::C.D,B',C.n,hB',none,0⟩ Q (.panic (pan pv)) ρ0 ηX) :
  TF C f0 Q (.rangeFunc g #[t1,t2] assign body) ρ η:=by
 rintro a w ⟨m,γ,ρc,hE,hR,hI⟩;obtain ⟨v,hv1,hv2⟩:=hR.ev hx;obtain ⟨γ',hsh,hI'⟩:=hI.sel C.hn hn hp ho;obtain ⟨ρc',hR',hsub⟩:=YdG.rl hsh hR hρ;have hE':=hE.sel hsub;have hg0':=hE.ev hv1
 cases hv2 with
 | pr hseq =>
 obtain ⟨gf,lb,fn,rfl,hf,hb,hseq⟩:=hseq;have hl':=hI'.heap.len;have hsh0:Sh2 (ts (List.range n0)) γ' (γ'.take n0):=by
  intro i j hij w' hw';obtain ⟨k,h1,h2⟩:=YcD (List.range n0) i 0 j hij;have hk:k < n0:=by have:=(List.getElem?_eq_some_iff.1 h2).1;simpa using this
  rw [List.getElem?_range hk] at h2
  cases h2
  rw [h1,Nat.zero_add,List.getElem?_take,if_pos hk];exact hw'
 obtain ⟨ρc0,hR0,hsub0⟩:=YdG.rl hsh0 hR' hself;have hE0:=hE'.sel hsub0;have hpre0:Pre (γ'.take n0) γ':=fun i v h=>by
  rw [List.getElem?_take] at h;split at h
  ·exact h
  ·cases h
 have hlen0:(γ'.take n0).length=n0:=by simp;omega
 have hIb:=hI'.rebase hpre0;have hpc:Pre C.B.γ (γ'.take n0):=fun i v h=>by
  have hi:=(List.getElem?_eq_some_iff.1 h).1;rw [C.hn] at hi;rw [List.getElem?_take,if_pos (by omega)];exact hI'.pre i v h
 have hend:∀ m' W' γL ηL,In ⟨m,w,Ybl γ' (ηs []),γ'.take n0⟩ m' W' γL ηL→W'.heap[w.heap.size]?=some (.deferred (some []))→In ⟨m',W',Ybl γL ηL,C.B.γ⟩ m' W' γL ηL∧Marked C.B ⟨m',W',Ybl γL ηL,C.B.γ⟩ w.heap.size:=by
  intro m' W' γL ηL hL hD;refine ⟨hL.rebase (hpc.trans hL.pre),⟨hI'.far.trans hL.far (Yaq hI'),fun b hb=>?_,.refl _,hD,fun hm=>?_,hI'.far.size⟩⟩
  ·rcases Yaq hL b hb with h|h
   ·exact Yaq hI' b h
   ·exact .inr (Nat.le_trans hI'.far.size h)
  ·have:=Ybc hL _ hm _ hD;cases this
 have hkeep:∀ (Bx:Base) m3 (W':World) γ3 η3 γ1 η0,In Bx m3 W' γ3 η3→Bx.S=Ybl γ1 η0→(∀ b∈Ybl γ1 η0,∀ ob,Bx.w.heap[b]?=some ob→Ym5 ob=false)→YbN (fun _=>False) Bx.w W':=by
  intro Bx m3 W' γ3 η3 γ1 η0 h3 hS hnl b o _ hbo hld;have hn:b ∉ Bx.S:=fun hm=>by rw [hS] at hm;rw [hnl b hm o hbo] at hld;cases hld
  rw [h3.far.block b (Array.getElem?_eq_some_iff.1 hbo).1 hn];exact hbo
 refine YsT hf0 hg0' hf hb hseq (fun pre m1 W1=>good pre∧∃ γ1,In ⟨m,w,Ybl γ' (ηs []),γ'.take n0⟩ m1 W1 γ1 (ηs pre)) (fun m1 W1=>bad∧∃ γ1,In ⟨m,w,Ybl γ' (ηs []),γ'.take n0⟩ m1 W1 γ1 ηX) ?_ ?_ (fun pre m W h=>hok pre h.1) ⟨hg0,γ',hIb⟩ ?_ ?_ ?_ ?_
 ·rintro pre m1 W1 m2 W2 ⟨hgd,γ1,h1⟩ hs;exact ⟨hgd,γ1,h1.step hs⟩
 ·rintro _ m1 W1 m2 W2 ⟨hbd,γ1,h1⟩ hs;exact ⟨hbd,γ1,h1.step hs⟩
 ·intro x;rw [has];rfl
 ·rintro l pre x m1 W1 v1 v2 hl ⟨hgd,γ1,h1⟩ hpre hv he;rw [has] at hv;have hrep1:Rep m1 W1 γ1 v1 (u1 x):=hv.1.mono (.refl _ _) (fun i v h=>by simp at h);have hrep2:Rep m1 W1 γ1 v2 (u2 x):=hv.2.1.mono (.refl _ _) (fun i v h=>by simp at h);have hIx:=h1.rebase h1.pre;have hEr:Env C.N [] ({ tmps:=(a.tmps.setIfInBounds t1 v1).setIfInBounds t2 v2,defers:=[] }:Act) ((t2,v2)::(t1,v1)::ρc0):=by
   have h1:=Env.setT (v:=v1) hE0 (by simpa using ht1);exact Env.setT (v:=v2) h1 (by simpa using ht2)
  have hb:=hassign pre x ⟨m1,W1,Ybl γ1 (ηs pre),γ'.take n0⟩ hlen0 l hpre hgd _ _ ⟨m1,γ1,_,hEr,⟨rfl,hrep2,rfl,hrep1,hR0.mono he h1.pre⟩,hIx⟩;rw [Cx.W_some rfl] at hb;refine wpIn_mono hb fun e a1 w1 hq=>?_;obtain ⟨rfl,m2,γ2,ρc2,hE2,hR2,h2⟩:=hq;refine ⟨rfl,hkeep _ _ _ _ _ γ1 (ηs pre) h2 rfl (Ybc h1),m2,h2.far.ext,fun w2 hs=>?_⟩;have h2':In ⟨m,w,Ybl γ' (ηs []),γ'.take n0⟩ m2 w1 γ2 (η1 pre x):=h2.comp h1.far (Yaq h1) (.refl _);have h3:=h2'.step hs;have hIy:=h3.rebase h3.pre;have hb2:=hbody pre x ⟨m2,w2,Ybl γ2 (η1 pre x),γ'.take n0⟩ hlen0 l hpre hgd _ _ ⟨m2,γ2,ρc2,hE2,hR2.mono hs.ext (.refl _),hIy⟩;rw [Cx.W_some rfl] at hb2;refine wpIn_mono hb2 fun e a3 w3 hq=>?_
  cases e with
  | normal =>
    obtain ⟨hgd',m3,γ3,_,_,_,h4⟩:=hq;exact ⟨hkeep _ _ _ _ _ γ2 (η1 pre x) h4 rfl (Ybc h3),m3,h4.far.ext,.inl ⟨rfl,hgd',γ3,h4.comp h3.far (Yaq h3) (.refl _)⟩⟩
  | panic ch =>
    obtain ⟨rfl,hbd,hd4,m3,γ3,h4⟩:=hq;exact ⟨hkeep _ _ _ _ _ γ2 (η1 pre x) h4 rfl (Ybc h3),m3,h4.far.ext,.inr ⟨rfl,hd4,hbd,γ3,h4.comp h3.far (Yaq h3) (.refl _)⟩⟩
  | _=>exact hq.elim
 ·rintro m' W' he ⟨hgd,γL,hL⟩ hD;obtain ⟨h1,h2⟩:=hend m' W' γL (ηs L) hL hD;exact hdone hgd ⟨m',W',Ybl γL (ηs L),C.B.γ⟩ C.hn _ h2 _ _ ⟨m',γL,ρc0,⟨hE0.size,by show _::a.defers=_;rw [hE0.defers],hE0.look⟩,hR0.mono he hL.pre,h1⟩
 ·rintro m' W' he ⟨hbd,γL,hL⟩ hD;obtain ⟨h1,h2⟩:=hend m' W' γL ηX hL hD;exact hpanic hbd ⟨m',W',Ybl γL ηX,C.B.γ⟩ C.hn _ h2 _ _ ⟨m',γL,ρc0,⟨hE0.size,by show _::a.defers=_;rw [hE0.defers],hE0.look⟩,hR0.mono he hL.pre,h1⟩
end
open Go Go.W
structure Left (R:Prop):Prop where
 out:R
theorem go {R G:Prop} (k:R) (h:Left R→G:=by
  intro b;repeat' (with_reducible first|refine OL.st ?_|refine OL.box ?_|refine OL.alloc ?_|refine OL.store ?_|refine Zau ?_|refine ZbB ?_|refine ZbL ?_|refine OL.lit ?_|refine ZbK ?_|refine ZaH ?_|refine OL.app ?_|refine OL.makeMap ?_|refine OL.build ?_|refine TC.region ?_|refine TC.seq ?_|refine OL.nil ?_|refine Zap ?_|refine TC.block ?_|refine TC.skip ?_|refine ZaM ?_|refine TC.exit ?_|refine Za3 ?_|refine Za2 ?_|refine Zbr ?_ rfl|refine ZaY ?_|refine Za9 ?_|refine ZaB ?_|refine ZaD ?_|refine ZbH ?_|refine Zay ?_ ?_<;>(intro hc;try (exfalso;omega))|refine Zaz ?_ ?_<;>(intro hc;try (exfalso;omega))|refine TC.ret ?_|refine ZaE ?_|refine ZaK ?_|refine TC.scope ?_|refine TC.label ?_|refine Zbx ?_|refine Zby ?_|refine Zbz ?_|fail)
  exact b.out):G:=h ⟨k⟩
theorem goW {R G:Prop} (k:R) (h:Left R→G:=by
  intro b;repeat' (with_reducible first|refine OL.st ?_|refine OL.box ?_|refine OL.alloc ?_|refine OL.store ?_|refine Zau ?_|refine ZbB ?_|refine ZbL ?_|refine OL.lit ?_|refine ZbK ?_|refine ZaH ?_|refine OL.app ?_|refine OL.makeMap ?_|refine OL.build ?_|refine TC.region ?_|refine TC.seq ?_|refine OL.nil ?_|refine Zap ?_|refine TC.block ?_|refine TC.skip ?_|refine ZaM ?_|refine TC.exit ?_|refine Za3 ?_|refine Za2 ?_|refine Zbr ?_ rfl|refine ZaY ?_|refine Za9 ?_|refine ZaB ?_|refine ZaD ?_|refine ZbH ?_|refine Zay ?_ ?_<;>(intro hc;try (exfalso;omega))|refine Zaz ?_ ?_<;>(intro hc;try (exfalso;omega))|refine TC.ret ?_|refine ZaE ?_|refine ZaK ?_|refine TC.scope ?_|refine TC.label ?_|refine Zbx ?_|refine Zby ?_|refine Zbz ?_|refine Zbt ?_|fail)
  exact b.out):G:=h ⟨k⟩
theorem YaF {R G:Prop} (k:R) (h:Left R→G:=by
  intro b;repeat' (with_reducible first|refine OL.st ?_|refine OL.box ?_|refine OL.alloc ?_|refine OL.store ?_|refine Zau ?_|refine ZbB ?_|refine ZbL ?_|refine OL.lit ?_|refine ZbK ?_|refine ZaH ?_|refine OL.app ?_|refine OL.makeMap ?_|refine OL.build ?_|refine TC.region ?_|refine TC.seq ?_|refine OL.nil ?_|refine Zap ?_|refine TC.block ?_|refine TC.skip ?_|refine ZaM ?_|refine TC.exit ?_|refine Za3 ?_|refine Za2 ?_|refine Zbr ?_ rfl|refine ZaY ?_|refine Za9 ?_|refine ZaB ?_|refine ZaD ?_|refine ZbH ?_|refine Zay ?_ ?_<;>(intro hc;try (exfalso;omega))|refine Zaz ?_ ?_<;>(intro hc;try (exfalso;omega))|refine TC.ret ?_|refine ZaE ?_|refine ZaK ?_|refine TC.scope ?_|refine TC.label ?_|refine Zbx ?_|refine Zby ?_|refine Zbz ?_|refine Zb2 ?_|refine Zbt ?_|fail)
  exact b.out):G:=h ⟨k⟩
theorem goS {R S G:Prop} (k:R) (l:S) (h:Left R→Left S→G:=by
  intro b c;repeat' (with_reducible first|refine OL.st ?_|refine OL.box ?_|refine OL.alloc ?_|refine OL.store ?_|refine Zau ?_|refine ZbB ?_|refine ZbL ?_|refine OL.lit ?_|refine ZbK ?_|refine ZaH ?_|refine OL.app ?_|refine OL.makeMap ?_|refine OL.build ?_|refine TC.region ?_|refine TC.seq ?_|refine OL.nil ?_|refine Zap ?_|refine TC.block ?_|refine TC.skip ?_|refine ZaM ?_|refine TC.exit ?_|refine Za3 ?_|refine Za2 ?_|refine Zbr ?_ rfl|refine ZaY ?_|refine Za9 ?_|refine ZaB ?_|refine ZaD ?_|refine ZbH ?_|(refine Zay ?_ ?_;focus (intro hc;exfalso;omega);intro hc)|(refine Zay ?_ ?_;rotate_left;focus (intro hc;exfalso;omega);intro hc)|refine Zay ?_ ?_|(refine Zaz ?_ ?_;focus (intro hc;exfalso;omega);intro hc)|(refine Zaz ?_ ?_;rotate_left;focus (intro hc;exfalso;omega);intro hc)|refine Zaz ?_ ?_|refine TC.ret ?_|refine ZaE ?_|refine ZaK ?_|refine TC.scope ?_|refine TC.label ?_|refine Zbx ?_|refine Zby ?_|refine Zbz ?_|fail)
  focus exact b.out
  exact c.out):G:=h ⟨k⟩ ⟨l⟩
theorem YnB {R S G:Prop} (k:R) (l:S) (h:Left R→Left S→G:=by
  intro b c;repeat' (with_reducible first|refine OL.st ?_|refine OL.box ?_|refine OL.alloc ?_|refine OL.store ?_|refine Zau ?_|refine ZbB ?_|refine ZbL ?_|refine OL.lit ?_|refine ZbK ?_|refine ZaH ?_|refine OL.app ?_|refine OL.makeMap ?_|refine OL.build ?_|refine TC.region ?_|refine TC.seq ?_|refine OL.nil ?_|refine Zap ?_|refine TC.block ?_|refine TC.skip ?_|refine ZaM ?_|refine TC.exit ?_|refine Za3 ?_|refine Za2 ?_|refine Zbr ?_ rfl|refine ZaY ?_|refine Za9 ?_|refine ZaB ?_|refine ZaD ?_|refine ZbH ?_|(refine Zay ?_ ?_;focus (intro hc;exfalso;omega);intro hc)|(refine Zay ?_ ?_;rotate_left;focus (intro hc;exfalso;omega);intro hc)|refine Zay ?_ ?_|(refine Zaz ?_ ?_;focus (intro hc;exfalso;omega);intro hc)|(refine Zaz ?_ ?_;rotate_left;focus (intro hc;exfalso;omega);intro hc)|refine Zaz ?_ ?_|refine TC.ret ?_|refine ZaE ?_|refine ZaK ?_|refine TC.scope ?_|refine TC.label ?_|refine Zbx ?_|refine Zby ?_|refine Zbz ?_|refine Zbt ?_|fail)
  focus exact b.out
  exact c.out):G:=h ⟨k⟩ ⟨l⟩
theorem YxP {R S G:Prop} (k:R) (l:S) (h:Left R→Left S→G:=by
  intro b c;repeat' (with_reducible first|refine OL.st ?_|refine OL.box ?_|refine OL.alloc ?_|refine OL.store ?_|refine Zau ?_|refine ZbB ?_|refine ZbL ?_|refine OL.lit ?_|refine ZbK ?_|refine ZaH ?_|refine OL.app ?_|refine OL.makeMap ?_|refine OL.build ?_|refine TC.region ?_|refine TC.seq ?_|refine OL.nil ?_|refine Zap ?_|refine TC.block ?_|refine TC.skip ?_|refine ZaM ?_|refine TC.exit ?_|refine Za3 ?_|refine Za2 ?_|refine Zbr ?_ rfl|refine ZaY ?_|refine Za9 ?_|refine ZaB ?_|refine ZaD ?_|refine ZbH ?_|(refine Zay ?_ ?_;focus (intro hc;exfalso;omega);intro hc)|(refine Zay ?_ ?_;rotate_left;focus (intro hc;exfalso;omega);intro hc)|refine Zay ?_ ?_|(refine Zaz ?_ ?_;focus (intro hc;exfalso;omega);intro hc)|(refine Zaz ?_ ?_;rotate_left;focus (intro hc;exfalso;omega);intro hc)|refine Zaz ?_ ?_|refine TC.ret ?_|refine ZaE ?_|refine ZaK ?_|refine TC.scope ?_|refine TC.label ?_|refine Zbx ?_|refine Zby ?_|refine Zbz ?_|refine Zb2 ?_|refine Zbt ?_|fail)
  focus exact b.out
  exact c.out):G:=h ⟨k⟩ ⟨l⟩
def Yp4 (f:Fn) (caps:List AV):Nat→AV
 | 0=>.junk
 | k+1=>.ep [.fn f [] (caps++[Yp4 f caps k])] 0
section
variable {C:Cx} {ops:Array Oper} {Q:Qt} {A:Code} {ρ ρ':Ro} {η η' η2 ηX:Eta} {rest:List Oper} {T d:Nat} {dst:Option Tmp} {pos:String} {af:Array Edge} {x:Operand} {args:List Operand} {at_:Array TypeId}
theorem Zdw {t i E:Nat} {f:Fn} {caps:List AV} (n:Nat) (hx:lk ρ t=some (.bp i 0)) (ho:η[i]?=some (.cb E [.fn f [] (caps++[.bp i 0])])) (hp:caps.all pureA=true):Wk C ρ η ((t,Yp4 f caps n)::ρ) (η.set i .dead):=by
 rintro a w ⟨m,γ,ρc,hE,hR,hI⟩;obtain ⟨u,g1,g2⟩:=hR.look hx
 cases g2 with
 | @bp _ _ _ b hb =>
 obtain ⟨b',vs,e,hB,hC⟩:=hI.heap.ok i _ _ hb ho
 cases e
 obtain ⟨hx1,hcell⟩:=hB.freeze;have hT:=hB.frz;have key:∀ k (γ':List Value),Rep (Yb8 m b vs.length) w γ' (.pointer (some ⟨b,0,none⟩)) (Yp4 f caps k):=by
  intro k;induction k with
  | zero=>intro γ';exact .junk
  | succ k ih =>
    intro γ';refine Rep.ep (γ:=γ') (o:=0) (q:=0) hcell (by have:=hC.1;simpa using this) hC.2.1 (fun j v c h1 h2=>?_);have hj:j=0:=by have:=(List.getElem?_eq_some_iff.1 h2).1;simp at this;omega
    subst hj;simp at h2;subst h2;have hr:=hC.2.2 0 v _ h1 rfl
    cases hr with
    | @fn _ _ fv cv _ _ l1 l2 q1 q2 =>
    refine .fn l1 (by simpa using l2) (fun j v c _ h2=>by simp at h2) (fun j v c h1 h2=>?_);by_cases hj:j < caps.length
    ·rw [List.getElem?_append_left hj] at h2;have h3:=q2 j v c h1 (by rw [List.getElem?_append_left hj];exact h2);exact (YaV h3 (List.all_eq_true.1 hp c (List.mem_of_getElem? h2))).mono hx1 (.refl _)
    ·have hlt:=(List.getElem?_eq_some_iff.1 h2).1;simp at hlt;have e:j=caps.length:=by omega
     subst e;have h3:=q2 caps.length v (.bp i 0) h1 (by simp);simp at h2;subst h2
     cases h3 with
     | @bp _ _ _ b2 hb2 =>
     rw [hb] at hb2
     cases hb2
     exact ih []
 refine ⟨_,γ,(t,.pointer (some ⟨b,0,none⟩))::ρc,⟨hE.size,hE.defers,fun s q hs=>?_⟩,⟨rfl,key n γ,hR.mono hx1 (.refl _)⟩,hI.put (o':=.dead) hb ho hT trivial (.inr rfl)⟩;simp only [W.look] at hs
 cases hb':Nat.beq t s with
 | true =>
   rw [hb'] at hs;simp at hs;subst hs;rw [← Nat.eq_of_beq_eq_true hb'];exact hE.look _ _ g1
 | false=>rw [hb'] at hs;exact hE.look _ _ (by simpa using hs)
theorem Zdx {i E:Nat} {f:Fn} {caps:List AV} (t n:Nat) (k:TC C Q A ((t,Yp4 f caps n)::ρ) η2) (hx:lk ρ t=some (.bp i 0):=by with_unfolding_all exact rfl) (ho:η[i]?=some (.cb E [.fn f [] (caps++[.bp i 0])]):=by with_unfolding_all exact rfl) (hp:caps.all pureA=true:=by with_unfolding_all exact rfl) (hη:η.set i .dead=η2:=by (try dsimp only [List.set])<;>exact rfl):TC C Q A ρ η:=by
 subst hη;exact Zbd (Zdw n hx ho hp) k
/-! ## Exits of a function that holds one such loop -/
variable {P:Program} {fn:Func} {B:Base} {p:Prop} {pv:Value} {k D:Nat}
theorem ZcQ (hp:p) (hM:Marked B C.B D) (hBn:B.γ.length=C.n) (σ:List Nat) (hD:C.D=[YbD D]:=by with_unfolding_all exact rfl) (hres:fn.results=#[]:=by with_unfolding_all exact rfl)
  (hn:YbG σ=true:=by with_unfolding_all exact rfl) (hpr:Ycy C.n 0 σ=true:=by with_unfolding_all exact rfl) (ho:Ybw (ts σ) η σ η':=by repeat' (first|with_unfolding_all exact trivial|exact OE.ren (by with_unfolding_all exact rfl)|with_unfolding_all exact OE.gs|with_unfolding_all refine And.intro ⟨_,by with_unfolding_all exact rfl,?_⟩ ?_)) :
  TX C (bodyPostM Fence.wide k P fn (Yho B (.tp []) η' p pv ηX)) .normal ρ η:=by
 rintro a w ⟨m,γ,ρc,hE,hR,hI⟩;have hDw:w.heap[D]?=some (.deferred (some [])):=by
  rw [hI.far.block D (Array.getElem?_eq_some_iff.1 hM.mark).1 hM.off];exact hM.mark
 have hI0:In B m w γ η:=hI.comp hM.far hM.own hM.pre;obtain ⟨γ',g1,g2⟩:=hI0.sel hBn hn hpr ho;have hs:Yam B.w.heap.size m w m (w.putObj D (.deferred none)):=.put hDw rfl hM.le;rw [hD] at hE;refine W.retM0 hE hres hDw (.inl ⟨hp,_,m,γ',rfl,g2.step hs,.tp (vs:=[]) rfl fun j v c hv hc=>?_⟩);simp at hv
theorem Zdy (hp:¬ p) (hM:Marked B C.B D) (hBn:B.γ.length=C.n) (σ:List Nat) (hD:C.D=[YbD D]:=by with_unfolding_all exact rfl)
  (hn:YbG σ=true:=by with_unfolding_all exact rfl) (hpr:Ycy C.n 0 σ=true:=by with_unfolding_all exact rfl) (ho:Ybw (ts σ) η σ ηX:=by repeat' (first|with_unfolding_all exact trivial|exact OE.ren (by with_unfolding_all exact rfl)|with_unfolding_all exact OE.gs|with_unfolding_all refine And.intro ⟨_,by with_unfolding_all exact rfl,?_⟩ ?_)) {r:AV} :
  TX C (bodyPostM Fence.wide k P fn (Yho B r η' p pv ηX)) (.panic (pan pv)) ρ η:=by
 rintro a w ⟨m,γ,ρc,hE,hR,hI⟩;have hDw:w.heap[D]?=some (.deferred (some [])):=by
  rw [hI.far.block D (Array.getElem?_eq_some_iff.1 hM.mark).1 hM.off];exact hM.mark
 have hI0:In B m w γ η:=hI.comp hM.far hM.own hM.pre;obtain ⟨γ',g1,g2⟩:=hI0.sel hBn hn hpr ho;have hs:Yam B.w.heap.size m w m (w.putObj D (.deferred none)):=.put hDw rfl hM.le;rw [hD] at hE;show LeavesInM Fence.wide k P fn a.tmps _ a.defers (.panicking (pan pv)) w;rw [hE.defers];exact ⟨by simp,.inl ⟨D,_,rfl,run_takeDeferred hDw,.inr ⟨hp,m,γ',rfl,g2.step hs⟩⟩⟩
end
end Go.V
