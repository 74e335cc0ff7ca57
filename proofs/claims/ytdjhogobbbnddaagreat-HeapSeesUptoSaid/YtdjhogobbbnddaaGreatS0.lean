/- Lemmas for the claim, part 0; no conditions. -/
import Derived.Test.YtdjhogobbbnddaaGreatQ1
import Derived.Test.YtdjhogobbbnddaaGreatQ3
import Derived.Test.YtdjhogobbbnddaaGreatQ2
import Derived.Test.YtdjhogobbbnddaaGreatQ4
import Derived.Test.YtdjhogobbbnddaaGreatQ6
import Derived.Test.YtdjhogobbbnddaaGreatQ5
import Derived.Test.YtdjhogobbbnddaaGreatQ7
import Derived.Test.YtdjhogobbbnddaaGreatQ10
import Derived.Test.YtdjhogobbbnddaaGreatQ9
import Derived.Test.YtdjhogobbbnddaaGreatQ23
import Derived.Test.YtdjhogobbbnddaaGreatQ15
import Derived.Test.YtdjhogobbbnddaaGreatQ14
import Derived.Test.YtdjhogobbbnddaaGreatQ16
import Derived.Test.YtdjhogobbbnddaaGreatQ25
import Derived.Test.YtdjhogobbbnddaaGreatQ28
import Derived.Test.YtdjhogobbbnddaaGreatQ26
import Derived.Test.YtdjhogobbbnddaaGreatQ20
import Derived.Test.YtdjhogobbbnddaaGreatQ37
namespace Go.W
open Go
theorem Env.re {N D a ρ ρ'} (h:Env N D a ρ) (hh:∀ t v,W.look ρ' t=some v→W.look ρ t=some v):Env N D a ρ':=
 ⟨h.size,h.defers,fun t v e=>h.look t v (hh t v e)⟩
theorem RI.mk {k m w n}:RI k m w (.int k n) n:=rfl
theorem RB.mk {m w b}:RB m w (.bool b) b:=rfl
theorem Touch.keep {m w m' w'} (h:Touch none m w m' w'):Keep m w m' w':=⟨h.grown,fun b hb=>h.lim b hb (by simp)⟩
theorem Own.keep {α:Type} {T sz} {C:Ycl α} [CMono C] {m w v} {xs:List α} {m' w'} (h:Own T sz C m w v xs) (ht:Keep m w m' w'):Own T sz C m' w' v xs:=by
 cases hv:Yay v with
 | none=>exact h.touch (ht.touch none) (.inl hv)
 | some g=>exact h.touch (ht.touch none) (.inr (by simp [hv]))
section
variable {P:Program} {ops:Array Oper} {Q:Exit→Act→World→Prop} {Kc:Act→World→Prop} {w w':World} {a:Act}
variable {N:Nat} {D:List Deferred} {ρ:List (Nat × Value)} {d T X Y:Nat} {pos:String} {af:Array Edge} {x y z:Operand} {u v:Value}
theorem Keep.mark {m w m1 w1} (h:Keep m w m1 w1) {b n:Nat} (hb:w.heap.size≤b):Keep m w (Yb8 m1 b n) w1:=
 ⟨h.grown,fun k hk=>by rw [Ycj (by omega)];exact h.lim k hk⟩
theorem Mine.keep {α:Type} {B T sz:Nat} {C:Ycl α} [CMono C] {m w v} {xs:List α} {m' w'} (h:Mine B T sz C m w v xs) (hk:Keep m w m' w'):Mine B T sz C m' w' v xs:=⟨h.own.keep hk,h.new⟩
theorem Mine.le {α:Type} {B B' T sz:Nat} {C:Ycl α} {m w v} {xs:List α} (h:Mine B T sz C m w v xs) (hB:B'≤B):Mine B' T sz C m w v xs:=⟨h.own,fun g hg=>Nat.le_trans hB (h.new g hg)⟩
end
section
variable {P:Program} {ops:Array Oper} {Q:Exit→Act→World→Prop} {S:World→Prop} {fi:Nat}
variable {N:Nat} {D:List Deferred} {ρ:List (Nat × Value)} {a:Act} {w:World} {fuel i:Nat} {listed:Array Bool} {u v:Value}
variable {d T X Y:Nat} {pos:String} {af:Array Edge} {x y z:Operand} {g:Option (Nat × Bool)}
theorem Fut.drew (m w):Fut m w w.drew:=⟨m,.drew m w⟩
end
theorem Yeg.keep {m w m' w' b l} (hk:Keep m w m' w') (h:Yeg w b l):Yeg w' b l:=by
 obtain ⟨es,clock,h,h'⟩:=h;exact ⟨es,clock,hk.heap h,h'⟩
theorem Off.drew (b1 b2:Nat) (m w):Off b1 b2 m w w.drew:=⟨none,m,(Keep.drew m w).touch none,by simp,by simp⟩
end Go.W
namespace Go.V
open Go Go.W
theorem A2.mk {N D B a w ρ η m γ ρc} (h1:Env N D a ρc) (h2:RL m w γ ρc ρ) (h3:In B m w γ η):A2 N D B a w ρ η:=⟨m,γ,ρc,h1,h2,h3⟩
section
variable {C:Cx} {ops:Array Oper} {Q:Qt} {ρ ρ':Ro} {η η':Eta} {rest:List Oper} {T d:Nat} {pos:String} {af:Array Edge} {op:Op} {x:Operand}
variable {A K:Code} {id id':Nat} {l:List Oper} {e:Exit}
theorem TC.sel (σ:List Nat) (hn:YbG σ=true) (hp:Ycy C.n 0 σ=true) (ho:Ybw (ts σ) η σ η') (hr:YdG (ts σ) ρ ρ') (k:TC C Q A ρ' η'):TC C Q A ρ η:=fun a w hA=>k a w (hA.sel C.hn hn hp ho hr)
end
open Go Go.W Go.ChangeShapes Go.WideShapes Go.ChangeAt Go.RowKit Go.Deep
section
variable {H:Type} {enc:TypeId × Value→H} {P:Program} {w:World} {spare:Nat→Bool} {held:Bool}
theorem Rd.arg {t:Nat} {α:Type} {f:α→AV} {ok:α→Prop} {v:Value} {d:DataW H} {p:List MemPlace} (h:Rd enc P w spare held t 1 f ok) (hv:v.oneCell'=true) (hf:∀ x,(f x).cells=[f x]) (ht:DataW.Trod enc P w 0 spare held t v d p):∃ x,Rep (YhS w) w [] v (f x)∧ok x:=by
 obtain ⟨fuel,hy⟩:=ht;rw [Ycs hv] at hy;obtain ⟨x,h1,_,h3⟩:=h _ _ _ hy;rw [hf] at h1;exact ⟨x,h1.2.2 0 v (f x) rfl rfl,h3⟩
end
end Go.V
namespace Go.Proofs
open Go Go.V
abbrev Tc.string:Nat:=9
end Go.Proofs
namespace Go.V
open Go Go.W
section
variable {C:Cx} {ρ:Ro} {η η2:Eta} {ops:Array Oper} {Q:Qt} {rest:List Oper} {T d X:Nat} {pos:String} {af:Array Edge} {x y:Operand}
theorem ZdU {E k:Nat} {i j:Int} {te:TyE} {zc:Value} (kk:OL C ops Q rest ((d,.hs k)::ρ) η2)
  (hs:(C.tab X).map (·.sh)=some (.slice E):=by with_unfolding_all exact rfl) (hE:C.tab E=some te:=by with_unfolding_all exact rfl) (hz:te.size=1:=by with_unfolding_all exact rfl) (hzc:te.zero.cells=#[zc]:=by with_unfolding_all exact rfl)
  (hx:ev2 ρ x=some (.raw (.int .i64 i)):=by with_unfolding_all exact rfl) (hy:ev2 ρ y=some (.raw (.int .i64 j)):=by with_unfolding_all exact rfl)
  (hk:η.length=k:=by (try dsimp only [List.length])<;>exact rfl) (hi:i=0:=by first|rfl|omega) (hj:j=0:=by first|rfl|omega) (hη:η++[.gs false E 1 (some false) []]=η2:=by (try dsimp only [List.cons_append,List.nil_append,List.append_eq])<;>exact rfl) (hd:Nat.blt d C.N=true:=by with_unfolding_all exact rfl) :
  OL C ops Q (⟨some d,.makeSlice X x y,T,pos,af,none⟩::rest) ρ η:=by
 rintro a w ⟨m,γ,ρc,hE',hR,hI⟩;obtain ⟨inf,i1,i2,i3,i4,i5⟩:=(C.hT E te hE).info;obtain ⟨dd,hu',hd'⟩:=YcO C.hT hs;obtain rfl:dd=_:=hd';haveI:SliceTy C.P X E:=⟨hu'⟩
 haveI:ElemTy C.P E 1 te.bytes te.zero:=⟨inf,i1,i2.trans hz,i3,i4,i5.trans hz,Nat.one_pos⟩
 subst hi hj hη;have hK:=Keep.alloc m w (.cells (List.replicate 0 zc).toArray E) 0;have hl0:=hI.heap.len;have hob:Yay (.slice (some ⟨w.heap.size,0,none⟩) 0 0)=none:=rfl;refine Cx.lcons (wl_value (v:=.slice (some ⟨w.heap.size,0,none⟩) 0 0) (w':=w.alloc (.cells (List.replicate 0 zc).toArray E)) rfl ?_ (kk _ _ ⟨_,_,_,hE'.put _ (by simpa using hd),⟨rfl,.hs (by rw [← hk,← hl0];exact YaD),hR.mono hK.ext (.app _ _)⟩,
  hI.new hK ⟨⟨_,.inr (.inl ⟨_,_,rfl,rfl⟩),fun _ _=>rfl,fun b hb=>by rw [hob] at hb;cases hb⟩,⟨nofun,fun _=>by simp⟩,by simp⟩ (fun b hb=>by simp only [blk] at hb;rw [hob] at hb;cases hb)⟩))
 exact Yfc (l:=0) (c:=0) hE' (hR.raw hx) (hR.raw hy) (Nat.le_refl _) hzc (by omega) (by omega)
theorem OL.mk {E k l:Nat} {i j:Int} {te:TyE} {zc:Value} {u u0:AV} (kk:OL C ops Q rest ((d,.hs k)::ρ) η2) (hu:∀ m w γ,Rep m w γ zc u0)
  (hs:(C.tab X).map (·.sh)=some (.slice E):=by with_unfolding_all exact rfl) (hE:C.tab E=some te:=by with_unfolding_all exact rfl) (hz:te.size=1:=by with_unfolding_all exact rfl) (hzc:te.zero.cells=#[zc]:=by with_unfolding_all exact rfl) (hone:zc.oneCell'=true:=by with_unfolding_all exact rfl) (hul:u.cells=[u0]:=by with_unfolding_all exact rfl)
  (hx:ev2 ρ x=some (.raw (.int .i64 i)):=by with_unfolding_all exact rfl) (hy:ev2 ρ y=some (.raw (.int .i64 j)):=by with_unfolding_all exact rfl)
  (hk:η.length=k:=by (try dsimp only [List.length])<;>exact rfl) (hi:i=(l:Int):=by first|rfl|omega) (hj:j=(l:Int):=by first|rfl|omega) (hη:η++[.gs false E 1 (some false) (List.replicate l u)]=η2:=by (try dsimp only [List.cons_append,List.nil_append,List.append_eq,List.replicate])<;>exact rfl) (hd:Nat.blt d C.N=true:=by with_unfolding_all exact rfl)
  (hc:l≤16777216:=by omega) (hbt:te.bytes*l≤16777216:=by (first|omega|(simp only [TyE.bytes];omega))) :
  OL C ops Q (⟨some d,.makeSlice X x y,T,pos,af,none⟩::rest) ρ η:=by
 by_cases h0:l=0
 ·subst h0;exact ZdU kk hs hE hz hzc hx hy hk hi hj hη hd
 ·exact Zb1 kk hu hs hE hz hzc hone hul hx hy hk hi hj hη hd (Nat.le_refl _) (by omega) hc hbt
end
section
variable {C:Cx} {ops:Array Oper} {Q:Qt} {ρ ρ':Ro} {η η' η2:Eta} {rest:List Oper} {T d X Y:Nat} {pos:String} {af:Array Edge} {op:Op} {x y z:Operand} {A K:Code} {e:Exit}
variable {M:Bool} {fi fuel:Nat} {l:List Oper} {listed:Array Bool} {g:Option (Nat × Bool)}
theorem OL.frz {E sz:Nat} {fz nl} {xs:List AV} (i:Nat) (k:OL C ops Q rest ρ η2) (ho:η[i]?=some (.gs fz E sz nl xs):=by with_unfolding_all exact rfl) (hη:η.set i (.gs true E sz nl xs)=η2:=by (try dsimp only [List.set])<;>exact rfl):OL C ops Q rest ρ η:=Za5 (Wk.freeze ho) (hη ▸ k)
theorem TX.frz {E sz:Nat} {fz nl} {xs:List AV} (i:Nat) (k:TX C Q e ρ η2) (ho:η[i]?=some (.gs fz E sz nl xs):=by with_unfolding_all exact rfl) (hη:η.set i (.gs true E sz nl xs)=η2:=by (try dsimp only [List.set])<;>exact rfl):TX C Q e ρ η:=Zbo (Wk.freeze ho) (hη ▸ k)
variable {args:List Operand} {at_:Array TypeId}
end
end Go.V
namespace Go.Proofs
open Go Go.W Go.V
def Yhj (l:List Int):Int:=l.getD (l.length-1) 0
def Yke (rel:Int→Int→Bool) (b:List Int) (c:Int):Bool:=b.length==0 || (!b.contains c&&rel (Yhj b) c)
theorem Yfn {b:List Int} (h:0 < b.length):Yhj b=b[b.length-1]:=by rw [Yhj,Yai (by omega)]
theorem Yft.snoc {rel} {b:List Int} {c:Int} (h:Yft rel b) (hn:Yke rel b c=true):Yft rel (b++[c]):=by
 simp only [Yke,Bool.or_eq_true,beq_iff_eq,Bool.and_eq_true,Bool.not_eq_true',List.length_eq_zero_iff] at hn;rcases hn with rfl|⟨h1,h2⟩
 ·exact ⟨by simp,fun i h=>by simp at h⟩
 ·have hc:c ∉ b:=by
   intro hm;rw [← List.contains_iff_mem] at hm;rw [hm] at h1;cases h1
  refine ⟨List.nodup_append.2 ⟨h.1,by simp,fun a ha b' hb' e=>?_⟩,fun i hi=>?_⟩
  ·simp at hb';subst e hb';exact hc ha
  ·simp at hi;by_cases e:i+1 < b.length
   ·rw [List.getElem_append_left (by omega),List.getElem_append_left e];exact h.2 i e
   ·have e1:i=b.length-1:=by omega
    rw [List.getElem_append_left (by omega),List.getElem_append_right (by omega)];rw [Yfn (by omega)] at h2;simpa [e1] using h2
theorem Yft.cons {rel} {b:List Int} {c:Int} (h:Yft rel b) (hc:c ∉ b) (h0:0 < b.length) (hr:rel c (b[0]'h0)=true):Yft rel (c::b):=by
 refine ⟨List.nodup_cons.2 ⟨hc,h.1⟩,fun i hi=>?_⟩
 cases i with
 | zero=>exact hr
 | succ i=>exact h.2 i (by simpa using hi)
end Go.Proofs
namespace Go.V
open Go Go.W
theorem Rep.raws {m w γ v nl xs} (h:Rep m w γ v (.sl 1 nl xs)):∃ qs:List Value,qs.length=xs.length∧(∀ γ',Rep m w γ' v (.sl 1 none (qs.map .raw)))∧∀ (i:Nat) q x,qs[i]?=some q→xs[i]?=some x→x.cells=[x]→Rep m w [] q x:=by
 cases h with
 | nil h=>exact ⟨[],rfl,fun _=>.nil nofun,by simp⟩
 | sl0 h=>exact ⟨[],rfl,fun _=>.sl0 nofun,by simp⟩
 | @sl _ _ _ _ b o cap cv hn h1 h2 hc hr =>
   have hex:∀ i:Nat,∃ q,i < xs.length→cv i=[q]:=fun i=>by
    by_cases hi:i < xs.length
    ·obtain ⟨a1,_⟩:=hc i _ (List.getElem?_eq_getElem hi);match hcv:cv i,a1 with
     | [q],_=>exact ⟨q,fun _=>rfl⟩
    ·exact ⟨undef,fun h=>(hi h).elim⟩
   obtain ⟨qf,hqf⟩:∃ qf:Nat→Value,∀ i,i < xs.length→cv i=[qf i]:=⟨fun i=>(hex i).choose,fun i=>(hex i).choose_spec⟩;refine ⟨(List.range xs.length).map qf,by simp,fun γ'=>?_,fun i q x hq hx hx1=>?_⟩
   ·have hl:(((List.range xs.length).map qf).map AV.raw).length=xs.length:=by simp
    have key:=Rep.sl (m:=m) (w:=w) (γ:=γ') (sz:=1) (nl:=none) (xs:=((List.range xs.length).map qf).map AV.raw) (b:=b) (o:=o) (cap:=cap) cv nofun (by rw [hl];exact h1) h2 (fun i x hx=>?_) (fun i x j c y hx hj hy=>?_)
    ·rw [hl] at key;exact key
    all_goals
     have hi:i < xs.length:=by have:=(List.getElem?_eq_some_iff.1 hx).1;rwa [hl] at this
     obtain ⟨a1,a2,a3,a4⟩:=hc i _ (List.getElem?_eq_getElem hi);simp only [List.map_map,List.getElem?_map,List.getElem?_range hi,Option.map_some,Option.some.injEq,Function.comp_apply] at hx;subst hx
    ·exact ⟨a1,rfl,a3,a4⟩
    ·rw [hqf i hi] at hj a4;match j,hj,hy with
     | 0,hj,hy =>
       simp at hj;simp [AV.cells] at hy;subst hj hy;exact .raw (a4 _ (by simp))
     | j+1,hj,_=>simp at hj
   ·have hi:i < xs.length:=(List.getElem?_eq_some_iff.1 hx).1;simp only [List.getElem?_map,List.getElem?_range hi,Option.map_some,Option.some.injEq] at hq;subst hq;exact hr i x 0 _ _ hx (by rw [hqf i hi];rfl) (by rw [hx1];rfl)
section
variable {C:Cx} {ops:Array Oper} {Q:Qt} {ρ:Ro} {η:Eta} {T d:Nat} {pos:String} {af:Array Edge} {x:Operand} {args:List Operand} {at_:Array TypeId}
theorem Zd9 {f : Nat} {fn : Func} {u : AV} (hf : C.P.funcs[f]? = some fn) (hb : (fn.body.isNone || fn.name == "runtime.NumGoroutine") = false) (hd : Nat.blt d C.N = true)
  (h:∀ m w γ ρc,RL m w γ ρc ρ→In C.B m w γ η→∃ m1 vs as0 q,W.evs ρc args=some vs∧VL m1 w [] vs as0∧Spec C.P f as0 [] (.raw q) []∧Rep m w γ q u) :
  Yli C ops Q ⟨some d,.call ⟨.value (.func f),args.toArray,at_⟩,T,pos,af,none⟩ ρ η ((d,u)::ρ) η:=by
 rintro a w K ⟨m,γ,ρc,hE,hR,hI⟩ k;obtain ⟨m1,vs,as0,q,h1,h2,hs,hq⟩:=h m w γ ρc hR hI;have hc:=hs m1 w [] vs ⟨rfl,fun i v o hv=>by simp at hv,fun i j v v' o o' b _ hv=>by simp at hv⟩ h2;simp at hb;have hb':fn.body≠none:=Option.isSome_iff_ne_none.1 hb.1;refine Ycf (f:=f) (args:=vs.toArray) rfl ?_ (hc.mono fun e w' ⟨v,m',γ1',he,hC,hv⟩=>⟨q,by rw [he,hv.raw_eq],?_⟩)
 ·have he:a.eval (.func f)=.func (.func f) #[] #[]:=rfl;simp [execOp,resolve,he,Deferred.ofValue,invoke,callFunc,hf,hb.2,hb',hE.evs h1]
 ·have hfar:Far [] m1 w m' w':=hC.far;have hk:Keep m w (fun b=>if b < w.heap.size then m b else m' b) w':=⟨hfar.keep.grown,fun b hb=>if_pos hb⟩;exact k _ _ hk.grown ⟨_,γ,_,hE.put q (by simpa using hd),⟨rfl,hq.mono hk.ext (.refl _),hR.mono hk.ext (.refl _)⟩,hI.keep hk⟩
theorem One.elem {P:Program} {f:Nat} {fn:Func} {i j E E2:Nat} {nl:Option Bool} {c0 c2 u:AV} {xs:List AV} (n:Nat) (hs:∀ (qs:List Value) q,qs.length=xs.length→qs[n]?=some q→Spec P f [.ep [.junk,.sl 1 none (qs.map .raw),.junk] 0] [] (.raw q) []) (hf:P.funcs[f]?=some fn) (hn:xs[n]?=some u)
  (hu:u.cells=[u]:=by with_unfolding_all exact rfl) (hP:C.P=P:=by with_unfolding_all exact rfl) (hx:ev2 ρ x=some (.bp i 0):=by with_unfolding_all exact rfl) (ho:η[i]?=some (.cb E [c0,.hs j,c2]):=by with_unfolding_all exact rfl) (hj:η[j]?=some (.gs true E2 1 nl xs):=by with_unfolding_all exact rfl)
  (hb : (fn.body.isNone || fn.name == "runtime.NumGoroutine") = false := by with_unfolding_all exact rfl) (hd : Nat.blt d C.N = true := by with_unfolding_all exact rfl) :
  Yli C ops Q ⟨some d,.call ⟨.value (.func f),#[x],at_⟩,T,pos,af,none⟩ ρ η ((d,u)::ρ) η:=by
 subst hP;refine Zd9 (args:=[x]) hf hb hd fun m w γ ρc hR hI=>?_;obtain ⟨v1,g1,g2⟩:=hR.ev hx
 cases g2 with
 | @bp _ _ _ b hbp =>
 obtain ⟨b',vs,e,hB,hC⟩:=hI.heap.ok i _ _ hbp ho
 cases e
 obtain ⟨hx1,hcell⟩:=hB.freeze;have hvl:vs.length=3:=hC.1;have h1:=hC.2.2 1 (vs[1]'(by omega)) (.hs j) (List.getElem?_eq_getElem (by omega)) rfl;have hγj:=h1.hs_get.1;obtain ⟨o1,o2,o3⟩:=hI.heap.ok j _ _ hγj hj;have hrep:Rep m w γ (vs[1]'(by omega)) (.sl 1 none xs):=Rep.of_rs (Own.rs o1) (NL.none _);obtain ⟨qs,q1,q2,q3⟩:=hrep.raws;have hnl:n < xs.length:=(List.getElem?_eq_some_iff.1 hn).1;have hqn:qs[n]?=some (qs[n]'(by omega)):=List.getElem?_eq_getElem (by omega);refine ⟨Yb8 m b vs.length,[.pointer (some ⟨b,0,none⟩)],[.ep [.junk,.sl 1 none (qs.map .raw),.junk] 0],_,by simp [W.evs,g1],⟨?_,trivial⟩,hs qs _ q1 hqn,(q3 n _ u hqn hn hu).mono (.refl _ _) (fun i v h=>by simp at h)⟩;have:=Rep.ep (γ:=[]) (o:=0) (cs:=[.junk,.sl 1 none (qs.map .raw),.junk]) hcell (by rw [hvl];rfl) hC.2.1 (fun k v c a1 a2=>by
  match k,a2 with
  | 0,a2=>simp at a2;subst a2;exact .junk
  | 1,a2 =>
    simp at a2;subst a2;rw [List.getElem?_eq_getElem (by omega)] at a1
    cases a1
    exact (q2 []).mono hx1 (.refl _)
  | 2,a2=>simp at a2;subst a2;exact .junk
  | k+3,a2=>simp at a2)
 simpa using this
variable {rest:List Oper} {M:Bool} {fi fuel:Nat} {l:List Oper} {listed:Array Bool} {g:Option (Nat × Bool)}
variable {P:Program} {f:Nat} {fn:Func} {j E E2:Nat} {nl:Option Bool} {c0 c2 u:AV} {xs:List AV}
theorem OL.elem {i:Nat} (n:Nat) (hs:∀ (qs:List Value) q,qs.length=xs.length→qs[n]?=some q→Spec P f [.ep [.junk,.sl 1 none (qs.map .raw),.junk] 0] [] (.raw q) []) (hf:P.funcs[f]?=some fn) (hn:xs[n]?=some u) (k:OL C ops Q rest ((d,u)::ρ) η)
  (hu:u.cells=[u]:=by with_unfolding_all exact rfl) (hP:C.P=P:=by with_unfolding_all exact rfl) (hx:ev2 ρ x=some (.bp i 0):=by with_unfolding_all exact rfl) (ho:η[i]?=some (.cb E [c0,.hs j,c2]):=by with_unfolding_all exact rfl) (hj:η[j]?=some (.gs true E2 1 nl xs):=by with_unfolding_all exact rfl)
  (hb : (fn.body.isNone || fn.name == "runtime.NumGoroutine") = false := by with_unfolding_all exact rfl) (hd : Nat.blt d C.N = true := by with_unfolding_all exact rfl) :
  OL C ops Q (⟨some d,.call ⟨.value (.func f),#[x],at_⟩,T,pos,af,none⟩::rest) ρ η:=OL.one (One.elem n hs hf hn hu hP hx ho hj hb hd) k
end
end Go.V
namespace Go.Proofs.YtdjhogobbbnddaaGreat
open Go Go.W Go.V Go.ChangeShapes Go.WideShapes Go.ChangeAt Go.RowKit Go.Deep
section
variable {H:Type} {enc:TypeId × Value→H} {w:World} {held:Bool}
theorem RsU.of {e sz:Nat} {α:Type} {f:α→AV} {ok:α→Prop} (h:Rs enc Tryz.prog w held e sz f ok):RsU enc w held e sz f ok:=fun n cs y hy _ hl=>h n cs y hy hl
theorem YAO.cons {fs:List Field} {f:Field} {o s1 s2:Nat} {α β:Type} {f1:α→AV} {g:β→List AV} {ok1:α→Prop} {ok2:β→Prop} (hf:RsU enc w held f.type s1 f1 ok1) (h:YAO enc w held fs (o+s1) s2 g ok2) (ho:f.offset=o) (hc:Tryz.prog.cellsOf f.type=s1) :
  YAO enc w held (f::fs) o (s1+s2) (fun x:α × β=>(f1 x.1).cells++g x.2) (fun x=>ok1 x.1∧ok2 x.2):=by
 intro m cs xs hx hl hz hlt;match xs,hl with
 | y::ys,hl =>
   have h0:=hx 0 f rfl;simp only [List.getElem?_cons_zero] at h0;rw [ho,hc] at h0;obtain ⟨x,a1,a2,a3⟩:=hf m _ y h0 (hz y (by simp)) (hlt 0 f y rfl rfl);obtain ⟨x2,b1,b2,b3⟩:=h m cs ys (fun i f hi=>by have:=hx (i+1) f (by simpa using hi);simpa using this) (by simpa using hl) (fun x hx=>hz x (by simp [hx])) (fun i f x hi hj=>hlt (i+1) f x (by simpa using hi) (by simpa using hj));have e:(cs.drop o).take (s1+s2)=(cs.drop o).take s1++(cs.drop (o+s1)).take s2:=by rw [List.take_add,List.drop_drop]
   exact ⟨(x,x2),by rw [e];exact a1.app b1,by rw [e,List.length_append,a2,b2],a3,b3⟩
theorem RsU.struct {t sz:Nat} {fs:Array Field} {α:Type} {g:α→List AV} {ok:α→Prop} (ht:Tryz.prog.underlying t=some (.struct fs)) (hc:Tryz.prog.cellsOf t=sz) (h:YAO enc w held fs.toList 0 sz g ok):RsU enc w held t sz (fun x=>.st (g x)) ok:=by
 intro n cs y hy hZ hlight;obtain ⟨xs,m,hm,rfl,hcl,hxl,hf⟩:=DataW.trod_struct ht hy;rw [hc] at hcl;obtain ⟨x,h1,h2,h3⟩:=h m cs xs (fun i f hi=>hf i f (by simpa using hi)) (by simpa using hxl) (fun x hx=>by
  have h1:=YyG (List.mem_map.2 ⟨x,hx,rfl⟩:x.1∈xs.map (·.1));simp only [Rows.uptoBulk] at hZ;omega) (fun i f x hi hxi q hq=>hlight q (by
  show q∈DataW.weights Tryz.prog t (.agg _);rw [DataW.weights,ht];exact Ydx (i:=i) (by rw [List.getElem?_map,hi];rfl) (by rw [List.getElem?_map,hxi];rfl) hq))
 rw [List.drop_zero,List.take_of_length_le (by omega)] at h1;exact ⟨x,h1,hcl,h3⟩
set_option maxRecDepth 100000 in
theorem YBk:RsU enc w held 45 2 (fun x:List Int × List Int=>.st [ints x.1,ints x.2]) (fun x=>((∀ y∈x.1,YbC y)∧x.1.length≤1048576)∧(∀ y∈x.2,YbC y)∧x.2.length≤1048576):=by
 intro n cs y hy hZ hlight;obtain ⟨xs,m,hm,rfl,hcl,hxl,hf⟩:=DataW.trod_array Tryz.underlying45 hy;have h1c:Tryz.prog.cellsOf 23=1:=by kernel_rfl
 have h2c:Tryz.prog.cellsOf 45=2:=by kernel_rfl
 match xs,hxl with
 | [a,b],_ =>
   have f0:=hf 0 (by decide);have f1:=hf 1 (by decide);rw [h1c] at f0 f1;rw [h2c] at hcl;simp only [Rows.uptoBulk,List.map_cons,List.map_nil,Rows.uptoBulkAll] at hZ;have hw:∀ q,q∈DataW.weights Tryz.prog 23 a.1∨q∈DataW.weights Tryz.prog 23 b.1→q≤reachBytes:=fun q hq=>hlight q (by
    show q∈DataW.weights Tryz.prog 45 (.agg [a.1,b.1]);rw [DataW.weights,Tryz.underlying45];show q∈DataW.weightsAll Tryz.prog 23 [a.1,b.1];exact hq.elim (fun h=>YmF (d:=a.1) (by simp) h) (fun h=>YmF (d:=b.1) (by simp) h))
   obtain ⟨x1,a1,a2,a3⟩:=YAK m _ a f0 (by omega) (fun q hq=>hw q (.inl hq));obtain ⟨x2,b1,b2,b3⟩:=YAK m _ b f1 (by omega) (fun q hq=>hw q (.inr hq));have e:cs=(cs.drop (0*1)).take 1++(cs.drop (1*1)).take 1:=by
    match cs,hcl with
    | [u,v],_=>rfl
   exact ⟨(x1,x2),by rw [e];exact a1.app b1,hcl,a3,b3⟩
abbrev Pr:=List Int × List Int × List Int × List Int
theorem YBc:RsU enc w held 47 4 (fun x:Pr=>.st [ints x.1,ints x.2.1,ints x.2.2.1,ints x.2.2.2]) (fun x=>((∀ y∈x.1,YbC y)∧x.1.length*8≤140737488355328)∧((∀ y∈x.2.1,YbC y)∧x.2.1.length*8≤140737488355328)∧((∀ y∈x.2.2.1,YbC y)∧x.2.2.1.length≤1048576)∧(∀ y∈x.2.2.2,YbC y)∧x.2.2.2.length≤1048576):=by
 have h:=RsU.struct (enc:=enc) (w:=w) (held:=held) Tryz.underlying47 (by kernel_rfl) (YAO.cons (RsU.of YwE) (YAO.cons (RsU.of YwE) (YAO.cons YBk YAO.nil rfl (by kernel_rfl)) rfl (by kernel_rfl)) rfl (by kernel_rfl));intro n cs y hy hb hl;obtain ⟨x,h1,h2,h3⟩:=h n cs y hy hb hl;exact ⟨(x.1,x.2.1,x.2.2.1.1,x.2.2.1.2),h1,h2,h3.1,h3.2.1,h3.2.2.1.1,h3.2.2.1.2⟩
theorem RsU.argS {t sz:Nat} {α:Type} {g:α→List AV} {ok:α→Prop} {vs:Array Value} {d:DataW H} {p:List MemPlace} (h:RsU enc w held t sz (fun x=>.st (g x)) ok) (ht:DataW.Trod enc Tryz.prog w 0 (fun _=>true) held t (.agg vs) d p) (hb:Rows.uptoBulk d≤1048576) (hl:YgC Tryz.prog t d):∃ x:α,Rep (YhS w) w [] (.agg vs) (.st (g x))∧ok x:=by
 obtain ⟨fuel,hy⟩:=ht;obtain ⟨x,h1,_,h3⟩:=h _ _ _ hy hb hl;refine ⟨x,?_,h3⟩;have hcells:Value.cells (.agg vs)=vs:=rfl;rw [hcells] at h1;obtain ⟨a,b,c⟩:=h1;exact .st a b c
end
end Go.Proofs.YtdjhogobbbnddaaGreat
