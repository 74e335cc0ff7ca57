/- Lemmas for the claim; no conditions. -/
import Derived.Test.YtdjhogobbbnddaaGreatC16
import Derived.WalkSmall
namespace Go.V
open Go Go.W
abbrev pan (v:Value):List PanicEntry:=[{ v,recovered:=false }]
def YoR (B:Base) (pv:Value) (η':Eta):Ending→World→Prop:=fun e w'=>∃ m' γ',e=.panicked (pan pv)∧In B m' w' γ' η'
def YaZ (P:Program) (f:Nat) (as:List AV) (η:Eta) (pv:Value) (η':Eta):Prop:=
 ∀ m w γ vs,Heap m w γ η→VL m w γ vs as→Calls P f vs.toArray w (YoR (Ya1 m w γ η) pv η')
section
variable {η η':Eta}
theorem YaZ.enter {P:Program} {f:Nat} {fn:Func} {c:Code} {as:List AV} {pv:Value} {tab:Tab} {N:Nat} (hT:YaX P tab) (hm:P.follows .mixedOrders=true) (hf:P.funcs[f]?=some fn) (hb:fn.body=some c) (hN:fn.ntmps=N) (ha:Nat.ble as.length N=true)
  (h:∀ B (hB:B.γ.length=η.length),TC ⟨P,tab,hT,hm,N,[],B,η.length,hB,none,0⟩ (bodyPost P fn (YoR B pv η')) c (Ym3 0 as) η):YaZ P f as η pv η':=by
 intro m w γ vs hH hV;refine W.enter (N:=N) (W.zipA 0 vs) hf hb hN (by simp) (by have:=hV.len;simp at ha;simp;omega) fun a hE=>?_;exact h (Ya1 m w γ η) hH.len a w ⟨m,γ,_,hE,hV.zip 0,hH,.refl _ _ _,fun i v o b h1 h2 h3=>.inl (Yap.2 ⟨i,v,o,h1,h2,h3⟩),.refl _⟩
end
section
variable {C:Cx} {ops:Array Oper} {Q:Qt} {ρ ρ':Ro} {η η' η1 η1' η2:Eta} {rest:List Oper} {T d:Nat} {dst:Option Tmp} {pos:String} {af:Array Edge} {x:Operand} {args:List Operand} {at_:Array TypeId} {ch:List PanicEntry} {id:Nat}
/-! ### The way out -/
theorem Zam {nx} (h:TX C Q (.panic ch) ρ η):TX C (Exit.then nx Q) (.panic ch) ρ η:=fun a w hA=>h a w hA
theorem Zak (h:TX C Q (.panic ch) ρ η):TX C (Exit.inBlock id Q) (.panic ch) ρ η:=fun a w hA=>h a w hA
theorem Zav {M:Bool} {fi fuel:Nat} {listed:Array Bool} (h:TX C Q (.panic ch) ρ η):TX C (QD C M fi ops Q fuel listed) (.panic ch) ρ η:=fun a w hA=>h a w hA
theorem Zas {fn:Func} {pv:Value} {P:Program} (σ:List Nat) (hD:C.D=[]:=by with_unfolding_all exact rfl) (hn:YbG σ=true:=by with_unfolding_all exact rfl) (hp:Ycy C.n 0 σ=true:=by with_unfolding_all exact rfl)
  (ho:Ybw (ts σ) η σ η':=by repeat' (first|with_unfolding_all exact trivial|exact OE.ren (by with_unfolding_all exact rfl)|with_unfolding_all exact OE.gs|with_unfolding_all refine And.intro ⟨_,by with_unfolding_all exact rfl,?_⟩ ?_)) :
  TX C (bodyPost P fn (YoR C.B pv η')) (.panic (pan pv)) ρ η:=by
 rintro a w ⟨m,γ,ρc,hE,hR,hI⟩;obtain ⟨γ',_,g2⟩:=hI.sel C.hn hn hp ho;rw [hD] at hE;exact ⟨hE.defers,m,γ',rfl,g2⟩
/-! ### Operations that panic -/
def Ywg (P:Program) (o:Oper) (Qp:List PanicEntry→World→Prop) (a:Act) (w:World):Prop:=
 (∃ v w',(execOp a.eval o).run P w=.halt (.panic v) w'∧Qp (pan v) w') ∨
 ∃ f args,(execOp a.eval o).run P w=.ok (.enter f args) w∧Calls P f args w fun e w''=>∃ ch,e=.panicked ch∧Qp ch w''
theorem Cx.lconsX {o:Oper} {a:Act} {w:World} (hg:o.guard=none) (hd:∀ c,o.op≠.defer c) (h:Ywg C.P o (fun ch w'=>Q (.panic ch) a w') a w):C.L ops Q (o::rest) a w:=by
 cases hr:C.r with
 | none =>
   rw [Cx.L_none hr];unfold wpList;rw [if_pos (by simp [Region.wanted,hg])];left;show o.upon C.P a _ Q _;rcases h with ⟨v,w',h1,h2⟩|⟨f,as,h1,h2⟩
   ·rw [h1];exact h2
   ·rw [h1,Oper.upon_enter];refine h2.mono fun e w'' ⟨ch,he,hk⟩=>?_;subst he;exact hk
 | some r =>
   rw [Cx.L_some hr];unfold wpListIn;rw [if_pos (by simp [Region.wanted,hg])];refine ⟨fun _ _=>trivial,?_⟩;rw [Oper.semAt_plain _ _ _ hd];rcases h with ⟨v,w',h1,h2⟩|⟨f,as,h1,h2⟩
   ·rw [h1];exact h2
   ·rw [h1,Oper.uponIn_enter];refine ⟨fun hd=>(by cases hd),CallsIn.mono (show CallsIn (WF r) (C.k-1) C.P f as w _ from (callsIn_wide (n:=C.k-1)).2 h2) (fun e w'' ⟨ch,he,hk⟩=>?_)⟩;subst he;exact hk
theorem Zar {P:Program} {f:Nat} {fn:Func} {us as:List AV} {pv:Value} (is:List Nat) (hs:YaZ P f as η1 pv η1') (hf:P.funcs[f]?=some fn) (k:TX C Q (.panic (pan pv)) ρ η2)
  (hP : C.P = P := by with_unfolding_all exact rfl) (hb : (fn.body.isNone || fn.name == "runtime.NumGoroutine") = false := by with_unfolding_all exact rfl) (hl : Yc6 ρ args = some us := by with_unfolding_all exact rfl)
  (hn:YbG is=true:=by with_unfolding_all exact rfl)
  (ho:Ybw (ts is) η is η1:=by repeat' (first|with_unfolding_all exact trivial|exact OE.ren (by with_unfolding_all exact rfl)|with_unfolding_all exact OE.gs|with_unfolding_all refine And.intro ⟨_,by with_unfolding_all exact rfl,?_⟩ ?_))
  (hle:LEs (ts is) us as:=by repeat' (first|with_unfolding_all exact trivial|exact LE.ren (by with_unfolding_all exact rfl)|with_unfolding_all exact LE.sl|with_unfolding_all exact LE.nil (by decide)|with_unfolding_all refine And.intro ?_ ?_))
  (hη:upd is (η1'.map (renO (back is η.length))) η++(η1'.drop is.length).map (renO (back is η.length))=η2:=by (try simp only [upd,renO,ren,ren0,ren1,ren2,back,Nat.blt,Nat.ble,cond_true,cond_false,List.set,List.drop,List.map,List.length,List.cons_append,List.nil_append,List.append_nil,List.getElem?_cons_succ,List.getElem?_cons_zero,List.getElem?_nil,Nat.add_zero,Nat.zero_add,Nat.reduceAdd,Nat.reduceSub])<;>exact rfl) :
  OL C ops Q (⟨dst,.call ⟨.value (.func f),args.toArray,at_⟩,T,pos,af,none⟩::rest) ρ η:=by
 subst hP;rintro a w ⟨m,γ,ρc,hE,hR,hI⟩;obtain ⟨vs,h1,h2⟩:=hR.evs hl;obtain ⟨hsh,hH1,_⟩:=hI.heap.sel hn ho;have hc:=hs m w _ vs hH1 (hle.vl hsh h2);simp at hb;have hb':fn.body≠none:=Option.isSome_iff_ne_none.1 hb.1;refine Cx.lconsX rfl (by simp) (.inr ⟨f,vs.toArray,?_,hc.mono fun e w' ⟨m',γ1',he,hC⟩=>⟨_,he,?_⟩⟩)
 ·have he:a.eval (.func f)=.func (.func f) #[] #[]:=rfl;simp [execOp,resolve,he,Deferred.ofValue,invoke,callFunc,hf,hb.2,hb',hE.evs h1]
 ·obtain ⟨γ2,p1,p2,p3,p4⟩:=hI.call hn ho hC;subst hη;exact k _ _ ⟨m',γ2,_,hE,hR.mono p4 p1,p3⟩
theorem ZcC {P:Program} {f:Nat} {fn:Func} {us as first caps:List AV} {pv:Value} (is:List Nat) (hs:YaZ P f as η1 pv η1') (hf:P.funcs[f]?=some fn) (k:TX C Q (.panic (pan pv)) ρ η2) (hx:ev2 ρ x=some (.fn (.func f) first caps):=by with_unfolding_all exact rfl)
  (hP : C.P = P := by with_unfolding_all exact rfl) (hb : (fn.body.isNone || fn.name == "runtime.NumGoroutine") = false := by with_unfolding_all exact rfl) (hl : Yc6 ρ args = some us := by with_unfolding_all exact rfl)
  (hn:YbG is=true:=by with_unfolding_all exact rfl)
  (ho:Ybw (ts is) η is η1:=by repeat' (first|with_unfolding_all exact trivial|exact OE.ren (by with_unfolding_all exact rfl)|with_unfolding_all exact OE.gs|with_unfolding_all refine And.intro ⟨_,by with_unfolding_all exact rfl,?_⟩ ?_))
  (hle:LEs (ts is) (first++us++caps) as:=by repeat' (first|with_unfolding_all exact trivial|exact LE.ren (by with_unfolding_all exact rfl)|with_unfolding_all exact LE.sl|with_unfolding_all exact LE.nil (by decide)|with_unfolding_all refine And.intro ?_ ?_))
  (hη:upd is (η1'.map (renO (back is η.length))) η++(η1'.drop is.length).map (renO (back is η.length))=η2:=by (try simp only [upd,renO,ren,ren0,ren1,ren2,back,Nat.blt,Nat.ble,cond_true,cond_false,List.set,List.drop,List.map,List.length,List.cons_append,List.nil_append,List.append_nil,List.getElem?_cons_succ,List.getElem?_cons_zero,List.getElem?_nil,Nat.add_zero,Nat.zero_add,Nat.reduceAdd,Nat.reduceSub])<;>exact rfl) :
  OL C ops Q (⟨dst,.call ⟨.value x,args.toArray,at_⟩,T,pos,af,none⟩::rest) ρ η:=by
 subst hP;rintro a w ⟨m,γ,ρc,hE,hR,hI⟩;obtain ⟨vs,h1,h2⟩:=hR.evs hl;obtain ⟨fv,g1,g2⟩:=hR.ev hx
 cases g2 with
 | @fn _ _ v1 v2 _ _ l1 l2 q1 q2 =>
 obtain ⟨hsh,hH1,_⟩:=hI.heap.sel hn ho;have hc:=hs m w _ (v1++vs++v2) hH1 (hle.vl hsh ((VL.app (VL.of l1 q1) h2).app (VL.of l2 q2)));simp at hb;have hb':fn.body≠none:=Option.isSome_iff_ne_none.1 hb.1;refine Cx.lconsX rfl (by simp) (.inr ⟨f,(v1++vs++v2).toArray,?_,hc.mono fun e w' ⟨m',γ1',he,hC⟩=>⟨_,he,?_⟩⟩)
 ·simp [execOp,resolve,hE.ev g1,Deferred.ofValue,invoke,callFunc,hf,hb.2,hb',hE.evs h1]
 ·obtain ⟨γ2,p1,p2,p3,p4⟩:=hI.call hn ho hC;subst hη;exact k _ _ ⟨m',γ2,_,hE,hR.mono p4 p1,p3⟩
theorem OL.panic {pv:Value} (k:TX C Q (.panic (pan pv)) ρ η) (hpv:∃ t u,pv=.iface t u) (hx:ev2 ρ x=some (.raw pv):=by with_unfolding_all exact rfl) :
  OL C ops Q (⟨dst,.panic x,T,pos,af,none⟩::rest) ρ η:=by
 obtain ⟨t,u,rfl⟩:=hpv;rintro a w ⟨m,γ,ρc,hE,hR,hI⟩;refine Cx.lconsX rfl (by simp) (.inl ⟨_,w,?_,k _ _ ⟨m,γ,ρc,hE,hR,hI⟩⟩);have e:=hE.ev (hR.raw hx);simp [execOp,e,run_panic_iface,Result.andThen]
end
end Go.V
