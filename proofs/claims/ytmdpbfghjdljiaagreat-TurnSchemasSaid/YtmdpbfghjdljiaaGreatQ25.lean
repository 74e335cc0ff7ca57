/- Part 25 of what the claim is proved by: lemmas on the model and walks through functions of the program; no conditions. -/
import Derived.Test.YtmdpbfghjdljiaaGreatQ24
import Derived.Test.YtmdpbfghjdljiaaGreatQ19
import Derived.Test.YtmdpbfghjdljiaaGreatQ15
import Derived.Test.YtmdpbfghjdljiaaGreatQ13
import Derived.Test.YtmdpbfghjdljiaaGreatQ12
namespace Go.V
open Go Go.W Go.RowKit
def fixA (f:Fn) (caps:List AV):Nat → AV
 | 0=>.junk
 | k + 1=>.ep [.fn f [] (caps ++ [fixA f caps k])] 0
section
variable {C:Cx} {ops:Array Oper} {Q:Qt} {A:Code} {ρ ρ':Ro} {η η' η2 ηX:Eta} {rest:List Oper} {T d:Nat} {dst:Option Tmp} {pos:String} {af:Array Edge} {x:Operand} {args:List Operand} {at_:Array TypeId}
theorem Wk.frzFix {t i E:Nat} {f:Fn} {caps:List AV} (n:Nat) (hx:lk ρ t = some (.bp i 0)) (ho:η[i]? = some (.cb E [.fn f [] (caps ++ [.bp i 0])])) (hp:caps.all pureA = true):Wk C ρ η ((t,fixA f caps n) :: ρ) (η.set i .dead):=by
 rintro a w ⟨m,γ,ρc,hE,hR,hI⟩
 obtain ⟨u,g1,g2⟩:=hR.look hx
 cases g2 with
 | @bp _ _ _ b hb =>
 obtain ⟨b',vs,e,hB,hC⟩:=hI.heap.ok i _ _ hb ho
 cases e
 obtain ⟨hx1,hcell⟩:=hB.freeze
 have hT:=hB.frz
 have key:∀ k (γ':List Value),Rep (mset m b vs.length) w γ' (.pointer (some ⟨b,0,none⟩)) (fixA f caps k):=by
  intro k
  induction k with
  | zero=>intro γ'; exact .junk
  | succ k ih =>
    intro γ'
    refine Rep.ep (γ:=γ') (o:=0) (q:=0) hcell (by have:=hC.1; simpa using this) hC.2.1 (fun j v c h1 h2=>?_)
    have hj:j = 0:=by have:=(List.getElem?_eq_some_iff.1 h2).1; simp at this; omega
    subst hj
    simp at h2
    subst h2
    have hr:=hC.2.2 0 v _ h1 rfl
    cases hr with
    | @fn _ _ fv cv _ _ l1 l2 q1 q2 =>
    refine .fn l1 (by simpa using l2) (fun j v c _ h2=>by simp at h2) (fun j v c h1 h2=>?_)
    by_cases hj:j < caps.length
    ·rw [List.getElem?_append_left hj] at h2
     have h3:=q2 j v c h1 (by rw [List.getElem?_append_left hj]; exact h2)
     exact (pureA_rep h3 (List.all_eq_true.1 hp c (List.mem_of_getElem? h2))).mono hx1 (.refl _)
    ·have hlt:=(List.getElem?_eq_some_iff.1 h2).1
     simp at hlt
     have e:j = caps.length:=by omega
     subst e
     have h3:=q2 caps.length v (.bp i 0) h1 (by simp)
     simp at h2
     subst h2
     cases h3 with
     | @bp _ _ _ b2 hb2 =>
     rw [hb] at hb2
     cases hb2
     exact ih []
 refine ⟨_,γ,(t,.pointer (some ⟨b,0,none⟩)) :: ρc,⟨hE.size,hE.defers,fun s q hs=>?_⟩,⟨rfl,key n γ,hR.mono hx1 (.refl _)⟩,hI.put (o':=.dead) hb ho hT trivial (.inr rfl)⟩
 simp only [W.look] at hs
 cases hb':Nat.beq t s with
 | true =>
   rw [hb'] at hs
   simp at hs
   subst hs
   rw [← Nat.eq_of_beq_eq_true hb']
   exact hE.look _ _ g1
 | false=>rw [hb'] at hs; exact hE.look _ _ (by simpa using hs)
theorem TC.frzFix {i E:Nat} {f:Fn} {caps:List AV} (t n:Nat) (k:TC C Q A ((t,fixA f caps n) :: ρ) η2) (hx:lk ρ t = some (.bp i 0):=by with_unfolding_all exact rfl) (ho:η[i]? = some (.cb E [.fn f [] (caps ++ [.bp i 0])]):=by with_unfolding_all exact rfl) (hp:caps.all pureA = true:=by with_unfolding_all exact rfl) (hη:η.set i .dead = η2:=by (try dsimp only [List.set])<;>exact rfl):TC C Q A ρ η:=by
 subst hη; exact TC.wk (Wk.frzFix n hx ho hp) k
/-! ## Exits of a function that holds one such loop -/
variable {P:Program} {fn:Func} {B:Base} {p:Prop} {pv:Value} {k D:Nat}
theorem TX.rtM0Y (hp:p) (hM:Marked B C.B D) (hBn:B.γ.length = C.n) (σ:List Nat) (hD:C.D = [markD D]:=by with_unfolding_all exact rfl) (hres:fn.results = #[]:=by with_unfolding_all exact rfl)
  (hn:nodB σ = true:=by with_unfolding_all exact rfl) (hpr:preB C.n 0 σ = true:=by with_unfolding_all exact rfl) (ho:SubO (ts σ) η σ η':=by repeat' (first | with_unfolding_all exact trivial | exact OE.ren (by with_unfolding_all exact rfl) | with_unfolding_all exact OE.gs | with_unfolding_all refine And.intro ⟨_,by with_unfolding_all exact rfl,?_⟩ ?_)) :
  TX C (bodyPostM Fence.wide k P fn (PostY B (.tp []) η' p pv ηX)) .normal ρ η:=by
 rintro a w ⟨m,γ,ρc,hE,hR,hI⟩
 have hDw:w.heap[D]? = some (.deferred (some [])):=by
  rw [hI.far.block D (Array.getElem?_eq_some_iff.1 hM.mark).1 hM.off]; exact hM.mark
 have hI0:In B m w γ η:=hI.comp hM.far hM.own hM.pre
 obtain ⟨γ',g1,g2⟩:=hI0.sel hBn hn hpr ho
 have hs:StepOK B.w.heap.size m w m (w.putObj D (.deferred none)):=.put hDw rfl hM.le
 rw [hD] at hE
 refine W.retM0 hE hres hDw (.inl ⟨hp,_,m,γ',rfl,g2.step hs,.tp (vs:=[]) rfl fun j v c hv hc=>?_⟩)
 simp at hv
theorem TX.rtMPY (hp:¬ p) (hM:Marked B C.B D) (hBn:B.γ.length = C.n) (σ:List Nat) (hD:C.D = [markD D]:=by with_unfolding_all exact rfl)
  (hn:nodB σ = true:=by with_unfolding_all exact rfl) (hpr:preB C.n 0 σ = true:=by with_unfolding_all exact rfl) (ho:SubO (ts σ) η σ ηX:=by repeat' (first | with_unfolding_all exact trivial | exact OE.ren (by with_unfolding_all exact rfl) | with_unfolding_all exact OE.gs | with_unfolding_all refine And.intro ⟨_,by with_unfolding_all exact rfl,?_⟩ ?_)) {r:AV} :
  TX C (bodyPostM Fence.wide k P fn (PostY B r η' p pv ηX)) (.panic (pan pv)) ρ η:=by
 rintro a w ⟨m,γ,ρc,hE,hR,hI⟩
 have hDw:w.heap[D]? = some (.deferred (some [])):=by
  rw [hI.far.block D (Array.getElem?_eq_some_iff.1 hM.mark).1 hM.off]; exact hM.mark
 have hI0:In B m w γ η:=hI.comp hM.far hM.own hM.pre
 obtain ⟨γ',g1,g2⟩:=hI0.sel hBn hn hpr ho
 have hs:StepOK B.w.heap.size m w m (w.putObj D (.deferred none)):=.put hDw rfl hM.le
 rw [hD] at hE
 show LeavesInM Fence.wide k P fn a.tmps _ a.defers (.panicking (pan pv)) w
 rw [hE.defers]
 exact ⟨by simp,.inl ⟨D,_,rfl,run_takeDeferred hDw,.inr ⟨hp,m,γ',rfl,g2.step hs⟩⟩⟩
end
end Go.V
namespace Go.V
open Go Go.W Go.RowKit
structure ItX (P:Program) {α:Type} (as:α → List AV) (ok:α → Prop) (pv:Value) (L:List α) where
 l:Nat
 J:List α → (Nat → Nat) → World → Prop
 Jp:(Nat → Nat) → World → Prop
 m:Nat → Nat
 W:World
 sJ:Stays W.heap.size J
 sJp:Stays W.heap.size (fun (_:Unit)=>Jp)
 hok:∀ pre m W,J pre m W → ∀ x ∈ pre,ok x
 hy:∀ pre x m1 W1 vs,J pre m1 W1 → (∃ r,pre ++ x :: r = L) → VL m1 W1 [] vs (as x) → YieldX P l vs m1 W1 (J (pre ++ [x])) Jp pv
section
variable {P:Program} {α:Type} {as:α → List AV} {ok:α → Prop} {pv:Value} {L:List α}
structure AtX (I:ItX P as ok pv L) (m0:Nat → Nat) (W0:World) (K:(Nat → Nat) → World → Prop) (B:Base):Prop where
 le:Ext I.m I.W m0 W0
 ext:Ext m0 W0 B.m B.w
 noS:B.S = []
 noγ:B.γ = []
 stays:∀ m w m' w',K m w → StepOK I.W.heap.size m w m' w' → K m' w'
 holds:K B.m B.w
theorem AtX.keep {I:ItX P as ok pv L} {m0 W0 K B m w} (h:AtX I m0 W0 K B) (hk:Keep B.m B.w m w):AtX I m0 W0 K ⟨m,w,[],[]⟩:=
 ⟨h.le,h.ext.trans hk.ext,rfl,rfl,h.stays,h.stays _ _ _ _ h.holds (.keep hk)⟩
def EndX (I:ItX P as ok pv L) (m0:Nat → Nat) (W0:World) (post:List α) (r:Value):Ending → World → Prop:=fun e W' =>
 ∃ m',Ext m0 W0 m' W' ∧ ((e = .returned r ∧ I.J post m' W') ∨ (e = .panicked (pan pv) ∧ I.Jp m' W'))
def VisX (I:ItX P as ok pv L) (f:Nat) (us:List AV) (pre post:List α) (r:Value):Prop:=
 ∀ m w vs,Ext I.m I.W m w → I.J pre m w → VL m w [] vs us → Calls P f vs.toArray w (EndX I m w post r)
end
section
variable {C:Cx} {ops:Array Oper} {Q:Qt} {ρ ρ':Ro} {η η':Eta} {rest:List Oper} {T d:Nat} {pos:String} {af:Array Edge} {x:Operand} {args:List Operand} {at_:Array TypeId}
variable {P:Program} {α:Type} {as:α → List AV} {ok:α → Prop} {pv:Value} {L:List α}
theorem OL.yieldX {I:ItX P as ok pv L} {m0 W0} {pre:List α} {y:α} {us:List AV} {r:Option Nat} (hA:AtX I m0 W0 (I.J pre) C.B) (hpre:∃ r,pre ++ y :: r = L)
  (k1:∀ B (hB:B.γ.length = C.n),AtX I m0 W0 (I.J (pre ++ [y])) B → OL (C.at B hB) ops Q rest ((d,V.bool true) :: ρ) η)
  (kp:∀ B (hB:B.γ.length = C.n),AtX I m0 W0 I.Jp B → TX (C.at B hB) Q (.panic (pan pv)) ρ η)
  (hP:C.P = P:=by with_unfolding_all exact rfl) (hn:C.n = 0:=by with_unfolding_all exact rfl) (hr:C.r = some r:=by with_unfolding_all exact rfl) (hk:C.k = 0:=by with_unfolding_all exact rfl)
  (hx:ev2 ρ x = some (.raw (.func (.yield I.l) #[] #[])):=by with_unfolding_all exact rfl) (hl:evs2 ρ args = some us:=by with_unfolding_all exact rfl)
  (hle:LEs (ts []) us (as y):=by repeat' (first | with_unfolding_all exact trivial | exact LE.ren (by with_unfolding_all exact rfl) | with_unfolding_all exact LE.sl | with_unfolding_all exact LE.nil (by decide) | with_unfolding_all refine And.intro ?_ ?_))
  (hd:Nat.blt d C.N = true:=by with_unfolding_all exact rfl) (hη:η.all isDead = true:=by with_unfolding_all exact rfl) :
  OL C ops Q (⟨some d,.call ⟨.value x,args.toArray,at_⟩,T,pos,af,none⟩ :: rest) ρ η:=by
 rintro a w ⟨m,γ,ρc,hE,hR,hI⟩
 subst hP
 have hK:=hI.keep0 hA.noS
 have hA':=hA.keep hK
 obtain ⟨vs,h1,h2⟩:=hR.evs hl
 have hvl:VL m w [] vs (as y):=hle.vl (γ':=[]) (fun i j h=>by cases h) h2
 have hY:=I.hy pre y m w vs hA'.holds hpre hvl
 have hB0:([]:List Value).length = C.n:=by rw [hn]; rfl
 obtain ⟨fn',tmps,assign,body,q1,q2⟩:=hY
 rw [Cx.L_some hr,hk]
 unfold wpListIn
 rw [if_pos (by simp [Region.wanted])]
 refine ⟨fun f _=>trivial,?_⟩
 rw [Oper.semAt_plain _ _ _ (by simp)]
 have hrun:(execOp a.eval ⟨some d,.call ⟨.value x,args.toArray,at_⟩,T,pos,af,none⟩).run C.P w = .ok (.round I.l fn' tmps assign body) w:=by
  simp [execOp,resolve,hE.ev (hR.raw hx),Deferred.ofValue,invoke,hE.evs h1,q1]
 rw [hrun,Oper.uponIn_round]
 refine ⟨fun h=>(by cases h),RoundIn.mono (show RoundIn (WF r) 0 C.P I.l fn' tmps assign body w _ from q2) fun e w'' ⟨m',he,hc⟩=>?_⟩
 rcases hc with ⟨rfl,hj⟩ | ⟨rfl,hj⟩
 ·have:=k1 ⟨m',w'',[],[]⟩ hB0 ⟨hA'.le,hA'.ext.trans he,rfl,rfl,fun m w m' w'=>I.sJ _ m w m' w',hj⟩ _ w'' ⟨m',γ,_,hE.put _ (by simpa using hd),⟨rfl,.raw rfl,hR.mono he (.refl _)⟩,hI.deadB hη⟩
  rwa [Cx.L_some (C:=C.at ⟨m',w'',[],[]⟩ hB0) hr,show (C.at ⟨m',w'',[],[]⟩ hB0).k = 0 from hk] at this
 ·exact kp ⟨m',w'',[],[]⟩ hB0 ⟨hA'.le,hA'.ext.trans he,rfl,rfl,fun m w m' w'=>I.sJp () m w m' w',hj⟩ a w'' ⟨m',γ,ρc,hE,hR.mono he (.refl _),hI.deadB hη⟩
theorem OL.visX {I:ItX P as ok pv L} {m0 W0} {pre post:List α} {f:Nat} {fn:Func} {us vs' first caps:List AV} {r:Option Nat} {rv:Value} (hA:AtX I m0 W0 (I.J pre) C.B) (hV:VisX I f vs' pre post rv) (hf:P.funcs[f]? = some fn) (hrv:rv.oneCell' = true)
  (k1:∀ B (hB:B.γ.length = C.n),AtX I m0 W0 (I.J post) B → OL (C.at B hB) ops Q rest ((d,.raw rv) :: ρ) η)
  (kp:∀ B (hB:B.γ.length = C.n),AtX I m0 W0 I.Jp B → TX (C.at B hB) Q (.panic (pan pv)) ρ η)
  (hP:C.P = P:=by with_unfolding_all exact rfl) (hn:C.n = 0:=by with_unfolding_all exact rfl) (hr:C.r = some r:=by with_unfolding_all exact rfl) (hk:C.k = 0:=by with_unfolding_all exact rfl)
  (hx : ev2 ρ x = some (.fn (.func f) first caps) := by with_unfolding_all exact rfl) (hb : (fn.body.isNone || fn.name == "runtime.NumGoroutine") = false := by with_unfolding_all exact rfl) (hl : evs2 ρ args = some us := by with_unfolding_all exact rfl)
  (hle:LEs (ts []) (first ++ us ++ caps) vs':=by repeat' (first | with_unfolding_all exact trivial | exact LE.ren (by with_unfolding_all exact rfl) | with_unfolding_all exact LE.sl | with_unfolding_all exact LE.nil (by decide) | with_unfolding_all refine And.intro ?_ ?_))
  (hd:Nat.blt d C.N = true:=by with_unfolding_all exact rfl) (hη:η.all isDead = true:=by with_unfolding_all exact rfl) :
  OL C ops Q (⟨some d,.call ⟨.value x,args.toArray,at_⟩,T,pos,af,none⟩ :: rest) ρ η:=by
 rintro a w ⟨m,γ,ρc,hE,hR,hI⟩
 subst hP
 have hK:=hI.keep0 hA.noS
 have hA':=hA.keep hK
 obtain ⟨vs,h1,h2⟩:=hR.evs hl
 obtain ⟨fv,g1,g2⟩:=hR.ev hx
 cases g2 with
 | @fn _ _ v1 v2 _ _ l1 l2 q1 q2 =>
 have hvl:VL m w [] (v1 ++ vs ++ v2) vs':=hle.vl (γ':=[]) (fun i j h=>by cases h) ((VL.app (VL.of l1 q1) h2).app (VL.of l2 q2))
 have hc:=hV m w _ (hA'.le.trans hA'.ext) hA'.holds hvl
 have hB0:([]:List Value).length = C.n:=by rw [hn]; rfl
 simp at hb
 have hb':fn.body ≠ none:=Option.isSome_iff_ne_none.1 hb.1
 rw [Cx.L_some hr,hk]
 unfold wpListIn
 rw [if_pos (by simp [Region.wanted])]
 refine ⟨fun f _=>trivial,?_⟩
 rw [Oper.semAt_plain _ _ _ (by simp)]
 have hrun:(execOp a.eval ⟨some d,.call ⟨.value x,args.toArray,at_⟩,T,pos,af,none⟩).run C.P w = .ok (.enter f (v1 ++ vs ++ v2).toArray) w:=by
  simp [execOp,resolve,hE.ev g1,Deferred.ofValue,invoke,callFunc,hf,hb.2,hb',hE.evs h1]
 rw [hrun,Oper.uponIn_enter]
 refine ⟨fun hd=>(by cases hd),CallsIn.mono (show CallsIn (WF r) 0 C.P f (v1 ++ vs ++ v2).toArray w _ from (callsIn_wide (n:=0)).2 hc) (fun e w'' ⟨m',he,hq⟩=>?_)⟩
 rcases hq with ⟨rfl,hj⟩ | ⟨rfl,hj⟩
 ·have:=k1 ⟨m',w'',[],[]⟩ hB0 ⟨hA'.le,hA'.ext.trans he,rfl,rfl,fun m w m' w'=>I.sJ _ m w m' w',hj⟩ _ w'' ⟨m',γ,_,hE.put _ (by simpa using hd),⟨rfl,.raw hrv,hR.mono he (.refl _)⟩,hI.deadB hη⟩
  rwa [Cx.L_some (C:=C.at ⟨m',w'',[],[]⟩ hB0) hr,show (C.at ⟨m',w'',[],[]⟩ hB0).k = 0 from hk] at this
 ·exact kp ⟨m',w'',[],[]⟩ hB0 ⟨hA'.le,hA'.ext.trans he,rfl,rfl,fun m w m' w'=>I.sJp () m w m' w',hj⟩ a w'' ⟨m',γ,ρc,hE,hR.mono he (.refl _),hI.deadB hη⟩
/-! ## Its ends -/
theorem TX.endX {I:ItX P as ok pv L} {m0 W0} {post:List α} {fn:Func} {t k:Nat} {u:AV} {rv:Value} (hA:AtX I m0 W0 (I.J post) C.B) (hu:u = .raw rv) (hD:C.D = []:=by with_unfolding_all exact rfl) (hres:fn.results = #[.tmp t]:=by with_unfolding_all exact rfl) (hx:lk ρ t = some u:=by with_unfolding_all exact rfl) :
  TX C (bodyPostM Fence.wide k P fn (EndX I m0 W0 post rv)) .ret ρ η:=by
 rintro a w ⟨m,γ,ρc,hE,hR,hI⟩
 subst hu
 have hA':=hA.keep (hI.keep0 hA.noS)
 obtain ⟨v,h1,h2⟩:=hR.look hx
 cases h2 with
 | raw h =>
 show LeavesInM Fence.wide k P fn a.tmps _ a.defers .returning w
 rw [hE.defers,hD]
 exact ⟨_,by rw [results_tmp hres a.tmps P _,hE.get h1],m,hA'.ext,.inl ⟨rfl,hA'.holds⟩⟩
theorem TX.endX0 {I:ItX P as ok pv L} {m0 W0} {post:List α} {fn:Func} {k:Nat} (hA:AtX I m0 W0 (I.J post) C.B) (hD:C.D = []:=by with_unfolding_all exact rfl) (hres:fn.results = #[]:=by with_unfolding_all exact rfl) :
  TX C (bodyPostM Fence.wide k P fn (EndX I m0 W0 post (.tuple #[]))) .ret ρ η:=by
 rintro a w ⟨m,γ,ρc,hE,hR,hI⟩
 have hA':=hA.keep (hI.keep0 hA.noS)
 show LeavesInM Fence.wide k P fn a.tmps _ a.defers .returning w
 rw [hE.defers,hD]
 exact ⟨_,results_none hres _ P _,m,hA'.ext,.inl ⟨rfl,hA'.holds⟩⟩
theorem TX.endXP {I:ItX P as ok pv L} {m0 W0} {post:List α} {fn:Func} {k:Nat} {rv:Value} (hA:AtX I m0 W0 I.Jp C.B) (hD:C.D = []:=by with_unfolding_all exact rfl) :
  TX C (bodyPostM Fence.wide k P fn (EndX I m0 W0 post rv)) (.panic (pan pv)) ρ η:=by
 rintro a w ⟨m,γ,ρc,hE,hR,hI⟩
 have hA':=hA.keep (hI.keep0 hA.noS)
 show LeavesInM Fence.wide k P fn a.tmps _ a.defers (.panicking (pan pv)) w
 rw [hE.defers,hD]
 exact ⟨m,hA'.ext,.inr ⟨rfl,hA'.holds⟩⟩
/-! ## Contracts out of bodies -/
theorem VisX.enter {I:ItX P as ok pv L} {f:Nat} {fn:Func} {c:Code} {us:List AV} {pre post:List α} {rv:Value} {tab:Tab} {N:Nat} (hT:TabOK P tab) (hm:P.follows .mixedOrders = true) (hf:P.funcs[f]? = some fn) (hb:fn.body = some c) (hN:fn.ntmps = N) (ha:Nat.ble us.length N = true)
  (h:∀ (m0:Nat → Nat) (W0:World) (B:Base) (hB:B.γ.length = 0),AtX I m0 W0 (I.J pre) B → TC ⟨P,tab,hT,hm,N,[],B,0,hB,some none,0⟩ (bodyPostM Fence.wide 0 P fn (EndX I m0 W0 post rv)) c (zip2 0 us) []):VisX I f us pre post rv:=by
 intro m w vs he hJ hv
 have hl:=hv.len
 refine Go.W.enterM (N:=N) 0 (Go.W.zipA 0 vs) hf hb hN (by simp) (by simp at ha; simp; omega) fun a hE=>?_
 have hb':=h m w ⟨m,w,[],[]⟩ rfl ⟨he,.refl _ _,rfl,rfl,fun m w m' w'=>I.sJ _ m w m' w',hJ⟩ a w
  ⟨m,[],_,hE,hv.zip 0,⟨rfl,by simp,by simp⟩,.refl _ _ _,fun i v o b h=>by simp at h,.refl _⟩
 rw [Cx.W_some rfl] at hb'
 exact wpIn_wide.1 hb'
theorem SeqX.of {f:Nat} {caps:List AV} {m0:Nat → Nat} {w0:World} {vs:List Value} (hv:VL m0 w0 [] vs caps)
  (h:∀ (I:ItX P as ok pv L),VisX I f (.raw (.func (.yield I.l) #[] #[]) :: caps) [] L (.tuple #[])):SeqX P f vs.toArray as ok pv L m0 w0:=by
 intro l J Jp m W he sJ sJp hok hy hJ
 have:=h ⟨l,J,Jp,m,W,sJ,sJp,hok,hy⟩ m W (.func (.yield l) #[] #[] :: vs) (.refl _ _) hJ ⟨.raw rfl,hv.mono he (.refl _)⟩
 have ez:(#[Value.func (.yield l) #[] #[]] ++ vs.toArray:Array Value) = (Value.func (.yield l) #[] #[] :: vs).toArray:=by simp
 rw [ez]
 refine this.mono fun e W' ⟨m',h1,h2⟩=>⟨m',h1,?_⟩
 rcases h2 with ⟨rfl,h⟩ | h
 ·exact .inl ⟨_,rfl,h⟩
 ·exact .inr h
end
end Go.V
namespace Go.W
open Go
def mput (k:Int) (v:Value):List (Int × Value) → List (Int × Value)
 | []=>[(k,v)]
 | p :: r=>if k == p.1 then (p.1,v) :: r else p :: mput k v r
theorem findNow_put (k:Int) (v:Value):∀ (es:List MapEntry) (l:List (Int × Value)) (i:Nat),es.map (fun e=>(e.key,e.val)) = l.map (fun p=>(Value.int .i64 p.1,p.2)) → mfind k l ≠ none →
  ∃ j v',Instr.findNow (.int .i64) (.int .i64 k) es i = some (some (i + j,v')) ∧ (es[j]?).map (·.key) = some (.int .i64 k) ∧
   (es.modify j fun e=>{ e with key:=.int .i64 k,val:=v }).map (fun e=>(e.key,e.val)) = (mput k v l).map (fun p=>(Value.int .i64 p.1,p.2))
 | [],[],i,_,hn=>absurd rfl hn
 | [],_ :: _,_,h,_=>by simp at h
 | _ :: _,[],_,h,_=>by simp at h
 | e :: es,p :: l,i,h,hn=>by
   simp only [List.map_cons,List.cons.injEq,Prod.mk.injEq] at h
   obtain ⟨⟨hk,hv⟩,h⟩:=h
   simp only [mfind] at hn
   simp only [Instr.findNow,hk,Instr.sameNow,if_true,mput]
   cases hb:k == p.1 with
   | true =>
     have hkp:k = p.1:=by simpa using hb
     refine ⟨0,e.val,by simp,by simp [hk,hkp],?_⟩
     simp [List.modify,hkp,h]
   | false =>
     rw [hb] at hn
     obtain ⟨j,v',g1,g2,g3⟩:=findNow_put k v es l (i + 1) h (by simpa using hn)
     refine ⟨j + 1,v',by simp [g1]; omega,by simpa using g2,?_⟩
     simp [List.modify_succ_cons,hk,hv,g3]
theorem mput_keys (k:Int) (v:Value):∀ l:List (Int × Value),mfind k l ≠ none → (mput k v l).map (·.1) = l.map (·.1)
 | [],h=>absurd rfl h
 | p :: r,h=>by
   simp only [mfind] at h
   simp only [mput]
   cases hb:k == p.1 with
   | true=>simp
   | false=>rw [hb] at h; simp [mput_keys k v r (by simpa using h)]
end Go.W
namespace Go.V
open Go Go.W
def aput (k:Int) (u:AV):List (Int × AV) → List (Int × AV)
 | []=>[(k,u)]
 | p :: r=>if k == p.1 then (p.1,u) :: r else p :: aput k u r
theorem aput_new (k:Int) (u:AV):∀ es:List (Int × AV),afind k es = none → aput k u es = es ++ [(k,u)]
 | [],_=>rfl
 | p :: r,h=>by
   simp only [afind] at h
   simp only [aput]
   cases hb:k == p.1 with
   | true=>rw [hb] at h; simp at h
   | false=>rw [hb] at h; simp [aput_new k u r (by simpa using h)]
theorem aput_get {m w} (k:Int) (v:Value) (u:AV) (hv:Rep m w [] v u ∧ okV v u):∀ (l:List (Int × Value)) (es:List (Int × AV)),l.map (·.1) = es.map (·.1) → (∀ (j:Nat) p q,l[j]? = some p → es[j]? = some q → Rep m w [] p.2 q.2 ∧ okV p.2 q.2) →
  ∀ (j:Nat) p q,(mput k v l)[j]? = some p → (aput k u es)[j]? = some q → Rep m w [] p.2 q.2 ∧ okV p.2 q.2
 | [],[],_,_,j,p,q,hp,hq=>by
   cases j with
   | zero=>simp [mput,aput] at hp hq; subst hp hq; exact hv
   | succ j=>simp [mput] at hp
 | [],_ :: _,h,_,_,_,_,_,_=>by simp at h
 | _ :: _,[],h,_,_,_,_,_,_=>by simp at h
 | p0 :: l,q0 :: es,h,hr,j,p,q,hp,hq=>by
   simp only [List.map_cons,List.cons.injEq] at h
   simp only [mput,aput,h.1] at hp hq
   cases hb:k == q0.1 with
   | true =>
     rw [hb] at hp hq
     simp only [if_true] at hp hq
     cases j with
     | zero=>simp at hp hq; subst hp hq; exact hv
     | succ j=>exact hr (j + 1) p q (by simpa using hp) (by simpa using hq)
   | false =>
     rw [hb] at hp hq
     simp only [Bool.false_eq_true,if_false] at hp hq
     cases j with
     | zero=>exact hr 0 p q (by simpa using hp) (by simpa using hq)
     | succ j=>exact aput_get k v u hv l es h.2 (fun j a b h1 h2=>hr (j + 1) a b (by simpa using h1) (by simpa using h2)) j p q (by simpa using hp) (by simpa using hq)
theorem aput_keys (k:Int) (u:AV):∀ es:List (Int × AV),afind k es ≠ none → (aput k u es).map (·.1) = es.map (·.1)
 | [],h=>absurd rfl h
 | p :: r,h=>by
   simp only [afind] at h
   simp only [aput]
   cases hb:k == p.1 with
   | true=>simp
   | false=>rw [hb] at h; simp [aput_keys k u r (by simpa using h)]
section
variable {C:Cx} {ops:Array Oper} {Q:Qt} {ρ:Ro} {η η2:Eta} {rest:List Oper} {T X E:Nat} {pos:String} {af:Array Edge} {x y z:Operand}
theorem OL.mapUpd {i K:Nat} {es:List (Int × AV)} {k:Int} {u:AV} (kk:OL C ops Q rest ρ η2) (hs:(C.tab X).map (·.sh) = some (.map K E):=by with_unfolding_all exact rfl) (hkt:(C.tab K).map (·.sh) = some (.int .i64):=by with_unfolding_all exact rfl)
  (hx:ev2 ρ x = some (.mp i):=by with_unfolding_all exact rfl) (ho:η[i]? = some (.mo es):=by with_unfolding_all exact rfl) (hy:ev2 ρ y = some (.raw (.int .i64 k)):=by with_unfolding_all exact rfl) (hz:ev2 ρ z = some u:=by with_unfolding_all exact rfl) (hu:(okc u && pureA u) = true:=by with_unfolding_all exact rfl)
  (hη:η.set i (.mo (aput k u es)) = η2:=by (try dsimp only [List.set])<;>exact rfl) :
  OL C ops Q (⟨none,.mapUpdate X x y z,T,pos,af,none⟩ :: rest) ρ η:=by
 cases hn:afind k es with
 | none=>exact OL.mapNewC kk (.inl rfl) hn hs hkt hx ho hy hz hu (by rw [← hη,aput_new k u es hn])
 | some u0 =>
 rintro a w ⟨m,γ,ρc,hE',hR,hI⟩
 obtain ⟨u1,g1,g2⟩:=hR.ev hx
 obtain ⟨v,g3,g4⟩:=hR.ev hz
 simp only [Bool.and_eq_true] at hu
 have hone:okV v u:=g4.one hu.1
 have hpure:=pureA_rep g4 hu.2
 cases g2 with
 | @mp _ _ b hb =>
 obtain ⟨b',l,e,h0,hM,hkeys,hrep⟩:=hI.heap.ok i _ _ hb ho
 cases e
 obtain ⟨ut,uk⟩:=map_of hs hkt
 haveI:IntTy C.P K .i64:=⟨uk⟩
 obtain ⟨es',clock,hb',hl⟩:=id hM
 have hck:=run_checkInt (P:=C.P) (Y:=K) (w:=w)
 have hlt:b < w.heap.size:=(Array.getElem?_eq_some_iff.1 hb').1
 have hmn:mfind k l ≠ none:=by
  rcases afind_of k l es hkeys hrep with ⟨_,a2⟩ | ⟨_,_,a1,_⟩
  ·rw [hn] at a2; cases a2
  ·rw [a1]; exact nofun
 have hother:∀ (o:Obj) (j:Nat),j ≠ b → (w.heap.setIfInBounds b o)[j]? = w.heap[j]?:=fun o j hj=>by rw [Array.getElem?_setIfInBounds_ne (by omega)]
 subst hη
 obtain ⟨j,v',e2,e3,e4⟩:=findNow_put k v es'.toList l 0 hl hmn
 rw [Nat.zero_add] at e2
 obtain ⟨en,he1,he2⟩:∃ en,es'[j]? = some en ∧ en.key = .int .i64 k:=by
  cases hq:es'[j]? with
  | none=>rw [Array.getElem?_toList,hq] at e3; cases e3
  | some en=>rw [Array.getElem?_toList,hq] at e3; exact ⟨en,rfl,by simpa using e3⟩
 have hsb:Instr.sameBits 10000 (.int .i64 k) (.int .i64 k) = true:=by simp [Instr.sameBits]
 have hT:W.Touch (some b) m w m { w with heap:=w.heap.setIfInBounds b (.map (es'.modify j fun e=>{ e with key:=.int .i64 k,val:=v }) clock) }:=
  ⟨⟨rfl,rfl,rfl,by simp,fun i _ hi=>hother _ i (by simpa using hi)⟩,fun _ _ _=>rfl,⟨by simp,fun _ _=>Nat.le_refl _,fun i j c hj hc=>by
   have hne:i ≠ b:=fun e=>by subst e; omega
   rw [World.cell?_of_block (w:=w) (hother _ i hne)]; exact hc⟩⟩
 refine Cx.lcons (wl_skip (w':={ w with heap:=w.heap.setIfInBounds b (.map (es'.modify j fun e=>{ e with key:=.int .i64 k,val:=v }) clock) }) rfl ?_ (kk _ _ ⟨m,γ,ρc,by simpa [Act.put] using hE',hR.mono hT.ext (.refl _),hI.put (o':=.mo (aput k u es)) hb ho hT ⟨b,mput k v l,rfl,h0,⟨es'.modify j fun e=>{ e with key:=.int .i64 k,val:=v },clock,by simp [hlt],by rw [Array.toList_modify]; exact e4⟩,?_,?_⟩ (.inl rfl)⟩))
 ·simp [execOp,hE'.ev g1,hE'.ev (hR.raw hy),hE'.ev g3,Instr.mapUpdate,run_underlying ut,MapKept.run_getObj_map hb',hck,Instr.findKey,run_underlying uk,e2,he1,he2,Instr.keyThatStays,hsb,MapKept.run_setObj_map _ hb']
 ·rw [mput_keys k v l hmn,aput_keys k u es (by rw [hn]; exact nofun),hkeys]
 ·exact aput_get k v u ⟨hpure.mono hT.ext (.refl _),hone⟩ l es hkeys (fun j p q h1 h2=>⟨(hrep j p q h1 h2).1.mono hT.ext (.refl _),(hrep j p q h1 h2).2⟩)
end
end Go.V
namespace Go.V
open Go Go.W
section
variable {P:Program} {tab:Tab} {N:Nat} {D:List Deferred} {ρ:Ro} {η:Eta} {x y z:Operand} {X:Nat} {M:Bool}
theorem run_clip {α:Type} {sz:Nat} {Cr:CRel α} {m:Nat → Nat} {w1:World} {xs:List α} {v:Value} {e:Nat} {inf:TypeInfo} (hu:P.underlying X = some (.slice e)) (hi1:P.info? e = some inf) (hr:RS sz Cr m w1 v xs) :
  ∃ v',RS sz Cr m w1 v' xs ∧ ∀ w,(Instr.slice X v none (some (.int .i64 (xs.length:Int))) (some (.int .i64 (xs.length:Int)))).run P w = .ok v' w:=by
 rcases hr with ⟨rfl,rfl⟩ | ⟨b,o,cap,rfl,hc,hm,hel⟩ | ⟨aw,rfl,rfl⟩
 ·exact ⟨.slice none 0 0,.inl ⟨rfl,rfl⟩,fun w=>by simp [Instr.slice,run_underlying hu,Instr.sliceBounds,Instr.sliceBound,asIntOf,sizeOf,typeInfo,hi1]⟩
 ·refine ⟨.slice (some ⟨b,o,none⟩) xs.length xs.length,.inr (.inl ⟨b,o,xs.length,rfl,Nat.le_refl _,by omega,hel⟩),fun w=>?_⟩
  simp [Instr.slice,run_underlying hu,Instr.sliceBounds,Instr.sliceBound,asIntOf,sizeOf,typeInfo,hi1,hc,Addr.add]
 ·exact ⟨.slice (some aw) 0 0,.inr (.inr ⟨aw,rfl,rfl⟩),fun w=>by simp [Instr.slice,run_underlying hu,Instr.sliceBounds,Instr.sliceBound,asIntOf,sizeOf,typeInfo,hi1]⟩
theorem give_clip {sz nl E i j} {xs:List AV} (hT:TabOK P tab) (hs:(tab X).map (·.sh) = some (.slice E)) (hz:(tab E).map (·.size) = some sz) (hx:ev2 ρ x = some (.sl sz nl xs)) (hy:ev2 ρ y = some (.raw (.int .i64 i))) (hi:i = (xs.length:Nat)) (hw:ev2 ρ z = some (.raw (.int .i64 j))) (hj:j = (xs.length:Nat)) :
  Gives P N D (.slice X x none (some y) (some z)) ρ η (.sl sz none xs) M:=fun m w γ ρc a hE hR hH=>by
 obtain ⟨v,h1,h2⟩:=hR.ev hx
 obtain ⟨d,hu,hd⟩:=shOf hT hs
 obtain rfl:d = _:=hd
 obtain ⟨inf,i1,i2⟩:=sizeOf' hT hz
 subst hi hj
 obtain ⟨v',g1,g2⟩:=run_clip hu i1 h2.rs.1
 refine ⟨v',Rep.of_rs g1 (NL.none _),fun _ _ _ _ _ _=>?_⟩
 simp [execOp,hE.ev h1,hE.ev (hR.raw hy),hE.ev (hR.raw hw),Instr.sliceAt,run_underlying hu,g2]
end
section
variable {C:Cx} {ops:Array Oper} {Q:Qt} {ρ:Ro} {η:Eta} {rest:List Oper} {T X d E:Nat} {pos:String} {af:Array Edge} {x y z:Operand}
theorem OL.clip {α:Type} {f:α → AV} {sz nl} {l:List α} {i j:Int} (k:OL C ops Q rest ((d,.sl sz none (l.map f)) :: ρ) η) (hs:(C.tab X).map (·.sh) = some (.slice E):=by with_unfolding_all exact rfl) (hz:(C.tab E).map (·.size) = some sz:=by with_unfolding_all exact rfl)
  (hx:ev2 ρ x = some (.sl sz nl (l.map f)):=by with_unfolding_all exact rfl) (hy:ev2 ρ y = some (.raw (.int .i64 i)):=by with_unfolding_all exact rfl) (hw:ev2 ρ z = some (.raw (.int .i64 j)):=by with_unfolding_all exact rfl) (hi:i = (l.length:Nat):=by first | rfl | simp) (hj:j = (l.length:Nat):=by first | rfl | simp) (hd:Nat.blt d C.N = true:=by with_unfolding_all exact rfl) :
  OL C ops Q (⟨some d,.slice X x none (some y) (some z),T,pos,af,none⟩ :: rest) ρ η:=
 OL.give (give_clip C.hT hs hz hx hy (by rw [hi,List.length_map]) hw (by rw [hj,List.length_map])) hd k
end
end Go.V
namespace Go.V
open Go Go.W
theorem give_max {P:Program} {N:Nat} {D:List Deferred} {ρ:Ro} {η:Eta} {x y:Operand} {a b:Int} {M:Bool} {ts:Array TypeId} (hx:ev2 ρ x = some (.raw (.int .i64 a))) (hy:ev2 ρ y = some (.raw (.int .i64 b))):Gives P N D (.call ⟨.builtin .max,#[x,y],ts⟩) ρ η (.raw (.int .i64 (max a b))) M:=fun m w γ ρc ac hE hR hH =>
 ⟨_,.raw rfl,fun _ _ _ _ _ _=>by
  simp [execOp,resolve,invoke,builtin,hE.ev (hR.raw hx),hE.ev (hR.raw hy),Builtin.max_,Builtin.max2]
  try (split<;>omega)⟩
theorem OL.max {C:Cx} {ops:Array Oper} {Q:Qt} {rest:List Oper} {ρ:Ro} {η:Eta} {x y:Operand} {a b:Int} {ts:Array TypeId} {d T:Nat} {pos:String} {af:Array Edge} (c:Int) (k:OL C ops Q rest ((d,.raw (.int .i64 c)) :: ρ) η) (hx:ev2 ρ x = some (.raw (.int .i64 a)):=by with_unfolding_all exact rfl) (hy:ev2 ρ y = some (.raw (.int .i64 b)):=by with_unfolding_all exact rfl) (hd:Nat.blt d C.N = true:=by with_unfolding_all exact rfl) (hc:Max.max a b = c:=by omega) :
  OL C ops Q (⟨some d,.call ⟨.builtin .max,#[x,y],ts⟩,T,pos,af,none⟩ :: rest) ρ η:=by
 subst hc; exact OL.give (give_max hx hy) hd k
end Go.V
namespace Go.V
open Go Go.W Go.ChangeShapes Go.WideShapes Go.ChangeAt Go.RowKit Go.Deep
section
variable {H:Type} {enc:TypeId × Value → H} {P:Program} {w:World} {held:Bool}
def RsZ (N:Nat) (enc:TypeId × Value → H) (P:Program) (w:World) (held:Bool) (e sz:Nat) {α:Type} (f:α → AV) (ok:α → Prop):Prop:=
 ∀ n cs y,DataW.trod enc P w 0 (fun _=>true) held n e cs = some y → SizeOf.sizeOf y.1 ≤ N → Light P e y.1 → ∃ x:α,CL [] (mAll w) w cs (f x).cells ∧ cs.length = sz ∧ ok x
theorem Rs.z {e sz:Nat} {α:Type} {f:α → AV} {ok:α → Prop} (h:Rs enc P w held e sz f ok) (N:Nat):RsZ N enc P w held e sz f ok:=fun n cs y hy _ hl=>h n cs y hy hl
theorem Rs.ofZ {e sz:Nat} {α:Type} {f:α → AV} {ok:α → Prop} (h:∀ N,RsZ N enc P w held e sz f ok):Rs enc P w held e sz f ok:=fun n cs y hy hl=>h _ n cs y hy (Nat.le_refl _) hl
theorem RsZ.zero {e sz:Nat} {α:Type} {f:α → AV} {ok:α → Prop}:RsZ 0 enc P w held e sz f ok:=fun n cs y hy hz hl=>by
 exfalso
 obtain ⟨d,l⟩:=y
 cases d<;>simp at hz
theorem RsZ.slice {N t e sz B:Nat} {α:Type} {f:α → AV} {ok:α → Prop} (ht:P.underlying t = some (.slice e)) (hc:P.cellsOf e = sz) (hB:P.bytesOf e = B) (hsz:0 < sz) (h:RsZ N enc P w held e sz f ok) :
  RsZ N enc P w held t 1 (fun l:List α=>.sl sz none (l.map f)) (fun l=>l.length * B ≤ reachBytes ∧ ∀ x ∈ l,ok x):=by
 intro n cs y hy hZ hlight
 rcases open_slice ht hy with ⟨rfl,rfl⟩ | ⟨a,len,cap,m,n',D,Pl,rfl,_,hl,hm,hmm,rfl,hx⟩
 ·exact ⟨[],CL.one rfl (.nil nofun),rfl,by simp⟩
 ·have hlm:len ≤ m:=by rw [hmm]; split<;>omega
  have hwt:∀ q,q ∈ ((((List.range len).map D).length + ((List.range (m - len)).map fun j=>D (len + j)).length) * P.bytesOf e :: (DataW.weightsAll P e ((List.range len).map D) ++ DataW.weightsAll P e ((List.range (m - len)).map fun j=>D (len + j)))) → q ≤ reachBytes:=fun q hq=>hlight q (by
   show q ∈ DataW.weights P t (.slice _ _)
   rw [DataW.weights,ht]
   exact hq)
  have hD:∀ i,i < len → Light P e (D i):=fun i hi q hq=>hwt q (by
   refine List.mem_cons_of_mem _ (List.mem_append_left _ (mem_all (d:=D i) (List.mem_map.2 ⟨i,List.mem_range.2 hi,rfl⟩) hq))
   )
  have hZD:∀ i,i < len → SizeOf.sizeOf (D i) ≤ N:=fun i hi=>by
   have h1:SizeOf.sizeOf (D i) < SizeOf.sizeOf ((List.range len).map D):=List.sizeOf_lt_of_mem (List.mem_map.2 ⟨i,List.mem_range.2 hi,rfl⟩)
   have h2:SizeOf.sizeOf ((List.range len).map D) < SizeOf.sizeOf (DataW.slice ((List.range len).map D) ((List.range (m - len)).map fun j=>D (len + j))):=by rw [DataW.slice.sizeOf_spec]; omega
   exact Nat.le_trans (Nat.le_of_lt (Nat.lt_trans h1 h2)) hZ
  have hlen:len * B ≤ reachBytes:=by
   have:=hwt _ (List.mem_cons_self ..)
   rw [hB] at this
   simp only [List.length_map,List.length_range] at this
   exact Nat.le_trans (Nat.mul_le_mul_right B (by omega)) this
  have each:∀ i,i < len → ∃ q:α × List Value,CL [] (mAll w) w q.2 (f q.1).cells ∧ q.2.length = sz ∧ ok q.1 ∧ CellsAt (mAll w) w ⟨a.block,a.off + i * sz,none⟩ q.2 ∧ (i = 0 → a.spot = none):=by
   intro i hi
   obtain ⟨cs',h1,h2⟩:=hx i (by omega)
   obtain ⟨x,g1,g2,g3⟩:=h n' cs' _ h2 (hZD i hi) (hD i hi)
   rw [hc] at h1
   obtain ⟨k1,k2,k3⟩:=cells_all h1
   rw [Addr.add_block,Addr.add_off] at k2
   refine ⟨(x,cs'),g1,g2,g3,k2,fun e=>?_⟩
   subst e
   have:=k3 hsz
   simpa [Addr.add] using this
  by_cases hl0:len = 0
  ·subst hl0
   refine ⟨[],CL.one rfl ?_,rfl,by simp⟩
   simp only [if_true] at hmm
   subst hmm
   obtain ⟨b,o,s⟩:=a
   by_cases hc0:m = 0
   ·subst hc0; exact .sl0 nofun
   ·obtain ⟨cs',h1,_⟩:=hx 0 (by omega)
    rw [hc] at h1
    have h2:=(cells_all h1).2.2 hsz
    obtain rfl:s = none:=by simpa [Addr.add] using h2
    exact Rep.sl (xs:=[]) (fun _=>[]) nofun (Nat.zero_le _) hm (by simp) (by simp)
  obtain ⟨q0,_⟩:=each 0 (by omega)
  haveI:Inhabited (α × List Value):=⟨q0⟩
  obtain ⟨q,hq⟩:=choose_lt each
  have key:∀ (i:Nat) x,((List.range len).map fun i=>(q i).1)[i]? = some x → i < len ∧ x = (q i).1:=by
   intro i x hx
   rw [List.getElem?_map] at hx
   have hi:i < len:=by
    cases hr:(List.range len)[i]? with
    | none=>rw [hr] at hx; simp at hx
    | some z=>have:=(List.getElem?_eq_some_iff.1 hr).1; simpa using this
   rw [List.getElem?_range hi] at hx
   simp at hx
   exact ⟨hi,hx.symm⟩
  refine ⟨(List.range len).map fun i=>(q i).1,CL.one rfl ?_,rfl,by simpa using hlen,fun x hx=>?_⟩
  ·obtain ⟨b,o,s⟩:=a
   have hlen:(((List.range len).map fun i=>(q i).1).map f).length = len:=by simp
   have hx2:∀ (i:Nat) x,(((List.range len).map fun i=>(q i).1).map f)[i]? = some x → i < len ∧ x = f (q i).1:=by
    intro i x hx
    rw [List.getElem?_map] at hx
    cases hr:((List.range len).map fun i=>(q i).1)[i]? with
    | none=>rw [hr] at hx; simp at hx
    | some z=>rw [hr] at hx; simp at hx; obtain ⟨h1,rfl⟩:=key i z hr; exact ⟨h1,hx.symm⟩
   have hs:s = none:=(hq 0 (by omega)).2.2.2.2 rfl
   subst hs
   have hfin:=Rep.sl (m:=mAll w) (w:=w) (γ:=[]) (sz:=sz) (nl:=none) (xs:=((List.range len).map fun i=>(q i).1).map f) (b:=b) (o:=o) (cap:=cap) (fun i=>(q i).2) nofun (by rw [hlen]; exact hl) hm (fun i x hx=>?_) (fun i x j c y hx hj hy=>?_)
   ·rw [hlen] at hfin; exact hfin
   ·obtain ⟨hi,rfl⟩:=hx2 i x hx
    obtain ⟨c1,c2,c3,c4,_⟩:=hq i hi
    exact ⟨c2,by rw [← c1.1,c2],c4,c1.2.1⟩
   ·obtain ⟨hi,rfl⟩:=hx2 i x hx
    exact (hq i hi).1.2.2 j c y hj hy
  ·obtain ⟨i,hi,rfl⟩:=List.mem_map.1 hx
   exact (hq i (List.mem_range.1 hi)).2.2.1
def RsSZ (N:Nat) (enc:TypeId × Value → H) (P:Program) (w:World) (held:Bool) (fs:List Field) (o sz:Nat) {α:Type} (g:α → List AV) (ok:α → Prop):Prop:=
 ∀ (m:Nat) (cs:List Value) (xs:List (DataW H × List MemPlace)),(∀ (i:Nat) f,fs[i]? = some f → DataW.trod enc P w 0 (fun _=>true) held m f.type ((cs.drop f.offset).take (P.cellsOf f.type)) = xs[i]?) → xs.length = fs.length →
  (∀ (x:DataW H × List MemPlace),x ∈ xs → SizeOf.sizeOf x.1 ≤ N) → (∀ (i:Nat) f x,fs[i]? = some f → xs[i]? = some x → Light P f.type x.1) → ∃ x:α,CL [] (mAll w) w ((cs.drop o).take sz) (g x) ∧ ((cs.drop o).take sz).length = sz ∧ ok x
theorem RsSZ.nil {N o:Nat}:RsSZ N enc P w held [] o 0 (fun _:Unit=>[]) (fun _=>True):=fun _ _ _ _ _ _ _=>⟨(),⟨rfl,by simp,by simp⟩,rfl,trivial⟩
theorem RsSZ.cons {N:Nat} {fs:List Field} {f:Field} {o s1 s2:Nat} {α β:Type} {f1:α → AV} {g:β → List AV} {ok1:α → Prop} {ok2:β → Prop} (hf:RsZ N enc P w held f.type s1 f1 ok1) (h:RsSZ N enc P w held fs (o + s1) s2 g ok2) (ho:f.offset = o) (hc:P.cellsOf f.type = s1) :
  RsSZ N enc P w held (f :: fs) o (s1 + s2) (fun x:α × β=>(f1 x.1).cells ++ g x.2) (fun x=>ok1 x.1 ∧ ok2 x.2):=by
 intro m cs xs hx hl hz hlt
 match xs,hl with
 | y :: ys,hl =>
   have h0:=hx 0 f rfl
   simp only [List.getElem?_cons_zero] at h0
   rw [ho,hc] at h0
   obtain ⟨x,a1,a2,a3⟩:=hf m _ y h0 (hz y (by simp)) (hlt 0 f y rfl rfl)
   obtain ⟨x2,b1,b2,b3⟩:=h m cs ys (fun i f hi=>by have:=hx (i + 1) f (by simpa using hi); simpa using this) (by simpa using hl) (fun x hx=>hz x (by simp [hx])) (fun i f x hi hj=>hlt (i + 1) f x (by simpa using hi) (by simpa using hj))
   have e:(cs.drop o).take (s1 + s2) = (cs.drop o).take s1 ++ (cs.drop (o + s1)).take s2:=by rw [List.take_add,List.drop_drop]
   exact ⟨(x,x2),by rw [e]; exact a1.app b1,by rw [e,List.length_append,a2,b2],a3,b3⟩
theorem RsZ.struct {N t sz:Nat} {fs:Array Field} {α:Type} {g:α → List AV} {ok:α → Prop} (ht:P.underlying t = some (.struct fs)) (hc:P.cellsOf t = sz) (h:RsSZ N enc P w held fs.toList 0 sz g ok):RsZ (N + 1) enc P w held t sz (fun x=>.st (g x)) ok:=by
 intro n cs y hy hZ hlight
 obtain ⟨xs,m,hm,rfl,hcl,hxl,hf⟩:=DataW.trod_struct ht hy
 rw [hc] at hcl
 obtain ⟨x,h1,h2,h3⟩:=h m cs xs (fun i f hi=>hf i f (by simpa using hi)) (by simpa using hxl) (fun x hx=>by
  have h1:SizeOf.sizeOf x.1 < SizeOf.sizeOf (xs.map (·.1)):=List.sizeOf_lt_of_mem (List.mem_map.2 ⟨x,hx,rfl⟩)
  have h2:SizeOf.sizeOf (DataW.agg (xs.map (·.1)):DataW H) = 1 + SizeOf.sizeOf (xs.map (·.1)):=DataW.agg.sizeOf_spec _
  have h3:SizeOf.sizeOf (DataW.agg (xs.map (·.1)):DataW H) ≤ N + 1:=hZ
  omega) (fun i f x hi hxi q hq=>hlight q (by
  show q ∈ DataW.weights P t (.agg _)
  rw [DataW.weights,ht]
  exact mem_each (i:=i) (by rw [List.getElem?_map,hi]; rfl) (by rw [List.getElem?_map,hxi]; rfl) hq))
 rw [List.drop_zero,List.take_of_length_le (by omega)] at h1
 exact ⟨x,h1,hcl,h3⟩
theorem RsZ.map {N e sz:Nat} {α β:Type} {f:α → AV} {f':β → AV} {ok:α → Prop} {ok':β → Prop} (h:RsZ N enc P w held e sz f ok) (φ:α → β) (hf:∀ x,(f' (φ x)).cells = (f x).cells) (hok:∀ x,ok x → ok' (φ x)):RsZ N enc P w held e sz f' ok':=fun n cs y hy hz hl=>by
 obtain ⟨x,h1,h2,h3⟩:=h n cs y hy hz hl
 exact ⟨φ x,by rw [hf]; exact h1,h2,hok x h3⟩
end
end Go.V
