/- Part 36 of what the claim is proved by: lemmas on the model and walks through functions of the program; no conditions. -/
import Derived.Test.YtmdpbfghjdljiaaGreatQ21
import Derived.Test.YtmdpbfghjdljiaaGreatQ24
import Derived.Recover
import Derived.Laws.Pointers
import Derived.Test.YtmdpbfghjdljiaaGreatQ35
import Derived.Test.YtmdpbfghjdljiaaGreatQ16
import Derived.Test.YtmdpbfghjdljiaaGreatQ27
namespace Go.V
open Go Go.W
section
variable {P:Program} {tab:Tab} {N:Nat} {D:List Deferred} {ρ:Ro} {η:Eta} {x:Operand} {T A:Nat} {M:Bool}
theorem give_mkI {v:Value} (hT:P.concrete T=true) (hx:ev2 ρ x=some (.raw v)):Gives P N D (.makeInterface T x) ρ η (.raw (.iface T v)) M:=fun _ _ _ _ _ hE hR hH =>
 ⟨_,.raw rfl,fun _ _ _ _ _ _=>by simp [execOp,hE.ev (hR.raw hx),run_makeInterface,hT,Result.andThen]⟩
theorem give_mkI0 (hT:P.concrete T=true) (hx:ev2 ρ x=some (.st [])):Gives P N D (.makeInterface T x) ρ η (.raw (.iface T (.agg #[]))) M:=fun _ _ _ _ _ hE hR hH=>by
 obtain ⟨v,h1,h2⟩:=hR.ev hx
 cases h2 with
 | @st _ vs _ hl _ _ =>
 obtain rfl:vs=[]:=List.eq_nil_of_length_eq_zero (by simpa using hl)
 exact ⟨_,.raw rfl,fun _ _ _ _ _ _=>by simp [execOp,hE.ev h1,run_makeInterface,hT,Result.andThen]⟩
end
section
variable {C:Cx} {ops:Array Oper} {Q:Qt} {ρ:Ro} {η:Eta} {rest:List Oper} {T Ty d:Nat} {pos:String} {af:Array Edge} {x:Operand}
theorem OL.mkI {v:Value} (hT:C.P.concrete Ty=true) (k:OL C ops Q rest ((d,.raw (.iface Ty v))::ρ) η) (hx:ev2 ρ x=some (.raw v):=by with_unfolding_all exact rfl) (hd:Nat.blt d C.N=true:=by with_unfolding_all exact rfl):OL C ops Q (⟨some d,.makeInterface Ty x,T,pos,af,none⟩::rest) ρ η:=OL.give (give_mkI hT hx) hd k
theorem OL.mkI0 (hT:C.P.concrete Ty=true) (k:OL C ops Q rest ((d,.raw (.iface Ty (.agg #[])))::ρ) η) (hx:ev2 ρ x=some (.st []):=by with_unfolding_all exact rfl) (hd:Nat.blt d C.N=true:=by with_unfolding_all exact rfl):OL C ops Q (⟨some d,.makeInterface Ty x,T,pos,af,none⟩::rest) ρ η:=OL.give (give_mkI0 hT hx) hd k
end
end Go.V
namespace Go.Proofs
open Go Go.W Go.V
abbrev upv:Value:=.iface Tc.bind_unformed (.agg #[])
theorem con296:Tryz.prog.concrete Tc.bind_unformed=true:=by kernel_rfl
theorem Ct195:V.Spec Tryz.prog 175 [V.bool true] [] (.tp []) []:=by
 refine V.Spec.enter Tryz.tabOK Tryz.mixed Tryz.func175 rfl rfl rfl fun B hB=>?_
 repeat' (with_reducible first|refine OL.st ?_|refine TC.region ?_|refine TC.seq ?_|refine OL.nil ?_|refine TX.thenN ?_|refine TC.skip ?_|refine TC.ifF ?_|refine TX.end_ ?_|fail)
 exact TX.rt0 []
theorem Ct194:SpecX Tryz.prog 175 [V.bool false] [] upv []:=by
 refine SpecX.enter Tryz.tabOK Tryz.mixed Tryz.func175 rfl rfl rfl fun B hB=>?_
 repeat' (with_reducible first|refine OL.st ?_|refine OL.build ?_|refine TC.region ?_|refine TC.seq ?_|refine OL.nil ?_|refine TX.thenN ?_|refine TC.ifT ?_|fail)
 refine OL.mkI0 con296 ?_
 refine OL.panic ?_ ⟨_,_,rfl⟩
 exact TX.rtP []
theorem catch_idle (p:Addr) (w:World):CallsD Tryz.prog 224 #[.pointer (some p)] .returning w fun e u' w'=>e=.returned (.tuple #[])∧u'=.returning∧w'=w:=by
 refine callsD_of_wpS Tryz.func224 rfl fun c₀ cs hu=>?_
 have hne:∀ w,(binOp .neq 20 .nilIface .nilIface).run Tryz.prog w=.ok (.bool false) w:=fun w=>by kernel_rfl
 apply wpS_seq
 apply wpS_region
 simp [wpOpsS,go_sem,recoverD,hu,Tryz.ntmps224,Exit.thenS]
 apply wpS_seq
 apply wpS_region
 simp [wpOpsS,go_sem,Exit.thenS,hne]
 refine wpS_cond (t:=false) (by simp [Act.eval,Array.replicate]) ?_
 simp only [Bool.false_eq_true,if_false]
 refine wpS_of_wp (wp_skip ?_)
 cases c₀
 simp_all [bodyPostS,results,Tryz.results224]
theorem catch_up (p:Addr) (v:Value) (w:World) (hc:w.cell? p=some v) (hz:w.frozen? p=false):CallsD Tryz.prog 224 #[.pointer (some p)] (.panicking (pan upv)) w fun e u' w' =>
  e=.returned (.tuple #[])∧u'=.panicking [{ v:=upv,recovered:=true }]∧w'=(w.alloc (.cells #[] Tc.bind_unformed)).setCell p (.bool false):=by
 refine callsD_of_wpS Tryz.func224 rfl fun c₀ cs hu=>?_
 have hne:∀ w,(binOp .neq 20 upv .nilIface).run Tryz.prog w=.ok (.bool true) w:=fun w=>by kernel_rfl
 have hta:∀ w,(Instr.typeAssert upv 20 Tc.bind_unformed true).run Tryz.prog w=.ok (.tuple #[.agg #[],.bool true]) w:=fun w=>by kernel_rfl
 apply wpS_seq
 apply wpS_region
 simp [wpOpsS,go_sem,recoverD,hu,Tryz.ntmps224,Exit.thenS]
 apply wpS_seq
 apply wpS_region
 simp [wpOpsS,go_sem,Exit.thenS,hne]
 refine wpS_cond (t:=true) (by simp [Act.eval,Array.replicate]) ?_
 simp only [if_true]
 apply wpS_seq
 apply wpS_seq
 apply wpS_region
 simp [wpOpsS,go_sem,Exit.thenS,hta]
 apply wpS_seq
 apply wpS_region
 simp [wpOpsS,go_sem,Exit.thenS]
 refine wpS_cond (t:=false) (by simp [Act.eval,Array.replicate]) ?_
 simp only [Bool.false_eq_true,if_false]
 refine wpS_of_wp (wp_skip ?_)
 have hbk:(w.alloc (.cells #[] Tc.bind_unformed)).heap[p.block]?=w.heap[p.block]?:=by
  refine (World.grownBy_alloc w (.cells #[] Tc.bind_unformed) none).block p.block ?_ (by simp)
  unfold World.cell? at hc
  cases ho:w.heap[p.block]? with
  | none=>simp [ho] at hc
  | some o=>exact (Array.getElem?_eq_some_iff.1 ho).1
 have hc2:(w.alloc (.cells #[] Tc.bind_unformed)).cell? p=some v:=by
  rw [World.cell?_of_block (w:=w) hbk]
  exact hc
 have hz2:(w.alloc (.cells #[] Tc.bind_unformed)).frozen? p=false:=by rw [World.frozen?_of_block (w:=w) hbk];exact hz
 simp only [Exit.thenS]
 apply wpS_region
 simp [wpOpsS,go_sem,hc2,hz2,bodyPostS,results,Tryz.results224]
theorem formed_run {f : Nat} {fn : Func} {v2 : Array Value} {w : World} {R : Ending → World → Prop} (hf : Tryz.prog.funcs[f]? = some fn) (hb : (fn.body.isNone || fn.name == "runtime.NumGoroutine") = false)
  (hc:Calls Tryz.prog f v2 (w.alloc (.cells #[.bool false] Tc.bool)) fun e w'=>w'.heap[w.heap.size]?=some (.cells #[.bool false] Tc.bool) ∧
   ((∃ v,e=.returned v∧R (.returned (.bool true)) (w'.setCell ⟨w.heap.size,0,none⟩ (.bool true)))∨(e=.panicked (pan upv)∧R (.returned (.bool false)) ((w'.alloc (.cells #[] Tc.bind_unformed)).setCell ⟨w.heap.size,0,none⟩ (.bool false))))) :
  Calls Tryz.prog 172 #[.func (.func f) #[] v2] w R:=by
 have hmf:∀ (fn:Fn) (first cap:Array Value) (w:World),(Instr.makeFunc fn first cap).run Tryz.prog w=.ok (.func fn first cap) w:=fun _ _ _ _=>rfl
 have hcf:∀ args w,(callFunc f args).run Tryz.prog w=.ok (.enter f args) w:=fun args w=>by
  simp at hb
  have hb':fn.body≠none:=Option.isSome_iff_ne_none.1 hb.1
  simp [callFunc,hf,hb.2,hb']
 have hcell:∀ (w':World) (b:Bool),w'.heap[w.heap.size]?=some (.cells #[.bool b] Tc.bool)→w'.cell? ⟨w.heap.size,0,none⟩=some (.bool b)∧w'.frozen? ⟨w.heap.size,0,none⟩=false:=fun w' b h=>by
  simp [World.cell?,World.frozen?,h]
 have hset:∀ (w':World) (a b:Bool),w'.heap[w.heap.size]?=some (.cells #[.bool a] Tc.bool)→(w'.setCell ⟨w.heap.size,0,none⟩ (.bool b)).heap[w.heap.size]?=some (.cells #[.bool b] Tc.bool):=fun w' a b h=>by
  obtain ⟨hlt,he⟩:=Array.getElem?_eq_some_iff.1 h
  simp [World.setCell,Array.getElem?_modify,h]
 go_enter_defers Tryz.func172,Tryz.ntmps172
 apply wp_seq
 apply wp_region
 simp [wpOps,go_sem,Exit.then]
 left
 apply wp_seq
 apply wp_region
 simp [wpOps,go_sem,Exit.then]
 left
 left
 apply wp_seq
 apply wp_region
 simp [wpOps,go_sem,Exit.then,hcf]
 left
 left
 have hinv:∀ (p:Addr) (w:World),(invoke (.fn (.func 224) #[.pointer (some p)]) #[]).run Tryz.prog w=.ok (.enter 224 #[.pointer (some p)]) w:=fun p w=>by
  have h224:Tryz.prog.funcs[224]?=some Tryz.f224:=Tryz.func224
  have hb224 : (Tryz.f224.body.isNone || Tryz.f224.name == "runtime.NumGoroutine") = false := rfl
  simp at hb224
  have hb':Tryz.f224.body≠none:=Option.isSome_iff_ne_none.1 hb224.1
  simp [invoke,callFunc,h224,hb224.2,hb']
 refine hc.mono ?_
 rintro e w' ⟨hcl,(⟨v,rfl,hR⟩|⟨rfl,hR⟩)⟩
 ·obtain ⟨c1,c2⟩:=hcell w' false hcl
  show Code.wp _ _ _ _ _
  apply wp_seq
  apply wp_region
  simp [wpOps,go_sem,Exit.then,c1,c2]
  left
  refine wp_ret ?_
  refine leaves_cons (f:=224) (args:=#[.pointer (some ⟨w.heap.size,0,none⟩)]) (by simp) (hinv _ _) ?_
  refine (catch_idle _ _).mono ?_
  rintro e u' w'' ⟨rfl,rfl,rfl⟩
  obtain ⟨d1,d2⟩:=hcell _ true (hset w' false true hcl)
  simp [Leaves,settle,results,Tryz.results172,go_sem,d1]
  exact hR
 ·obtain ⟨c1,c2⟩:=hcell w' false hcl
  show Leaves _ _ _ _ _ _ _
  refine leaves_cons (f:=224) (args:=#[.pointer (some ⟨w.heap.size,0,none⟩)]) (by simp) (hinv _ _) ?_
  refine (catch_up _ (.bool false) _ c1 c2).mono ?_
  rintro e u' w'' ⟨rfl,rfl,rfl⟩
  have hcl2:(w'.alloc (.cells #[] Tc.bind_unformed)).heap[w.heap.size]?=some (.cells #[.bool false] Tc.bool):=((World.grownBy_alloc w' (.cells #[] Tc.bind_unformed) none).block _ (Array.getElem?_eq_some_iff.1 hcl).1 (by simp)).trans hcl
  obtain ⟨d1,d2⟩:=hcell _ false (hset _ false false hcl2)
  simp [Leaves,settle,results,Tryz.results172,go_sem,d1]
  exact hR
theorem CL.one1 {γ m} {w:World} {v:Value} {x:AV} (h1:v.oneCell'=true) (h:Rep m w γ v x):CL γ m w [v] [x]:=⟨rfl,by simpa using h1,fun j u c hu hc=>by
 cases j with
 | zero=>simp at hu hc;subst hu hc;exact h
 | succ j=>simp at hu⟩
theorem formed_yes {f : Nat} {fz : Bool} {fn : Func} {caps xs : List AV} (hf : Tryz.prog.funcs[f]? = some fn) (hb : (fn.body.isNone || fn.name == "runtime.NumGoroutine") = false) (hs : V.Spec Tryz.prog f caps [.cb Tc.Lint [.raw (.slice none 0 0)]] (.tp []) [.cb Tc.Lint [.hs 1], .gs fz Tc.int 1 none xs]) :
  V.Spec Tryz.prog 172 [.fn (.func f) [] caps] [.cb Tc.Lint [.raw (.slice none 0 0)]] (V.bool true) [.cb Tc.Lint [.hs 1],.gs fz Tc.int 1 none xs]:=by
 intro m w γ vs hH hV
 have hgl:=hH.len
 obtain ⟨g,rfl⟩:∃ g,γ=[g]:=by
  match γ,hgl with
  | [g],_=>exact ⟨g,rfl⟩
 match vs,hV with
 | [fv],hV =>
 cases hV.1 with
 | @fn _ _ v1 v2 _ _ l1 l2 q1 q2 =>
 obtain rfl:v1=[]:=List.eq_nil_of_length_eq_zero (by simpa using l1)
 refine formed_run hf hb ?_
 have hI0:In (baseOf m w [g] [.cb Tc.Lint [.raw (.slice none 0 0)]]) m w [g] [.cb Tc.Lint [.raw (.slice none 0 0)]]:=⟨hH,.refl _ _ _,fun i v o b h1 h2 h3=>.inl (mem_blks.2 ⟨i,v,o,h1,h2,h3⟩),.refl _⟩
 have hK:=Keep.alloc m w (.cells #[.bool false] Tc.bool) 0
 have hI1:=hI0.new (v:=.pointer (some ⟨w.heap.size,0,none⟩)) (o:=.cb Tc.bool [.raw (.bool false)]) hK ⟨w.heap.size,[.bool false],rfl,⟨heap_alloc_new w _,by simp⟩,CL.one1 rfl (.raw rfl)⟩ (fun b hb=>by simp [blk] at hb;omega)
 have hsub:SubO (ts [0]) ([.cb Tc.Lint [.raw (.slice none 0 0)]]++[.cb Tc.bool [.raw (.bool false)]]) [0] [.cb Tc.Lint [.raw (.slice none 0 0)]]:=⟨⟨_,rfl,OE.ren rfl⟩,trivial⟩
 obtain ⟨hsh,hH1,_⟩:=hI1.heap.sel (σ:=[0]) rfl hsub
 have hV2:VL (mset m w.heap.size 0) (w.alloc (.cells #[.bool false] Tc.bool)) [g] v2 caps:=VL.mono hK.ext (.refl _) (VL.of l2 q2)
 have hc:=hs _ _ _ v2 hH1 hV2
 have hfin:∀ (m':Nat→Nat) (w':World) (γ2:List Value) (η2:Eta) (b:Bool),Pre ([g]++[.pointer (some ⟨w.heap.size,0,none⟩)]) γ2→In (baseOf m w [g] [.cb Tc.Lint [.raw (.slice none 0 0)]]) m' w' γ2 η2→η2[1]?=some (.cb Tc.bool [.raw (.bool b)])→w'.heap[w.heap.size]?=some (.cells #[.bool b] Tc.bool)∧∀ t:Bool,In (baseOf m w [g] [.cb Tc.Lint [.raw (.slice none 0 0)]]) m' (w'.setCell ⟨w.heap.size,0,none⟩ (.bool t)) γ2 (η2.set 1 (.cb Tc.bool [.raw (.bool t)])):=fun m' w' γ2 η2 b hp hI ho=>by
  have hv:γ2[1]?=some (.pointer (some ⟨w.heap.size,0,none⟩)):=hp 1 _ rfl
  obtain ⟨b',vs,e,hB,hC⟩:=hI.heap.ok 1 _ _ hv ho
  cases e
  obtain ⟨u,rfl⟩:∃ u,vs=[u]:=by
   match vs,hC.1 with
   | [u],_=>exact ⟨u,rfl⟩
  have hu:=(hC.2.2 0 u _ rfl rfl).raw_eq
  subst hu
  exact ⟨hB.heap,fun t=>by
   obtain ⟨t1,t2⟩:=setCell_box (o:=0) hB (.bool t)
   exact hI.put (o':=.cb Tc.bool [.raw (.bool t)]) hv ho t1 ⟨_,[.bool t],rfl,t2,CL.one1 rfl (.raw rfl)⟩ (.inl rfl)⟩
 refine hc.mono ?_
 rintro e w' ⟨v,m',γ1',rfl,hC,hv⟩
 obtain ⟨γ2,p1,p2,p3,p4⟩:=hI1.call (is:=[0]) rfl hsub hC
 have p3':In (baseOf m w [g] [.cb Tc.Lint [.raw (.slice none 0 0)]]) m' w' γ2 [.cb Tc.Lint [.hs 2],.cb Tc.bool [.raw (.bool false)],.gs fz Tc.int 1 none xs]:=p3
 obtain ⟨h1,h2⟩:=hfin m' w' γ2 _ false p1 p3' rfl
 refine ⟨h1,.inl ⟨v,rfl,?_⟩⟩
 obtain ⟨γ3,_,g2⟩:=(h2 true).sel (n:=1) (σ:=[0,2]) (η':=[.cb Tc.Lint [.hs 1],.gs fz Tc.int 1 none xs]) rfl rfl rfl ⟨⟨_,rfl,OE.ren rfl⟩,⟨_,rfl,OE.ren rfl⟩,trivial⟩
 exact ⟨_,m',γ3,rfl,g2,.raw rfl⟩
theorem formed_no {f : Nat} {fn : Func} {caps : List AV} (hf : Tryz.prog.funcs[f]? = some fn) (hb : (fn.body.isNone || fn.name == "runtime.NumGoroutine") = false) (hs : SpecX Tryz.prog f caps [.cb Tc.Lint [.raw (.slice none 0 0)]] upv [.cb Tc.Lint [.junk]]) :
  V.Spec Tryz.prog 172 [.fn (.func f) [] caps] [.cb Tc.Lint [.raw (.slice none 0 0)]] (V.bool false) [.cb Tc.Lint [.junk]]:=by
 intro m w γ vs hH hV
 have hgl:=hH.len
 obtain ⟨g,rfl⟩:∃ g,γ=[g]:=by
  match γ,hgl with
  | [g],_=>exact ⟨g,rfl⟩
 match vs,hV with
 | [fv],hV =>
 cases hV.1 with
 | @fn _ _ v1 v2 _ _ l1 l2 q1 q2 =>
 obtain rfl:v1=[]:=List.eq_nil_of_length_eq_zero (by simpa using l1)
 refine formed_run hf hb ?_
 have hI0:In (baseOf m w [g] [.cb Tc.Lint [.raw (.slice none 0 0)]]) m w [g] [.cb Tc.Lint [.raw (.slice none 0 0)]]:=⟨hH,.refl _ _ _,fun i v o b h1 h2 h3=>.inl (mem_blks.2 ⟨i,v,o,h1,h2,h3⟩),.refl _⟩
 have hK:=Keep.alloc m w (.cells #[.bool false] Tc.bool) 0
 have hI1:=hI0.new (v:=.pointer (some ⟨w.heap.size,0,none⟩)) (o:=.cb Tc.bool [.raw (.bool false)]) hK ⟨w.heap.size,[.bool false],rfl,⟨heap_alloc_new w _,by simp⟩,CL.one1 rfl (.raw rfl)⟩ (fun b hb=>by simp [blk] at hb;omega)
 have hsub:SubO (ts [0]) ([.cb Tc.Lint [.raw (.slice none 0 0)]]++[.cb Tc.bool [.raw (.bool false)]]) [0] [.cb Tc.Lint [.raw (.slice none 0 0)]]:=⟨⟨_,rfl,OE.ren rfl⟩,trivial⟩
 obtain ⟨hsh,hH1,_⟩:=hI1.heap.sel (σ:=[0]) rfl hsub
 have hV2:VL (mset m w.heap.size 0) (w.alloc (.cells #[.bool false] Tc.bool)) [g] v2 caps:=VL.mono hK.ext (.refl _) (VL.of l2 q2)
 have hc:=hs _ _ _ v2 hH1 hV2
 have hfin:∀ (m':Nat→Nat) (w':World) (γ2:List Value) (η2:Eta) (b:Bool),Pre ([g]++[.pointer (some ⟨w.heap.size,0,none⟩)]) γ2→In (baseOf m w [g] [.cb Tc.Lint [.raw (.slice none 0 0)]]) m' w' γ2 η2→η2[1]?=some (.cb Tc.bool [.raw (.bool b)])→w'.heap[w.heap.size]?=some (.cells #[.bool b] Tc.bool)∧∀ t:Bool,In (baseOf m w [g] [.cb Tc.Lint [.raw (.slice none 0 0)]]) m' (w'.setCell ⟨w.heap.size,0,none⟩ (.bool t)) γ2 (η2.set 1 (.cb Tc.bool [.raw (.bool t)])):=fun m' w' γ2 η2 b hp hI ho=>by
  have hv:γ2[1]?=some (.pointer (some ⟨w.heap.size,0,none⟩)):=hp 1 _ rfl
  obtain ⟨b',vs,e,hB,hC⟩:=hI.heap.ok 1 _ _ hv ho
  cases e
  obtain ⟨u,rfl⟩:∃ u,vs=[u]:=by
   match vs,hC.1 with
   | [u],_=>exact ⟨u,rfl⟩
  have hu:=(hC.2.2 0 u _ rfl rfl).raw_eq
  subst hu
  exact ⟨hB.heap,fun t=>by
   obtain ⟨t1,t2⟩:=setCell_box (o:=0) hB (.bool t)
   exact hI.put (o':=.cb Tc.bool [.raw (.bool t)]) hv ho t1 ⟨_,[.bool t],rfl,t2,CL.one1 rfl (.raw rfl)⟩ (.inl rfl)⟩
 refine hc.mono ?_
 rintro e w' ⟨m',γ1',rfl,hC⟩
 obtain ⟨γ2,p1,p2,p3,p4⟩:=hI1.call (is:=[0]) rfl hsub hC
 have p3':In (baseOf m w [g] [.cb Tc.Lint [.raw (.slice none 0 0)]]) m' w' γ2 [.cb Tc.Lint [.junk],.cb Tc.bool [.raw (.bool false)]]:=p3
 obtain ⟨h1,_⟩:=hfin m' w' γ2 _ false p1 p3' rfl
 refine ⟨h1,.inr ⟨rfl,?_⟩⟩
 have hK2:=Keep.alloc m' w' (.cells #[] Tc.bind_unformed) 0
 have p5:=p3'.new (v:=.pointer (some ⟨w'.heap.size,0,none⟩)) (o:=.dead) hK2 trivial (fun b hb=>by simp [blk] at hb)
 obtain ⟨_,h2⟩:=hfin _ _ _ _ false (p1.trans (.app _ _)) p5 rfl
 obtain ⟨γ3,_,g2⟩:=(h2 false).sel (n:=1) (σ:=[0]) (η':=[.cb Tc.Lint [.junk]]) rfl rfl rfl ⟨⟨_,rfl,OE.ren rfl⟩,trivial⟩
 exact ⟨_,_,γ3,rfl,g2,.raw rfl⟩
end Go.Proofs
namespace Go.Proofs
open Go Go.W Go.V
def kidsOfV (op:Int):Value:=
 if op=5 then .iface Tc.bind_arguments (.agg #[]) else
 if op=1∨op=2∨op=3∨op=6∨op=18 then .iface Tc.bind_so (.int .i64 0) else
 if op=4∨op=8∨op=17 then .iface Tc.bind_so (.int .i64 1) else
 if op=7∨op=9∨op=11∨op=12∨op=13∨op=14∨op=15∨op=16 then .iface Tc.bind_so (.int .i64 2) else
 if op=10 then .iface Tc.bind_so (.int .i64 3) else .nilIface
theorem con256:Tryz.prog.concrete Tc.bind_so=true:=by kernel_rfl
theorem con258:Tryz.prog.concrete Tc.bind_arguments=true:=by kernel_rfl
set_option maxHeartbeats 2000000 in
theorem Ct31 (op:Int):V.Spec Tryz.prog 180 [V.int op] [] (.raw (kidsOfV op)) []:=by
 refine V.Spec.enter Tryz.tabOK Tryz.mixed Tryz.func180 rfl rfl rfl fun B hB=>?_
 repeat' (with_reducible first|refine OL.st ?_|refine OL.build ?_|refine TC.region ?_|refine TC.seq ?_|refine OL.nil ?_|refine TX.thenN ?_|refine TC.block ?_|refine TC.skip ?_|refine TX.blkN ?_|refine TC.ifD ?_ ?_<;>(intro hc;try (exfalso;omega))|refine TC.ret ?_|fail)
 ·refine OL.mkI0 con258 ?_
  repeat' (with_reducible first|refine OL.st ?_|refine OL.nil ?_|refine TX.thenN ?_|refine TC.ret ?_|refine TX.thenR ?_|refine TX.blkR ?_|fail)
  rw [show kidsOfV op=.iface Tc.bind_arguments (.agg #[]) by simp [kidsOfV, *]]
  exact TX.rt1 [] (.ren rfl)
 all_goals first|(with_reducible refine OL.mkI ?_ ?_;exact con256)|skip
 all_goals repeat' (with_reducible first|refine OL.st ?_|refine OL.nil ?_|refine TX.thenN ?_|refine TC.ret ?_|refine TX.thenR ?_|refine TX.blkR ?_|fail)
 all_goals first
  | (rw [show kidsOfV op=.nilIface by simp [kidsOfV, *]];exact TX.rt1 [] (.ren rfl))
  | (rw [show kidsOfV op=.iface Tc.bind_so (.int .i64 0) by simp [kidsOfV, *]];exact TX.rt1 [] (.ren rfl))
  | (rw [show kidsOfV op=.iface Tc.bind_so (.int .i64 2) by simp [kidsOfV, *]];exact TX.rt1 [] (.ren rfl))
  | (rw [show kidsOfV op=.iface Tc.bind_so (.int .i64 1) by simp [kidsOfV, *]];exact TX.rt1 [] (.ren rfl))
  | (rw [show kidsOfV op=.iface Tc.bind_so (.int .i64 3) by simp [kidsOfV, *]];exact TX.rt1 [] (.ren rfl))
  | (rw [show kidsOfV op=.iface Tc.bind_arguments (.agg #[]) by simp [kidsOfV, *]];exact TX.rt1 [] (.ren rfl))
end Go.Proofs
namespace Go.Proofs
open Go Go.W Go.V
abbrev Pl:=Int × Int × Int
abbrev plA (x:Pl):List AV:=[V.int x.1,.st [V.int x.2.1,V.int x.2.2]]
abbrev nodeAt (nodes:List Nd) (n:Int):Nd:=nodes.getD n.toNat (0,0,[])
def visL (nodes:List Nd):Nat→Int→Int→Int→List Pl
 | 0,n,s,d=>[(n,s,d)]
 | f+1,n,s,d=>(n,s,d)::(nodeAt nodes n).2.2.zipIdx.flatMap fun q=>visL nodes f q.1 (if (nodeAt nodes n).1=9∧q.2=1 then s+1 else s) (d+1)
def okPl (nodes:List Nd) (x:Pl):Prop:=0≤x.1∧x.1 < nodes.length∧x.2.2≤12
structure BlS where
 k:Nat
 B:Base
 hB:B.γ.length=0
abbrev yA (P:Program) {α:Type} {ar:α→List AV} {ok:α→Prop} {pv:Value} {L:List α} (I:ItX P ar ok pv L):AV:=.ep [.raw (.func (.yield I.l) #[] #[])] 0
theorem fixA_ren (τ:Nat→Option Nat) (f:Fn) (caps:List AV) (k:Nat):V.ren τ (fixA f caps k)=fixA f caps k:=by cases k<;>rfl
set_option maxHeartbeats 4000000 in
theorem Ct18 (p:Prg) (hpk:∀ x∈p.nodes,x.2.2.length*8≤140737488355328) (L:List Pl) (I:ItX Tryz.prog plA (okPl p.nodes) upv L):∀ (f:Nat) (n s d:Int) (pre:List Pl),d+f=13→0≤s→s+f < 1000000000→1≤d→(∃ r,pre++visL p.nodes f n s d++r=L) →
  VisX I 228 [V.int n,.st [V.int s,V.int d],yA Tryz.prog I,.ep (prgC p) 0,fixA (.func 228) [yA Tryz.prog I,.ep (prgC p) 0] f] pre (pre++visL p.nodes f n s d) (.bool true):=by
 intro f
 induction f with
 | zero =>
   intro n s d pre hd hs hsf hd1 hL
   obtain ⟨r,hr⟩:=hL
   refine VisX.enter Tryz.tabOK Tryz.mixed Tryz.func228 rfl rfl rfl fun m0 W0 B hB hA=>?_
   refine goyW ?_
   refine OL.frzB 6 ?_
   refine OL.yieldX (pre:=pre) (y:=(n,s,d)) hA ⟨r,by rw [← hr,visL];simp⟩ (fun B1 hB1 hA1=>?_) (fun B1 hB1 hA1=>?_)
   ·exfalso
    have:=I.hok _ _ _ hA1.holds (n,s,d) (by simp)
    have:=this.2.2
    simp at this hd
    omega
   ·repeat' (first|refine TX.thenP ?_|refine TX.blkP ?_)
    exact TX.endXP hA1
 | succ f ih =>
   intro n s d pre hd hs hsf hd1 hL
   obtain ⟨r,hr⟩:=hL
   refine VisX.enter Tryz.tabOK Tryz.mixed Tryz.func228 rfl rfl rfl fun m0 W0 B hB hA=>?_
   simp only [fixA,List.cons_append,List.nil_append]
   rw [visL] at hr ⊢
   have hpre:∃ r',pre++(n,s,d)::r'=L:=⟨_,by rw [← hr,List.append_assoc,List.cons_append]⟩
   refine goyW ?_
   refine OL.frzB 6 ?_
   refine OL.yieldX (pre:=pre) (y:=(n,s,d)) hA hpre (fun B1 hB1 hA1=>?_) (fun B1 hB1 hA1=>?_)
   rotate_left
   ·repeat' (first|refine TX.thenP ?_|refine TX.blkP ?_)
    exact TX.endXP hA1
   have hok:=I.hok _ _ _ hA1.holds (n,s,d) (by simp)
   obtain ⟨hn0,hn1,hd2⟩:=hok
   dsimp only at hn0 hn1 hd2
   obtain ⟨x,hx⟩:∃ x,x=nodeAt p.nodes n:=⟨_,rfl⟩
   have hxn:p.nodes[n.toNat]'(by omega)=x:=by rw [hx,nodeAt,List.getD_eq_getElem?_getD,List.getElem?_eq_getElem (by omega)];rfl
   rw [← hx] at hr ⊢
   refine goyW ?_
   have hkl:=hpk x (hxn ▸ List.getElem_mem _)
   simp only [hxn]
   obtain ⟨op,xn,kids⟩:=x
   dsimp only at hkl hr ⊢
   obtain ⟨g,hg⟩:∃ g:Int × Nat→List Pl,g=fun q=>visL p.nodes f q.1 (if op=9∧q.2=1 then s+1 else s) (d+1):=⟨_,rfl⟩
   rw [← hg] at hr ⊢
   have hzl:kids.zipIdx.length=kids.length:=by simp
   refine TC.loopC (S:=BlS) (fun S=>⟨Tryz.prog,Tryz.tab,Tryz.tabOK,Tryz.mixed,55,[],S.B,0,S.hB,some none,0⟩)
    (fun S=>[(0,V.int n),(2,yA Tryz.prog I),(3,.ep (prgC p) 0),(4,.ep [.fn (.func 228) [] [yA Tryz.prog I,.ep (prgC p) 0,fixA (.func 228) [yA Tryz.prog I,.ep (prgC p) 0] f]] 0),(6,.ep [V.int s,V.int d] 0),(7,V.bool false),(21,ints kids),(22,V.int kids.length),(23,V.int S.k)]) (fun _=>[])
    (fun S=>S.k≤kids.length∧AtX I m0 W0 (I.J (pre++(n,s,d)::(kids.zipIdx.take S.k).flatMap g)) S.B) (fun S=>kids.length-S.k) ⟨0,B1,hB1⟩ ⟨Nat.zero_le _,hA1⟩ rfl (fun _ _=>rfl) [] rfl rfl ?_ ?_ ?_
   ·with_unfolding_all exact trivial
   ·repeat' (first|with_unfolding_all exact trivial|exact LE.ren (by with_unfolding_all exact rfl)|with_unfolding_all refine And.intro ⟨_,by with_unfolding_all exact rfl,?_⟩ ?_)
   rintro ⟨k,B2,hB2⟩ ⟨hk,hA2⟩
   dsimp only at hk hA2 ⊢
   by_cases hkl2:k < kids.length
   ·have hts:kids.zipIdx.take (k+1)=kids.zipIdx.take k++[(kids[k],k)]:=by
     rw [take_succ (by simpa using hkl2)]
     simp
    obtain ⟨s2,hs2⟩:∃ s2,s2=if op=9∧k=1 then s+1 else s:=⟨_,rfl⟩
    have hgk:g (kids[k],k)=visL p.nodes f kids[k] s2 (d+1):=by rw [hg,hs2]
    have hpost:pre++(n,s,d)::(kids.zipIdx.take (k+1)).flatMap g=(pre++(n,s,d)::(kids.zipIdx.take k).flatMap g)++visL p.nodes f kids[k] s2 (d+1):=by
     rw [hts,List.flatMap_append,List.flatMap_cons,List.flatMap_nil,List.append_nil,hgk];simp
    have hdrop:kids.zipIdx=kids.zipIdx.take (k+1)++kids.zipIdx.drop (k+1):=(List.take_append_drop ..).symm
    have hp2:∃ r',(pre++(n,s,d)::(kids.zipIdx.take k).flatMap g)++visL p.nodes f kids[k] s2 (d+1)++r'=L:=by
     refine ⟨(kids.zipIdx.drop (k+1)).flatMap g++r,?_⟩
     have e3:kids.zipIdx.flatMap g=(kids.zipIdx.take (k+1)).flatMap g++(kids.zipIdx.drop (k+1)).flatMap g:=by rw [← List.flatMap_append,← hdrop]
     rw [← hpost,← hr,e3]
     simp only [List.append_assoc,List.cons_append]
    have hv:=ih kids[k] s2 (d+1) (pre++(n,s,d)::(kids.zipIdx.take k).flatMap g) (by omega) (by rw [hs2];split<;>omega) (by rw [hs2];split<;>omega) (by omega) hp2
    rw [← hpost] at hv
    have hop:p.nodes[n.toNat].1=op:=by rw [hxn]
    repeat' (with_reducible first|refine OL.st ?_|refine OL.alloc ?_|refine OL.store ?_|refine OL.storeAgg ?_|refine OL.build ?_|refine TC.region ?_|refine TC.seq ?_|refine OL.nil ?_|refine TX.thenN ?_|refine TC.block ?_|refine TC.skip ?_|refine TC.ifF ?_|refine OL.gOn ?_|refine OL.gOff ?_|refine TC.ifD ?_ ?_<;>(intro hc;try (exfalso;omega))|refine OL.gD ?_ ?_<;>(intro hc;try (exfalso;omega))|fail)
    ·obtain rfl:s2=s+1:=by rw [hs2,if_pos ⟨by omega,by omega⟩]
     refine OL.frzB 10 ?_
     refine OL.visX hA2 hv Tryz.func228 rfl (fun B3 hB3 hA3=>?_) (fun B3 hB3 hA3=>?_) (hle:=by with_unfolding_all exact ⟨.ren rfl,.ren rfl,.ren rfl,.ren rfl,.ren (fixA_ren _ _ _ f),trivial⟩)
     ·refine goyW ?_
      exact TX.rdC ⟨k+1,B3,hB3⟩ [] ⟨by dsimp only;omega,hA3⟩ (by dsimp only;omega)
     ·repeat' (first|refine TX.thenP ?_|refine TX.blkP ?_)
      exact TX.endXP hA3
    ·obtain rfl:s2=s:=by rw [hs2,if_neg (by omega)]
     refine OL.frzB 10 ?_
     refine OL.visX hA2 hv Tryz.func228 rfl (fun B3 hB3 hA3=>?_) (fun B3 hB3 hA3=>?_) (hle:=by with_unfolding_all exact ⟨.ren rfl,.ren rfl,.ren rfl,.ren rfl,.ren (fixA_ren _ _ _ f),trivial⟩)
     ·refine goyW ?_
      exact TX.rdC ⟨k+1,B3,hB3⟩ [] ⟨by dsimp only;omega,hA3⟩ (by dsimp only;omega)
     ·repeat' (first|refine TX.thenP ?_|refine TX.blkP ?_)
      exact TX.endXP hA3
    ·obtain rfl:s2=s:=by rw [hs2,if_neg (by omega)]
     refine OL.frzB 10 ?_
     refine OL.visX hA2 hv Tryz.func228 rfl (fun B3 hB3 hA3=>?_) (fun B3 hB3 hA3=>?_) (hle:=by with_unfolding_all exact ⟨.ren rfl,.ren rfl,.ren rfl,.ren rfl,.ren (fixA_ren _ _ _ f),trivial⟩)
     ·refine goyW ?_
      exact TX.rdC ⟨k+1,B3,hB3⟩ [] ⟨by dsimp only;omega,hA3⟩ (by dsimp only;omega)
     ·repeat' (first|refine TX.thenP ?_|refine TX.blkP ?_)
      exact TX.endXP hA3
   ·rw [List.take_of_length_le (by simp;omega)] at hA2
    refine goyW ?_
    exact TX.endX hA2 rfl
end Go.Proofs
namespace Go.V
open Go Go.W
theorem LE.seqX {τ} {P:Program} {f:Nat} {fn:Func} {caps:List AV} {α:Type} {ar:α→List AV} {ok:α→Prop} {pv:Value} {L:List α} (hf:P.funcs[f]?=some fn) (hs:∀ m w vs,VL m w [] vs caps→SeqX P f vs.toArray ar ok pv L m w) (hc:caps.all pureA=true:=by with_unfolding_all exact rfl)
  (hb : (fn.body.isNone || fn.name == "runtime.NumGoroutine") = false := by with_unfolding_all exact rfl) : LE τ (.fn (.func f) [] caps) (.pr (SeqXP P ar ok pv L)) := by
 intro m w γ γ' _ v hr
 cases hr with
 | @fn _ _ fv cv _ _ l1 l2 h1 h2 =>
   obtain rfl:fv=[]:=List.length_eq_zero_iff.1 l1
   exact .pr ⟨f,cv.toArray,fn,rfl,hf,hb,hs m w cv (VL.of l2 fun j v c a b=>pureA_rep (h2 j v c a b) (List.all_eq_true.1 hc c (List.mem_of_getElem? b)))⟩
end Go.V
namespace Go.Proofs
open Go Go.W Go.V
abbrev belowL (p:Prg) (n s:Int):List Pl:=visL p.nodes 12 n s 1
set_option maxHeartbeats 4000000 in
theorem Ct17 (p:Prg) (hpk:∀ x∈p.nodes,x.2.2.length*8≤140737488355328) (n s:Int) (hs:0≤s) (hs2:s < 1000000) (I:ItX Tryz.prog plA (okPl p.nodes) upv (belowL p n s)) :
  VisX I 227 [.raw (.func (.yield I.l) #[] #[]),.ep (prgC p) 0,.ep [V.int n] 0,.ep [V.int s,V.int 1] 0] [] (belowL p n s) (.tuple #[]):=by
 have hv:=Ct18 p hpk _ I 12 n s 1 [] (by omega) hs (by omega) (by omega) ⟨[],by simp⟩
 rw [List.nil_append] at hv
 refine VisX.enter Tryz.tabOK Tryz.mixed Tryz.func227 rfl rfl rfl fun m0 W0 B hB hA=>?_
 with_reducible refine TC.seq ?_
 with_reducible refine TC.region ?_
 with_reducible refine OL.box ?_
 with_reducible refine OL.nil ?_
 with_reducible refine TX.thenN ?_
 refine TC.frzB 4 ?_
 with_reducible refine TC.seq ?_
 with_reducible refine TC.region ?_
 with_reducible refine OL.alloc ?_
 with_reducible refine OL.nil ?_
 with_reducible refine TX.thenN ?_
 with_reducible refine TC.seq ?_
 with_reducible refine TC.region ?_
 with_reducible refine OL.st ?_
 with_reducible refine OL.store ?_
 with_reducible refine OL.nil ?_
 with_reducible refine TX.thenN ?_
 refine TC.frzFix (f:=.func 228) (caps:=[yA Tryz.prog I,.ep (prgC p) 0]) 5 13 ?_
 rw [show fixA (.func 228) [yA Tryz.prog I,.ep (prgC p) 0] 13=.ep [.fn (.func 228) [] [yA Tryz.prog I,.ep (prgC p) 0,fixA (.func 228) [yA Tryz.prog I,.ep (prgC p) 0] 12]] 0 from rfl]
 refine goyW ?_
 refine OL.visX hA hv Tryz.func228 rfl (fun B3 hB3 hA3=>?_) (fun B3 hB3 hA3=>?_)
 ·refine goyW ?_
  refine TX.endM ?_
  exact TX.endX0 hA3
 ·repeat' (first|refine TX.thenP ?_|refine TX.blkP ?_)
  exact TX.endXP hA3
theorem Ct24 (p:Prg) (hpk:∀ x∈p.nodes,x.2.2.length*8≤140737488355328) (n s:Int) (hs:0≤s) (hs2:s < 1000000) :
  V.Spec Tryz.prog 178 [prgA p,V.int n,.st [V.int s,V.int 1]] [] (.pr (SeqXP Tryz.prog plA (okPl p.nodes) upv (belowL p n s))) []:=by
 refine V.Spec.enter Tryz.tabOK Tryz.mixed Tryz.func178 rfl rfl rfl fun B hB=>?_
 refine goW ?_
 refine TX.frzA 0 ?_
 refine TX.frzA 1 ?_
 refine TX.frzA 2 ?_
 exact TX.rt1 [] (LE.seqX Tryz.func227 (fun m w vs hv=>SeqX.of hv (fun I=>Ct17 p hpk n s hs hs2 I)))
end Go.Proofs
namespace Go.V
open Go Go.W
section
variable {P:Program} {N:Nat} {D:List Deferred} {ρ:Ro} {η:Eta} {x:Operand} {X A:Nat} {M:Bool}
theorem give_ta {v:Value} {b:Bool} (hr:∃ u,∀ w,(Instr.typeAssert v X A true).run P w=.ok (.tuple #[u,.bool b]) w) (hx:ev2 ρ x=some (.raw v)):Gives P N D (.typeAssert x X A true) ρ η (.tp [.junk,.raw (.bool b)]) M:=fun _ _ _ _ _ hE hR hH=>by
 obtain ⟨u,hr⟩:=hr
 refine ⟨.tuple #[u,.bool b],.tp (vs:=[u,.bool b]) rfl fun j q c h1 h2=>?_,fun _ _ _ _ _ _=>by simp [execOp,hE.ev (hR.raw hx),hr,Result.andThen]⟩
 match j with
 | 0=>simp at h1 h2;subst h1 h2;exact .junk
 | 1=>simp at h1 h2;subst h1 h2;exact .raw rfl
 | j+2=>simp at h1
end
section
variable {C:Cx} {ops:Array Oper} {Q:Qt} {ρ:Ro} {η η2 η1':Eta} {rest:List Oper} {T X A d:Nat} {pos:String} {af:Array Edge} {x:Operand} {args:List Operand} {at_:Array TypeId} {nm:String}
theorem OL.ta {v:Value} {b:Bool} (hr:∃ u,∀ w,(Instr.typeAssert v X A true).run C.P w=.ok (.tuple #[u,.bool b]) w) (k:OL C ops Q rest ((d,.tp [.junk,.raw (.bool b)])::ρ) η) (hx:ev2 ρ x=some (.raw v):=by with_unfolding_all exact rfl) (hd:Nat.blt d C.N=true:=by with_unfolding_all exact rfl) :
  OL C ops Q (⟨some d,.typeAssert x X A true,T,pos,af,none⟩::rest) ρ η:=OL.give (give_ta hr hx) hd k
theorem One.inv {f:Nat} {iv rv:Value} {u0:AV} {us vs2:List AV} {r r2} (hs:Spec C.P f vs2 [] r η1') (hm:∀ xs w,(callMethod iv nm xs).run C.P w=.ok (.enter f (#[rv]++xs)) w) (hrv:∀ m w γ,Rep m w γ rv u0) (hx:ev2 ρ x=some (.raw iv)) (hl:evs2 ρ args=some us)
  (hle:LEs (ts []) (u0::us) vs2) (hd:Nat.blt d C.N=true) (hr:ren (back [] η.length) r=r2) (hη:η++η1'.map (renO (back [] η.length))=η2) :
  OneK C ops Q ⟨some d,.call ⟨.invoke x nm,args.toArray,at_⟩,T,pos,af,none⟩ ρ η ((d,r2)::ρ) η2:=by
 rintro a w Kc ⟨m,γ,ρc,hE,hR,hI⟩ k
 obtain ⟨vs,h1,h2⟩:=hR.evs hl
 obtain ⟨hsh,hH1,_⟩:=hI.heap.sel (η':=[]) (σ:=[]) rfl trivial
 have hc:=hs m w _ (rv::vs) hH1 (hle.vl hsh ⟨hrv _ _ _,h2⟩)
 refine (wl_call (f:=f) (args:=(rv::vs).toArray) rfl ?_ (hc.mono fun e w' ⟨v,m',γ1',he,hC,hv⟩=>⟨v,he,?_⟩))
 ·have e1:a.eval x=iv:=hE.ev (hR.raw hx)
  simp [execOp,resolve,invoke,e1,hE.evs h1,hm]
 ·obtain ⟨γ2,p1,p2,p3,p4⟩:=hI.call (is:=[]) (η1:=[]) rfl trivial hC
  subst hr hη
  have hfar:Far [] m w m' w':=hC.far
  exact k _ _ hfar.keep.grown ⟨m',γ2,_,hE.put v (by simpa using hd),⟨rfl,ren_rep p2 hv,hR.mono p4 p1⟩,by simpa [upd] using p3⟩
theorem OL.inv {P:Program} {f:Nat} {iv rv:Value} {u0:AV} {us vs2:List AV} {r r2} {n:Nat} (hs:Spec P f vs2 [] r η1') (hm:∀ xs w,(callMethod iv nm xs).run P w=.ok (.enter f (#[rv]++xs)) w) (hrv:∀ m w γ,Rep m w γ rv u0) (k:OL C ops Q rest ((d,r2)::ρ) η2) (hP:C.P=P:=by with_unfolding_all exact rfl) (hx:ev2 ρ x=some (.raw iv):=by with_unfolding_all exact rfl) (hl:evs2 ρ args=some us:=by with_unfolding_all exact rfl)
  (hle:LEs (ts []) (u0::us) vs2:=by repeat' (first|with_unfolding_all exact trivial|exact LE.ren (by with_unfolding_all exact rfl)|with_unfolding_all exact LE.sl|with_unfolding_all exact LE.nil (by decide)|with_unfolding_all refine And.intro ?_ ?_)) (hd:Nat.blt d C.N=true:=by with_unfolding_all exact rfl)
  (hk:η.length=n:=by (try dsimp only [List.length])<;>exact rfl) (hr:ren (fun j=>some (n+j)) r=r2:=by (try dsimp only [ren,ren0,ren1,ren2,List.map,Nat.add_zero,Nat.zero_add,Nat.reduceAdd])<;>exact rfl)
  (hη:η++η1'.map (renO (fun j=>some (n+j)))=η2:=by (try dsimp only [renO,ren,ren0,ren1,ren2,List.map,List.cons_append,List.nil_append,Nat.add_zero,Nat.zero_add,Nat.reduceAdd])<;>exact rfl) :
  OL C ops Q (⟨some d,.call ⟨.invoke x nm,args.toArray,at_⟩,T,pos,af,none⟩::rest) ρ η:=by
 subst hk hP
 exact OL.one (One.inv hs hm hrv hx hl hle hd (by rw [back_nil];exact hr) (by rw [back_nil];exact hη)) k
end
end Go.V
namespace Go.Proofs
open Go Go.W Go.V
theorem ta_nil_so:∃ u,∀ w,(Instr.typeAssert .nilIface Tc.bind_kids Tc.bind_so true).run Tryz.prog w=.ok (.tuple #[u,.bool false]) w:=⟨.int .i64 0,fun w=>by kernel_rfl⟩
theorem ta_nil_ar:∃ u,∀ w,(Instr.typeAssert .nilIface Tc.bind_kids Tc.bind_arguments true).run Tryz.prog w=.ok (.tuple #[u,.bool false]) w:=⟨.agg #[],fun w=>by kernel_rfl⟩
theorem ta_so_so (m:Int):∃ u,∀ w,(Instr.typeAssert (.iface Tc.bind_so (.int .i64 m)) Tc.bind_kids Tc.bind_so true).run Tryz.prog w=.ok (.tuple #[u,.bool true]) w:=⟨.int .i64 m,fun w=>by kernel_rfl⟩
theorem ta_so_ar (m:Int):∃ u,∀ w,(Instr.typeAssert (.iface Tc.bind_so (.int .i64 m)) Tc.bind_kids Tc.bind_arguments true).run Tryz.prog w=.ok (.tuple #[u,.bool false]) w:=⟨.agg #[],fun w=>by kernel_rfl⟩
theorem ta_ar_so:∃ u,∀ w,(Instr.typeAssert (.iface Tc.bind_arguments (.agg #[])) Tc.bind_kids Tc.bind_so true).run Tryz.prog w=.ok (.tuple #[u,.bool false]) w:=⟨.int .i64 0,fun w=>by kernel_rfl⟩
theorem ta_ar_ar:∃ u,∀ w,(Instr.typeAssert (.iface Tc.bind_arguments (.agg #[])) Tc.bind_kids Tc.bind_arguments true).run Tryz.prog w=.ok (.tuple #[u,.bool true]) w:=⟨.agg #[],fun w=>by kernel_rfl⟩
theorem cm_so (m : Int) (xs : Array Value) (w : World) : (callMethod (.iface Tc.bind_so (.int .i64 m)) "consort/bind.many" xs).run Tryz.prog w = .ok (.enter 290 (#[.int .i64 m] ++ xs)) w := by kernel_rfl
theorem cm_ar (xs : Array Value) (w : World) : (callMethod (.iface Tc.bind_arguments (.agg #[])) "consort/bind.many" xs).run Tryz.prog w = .ok (.enter 291 (#[.agg #[]] ++ xs)) w := by kernel_rfl
end Go.Proofs
namespace Go.Proofs
open Go Go.W Go.V
def manyV (p:Prg) (x:Nd):Option Int:=
 if x.1=5 then p.gens[x.2.1.toNat]? else
 if x.1=1∨x.1=2∨x.1=3∨x.1=6∨x.1=18 then some 0 else
 if x.1=4∨x.1=8∨x.1=17 then some 1 else
 if x.1=7∨x.1=9∨x.1=11∨x.1=12∨x.1=13∨x.1=14∨x.1=15∨x.1=16 then some 2 else
 if x.1=10 then some 3 else none
theorem kidsOf_cases (p:Prg) (x:Nd):(x.1=5∧kidsOfV x.1=.iface Tc.bind_arguments (.agg #[]))∨(x.1≠5∧∃ m,manyV p x=some m∧kidsOfV x.1=.iface Tc.bind_so (.int .i64 m))∨(x.1≠5∧manyV p x=none∧kidsOfV x.1=.nilIface):=by
 unfold manyV kidsOfV
 by_cases h:x.1=5
 ·left;exact ⟨h,by rw [if_pos h]⟩
 right
 rw [if_neg h,if_neg h]
 by_cases h0:x.1=1∨x.1=2∨x.1=3∨x.1=6∨x.1=18
 ·left;exact ⟨h,0,by rw [if_pos h0],by rw [if_pos h0]⟩
 rw [if_neg h0,if_neg h0]
 by_cases h1:x.1=4∨x.1=8∨x.1=17
 ·left;exact ⟨h,1,by rw [if_pos h1],by rw [if_pos h1]⟩
 rw [if_neg h1,if_neg h1]
 by_cases h2:x.1=7∨x.1=9∨x.1=11∨x.1=12∨x.1=13∨x.1=14∨x.1=15∨x.1=16
 ·left;exact ⟨h,2,by rw [if_pos h2],by rw [if_pos h2]⟩
 rw [if_neg h2,if_neg h2]
 by_cases h3:x.1=10
 ·left;exact ⟨h,3,by rw [if_pos h3],by rw [if_pos h3]⟩
 rw [if_neg h3,if_neg h3]
 right;exact ⟨h,rfl,rfl⟩
def stepB (p:Prg) (next:Bool) (out:List Int) (x:Pl):Option (List Int):=
 if 0≤x.1∧x.1 < p.nodes.length∧out.getD x.1.toNat 0 < 0∧x.2.2≤12 then
  if numberV p (nodeAt p.nodes x.1) x.2.1=true∧(next=true∨(nodeAt p.nodes x.1).1≠18)∧manyV p (nodeAt p.nodes x.1)=some ((nodeAt p.nodes x.1).2.2.length:Int) then some (out.set x.1.toNat x.2.1) else none
 else none
def runB (p:Prg) (next:Bool) (out:List Int) (l:List Pl):Option (List Int):=l.foldlM (stepB p next) out
theorem runB_snoc (p:Prg) (next:Bool) (out:List Int) (l:List Pl) (x:Pl):runB p next out (l++[x])=(runB p next out l).bind fun o=>stepB p next o x:=by
 simp [runB,List.foldlM_append]
theorem runB_app (p:Prg) (next:Bool) (out:List Int) (l r:List Pl):runB p next out (l++r)=(runB p next out l).bind fun o=>runB p next o r:=by
 simp [runB,List.foldlM_append]
theorem stepB_len {p:Prg} {next:Bool} {out o:List Int} {x:Pl} (h:stepB p next out x=some o):o.length=out.length:=by
 unfold stepB at h
 split at h
 ·split at h
  ·cases h;simp
  ·cases h
 ·cases h
theorem stepB_ok {p:Prg} {next:Bool} {out o:List Int} {x:Pl} (h:stepB p next out x=some o):okPl p.nodes x:=by
 unfold stepB at h
 split at h
 ·rename_i h1;exact ⟨h1.1,h1.2.1,h1.2.2.2⟩
 ·cases h
theorem runB_len {p:Prg} {next:Bool}:∀ {l:List Pl} {out o:List Int},runB p next out l=some o→o.length=out.length
 | [],out,o,h=>by simp [runB] at h;rw [h]
 | x::l,out,o,h=>by
   have e:=runB_app p next out [x] l
   rw [List.singleton_append,h] at e
   cases h1:runB p next out [x] with
   | none=>rw [h1] at e;cases e
   | some o1 =>
     rw [h1] at e
     have h2:stepB p next out x=some o1:=by simpa [runB] using h1
     rw [runB_len e.symm,stepB_len h2]
theorem runB_ok {p:Prg} {next:Bool}:∀ {l:List Pl} {out o:List Int},runB p next out l=some o→∀ x∈l,okPl p.nodes x
 | [],_,_,_=>by simp
 | x::l,out,o,h=>by
   have e:=runB_app p next out [x] l
   rw [List.singleton_append,h] at e
   cases h1:runB p next out [x] with
   | none=>rw [h1] at e;cases e
   | some o1 =>
     rw [h1] at e
     have h2:stepB p next out x=some o1:=by simpa [runB] using h1
     intro y hy
     rcases List.mem_cons.1 hy with rfl|hy
     ·exact stepB_ok h2
     ·exact runB_ok e.symm y hy
end Go.Proofs
namespace Go.Proofs
open Go Go.W Go.V
abbrev Fct.op:Fct→Int|.mk op _ _ _ _ _=>op
abbrev Fct.arg:Fct→Int|.mk _ a _ _ _ _=>a
abbrev Fct.path:Fct→List Int|.mk _ _ p _ _ _=>p
abbrev Fct.cls:Fct→Int|.mk _ _ _ c _ _=>c
abbrev Fct.n:Fct→Int|.mk _ _ _ _ n _=>n
abbrev Fct.kids:Fct→List Fct|.mk _ _ _ _ _ k=>k
mutual
def nodesF:Fct→Nat
 | .mk _ _ _ _ _ kids=>1+nodesL kids
def nodesL:List Fct→Nat
 | []=>0
 | f::r=>nodesF f+nodesL r
end
mutual
def depthF:Fct→Nat
 | .mk _ _ _ _ _ kids=>depthL kids+1
def depthL:List Fct→Nat
 | []=>0
 | f::r=>max (depthF f) (depthL r)
end
abbrev leafB (op:Int):Bool:=decide (op=2) || (decide (op=3) || decide (op=4))
mutual
def speaksF:Fct→Int
 | .mk op arg _ _ _ kids=>max (if leafB op then arg+1 else 0) (speaksL kids)
def speaksL:List Fct→Int
 | []=>0
 | f::r=>max (speaksF f) (speaksL r)
end
def kidsN (op:Int):Nat:=if op=5 then 1 else if op=6∨op=7 then 2 else 0
def pathB (no:Nat) (l:List Int):Bool:=decide (l.length≤2)&&l.all fun s=>decide (0≤s)&&decide (s < (no:Int))
def headB (np no:Nat):Fct→Bool
 | .mk op arg path cls n kids=>(decide (1≤op)&&decide (op≤7)&&decide (kids.length=kidsN op)) &&
   (if leafB op then ((decide (0≤arg)&&decide (arg < 3))&&pathB no path)&&(if op=2 then decide (n=0)&&(decide (0≤cls)&&decide (cls < 3+(np:Int))) else decide (cls=0)&&betweenV n)
    else (decide (arg=0)&&decide (path.length=0))&&(decide (cls=0)&&decide (n=0)))
mutual
def nodeOkB (np no:Nat):Fct→Bool
 | .mk op arg path cls n kids=>headB np no (.mk op arg path cls n kids)&&nodesOkB np no kids
def nodesOkB (np no:Nat):List Fct→Bool
 | []=>true
 | f::r=>nodeOkB np no f&&nodesOkB np no r
end
def okF (np no:Nat) (left deep:Int) (f:Fct):Bool:=(decide ((nodesF f:Int)≤left)&&decide ((depthF f:Int)≤deep))&&nodeOkB np no f
def okFs (np no:Nat) (left deep:Int) (l:List Fct):Bool:=(decide ((nodesL l:Int)≤left)&&decide ((depthL l:Int)≤deep))&&nodesOkB np no l
theorem nodesF_pos (f:Fct):1≤nodesF f:=by cases f;rw [nodesF];omega
theorem depthF_pos (f:Fct):1≤depthF f:=by cases f;rw [depthF];omega
theorem nodesL_app (a b:List Fct):nodesL (a++b)=nodesL a+nodesL b:=by
 induction a with
 | nil=>simp [nodesL]
 | cons f r ih=>rw [List.cons_append,nodesL,nodesL,ih];omega
theorem depthL_app (a b:List Fct):depthL (a++b)=max (depthL a) (depthL b):=by
 induction a with
 | nil=>simp [depthL]
 | cons f r ih=>rw [List.cons_append,depthL,depthL,ih];omega
theorem speaksL_nonneg (a:List Fct):0≤speaksL a:=by
 induction a with
 | nil=>simp [speaksL]
 | cons f r ih=>rw [speaksL];omega
theorem speaksL_app (a b:List Fct):speaksL (a++b)=max (speaksL a) (speaksL b):=by
 induction a with
 | nil=>have:=speaksL_nonneg b;simp [speaksL];omega
 | cons f r ih=>rw [List.cons_append,speaksL,speaksL,ih];omega
theorem nodesOkB_app (np no:Nat) (a b:List Fct):nodesOkB np no (a++b)=(nodesOkB np no a&&nodesOkB np no b):=by
 induction a with
 | nil=>simp [nodesOkB]
 | cons f r ih=>rw [List.cons_append,nodesOkB,nodesOkB,ih,Bool.and_assoc]
theorem nodesL_snoc (a:List Fct) (f:Fct):nodesL (a++[f])=nodesL a+nodesF f:=by rw [nodesL_app,nodesL,nodesL];omega
theorem depthL_snoc (a:List Fct) (f:Fct):depthL (a++[f])=max (depthL a) (depthF f):=by rw [depthL_app,depthL,depthL];omega
theorem speaksL_snoc (a:List Fct) (f:Fct):speaksL (a++[f])=max (speaksL a) (speaksF f):=by
 rw [speaksL_app,speaksL,speaksL]
 have:=speaksL_nonneg a
 omega
theorem nodesOkB_snoc (np no:Nat) (a:List Fct) (f:Fct):nodesOkB np no (a++[f])=(nodesOkB np no a&&nodeOkB np no f):=by rw [nodesOkB_app,nodesOkB,nodesOkB,Bool.and_true]
theorem okFs_nil (np no:Nat) (left deep:Int) (h0:0≤left) (h1:0≤deep):okFs np no left deep []=true:=by simp [okFs,nodesL,depthL,nodesOkB,h0,h1]
theorem okFs_snoc (np no:Nat) (left deep:Int) (a:List Fct) (f:Fct):okFs np no left deep (a++[f])=(okFs np no left deep a&&okF np no (left-nodesL a) deep f):=by
 rw [okFs,okFs,okF,nodesL_snoc,depthL_snoc,nodesOkB_snoc]
 rw [Bool.eq_iff_iff]
 simp only [Bool.and_eq_true,decide_eq_true_eq]
 have:=nodesF_pos f
 constructor
 ·rintro ⟨⟨h1,h2⟩,h3,h4⟩
  refine ⟨⟨⟨?_,?_⟩,h3⟩,⟨?_,?_⟩,h4⟩<;>omega
 ·rintro ⟨⟨⟨h1,h2⟩,h3⟩,⟨h4,h5⟩,h6⟩
  refine ⟨⟨?_,?_⟩,h3,h6⟩<;>omega
theorem okFs_take (np no:Nat) (left deep:Int) (l:List Fct) (k:Nat) (h:okFs np no left deep l=true):okFs np no left deep (l.take k)=true:=by
 have e:l=l.take k++l.drop k:=(List.take_append_drop k l).symm
 rw [okFs] at h ⊢
 rw [e,nodesL_app,depthL_app,nodesOkB_app] at h
 simp only [Bool.and_eq_true,decide_eq_true_eq] at h ⊢
 obtain ⟨⟨h1,h2⟩,h3,h4⟩:=h
 exact ⟨⟨by omega,by omega⟩,h3⟩
theorem okF_eq (np no:Nat) (left deep:Int) (f:Fct):okF np no left deep f=(headB np no f&&(decide (1≤left)&&decide (1≤deep))&&okFs np no (left-1) (deep-1) f.kids):=by
 obtain ⟨op,arg,path,cls,n,kids⟩:=f
 rw [okF,okFs,nodesF,depthF,nodeOkB,Bool.eq_iff_iff]
 simp only [Bool.and_eq_true,decide_eq_true_eq,Fct.kids]
 constructor
 ·rintro ⟨⟨h1,h2⟩,h3,h4⟩
  exact ⟨⟨h3,by omega,by omega⟩,⟨by omega,by omega⟩,h4⟩
 ·rintro ⟨⟨h3,h5,h6⟩,⟨h1,h2⟩,h4⟩
  exact ⟨⟨by omega,by omega⟩,h3,h4⟩
theorem nodeOkB_eq (np no:Nat) (f:Fct):nodeOkB np no f=(headB np no f&&nodesOkB np no f.kids):=by cases f;rw [nodeOkB]
theorem nodesF_eq (f:Fct):nodesF f=1+nodesL f.kids:=by cases f;rw [nodesF]
theorem depthF_eq (f:Fct):depthF f=depthL f.kids+1:=by cases f;rw [depthF]
theorem speaksF_eq (f:Fct):speaksF f=max (if leafB f.op then f.arg+1 else 0) (speaksL f.kids):=by cases f;rw [speaksF]
theorem kid_nodes {f k:Fct} (h:k∈f.kids):nodesF k < nodesF f:=by
 rw [nodesF_eq f]
 have:∀ l:List Fct,k∈l→nodesF k≤nodesL l:=by
  intro l
  induction l with
  | nil=>simp
  | cons x r ih =>
    intro h
    rw [nodesL]
    rcases List.mem_cons.1 h with rfl|h
    ·omega
    ·have:=ih h;omega
 have:=this _ h
 omega
theorem depthL_mem {l:List Fct} {k:Fct} (h:k∈l):depthF k≤depthL l:=by
 induction l with
 | nil=>simp at h
 | cons x r ih =>
   rw [depthL]
   rcases List.mem_cons.1 h with rfl|h
   ·omega
   ·have:=ih h;omega
end Go.Proofs
