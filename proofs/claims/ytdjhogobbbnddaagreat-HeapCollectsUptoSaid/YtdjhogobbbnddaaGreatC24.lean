/- Lemmas for the claim; no conditions. -/
import Derived.Test.YtdjhogobbbnddaaGreatC23
import Derived.Test.YtdjhogobbbnddaaGreatC17
import Derived.Recover
import Derived.Laws.Pointers
import Derived.Test.YtdjhogobbbnddaaGreatC18
import Derived.Test.YtdjhogobbbnddaaGreatC19
import Derived.Test.YtdjhogobbbnddaaGreatC14
namespace Go.V
open Go Go.W
section
variable {P:Program} {tab:Tab} {N:Nat} {D:List Deferred} {ρ:Ro} {η:Eta} {x:Operand} {T A:Nat} {M:Bool}
theorem YqT {v:Value} (hT:P.concrete T=true) (hx:ev2 ρ x=some (.raw v)):Yaj P N D (.makeInterface T x) ρ η (.raw (.iface T v)) M:=fun _ _ _ _ _ hE hR hH =>
 ⟨_,.raw rfl,fun _ _ _ _ _ _=>by simp [execOp,hE.ev (hR.raw hx),run_makeInterface,hT,Result.andThen]⟩
theorem YoI (hT:P.concrete T=true) (hx:ev2 ρ x=some (.st [])):Yaj P N D (.makeInterface T x) ρ η (.raw (.iface T (.agg #[]))) M:=fun _ _ _ _ _ hE hR hH=>by
 obtain ⟨v,h1,h2⟩:=hR.ev hx
 cases h2 with
 | @st _ vs _ hl _ _ =>
 obtain rfl:vs=[]:=List.eq_nil_of_length_eq_zero (by simpa using hl);exact ⟨_,.raw rfl,fun _ _ _ _ _ _=>by simp [execOp,hE.ev h1,run_makeInterface,hT,Result.andThen]⟩
end
section
variable {C:Cx} {ops:Array Oper} {Q:Qt} {ρ:Ro} {η:Eta} {rest:List Oper} {T Ty d:Nat} {pos:String} {af:Array Edge} {x:Operand}
theorem Zdt {v:Value} (hT:C.P.concrete Ty=true) (k:OL C ops Q rest ((d,.raw (.iface Ty v))::ρ) η) (hx:ev2 ρ x=some (.raw v):=by with_unfolding_all exact rfl) (hd:Nat.blt d C.N=true:=by with_unfolding_all exact rfl):OL C ops Q (⟨some d,.makeInterface Ty x,T,pos,af,none⟩::rest) ρ η:=ZaG (YqT hT hx) hd k
theorem ZcO (hT:C.P.concrete Ty=true) (k:OL C ops Q rest ((d,.raw (.iface Ty (.agg #[])))::ρ) η) (hx:ev2 ρ x=some (.st []):=by with_unfolding_all exact rfl) (hd:Nat.blt d C.N=true:=by with_unfolding_all exact rfl):OL C ops Q (⟨some d,.makeInterface Ty x,T,pos,af,none⟩::rest) ρ η:=ZaG (YoI hT hx) hd k
end
end Go.V
namespace Go.Proofs
open Go Go.W Go.V
abbrev upv:Value:=.iface 224 (.agg #[])
theorem YuH:Tryz.prog.concrete 224=true:=by kernel_rfl
theorem YaL:V.Spec Tryz.prog 163 [V.bool true] [] (.tp []) []:=by
 refine Se Tryz.func163 rfl rfl rfl fun B hB=>?_;repeat' (with_reducible first|refine OL.st ?_|refine TC.region ?_|refine TC.seq ?_|refine OL.nil ?_|refine Zap ?_|refine TC.skip ?_|refine Za9 ?_|refine Zbz ?_|fail)
 exact Za1 []
theorem Yau:YaZ Tryz.prog 163 [V.bool false] [] upv []:=by
 refine YaZ.enter Tryz.tabOK Tryz.mixed Tryz.func163 rfl rfl rfl fun B hB=>?_;repeat' (with_reducible first|refine OL.st ?_|refine OL.build ?_|refine TC.region ?_|refine TC.seq ?_|refine OL.nil ?_|refine Zap ?_|refine ZaY ?_|fail)
 refine ZcO YuH ?_;refine OL.panic ?_ ⟨_,_,rfl⟩;exact Zas []
theorem Yoj (p:Addr) (w:World):CallsD Tryz.prog 186 #[.pointer (some p)] .returning w fun e u' w'=>e=.returned (.tuple #[])∧u'=.returning∧w'=w:=by
 refine callsD_of_wpS Tryz.func186 rfl fun c₀ cs hu=>?_;have hne:∀ w,(binOp .neq 20 .nilIface .nilIface).run Tryz.prog w=.ok (.bool false) w:=fun w=>by kernel_rfl
 apply wpS_seq;apply wpS_region;simp [wpOpsS,go_sem,recoverD,hu,Exit.thenS];apply wpS_seq;apply wpS_region;simp [wpOpsS,go_sem,Exit.thenS,hne];refine wpS_cond (t:=false) (by simp [Act.eval,Array.replicate]) ?_;simp only [Bool.false_eq_true,if_false];refine wpS_of_wp (wp_skip ?_)
 cases c₀
 simp_all [bodyPostS,results]
theorem Yre (p:Addr) (v:Value) (w:World) (hc:w.cell? p=some v) (hz:w.frozen? p=false):CallsD Tryz.prog 186 #[.pointer (some p)] (.panicking (pan upv)) w fun e u' w' =>
  e=.returned (.tuple #[])∧u'=.panicking [{ v:=upv,recovered:=true }]∧w'=(w.alloc (.cells #[] 224)).setCell p (.bool false):=by
 refine callsD_of_wpS Tryz.func186 rfl fun c₀ cs hu=>?_;have hne:∀ w,(binOp .neq 20 upv .nilIface).run Tryz.prog w=.ok (.bool true) w:=fun w=>by kernel_rfl
 have hta:∀ w,(Instr.typeAssert upv 20 224 true).run Tryz.prog w=.ok (.tuple #[.agg #[],.bool true]) w:=fun w=>by kernel_rfl
 apply wpS_seq;apply wpS_region;simp [wpOpsS,go_sem,recoverD,hu,Exit.thenS];apply wpS_seq;apply wpS_region;simp [wpOpsS,go_sem,Exit.thenS,hne];refine wpS_cond (t:=true) (by simp [Act.eval,Array.replicate]) ?_;simp only [if_true];apply wpS_seq;apply wpS_seq;apply wpS_region;simp [wpOpsS,go_sem,Exit.thenS,hta];apply wpS_seq;apply wpS_region;simp [wpOpsS,go_sem,Exit.thenS];refine wpS_cond (t:=false) (by simp [Act.eval,Array.replicate]) ?_;simp only [Bool.false_eq_true,if_false];refine wpS_of_wp (wp_skip ?_);have hbk:(w.alloc (.cells #[] 224)).heap[p.block]?=w.heap[p.block]?:=by
  refine (World.grownBy_alloc w (.cells #[] 224) none).block p.block ?_ (by simp);unfold World.cell? at hc
  cases ho:w.heap[p.block]? with
  | none=>simp [ho] at hc
  | some o=>exact (Array.getElem?_eq_some_iff.1 ho).1
 have hc2:(w.alloc (.cells #[] 224)).cell? p=some v:=by
  rw [World.cell?_of_block (w:=w) hbk];exact hc
 have hz2:(w.alloc (.cells #[] 224)).frozen? p=false:=by rw [World.frozen?_of_block (w:=w) hbk];exact hz
 simp only [Exit.thenS];apply wpS_region;simp [wpOpsS,go_sem,hc2,hz2,bodyPostS,results]
theorem YiF {f : Nat} {fn : Func} {v2 : Array Value} {w : World} {R : Ending → World → Prop} (hf : Tryz.prog.funcs[f]? = some fn) (hb : (fn.body.isNone || fn.name == "runtime.NumGoroutine") = false)
  (hc:Calls Tryz.prog f v2 (w.alloc (.cells #[.bool false] 4)) fun e w'=>w'.heap[w.heap.size]?=some (.cells #[.bool false] 4) ∧
   ((∃ v,e=.returned v∧R (.returned (.bool true)) (w'.setCell ⟨w.heap.size,0,none⟩ (.bool true)))∨(e=.panicked (pan upv)∧R (.returned (.bool false)) ((w'.alloc (.cells #[] 224)).setCell ⟨w.heap.size,0,none⟩ (.bool false))))) :
  Calls Tryz.prog 160 #[.func (.func f) #[] v2] w R:=by
 have hmf:∀ (fn:Fn) (first cap:Array Value) (w:World),(Instr.makeFunc fn first cap).run Tryz.prog w=.ok (.func fn first cap) w:=fun _ _ _ _=>rfl
 have hcf:∀ args w,(callFunc f args).run Tryz.prog w=.ok (.enter f args) w:=fun args w=>by
  simp at hb;have hb':fn.body≠none:=Option.isSome_iff_ne_none.1 hb.1;simp [callFunc,hf,hb.2,hb']
 have hcell:∀ (w':World) (b:Bool),w'.heap[w.heap.size]?=some (.cells #[.bool b] 4)→w'.cell? ⟨w.heap.size,0,none⟩=some (.bool b)∧w'.frozen? ⟨w.heap.size,0,none⟩=false:=fun w' b h=>by
  simp [World.cell?,World.frozen?,h]
 have hset:∀ (w':World) (a b:Bool),w'.heap[w.heap.size]?=some (.cells #[.bool a] 4)→(w'.setCell ⟨w.heap.size,0,none⟩ (.bool b)).heap[w.heap.size]?=some (.cells #[.bool b] 4):=fun w' a b h=>by
  obtain ⟨hlt,he⟩:=Array.getElem?_eq_some_iff.1 h;simp [World.setCell,Array.getElem?_modify,h]
 go_enter_defers Tryz.func160,Tryz.ntmps160
 apply wp_seq;apply wp_region;simp [wpOps,go_sem,Exit.then];left;apply wp_seq;apply wp_region;simp [wpOps,go_sem,Exit.then];left;left;apply wp_seq;apply wp_region;simp [wpOps,go_sem,Exit.then,hcf];left;left;have hinv:∀ (p:Addr) (w:World),(invoke (.fn (.func 186) #[.pointer (some p)]) #[]).run Tryz.prog w=.ok (.enter 186 #[.pointer (some p)]) w:=fun p w=>by
  have h224:Tryz.prog.funcs[186]?=some Tryz.f186:=Tryz.func186;have hb224 : (Tryz.f186.body.isNone || Tryz.f186.name == "runtime.NumGoroutine") = false := rfl;simp at hb224;have hb':Tryz.f186.body≠none:=Option.isSome_iff_ne_none.1 hb224.1;simp [invoke,callFunc,h224,hb224.2,hb']
 refine hc.mono ?_;rintro e w' ⟨hcl,(⟨v,rfl,hR⟩|⟨rfl,hR⟩)⟩
 ·obtain ⟨c1,c2⟩:=hcell w' false hcl;show Code.wp _ _ _ _ _;apply wp_seq;apply wp_region;simp [wpOps,go_sem,Exit.then,c1,c2];left;refine wp_ret ?_;refine leaves_cons (f:=186) (args:=#[.pointer (some ⟨w.heap.size,0,none⟩)]) (by simp) (hinv _ _) ?_;refine (Yoj _ _).mono ?_;rintro e u' w'' ⟨rfl,rfl,rfl⟩;obtain ⟨d1,d2⟩:=hcell _ true (hset w' false true hcl);simp [Leaves,settle,results,go_sem,d1];exact hR
 ·obtain ⟨c1,c2⟩:=hcell w' false hcl;show Leaves _ _ _ _ _ _ _;refine leaves_cons (f:=186) (args:=#[.pointer (some ⟨w.heap.size,0,none⟩)]) (by simp) (hinv _ _) ?_;refine (Yre _ (.bool false) _ c1 c2).mono ?_;rintro e u' w'' ⟨rfl,rfl,rfl⟩;have hcl2:(w'.alloc (.cells #[] 224)).heap[w.heap.size]?=some (.cells #[.bool false] 4):=((World.grownBy_alloc w' (.cells #[] 224) none).block _ (Array.getElem?_eq_some_iff.1 hcl).1 (by simp)).trans hcl;obtain ⟨d1,d2⟩:=hcell _ false (hset _ false false hcl2);simp [Leaves,settle,results,go_sem,d1];exact hR
theorem CL.one1 {γ m} {w:World} {v:Value} {x:AV} (h1:v.oneCell'=true) (h:Rep m w γ v x):CL γ m w [v] [x]:=⟨rfl,by simpa using h1,fun j u c hu hc=>by
 cases j with
 | zero=>simp at hu hc;subst hu hc;exact h
 | succ j=>simp at hu⟩
theorem YnF {f : Nat} {fz : Bool} {fn : Func} {caps xs : List AV} (hf : Tryz.prog.funcs[f]? = some fn) (hb : (fn.body.isNone || fn.name == "runtime.NumGoroutine") = false) (hs : V.Spec Tryz.prog f caps [.cb 23 [.raw (.slice none 0 0)]] (.tp []) [.cb 23 [.hs 1], .gs fz 3 1 none xs]) :
  V.Spec Tryz.prog 160 [.fn (.func f) [] caps] [.cb 23 [.raw (.slice none 0 0)]] (V.bool true) [.cb 23 [.hs 1],.gs fz 3 1 none xs]:=by
 intro m w γ vs hH hV;have hgl:=hH.len;obtain ⟨g,rfl⟩:∃ g,γ=[g]:=by
  match γ,hgl with
  | [g],_=>exact ⟨g,rfl⟩
 match vs,hV with
 | [fv],hV =>
 cases hV.1 with
 | @fn _ _ v1 v2 _ _ l1 l2 q1 q2 =>
 obtain rfl:v1=[]:=List.eq_nil_of_length_eq_zero (by simpa using l1);refine YiF hf hb ?_;have hI0:In (Ya1 m w [g] [.cb 23 [.raw (.slice none 0 0)]]) m w [g] [.cb 23 [.raw (.slice none 0 0)]]:=⟨hH,.refl _ _ _,fun i v o b h1 h2 h3=>.inl (Yap.2 ⟨i,v,o,h1,h2,h3⟩),.refl _⟩;have hK:=Keep.alloc m w (.cells #[.bool false] 4) 0;have hI1:=hI0.new (v:=.pointer (some ⟨w.heap.size,0,none⟩)) (o:=.cb 4 [.raw (.bool false)]) hK ⟨w.heap.size,[.bool false],rfl,⟨heap_alloc_new w _,by simp⟩,CL.one1 rfl (.raw rfl)⟩ (fun b hb=>by simp [blk] at hb;omega);have hsub:Ybw (ts [0]) ([.cb 23 [.raw (.slice none 0 0)]]++[.cb 4 [.raw (.bool false)]]) [0] [.cb 23 [.raw (.slice none 0 0)]]:=⟨⟨_,rfl,OE.ren rfl⟩,trivial⟩;obtain ⟨hsh,hH1,_⟩:=hI1.heap.sel (σ:=[0]) rfl hsub;have hV2:VL (Yb8 m w.heap.size 0) (w.alloc (.cells #[.bool false] 4)) [g] v2 caps:=VL.mono hK.ext (.refl _) (VL.of l2 q2);have hc:=hs _ _ _ v2 hH1 hV2;have hfin:∀ (m':Nat→Nat) (w':World) (γ2:List Value) (η2:Eta) (b:Bool),Pre ([g]++[.pointer (some ⟨w.heap.size,0,none⟩)]) γ2→In (Ya1 m w [g] [.cb 23 [.raw (.slice none 0 0)]]) m' w' γ2 η2→η2[1]?=some (.cb 4 [.raw (.bool b)])→w'.heap[w.heap.size]?=some (.cells #[.bool b] 4)∧∀ t:Bool,In (Ya1 m w [g] [.cb 23 [.raw (.slice none 0 0)]]) m' (w'.setCell ⟨w.heap.size,0,none⟩ (.bool t)) γ2 (η2.set 1 (.cb 4 [.raw (.bool t)])):=fun m' w' γ2 η2 b hp hI ho=>by
  have hv:γ2[1]?=some (.pointer (some ⟨w.heap.size,0,none⟩)):=hp 1 _ rfl;obtain ⟨b',vs,e,hB,hC⟩:=hI.heap.ok 1 _ _ hv ho
  cases e
  obtain ⟨u,rfl⟩:∃ u,vs=[u]:=by
   match vs,hC.1 with
   | [u],_=>exact ⟨u,rfl⟩
  have hu:=(hC.2.2 0 u _ rfl rfl).raw_eq;subst hu;exact ⟨hB.heap,fun t=>by
   obtain ⟨t1,t2⟩:=YcK (o:=0) hB (.bool t);exact hI.put (o':=.cb 4 [.raw (.bool t)]) hv ho t1 ⟨_,[.bool t],rfl,t2,CL.one1 rfl (.raw rfl)⟩ (.inl rfl)⟩
 refine hc.mono ?_;rintro e w' ⟨v,m',γ1',rfl,hC,hv⟩;obtain ⟨γ2,p1,p2,p3,p4⟩:=hI1.call (is:=[0]) rfl hsub hC;have p3':In (Ya1 m w [g] [.cb 23 [.raw (.slice none 0 0)]]) m' w' γ2 [.cb 23 [.hs 2],.cb 4 [.raw (.bool false)],.gs fz 3 1 none xs]:=p3;obtain ⟨h1,h2⟩:=hfin m' w' γ2 _ false p1 p3' rfl;refine ⟨h1,.inl ⟨v,rfl,?_⟩⟩;obtain ⟨γ3,_,g2⟩:=(h2 true).sel (n:=1) (σ:=[0,2]) (η':=[.cb 23 [.hs 1],.gs fz 3 1 none xs]) rfl rfl rfl ⟨⟨_,rfl,OE.ren rfl⟩,⟨_,rfl,OE.ren rfl⟩,trivial⟩;exact ⟨_,m',γ3,rfl,g2,.raw rfl⟩
theorem YoS {f : Nat} {fn : Func} {caps : List AV} (hf : Tryz.prog.funcs[f]? = some fn) (hb : (fn.body.isNone || fn.name == "runtime.NumGoroutine") = false) (hs : YaZ Tryz.prog f caps [.cb 23 [.raw (.slice none 0 0)]] upv [.cb 23 [.junk]]) :
  V.Spec Tryz.prog 160 [.fn (.func f) [] caps] [.cb 23 [.raw (.slice none 0 0)]] (V.bool false) [.cb 23 [.junk]]:=by
 intro m w γ vs hH hV;have hgl:=hH.len;obtain ⟨g,rfl⟩:∃ g,γ=[g]:=by
  match γ,hgl with
  | [g],_=>exact ⟨g,rfl⟩
 match vs,hV with
 | [fv],hV =>
 cases hV.1 with
 | @fn _ _ v1 v2 _ _ l1 l2 q1 q2 =>
 obtain rfl:v1=[]:=List.eq_nil_of_length_eq_zero (by simpa using l1);refine YiF hf hb ?_;have hI0:In (Ya1 m w [g] [.cb 23 [.raw (.slice none 0 0)]]) m w [g] [.cb 23 [.raw (.slice none 0 0)]]:=⟨hH,.refl _ _ _,fun i v o b h1 h2 h3=>.inl (Yap.2 ⟨i,v,o,h1,h2,h3⟩),.refl _⟩;have hK:=Keep.alloc m w (.cells #[.bool false] 4) 0;have hI1:=hI0.new (v:=.pointer (some ⟨w.heap.size,0,none⟩)) (o:=.cb 4 [.raw (.bool false)]) hK ⟨w.heap.size,[.bool false],rfl,⟨heap_alloc_new w _,by simp⟩,CL.one1 rfl (.raw rfl)⟩ (fun b hb=>by simp [blk] at hb;omega);have hsub:Ybw (ts [0]) ([.cb 23 [.raw (.slice none 0 0)]]++[.cb 4 [.raw (.bool false)]]) [0] [.cb 23 [.raw (.slice none 0 0)]]:=⟨⟨_,rfl,OE.ren rfl⟩,trivial⟩;obtain ⟨hsh,hH1,_⟩:=hI1.heap.sel (σ:=[0]) rfl hsub;have hV2:VL (Yb8 m w.heap.size 0) (w.alloc (.cells #[.bool false] 4)) [g] v2 caps:=VL.mono hK.ext (.refl _) (VL.of l2 q2);have hc:=hs _ _ _ v2 hH1 hV2;have hfin:∀ (m':Nat→Nat) (w':World) (γ2:List Value) (η2:Eta) (b:Bool),Pre ([g]++[.pointer (some ⟨w.heap.size,0,none⟩)]) γ2→In (Ya1 m w [g] [.cb 23 [.raw (.slice none 0 0)]]) m' w' γ2 η2→η2[1]?=some (.cb 4 [.raw (.bool b)])→w'.heap[w.heap.size]?=some (.cells #[.bool b] 4)∧∀ t:Bool,In (Ya1 m w [g] [.cb 23 [.raw (.slice none 0 0)]]) m' (w'.setCell ⟨w.heap.size,0,none⟩ (.bool t)) γ2 (η2.set 1 (.cb 4 [.raw (.bool t)])):=fun m' w' γ2 η2 b hp hI ho=>by
  have hv:γ2[1]?=some (.pointer (some ⟨w.heap.size,0,none⟩)):=hp 1 _ rfl;obtain ⟨b',vs,e,hB,hC⟩:=hI.heap.ok 1 _ _ hv ho
  cases e
  obtain ⟨u,rfl⟩:∃ u,vs=[u]:=by
   match vs,hC.1 with
   | [u],_=>exact ⟨u,rfl⟩
  have hu:=(hC.2.2 0 u _ rfl rfl).raw_eq;subst hu;exact ⟨hB.heap,fun t=>by
   obtain ⟨t1,t2⟩:=YcK (o:=0) hB (.bool t);exact hI.put (o':=.cb 4 [.raw (.bool t)]) hv ho t1 ⟨_,[.bool t],rfl,t2,CL.one1 rfl (.raw rfl)⟩ (.inl rfl)⟩
 refine hc.mono ?_;rintro e w' ⟨m',γ1',rfl,hC⟩;obtain ⟨γ2,p1,p2,p3,p4⟩:=hI1.call (is:=[0]) rfl hsub hC;have p3':In (Ya1 m w [g] [.cb 23 [.raw (.slice none 0 0)]]) m' w' γ2 [.cb 23 [.junk],.cb 4 [.raw (.bool false)]]:=p3;obtain ⟨h1,_⟩:=hfin m' w' γ2 _ false p1 p3' rfl;refine ⟨h1,.inr ⟨rfl,?_⟩⟩;have hK2:=Keep.alloc m' w' (.cells #[] 224) 0;have p5:=p3'.new (v:=.pointer (some ⟨w'.heap.size,0,none⟩)) (o:=.dead) hK2 trivial (fun b hb=>by simp [blk] at hb);obtain ⟨_,h2⟩:=hfin _ _ _ _ false (p1.trans (.app _ _)) p5 rfl;obtain ⟨γ3,_,g2⟩:=(h2 false).sel (n:=1) (σ:=[0]) (η':=[.cb 23 [.junk]]) rfl rfl rfl ⟨⟨_,rfl,OE.ren rfl⟩,trivial⟩;exact ⟨_,_,γ3,rfl,g2,.raw rfl⟩
def Ybg (op:Int):Value:=
 if op=5 then .iface 210 (.agg #[]) else
 if op=1∨op=2∨op=3∨op=6∨op=18 then .iface 208 (.int .i64 0) else
 if op=4∨op=8∨op=17 then .iface 208 (.int .i64 1) else
 if op=7∨op=9∨op=11∨op=12∨op=13∨op=14∨op=15∨op=16 then .iface 208 (.int .i64 2) else
 if op=10 then .iface 208 (.int .i64 3) else .nilIface
theorem YuB:Tryz.prog.concrete 208=true:=by kernel_rfl
theorem Yvb:Tryz.prog.concrete 210=true:=by kernel_rfl
set_option maxHeartbeats 2000000 in
theorem Yj4 (op:Int):V.Spec Tryz.prog 168 [V.int op] [] (.raw (Ybg op)) []:=by
 refine Se Tryz.func168 rfl rfl rfl fun B hB=>?_;repeat' (with_reducible first|refine OL.st ?_|refine OL.build ?_|refine TC.region ?_|refine TC.seq ?_|refine OL.nil ?_|refine Zap ?_|refine TC.block ?_|refine TC.skip ?_|refine ZaM ?_|refine Zay ?_ ?_<;>(intro hc;try (exfalso;omega))|refine TC.ret ?_|fail)
 ·refine ZcO Yvb ?_;repeat' (with_reducible first|refine OL.st ?_|refine OL.nil ?_|refine Zap ?_|refine TC.ret ?_|refine ZaE ?_|refine ZaK ?_|fail)
  rw [show Ybg op=.iface 210 (.agg #[]) by simp [Ybg, *]];exact Zad [] (.ren rfl)
 all_goals first|(with_reducible refine Zdt ?_ ?_;exact YuB)|skip
 all_goals repeat' (with_reducible first|refine OL.st ?_|refine OL.nil ?_|refine Zap ?_|refine TC.ret ?_|refine ZaE ?_|refine ZaK ?_|fail)
 all_goals first
  | (rw [show Ybg op=.nilIface by simp [Ybg, *]];exact Zad [] (.ren rfl))
  | (rw [show Ybg op=.iface 208 (.int .i64 0) by simp [Ybg, *]];exact Zad [] (.ren rfl))
  | (rw [show Ybg op=.iface 208 (.int .i64 2) by simp [Ybg, *]];exact Zad [] (.ren rfl))
  | (rw [show Ybg op=.iface 208 (.int .i64 1) by simp [Ybg, *]];exact Zad [] (.ren rfl))
  | (rw [show Ybg op=.iface 208 (.int .i64 3) by simp [Ybg, *]];exact Zad [] (.ren rfl))
  | (rw [show Ybg op=.iface 210 (.agg #[]) by simp [Ybg, *]];exact Zad [] (.ren rfl))
abbrev Pl:=Int × Int × Int
abbrev plA (x:Pl):List AV:=[V.int x.1,.st [V.int x.2.1,V.int x.2.2]]
abbrev nodeAt (nodes:List Nd) (n:Int):Nd:=nodes.getD n.toNat (0,0,[])
def YgE (nodes:List Nd):Nat→Int→Int→Int→List Pl
 | 0,n,s,d=>[(n,s,d)]
 | f+1,n,s,d=>(n,s,d)::(nodeAt nodes n).2.2.zipIdx.flatMap fun q=>YgE nodes f q.1 (if (nodeAt nodes n).1=9∧q.2=1 then s+1 else s) (d+1)
def YuM (nodes:List Nd) (x:Pl):Prop:=0≤x.1∧x.1 < nodes.length∧x.2.2≤12
structure BlS where
 k:Nat
 B:Base
 hB:B.γ.length=0
abbrev yA (P:Program) {α:Type} {ar:α→List AV} {ok:α→Prop} {pv:Value} {L:List α} (I:ItX P ar ok pv L):AV:=.ep [.raw (.func (.yield I.l) #[] #[])] 0
theorem Yi4 (τ:Nat→Option Nat) (f:Fn) (caps:List AV) (k:Nat):V.ren τ (Yp4 f caps k)=Yp4 f caps k:=by cases k<;>rfl
set_option maxHeartbeats 4000000 in
theorem YlM (p:Prg) (hpk:∀ x∈p.nodes,x.2.2.length*8≤140737488355328) (L:List Pl) (I:ItX Tryz.prog plA (YuM p.nodes) upv L):∀ (f:Nat) (n s d:Int) (pre:List Pl),d+f=13→0≤s→s+f < 1000000000→1≤d→(∃ r,pre++YgE p.nodes f n s d++r=L) →
  Yrs I 193 [V.int n,.st [V.int s,V.int d],yA Tryz.prog I,.ep (YbB p) 0,Yp4 (.func 193) [yA Tryz.prog I,.ep (YbB p) 0] f] pre (pre++YgE p.nodes f n s d) (.bool true):=by
 intro f;induction f with
 | zero =>
   intro n s d pre hd hs hsf hd1 hL;obtain ⟨r,hr⟩:=hL;refine Yrs.enter Tryz.tabOK Tryz.mixed Tryz.func193 rfl rfl rfl fun m0 W0 B hB hA=>?_;refine YaF ?_;refine Zag 6 ?_;refine ZcR (pre:=pre) (y:=(n,s,d)) hA ⟨r,by rw [← hr,YgE];simp⟩ (fun B1 hB1 hA1=>?_) (fun B1 hB1 hA1=>?_)
   ·exfalso;have:=I.hok _ _ _ hA1.holds (n,s,d) (by simp)
    have:=this.2.2
    simp at this hd;omega
   ·repeat' (first|refine Zam ?_|refine Zak ?_)
    exact ZbS hA1
 | succ f ih =>
   intro n s d pre hd hs hsf hd1 hL;obtain ⟨r,hr⟩:=hL;refine Yrs.enter Tryz.tabOK Tryz.mixed Tryz.func193 rfl rfl rfl fun m0 W0 B hB hA=>?_;simp only [Yp4,List.cons_append,List.nil_append];rw [YgE] at hr ⊢;have hpre:∃ r',pre++(n,s,d)::r'=L:=⟨_,by rw [← hr,List.append_assoc,List.cons_append]⟩;refine YaF ?_;refine Zag 6 ?_;refine ZcR (pre:=pre) (y:=(n,s,d)) hA hpre (fun B1 hB1 hA1=>?_) (fun B1 hB1 hA1=>?_);rotate_left
   ·repeat' (first|refine Zam ?_|refine Zak ?_)
    exact ZbS hA1
   have hok:=I.hok _ _ _ hA1.holds (n,s,d) (by simp);obtain ⟨hn0,hn1,hd2⟩:=hok;dsimp only at hn0 hn1 hd2;obtain ⟨x,hx⟩:∃ x,x=nodeAt p.nodes n:=⟨_,rfl⟩;have hxn:p.nodes[n.toNat]'(by omega)=x:=by rw [hx,nodeAt,List.getD_eq_getElem?_getD,List.getElem?_eq_getElem (by omega)];rfl
   rw [← hx] at hr ⊢;refine YaF ?_;have hkl:=hpk x (hxn ▸ List.getElem_mem _);simp only [hxn];obtain ⟨op,xn,kids⟩:=x;dsimp only at hkl hr ⊢;obtain ⟨g,hg⟩:∃ g:Int × Nat→List Pl,g=fun q=>YgE p.nodes f q.1 (if op=9∧q.2=1 then s+1 else s) (d+1):=⟨_,rfl⟩
   rw [← hg] at hr ⊢;have hzl:kids.zipIdx.length=kids.length:=by simp
   refine Zb3 (S:=BlS) (fun S=>⟨Tryz.prog,Tryz.tab,Tryz.tabOK,Tryz.mixed,55,[],S.B,0,S.hB,some none,0⟩)
    (fun S=>[(0,V.int n),(2,yA Tryz.prog I),(3,.ep (YbB p) 0),(4,.ep [.fn (.func 193) [] [yA Tryz.prog I,.ep (YbB p) 0,Yp4 (.func 193) [yA Tryz.prog I,.ep (YbB p) 0] f]] 0),(6,.ep [V.int s,V.int d] 0),(7,V.bool false),(21,ints kids),(22,V.int kids.length),(23,V.int S.k)]) (fun _=>[])
    (fun S=>S.k≤kids.length∧AtX I m0 W0 (I.J (pre++(n,s,d)::(kids.zipIdx.take S.k).flatMap g)) S.B) (fun S=>kids.length-S.k) ⟨0,B1,hB1⟩ ⟨Nat.zero_le _,hA1⟩ rfl (fun _ _=>rfl) [] rfl rfl ?_ ?_ ?_
   ·with_unfolding_all exact trivial
   ·repeat' (first|with_unfolding_all exact trivial|exact LE.ren (by with_unfolding_all exact rfl)|with_unfolding_all refine And.intro ⟨_,by with_unfolding_all exact rfl,?_⟩ ?_)
   rintro ⟨k,B2,hB2⟩ ⟨hk,hA2⟩;dsimp only at hk hA2 ⊢;by_cases hkl2:k < kids.length
   ·have hts:kids.zipIdx.take (k+1)=kids.zipIdx.take k++[(kids[k],k)]:=by
     rw [Yab (by simpa using hkl2)];simp
    obtain ⟨s2,hs2⟩:∃ s2,s2=if op=9∧k=1 then s+1 else s:=⟨_,rfl⟩;have hgk:g (kids[k],k)=YgE p.nodes f kids[k] s2 (d+1):=by rw [hg,hs2]
    have hpost:pre++(n,s,d)::(kids.zipIdx.take (k+1)).flatMap g=(pre++(n,s,d)::(kids.zipIdx.take k).flatMap g)++YgE p.nodes f kids[k] s2 (d+1):=by
     rw [hts,List.flatMap_append,List.flatMap_cons,List.flatMap_nil,List.append_nil,hgk];simp
    have hdrop:kids.zipIdx=kids.zipIdx.take (k+1)++kids.zipIdx.drop (k+1):=(List.take_append_drop ..).symm;have hp2:∃ r',(pre++(n,s,d)::(kids.zipIdx.take k).flatMap g)++YgE p.nodes f kids[k] s2 (d+1)++r'=L:=by
     refine ⟨(kids.zipIdx.drop (k+1)).flatMap g++r,?_⟩;have e3:kids.zipIdx.flatMap g=(kids.zipIdx.take (k+1)).flatMap g++(kids.zipIdx.drop (k+1)).flatMap g:=by rw [← List.flatMap_append,← hdrop]
     rw [← hpost,← hr,e3];simp only [List.append_assoc,List.cons_append]
    have hv:=ih kids[k] s2 (d+1) (pre++(n,s,d)::(kids.zipIdx.take k).flatMap g) (by omega) (by rw [hs2];split<;>omega) (by rw [hs2];split<;>omega) (by omega) hp2;rw [← hpost] at hv;have hop:p.nodes[n.toNat].1=op:=by rw [hxn]
    repeat' (with_reducible first|refine OL.st ?_|refine OL.alloc ?_|refine OL.store ?_|refine Zau ?_|refine OL.build ?_|refine TC.region ?_|refine TC.seq ?_|refine OL.nil ?_|refine Zap ?_|refine TC.block ?_|refine TC.skip ?_|refine Za9 ?_|refine ZaB ?_|refine ZaD ?_|refine Zay ?_ ?_<;>(intro hc;try (exfalso;omega))|refine Zaz ?_ ?_<;>(intro hc;try (exfalso;omega))|fail)
    ·obtain rfl:s2=s+1:=by rw [hs2,if_pos ⟨by omega,by omega⟩]
     refine Zag 10 ?_;refine Zb7 hA2 hv Tryz.func193 rfl (fun B3 hB3 hA3=>?_) (fun B3 hB3 hA3=>?_) (hle:=by with_unfolding_all exact ⟨.ren rfl,.ren rfl,.ren rfl,.ren rfl,.ren (Yi4 _ _ _ f),trivial⟩)
     ·refine YaF ?_;exact ZbP ⟨k+1,B3,hB3⟩ [] ⟨by dsimp only;omega,hA3⟩ (by dsimp only;omega)
     ·repeat' (first|refine Zam ?_|refine Zak ?_)
      exact ZbS hA3
    ·obtain rfl:s2=s:=by rw [hs2,if_neg (by omega)]
     refine Zag 10 ?_;refine Zb7 hA2 hv Tryz.func193 rfl (fun B3 hB3 hA3=>?_) (fun B3 hB3 hA3=>?_) (hle:=by with_unfolding_all exact ⟨.ren rfl,.ren rfl,.ren rfl,.ren rfl,.ren (Yi4 _ _ _ f),trivial⟩)
     ·refine YaF ?_;exact ZbP ⟨k+1,B3,hB3⟩ [] ⟨by dsimp only;omega,hA3⟩ (by dsimp only;omega)
     ·repeat' (first|refine Zam ?_|refine Zak ?_)
      exact ZbS hA3
    ·obtain rfl:s2=s:=by rw [hs2,if_neg (by omega)]
     refine Zag 10 ?_;refine Zb7 hA2 hv Tryz.func193 rfl (fun B3 hB3 hA3=>?_) (fun B3 hB3 hA3=>?_) (hle:=by with_unfolding_all exact ⟨.ren rfl,.ren rfl,.ren rfl,.ren rfl,.ren (Yi4 _ _ _ f),trivial⟩)
     ·refine YaF ?_;exact ZbP ⟨k+1,B3,hB3⟩ [] ⟨by dsimp only;omega,hA3⟩ (by dsimp only;omega)
     ·repeat' (first|refine Zam ?_|refine Zak ?_)
      exact ZbS hA3
   ·rw [List.take_of_length_le (by simp;omega)] at hA2;refine YaF ?_;exact Zdz hA2 rfl
theorem YjN (c:Int):V.Spec Tryz.prog 263 [V.int c] [] (V.bool (c != 0)) []:=by
 refine Se Tryz.func263 rfl rfl rfl fun B hB=>?_;repeat' (with_reducible first|refine OL.st ?_|refine TC.region ?_|refine TC.seq ?_|refine OL.nil ?_|refine Zap ?_|refine TC.ret ?_|fail)
 refine Zad [] (.bool ?_);by_cases h:c=0<;>simp [h]
theorem Ymu (l:List Int) (hb:l.length≤1000000000):V.Spec Tryz.prog 257 [ints l] [] (.hs 0) [.gs false 3 1 none ((bare l).map V.int)]:=by
 refine Se Tryz.func257 rfl rfl rfl fun B hB=>?_;repeat' (with_reducible first|refine OL.st ?_|refine TC.region ?_|refine TC.seq ?_|refine OL.nil ?_|refine Zap ?_|fail)
 refine OL.c (YdK l (fun c=>c != 0) hb) Tryz.func258 ?_ (hle:=by exact ⟨.ren rfl,.fun0 Tryz.func263 (fun c _=>YjN c),trivial⟩);repeat' (with_reducible first|refine OL.st ?_|refine OL.nil ?_|refine Zap ?_|refine TC.ret ?_|fail)
 exact Zad [0] (.ren rfl)
abbrev Ypo (x:Nat):AV:=.st [V.u64 x]
def setWith (x:Nat) (c:Nat):Nat:=x ||| 1 <<< c
theorem Yd4 (x:Nat) (hx:x < 2 ^ 64) (c:Int) (h0:0≤c) (h1:c < 64):V.Spec Tryz.prog 230 [Ypo x,V.int c] [] (Ypo (setWith x c.toNat)) []:=by
 refine Se Tryz.func230 rfl rfl rfl fun B hB=>?_;repeat' (with_reducible first|refine OL.box ?_|refine OL.alloc ?_|refine TC.region ?_|refine TC.seq ?_|refine OL.nil ?_|refine Zap ?_|fail)
 (refine Zal (id:=1) true 6 7 ?_<;>refine Zaf 0 1 2 3 ?_<;>refine Zae 4 5 ?_<;>(refine Zac 6 ?_;refine OL.store ?_;refine OL.nil ?_;refine Zab ?_)<;>refine Zaa ?_)
 repeat' (with_reducible first|refine OL.st ?_|refine Zau ?_|refine TC.region ?_|refine TC.seq ?_|refine OL.nil ?_|refine Zap ?_|refine TC.ret ?_|fail)
 exact Zba [] (.ren rfl)
theorem YjQ (x y:Nat) (hx:x < 2 ^ 64) (hy:y < 2 ^ 64):V.Spec Tryz.prog 231 [Ypo x,Ypo y] [] (Ypo (x ||| y)) []:=by
 refine Se Tryz.func231 rfl rfl rfl fun B hB=>?_;repeat' (with_reducible first|refine OL.st ?_|refine OL.box ?_|refine OL.alloc ?_|refine OL.store ?_|refine Zau ?_|refine TC.region ?_|refine TC.seq ?_|refine OL.nil ?_|refine Zap ?_|refine TC.ret ?_|fail)
 exact Zba [] (.ren rfl)
theorem Ydc {x c:Nat} (hx:x < 2 ^ 64) (hc:c < 64):setWith x c < 2 ^ 64:=Nat.or_lt_two_pow hx (by rw [Nat.one_shiftLeft];exact Nat.pow_lt_pow_right (by omega) hc)
set_option maxHeartbeats 1000000 in
theorem YeG (g:List (List Int)):V.Spec Tryz.prog 207 [YbU g] [] (V.bool (fine g)) []:=by
 refine Se Tryz.func207 rfl rfl rfl fun B hB=>?_;refine ZaS 0 fun hlen=>?_;repeat' (with_reducible first|refine OL.st ?_|refine TC.region ?_|refine TC.seq ?_|refine OL.nil ?_|refine Zap ?_|refine TC.block ?_|refine TC.skip ?_|refine Zay ?_ ?_<;>(intro hc;try (exfalso;omega))|refine TC.ret ?_|refine ZaE ?_|fail)
 ·refine Zad [] (.bool ?_);have:decide (g.length≤16)=false:=by simp;omega
  simp [fine,this]
 have hfine:fine g=Yb6 0 g:=by
  have:decide (g.length≤16)=true:=by simp;omega
  simp [fine,this]
 have h16:g.length≤16:=by omega
 refine Zat (fun i:Nat=>[(10,YbU g),(11,V.int g.length),(12,V.int i)]) (fun _=>[]) (fun i=>i≤g.length∧Yb6 0 g=Yb6 i (g.drop i)) (fun i=>g.length-i) 0 [] ⟨Nat.zero_le _,rfl⟩ ?_;rintro i ⟨hi,hinv⟩;repeat' (with_reducible first|refine OL.st ?_|refine TC.region ?_|refine TC.seq ?_|refine OL.nil ?_|refine Zap ?_|refine TC.block ?_|refine TC.skip ?_|refine TC.exit ?_|refine Za3 ?_|refine Za2 ?_|refine Zay ?_ ?_<;>(intro hc;try (exfalso;omega))|refine TC.ret ?_|refine ZaE ?_|refine ZaK ?_|fail)
 ·refine Zad [] (.bool ?_);rw [hfine,hinv,Yac (by omega)];have:decide (g[i].length≤3)=false:=by simp;omega
  simp [Yb6,this]
 ·have hr3:g[i].length≤3:=by omega
  have hst:Yb6 i (g.drop i)=(okRow i [] g[i]&&Yb6 (i+1) (g.drop (i+1))):=by
   rw [Yac (by omega)];have:decide (g[i].length≤3)=true:=by simp;omega
   simp [Yb6,this]
  generalize g[i]=r at *
  refine Zat (fun k:Nat=>[(3,V.int i),(4,ints r),(20,ints r),(21,V.int r.length),(22,V.int k),(10,YbU g),(11,V.int g.length),(12,V.int i)]) (fun _=>[]) (fun k=>k≤r.length∧okRow i [] r=okRow i (r.take k) (r.drop k)) (fun k=>r.length-k) 0 [] ⟨Nat.zero_le _,rfl⟩ ?_;rintro k ⟨hk,hki⟩;have hfail:okRow i (r.take k) (r.drop k)=false→fine g=false:=fun hb=>by rw [hfine,hinv,hst,hki.trans hb];rfl
  repeat' (with_reducible first|refine OL.st ?_|refine TC.region ?_|refine TC.seq ?_|refine OL.nil ?_|refine Zap ?_|refine TC.block ?_|refine TC.skip ?_|refine ZaM ?_|refine TC.exit ?_|refine Za3 ?_|refine Za2 ?_|refine ZaY ?_|refine ZaB ?_|refine ZaD ?_|refine Zay ?_ ?_<;>(intro hc;try (exfalso;omega))|refine Zaz ?_ ?_<;>(intro hc;try (exfalso;omega))|refine TC.ret ?_|refine ZaE ?_|refine ZaK ?_|fail)
  ·refine Zad [] (.bool ?_);rw [hfail];rw [Yac (by omega)];have:decide (3≤r[k])=false:=by simp;omega
   simp [okRow,this]
  ·refine Zad [] (.bool ?_);rw [hfail];rw [Yac (by omega)];have:decide (r[k] < 3+(i:Int))=false:=by simp;omega
   simp [okRow,this]
  ·refine OL.c (Yav (r.take k) r[k]) Tryz.func172 ?_;have e1:decide (3≤r[k])=true:=by simp;omega
   have e2:decide (r[k] < 3+(i:Int))=true:=by simp;omega
   repeat' (with_reducible first|refine OL.st ?_|refine OL.nil ?_|refine Zap ?_|fail)
   refine Zbl (fun hct=>?_) (fun hct=>?_)
   ·repeat' (with_reducible first|refine OL.st ?_|refine TC.region ?_|refine TC.seq ?_|refine OL.nil ?_|refine Zap ?_|refine TC.ret ?_|refine ZaE ?_|refine ZaK ?_|fail)
    refine Zad [] (.bool ?_);rw [hfail];rw [Yac (by omega),okRow,hct];simp
   ·repeat' (with_reducible first|refine OL.st ?_|refine TC.region ?_|refine OL.nil ?_|refine Zap ?_|refine TC.skip ?_|refine ZaM ?_|fail)
    refine Zan (k+1) [] ⟨by omega,?_⟩ (by omega);rw [hki,Yac (by omega),Yab (by omega)];rw [okRow,e1,e2,hct];rfl
  ·refine Zan (i+1) [] ⟨by omega,?_⟩ (by omega);rw [hinv,hst,hki,Yat (by omega)];rfl
 ·refine Zad [] (.bool ?_);rw [hfine,hinv,Yat (by omega)];rfl
theorem Yij (c h:Int):V.Spec Tryz.prog 259 [V.int c,.ep [V.int h] 0] [] (V.bool (c != h)) []:=by
 refine Se Tryz.func259 rfl rfl rfl fun B hB=>?_;repeat' (with_reducible first|refine OL.st ?_|refine TC.region ?_|refine TC.seq ?_|refine OL.nil ?_|refine Zap ?_|refine TC.ret ?_|fail)
 refine Zad [] (.bool ?_);by_cases e:c=h<;>simp [e]
theorem Ylz {all:List (List Int)} {k:Nat} {h:Int} (hk:k < all.length):free (all.take (k+1)) h=(free (all.take k) h&&!(all[k].drop 1).contains h):=by
 rw [Yab hk];simp only [free,List.all_append,List.all_cons,List.all_nil,Bool.and_true]
theorem Yrm {all:List (List Int)} {k:Nat} {h:Int} (hk:k < all.length) (hc:(all[k].drop 1).contains h=true):free all h=false:=by
 simp only [free,List.all_eq_false];exact ⟨all[k],List.getElem_mem hk,by simp only [hc];simp⟩
set_option maxHeartbeats 2000000 in
theorem Ylh (all0:List (List Int)) (hb:YaY all0≤1000000) (hb2:all0.length≤1000000) :
  V.Spec Tryz.prog 246 [YbU all0] [] (.tp [.hs 0,V.bool (merge all0).2]) [.gs false 3 1 none ((merge all0).1.map V.int)]:=by
 refine Se Tryz.func246 rfl rfl rfl fun B hB=>?_;repeat' (with_reducible first|refine OL.st ?_|refine TC.region ?_|refine TC.seq ?_|refine OL.nil ?_|refine Zap ?_|refine TC.block ?_|refine TC.scope ?_|refine TC.label ?_|fail)
 refine ZaT 4 3 1 ?_;refine Zat (fun s:List (List Int) × List Int=>[(0,YbU s.1),(4,.hs 0)]) (fun s=>[.gs false 3 1 none (s.2.map V.int)]) (fun s=>YaT (YaY all0) all0 []=YaT (YaY s.1) s.1 s.2∧s.1.length=all0.length∧s.2.length+YaY s.1≤YaY all0) (fun s=>YaY s.1) (all0,[]) [0] ⟨rfl,rfl,by simp⟩ ?_;rintro ⟨all,out⟩ ⟨hinv,hlen,htot⟩;simp only at hinv hlen htot ⊢;repeat' (with_reducible first|refine OL.st ?_|refine TC.region ?_|refine TC.seq ?_|refine OL.nil ?_|refine Zap ?_|refine TC.block ?_|refine TC.scope ?_|refine TC.label ?_|fail)
 refine Zat (fun i:Nat=>[(0,YbU all),(4,.hs 0),(5,V.bool (YcQ (all.take i))),(14,YbU all),(15,V.int all.length),(16,V.int i)]) (fun _=>[.gs false 3 1 none (out.map V.int)])
  (fun i=>i≤all.length∧YaG all all=YaG all (all.drop i)) (fun i=>all.length-i) 0 [0] ⟨Nat.zero_le _,rfl⟩ ?_
 rintro i ⟨hi,hn⟩;repeat' (with_reducible first|refine OL.st ?_|refine TC.region ?_|refine TC.seq ?_|refine OL.nil ?_|refine Zap ?_|refine TC.block ?_|refine TC.skip ?_|refine TC.exit ?_|refine Za3 ?_|refine Za2 ?_|refine Zay ?_ ?_<;>(intro hc;try (exfalso;omega))|refine TC.ret ?_|refine ZaE ?_|refine ZaK ?_|refine Zby ?_|fail)
 ·have he:all[i]=[]:=List.eq_nil_of_length_eq_zero (by omega);have e5:YcQ (all.take (i+1))=YcQ (all.take i):=by rw [Yab (by omega),Yd9,he];simp
  exact Zan (i+1) [0] ⟨by omega,by rw [hn,Yac (by omega),he,YfO]⟩ (by omega)
 ·have h0:0 < all[i].length:=by omega
  have hne:all[i]≠[]:=fun e=>by rw [e] at h0;simp at h0
  have hne':all[i].isEmpty=false:=by simpa using hne
  have e5:true=YcQ (all.take (i+1)):=by rw [Yab (by omega),Yd9,hne'];simp
  refine Zat (fun k:Nat=>[(0,YbU all),(4,.hs 0),(5,V.bool true),(7,ints all[i]),(14,YbU all),(15,V.int all.length),(16,V.int i),(23,YbU all),(24,V.int all.length),(25,V.int k)]) (fun _=>[.gs false 3 1 none (out.map V.int)])
   (fun k=>k≤all.length∧free (all.take k) all[i][0]=true) (fun k=>all.length-k) 0 [0] ⟨Nat.zero_le _,rfl⟩ ?_
  rintro k ⟨hk,hfr⟩;repeat' (with_reducible first|refine OL.st ?_|refine OL.alloc ?_|refine OL.store ?_|refine OL.lit ?_|refine ZaH ?_|refine TC.region ?_|refine TC.seq ?_|refine OL.nil ?_|refine Zap ?_|refine TC.block ?_|refine TC.skip ?_|refine TC.exit ?_|refine Za3 ?_|refine Za2 ?_|refine Zay ?_ ?_<;>(intro hc;try (exfalso;omega))|fail)
  ·have hkl:k < all.length:=by omega
   (refine Zal (id:=11) true 11 11 ?_<;>refine OD.st 0 ?_<;>refine OD.st 1 ?_<;>refine OD.st 2 ?_<;>refine OD.st 3 ?_<;>refine Zaw 32 ?_ ?_<;>(intro hc;try (exfalso;omega))<;>(first|(refine OD.st 4 ?_)|(refine OD.of 4 ?_))<;>(first|refine OD.st 5 ?_|refine OD.of 5 ?_)<;>(first|refine OD.st 6 ?_|refine OD.of 6 ?_)<;>(first|refine OD.st 7 ?_|refine OD.of 7 ?_)<;>(first|refine OD.st 8 ?_|refine OD.of 8 ?_)<;>(first|refine Zah 9 (Yav (all[k].drop 1) all[i][0]) Tryz.func172 ?_|refine OD.of 9 ?_)<;>refine OD.st 10 ?_<;>refine Zaa ?_)
   ·repeat' (first|(with_reducible refine Zap ?_)|fail)
    refine Zbl (fun hct=>?_) (fun hct=>?_)
    ·repeat' (with_reducible first|refine OL.st ?_|refine TC.region ?_|refine OL.nil ?_|refine Zap ?_|refine TC.exit ?_|refine Za3 ?_|refine Za2 ?_|refine Zbr ?_ rfl|fail)
     exact Zan (i+1) [0] ⟨by omega,by rw [hn,Yac (by omega),Ygm h0 (Yrm hkl hct)]⟩ (by omega)
    ·repeat' (with_reducible first|refine OL.st ?_|refine TC.region ?_|refine OL.nil ?_|refine Zap ?_|refine TC.skip ?_|refine ZaM ?_|fail)
     exact Zan (k+1) [0] ⟨by omega,by rw [Ylz hkl,hfr,hct];rfl⟩ (by omega)
   ·repeat' (with_reducible first|refine OL.st ?_|refine TC.region ?_|refine OL.nil ?_|refine Zap ?_|refine TC.skip ?_|refine ZaM ?_|refine Za9 ?_|fail)
    refine Zan (k+1) [0] ⟨by omega,?_⟩ (by omega);have he:all[k]=[]:=List.eq_nil_of_length_eq_zero (by omega);rw [Ylz hkl,hfr,he];rfl
  ·rw [Yaf (by omega)] at hfr;have hnx:YaG all all=some all[i][0]:=by rw [hn,Yac (by omega),Ygh h0 hfr]
   have hmn:=YiE (out:=out) hnx;obtain ⟨t,hmem,_⟩:=Ybx all all _ hnx;have htl:=YaN all _ t hmem;have hin:all[i][0]∈(all[i][0]::t):=by simp
   have hol:out.length≤1000000:=by omega
   refine ZaT 11 23 1 ?_;refine Za6 10 ?_;refine Zat (fun j:Nat=>[(4,.hs 0),(10,.ep [V.int all[i][0]] 0),(11,.hs 1),(48,YbU all),(49,V.int all.length),(50,V.int j)]) (fun j=>[.gs false 3 1 none ((out++[all[i][0]]).map V.int),.gs false 23 1 none (((all.take j).map (without · all[i][0])).map ints)]) (fun j=>j≤all.length) (fun j=>all.length-j) 0 [3,4] (Nat.zero_le _) ?_;rintro j hj;have hlj:∀ hl:j < all.length,all[j].length≤1000000:=fun hl=>Nat.le_trans (Ynq (List.getElem_mem hl)) (by omega)
   repeat' (with_reducible first|refine OL.st ?_|refine TC.region ?_|refine TC.seq ?_|refine OL.nil ?_|refine Zap ?_|refine TC.block ?_|refine TC.skip ?_|refine TC.exit ?_|refine Za3 ?_|refine Za2 ?_|refine Zbr ?_ rfl|refine Zay ?_ ?_<;>(intro hc;try (exfalso;omega))|refine Zbx ?_|fail)
   ·refine OL.c (YdK all[j] (fun c=>c != all[i][0]) (by have:=hlj (by omega);omega)) Tryz.func258 ?_ (hle:=by exact ⟨.ren rfl,.fun_ (first':=[]) (caps':=[.ep [V.int all[i][0]] 0]) Tryz.func259 rfl trivial ⟨.ren rfl,trivial⟩ (fun c _=>Yij c all[i][0]),trivial⟩);repeat' (with_reducible first|refine OL.st ?_|refine ZbB ?_|refine OL.lit ?_|refine ZaH ?_|refine TC.region ?_|refine OL.nil ?_|refine Zap ?_|refine ZaM ?_|fail)
    exact Zan (j+1) [0,4] (by omega) (by omega)
   ·rw [Yaf (by omega)];refine Za4 0 ?_;refine Zan (all.map (without · all[i][0]),out++[all[i][0]]) [0] ⟨hinv.trans hmn,by simpa using hlen,?_⟩ htl;simp only [List.length_append,List.length_singleton];omega
 ·have hn0:YaG all all=none:=by rw [hn,Yat (by omega)];rfl
  have hmn:=YiV (out:=out) hn0;rw [Yaf (by omega)];rw [merge,hinv,hmn];exact ZaA [0] (.ren rfl) (.ren rfl)
set_option maxHeartbeats 1000000 in
theorem Yjl (all0:List (List Int)) (hb:YaY all0≤1000000) (hb2:all0.length≤1000000) (hpos:∀ l∈all0,∀ x∈l,0≤x) :
  V.Spec Tryz.prog 204 [YbU all0] [] (.tp [.hs 0,V.bool (merge all0).2]) [.gs false 3 1 none ((merge all0).1.map V.int)]:=by
 refine Se Tryz.func204 rfl rfl rfl fun B hB=>?_;refine go ?_;refine ZaT 4 3 1 ?_;refine Zat (fun s:List (List Int) × List Int=>[(0,YbU s.1),(4,.hs 0)]) (fun s=>[.gs false 3 1 none (s.2.map V.int)]) (fun s=>YaT (YaY all0) all0 []=YaT (YaY s.1) s.1 s.2∧s.1.length=all0.length∧s.2.length+YaY s.1≤YaY all0∧(∀ l∈s.1,∀ x∈l,0≤x)) (fun s=>YaY s.1) (all0,[]) [0] ⟨rfl,rfl,by simp,hpos⟩ ?_;rintro ⟨all,out⟩ ⟨hinv,hlen,htot,hp⟩;simp only at hinv hlen htot hp ⊢;refine go ?_
 refine Zat (fun s:Nat × Option Int × Bool=>[(0,YbU all),(4,.hs 0),(5,V.int (s.2.1.getD (-1))),(6,V.bool s.2.2),(7,V.int s.1)]) (fun _=>[.gs false 3 1 none (out.map V.int)])
  (fun s=>s.1≤all.length∧(s.2.1=none→YaG all all=YaG all (all.drop s.1)∧s.2.2=YcQ (all.take s.1))∧(∀ h,s.2.1=some h→YaG all all=some h∧0≤h)) (fun s=>all.length-s.1) (0,none,false) [0] ⟨Nat.zero_le _,fun _=>⟨rfl,rfl⟩,fun h e=>(by cases e)⟩ ?_
 rintro ⟨i,f,lf⟩ ⟨hi,hnone,hsome⟩;simp only at hi hnone hsome ⊢
 cases f with
 | some h =>
   obtain ⟨hn,h0⟩:=hsome h rfl;simp only [Option.getD_some];have hmn:=YiE (out:=out) hn;obtain ⟨t,hmem,_⟩:=Ybx all all h hn;have htl:=YaN all h t hmem;have hin:h∈(h::t):=by simp
   clear hsome hnone;have hol:out.length≤1000000:=by omega
   (refine goS ?_ ?_<;>intro hc<;>refine go ?_)
   all_goals
    refine ZaT 8 23 1 ?_;refine Zat (fun j:Nat=>[(0,YbU all),(4,.hs 0),(5,V.int h),(8,.hs 1),(9,V.int j)]) (fun j=>[.gs false 3 1 none ((out++[h]).map V.int),.gs false 23 1 none (((all.take j).map (without · h)).map ints)]) (fun j=>j≤all.length) (fun j=>all.length-j) 0 [2,3] (Nat.zero_le _) ?_;rintro j hj;have hlj:∀ hl:j < all.length,all[j].length≤1000000:=fun hl=>Nat.le_trans (Ynq (List.getElem_mem hl)) (by omega)
    (refine goS ?_ ?_<;>intro hc<;>refine go ?_)
    ·refine OL.c (YdW all[j] h (by have:=hlj (by omega);omega)) Tryz.func227 ?_;refine go ?_;exact Zan (j+1) [0,4] (by omega) (by omega)
    ·rw [Yaf (by omega)];refine Za4 0 ?_;refine Zan (all.map (without · h),out++[h]) [0] ⟨hinv.trans hmn,by simpa using hlen,?_,?_⟩ htl
     ·simp only [List.length_append,List.length_singleton];omega
     ·intro l hl' x hx;obtain ⟨l0,hl0',rfl⟩:=List.mem_map.1 hl';exact hp l0 hl0' x (YaI.1 hx).1
 | none =>
   obtain ⟨hn,hlf⟩:=hnone rfl;simp only [Option.getD_none];clear hsome hnone;refine ZaS 0 fun hla=>?_;(refine goS ?_ ?_<;>intro hc<;>first|refine go ?_|(refine goS ?_ ?_<;>intro hc<;>first|refine go ?_|(refine goS ?_ ?_<;>intro hc<;>refine go ?_)))
   ·refine OL.c (Ykw all all[i][0]) Tryz.func228 ?_;have hne:all[i]≠[]:=fun e=>by rw [e] at hc;simp at hc
    have hne':all[i].isEmpty=false:=by simpa using hne
    refine go ?_;refine Zbl (fun hf=>?_) (fun hf=>?_)
    ·refine go ?_;refine Zan (i+1,some all[i][0],true) [0] ⟨by simp only;omega,fun e=>(by cases e),fun h e=>?_⟩ (by simp only;omega)
     cases e
     refine ⟨?_,hp _ (List.getElem_mem _) _ (List.getElem_mem _)⟩;rw [hn,Yac (by omega),Ygh (by omega) hf]
    ·refine go ?_;refine Zan (i+1,none,true) [0] ⟨by simp only;omega,fun _=>⟨?_,?_⟩,fun h e=>(by cases e)⟩ (by simp only;omega)
     ·rw [hn,Yac (by omega),Ygm (by omega) hf]
     ·simp only;rw [Yab (by omega),Yd9];simp [hne']
   ·have he:all[i]=[]:=List.eq_nil_of_length_eq_zero (by omega);refine Zan (i+1,none,lf) [0] ⟨by simp only;omega,fun _=>⟨?_,?_⟩,fun h e=>(by cases e)⟩ (by simp only;omega)
    ·rw [hn,Yac (by omega),he,YfO]
    ·simp only;rw [Yab (by omega),Yd9,he,hlf];simp
   ·have hn0:YaG all all=none:=by rw [hn,Yat (by omega)];rfl
    have hmn:=YiV (out:=out) hn0;rw [Yaf (by omega)] at hlf;rw [merge,hinv,hmn,hlf];exact ZaA [0] (.ren rfl) (.ren rfl)
def lsR:Option (List (List Int))→AV
 | some _=>.tp [.hs 0,V.bool true]
 | none=>.tp [ints [],V.bool false]
def lsE:Option (List (List Int))→V.Eta
 | some all=>[.gs false 23 1 none (all.map ints)]
 | none=>[]
set_option maxHeartbeats 1000000 in
theorem YjS (g ords:List (List Int)) (c:Int) (h0:0≤c) (h1:c < 3+(g.length:Int)) (hb:g.length≤1000000)
  (hps:∀ p∈pOf g c,0≤p∧p < ords.length) (hol:∀ o∈ords,o.length≤1000000) (hpl:(pOf g c).length≤1000000) :
  V.Spec Tryz.prog 203 [YbU g,YbU ords,V.int c] [] (lsR (listsOf ords (pOf g c))) (lsE (listsOf ords (pOf g c))):=by
 refine Se Tryz.func203 rfl rfl rfl fun B hB=>?_;refine go ?_;refine OL.c (YgU g c h0 h1 (by omega)) Tryz.func226 ?_;refine go ?_;generalize hpe:pOf g c=ps at *
 refine ZaT 8 23 1 ?_;refine Zat (fun i:Nat=>[(1,YbU ords),(8,.hs 0),(9,ints ps),(10,V.int i)]) (fun i=>[.gs false 23 1 none (((ps.take i).map fun p=>bare (at_ ords p)).map ints)]) (fun i=>i≤ps.length∧(ps.take i).all (fun p=>!(at_ ords p).isEmpty)=true) (fun i=>ps.length-i) 0 [0] ⟨Nat.zero_le _,rfl⟩ ?_;rintro i ⟨hi,hall⟩;by_cases hlt:i < ps.length
 ·have hpi:=hps ps[i] (List.getElem_mem _);have hpt:ps[i].toNat < ords.length:=by omega
  have hat:at_ ords ps[i]=ords[ps[i].toNat]:=by rw [at_,Yai hpt]
  have hlo:=hol _ (List.getElem_mem hpt);repeat' (with_reducible first|refine OL.st ?_|refine TC.region ?_|refine TC.seq ?_|refine OL.nil ?_|refine Zap ?_|refine TC.block ?_|refine TC.skip ?_|refine Zay ?_ ?_<;>(intro hc;try (exfalso;omega))|refine TC.ret ?_|refine ZaE ?_|refine ZaK ?_|fail)
  ·have he:at_ ords ps[i]=[]:=by rw [hat];exact List.eq_nil_of_length_eq_zero (by omega)
   have:listsOf ords ps=none:=by
    rw [listsOf,if_neg];intro h;have:=List.all_eq_true.1 h ps[i] (List.getElem_mem _)
    rw [he] at this
    cases this
   rw [this];exact ZaA [] (.nil (by decide)) (.ren rfl)
  ·have hne:(at_ ords ps[i]).isEmpty=false:=by
    rw [hat]
    cases hq:ords[ps[i].toNat] with
    | nil=>rw [hq] at hc;simp at hc
    | cons _ _=>rfl
   refine OL.c (YdW (ords[ps[i].toNat]) 0 (by omega)) Tryz.func227 ?_;refine go ?_;have e:(((ps.take i).map fun p=>bare (at_ ords p)).map ints)++[ints (without ords[ps[i].toNat] 0)]=(((ps.take (i+1)).map fun p=>bare (at_ ords p)).map ints):=by
    rw [Yab hlt];simp only [List.map_append,List.map_cons,List.map_nil,hat];rfl
   refine Zan (i+1) [3] ⟨by omega,?_⟩ (by omega);rw [Yab hlt,List.all_append,hall];simp [hne]
 ·refine go ?_;rw [Yaf (by omega)] at hall ⊢;rw [listsOf,if_pos hall];exact ZaA [2] (.ren rfl) (.ren rfl)
set_option maxHeartbeats 1000000 in
theorem YgG (g:List (List Int)) (hf:fine g=true):V.Spec Tryz.prog 182 [YbU g] [] (.hs 0) [.gs true 23 1 none ((orders g).map ints)]:=by
 refine Se Tryz.func182 rfl rfl rfl fun B hB=>?_;have h16:=YaP hf;refine go ?_;refine TC.frz 1 ?_;refine Zat (fun s:Nat × List (List Int)=>[(0,YbU g),(3,.hs 0),(4,V.int s.1)]) (fun s=>[.gs true 23 1 none (s.2.map ints)]) (fun s=>s.2.length=s.1∧0 < s.1∧s.1≤3+g.length∧orders g=Ybo s.2 ((parentsOf g).drop s.1)∧YcI s.2) (fun s=>3+g.length-s.1) (1,[[0]]) [1] ⟨rfl,Nat.one_pos,Nat.le_add_right_of_le (by omega),rfl,YcI.start⟩ ?_;rintro ⟨c,acc⟩ ⟨hal,hc0,hcl,hord,hok⟩;simp only at hal hc0 hcl hord hok ⊢;have hsm:=hok.small (by omega);by_cases hlt:c < 3+g.length
 ·obtain ⟨hp1,hp2,hp3⟩:=YaK hf (c:=(c:Int)) (by omega);rw [Ycn hlt,Ybv] at hord;have hok':=YfL (ps:=pOf g c) hok (fun p hp=>by have:=hp2 p hp;omega) (by omega);have hs:=YjS g acc c (by omega) (by omega) (by omega) (fun p hp=>by have:=hp2 p hp;omega) (fun o ho=>by have:=hsm o ho;omega) (by omega)
  cases hls:listsOf acc (pOf g c) with
  | none =>
    have ho:orderOf acc (pOf g c) acc.length=[]:=by rw [orderOf,hls]
    rw [ho] at hord hok';rw [hls] at hs;simp only [lsR,lsE] at hs;refine go ?_;refine Zbs 1 ?_;refine OL.c hs Tryz.func203 ?_;refine go ?_;exact Zan (c+1,acc++[[]]) [2] ⟨by simp [hal],by simp only;omega,by simp only;omega,hord,hok.snoc hok'⟩ (by simp only;omega)
  | some all =>
    obtain ⟨hb1,hb2,hb3⟩:=Yen hls hok (by omega) (by omega) (fun p hp=>by have:=hp2 p hp;omega);rw [hls] at hs;simp only [lsR,lsE] at hs;have hml:=Ygo all;have ho:orderOf acc (pOf g c) acc.length=if (merge all).2 then (acc.length:Int)::((merge all).1++[0]) else []:=by rw [orderOf,hls]
    refine go ?_;refine Zbs 1 ?_;refine OL.c hs Tryz.func203 ?_;refine go ?_;refine Zbs 0 ?_;refine OL.c (Yjl all (by omega) (by omega) hb3) Tryz.func204 ?_;refine go ?_;refine Zbl (fun hmb=>?_) (fun hmb=>?_)
    ·rw [hmb] at ho;simp only [if_true] at ho;rw [ho,hal] at hord hok';refine go ?_;exact Zan (c+1,acc++[(c:Int)::((merge all).1++[0])]) [8] ⟨by simp [hal],by simp only;omega,by simp only;omega,hord,hok.snoc (by rw [hal];exact hok')⟩ (by simp only;omega)
    ·rw [hmb] at ho;simp only [Bool.false_eq_true,if_false] at ho;rw [ho] at hord hok';refine go ?_;exact Zan (c+1,acc++[[]]) [4] ⟨by simp [hal],by simp only;omega,by simp only;omega,hord,hok.snoc hok'⟩ (by simp only;omega)
 ·refine go ?_;rw [hord,Yat (by rw [Yar];omega)];exact Zad [0] (.ren rfl)
end Go.Proofs
