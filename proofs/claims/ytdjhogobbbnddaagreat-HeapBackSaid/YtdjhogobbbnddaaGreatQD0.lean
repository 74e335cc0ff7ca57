/- Part 0 of what the claim is proved by: lemmas on the model and walks through functions of the program; no conditions. -/
import Derived.Test.YtdjhogobbbnddaaGreatQ16
import Derived.Test.YtdjhogobbbnddaaGreatQ36
import Derived.Test.YtdjhogobbbnddaaGreatQ23
import Derived.Test.YtdjhogobbbnddaaGreatQ18
import Derived.Test.YtdjhogobbbnddaaGreatQ21
import Derived.Test.YtdjhogobbbnddaaGreatQ41
namespace Go.V
open Go Go.W
section
variable {C:Cx} {ops:Array Oper} {Q:Qt} {ρ:Ro} {η η2:Eta} {rest:List Oper} {T d X:Nat} {pos:String} {af:Array Edge} {x y:Operand} {A:Code}
variable {z:Operand} {M:Bool}
theorem Yxl {P:Program} {e e2:Nat} {k:IntKind} {a b a' b':Int} {M:Bool} {Y:Nat} (h:EqD2 P X e e2 k) (hP:C.P=P:=by with_unfolding_all exact rfl)
  (hx:ev2 ρ x=some (.st [.raw (.int k a),.raw (.int k b)]):=by with_unfolding_all exact rfl) (hy:ev2 ρ y=some (.st [.raw (.int k a'),.raw (.int k b')]):=by with_unfolding_all exact rfl):Yaj C.P C.N C.D (.binOp .neq X x y Y) ρ η (bool (!(a==a'&&b==b'))) M:=by
 subst hP;exact Ycm (ng:=true) (us:=[.int k a,.int k b]) (vs:=[.int k a',.int k b']) hx hy (fun w=>V.eqD2 w h a b a' b') h.gd
end
end Go.V
namespace Go.Proofs
open Go Go.W Go.V
section
variable (p:Prg) (hs:Ya9 p.cls) (hpk:∀ x∈p.nodes,x.2.2.length*8≤140737488355328)
include hs hpk
section
variable (W:List Int) (hW:∀ x∈W,YbC x) (hWl:W.length*8≤140737488355328)
include hW hWl
theorem Ykb:V.Spec Tryz.prog 34 [Ya0 p,Yaw W] [] (V.int (if Ybt p W then 0 else 2)) []:=by
 have key:∀ {k:Int},V.Spec Tryz.prog 50 [.fn (.func 93) [] [.ep (YbB p) 0,.ep [ints W] 0]] [] (V.int k) []→V.Spec Tryz.prog 34 [Ya0 p,Yaw W] [] (V.int k) []:=by
  intro k h;refine Se Tryz.func34 rfl rfl rfl fun B hB=>?_;repeat' (first|(with_reducible refine TC.seq ?_)|(with_reducible refine TC.region ?_))
  with_reducible refine OL.box ?_
  with_reducible refine OL.box ?_
  refine OL.frzB 2 ?_;refine OL.frzB 3 ?_;refine goW ?_;refine OL.c h Tryz.func50 ?_;refine goW ?_;exact TX.rt1 [] (.ren rfl)
 cases hg:Ybt p W with
 | true =>
   have h2:=YaB p hs hpk W hW hWl (by simp only [Ybt,Bool.and_eq_true] at hg;exact hg.1) (by simp only [Ybt,Bool.and_eq_true] at hg;exact hg.2);refine key (YbH (r:=.tp []) Tryz.func93 ?_);refine Se Tryz.func93 rfl rfl rfl fun B hB=>?_;refine goW ?_;refine OL.c h2 Tryz.func64 ?_;refine goW ?_;exact TX.rt0 []
 | false =>
   have h2:=Ybi p hs hpk W hW hWl hg;refine key (Yaz Tryz.func93 ?_);refine YaZ.enter Tryz.tabOK Tryz.mixed Tryz.func93 rfl rfl rfl fun B hB=>?_;refine goW ?_;refine OL.cX [] h2 Tryz.func64 ?_;repeat' (first|refine TX.thenP ?_|refine TX.blkP ?_)
   exact TX.rtP []
end
end
theorem Yd2 (p:Prg) (W ws:List Int) {_o:List Ob} {_v:List (Int × Int)} {e:Int} (h:V.Spec Tryz.prog 50 [.fn (.func 63) [] [.ep (YbB p) 0,.ep [ints W] 0,.ep [ints ws] 0,.bp 0 0,.bp 1 0]] YsP (V.int e) YsP) :
  V.Spec Tryz.prog 18 [Ya0 p,Yaw W,ints ws] [] (.tp [nilA,nilA,V.int e]) []:=by
 refine Se Tryz.func18 rfl rfl rfl fun B hB=>?_;repeat' (first|(with_reducible refine TC.seq ?_)|(with_reducible refine TC.region ?_))
 with_reducible refine OL.box ?_
 with_reducible refine OL.box ?_
 with_reducible refine OL.box ?_
 refine OL.frzB 3 ?_;refine OL.frzB 4 ?_;refine OL.frzB 5 ?_;refine goW ?_;refine OL.ch [3,4] h Tryz.func50 ?_;skip;skip;refine goW ?_;refine TC.cut [(6,.bp 3 0),(7,.bp 4 0),(8,V.int e)] [.dead,.dead,.dead,.cb Tc.Lapi_MeanThing [nilA],.cb Tc.Lapi_MeanVal [nilA]] ?_ ?_
 ·(refine TC.draw (id:=2) false 3 6 ?_<;>refine OD.stT 2 ?_<;>refine OD.n2 0 1 ?_ ?_<;>(first|refine Yaa.at 0 ?_<;>refine Yaa.s ?_ (h:=gv)<;>refine OD.n2 1 3 ?_ ?_<;>(first|refine Yaa.at 1 ?_<;>refine Yaa.s ?_ (h:=gv)<;>(refine OD.a1 3 ?_;refine OL.store ?_;refine OL.nil ?_;refine TX.od ?_)<;>(refine OD.a1 4 ?_;refine OL.store ?_;refine OL.nil ?_;refine TX.od ?_)<;>refine OD.st 5 ?_<;>refine OD.dn ?_|refine Yaa.at 3 ?_<;>(refine Yaa.a ?_;refine OL.store ?_;refine OL.nil ?_;refine TX.od ?_)<;>refine OD.s1 1 ?_<;>(refine OD.a1 4 ?_;refine OL.store ?_;refine OL.nil ?_;refine TX.od ?_)<;>refine OD.st 5 ?_<;>refine OD.dn ?_)|refine Yaa.at 1 ?_<;>refine Yaa.s ?_ (h:=gv)<;>refine OD.s1 0 ?_<;>(refine OD.a1 3 ?_;refine OL.store ?_;refine OL.nil ?_;refine TX.od ?_)<;>(refine OD.a1 4 ?_;refine OL.store ?_;refine OL.nil ?_;refine TX.od ?_)<;>refine OD.st 5 ?_<;>refine OD.dn ?_))
  all_goals exact TX.ct [0,1,2,3,4]
 ·refine goW ?_;exact TX.rv3 [] (.ren rfl) (.ren rfl) (.ren rfl)
section
variable (p:Prg) (hs:Ya9 p.cls) (hpk:∀ x∈p.nodes,x.2.2.length*8≤140737488355328) (W:List Int) (hW:∀ x∈W,YbC x) (hWl:W.length*8≤140737488355328) (ws:List Int) (hws:∀ w∈ws,YbC w) (hwl:ws.length*16≤140737488355328)
include hs hpk hW hWl hws hwl
theorem Yp9 (h:(Yku p W ws).2.2≠0):V.Spec Tryz.prog 18 [Ya0 p,Yaw W,ints ws] [] (.tp [nilA,nilA,V.int (Yku p W ws).2.2]) []:=by
 unfold Yku at h ⊢
 cases hg:Ybt p W with
 | false =>
   have h2:=Ybi p hs hpk W hW hWl hg;rw [Bool.false_and,if_neg (by decide)];refine Yd2 (_o:=[]) (_v:=[]) p W ws (Yaz Tryz.func63 ?_);refine YaZ.enter Tryz.tabOK Tryz.mixed Tryz.func63 rfl rfl rfl fun B hB=>?_;refine goW ?_;refine OL.cX [] h2 Tryz.func64 ?_;repeat' (first|refine TX.thenP ?_|refine TX.blkP ?_)
   exact TX.rtP [0,1]
 | true =>
   rw [hg,Bool.true_and] at h;rw [Bool.true_and];obtain ⟨hp,hgw,st,hst,hG⟩:=Ybe hg;rw [YcP hst] at h ⊢;by_cases hok:ws.all (okW st)=true
   ·rw [if_pos hok] at h ⊢;by_cases h40:(YaU W st).length≤40
    ·rw [if_pos h40] at h;exact (h rfl).elim
    ·rw [if_neg h40];exact Yd2 (_o:=[]) (_v:=[]) p W ws (Yaz Tryz.func63 ((Yni p hs hpk W hW hWl ws hws hp hgw st hst hG hok hwl).no h40))
   ·rw [if_neg hok];have hlt:=fun x hx=>(hG.hd (x:=x) hx).2.1
    have h2:=YaB p hs hpk W hW hWl hp hgw;rw [stW,hst,Option.getD_some] at h2;have hwd:=(Ycz p W st hlt ws hws).no hok;generalize marks W.length st=ms at *
    refine Yd2 (_o:=[]) (_v:=[]) p W ws (Yaz Tryz.func63 ?_);refine YaZ.enter Tryz.tabOK Tryz.mixed Tryz.func63 rfl rfl rfl fun B hB=>?_;refine goW ?_;refine OL.c h2 Tryz.func64 ?_;refine goW ?_;refine OL.cX [2,3,4] hwd Tryz.func65 ?_;repeat' (first|refine TX.thenP ?_|refine TX.blkP ?_)
    exact TX.rtP [0,1]
end
section
variable {sh:Int→Option Nat} {G H:List Int} {sg sk:List Nat}
structure Bis (sh:Int→Option Nat) (G H:List Int) (a b:List Int) (row:List (Nat × Nat)):Prop where
 ok:PairOK row
 hd:∀ x∈row,wAt G x.1=wAt H x.2
 sl:∀ x∈row,Yh1 (Cor G H row) (slotsW sh G x.1) (slotsW sh H x.2)
 rt:Yh1 (Cor G H row) a b
end
abbrev Yd1 (l:List Nat):List Int:=l.map fun (n:Nat)=>(n:Int)
end Go.Proofs
