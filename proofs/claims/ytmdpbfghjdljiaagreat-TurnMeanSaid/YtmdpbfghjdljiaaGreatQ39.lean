/- Part 39 of what the claim is proved by: lemmas on the model and walks through functions of the program; no conditions. -/
import Derived.Test.YtmdpbfghjdljiaaGreatQ16
import Derived.Test.YtmdpbfghjdljiaaGreatQ38
import Derived.Test.YtmdpbfghjdljiaaGreatQ19
import Derived.Test.YtmdpbfghjdljiaaGreatQ13
namespace Go.Proofs
open Go Go.W Go.V
abbrev wC (g:List (List Int)) (ow:List Int) (us:List Nat):List AV:=[rows g,ints ow]++us.map V.u64
abbrev wP (g:List (List Int)) (ow:List Int) (us:List Nat):AV:=.ep (wC g ow us) 0
theorem Ct56 (op:Int):V.Spec Tryz.prog 268 [V.int op] [] (V.int (kidsN op)) []:=by
 refine V.Spec.enter Tryz.tabOK Tryz.mixed Tryz.func268 rfl rfl rfl fun B hB=>?_
 repeat' (with_reducible first|refine OL.st ?_|refine TC.region ?_|refine TC.seq ?_|refine OL.nil ?_|refine TX.thenN ?_|refine TC.block ?_|refine TC.skip ?_|refine TX.blkN ?_|refine TC.ifD ?_ ?_<;>(intro hc;try (exfalso;omega))|refine TC.ret ?_|refine TX.thenR ?_|refine TX.blkR ?_|fail)
 all_goals
  refine TX.rt1 [] (LE.int ?_)
  simp [kidsN, *]
theorem Ct57 (f:Fct):V.Spec Tryz.prog 269 [fctA f] [] (V.bool (leafB f.op)) []:=by
 refine V.Spec.enter Tryz.tabOK Tryz.mixed Tryz.func269 rfl rfl rfl fun B hB=>?_
 (refine goSW ?_ ?_<;>intro hc<;>refine goW ?_)
 all_goals
  refine TX.rt1 [] (LE.bool ?_)
  rw [Bool.eq_iff_iff]
  simp [leafB]
  omega
section
variable (g:List (List Int)) (ow:List Int) (us:List Nat)
theorem Ct60 (hb:g.length≤1000000) (c:Int):V.Spec Tryz.prog 260 [wP g ow us,V.int c] [] (V.bool (decide (3≤c)&&decide (c < 3+(g.length:Int)))) []:=by
 refine V.Spec.enter Tryz.tabOK Tryz.mixed Tryz.func260 rfl rfl rfl fun B hB=>?_
 (refine goSW ?_ ?_<;>intro hc<;>refine goW ?_)
 all_goals
  refine TX.rt1 [] (LE.bool ?_)
  simp [*]
theorem Ct53 (hb:g.length≤1000000) (c:Int):V.Spec Tryz.prog 271 [wP g ow us,V.int c] [] (V.bool (decide (0≤c)&&decide (c < 3+(g.length:Int)))) []:=by
 refine V.Spec.enter Tryz.tabOK Tryz.mixed Tryz.func271 rfl rfl rfl fun B hB=>?_
 (refine goSW ?_ ?_<;>intro hc<;>refine goW ?_)
 all_goals
  refine TX.rt1 [] (LE.bool ?_)
  simp [*]
theorem Ct64 (s:Int):V.Spec Tryz.prog 274 [wP g ow us,V.int s] [] (V.bool (decide (0≤s)&&decide (s < (ow.length:Int)))) []:=by
 refine V.Spec.enter Tryz.tabOK Tryz.mixed Tryz.func274 rfl rfl rfl fun B hB=>?_
 (refine goSW ?_ ?_<;>intro hc<;>refine goW ?_)
 all_goals
  refine TX.rt1 [] (LE.bool ?_)
  simp [*]
theorem Ct52 (dom:Int→Prop) (p:Int→Bool) (x:Int) (hx:dom x):V.Spec Tryz.prog 265 [V.int x,.ep [predI Tryz.prog dom p] 0] [] (V.bool (!p x)) []:=by
 refine V.Spec.enter Tryz.tabOK Tryz.mixed Tryz.func265 rfl rfl rfl fun B hB=>?_
 refine goW ?_
 refine OL.cf x hx ?_
 refine goW ?_
 exact TX.rt1 [] (.ren rfl)
theorem Ct51 (l:List Int) (p:Int→Bool):V.Spec Tryz.prog 259 [ints l,predI Tryz.prog (·∈l) p] [] (V.bool (l.all p)) []:=by
 have h:=Ct315 l (fun x=>!p x)
 refine V.Spec.enter Tryz.tabOK Tryz.mixed Tryz.func259 rfl rfl rfl fun B hB=>?_
 refine goW ?_
 refine OL.frzA 0 ?_
 refine OL.c h Tryz.func48 ?_ (hle:=by exact ⟨.ren rfl,LE.fun_ (first':=[]) (caps':=[.ep [predI Tryz.prog (·∈l) p] 0]) Tryz.func265 rfl trivial ⟨.ren rfl,trivial⟩ (fun x hx=>Ct52 (·∈l) p x hx),trivial⟩)
 refine goW ?_
 refine TX.rt1 [] (.bool ?_)
 rw [List.not_any_eq_all_not];simp
theorem Ct61 (l:List Int):V.Spec Tryz.prog 270 [wP g ow us,ints l] [] (V.bool (pathB ow.length l)) []:=by
 have h:=Ct51 l (fun s=>decide (0≤s)&&decide (s < (ow.length:Int)))
 rw [pathB]
 refine V.Spec.enter Tryz.tabOK Tryz.mixed Tryz.func270 rfl rfl rfl fun B hB=>?_
 refine TC.bl 1 fun hll=>?_
 (refine goSW ?_ ?_<;>intro hc<;>refine goW ?_)
 ·refine OL.c h Tryz.func259 ?_ (hle:=by exact ⟨.ren rfl,LE.fun_ (first':=[wP g ow us]) (caps':=[]) Tryz.func274 rfl ⟨.ren rfl,trivial⟩ trivial (fun x _=>Ct64 g ow us x),trivial⟩)
  refine goW ?_
  refine TX.rt1 [] (.bool ?_)
  rw [decide_eq_true (by omega),Bool.true_and]
 ·refine TX.rt1 [] (.bool ?_)
  rw [decide_eq_false (by omega),Bool.false_and]
end
/-! ## A fact's nodes, with what is left -/
abbrev leftA (b:Bool) (n:Int):AV:=cond b (V.int n) .junk
theorem OE.left {τ T} {b:Bool} {n:Int} {x:AV} (h:b=true→x=V.int n):V.OE τ (.cb T [x]) (.cb T [leftA b n]):=by
 cases b
 ·exact OE.junk1
 ·rw [h rfl];exact OE.ren rfl
def badIx (np no:Nat) (deep:Int):Int→List Fct→Int→Int
 | _,[],_=>-1
 | left,x::r,k=>if okF np no left deep x then badIx np no deep (left-nodesF x) r (k+1) else k
section
variable (g:List (List Int)) (ow:List Int) (us:List Nat)
abbrev capsN (deep:Int):List AV:=[.ep [wP g ow us] 0,.bp 1 0,.ep [V.int deep] 0]
def NodeSp (deep:Int):Prop:=∀ (f:Fct) (left:Int),0≤left→left≤24→V.Spec Tryz.prog 263 [wP g ow us,fctA f,.bp 0 0,V.int deep] [.cb Tc.int [V.int left]] (V.bool (okF g.length ow.length left deep f)) [.cb Tc.int [leftA (okF g.length ow.length left deep f) (left-nodesF f)]]
variable {g ow us}
theorem Ct196 {deep:Int} (hd0:0 < deep) (hd:deep≤12) (H:NodeSp g ow us (deep-1)) (T:Nat) (f:Fct) (left:Int) (h0:0≤left) (h24:left≤24) :
  V.Spec Tryz.prog 272 (fctA f::capsN g ow us deep) [.cb Tc.int [V.int left],.cb T [.bp 0 0]] (V.bool (okF g.length ow.length left (deep-1) f)) [.cb Tc.int [leftA (okF g.length ow.length left (deep-1) f) (left-nodesF f)],.cb T [.bp 0 0]]:=by
 have h:=H f left h0 h24
 cases hb:okF g.length ow.length left (deep-1) f<;>rw [hb] at h<;>simp only [leftA,cond_true,cond_false] at h ⊢
 all_goals
  refine V.Spec.enter Tryz.tabOK Tryz.mixed Tryz.func272 rfl rfl rfl fun B hB=>?_
  refine goW ?_
  refine OL.ch [0] h Tryz.func263 ?_
  refine goW ?_
  exact TX.rt1 [0,1] (.ren rfl)
theorem Ct13 {deep:Int} (hd0:0 < deep) (hd:deep≤12) (H:NodeSp g ow us (deep-1)) (T T2:Nat) (f:Fct) (left:Int) (h0:0≤left) (h24:left≤24) :
  V.Spec Tryz.prog 267 [fctA f,.bp 2 0] [.cb Tc.int [V.int left],.cb T [.bp 0 0],.cb T2 [.fn (.func 272) [] (capsN g ow us deep)]] (V.bool (!okF g.length ow.length left (deep-1) f)) [.cb Tc.int [leftA (okF g.length ow.length left (deep-1) f) (left-nodesF f)],.cb T [.bp 0 0],.cb T2 [.fn (.func 272) [] (capsN g ow us deep)]]:=by
 have h:=Ct196 hd0 hd H T f left h0 h24
 cases hb:okF g.length ow.length left (deep-1) f<;>rw [hb] at h<;>simp only [leftA,cond_true,cond_false] at h ⊢
 all_goals
  refine V.Spec.enter Tryz.tabOK Tryz.mixed Tryz.func267 rfl rfl rfl fun B hB=>?_
  refine goW ?_
  refine OL.chv [0,1] h Tryz.func272 ?_
  refine goW ?_
  exact TX.rt1 [0,1,2] (.ren rfl)
set_option maxHeartbeats 1000000 in
theorem Ct4 {deep:Int} (hd0:0 < deep) (hd:deep≤12) (H:NodeSp g ow us (deep-1)) (T T2:Nat) (l:List Fct) (left:Int) (h0:0≤left) (h24:left≤24) :
  V.Spec Tryz.prog 273 [.sl 6 none (l.map fctA),.fn (.func 267) [] [.bp 2 0]] [.cb Tc.int [V.int left],.cb T [.bp 0 0],.cb T2 [.fn (.func 272) [] (capsN g ow us deep)]]
   (V.int (badIx g.length ow.length (deep-1) left l 0)) [.cb Tc.int [leftA (okFs g.length ow.length left (deep-1) l) (left-nodesL l)],.cb T [.bp 0 0],.cb T2 [.fn (.func 272) [] (capsN g ow us deep)]]:=by
 refine V.Spec.enter Tryz.tabOK Tryz.mixed Tryz.func273 rfl rfl rfl fun B hB=>?_
 refine TC.bl 0 fun hl=>?_
 refine goW ?_
 refine TC.lp (fun k:Nat=>[(0,.sl 6 none (l.map fctA)),(1,.fn (.func 267) [] [.bp 2 0]),(7,V.int l.length),(8,V.int k)]) (fun k=>[.cb Tc.int [V.int (left-nodesL (l.take k))],.cb T [.bp 0 0],.cb T2 [.fn (.func 272) [] (capsN g ow us deep)]])
  (fun k=>k≤l.length∧okFs g.length ow.length left (deep-1) (l.take k)=true∧badIx g.length ow.length (deep-1) left l 0=badIx g.length ow.length (deep-1) (left-nodesL (l.take k)) (l.drop k) k) (fun k=>l.length-k) 0 [0,1,2] ⟨Nat.zero_le _,okFs_nil _ _ _ _ h0 (by omega),by simp [nodesL]⟩ ?_ (ho:=⟨⟨_,rfl,OE.ren (by simp [nodesL];rfl)⟩,⟨_,rfl,OE.ren rfl⟩,⟨_,rfl,OE.ren rfl⟩,trivial⟩)
 rintro k ⟨hk,hok,hinv⟩
 have hokp:=hok
 rw [okFs,Bool.and_eq_true,Bool.and_eq_true,decide_eq_true_eq] at hokp
 have hnl:=hokp.1.1
 by_cases hkl:k < l.length
 ·have h:=Ct13 hd0 hd H T T2 l[k] (left-nodesL (l.take k)) (by omega) (by omega)
  have hsn:=okFs_snoc g.length ow.length left (deep-1) (l.take k) l[k]
  rw [← take_succ hkl,hok,Bool.true_and] at hsn
  have hns:nodesL (l.take (k+1))=nodesL (l.take k)+nodesF l[k]:=by rw [take_succ hkl,nodesL_snoc]
  rw [drop_cons hkl,badIx] at hinv
  generalize nodesL (l.take k)=q at *
  cases hb:okF g.length ow.length (left-q) (deep-1) l[k]
  ·rw [hb] at h hinv hsn
   simp only [leftA,cond_false] at h ⊢
   have hno:okFs g.length ow.length left (deep-1) l=false:=by
    cases hq:okFs g.length ow.length left (deep-1) l with
    | false=>rfl
    | true=>have:=okFs_take g.length ow.length left (deep-1) l (k+1) hq;rw [hsn] at this;cases this
   rw [hno]
   simp only [cond_false]
   refine goW ?_
   refine OL.chv [0,1,2] h Tryz.func267 ?_
   refine goW ?_
   exact TX.rt1 [0,1,2] (.int (by rw [hinv]))
  ·rw [hb] at h hinv hsn
   simp only [leftA,cond_true] at h ⊢
   refine goW ?_
   refine OL.chv [0,1,2] h Tryz.func267 ?_
   refine goW ?_
   have e9:V.int (left-((nodesL (l.take (k+1)):Nat):Int))=V.int (left-q-nodesF l[k]):=congrArg V.int (by omega)
   refine TX.rd (k+1) [0,1,2] ⟨by omega,hsn,?_⟩ (by omega) (ho:=⟨⟨_,rfl,OE.ren (by (try dsimp only);rw [e9];rfl)⟩,⟨_,rfl,OE.ren rfl⟩,⟨_,rfl,OE.ren rfl⟩,trivial⟩)
   rw [hinv,if_pos rfl,hns]
   congr 1
   omega
 ·rw [take_all (by omega)] at hok hinv ⊢
  rw [drop_nil (by omega),badIx] at hinv
  rw [hok,hinv]
  simp only [leftA,cond_true]
  refine goW ?_
  exact TX.rt1 [0,1,2] (.ren rfl)
theorem badIx_ok (np no:Nat) (deep:Int) (hd:0≤deep):∀ (l:List Fct) (left k:Int),0≤left→0≤k→(0≤badIx np no deep left l k↔okFs np no left deep l=false)
 | [],left,k,h0,_=>by rw [okFs_nil _ _ _ _ h0 hd,badIx];simp
 | x::r,left,k,h0,hk=>by
   have hsn:=okFs_snoc np no left deep [] x
   rw [okFs_nil _ _ _ _ h0 hd,Bool.true_and,List.nil_append,nodesL] at hsn
   have hcons:okFs np no left deep (x::r)=(okF np no left deep x&&okFs np no (left-nodesF x) deep r):=by
    rw [okFs,okF,okFs,nodesL,depthL,nodesOkB,Bool.eq_iff_iff]
    simp only [Bool.and_eq_true,decide_eq_true_eq]
    constructor
    ·rintro ⟨⟨h1,h2⟩,h3,h4⟩
     exact ⟨⟨⟨by omega,by omega⟩,h3⟩,⟨by omega,by omega⟩,h4⟩
    ·rintro ⟨⟨⟨h1,h2⟩,h3⟩,⟨h4,h5⟩,h6⟩
     exact ⟨⟨by omega,by omega⟩,h3,h6⟩
   rw [badIx,hcons]
   cases hb:okF np no left deep x with
   | false=>simp;omega
   | true =>
     have hl:=(okF_parts1 hb)
     rw [if_pos rfl,Bool.true_and]
     exact badIx_ok np no deep hd r (left-nodesF x) (k+1) (by omega) (by omega)
where
 okF_parts1 {np no:Nat} {left deep:Int} {f:Fct} (h:okF np no left deep f=true):(nodesF f:Int)≤left:=by
  rw [okF,Bool.and_eq_true,Bool.and_eq_true,decide_eq_true_eq] at h;exact h.1.1
theorem Ct12 {deep:Int} (hd0:0 < deep) (hd:deep≤12) (H:NodeSp g ow us (deep-1)) (T:Nat) (l:List Fct) (left:Int) (h0:0≤left) (h24:left≤24) :
  V.Spec Tryz.prog 261 [.sl 6 none (l.map fctA),.fn (.func 272) [] (capsN g ow us deep)] [.cb Tc.int [V.int left],.cb T [.bp 0 0]]
   (V.bool (okFs g.length ow.length left (deep-1) l)) [.cb Tc.int [leftA (okFs g.length ow.length left (deep-1) l) (left-nodesL l)],.cb T [.bp 0 0]]:=by
 have hi:=fun T2=>Ct4 hd0 hd H T T2 l left h0 h24
 have hbi:=badIx_ok g.length ow.length (deep-1) (by omega) l left 0 h0 (by omega)
 have hc:∀ T2,V.Spec Tryz.prog 266 [.sl 6 none (l.map fctA),.fn (.func 267) [] [.bp 2 0]] [.cb Tc.int [V.int left],.cb T [.bp 0 0],.cb T2 [.fn (.func 272) [] (capsN g ow us deep)]]
   (V.bool (!okFs g.length ow.length left (deep-1) l)) [.cb Tc.int [leftA (okFs g.length ow.length left (deep-1) l) (left-nodesL l)],.cb T [.bp 0 0],.cb T2 [.fn (.func 272) [] (capsN g ow us deep)]]:=by
  intro T2
  have hi:=hi T2
  generalize badIx g.length ow.length (deep-1) left l 0=ix at *
  cases hb:okFs g.length ow.length left (deep-1) l<;>rw [hb] at hi hbi<;>simp only [leftA,cond_true,cond_false] at hi ⊢
  all_goals
   refine V.Spec.enter Tryz.tabOK Tryz.mixed Tryz.func266 rfl rfl rfl fun B hB=>?_
   refine goW ?_
   refine OL.ch [0,1,2] hi Tryz.func273 ?_
   refine goW ?_
   refine TX.rt1 [0,1,2] (.bool ?_)
   rw [Bool.eq_iff_iff,decide_eq_true_eq,hbi]
   simp
 cases hb:okFs g.length ow.length left (deep-1) l<;>rw [hb] at hc<;>simp only [leftA,cond_true,cond_false] at hc ⊢
 all_goals
  refine V.Spec.enter Tryz.tabOK Tryz.mixed Tryz.func261 rfl rfl rfl fun B hB=>?_
  refine goW ?_
  refine OL.ch [0,1,2] (hc _) Tryz.func266 ?_
  refine goW ?_
  refine TX.rt1 [0,1] (.bool ?_)
  simp
end
end Go.Proofs
namespace Go.Proofs
open Go Go.W Go.V
set_option maxHeartbeats 8000000 in
theorem Ct58 (g:List (List Int)) (ow:List Int) (us:List Nat) (hgb:g.length≤1000000):∀ m:Nat,m≤12→NodeSp g ow us m:=by
 intro m
 induction m with
 | zero =>
   intro _ f left h0 h24
   have e:okF g.length ow.length left ((0:Nat):Int) f=false:=by
    rw [Bool.eq_false_iff];intro h
    rw [okF,Bool.and_eq_true,Bool.and_eq_true,decide_eq_true_eq,decide_eq_true_eq] at h
    have:=depthF_pos f
    omega
   rw [e]
   simp only [leftA,cond_false]
   rw [fctA_eq]
   refine V.Spec.enter Tryz.tabOK Tryz.mixed Tryz.func263 rfl rfl rfl fun B hB=>?_
   by_cases hl:1≤left
   ·refine goW ?_
    (with_reducible refine TC.draw (id:=2) true 27 27 ?_<;>refine OD.st4 0 1 2 3 ?_<;>refine OD.st 4 ?_<;>refine OD.sD 18 ?_ ?_<;>(intro hc;try (exfalso;omega))<;>(first|(with_reducible refine OD.st 5 ?_)|(with_reducible refine OD.of 5 ?_))<;>refine OD.st2 6 7 ?_<;>refine OD.st 8 ?_<;>refine OD.of 9 ?_<;>refine OD.of 10 ?_<;>refine OD.of 11 ?_<;>refine OD.st2 12 13 ?_<;>refine OD.of 14 ?_<;>refine OD.of 15 ?_<;>refine OD.of 16 ?_<;>refine OD.st2 17 18 ?_<;>refine OD.of 19 ?_<;>refine OD.of 20 ?_<;>refine OD.of 21 ?_<;>refine OD.of 22 ?_<;>refine OD.of 23 ?_<;>refine OD.of 24 ?_<;>refine OD.of 25 ?_<;>refine OD.st 26 ?_<;>refine OD.dn ?_)
    all_goals refine goW ?_
    all_goals exact TX.rt1 [0] (.ren rfl) (ho:=⟨⟨_,rfl,OE.junk1⟩,trivial⟩)
   ·refine goW ?_
    (with_reducible refine TC.draw (id:=2) true 27 27 ?_<;>refine OD.st4 0 1 2 3 ?_<;>refine OD.st 4 ?_<;>refine OD.sD 18 ?_ ?_<;>(intro hc;try (exfalso;omega))<;>(first|(with_reducible refine OD.st 5 ?_)|(with_reducible refine OD.of 5 ?_))<;>refine OD.of 6 ?_<;>refine OD.st2 7 8 ?_<;>refine OD.of 9 ?_<;>refine OD.of 10 ?_<;>refine OD.of 11 ?_<;>refine OD.st2 12 13 ?_<;>refine OD.of 14 ?_<;>refine OD.of 15 ?_<;>refine OD.of 16 ?_<;>refine OD.st2 17 18 ?_<;>refine OD.of 19 ?_<;>refine OD.of 20 ?_<;>refine OD.of 21 ?_<;>refine OD.of 22 ?_<;>refine OD.of 23 ?_<;>refine OD.of 24 ?_<;>refine OD.of 25 ?_<;>refine OD.st 26 ?_<;>refine OD.dn ?_)
    all_goals refine goW ?_
    all_goals exact TX.rt1 [0] (.ren rfl) (ho:=⟨⟨_,rfl,OE.junk1⟩,trivial⟩)
 | succ m ih =>
   intro hm f left h0 h24
   have hdd:(((m+1:Nat):Int))-1=(m:Int):=by omega
   have H:NodeSp g ow us (((m+1:Nat):Int)-1):=by rw [hdd];exact ih (by omega)
   have heq:=okF_eq g.length ow.length left ((m+1:Nat):Int) f
   have hnf:=nodesF_eq f
   have hkn:=Ct56 f.op
   have hlf:=Ct57 f
   have hpa:=Ct61 g ow us f.path
   have hcl:=Ct53 g ow us hgb f.cls
   have hall:=fun T (h1:1≤left)=>Ct12 (us:=us) (deep:=((m+1:Nat):Int)) (by omega) (by omega) H T f.kids (left-1) (by omega) (by omega)
   generalize hD:(((m+1:Nat):Int))=D at *
   have hD0:1≤D:=by omega
   have hD12:D≤12:=by omega
   rw [fctA_eq] at hlf ⊢
   obtain ⟨op,arg,path,cls,fn,l⟩:=f
   rw [headB] at heq
   simp only [Fct.op,Fct.arg,Fct.path,Fct.cls,Fct.n,Fct.kids] at *
   by_cases hr2:(1≤left∧1≤op∧op≤7)∧l.length=kidsN op
   rotate_left
   ·have e:okF g.length ow.length left D (Fct.mk op arg path cls fn l)=false:=by
     rw [heq,Bool.eq_false_iff];intro h
     simp only [Bool.and_eq_true,decide_eq_true_eq] at h
     omega
    rw [e]
    simp only [leftA,cond_false]
    by_cases hr3:1≤left∧1≤op∧op≤7
    ·have hlk:¬ l.length=kidsN op:=fun h=>hr2 ⟨hr3,h⟩
     obtain ⟨h1,h2,h3⟩:=hr3
     generalize kidsN op=kn at *
     refine V.Spec.enter Tryz.tabOK Tryz.mixed Tryz.func263 rfl rfl rfl fun B hB=>?_
     refine goW ?_
     (with_reducible refine TC.draw (id:=2) true 27 27 ?_<;>refine OD.st4 0 1 2 3 ?_<;>refine OD.st 4 ?_<;>refine OD.sD 18 ?_ ?_<;>(intro hc;try (exfalso;omega))<;>(first|(with_reducible refine OD.st 5 ?_)|(with_reducible refine OD.of 5 ?_))<;>refine OD.st2 6 7 ?_<;>refine OD.st 8 ?_<;>refine OD.sD 22 ?_ ?_<;>(intro hc;try (exfalso;omega))<;>(first|(with_reducible refine OD.st 9 ?_)|(with_reducible refine OD.of 9 ?_))<;>refine OD.st4 10 11 12 13 ?_<;>refine OD.sD 27 ?_ ?_<;>(intro hc;try (exfalso;omega))<;>(first|(with_reducible refine OD.st 14 ?_)|(with_reducible refine OD.of 14 ?_))<;>refine OD.st4 15 16 17 18 ?_<;>refine OD.sD 32 ?_ ?_<;>(intro hc;try (exfalso;omega))<;>(first|(with_reducible refine OD.st 19 ?_)|(with_reducible refine OD.of 19 ?_))<;>refine OD.st4 20 21 22 23 ?_<;>refine OD.c1 24 hkn Tryz.func268 ?_<;>refine OD.st2 25 26 ?_<;>refine OD.dn ?_)
     all_goals refine goW ?_
     all_goals exact TX.rt1 [0] (.ren rfl) (ho:=⟨⟨_,rfl,OE.junk1⟩,trivial⟩)
    ·refine V.Spec.enter Tryz.tabOK Tryz.mixed Tryz.func263 rfl rfl rfl fun B hB=>?_
     refine goW ?_
     (with_reducible refine TC.draw (id:=2) true 27 27 ?_<;>refine OD.st4 0 1 2 3 ?_<;>refine OD.st 4 ?_<;>refine OD.sD 18 ?_ ?_<;>(intro hc;try (exfalso;omega))<;>(first|(with_reducible refine OD.st 5 ?_)|(with_reducible refine OD.of 5 ?_))<;>(first|refine OD.st 6 ?_|refine OD.of 6 ?_)<;>refine OD.st2 7 8 ?_<;>(first|refine OD.of 9 ?_|refine OD.sD 22 ?_ ?_<;>(intro hc;try (exfalso;omega))<;>(first|(with_reducible refine OD.st 9 ?_)|(with_reducible refine OD.of 9 ?_)))<;>(first|refine OD.st 10 ?_|refine OD.of 10 ?_)<;>(first|refine OD.st 11 ?_|refine OD.of 11 ?_)<;>refine OD.st2 12 13 ?_<;>(first|refine OD.of 14 ?_|refine OD.sD 27 ?_ ?_<;>(intro hc;try (exfalso;omega))<;>(first|(with_reducible refine OD.st 14 ?_)|(with_reducible refine OD.of 14 ?_)))<;>(first|refine OD.st 15 ?_|refine OD.of 15 ?_)<;>(first|refine OD.st 16 ?_|refine OD.of 16 ?_)<;>refine OD.st2 17 18 ?_<;>(first|refine OD.of 19 ?_|refine OD.sD 32 ?_ ?_<;>(intro hc;try (exfalso;omega))<;>(first|(with_reducible refine OD.st 19 ?_)|(with_reducible refine OD.of 19 ?_)))<;>refine OD.of 20 ?_<;>refine OD.of 21 ?_<;>refine OD.of 22 ?_<;>refine OD.of 23 ?_<;>refine OD.of 24 ?_<;>refine OD.of 25 ?_<;>refine OD.st 26 ?_<;>refine OD.dn ?_)
     all_goals refine goW ?_
     all_goals exact TX.rt1 [0] (.ren rfl) (ho:=⟨⟨_,rfl,OE.junk1⟩,trivial⟩)
   obtain ⟨⟨h1,h2,h3⟩,hlk⟩:=hr2
   have hh:(decide (1≤op)&&decide (op≤7)&&decide (l.length=kidsN op))=true:=by simp only [Bool.and_eq_true,decide_eq_true_eq];omega
   have hh2:(decide (1≤left)&&decide (1≤D))=true:=by simp only [Bool.and_eq_true,decide_eq_true_eq];omega
   rw [hh,hh2,Bool.true_and,Bool.and_true] at heq
   cases hlb:leafB op
   ·rw [hlb] at heq hlf
    simp only [Bool.false_eq_true,if_false] at heq
    generalize kidsN op=kn at *
    by_cases hz:(arg=0∧path.length=0)∧cls=0∧fn=0
    rotate_left
    ·have e:okF g.length ow.length left D (Fct.mk op arg path cls fn l)=false:=by
      rw [heq,Bool.eq_false_iff];intro h
      simp only [Bool.and_eq_true,decide_eq_true_eq] at h
      exact hz h.1
     rw [e]
     simp only [leftA,cond_false]
     refine V.Spec.enter Tryz.tabOK Tryz.mixed Tryz.func263 rfl rfl rfl fun B hB=>?_
     refine goW ?_
     (with_reducible refine TC.draw (id:=2) true 27 27 ?_<;>refine OD.st4 0 1 2 3 ?_<;>refine OD.st 4 ?_<;>refine OD.sD 18 ?_ ?_<;>(intro hc;try (exfalso;omega))<;>(first|(with_reducible refine OD.st 5 ?_)|(with_reducible refine OD.of 5 ?_))<;>refine OD.st2 6 7 ?_<;>refine OD.st 8 ?_<;>refine OD.sD 22 ?_ ?_<;>(intro hc;try (exfalso;omega))<;>(first|(with_reducible refine OD.st 9 ?_)|(with_reducible refine OD.of 9 ?_))<;>refine OD.st4 10 11 12 13 ?_<;>refine OD.sD 27 ?_ ?_<;>(intro hc;try (exfalso;omega))<;>(first|(with_reducible refine OD.st 14 ?_)|(with_reducible refine OD.of 14 ?_))<;>refine OD.st4 15 16 17 18 ?_<;>refine OD.sD 32 ?_ ?_<;>(intro hc;try (exfalso;omega))<;>(first|(with_reducible refine OD.st 19 ?_)|(with_reducible refine OD.of 19 ?_))<;>refine OD.st4 20 21 22 23 ?_<;>refine OD.c1 24 hkn Tryz.func268 ?_<;>refine OD.st2 25 26 ?_<;>refine OD.dn ?_)
     all_goals refine goW ?_
     all_goals refine OL.c hlf Tryz.func269 ?_
     all_goals repeat' (with_reducible first|refine OL.st ?_|refine TC.region ?_|refine TC.seq ?_|refine OL.nil ?_|refine TX.thenN ?_|refine TC.ifT ?_|refine OL.gOn ?_|refine OL.gOff ?_|refine TC.ifD ?_ ?_<;>(intro hc;try (exfalso;omega))|refine OL.gD ?_ ?_<;>(intro hc;try (exfalso;omega))|refine TC.ret ?_|refine TX.thenR ?_|refine TX.blkR ?_|fail)
     all_goals exact TX.rt1 [0] (.ren rfl) (ho:=⟨⟨_,rfl,OE.junk1⟩,trivial⟩)
    have hh3:((decide (arg=0)&&decide (path.length=0))&&(decide (cls=0)&&decide (fn=0)))=true:=by simp only [Bool.and_eq_true,decide_eq_true_eq];exact hz
    rw [hh3,Bool.true_and] at heq
    obtain ⟨⟨z1,z2⟩,z3,z4⟩:=hz
    have hall:=fun T=>hall T h1
    rw [← heq] at hall
    have hln:left-1-(nodesL l:Int)=left-(nodesF (Fct.mk op arg path cls fn l):Int):=by omega
    rw [hln] at hall
    generalize left-(nodesF (Fct.mk op arg path cls fn l):Int)=ln at *
    cases hb:okF g.length ow.length left D (Fct.mk op arg path cls fn l)<;>rw [hb] at hall<;>simp only [leftA,cond_false,cond_true] at hall ⊢
    all_goals
     refine V.Spec.enter Tryz.tabOK Tryz.mixed Tryz.func263 rfl rfl rfl fun B hB=>?_
     refine goW ?_
     (with_reducible refine TC.draw (id:=2) true 27 27 ?_<;>refine OD.st4 0 1 2 3 ?_<;>refine OD.st 4 ?_<;>refine OD.sD 18 ?_ ?_<;>(intro hc;try (exfalso;omega))<;>(first|(with_reducible refine OD.st 5 ?_)|(with_reducible refine OD.of 5 ?_))<;>refine OD.st2 6 7 ?_<;>refine OD.st 8 ?_<;>refine OD.sD 22 ?_ ?_<;>(intro hc;try (exfalso;omega))<;>(first|(with_reducible refine OD.st 9 ?_)|(with_reducible refine OD.of 9 ?_))<;>refine OD.st4 10 11 12 13 ?_<;>refine OD.sD 27 ?_ ?_<;>(intro hc;try (exfalso;omega))<;>(first|(with_reducible refine OD.st 14 ?_)|(with_reducible refine OD.of 14 ?_))<;>refine OD.st4 15 16 17 18 ?_<;>refine OD.sD 32 ?_ ?_<;>(intro hc;try (exfalso;omega))<;>(first|(with_reducible refine OD.st 19 ?_)|(with_reducible refine OD.of 19 ?_))<;>refine OD.st4 20 21 22 23 ?_<;>refine OD.c1 24 hkn Tryz.func268 ?_<;>refine OD.st2 25 26 ?_<;>refine OD.dn ?_)
     all_goals refine goW ?_
     all_goals refine OL.c hlf Tryz.func269 ?_
     all_goals refine goW ?_
     all_goals refine OL.frzA 1 ?_
     all_goals refine OL.frzA 4 ?_
     all_goals refine OL.ch [0,3] (hall _) Tryz.func261 ?_
     all_goals refine goW ?_
     all_goals exact TX.rt1 [0] (.ren rfl)
   ·rw [hlb,if_pos rfl] at heq
    rw [hlb] at hlf
    have hk0:kidsN op=0:=by
     simp [leafB] at hlb
     rw [kidsN,if_neg (by omega),if_neg (by omega)]
    have hl0:l=[]:=List.eq_nil_of_length_eq_zero (by omega)
    subst hl0
    rw [okFs_nil _ _ _ _ (by omega) (by omega),Bool.and_true] at heq
    have hn1:nodesF (Fct.mk op arg path cls fn [])=1:=by rw [hnf,nodesL]
    rw [hn1]
    rw [hk0] at hkn
    clear hall hnf
    by_cases harg:0≤arg∧arg < 3
    rotate_left
    ·have e:okF g.length ow.length left D (Fct.mk op arg path cls fn [])=false:=by
      rw [heq,Bool.eq_false_iff];intro h
      simp only [Bool.and_eq_true,decide_eq_true_eq] at h
      exact harg h.1.1
     rw [e]
     simp only [leftA,cond_false]
     refine V.Spec.enter Tryz.tabOK Tryz.mixed Tryz.func263 rfl rfl rfl fun B hB=>?_
     refine goW ?_
     (with_reducible refine TC.draw (id:=2) true 27 27 ?_<;>refine OD.st4 0 1 2 3 ?_<;>refine OD.st 4 ?_<;>refine OD.sD 18 ?_ ?_<;>(intro hc;try (exfalso;omega))<;>(first|(with_reducible refine OD.st 5 ?_)|(with_reducible refine OD.of 5 ?_))<;>refine OD.st2 6 7 ?_<;>refine OD.st 8 ?_<;>refine OD.sD 22 ?_ ?_<;>(intro hc;try (exfalso;omega))<;>(first|(with_reducible refine OD.st 9 ?_)|(with_reducible refine OD.of 9 ?_))<;>refine OD.st4 10 11 12 13 ?_<;>refine OD.sD 27 ?_ ?_<;>(intro hc;try (exfalso;omega))<;>(first|(with_reducible refine OD.st 14 ?_)|(with_reducible refine OD.of 14 ?_))<;>refine OD.st4 15 16 17 18 ?_<;>refine OD.sD 32 ?_ ?_<;>(intro hc;try (exfalso;omega))<;>(first|(with_reducible refine OD.st 19 ?_)|(with_reducible refine OD.of 19 ?_))<;>refine OD.st4 20 21 22 23 ?_<;>refine OD.c1 24 hkn Tryz.func268 ?_<;>refine OD.st2 25 26 ?_<;>refine OD.dn ?_)
     all_goals refine goW ?_
     all_goals refine OL.c hlf Tryz.func269 ?_
     all_goals (refine goSW ?_ ?_<;>intro hc<;>refine goW ?_)
     all_goals exact TX.rt1 [0] (.ren rfl) (ho:=⟨⟨_,rfl,OE.junk1⟩,trivial⟩)
    have e1:(decide (0≤arg)&&decide (arg < 3))=true:=by simp only [Bool.and_eq_true,decide_eq_true_eq];exact harg
    rw [e1,Bool.true_and] at heq
    cases hpb:pathB ow.length path
    ·rw [hpb] at hpa heq
     rw [Bool.false_and] at heq
     rw [heq]
     simp only [leftA,cond_false]
     refine V.Spec.enter Tryz.tabOK Tryz.mixed Tryz.func263 rfl rfl rfl fun B hB=>?_
     refine goW ?_
     (with_reducible refine TC.draw (id:=2) true 27 27 ?_<;>refine OD.st4 0 1 2 3 ?_<;>refine OD.st 4 ?_<;>refine OD.sD 18 ?_ ?_<;>(intro hc;try (exfalso;omega))<;>(first|(with_reducible refine OD.st 5 ?_)|(with_reducible refine OD.of 5 ?_))<;>refine OD.st2 6 7 ?_<;>refine OD.st 8 ?_<;>refine OD.sD 22 ?_ ?_<;>(intro hc;try (exfalso;omega))<;>(first|(with_reducible refine OD.st 9 ?_)|(with_reducible refine OD.of 9 ?_))<;>refine OD.st4 10 11 12 13 ?_<;>refine OD.sD 27 ?_ ?_<;>(intro hc;try (exfalso;omega))<;>(first|(with_reducible refine OD.st 14 ?_)|(with_reducible refine OD.of 14 ?_))<;>refine OD.st4 15 16 17 18 ?_<;>refine OD.sD 32 ?_ ?_<;>(intro hc;try (exfalso;omega))<;>(first|(with_reducible refine OD.st 19 ?_)|(with_reducible refine OD.of 19 ?_))<;>refine OD.st4 20 21 22 23 ?_<;>refine OD.c1 24 hkn Tryz.func268 ?_<;>refine OD.st2 25 26 ?_<;>refine OD.dn ?_)
     all_goals refine goW ?_
     all_goals refine OL.c hlf Tryz.func269 ?_
     all_goals refine goW ?_
     all_goals refine OL.c hpa Tryz.func270 ?_
     all_goals refine goW ?_
     all_goals exact TX.rt1 [0] (.ren rfl) (ho:=⟨⟨_,rfl,OE.junk1⟩,trivial⟩)
    rw [hpb] at hpa heq
    rw [Bool.true_and] at heq
    rw [heq]
    by_cases hop2:op=2
    ·rw [if_pos hop2]
     generalize (decide (0≤cls)&&decide (cls < 3+(g.length:Int)))=cb at *
     refine V.Spec.enter Tryz.tabOK Tryz.mixed Tryz.func263 rfl rfl rfl fun B hB=>?_
     refine goW ?_
     (with_reducible refine TC.draw (id:=2) true 27 27 ?_<;>refine OD.st4 0 1 2 3 ?_<;>refine OD.st 4 ?_<;>refine OD.sD 18 ?_ ?_<;>(intro hc;try (exfalso;omega))<;>(first|(with_reducible refine OD.st 5 ?_)|(with_reducible refine OD.of 5 ?_))<;>refine OD.st2 6 7 ?_<;>refine OD.st 8 ?_<;>refine OD.sD 22 ?_ ?_<;>(intro hc;try (exfalso;omega))<;>(first|(with_reducible refine OD.st 9 ?_)|(with_reducible refine OD.of 9 ?_))<;>refine OD.st4 10 11 12 13 ?_<;>refine OD.sD 27 ?_ ?_<;>(intro hc;try (exfalso;omega))<;>(first|(with_reducible refine OD.st 14 ?_)|(with_reducible refine OD.of 14 ?_))<;>refine OD.st4 15 16 17 18 ?_<;>refine OD.sD 32 ?_ ?_<;>(intro hc;try (exfalso;omega))<;>(first|(with_reducible refine OD.st 19 ?_)|(with_reducible refine OD.of 19 ?_))<;>refine OD.st4 20 21 22 23 ?_<;>refine OD.c1 24 hkn Tryz.func268 ?_<;>refine OD.st2 25 26 ?_<;>refine OD.dn ?_)
     all_goals refine goW ?_
     all_goals refine OL.c hlf Tryz.func269 ?_
     all_goals refine goW ?_
     all_goals refine OL.c hpa Tryz.func270 ?_
     all_goals repeat' (with_reducible first|refine OL.st ?_|refine TC.region ?_|refine TC.seq ?_|refine OL.nil ?_|refine TX.thenN ?_|refine TC.ifF ?_|refine OL.gOn ?_|refine OL.gOff ?_|refine TC.ifD ?_ ?_<;>(intro hc;try (exfalso;omega))|refine OL.gD ?_ ?_<;>(intro hc;try (exfalso;omega))|refine TC.ret ?_|refine TX.thenR ?_|refine TX.blkR ?_|fail)
     ·refine OL.c hcl Tryz.func271 ?_
      refine goW ?_
      refine TX.rt1 [0] (.bool ?_) (ho:=⟨⟨_,rfl,OE.left (fun _=>rfl)⟩,trivial⟩)
      simp [*]
     all_goals refine TX.rt1 [0] (.bool ?_) (ho:=⟨⟨_,rfl,OE.left (fun _=>rfl)⟩,trivial⟩)
     all_goals simp [*]
    ·rw [if_neg hop2]
     refine V.Spec.enter Tryz.tabOK Tryz.mixed Tryz.func263 rfl rfl rfl fun B hB=>?_
     refine goW ?_
     (with_reducible refine TC.draw (id:=2) true 27 27 ?_<;>refine OD.st4 0 1 2 3 ?_<;>refine OD.st 4 ?_<;>refine OD.sD 18 ?_ ?_<;>(intro hc;try (exfalso;omega))<;>(first|(with_reducible refine OD.st 5 ?_)|(with_reducible refine OD.of 5 ?_))<;>refine OD.st2 6 7 ?_<;>refine OD.st 8 ?_<;>refine OD.sD 22 ?_ ?_<;>(intro hc;try (exfalso;omega))<;>(first|(with_reducible refine OD.st 9 ?_)|(with_reducible refine OD.of 9 ?_))<;>refine OD.st4 10 11 12 13 ?_<;>refine OD.sD 27 ?_ ?_<;>(intro hc;try (exfalso;omega))<;>(first|(with_reducible refine OD.st 14 ?_)|(with_reducible refine OD.of 14 ?_))<;>refine OD.st4 15 16 17 18 ?_<;>refine OD.sD 32 ?_ ?_<;>(intro hc;try (exfalso;omega))<;>(first|(with_reducible refine OD.st 19 ?_)|(with_reducible refine OD.of 19 ?_))<;>refine OD.st4 20 21 22 23 ?_<;>refine OD.c1 24 hkn Tryz.func268 ?_<;>refine OD.st2 25 26 ?_<;>refine OD.dn ?_)
     all_goals refine goW ?_
     all_goals refine OL.c hlf Tryz.func269 ?_
     all_goals refine goW ?_
     all_goals refine OL.c hpa Tryz.func270 ?_
     all_goals repeat' (with_reducible first|refine OL.st ?_|refine TC.region ?_|refine TC.seq ?_|refine OL.nil ?_|refine TX.thenN ?_|refine TC.ifF ?_|refine OL.gOn ?_|refine OL.gOff ?_|refine TC.ifD ?_ ?_<;>(intro hc;try (exfalso;omega))|refine OL.gD ?_ ?_<;>(intro hc;try (exfalso;omega))|refine TC.ret ?_|refine TX.thenR ?_|refine TX.blkR ?_|fail)
     all_goals refine TX.rt1 [0] (.bool ?_) (ho:=⟨⟨_,rfl,OE.left (fun _=>rfl)⟩,trivial⟩)
     all_goals simp [betweenV, *]
end Go.Proofs
