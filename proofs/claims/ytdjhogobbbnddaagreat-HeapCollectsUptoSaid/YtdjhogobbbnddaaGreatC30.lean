/- Lemmas for the claim; no conditions. -/
import Derived.Test.YtdjhogobbbnddaaGreatC23
import Derived.Test.YtdjhogobbbnddaaGreatC18
import Derived.Test.YtdjhogobbbnddaaGreatC27
import Derived.Test.YtdjhogobbbnddaaGreatC16
import Derived.Test.YtdjhogobbbnddaaGreatC29
namespace Go.Proofs
open Go Go.W Go.V
abbrev wC (g:List (List Int)) (ow:List Int) (us:List Nat):List AV:=[YbU g,ints ow]++us.map V.u64
abbrev wP (g:List (List Int)) (ow:List Int) (us:List Nat):AV:=.ep (wC g ow us) 0
theorem YlZ (op:Int):V.Spec Tryz.prog 251 [V.int op] [] (V.int (Yeh op)) []:=by
 refine Se Tryz.func251 rfl rfl rfl fun B hB=>?_;repeat' (with_reducible first|refine OL.st ?_|refine TC.region ?_|refine TC.seq ?_|refine OL.nil ?_|refine Zap ?_|refine TC.block ?_|refine TC.skip ?_|refine ZaM ?_|refine Zay ?_ ?_<;>(intro hc;try (exfalso;omega))|refine TC.ret ?_|refine ZaE ?_|refine ZaK ?_|fail)
 all_goals
  refine Zad [] (LE.int ?_);simp [Yeh, *]
theorem YmK (f:Fct):V.Spec Tryz.prog 252 [Yck f] [] (V.bool (YcE f.op)) []:=by
 refine Se Tryz.func252 rfl rfl rfl fun B hB=>?_;(refine YnB ?_ ?_<;>intro hc<;>refine goW ?_)
 all_goals
  refine Zad [] (LE.bool ?_);rw [Bool.eq_iff_iff];simp [YcE];omega
section
variable (g:List (List Int)) (ow:List Int) (us:List Nat)
theorem Yoi (hb:g.length≤1000000) (c:Int):V.Spec Tryz.prog 235 [wP g ow us,V.int c] [] (V.bool (decide (3≤c)&&decide (c < 3+(g.length:Int)))) []:=by
 refine Se Tryz.func235 rfl rfl rfl fun B hB=>?_;(refine YnB ?_ ?_<;>intro hc<;>refine goW ?_)
 all_goals
  refine Zad [] (LE.bool ?_);simp [*]
theorem Ykc (hb:g.length≤1000000) (c:Int):V.Spec Tryz.prog 254 [wP g ow us,V.int c] [] (V.bool (decide (0≤c)&&decide (c < 3+(g.length:Int)))) []:=by
 refine Se Tryz.func254 rfl rfl rfl fun B hB=>?_;(refine YnB ?_ ?_<;>intro hc<;>refine goW ?_)
 all_goals
  refine Zad [] (LE.bool ?_);simp [*]
theorem YlN (s:Int):V.Spec Tryz.prog 262 [wP g ow us,V.int s] [] (V.bool (decide (0≤s)&&decide (s < (ow.length:Int)))) []:=by
 refine Se Tryz.func262 rfl rfl rfl fun B hB=>?_;(refine YnB ?_ ?_<;>intro hc<;>refine goW ?_)
 all_goals
  refine Zad [] (LE.bool ?_);simp [*]
theorem YgA (dom:Int→Prop) (p:Int→Bool) (x:Int) (hx:dom x):V.Spec Tryz.prog 248 [V.int x,.ep [YoH Tryz.prog dom p] 0] [] (V.bool (!p x)) []:=by
 refine Se Tryz.func248 rfl rfl rfl fun B hB=>?_;refine goW ?_;refine Zbm x hx ?_;refine goW ?_;exact Zad [] (.ren rfl)
theorem Yel (l:List Int) (p:Int→Bool):V.Spec Tryz.prog 234 [ints l,YoH Tryz.prog (·∈l) p] [] (V.bool (l.all p)) []:=by
 have h:=Ycv l (fun x=>!p x);refine Se Tryz.func234 rfl rfl rfl fun B hB=>?_;refine goW ?_;refine ZbN 0 ?_;refine OL.c h Tryz.func247 ?_ (hle:=by exact ⟨.ren rfl,LE.fun_ (first':=[]) (caps':=[.ep [YoH Tryz.prog (·∈l) p] 0]) Tryz.func248 rfl trivial ⟨.ren rfl,trivial⟩ (fun x hx=>YgA (·∈l) p x hx),trivial⟩);refine goW ?_;refine Zad [] (.bool ?_);rw [List.not_any_eq_all_not];simp
theorem Yl7 (l:List Int):V.Spec Tryz.prog 253 [wP g ow us,ints l] [] (V.bool (Yig ow.length l)) []:=by
 have h:=Yel l (fun s=>decide (0≤s)&&decide (s < (ow.length:Int)));rw [Yig];refine Se Tryz.func253 rfl rfl rfl fun B hB=>?_;refine ZaS 1 fun hll=>?_;(refine YnB ?_ ?_<;>intro hc<;>refine goW ?_)
 ·refine OL.c h Tryz.func234 ?_ (hle:=by exact ⟨.ren rfl,LE.fun_ (first':=[wP g ow us]) (caps':=[]) Tryz.func262 rfl ⟨.ren rfl,trivial⟩ trivial (fun x _=>YlN g ow us x),trivial⟩);refine goW ?_;refine Zad [] (.bool ?_);rw [decide_eq_true (by omega),Bool.true_and]
 ·refine Zad [] (.bool ?_);rw [decide_eq_false (by omega),Bool.false_and]
end
/-! ## A fact's nodes, with what is left -/
abbrev Yc8 (b:Bool) (n:Int):AV:=cond b (V.int n) .junk
theorem OE.left {τ T} {b:Bool} {n:Int} {x:AV} (h:b=true→x=V.int n):V.OE τ (.cb T [x]) (.cb T [Yc8 b n]):=by
 cases b
 ·exact OE.junk1
 ·rw [h rfl];exact OE.ren rfl
def Yh6 (np no:Nat) (deep:Int):Int→List Fct→Int→Int
 | _,[],_=>-1
 | left,x::r,k=>if okF np no left deep x then Yh6 np no deep (left-nodesF x) r (k+1) else k
section
variable (g:List (List Int)) (ow:List Int) (us:List Nat)
abbrev Yi7 (deep:Int):List AV:=[.ep [wP g ow us] 0,.bp 1 0,.ep [V.int deep] 0]
def Yik (deep:Int):Prop:=∀ (f:Fct) (left:Int),0≤left→left≤24→V.Spec Tryz.prog 238 [wP g ow us,Yck f,.bp 0 0,V.int deep] [.cb 3 [V.int left]] (V.bool (okF g.length ow.length left deep f)) [.cb 3 [Yc8 (okF g.length ow.length left deep f) (left-nodesF f)]]
variable {g ow us}
theorem YqU {deep:Int} (hd0:0 < deep) (hd:deep≤12) (H:Yik g ow us (deep-1)) (T:Nat) (f:Fct) (left:Int) (h0:0≤left) (h24:left≤24) :
  V.Spec Tryz.prog 255 (Yck f::Yi7 g ow us deep) [.cb 3 [V.int left],.cb T [.bp 0 0]] (V.bool (okF g.length ow.length left (deep-1) f)) [.cb 3 [Yc8 (okF g.length ow.length left (deep-1) f) (left-nodesF f)],.cb T [.bp 0 0]]:=by
 have h:=H f left h0 h24
 cases hb:okF g.length ow.length left (deep-1) f<;>rw [hb] at h<;>simp only [Yc8,cond_true,cond_false] at h ⊢
 all_goals
  refine Se Tryz.func255 rfl rfl rfl fun B hB=>?_;refine goW ?_;refine Zaj [0] h Tryz.func238 ?_;refine goW ?_;exact Zad [0,1] (.ren rfl)
theorem Ylo {deep:Int} (hd0:0 < deep) (hd:deep≤12) (H:Yik g ow us (deep-1)) (T T2:Nat) (f:Fct) (left:Int) (h0:0≤left) (h24:left≤24) :
  V.Spec Tryz.prog 250 [Yck f,.bp 2 0] [.cb 3 [V.int left],.cb T [.bp 0 0],.cb T2 [.fn (.func 255) [] (Yi7 g ow us deep)]] (V.bool (!okF g.length ow.length left (deep-1) f)) [.cb 3 [Yc8 (okF g.length ow.length left (deep-1) f) (left-nodesF f)],.cb T [.bp 0 0],.cb T2 [.fn (.func 255) [] (Yi7 g ow us deep)]]:=by
 have h:=YqU hd0 hd H T f left h0 h24
 cases hb:okF g.length ow.length left (deep-1) f<;>rw [hb] at h<;>simp only [Yc8,cond_true,cond_false] at h ⊢
 all_goals
  refine Se Tryz.func250 rfl rfl rfl fun B hB=>?_;refine goW ?_;refine Zbg [0,1] h Tryz.func255 ?_;refine goW ?_;exact Zad [0,1,2] (.ren rfl)
set_option maxHeartbeats 1000000 in
theorem YfF {deep:Int} (hd0:0 < deep) (hd:deep≤12) (H:Yik g ow us (deep-1)) (T T2:Nat) (l:List Fct) (left:Int) (h0:0≤left) (h24:left≤24) :
  V.Spec Tryz.prog 261 [.sl 6 none (l.map Yck),.fn (.func 250) [] [.bp 2 0]] [.cb 3 [V.int left],.cb T [.bp 0 0],.cb T2 [.fn (.func 255) [] (Yi7 g ow us deep)]]
   (V.int (Yh6 g.length ow.length (deep-1) left l 0)) [.cb 3 [Yc8 (okFs g.length ow.length left (deep-1) l) (left-nodesL l)],.cb T [.bp 0 0],.cb T2 [.fn (.func 255) [] (Yi7 g ow us deep)]]:=by
 refine Se Tryz.func261 rfl rfl rfl fun B hB=>?_;refine ZaS 0 fun hl=>?_;refine goW ?_;refine Zat (fun k:Nat=>[(0,.sl 6 none (l.map Yck)),(1,.fn (.func 250) [] [.bp 2 0]),(7,V.int l.length),(8,V.int k)]) (fun k=>[.cb 3 [V.int (left-nodesL (l.take k))],.cb T [.bp 0 0],.cb T2 [.fn (.func 255) [] (Yi7 g ow us deep)]])
  (fun k=>k≤l.length∧okFs g.length ow.length left (deep-1) (l.take k)=true∧Yh6 g.length ow.length (deep-1) left l 0=Yh6 g.length ow.length (deep-1) (left-nodesL (l.take k)) (l.drop k) k) (fun k=>l.length-k) 0 [0,1,2] ⟨Nat.zero_le _,YgL _ _ _ _ h0 (by omega),by simp [nodesL]⟩ ?_ (ho:=⟨⟨_,rfl,OE.ren (by simp [nodesL];rfl)⟩,⟨_,rfl,OE.ren rfl⟩,⟨_,rfl,OE.ren rfl⟩,trivial⟩)
 rintro k ⟨hk,hok,hinv⟩;have hokp:=hok;rw [okFs,Bool.and_eq_true,Bool.and_eq_true,decide_eq_true_eq] at hokp;have hnl:=hokp.1.1;by_cases hkl:k < l.length
 ·have h:=Ylo hd0 hd H T T2 l[k] (left-nodesL (l.take k)) (by omega) (by omega);have hsn:=Yk2 g.length ow.length left (deep-1) (l.take k) l[k];rw [← Yab hkl,hok,Bool.true_and] at hsn;have hns:nodesL (l.take (k+1))=nodesL (l.take k)+nodesF l[k]:=by rw [Yab hkl,YeA]
  rw [Yac hkl,Yh6] at hinv;generalize nodesL (l.take k)=q at *
  cases hb:okF g.length ow.length (left-q) (deep-1) l[k]
  ·rw [hb] at h hinv hsn;simp only [Yc8,cond_false] at h ⊢;have hno:okFs g.length ow.length left (deep-1) l=false:=by
    cases hq:okFs g.length ow.length left (deep-1) l with
    | false=>rfl
    | true=>have:=YoV g.length ow.length left (deep-1) l (k+1) hq;rw [hsn] at this;cases this
   rw [hno];simp only [cond_false];refine goW ?_;refine Zbg [0,1,2] h Tryz.func250 ?_;refine goW ?_;exact Zad [0,1,2] (.int (by rw [hinv]))
  ·rw [hb] at h hinv hsn;simp only [Yc8,cond_true] at h ⊢;refine goW ?_;refine Zbg [0,1,2] h Tryz.func250 ?_;refine goW ?_;have e9:V.int (left-((nodesL (l.take (k+1)):Nat):Int))=V.int (left-q-nodesF l[k]):=congrArg V.int (by omega);refine Zan (k+1) [0,1,2] ⟨by omega,hsn,?_⟩ (by omega) (ho:=⟨⟨_,rfl,OE.ren (by (try dsimp only);rw [e9];rfl)⟩,⟨_,rfl,OE.ren rfl⟩,⟨_,rfl,OE.ren rfl⟩,trivial⟩);rw [hinv,if_pos rfl,hns];congr 1;omega
 ·rw [Yaf (by omega)] at hok hinv ⊢;rw [Yat (by omega),Yh6] at hinv;rw [hok,hinv];simp only [Yc8,cond_true];refine goW ?_;exact Zad [0,1,2] (.ren rfl)
theorem Ynt (np no:Nat) (deep:Int) (hd:0≤deep):∀ (l:List Fct) (left k:Int),0≤left→0≤k→(0≤Yh6 np no deep left l k↔okFs np no left deep l=false)
 | [],left,k,h0,_=>by rw [YgL _ _ _ _ h0 hd,Yh6];simp
 | x::r,left,k,h0,hk=>by
   have hsn:=Yk2 np no left deep [] x;rw [YgL _ _ _ _ h0 hd,Bool.true_and,List.nil_append,nodesL] at hsn;have hcons:okFs np no left deep (x::r)=(okF np no left deep x&&okFs np no (left-nodesF x) deep r):=by
    rw [okFs,okF,okFs,nodesL,depthL,nodesOkB,Bool.eq_iff_iff];simp only [Bool.and_eq_true,decide_eq_true_eq];constructor
    ·rintro ⟨⟨h1,h2⟩,h3,h4⟩;exact ⟨⟨⟨by omega,by omega⟩,h3⟩,⟨by omega,by omega⟩,h4⟩
    ·rintro ⟨⟨⟨h1,h2⟩,h3⟩,⟨h4,h5⟩,h6⟩;exact ⟨⟨by omega,by omega⟩,h3,h6⟩
   rw [Yh6,hcons]
   cases hb:okF np no left deep x with
   | false=>simp;omega
   | true =>
     have hl:=(okF_parts1 hb);rw [if_pos rfl,Bool.true_and];exact Ynt np no deep hd r (left-nodesF x) (k+1) (by omega) (by omega)
where
 okF_parts1 {np no:Nat} {left deep:Int} {f:Fct} (h:okF np no left deep f=true):(nodesF f:Int)≤left:=by
  rw [okF,Bool.and_eq_true,Bool.and_eq_true,decide_eq_true_eq] at h;exact h.1.1
theorem YmG {deep:Int} (hd0:0 < deep) (hd:deep≤12) (H:Yik g ow us (deep-1)) (T:Nat) (l:List Fct) (left:Int) (h0:0≤left) (h24:left≤24) :
  V.Spec Tryz.prog 236 [.sl 6 none (l.map Yck),.fn (.func 255) [] (Yi7 g ow us deep)] [.cb 3 [V.int left],.cb T [.bp 0 0]]
   (V.bool (okFs g.length ow.length left (deep-1) l)) [.cb 3 [Yc8 (okFs g.length ow.length left (deep-1) l) (left-nodesL l)],.cb T [.bp 0 0]]:=by
 have hi:=fun T2=>YfF hd0 hd H T T2 l left h0 h24
 have hbi:=Ynt g.length ow.length (deep-1) (by omega) l left 0 h0 (by omega);have hc:∀ T2,V.Spec Tryz.prog 249 [.sl 6 none (l.map Yck),.fn (.func 250) [] [.bp 2 0]] [.cb 3 [V.int left],.cb T [.bp 0 0],.cb T2 [.fn (.func 255) [] (Yi7 g ow us deep)]]
   (V.bool (!okFs g.length ow.length left (deep-1) l)) [.cb 3 [Yc8 (okFs g.length ow.length left (deep-1) l) (left-nodesL l)],.cb T [.bp 0 0],.cb T2 [.fn (.func 255) [] (Yi7 g ow us deep)]]:=by
  intro T2;have hi:=hi T2;generalize Yh6 g.length ow.length (deep-1) left l 0=ix at *
  cases hb:okFs g.length ow.length left (deep-1) l<;>rw [hb] at hi hbi<;>simp only [Yc8,cond_true,cond_false] at hi ⊢
  all_goals
   refine Se Tryz.func249 rfl rfl rfl fun B hB=>?_;refine goW ?_;refine Zaj [0,1,2] hi Tryz.func261 ?_;refine goW ?_;refine Zad [0,1,2] (.bool ?_);rw [Bool.eq_iff_iff,decide_eq_true_eq,hbi];simp
 cases hb:okFs g.length ow.length left (deep-1) l<;>rw [hb] at hc<;>simp only [Yc8,cond_true,cond_false] at hc ⊢
 all_goals
  refine Se Tryz.func236 rfl rfl rfl fun B hB=>?_;refine goW ?_;refine Zaj [0,1,2] (hc _) Tryz.func249 ?_;refine goW ?_;refine Zad [0,1] (.bool ?_);simp
end
end Go.Proofs
