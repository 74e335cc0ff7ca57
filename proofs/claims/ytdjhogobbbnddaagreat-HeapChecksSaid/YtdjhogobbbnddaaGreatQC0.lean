/- Part 0 of what the claim is proved by: lemmas on the model and walks through functions of the program; no conditions. -/
import Derived.Test.YtdjhogobbbnddaaGreatQ36
import Derived.Test.YtdjhogobbbnddaaGreatQ23
import Derived.Test.YtdjhogobbbnddaaGreatQ18
import Derived.Test.YtdjhogobbbnddaaGreatQ21
import Derived.Test.YtdjhogobbbnddaaGreatQ37
import Derived.Test.YtdjhogobbbnddaaGreatQ11
import Derived.Test.YtdjhogobbbnddaaGreatQ27
import Derived.Test.YtdjhogobbbnddaaGreatQ39
import Derived.Test.YtdjhogobbbnddaaGreatQ41
import Derived.Test.YtdjhogobbbnddaaGreatQ19
namespace Go.Proofs
open Go Go.W Go.V
theorem Ywf {p:Prg} {c:Int} (h:Yc4 p c=true):Ybk p=true∧shp p.cls c=some (slotsOf p.cls c.toNat).length:=by
 simp only [Yc4,Bool.and_eq_true,decide_eq_true_eq] at h;exact ⟨h.2.2,by rw [shp,if_pos ⟨h.1,h.2.1⟩]⟩
theorem Yp5 (p:Prg) (c:Int) (_l:List Int) (h:V.Spec Tryz.prog 50 [.fn (.func 112) [] [.ep (YbB p) 0,.ep [V.int c] 0,.bp 0 0]] [.cb Tc.Lint [.raw (.slice none 0 0)]] (V.int 0) [.cb Tc.Lint [(ints _l)]]):V.Spec Tryz.prog 45 [Ya0 p,V.int c] [] (.tp [(ints _l),V.int 0]) []:=by
 refine Se Tryz.func45 rfl rfl rfl fun B hB=>?_;repeat' (first|(with_reducible refine TC.seq ?_)|(with_reducible refine TC.region ?_))
 with_reducible refine OL.box ?_
 with_reducible refine OL.box ?_
 refine OL.frzB 2 ?_;refine OL.frzB 3 ?_;refine goW ?_;refine OL.ch [2] h Tryz.func50 ?_;refine goW ?_;exact TX.rv2 [] (.ren rfl) (.ren rfl)
theorem Yru (p:Prg) (c:Int) (_l:List Int) (h:V.Spec Tryz.prog 50 [.fn (.func 112) [] [.ep (YbB p) 0,.ep [V.int c] 0,.bp 0 0]] [.cb Tc.Lint [.raw (.slice none 0 0)]] (V.int 2) [.cb Tc.Lint [(.raw (.slice none 0 0))]]):V.Spec Tryz.prog 45 [Ya0 p,V.int c] [] (.tp [(.raw (.slice none 0 0)),V.int 2]) []:=by
 refine Se Tryz.func45 rfl rfl rfl fun B hB=>?_;repeat' (first|(with_reducible refine TC.seq ?_)|(with_reducible refine TC.region ?_))
 with_reducible refine OL.box ?_
 with_reducible refine OL.box ?_
 refine OL.frzB 2 ?_;refine OL.frzB 3 ?_;refine goW ?_;refine OL.ch [2] h Tryz.func50 ?_;refine goW ?_;exact TX.rv2 [] (.ren rfl) (.ren rfl)
abbrev stM (p:Prg):Eta:=[.cb Tc.heap_store (stC p (.raw (.slice none 0 0)) 1 (.raw (.slice none 0 0))),.mo (slM p.cls p.cls.length)]
theorem Ypz (p:Prg) (c:Int):Ybu Tryz.prog 95 [.bp 0 0,V.int c] (stM p) (.tp []) (stM p) ((shp p.cls c).isSome=true) (rfv 2) [.dead,.dead]:=by
 refine Ybu.enter Tryz.tabOK Tryz.mixed Tryz.func95 rfl rfl rfl fun B hB=>?_
 cases hsh:shp p.cls c with
 | some n =>
   obtain ⟨g1,_⟩:=YeT hsh;refine goW ?_;refine OL.st ?_ (h:=YrA (.inl ⟨rfl,g1⟩));refine goW ?_;refine OL.c (Ya5 2) Tryz.func68 ?_;refine goW ?_;refine TX.yes rfl ?_;exact TX.rt0 [0,1]
 | none =>
   have hk:=YjL hsh p.cls.length (Nat.le_refl _);refine goW ?_;refine OL.st ?_ (h:=YrA (v:=.raw (.slice none 0 0)) (found:=false) (.inr ⟨rfl,hk,fun _ _ _=>.raw rfl⟩));refine goW ?_;refine OL.cX [] (Ybm 2) Tryz.func68 ?_;repeat' (first|refine TX.thenP ?_|refine TX.blkP ?_)
   refine TX.no (by simp) ?_;exact TX.rtP [0,1] (ho:=by with_unfolding_all exact ⟨⟨_,rfl,OE.dead⟩,⟨_,rfl,OE.dead⟩,trivial⟩)
theorem YsD {p:Prg} {c:Int} (h:Yc4 p c=false):Ybk p=false∨shp p.cls c=none:=by
 cases hp:Ybk p with
 | false=>exact .inl rfl
 | true =>
   refine .inr ?_;rw [shp,if_neg];intro hc;simp [Yc4,hp,hc.1,hc.2] at h
section
variable (p:Prg) (hs:Ya9 p.cls) (hpk:∀ x∈p.nodes,x.2.2.length*8≤140737488355328)
include hs hpk
theorem Yls {c:Int} (h:Yc4 p c=true):V.Spec Tryz.prog 112 [.ep (YbB p) 0,.ep [V.int c] 0,.bp 0 0] [.cb Tc.Lint [.raw (.slice none 0 0)]] (.tp []) [.cb Tc.Lint [ints (slotsOf p.cls c.toNat)]]:=by
 obtain ⟨hp,hc⟩:=Ywf h;have h1:=YdY p hs hpk hp;obtain ⟨g1,_⟩:=YeT hc;have h2:=(Ypz p c).yes (by rw [hc];rfl);refine Se Tryz.func112 rfl rfl rfl fun B hB=>?_;refine goW ?_;refine OL.c h1 Tryz.func49 ?_;refine goW ?_;refine OL.ch [1,2] h2 Tryz.func95 ?_;refine goW ?_;(refine TC.draw (id:=2) true 6 7 ?_<;>refine OD.st 0 ?_<;>refine OD.st 1 ?_<;>refine OD.st 2 ?_<;>refine OD.st 3 ?_<;>refine OD.st 4 ?_<;>refine OD.s1 5 ?_ (h:=YaH (.inl g1))<;>(refine OD.a1 6 ?_;refine OL.store ?_;refine OL.nil ?_;refine TX.od ?_)<;>refine OD.dn ?_)
 refine goW ?_;exact TX.rt0 [0]
theorem YkI {c:Int} (h:Yc4 p c=false):YaZ Tryz.prog 112 [.ep (YbB p) 0,.ep [V.int c] 0,.bp 0 0] [.cb Tc.Lint [.raw (.slice none 0 0)]] (rfv 2) [.cb Tc.Lint [.raw (.slice none 0 0)]]:=by
 cases hp:Ybk p with
 | false =>
   have h1:=Yky p hs hpk hp;refine YaZ.enter Tryz.tabOK Tryz.mixed Tryz.func112 rfl rfl rfl fun B hB=>?_;refine goW ?_;refine OL.cX [] h1 Tryz.func49 ?_;repeat' (first|refine TX.thenP ?_|refine TX.blkP ?_)
   exact TX.rtP [0]
 | true =>
   have h1:=YdY p hs hpk hp;have hc:=(YsD h).resolve_left (by rw [hp];decide);have h2:=(Ypz p c).no (by rw [hc];decide);refine YaZ.enter Tryz.tabOK Tryz.mixed Tryz.func112 rfl rfl rfl fun B hB=>?_;refine goW ?_;refine OL.c h1 Tryz.func49 ?_;refine goW ?_;refine OL.cX [1,2] h2 Tryz.func95 ?_;repeat' (first|refine TX.thenP ?_|refine TX.blkP ?_)
   exact TX.rtP [0]
theorem Ygw {c:Int} (h:Yc4 p c=true):V.Spec Tryz.prog 45 [Ya0 p,V.int c] [] (.tp [ints (slotsOf p.cls c.toNat),V.int 0]) []:=
 Yp5 p c _ (YbH Tryz.func112 (Yls p hs hpk h))
theorem YhY {c:Int} (h:Yc4 p c=false):V.Spec Tryz.prog 45 [Ya0 p,V.int c] [] (.tp [.raw (.slice none 0 0),V.int 2]) []:=
 Yru p c [] (Yaz Tryz.func112 (YkI p hs hpk h))
section
variable (W:List Int) (hW:∀ x∈W,YbC x) (hWl:W.length*8≤140737488355328)
include hW hWl
theorem Ykb:V.Spec Tryz.prog 34 [Ya0 p,Yaw W] [] (V.int (if Ybt p W then 0 else 2)) []:=by
 have key:∀ {k:Int},V.Spec Tryz.prog 50 [.fn (.func 93) [] [.ep (YbB p) 0,.ep [ints W] 0]] [] (V.int k) []→V.Spec Tryz.prog 34 [Ya0 p,Yaw W] [] (V.int k) []:=by
  intro k h;refine Se Tryz.func34 rfl rfl rfl fun B hB=>?_;repeat' (first|(with_reducible refine TC.seq ?_)|(with_reducible refine TC.region ?_))
  with_reducible refine OL.box ?_
  with_reducible refine OL.box ?_
  refine OL.frzB 2 ?_;refine OL.frzB 3 ?_;refine goW ?_;refine OL.c h Tryz.func50 ?_;refine goW ?_;exact TX.rt1 [] (.ren rfl)
 cases hg:Ybt p W with
 | true =>
   have h2:=YaB p hs hpk W hW hWl (by simp only [Ybt,Bool.and_eq_true] at hg;exact hg.1) (by simp only [Ybt,Bool.and_eq_true] at hg;exact hg.2);refine key (YbH (r:=.tp []) Tryz.func93 ?_);refine Se Tryz.func93 rfl rfl rfl fun B hB=>?_;refine goW ?_;refine OL.c h2 Tryz.func64 ?_;refine goW ?_;exact TX.rt0 []
 | false =>
   have h2:=Ybi p hs hpk W hW hWl hg;refine key (Yaz Tryz.func93 ?_);refine YaZ.enter Tryz.tabOK Tryz.mixed Tryz.func93 rfl rfl rfl fun B hB=>?_;refine goW ?_;refine OL.cX [] h2 Tryz.func64 ?_;repeat' (first|refine TX.thenP ?_|refine TX.blkP ?_)
   exact TX.rtP []
end
end
end Go.Proofs
namespace Go.Proofs
open Go Go.W Go.V Go.ChangeShapes Go.WideShapes Go.ChangeAt Go.RowKit Go.Deep
section
variable {H:Type} {enc:TypeId × Value→H} {w:World} {held:Bool}
theorem YxR:Rs enc Tryz.prog w held 3 1 V.int YbC:=by
 intro n cs y h _;obtain ⟨i,rfl,rfl,hw⟩:=DataW.trod_int Tryz.underlying3 h;have:IntKind.i64.min≤i∧i≤IntKind.i64.max:=by simpa [Lit.wf] using hw
 exact ⟨i,CL.one rfl (.raw rfl),rfl,this.1,this.2⟩
theorem Ywo:Rs enc Tryz.prog w held 23 1 ints (fun l=>(∀ x∈l,YbC x)∧l.length*8≤140737488355328):=
 (Rs.slice Tryz.underlying23 (by kernel_rfl) (B:=8) (by kernel_rfl) (by decide) YxR).map (fun x=>x) (fun _=>rfl) (fun _ h=>⟨h.2,YdB h.1⟩)
theorem YwE:Rs enc Tryz.prog w held 30 1 Yaw (fun l=>(∀ x∈l,YbC x)∧l.length*8≤140737488355328):=
 by
  have h:=Rs.struct (enc:=enc) (w:=w) (held:=held) Tryz.underlying30 (by kernel_rfl) (RsS.cons Ywo RsS.nil rfl (by kernel_rfl));exact h.map (fun x=>x.1) (fun _=>rfl) (fun _ h=>h.1)
end
end Go.Proofs
namespace Go.Proofs
open Go Go.W Go.V
theorem Ymi (w:Int):V.Spec Tryz.prog 105 [V.int w] [] (V.bool (decide (w.tmod 2≠0))) []:=by
 refine Se Tryz.func105 rfl rfl rfl fun B hB=>?_;refine goW ?_;refine OL.remT (r:=w.tmod 2) rfl ?_;refine goW ?_;exact TX.rt1 [] (.ren rfl)
theorem Ye4 (w:Int) (h:0≤w):V.Spec Tryz.prog 84 [V.int w] [] (V.int (w % 64)) []:=by
 have ht:w.tmod 64=w % 64:=Int.tmod_eq_emod_of_nonneg h;refine Se Tryz.func84 rfl rfl rfl fun B hB=>?_;refine goW ?_;exact TX.rt1 [] (.ren rfl)
theorem YdS (w:Int) (h:0≤w) (h2:w≤9223372036854775807):V.Spec Tryz.prog 85 [V.int w] [] (V.int (w / 64)) []:=by
 refine Se Tryz.func85 rfl rfl rfl fun B hB=>?_;refine goW ?_;refine OL.quo ?_;refine goW ?_;exact TX.rt1 [] (.ren rfl)
theorem YhV (l:List Int) (n:Int) (hl:l.length≤1000000000):V.Spec Tryz.prog 86 [ints l,V.int n] [] (V.bool (l.any fun x=>x==n)) []:=by
 refine Se Tryz.func86 rfl rfl rfl fun B hB=>?_;refine goW ?_;refine TC.lp (fun k:Nat=>[(0,ints l),(1,V.int n),(5,V.int k)]) (fun _=>[]) (fun k=>k≤l.length∧(l.take k).any (fun x=>x==n)=false) (fun k=>l.length-k) 0 [] ⟨Nat.zero_le _,by simp⟩ ?_;rintro k ⟨hk,hall⟩;by_cases hkl:k < l.length
 ·have e:=Yab hkl;by_cases he:l[k]=n
  ·have e2:l.any (fun x=>x==n)=true:=List.any_eq_true.2 ⟨l[k],List.getElem_mem _,by simpa using he⟩;rw [e2];refine goW ?_;exact TX.rt1 [] (.ren rfl)
  ·refine goW ?_;exact TX.rd (k+1) [] ⟨by omega,by rw [e,List.any_append,hall];simpa using he⟩ (by omega)
 ·rw [Yaf (by omega)] at hall;rw [hall];refine goW ?_;exact TX.rt1 [] (.ren rfl)
def Yrq (l:List Int) (w:Int):Bool:=if w.tmod 2≠0 then decide (-1999999999≤w)&&decide (w≤2000000001) else decide (w=0) || l.any fun x=>x==w / 2
theorem Yf9 (l:List Int) (w:Int) (hl:l.length≤1000000000) (hw:YbC w):V.Spec Tryz.prog 87 [ints l,V.int w] [] (V.bool (Yrq l w)) []:=by
 have h1:=Ymi w;have h2:=YhV l (w / 2) hl;obtain ⟨hw1,hw2⟩:=hw;unfold Yrq;by_cases ho:w.tmod 2≠0
 ·rw [if_pos ho];rw [decide_eq_true ho] at h1;refine Se Tryz.func87 rfl rfl rfl fun B hB=>?_;refine goW ?_;refine OL.c h1 Tryz.func105 ?_;(refine YnB ?_ ?_<;>intro hc<;>refine goW ?_)
  all_goals
   refine TX.rt1 [] (.bool ?_);simp;try omega
 ·rw [if_neg ho];rw [decide_eq_false ho] at h1;have hm:w % 2=0:=YcG.1 (by simpa using ho);by_cases h0:w=0
  ·have e:(decide (w=0) || l.any fun x=>x==w / 2)=true:=by simp [h0]
   rw [e];refine Se Tryz.func87 rfl rfl rfl fun B hB=>?_;refine goW ?_;refine OL.c h1 Tryz.func105 ?_;refine goW ?_;exact TX.rt1 [] (.ren rfl)
  ·rw [decide_eq_false h0,Bool.false_or];refine Se Tryz.func87 rfl rfl rfl fun B hB=>?_;refine goW ?_;refine OL.c h1 Tryz.func105 ?_;refine goW ?_;refine OL.quo ?_;refine goW ?_;refine OL.c h2 Tryz.func86 ?_;refine goW ?_;exact TX.rt1 [] (.ren rfl)
end Go.Proofs
namespace Go.Proofs
open Go Go.W Go.V
def clsN (p:Prg) (c:Int):Bool:=decide (3≤c)&&decide (c < 3+(p.cls.length:Int))
theorem YgS (p:Prg) (hp:p.cls.length≤1000000000) (c:Int):V.Spec Tryz.prog 97 [Ya0 p,V.int c] [] (V.bool (clsN p c)) []:=by
 unfold clsN;refine Se Tryz.func97 rfl rfl rfl fun B hB=>?_;repeat' (first|(with_reducible refine TC.seq ?_)|(with_reducible refine TC.region ?_))
 with_reducible refine OL.box ?_
 refine OL.frzB 2 ?_;(refine YnB ?_ ?_<;>intro hc<;>refine goW ?_)
 all_goals
  refine TX.rt1 [] (.bool ?_);simp;try omega
end Go.Proofs
namespace Go.Proofs
open Go Go.W Go.V
abbrev YxC (l:List Nat):AV:=.sl 1 none (natsA l)
section
variable (p:Prg) (hs:Ya9 p.cls) (hcb:Yag p=true)
theorem Yq8 (c:Int):clsN p c=(shp p.cls c).isSome:=by
 unfold clsN shp;by_cases h:3≤c∧c < 3+(p.cls.length:Int)
 ·rw [if_pos h];simp [h.1,h.2]
 ·rw [if_neg h];by_cases h1:3≤c
  ·have:¬ c < 3+(p.cls.length:Int):=fun h2=>h ⟨h1,h2⟩
   simp [this]
  ·simp [h1]
include hs hcb
set_option maxHeartbeats 2000000 in
theorem Yep (W:List Int) (_hW:∀ x∈W,YbC x) (hWl:W.length*8≤140737488355328) :
  V.Spec Tryz.prog 83 [Ya0 p,Yaw W] [] (.tp [YxC ((starts (shp p.cls) W).getD []),V.bool (starts (shp p.cls) W).isSome]) []:=by
 obtain ⟨hsl,hpl,hf⟩:=YbO hcb;have hsz:=fun c h3 hc=>YdI p hs hf (by omega) (c:=c) h3 hc
 have how:=fun c=>YgS p (by omega) c
 generalize hst:starts (shp p.cls) W=ST;have hbad:∀ q:W.length=0∨600 < W.length∨wAt W 0≠0,ST=none:=fun q=>by rw [← hst,starts,if_pos q]
 refine Se Tryz.func83 rfl rfl rfl fun B hB=>?_;repeat' (first|(with_reducible refine TC.seq ?_)|(with_reducible refine TC.region ?_))
 with_reducible refine OL.box ?_
 with_reducible refine OL.box ?_
 refine OL.frzB 2 ?_;refine OL.frzB 3 ?_;repeat' (with_reducible first|refine OL.st ?_|refine TC.region ?_|refine TC.seq ?_|refine OL.nil ?_|refine TX.thenN ?_|refine TC.block ?_|refine TC.skip ?_|refine TC.ifT ?_|refine OL.gOn ?_|refine OL.gOff ?_|refine TC.ifD ?_ ?_<;>(intro hc;try (exfalso;omega))|refine OL.gD ?_ ?_<;>(intro hc;try (exfalso;omega))|refine TC.ret ?_|refine TX.thenR ?_|fail)
 ·rw [hbad (.inl (by omega))];exact TX.rt2 [] (.nil (by decide)) (.ren rfl)
 ·rw [hbad (.inr (.inl (by omega)))];exact TX.rt2 [] (.nil (by decide)) (.ren rfl)
 ·rw [hbad (.inr (.inr (by rw [wAt,List.getD_eq_getElem?_getD,List.getElem?_eq_getElem (by omega)];exact hc)))];exact TX.rt2 [] (.nil (by decide)) (.ren rfl)
 ·have hw0:wAt W 0=0:=by rw [wAt,List.getD_eq_getElem?_getD,List.getElem?_eq_getElem (by omega)];simpa using hc
  have hstF:starts (shp p.cls) W=startsF (shp p.cls) W W.length 1:=by rw [starts,if_neg (by omega)]
  refine TC.adp 6 Tc.int 1 ?_;refine TC.lp (S:=Nat × List Nat) (fun q=>[(2,.ep (YbB p) 0),(3,.ep [ints W] 0),(6,.hs 2),(7,V.int q.1)]) (fun q=>[.dead,.dead,.gs false Tc.int 1 none (natsA q.2)])
   (fun q=>1≤q.1∧q.2.length≤q.1∧q.1≤W.length∧(startsF (shp p.cls) W W.length q.1).map (q.2++·)=ST) (fun q=>W.length-q.1) (1,[]) [0,1,2] ⟨Nat.le_refl _,by simp,by dsimp only;omega,by rw [← hst,hstF];simp⟩ ?_
  rintro ⟨i,out⟩ ⟨hi1,hol,hiw,hS⟩;dsimp only at hi1 hol hiw hS ⊢;have e3:(natsA out).length=out.length:=by rw [natsA,List.length_map]
  rw [YcU] at hS;by_cases hi:i < W.length;rotate_left
  ·rw [if_neg hi] at hS;simp only [Option.map_some,List.append_nil] at hS;subst hS;refine goW ?_;refine TX.vw 4 ?_;exact TX.rt2 [] (.ren rfl) (.ren rfl)
  ·rw [if_pos hi] at hS;have hwi:wAt W i=W[i]:=by rw [wAt,List.getD_eq_getElem?_getD,List.getElem?_eq_getElem hi];rfl
   have hno:¬ hdB (shp p.cls) W i=true→ST=none:=fun hn=>by rw [if_neg hn] at hS;rw [← hS];rfl
   by_cases h0:0≤W[i];rotate_left
   ·have hno:=hno (fun h=>h0 (by have:=(Ybd.1 h).1;rwa [hwi] at this));subst hno;refine goW ?_;(refine TC.draw (id:=6) true 17 17 ?_<;>refine OD.st4 0 1 2 3 ?_<;>refine OD.st2 4 5 ?_<;>refine OD.st 6 ?_<;>refine OD.sD 36 ?_ ?_<;>(intro hc;try (exfalso;omega))<;>(first|(refine OD.st 7 ?_)|(refine OD.of 7 ?_))<;>refine OD.of 8 ?_<;>refine OD.of 9 ?_<;>refine OD.of 10 ?_<;>refine OD.of 11 ?_<;>refine OD.of 12 ?_<;>refine OD.of 13 ?_<;>refine OD.of 14 ?_<;>refine OD.of 15 ?_<;>refine OD.st 16 ?_<;>refine OD.dn ?_)
    refine TX.thenN ?_;refine goW ?_;exact TX.rt2 [] (.nil (by decide)) (.ren rfl)
   ·have hcl:=Ye4 W[i] h0;have how:=how (W[i] % 64);rw [Yq8] at how
    cases hsh:shp p.cls (W[i] % 64) with
    | none =>
      have hno:=hno (fun h=>by obtain ⟨_,n,q,_⟩:=Ybd.1 h;rw [hwi,hsh] at q;cases q);subst hno;rw [hsh] at how;refine goW ?_;(refine TC.draw (id:=6) true 17 17 ?_<;>refine OD.st4 0 1 2 3 ?_<;>refine OD.st2 4 5 ?_<;>refine OD.st 6 ?_<;>refine OD.sD 36 ?_ ?_<;>(intro hc;try (exfalso;omega))<;>(first|(refine OD.st 7 ?_)|(refine OD.of 7 ?_))<;>refine OD.st4 8 9 10 11 ?_<;>refine OD.st 12 ?_<;>refine OD.c1 13 hcl Tryz.func84 ?_<;>refine OD.c1 14 how Tryz.func97 ?_<;>refine OD.st2 15 16 ?_<;>refine OD.dn ?_)
      refine TX.thenN ?_;refine goW ?_;exact TX.rt2 [] (.nil (by decide)) (.ren rfl)
    | some n =>
      rw [hsh] at how;obtain ⟨k,hk,hk3,hkl,hn⟩:=YcS hsh;have hsz:=hsz k hk3 (by omega);rw [Ya4 hcb,← hn,← hk] at hsz;have hnb:=Ya3 hpl k;rw [← hn] at hnb;have hszw:szW (shp p.cls) (wAt W i)=n:=by rw [szW,hwi,hsh];rfl
      by_cases h2:i+n < W.length;rotate_left
      ·have hno:=hno (fun h=>by obtain ⟨_,n',q,q2⟩:=Ybd.1 h;rw [hwi,hsh] at q;cases q;exact h2 q2);subst hno;refine goW ?_;(refine TC.draw (id:=6) true 17 17 ?_<;>refine OD.st4 0 1 2 3 ?_<;>refine OD.st2 4 5 ?_<;>refine OD.st 6 ?_<;>refine OD.sD 36 ?_ ?_<;>(intro hc;try (exfalso;omega))<;>(first|(refine OD.st 7 ?_)|(refine OD.of 7 ?_))<;>refine OD.st4 8 9 10 11 ?_<;>refine OD.st 12 ?_<;>refine OD.c1 13 hcl Tryz.func84 ?_<;>refine OD.c1 14 how Tryz.func97 ?_<;>refine OD.st2 15 16 ?_<;>refine OD.dn ?_)
       refine TX.thenN ?_;refine goW ?_;(refine TC.draw (id:=9) true 11 11 ?_<;>refine OD.st4 0 1 2 3 ?_<;>refine OD.st2 4 5 ?_<;>refine OD.st 6 ?_<;>refine OD.c1 7 hcl Tryz.func84 ?_<;>refine OD.c1 8 hsz Tryz.func28 ?_<;>refine OD.st2 9 10 ?_<;>refine OD.dn ?_)
       refine TX.thenN ?_;refine goW ?_;exact TX.rt2 [] (.nil (by decide)) (.ren rfl)
      ·have hd:hdB (shp p.cls) W i=true:=Ybd.2 ⟨by rw [hwi];exact h0,n,by rw [hwi];exact hsh,h2⟩;rw [if_pos hd,hszw] at hS;have e4:natsA out++[V.int i]=natsA (out++[i]):=by rw [natsA,natsA,List.map_append];rfl
       refine goW ?_;(refine TC.draw (id:=6) true 17 17 ?_<;>refine OD.st4 0 1 2 3 ?_<;>refine OD.st2 4 5 ?_<;>refine OD.st 6 ?_<;>refine OD.sD 36 ?_ ?_<;>(intro hc;try (exfalso;omega))<;>(first|(refine OD.st 7 ?_)|(refine OD.of 7 ?_))<;>refine OD.st4 8 9 10 11 ?_<;>refine OD.st 12 ?_<;>refine OD.c1 13 hcl Tryz.func84 ?_<;>refine OD.c1 14 how Tryz.func97 ?_<;>refine OD.st2 15 16 ?_<;>refine OD.dn ?_)
       refine TX.thenN ?_;refine goW ?_;(refine TC.draw (id:=9) true 11 11 ?_<;>refine OD.st4 0 1 2 3 ?_<;>refine OD.st2 4 5 ?_<;>refine OD.st 6 ?_<;>refine OD.c1 7 hcl Tryz.func84 ?_<;>refine OD.c1 8 hsz Tryz.func28 ?_<;>refine OD.st2 9 10 ?_<;>refine OD.dn ?_)
       refine TX.thenN ?_;refine goW ?_;rw [e4];refine TX.rd (i+1+n,out++[i]) [0,1,4] ⟨by dsimp only;omega,by rw [List.length_append,List.length_singleton];dsimp only;omega,by dsimp only;omega,?_⟩ (by dsimp only;omega) (hr:=⟨⟨_,rfl,LE.ren rfl⟩,⟨_,rfl,LE.ren rfl⟩,⟨_,rfl,LE.ren rfl⟩,⟨_,rfl,LE.int (by dsimp only;omega)⟩,trivial⟩);rw [← hS,Option.map_map];dsimp only;congr 1;funext x
       simp
end
end Go.Proofs
namespace Go.Proofs
open Go Go.W Go.V
abbrev Yd1 (l:List Nat):List Int:=l.map fun (n:Nat)=>(n:Int)
theorem YpU (l:List Nat):YxC l=ints (Yd1 l):=by
 show AV.sl 1 none _=AV.sl 1 none _;rw [Yd1,List.map_map];rfl
theorem Ylg {st:List Nat} (h:∀ x∈st,1≤x) (w:Int):Yrq (Yd1 st) w=okW st w:=by
 unfold Yrq okW;by_cases ho:w.tmod 2≠0
 ·have:w % 2≠0:=fun e=>ho (YcG.2 e)
  rw [if_pos ho,if_pos this]
 ·have hm:w % 2=0:=YcG.1 (by simpa using ho);rw [if_neg ho,if_neg (by omega)];congr 1;rw [Bool.eq_iff_iff];simp only [List.any_eq_true,Bool.and_eq_true,decide_eq_true_eq,List.contains_iff_mem,beq_iff_eq];constructor
  ·rintro ⟨x,hx,e⟩;obtain ⟨n,hn,rfl⟩:=List.mem_map.1 hx;have:=h n hn
   exact ⟨by omega,by rw [← e];simpa using hn⟩
  ·rintro ⟨h1,h2⟩;exact ⟨_,List.mem_map.2 ⟨_,h2,rfl⟩,by omega⟩
theorem Ypw (st:List Nat) (n:Int) (hn:0≤n):((Yd1 st).any fun x=>x==n)=st.contains n.toNat:=by
 rw [Bool.eq_iff_iff];simp only [List.any_eq_true,List.contains_iff_mem,beq_iff_eq];constructor
 ·rintro ⟨x,hx,e⟩;obtain ⟨m,hm,rfl⟩:=List.mem_map.1 hx;rw [← e];simpa using hm
 ·intro h;exact ⟨_,List.mem_map.2 ⟨_,h,rfl⟩,by omega⟩
section
variable (p:Prg) (hs:Ya9 p.cls) (hcb:Yag p=true)
include hs hcb
end
end Go.Proofs
