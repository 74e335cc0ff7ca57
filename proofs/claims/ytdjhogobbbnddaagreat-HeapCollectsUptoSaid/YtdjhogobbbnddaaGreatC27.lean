/- Lemmas for the claim; no conditions. -/
import Derived.Test.YtdjhogobbbnddaaGreatC23
import Derived.Test.YtdjhogobbbnddaaGreatC18
import Derived.Test.YtdjhogobbbnddaaGreatC26
import Derived.Test.YtdjhogobbbnddaaGreatC19
namespace Go.Proofs
open Go Go.W Go.V
abbrev Yck (f:Fct):AV:=.st [V.int f.op,V.int f.arg,ints f.path,V.int f.cls,V.int f.n,.sl 6 none (f.kids.map Yld)]
theorem YhH (f:Fct):Yld f=Yck f:=by cases f;rw [Yld,Yok]
theorem Yv3 (f:Fct):f.kids.map Yld=f.kids.map Yck:=List.map_congr_left fun k _=>YhH k
theorem Ydm (f:Fct):Yck f=.st [V.int f.op,V.int f.arg,ints f.path,V.int f.cls,V.int f.n,.sl 6 none (f.kids.map Yck)]:=by rw [Yck,Yv3]
theorem Ymy:∀ (n:Nat) (f:Fct),nodesF f≤n→depthF f≤nodesF f:=by
 intro n;induction n with
 | zero=>intro f h;have:=Yby f;omega
 | succ n ih =>
   intro f h;have hk:∀ k∈f.kids,depthF k≤nodesF k:=fun k hk=>ih k (by have:=YdV hk;omega)
   rw [Yhy,Yfj];have:∀ l:List Fct,(∀ k∈l,depthF k≤nodesF k)→depthL l≤nodesL l:=by
    intro l;induction l with
    | nil=>intro _;simp [depthL,nodesL]
    | cons x r ih2 =>
      intro h;have h1:=h x (by simp);have h2:=ih2 fun k hk=>h k (by simp [hk])
      rw [depthL,nodesL];omega
   have:=this _ hk
   omega
theorem Yn2 (l:List Fct):l.length≤nodesL l:=by
 induction l with
 | nil=>simp
 | cons x r ih=>have:=Yby x;rw [nodesL,List.length_cons];omega
theorem Yh3 (l:List Fct) (k:Nat):nodesL (l.take k)≤nodesL l:=by
 have e:nodesL l=nodesL (l.take k)+nodesL (l.drop k):=by rw [← YfG,List.take_append_drop]
 omega
theorem Yi3 (g:List (List Int)) (ow:List Int) (c:Int) (hb:g.length≤1000000000):V.Spec Tryz.prog 184 [fwA g ow,V.int c] [] (V.bool (decide (0≤c∧c < 3+(g.length:Int)))) []:=by
 refine Se Tryz.func184 rfl rfl rfl fun B hB=>?_;(refine YnB ?_ ?_<;>intro hc<;>refine goW ?_)
 all_goals
  refine Zad [] (LE.bool ?_);simp [*]
theorem Yf5 (f:Fct):V.Spec Tryz.prog 157 [Yck f] [] (V.bool (YcE f.op)) []:=by
 refine Se Tryz.func157 rfl rfl rfl fun B hB=>?_;repeat' (with_reducible first|refine OL.st ?_|refine OL.box ?_|refine TC.region ?_|refine TC.seq ?_|refine OL.nil ?_|refine Zap ?_|refine ZaB ?_|refine ZaD ?_|refine Zaz ?_ ?_<;>(intro hc;try (exfalso;omega))|refine TC.ret ?_|fail)
 all_goals
  refine Zad [] (LE.bool ?_);simp [YcE, *]
theorem YkA (g:List (List Int)) (ow l:List Int):V.Spec Tryz.prog 185 [fwA g ow,ints l] [] (V.bool (Yig ow.length l)) []:=by
 rw [Yig];refine Se Tryz.func185 rfl rfl rfl fun B hB=>?_;refine ZaS 1 fun hll=>?_;refine goW ?_;refine Za6 2 ?_;refine Zat (fun k:Nat=>[(1,ints l),(2,.ep (fwC g ow) 0),(7,ints l),(8,V.int l.length),(9,V.int k)]) (fun _=>[]) (fun k=>k≤l.length∧(l.all fun s=>decide (0≤s)&&decide (s < (ow.length:Int)))=(l.drop k).all fun s=>decide (0≤s)&&decide (s < (ow.length:Int))) (fun k=>l.length-k) 0 [] ⟨Nat.zero_le _,rfl⟩ ?_;rintro k ⟨hk,hinv⟩;by_cases hkl:k < l.length
 ·rw [Yac hkl,List.all_cons] at hinv;repeat' (with_reducible first|refine OL.st ?_|refine TC.region ?_|refine TC.seq ?_|refine OL.nil ?_|refine Zap ?_|refine TC.block ?_|refine TC.skip ?_|refine ZaM ?_|refine ZaY ?_|refine ZaB ?_|refine ZaD ?_|refine Zay ?_ ?_<;>(intro hc;try (exfalso;omega))|refine Zaz ?_ ?_<;>(intro hc;try (exfalso;omega))|refine TC.ret ?_|refine ZaE ?_|refine ZaK ?_|fail)
  ·refine Zad [] (LE.bool ?_);rw [hinv];simp;omega
  ·refine Zad [] (LE.bool ?_);rw [hinv];simp;omega
  ·refine Zan (k+1) [] ⟨by omega,?_⟩ (by omega);rw [hinv];have h1:decide (0≤l[k])=true:=by simp;omega
   have h2:decide (l[k] < (ow.length:Int))=true:=by simp;omega
   rw [h1,h2];rfl
 ·rw [Yat (by omega)] at hinv;refine goW ?_;refine Zad [] (LE.bool ?_);rw [hinv];simp;omega
set_option maxHeartbeats 1000000 in
theorem Yjb:∀ (n:Nat) (f:Fct),nodesF f≤n→n≤1000→V.Spec Tryz.prog 155 [Yck f] [] (V.int (depthF f)) []:=by
 intro n;induction n with
 | zero=>intro f h;have:=Yby f;omega
 | succ n ih =>
   intro f hn hn1;have hkid:∀ k∈f.kids,V.Spec Tryz.prog 155 [Yck k] [] (V.int (depthF k)) []:=fun k hk=>ih k (by have:=YdV hk;omega) (by omega)
   have hdn:=Ymy _ f (Nat.le_refl _);have hdl:depthL f.kids≤1000:=by rw [Yhy] at hdn;omega
   have hdk:∀ k∈f.kids,depthF k≤1000:=fun k hk=>Nat.le_trans (YnI hk) hdl
   rw [Ydm,Yhy];obtain ⟨op,arg,path,cls,fn,l⟩:=f;simp only [Fct.op,Fct.arg,Fct.path,Fct.cls,Fct.n,Fct.kids] at *
   refine Se Tryz.func155 rfl rfl rfl fun B hB=>?_;refine goW ?_;refine ZaS 7 fun hll=>?_;refine Zat (fun k:Nat=>[(3,V.int (depthL (l.take k))),(7,.sl 6 none (l.map Yck)),(8,V.int l.length),(9,V.int k)]) (fun _=>[]) (fun k=>k≤l.length∧depthL (l.take k)≤1000) (fun k=>l.length-k) 0 [] ⟨Nat.zero_le _,by simp [depthL]⟩ ?_;rintro k ⟨hk,hd⟩;by_cases hkl:k < l.length
   ·have hs:=hkid l[k] (List.getElem_mem _);have hdk':=hdk l[k] (List.getElem_mem _);have e:depthL (l.take (k+1))=max (depthL (l.take k)) (depthF l[k]):=by rw [Yab hkl,Yht]
    generalize depthL (l.take k)=q at *
    refine goW ?_;refine OL.c hs Tryz.func155 ?_;refine OL.max (((depthL (l.take (k+1)):Nat):Int)) ?_ (hc:=by rw [e];omega);refine goW ?_;exact Zan (k+1) [] ⟨by omega,by omega⟩ (by omega)
   ·rw [Yaf (by omega)] at hd ⊢;refine goW ?_;refine Zad [] (LE.int ?_)<;>omega
set_option maxHeartbeats 1000000 in
theorem Yh9 (np no:Nat):∀ (n:Nat) (f:Fct),nodesF f≤n→nodeOkB np no f=true→V.Spec Tryz.prog 134 [Yck f] [] (V.int (Ybf f)) []:=by
 intro n;induction n with
 | zero=>intro f h;have:=Yby f;omega
 | succ n ih =>
   intro f hn hok;have hl:=Yf5 f;rw [YfN,Bool.and_eq_true] at hok;obtain ⟨hh,hks⟩:=hok;have hkk:∀ l:List Fct,nodesOkB np no l=true→∀ k∈l,nodeOkB np no k=true:=by
    intro l;induction l with
    | nil=>simp
    | cons x r ih2 =>
      intro h k hk;rw [nodesOkB,Bool.and_eq_true] at h;rcases List.mem_cons.1 hk with rfl|hk
      ·exact h.1
      ·exact ih2 h.2 k hk
   have hkid:∀ k∈f.kids,V.Spec Tryz.prog 134 [Yck k] [] (V.int (Ybf k)) []:=fun k hk=>ih k (by have:=YdV hk;omega) (hkk _ hks k hk)
   have harg:YcE f.op=true→0≤f.arg∧f.arg < 3:=by
    intro hlf;obtain ⟨op,arg,path,cls,fn,l⟩:=f;rw [Yl2,if_pos hlf] at hh;simp only [Bool.and_eq_true,decide_eq_true_eq] at hh;exact hh.2.1.1
   rw [Yiz];rw [Ydm] at hl ⊢;generalize YcE f.op=lf at *
   obtain ⟨op,arg,path,cls,fn,l⟩:=f;simp only [Fct.op,Fct.arg,Fct.path,Fct.cls,Fct.n,Fct.kids] at *
   obtain ⟨n0,hn0⟩:∃ n0:Int,n0=if lf=true then arg+1 else 0:=⟨_,rfl⟩;rw [← hn0];refine Se Tryz.func134 rfl rfl rfl fun B hB=>?_;refine goW ?_;refine OL.c hl Tryz.func157 ?_;refine goW ?_
   cases lf
   ·refine goW ?_;rw [if_neg (by decide)] at hn0;subst hn0;refine ZaS 12 fun hll=>?_;refine Zat (fun k:Nat=>[(3,V.int (max 0 (speaksL (l.take k)))),(12,.sl 6 none (l.map Yck)),(13,V.int l.length),(14,V.int k)]) (fun _=>[]) (fun k=>k≤l.length) (fun k=>l.length-k) 0 [] (Nat.zero_le _) ?_;rintro k hk;by_cases hkl:k < l.length
    ·have hs:=hkid l[k] (List.getElem_mem _);have e:speaksL (l.take (k+1))=max (speaksL (l.take k)) (Ybf l[k]):=by rw [Yab hkl,Yc0]
     refine goW ?_;refine OL.c hs Tryz.func134 ?_;refine OL.max (max 0 (speaksL (l.take (k+1)))) ?_ (hc:=by rw [e];omega);refine goW ?_;exact Zan (k+1) [] (by omega) (by omega)
    ·rw [Yaf (by omega)];refine goW ?_;exact Zad [] (.ren rfl)
   ·have harg:=harg rfl;refine goW ?_;rw [if_pos rfl] at hn0;subst hn0;refine ZaS 12 fun hll=>?_;refine Zat (fun k:Nat=>[(3,V.int (max (arg+1) (speaksL (l.take k)))),(12,.sl 6 none (l.map Yck)),(13,V.int l.length),(14,V.int k)]) (fun _=>[]) (fun k=>k≤l.length) (fun k=>l.length-k) 0 [] (Nat.zero_le _) ?_ (hr:=⟨⟨_,rfl,LE.int (by rw [List.take_zero,speaksL];omega)⟩,⟨_,rfl,LE.ren rfl⟩,⟨_,rfl,LE.ren rfl⟩,⟨_,rfl,LE.ren rfl⟩,trivial⟩);rintro k hk;by_cases hkl:k < l.length
    ·have hs:=hkid l[k] (List.getElem_mem _);have e:speaksL (l.take (k+1))=max (speaksL (l.take k)) (Ybf l[k]):=by rw [Yab hkl,Yc0]
     refine goW ?_;refine OL.c hs Tryz.func134 ?_;refine OL.max (max (arg+1) (speaksL (l.take (k+1)))) ?_ (hc:=by rw [e];omega);refine goW ?_;exact Zan (k+1) [] (by omega) (by omega)
    ·rw [Yaf (by omega)];refine goW ?_;exact Zad [] (.ren rfl)
set_option maxHeartbeats 1000000 in
theorem Yjy:∀ (n m:Nat) (f:Fct),m≤n→n≤1000→V.Spec Tryz.prog 183 [Yck f,V.int m] [] (V.int ((min (nodesF f) (m+1):Nat):Int)) []:=by
 intro n;induction n with
 | zero =>
   intro m f hm _;obtain rfl:m=0:=by omega
   have hp:=Yby f;have e:min (nodesF f) (0+1)=1:=by omega
   rw [e,Ydm];obtain ⟨op,arg,path,cls,fn,l⟩:=f;simp only [Fct.op,Fct.arg,Fct.path,Fct.cls,Fct.n,Fct.kids] at *
   refine Se Tryz.func183 rfl rfl rfl fun B hB=>?_;refine goW ?_;refine Za6 2 ?_;refine Zat (fun k:Nat=>[(1,V.int 0),(2,.ep [V.int op,V.int arg,ints path,V.int cls,V.int fn,.sl 6 none (l.map Yck)] 0),(5,V.int 1),(6,V.int k)]) (fun _=>[]) (fun k=>k=0) (fun k=>0) 0 [] rfl ?_;rintro k rfl;(refine YnB ?_ ?_<;>intro hc<;>refine goW ?_)
   all_goals exact Zad [] (.ren rfl)
 | succ n ih =>
   intro m f hm hn1;have hkid:∀ (k:Fct) (q:Nat),q≤n→V.Spec Tryz.prog 183 [Yck k,V.int q] [] (V.int ((min (nodesF k) (q+1):Nat):Int)) []:=fun k q hq=>ih q k hq (by omega)
   rw [Ydm,Yfj];obtain ⟨op,arg,path,cls,fn,l⟩:=f;simp only [Fct.op,Fct.arg,Fct.path,Fct.cls,Fct.n,Fct.kids] at *
   refine Se Tryz.func183 rfl rfl rfl fun B hB=>?_;refine goW ?_;refine Za6 2 ?_;refine Zat (fun k:Nat=>[(1,V.int m),(2,.ep [V.int op,V.int arg,ints path,V.int cls,V.int fn,.sl 6 none (l.map Yck)] 0),(5,V.int ((min (1+nodesL (l.take k)) (m+1):Nat):Int)),(6,V.int k)]) (fun _=>[]) (fun k=>k≤l.length) (fun k=>l.length-k) 0 [] (Nat.zero_le _) ?_ (hr:=⟨⟨_,rfl,LE.ren rfl⟩,⟨_,rfl,LE.ren rfl⟩,⟨_,rfl,LE.int (by simp [nodesL])⟩,⟨_,rfl,LE.ren rfl⟩,trivial⟩);rintro k hk;have hle:=Yh3 l k;by_cases hkl:k < l.length
   ·have e:nodesL (l.take (k+1))=nodesL (l.take k)+nodesF l[k]:=by rw [Yab hkl,YeA]
    have hkq:k≤nodesL (l.take k):=by have:=Yn2 (l.take k);rw [List.length_take] at this;omega
    have hs:=hkid l[k];have hp:=Yby l[k];generalize nodesL (l.take k)=q at *
    by_cases hq:1+q≤m
    ·obtain ⟨r,hr⟩:∃ r:Nat,m=(1+q)+r:=⟨m-(1+q),by omega⟩;have hs:=hs r (by omega);have e1:min (1+q) (m+1)=1+q:=by omega
     rw [e1];refine goW ?_;have er:(m:Int)-((1+q:Nat):Int)=(r:Int):=by omega
     refine OL.c hs Tryz.func183 ?_ (hle:=by with_unfolding_all exact ⟨.ren rfl,LE.int er,trivial⟩);refine goW ?_;exact Zan (k+1) [] (by omega) (by omega) (hr:=⟨⟨_,rfl,LE.ren rfl⟩,⟨_,rfl,LE.ren rfl⟩,⟨_,rfl,LE.int (by omega)⟩,⟨_,rfl,LE.ren rfl⟩,trivial⟩)
    ·have e1:min (1+q) (m+1)=m+1:=by omega
     rw [e1];refine goW ?_;refine Zad [] (LE.int ?_)<;>omega
   ·rw [Yaf (by omega)];refine goW ?_;exact Zad [] (.ren rfl)
theorem YjO (f:Fct):V.Spec Tryz.prog 154 [Yck f] [] (V.int ((min (nodesF f) 25:Nat):Int)) []:=by
 have h:=Yjy 24 24 f (Nat.le_refl _) (by omega);refine Se Tryz.func154 rfl rfl rfl fun B hB=>?_;refine goW ?_;refine OL.c h Tryz.func183 ?_;refine goW ?_;exact Zad [] (.ren rfl)
end Go.Proofs
namespace Go.V
open Go Go.W
section
variable {P:Program} {tab:Tab} {N:Nat} {D:List Deferred} {ρ:Ro} {η:Eta} {x y:Operand} {X Y:Nat} {M:Bool} {p q:Int}
theorem Yo8 (hx:ev2 ρ x=some (.raw (.int .u64 p))) (hy:ev2 ρ y=some (.raw (.int .u64 q))) (h0:0≤p+q) (h1:p+q≤18446744073709551615) :
  Yaj P N D (.binOp .add X x y Y) ρ η (.raw (.int .u64 (p+q))) M:=fun _ _ _ _ _ hE hR hH =>
 ⟨_,.raw rfl,fun _ _ _ _ _ _=>by simp [execOp,hE.ev (hR.raw hx),hE.ev (hR.raw hy),binOp,eqGuard,Op.intArith,YcX h0 h1]⟩
theorem YoL (hx:ev2 ρ x=some (.raw (.int .u64 p))) (hy:ev2 ρ y=some (.raw (.int .u64 q))) (h0:0≤p*q) (h1:p*q≤18446744073709551615) :
  Yaj P N D (.binOp .mul X x y Y) ρ η (.raw (.int .u64 (p*q))) M:=fun _ _ _ _ _ hE hR hH =>
 ⟨_,.raw rfl,fun _ _ _ _ _ _=>by simp [execOp,hE.ev (hR.raw hx),hE.ev (hR.raw hy),binOp,eqGuard,Op.intArith,YcX h0 h1]⟩
theorem Yph {p:Nat} {c:Int} (hx:ev2 ρ x=some (.raw (.int .u64 (p:Int)))) (hy:ev2 ρ y=some (.raw (.int .u64 c))) (h0:0≤c) (h1:c < 64):Yaj P N D (.binOp .shr X x y Y) ρ η (.raw (.int .u64 ((p >>> c.toNat:Nat):Int))) M:=fun _ _ _ _ _ hE hR hH =>
 ⟨_,.raw rfl,fun _ _ _ _ _ _=>by
  have hm:min c.toNat 64=c.toNat:=by omega
  have hc:¬ c < 0:=by omega
  have e:(p:Int).fdiv (2 ^ c.toNat)=((p >>> c.toNat:Nat):Int):=by
   rw [Nat.shiftRight_eq_div_pow,Int.fdiv_eq_ediv_of_nonneg _ (by exact Int.le_of_lt (Int.pow_pos (by omega)))];simp
  simp only [execOp,hE.ev (hR.raw hx),hE.ev (hR.raw hy),binOp,eqGuard,Op.shift];simp only [hc,if_false,IntKind.bits,hm,e];simp⟩
theorem YnO {i:Int} (hT:YaX P tab) (h1:(tab X).map (·.sh)=some (.int .i64)) (h2:(tab Y).map (·.sh)=some (.int .u64)) (hx:ev2 ρ x=some (.raw (.int .i64 i))) (h0:0≤i) (h3:i≤9223372036854775807):Yaj P N D (.convert X Y x) ρ η (.raw (.int .u64 i)) M:=fun _ _ _ _ _ hE hR hH=>by
 obtain ⟨d1,u1,e1⟩:=YcO hT h1;obtain ⟨d2,u2,e2⟩:=YcO hT h2;obtain rfl:d1=_:=e1;obtain rfl:d2=_:=e2;exact ⟨_,.raw rfl,fun _ _ _ _ _ _=>by simp [execOp,convert,hE.ev (hR.raw hx),run_underlying u1,run_underlying u2,Conv.intToInt,YcX h0 (by omega)]⟩
theorem YnP {i:Int} (hT:YaX P tab) (h1:(tab X).map (·.sh)=some (.int .u64)) (h2:(tab Y).map (·.sh)=some (.int .i64)) (hx:ev2 ρ x=some (.raw (.int .u64 i))) (h0:0≤i) (h3:i≤9223372036854775807):Yaj P N D (.convert X Y x) ρ η (.raw (.int .i64 i)) M:=fun _ _ _ _ _ hE hR hH=>by
 obtain ⟨d1,u1,e1⟩:=YcO hT h1;obtain ⟨d2,u2,e2⟩:=YcO hT h2;obtain rfl:d1=_:=e1;obtain rfl:d2=_:=e2;exact ⟨_,.raw rfl,fun _ _ _ _ _ _=>by simp [execOp,convert,hE.ev (hR.raw hx),run_underlying u1,run_underlying u2,Conv.intToInt,YbX (show -9223372036854775808≤i by omega) h3]⟩
end
end Go.V
