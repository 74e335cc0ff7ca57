/- Lemmas for the claim, part 60; no conditions. -/
import Derived.Test.YtdjhogobbbnddaaGreatS0
import Derived.Test.YtdjhogobbbnddaaGreatQ22
import Derived.Test.YtdjhogobbbnddaaGreatQ23
import Derived.Test.YtdjhogobbbnddaaGreatQ19
import Derived.Test.YtdjhogobbbnddaaGreatQ18
import Derived.Test.YtdjhogobbbnddaaGreatS52
import Derived.Test.YtdjhogobbbnddaaGreatQ37
namespace Go.Proofs
open Go Go.W Go.V
def plR (l:List Cls) (W:List Int) (w s:Int):Int:=
 if Yax W w=0 then 0 else if Yb3 (fun x=>s==x) 0 (slotsOf l (wAt W (Yax W w)).toNat) < 0 then 0 else (Yax W w:Int)+1+Yb3 (fun x=>s==x) 0 (slotsOf l (wAt W (Yax W w)).toNat)
theorem YzL {l:List Cls} {W:List Int} {st:List Nat} (hG:GH (shp l) W st) {w s:Int} (hv:okW st w=true):0≤plR l W w s∧plR l W w s < W.length:=by
 unfold plR;by_cases h2:Yax W w=0
 ·rw [if_pos h2];have:=(Yah hG.eq).1;omega
 ·rw [if_neg h2];obtain ⟨k,hk,g1,g2,g3⟩:=YnA hG (hG.re_obj hv h2);have hfb:=Ydj (fun x=>s==x) (slotsOf l (wAt W (Yax W w)).toNat) 0;split
  ·omega
  ·omega
theorem YzM {l:List Cls} {slots:Int} {W:List Int} {st:List Nat} {w s:Int}:Yb5 l slots W st w s=if okW st w=true∧0≤s∧s < slots then (if plR l W w s=0 then (5,0) else (0,plR l W w s)) else (2,0):=by
 unfold Yb5 plR;have hb:=Ydj (fun x=>s==x) (slotsOf l (wAt W (Yax W w)).toNat) 0;by_cases h2:Yax W w=0
 ·simp only [h2,if_true]
 ·simp only [h2,if_false];split
  ·split
   ·rfl
   ·rw [if_neg (by omega)]
  ·rfl
section
variable (p:Prg) (hs:Ya9 p.cls) (hpk:∀ x∈p.nodes,x.2.2.length*8≤140737488355328) (W:List Int) (hW:∀ x∈W,YbC x) (hWl:W.length*8≤140737488355328)
include hs hpk hW hWl
omit hs hpk hW hWl in
theorem YyQ {w s:Int}:YtX p W w s=if Ybt p W&&okW (Yee p W) w&&(decide (0≤s)&&decide (s < p.slots)) then (if plR p.cls W w s=0 then (0,5) else (wAt W (plR p.cls W w s).toNat,0)) else (0,2):=by
 unfold YtX;rw [YzM]
 cases Ybt p W
 ·rfl
 ·generalize plR p.cls W w s=pl;by_cases h1:okW (Yee p W) w=true∧0≤s∧s < p.slots
  ·obtain ⟨a,b,c⟩:=h1;by_cases hz:pl=0<;>simp [a,b,c,hz]
  ·have h2:(okW (Yee p W) w&&(decide (0≤s)&&decide (s < p.slots)))=false:=by
    rw [Bool.eq_false_iff];intro h;simp only [Bool.and_eq_true,decide_eq_true_eq] at h;exact h1 h
   rw [if_neg h1,Bool.true_and,h2];rfl
end
theorem Yz7 {sh:Int→Option Nat} {W:List Int} {x f:Nat} (hf:f < szW sh (wAt W x)) (hl:x+szW sh (wAt W x) < W.length):(slotsW sh W x)[f]?=some (wAt W (x+1+f)):=by
 rw [slotsW,List.getElem?_take,if_pos hf,List.getElem?_drop,wAt,List.getD_eq_getElem?_getD,List.getElem?_eq_getElem (by omega)];rfl
section
variable {p:Prg} {G H:List Int} {sg sk:List Nat} (hG:GH (shp p.cls) G sg) (hH:GH (shp p.cls) H sk) {row:List (Nat × Nat)} {a0 b0:List Int} (hB:Bis (shp p.cls) G H a0 b0 row) {a b:Int} (ha:okW sg a=true) (hb:okW sk b=true) (hc:Cor G H row a b)
include hG hH hB ha hb hc
theorem YAv (h0:Yax G a≠0) (s:Int):wAt G (Yax G a)=wAt H (Yax H b)∧((plR p.cls G a s=0∧plR p.cls H b s=0) ∨
  (plR p.cls G a s≠0∧plR p.cls H b s≠0∧Cor G H row (wAt G (plR p.cls G a s).toNat) (wAt H (plR p.cls H b s).toNat)∧okW sg (wAt G (plR p.cls G a s).toNat)=true∧okW sk (wAt H (plR p.cls H b s).toNat)=true)):=by
 rcases hc with ⟨z,_,_⟩|⟨z1,z2,hm⟩
 ·exact (h0 z).elim
 have r1:=hG.re_obj ha z1;have r2:=hH.re_obj hb z2;have hd:=hB.hd _ hm;have sl:=hB.sl _ hm;refine ⟨hd,?_⟩;obtain ⟨k1,q1,_,c1,d1⟩:=YnA hG r1;obtain ⟨k2,q2,_,c2,d2⟩:=YnA hH r2;unfold plR;rw [if_neg z1,if_neg z2];have hfb:=Ydj (fun x=>s==x) (slotsOf p.cls (wAt G (Yax G a)).toNat) 0;simp only at hd sl;rw [← hd];generalize Yax G a=x at *
 generalize Yax H b=y at *
 generalize hf:Yb3 (fun x=>s==x) 0 (slotsOf p.cls (wAt G x).toNat)=f at *
 by_cases hn:f < 0
 ·rw [if_pos hn,if_pos hn];exact .inl ⟨rfl,rfl⟩
 ·rw [if_neg hn,if_neg hn];obtain ⟨n,rfl⟩:∃ n:Nat,f=n:=⟨f.toNat,by omega⟩;rw [c1] at hfb;have e1:=Yz7 (sh:=shp p.cls) (W:=G) (x:=x) (f:=n) (by omega) d1;have e2:=Yz7 (sh:=shp p.cls) (W:=H) (x:=y) (f:=n) (by rw [← hd];omega) d2;rw [show ((x:Int)+1+(n:Int)).toNat=x+1+n by omega,show ((y:Int)+1+(n:Int)).toNat=y+1+n by omega];exact .inr ⟨by omega,by omega,sl.get n _ _ e1 e2,YbW hG r1.1 _ (List.mem_of_getElem? e1),YbW hH r2.1 _ (List.mem_of_getElem? e2)⟩
omit hB in
theorem YzN:(a % 2≠0∨a=0)∧(b % 2≠0∨b=0)∧a=b∨¬ (a % 2≠0∨a=0)∧¬ (b % 2≠0∨b=0)∧Yax G a≠0∧Yax H b≠0:=by
 have i1:=hG.obj_iff ha;have i2:=hH.obj_iff hb;rcases hc with ⟨z1,z2,e⟩|⟨z1,z2,_⟩
 ·exact .inl ⟨i1.1 z1,i2.1 z2,e⟩
 ·exact .inr ⟨fun q=>z1 (i1.2 q),fun q=>z2 (i2.2 q),z1,z2⟩
end
section
variable (p:Prg) (hs:Ya9 p.cls) (hpk:∀ x∈p.nodes,x.2.2.length*8≤140737488355328)
include hs hpk
abbrev YAx (x:List Int × List Int × List Int × List Int):AV:=.st [ints x.1,ints x.2.1,ints x.2.2.1,ints x.2.2.2]
end
end Go.Proofs
namespace Go.V
open Go Go.W
section
variable {C:Cx} {ρ:Ro} {η:Eta} {X Y:Nat} {x y:Operand} {M:Bool}
theorem YAB {k:IntKind} {n:Int} (h1:C.P.underlying X=some (.int k)) (h2:C.P.underlying Y=some (.int .i64)) (hx:ev2 ρ x=some (.raw (.int k n)):=by with_unfolding_all exact rfl) (h0:-9223372036854775808≤n:=by omega) (h6:n≤9223372036854775807:=by omega):Yaj C.P C.N C.D (.convert X Y x) ρ η (V.int n) M:=
 fun m w γ ρc a hE hR hH=>⟨_,.raw rfl,fun _ _ _ _ _ _=>by
  have hk:C.P.intKind Y=.i64:=by simp [Program.intKind,h2]
  have:=run_convert_int (P:=C.P) (w:=‹World›) X Y k n (by rw [h1];rfl) (by rw [hk];exact h2)
  rw [hk,YbX h0 h6] at this;simp [execOp,hE.ev (hR.raw hx),this]⟩
theorem YA1 {i j:Int} (hx:ev2 ρ x=some (.raw (.int .i64 i)):=by with_unfolding_all exact rfl) (hy:ev2 ρ y=some (.raw (.int .i64 j)):=by with_unfolding_all exact rfl) (h0:0≤i:=by omega) (h1:0 < j:=by omega):Yaj C.P C.N C.D (.binOp .rem X x y Y) ρ η (V.int (i % j)) M:=Yqj hx hy h0 h1
end
end Go.V
namespace Go.Proofs
open Go Go.W Go.V
abbrev u8w (n:Int):AV:=.raw (.int .u8 n)
section
variable (p:Prg) (hs:Ya9 p.cls) (hpk:∀ x∈p.nodes,x.2.2.length*8≤140737488355328) (G H:List Int) (hGi:∀ x∈G,YbC x) (hHi:∀ x∈H,YbC x) (hGl:G.length*8≤140737488355328) (hHl:H.length*8≤140737488355328) (a b:List Int) (hai:∀ w∈a,YbC w) (hbi:∀ w∈b,YbC w) (hal:a.length≤1048576) (hbl:b.length≤1048576) (pt:List Int) (hpi:∀ n∈pt,0≤n∧n≤255)
include hs hpk hGi hHi hGl hHl hai hbi hal hbl hpi
set_option maxHeartbeats 16000000 in
theorem Yy6 (hpt:¬ 0 < pt.length) (k:Nat) (hka:k < a.length) (hk:k=0) (hgG:Ybt p G=true) (hgH:Ybt p H=true) (haA:a.all (okW (Yee p G))=true) (hbA:b.all (okW (Yee p H))=true) (hpw:YdM (shp p.cls) G H a b=true) (_hp10:pt.length≤10):V.Spec Tryz.prog 8 [Ya0 p,YAx (G,H,a,b),.sl 1 none (pt.map u8w)] [] (V.bool true) []:=by
 have _:=hpi;have hkn:=Ye2;have h1:=YkN p hs hpk G H hGi hHi hGl hHl a b hai hbi (by omega) (by omega);have e1:Ynm p G H a b=(true,0):=by unfold Ynm;rw [hgG,hgH,haA,hbA,hpw];rfl
 rw [e1] at h1;obtain ⟨hp,_,sg,hsg,hG⟩:=Ybe hgG;obtain ⟨_,_,sk,hsk,hH⟩:=Ybe hgH;have hcb:=YaC hp;have hsG:=hsg;have hsH:=hsk;rw [YcP hsg] at haA;rw [YcP hsk] at hbA;have hak:∀ w∈a,okW sg w=true:=fun w hw=>List.all_eq_true.1 haA w hw
 have hbk:∀ w∈b,okW sk w=true:=fun w hw=>List.all_eq_true.1 hbA w hw
 obtain ⟨row,hBs,_,_⟩:=Yrg hG hH hak hbk hpw;have hlen:=hBs.rt.len;have h2:=Ylk p hs hpk G hGi hGl;have h3:=Ylk p hs hpk H hHi hHl;rw [hgG] at h2;rw [hgH] at h3;have hc0:Cor G H row a[k] (b[k]'(by omega)):=hBs.rt.get k _ _ (List.getElem?_eq_getElem hka) (List.getElem?_eq_getElem (by omega));have hiw:∀ w,YbC w→okW sg w=true→V.Spec Tryz.prog 27 [Ya0 p,Yaw G,ints [w]] [] (V.bool true) []:=fun w h1 h2=>by
  have:=Yqe p hs hcb G hGi hGl [w] (by simpa using h1) (by simp)
  rw [YcP hsg] at this;simpa [h2] using this
 have hiv:∀ w,YbC w→okW sk w=true→V.Spec Tryz.prog 27 [Ya0 p,Yaw H,ints [w]] [] (V.bool true) []:=fun w h1 h2=>by
  have:=Yqe p hs hcb H hHi hHl [w] (by simpa using h1) (by simp)
  rw [YcP hsk] at this;simpa [h2] using this
 have hua:=hak _ (List.getElem_mem hka);have hub:=hbk _ (List.getElem_mem (show k < b.length by omega));have hia:=hai _ (List.getElem_mem hka);have hib:=hbi _ (List.getElem_mem (show k < b.length by omega));refine Se Tryz.func8 rfl rfl rfl fun B hB=>?_;repeat' (first|(with_reducible refine TC.seq ?_)|(with_reducible refine TC.region ?_))
 with_reducible refine OL.box ?_
 with_reducible refine OL.box ?_
 refine Zag 3 ?_;refine Zag 4 ?_;refine goW ?_;refine OL.st ?_ (h:=Ywt 1);refine goW ?_;refine OL.c h1 Tryz.func24 ?_;refine goW ?_;refine OL.c h2 Tryz.func26 ?_;refine goW ?_;refine OL.c h3 Tryz.func26 ?_;refine goW ?_;refine OL.st ?_ (h:=Ywt 1);refine goW ?_
 (refine Zal (id:=9) true 14 14 ?_<;>refine Zaf 0 1 2 3 ?_<;>refine OD.st 4 ?_<;>refine OD.st 5 ?_ (h:=(by with_unfolding_all exact gv))<;>refine ZaL 93 (LE.int (show a[0]'(by omega)=a[k] by subst hk;rfl)) ?_<;>refine OD.st 6 ?_<;>refine OD.st 7 ?_ (h:=Ywt 1)<;>refine Zae 8 9 ?_<;>refine OD.st 10 ?_<;>refine OD.st 11 ?_ (h:=(by with_unfolding_all exact gv))<;>refine ZaL 99 (LE.int (show b[0]'(by omega)=b[k]'(by omega) by subst hk;rfl)) ?_<;>refine Zae 12 13 ?_<;>refine Zaa ?_)
 refine goW ?_;refine Zat (fun s:Nat × Int × Int=>[(2,.sl 1 none (pt.map u8w)),(3,.ep (YbB p) 0),(4,.ep [ints G,ints H,ints a,ints b] 0),(10,V.int s.2.1),(11,V.int s.2.2),(12,V.int s.1)]) (fun _=>[.dead,.dead]) (fun s=>s.1≤pt.length∧okW sg s.2.1=true∧okW sk s.2.2=true∧Cor G H row s.2.1 s.2.2∧YbC s.2.1∧YbC s.2.2) (fun s=>pt.length-s.1) (0,a[k],b[k]'(by omega)) [0,1] ⟨Nat.zero_le _,hua,hub,hc0,hia,hib⟩ ?_;rintro ⟨i,u,v⟩ ⟨hi,hu,hv,hc,hui,hvi⟩;dsimp only at *
 have hv1:=hiw u hui hu;have hv2:=hiv v hvi hv;rcases YzN hG hH hu hv hc with ⟨p1,p2,e⟩|⟨n1,n2,z1,z2⟩
 ·subst e;refine goW ?_;refine Zax 110 ?_;refine OL.c hv1 Tryz.func27 ?_;refine goW ?_;refine Zax 118 ?_;refine OL.c hv2 Tryz.func27 ?_;refine goW ?_;refine Zbq (r:=u.tmod 2) rfl ?_;by_cases ho:u.tmod 2≠0
  ·refine goW ?_;refine OL.c hkn Tryz.func17 ?_;refine goW ?_;exact Zad [] (.ren rfl)
  ·have hu0:u=0:=p1.resolve_left fun h=>ho fun h3=>h (YcG.1 h3)
   refine goW ?_;refine OL.c hkn Tryz.func17 ?_;refine goW ?_;exact Zad [] (.ren rfl)
 ·obtain ⟨hu0,hum⟩:0 < u∧(u / 2).toNat∈sg:=by
   rcases YlJ hu with h|⟨_,h3,h4⟩
   ·exact (n1 h).elim
   ·exact ⟨h3,h4⟩
  obtain ⟨hv0,hvm⟩:0 < v∧(v / 2).toNat∈sk:=by
   rcases YlJ hv with h|⟨_,h3,h4⟩
   ·exact (n2 h).elim
   ·exact ⟨h3,h4⟩
  have hu1:=hui.2;have hv1':=hvi.2;have hr1:=Yrz G hGi sg hG _ hum;have hr2:=Yrz H hHi sk hH _ hvm;have ho1:Yax G u=real G (u / 2).toNat:=by rw [Yax,if_neg n1]
  have ho2:Yax H v=real H (v / 2).toNat:=by rw [Yax,if_neg n2]
  rw [← ho1,show (((u / 2).toNat:Nat):Int)=u / 2 by omega] at hr1;rw [← ho2,show (((v / 2).toNat:Nat):Int)=v / 2 by omega] at hr2;have hxl:=(hG.hd (hG.re_obj hu z1).1).2.1;have hyl:=(hH.hd (hH.re_obj hv z2).1).2.1;have hsg:=fun s=>YAv hG hH hBs hu hv hc z1 s
  have hxy:G[Yax G u]=H[Yax H v]:=by
   have:=(hsg 0).1
   rwa [wAt,wAt,List.getD_eq_getElem?_getD,List.getD_eq_getElem?_getD,List.getElem?_eq_getElem hxl,List.getElem?_eq_getElem hyl] at this
  have hg1:=fun s=>Yim p hs hpk G hGi hGl u s hui
  have hg2:=fun s=>Yim p hs hpk H hHi hHl v s hvi
  have hgd:∀ s,0≤s→s < p.slots→(YtX p G u s=(0,5)∧YtX p H v s=(0,5))∨∃ c d,YtX p G u s=(c,0)∧YtX p H v s=(d,0)∧okW sg c=true∧okW sk d=true∧Cor G H row c d∧YbC c∧YbC d:=fun s q1 q2=>by
   rw [YyQ,YyQ,hgG,hgH,YcP hsG,YcP hsH,hu,hv,decide_eq_true q1,decide_eq_true q2];simp only [Bool.and_self,if_true];have i1:=YzL hG (w:=u) (s:=s) hu;have i2:=YzL hH (w:=v) (s:=s) hv;rcases (hsg s).2 with ⟨y1,y2⟩|⟨y1,y2,y3,y4,y5⟩
   ·rw [if_pos y1,if_pos y2];exact .inl ⟨rfl,rfl⟩
   ·rw [if_neg y1,if_neg y2];refine .inr ⟨_,_,rfl,rfl,y4,y5,y3,?_,?_⟩
    ·rw [wAt,List.getD_eq_getElem?_getD,List.getElem?_eq_getElem (by omega)];exact hGi _ (List.getElem_mem _)
    ·rw [wAt,List.getD_eq_getElem?_getD,List.getElem?_eq_getElem (by omega)];exact hHi _ (List.getElem_mem _)
  clear hsg;generalize Yax G u=x at *
  generalize Yax H v=y at *
  refine goW ?_;refine Zax 110 ?_;refine OL.c hv1 Tryz.func27 ?_;refine goW ?_;refine Zax 118 ?_;refine OL.c hv2 Tryz.func27 ?_;refine goW ?_;(refine Zal (id:=18) true 21 21 ?_<;>refine Zaf 0 1 2 3 ?_<;>refine OD.st 4 ?_ (h:=gvM)<;>refine OD.st 5 ?_<;>refine OD.st 6 ?_ (h:=Yzo)<;>refine Zaf 10 11 12 13 ?_<;>refine OD.st 14 ?_ (h:=gvM)<;>refine OD.st 15 ?_<;>refine OD.st 16 ?_ (h:=Yzo)<;>refine Zah 7 hr1 Tryz.func30 ?_<;>refine OD.st 8 ?_<;>refine OD.st 9 ?_ (h:=(by with_unfolding_all exact gv))<;>refine ZaL 154 (LE.int (show _=G[x] from rfl)) ?_<;>refine Zah 17 hr2 Tryz.func30 ?_<;>refine OD.st 18 ?_<;>refine OD.st 19 ?_ (h:=(by with_unfolding_all exact gv))<;>refine ZaL 164 (LE.int (show _=H[y] from rfl)) ?_<;>refine OD.st 20 ?_<;>refine Zaa ?_)
  by_cases hil:i=pt.length
  ·refine goW ?_;refine OL.c hkn Tryz.func17 ?_;refine goW ?_;exact Zad [] (.ren rfl)
  omega
set_option maxHeartbeats 16000000 in
theorem Yy7 (hpt:0 < pt.length) (k:Nat) (hka:k < a.length) (hk:(k:Int)=pt[0] % (a.length:Nat)) (hgG:Ybt p G=true) (hgH:Ybt p H=true) (haA:a.all (okW (Yee p G))=true) (hbA:b.all (okW (Yee p H))=true) (hpw:YdM (shp p.cls) G H a b=true) (hp10:pt.length≤10):V.Spec Tryz.prog 8 [Ya0 p,YAx (G,H,a,b),.sl 1 none (pt.map u8w)] [] (V.bool true) []:=by
 have hkn:=Ye2;have h1:=YkN p hs hpk G H hGi hHi hGl hHl a b hai hbi (by omega) (by omega);have e1:Ynm p G H a b=(true,0):=by unfold Ynm;rw [hgG,hgH,haA,hbA,hpw];rfl
 rw [e1] at h1;obtain ⟨hp,_,sg,hsg,hG⟩:=Ybe hgG;obtain ⟨_,_,sk,hsk,hH⟩:=Ybe hgH;have hcb:=YaC hp;have hsG:=hsg;have hsH:=hsk;rw [YcP hsg] at haA;rw [YcP hsk] at hbA;have hak:∀ w∈a,okW sg w=true:=fun w hw=>List.all_eq_true.1 haA w hw
 have hbk:∀ w∈b,okW sk w=true:=fun w hw=>List.all_eq_true.1 hbA w hw
 obtain ⟨row,hBs,_,_⟩:=Yrg hG hH hak hbk hpw;have hlen:=hBs.rt.len;have h2:=Ylk p hs hpk G hGi hGl;have h3:=Ylk p hs hpk H hHi hHl;rw [hgG] at h2;rw [hgH] at h3;have hc0:Cor G H row a[k] (b[k]'(by omega)):=hBs.rt.get k _ _ (List.getElem?_eq_getElem hka) (List.getElem?_eq_getElem (by omega));have hiw:∀ w,YbC w→okW sg w=true→V.Spec Tryz.prog 27 [Ya0 p,Yaw G,ints [w]] [] (V.bool true) []:=fun w h1 h2=>by
  have:=Yqe p hs hcb G hGi hGl [w] (by simpa using h1) (by simp)
  rw [YcP hsg] at this;simpa [h2] using this
 have hiv:∀ w,YbC w→okW sk w=true→V.Spec Tryz.prog 27 [Ya0 p,Yaw H,ints [w]] [] (V.bool true) []:=fun w h1 h2=>by
  have:=Yqe p hs hcb H hHi hHl [w] (by simpa using h1) (by simp)
  rw [YcP hsk] at this;simpa [h2] using this
 have hua:=hak _ (List.getElem_mem hka);have hub:=hbk _ (List.getElem_mem (show k < b.length by omega));have hia:=hai _ (List.getElem_mem hka);have hib:=hbi _ (List.getElem_mem (show k < b.length by omega));have hp0:=hpi _ (List.getElem_mem hpt);refine Se Tryz.func8 rfl rfl rfl fun B hB=>?_;repeat' (first|(with_reducible refine TC.seq ?_)|(with_reducible refine TC.region ?_))
 with_reducible refine OL.box ?_
 with_reducible refine OL.box ?_
 refine Zag 3 ?_;refine Zag 4 ?_;refine goW ?_;refine OL.st ?_ (h:=Ywt 1);refine goW ?_;refine OL.c h1 Tryz.func24 ?_;refine goW ?_;refine OL.c h2 Tryz.func26 ?_;refine goW ?_;refine OL.c h3 Tryz.func26 ?_;refine goW ?_;refine OL.st ?_ (h:=Ywt 1);refine goW ?_;(refine Zal (id:=8) true 10 10 ?_<;>refine Zae 0 1 ?_<;>refine OD.st 2 ?_ (h:=(by with_unfolding_all exact gv))<;>refine OD.st 3 ?_ (h:=YAB Tryz.underlying5 Tryz.underlying3 (h0:=Int.le_trans (by decide) hp0.1) (h6:=Int.le_trans hp0.2 (by decide)))<;>refine Zaf 4 5 6 7 ?_<;>refine OD.st 8 ?_ (h:=YA1 (h0:=hp0.1) (h1:=by omega))<;>refine ZaL 87 (LE.int hk.symm) ?_<;>refine OD.st 9 ?_<;>refine Zaa ?_)
 refine goW ?_
 (refine Zal (id:=9) true 14 14 ?_<;>refine Zaf 0 1 2 3 ?_<;>refine OD.st 4 ?_<;>refine OD.st 5 ?_ (h:=(by with_unfolding_all exact gv))<;>refine ZaL 93 (LE.int (show _=a[k] from rfl)) ?_<;>refine OD.st 6 ?_<;>refine OD.st 7 ?_ (h:=Ywt 1)<;>refine Zae 8 9 ?_<;>refine OD.st 10 ?_<;>refine OD.st 11 ?_ (h:=(by with_unfolding_all exact gv))<;>refine ZaL 99 (LE.int (show _=b[k]'(by omega) from rfl)) ?_<;>refine Zae 12 13 ?_<;>refine Zaa ?_)
 refine goW ?_;refine Zat (fun s:Nat × Int × Int=>[(2,.sl 1 none (pt.map u8w)),(3,.ep (YbB p) 0),(4,.ep [ints G,ints H,ints a,ints b] 0),(10,V.int s.2.1),(11,V.int s.2.2),(12,V.int s.1)]) (fun _=>[.dead,.dead]) (fun s=>s.1≤pt.length∧okW sg s.2.1=true∧okW sk s.2.2=true∧Cor G H row s.2.1 s.2.2∧YbC s.2.1∧YbC s.2.2) (fun s=>pt.length-s.1) (0,a[k],b[k]'(by omega)) [0,1] ⟨Nat.zero_le _,hua,hub,hc0,hia,hib⟩ ?_;rintro ⟨i,u,v⟩ ⟨hi,hu,hv,hc,hui,hvi⟩;dsimp only at *
 have hv1:=hiw u hui hu;have hv2:=hiv v hvi hv;rcases YzN hG hH hu hv hc with ⟨p1,p2,e⟩|⟨n1,n2,z1,z2⟩
 ·subst e;refine goW ?_;refine Zax 110 ?_;refine OL.c hv1 Tryz.func27 ?_;refine goW ?_;refine Zax 118 ?_;refine OL.c hv2 Tryz.func27 ?_;refine goW ?_;refine Zbq (r:=u.tmod 2) rfl ?_;by_cases ho:u.tmod 2≠0
  ·refine goW ?_;refine OL.c hkn Tryz.func17 ?_;refine goW ?_;exact Zad [] (.ren rfl)
  ·have hu0:u=0:=p1.resolve_left fun h=>ho fun h3=>h (YcG.1 h3)
   refine goW ?_;refine OL.c hkn Tryz.func17 ?_;refine goW ?_;exact Zad [] (.ren rfl)
 ·obtain ⟨hu0,hum⟩:0 < u∧(u / 2).toNat∈sg:=by
   rcases YlJ hu with h|⟨_,h3,h4⟩
   ·exact (n1 h).elim
   ·exact ⟨h3,h4⟩
  obtain ⟨hv0,hvm⟩:0 < v∧(v / 2).toNat∈sk:=by
   rcases YlJ hv with h|⟨_,h3,h4⟩
   ·exact (n2 h).elim
   ·exact ⟨h3,h4⟩
  have hu1:=hui.2;have hv1':=hvi.2;have hr1:=Yrz G hGi sg hG _ hum;have hr2:=Yrz H hHi sk hH _ hvm;have ho1:Yax G u=real G (u / 2).toNat:=by rw [Yax,if_neg n1]
  have ho2:Yax H v=real H (v / 2).toNat:=by rw [Yax,if_neg n2]
  rw [← ho1,show (((u / 2).toNat:Nat):Int)=u / 2 by omega] at hr1;rw [← ho2,show (((v / 2).toNat:Nat):Int)=v / 2 by omega] at hr2;have hxl:=(hG.hd (hG.re_obj hu z1).1).2.1;have hyl:=(hH.hd (hH.re_obj hv z2).1).2.1;have hsg:=fun s=>YAv hG hH hBs hu hv hc z1 s
  have hxy:G[Yax G u]=H[Yax H v]:=by
   have:=(hsg 0).1
   rwa [wAt,wAt,List.getD_eq_getElem?_getD,List.getD_eq_getElem?_getD,List.getElem?_eq_getElem hxl,List.getElem?_eq_getElem hyl] at this
  have hg1:=fun s=>Yim p hs hpk G hGi hGl u s hui
  have hg2:=fun s=>Yim p hs hpk H hHi hHl v s hvi
  have hgd:∀ s,0≤s→s < p.slots→(YtX p G u s=(0,5)∧YtX p H v s=(0,5))∨∃ c d,YtX p G u s=(c,0)∧YtX p H v s=(d,0)∧okW sg c=true∧okW sk d=true∧Cor G H row c d∧YbC c∧YbC d:=fun s q1 q2=>by
   rw [YyQ,YyQ,hgG,hgH,YcP hsG,YcP hsH,hu,hv,decide_eq_true q1,decide_eq_true q2];simp only [Bool.and_self,if_true];have i1:=YzL hG (w:=u) (s:=s) hu;have i2:=YzL hH (w:=v) (s:=s) hv;rcases (hsg s).2 with ⟨y1,y2⟩|⟨y1,y2,y3,y4,y5⟩
   ·rw [if_pos y1,if_pos y2];exact .inl ⟨rfl,rfl⟩
   ·rw [if_neg y1,if_neg y2];refine .inr ⟨_,_,rfl,rfl,y4,y5,y3,?_,?_⟩
    ·rw [wAt,List.getD_eq_getElem?_getD,List.getElem?_eq_getElem (by omega)];exact hGi _ (List.getElem_mem _)
    ·rw [wAt,List.getD_eq_getElem?_getD,List.getElem?_eq_getElem (by omega)];exact hHi _ (List.getElem_mem _)
  clear hsg;generalize Yax G u=x at *
  generalize Yax H v=y at *
  refine goW ?_;refine Zax 110 ?_;refine OL.c hv1 Tryz.func27 ?_;refine goW ?_;refine Zax 118 ?_;refine OL.c hv2 Tryz.func27 ?_;refine goW ?_;(refine Zal (id:=18) true 21 21 ?_<;>refine Zaf 0 1 2 3 ?_<;>refine OD.st 4 ?_ (h:=gvM)<;>refine OD.st 5 ?_<;>refine OD.st 6 ?_ (h:=Yzo)<;>refine Zaf 10 11 12 13 ?_<;>refine OD.st 14 ?_ (h:=gvM)<;>refine OD.st 15 ?_<;>refine OD.st 16 ?_ (h:=Yzo)<;>refine Zah 7 hr1 Tryz.func30 ?_<;>refine OD.st 8 ?_<;>refine OD.st 9 ?_ (h:=(by with_unfolding_all exact gv))<;>refine ZaL 154 (LE.int (show _=G[x] from rfl)) ?_<;>refine Zah 17 hr2 Tryz.func30 ?_<;>refine OD.st 18 ?_<;>refine OD.st 19 ?_ (h:=(by with_unfolding_all exact gv))<;>refine ZaL 164 (LE.int (show _=H[y] from rfl)) ?_<;>refine OD.st 20 ?_<;>refine Zaa ?_)
  by_cases hil:i=pt.length
  ·refine goW ?_;refine OL.c hkn Tryz.func17 ?_;refine goW ?_;exact Zad [] (.ren rfl)
  by_cases hsl:p.slots=0
  ·refine goW ?_;refine OL.c hkn Tryz.func17 ?_;refine goW ?_;exact Zad [] (.ren rfl)
  have hil':i < pt.length:=by omega
  have hpt':=hpi _ (List.getElem_mem hil');have hsp:0 < p.slots:=by
   simp only [Yag,Bool.and_eq_true,decide_eq_true_eq] at hcb;have:=hcb.2.1.1
   omega
  have hm0:=Int.emod_nonneg pt[i] hsl;have hm1:=Int.emod_lt_of_pos pt[i] hsp;generalize hse:pt[i] % p.slots=s at *
  have hg1:=hg1 s;have hg2:=hg2 s;have hgd:=hgd s hm0 hm1;refine goW ?_;(refine Zal (id:=21) true 9 9 ?_<;>refine Zaf 0 1 2 3 ?_<;>refine OD.st 4 ?_ (h:=YAB Tryz.underlying5 Tryz.underlying3 (h0:=Int.le_trans (by decide) hpt'.1) (h6:=Int.le_trans hpt'.2 (by decide)))<;>refine Zae 5 6 ?_<;>refine OD.st 7 ?_ (h:=YA1 (h0:=hpt'.1) (h1:=hsp))<;>refine ZaL 182 (LE.int hse) ?_<;>refine OD.st 8 ?_<;>refine Zaa ?_)
  refine goW ?_;refine OL.c hg1 Tryz.func31 ?_;refine goW ?_;refine OL.c hg2 Tryz.func31 ?_;rcases hgd with ⟨q1,q2⟩|⟨c,d,q1,q2,q3,q4,q5,q6,q7⟩
  ·rw [q1,q2];refine goW ?_;refine OL.c hkn Tryz.func17 ?_;refine goW ?_;exact Zad [] (.ren rfl)
  ·rw [q1,q2];refine goW ?_;exact Zan (i+1,c,d) [0,1] ⟨by dsimp only;omega,q3,q4,q5,q6,q7⟩ (by dsimp only;omega)
set_option maxHeartbeats 4000000 in
theorem Yze:V.Spec Tryz.prog 8 [Ya0 p,YAx (G,H,a,b),.sl 1 none (pt.map u8w)] [] (V.bool true) []:=by
 have hkn:=Ye2;have h1:=YkN p hs hpk G H hGi hHi hGl hHl a b hai hbi (by omega) (by omega);unfold Ynm at h1
 cases hc:(Ybt p G&&Ybt p H)&&(a.all (okW (Yee p G))&&b.all (okW (Yee p H))) with
 | false =>
   rw [hc,if_neg (by decide)] at h1;refine Se Tryz.func8 rfl rfl rfl fun B hB=>?_;repeat' (first|(with_reducible refine TC.seq ?_)|(with_reducible refine TC.region ?_))
   with_reducible refine OL.box ?_
   with_reducible refine OL.box ?_
   refine Zag 3 ?_;refine Zag 4 ?_;refine goW ?_;refine OL.st ?_ (h:=Ywt 1);refine goW ?_;refine OL.c h1 Tryz.func24 ?_;refine goW ?_;refine OL.c hkn Tryz.func17 ?_;refine goW ?_;exact Zad [] (.ren rfl)
 | true =>
   rw [hc,if_pos rfl] at h1;simp only [Bool.and_eq_true] at hc;obtain ⟨⟨hgG,hgH⟩,haA,hbA⟩:=hc;have h2:=Ylk p hs hpk G hGi hGl;have h3:=Ylk p hs hpk H hHi hHl;rw [hgG] at h2;rw [hgH] at h3;by_cases hpw:YdM (shp p.cls) G H a b=true∧a.length≠0∧pt.length≤10
   ·obtain ⟨q1,q2,q3⟩:=hpw;by_cases hpt:0 < pt.length
    ·have hp0:=hpi _ (List.getElem_mem hpt);have hm0:=Int.emod_nonneg pt[0] (show ((a.length:Nat):Int)≠0 by omega);have hm1:=Int.emod_lt_of_pos pt[0] (show 0 < ((a.length:Nat):Int) by omega);exact Yy7 p hs hpk G H hGi hHi hGl hHl a b hai hbi hal hbl pt hpi hpt (pt[0] % (a.length:Nat)).toNat (by omega) (by omega) hgG hgH haA hbA q1 q3
    ·exact Yy6 p hs hpk G H hGi hHi hGl hHl a b hai hbi hal hbl pt hpi hpt 0 (by omega) rfl hgG hgH haA hbA q1 q3
   ·cases hpv:YdM (shp p.cls) G H a b with
    | false =>
      rw [hpv] at h1;refine Se Tryz.func8 rfl rfl rfl fun B hB=>?_;repeat' (first|(with_reducible refine TC.seq ?_)|(with_reducible refine TC.region ?_))
      with_reducible refine OL.box ?_
      with_reducible refine OL.box ?_
      refine Zag 3 ?_;refine Zag 4 ?_;refine goW ?_;refine OL.st ?_ (h:=Ywt 1);refine goW ?_;refine OL.c h1 Tryz.func24 ?_;refine goW ?_;refine OL.c hkn Tryz.func17 ?_;refine goW ?_;exact Zad [] (.ren rfl)
    | true =>
      rw [hpv] at h1;have hpw2:a.length=0∨10 < pt.length:=by
       by_cases z:a.length=0
       ·exact .inl z
       ·exact .inr (Nat.lt_of_not_le fun q=>hpw ⟨hpv,z,q⟩)
      by_cases z:a.length=0
      ·refine Se Tryz.func8 rfl rfl rfl fun B hB=>?_;repeat' (first|(with_reducible refine TC.seq ?_)|(with_reducible refine TC.region ?_))
       with_reducible refine OL.box ?_
       with_reducible refine OL.box ?_
       refine Zag 3 ?_;refine Zag 4 ?_;refine goW ?_;refine OL.st ?_ (h:=Ywt 1);refine goW ?_;refine OL.c h1 Tryz.func24 ?_;refine goW ?_;refine OL.c hkn Tryz.func17 ?_;refine goW ?_;exact Zad [] (.ren rfl)
      ·have z2:=hpw2.resolve_left z;refine Se Tryz.func8 rfl rfl rfl fun B hB=>?_;repeat' (first|(with_reducible refine TC.seq ?_)|(with_reducible refine TC.region ?_))
       with_reducible refine OL.box ?_
       with_reducible refine OL.box ?_
       refine Zag 3 ?_;refine Zag 4 ?_;refine goW ?_;refine OL.st ?_ (h:=Ywt 1);refine goW ?_;refine OL.c h1 Tryz.func24 ?_;refine goW ?_;refine OL.c hkn Tryz.func17 ?_;refine goW ?_;exact Zad [] (.ren rfl)
end
open Go Go.W Go.V Go.ChangeShapes Go.WideShapes Go.ChangeAt Go.RowKit Go.Deep
abbrev u8L (l:List Int):AV:=.sl 1 none (l.map u8w)
section
variable {H:Type} {enc:TypeId × Value→H} {w:World} {held:Bool}
theorem pU8:Rs enc Tryz.prog w held 5 1 u8w (fun n=>0≤n∧n≤255):=by
 intro n cs y h _;obtain ⟨i,rfl,rfl,hw⟩:=DataW.trod_int Tryz.underlying5 h;have:IntKind.u8.min≤i∧i≤IntKind.u8.max:=by simpa [Lit.wf] using hw
 exact ⟨i,CL.one rfl (.raw rfl),rfl,this.1,this.2⟩
theorem YBi:Rs enc Tryz.prog w held 54 1 u8L (fun l=>∀ n∈l,0≤n∧n≤255):=
 (Rs.slice Tryz.underlying54 (by kernel_rfl) (B:=1) (by kernel_rfl) (by decide) pU8).map (fun x=>x) (fun _=>rfl) (fun _ h=>h.2)
end
end Go.Proofs
