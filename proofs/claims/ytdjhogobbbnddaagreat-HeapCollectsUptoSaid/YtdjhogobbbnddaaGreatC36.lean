/- Lemmas for the claim; no conditions. -/
import Derived.Test.YtdjhogobbbnddaaGreatC19
import Derived.Test.YtdjhogobbbnddaaGreatC18
import Derived.Test.YtdjhogobbbnddaaGreatC35
import Derived.Test.YtdjhogobbbnddaaGreatC48
import Derived.Test.YtdjhogobbbnddaaGreatC23
import Derived.Test.YtdjhogobbbnddaaGreatC21
namespace Go.Proofs
open Go Go.W Go.V
theorem YoZ (n:Nat):marks n []=List.replicate n false:=by
 rw [marks];apply List.ext_getElem?;intro i;rw [List.getElem?_replicate,List.getElem?_map];split
 ·rename_i h;rw [List.getElem?_range h];rfl
 ·rw [List.getElem?_eq_none (by simp;omega)];rfl
theorem YoP {n i:Nat} {pre:List Nat} (hi:i < n):(marks n pre).set i true=marks n (pre++[i]):=by
 apply List.ext_getElem?;intro k;rw [List.getElem?_set];simp only [marks,List.length_map,List.length_range,List.getElem?_map];by_cases hk:i=k
 ·subst hk;rw [if_pos rfl,if_pos hi,List.getElem?_range hi];simp
 ·rw [if_neg hk];by_cases hkn:k < n
  ·rw [List.getElem?_range hkn];simp [Ne.symm hk]
  ·rw [List.getElem?_eq_none (by simp;omega)];rfl
section
variable {C:Cx} {ops:Array Oper} {Q:Qt} {ρ:Ro} {η:Eta} {rest:List Oper} {T d:Nat} {pos:String} {af:Array Edge} {x:Operand} {args:List Operand} {at_:Array TypeId} {b:Bool}
theorem ZbF (hb:b=true) (k:OL C ops Q rest ((d,.tp [])::ρ) η) (hP:C.P=Tryz.prog:=by with_unfolding_all exact rfl) (hx:ev2 ρ x=some (.fn (.func 146) [] []):=by with_unfolding_all exact rfl) (hl:Yc6 ρ args=some [V.bool b]:=by with_unfolding_all exact rfl) (hd:Nat.blt d C.N=true:=by with_unfolding_all exact rfl) :
  OL C ops Q (⟨some d,.call ⟨.value x,args.toArray,at_⟩,T,pos,af,none⟩::rest) ρ η:=by
 subst hb;exact Zbg [] Ymk Tryz.func146 k hP hx (by with_unfolding_all exact rfl) hl rfl (by with_unfolding_all exact trivial) (by with_unfolding_all exact ⟨.ren rfl,trivial⟩) hd rfl (by simp [upd])
theorem Zbn (hb:b=false) (k:TX C Q (.panic (pan (rfv 2))) ρ η) (hP:C.P=Tryz.prog:=by with_unfolding_all exact rfl) (hx:ev2 ρ x=some (.fn (.func 146) [] []):=by with_unfolding_all exact rfl) (hl:Yc6 ρ args=some [V.bool b]:=by with_unfolding_all exact rfl) :
  OL C ops Q (⟨some d,.call ⟨.value x,args.toArray,at_⟩,T,pos,af,none⟩::rest) ρ η:=by
 subst hb;exact ZcC [] Ymg Tryz.func146 k hx hP (by with_unfolding_all exact rfl) hl rfl (by with_unfolding_all exact trivial) (by with_unfolding_all exact ⟨.ren rfl,trivial⟩) (by simp [upd])
end
theorem Yq2 {g cap l n:Nat} (h:l+n≤cap):∃ o c,partV g 0 cap l (l+n)=.slice (some ⟨g,o,none⟩) n c∧(0 < n→o=l):=by
 refine ⟨if cap=l then 0 else l,cap-l,?_,fun hn=>if_neg (by omega)⟩;rw [partV,show l+n-l=n by omega];split<;>simp
set_option maxHeartbeats 4000000 in
theorem YrT (p:Prg) (h10:p.cls.length≤10) (W:List Int) (hW:∀ x∈W,YbC x) (hWl:W.length*8≤140737488355328) :
  Ybu Tryz.prog 118 [.bp 0 0] (stO p W (.raw (.slice none 0 0))) (.tp []) (stO p W (bools (marks W.length ((starts (shp p.cls) W).getD [])))) (Ydi (shp p.cls) W=true) (rfv 2) [.dead,.dead,.dead]:=by
 refine Zco Tryz.tabOK Tryz.mixed Tryz.func118 rfl rfl rfl fun B hB=>?_;refine TF.seq ?_;with_reducible refine TC.region ?_
 with_reducible refine OL.box ?_
 with_reducible refine OL.nil ?_
 refine ZaX ?_;refine TF.seq ?_;with_reducible refine TC.region ?_
 with_reducible refine OL.alloc ?_
 with_reducible refine OL.store ?_
 refine Zag 2 ?_;with_reducible refine OL.nil ?_
 refine ZaX ?_;refine TF.seq ?_;by_cases h1:0 < W.length∧W.length≤600∧wAt W 0=0
 ·have hw0:W[0]'(by omega)=0:=by have:=h1.2.2;rwa [wAt,List.getD_eq_getElem?_getD,List.getElem?_eq_getElem (by omega)] at this
  (refine Zal (id:=2) true 27 28 ?_<;>refine Zaf 0 1 2 3 ?_<;>refine Zaf 4 5 6 7 ?_<;>refine OD.st 8 ?_<;>refine Zaw 18 ?_ ?_<;>(intro hc;try (exfalso;omega))<;>(first|(refine OD.st 9 ?_)|(refine OD.of 9 ?_))<;>refine Zaf 10 11 12 13 ?_<;>refine Zaf 14 15 16 17 ?_<;>refine Zaw 27 ?_ ?_<;>(intro hc;try (exfalso;omega))<;>(first|(refine OD.st 18 ?_)|(refine OD.of 18 ?_))<;>refine Zaf 19 20 21 22 ?_<;>refine Zaf 23 24 25 26 ?_)<;>((refine Zac 27 ?_);refine ZbF (by first|exact decide_eq_true hw0|rfl) ?_<;>refine OL.nil (Zab ?_))<;>(refine Zaa ?_)
  refine ZaX ?_;refine TF.seq ?_;have hWn:=h1.1;(refine Zal (id:=3) true 10 11 ?_<;>refine Zaf 0 1 2 3 ?_<;>refine Zae 4 5 ?_<;>refine OD.st 6 ?_<;>refine Zdh (V.bool false) (V.bool false) (fun _ _ _=>.raw rfl) 7 ?_<;>refine Zae 8 9 ?_<;>(refine Zac 10 ?_;refine OL.store ?_;refine OL.nil ?_;refine Zab ?_)<;>refine Zaa ?_)
  refine ZaX ?_;refine TF.seq ?_;refine goW ?_;refine Zat (S:=Nat × List Nat) (fun s=>[(1,.bp 3 0),(2,.ep [.fn (.func 146) [] []] 0),(3,V.int s.1)]) (fun s=>[.cb 93 (stC p (.hs 1) 2 (.hs 4)),.gs false 3 1 none (W.map V.int),.mo (slM p.cls p.cls.length),.cb 86 [.bp 0 0],.gs false 4 1 none ((marks W.length s.2).map V.bool)])
   (fun s=>1≤s.1∧starts (shp p.cls) W=(startsF (shp p.cls) W W.length s.1).map (s.2++·)) (fun s=>W.length-s.1) (1,[]) [0,1,2,3,5] ⟨Nat.le_refl _,?_⟩ ?_ (ho:=?_)
  ·rw [starts,if_neg (by omega)];simp
  ·rintro ⟨i,pre⟩ ⟨hi1,hst⟩;dsimp only at hi1 hst ⊢;have hml:=Ye0 W.length pre;rw [YcU] at hst;by_cases hi:i < W.length
   ·rw [if_pos hi] at hst;have hwi:wAt W i=W[i]:=by rw [wAt,List.getD_eq_getElem?_getD,List.getElem?_eq_getElem hi];rfl
    have hbad:¬ hdB (shp p.cls) W i=true→¬ Ydi (shp p.cls) W=true:=fun hn=>by
     rw [if_neg hn] at hst;rw [Ydi,hst];simp
    by_cases h0:0≤W[i];rotate_left
    ·have hg:=hbad (fun h=>h0 (by have:=(Ybd.1 h).1;rwa [hwi] at this));refine goW ?_;(refine Zal (id:=6) true 10 11 ?_<;>refine Zaf 0 1 2 3 ?_<;>refine Zaf 4 5 6 7 ?_<;>refine Zae 8 9 ?_)<;>((refine Zac 10 ?_);refine Zbn (decide_eq_false h0) ?_<;>refine Zav ?_<;>(repeat' (first|refine Zam ?_|refine Zak ?_))<;>exact Zb5 hg [0,1,2] (ho:=by with_unfolding_all exact ⟨⟨_,rfl,OE.dead⟩,⟨_,rfl,OE.dead⟩,⟨_,rfl,OE.dead⟩,trivial⟩))<;>(refine Zaa ?_)
    ·have hcl:=Ycw W[i] h0;refine goW ?_;(refine Zal (id:=6) true 10 11 ?_<;>refine Zaf 0 1 2 3 ?_<;>refine Zaf 4 5 6 7 ?_<;>refine Zae 8 9 ?_)<;>((refine Zac 10 ?_);refine ZbF (decide_eq_true h0) ?_<;>refine OL.nil (Zab ?_))<;>(refine Zaa ?_)
     refine goW ?_
     cases hsh:shp p.cls (W[i] % 64) with
     | none =>
       have hg:=hbad (fun h=>by obtain ⟨_,n,q,_⟩:=Ybd.1 h;rw [hwi,hsh] at q;cases q);have hk:=YjL hsh p.cls.length (Nat.le_refl _);(refine Zal (id:=7) true 19 19 ?_<;>refine Zaf 0 1 2 3 ?_<;>refine Zaf 4 5 6 7 ?_<;>refine Zaf 8 9 10 11 ?_<;>refine Zah 12 hcl Tryz.func120 ?_<;>refine Zai 13 ?_ (h:=YrA (v:=.raw (.slice none 0 0)) (found:=false) (.inr ⟨rfl,hk,fun _ _ _=>.raw rfl⟩))<;>refine Zaf 14 15 16 17 ?_<;>refine OD.st 18 ?_<;>refine Zaa ?_)
       refine goW ?_;(refine Zal (id:=8) true 15 16 ?_<;>refine Zae 0 1 ?_<;>refine OD.st 2 ?_<;>refine OD.of 3 ?_<;>refine OD.of 4 ?_<;>refine OD.of 5 ?_<;>refine OD.of 6 ?_<;>refine OD.of 7 ?_<;>refine OD.of 8 ?_<;>refine OD.of 9 ?_<;>refine OD.of 10 ?_<;>refine OD.of 11 ?_<;>refine OD.of 12 ?_<;>refine OD.of 13 ?_<;>refine OD.st 14 ?_)<;>((refine Zac 15 ?_);refine Zbn rfl ?_<;>refine Zav ?_<;>(repeat' (first|refine Zam ?_|refine Zak ?_))<;>exact Zb5 hg [0,1,2] (ho:=by with_unfolding_all exact ⟨⟨_,rfl,OE.dead⟩,⟨_,rfl,OE.dead⟩,⟨_,rfl,OE.dead⟩,trivial⟩))<;>(refine Zaa ?_)
     | some n =>
       obtain ⟨g1,g2⟩:=YeT hsh;have hsz:szW (shp p.cls) (wAt W i)=n:=by rw [szW,hwi,hsh];rfl
       have hss:=Ya3 h10 (W[i] % 64).toNat;generalize slotsOf p.cls (W[i] % 64).toNat=ss at *
       (refine Zal (id:=7) true 19 19 ?_<;>refine Zaf 0 1 2 3 ?_<;>refine Zaf 4 5 6 7 ?_<;>refine Zaf 8 9 10 11 ?_<;>refine Zah 12 hcl Tryz.func120 ?_<;>refine Zai 13 ?_ (h:=YrA (.inl ⟨rfl,g1⟩))<;>refine Zaf 14 15 16 17 ?_<;>refine OD.st 18 ?_<;>refine Zaa ?_)
       refine goW ?_;by_cases h2:i+n < W.length;rotate_left
       ·have hf:¬ ((i:Int)+(ss.length:Nat) < (W.length:Nat)):=by omega
        have hg:=hbad (fun h=>by obtain ⟨_,n',q,q2⟩:=Ybd.1 h;rw [hwi,hsh] at q;cases q;exact h2 q2);(refine Zal (id:=8) true 15 16 ?_<;>refine Zaf 0 1 2 3 ?_<;>refine Zaf 4 5 6 7 ?_<;>refine Zaf 8 9 10 11 ?_<;>refine Zae 12 13 ?_<;>refine OD.st 14 ?_)<;>((refine Zac 15 ?_);refine Zbn (decide_eq_false hf) ?_<;>refine Zav ?_<;>(repeat' (first|refine Zam ?_|refine Zak ?_))<;>exact Zb5 hg [0,1,2] (ho:=by with_unfolding_all exact ⟨⟨_,rfl,OE.dead⟩,⟨_,rfl,OE.dead⟩,⟨_,rfl,OE.dead⟩,trivial⟩))<;>(refine Zaa ?_)
       ·have hd:hdB (shp p.cls) W i=true:=Ybd.2 ⟨by rw [hwi];exact h0,n,by rw [hwi];exact hsh,h2⟩;have hf:((i:Int)+(ss.length:Nat) < (W.length:Nat)):=by omega
        rw [if_pos hd,hsz] at hst;(refine Zal (id:=8) true 15 16 ?_<;>refine Zaf 0 1 2 3 ?_<;>refine Zaf 4 5 6 7 ?_<;>refine Zaf 8 9 10 11 ?_<;>refine Zae 12 13 ?_<;>refine OD.st 14 ?_)<;>((refine Zac 15 ?_);refine ZbF (decide_eq_true hf) ?_<;>refine OL.nil (Zab ?_))<;>(refine Zaa ?_)
        refine goW ?_;refine ZbX (ab:=marks W.length pre) (k:=i) (by omega) ?_;rw [YoP hi];refine goW ?_;refine Zan (i+1+n,pre++[i]) [0,1,2,3,4] ⟨by dsimp only;omega,?_⟩ (by dsimp only;omega) (hr:=⟨⟨_,rfl,LE.ren rfl⟩,⟨_,rfl,LE.ren rfl⟩,⟨_,rfl,LE.int (by dsimp only;omega)⟩,trivial⟩);dsimp only;rw [hst,Option.map_map];congr 1;funext x
        simp
   ·rw [if_neg hi] at hst;simp only [Option.map_some,List.append_nil] at hst;rw [hst,Option.getD_some];refine goW ?_;refine Zcg 0 8 ?_;refine ZaX ?_;refine TF.seq ?_;refine goW ?_;refine ZaX ?_;have hG:∀ x∈pre,1≤x∧x < W.length∧hdB (shp p.cls) W x=true:=fun x hx=>Yc7 hst hx
    have hcl:∀ x∈pre,0≤wAt W x:=fun x hx=>(Ybd.1 (hG x hx).2.2).1
    have hgw:Ydi (shp p.cls) W=pre.all (YkL (shp p.cls) W pre):=by rw [Ydi,hst]
    refine TF.block ?_;refine ZbV (fun x:Nat=>V.int x) [(112,.fn (.func 66) [.bp 0 0] []),(1,.bp 3 0),(2,.ep [.fn (.func 146) [] []] 0)] (fun _=>stO p W (bools (marks W.length pre))++[.cb 86 [.bp 0 0]]) [0,1,2] [.dead,.dead,.dead,.dead] (fun l=>l.all (YkL (shp p.cls) W pre)=true) (¬ Ydi (shp p.cls) W=true) 4 [0,1,2,3]
     (Ymh p W (marks W.length pre) pre (rfv 2) hst) Tryz.func118 Tryz.func66 rfl rfl ?_ ?_ (fun _=>rfl) rfl rfl ?_ ?_ ?_ (by simp) (by simp) rfl rfl rfl (by decide) ?_ ?_ rfl ?_ ?_ ?_
    ·with_unfolding_all exact ⟨.ren rfl,trivial⟩
    ·with_unfolding_all exact trivial
    ·with_unfolding_all exact ⟨⟨_,rfl,.ren rfl⟩,⟨_,rfl,.ren rfl⟩,⟨_,rfl,.ren rfl⟩,⟨_,rfl,.ren rfl⟩,trivial⟩
    ·with_unfolding_all exact ⟨⟨_,rfl,.ren rfl⟩,⟨_,rfl,.ren rfl⟩,⟨_,rfl,.ren rfl⟩,trivial⟩
    ·with_unfolding_all exact ⟨⟨_,rfl,.ren rfl⟩,⟨_,rfl,.ren rfl⟩,⟨_,rfl,.ren rfl⟩,trivial⟩
    ·intro _;with_unfolding_all exact ⟨⟨_,rfl,.ren rfl⟩,⟨_,rfl,.ren rfl⟩,⟨_,rfl,.ren rfl⟩,trivial⟩
    ·intro _;with_unfolding_all exact ⟨rfl,rfl,rfl,trivial⟩
    ·rintro pre' x Bx hBx l ⟨r,hr⟩ hgd;have hx:x∈pre:=by rw [← hr];simp
     obtain ⟨hx1,hxl,hxd⟩:=hG x hx;have h0:=hcl x hx;have hwx:wAt W x=W[x]:=by rw [wAt,List.getD_eq_getElem?_getD,List.getElem?_eq_getElem hxl];rfl
     have hb:=(hW W[x] (List.getElem_mem hxl)).2;have hsl:szW (shp p.cls) (wAt W x)+x < W.length:=by have:=Yk5 hxd;omega
     have hraw:=Yes p W (marks W.length pre) x (by omega) hxd;have hbad:¬ YkL (shp p.cls) W pre x=true→¬ Ydi (shp p.cls) W=true:=fun hn h=>hn (List.all_eq_true.1 (by rw [← hgw];exact h) x hx)
     have hgd':YkL (shp p.cls) W pre x=true→(pre'++[x]).all (YkL (shp p.cls) W pre)=true:=fun h=>by simp [hgd,h]
     have hvl:=fun w hw=>YpE p W pre (fun y hy=>(hG y hy).2.1) w hw
     rw [hwx] at h0 hraw hsl;have hfw:=YbJ W[x] h0 hb;have hob:YkL (shp p.cls) W pre x=((decide (W[x] / 64=0) || (decide ((x:Int) < W[x] / 64)&&pre.contains (W[x] / 64).toNat))&&(slotsW (shp p.cls) W x).all fun y=>(decide (W[x] / 64=0) || decide (y=0))&&okW pre y):=by rw [YkL,hwx]
     have hct:∀ t:Int,0≤t→t < W.length→pre.contains t.toNat=(marks W.length pre).getD t.toNat false:=fun t h1 h2=>by
      rw [List.getD_eq_getElem?_getD,List.getElem?_eq_getElem (by rw [Ye0];omega),Option.getD_some,YkX]
     have hcl':∀ t:Int,0≤t→pre.contains t.toNat=true→t < W.length:=fun t h1 h2=>by
      have:=(hG t.toNat (by simpa using h2)).2.1;omega
     have hto:0≤W[x] / 64:=by omega
     generalize hm:marks W.length pre=ms at *
     generalize W[x] / 64=to at *
     refine YaF ?_;refine OL.c hfw Tryz.func67 ?_;refine YaF ?_;by_cases hc1:(decide (to=0) || (decide ((x:Int) < to)&&pre.contains to.toNat))=true;rotate_left
     ·have hg:=hbad (by rw [hob,Bool.eq_false_iff.2 hc1];simp);have hne:to≠0:=fun h=>hc1 (by simp [h])
      have hms:∀ h:to.toNat < ms.length,(x:Int) < to→ms[to.toNat]=false:=fun h h2=>by
       rw [Bool.eq_false_iff];intro h3;have h4:=hct to hto (by omega);rw [List.getD_eq_getElem?_getD,List.getElem?_eq_getElem h,Option.getD_some,h3] at h4;exact hc1 (by rw [h4];simp [h2])
      (refine Zal (id:=14) true 27 28 ?_<;>refine Zaf 0 1 2 3 ?_<;>refine Zaw 126 ?_ ?_<;>(intro hc;try (exfalso;omega))<;>(first|(refine OD.st 4 ?_)|(refine OD.of 4 ?_))<;>refine Zae 5 6 ?_<;>refine OD.st 7 ?_<;>refine Zaw 130 ?_ ?_<;>(intro hc;try (exfalso;omega))<;>(first|(refine OD.st 8 ?_)|(refine OD.of 8 ?_)))<;>(first|(refine OD.st 9 ?_)|(refine OD.of 9 ?_))<;>(first|(refine OD.st 10 ?_)|(refine OD.of 10 ?_))<;>(first|(refine OD.st 11 ?_)|(refine OD.of 11 ?_))<;>(first|(refine OD.st 12 ?_)|(refine OD.of 12 ?_))<;>(first|(refine OD.st 13 ?_)|(refine OD.of 13 ?_))<;>(first|(refine OD.st 14 ?_)|(refine OD.of 14 ?_))<;>(first|(refine OD.st 15 ?_)|(refine OD.of 15 ?_))<;>(refine Zae 16 17 ?_)<;>(first|(refine OD.of 18 ?_)|(refine Zaw 140 ?_ ?_<;>(intro hc;try (exfalso;omega))<;>(first|(refine OD.st 18 ?_)|(refine OD.of 18 ?_))))<;>(first|(refine OD.st 19 ?_)|(refine OD.of 19 ?_))<;>(first|(refine OD.st 20 ?_)|(refine OD.of 20 ?_))<;>(first|(refine OD.st 21 ?_)|(refine OD.of 21 ?_))<;>(first|(refine OD.st 22 ?_)|(refine OD.of 22 ?_))<;>(first|(refine OD.st 23 ?_)|(refine OD.of 23 ?_))<;>(first|(refine OD.st 24 ?_)|(refine OD.of 24 ?_))<;>(refine Zae 25 26 ?_)<;>((refine Zac 27 ?_);refine Zbn (by first|exact hms (by omega) (by omega)|rfl) ?_<;>refine Zav ?_<;>(repeat' (first|refine Zam ?_|refine Zak ?_))<;>exact ZaV hg [0,1,2,3] (ho:=by with_unfolding_all exact ⟨⟨_,rfl,OE.dead⟩,⟨_,rfl,OE.dead⟩,⟨_,rfl,OE.dead⟩,⟨_,rfl,OE.dead⟩,trivial⟩))<;>(refine Zaa ?_)
     ·refine ZaO [(1,.bp 3 0),(2,.ep [.fn (.func 146) [] []] 0),(6,V.int x),(7,V.int to)] (stO p W (bools ms)++[.cb 86 [.bp 0 0]]) ?_ ?_
      ·have hc2:to=0∨((x:Int) < to∧to < W.length∧∀ h:to.toNat < ms.length,ms[to.toNat]=true):=by
        simp only [Bool.or_eq_true,Bool.and_eq_true,decide_eq_true_eq] at hc1;rcases hc1 with h|⟨h,h2⟩
        ·exact .inl h
        ·refine .inr ⟨h,hcl' to hto h2,fun h3=>?_⟩;rw [hct to hto (hcl' to hto h2),List.getD_eq_getElem?_getD,List.getElem?_eq_getElem h3] at h2;exact h2
       rcases hc2 with rfl|⟨hc3,hc4,hc5⟩
       ·(refine Zal (id:=14) true 27 28 ?_<;>refine Zaf 0 1 2 3 ?_<;>refine OD.of 4 ?_<;>refine OD.of 5 ?_<;>refine OD.of 6 ?_<;>refine OD.of 7 ?_<;>refine ZaW 8 ?_<;>refine ZaW 9 ?_<;>refine ZaW 10 ?_<;>refine ZaW 11 ?_<;>refine ZaW 12 ?_<;>refine ZaW 13 ?_<;>refine ZaW 14 ?_<;>refine ZaW 15 ?_<;>refine OD.of 16 ?_<;>refine OD.of 17 ?_<;>refine ZaW 18 ?_<;>refine ZaW 19 ?_<;>refine ZaW 20 ?_<;>refine ZaW 21 ?_<;>refine ZaW 22 ?_<;>refine ZaW 23 ?_<;>refine ZaW 24 ?_<;>refine OD.of 25 ?_<;>refine OD.st 26 ?_)<;>((refine Zac 27 ?_);refine ZbF rfl ?_<;>refine OL.nil (Zab ?_))<;>(refine Zaa ?_)
        exact ZaP [0,1,2,3]
       ·(refine Zal (id:=14) true 27 28 ?_<;>refine Zaf 0 1 2 3 ?_<;>refine Zaw 126 ?_ ?_<;>(intro hc;try (exfalso;omega))<;>(first|(refine OD.st 4 ?_)|(refine OD.of 4 ?_))<;>refine Zae 5 6 ?_<;>refine OD.st 7 ?_<;>refine Zaw 130 ?_ ?_<;>(intro hc;try (exfalso;omega))<;>(first|(refine OD.st 8 ?_)|(refine OD.of 8 ?_))<;>refine Zaf 9 10 11 12 ?_<;>refine Zaf 13 14 15 16 ?_<;>refine OD.st 17 ?_<;>refine Zaw 140 ?_ ?_<;>(intro hc;try (exfalso;omega))<;>(first|(refine OD.st 18 ?_)|(refine OD.of 18 ?_))<;>refine Zaf 19 20 21 22 ?_<;>refine Zaf 23 24 25 26 ?_)<;>((refine Zac 27 ?_);refine ZbF (hc5 (by omega)) ?_<;>refine OL.nil (Zab ?_))<;>(refine Zaa ?_)
        exact ZaP [0,1,2,3]
      ·refine Zap ?_;refine TC.rebase fun B2 hB2 hub hf=>?_;obtain ⟨v,hv1,hv2⟩:=hf 1 _ rfl;obtain ⟨g,cap,rfl,hcap⟩:=Yhn hv2 (by simp;omega);simp only [List.length_map] at hv1 hcap;generalize hn:szW (shp p.cls) W[x]=n at *
       obtain ⟨o,c',hpv,ho⟩:=Yq2 (g:=g) (cap:=cap) (l:=x+1) (n:=n) (by omega);have hrv:Ymc (x+1) (x+1+n) ([0,1,2].map fun i=>B2.γ.getD i undef)=.raw (.slice (some ⟨g,o,none⟩) n c'):=by
        rw [← hpv];simp [Ymc,List.getD_eq_getElem?_getD,hv1]
       refine YaF ?_;refine Zcq [0,1,2] hraw Tryz.func72 hrv ?_;refine OL.st ?_ (h:=Yud);refine YaF ?_;obtain ⟨sl,hsle⟩:∃ sl,sl=slotsW (shp p.cls) W x:=⟨_,rfl⟩;rw [← hsle] at hob;have hsw:sl.length=n:=by rw [hsle,slotsW,List.length_take,List.length_drop,hwx,hn];omega
       have hsg:∀ k (hk:k < n),sl[k]'(by omega)=W[x+1+k]'(by omega):=fun k hk=>by subst hsle;simp [slotsW]
       refine Zat (fun k:Nat=>[(1,.bp 3 0),(2,.ep [.fn (.func 146) [] []] 0),(6,V.int x),(7,V.int to),(153,.raw (.slice (some ⟨g,o,none⟩) n c')),(154,V.int n),(155,V.int k)]) (fun _=>stO p W (bools ms)++[.cb 86 [.bp 0 0]])
        (fun k=>k≤n∧(sl.take k).all (fun y=>(decide (to=0) || decide (y=0))&&okW pre y)=true) (fun k=>n-k) 0 [0,1,2,3] ⟨Nat.zero_le _,by simp⟩ ?_
       rintro k ⟨hk,hall⟩;by_cases hkn:k < n
       ·obtain rfl:=ho (by omega);have hwk:x+1+k < W.length:=by omega
        have hv:=hvl W[x+1+k] (hW _ (List.getElem_mem hwk));have hts:sl.take (k+1)=sl.take k++[W[x+1+k]]:=by rw [Yab (by omega),hsg k hkn]
        have hmem:W[x+1+k]∈sl:=by rw [← hsg k hkn];exact List.getElem_mem _
        refine YaF ?_;refine OL.st ?_ (h:=Yuu (j:=k));refine Zdf 157 hv1 ?_;refine YaF ?_;generalize W[x+1+k]=y at *
        cases hok:okW pre y with
        | false =>
          have hg:=hbad (fun h=>by
           rw [hob,Bool.and_eq_true,List.all_eq_true] at h;have:=h.2 y hmem
           rw [hok] at this;simp at this)
          rw [hok] at hv;(refine Zal (id:=18) false 12 13 ?_<;>refine OD.st 2 ?_)<;>((refine OD.n2 0 1 ?_ ?_)<;>(first|((refine NS 0 ?_<;>refine Zai 1 ?_)<;>((refine Zac 3 ?_);refine Zaj [0,1,2] hv Tryz.func119 ?_<;>refine OL.nil (Zab ?_))<;>(refine OD.st 4 ?_<;>refine OD.of 5 ?_<;>refine OD.of 6 ?_<;>refine OD.of 7 ?_<;>refine ZaW 8 ?_<;>refine ZaW 9 ?_<;>refine OD.of 10 ?_<;>refine OD.st 11 ?_)<;>((refine Zac 12 ?_);refine Zbn rfl ?_<;>refine Zav ?_<;>(repeat' (first|refine Zam ?_|refine Zak ?_))<;>refine Za0 hub ?_<;>exact ZaV hg [0,1,2,3] (ho:=by with_unfolding_all exact ⟨⟨_,rfl,OE.dead⟩,⟨_,rfl,OE.dead⟩,⟨_,rfl,OE.dead⟩,⟨_,rfl,OE.dead⟩,trivial⟩))<;>(refine Zaa ?_))|((refine NS 1 ?_)<;>((refine OD.n2 0 3 ?_ ?_)<;>(first|((refine NS 0 ?_)<;>((refine Zac 3 ?_);refine Zaj [0,1,2] hv Tryz.func119 ?_<;>refine OL.nil (Zab ?_))<;>(refine OD.st 4 ?_<;>refine OD.of 5 ?_<;>refine OD.of 6 ?_<;>refine OD.of 7 ?_<;>refine ZaW 8 ?_<;>refine ZaW 9 ?_<;>refine OD.of 10 ?_<;>refine OD.st 11 ?_)<;>((refine Zac 12 ?_);refine Zbn rfl ?_<;>refine Zav ?_<;>(repeat' (first|refine Zam ?_|refine Zak ?_))<;>refine Za0 hub ?_<;>exact ZaV hg [0,1,2,3] (ho:=by with_unfolding_all exact ⟨⟨_,rfl,OE.dead⟩,⟨_,rfl,OE.dead⟩,⟨_,rfl,OE.dead⟩,⟨_,rfl,OE.dead⟩,trivial⟩))<;>(refine Zaa ?_))|((refine NA 3 ?_;refine Zaj [0,1,2] hv Tryz.func119 ?_<;>refine OL.nil (Zab ?_))<;>(refine OD.st 4 ?_<;>refine OD.of 5 ?_<;>refine OD.of 6 ?_<;>refine OD.of 7 ?_<;>refine ZaW 8 ?_<;>refine ZaW 9 ?_<;>refine OD.of 10 ?_<;>refine OD.st 11 ?_<;>refine Zai 0 ?_)<;>((refine Zac 12 ?_);refine Zbn rfl ?_<;>refine Zav ?_<;>(repeat' (first|refine Zam ?_|refine Zak ?_))<;>refine Za0 hub ?_<;>exact ZaV hg [0,1,2,3] (ho:=by with_unfolding_all exact ⟨⟨_,rfl,OE.dead⟩,⟨_,rfl,OE.dead⟩,⟨_,rfl,OE.dead⟩,⟨_,rfl,OE.dead⟩,trivial⟩))<;>(refine Zaa ?_)))))))
        | true =>
          rw [hok] at hv;by_cases hty:to=0∨y=0;rotate_left
          ·have hg:=hbad (fun h=>by
            rw [hob,Bool.and_eq_true,List.all_eq_true] at h;have:=h.2 y hmem
            simp at this;exact hty this.1)
           have hy0:¬ y=0:=fun h=>hty (.inr h)
           have ht0:¬ to=0:=fun h=>hty (.inl h)
           (refine Zal (id:=18) false 12 13 ?_<;>refine OD.st 2 ?_)<;>((refine OD.n2 0 1 ?_ ?_)<;>(first|((refine NS 0 ?_<;>refine Zai 1 ?_)<;>((refine Zac 3 ?_);refine Zaj [0,1,2] hv Tryz.func119 ?_<;>refine OL.nil (Zab ?_))<;>(refine Zaf 4 5 6 7 ?_<;>refine Zaw 166 ?_ ?_<;>(intro hc;try (exfalso;omega))<;>(first|(refine OD.st 8 ?_)|(refine OD.of 8 ?_))<;>refine Zae 9 10 ?_<;>refine OD.st 11 ?_)<;>((refine Zac 12 ?_);refine Zbn (decide_eq_false hy0) ?_<;>refine Zav ?_<;>(repeat' (first|refine Zam ?_|refine Zak ?_))<;>refine Za0 hub ?_<;>exact ZaV hg [0,1,2,3] (ho:=by with_unfolding_all exact ⟨⟨_,rfl,OE.dead⟩,⟨_,rfl,OE.dead⟩,⟨_,rfl,OE.dead⟩,⟨_,rfl,OE.dead⟩,trivial⟩))<;>(refine Zaa ?_))|((refine NS 1 ?_)<;>((refine OD.n2 0 3 ?_ ?_)<;>(first|((refine NS 0 ?_)<;>((refine Zac 3 ?_);refine Zaj [0,1,2] hv Tryz.func119 ?_<;>refine OL.nil (Zab ?_))<;>(refine Zaf 4 5 6 7 ?_<;>refine Zaw 166 ?_ ?_<;>(intro hc;try (exfalso;omega))<;>(first|(refine OD.st 8 ?_)|(refine OD.of 8 ?_))<;>refine Zae 9 10 ?_<;>refine OD.st 11 ?_)<;>((refine Zac 12 ?_);refine Zbn (decide_eq_false hy0) ?_<;>refine Zav ?_<;>(repeat' (first|refine Zam ?_|refine Zak ?_))<;>refine Za0 hub ?_<;>exact ZaV hg [0,1,2,3] (ho:=by with_unfolding_all exact ⟨⟨_,rfl,OE.dead⟩,⟨_,rfl,OE.dead⟩,⟨_,rfl,OE.dead⟩,⟨_,rfl,OE.dead⟩,trivial⟩))<;>(refine Zaa ?_))|((refine NA 3 ?_;refine Zaj [0,1,2] hv Tryz.func119 ?_<;>refine OL.nil (Zab ?_))<;>(refine Zaf 4 5 6 7 ?_<;>refine Zaw 166 ?_ ?_<;>(intro hc;try (exfalso;omega))<;>(first|(refine OD.st 8 ?_)|(refine OD.of 8 ?_))<;>refine Zae 9 10 ?_<;>refine OD.st 11 ?_<;>refine Zai 0 ?_)<;>((refine Zac 12 ?_);refine Zbn (decide_eq_false hy0) ?_<;>refine Zav ?_<;>(repeat' (first|refine Zam ?_|refine Zak ?_))<;>refine Za0 hub ?_<;>exact ZaV hg [0,1,2,3] (ho:=by with_unfolding_all exact ⟨⟨_,rfl,OE.dead⟩,⟨_,rfl,OE.dead⟩,⟨_,rfl,OE.dead⟩,⟨_,rfl,OE.dead⟩,trivial⟩))<;>(refine Zaa ?_)))))))
          ·refine ZaO [(1,.bp 3 0),(2,.ep [.fn (.func 146) [] []] 0),(6,V.int x),(7,V.int to),(153,.raw (.slice (some ⟨g,x+1,none⟩) n c')),(154,V.int n),(155,V.int k)] (stO p W (bools ms)++[.cb 86 [.bp 0 0]]) ?_ ?_
           ·have hy0:¬ to=0→y=0:=fun h=>hty.resolve_left h
            (refine Zal (id:=18) false 12 13 ?_<;>refine OD.st 2 ?_)<;>((refine OD.n2 0 1 ?_ ?_)<;>(first|((refine NS 0 ?_<;>refine Zai 1 ?_)<;>((refine Zac 3 ?_);refine Zaj [0,1,2] hv Tryz.func119 ?_<;>refine OL.nil (Zab ?_))<;>(refine Zaf 4 5 6 7 ?_<;>refine Zaw 166 ?_ ?_<;>(intro hc;try (exfalso;omega))<;>(first|(refine OD.st 8 ?_)|(refine OD.of 8 ?_)))<;>(first|(refine OD.st 9 ?_)|(refine OD.of 9 ?_))<;>(refine Zae 10 11 ?_)<;>((refine Zac 12 ?_);refine ZbF (by first|exact decide_eq_true (hy0 (by omega))|rfl) ?_<;>refine OL.nil (Zab ?_))<;>(refine Zaa ?_))|((refine NS 1 ?_)<;>((refine OD.n2 0 3 ?_ ?_)<;>(first|((refine NS 0 ?_)<;>((refine Zac 3 ?_);refine Zaj [0,1,2] hv Tryz.func119 ?_<;>refine OL.nil (Zab ?_))<;>(refine Zaf 4 5 6 7 ?_<;>refine Zaw 166 ?_ ?_<;>(intro hc;try (exfalso;omega))<;>(first|(refine OD.st 8 ?_)|(refine OD.of 8 ?_)))<;>(first|(refine OD.st 9 ?_)|(refine OD.of 9 ?_))<;>(refine Zae 10 11 ?_)<;>((refine Zac 12 ?_);refine ZbF (by first|exact decide_eq_true (hy0 (by omega))|rfl) ?_<;>refine OL.nil (Zab ?_))<;>(refine Zaa ?_))|((refine NA 3 ?_;refine Zaj [0,1,2] hv Tryz.func119 ?_<;>refine OL.nil (Zab ?_))<;>(refine Zaf 4 5 6 7 ?_<;>refine Zaw 166 ?_ ?_<;>(intro hc;try (exfalso;omega))<;>(first|(refine OD.st 8 ?_)|(refine OD.of 8 ?_)))<;>(first|(refine OD.st 9 ?_)|(refine OD.of 9 ?_))<;>(refine Zae 10 11 ?_<;>refine Zai 0 ?_)<;>((refine Zac 12 ?_);refine ZbF (by first|exact decide_eq_true (hy0 (by omega))|rfl) ?_<;>refine OL.nil (Zab ?_))<;>(refine Zaa ?_)))))))
            all_goals exact ZaP [0,1,2,3]
           ·refine YaF ?_;refine Zan (k+1) [0,1,2,3] ⟨by omega,?_⟩ (by omega);rw [hts,List.all_append,hall];simp [hok,hty]
       ·obtain rfl:k=n:=by omega
        rw [List.take_of_length_le (by omega)] at hall;refine YaF ?_;refine Za0 hub ?_;exact Zbw (hgd' (by rw [hob,hc1,hall];rfl)) [0,1,2,3]
    ·intro hg B' hB' D hM;refine YaF ?_;refine Zcp ?_;exact ZcQ (by rw [hgw];exact hg) hM hB [0,1,2]
    ·intro hb B' hB' D hM;repeat' (first|refine Zak ?_|refine Zam ?_)
     exact ZcG hb hM hB [0,1,2] (ho:=by with_unfolding_all exact ⟨⟨_,rfl,.ren rfl⟩,⟨_,rfl,.ren rfl⟩,⟨_,rfl,.ren rfl⟩,trivial⟩)
  ·rw [YoZ,List.map_replicate];repeat' (first|with_unfolding_all exact trivial|exact OE.ren (by with_unfolding_all exact rfl)|with_unfolding_all exact OE.gs|with_unfolding_all refine And.intro ⟨_,by with_unfolding_all exact rfl,?_⟩ ?_)
 ·have hg:¬ Ydi (shp p.cls) W=true:=by
   rw [Ydi,starts,if_pos (by omega)];simp
  have hn:∀ h0:0 < W.length,W.length≤600→¬ W[0]=0:=fun h0 h6 h=>h1 ⟨h0,h6,by rw [wAt,List.getD_eq_getElem?_getD,List.getElem?_eq_getElem h0];exact h⟩
  (refine Zal (id:=2) true 27 28 ?_<;>refine Zaf 0 1 2 3 ?_<;>refine Zaf 4 5 6 7 ?_<;>refine OD.st 8 ?_<;>refine Zaw 18 ?_ ?_<;>(intro hc;try (exfalso;omega))<;>(first|(refine OD.st 9 ?_)|(refine OD.of 9 ?_)))<;>(first|(refine OD.st 10 ?_)|(refine OD.of 10 ?_))<;>(first|(refine OD.st 11 ?_)|(refine OD.of 11 ?_))<;>(first|(refine OD.st 12 ?_)|(refine OD.of 12 ?_))<;>(first|(refine OD.st 13 ?_)|(refine OD.of 13 ?_))<;>(first|(refine OD.st 14 ?_)|(refine OD.of 14 ?_))<;>(first|(refine OD.st 15 ?_)|(refine OD.of 15 ?_))<;>(refine Zae 16 17 ?_)<;>(first|(refine OD.of 18 ?_)|(refine Zaw 27 ?_ ?_<;>(intro hc;try (exfalso;omega))<;>(first|(refine OD.st 18 ?_)|(refine OD.of 18 ?_))))<;>(first|(refine OD.st 19 ?_)|(refine OD.of 19 ?_))<;>(first|(refine OD.st 20 ?_)|(refine OD.of 20 ?_))<;>(first|(refine OD.st 21 ?_)|(refine OD.of 21 ?_))<;>(first|(refine OD.st 22 ?_)|(refine OD.of 22 ?_))<;>(first|(refine OD.st 23 ?_)|(refine OD.of 23 ?_))<;>(first|(refine OD.st 24 ?_)|(refine OD.of 24 ?_))<;>(first|(refine OD.st 25 ?_)|(refine OD.of 25 ?_))<;>(refine OD.st 26 ?_)<;>((refine Zac 27 ?_);refine Zbn (by first|exact decide_eq_false (hn (by omega) (by omega))|rfl) ?_<;>refine Zav ?_<;>refine Zam ?_<;>exact Zb5 hg [0,1,2] (ho:=by with_unfolding_all exact ⟨⟨_,rfl,OE.dead⟩,⟨_,rfl,OE.dead⟩,⟨_,rfl,OE.dead⟩,trivial⟩))<;>(refine Zaa ?_)
theorem YrY (l:List Int) (hb:l.length*8≤140737488355328):V.Spec Tryz.prog 103 [ints l] [] (.hs 0) [.gs false 3 1 none (l.map V.int)]:=by
 refine Se Tryz.func103 rfl rfl rfl fun B hB=>?_;refine goW ?_;refine Zca (fun h=>?_) ?_
 ·have e:l.map V.int=[]:=h;rw [e];refine goW ?_;refine Zcv 2 3 1 ?_;exact Zad [0] (.ren rfl)
 ·refine goW ?_;exact Zad [1] (.ren rfl)
abbrev stW (p:Prg) (W:List Int):Eta:=stO p W (bools (marks W.length ((starts (shp p.cls) W).getD [])))
section
variable (p:Prg) (hs:Ya9 p.cls) (hpk:∀ x∈p.nodes,x.2.2.length*8≤140737488355328) (W:List Int) (hW:∀ x∈W,YbC x) (hWl:W.length*8≤140737488355328)
include hs hpk hW hWl
theorem YaB (h:Ybk p=true) (hg:Ydi (shp p.cls) W=true):V.Spec Tryz.prog 64 [Ya0 p,.st [ints W]] [] (.bp 0 0) (stW p W):=by
 have h1:=YdY p hs hpk h;have h2:=(YrT p (Ybq h) W hW hWl).yes hg;refine Se Tryz.func64 rfl rfl rfl fun B hB=>?_;refine goW ?_;refine OL.c h1 Tryz.func49 ?_;refine goW ?_;refine OL.c (YrY W hWl) Tryz.func103 ?_;refine goW ?_;refine Zaj [2,4,3] h2 Tryz.func118 ?_;refine goW ?_;exact Zad [2,4,3] (.ren rfl)
theorem Ybi (h:(Ybk p&&Ydi (shp p.cls) W)=false):YaZ Tryz.prog 64 [Ya0 p,.st [ints W]] [] (rfv 2) []:=by
 cases hp:Ybk p with
 | false =>
   have h1:=Yky p hs hpk hp;refine YaZ.enter Tryz.tabOK Tryz.mixed Tryz.func64 rfl rfl rfl fun B hB=>?_;refine goW ?_;refine Zar [] h1 Tryz.func49 ?_;repeat' (first|refine Zam ?_|refine Zak ?_)
   exact Zas []
 | true =>
   rw [hp,Bool.true_and] at h;have h1:=YdY p hs hpk hp;have h2:=(YrT p (Ybq hp) W hW hWl).no (by rw [h];decide);refine YaZ.enter Tryz.tabOK Tryz.mixed Tryz.func64 rfl rfl rfl fun B hB=>?_;refine goW ?_;refine OL.c h1 Tryz.func49 ?_;refine goW ?_;refine OL.c (YrY W hWl) Tryz.func103 ?_;refine goW ?_;refine Zar [2,4,3] h2 Tryz.func118 ?_;repeat' (first|refine Zam ?_|refine Zak ?_)
   exact Zas []
end
abbrev Yrk:Eta:=[.dead,.dead,.dead]
theorem Ycz (p:Prg) (W:List Int) (st:List Nat) (hst:∀ x∈st,x < W.length) (l:List Int) (hl:∀ x∈l,YbC x) :
  Ybu Tryz.prog 65 [.bp 0 0,ints l] (stO p W (bools (marks W.length st))) (.tp []) (stO p W (bools (marks W.length st))) (l.all (okW st)=true) (rfv 2) Yrk:=by
 have hv:=fun w (h:YbC w)=>YpE p W st hst w h
 refine Ybu.enter Tryz.tabOK Tryz.mixed Tryz.func65 rfl rfl rfl fun B hB=>?_;refine ZaS 1 fun hll=>?_;generalize marks W.length st=ms at *
 refine goW ?_;refine Zat (fun k:Nat=>[(0,.bp 0 0),(6,ints l),(7,V.int l.length),(8,V.int k)]) (fun _=>stO p W (bools ms)) (fun k=>k≤l.length∧(l.take k).all (okW st)=true) (fun k=>l.length-k) 0 [0,1,2] ⟨Nat.zero_le _,by simp⟩ ?_;rintro k ⟨hk,hall⟩;by_cases hkl:k < l.length
 ·have h1:=hv l[k] (hl _ (List.getElem_mem _));refine goW ?_;refine Zaj [0,1,2] h1 Tryz.func119 ?_
  cases hok:okW st l[k] with
  | true =>
    refine OL.c (Ya5 2) Tryz.func68 ?_;refine goW ?_;refine Zan (k+1) [0,1,2] ⟨by omega,?_⟩ (by omega);rw [Yab hkl,List.all_append,hall];simp [hok]
  | false =>
    refine Zar [] (Ybm 2) Tryz.func68 ?_;repeat' (first|refine Zam ?_|refine Zak ?_)
    refine TX.no (fun h=>?_) ?_
    ·rw [List.all_eq_true] at h;have:=h _ (List.getElem_mem hkl)
     rw [hok] at this;cases this
    ·exact Zas [0,1,2] (ho:=by with_unfolding_all exact ⟨⟨_,rfl,OE.dead⟩,⟨_,rfl,OE.dead⟩,⟨_,rfl,OE.dead⟩,trivial⟩)
 ·rw [Yaf (by omega)] at hall;refine goW ?_;refine TX.yes hall ?_;exact Za1 [0,1,2]
theorem Yqy (p:Prg) (W:List Int) (b:List Bool) (c:Int) :
  Ybu Tryz.prog 95 [.bp 0 0,V.int c] (stO p W (bools b)) (.tp []) (stO p W (bools b)) ((shp p.cls c).isSome=true) (rfv 2) Yrk:=by
 refine Ybu.enter Tryz.tabOK Tryz.mixed Tryz.func95 rfl rfl rfl fun B hB=>?_
 cases hsh:shp p.cls c with
 | some n =>
   obtain ⟨g1,_⟩:=YeT hsh;refine goW ?_;refine OL.st ?_ (h:=YrA (.inl ⟨rfl,g1⟩));refine goW ?_;refine OL.c (Ya5 2) Tryz.func68 ?_;refine goW ?_;refine TX.yes rfl ?_;exact Za1 [0,1,2]
 | none =>
   have hk:=YjL hsh p.cls.length (Nat.le_refl _);refine goW ?_;refine OL.st ?_ (h:=YrA (v:=.raw (.slice none 0 0)) (found:=false) (.inr ⟨rfl,hk,fun _ _ _=>.raw rfl⟩));refine goW ?_;refine Zar [] (Ybm 2) Tryz.func68 ?_;repeat' (first|refine Zam ?_|refine Zak ?_)
   refine TX.no (by simp) ?_;exact Zas [0,1,2] (ho:=by with_unfolding_all exact ⟨⟨_,rfl,OE.dead⟩,⟨_,rfl,OE.dead⟩,⟨_,rfl,OE.dead⟩,trivial⟩)
theorem Yeb (p:Prg) (W:List Int) (hW:∀ x∈W,YbC x) (st:List Nat) (hG:GH (shp p.cls) W st) (b:List Bool) (w:Int) (hw:YbC w) (hok:okW st w=true):V.Spec Tryz.prog 70 [.bp 0 0,V.int w] (stO p W (bools b)) (V.int (Yax W w)) (stO p W (bools b)):=by
 have hwl:=(Yah hG.eq).2.1;by_cases h0:w=0
 ·rw [show Yax W w=0 from Ycp (.inr h0)];refine Se Tryz.func70 rfl rfl rfl fun B hB=>?_;refine goW ?_;exact Zad [0,1,2] (.ren rfl)
 ·by_cases h1:w % 2=0
  ·have hwb:=hw.2;have hmem:(w / 2).toNat∈st∧0 < w:=by
    rcases YlJ hok with h|⟨_,h,h2⟩
    ·rcases h with h|h
     ·exact (h h1).elim
     ·exact (h0 h).elim
    ·exact ⟨h2,h⟩
   have hob:Yax W w=real W (w / 2).toNat:=by rw [Yax,if_neg (by omega)]
   rw [hob];have hfw:=fun x (hx:x∈st)=>YbJ (wAt W x) (hG.nonneg hx) (by rw [wAt,List.getD_eq_getElem?_getD,List.getElem?_eq_getElem (hG.hd hx).2.1];exact (hW _ (List.getElem_mem _)).2)
   refine Se Tryz.func70 rfl rfl rfl fun B hB=>?_;refine goW ?_;refine OL.quo ?_;refine goW ?_;refine Zat (S:=Nat) (fun i=>[(0,.bp 0 0),(5,V.int i)]) (fun _=>stO p W (bools b)) (fun i=>i∈st∧real W (w / 2).toNat=real W i) (fun i=>W.length-i) (w / 2).toNat [0,1,2] ⟨hmem.1,rfl⟩ ?_ (hr:=?_)
   ·rintro i ⟨hi,hre⟩;have hil:=(hG.hd hi).2.1;have hfi:=hfw i hi;have hwi:wAt W i=W[i]:=by rw [wAt,List.getD_eq_getElem?_getD,List.getElem?_eq_getElem hil];rfl
    have hnn:=hG.nonneg hi;by_cases hf:wAt W i / 64=0
    ·rw [hre,YhA hf];rw [hf,hwi] at hfi;refine goW ?_;refine OL.c hfi Tryz.func67 ?_;refine goW ?_;exact Zad [0,1,2] (.ren rfl)
    ·have hst:=Yg3 hG hi hf;rcases hG.fwd hi with h|⟨h2,h3⟩
     ·exact (hf h).elim
     ·rw [hwi] at hfi hf h2 h3 hst;have hpos:0 < W[i] / 64:=by omega
      generalize W[i] / 64=to at *
      refine goW ?_;refine OL.c hfi Tryz.func67 ?_;refine goW ?_;refine OL.c hfi Tryz.func67 ?_;refine goW ?_;have:=(hG.hd h3).2.1
      exact Zan to.toNat [0,1,2] ⟨h3,by rw [hre,hst]⟩ (by omega) (hr:=⟨⟨_,rfl,LE.ren rfl⟩,⟨_,rfl,LE.int (by omega)⟩,trivial⟩)
   ·exact ⟨⟨_,rfl,LE.ren rfl⟩,⟨_,rfl,LE.int (by omega)⟩,trivial⟩
  ·rw [show Yax W w=0 from Ycp (.inl h1)];have ht:w.tmod 2≠0:=fun h=>h1 (YcG.1 h)
   refine Se Tryz.func70 rfl rfl rfl fun B hB=>?_;refine goW ?_;refine Zbq rfl ?_;refine goW ?_;exact Zad [0,1,2] (.ren rfl)
theorem Ydd (p:Prg) (W:List Int) (hW:∀ x∈W,YbC x) (st:List Nat) (hG:GH (shp p.cls) W st) (b:List Bool) (w:Int) (hw:YbC w) (hok:okW st w=true):V.Spec Tryz.prog 70 [.bp 0 0,V.int w] (stF p W (bools b)) (V.int (Yax W w)) (stF p W (bools b)):=by
 have hwl:=(Yah hG.eq).2.1;by_cases h0:w=0
 ·rw [show Yax W w=0 from Ycp (.inr h0)];refine Se Tryz.func70 rfl rfl rfl fun B hB=>?_;refine goW ?_;exact Zad [0,1] (.ren rfl)
 ·by_cases h1:w % 2=0
  ·have hwb:=hw.2;have hmem:(w / 2).toNat∈st∧0 < w:=by
    rcases YlJ hok with h|⟨_,h,h2⟩
    ·rcases h with h|h
     ·exact (h h1).elim
     ·exact (h0 h).elim
    ·exact ⟨h2,h⟩
   have hob:Yax W w=real W (w / 2).toNat:=by rw [Yax,if_neg (by omega)]
   rw [hob];have hfw:=fun x (hx:x∈st)=>YbJ (wAt W x) (hG.nonneg hx) (by rw [wAt,List.getD_eq_getElem?_getD,List.getElem?_eq_getElem (hG.hd hx).2.1];exact (hW _ (List.getElem_mem _)).2)
   refine Se Tryz.func70 rfl rfl rfl fun B hB=>?_;refine goW ?_;refine OL.quo ?_;refine goW ?_;refine Zat (S:=Nat) (fun i=>[(0,.bp 0 0),(5,V.int i)]) (fun _=>stF p W (bools b)) (fun i=>i∈st∧real W (w / 2).toNat=real W i) (fun i=>W.length-i) (w / 2).toNat [0,1] ⟨hmem.1,rfl⟩ ?_ (hr:=?_)
   ·rintro i ⟨hi,hre⟩;have hil:=(hG.hd hi).2.1;have hfi:=hfw i hi;have hwi:wAt W i=W[i]:=by rw [wAt,List.getD_eq_getElem?_getD,List.getElem?_eq_getElem hil];rfl
    have hnn:=hG.nonneg hi;by_cases hf:wAt W i / 64=0
    ·rw [hre,YhA hf];rw [hf,hwi] at hfi;refine goW ?_;refine OL.c hfi Tryz.func67 ?_;refine goW ?_;exact Zad [0,1] (.ren rfl)
    ·have hst:=Yg3 hG hi hf;rcases hG.fwd hi with h|⟨h2,h3⟩
     ·exact (hf h).elim
     ·rw [hwi] at hfi hf h2 h3 hst;have hpos:0 < W[i] / 64:=by omega
      generalize W[i] / 64=to at *
      refine goW ?_;refine OL.c hfi Tryz.func67 ?_;refine goW ?_;refine OL.c hfi Tryz.func67 ?_;refine goW ?_;have:=(hG.hd h3).2.1
      exact Zan to.toNat [0,1] ⟨h3,by rw [hre,hst]⟩ (by omega) (hr:=⟨⟨_,rfl,LE.ren rfl⟩,⟨_,rfl,LE.int (by omega)⟩,trivial⟩)
   ·exact ⟨⟨_,rfl,LE.ren rfl⟩,⟨_,rfl,LE.int (by omega)⟩,trivial⟩
  ·rw [show Yax W w=0 from Ycp (.inl h1)];have ht:w.tmod 2≠0:=fun h=>h1 (YcG.1 h)
   refine Se Tryz.func70 rfl rfl rfl fun B hB=>?_;refine goW ?_;refine Zbq rfl ?_;refine goW ?_;exact Zad [0,1] (.ren rfl)
def YaS (at_:List Int) (v:Int × Int):Int:=if v.1=1 then 2*v.2+1 else if v.1=3 then 2*at_.getD v.2.toNat 0 else 0
theorem Ylb (at_:List Int) (n:Int):YaS at_ (3,n)=2*at_.getD n.toNat 0:=by simp [YaS]
theorem YrC (at_:List Int) (v:Int × Int) (h1:v.1=1→-1000000000≤v.2∧v.2≤1000000000) (h3:v.1=3→0≤v.2∧v.2 < at_.length∧0≤at_.getD v.2.toNat 0∧at_.getD v.2.toNat 0≤1000000000) :
  V.Spec Tryz.prog 55 [Ycb v,ints at_] [] (V.int (YaS at_ v)) []:=by
 obtain ⟨k,n⟩:=v;dsimp only at h1 h3;by_cases hk:k=1
 ·subst hk;have hb:=h1 rfl;rw [YaS,if_pos rfl];refine Se Tryz.func55 rfl rfl rfl fun B hB=>?_;refine goW ?_;exact Zad [] (.ren rfl)
 ·by_cases hk3:k=3
  ·subst hk3;obtain ⟨a1,a2,a3,a4⟩:=h3 rfl;rw [Ylb];have e:at_.getD n.toNat 0=at_[n.toNat]'(by omega):=by rw [List.getD_eq_getElem?_getD,List.getElem?_eq_getElem (by omega)];rfl
   rw [e] at a3 a4 ⊢;refine Se Tryz.func55 rfl rfl rfl fun B hB=>?_;refine goW ?_;exact Zad [] (.ren rfl)
  ·rw [YaS,if_neg hk,if_neg hk3];refine Se Tryz.func55 rfl rfl rfl fun B hB=>?_;refine goW ?_;exact Zad [] (.ren rfl)
theorem Yga (l:List (Int × Int)) (f:Int × Int→Int) (hl:l.length*16≤140737488355328):V.Spec Tryz.prog 53 [Ych l,.pr (YdQ Tryz.prog (·∈l) (fun x=>[Ycb x]) (fun x=>V.int (f x)) (fun _=>[]))] [] (ints (l.map f)) []:=by
 refine Se Tryz.func53 rfl rfl rfl fun B hB=>?_;refine goW ?_;refine ZaT 5 3 1 ?_;refine Zat (fun k:Nat=>[(1,.pr (YdQ Tryz.prog (·∈l) (fun x=>[Ycb x]) (fun x=>V.int (f x)) (fun _=>[]))),(5,.hs 0),(8,Ych l),(9,V.int l.length),(10,V.int k)]) (fun k=>[.gs false 3 1 none (((l.take k).map f).map V.int)]) (fun k=>k≤l.length) (fun k=>l.length-k) 0 [0] (Nat.zero_le _) ?_;rintro k hk;by_cases hkl:k < l.length
 ·have hlen:((l.take k).map f).length=k:=by simp;omega
  have e:((l.take k).map f).map V.int++[V.int (f l[k])]=((l.take (k+1)).map f).map V.int:=by rw [Yab hkl,List.map_append,List.map_append];rfl
  generalize (l.take k).map f=gk at *
  refine goW ?_;refine Zbm l[k] (List.getElem_mem _) ?_;refine goW ?_;exact Zan (k+1) [3] (by omega) (by omega)
 ·rw [Yaf (by omega)];refine goW ?_;refine Za4 4 ?_;exact Zad [] (.ren rfl)
theorem YhX (l:List Cls) (c:Nat) (s:Int):(Yao l c s).1=1∨(Yao l c s).1=2:=by
 unfold Yao
 cases YbI l (at_ (orders (graphOf l)) c) s with
 | none=>exact .inr rfl
 | some n=>exact .inl rfl
def YcC (l:List Cls) (c:Nat):List Int:=(slotsOf l c).map fun s=>YaS [] (Yao l c s)
theorem Yk4 (v:Int × Int) (h3:v.1≠3) (h1:v.1=1→-1000000000≤v.2∧v.2≤1000000000):V.Spec Tryz.prog 131 [Ycb v] [] (V.int (YaS [] v)) []:=by
 have h:=YrC [] v h1 (fun h=>(h3 h).elim);refine Se Tryz.func131 rfl rfl rfl fun B hB=>?_;refine goW ?_;refine OL.c h Tryz.func55 ?_ (hle:=by with_unfolding_all exact ⟨.ren rfl,.nil (by decide),trivial⟩);refine goW ?_;exact Zad [] (.ren rfl)
section
variable (p:Prg) (hs:Ya9 p.cls) (hpk:∀ x∈p.nodes,x.2.2.length*8≤140737488355328)
include hs hpk
theorem Ypk (W:List Int) (b:List Bool) {c:Nat} (h:Yc4 p c=true) (hv:∀ s∈slotsOf p.cls c,(Yao p.cls c s).1=1→-1000000000≤(Yao p.cls c s).2∧(Yao p.cls c s).2≤1000000000) :
  V.Spec Tryz.prog 96 [.bp 0 0,V.int c] (stO p W (bools b)) (ints (YcC p.cls c)) (stO p W (bools b)):=by
 have h1:=Yiy p hs hpk h;have hp:Ybk p=true:=by simp only [Yc4,Bool.and_eq_true,decide_eq_true_eq] at h;exact h.2.2
 have hnl:=Yjn (Ybq hp) c;have hns:=YgQ p.cls c;have hno:YlH p.cls (c:Int)=((c:Int),(slotsOf p.cls c).map (Yao p.cls c)):=by rw [← hns];rfl
 rw [hns] at hnl;rw [hno] at h1;have h2:=Yga ((slotsOf p.cls c).map (Yao p.cls c)) (YaS []) (by omega);have h3:∀ v,v∈(slotsOf p.cls c).map (Yao p.cls c)→V.Spec Tryz.prog 131 [Ycb v] [] (V.int (YaS [] v)) []:=fun v hm=>by
  obtain ⟨s,hsm,rfl⟩:=List.mem_map.1 hm;exact Yk4 _ (by rcases YhX p.cls c s with q|q<;>rw [q]<;>decide) (hv s hsm)
 rw [List.map_map] at h2;rw [show YcC p.cls c=(slotsOf p.cls c).map (YaS [] ∘ Yao p.cls c) from rfl];refine Se Tryz.func96 rfl rfl rfl fun B hB=>?_;refine goW ?_;refine OL.c h1 Tryz.func130 ?_;refine goW ?_;refine OL.c h2 Tryz.func53 ?_ (hle:=by exact ⟨.ren rfl,LE.fun0 Tryz.func131 h3,trivial⟩);refine goW ?_;exact Zad [0,1,2] (.ren rfl)
end
abbrev stL (p:Prg) (W:List Int) (st:AV):Eta:=[.cb 93 (stC p (.hs 3) 2 st),.dead,.mo (slM p.cls p.cls.length),.gs false 3 1 none (W.map V.int)]
theorem YqF (p:Prg) (W:List Int) (hWl:W.length*8+10000≤140737488355328) (b:AV) (hb:∀ τ,V.ren τ b=b) (c:Int) (sl:List Int) (hsl:sl.length≤1000) :
  Ybu Tryz.prog 52 [.bp 0 0,V.int c,ints sl] (stO p W b) (V.int W.length) (stL p (W++c::sl) b) ((W++c::sl).length≤600) (rfv 3) Yrk:=by
 refine Ybu.enter Tryz.tabOK Tryz.mixed Tryz.func52 rfl rfl rfl fun B hB=>?_;by_cases hl:(W++c::sl).length≤600
 ·refine goW ?_;refine OL.c (Ya5 3) Tryz.func68 ?_ (hle:=by with_unfolding_all exact ⟨.bool (decide_eq_true (by simp only [List.length_append,List.length_cons] at hl;simp;omega)),.ren rfl,trivial⟩);refine goW ?_;refine TX.yes hl ?_;have e:W.map V.int++[V.int c]++sl.map V.int=(W++c::sl).map V.int:=by simp
  rw [e];exact Zad [0,1,2,5] (.ren rfl) (ho:=by with_unfolding_all exact ⟨⟨_,rfl,OE.ren (by simp only [renO,List.map,hb];rfl)⟩,⟨_,rfl,.ren rfl⟩,⟨_,rfl,.ren rfl⟩,⟨_,rfl,.gs⟩,trivial⟩)
 ·refine goW ?_;refine Zar [] (Ybm 3) Tryz.func68 ?_ (hle:=by with_unfolding_all exact ⟨.bool (decide_eq_false (by simp only [List.length_append,List.length_cons] at hl;simp;omega)),.ren rfl,trivial⟩);repeat' (first|refine Zam ?_|refine Zak ?_)
  refine TX.no hl ?_;exact Zas [0,1,2] (ho:=by with_unfolding_all exact ⟨⟨_,rfl,OE.dead⟩,⟨_,rfl,OE.dead⟩,⟨_,rfl,OE.dead⟩,trivial⟩)
def Yb5 (l:List Cls) (slots:Int) (W:List Int) (st:List Nat) (w s:Int):Int × Int:=
 if okW st w=true∧0≤s∧s < slots then
  (if Yax W w=0 then (5,0)
   else if Yb3 (fun x=>s==x) 0 (slotsOf l (wAt W (Yax W w)).toNat) < 0 then (5,0) else (0,(Yax W w:Int)+1+Yb3 (fun x=>s==x) 0 (slotsOf l (wAt W (Yax W w)).toNat)))
 else (2,0)
theorem YnA {l:List Cls} {W:List Int} {st:List Nat} (hG:GH (shp l) W st) {r:Nat} (hr:Re W st r):∃ k:Nat,wAt W r=k∧afind (wAt W r) (slM l l.length)=some (ints (slotsOf l (wAt W r).toNat))∧(slotsOf l (wAt W r).toNat).length=szW (shp l) (wAt W r)∧r+szW (shp l) (wAt W r) < W.length:=by
 obtain ⟨h0,n,h1,h2⟩:=Ybd.1 (hG.hd hr.1).2.2;have hc:=hG.cls hr.1 hr.2;have hs:=hG.sz hr.1;rw [hc] at h1;obtain ⟨g1,g2⟩:=YeT h1;refine ⟨(wAt W r).toNat,by omega,g1,?_,hs⟩;rw [szW,hc,h1,g2];rfl
section
variable (p:Prg) (W:List Int) (hW:∀ x∈W,YbC x) (st:List Nat) (hG:GH (shp p.cls) W st) (w s:Int) (hw:YbC w)
include hW hG hw
theorem YiW (h:(Yb5 p.cls p.slots W st w s).1=0):V.Spec Tryz.prog 90 [.bp 0 0,V.int w,V.int s] (stO p W (bools (marks W.length st))) (V.int (Yb5 p.cls p.slots W st w s).2) (stO p W (bools (marks W.length st))):=by
 have hlt:=fun x hx=>(hG.hd (x:=x) hx).2.1
 unfold Yb5 at h ⊢;by_cases h1:okW st w=true∧0≤s∧s < p.slots
 ·rw [if_pos h1] at h ⊢;by_cases h2:Yax W w=0
  ·rw [if_pos h2] at h;cases h
  ·rw [if_neg h2] at h ⊢;have hwd:=(Ycz p W st hlt [w] (by simpa using hw)).yes (by simp [h1.1]);have hob:=Yeb p W hW st hG (marks W.length st) w hw h1.1;have hre:=hG.re_obj h1.1 h2;obtain ⟨k,hk,g1,g2,g3⟩:=YnA hG hre;have hrl:=hlt _ hre.1;have hwl:=(Yah hG.eq).2.1;generalize Yax W w=r at *
   have hix:=YaO (slotsOf p.cls (wAt W r).toNat) s;have hfb:=Ydj (fun x=>s==x) (slotsOf p.cls (wAt W r).toNat) 0;generalize Yb3 (fun x=>s==x) 0 (slotsOf p.cls (wAt W r).toNat)=f at *
   by_cases hf:f < 0
   ·rw [if_pos hf] at h;cases h
   ·rw [if_neg hf];have hwr:wAt W r=W[r]:=by rw [wAt,List.getD_eq_getElem?_getD,List.getElem?_eq_getElem hrl];rfl
    rw [hwr] at g1 hix g2 g3 hfb;generalize slotsOf p.cls W[r].toNat=ss at *
    generalize marks W.length st=ms at *
    refine Se Tryz.func90 rfl rfl rfl fun B hB=>?_;refine goW ?_;refine Zax 11 ?_;refine Zaj [0,1,2] hwd Tryz.func65 ?_;refine goW ?_;refine OL.c (Ya5 2) Tryz.func68 ?_ (hle:=by with_unfolding_all exact ⟨.bool (decide_eq_true h1.2.2),.ren rfl,trivial⟩);refine goW ?_;refine Zaj [0,1,2] hob Tryz.func70 ?_;refine goW ?_;refine OL.c (Ya5 5) Tryz.func68 ?_ (hle:=by with_unfolding_all exact ⟨.bool (decide_eq_true (by omega)),.ren rfl,trivial⟩);refine goW ?_;(refine Zal (id:=5) true 15 16 ?_<;>refine OD.st 0 ?_<;>refine OD.st 1 ?_<;>refine OD.st 2 ?_<;>refine OD.st 3 ?_<;>refine OD.st 4 ?_<;>refine OD.st 5 ?_<;>refine OD.st 6 ?_<;>refine OD.st 7 ?_<;>refine OD.st 8 ?_<;>refine OD.st 9 ?_<;>refine OD.st 10 ?_<;>refine OD.st 11 ?_<;>refine OD.st 13 ?_<;>refine Zai 12 ?_ (h:=YaH (.inl g1))<;>refine Zah 14 hix Tryz.func104 ?_<;>refine OD.st 15 ?_<;>refine Zaa ?_)
    refine goW ?_;refine OL.c (Ya5 5) Tryz.func68 ?_ (hle:=by with_unfolding_all exact ⟨.bool (decide_eq_true (by omega)),.ren rfl,trivial⟩);refine goW ?_;exact Zad [0,1,2] (.ren rfl)
 ·rw [if_neg h1] at h;cases h
theorem Yi0 {e:Int} (h:(Yb5 p.cls p.slots W st w s).1=e) (he:e≠0):YaZ Tryz.prog 90 [.bp 0 0,V.int w,V.int s] (stO p W (bools (marks W.length st))) (rfv e) Yrk:=by
 have hlt:=fun x hx=>(hG.hd (x:=x) hx).2.1
 have hwd:=Ycz p W st hlt [w] (by simpa using hw);unfold Yb5 at h;by_cases h1:okW st w=true;rotate_left
 ·have hwd:=hwd.no (by simpa using h1);rw [if_neg (fun q=>h1 q.1)] at h;subst h;generalize marks W.length st=ms at *
  refine YaZ.enter Tryz.tabOK Tryz.mixed Tryz.func90 rfl rfl rfl fun B hB=>?_;refine goW ?_;refine Zax 11 ?_;refine Zar [0,1,2] hwd Tryz.func65 ?_;repeat' (first|refine Zam ?_|refine Zak ?_)
  exact Zas [0,1,2]
 have hwd:=hwd.yes (by simpa using h1);by_cases h2:0≤s∧s < p.slots;rotate_left
 ·rw [if_neg (fun q=>h2 q.2)] at h;subst h;generalize marks W.length st=ms at *
  refine YaZ.enter Tryz.tabOK Tryz.mixed Tryz.func90 rfl rfl rfl fun B hB=>?_;refine goW ?_;refine Zax 11 ?_;refine Zaj [0,1,2] hwd Tryz.func65 ?_;(refine YnB ?_ ?_<;>intro hc<;>refine goW ?_)
  ·refine Zar [] (Ybm 2) Tryz.func68 ?_ (hle:=by with_unfolding_all exact ⟨.bool (decide_eq_false (by omega)),.ren rfl,trivial⟩);repeat' (first|refine Zam ?_|refine Zak ?_)
   exact Zas [0,1,2] (ho:=by with_unfolding_all exact ⟨⟨_,rfl,OE.dead⟩,⟨_,rfl,OE.dead⟩,⟨_,rfl,OE.dead⟩,trivial⟩)
  ·refine Zar [] (Ybm 2) Tryz.func68 ?_;repeat' (first|refine Zam ?_|refine Zak ?_)
   exact Zas [0,1,2] (ho:=by with_unfolding_all exact ⟨⟨_,rfl,OE.dead⟩,⟨_,rfl,OE.dead⟩,⟨_,rfl,OE.dead⟩,trivial⟩)
 rw [if_pos ⟨h1,h2⟩] at h;have hob:=Yeb p W hW st hG (marks W.length st) w hw h1;by_cases h3:Yax W w=0
 ·rw [if_pos h3] at h;subst h;rw [h3] at hob;generalize marks W.length st=ms at *
  refine YaZ.enter Tryz.tabOK Tryz.mixed Tryz.func90 rfl rfl rfl fun B hB=>?_;refine goW ?_;refine Zax 11 ?_;refine Zaj [0,1,2] hwd Tryz.func65 ?_;refine goW ?_;refine OL.c (Ya5 2) Tryz.func68 ?_ (hle:=by with_unfolding_all exact ⟨.bool (decide_eq_true h2.2),.ren rfl,trivial⟩);refine goW ?_;refine Zaj [0,1,2] hob Tryz.func70 ?_;refine goW ?_;refine Zar [] (Ybm 5) Tryz.func68 ?_;repeat' (first|refine Zam ?_|refine Zak ?_)
  exact Zas [0,1,2] (ho:=by with_unfolding_all exact ⟨⟨_,rfl,OE.dead⟩,⟨_,rfl,OE.dead⟩,⟨_,rfl,OE.dead⟩,trivial⟩)
 ·rw [if_neg h3] at h;have hre:=hG.re_obj h1 h3;obtain ⟨k,hk,g1,g2,g3⟩:=YnA hG hre;have hrl:=hlt _ hre.1;have hwl:=(Yah hG.eq).2.1;generalize Yax W w=r at *
  have hix:=YaO (slotsOf p.cls (wAt W r).toNat) s;generalize Yb3 (fun x=>s==x) 0 (slotsOf p.cls (wAt W r).toNat)=f at *
  by_cases hf:f < 0
  ·rw [if_pos hf] at h;subst h;have hwr:wAt W r=W[r]:=by rw [wAt,List.getD_eq_getElem?_getD,List.getElem?_eq_getElem hrl];rfl
   rw [hwr] at g1 hix g2 g3;generalize slotsOf p.cls W[r].toNat=ss at *
   generalize marks W.length st=ms at *
   refine YaZ.enter Tryz.tabOK Tryz.mixed Tryz.func90 rfl rfl rfl fun B hB=>?_;refine goW ?_;refine Zax 11 ?_;refine Zaj [0,1,2] hwd Tryz.func65 ?_;refine goW ?_;refine OL.c (Ya5 2) Tryz.func68 ?_ (hle:=by with_unfolding_all exact ⟨.bool (decide_eq_true h2.2),.ren rfl,trivial⟩);refine goW ?_;refine Zaj [0,1,2] hob Tryz.func70 ?_;refine goW ?_;refine OL.c (Ya5 5) Tryz.func68 ?_ (hle:=by with_unfolding_all exact ⟨.bool (decide_eq_true (by omega)),.ren rfl,trivial⟩);refine goW ?_;(refine Zal (id:=5) true 15 16 ?_<;>refine OD.st 0 ?_<;>refine OD.st 1 ?_<;>refine OD.st 2 ?_<;>refine OD.st 3 ?_<;>refine OD.st 4 ?_<;>refine OD.st 5 ?_<;>refine OD.st 6 ?_<;>refine OD.st 7 ?_<;>refine OD.st 8 ?_<;>refine OD.st 9 ?_<;>refine OD.st 10 ?_<;>refine OD.st 11 ?_<;>refine OD.st 13 ?_<;>refine Zai 12 ?_ (h:=YaH (.inl g1))<;>refine Zah 14 hix Tryz.func104 ?_<;>refine OD.st 15 ?_<;>refine Zaa ?_)
   refine goW ?_;refine Zar [] (Ybm 5) Tryz.func68 ?_ (hle:=by with_unfolding_all exact ⟨.bool (decide_eq_false (by omega)),.ren rfl,trivial⟩);repeat' (first|refine Zam ?_|refine Zak ?_)
   exact Zas [0,1,2] (ho:=by with_unfolding_all exact ⟨⟨_,rfl,OE.dead⟩,⟨_,rfl,OE.dead⟩,⟨_,rfl,OE.dead⟩,trivial⟩)
  ·rw [if_neg hf] at h;exact (he h.symm).elim
end
abbrev Yaw (W:List Int):AV:=.st [ints W]
def Ybt (p:Prg) (W:List Int):Bool:=Ybk p&&Ydi (shp p.cls) W
end Go.Proofs
