/- Lemmas for the claim; no conditions. -/
import Derived.Test.YtdjhogobbbnddaaGreatC23
import Derived.Test.YtdjhogobbbnddaaGreatC19
import Derived.Test.YtdjhogobbbnddaaGreatC18
import Derived.Test.YtdjhogobbbnddaaGreatC48
namespace Go.Proofs
open Go Go.W Go.V
theorem Yir {l:List Cls} {k:Nat} (hk:k < l.length):pOf (graphOf l) ((3+k:Nat):Int)=l[k].1:=by
 have e:(((3+k:Nat):Int)-3).toNat=k:=by omega
 rw [Yk0 (by omega),e,Yai (by simpa [graphOf] using hk)];simp [graphOf]
theorem YqH {l:List Cls} {k:Nat} (hk:k < l.length) (h:¬ l[k].1.length≤3):fine (graphOf l)=false:=by
 cases hf:fine (graphOf l) with
 | false=>rfl
 | true =>
   have:=(YaK hf (c:=((3+k:Nat):Int)) (by simp [graphOf];omega)).1
   rw [Yir hk] at this;exact absurd this h
theorem Yjf {l:List Cls} {k:Nat} (hk:k < l.length) (h:¬ (l[k].2.1.length≤4∧consB (slN (l.take k)) l[k].2.1=true)):clsB 0 l=false:=by
 cases hc:clsB 0 l with
 | false=>rfl
 | true=>exact absurd (Yet hc hk) h
theorem Ym2 {l:List Int} {n:Int} {k:Nat} (hk:k < l.length) (h:l[k]≠n+k):consB n l=false:=by
 cases hc:consB n l with
 | false=>rfl
 | true=>exact absurd (YeX l n hc k hk) h
theorem Yle {l:List Cls} {k:Nat} (hk:k < l.length) (h:clsB 0 (l.take k)=true) (h4:l[k].2.1.length≤4) (hc:consB (slN (l.take k)) l[k].2.1=true):clsB 0 (l.take (k+1))=true:=by
 rw [Yab hk,YjG,h,clsB,clsB,Int.zero_add,hc,decide_eq_true h4];rfl
theorem Yc1 {p:Prg} (h:clsB 0 p.cls=false):Yag p=false:=by simp [Yag,h]
theorem YdP {p:Prg} (h:fine (graphOf p.cls)=false):Yag p=false:=by simp [Yag,h]
theorem Ya6 {p:Prg} {k:Nat} (hk:k < p.cls.length) (h:Yb7 p.cls k=false):Yag p=false:=by
 have:(List.range p.cls.length).all (Yb7 p.cls)=false:=YpB hk h
 simp only [Yag,this,Bool.and_false]
set_option maxHeartbeats 4000000 in
theorem Yhg (p:Prg) (hs:Ya9 p.cls):V.Spec Tryz.prog 132 [Ya0 p] [] (V.bool (Yag p)) []:=by
 have hgr:=Yfa p hs;have hgo:=YkM (graphOf p.cls);have hb:=hs.1;have hgl:(graphOf p.cls).length=p.cls.length:=by simp [graphOf]
 by_cases h10:p.cls.length≤10;rotate_left
 ·have e:Yag p=false:=by simp [Yag,h10]
  rw [e];refine Se Tryz.func132 rfl rfl rfl fun B hB=>?_;refine goW ?_;exact Zad [] (.ren rfl)
 refine Se Tryz.func132 rfl rfl rfl fun B hB=>?_;refine goW ?_;refine Za6 1 ?_;refine Zat (fun k:Nat=>[(1,.ep (YbB p) 0),(3,V.int (slN (p.cls.take k))),(4,V.int k)]) (fun _=>[]) (fun k=>k≤p.cls.length∧clsB 0 (p.cls.take k)=true) (fun k=>p.cls.length-k) 0 [] ⟨Nat.zero_le _,rfl⟩ ?_;rintro k ⟨hk,hpre⟩;have hsl4:=Ydu hpre;rw [List.length_take] at hsl4;by_cases hkl:k < p.cls.length
 ·by_cases h4:p.cls[k].2.1.length≤4;rotate_left
  ·rw [Yc1 (Yjf hkl (fun h=>h4 h.1))];refine goW ?_;exact Zad [] (.ren rfl)
  by_cases h3:p.cls[k].1.length≤3;rotate_left
  ·rw [YdP (YqH hkl h3)];refine goW ?_;exact Zad [] (.ren rfl)
  have hsn:=Ydz p.cls hkl;refine goW ?_;refine Zat (fun j:Nat=>[(1,.ep (YbB p) 0),(3,V.int ((slN (p.cls.take k):Int)+j)),(4,V.int k),(5,ints p.cls[k].2.1),(6,V.int j)]) (fun _=>[]) (fun j=>j≤p.cls[k].2.1.length∧consB (slN (p.cls.take k)) (p.cls[k].2.1.take j)=true) (fun j=>p.cls[k].2.1.length-j) 0 [] ⟨Nat.zero_le _,rfl⟩ ?_ (hr:=⟨⟨_,rfl,LE.ren rfl⟩,⟨_,rfl,LE.int (by omega)⟩,⟨_,rfl,LE.ren rfl⟩,⟨_,rfl,LE.ren rfl⟩,⟨_,rfl,LE.ren rfl⟩,trivial⟩);rintro j ⟨hj,hcj⟩;by_cases hjl:j < p.cls[k].2.1.length
  ·by_cases he:p.cls[k].2.1[j]=(slN (p.cls.take k):Int)+j
   ·refine goW ?_;refine Zan (j+1) [] ⟨by omega,?_⟩ (by omega) (hr:=⟨⟨_,rfl,LE.ren rfl⟩,⟨_,rfl,LE.int (by omega)⟩,⟨_,rfl,LE.ren rfl⟩,⟨_,rfl,LE.ren rfl⟩,⟨_,rfl,LE.ren rfl⟩,trivial⟩);rw [Yab hjl,Yfx,hcj,consB,consB,List.length_take,Nat.min_eq_left (by omega),decide_eq_true he];rfl
   ·rw [Yc1 (Yjf hkl (fun h=>by have:=Ym2 hjl he;rw [this] at h;exact absurd h.2 (by decide)))];refine goW ?_;exact Zad [] (.ren rfl)
  ·obtain rfl:j=p.cls[k].2.1.length:=by omega
   rw [Yaf (Nat.le_refl _)] at hcj;refine goW ?_;exact Zan (k+1) [] ⟨by omega,Yle hkl hpre h4 hcj⟩ (by omega) (hr:=⟨⟨_,rfl,LE.ren rfl⟩,⟨_,rfl,LE.int (by omega)⟩,⟨_,rfl,LE.ren rfl⟩,trivial⟩)
 ·rw [Yaf (by omega)] at hpre hsl4 ⊢;have hwo:=Yb1 p hs (by omega);by_cases hsl:(slN p.cls:Int)=p.slots;rotate_left
  ·have e:Yag p=false:=by simp [Yag,hsl]
   rw [e];refine goW ?_;refine OL.c hgr Tryz.func129 ?_;refine goW ?_;exact Zad [] (.ren rfl)
  cases hf:fine (graphOf p.cls)
  ·rw [hf] at hgo;rw [YdP hf];refine goW ?_;refine OL.c hgr Tryz.func129 ?_;refine goW ?_;refine OL.c hgo Tryz.func151 ?_;refine goW ?_;exact Zad [] (.ren rfl)
  rw [hf] at hgo;have hlo:=fun (c:Int) (h0:0≤c) (h1:c < 3+(p.cls.length:Int))=>YjI (graphOf p.cls) c hf h0 (by omega)
  have hha:=fun {c:Nat} (h3:3≤c) (hc:c < 3+(graphOf p.cls).length) {s:Nat} (hs:s < (ownF 0 p.cls).length) (how)=>Yhr (graphOf p.cls) (ownF 0 p.cls) hf h3 hc hs how
  have hol:=YbL p.cls 0;refine goW ?_;refine OL.c hgr Tryz.func129 ?_;refine goW ?_;refine OL.c hgo Tryz.func151 ?_;refine goW ?_;refine OL.c hwo Tryz.func92 ?_;refine goW ?_;refine Za6 8 ?_;refine Zat (fun k:Nat=>[(1,.ep (YbB p) 0),(3,V.int (slN p.cls)),(7,YbU (graphOf p.cls)),(8,.ep (fwC (graphOf p.cls) (ownF 0 p.cls)) 0),(9,V.int k)]) (fun _=>[]) (fun k=>k≤p.cls.length∧∀ i,i < k→Yb7 p.cls i=true) (fun k=>p.cls.length-k) 0 [] ⟨Nat.zero_le _,fun i h=>by omega⟩ ?_;rintro k ⟨hk,hall⟩;by_cases hkl:k < p.cls.length
  ·have hlk:=hlo ((k:Int)+3) (by omega) (by omega);have e3:((3+k:Nat):Int)=(k:Int)+3:=by omega
   have hcl:Yb7 p.cls k=(decide (0 < (at_ (orders (graphOf p.cls)) ((k:Int)+3)).length)&&initsOk (YfE p.cls ((k:Int)+3)) [] p.cls[k].2.2):=by rw [Yb7,e3,clsAt,Yai hkl]
   by_cases ho:0 < (at_ (orders (graphOf p.cls)) ((k:Int)+3)).length;rotate_left
   ·rw [Ya6 hkl (by rw [hcl,decide_eq_false ho];rfl)];rw [decide_eq_false ho] at hlk;refine goW ?_;refine OL.c hlk Tryz.func152 ?_;refine goW ?_;exact Zad [] (.ren rfl)
   rw [decide_eq_true ho] at hlk hcl;rw [Bool.true_and] at hcl;have hal:=(hs.2 p.cls[k] (List.getElem_mem _)).2.2;refine goW ?_;refine OL.c hlk Tryz.func152 ?_;refine goW ?_;generalize hie:p.cls[k].2.2=is at *
   refine Zat (fun j:Nat=>[(1,.ep (YbB p) 0),(3,V.int (slN p.cls)),(7,YbU (graphOf p.cls)),(8,.ep (fwC (graphOf p.cls) (ownF 0 p.cls)) 0),(9,V.int k),(10,V.int ((k:Int)+3)),(13,Yde is),(14,V.int j)]) (fun _=>[]) (fun j=>j≤is.length∧Yb7 p.cls k=initsOk (YfE p.cls ((k:Int)+3)) ((is.take j).map (·.1)) (is.drop j)) (fun j=>is.length-j) 0 [] ⟨Nat.zero_le _,hcl⟩ ?_;rintro j ⟨hj,hinv⟩;by_cases hjl:j < is.length
   ·rw [Yac hjl,initsOk] at hinv;have e2:((is.take j).map (·.1))++[is[j].1]=(is.take (j+1)).map (·.1):=by rw [Yab hjl,List.map_append];rfl
    rw [e2] at hinv;have hin:=YiK is[j].2;have hmem:(YfE p.cls ((k:Int)+3)).contains is[j].1=true↔(0≤is[j].1∧is[j].1 < slN p.cls)∧upHas (graphOf p.cls) ((k:Int)+3) ((ownF 0 p.cls).getD is[j].1.toNat 0)=true:=by rw [List.contains_iff_mem,Yjg]
    by_cases hr:0≤is[j].1∧is[j].1 < slN p.cls;rotate_left
    ·have hc0:(YfE p.cls ((k:Int)+3)).contains is[j].1=false:=by rw [Bool.eq_false_iff];exact fun h=>hr (hmem.1 h).1
     rw [hc0] at hinv;simp only [Bool.false_and] at hinv;rw [Ya6 hkl hinv];refine goW ?_;(refine Zal (id:=31) true 35 35 ?_<;>refine Zaf 0 1 2 3 ?_<;>refine Zae 4 5 ?_<;>refine OD.st 6 ?_<;>refine Zaw 108 ?_ ?_<;>(intro hc;try (exfalso;omega))<;>(first|(refine OD.st 7 ?_)|(refine OD.of 7 ?_))<;>(first|refine OD.st 8 ?_|refine OD.of 8 ?_)<;>(first|refine OD.st 9 ?_|refine OD.of 9 ?_)<;>(first|refine OD.st 10 ?_|refine OD.of 10 ?_)<;>(first|refine OD.st 11 ?_|refine OD.of 11 ?_)<;>(first|refine OD.st 12 ?_|refine OD.of 12 ?_)<;>(first|refine OD.st 13 ?_|refine OD.of 13 ?_)<;>refine Zae 14 15 ?_<;>(first|refine OD.of 16 ?_|refine Zaw 117 ?_ ?_<;>(intro hc;try (exfalso;omega))<;>(first|(refine OD.st 16 ?_)|(refine OD.of 16 ?_)))<;>refine OD.of 17 ?_<;>refine OD.of 18 ?_<;>refine OD.of 19 ?_<;>refine OD.of 20 ?_<;>refine OD.of 21 ?_<;>refine OD.of 22 ?_<;>refine OD.of 23 ?_<;>refine OD.of 24 ?_<;>refine Zae 25 26 ?_<;>refine OD.of 27 ?_<;>refine OD.of 28 ?_<;>refine OD.of 29 ?_<;>refine OD.of 30 ?_<;>refine OD.of 31 ?_<;>refine OD.of 32 ?_<;>refine OD.of 33 ?_<;>refine OD.st 34 ?_<;>refine Zaa ?_)
     all_goals refine goW ?_
     all_goals exact Zad [] (.ren rfl)
    have hgd:(ownF 0 p.cls).getD is[j].1.toNat 0=(ownF 0 p.cls)[is[j].1.toNat]'(by omega):=Yai (by omega);have how:3≤(ownF 0 p.cls)[is[j].1.toNat]'(by omega)∧(ownF 0 p.cls)[is[j].1.toNat]'(by omega) < 3+((graphOf p.cls).length:Int):=by
     obtain ⟨q,q1,q2,q3,q4⟩:=Ydp p.cls 0 is[j].1.toNat (by omega);rw [← hgd,q4];omega
    have hh:=hha (c:=3+k) (by omega) (by omega) (s:=is[j].1.toNat) (by omega) how;rw [← hgd,e3,show ((is[j].1.toNat:Nat):Int)=is[j].1 by omega] at hh
    cases hu:upHas (graphOf p.cls) ((k:Int)+3) ((ownF 0 p.cls).getD is[j].1.toNat 0)
    ·rw [hu] at hh hmem;have hc0:(YfE p.cls ((k:Int)+3)).contains is[j].1=false:=by rw [Bool.eq_false_iff];exact fun h=>absurd (hmem.1 h).2 (by decide)
     rw [hc0] at hinv;simp only [Bool.false_and] at hinv;rw [Ya6 hkl hinv];refine goW ?_;(refine Zal (id:=31) true 35 35 ?_<;>refine Zaf 0 1 2 3 ?_<;>refine Zae 4 5 ?_<;>refine OD.st 6 ?_<;>refine Zaw 108 ?_ ?_<;>(intro hc;try (exfalso;omega))<;>(first|(refine OD.st 7 ?_)|(refine OD.of 7 ?_))<;>refine Zaf 8 9 10 11 ?_<;>refine Zaf 12 13 14 15 ?_<;>refine Zaw 117 ?_ ?_<;>(intro hc;try (exfalso;omega))<;>(first|(refine OD.st 16 ?_)|(refine OD.of 16 ?_))<;>refine Zaf 17 18 19 20 ?_<;>refine Zae 21 22 ?_<;>refine Zah 23 hh Tryz.func147 ?_<;>refine Zae 24 25 ?_<;>refine OD.st 26 ?_<;>refine OD.of 27 ?_<;>refine OD.of 28 ?_<;>refine OD.of 29 ?_<;>refine OD.of 30 ?_<;>refine OD.of 31 ?_<;>refine OD.of 32 ?_<;>refine OD.of 33 ?_<;>refine OD.st 34 ?_<;>refine Zaa ?_)
     all_goals refine goW ?_
     all_goals exact Zad [] (.ren rfl)
    rw [hu] at hh hmem;rw [hmem.2 ⟨hr,rfl⟩,Bool.true_and] at hinv
    cases hbt:YaE is[j].2
    ·rw [hbt] at hin;have hb2:(decide (-1000000000≤is[j].2)&&decide (is[j].2≤1000000000))=false:=hbt;rw [hb2] at hinv;simp only [Bool.and_false,Bool.false_and] at hinv;rw [Ya6 hkl hinv];refine goW ?_;(refine Zal (id:=31) true 35 35 ?_<;>refine Zaf 0 1 2 3 ?_<;>refine Zae 4 5 ?_<;>refine OD.st 6 ?_<;>refine Zaw 108 ?_ ?_<;>(intro hc;try (exfalso;omega))<;>(first|(refine OD.st 7 ?_)|(refine OD.of 7 ?_))<;>refine Zaf 8 9 10 11 ?_<;>refine Zaf 12 13 14 15 ?_<;>refine Zaw 117 ?_ ?_<;>(intro hc;try (exfalso;omega))<;>(first|(refine OD.st 16 ?_)|(refine OD.of 16 ?_))<;>refine Zaf 17 18 19 20 ?_<;>refine Zae 21 22 ?_<;>refine Zah 23 hh Tryz.func147 ?_<;>refine Zaf 24 25 26 27 ?_<;>refine Zaf 28 29 30 31 ?_<;>refine Zah 32 hin Tryz.func153 ?_<;>refine Zae 33 34 ?_<;>refine Zaa ?_)
     all_goals refine goW ?_
     all_goals exact Zad [] (.ren rfl)
    rw [hbt] at hin;have hb2:(decide (-1000000000≤is[j].2)&&decide (is[j].2≤1000000000))=true:=hbt;rw [hb2,Bool.and_true] at hinv;refine goW ?_;(refine Zal (id:=31) true 35 35 ?_<;>refine Zaf 0 1 2 3 ?_<;>refine Zae 4 5 ?_<;>refine OD.st 6 ?_<;>refine Zaw 108 ?_ ?_<;>(intro hc;try (exfalso;omega))<;>(first|(refine OD.st 7 ?_)|(refine OD.of 7 ?_))<;>refine Zaf 8 9 10 11 ?_<;>refine Zaf 12 13 14 15 ?_<;>refine Zaw 117 ?_ ?_<;>(intro hc;try (exfalso;omega))<;>(first|(refine OD.st 16 ?_)|(refine OD.of 16 ?_))<;>refine Zaf 17 18 19 20 ?_<;>refine Zae 21 22 ?_<;>refine Zah 23 hh Tryz.func147 ?_<;>refine Zaf 24 25 26 27 ?_<;>refine Zaf 28 29 30 31 ?_<;>refine Zah 32 hin Tryz.func153 ?_<;>refine Zae 33 34 ?_<;>refine Zaa ?_)
    all_goals refine goW ?_
    all_goals refine Zat (fun q:Nat=>[(1,.ep (YbB p) 0),(3,V.int (slN p.cls)),(7,YbU (graphOf p.cls)),(8,.ep (fwC (graphOf p.cls) (ownF 0 p.cls)) 0),(9,V.int k),(10,V.int ((k:Int)+3)),(13,Yde is),(14,V.int j),(15,V.int q)]) (fun _=>[]) (fun q=>q≤j∧∀ i,(h:i < q)→(hl:i < is.length)→is[i].1≠is[j].1) (fun q=>j-q) 0 [] ⟨Nat.zero_le _,fun i h=>by omega⟩ ?_
    rintro q ⟨hq,hne⟩;by_cases hqj:q < j
    ·by_cases heq:is[q].1=is[j].1
     ·have hcn:((is.take j).map (·.1)).contains is[j].1=true:=by
       rw [List.contains_iff_mem,List.mem_map];exact ⟨is[q],by rw [List.mem_take_iff_getElem];exact ⟨q,by omega,rfl⟩,heq⟩
      rw [hcn] at hinv;simp only [Bool.not_true,Bool.false_and] at hinv;rw [Ya6 hkl hinv];refine goW ?_;(refine Zal (id:=36) true 11 11 ?_<;>refine Zaf 0 1 2 3 ?_<;>refine Zaf 4 5 6 7 ?_<;>refine Zae 8 9 ?_<;>refine OD.st 10 ?_<;>refine Zaa ?_)
      all_goals refine goW ?_
      all_goals exact Zad [] (.ren rfl)
     ·refine goW ?_;(refine Zal (id:=36) true 11 11 ?_<;>refine Zaf 0 1 2 3 ?_<;>refine Zaf 4 5 6 7 ?_<;>refine Zae 8 9 ?_<;>refine OD.st 10 ?_<;>refine Zaa ?_)
      all_goals refine goW ?_
      all_goals refine Zan (q+1) [] ⟨by omega,fun i h hl=>?_⟩ (by omega)
      all_goals (by_cases hiq:i=q)
      ·subst hiq;exact heq
      ·exact hne i (by omega) hl
    ·have hcn:((is.take j).map (·.1)).contains is[j].1=false:=by
      rw [Bool.eq_false_iff,ne_eq,List.contains_iff_mem,List.mem_map];rintro ⟨x,hx,hxe⟩;rw [List.mem_take_iff_getElem] at hx;obtain ⟨i,hi,rfl⟩:=hx;exact hne i (by omega) (by omega) hxe
     rw [hcn] at hinv;simp only [Bool.not_false,Bool.true_and] at hinv;refine goW ?_;exact Zan (j+1) [] ⟨by omega,hinv⟩ (by omega)
   ·rw [Yat (by omega),initsOk] at hinv;refine goW ?_;refine Zan (k+1) [] ⟨by omega,fun i hi=>?_⟩ (by omega);by_cases hik:i=k
    ·subst hik;exact hinv
    ·exact hall i (by omega)
  ·have e:Yag p=true:=by
    have h1:(List.range p.cls.length).all (Yb7 p.cls)=true:=Yji fun i hi=>hall i (by omega)
    rw [Yag,hf,h1,hpre,decide_eq_true h10,decide_eq_true hsl];rfl
   rw [e];refine goW ?_;exact Zad [] (.ren rfl)
end Go.Proofs
