/- Part 41 of what the claim is proved by: lemmas on the model and walks through functions of the program; no conditions. -/
import Derived.Test.YtmdpbfghjdljiaaGreatQ13
import Derived.Test.YtmdpbfghjdljiaaGreatQ16
import Derived.Test.YtmdpbfghjdljiaaGreatQ40
namespace Go.Proofs
open Go Go.W Go.V
theorem graphOf_at {l:List Cls} {k:Nat} (hk:k < l.length):pOf (graphOf l) ((3+k:Nat):Int)=l[k].1:=by
 have e:(((3+k:Nat):Int)-3).toNat=k:=by omega
 rw [pOf_ge (by omega),e,getD_lt (by simpa [graphOf] using hk)]
 simp [graphOf]
theorem fine_par {l:List Cls} {k:Nat} (hk:k < l.length) (h:¬ l[k].1.length≤3):fine (graphOf l)=false:=by
 cases hf:fine (graphOf l) with
 | false=>rfl
 | true =>
   have:=(fine_pOf hf (c:=((3+k:Nat):Int)) (by simp [graphOf];omega)).1
   rw [graphOf_at hk] at this
   exact absurd this h
theorem clsB_no {l:List Cls} {k:Nat} (hk:k < l.length) (h:¬ (l[k].2.1.length≤4∧consB (slN (l.take k)) l[k].2.1=true)):clsB 0 l=false:=by
 cases hc:clsB 0 l with
 | false=>rfl
 | true=>exact absurd (clsB_at hc hk) h
theorem consB_no {l:List Int} {n:Int} {k:Nat} (hk:k < l.length) (h:l[k]≠n+k):consB n l=false:=by
 cases hc:consB n l with
 | false=>rfl
 | true=>exact absurd (consB_get l n hc k hk) h
theorem clsB_snoc {l:List Cls} {k:Nat} (hk:k < l.length) (h:clsB 0 (l.take k)=true) (h4:l[k].2.1.length≤4) (hc:consB (slN (l.take k)) l[k].2.1=true):clsB 0 (l.take (k+1))=true:=by
 rw [take_succ hk,clsB_app,h,clsB,clsB,Int.zero_add,hc,decide_eq_true h4];rfl
theorem classesB_no1 {p:Prg} (h:clsB 0 p.cls=false):classesB p=false:=by simp [classesB,h]
theorem classesB_no2 {p:Prg} (h:fine (graphOf p.cls)=false):classesB p=false:=by simp [classesB,h]
theorem classesB_no3 {p:Prg} {k:Nat} (hk:k < p.cls.length) (h:clsInB p.cls k=false):classesB p=false:=by
 have:(List.range p.cls.length).all (clsInB p.cls)=false:=all_false hk h
 simp only [classesB,this,Bool.and_false]
set_option maxHeartbeats 4000000 in
theorem Ct257 (p:Prg) (hs:Short p.cls):V.Spec Tryz.prog 129 [prgA p] [] (V.bool (classesB p)) []:=by
 have hgr:=Ct251 p hs
 have hgo:=Ct206 (graphOf p.cls)
 have hb:=hs.1
 have hgl:(graphOf p.cls).length=p.cls.length:=by simp [graphOf]
 by_cases h10:p.cls.length≤10
 rotate_left
 ·have e:classesB p=false:=by simp [classesB,h10]
  rw [e]
  refine V.Spec.enter Tryz.tabOK Tryz.mixed Tryz.func129 rfl rfl rfl fun B hB=>?_
  refine goW ?_
  exact TX.rt1 [] (.ren rfl)
 refine V.Spec.enter Tryz.tabOK Tryz.mixed Tryz.func129 rfl rfl rfl fun B hB=>?_
 refine goW ?_
 refine TC.frzB 1 ?_
 refine TC.lp (fun k:Nat=>[(1,.ep (prgC p) 0),(3,V.int (slN (p.cls.take k))),(4,V.int k)]) (fun _=>[]) (fun k=>k≤p.cls.length∧clsB 0 (p.cls.take k)=true) (fun k=>p.cls.length-k) 0 [] ⟨Nat.zero_le _,rfl⟩ ?_
 rintro k ⟨hk,hpre⟩
 have hsl4:=clsB_len hpre
 rw [List.length_take] at hsl4
 by_cases hkl:k < p.cls.length
 ·by_cases h4:p.cls[k].2.1.length≤4
  rotate_left
  ·rw [classesB_no1 (clsB_no hkl (fun h=>h4 h.1))]
   refine goW ?_
   exact TX.rt1 [] (.ren rfl)
  by_cases h3:p.cls[k].1.length≤3
  rotate_left
  ·rw [classesB_no2 (fine_par hkl h3)]
   refine goW ?_
   exact TX.rt1 [] (.ren rfl)
  have hsn:=slN_succ p.cls hkl
  refine goW ?_
  refine TC.lp (fun j:Nat=>[(1,.ep (prgC p) 0),(3,V.int ((slN (p.cls.take k):Int)+j)),(4,V.int k),(5,ints p.cls[k].2.1),(6,V.int j)]) (fun _=>[]) (fun j=>j≤p.cls[k].2.1.length∧consB (slN (p.cls.take k)) (p.cls[k].2.1.take j)=true) (fun j=>p.cls[k].2.1.length-j) 0 [] ⟨Nat.zero_le _,rfl⟩ ?_ (hr:=⟨⟨_,rfl,LE.ren rfl⟩,⟨_,rfl,LE.int (by omega)⟩,⟨_,rfl,LE.ren rfl⟩,⟨_,rfl,LE.ren rfl⟩,⟨_,rfl,LE.ren rfl⟩,trivial⟩)
  rintro j ⟨hj,hcj⟩
  by_cases hjl:j < p.cls[k].2.1.length
  ·by_cases he:p.cls[k].2.1[j]=(slN (p.cls.take k):Int)+j
   ·refine goW ?_
    refine TX.rd (j+1) [] ⟨by omega,?_⟩ (by omega) (hr:=⟨⟨_,rfl,LE.ren rfl⟩,⟨_,rfl,LE.int (by omega)⟩,⟨_,rfl,LE.ren rfl⟩,⟨_,rfl,LE.ren rfl⟩,⟨_,rfl,LE.ren rfl⟩,trivial⟩)
    rw [take_succ hjl,consB_app,hcj,consB,consB,List.length_take,Nat.min_eq_left (by omega),decide_eq_true he];rfl
   ·rw [classesB_no1 (clsB_no hkl (fun h=>by have:=consB_no hjl he;rw [this] at h;exact absurd h.2 (by decide)))]
    refine goW ?_
    exact TX.rt1 [] (.ren rfl)
  ·obtain rfl:j=p.cls[k].2.1.length:=by omega
   rw [take_all (Nat.le_refl _)] at hcj
   refine goW ?_
   exact TX.rd (k+1) [] ⟨by omega,clsB_snoc hkl hpre h4 hcj⟩ (by omega) (hr:=⟨⟨_,rfl,LE.ren rfl⟩,⟨_,rfl,LE.int (by omega)⟩,⟨_,rfl,LE.ren rfl⟩,trivial⟩)
 ·rw [take_all (by omega)] at hpre hsl4 ⊢
  have hwo:=Ct256 p hs (by omega)
  by_cases hsl:(slN p.cls:Int)=p.slots
  rotate_left
  ·have e:classesB p=false:=by simp [classesB,hsl]
   rw [e]
   refine goW ?_
   refine OL.c hgr Tryz.func184 ?_
   refine goW ?_
   exact TX.rt1 [] (.ren rfl)
  cases hf:fine (graphOf p.cls)
  ·rw [hf] at hgo
   rw [classesB_no2 hf]
   refine goW ?_
   refine OL.c hgr Tryz.func184 ?_
   refine goW ?_
   refine OL.c hgo Tryz.func85 ?_
   refine goW ?_
   exact TX.rt1 [] (.ren rfl)
  rw [hf] at hgo
  have hlo:=fun (c:Int) (h0:0≤c) (h1:c < 3+(p.cls.length:Int))=>Ct215 (graphOf p.cls) c hf h0 (by omega)
  have hha:=fun {c:Nat} (h3:3≤c) (hc:c < 3+(graphOf p.cls).length) {s:Nat} (hs:s < (ownF 0 p.cls).length) (how)=>Ct240 (graphOf p.cls) (ownF 0 p.cls) hf h3 hc hs how
  have hol:=ownF_len p.cls 0
  refine goW ?_
  refine OL.c hgr Tryz.func184 ?_
  refine goW ?_
  refine OL.c hgo Tryz.func85 ?_
  refine goW ?_
  refine OL.c hwo Tryz.func130 ?_
  refine goW ?_
  refine TC.frzB 8 ?_
  refine TC.lp (fun k:Nat=>[(1,.ep (prgC p) 0),(3,V.int (slN p.cls)),(7,rows (graphOf p.cls)),(8,.ep (fwC (graphOf p.cls) (ownF 0 p.cls)) 0),(9,V.int k)]) (fun _=>[]) (fun k=>k≤p.cls.length∧∀ i,i < k→clsInB p.cls i=true) (fun k=>p.cls.length-k) 0 [] ⟨Nat.zero_le _,fun i h=>by omega⟩ ?_
  rintro k ⟨hk,hall⟩
  by_cases hkl:k < p.cls.length
  ·have hlk:=hlo ((k:Int)+3) (by omega) (by omega)
   have e3:((3+k:Nat):Int)=(k:Int)+3:=by omega
   have hcl:clsInB p.cls k=(decide (0 < (at_ (orders (graphOf p.cls)) ((k:Int)+3)).length)&&initsOk (hasL p.cls ((k:Int)+3)) [] p.cls[k].2.2):=by rw [clsInB,e3,clsAt,getD_lt hkl]
   by_cases ho:0 < (at_ (orders (graphOf p.cls)) ((k:Int)+3)).length
   rotate_left
   ·rw [classesB_no3 hkl (by rw [hcl,decide_eq_false ho];rfl)]
    rw [decide_eq_false ho] at hlk
    refine goW ?_
    refine OL.c hlk Tryz.func82 ?_
    refine goW ?_
    exact TX.rt1 [] (.ren rfl)
   rw [decide_eq_true ho] at hlk hcl
   rw [Bool.true_and] at hcl
   have hal:=(hs.2 p.cls[k] (List.getElem_mem _)).2.2
   refine goW ?_
   refine OL.c hlk Tryz.func82 ?_
   refine goW ?_
   generalize hie:p.cls[k].2.2=is at *
   refine TC.lp (fun j:Nat=>[(1,.ep (prgC p) 0),(3,V.int (slN p.cls)),(7,rows (graphOf p.cls)),(8,.ep (fwC (graphOf p.cls) (ownF 0 p.cls)) 0),(9,V.int k),(10,V.int ((k:Int)+3)),(13,initsA is),(14,V.int j)]) (fun _=>[]) (fun j=>j≤is.length∧clsInB p.cls k=initsOk (hasL p.cls ((k:Int)+3)) ((is.take j).map (·.1)) (is.drop j)) (fun j=>is.length-j) 0 [] ⟨Nat.zero_le _,hcl⟩ ?_
   rintro j ⟨hj,hinv⟩
   by_cases hjl:j < is.length
   ·rw [drop_cons hjl,initsOk] at hinv
    have e2:((is.take j).map (·.1))++[is[j].1]=(is.take (j+1)).map (·.1):=by rw [take_succ hjl,List.map_append];rfl
    rw [e2] at hinv
    have hin:=Ct258 is[j].2
    have hmem:(hasL p.cls ((k:Int)+3)).contains is[j].1=true↔(0≤is[j].1∧is[j].1 < slN p.cls)∧upHas (graphOf p.cls) ((k:Int)+3) ((ownF 0 p.cls).getD is[j].1.toNat 0)=true:=by rw [List.contains_iff_mem,mem_hasL]
    by_cases hr:0≤is[j].1∧is[j].1 < slN p.cls
    rotate_left
    ·have hc0:(hasL p.cls ((k:Int)+3)).contains is[j].1=false:=by rw [Bool.eq_false_iff];exact fun h=>hr (hmem.1 h).1
     rw [hc0] at hinv
     simp only [Bool.false_and] at hinv
     rw [classesB_no3 hkl hinv]
     refine goW ?_
     (with_reducible refine TC.draw (id:=31) true 35 35 ?_<;>refine OD.st4 0 1 2 3 ?_<;>refine OD.st2 4 5 ?_<;>refine OD.st 6 ?_<;>refine OD.sD 108 ?_ ?_<;>(intro hc;try (exfalso;omega))<;>(first|(with_reducible refine OD.st 7 ?_)|(with_reducible refine OD.of 7 ?_))<;>(first|refine OD.st 8 ?_|refine OD.of 8 ?_)<;>(first|refine OD.st 9 ?_|refine OD.of 9 ?_)<;>(first|refine OD.st 10 ?_|refine OD.of 10 ?_)<;>(first|refine OD.st 11 ?_|refine OD.of 11 ?_)<;>(first|refine OD.st 12 ?_|refine OD.of 12 ?_)<;>(first|refine OD.st 13 ?_|refine OD.of 13 ?_)<;>refine OD.st2 14 15 ?_<;>(first|refine OD.of 16 ?_|refine OD.sD 117 ?_ ?_<;>(intro hc;try (exfalso;omega))<;>(first|(with_reducible refine OD.st 16 ?_)|(with_reducible refine OD.of 16 ?_)))<;>refine OD.of 17 ?_<;>refine OD.of 18 ?_<;>refine OD.of 19 ?_<;>refine OD.of 20 ?_<;>refine OD.of 21 ?_<;>refine OD.of 22 ?_<;>refine OD.of 23 ?_<;>refine OD.of 24 ?_<;>refine OD.st2 25 26 ?_<;>refine OD.of 27 ?_<;>refine OD.of 28 ?_<;>refine OD.of 29 ?_<;>refine OD.of 30 ?_<;>refine OD.of 31 ?_<;>refine OD.of 32 ?_<;>refine OD.of 33 ?_<;>refine OD.st 34 ?_<;>refine OD.dn ?_)
     all_goals refine goW ?_
     all_goals exact TX.rt1 [] (.ren rfl)
    have hgd:(ownF 0 p.cls).getD is[j].1.toNat 0=(ownF 0 p.cls)[is[j].1.toNat]'(by omega):=getD_lt (by omega)
    have how:3≤(ownF 0 p.cls)[is[j].1.toNat]'(by omega)∧(ownF 0 p.cls)[is[j].1.toNat]'(by omega) < 3+((graphOf p.cls).length:Int):=by
     obtain ⟨q,q1,q2,q3,q4⟩:=ownF_get p.cls 0 is[j].1.toNat (by omega)
     rw [← hgd,q4];omega
    have hh:=hha (c:=3+k) (by omega) (by omega) (s:=is[j].1.toNat) (by omega) how
    rw [← hgd,e3,show ((is[j].1.toNat:Nat):Int)=is[j].1 by omega] at hh
    cases hu:upHas (graphOf p.cls) ((k:Int)+3) ((ownF 0 p.cls).getD is[j].1.toNat 0)
    ·rw [hu] at hh hmem
     have hc0:(hasL p.cls ((k:Int)+3)).contains is[j].1=false:=by rw [Bool.eq_false_iff];exact fun h=>absurd (hmem.1 h).2 (by decide)
     rw [hc0] at hinv
     simp only [Bool.false_and] at hinv
     rw [classesB_no3 hkl hinv]
     refine goW ?_
     (with_reducible refine TC.draw (id:=31) true 35 35 ?_<;>refine OD.st4 0 1 2 3 ?_<;>refine OD.st2 4 5 ?_<;>refine OD.st 6 ?_<;>refine OD.sD 108 ?_ ?_<;>(intro hc;try (exfalso;omega))<;>(first|(with_reducible refine OD.st 7 ?_)|(with_reducible refine OD.of 7 ?_))<;>refine OD.st4 8 9 10 11 ?_<;>refine OD.st4 12 13 14 15 ?_<;>refine OD.sD 117 ?_ ?_<;>(intro hc;try (exfalso;omega))<;>(first|(with_reducible refine OD.st 16 ?_)|(with_reducible refine OD.of 16 ?_))<;>refine OD.st4 17 18 19 20 ?_<;>refine OD.st2 21 22 ?_<;>refine OD.c1 23 hh Tryz.func185 ?_<;>refine OD.st2 24 25 ?_<;>refine OD.st 26 ?_<;>refine OD.of 27 ?_<;>refine OD.of 28 ?_<;>refine OD.of 29 ?_<;>refine OD.of 30 ?_<;>refine OD.of 31 ?_<;>refine OD.of 32 ?_<;>refine OD.of 33 ?_<;>refine OD.st 34 ?_<;>refine OD.dn ?_)
     all_goals refine goW ?_
     all_goals exact TX.rt1 [] (.ren rfl)
    rw [hu] at hh hmem
    rw [hmem.2 ⟨hr,rfl⟩,Bool.true_and] at hinv
    cases hbt:betweenV is[j].2
    ·rw [hbt] at hin
     have hb2:(decide (-1000000000≤is[j].2)&&decide (is[j].2≤1000000000))=false:=hbt
     rw [hb2] at hinv
     simp only [Bool.and_false,Bool.false_and] at hinv
     rw [classesB_no3 hkl hinv]
     refine goW ?_
     (with_reducible refine TC.draw (id:=31) true 35 35 ?_<;>refine OD.st4 0 1 2 3 ?_<;>refine OD.st2 4 5 ?_<;>refine OD.st 6 ?_<;>refine OD.sD 108 ?_ ?_<;>(intro hc;try (exfalso;omega))<;>(first|(with_reducible refine OD.st 7 ?_)|(with_reducible refine OD.of 7 ?_))<;>refine OD.st4 8 9 10 11 ?_<;>refine OD.st4 12 13 14 15 ?_<;>refine OD.sD 117 ?_ ?_<;>(intro hc;try (exfalso;omega))<;>(first|(with_reducible refine OD.st 16 ?_)|(with_reducible refine OD.of 16 ?_))<;>refine OD.st4 17 18 19 20 ?_<;>refine OD.st2 21 22 ?_<;>refine OD.c1 23 hh Tryz.func185 ?_<;>refine OD.st4 24 25 26 27 ?_<;>refine OD.st4 28 29 30 31 ?_<;>refine OD.c1 32 hin Tryz.func186 ?_<;>refine OD.st2 33 34 ?_<;>refine OD.dn ?_)
     all_goals refine goW ?_
     all_goals exact TX.rt1 [] (.ren rfl)
    rw [hbt] at hin
    have hb2:(decide (-1000000000≤is[j].2)&&decide (is[j].2≤1000000000))=true:=hbt
    rw [hb2,Bool.and_true] at hinv
    refine goW ?_
    (with_reducible refine TC.draw (id:=31) true 35 35 ?_<;>refine OD.st4 0 1 2 3 ?_<;>refine OD.st2 4 5 ?_<;>refine OD.st 6 ?_<;>refine OD.sD 108 ?_ ?_<;>(intro hc;try (exfalso;omega))<;>(first|(with_reducible refine OD.st 7 ?_)|(with_reducible refine OD.of 7 ?_))<;>refine OD.st4 8 9 10 11 ?_<;>refine OD.st4 12 13 14 15 ?_<;>refine OD.sD 117 ?_ ?_<;>(intro hc;try (exfalso;omega))<;>(first|(with_reducible refine OD.st 16 ?_)|(with_reducible refine OD.of 16 ?_))<;>refine OD.st4 17 18 19 20 ?_<;>refine OD.st2 21 22 ?_<;>refine OD.c1 23 hh Tryz.func185 ?_<;>refine OD.st4 24 25 26 27 ?_<;>refine OD.st4 28 29 30 31 ?_<;>refine OD.c1 32 hin Tryz.func186 ?_<;>refine OD.st2 33 34 ?_<;>refine OD.dn ?_)
    all_goals refine goW ?_
    all_goals refine TC.lp (fun q:Nat=>[(1,.ep (prgC p) 0),(3,V.int (slN p.cls)),(7,rows (graphOf p.cls)),(8,.ep (fwC (graphOf p.cls) (ownF 0 p.cls)) 0),(9,V.int k),(10,V.int ((k:Int)+3)),(13,initsA is),(14,V.int j),(15,V.int q)]) (fun _=>[]) (fun q=>q≤j∧∀ i,(h:i < q)→(hl:i < is.length)→is[i].1≠is[j].1) (fun q=>j-q) 0 [] ⟨Nat.zero_le _,fun i h=>by omega⟩ ?_
    rintro q ⟨hq,hne⟩
    by_cases hqj:q < j
    ·by_cases heq:is[q].1=is[j].1
     ·have hcn:((is.take j).map (·.1)).contains is[j].1=true:=by
       rw [List.contains_iff_mem,List.mem_map]
       exact ⟨is[q],by rw [List.mem_take_iff_getElem];exact ⟨q,by omega,rfl⟩,heq⟩
      rw [hcn] at hinv
      simp only [Bool.not_true,Bool.false_and] at hinv
      rw [classesB_no3 hkl hinv]
      refine goW ?_
      (with_reducible refine TC.draw (id:=36) true 11 11 ?_<;>refine OD.st4 0 1 2 3 ?_<;>refine OD.st4 4 5 6 7 ?_<;>refine OD.st2 8 9 ?_<;>refine OD.st 10 ?_<;>refine OD.dn ?_)
      all_goals refine goW ?_
      all_goals exact TX.rt1 [] (.ren rfl)
     ·refine goW ?_
      (with_reducible refine TC.draw (id:=36) true 11 11 ?_<;>refine OD.st4 0 1 2 3 ?_<;>refine OD.st4 4 5 6 7 ?_<;>refine OD.st2 8 9 ?_<;>refine OD.st 10 ?_<;>refine OD.dn ?_)
      all_goals refine goW ?_
      all_goals refine TX.rd (q+1) [] ⟨by omega,fun i h hl=>?_⟩ (by omega)
      all_goals (by_cases hiq:i=q)
      ·subst hiq;exact heq
      ·exact hne i (by omega) hl
    ·have hcn:((is.take j).map (·.1)).contains is[j].1=false:=by
      rw [Bool.eq_false_iff,ne_eq,List.contains_iff_mem,List.mem_map]
      rintro ⟨x,hx,hxe⟩
      rw [List.mem_take_iff_getElem] at hx
      obtain ⟨i,hi,rfl⟩:=hx
      exact hne i (by omega) (by omega) hxe
     rw [hcn] at hinv
     simp only [Bool.not_false,Bool.true_and] at hinv
     refine goW ?_
     exact TX.rd (j+1) [] ⟨by omega,hinv⟩ (by omega)
   ·rw [drop_nil (by omega),initsOk] at hinv
    refine goW ?_
    refine TX.rd (k+1) [] ⟨by omega,fun i hi=>?_⟩ (by omega)
    by_cases hik:i=k
    ·subst hik;exact hinv
    ·exact hall i (by omega)
  ·have e:classesB p=true:=by
    have h1:(List.range p.cls.length).all (clsInB p.cls)=true:=all_true fun i hi=>hall i (by omega)
    rw [classesB,hf,h1,hpre,decide_eq_true h10,decide_eq_true hsl];rfl
   rw [e]
   refine goW ?_
   exact TX.rt1 [] (.ren rfl)
end Go.Proofs
