/- Lemmas for the claim; no conditions. -/
import Derived.Test.YtdjhogobbbnddaaGreatC23
import Derived.Test.YtdjhogobbbnddaaGreatC18
import Derived.Test.YtdjhogobbbnddaaGreatC49
namespace Go.Proofs
open Go Go.W Go.V
theorem Yi8 (g:List (List Int)):V.Spec Tryz.prog 188 [YbU g] [] (V.int (if fine g then 0 else 2)) []:=by
 have h:=YeG g;refine Se Tryz.func188 rfl rfl rfl fun B hB=>?_;refine goW ?_;refine OL.c h Tryz.func207 ?_
 cases fine g
 ·refine goW ?_;exact Zad [] (.ren rfl)
 ·refine goW ?_;exact Zad [] (.ren rfl)
set_option maxHeartbeats 8000000 in
theorem Yem (p:Prg) (hs:Ya9 p.cls):Ybu Tryz.prog 162 [Ya0 p] [] (.tp []) [] (Yag p=true) upv []:=by
 have hgr:=YdN p hs;have hck:=Yi8 (graphOf p.cls);have hb:=hs.1;have hgl:(graphOf p.cls).length=p.cls.length:=by simp [graphOf]
 have hF:∀ {b:Bool},b=false→¬ b=true:=fun h=>by rw [h];decide
 refine Ybu.enter Tryz.tabOK Tryz.mixed Tryz.func162 rfl rfl rfl fun B hB=>?_;refine goW ?_;refine Zag 1 ?_;refine Zbv (fun h10=>?_) (fun h10=>?_);rotate_left
 ·repeat' (first|refine Zam ?_|refine Zak ?_)
  exact TX.no (hF (by simp [Yag];omega)) (Zas [])
 refine goW ?_;refine Zat (fun k:Nat=>[(1,.ep (YbB p) 0),(2,V.int (slN (p.cls.take k))),(22,Yei p.cls),(23,V.int p.cls.length),(24,V.int k)]) (fun _=>[]) (fun k=>k≤p.cls.length∧clsB 0 (p.cls.take k)=true) (fun k=>p.cls.length-k) 0 [] ⟨Nat.zero_le _,rfl⟩ ?_;rintro k ⟨hk,hpre⟩;have hsl4:=Ydu hpre;rw [List.length_take] at hsl4;by_cases hkl:k < p.cls.length
 ·have hsn:=Ydz p.cls hkl;refine goW ?_;refine Zbv (fun h4=>?_) (fun h4=>?_);rotate_left
  ·repeat' (first|refine Zam ?_|refine Zak ?_)
   exact TX.no (hF (Yc1 (Yjf hkl (fun h=>h4 (by omega))))) (Zas [])
  refine goW ?_;refine Zat (fun j:Nat=>[(1,.ep (YbB p) 0),(2,V.int ((slN (p.cls.take k):Int)+j)),(22,Yei p.cls),(23,V.int p.cls.length),(24,V.int k),(34,ints p.cls[k].2.1),(35,V.int p.cls[k].2.1.length),(36,V.int j)]) (fun _=>[]) (fun j=>j≤p.cls[k].2.1.length∧consB (slN (p.cls.take k)) (p.cls[k].2.1.take j)=true) (fun j=>p.cls[k].2.1.length-j) 0 [] ⟨Nat.zero_le _,rfl⟩ ?_ (hr:=⟨⟨_,rfl,LE.ren rfl⟩,⟨_,rfl,LE.int (by omega)⟩,⟨_,rfl,LE.ren rfl⟩,⟨_,rfl,LE.ren rfl⟩,⟨_,rfl,LE.ren rfl⟩,⟨_,rfl,LE.ren rfl⟩,⟨_,rfl,LE.ren rfl⟩,⟨_,rfl,LE.ren rfl⟩,trivial⟩);rintro j ⟨hj,hcj⟩;by_cases hjl:j < p.cls[k].2.1.length
  ·refine goW ?_;refine Zbv (fun he=>?_) (fun he=>?_);rotate_left
   ·repeat' (first|refine Zam ?_|refine Zak ?_)
    exact TX.no (hF (Yc1 (Yjf hkl (fun h=>by have:=Ym2 hjl he;rw [this] at h;exact absurd h.2 (by decide))))) (Zas [])
   refine goW ?_;refine Zan (j+1) [] ⟨by omega,?_⟩ (by omega) (hr:=⟨⟨_,rfl,LE.ren rfl⟩,⟨_,rfl,LE.int (by omega)⟩,⟨_,rfl,LE.ren rfl⟩,⟨_,rfl,LE.ren rfl⟩,⟨_,rfl,LE.ren rfl⟩,⟨_,rfl,LE.ren rfl⟩,⟨_,rfl,LE.ren rfl⟩,⟨_,rfl,LE.ren rfl⟩,trivial⟩);rw [Yab hjl,Yfx,hcj,consB,consB,List.length_take,Nat.min_eq_left (by omega),decide_eq_true he];rfl
  ·obtain rfl:j=p.cls[k].2.1.length:=by omega
   rw [Yaf (Nat.le_refl _)] at hcj;refine goW ?_;exact Zan (k+1) [] ⟨by omega,Yle hkl hpre (by omega) hcj⟩ (by omega) (hr:=⟨⟨_,rfl,LE.ren rfl⟩,⟨_,rfl,LE.int (by omega)⟩,⟨_,rfl,LE.ren rfl⟩,⟨_,rfl,LE.ren rfl⟩,⟨_,rfl,LE.ren rfl⟩,trivial⟩)
 rw [Yaf (by omega)] at hpre hsl4 ⊢;refine goW ?_;refine OL.c hgr Tryz.func187 ?_;by_cases hsl:(slN p.cls:Int)=p.slots;rotate_left
 ·refine goW ?_;refine Zbk ?_;repeat' (first|refine Zam ?_|refine Zak ?_)
  exact TX.no (hF (by simp [Yag,hsl])) (Zas [])
 refine goW ?_;refine OL.c hck Tryz.func188 ?_
 cases hf:fine (graphOf p.cls)
 ·simp only [Bool.false_eq_true,if_false];refine goW ?_;refine Zbk ?_;repeat' (first|refine Zam ?_|refine Zak ?_)
  exact TX.no (hF (YdP hf)) (Zas [])
 simp only [if_true];refine goW ?_;refine ZbY ?_;refine goW ?_;refine Zat (fun k:Nat=>[(1,.ep (YbB p) 0),(7,YbU (graphOf p.cls)),(61,Yei p.cls),(62,V.int p.cls.length),(63,V.int k)]) (fun _=>[]) (fun k=>k≤p.cls.length∧∀ i,i < k→Yb7 p.cls i=true) (fun k=>p.cls.length-k) 0 [] ⟨Nat.zero_le _,fun i h=>by omega⟩ ?_;rintro k ⟨hk,hall⟩;by_cases hkl:k < p.cls.length
 ·have hlk:=Yiw (graphOf p.cls) ((k:Int)+3);have e3:((3+k:Nat):Int)=(k:Int)+3:=by omega
  have hcl:Yb7 p.cls k=(decide (0 < (at_ (orders (graphOf p.cls)) ((k:Int)+3)).length)&&initsOk (YfE p.cls ((k:Int)+3)) [] p.cls[k].2.2):=by rw [Yb7,e3,clsAt,Yai hkl]
  have hokc:okc (graphOf p.cls) ((k:Int)+3)=true:=by simp [okc,hf];omega
  have hhs:=YfJ p hf hpre (c:=3+k) (by omega) (by omega);rw [e3] at hhs;have hct:=fun s=>Yav (YfE p.cls ((k:Int)+3)) s
  have hal:=(hs.2 p.cls[k] (List.getElem_mem _)).2.2;by_cases ho:0 < (at_ (orders (graphOf p.cls)) ((k:Int)+3)).length;rotate_left
  ·have hle:Yq5 (graphOf p.cls) ((k:Int)+3)=7:=by rw [Yq5,if_pos hokc,if_pos (by omega)]
   rw [hle] at hlk;refine goW ?_;refine OL.c hlk Tryz.func189 ?_;refine goW ?_;refine Zbk ?_;repeat' (first|refine Zam ?_|refine Zak ?_)
   exact TX.no (hF (Ya6 hkl (by rw [hcl,decide_eq_false ho];rfl))) (Zas [])
  have hle:Yq5 (graphOf p.cls) ((k:Int)+3)=0:=by rw [Yq5,if_pos hokc,if_neg (by omega)]
  rw [hle] at hlk;rw [decide_eq_true ho,Bool.true_and] at hcl;refine goW ?_;refine OL.c hlk Tryz.func189 ?_;refine goW ?_;refine ZbY ?_;refine goW ?_;refine OL.c hhs Tryz.func142 ?_;refine goW ?_;generalize YfE p.cls ((k:Int)+3)=mine at *
  generalize hie:p.cls[k].2.2=is at *
  refine Zat (fun j:Nat=>[(1,.ep (YbB p) 0),(7,YbU (graphOf p.cls)),(12,ints mine),(13,.mp 0),(61,Yei p.cls),(62,V.int p.cls.length),(63,V.int k),(84,Yde is),(85,V.int is.length),(86,V.int j)]) (fun j=>[.mo (esK ((is.take j).map (·.1)))]) (fun j=>j≤is.length∧Yb7 p.cls k=initsOk mine ((is.take j).map (·.1)) (is.drop j)) (fun j=>is.length-j) 0 [1] ⟨Nat.zero_le _,hcl⟩ ?_;rintro j ⟨hj,hinv⟩;by_cases hjl:j < is.length
  ·rw [Yac hjl,initsOk] at hinv;have e2:((is.take j).map (·.1))++[is[j].1]=(is.take (j+1)).map (·.1):=by rw [Yab hjl,List.map_append];rfl
   rw [e2] at hinv;have hct1:=hct is[j].1;have hbt:=Yek is[j].2;have hv:=YrF ((is.take j).map (·.1)) is[j].1;have hbv:YaE is[j].2=(decide (-1000000000≤is[j].2)&&decide (is[j].2≤1000000000)):=rfl;rw [← hbv] at hinv;have hins:((is.take j).map (·.1)).contains is[j].1=false→insK ((is.take j).map (·.1)) is[j].1=(is.take (j+1)).map (·.1):=fun h=>by rw [insK,h,← e2];rfl
   cases hm:mine.contains is[j].1
   ·rw [hm] at hct1 hinv;simp only [Bool.false_and] at hinv;refine goW ?_;refine OL.c hct1 Tryz.func172 ?_;refine goW ?_;refine Zbk ?_;repeat' (first|refine Zam ?_|refine Zak ?_)
    exact TX.no (hF (Ya6 hkl hinv)) (Zas [])
   rw [hm] at hct1 hinv;simp only [Bool.true_and] at hinv
   cases hsn:((is.take j).map (·.1)).contains is[j].1
   rotate_left
   ·rw [hsn] at hv hinv;simp only [Bool.not_true,Bool.false_and] at hinv;refine goW ?_;refine OL.c hct1 Tryz.func172 ?_;refine goW ?_;refine OL.lookup ?_ (hv _ rfl);refine goW ?_;refine Zbk ?_;repeat' (first|refine Zam ?_|refine Zak ?_)
    exact TX.no (hF (Ya6 hkl hinv)) (Zas [])
   have hins:=hins hsn;rw [hsn] at hv hinv;simp only [Bool.not_false,Bool.true_and] at hinv
   cases hbb:YaE is[j].2
   ·rw [hbb] at hbt hinv;simp only [Bool.false_and] at hinv;refine goW ?_;refine OL.c hct1 Tryz.func172 ?_;refine goW ?_;refine OL.lookup ?_ (hv _ rfl);refine goW ?_;refine OL.c hbt Tryz.func190 ?_;refine goW ?_;refine Zbk ?_;repeat' (first|refine Zam ?_|refine Zak ?_)
    exact TX.no (hF (Ya6 hkl hinv)) (Zas [])
   rw [hbb] at hbt hinv;simp only [Bool.true_and] at hinv;refine goW ?_;refine OL.c hct1 Tryz.func172 ?_;refine goW ?_;refine OL.lookup ?_ (hv _ rfl);refine goW ?_;refine OL.c hbt Tryz.func190 ?_;refine goW ?_;refine ZbY ?_;refine goW ?_;refine Zct ?_;rw [YjW,hins];refine goW ?_;exact Zan (j+1) [0] ⟨by omega,hinv⟩ (by omega)
  ·rw [Yat (by omega),initsOk] at hinv;refine goW ?_;refine Zan (k+1) [] ⟨by omega,fun i hi=>?_⟩ (by omega);by_cases hik:i=k
   ·subst hik;exact hinv
   ·exact hall i (by omega)
 ·have e:Yag p=true:=by
   have h1:(List.range p.cls.length).all (Yb7 p.cls)=true:=Yji fun i hi=>hall i (by omega)
   rw [Yag,hf,h1,hpre,decide_eq_true (by omega),decide_eq_true hsl];rfl
  refine goW ?_;exact TX.yes e (Za1 [])
end Go.Proofs
