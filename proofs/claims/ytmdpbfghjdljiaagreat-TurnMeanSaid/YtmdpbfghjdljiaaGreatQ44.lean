/- Part 44 of what the claim is proved by: lemmas on the model and walks through functions of the program; no conditions. -/
import Derived.Test.YtmdpbfghjdljiaaGreatQ16
import Derived.Test.YtmdpbfghjdljiaaGreatQ43
import Derived.Test.YtmdpbfghjdljiaaGreatQ21
import Derived.Test.YtmdpbfghjdljiaaGreatQ20
import Derived.Test.YtmdpbfghjdljiaaGreatQ37
namespace Go.Proofs
open Go Go.W Go.V
theorem Ct139 (g:List (List Int)):V.Spec Tryz.prog 119 [rows g] [] (V.int (if fine g then 0 else 2)) []:=by
 have h:=Ct159 g
 refine V.Spec.enter Tryz.tabOK Tryz.mixed Tryz.func119 rfl rfl rfl fun B hB=>?_
 refine goW ?_
 refine OL.c h Tryz.func160 ?_
 cases fine g
 ·refine goW ?_
  exact TX.rt1 [] (.ren rfl)
 ·refine goW ?_
  exact TX.rt1 [] (.ren rfl)
set_option maxHeartbeats 8000000 in
theorem Ct26 (p:Prg) (hs:Short p.cls):SpecY Tryz.prog 174 [prgA p] [] (.tp []) [] (classesB p=true) upv []:=by
 have hgr:=Ct28 p hs
 have hck:=Ct139 (graphOf p.cls)
 have hb:=hs.1
 have hgl:(graphOf p.cls).length=p.cls.length:=by simp [graphOf]
 have hF:∀ {b:Bool},b=false→¬ b=true:=fun h=>by rw [h];decide
 refine SpecY.enter Tryz.tabOK Tryz.mixed Tryz.func174 rfl rfl rfl fun B hB=>?_
 refine goW ?_
 refine OL.frzB 1 ?_
 refine OL.needD (fun h10=>?_) (fun h10=>?_)
 rotate_left
 ·repeat' (first|refine TX.thenP ?_|refine TX.blkP ?_)
  exact TX.no (hF (by simp [classesB];omega)) (TX.rtP [])
 refine goW ?_
 refine TC.lp (fun k:Nat=>[(1,.ep (prgC p) 0),(2,V.int (slN (p.cls.take k))),(22,clssA p.cls),(23,V.int p.cls.length),(24,V.int k)]) (fun _=>[]) (fun k=>k≤p.cls.length∧clsB 0 (p.cls.take k)=true) (fun k=>p.cls.length-k) 0 [] ⟨Nat.zero_le _,rfl⟩ ?_
 rintro k ⟨hk,hpre⟩
 have hsl4:=clsB_len hpre
 rw [List.length_take] at hsl4
 by_cases hkl:k < p.cls.length
 ·have hsn:=slN_succ p.cls hkl
  refine goW ?_
  refine OL.needD (fun h4=>?_) (fun h4=>?_)
  rotate_left
  ·repeat' (first|refine TX.thenP ?_|refine TX.blkP ?_)
   exact TX.no (hF (classesB_no1 (clsB_no hkl (fun h=>h4 (by omega))))) (TX.rtP [])
  refine goW ?_
  refine TC.lp (fun j:Nat=>[(1,.ep (prgC p) 0),(2,V.int ((slN (p.cls.take k):Int)+j)),(22,clssA p.cls),(23,V.int p.cls.length),(24,V.int k),(34,ints p.cls[k].2.1),(35,V.int p.cls[k].2.1.length),(36,V.int j)]) (fun _=>[]) (fun j=>j≤p.cls[k].2.1.length∧consB (slN (p.cls.take k)) (p.cls[k].2.1.take j)=true) (fun j=>p.cls[k].2.1.length-j) 0 [] ⟨Nat.zero_le _,rfl⟩ ?_ (hr:=⟨⟨_,rfl,LE.ren rfl⟩,⟨_,rfl,LE.int (by omega)⟩,⟨_,rfl,LE.ren rfl⟩,⟨_,rfl,LE.ren rfl⟩,⟨_,rfl,LE.ren rfl⟩,⟨_,rfl,LE.ren rfl⟩,⟨_,rfl,LE.ren rfl⟩,⟨_,rfl,LE.ren rfl⟩,trivial⟩)
  rintro j ⟨hj,hcj⟩
  by_cases hjl:j < p.cls[k].2.1.length
  ·refine goW ?_
   refine OL.needD (fun he=>?_) (fun he=>?_)
   rotate_left
   ·repeat' (first|refine TX.thenP ?_|refine TX.blkP ?_)
    exact TX.no (hF (classesB_no1 (clsB_no hkl (fun h=>by have:=consB_no hjl he;rw [this] at h;exact absurd h.2 (by decide))))) (TX.rtP [])
   refine goW ?_
   refine TX.rd (j+1) [] ⟨by omega,?_⟩ (by omega) (hr:=⟨⟨_,rfl,LE.ren rfl⟩,⟨_,rfl,LE.int (by omega)⟩,⟨_,rfl,LE.ren rfl⟩,⟨_,rfl,LE.ren rfl⟩,⟨_,rfl,LE.ren rfl⟩,⟨_,rfl,LE.ren rfl⟩,⟨_,rfl,LE.ren rfl⟩,⟨_,rfl,LE.ren rfl⟩,trivial⟩)
   rw [take_succ hjl,consB_app,hcj,consB,consB,List.length_take,Nat.min_eq_left (by omega),decide_eq_true he];rfl
  ·obtain rfl:j=p.cls[k].2.1.length:=by omega
   rw [take_all (Nat.le_refl _)] at hcj
   refine goW ?_
   exact TX.rd (k+1) [] ⟨by omega,clsB_snoc hkl hpre (by omega) hcj⟩ (by omega) (hr:=⟨⟨_,rfl,LE.ren rfl⟩,⟨_,rfl,LE.int (by omega)⟩,⟨_,rfl,LE.ren rfl⟩,⟨_,rfl,LE.ren rfl⟩,⟨_,rfl,LE.ren rfl⟩,trivial⟩)
 rw [take_all (by omega)] at hpre hsl4 ⊢
 refine goW ?_
 refine OL.c hgr Tryz.func194 ?_
 by_cases hsl:(slN p.cls:Int)=p.slots
 rotate_left
 ·refine goW ?_
  refine OL.needF ?_
  repeat' (first|refine TX.thenP ?_|refine TX.blkP ?_)
  exact TX.no (hF (by simp [classesB,hsl])) (TX.rtP [])
 refine goW ?_
 refine OL.c hck Tryz.func119 ?_
 cases hf:fine (graphOf p.cls)
 ·simp only [Bool.false_eq_true,if_false]
  refine goW ?_
  refine OL.needF ?_
  repeat' (first|refine TX.thenP ?_|refine TX.blkP ?_)
  exact TX.no (hF (classesB_no2 hf)) (TX.rtP [])
 simp only [if_true]
 refine goW ?_
 refine OL.needT ?_
 refine goW ?_
 refine TC.lp (fun k:Nat=>[(1,.ep (prgC p) 0),(7,rows (graphOf p.cls)),(61,clssA p.cls),(62,V.int p.cls.length),(63,V.int k)]) (fun _=>[]) (fun k=>k≤p.cls.length∧∀ i,i < k→clsInB p.cls i=true) (fun k=>p.cls.length-k) 0 [] ⟨Nat.zero_le _,fun i h=>by omega⟩ ?_
 rintro k ⟨hk,hall⟩
 by_cases hkl:k < p.cls.length
 ·have hlk:=Ct150 (graphOf p.cls) ((k:Int)+3)
  have e3:((3+k:Nat):Int)=(k:Int)+3:=by omega
  have hcl:clsInB p.cls k=(decide (0 < (at_ (orders (graphOf p.cls)) ((k:Int)+3)).length)&&initsOk (hasL p.cls ((k:Int)+3)) [] p.cls[k].2.2):=by rw [clsInB,e3,clsAt,getD_lt hkl]
  have hokc:okc (graphOf p.cls) ((k:Int)+3)=true:=by simp [okc,hf];omega
  have hhs:=Ct30 p hf hpre (c:=3+k) (by omega) (by omega)
  rw [e3] at hhs
  have hct:=fun s=>Ct318 (hasL p.cls ((k:Int)+3)) s
  have hal:=(hs.2 p.cls[k] (List.getElem_mem _)).2.2
  by_cases ho:0 < (at_ (orders (graphOf p.cls)) ((k:Int)+3)).length
  rotate_left
  ·have hle:linE (graphOf p.cls) ((k:Int)+3)=7:=by rw [linE,if_pos hokc,if_pos (by omega)]
   rw [hle] at hlk
   refine goW ?_
   refine OL.c hlk Tryz.func120 ?_
   refine goW ?_
   refine OL.needF ?_
   repeat' (first|refine TX.thenP ?_|refine TX.blkP ?_)
   exact TX.no (hF (classesB_no3 hkl (by rw [hcl,decide_eq_false ho];rfl))) (TX.rtP [])
  have hle:linE (graphOf p.cls) ((k:Int)+3)=0:=by rw [linE,if_pos hokc,if_neg (by omega)]
  rw [hle] at hlk
  rw [decide_eq_true ho,Bool.true_and] at hcl
  refine goW ?_
  refine OL.c hlk Tryz.func120 ?_
  refine goW ?_
  refine OL.needT ?_
  refine goW ?_
  refine OL.c hhs Tryz.func136 ?_
  refine goW ?_
  generalize hasL p.cls ((k:Int)+3)=mine at *
  generalize hie:p.cls[k].2.2=is at *
  refine TC.lp (fun j:Nat=>[(1,.ep (prgC p) 0),(7,rows (graphOf p.cls)),(12,ints mine),(13,.mp 0),(61,clssA p.cls),(62,V.int p.cls.length),(63,V.int k),(84,initsA is),(85,V.int is.length),(86,V.int j)]) (fun j=>[.mo (esK ((is.take j).map (·.1)))]) (fun j=>j≤is.length∧clsInB p.cls k=initsOk mine ((is.take j).map (·.1)) (is.drop j)) (fun j=>is.length-j) 0 [1] ⟨Nat.zero_le _,hcl⟩ ?_
  rintro j ⟨hj,hinv⟩
  by_cases hjl:j < is.length
  ·rw [drop_cons hjl,initsOk] at hinv
   have e2:((is.take j).map (·.1))++[is[j].1]=(is.take (j+1)).map (·.1):=by rw [take_succ hjl,List.map_append];rfl
   rw [e2] at hinv
   have hct1:=hct is[j].1
   have hbt:=Ct25 is[j].2
   have hv:=hv_esK ((is.take j).map (·.1)) is[j].1
   have hbv:betweenV is[j].2=(decide (-1000000000≤is[j].2)&&decide (is[j].2≤1000000000)):=rfl
   rw [← hbv] at hinv
   have hins:((is.take j).map (·.1)).contains is[j].1=false→insK ((is.take j).map (·.1)) is[j].1=(is.take (j+1)).map (·.1):=fun h=>by rw [insK,h,← e2];rfl
   cases hm:mine.contains is[j].1
   ·rw [hm] at hct1 hinv
    simp only [Bool.false_and] at hinv
    refine goW ?_
    refine OL.c hct1 Tryz.func30 ?_
    refine goW ?_
    refine OL.needF ?_
    repeat' (first|refine TX.thenP ?_|refine TX.blkP ?_)
    exact TX.no (hF (classesB_no3 hkl hinv)) (TX.rtP [])
   rw [hm] at hct1 hinv
   simp only [Bool.true_and] at hinv
   cases hsn:((is.take j).map (·.1)).contains is[j].1
   rotate_left
   ·rw [hsn] at hv hinv
    simp only [Bool.not_true,Bool.false_and] at hinv
    refine goW ?_
    refine OL.c hct1 Tryz.func30 ?_
    refine goW ?_
    refine OL.lookup ?_ (hv _ rfl)
    refine goW ?_
    refine OL.needF ?_
    repeat' (first|refine TX.thenP ?_|refine TX.blkP ?_)
    exact TX.no (hF (classesB_no3 hkl hinv)) (TX.rtP [])
   have hins:=hins hsn
   rw [hsn] at hv hinv
   simp only [Bool.not_false,Bool.true_and] at hinv
   cases hbb:betweenV is[j].2
   ·rw [hbb] at hbt hinv
    simp only [Bool.false_and] at hinv
    refine goW ?_
    refine OL.c hct1 Tryz.func30 ?_
    refine goW ?_
    refine OL.lookup ?_ (hv _ rfl)
    refine goW ?_
    refine OL.c hbt Tryz.func225 ?_
    refine goW ?_
    refine OL.needF ?_
    repeat' (first|refine TX.thenP ?_|refine TX.blkP ?_)
    exact TX.no (hF (classesB_no3 hkl hinv)) (TX.rtP [])
   rw [hbb] at hbt hinv
   simp only [Bool.true_and] at hinv
   refine goW ?_
   refine OL.c hct1 Tryz.func30 ?_
   refine goW ?_
   refine OL.lookup ?_ (hv _ rfl)
   refine goW ?_
   refine OL.c hbt Tryz.func225 ?_
   refine goW ?_
   refine OL.needT ?_
   refine goW ?_
   refine OL.mapUpd ?_
   rw [aput_esK,hins]
   refine goW ?_
   exact TX.rd (j+1) [0] ⟨by omega,hinv⟩ (by omega)
  ·rw [drop_nil (by omega),initsOk] at hinv
   refine goW ?_
   refine TX.rd (k+1) [] ⟨by omega,fun i hi=>?_⟩ (by omega)
   by_cases hik:i=k
   ·subst hik;exact hinv
   ·exact hall i (by omega)
 ·have e:classesB p=true:=by
   have h1:(List.range p.cls.length).all (clsInB p.cls)=true:=all_true fun i hi=>hall i (by omega)
   rw [classesB,hf,h1,hpre,decide_eq_true (by omega),decide_eq_true hsl];rfl
  refine goW ?_
  exact TX.yes e (TX.rt0 [])
end Go.Proofs
namespace Go.V
open Go Go.W
section
variable {P:Program} {tab:Tab} {N:Nat} {D:List Deferred} {ρ:Ro} {η:Eta} {x y:Operand} {X Y:Nat} {M:Bool} {p q:Int}
theorem give_addU (hx:ev2 ρ x=some (.raw (.int .u64 p))) (hy:ev2 ρ y=some (.raw (.int .u64 q))) (h0:0≤p+q) (h1:p+q≤18446744073709551615) :
  Gives P N D (.binOp .add X x y Y) ρ η (.raw (.int .u64 (p+q))) M:=fun _ _ _ _ _ hE hR hH =>
 ⟨_,.raw rfl,fun _ _ _ _ _ _=>by simp [execOp,hE.ev (hR.raw hx),hE.ev (hR.raw hy),binOp,eqGuard,Op.intArith,u64_wrap h0 h1]⟩
theorem give_mulU (hx:ev2 ρ x=some (.raw (.int .u64 p))) (hy:ev2 ρ y=some (.raw (.int .u64 q))) (h0:0≤p*q) (h1:p*q≤18446744073709551615) :
  Gives P N D (.binOp .mul X x y Y) ρ η (.raw (.int .u64 (p*q))) M:=fun _ _ _ _ _ hE hR hH =>
 ⟨_,.raw rfl,fun _ _ _ _ _ _=>by simp [execOp,hE.ev (hR.raw hx),hE.ev (hR.raw hy),binOp,eqGuard,Op.intArith,u64_wrap h0 h1]⟩
theorem give_shrU {p:Nat} {c:Int} (hx:ev2 ρ x=some (.raw (.int .u64 (p:Int)))) (hy:ev2 ρ y=some (.raw (.int .u64 c))) (h0:0≤c) (h1:c < 64):Gives P N D (.binOp .shr X x y Y) ρ η (.raw (.int .u64 ((p >>> c.toNat:Nat):Int))) M:=fun _ _ _ _ _ hE hR hH =>
 ⟨_,.raw rfl,fun _ _ _ _ _ _=>by
  have hm:min c.toNat 64=c.toNat:=by omega
  have hc:¬ c < 0:=by omega
  have e:(p:Int).fdiv (2 ^ c.toNat)=((p >>> c.toNat:Nat):Int):=by
   rw [Nat.shiftRight_eq_div_pow,Int.fdiv_eq_ediv_of_nonneg _ (by exact Int.le_of_lt (Int.pow_pos (by omega)))]
   simp
  simp only [execOp,hE.ev (hR.raw hx),hE.ev (hR.raw hy),binOp,eqGuard,Op.shift]
  simp only [hc,if_false,IntKind.bits,hm,e]
  simp⟩
theorem give_convU {i:Int} (hT:TabOK P tab) (h1:(tab X).map (·.sh)=some (.int .i64)) (h2:(tab Y).map (·.sh)=some (.int .u64)) (hx:ev2 ρ x=some (.raw (.int .i64 i))) (h0:0≤i) (h3:i≤9223372036854775807):Gives P N D (.convert X Y x) ρ η (.raw (.int .u64 i)) M:=fun _ _ _ _ _ hE hR hH=>by
 obtain ⟨d1,u1,e1⟩:=shOf hT h1
 obtain ⟨d2,u2,e2⟩:=shOf hT h2
 obtain rfl:d1=_:=e1
 obtain rfl:d2=_:=e2
 exact ⟨_,.raw rfl,fun _ _ _ _ _ _=>by simp [execOp,convert,hE.ev (hR.raw hx),run_underlying u1,run_underlying u2,Conv.intToInt,u64_wrap h0 (by omega)]⟩
theorem give_convI {i:Int} (hT:TabOK P tab) (h1:(tab X).map (·.sh)=some (.int .u64)) (h2:(tab Y).map (·.sh)=some (.int .i64)) (hx:ev2 ρ x=some (.raw (.int .u64 i))) (h0:0≤i) (h3:i≤9223372036854775807):Gives P N D (.convert X Y x) ρ η (.raw (.int .i64 i)) M:=fun _ _ _ _ _ hE hR hH=>by
 obtain ⟨d1,u1,e1⟩:=shOf hT h1
 obtain ⟨d2,u2,e2⟩:=shOf hT h2
 obtain rfl:d1=_:=e1
 obtain rfl:d2=_:=e2
 exact ⟨_,.raw rfl,fun _ _ _ _ _ _=>by simp [execOp,convert,hE.ev (hR.raw hx),run_underlying u1,run_underlying u2,Conv.intToInt,i64_wrap (show -9223372036854775808≤i by omega) h3]⟩
end
end Go.V
