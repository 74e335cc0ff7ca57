/- Part 25 of what the claim is proved by: lemmas on the model and walks through functions of the program; no conditions. -/
import Derived.Test.YtmdpbfghjdljiaaGreatQ13
import Derived.Test.YtmdpbfghjdljiaaGreatQ16
import Derived.Test.YtmdpbfghjdljiaaGreatQ24
import Derived.Test.YtmdpbfghjdljiaaGreatQ17
import Derived.Test.YtmdpbfghjdljiaaGreatQ14
namespace Go.Proofs
open Go Go.W Go.V
abbrev Wld:=Bool × List (List Cls) × List Thing
abbrev schsA (l:List (List Cls)):AV:=.sl 1 none (l.map clssA)
abbrev wldA (w:Wld):AV:=.st [V.bool w.1,schsA w.2.1,thingsA w.2.2]
set_option maxHeartbeats 1000000 in
theorem sameBut (la lb:Bool) (sa sb:List (List Cls)) (ta tb:List Thing):V.Spec Tryz.prog 53 [.st [V.bool la,schsA sa,thingsA ta],.st [V.bool lb,schsA sb,thingsA tb]] [] (V.bool (sa==sb&&ta==tb)) []:=by
 refine V.Spec.enter Tryz.tabOK Tryz.mixed Tryz.func53 rfl rfl rfl fun B hB=>?_
 by_cases hl:sa.length=sb.length
 ·by_cases ht:ta.length=tb.length
  ·repeat' (with_reducible first|refine OL.st ?_|refine OL.box ?_|refine TC.region ?_|refine TC.seq ?_|refine OL.nil ?_|refine TX.thenN ?_|refine TC.block ?_|refine TC.skip ?_|refine OL.gOn ?_|refine TC.ifD ?_ ?_<;>(intro hc;try (exfalso;omega))|refine OL.gD ?_ ?_<;>(intro hc;try (exfalso;omega))|fail)
   refine TC.bl 24 fun hsl=>?_
   refine TC.lp (fun k:Nat=>[(2,.bp 0 0),(3,.bp 1 0),(25,V.int sa.length),(26,V.int k)]) (fun _=>[.cb Tc.api_TurnWorld [V.bool la,schsA sa,thingsA ta],.cb Tc.api_TurnWorld [V.bool lb,schsA sb,thingsA tb]]) (fun k=>k≤sa.length∧sa.take k=sb.take k) (fun k=>sa.length-k) 0 [0,1] ⟨Nat.zero_le _,by simp⟩ ?_
   rintro k ⟨hk,hpre⟩
   by_cases hkl:k < sa.length
   ·have hs:=Ct292 sa[k] (sb[k]'(by omega))
    refine go ?_
    (with_reducible refine TC.draw (id:=6) true 12 12 ?_<;>refine OD.st4 0 1 2 3 ?_<;>refine OD.st4 4 5 6 7 ?_<;>refine OD.st2 8 9 ?_<;>refine OD.c1 10 hs Tryz.func57 ?_<;>refine OD.st 11 ?_<;>refine OD.dn ?_)
    refine go ?_
    cases he:sa[k]==(sb[k]'(by omega))
    ·refine go ?_
     refine TX.rt1 [] (.bool ?_)
     have:sa≠sb:=fun e=>by subst e;simp at he
     simp [this]
    ·refine go ?_
     refine TX.rd (k+1) [0,1] ⟨by omega,?_⟩ (by omega)
     rw [take_succ (by omega),take_succ (by omega),hpre,eq_of_beq he]
   ·have e:sa=sb:=by
     rw [← take_all (l:=sa) (k:=k) (by omega),← take_all (l:=sb) (k:=k) (by omega)]
     exact hpre
    subst e
    clear hpre hl
    refine go ?_
    refine TC.bl 43 fun htl=>?_
    refine TC.lp (fun k:Nat=>[(2,.bp 0 0),(3,.bp 1 0),(44,V.int ta.length),(45,V.int k)]) (fun _=>[.cb Tc.api_TurnWorld [V.bool la,schsA sa,thingsA ta],.cb Tc.api_TurnWorld [V.bool lb,schsA sa,thingsA tb]]) (fun k=>k≤ta.length∧ta.take k=tb.take k) (fun k=>ta.length-k) 0 [0,1] ⟨Nat.zero_le _,by simp⟩ ?_
    rintro j ⟨hj,hpre⟩
    by_cases hjl:j < ta.length
    ·have hs:=Ct295 ta[j] (tb[j]'(by omega))
     refine go ?_
     (with_reducible refine TC.draw (id:=12) true 12 12 ?_<;>refine OD.st4 0 1 2 3 ?_<;>refine OD.st4 4 5 6 7 ?_<;>refine OD.st2 8 9 ?_<;>refine OD.c1 10 hs Tryz.func45 ?_<;>refine OD.st 11 ?_<;>refine OD.dn ?_)
     refine go ?_
     cases he:ta[j]==(tb[j]'(by omega))
     ·refine go ?_
      refine TX.rt1 [] (.bool ?_)
      have:ta≠tb:=fun e=>by subst e;simp at he
      simp [this]
     ·refine go ?_
      refine TX.rd (j+1) [0,1] ⟨by omega,?_⟩ (by omega)
      rw [take_succ (by omega),take_succ (by omega),hpre,eq_of_beq he]
    ·have e:ta=tb:=by
      rw [← take_all (l:=ta) (k:=j) (by omega),← take_all (l:=tb) (k:=j) (by omega)]
      exact hpre
     refine go ?_
     refine TX.rt1 [] (.bool ?_)
     simp [e]
  ·repeat' (with_reducible first|refine OL.st ?_|refine OL.box ?_|refine TC.region ?_|refine TC.seq ?_|refine OL.nil ?_|refine TX.thenN ?_|refine OL.gOn ?_|refine TC.ifD ?_ ?_<;>(intro hc;try (exfalso;omega))|refine OL.gD ?_ ?_<;>(intro hc;try (exfalso;omega))|refine TC.ret ?_|refine TX.thenR ?_|fail)
   refine TX.rt1 [] (.bool ?_)
   have:ta≠tb:=fun e=>by subst e;exact ht rfl
   simp [this]
 ·repeat' (with_reducible first|refine OL.st ?_|refine OL.box ?_|refine TC.region ?_|refine TC.seq ?_|refine OL.nil ?_|refine TX.thenN ?_|refine TC.ifT ?_|refine OL.gOff ?_|refine OL.gD ?_ ?_<;>(intro hc;try (exfalso;omega))|refine TC.ret ?_|refine TX.thenR ?_|fail)
  refine TX.rt1 [] (.bool ?_)
  have:sa≠sb:=fun e=>by subst e;exact hl rfl
  simp [this]
theorem same (la lb:Bool) (sa sb:List (List Cls)) (ta tb:List Thing):V.Spec Tryz.prog 18 [.st [V.bool la,schsA sa,thingsA ta],.st [V.bool lb,schsA sb,thingsA tb]] [] (V.bool (la==lb&&(sa==sb&&ta==tb))) []:=by
 have h:=sameBut la lb sa sb ta tb
 refine V.Spec.enter Tryz.tabOK Tryz.mixed Tryz.func18 rfl rfl rfl fun B hB=>?_
 repeat' (with_reducible first|refine OL.st ?_|refine OL.box ?_|refine TC.region ?_|refine TC.seq ?_|refine OL.nil ?_|refine TX.thenN ?_|fail)
 refine OL.eqBl Tryz.underlying4 ?_
 cases la==lb
 ·refine go ?_
  exact TX.rt1 [] (.ren rfl)
 ·refine go ?_
  refine OL.c h Tryz.func53 ?_
  refine go ?_
  refine TX.rt1 [] (.bool ?_)
  simp
end Go.Proofs
namespace Go.Proofs
open Go Go.W Go.V
theorem Ct158 (c:Int):V.Spec Tryz.prog 264 [V.int c] [] (V.bool (c != 0)) []:=by
 refine V.Spec.enter Tryz.tabOK Tryz.mixed Tryz.func264 rfl rfl rfl fun B hB=>?_
 repeat' (with_reducible first|refine OL.st ?_|refine TC.region ?_|refine TC.seq ?_|refine OL.nil ?_|refine TX.thenN ?_|refine TC.ret ?_|fail)
 refine TX.rt1 [] (.bool ?_)
 by_cases h:c=0<;>simp [h]
theorem Ct157 (l:List Int) (hb:l.length≤1000000000):V.Spec Tryz.prog 254 [ints l] [] (.hs 0) [.gs false Tc.int 1 none ((bare l).map V.int)]:=by
 refine V.Spec.enter Tryz.tabOK Tryz.mixed Tryz.func254 rfl rfl rfl fun B hB=>?_
 repeat' (with_reducible first|refine OL.st ?_|refine TC.region ?_|refine TC.seq ?_|refine OL.nil ?_|refine TX.thenN ?_|fail)
 refine OL.c (Ct167 l (fun c=>c != 0) hb) Tryz.func255 ?_ (hle:=by exact ⟨.ren rfl,.fun0 Tryz.func264 (fun c _=>Ct158 c),trivial⟩)
 repeat' (with_reducible first|refine OL.st ?_|refine OL.nil ?_|refine TX.thenN ?_|refine TC.ret ?_|fail)
 exact TX.rt1 [0] (.ren rfl)
abbrev setA (x:Nat):AV:=.st [V.u64 x]
def setWith (x:Nat) (c:Nat):Nat:=x ||| 1 <<< c
theorem Ct176 (x:Nat) (hx:x < 2 ^ 64) (c:Int) (h0:0≤c) (h1:c < 64):V.Spec Tryz.prog 208 [setA x,V.int c] [] (setA (setWith x c.toNat)) []:=by
 refine V.Spec.enter Tryz.tabOK Tryz.mixed Tryz.func208 rfl rfl rfl fun B hB=>?_
 repeat' (with_reducible first|refine OL.box ?_|refine OL.alloc ?_|refine TC.region ?_|refine TC.seq ?_|refine OL.nil ?_|refine TX.thenN ?_|fail)
 (with_reducible refine TC.draw (id:=1) true 6 7 ?_<;>refine OD.st4 0 1 2 3 ?_<;>refine OD.st2 4 5 ?_<;>(refine OD.a1 6 ?_;refine OL.store ?_;refine OL.nil ?_;refine TX.od ?_)<;>refine OD.dn ?_)
 repeat' (with_reducible first|refine OL.st ?_|refine OL.storeAgg ?_|refine TC.region ?_|refine TC.seq ?_|refine OL.nil ?_|refine TX.thenN ?_|refine TC.ret ?_|fail)
 exact TX.rtc [] (.ren rfl)
theorem Ct175 (x y:Nat) (hx:x < 2 ^ 64) (hy:y < 2 ^ 64):V.Spec Tryz.prog 209 [setA x,setA y] [] (setA (x ||| y)) []:=by
 refine V.Spec.enter Tryz.tabOK Tryz.mixed Tryz.func209 rfl rfl rfl fun B hB=>?_
 repeat' (with_reducible first|refine OL.st ?_|refine OL.box ?_|refine OL.alloc ?_|refine OL.store ?_|refine OL.storeAgg ?_|refine TC.region ?_|refine TC.seq ?_|refine OL.nil ?_|refine TX.thenN ?_|refine TC.ret ?_|fail)
 exact TX.rtc [] (.ren rfl)
theorem setWith_lt {x c:Nat} (hx:x < 2 ^ 64) (hc:c < 64):setWith x c < 2 ^ 64:=Nat.or_lt_two_pow hx (by rw [Nat.one_shiftLeft];exact Nat.pow_lt_pow_right (by omega) hc)
end Go.Proofs
namespace Go.Proofs
open Go Go.W Go.V
set_option maxHeartbeats 1000000 in
theorem Ct159 (g:List (List Int)):V.Spec Tryz.prog 160 [rows g] [] (V.bool (fine g)) []:=by
 refine V.Spec.enter Tryz.tabOK Tryz.mixed Tryz.func160 rfl rfl rfl fun B hB=>?_
 refine TC.bl 0 fun hlen=>?_
 repeat' (with_reducible first|refine OL.st ?_|refine TC.region ?_|refine TC.seq ?_|refine OL.nil ?_|refine TX.thenN ?_|refine TC.block ?_|refine TC.skip ?_|refine TC.ifD ?_ ?_<;>(intro hc;try (exfalso;omega))|refine TC.ret ?_|refine TX.thenR ?_|fail)
 ·refine TX.rt1 [] (.bool ?_)
  have:decide (g.length≤16)=false:=by simp;omega
  simp [fine,this]
 have hfine:fine g=okRows 0 g:=by
  have:decide (g.length≤16)=true:=by simp;omega
  simp [fine,this]
 have h16:g.length≤16:=by omega
 refine TC.lp (fun i:Nat=>[(10,rows g),(11,V.int g.length),(12,V.int i)]) (fun _=>[]) (fun i=>i≤g.length∧okRows 0 g=okRows i (g.drop i)) (fun i=>g.length-i) 0 [] ⟨Nat.zero_le _,rfl⟩ ?_
 rintro i ⟨hi,hinv⟩
 repeat' (with_reducible first|refine OL.st ?_|refine TC.region ?_|refine TC.seq ?_|refine OL.nil ?_|refine TX.thenN ?_|refine TC.block ?_|refine TC.skip ?_|refine TC.exit ?_|refine TX.hit ?_|refine TX.thenX ?_|refine TC.ifD ?_ ?_<;>(intro hc;try (exfalso;omega))|refine TC.ret ?_|refine TX.thenR ?_|refine TX.blkR ?_|fail)
 ·refine TX.rt1 [] (.bool ?_)
  rw [hfine,hinv,drop_cons (by omega)]
  have:decide (g[i].length≤3)=false:=by simp;omega
  simp [okRows,this]
 ·have hr3:g[i].length≤3:=by omega
  have hst:okRows i (g.drop i)=(okRow i [] g[i]&&okRows (i+1) (g.drop (i+1))):=by
   rw [drop_cons (by omega)]
   have:decide (g[i].length≤3)=true:=by simp;omega
   simp [okRows,this]
  generalize g[i]=r at *
  refine TC.lp (fun k:Nat=>[(3,V.int i),(4,ints r),(20,ints r),(21,V.int r.length),(22,V.int k),(10,rows g),(11,V.int g.length),(12,V.int i)]) (fun _=>[]) (fun k=>k≤r.length∧okRow i [] r=okRow i (r.take k) (r.drop k)) (fun k=>r.length-k) 0 [] ⟨Nat.zero_le _,rfl⟩ ?_
  rintro k ⟨hk,hki⟩
  have hfail:okRow i (r.take k) (r.drop k)=false→fine g=false:=fun hb=>by rw [hfine,hinv,hst,hki.trans hb];rfl
  repeat' (with_reducible first|refine OL.st ?_|refine TC.region ?_|refine TC.seq ?_|refine OL.nil ?_|refine TX.thenN ?_|refine TC.block ?_|refine TC.skip ?_|refine TX.blkN ?_|refine TC.exit ?_|refine TX.hit ?_|refine TX.thenX ?_|refine TC.ifT ?_|refine OL.gOn ?_|refine OL.gOff ?_|refine TC.ifD ?_ ?_<;>(intro hc;try (exfalso;omega))|refine OL.gD ?_ ?_<;>(intro hc;try (exfalso;omega))|refine TC.ret ?_|refine TX.thenR ?_|refine TX.blkR ?_|fail)
  ·refine TX.rt1 [] (.bool ?_)
   rw [hfail]
   rw [drop_cons (by omega)]
   have:decide (3≤r[k])=false:=by simp;omega
   simp [okRow,this]
  ·refine TX.rt1 [] (.bool ?_)
   rw [hfail]
   rw [drop_cons (by omega)]
   have:decide (r[k] < 3+(i:Int))=false:=by simp;omega
   simp [okRow,this]
  ·refine OL.c (Ct318 (r.take k) r[k]) Tryz.func30 ?_
   have e1:decide (3≤r[k])=true:=by simp;omega
   have e2:decide (r[k] < 3+(i:Int))=true:=by simp;omega
   repeat' (with_reducible first|refine OL.st ?_|refine OL.nil ?_|refine TX.thenN ?_|fail)
   refine TC.ifB (fun hct=>?_) (fun hct=>?_)
   ·repeat' (with_reducible first|refine OL.st ?_|refine TC.region ?_|refine TC.seq ?_|refine OL.nil ?_|refine TX.thenN ?_|refine TC.ret ?_|refine TX.thenR ?_|refine TX.blkR ?_|fail)
    refine TX.rt1 [] (.bool ?_)
    rw [hfail]
    rw [drop_cons (by omega),okRow,hct]
    simp
   ·repeat' (with_reducible first|refine OL.st ?_|refine TC.region ?_|refine OL.nil ?_|refine TX.thenN ?_|refine TC.skip ?_|refine TX.blkN ?_|fail)
    refine TX.rd (k+1) [] ⟨by omega,?_⟩ (by omega)
    rw [hki,drop_cons (by omega),take_succ (by omega)]
    rw [okRow,e1,e2,hct]
    rfl
  ·refine TX.rd (i+1) [] ⟨by omega,?_⟩ (by omega)
   rw [hinv,hst,hki,drop_nil (by omega)]
   rfl
 ·refine TX.rt1 [] (.bool ?_)
  rw [hfine,hinv,drop_nil (by omega)]
  rfl
theorem Ct169 (c h:Int):V.Spec Tryz.prog 256 [V.int c,.ep [V.int h] 0] [] (V.bool (c != h)) []:=by
 refine V.Spec.enter Tryz.tabOK Tryz.mixed Tryz.func256 rfl rfl rfl fun B hB=>?_
 repeat' (with_reducible first|refine OL.st ?_|refine TC.region ?_|refine TC.seq ?_|refine OL.nil ?_|refine TX.thenN ?_|refine TC.ret ?_|fail)
 refine TX.rt1 [] (.bool ?_)
 by_cases e:c=h<;>simp [e]
theorem free_step {all:List (List Int)} {k:Nat} {h:Int} (hk:k < all.length):free (all.take (k+1)) h=(free (all.take k) h&&!(all[k].drop 1).contains h):=by
 rw [take_succ hk];simp only [free,List.all_append,List.all_cons,List.all_nil,Bool.and_true]
theorem free_out {all:List (List Int)} {k:Nat} {h:Int} (hk:k < all.length) (hc:(all[k].drop 1).contains h=true):free all h=false:=by
 simp only [free,List.all_eq_false]
 exact ⟨all[k],List.getElem_mem hk,by simp only [hc];simp⟩
set_option maxHeartbeats 2000000 in
theorem Ct168 (all0:List (List Int)) (hb:total all0≤1000000) (hb2:all0.length≤1000000) :
  V.Spec Tryz.prog 240 [rows all0] [] (.tp [.hs 0,V.bool (merge all0).2]) [.gs false Tc.int 1 none ((merge all0).1.map V.int)]:=by
 refine V.Spec.enter Tryz.tabOK Tryz.mixed Tryz.func240 rfl rfl rfl fun B hB=>?_
 repeat' (with_reducible first|refine OL.st ?_|refine TC.region ?_|refine TC.seq ?_|refine OL.nil ?_|refine TX.thenN ?_|refine TC.block ?_|refine TC.scope ?_|refine TC.label ?_|fail)
 refine TC.adp 4 Tc.int 1 ?_
 refine TC.lp (fun s:List (List Int) × List Int=>[(0,rows s.1),(4,.hs 0)]) (fun s=>[.gs false Tc.int 1 none (s.2.map V.int)]) (fun s=>mergeF (total all0) all0 []=mergeF (total s.1) s.1 s.2∧s.1.length=all0.length∧s.2.length+total s.1≤total all0) (fun s=>total s.1) (all0,[]) [0] ⟨rfl,rfl,by simp⟩ ?_
 rintro ⟨all,out⟩ ⟨hinv,hlen,htot⟩
 simp only at hinv hlen htot ⊢
 repeat' (with_reducible first|refine OL.st ?_|refine TC.region ?_|refine TC.seq ?_|refine OL.nil ?_|refine TX.thenN ?_|refine TC.block ?_|refine TC.scope ?_|refine TC.label ?_|fail)
 refine TC.lp (fun i:Nat=>[(0,rows all),(4,.hs 0),(5,V.bool (anyNE (all.take i))),(14,rows all),(15,V.int all.length),(16,V.int i)]) (fun _=>[.gs false Tc.int 1 none (out.map V.int)])
  (fun i=>i≤all.length∧nextOf all all=nextOf all (all.drop i)) (fun i=>all.length-i) 0 [0] ⟨Nat.zero_le _,rfl⟩ ?_
 rintro i ⟨hi,hn⟩
 repeat' (with_reducible first|refine OL.st ?_|refine TC.region ?_|refine TC.seq ?_|refine OL.nil ?_|refine TX.thenN ?_|refine TC.block ?_|refine TC.skip ?_|refine TC.exit ?_|refine TX.hit ?_|refine TX.thenX ?_|refine TC.ifD ?_ ?_<;>(intro hc;try (exfalso;omega))|refine TC.ret ?_|refine TX.thenR ?_|refine TX.blkR ?_|refine TX.ngR ?_|fail)
 ·have he:all[i]=[]:=List.eq_nil_of_length_eq_zero (by omega)
  have e5:anyNE (all.take (i+1))=anyNE (all.take i):=by rw [take_succ (by omega),anyNE_snoc,he];simp
  exact TX.rd (i+1) [0] ⟨by omega,by rw [hn,drop_cons (by omega),he,nextOf_nil]⟩ (by omega)
 ·have h0:0 < all[i].length:=by omega
  have hne:all[i]≠[]:=fun e=>by rw [e] at h0;simp at h0
  have hne':all[i].isEmpty=false:=by simpa using hne
  have e5:true=anyNE (all.take (i+1)):=by rw [take_succ (by omega),anyNE_snoc,hne'];simp
  refine TC.lp (fun k:Nat=>[(0,rows all),(4,.hs 0),(5,V.bool true),(7,ints all[i]),(14,rows all),(15,V.int all.length),(16,V.int i),(23,rows all),(24,V.int all.length),(25,V.int k)]) (fun _=>[.gs false Tc.int 1 none (out.map V.int)])
   (fun k=>k≤all.length∧free (all.take k) all[i][0]=true) (fun k=>all.length-k) 0 [0] ⟨Nat.zero_le _,rfl⟩ ?_
  rintro k ⟨hk,hfr⟩
  repeat' (with_reducible first|refine OL.st ?_|refine OL.alloc ?_|refine OL.store ?_|refine OL.lit ?_|refine OL.appO ?_|refine TC.region ?_|refine TC.seq ?_|refine OL.nil ?_|refine TX.thenN ?_|refine TC.block ?_|refine TC.skip ?_|refine TC.exit ?_|refine TX.hit ?_|refine TX.thenX ?_|refine TC.ifD ?_ ?_<;>(intro hc;try (exfalso;omega))|fail)
  ·have hkl:k < all.length:=by omega
   (with_reducible refine TC.draw (id:=11) true 11 11 ?_<;>refine OD.st 0 ?_<;>refine OD.st 1 ?_<;>refine OD.st 2 ?_<;>refine OD.st 3 ?_<;>refine OD.sD 32 ?_ ?_<;>(intro hc;try (exfalso;omega))<;>(first|(with_reducible refine OD.st 4 ?_)|(with_reducible refine OD.of 4 ?_))<;>(first|refine OD.st 5 ?_|refine OD.of 5 ?_)<;>(first|refine OD.st 6 ?_|refine OD.of 6 ?_)<;>(first|refine OD.st 7 ?_|refine OD.of 7 ?_)<;>(first|refine OD.st 8 ?_|refine OD.of 8 ?_)<;>(first|refine OD.c1 9 (Ct318 (all[k].drop 1) all[i][0]) Tryz.func30 ?_|refine OD.of 9 ?_)<;>refine OD.st 10 ?_<;>refine OD.dn ?_)
   ·repeat' (first|(with_reducible refine TX.thenN ?_)|fail)
    refine TC.ifB (fun hct=>?_) (fun hct=>?_)
    ·repeat' (with_reducible first|refine OL.st ?_|refine TC.region ?_|refine OL.nil ?_|refine TX.thenN ?_|refine TC.exit ?_|refine TX.hit ?_|refine TX.thenX ?_|refine TX.miss ?_ rfl|fail)
     exact TX.rd (i+1) [0] ⟨by omega,by rw [hn,drop_cons (by omega),nextOf_get_f h0 (free_out hkl hct)]⟩ (by omega)
    ·repeat' (with_reducible first|refine OL.st ?_|refine TC.region ?_|refine OL.nil ?_|refine TX.thenN ?_|refine TC.skip ?_|refine TX.blkN ?_|fail)
     exact TX.rd (k+1) [0] ⟨by omega,by rw [free_step hkl,hfr,hct];rfl⟩ (by omega)
   ·repeat' (with_reducible first|refine OL.st ?_|refine TC.region ?_|refine OL.nil ?_|refine TX.thenN ?_|refine TC.skip ?_|refine TX.blkN ?_|refine TC.ifF ?_|fail)
    refine TX.rd (k+1) [0] ⟨by omega,?_⟩ (by omega)
    have he:all[k]=[]:=List.eq_nil_of_length_eq_zero (by omega)
    rw [free_step hkl,hfr,he];rfl
  ·rw [take_all (by omega)] at hfr
   have hnx:nextOf all all=some all[i][0]:=by rw [hn,drop_cons (by omega),nextOf_get_t h0 hfr]
   have hmn:=merge_next (out:=out) hnx
   obtain ⟨t,hmem,_⟩:=nextOf_mem all all _ hnx
   have htl:=total_without_lt all _ t hmem
   have hin:all[i][0]∈(all[i][0]::t):=by simp
   have hol:out.length≤1000000:=by omega
   refine TC.adp 11 Tc.Lint 1 ?_
   refine TC.frzB 10 ?_
   refine TC.lp (fun j:Nat=>[(4,.hs 0),(10,.ep [V.int all[i][0]] 0),(11,.hs 1),(48,rows all),(49,V.int all.length),(50,V.int j)]) (fun j=>[.gs false Tc.int 1 none ((out++[all[i][0]]).map V.int),.gs false Tc.Lint 1 none (((all.take j).map (without · all[i][0])).map ints)]) (fun j=>j≤all.length) (fun j=>all.length-j) 0 [3,4] (Nat.zero_le _) ?_
   rintro j hj
   have hlj:∀ hl:j < all.length,all[j].length≤1000000:=fun hl=>Nat.le_trans (total_le (List.getElem_mem hl)) (by omega)
   repeat' (with_reducible first|refine OL.st ?_|refine TC.region ?_|refine TC.seq ?_|refine OL.nil ?_|refine TX.thenN ?_|refine TC.block ?_|refine TC.skip ?_|refine TC.exit ?_|refine TX.hit ?_|refine TX.thenX ?_|refine TX.miss ?_ rfl|refine TC.ifD ?_ ?_<;>(intro hc;try (exfalso;omega))|refine TX.ngX ?_|fail)
   ·refine OL.c (Ct167 all[j] (fun c=>c != all[i][0]) (by have:=hlj (by omega);omega)) Tryz.func255 ?_ (hle:=by exact ⟨.ren rfl,.fun_ (first':=[]) (caps':=[.ep [V.int all[i][0]] 0]) Tryz.func256 rfl trivial ⟨.ren rfl,trivial⟩ (fun c _=>Ct169 c all[i][0]),trivial⟩)
    repeat' (with_reducible first|refine OL.st ?_|refine OL.litV ?_|refine OL.lit ?_|refine OL.appO ?_|refine TC.region ?_|refine OL.nil ?_|refine TX.thenN ?_|refine TX.blkN ?_|fail)
    exact TX.rd (j+1) [0,4] (by omega) (by omega)
   ·rw [take_all (by omega)]
    refine TX.vw 0 ?_
    refine TX.rd (all.map (without · all[i][0]),out++[all[i][0]]) [0] ⟨hinv.trans hmn,by simpa using hlen,?_⟩ htl
    simp only [List.length_append,List.length_singleton]
    omega
 ·have hn0:nextOf all all=none:=by rw [hn,drop_nil (by omega)];rfl
  have hmn:=merge_none (out:=out) hn0
  rw [take_all (by omega)]
  rw [merge,hinv,hmn]
  exact TX.rt2 [0] (.ren rfl) (.ren rfl)
end Go.Proofs
namespace Go.Proofs
open Go Go.W Go.V
set_option maxHeartbeats 1000000 in
theorem Ct229 (all0:List (List Int)) (hb:total all0≤1000000) (hb2:all0.length≤1000000) (hpos:∀ l∈all0,∀ x∈l,0≤x) :
  V.Spec Tryz.prog 156 [rows all0] [] (.tp [.hs 0,V.bool (merge all0).2]) [.gs false Tc.int 1 none ((merge all0).1.map V.int)]:=by
 refine V.Spec.enter Tryz.tabOK Tryz.mixed Tryz.func156 rfl rfl rfl fun B hB=>?_
 refine go ?_
 refine TC.adp 4 Tc.int 1 ?_
 refine TC.lp (fun s:List (List Int) × List Int=>[(0,rows s.1),(4,.hs 0)]) (fun s=>[.gs false Tc.int 1 none (s.2.map V.int)]) (fun s=>mergeF (total all0) all0 []=mergeF (total s.1) s.1 s.2∧s.1.length=all0.length∧s.2.length+total s.1≤total all0∧(∀ l∈s.1,∀ x∈l,0≤x)) (fun s=>total s.1) (all0,[]) [0] ⟨rfl,rfl,by simp,hpos⟩ ?_
 rintro ⟨all,out⟩ ⟨hinv,hlen,htot,hp⟩
 simp only at hinv hlen htot hp ⊢
 refine go ?_
 refine TC.lp (fun s:Nat × Option Int × Bool=>[(0,rows all),(4,.hs 0),(5,V.int (s.2.1.getD (-1))),(6,V.bool s.2.2),(7,V.int s.1)]) (fun _=>[.gs false Tc.int 1 none (out.map V.int)])
  (fun s=>s.1≤all.length∧(s.2.1=none→nextOf all all=nextOf all (all.drop s.1)∧s.2.2=anyNE (all.take s.1))∧(∀ h,s.2.1=some h→nextOf all all=some h∧0≤h)) (fun s=>all.length-s.1) (0,none,false) [0] ⟨Nat.zero_le _,fun _=>⟨rfl,rfl⟩,fun h e=>(by cases e)⟩ ?_
 rintro ⟨i,f,lf⟩ ⟨hi,hnone,hsome⟩
 simp only at hi hnone hsome ⊢
 cases f with
 | some h =>
   obtain ⟨hn,h0⟩:=hsome h rfl
   simp only [Option.getD_some]
   have hmn:=merge_next (out:=out) hn
   obtain ⟨t,hmem,_⟩:=nextOf_mem all all h hn
   have htl:=total_without_lt all h t hmem
   have hin:h∈(h::t):=by simp
   clear hsome hnone
   have hol:out.length≤1000000:=by omega
   (refine goS ?_ ?_<;>intro hc<;>refine go ?_)
   all_goals
    refine TC.adp 8 Tc.Lint 1 ?_
    refine TC.lp (fun j:Nat=>[(0,rows all),(4,.hs 0),(5,V.int h),(8,.hs 1),(9,V.int j)]) (fun j=>[.gs false Tc.int 1 none ((out++[h]).map V.int),.gs false Tc.Lint 1 none (((all.take j).map (without · h)).map ints)]) (fun j=>j≤all.length) (fun j=>all.length-j) 0 [2,3] (Nat.zero_le _) ?_
    rintro j hj
    have hlj:∀ hl:j < all.length,all[j].length≤1000000:=fun hl=>Nat.le_trans (total_le (List.getElem_mem hl)) (by omega)
    (refine goS ?_ ?_<;>intro hc<;>refine go ?_)
    ·refine OL.c (Ct235 all[j] h (by have:=hlj (by omega);omega)) Tryz.func206 ?_
     refine go ?_
     exact TX.rd (j+1) [0,4] (by omega) (by omega)
    ·rw [take_all (by omega)]
     refine TX.vw 0 ?_
     refine TX.rd (all.map (without · h),out++[h]) [0] ⟨hinv.trans hmn,by simpa using hlen,?_,?_⟩ htl
     ·simp only [List.length_append,List.length_singleton]
      omega
     ·intro l hl' x hx
      obtain ⟨l0,hl0',rfl⟩:=List.mem_map.1 hl'
      exact hp l0 hl0' x (mem_without.1 hx).1
 | none =>
   obtain ⟨hn,hlf⟩:=hnone rfl
   simp only [Option.getD_none]
   clear hsome hnone
   refine TC.bl 0 fun hla=>?_
   (refine goS ?_ ?_<;>intro hc<;>first|refine go ?_|(refine goS ?_ ?_<;>intro hc<;>first|refine go ?_|(refine goS ?_ ?_<;>intro hc<;>refine go ?_)))
   ·refine OL.c (Ct225 all all[i][0]) Tryz.func207 ?_
    have hne:all[i]≠[]:=fun e=>by rw [e] at hc;simp at hc
    have hne':all[i].isEmpty=false:=by simpa using hne
    refine go ?_
    refine TC.ifB (fun hf=>?_) (fun hf=>?_)
    ·refine go ?_
     refine TX.rd (i+1,some all[i][0],true) [0] ⟨by simp only;omega,fun e=>(by cases e),fun h e=>?_⟩ (by simp only;omega)
     cases e
     refine ⟨?_,hp _ (List.getElem_mem _) _ (List.getElem_mem _)⟩
     rw [hn,drop_cons (by omega),nextOf_get_t (by omega) hf]
    ·refine go ?_
     refine TX.rd (i+1,none,true) [0] ⟨by simp only;omega,fun _=>⟨?_,?_⟩,fun h e=>(by cases e)⟩ (by simp only;omega)
     ·rw [hn,drop_cons (by omega),nextOf_get_f (by omega) hf]
     ·simp only
      rw [take_succ (by omega),anyNE_snoc]
      simp [hne']
   ·have he:all[i]=[]:=List.eq_nil_of_length_eq_zero (by omega)
    refine TX.rd (i+1,none,lf) [0] ⟨by simp only;omega,fun _=>⟨?_,?_⟩,fun h e=>(by cases e)⟩ (by simp only;omega)
    ·rw [hn,drop_cons (by omega),he,nextOf_nil]
    ·simp only
     rw [take_succ (by omega),anyNE_snoc,he,hlf]
     simp
   ·have hn0:nextOf all all=none:=by rw [hn,drop_nil (by omega)];rfl
    have hmn:=merge_none (out:=out) hn0
    rw [take_all (by omega)] at hlf
    rw [merge,hinv,hmn,hlf]
    exact TX.rt2 [0] (.ren rfl) (.ren rfl)
end Go.Proofs
namespace Go.Proofs
open Go Go.W Go.V
def lsR:Option (List (List Int))→AV
 | some _=>.tp [.hs 0,V.bool true]
 | none=>.tp [ints [],V.bool false]
def lsE:Option (List (List Int))→V.Eta
 | some all=>[.gs false Tc.Lint 1 none (all.map ints)]
 | none=>[]
set_option maxHeartbeats 1000000 in
theorem Ct228 (g ords:List (List Int)) (c:Int) (h0:0≤c) (h1:c < 3+(g.length:Int)) (hb:g.length≤1000000)
  (hps:∀ p∈pOf g c,0≤p∧p < ords.length) (hol:∀ o∈ords,o.length≤1000000) (hpl:(pOf g c).length≤1000000) :
  V.Spec Tryz.prog 155 [rows g,rows ords,V.int c] [] (lsR (listsOf ords (pOf g c))) (lsE (listsOf ords (pOf g c))):=by
 refine V.Spec.enter Tryz.tabOK Tryz.mixed Tryz.func155 rfl rfl rfl fun B hB=>?_
 refine go ?_
 refine OL.c (Ct230 g c h0 h1 (by omega)) Tryz.func205 ?_
 refine go ?_
 generalize hpe:pOf g c=ps at *
 refine TC.adp 8 Tc.Lint 1 ?_
 refine TC.lp (fun i:Nat=>[(1,rows ords),(8,.hs 0),(9,ints ps),(10,V.int i)]) (fun i=>[.gs false Tc.Lint 1 none (((ps.take i).map fun p=>bare (at_ ords p)).map ints)]) (fun i=>i≤ps.length∧(ps.take i).all (fun p=>!(at_ ords p).isEmpty)=true) (fun i=>ps.length-i) 0 [0] ⟨Nat.zero_le _,rfl⟩ ?_
 rintro i ⟨hi,hall⟩
 by_cases hlt:i < ps.length
 ·have hpi:=hps ps[i] (List.getElem_mem _)
  have hpt:ps[i].toNat < ords.length:=by omega
  have hat:at_ ords ps[i]=ords[ps[i].toNat]:=by rw [at_,getD_lt hpt]
  have hlo:=hol _ (List.getElem_mem hpt)
  repeat' (with_reducible first|refine OL.st ?_|refine TC.region ?_|refine TC.seq ?_|refine OL.nil ?_|refine TX.thenN ?_|refine TC.block ?_|refine TC.skip ?_|refine TC.ifD ?_ ?_<;>(intro hc;try (exfalso;omega))|refine TC.ret ?_|refine TX.thenR ?_|refine TX.blkR ?_|fail)
  ·have he:at_ ords ps[i]=[]:=by rw [hat];exact List.eq_nil_of_length_eq_zero (by omega)
   have:listsOf ords ps=none:=by
    rw [listsOf,if_neg]
    intro h
    have:=List.all_eq_true.1 h ps[i] (List.getElem_mem _)
    rw [he] at this
    cases this
   rw [this]
   exact TX.rt2 [] (.nil (by decide)) (.ren rfl)
  ·have hne:(at_ ords ps[i]).isEmpty=false:=by
    rw [hat]
    cases hq:ords[ps[i].toNat] with
    | nil=>rw [hq] at hc;simp at hc
    | cons _ _=>rfl
   refine OL.c (Ct235 (ords[ps[i].toNat]) 0 (by omega)) Tryz.func206 ?_
   refine go ?_
   have e:(((ps.take i).map fun p=>bare (at_ ords p)).map ints)++[ints (without ords[ps[i].toNat] 0)]=(((ps.take (i+1)).map fun p=>bare (at_ ords p)).map ints):=by
    rw [take_succ hlt];simp only [List.map_append,List.map_cons,List.map_nil,hat];rfl
   refine TX.rd (i+1) [3] ⟨by omega,?_⟩ (by omega)
   rw [take_succ hlt,List.all_append,hall]
   simp [hne]
 ·refine go ?_
  rw [take_all (by omega)] at hall ⊢
  rw [listsOf,if_pos hall]
  exact TX.rt2 [2] (.ren rfl) (.ren rfl)
set_option maxHeartbeats 1000000 in
theorem Ct218 (g:List (List Int)) (hf:fine g=true):V.Spec Tryz.prog 111 [rows g] [] (.hs 0) [.gs true Tc.Lint 1 none ((orders g).map ints)]:=by
 refine V.Spec.enter Tryz.tabOK Tryz.mixed Tryz.func111 rfl rfl rfl fun B hB=>?_
 have h16:=fine_len hf
 refine go ?_
 refine TC.frz 1 ?_
 refine TC.lp (fun s:Nat × List (List Int)=>[(0,rows g),(3,.hs 0),(4,V.int s.1)]) (fun s=>[.gs true Tc.Lint 1 none (s.2.map ints)]) (fun s=>s.2.length=s.1∧0 < s.1∧s.1≤3+g.length∧orders g=ordersF s.2 ((parentsOf g).drop s.1)∧OrdOK s.2) (fun s=>3+g.length-s.1) (1,[[0]]) [1] ⟨rfl,Nat.one_pos,Nat.le_add_right_of_le (by omega),rfl,OrdOK.start⟩ ?_
 rintro ⟨c,acc⟩ ⟨hal,hc0,hcl,hord,hok⟩
 simp only at hal hc0 hcl hord hok ⊢
 have hsm:=hok.small (by omega)
 by_cases hlt:c < 3+g.length
 ·obtain ⟨hp1,hp2,hp3⟩:=fine_pOf hf (c:=(c:Int)) (by omega)
  rw [parentsOf_drop hlt,ordersF_cons] at hord
  have hok':=orderOf_ok (ps:=pOf g c) hok (fun p hp=>by have:=hp2 p hp;omega) (by omega)
  have hs:=Ct228 g acc c (by omega) (by omega) (by omega) (fun p hp=>by have:=hp2 p hp;omega) (fun o ho=>by have:=hsm o ho;omega) (by omega)
  cases hls:listsOf acc (pOf g c) with
  | none =>
    have ho:orderOf acc (pOf g c) acc.length=[]:=by rw [orderOf,hls]
    rw [ho] at hord hok'
    rw [hls] at hs
    simp only [lsR,lsE] at hs
    refine go ?_
    refine OL.vwA 1 ?_
    refine OL.c hs Tryz.func155 ?_
    refine go ?_
    exact TX.rd (c+1,acc++[[]]) [2] ⟨by simp [hal],by simp only;omega,by simp only;omega,hord,hok.snoc hok'⟩ (by simp only;omega)
  | some all =>
    obtain ⟨hb1,hb2,hb3⟩:=listsOf_bounds hls hok (by omega) (by omega) (fun p hp=>by have:=hp2 p hp;omega)
    rw [hls] at hs
    simp only [lsR,lsE] at hs
    have hml:=merge_length all
    have ho:orderOf acc (pOf g c) acc.length=if (merge all).2 then (acc.length:Int)::((merge all).1++[0]) else []:=by rw [orderOf,hls]
    refine go ?_
    refine OL.vwA 1 ?_
    refine OL.c hs Tryz.func155 ?_
    refine go ?_
    refine OL.vwA 0 ?_
    refine OL.c (Ct229 all (by omega) (by omega) hb3) Tryz.func156 ?_
    refine go ?_
    refine TC.ifB (fun hmb=>?_) (fun hmb=>?_)
    ·rw [hmb] at ho
     simp only [if_true] at ho
     rw [ho,hal] at hord hok'
     refine go ?_
     exact TX.rd (c+1,acc++[(c:Int)::((merge all).1++[0])]) [8] ⟨by simp [hal],by simp only;omega,by simp only;omega,hord,hok.snoc (by rw [hal];exact hok')⟩ (by simp only;omega)
    ·rw [hmb] at ho
     simp only [Bool.false_eq_true,if_false] at ho
     rw [ho] at hord hok'
     refine go ?_
     exact TX.rd (c+1,acc++[[]]) [4] ⟨by simp [hal],by simp only;omega,by simp only;omega,hord,hok.snoc hok'⟩ (by simp only;omega)
 ·refine go ?_
  rw [hord,drop_nil (by rw [parentsOf_length];omega)]
  exact TX.rt1 [0] (.ren rfl)
end Go.Proofs
