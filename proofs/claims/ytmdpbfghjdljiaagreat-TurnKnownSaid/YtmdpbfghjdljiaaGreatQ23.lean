/- Part 23 of what the claim is proved by: lemmas on the model and walks through functions of the program; no conditions. -/
import Derived.Test.YtmdpbfghjdljiaaGreatQ17
import Derived.Test.YtmdpbfghjdljiaaGreatQ22
import Derived.Test.YtmdpbfghjdljiaaGreatQ18
import Derived.Test.YtmdpbfghjdljiaaGreatQ13
import Derived.Test.YtmdpbfghjdljiaaGreatQ14
namespace Go.Proofs
open Go Go.W Go.V
abbrev valA (v:Int × Int):AV:=.st [V.int v.1,V.int v.2]
abbrev valsA (l:List (Int × Int)):AV:=.sl 2 none (l.map valA)
theorem eqMV:EqD2 Tryz.prog Tc.api_MeanVal Tc.api_MeanKind 3 .i64:=⟨by kernel_rfl,by kernel_rfl,by kernel_rfl,by kernel_rfl,Tryz.underlying3,by kernel_rfl⟩
theorem s_ref17_SameVals (la lb:List (Int × Int)):V.Spec Tryz.prog 22 [valsA la,valsA lb] [] (V.bool (la==lb)) []:=by
 refine V.Spec.enter Tryz.tabOK Tryz.mixed Tryz.func22 rfl rfl rfl fun B hB=>?_
 refine TC.bl 0 fun hla=>TC.bl 1 fun hlb=>?_
 by_cases hl:la.length=lb.length
 ·refine go ?_
  refine TC.lp (fun k:Nat=>[(0,valsA la),(1,valsA lb),(12,V.int la.length),(13,V.int k)]) (fun _=>[]) (fun k=>k≤la.length∧la.take k=lb.take k) (fun k=>la.length-k) 0 [] ⟨Nat.zero_le _,by simp⟩ ?_
  rintro k ⟨hk,hpre⟩
  by_cases hkl:k < la.length
  ·obtain ⟨a1,a2⟩:∃ t:Bool,t=(la[k].1==(lb[k]'(by omega)).1&&la[k].2==(lb[k]'(by omega)).2):=⟨_,rfl⟩
   refine go ?_
   (with_reducible refine TC.draw (id:=6) true 8 9 ?_<;>refine OD.st 0 ?_<;>refine OD.st 1 ?_<;>refine OD.st 2 ?_<;>refine OD.st 3 ?_<;>refine OD.st 4 ?_<;>refine OD.st 5 ?_<;>refine OD.st 6 ?_<;>refine OD.st 7 ?_<;>(refine OD.a1 8 ?_;refine OL.neD2 eqMV ?_;rw [← a2];refine OL.nil ?_;refine TX.od ?_)<;>refine OD.dn ?_)
   refine go ?_
   cases a1
   ·refine go ?_
    refine TX.rt1 [] (.bool ?_)
    have:la≠lb:=fun e=>by subst e;simp at a2
    simp [this]
   ·have h:la[k]=lb[k]'(by omega):=by
     have:=a2.symm
     simp only [Bool.and_eq_true,beq_iff_eq] at this
     exact Prod.ext this.1 this.2
    refine go ?_
    refine TX.rd (k+1) [] ⟨by omega,?_⟩ (by omega)
    rw [take_succ (by omega),take_succ (by omega),hpre,h]
  ·refine go ?_
   refine TX.rt1 [] (.bool ?_)
   have e:la=lb:=by
    rw [← take_all (l:=la) (k:=k) (by omega),← take_all (l:=lb) (k:=k) (by omega)]
    exact hpre
   simp [e]
 ·refine go ?_
  refine TX.rt1 [] (.bool ?_)
  have:la≠lb:=fun e=>by subst e;exact hl rfl
  simp [this]
abbrev Thing:=Int × Int × List (Int × Int)
abbrev thingA (x:Thing):AV:=.st [V.int x.1,V.int x.2.1,valsA x.2.2]
abbrev thingsA (l:List Thing):AV:=.sl 3 none (l.map thingA)
theorem s_ref17_SameThing (a b:Thing):V.Spec Tryz.prog 45 [thingA a,thingA b] [] (V.bool (a==b)) []:=by
 have h3:=s_ref17_SameVals a.2.2 b.2.2
 have e:(a==b)=((a.1==b.1)&&((a.2.1==b.2.1)&&(a.2.2==b.2.2))):=rfl
 rw [e]
 refine V.Spec.enter Tryz.tabOK Tryz.mixed Tryz.func45 rfl rfl rfl fun B hB=>?_
 by_cases h1:a.1=b.1
 ·by_cases h2:a.2.1=b.2.1
  ·repeat' (with_reducible first|refine OL.st ?_|refine OL.box ?_|refine TC.region ?_|refine TC.seq ?_|refine OL.nil ?_|refine TX.thenN ?_|refine OL.gOn ?_|refine OL.gD ?_ ?_<;>(intro hc;try (exfalso;omega))|fail)
   refine OL.c h3 Tryz.func22 ?_
   refine go ?_
   refine TX.rt1 [] (.bool ?_)
   simp [h1,h2]
  ·repeat' (with_reducible first|refine OL.st ?_|refine OL.box ?_|refine TC.region ?_|refine TC.seq ?_|refine OL.nil ?_|refine TX.thenN ?_|refine OL.gOn ?_|refine OL.gOff ?_|refine OL.gD ?_ ?_<;>(intro hc;try (exfalso;omega))|refine TC.ret ?_|fail)
   refine TX.rt1 [] (.bool ?_)
   simp [h2]
 ·repeat' (with_reducible first|refine OL.st ?_|refine OL.box ?_|refine TC.region ?_|refine TC.seq ?_|refine OL.nil ?_|refine TX.thenN ?_|refine OL.gOff ?_|refine OL.gD ?_ ?_<;>(intro hc;try (exfalso;omega))|refine TC.ret ?_|fail)
  refine TX.rt1 [] (.bool ?_)
  simp [h1]
end Go.Proofs
namespace Go.Proofs
open Go Go.W Go.V
abbrev Wld:=Bool × List (List Cls) × List Thing
abbrev schsA (l:List (List Cls)):AV:=.sl 1 none (l.map clssA)
abbrev wldA (w:Wld):AV:=.st [V.bool w.1,schsA w.2.1,thingsA w.2.2]
set_option maxHeartbeats 1000000 in
theorem sameBut (la lb:Bool) (sa sb:List (List Cls)) (ta tb:List Thing):V.Spec Tryz.prog 53 [.st [V.bool la,schsA sa,thingsA ta],.st [V.bool lb,schsA sb,thingsA tb]] [] (V.bool (sa==sb&&ta==tb)) []:=by
 refine V.Spec.enter Tryz.tabOK Tryz.mixed Tryz.func53 rfl rfl rfl fun B hB=>?_
 by_cases hl:sa.length=sb.length
 ·by_cases ht:ta.length=tb.length
  ·repeat' (with_reducible first|refine OL.st ?_|refine OL.box ?_|refine TC.region ?_|refine TC.seq ?_|refine OL.nil ?_|refine TX.thenN ?_|refine TC.block ?_|refine TC.skip ?_|refine OL.gOn ?_|refine TC.ifD ?_ ?_<;>(intro hc;try (exfalso;omega))|refine OL.gD ?_ ?_<;>(intro hc;try (exfalso;omega))|fail)
   refine TC.bl 24 fun hsl=>?_
   refine TC.lp (fun k:Nat=>[(2,.bp 0 0),(3,.bp 1 0),(25,V.int sa.length),(26,V.int k)]) (fun _=>[.cb Tc.api_TurnWorld [V.bool la,schsA sa,thingsA ta],.cb Tc.api_TurnWorld [V.bool lb,schsA sb,thingsA tb]]) (fun k=>k≤sa.length∧sa.take k=sb.take k) (fun k=>sa.length-k) 0 [0,1] ⟨Nat.zero_le _,by simp⟩ ?_
   rintro k ⟨hk,hpre⟩
   by_cases hkl:k < sa.length
   ·have hs:=s_ref17_SameClasses sa[k] (sb[k]'(by omega))
    refine go ?_
    (with_reducible refine TC.draw (id:=6) true 12 12 ?_<;>refine OD.st4 0 1 2 3 ?_<;>refine OD.st4 4 5 6 7 ?_<;>refine OD.st2 8 9 ?_<;>refine OD.c1 10 hs Tryz.func57 ?_<;>refine OD.st 11 ?_<;>refine OD.dn ?_)
    refine go ?_
    cases he:sa[k]==(sb[k]'(by omega))
    ·refine go ?_
     refine TX.rt1 [] (.bool ?_)
     have:sa≠sb:=fun e=>by subst e;simp at he
     simp [this]
    ·refine go ?_
     refine TX.rd (k+1) [0,1] ⟨by omega,?_⟩ (by omega)
     rw [take_succ (by omega),take_succ (by omega),hpre,eq_of_beq he]
   ·have e:sa=sb:=by
     rw [← take_all (l:=sa) (k:=k) (by omega),← take_all (l:=sb) (k:=k) (by omega)]
     exact hpre
    subst e
    clear hpre hl
    refine go ?_
    refine TC.bl 43 fun htl=>?_
    refine TC.lp (fun k:Nat=>[(2,.bp 0 0),(3,.bp 1 0),(44,V.int ta.length),(45,V.int k)]) (fun _=>[.cb Tc.api_TurnWorld [V.bool la,schsA sa,thingsA ta],.cb Tc.api_TurnWorld [V.bool lb,schsA sa,thingsA tb]]) (fun k=>k≤ta.length∧ta.take k=tb.take k) (fun k=>ta.length-k) 0 [0,1] ⟨Nat.zero_le _,by simp⟩ ?_
    rintro j ⟨hj,hpre⟩
    by_cases hjl:j < ta.length
    ·have hs:=s_ref17_SameThing ta[j] (tb[j]'(by omega))
     refine go ?_
     (with_reducible refine TC.draw (id:=12) true 12 12 ?_<;>refine OD.st4 0 1 2 3 ?_<;>refine OD.st4 4 5 6 7 ?_<;>refine OD.st2 8 9 ?_<;>refine OD.c1 10 hs Tryz.func45 ?_<;>refine OD.st 11 ?_<;>refine OD.dn ?_)
     refine go ?_
     cases he:ta[j]==(tb[j]'(by omega))
     ·refine go ?_
      refine TX.rt1 [] (.bool ?_)
      have:ta≠tb:=fun e=>by subst e;simp at he
      simp [this]
     ·refine go ?_
      refine TX.rd (j+1) [0,1] ⟨by omega,?_⟩ (by omega)
      rw [take_succ (by omega),take_succ (by omega),hpre,eq_of_beq he]
    ·have e:ta=tb:=by
      rw [← take_all (l:=ta) (k:=j) (by omega),← take_all (l:=tb) (k:=j) (by omega)]
      exact hpre
     refine go ?_
     refine TX.rt1 [] (.bool ?_)
     simp [e]
  ·repeat' (with_reducible first|refine OL.st ?_|refine OL.box ?_|refine TC.region ?_|refine TC.seq ?_|refine OL.nil ?_|refine TX.thenN ?_|refine OL.gOn ?_|refine TC.ifD ?_ ?_<;>(intro hc;try (exfalso;omega))|refine OL.gD ?_ ?_<;>(intro hc;try (exfalso;omega))|refine TC.ret ?_|refine TX.thenR ?_|fail)
   refine TX.rt1 [] (.bool ?_)
   have:ta≠tb:=fun e=>by subst e;exact ht rfl
   simp [this]
 ·repeat' (with_reducible first|refine OL.st ?_|refine OL.box ?_|refine TC.region ?_|refine TC.seq ?_|refine OL.nil ?_|refine TX.thenN ?_|refine TC.ifT ?_|refine OL.gOff ?_|refine OL.gD ?_ ?_<;>(intro hc;try (exfalso;omega))|refine TC.ret ?_|refine TX.thenR ?_|fail)
  refine TX.rt1 [] (.bool ?_)
  have:sa≠sb:=fun e=>by subst e;exact hl rfl
  simp [this]
theorem same (la lb:Bool) (sa sb:List (List Cls)) (ta tb:List Thing):V.Spec Tryz.prog 18 [.st [V.bool la,schsA sa,thingsA ta],.st [V.bool lb,schsA sb,thingsA tb]] [] (V.bool (la==lb&&(sa==sb&&ta==tb))) []:=by
 have h:=sameBut la lb sa sb ta tb
 refine V.Spec.enter Tryz.tabOK Tryz.mixed Tryz.func18 rfl rfl rfl fun B hB=>?_
 repeat' (with_reducible first|refine OL.st ?_|refine OL.box ?_|refine TC.region ?_|refine TC.seq ?_|refine OL.nil ?_|refine TX.thenN ?_|fail)
 refine OL.eqBl Tryz.underlying4 ?_
 cases la==lb
 ·refine go ?_
  exact TX.rt1 [] (.ren rfl)
 ·refine go ?_
  refine OL.c h Tryz.func53 ?_
  refine go ?_
  refine TX.rt1 [] (.bool ?_)
  simp
end Go.Proofs
namespace Go.Proofs
open Go Go.W Go.V
theorem s_line_bare_1 (c:Int):V.Spec Tryz.prog 264 [V.int c] [] (V.bool (c != 0)) []:=by
 refine V.Spec.enter Tryz.tabOK Tryz.mixed Tryz.func264 rfl rfl rfl fun B hB=>?_
 repeat' (with_reducible first|refine OL.st ?_|refine TC.region ?_|refine TC.seq ?_|refine OL.nil ?_|refine TX.thenN ?_|refine TC.ret ?_|fail)
 refine TX.rt1 [] (.bool ?_)
 by_cases h:c=0<;>simp [h]
theorem s_line_bare (l:List Int) (hb:l.length≤1000000000):V.Spec Tryz.prog 254 [ints l] [] (.hs 0) [.gs false Tc.int 1 none ((bare l).map V.int)]:=by
 refine V.Spec.enter Tryz.tabOK Tryz.mixed Tryz.func254 rfl rfl rfl fun B hB=>?_
 repeat' (with_reducible first|refine OL.st ?_|refine TC.region ?_|refine TC.seq ?_|refine OL.nil ?_|refine TX.thenN ?_|fail)
 refine OL.c (s_line_keep_int l (fun c=>c != 0) hb) Tryz.func255 ?_ (hle:=by exact ⟨.ren rfl,.fun0 Tryz.func264 (fun c _=>s_line_bare_1 c),trivial⟩)
 repeat' (with_reducible first|refine OL.st ?_|refine OL.nil ?_|refine TX.thenN ?_|refine TC.ret ?_|fail)
 exact TX.rt1 [0] (.ren rfl)
abbrev setA (x:Nat):AV:=.st [V.u64 x]
def setWith (x:Nat) (c:Nat):Nat:=x ||| 1 <<< c
theorem s_line_set_with (x:Nat) (hx:x < 2 ^ 64) (c:Int) (h0:0≤c) (h1:c < 64):V.Spec Tryz.prog 208 [setA x,V.int c] [] (setA (setWith x c.toNat)) []:=by
 refine V.Spec.enter Tryz.tabOK Tryz.mixed Tryz.func208 rfl rfl rfl fun B hB=>?_
 repeat' (with_reducible first|refine OL.box ?_|refine OL.alloc ?_|refine TC.region ?_|refine TC.seq ?_|refine OL.nil ?_|refine TX.thenN ?_|fail)
 (with_reducible refine TC.draw (id:=1) true 6 7 ?_<;>refine OD.st4 0 1 2 3 ?_<;>refine OD.st2 4 5 ?_<;>(refine OD.a1 6 ?_;refine OL.store ?_;refine OL.nil ?_;refine TX.od ?_)<;>refine OD.dn ?_)
 repeat' (with_reducible first|refine OL.st ?_|refine OL.storeAgg ?_|refine TC.region ?_|refine TC.seq ?_|refine OL.nil ?_|refine TX.thenN ?_|refine TC.ret ?_|fail)
 exact TX.rtc [] (.ren rfl)
theorem s_line_set_or (x y:Nat) (hx:x < 2 ^ 64) (hy:y < 2 ^ 64):V.Spec Tryz.prog 209 [setA x,setA y] [] (setA (x ||| y)) []:=by
 refine V.Spec.enter Tryz.tabOK Tryz.mixed Tryz.func209 rfl rfl rfl fun B hB=>?_
 repeat' (with_reducible first|refine OL.st ?_|refine OL.box ?_|refine OL.alloc ?_|refine OL.store ?_|refine OL.storeAgg ?_|refine TC.region ?_|refine TC.seq ?_|refine OL.nil ?_|refine TX.thenN ?_|refine TC.ret ?_|fail)
 exact TX.rtc [] (.ren rfl)
theorem setWith_lt {x c:Nat} (hx:x < 2 ^ 64) (hc:c < 64):setWith x c < 2 ^ 64:=Nat.or_lt_two_pow hx (by rw [Nat.one_shiftLeft];exact Nat.pow_lt_pow_right (by omega) hc)
end Go.Proofs
namespace Go.Proofs
open Go Go.W Go.V
set_option maxHeartbeats 1000000 in
theorem s_line_fine (g:List (List Int)):V.Spec Tryz.prog 160 [rows g] [] (V.bool (fine g)) []:=by
 refine V.Spec.enter Tryz.tabOK Tryz.mixed Tryz.func160 rfl rfl rfl fun B hB=>?_
 refine TC.bl 0 fun hlen=>?_
 repeat' (with_reducible first|refine OL.st ?_|refine TC.region ?_|refine TC.seq ?_|refine OL.nil ?_|refine TX.thenN ?_|refine TC.block ?_|refine TC.skip ?_|refine TC.ifD ?_ ?_<;>(intro hc;try (exfalso;omega))|refine TC.ret ?_|refine TX.thenR ?_|fail)
 ·refine TX.rt1 [] (.bool ?_)
  have:decide (g.length≤16)=false:=by simp;omega
  simp [fine,this]
 have hfine:fine g=okRows 0 g:=by
  have:decide (g.length≤16)=true:=by simp;omega
  simp [fine,this]
 have h16:g.length≤16:=by omega
 refine TC.lp (fun i:Nat=>[(10,rows g),(11,V.int g.length),(12,V.int i)]) (fun _=>[]) (fun i=>i≤g.length∧okRows 0 g=okRows i (g.drop i)) (fun i=>g.length-i) 0 [] ⟨Nat.zero_le _,rfl⟩ ?_
 rintro i ⟨hi,hinv⟩
 repeat' (with_reducible first|refine OL.st ?_|refine TC.region ?_|refine TC.seq ?_|refine OL.nil ?_|refine TX.thenN ?_|refine TC.block ?_|refine TC.skip ?_|refine TC.exit ?_|refine TX.hit ?_|refine TX.thenX ?_|refine TC.ifD ?_ ?_<;>(intro hc;try (exfalso;omega))|refine TC.ret ?_|refine TX.thenR ?_|refine TX.blkR ?_|fail)
 ·refine TX.rt1 [] (.bool ?_)
  rw [hfine,hinv,drop_cons (by omega)]
  have:decide (g[i].length≤3)=false:=by simp;omega
  simp [okRows,this]
 ·have hr3:g[i].length≤3:=by omega
  have hst:okRows i (g.drop i)=(okRow i [] g[i]&&okRows (i+1) (g.drop (i+1))):=by
   rw [drop_cons (by omega)]
   have:decide (g[i].length≤3)=true:=by simp;omega
   simp [okRows,this]
  generalize g[i]=r at *
  refine TC.lp (fun k:Nat=>[(3,V.int i),(4,ints r),(20,ints r),(21,V.int r.length),(22,V.int k),(10,rows g),(11,V.int g.length),(12,V.int i)]) (fun _=>[]) (fun k=>k≤r.length∧okRow i [] r=okRow i (r.take k) (r.drop k)) (fun k=>r.length-k) 0 [] ⟨Nat.zero_le _,rfl⟩ ?_
  rintro k ⟨hk,hki⟩
  have hfail:okRow i (r.take k) (r.drop k)=false→fine g=false:=fun hb=>by rw [hfine,hinv,hst,hki.trans hb];rfl
  repeat' (with_reducible first|refine OL.st ?_|refine TC.region ?_|refine TC.seq ?_|refine OL.nil ?_|refine TX.thenN ?_|refine TC.block ?_|refine TC.skip ?_|refine TX.blkN ?_|refine TC.exit ?_|refine TX.hit ?_|refine TX.thenX ?_|refine TC.ifT ?_|refine OL.gOn ?_|refine OL.gOff ?_|refine TC.ifD ?_ ?_<;>(intro hc;try (exfalso;omega))|refine OL.gD ?_ ?_<;>(intro hc;try (exfalso;omega))|refine TC.ret ?_|refine TX.thenR ?_|refine TX.blkR ?_|fail)
  ·refine TX.rt1 [] (.bool ?_)
   rw [hfail]
   rw [drop_cons (by omega)]
   have:decide (3≤r[k])=false:=by simp;omega
   simp [okRow,this]
  ·refine TX.rt1 [] (.bool ?_)
   rw [hfail]
   rw [drop_cons (by omega)]
   have:decide (r[k] < 3+(i:Int))=false:=by simp;omega
   simp [okRow,this]
  ·refine OL.c (s_slices_Contains_Lint_int (r.take k) r[k]) Tryz.func30 ?_
   have e1:decide (3≤r[k])=true:=by simp;omega
   have e2:decide (r[k] < 3+(i:Int))=true:=by simp;omega
   repeat' (with_reducible first|refine OL.st ?_|refine OL.nil ?_|refine TX.thenN ?_|fail)
   refine TC.ifB (fun hct=>?_) (fun hct=>?_)
   ·repeat' (with_reducible first|refine OL.st ?_|refine TC.region ?_|refine TC.seq ?_|refine OL.nil ?_|refine TX.thenN ?_|refine TC.ret ?_|refine TX.thenR ?_|refine TX.blkR ?_|fail)
    refine TX.rt1 [] (.bool ?_)
    rw [hfail]
    rw [drop_cons (by omega),okRow,hct]
    simp
   ·repeat' (with_reducible first|refine OL.st ?_|refine TC.region ?_|refine OL.nil ?_|refine TX.thenN ?_|refine TC.skip ?_|refine TX.blkN ?_|fail)
    refine TX.rd (k+1) [] ⟨by omega,?_⟩ (by omega)
    rw [hki,drop_cons (by omega),take_succ (by omega)]
    rw [okRow,e1,e2,hct]
    rfl
  ·refine TX.rd (i+1) [] ⟨by omega,?_⟩ (by omega)
   rw [hinv,hst,hki,drop_nil (by omega)]
   rfl
 ·refine TX.rt1 [] (.bool ?_)
  rw [hfine,hinv,drop_nil (by omega)]
  rfl
theorem s_line_merge_1 (c h:Int):V.Spec Tryz.prog 256 [V.int c,.ep [V.int h] 0] [] (V.bool (c != h)) []:=by
 refine V.Spec.enter Tryz.tabOK Tryz.mixed Tryz.func256 rfl rfl rfl fun B hB=>?_
 repeat' (with_reducible first|refine OL.st ?_|refine TC.region ?_|refine TC.seq ?_|refine OL.nil ?_|refine TX.thenN ?_|refine TC.ret ?_|fail)
 refine TX.rt1 [] (.bool ?_)
 by_cases e:c=h<;>simp [e]
theorem free_step {all:List (List Int)} {k:Nat} {h:Int} (hk:k < all.length):free (all.take (k+1)) h=(free (all.take k) h&&!(all[k].drop 1).contains h):=by
 rw [take_succ hk];simp only [free,List.all_append,List.all_cons,List.all_nil,Bool.and_true]
theorem free_out {all:List (List Int)} {k:Nat} {h:Int} (hk:k < all.length) (hc:(all[k].drop 1).contains h=true):free all h=false:=by
 simp only [free,List.all_eq_false]
 exact ⟨all[k],List.getElem_mem hk,by simp only [hc];simp⟩
set_option maxHeartbeats 2000000 in
theorem s_line_merge (all0:List (List Int)) (hb:total all0≤1000000) (hb2:all0.length≤1000000) :
  V.Spec Tryz.prog 240 [rows all0] [] (.tp [.hs 0,V.bool (merge all0).2]) [.gs false Tc.int 1 none ((merge all0).1.map V.int)]:=by
 refine V.Spec.enter Tryz.tabOK Tryz.mixed Tryz.func240 rfl rfl rfl fun B hB=>?_
 repeat' (with_reducible first|refine OL.st ?_|refine TC.region ?_|refine TC.seq ?_|refine OL.nil ?_|refine TX.thenN ?_|refine TC.block ?_|refine TC.scope ?_|refine TC.label ?_|fail)
 refine TC.adp 4 Tc.int 1 ?_
 refine TC.lp (fun s:List (List Int) × List Int=>[(0,rows s.1),(4,.hs 0)]) (fun s=>[.gs false Tc.int 1 none (s.2.map V.int)]) (fun s=>mergeF (total all0) all0 []=mergeF (total s.1) s.1 s.2∧s.1.length=all0.length∧s.2.length+total s.1≤total all0) (fun s=>total s.1) (all0,[]) [0] ⟨rfl,rfl,by simp⟩ ?_
 rintro ⟨all,out⟩ ⟨hinv,hlen,htot⟩
 simp only at hinv hlen htot ⊢
 repeat' (with_reducible first|refine OL.st ?_|refine TC.region ?_|refine TC.seq ?_|refine OL.nil ?_|refine TX.thenN ?_|refine TC.block ?_|refine TC.scope ?_|refine TC.label ?_|fail)
 refine TC.lp (fun i:Nat=>[(0,rows all),(4,.hs 0),(5,V.bool (anyNE (all.take i))),(14,rows all),(15,V.int all.length),(16,V.int i)]) (fun _=>[.gs false Tc.int 1 none (out.map V.int)])
  (fun i=>i≤all.length∧nextOf all all=nextOf all (all.drop i)) (fun i=>all.length-i) 0 [0] ⟨Nat.zero_le _,rfl⟩ ?_
 rintro i ⟨hi,hn⟩
 repeat' (with_reducible first|refine OL.st ?_|refine TC.region ?_|refine TC.seq ?_|refine OL.nil ?_|refine TX.thenN ?_|refine TC.block ?_|refine TC.skip ?_|refine TC.exit ?_|refine TX.hit ?_|refine TX.thenX ?_|refine TC.ifD ?_ ?_<;>(intro hc;try (exfalso;omega))|refine TC.ret ?_|refine TX.thenR ?_|refine TX.blkR ?_|refine TX.ngR ?_|fail)
 ·have he:all[i]=[]:=List.eq_nil_of_length_eq_zero (by omega)
  have e5:anyNE (all.take (i+1))=anyNE (all.take i):=by rw [take_succ (by omega),anyNE_snoc,he];simp
  exact TX.rd (i+1) [0] ⟨by omega,by rw [hn,drop_cons (by omega),he,nextOf_nil]⟩ (by omega)
 ·have h0:0 < all[i].length:=by omega
  have hne:all[i]≠[]:=fun e=>by rw [e] at h0;simp at h0
  have hne':all[i].isEmpty=false:=by simpa using hne
  have e5:true=anyNE (all.take (i+1)):=by rw [take_succ (by omega),anyNE_snoc,hne'];simp
  refine TC.lp (fun k:Nat=>[(0,rows all),(4,.hs 0),(5,V.bool true),(7,ints all[i]),(14,rows all),(15,V.int all.length),(16,V.int i),(23,rows all),(24,V.int all.length),(25,V.int k)]) (fun _=>[.gs false Tc.int 1 none (out.map V.int)])
   (fun k=>k≤all.length∧free (all.take k) all[i][0]=true) (fun k=>all.length-k) 0 [0] ⟨Nat.zero_le _,rfl⟩ ?_
  rintro k ⟨hk,hfr⟩
  repeat' (with_reducible first|refine OL.st ?_|refine OL.alloc ?_|refine OL.store ?_|refine OL.lit ?_|refine OL.appO ?_|refine TC.region ?_|refine TC.seq ?_|refine OL.nil ?_|refine TX.thenN ?_|refine TC.block ?_|refine TC.skip ?_|refine TC.exit ?_|refine TX.hit ?_|refine TX.thenX ?_|refine TC.ifD ?_ ?_<;>(intro hc;try (exfalso;omega))|fail)
  ·have hkl:k < all.length:=by omega
   (with_reducible refine TC.draw (id:=11) true 11 11 ?_<;>refine OD.st 0 ?_<;>refine OD.st 1 ?_<;>refine OD.st 2 ?_<;>refine OD.st 3 ?_<;>refine OD.sD 32 ?_ ?_<;>(intro hc;try (exfalso;omega))<;>(first|(with_reducible refine OD.st 4 ?_)|(with_reducible refine OD.of 4 ?_))<;>(first|refine OD.st 5 ?_|refine OD.of 5 ?_)<;>(first|refine OD.st 6 ?_|refine OD.of 6 ?_)<;>(first|refine OD.st 7 ?_|refine OD.of 7 ?_)<;>(first|refine OD.st 8 ?_|refine OD.of 8 ?_)<;>(first|refine OD.c1 9 (s_slices_Contains_Lint_int (all[k].drop 1) all[i][0]) Tryz.func30 ?_|refine OD.of 9 ?_)<;>refine OD.st 10 ?_<;>refine OD.dn ?_)
   ·repeat' (first|(with_reducible refine TX.thenN ?_)|fail)
    refine TC.ifB (fun hct=>?_) (fun hct=>?_)
    ·repeat' (with_reducible first|refine OL.st ?_|refine TC.region ?_|refine OL.nil ?_|refine TX.thenN ?_|refine TC.exit ?_|refine TX.hit ?_|refine TX.thenX ?_|refine TX.miss ?_ rfl|fail)
     exact TX.rd (i+1) [0] ⟨by omega,by rw [hn,drop_cons (by omega),nextOf_get_f h0 (free_out hkl hct)]⟩ (by omega)
    ·repeat' (with_reducible first|refine OL.st ?_|refine TC.region ?_|refine OL.nil ?_|refine TX.thenN ?_|refine TC.skip ?_|refine TX.blkN ?_|fail)
     exact TX.rd (k+1) [0] ⟨by omega,by rw [free_step hkl,hfr,hct];rfl⟩ (by omega)
   ·repeat' (with_reducible first|refine OL.st ?_|refine TC.region ?_|refine OL.nil ?_|refine TX.thenN ?_|refine TC.skip ?_|refine TX.blkN ?_|refine TC.ifF ?_|fail)
    refine TX.rd (k+1) [0] ⟨by omega,?_⟩ (by omega)
    have he:all[k]=[]:=List.eq_nil_of_length_eq_zero (by omega)
    rw [free_step hkl,hfr,he];rfl
  ·rw [take_all (by omega)] at hfr
   have hnx:nextOf all all=some all[i][0]:=by rw [hn,drop_cons (by omega),nextOf_get_t h0 hfr]
   have hmn:=merge_next (out:=out) hnx
   obtain ⟨t,hmem,_⟩:=nextOf_mem all all _ hnx
   have htl:=total_without_lt all _ t hmem
   have hin:all[i][0]∈(all[i][0]::t):=by simp
   have hol:out.length≤1000000:=by omega
   refine TC.adp 11 Tc.Lint 1 ?_
   refine TC.frzB 10 ?_
   refine TC.lp (fun j:Nat=>[(4,.hs 0),(10,.ep [V.int all[i][0]] 0),(11,.hs 1),(48,rows all),(49,V.int all.length),(50,V.int j)]) (fun j=>[.gs false Tc.int 1 none ((out++[all[i][0]]).map V.int),.gs false Tc.Lint 1 none (((all.take j).map (without · all[i][0])).map ints)]) (fun j=>j≤all.length) (fun j=>all.length-j) 0 [3,4] (Nat.zero_le _) ?_
   rintro j hj
   have hlj:∀ hl:j < all.length,all[j].length≤1000000:=fun hl=>Nat.le_trans (total_le (List.getElem_mem hl)) (by omega)
   repeat' (with_reducible first|refine OL.st ?_|refine TC.region ?_|refine TC.seq ?_|refine OL.nil ?_|refine TX.thenN ?_|refine TC.block ?_|refine TC.skip ?_|refine TC.exit ?_|refine TX.hit ?_|refine TX.thenX ?_|refine TX.miss ?_ rfl|refine TC.ifD ?_ ?_<;>(intro hc;try (exfalso;omega))|refine TX.ngX ?_|fail)
   ·refine OL.c (s_line_keep_int all[j] (fun c=>c != all[i][0]) (by have:=hlj (by omega);omega)) Tryz.func255 ?_ (hle:=by exact ⟨.ren rfl,.fun_ (first':=[]) (caps':=[.ep [V.int all[i][0]] 0]) Tryz.func256 rfl trivial ⟨.ren rfl,trivial⟩ (fun c _=>s_line_merge_1 c all[i][0]),trivial⟩)
    repeat' (with_reducible first|refine OL.st ?_|refine OL.litV ?_|refine OL.lit ?_|refine OL.appO ?_|refine TC.region ?_|refine OL.nil ?_|refine TX.thenN ?_|refine TX.blkN ?_|fail)
    exact TX.rd (j+1) [0,4] (by omega) (by omega)
   ·rw [take_all (by omega)]
    refine TX.vw 0 ?_
    refine TX.rd (all.map (without · all[i][0]),out++[all[i][0]]) [0] ⟨hinv.trans hmn,by simpa using hlen,?_⟩ htl
    simp only [List.length_append,List.length_singleton]
    omega
 ·have hn0:nextOf all all=none:=by rw [hn,drop_nil (by omega)];rfl
  have hmn:=merge_none (out:=out) hn0
  rw [take_all (by omega)]
  rw [merge,hinv,hmn]
  exact TX.rt2 [0] (.ren rfl) (.ren rfl)
end Go.Proofs
namespace Go.Proofs
open Go Go.W Go.V
end Go.Proofs
namespace Go.Proofs
open Go Go.W Go.V
end Go.Proofs
