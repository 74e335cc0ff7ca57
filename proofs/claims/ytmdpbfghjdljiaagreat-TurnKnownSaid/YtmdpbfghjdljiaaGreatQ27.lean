/- Part 27 of what the claim is proved by: lemmas on the model and walks through functions of the program; no conditions. -/
import Derived.Test.YtmdpbfghjdljiaaGreatQ13
import Derived.Test.YtmdpbfghjdljiaaGreatQ17
import Derived.Test.YtmdpbfghjdljiaaGreatQ26
import Derived.Test.YtmdpbfghjdljiaaGreatQ16
import Derived.Test.YtmdpbfghjdljiaaGreatQ24
namespace Go.V
open Go Go.W
section
variable {C:Cx} {ρ:Ro} {η:Eta} {X:Nat} {x y:Operand} {M:Bool}
theorem gvBareS {E:Nat} {nl:Option Bool} {i:Int} {l l0:List Int} (h:l=l0++[0]) (hs:(C.tab X).map (·.sh)=some (.slice E):=by with_unfolding_all exact rfl) (hz:(C.tab E).map (·.size)=some 1:=by with_unfolding_all exact rfl)
  (hx:ev2 ρ x=some (.sl 1 nl (l.map int)):=by with_unfolding_all exact rfl) (hy:ev2 ρ y=some (.raw (.int .i64 i)):=by with_unfolding_all exact rfl) (hi:i=(l.length:Int)-1:=by with_unfolding_all exact rfl):Gives C.P C.N C.D (.slice X x none (some y) none) ρ η (ints l0) M:=by
 have hl:l.length=l0.length+1:=by rw [h];simp
 have:=give_slice_h (P:=C.P) (N:=C.N) (D:=C.D) (η:=η) (M:=M) (h:=l0.length) (Cx.hT _) hs hz hx hy (by omega) (by omega)
 rwa [show l.take l0.length=l0 by rw [h];simp] at this
end
end Go.V
namespace Go.Proofs
open Go Go.W Go.V
abbrev readA (l:List Cls):AV:=if goodB l then .tp [schE l,V.bool true] else .tp [.raw (.pointer none),V.bool false]
theorem metOf_len {l:List Cls}:∀ {k:Nat},k≤l.length→(∀ j (h:j < l.length),j < k→l[j].2.1.length≤4)→(metOf (l.take k)).length≤4*k
 | 0,_,_=>by simp [metOf]
 | k+1,hk,h=>by
   rw [metOf_succ l hk,List.length_append]
   have:=metOf_len (l:=l) (k:=k) (by omega) (fun j hj hjk=>h j hj (by omega))
   have:=h k (by omega) (by omega)
   omega
set_option maxHeartbeats 4000000 in
theorem s_turn_read (l:List Cls) (hs:Short l):V.Spec Tryz.prog 92 [clssA l] [] (readA l) []:=by
 have hea:=s_each_CL l (·.1) hs.1
 have hck:=s_line_Check (graphOf l)
 have hgl:(graphOf l).length=l.length:=by simp [graphOf]
 have hgb:goodB l=(decide (l.length≤10)&&(fine (graphOf l)&&(clsOk (graphOf l) 0 [] l&&(List.range l.length).all (iniAt l)))):=rfl
 rw [readA,hgb]
 refine V.Spec.enter Tryz.tabOK Tryz.mixed Tryz.func92 rfl rfl rfl fun B hB=>?_
 refine go ?_
 refine OL.frzA 0 ?_
 refine OL.c hea Tryz.func117 ?_ (hle:=by exact ⟨.ren rfl,LE.fun_ (first':=[]) (caps':=[]) Tryz.func118 rfl trivial trivial (fun x hx=>s_turn_read_1 x),trivial⟩)
 by_cases h10:l.length≤10
 ·rw [decide_eq_true h10,Bool.true_and]
  refine go ?_
  refine OL.c hck Tryz.func119 ?_
  cases hf:fine (graphOf l)
  ·refine go ?_
   exact TX.rt2 [] (.ren rfl) (.ren rfl)
  ·rw [Bool.true_and]
   have hlin:=fun k (hk:k < l.length)=>s_line_Lin (graphOf l) (3+(k:Int))
   have hok:∀ k,k < l.length→okc (graphOf l) (3+(k:Int))=true:=fun k hk=>by
    rw [okc,hf,Bool.true_and,Bool.and_eq_true,decide_eq_true_eq,decide_eq_true_eq,hgl];omega
   have hcf:=clsOk_iff (graphOf l) l 0 []
   refine go ?_
   refine TC.adpC 1 1 Tc.Lint 1 ?_
   refine TC.adpC 1 2 Tc.Lint 1 ?_
   refine TC.adp 6 Tc.int 1 ?_
   refine TC.lp (fun k:Nat=>[(1,.ep [clssA l] 0),(4,rows (graphOf l)),(5,.bp 0 0),(6,.hs 3),(27,clssA l),(28,V.int l.length),(29,V.int k)]) (fun k=>[.cb Tc.turn_schema [clssA l,.hs 1,.hs 2],.gs false Tc.Lint 1 none (((ordsOf l).take k).map ints),.gs false Tc.Lint 1 none [],.gs false Tc.int 1 none ((metOf (l.take k)).map V.int)]) (fun k=>k≤l.length∧∀ j (h:j < l.length),j < k→0 < (at_ (orders (graphOf l)) (3+(j:Int))).length∧l[j].2.1.length≤4) (fun k=>l.length-k) 0 [1,2,3,4] ⟨Nat.zero_le _,fun j h h2=>by omega⟩ ?_
   rintro k ⟨hk,hpre⟩
   have hol:=ordsOf_length l
   by_cases hkl:k < l.length
   ·have hlk:=hlin k hkl
    rw [linL,linE,hok k hkl,if_pos rfl,if_pos rfl] at hlk
    have e3:((3+k:Nat):Int)=3+(k:Int):=by omega
    by_cases ho:0 < (at_ (orders (graphOf l)) (3+(k:Int))).length
    ·by_cases h4:l[k].2.1.length≤4
     ·have hne:at_ (orders (graphOf l)) ((3+k:Nat):Int)≠[]:=fun h=>by rw [e3] at h;rw [h] at ho;simp at ho
      have hba:=ord_bare hf (c:=3+k) (by omega) (by omega) hne
      rw [e3] at hba
      have hml:=metOf_len (l:=l) (k:=k) hk (fun j h h2=>(hpre j h h2).2)
      have hms:=metOf_succ l hkl
      have hsmall:=(orders_ok hf).1.small (by rw [(orders_ok hf).2];omega)
      have htl:((ordsOf l).take k).length=k:=by simp;omega
      have hto:(ordsOf l).take (k+1)=(ordsOf l).take k++[bare (at_ (orders (graphOf l)) (3+(k:Int)))]:=by rw [take_succ (by omega),ordsOf_get,e3]
      have e1:((ordsOf l).take k).map ints++[ints (bare (at_ (orders (graphOf l)) (3+(k:Int))))]=((ordsOf l).take (k+1)).map ints:=by rw [hto];exact map_snoc _ _ _
      have e2:(metOf (l.take k)).map V.int++l[k].2.1.map V.int=(metOf (l.take (k+1))).map V.int:=by rw [hms,List.map_append]
      have hnext:∀ j (h:j < l.length),j < k+1→0 < (at_ (orders (graphOf l)) (3+(j:Int))).length∧l[j].2.1.length≤4:=fun j h h2=>by
       by_cases e:j=k
       ·subst e;exact ⟨ho,h4⟩
       ·exact hpre j h (by omega)
      have hol2:(at_ (orders (graphOf l)) (3+(k:Int))).length≤1000:=by
       have:=(orders_ok hf).2
       rw [at_,getD_lt (by omega)]
       exact hsmall _ (List.getElem_mem _)
      clear hms hto hsmall hne
      generalize metOf (l.take k)=met at *
      generalize (ordsOf l).take k=ot at *
      generalize at_ (orders (graphOf l)) (3+(k:Int))=o at *
      rw [if_neg (by omega)] at hlk
      refine go ?_
      refine OL.c hlk Tryz.func120 ?_
      refine go ?_
      (with_reducible refine TC.draw (id:=12) false 15 15 ?_<;>refine OD.st4 0 1 2 3 ?_<;>refine OD.st4 5 6 7 8 ?_<;>refine OD.n2 4 9 ?_ ?_<;>(first|refine NextBy.at 4 ?_<;>refine NextBy.s ?_<;>refine OD.s1 9 ?_ (h:=gvBareS hba)<;>(refine OD.a1 10 ?_;refine OL.lit ?_;refine OL.nil ?_;refine TX.od ?_)<;>(refine OD.a1 11 ?_;refine OL.appO ?_;refine OL.nil ?_;refine TX.od ?_)<;>refine OD.st2 12 13 ?_<;>(refine OD.a1 14 ?_;refine OL.store ?_;refine OL.nil ?_;refine TX.od ?_)<;>refine OD.dn ?_|refine NextBy.at 9 ?_<;>refine NextBy.s ?_ (h:=gvBareS hba)<;>refine OD.n2 4 10 ?_ ?_<;>(first|refine NextBy.at 4 ?_<;>refine NextBy.s ?_<;>(refine OD.a1 10 ?_;refine OL.lit ?_;refine OL.nil ?_;refine TX.od ?_)<;>(refine OD.a1 11 ?_;refine OL.appO ?_;refine OL.nil ?_;refine TX.od ?_)<;>refine OD.st2 12 13 ?_<;>(refine OD.a1 14 ?_;refine OL.store ?_;refine OL.nil ?_;refine TX.od ?_)<;>refine OD.dn ?_|refine NextBy.at 10 ?_<;>(refine NextBy.a ?_;refine OL.lit ?_;refine OL.nil ?_;refine TX.od ?_)<;>refine OD.s1 4 ?_<;>(refine OD.a1 11 ?_;refine OL.appO ?_;refine OL.nil ?_;refine TX.od ?_)<;>refine OD.st2 12 13 ?_<;>(refine OD.a1 14 ?_;refine OL.store ?_;refine OL.nil ?_;refine TX.od ?_)<;>refine OD.dn ?_)))
      all_goals refine go ?_
      all_goals exact TX.rd (k+1) [0,6,2,7] ⟨by omega,hnext⟩ (by omega)
     ·have hz:clsOk (graphOf l) 0 [] l=false:=by
       rw [Bool.eq_false_iff];intro h
       exact h4 (by simpa using ((hcf.1 h).1 k hkl).2)
      rw [hz,Bool.false_and]
      rw [if_neg (by omega)] at hlk
      refine go ?_
      refine OL.c hlk Tryz.func120 ?_
      refine go ?_
      exact TX.rt2 [] (.ren rfl) (.ren rfl)
    ·have hz:clsOk (graphOf l) 0 [] l=false:=by
      rw [Bool.eq_false_iff];intro h
      have:=((hcf.1 h).1 k hkl).1
      rw [Nat.zero_add,e3] at this
      exact ho this
     rw [hz,Bool.false_and]
     rw [if_pos (by omega)] at hlk
     refine go ?_
     refine OL.c hlk Tryz.func120 ?_
     refine go ?_
     exact TX.rt2 [] (.ren rfl) (.ren rfl)
   ·have ek:k=l.length:=by omega
    subst ek
    have hml:=metOf_len (l:=l) (k:=l.length) hk (fun j h h2=>(hpre j h h2).2)
    rw [List.take_length] at hml ⊢
    rw [show (ordsOf l).take l.length=ordsOf l from take_all (by omega)]
    have hon:=s_turn_once (metOf l) (by omega)
    have hcn:=s_slices_ContainsFunc_Lint_int (metOf l) (fun n=>!slotR n)
    have hclsP:clsP (graphOf l) l 0:=fun j hj=>by
     have:=hpre j hj hj
     rwa [show ((3+(0+j):Nat):Int)=3+(j:Int) by omega]
    by_cases hnd:(metOf l).Nodup
    ·rw [decide_eq_true hnd] at hon
     cases hcb:(metOf l).any (fun n=>!slotR n)
     ·have hall:∀ s∈metOf l,slotR s=true:=fun s h=>by
       have:=List.any_eq_false.1 hcb s h
       simpa using this
      have hz:clsOk (graphOf l) 0 [] l=true:=hcf.2 ⟨hclsP,hnd,fun s h=>⟨hall s h,by simp⟩⟩
      rw [hz,Bool.true_and]
      rw [hcb] at hcn
      have hsl:=slsOf_length l
      refine TC.vw 6 ?_
      refine TC.vwC 0 1 ?_
      refine go ?_
      refine OL.c hon Tryz.func121 ?_
      refine go ?_
      refine OL.c hcn Tryz.func48 ?_ (hle:=by exact ⟨.ren rfl,LE.fun_ (first':=[]) (caps':=[]) Tryz.func122 rfl trivial trivial (fun x hx=>s_read_2 x),trivial⟩)
      refine go ?_
      refine TC.lp (fun k:Nat=>[(1,.ep [clssA l] 0),(5,.bp 0 0),(78,rows (ordsOf l)),(79,V.int (ordsOf l).length),(80,V.int k)]) (fun k=>[.cb Tc.turn_schema [clssA l,rows (ordsOf l),.hs 1],.gs false Tc.Lint 1 none (((slsOf l).take k).map ints)]) (fun k=>k≤l.length∧∀ j,j < k→iniAt l j=true) (fun k=>l.length-k) 0 [0,2] ⟨Nat.zero_le _,fun j h=>by omega⟩ ?_
      rintro k ⟨hk,hpre2⟩
      by_cases hkl:k < l.length
      ·have hne:at_ (orders (graphOf l)) ((3+k:Nat):Int)≠[]:=fun h=>by
        have:=(hclsP k hkl).1
        rw [Nat.zero_add,h] at this
        simp at this
       have hso:=slots_sorted hf hnd hall (c:=3+k) (by omega) (by omega) hne
       have hb3:=bare_three hf (c:=3+k) (by omega) (by omega)
       have hog:(ordsOf l)[k]'(by omega)=bare (at_ (orders (graphOf l)) ((3+k:Nat):Int)):=ordsOf_get _
       rw [← hog] at hso hb3
       have hsl4:(slotsOf l (3+k)).length≤400:=Nat.le_trans (slotsTo_len l (3+k) 40) (by omega)
       have horl:((ordsOf l)[k]'(by omega)).length≤1000:=by
        have h1:=(orders_ok hf).1.small (by rw [(orders_ok hf).2];omega)
        have h2:=without_length (at_ (orders (graphOf l)) ((3+k:Nat):Int)) 0
        have h3:=(orders_ok hf).2
        have h4:=h1 _ (List.getElem_mem (l:=orders (graphOf l)) (n:=3+k) (by omega))
        rw [hog,bare]
        rw [at_,Int.toNat_natCast,getD_lt (by omega)] at h2 ⊢
        omega
       have hel:=s_each_int_Lint ((ordsOf l)[k]'(by omega)) (fun x=>(clsAt l (x-3).toNat).2.1) (by omega)
       have hfl:(((ordsOf l)[k]'(by omega)).map fun x=>(clsAt l (x-3).toNat).2.1).flatten.length≤400:=by
        rw [← List.flatMap_def,← sortI_len,hso];exact hsl4
       have hco:=s_slices_Concat (((ordsOf l)[k]'(by omega)).map fun x=>(clsAt l (x-3).toNat).2.1) (fun j=>by
        have:∀ ls:List (List Int),(ls.take j).flatten.length≤ls.flatten.length:=fun ls=>by
         have h:ls.flatten=(ls.take j).flatten++(ls.drop j).flatten:=by rw [← List.flatten_append,List.take_append_drop]
         rw [h,List.length_append];omega
        exact Nat.le_trans (this _) (by omega)) (by rw [List.length_map];omega)
       have hst:=s_slices_Sort (((ordsOf l)[k]'(by omega)).map fun x=>(clsAt l (x-3).toNat).2.1).flatten (by omega)
       rw [← List.flatMap_def,hso] at hst
       rw [← List.flatMap_def] at hco
       have htl:((slsOf l).take k).length=k:=by simp;omega
       have hts:(slsOf l).take (k+1)=(slsOf l).take k++[slotsOf l (3+k)]:=by rw [take_succ (by omega),slsOf_get]
       have e1:((slsOf l).take k).map ints++[ints (slotsOf l (3+k))]=((slsOf l).take (k+1)).map ints:=by rw [hts];exact map_snoc _ _ _
       have hss:=s_starts l hs (ordsOf l) ((slsOf l).take (k+1)) (k:=k) (by simp;omega) hkl (by simp;omega)
       have hgk:((slsOf l).take (k+1))[k]'(by simp;omega)=slotsOf l (3+k):=by rw [List.getElem_take,slsOf_get]
       rw [hgk,← iniAt_eq] at hss
       generalize slotsOf l (3+k)=sk at *
       generalize hork:(ordsOf l)[k]'(by omega)=ork at *
       generalize (ork.map fun x=>(clsAt l (x-3).toNat).2.1)=ls at *
       generalize (ork.flatMap fun x=>(clsAt l (x-3).toNat).2.1)=fl at *
       refine go ?_
       simp only [hork]
       refine go ?_
       refine OL.c hel Tryz.func124 ?_ (hle:=by exact ⟨.ren rfl,LE.fun_ (first':=[]) (caps':=[.ep [clssA l] 0]) Tryz.func125 rfl trivial ⟨.ren rfl,trivial⟩ (fun x hx=>s_read_3 l (by omega) (hb3 x hx)),trivial⟩)
       refine go ?_
       refine OL.c hco Tryz.func123 ?_
       refine go ?_
       refine OL.ch [2] hst Tryz.func126 ?_
       refine OL.vw 13 ?_
       refine go ?_
       all_goals rw [e1]
       all_goals refine go ?_
       all_goals refine OL.lend ((Wk.viewCell (i:=0) (o:=2) (by with_unfolding_all exact rfl) (by with_unfolding_all exact rfl) (by with_unfolding_all exact rfl)).trans (Wk.frzBox (t:=101) (by with_unfolding_all exact rfl) (by with_unfolding_all exact rfl) (by with_unfolding_all exact rfl))) hss Tryz.func127 ?_
       all_goals cases hia:iniAt l k
       all_goals try rw [all_false hkl hia]
       all_goals refine go ?_
       all_goals first
        | exact TX.rt2 [] (.ren rfl) (.ren rfl)
        | exact TX.rd (k+1) [0,4] ⟨by omega,fun j hj=>by
          by_cases e:j=k
          ·rw [e];exact hia
          ·exact hpre2 j (by omega)⟩ (by omega)
      ·rw [all_true (fun i hi=>hpre2 i (by omega)),show (slsOf l).take k=slsOf l from take_all (by omega)]
       refine TC.vwC 0 2 ?_
       refine TC.frzB 5 ?_
       refine go ?_
       exact TX.rt2 [] (.ren rfl) (.ren rfl)
     ·have hz:clsOk (graphOf l) 0 [] l=false:=by
       rw [Bool.eq_false_iff];intro h
       rw [List.any_eq_true] at hcb
       obtain ⟨s,h1,h2⟩:=hcb
       rw [((hcf.1 h).2.2 s h1).1] at h2;cases h2
      rw [hz,Bool.false_and]
      rw [hcb] at hcn
      refine TC.vw 6 ?_
      refine go ?_
      refine OL.c hon Tryz.func121 ?_
      refine go ?_
      refine OL.c hcn Tryz.func48 ?_ (hle:=by exact ⟨.ren rfl,LE.fun_ (first':=[]) (caps':=[]) Tryz.func122 rfl trivial trivial (fun x hx=>s_read_2 x),trivial⟩)
      refine go ?_
      exact TX.rt2 [] (.ren rfl) (.ren rfl)
    ·have hz:clsOk (graphOf l) 0 [] l=false:=by
      rw [Bool.eq_false_iff];intro h
      exact hnd (hcf.1 h).2.1
     rw [hz,Bool.false_and]
     rw [decide_eq_false hnd] at hon
     refine TC.vw 6 ?_
     refine go ?_
     refine OL.c hon Tryz.func121 ?_
     refine go ?_
     exact TX.rt2 [] (.ren rfl) (.ren rfl)
 ·rw [decide_eq_false h10,Bool.false_and]
  refine go ?_
  exact TX.rt2 [] (.ren rfl) (.ren rfl)
end Go.Proofs
namespace Go.Proofs
open Go Go.W Go.V
abbrev schEs (ss:List (List Cls)):AV:=.sl 1 none (ss.map schE)
abbrev schemasA (ss:List (List Cls)):AV:=if schemasB ss then .tp [.hs 0,V.bool true] else .tp [.raw (.slice none 0 0),V.bool false]
abbrev schemasO (ss:List (List Cls)):Eta:=if schemasB ss then [.gs false Tc.Pturn_schema 1 none (ss.map schE)] else []
theorem s_turn_Schema (l:List Cls) (hs:Short l):V.Spec Tryz.prog 54 [clssA l] [] (V.int (if goodB l then 0 else 2)) []:=by
 have hr:=s_turn_read l hs
 rw [readA] at hr
 cases hg:goodB l
 ·rw [hg,if_neg Bool.false_ne_true] at hr
  refine V.Spec.enter Tryz.tabOK Tryz.mixed Tryz.func54 rfl rfl rfl fun B hB=>?_
  repeat' (with_reducible first|refine OL.st ?_|refine TC.region ?_|refine TC.seq ?_|refine OL.nil ?_|refine TX.thenN ?_|fail)
  refine OL.c hr Tryz.func92 ?_
  repeat' (with_reducible first|refine OL.st ?_|refine TC.region ?_|refine TC.seq ?_|refine OL.nil ?_|refine TX.thenN ?_|refine TC.ifT ?_|refine TC.ret ?_|refine TX.thenR ?_|fail)
  exact TX.rt1 [] (.ren rfl)
 ·rw [hg,if_pos rfl] at hr
  refine V.Spec.enter Tryz.tabOK Tryz.mixed Tryz.func54 rfl rfl rfl fun B hB=>?_
  repeat' (with_reducible first|refine OL.st ?_|refine TC.region ?_|refine TC.seq ?_|refine OL.nil ?_|refine TX.thenN ?_|fail)
  refine OL.c hr Tryz.func92 ?_
  repeat' (with_reducible first|refine OL.st ?_|refine TC.region ?_|refine TC.seq ?_|refine OL.nil ?_|refine TX.thenN ?_|refine TC.skip ?_|refine TC.ifF ?_|refine TC.ret ?_|fail)
  exact TX.rt1 [] (.ren rfl)
set_option maxHeartbeats 2000000 in
theorem s_turn_schemas (ss:List (List Cls)) (hs:∀ s∈ss,Short s):V.Spec Tryz.prog 67 [schsA ss] [] (schemasA ss) (schemasO ss):=by
 rw [schemasA,schemasO,schemasB]
 refine V.Spec.enter Tryz.tabOK Tryz.mixed Tryz.func67 rfl rfl rfl fun B hB=>?_
 refine TC.bl 0 fun hl=>?_
 by_cases hb:1≤ss.length∧ss.length≤12
 ·rw [decide_eq_true hb.1,decide_eq_true hb.2,Bool.true_and,Bool.true_and]
  repeat' (with_reducible first|refine OL.st ?_|refine TC.region ?_|refine TC.seq ?_|refine OL.nil ?_|refine TX.thenN ?_|refine TC.block ?_|refine TC.skip ?_|refine OL.gOn ?_|refine TC.ifD ?_ ?_<;>(intro hc;try (exfalso;omega))|refine OL.gD ?_ ?_<;>(intro hc;try (exfalso;omega))|fail)
  refine TC.adp 4 Tc.Pturn_schema 1 ?_
  refine TC.lp (fun k:Nat=>[(0,schsA ss),(2,.raw (.slice none 0 0)),(3,V.bool false),(4,.hs 0),(17,schsA ss),(18,V.int ss.length),(19,V.int k)]) (fun k=>[.gs false Tc.Pturn_schema 1 none ((ss.take k).map schE)]) (fun k=>k≤ss.length∧∀ i,i < k→schOk ss i=true) (fun k=>ss.length-k) 0 [0] ⟨Nat.zero_le _,fun i h=>by omega⟩ ?_
  rintro k ⟨hk,hpre⟩
  by_cases hkl:k < ss.length
  ·have hsh:=hs _ (List.getElem_mem hkl)
   have hg:=s_turn_read ss[k] hsh
   have hcc:=s_each_CC ss[k] id hsh.1
   rw [List.map_id] at hcc
   have hsk:schAt ss k=ss[k]:=getD_lt hkl
   have e:(ss.take k).map schE++[schE ss[k]]=(ss.take (k+1)).map schE:=by rw [take_succ hkl];exact map_snoc _ _ _
   have hlen:(ss.take k).length≤12:=by simp;omega
   generalize ss.take k=q at *
   rw [readA] at hg
   cases hgb:goodB ss[k]
   ·have ho:schOk ss k=false:=by rw [schOk,hsk,hgb,Bool.and_false]
    rw [all_false hkl ho,if_neg Bool.false_ne_true,if_neg Bool.false_ne_true]
    rw [hgb,if_neg Bool.false_ne_true] at hg
    repeat' (with_reducible first|refine OL.st ?_|refine TC.region ?_|refine TC.seq ?_|refine OL.nil ?_|refine TX.thenN ?_|refine TC.block ?_|refine TC.skip ?_|refine TC.ifD ?_ ?_<;>(intro hc;try (exfalso;omega))|fail)
    refine OL.c hcc Tryz.func83 ?_ (hle:=by exact ⟨.ren rfl,LE.fun_ (first':=[]) (caps':=[]) Tryz.func84 rfl trivial trivial (fun x hx=>s_turn_copied x (hsh.2 x hx).1 (hsh.2 x hx).2.1 (hsh.2 x hx).2.2),trivial⟩)
    skip
    refine OL.c hg Tryz.func92 ?_
    repeat' (with_reducible first|refine OL.st ?_|refine TC.region ?_|refine TC.seq ?_|refine OL.nil ?_|refine TX.thenN ?_|refine TC.ifT ?_|refine OL.gOff ?_|refine OL.gUn ?_|refine TC.ret ?_|refine TX.thenR ?_|refine TX.blkR ?_|fail)
    exact TX.rt2 [] (.ren rfl) (.ren rfl)
   ·rw [hgb,if_pos rfl] at hg
    by_cases h0:k=0
    ·subst h0
     have ho:schOk ss 0=true:=by rw [schOk,hsk,hgb];rfl
     repeat' (with_reducible first|refine OL.st ?_|refine TC.region ?_|refine TC.seq ?_|refine OL.nil ?_|refine TX.thenN ?_|refine TC.block ?_|refine TC.skip ?_|refine TC.ifD ?_ ?_<;>(intro hc;try (exfalso;omega))|fail)
     refine OL.c hcc Tryz.func83 ?_ (hle:=by exact ⟨.ren rfl,LE.fun_ (first':=[]) (caps':=[]) Tryz.func84 rfl trivial trivial (fun x hx=>s_turn_copied x (hsh.2 x hx).1 (hsh.2 x hx).2.1 (hsh.2 x hx).2.2),trivial⟩)
     skip
     refine OL.c hg Tryz.func92 ?_
     repeat' (with_reducible first|refine OL.st ?_|refine OL.lit ?_|refine OL.appO ?_|refine TC.region ?_|refine TC.seq ?_|refine OL.nil ?_|refine TX.thenN ?_|refine TC.skip ?_|refine TX.blkN ?_|refine TC.ifF ?_|refine OL.gOn ?_|refine OL.gOff ?_|fail)
     exact TX.rd 1 [2] ⟨by omega,fun i hi=>by obtain rfl:i=0:=by omega
                                              exact ho⟩ (by omega)
    ·have hsp:schAt ss (k-1)=ss[k-1]'(by omega):=getD_lt (by omega)
     have hix:ss[((k:Int)-1).toNat]'(by omega)=ss[k-1]'(by omega):=by congr 1;omega
     have ho:schOk ss k=(decide ((ss[k-1]'(by omega)).length≤ss[k].length)&&goodB ss[k]):=by rw [schOk,hsk,hsp,decide_eq_false h0];rfl
     by_cases hlt:(ss[k-1]'(by omega)).length≤ss[k].length
     ·rw [decide_eq_true hlt,Bool.true_and,hgb] at ho
      rw [← hix] at hlt
      repeat' (with_reducible first|refine OL.st ?_|refine TC.region ?_|refine TC.seq ?_|refine OL.nil ?_|refine TX.thenN ?_|refine TC.block ?_|refine TC.skip ?_|refine TC.ifD ?_ ?_<;>(intro hc;try (exfalso;omega))|fail)
      refine OL.c hcc Tryz.func83 ?_ (hle:=by exact ⟨.ren rfl,LE.fun_ (first':=[]) (caps':=[]) Tryz.func84 rfl trivial trivial (fun x hx=>s_turn_copied x (hsh.2 x hx).1 (hsh.2 x hx).2.1 (hsh.2 x hx).2.2),trivial⟩)
      skip
      refine OL.c hg Tryz.func92 ?_
      repeat' (with_reducible first|refine OL.st ?_|refine OL.lit ?_|refine OL.appO ?_|refine TC.region ?_|refine TC.seq ?_|refine OL.nil ?_|refine TX.thenN ?_|refine TC.skip ?_|refine TX.blkN ?_|refine OL.gOn ?_|refine TC.ifD ?_ ?_<;>(intro hc;try (exfalso;omega))|refine OL.gD ?_ ?_<;>(intro hc;try (exfalso;omega))|fail)
      exact TX.rd (k+1) [2] ⟨by omega,fun i hi=>by
       by_cases e:i=k
       ·rw [e];exact ho
       ·exact hpre i (by omega)⟩ (by omega)
     ·rw [decide_eq_false hlt,Bool.false_and] at ho
      rw [all_false hkl ho,if_neg Bool.false_ne_true,if_neg Bool.false_ne_true]
      rw [← hix] at hlt
      repeat' (with_reducible first|refine OL.st ?_|refine TC.region ?_|refine TC.seq ?_|refine OL.nil ?_|refine TX.thenN ?_|refine TC.block ?_|refine TC.skip ?_|refine TC.ifD ?_ ?_<;>(intro hc;try (exfalso;omega))|fail)
      refine OL.c hcc Tryz.func83 ?_ (hle:=by exact ⟨.ren rfl,LE.fun_ (first':=[]) (caps':=[]) Tryz.func84 rfl trivial trivial (fun x hx=>s_turn_copied x (hsh.2 x hx).1 (hsh.2 x hx).2.1 (hsh.2 x hx).2.2),trivial⟩)
      skip
      refine OL.c hg Tryz.func92 ?_
      repeat' (with_reducible first|refine OL.st ?_|refine TC.region ?_|refine TC.seq ?_|refine OL.nil ?_|refine TX.thenN ?_|refine OL.gOn ?_|refine TC.ifD ?_ ?_<;>(intro hc;try (exfalso;omega))|refine OL.gD ?_ ?_<;>(intro hc;try (exfalso;omega))|refine TC.ret ?_|refine TX.thenR ?_|refine TX.blkR ?_|fail)
      exact TX.rt2 [] (.ren rfl) (.ren rfl)
  ·rw [all_true (fun i hi=>hpre i (by omega)),if_pos rfl,if_pos rfl,take_all (by omega)]
   repeat' (with_reducible first|refine OL.st ?_|refine TC.region ?_|refine TC.seq ?_|refine OL.nil ?_|refine TX.thenN ?_|refine TC.exit ?_|refine TX.hit ?_|refine TX.thenX ?_|refine TC.ifD ?_ ?_<;>(intro hc;try (exfalso;omega))|refine TC.ret ?_|fail)
   exact TX.rt2 [0] (.ren rfl) (.ren rfl)
 ·have hz:(decide (1≤ss.length)&&decide (ss.length≤12))=false:=by
   rw [Bool.eq_false_iff];simp only [ne_eq,Bool.and_eq_true,decide_eq_true_eq];exact hb
  rw [hz,Bool.false_and,if_neg Bool.false_ne_true,if_neg Bool.false_ne_true]
  by_cases h1:1≤ss.length
  ·repeat' (with_reducible first|refine OL.st ?_|refine TC.region ?_|refine TC.seq ?_|refine OL.nil ?_|refine TX.thenN ?_|refine OL.gOn ?_|refine TC.ifD ?_ ?_<;>(intro hc;try (exfalso;omega))|refine OL.gD ?_ ?_<;>(intro hc;try (exfalso;omega))|refine TC.ret ?_|refine TX.thenR ?_|fail)
   exact TX.rt2 [] (.ren rfl) (.ren rfl)
  ·repeat' (with_reducible first|refine OL.st ?_|refine TC.region ?_|refine TC.seq ?_|refine OL.nil ?_|refine TX.thenN ?_|refine TC.ifT ?_|refine OL.gOff ?_|refine OL.gD ?_ ?_<;>(intro hc;try (exfalso;omega))|refine TC.ret ?_|refine TX.thenR ?_|fail)
   exact TX.rt2 [] (.ren rfl) (.ren rfl)
theorem schemas_ok {ss:List (List Cls)} (hs:∀ s∈ss,Short s) (h:schemasB ss=true):V.Spec Tryz.prog 67 [schsA ss] [] (.tp [.hs 0,V.bool true]) [.gs false Tc.Pturn_schema 1 none (ss.map schE)]:=by
 have:=s_turn_schemas ss hs
 rw [schemasA,schemasO,if_pos h,if_pos h] at this
 exact this
theorem schemas_no {ss:List (List Cls)} (hs:∀ s∈ss,Short s) (h:schemasB ss=false):V.Spec Tryz.prog 67 [schsA ss] [] (.tp [.raw (.slice none 0 0),V.bool false]) []:=by
 have:=s_turn_schemas ss hs
 rw [schemasA,schemasO,h,if_neg Bool.false_ne_true,if_neg Bool.false_ne_true] at this
 exact this
end Go.Proofs
namespace Go.Proofs
open Go Go.W Go.V
def freshV (ss:List (List Cls)) (c:Nat):Nat→Nat→List (Int × Int)→List (Int × Int)
 | 0,_,v=>v
 | n+1,s,v=>freshV ss c n (s+1) (turnedV (schAt ss (s+1)) c (slotsOf (schAt ss s) c) v)
theorem schemasB_mono {ss:List (List Cls)} (h:schemasB ss=true) {i:Nat} (hi:i+1 < ss.length):(schAt ss i).length≤(schAt ss (i+1)).length:=by
 simp only [schemasB,Bool.and_eq_true,List.all_eq_true,List.mem_range] at h
 have:=h.2 (i+1) hi
 simp only [schOk,Bool.and_eq_true,Bool.or_eq_true,decide_eq_true_eq] at this
 rcases this.1 with h|h
 ·omega
 ·simpa using h
theorem schemasB_le {ss:List (List Cls)} (h:schemasB ss=true) {i:Nat}:∀ j,i≤j→j < ss.length→(schAt ss i).length≤(schAt ss j).length
 | 0,h1,_=>by obtain rfl:i=0:=by omega
              exact Nat.le_refl _
 | j+1,h1,h2=>by
   by_cases e:i=j+1
   ·subst e;exact Nat.le_refl _
   ·exact Nat.le_trans (schemasB_le h j (by omega) (by omega)) (schemasB_mono h h2)
theorem slotsOf_len {l:List Cls} (h:goodB l=true) (c:Nat):(slotsOf l c).length≤1000:=by
 have:=(goodB_fine h).1
 have:=slotsTo_len l c 40
 have:=Nat.mul_le_mul_left 40 (show l.length≤10 by omega)
 rw [slotsOf];omega
end Go.Proofs
namespace Go.Proofs
open Go Go.W Go.V
structure Step where
 (d th c sl:Int)
 v:Int × Int
 k:Cls
abbrev stepA (s:Step):AV:=.st [V.int s.d,V.int s.th,V.int s.c,V.int s.sl,V.int s.v.1,V.int s.v.2,ints s.k.1,ints s.k.2.1,initsA s.k.2.2]
def ShortC (k:Cls):Prop:=k.1.length*8≤140737488355328∧k.2.1.length*8≤140737488355328∧k.2.2.length*16≤140737488355328
def madeV (l:List Cls) (c:Int) (k:Cls):List Cls:=if c-3=(l.length:Int) then l++[k] else l.set (c-3).toNat k
def freshT (ss:List (List Cls)) (x:Thing):Thing:=(x.1,(ss.length:Int)-1,freshV ss x.1.toNat (ss.length-1-x.2.1.toNat) x.2.1.toNat x.2.2)
def TOk (ss:List (List Cls)) (x:Thing):Prop:=∃ s c:Nat,x.2.1=s∧x.1=c∧s < ss.length∧3≤c∧c < 3+(schAt ss s).length∧x.2.2.length=(slotsOf (schAt ss s) c).length
theorem thingOk_TOk {lz:Bool} {ss:List (List Cls)} {n:Int} {x:Thing} (h:thingOk lz ss n x=true):TOk ss x:=by
 simp only [thingOk,ownB,Bool.and_eq_true,decide_eq_true_eq] at h
 obtain ⟨⟨⟨h1,h2⟩,_⟩,⟨h3,h4⟩,h5,_⟩:=h
 exact ⟨x.2.1.toNat,x.1.toNat,by omega,by omega,by omega,by omega,by omega,h5⟩
theorem TOk.short {ss:List (List Cls)} (hsb:schemasB ss=true) {x:Thing} (h:TOk ss x):x.2.2.length≤1000:=by
 obtain ⟨s,c,_,_,h1,_,_,h2⟩:=h
 have:=slotsOf_len (schemasB_good hsb h1) c
 omega
end Go.Proofs
namespace Go.Proofs
open Go Go.W Go.V
def lastS (ss:List (List Cls)):List Cls:=schAt ss (ss.length-1)
def inB (n:Nat) (i:Int):Bool:=decide (0≤i)&&decide (i < (n:Int))
def thAt (ts:List Thing) (i:Int):Thing:=ts.getD i.toNat (0,0,[])
def refusedE (ss:List (List Cls)) (ts:List Thing) (s:Step):Int:=
 if s.d=1 then (if s.c=3+((lastS ss).length:Int)∨ownB (lastS ss).length s.c=true then (if 12≤ss.length then 3 else if goodB (madeV (lastS ss) s.c s.k) then 0 else 7) else 2)
 else if s.d=2 then (if ownB (lastS ss).length s.c then (if 40≤ts.length then 3 else 0) else 2)
 else if s.d=3∨s.d=4 then (if inB ts.length s.th then (if s.d=4∧valB s.v ts.length=false then 2 else if placeN (slotsOf (lastS ss) (thAt ts s.th).1.toNat) s.sl 0 < 0 then 5 else 0) else 2)
 else if s.d=5 then (if inB ts.length s.th&&ownB (lastS ss).length s.c then 0 else 2)
 else if s.d=6 then (if inB ts.length s.th then 0 else 2)
 else 2
structure WOk (ss:List (List Cls)) (ts:List Thing):Prop where
 sh:∀ s∈ss,Short s
 sb:schemasB ss=true
 n40:ts.length≤40
 tk:∀ x∈ts,TOk ss x
theorem madeV_short {l:List Cls} {c:Int} {k:Cls} (hs:Short l) (hl:l.length≤10) (hk:ShortC k):Short (madeV l c k):=by
 rw [madeV]
 split
 ·refine ⟨by simp;omega,fun x hx=>?_⟩
  rw [List.mem_append,List.mem_singleton] at hx
  rcases hx with hx|rfl
  ·exact hs.2 x hx
  ·exact hk
 ·refine ⟨by simpa using hs.1,fun x hx=>?_⟩
  rcases List.mem_or_eq_of_mem_set hx with hx|rfl
  ·exact hs.2 x hx
  ·exact hk
theorem WOk.last {ss:List (List Cls)} {ts:List Thing} (h:WOk ss ts):1≤ss.length∧ss.length≤12∧goodB (lastS ss)=true∧Short (lastS ss)∧∀ i:Int,i=(ss.length:Int)-1→∀ hi:i.toNat < ss.length,ss[i.toNat]=lastS ss:=by
 obtain ⟨n1,n12⟩:=schemasB_len h.sb
 have hl:lastS ss=ss[ss.length-1]'(by omega):=getD_lt (by omega)
 refine ⟨n1,n12,schemasB_good h.sb (by omega),by rw [hl];exact h.sh _ (List.getElem_mem _),fun i hi h=>?_⟩
 rw [hl];congr 1;omega
theorem WOk.cls {ss:List (List Cls)} {ts:List Thing} (h:WOk ss ts) {x:Thing} (hx:x∈ts):∃ c:Nat,x.1=c∧3≤c∧c < 3+(lastS ss).length:=by
 obtain ⟨s,c,_,h2,h3,h4,h5,_⟩:=h.tk x hx
 have:=schemasB_le h.sb (i:=s) (ss.length-1) (by omega) (by omega)
 exact ⟨c,h2,h4,by rw [lastS];omega⟩
end Go.Proofs
namespace Go.Proofs
open Go Go.W Go.V
def upT (ss:List (List Cls)) (ts:List Thing) (s:Step):Thing:=freshT ss (thAt ts s.th)
def slotAt (ss:List (List Cls)) (ts:List Thing) (s:Step):Int:=placeN (slotsOf (lastS ss) (upT ss ts s).1.toNat) s.sl 0
def putT (ss:List (List Cls)) (ts:List Thing) (s:Step):Thing:=
 if s.d=4 then ((upT ss ts s).1,(upT ss ts s).2.1,(upT ss ts s).2.2.set (slotAt ss ts s).toNat s.v)
 else if s.d=5 then (s.c,(upT ss ts s).2.1,turnedV (lastS ss) s.c.toNat (slotsOf (lastS ss) (upT ss ts s).1.toNat) (upT ss ts s).2.2)
 else upT ss ts s
def doS (ss:List (List Cls)) (s:Step):List (List Cls):=if s.d=1 then ss++[madeV (lastS ss) s.c s.k] else ss
def newT (ss:List (List Cls)) (s:Step):Thing:=(s.c,(ss.length:Int)-1,turnedV (lastS ss) s.c.toNat [] [])
def doT (lz:Bool) (ss:List (List Cls)) (ts:List Thing) (s:Step):List Thing:=
 if s.d=1 then (if lz=true then ts else ts.map (freshT (doS ss s)))
 else if s.d=2 then ts++[newT ss s]
 else ts.set s.th.toNat (putT ss ts s)
def doR (ss:List (List Cls)) (ts:List Thing) (s:Step):Int × Int:=
 if s.d=1 then (2,0) else if s.d=2 then (3,(ts.length:Int))
 else if s.d=3 then (upT ss ts s).2.2.getD (slotAt ss ts s).toNat (0,0)
 else if s.d=4 then s.v else (3,s.th)
theorem schAt_snoc {ss:List (List Cls)} {x:List Cls} {i:Nat} (h:i < ss.length):schAt (ss++[x]) i=schAt ss i:=by
 rw [schAt,schAt,List.getD_eq_getElem?_getD,List.getD_eq_getElem?_getD,List.getElem?_append_left h]
theorem schAt_snoc_last {ss:List (List Cls)} {x:List Cls}:schAt (ss++[x]) ss.length=x:=by
 rw [schAt,List.getD_eq_getElem?_getD,List.getElem?_append_right (Nat.le_refl _)];simp
theorem freshV_len (ss:List (List Cls)) (c:Nat):∀ (n s:Nat) (v:List (Int × Int)),v.length=(slotsOf (schAt ss s) c).length→(freshV ss c n s v).length=(slotsOf (schAt ss (s+n)) c).length
 | 0,_,_,h=>h
 | n+1,s,v,h=>by
   rw [freshV,freshV_len ss c n (s+1) _ (turnedV_length _ _ _ _),show s+1+n=s+(n+1) by omega]
theorem TOk.fresh {ss:List (List Cls)} (hsb:schemasB ss=true) {x:Thing} (h:TOk ss x):TOk ss (freshT ss x):=by
 obtain ⟨s,c,h1,h2,h3,h4,h5,h6⟩:=h
 have hle:=schemasB_le hsb (i:=s) (ss.length-1) (by omega) (by omega)
 refine ⟨ss.length-1,c,?_,h2,by omega,h4,by omega,?_⟩
 ·show (ss.length:Int)-1=_
  omega
 ·show (freshV ss x.1.toNat (ss.length-1-x.2.1.toNat) x.2.1.toNat x.2.2).length=_
  rw [h1,h2,Int.toNat_natCast,Int.toNat_natCast,freshV_len _ _ _ _ _ h6,show s+(ss.length-1-s)=ss.length-1 by omega]
theorem TOk.snoc {ss:List (List Cls)} {x:Thing} (y:List Cls) (h:TOk ss x):TOk (ss++[y]) x:=by
 obtain ⟨s,c,h1,h2,h3,h4,h5,h6⟩:=h
 refine ⟨s,c,h1,h2,by simp;omega,h4,?_,?_⟩
 ·rw [schAt_snoc h3];exact h5
 ·rw [schAt_snoc h3];exact h6
theorem madeV_length {l:List Cls} {c:Int} {k:Cls}:l.length≤(madeV l c k).length∧(madeV l c k).length≤l.length+1:=by
 rw [madeV];split<;>simp
theorem schemasB_snoc {ss:List (List Cls)} {x:List Cls} (h:schemasB ss=true) (h12:ss.length < 12) (hg:goodB x=true) (hl:(lastS ss).length≤x.length):schemasB (ss++[x])=true:=by
 obtain ⟨n1,_⟩:=schemasB_len h
 rw [schemasB] at h ⊢
 simp only [Bool.and_eq_true,List.all_eq_true,List.mem_range,decide_eq_true_eq] at h ⊢
 refine ⟨by simp;omega,fun i hi=>?_⟩
 rw [List.length_append,List.length_singleton] at hi
 by_cases e:i=ss.length
 ·subst e
  rw [schOk,schAt_snoc_last,schAt_snoc (by omega),hg,Bool.and_true,Bool.or_eq_true]
  exact .inr (decide_eq_true hl)
 ·have:=h.2 i (by omega)
  rw [schOk] at this ⊢
  rw [schAt_snoc (ss:=ss) (x:=x) (i:=i) (by omega),schAt_snoc (ss:=ss) (x:=x) (i:=i-1) (by omega)]
  exact this
structure StOk (ss:List (List Cls)) (ts:List Thing) (s:Step):Prop where
 d:1≤s.d∧s.d≤6
 m:s.d=1→(3≤s.c∧s.c≤3+((lastS ss).length:Int))∧ss.length < 12∧goodB (madeV (lastS ss) s.c s.k)=true
 n:s.d=2→(3≤s.c∧s.c < 3+((lastS ss).length:Int))∧ts.length < 40
 t:3≤s.d→0≤s.th∧s.th < (ts.length:Int)
 g:s.d=3∨s.d=4→0≤placeN (slotsOf (lastS ss) (thAt ts s.th).1.toNat) s.sl 0
 v:s.d=4→valB s.v ts.length=true
 o:s.d=5→3≤s.c∧s.c < 3+((lastS ss).length:Int)
theorem refused_ok {ss:List (List Cls)} {ts:List Thing} {s:Step} (h:refusedE ss ts s=0):StOk ss ts s:=by
 have ho:ownB (lastS ss).length s.c=true↔3≤s.c∧s.c < 3+((lastS ss).length:Int):=by rw [ownB,Bool.and_eq_true,decide_eq_true_eq,decide_eq_true_eq]
 have hi:inB ts.length s.th=true↔0≤s.th∧s.th < (ts.length:Int):=by rw [inB,Bool.and_eq_true,decide_eq_true_eq,decide_eq_true_eq]
 rw [refusedE] at h
 by_cases h1:s.d=1
 ·rw [if_pos h1] at h
  have k1:s.c=3+((lastS ss).length:Int)∨ownB (lastS ss).length s.c=true:=by
   by_cases k:s.c=3+((lastS ss).length:Int)∨ownB (lastS ss).length s.c=true
   ·exact k
   ·rw [if_neg k] at h;exact absurd h (by decide)
  rw [if_pos k1] at h
  have k2:¬ 12≤ss.length:=fun k=>by rw [if_pos k] at h;exact absurd h (by decide)
  rw [if_neg k2] at h
  have k3:goodB (madeV (lastS ss) s.c s.k)=true:=by
   cases k:goodB (madeV (lastS ss) s.c s.k)
   ·rw [k,if_neg Bool.false_ne_true] at h;exact absurd h (by decide)
   ·rfl
  rw [ho] at k1
  exact ⟨by omega,fun _=>⟨by omega,by omega,k3⟩,fun _=>by omega,fun _=>by omega,fun _=>by omega,fun _=>by omega,fun _=>by omega⟩
 rw [if_neg h1] at h
 by_cases h2:s.d=2
 ·rw [if_pos h2] at h
  have k1:ownB (lastS ss).length s.c=true:=by
   cases k:ownB (lastS ss).length s.c
   ·rw [k,if_neg Bool.false_ne_true] at h;exact absurd h (by decide)
   ·rfl
  rw [if_pos k1] at h
  have k2:¬ 40≤ts.length:=fun k=>by rw [if_pos k] at h;exact absurd h (by decide)
  rw [ho] at k1
  exact ⟨by omega,fun _=>by omega,fun _=>⟨k1,by omega⟩,fun _=>by omega,fun _=>by omega,fun _=>by omega,fun _=>by omega⟩
 rw [if_neg h2] at h
 by_cases h3:s.d=3∨s.d=4
 ·rw [if_pos h3] at h
  have k1:inB ts.length s.th=true:=by
   cases k:inB ts.length s.th
   ·rw [k,if_neg Bool.false_ne_true] at h;exact absurd h (by decide)
   ·rfl
  rw [if_pos k1] at h
  have k2:¬ (s.d=4∧valB s.v ts.length=false):=fun k=>by rw [if_pos k] at h;exact absurd h (by decide)
  rw [if_neg k2] at h
  have k3:¬ placeN (slotsOf (lastS ss) (thAt ts s.th).1.toNat) s.sl 0 < 0:=fun k=>by rw [if_pos k] at h;exact absurd h (by decide)
  rw [hi] at k1
  refine ⟨by omega,fun _=>by omega,fun _=>by omega,fun _=>k1,fun _=>by omega,fun h4=>?_,fun _=>by omega⟩
  cases k:valB s.v ts.length
  ·exact absurd ⟨h4,k⟩ k2
  ·rfl
 rw [if_neg h3] at h
 by_cases h5:s.d=5
 ·rw [if_pos h5] at h
  have k1:(inB ts.length s.th&&ownB (lastS ss).length s.c)=true:=by
   cases k:(inB ts.length s.th&&ownB (lastS ss).length s.c)
   ·rw [k,if_neg Bool.false_ne_true] at h;exact absurd h (by decide)
   ·rfl
  rw [Bool.and_eq_true,hi,ho] at k1
  exact ⟨by omega,fun _=>by omega,fun _=>by omega,fun _=>k1.1,fun _=>by omega,fun _=>by omega,fun _=>k1.2⟩
 rw [if_neg h5] at h
 by_cases h6:s.d=6
 ·rw [if_pos h6] at h
  have k1:inB ts.length s.th=true:=by
   cases k:inB ts.length s.th
   ·rw [k,if_neg Bool.false_ne_true] at h;exact absurd h (by decide)
   ·rfl
  rw [hi] at k1
  exact ⟨by omega,fun _=>by omega,fun _=>by omega,fun _=>k1,fun _=>by omega,fun _=>by omega,fun _=>by omega⟩
 rw [if_neg h6] at h
 exact absurd h (by decide)
theorem thAt_mem {ts:List Thing} {i:Int} (h:0≤i∧i < (ts.length:Int)):thAt ts i∈ts:=by
 rw [thAt,getD_lt (by omega)];exact List.getElem_mem _
theorem upT_ok {ss:List (List Cls)} {ts:List Thing} {s:Step} (h:WOk ss ts) (ht:0≤s.th∧s.th < (ts.length:Int)):TOk ss (upT ss ts s):=(h.tk _ (thAt_mem ht)).fresh h.sb
theorem upT_fst (ss:List (List Cls)) (ts:List Thing) (s:Step):(upT ss ts s).1=(thAt ts s.th).1:=rfl
theorem TOk.len {ss:List (List Cls)} {x:Thing} (h:TOk ss x) (h1:x.2.1=(ss.length:Int)-1):x.2.2.length=(slotsOf (lastS ss) x.1.toNat).length:=by
 obtain ⟨s,c,a1,a2,a3,a4,a5,a6⟩:=h
 obtain rfl:s=ss.length-1:=by omega
 rw [a6,a2,Int.toNat_natCast,lastS]
theorem upT_len {ss:List (List Cls)} {ts:List Thing} {s:Step} (h:WOk ss ts) (ht:0≤s.th∧s.th < (ts.length:Int)):(upT ss ts s).2.2.length=(slotsOf (lastS ss) (upT ss ts s).1.toNat).length:=(upT_ok h ht).len rfl
theorem TOk.ofLast {ss:List (List Cls)} (n1:1≤ss.length) {c:Int} {v:List (Int × Int)} (hc:3≤c∧c < 3+((lastS ss).length:Int)) (hv:v.length=(slotsOf (lastS ss) c.toNat).length):TOk ss (c,(ss.length:Int)-1,v):=by
 refine ⟨ss.length-1,c.toNat,by dsimp only;omega,by dsimp only;omega,by omega,by omega,?_,hv⟩
 have:(schAt ss (ss.length-1)).length=(lastS ss).length:=rfl
 omega
theorem putT_ok {ss:List (List Cls)} {ts:List Thing} {s:Step} (h:WOk ss ts) (hs:StOk ss ts s) (h3:3≤s.d):TOk ss (putT ss ts s):=by
 have ht:=hs.t h3
 have hu:=upT_ok h ht
 have hl:=upT_len h ht
 obtain ⟨n1,_⟩:=schemasB_len h.sb
 rw [putT]
 split
 ·obtain ⟨s',c,a1,a2,a3,a4,a5,a6⟩:=hu
  exact ⟨s',c,a1,a2,a3,a4,a5,by dsimp only;rw [List.length_set];exact a6⟩
 ·split
  ·rename_i h5
   exact TOk.ofLast n1 (hs.o h5) (turnedV_length _ _ _ _)
  ·exact hu
theorem step_ok {lz:Bool} {ss:List (List Cls)} {ts:List Thing} {s:Step} (h:WOk ss ts) (hk:ShortC s.k) (hs:StOk ss ts s):WOk (doS ss s) (doT lz ss ts s):=by
 obtain ⟨n1,n12,lg,lsh,_⟩:=h.last
 obtain ⟨l10,_⟩:=goodB_fine lg
 by_cases h1:s.d=1
 ·obtain ⟨k1,k2,k3⟩:=hs.m h1
  have hsb:schemasB (ss++[madeV (lastS ss) s.c s.k])=true:=schemasB_snoc h.sb k2 k3 madeV_length.1
  have e:doS ss s=ss++[madeV (lastS ss) s.c s.k]:=by rw [doS,if_pos h1]
  have htk:∀ x∈ts,TOk (ss++[madeV (lastS ss) s.c s.k]) x:=fun x hx=>(h.tk x hx).snoc _
  rw [doT,if_pos h1,e]
  refine ⟨fun x hx=>?_,hsb,?_,?_⟩
  ·rw [List.mem_append,List.mem_singleton] at hx
   rcases hx with hx|rfl
   ·exact h.sh x hx
   ·exact madeV_short lsh l10 hk
  ·split
   ·exact h.n40
   ·rw [List.length_map];exact h.n40
  ·split
   ·exact htk
   ·intro x hx
    obtain ⟨y,hy,rfl⟩:=List.mem_map.1 hx
    exact (htk y hy).fresh hsb
 have e:doS ss s=ss:=by rw [doS,if_neg h1]
 rw [doT,if_neg h1,e]
 by_cases h2:s.d=2
 ·obtain ⟨k1,k2⟩:=hs.n h2
  rw [if_pos h2]
  refine ⟨h.sh,h.sb,by simp;omega,fun x hx=>?_⟩
  rw [List.mem_append,List.mem_singleton] at hx
  rcases hx with hx|rfl
  ·exact h.tk x hx
  ·exact TOk.ofLast n1 k1 (turnedV_length _ _ _ _)
 ·rw [if_neg h2]
  have h3:3≤s.d:=by have:=hs.d;omega
  refine ⟨h.sh,h.sb,by simpa using h.n40,fun x hx=>?_⟩
  rcases List.mem_or_eq_of_mem_set hx with hx|rfl
  ·exact h.tk x hx
  ·exact putT_ok h hs h3
theorem formedB_ok {lz:Bool} {ss:List (List Cls)} {ts:List Thing} (hs:∀ s∈ss,Short s) (h:formedB lz ss ts=true):WOk ss ts:=by
 rw [formedB,Bool.and_eq_true,Bool.and_eq_true,decide_eq_true_eq,List.all_eq_true] at h
 exact ⟨hs,h.1,h.2.1,fun x hx=>thingOk_TOk (h.2.2 x hx)⟩
def playV (lz:Bool):List (List Cls)→List Thing→List Step→List (List Cls) × List Thing × List (Int × Int) × List Int
 | ss,ts,[]=>(ss,ts,[],[])
 | ss,ts,s::l =>
   if refusedE ss ts s=0 then
    let r:=playV lz (doS ss s) (doT lz ss ts s) l
    (r.1,r.2.1,doR ss ts s::r.2.2.1,0::r.2.2.2)
   else
    let r:=playV lz ss ts l
    (r.1,r.2.1,(0,0)::r.2.2.1,refusedE ss ts s::r.2.2.2)
end Go.Proofs
