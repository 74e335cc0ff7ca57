/- Part 29 of what the claim is proved by: lemmas on the model and walks through functions of the program; no conditions. -/
import Derived.Test.YtmdpbfghjdljiaaGreatQ13
import Derived.Test.YtmdpbfghjdljiaaGreatQ17
import Derived.Test.YtmdpbfghjdljiaaGreatQ28
namespace Go.Proofs
open Go Go.W Go.V
theorem relP_thing (x:Thing):RelP (thingA x):=by
 intro y hy
 simp only [List.mem_cons,List.not_mem_nil,or_false] at hy
 rcases hy with rfl|rfl|rfl
 ·trivial
 ·trivial
 ·intro z hz
  obtain ⟨v,_,rfl⟩:=List.mem_map.1 hz
  exact ⟨⟨_,_,_,rfl⟩,fun y hy=>by
   simp only [AV.cells,List.mem_cons,List.not_mem_nil,or_false] at hy
   rcases hy with rfl|rfl<;>exact ⟨_,rfl⟩⟩
theorem noInt_schE (ss:List (List Cls)):∀ x∈ss.map schE,x.cells.all noInt=true:=fun x hx=>by
 obtain ⟨l,_,rfl⟩:=List.mem_map.1 hx
 rfl
set_option maxHeartbeats 2000000 in
theorem s_turn_touch (lz:Bool) {ss:List (List Cls)} {ts:List Thing} (hsb:schemasB ss=true) {n:Nat} (hn:n < ts.length) (hx:TOk ss ts[n]) :
  V.Spec Tryz.prog 116 [.bp 0 0,V.int n] (worldO lz ss ts) (.gp 2 3 n 0) (worldO lz ss (ts.set n (freshT ss ts[n]))):=by
 have hfr:=s_turn_fresh lz hsb hx
 have e:(ts.map thingA).set n (thingA (freshT ss ts[n]))=(ts.set n (freshT ss ts[n])).map thingA:=List.map_set.symm
 have hl:(ts.set n (freshT ss ts[n])).length=ts.length:=List.length_set
 refine V.Spec.enter Tryz.tabOK Tryz.mixed Tryz.func116 rfl rfl rfl fun B hB=>?_
 refine goW ?_
 (with_reducible refine TC.draw (id:=1) false 16 16 ?_<;>refine OD.st4 0 1 2 4 ?_<;>refine OD.st4 5 6 7 8 ?_<;>refine OD.st 10 ?_<;>refine OD.n2 3 9 ?_ ?_)<;>(first|(with_reducible refine NextBy.at 3 ?_<;>refine NextBy.s ?_<;>refine OD.s1 9 ?_<;>refine OD.st 11 ?_<;>refine OD.s1 12 ?_)<;>((with_reducible refine OD.a1 13 ?_);refine OL.lendI (WkI.trans (WkI.viewCell (i:=0) (o:=1) (k:=1) (by with_unfolding_all exact rfl) (by with_unfolding_all exact rfl) (by with_unfolding_all exact rfl) (noInt_schE ss)) (WkI.frzBox (t:=10) (i:=0) (by with_unfolding_all exact rfl) (by with_unfolding_all exact rfl) (by with_unfolding_all exact rfl))) hfr Tryz.func86 (relP_thing _) ?_;refine OL.nil ?_;refine TX.od ?_)<;>(with_reducible refine OD.st 14 ?_<;>(refine OD.a1 15 ?_;refine OL.storeEA ?_;refine OL.nil ?_;refine TX.od ?_)<;>refine OD.dn ?_)|(with_reducible refine NextBy.at 9 ?_<;>refine NextBy.s ?_<;>refine OD.st 11 ?_<;>refine OD.n2 3 12 ?_ ?_)<;>(first|(with_reducible refine NextBy.at 3 ?_<;>refine NextBy.s ?_<;>refine OD.s1 12 ?_)<;>((with_reducible refine OD.a1 13 ?_);refine OL.lendI (WkI.trans (WkI.viewCell (i:=0) (o:=1) (k:=1) (by with_unfolding_all exact rfl) (by with_unfolding_all exact rfl) (by with_unfolding_all exact rfl) (noInt_schE ss)) (WkI.frzBox (t:=10) (i:=0) (by with_unfolding_all exact rfl) (by with_unfolding_all exact rfl) (by with_unfolding_all exact rfl))) hfr Tryz.func86 (relP_thing _) ?_;refine OL.nil ?_;refine TX.od ?_)<;>(with_reducible refine OD.st 14 ?_<;>(refine OD.a1 15 ?_;refine OL.storeEA ?_;refine OL.nil ?_;refine TX.od ?_)<;>refine OD.dn ?_)|(with_reducible refine NextBy.at 12 ?_<;>refine NextBy.s ?_<;>refine OD.n2 3 13 ?_ ?_)<;>(first|(with_reducible refine NextBy.at 3 ?_<;>refine NextBy.s ?_)<;>((with_reducible refine OD.a1 13 ?_);refine OL.lendI (WkI.trans (WkI.viewCell (i:=0) (o:=1) (k:=1) (by with_unfolding_all exact rfl) (by with_unfolding_all exact rfl) (by with_unfolding_all exact rfl) (noInt_schE ss)) (WkI.frzBox (t:=10) (i:=0) (by with_unfolding_all exact rfl) (by with_unfolding_all exact rfl) (by with_unfolding_all exact rfl))) hfr Tryz.func86 (relP_thing _) ?_;refine OL.nil ?_;refine TX.od ?_)<;>(with_reducible refine OD.st 14 ?_<;>(refine OD.a1 15 ?_;refine OL.storeEA ?_;refine OL.nil ?_;refine TX.od ?_)<;>refine OD.dn ?_)|(with_reducible refine NextBy.at 13 ?_)<;>((with_reducible refine NextBy.a ?_);refine OL.lendI (WkI.trans (WkI.viewCell (i:=0) (o:=1) (k:=1) (by with_unfolding_all exact rfl) (by with_unfolding_all exact rfl) (by with_unfolding_all exact rfl) (noInt_schE ss)) (WkI.frzBox (t:=10) (i:=0) (by with_unfolding_all exact rfl) (by with_unfolding_all exact rfl) (by with_unfolding_all exact rfl))) hfr Tryz.func86 (relP_thing _) ?_;refine OL.nil ?_;refine TX.od ?_)<;>(with_reducible refine OD.s1 3 ?_<;>refine OD.st 14 ?_<;>(refine OD.a1 15 ?_;refine OL.storeEA ?_;refine OL.nil ?_;refine TX.od ?_)<;>refine OD.dn ?_))))
 all_goals refine TX.eqG 2 e ?_
 all_goals generalize ts.set n (freshT ss ts[n])=t2 at *
 all_goals refine goW ?_
 all_goals exact TX.rt1 [0,1,2] (.ren rfl)
theorem WOk.settled {ss:List (List Cls)} {ts:List Thing} (h:WOk ss ts) (k:Nat):∀ x∈(ts.take k).map (freshT ss)++ts.drop k,TOk ss x:=fun x hx=>by
 rcases List.mem_append.1 hx with hx|hx
 ·obtain ⟨y,hy,rfl⟩:=List.mem_map.1 hx
  exact (h.tk y (List.mem_of_mem_take hy)).fresh h.sb
 ·exact h.tk x (List.mem_of_mem_drop hx)
theorem settle_step {f:Thing→Thing} {ts:List Thing} {k:Nat} (hk:k < ts.length) (hl:k < ((ts.take k).map f++ts.drop k).length) :
  ((ts.take k).map f++ts.drop k).set k (f ((ts.take k).map f++ts.drop k)[k])=(ts.take (k+1)).map f++ts.drop (k+1):=by
 have e:((ts.take k).map f++ts.drop k)[k]=ts[k]:=by
  rw [List.getElem_append_right (by simp;omega)]
  simp only [List.getElem_drop]
  congr 1;simp;omega
 rw [e,List.set_append_right _ _ (by simp;omega),drop_cons hk,take_succ hk,List.map_append,List.append_assoc]
 congr 1
 rw [show k-((ts.take k).map f).length=0 by simp;omega]
 rfl
set_option maxHeartbeats 1000000 in
theorem s_turn_settle (lz:Bool) {ss:List (List Cls)} {ts:List Thing} (h:WOk ss ts):V.Spec Tryz.prog 87 [.bp 0 0] (worldO lz ss ts) (.tp []) (worldO lz ss (ts.map (freshT ss))):=by
 have h40:=h.n40
 refine V.Spec.enter Tryz.tabOK Tryz.mixed Tryz.func87 rfl rfl rfl fun B hB=>?_
 refine goW ?_
 refine TC.lp (fun k:Nat=>[(0,.bp 0 0),(7,V.int ts.length),(8,V.int k)]) (fun k=>worldO lz ss ((ts.take k).map (freshT ss)++ts.drop k)) (fun k=>k≤ts.length) (fun k=>ts.length-k) 0 [0,1,2] (Nat.zero_le _) ?_
 rintro k hk
 by_cases hkl:k < ts.length
 ·have hl:k < ((ts.take k).map (freshT ss)++ts.drop k).length:=by simp;omega
  have hto:=s_turn_touch lz h.sb hl (h.settled k _ (List.getElem_mem _))
  rw [settle_step hkl hl] at hto
  generalize (ts.take k).map (freshT ss)++ts.drop k=t1 at *
  refine goW ?_
  refine OL.ch [0,1,2] hto Tryz.func116 ?_
  refine goW ?_
  exact TX.rd (k+1) [0,1,2] (by omega) (by omega)
 ·obtain rfl:k=ts.length:=by omega
  rw [List.take_length,List.drop_length,List.append_nil]
  generalize ts.map (freshT ss)=t1 at *
  refine goW ?_
  exact TX.rt0 [0,1,2]
theorem s_each_CCO (l:List Cls) (hb:l.length*72≤140737488355328):V.Spec Tryz.prog 83 [clssA l,funC Tryz.prog (·∈l) (fun c=>clsA (id c))] [] (.hs 0) [.gs false Tc.api_BindClass 3 none (l.map clsA)]:=by
 refine V.Spec.enter Tryz.tabOK Tryz.mixed Tryz.func83 rfl rfl rfl fun B hB=>?_
 refine goW ?_
 refine TC.adp 5 Tc.api_BindClass 3 ?_
 refine TC.lp (fun k:Nat=>[(1,funC Tryz.prog (·∈l) (fun c=>clsA (id c))),(5,.hs 0),(8,clssA l),(9,V.int l.length),(10,V.int k)]) (fun k=>[.gs false Tc.api_BindClass 3 none ((l.take k).map clsA)]) (fun k=>k≤l.length) (fun k=>l.length-k) 0 [0] (Nat.zero_le _) ?_
 rintro k hk
 by_cases hkl:k < l.length
 ·have hlen:(l.take k).length=k:=by simp;omega
  have e:(l.take k).map clsA++[clsA (id l[k])]=(l.take (k+1)).map clsA:=by rw [take_succ hkl,List.map_append];rfl
  generalize l.take k=gk at *
  refine goW ?_
  refine OL.cf l[k] (List.getElem_mem _) ?_
  refine goW ?_
  exact TX.rd (k+1) [3] (by omega) (by omega)
 ·rw [take_all (by omega)]
  refine goW ?_
  exact TX.rt1 [0] (.ren rfl)
set_option maxHeartbeats 1000000 in
theorem s_turn_made (lz:Bool) {ss:List (List Cls)} {ts:List Thing} (h:WOk ss ts) (s:Step) (hk:ShortC s.k) (hc:3≤s.c∧s.c≤3+((lastS ss).length:Int)) :
  V.Spec Tryz.prog 203 [.bp 0 0,stepA s] (worldO lz ss ts) (clssA (madeV (lastS ss) s.c s.k)) (worldO lz ss ts):=by
 obtain ⟨n1,n12,lg,lsh,_⟩:=h.last
 obtain ⟨l10,lf⟩:=goodB_fine lg
 have hlw:=turn_last_w n1 n12
 have hle:=last_schE n1
 have hea:=s_each_CCO (lastS ss) lsh.1
 have hcp:=s_turn_copied s.k hk.1 hk.2.1 hk.2.2
 rw [madeV]
 generalize lastS ss=L at *
 refine V.Spec.enter Tryz.tabOK Tryz.mixed Tryz.func203 rfl rfl rfl fun B hB=>?_
 refine goW ?_
 refine OL.elem (ss.length-1) hlw Tryz.func202 hle ?_
 refine goW ?_
 refine OL.c hea Tryz.func83 ?_ (hle:=by exact ⟨.ren rfl,LE.fun_ (first':=[]) (caps':=[]) Tryz.func84 rfl trivial trivial (fun x hx=>s_turn_copied x (lsh.2 x hx).1 (lsh.2 x hx).2.1 (lsh.2 x hx).2.2),trivial⟩)
 by_cases he:s.c-3=(L.length:Int)
 ·rw [if_pos he]
  refine goW ?_
  refine OL.c hcp Tryz.func84 ?_
  refine goW ?_
  rw [map_snoc]
  refine TX.vw 4 ?_
  exact TX.rt1 [0,1,2] (.ren rfl)
 ·rw [if_neg he]
  refine goW ?_
  (with_reducible refine TC.draw (id:=4) false 9 9 ?_<;>refine OD.st2 0 1 ?_<;>refine OD.st 4 ?_<;>refine OD.n2 2 5 ?_ ?_<;>(first|refine NextBy.at 2 ?_<;>refine NextBy.s ?_<;>refine OD.st 3 ?_<;>refine OD.s1 5 ?_ (h:=gvM)<;>refine OD.c1 6 hcp Tryz.func84 ?_<;>refine OD.st 7 ?_<;>(refine OD.a1 8 ?_;refine OL.storeEA ?_;refine OL.nil ?_;refine TX.od ?_)<;>refine OD.dn ?_|refine NextBy.at 5 ?_<;>refine NextBy.s ?_ (h:=gvM)<;>refine OD.n2 2 6 ?_ ?_<;>(first|refine NextBy.at 2 ?_<;>refine NextBy.s ?_<;>refine OD.st 3 ?_<;>refine OD.c1 6 hcp Tryz.func84 ?_<;>refine OD.st 7 ?_<;>(refine OD.a1 8 ?_;refine OL.storeEA ?_;refine OL.nil ?_;refine TX.od ?_)<;>refine OD.dn ?_|refine NextBy.at 6 ?_<;>refine NextBy.c hcp Tryz.func84 ?_<;>refine OD.s1 2 ?_<;>refine OD.st2 3 7 ?_<;>(refine OD.a1 8 ?_;refine OL.storeEA ?_;refine OL.nil ?_;refine TX.od ?_)<;>refine OD.dn ?_)))
  all_goals refine goW ?_
  all_goals refine TX.vw 4 ?_
  all_goals exact TX.rt1 [0,1,2] (.sl' (by rw [List.map_set]))
theorem contains_placeN (n:Int):∀ (l:List Int) (k:Int),0≤k→(l.contains n=true↔0≤placeN l n k)
 | [],k,_=>by simp [placeN]
 | x::r,k,hk=>by
   rw [placeN]
   by_cases e:x=n
   ·subst e;simp [hk]
   ·rw [if_neg e,← contains_placeN n r (k+1) (by omega)]
    simp only [List.contains_eq_mem,List.mem_cons,decide_eq_true_eq]
    exact ⟨fun h=>h.resolve_left (fun h=>e h.symm),.inr⟩
set_option maxHeartbeats 2000000 in
theorem s_turn_mayMake (lz:Bool) {ss:List (List Cls)} {ts:List Thing} (h:WOk ss ts) (s:Step) (hk:ShortC s.k) (d1:s.d=1) :
  V.Spec Tryz.prog 145 [.bp 0 0,stepA s] (worldO lz ss ts) (V.int (refusedE ss ts s)) (worldO lz ss ts):=by
 obtain ⟨n1,n12,lg,lsh,_⟩:=h.last
 obtain ⟨l10,lf⟩:=goodB_fine lg
 have hlw:=turn_last_w n1 n12
 have hle:=last_schE n1
 have hcs:=s_turn_class (lastS ss) s.c (by omega)
 have hmd:3≤s.c∧s.c≤3+((lastS ss).length:Int)→_:=s_turn_made lz h s hk
 have hrd:=s_turn_read (madeV (lastS ss) s.c s.k) (madeV_short lsh l10 hk)
 rw [readA] at hrd
 have howd:ownB (lastS ss).length s.c=true↔3≤s.c∧s.c < 3+((lastS ss).length:Int):=by rw [ownB,Bool.and_eq_true,decide_eq_true_eq,decide_eq_true_eq]
 rw [refusedE,if_pos d1]
 generalize lastS ss=L at *
 refine V.Spec.enter Tryz.tabOK Tryz.mixed Tryz.func145 rfl rfl rfl fun B hB=>?_
 by_cases hcc:s.c=3+(L.length:Int)∨ownB L.length s.c=true
 ·have hmd:=hmd (by rw [howd] at hcc;omega)
  rw [if_pos hcc]
  by_cases h12:12≤ss.length
  ·rw [if_pos h12]
   cases ho:ownB L.length s.c
   all_goals (try (have hc3:s.c=3+(L.length:Int):=by rw [ho] at hcc;simpa using hcc))
   all_goals rw [ho] at hcs
   all_goals refine goW ?_
   all_goals (with_reducible refine TC.draw (id:=1) true 18 18 ?_<;>refine OD.st2 0 2 ?_<;>refine OD.st 3 ?_<;>refine OD.e1 1 (ss.length-1) hlw Tryz.func202 hle ?_<;>refine OD.c1 4 hcs Tryz.func68 ?_<;>refine OD.st2 5 6 ?_<;>(first|refine OD.st 7 ?_|refine OD.of 7 ?_)<;>(first|refine OD.st 8 ?_|refine OD.of 8 ?_)<;>(first|refine OD.st 9 ?_|refine OD.of 9 ?_)<;>(first|refine OD.e1 10 (ss.length-1) hlw Tryz.func202 hle ?_|refine OD.of 10 ?_)<;>(first|refine OD.st 11 ?_|refine OD.of 11 ?_)<;>(first|refine OD.st 12 ?_|refine OD.of 12 ?_)<;>(first|refine OD.st 13 ?_|refine OD.of 13 ?_)<;>(first|refine OD.st 14 ?_|refine OD.of 14 ?_)<;>(first|refine OD.st 15 ?_|refine OD.of 15 ?_)<;>(first|refine OD.st 16 ?_|refine OD.of 16 ?_)<;>refine OD.st 17 ?_<;>refine OD.dn ?_)
   all_goals refine goW ?_
   all_goals exact TX.rt1 [0,1,2] (.ren rfl)
  ·rw [if_neg h12]
   cases hgd:goodB (madeV L s.c s.k)
   all_goals rw [hgd] at hrd
   all_goals (try rw [if_pos rfl] at hrd)
   all_goals (try rw [if_neg Bool.false_ne_true] at hrd)
   all_goals cases ho:ownB L.length s.c
   all_goals (try (have hc3:s.c=3+(L.length:Int):=by rw [ho] at hcc;simpa using hcc))
   all_goals rw [ho] at hcs
   all_goals refine goW ?_
   all_goals (with_reducible refine TC.draw (id:=1) true 18 18 ?_<;>refine OD.st2 0 2 ?_<;>refine OD.st 3 ?_<;>refine OD.e1 1 (ss.length-1) hlw Tryz.func202 hle ?_<;>refine OD.c1 4 hcs Tryz.func68 ?_<;>refine OD.st2 5 6 ?_<;>(first|refine OD.st 7 ?_|refine OD.of 7 ?_)<;>(first|refine OD.st 8 ?_|refine OD.of 8 ?_)<;>(first|refine OD.st 9 ?_|refine OD.of 9 ?_)<;>(first|refine OD.e1 10 (ss.length-1) hlw Tryz.func202 hle ?_|refine OD.of 10 ?_)<;>(first|refine OD.st 11 ?_|refine OD.of 11 ?_)<;>(first|refine OD.st 12 ?_|refine OD.of 12 ?_)<;>(first|refine OD.st 13 ?_|refine OD.of 13 ?_)<;>(first|refine OD.st 14 ?_|refine OD.of 14 ?_)<;>(first|refine OD.st 15 ?_|refine OD.of 15 ?_)<;>(first|refine OD.st 16 ?_|refine OD.of 16 ?_)<;>refine OD.st 17 ?_<;>refine OD.dn ?_)
   all_goals refine goW ?_
   all_goals refine OL.ch [0,1,2] hmd Tryz.func203 ?_
   all_goals refine goW ?_
   all_goals refine OL.c hrd Tryz.func92 ?_
   all_goals refine goW ?_
   all_goals exact TX.rt1 [0,1,2] (.ren rfl)
 ·rw [if_neg hcc]
  have hc1:¬ s.c=3+(L.length:Int):=fun h=>hcc (.inl h)
  have ho:ownB L.length s.c=false:=by cases q:ownB L.length s.c with
   | false=>rfl
   | true=>exact absurd (.inr q) hcc
  rw [ho] at hcs
  refine goW ?_
  (with_reducible refine TC.draw (id:=1) true 18 18 ?_<;>refine OD.st2 0 2 ?_<;>refine OD.st 3 ?_<;>refine OD.e1 1 (ss.length-1) hlw Tryz.func202 hle ?_<;>refine OD.c1 4 hcs Tryz.func68 ?_<;>refine OD.st4 5 6 7 8 ?_<;>refine OD.st 9 ?_<;>refine OD.e1 10 (ss.length-1) hlw Tryz.func202 hle ?_<;>refine OD.st4 11 12 13 14 ?_<;>refine OD.st2 15 16 ?_<;>refine OD.st 17 ?_<;>refine OD.dn ?_)
  refine goW ?_
  exact TX.rt1 [0,1,2] (.ren rfl)
end Go.Proofs
namespace Go.Proofs
open Go Go.W Go.V
set_option maxHeartbeats 1000000 in
theorem s_turn_mayNew (lz:Bool) {ss:List (List Cls)} {ts:List Thing} (h:WOk ss ts) (s:Step) (d2:s.d=2) :
  V.Spec Tryz.prog 147 [.bp 0 0,stepA s] (worldO lz ss ts) (V.int (refusedE ss ts s)) (worldO lz ss ts):=by
 obtain ⟨n1,n12,lg,lsh,_⟩:=h.last
 obtain ⟨l10,lf⟩:=goodB_fine lg
 have h40:=h.n40
 have hlw:=turn_last_w n1 n12
 have hle:=last_schE n1
 have hcs:=s_turn_class (lastS ss) s.c (by omega)
 rw [refusedE,if_neg (by omega),if_pos d2]
 generalize lastS ss=L at *
 refine V.Spec.enter Tryz.tabOK Tryz.mixed Tryz.func147 rfl rfl rfl fun B hB=>?_
 cases ho:ownB L.length s.c
 ·rw [ho] at hcs
  rw [if_neg Bool.false_ne_true]
  refine goW ?_
  (with_reducible refine TC.draw (id:=1) true 7 7 ?_<;>refine OD.st2 0 2 ?_<;>refine OD.st 3 ?_<;>refine OD.e1 1 (ss.length-1) hlw Tryz.func202 hle ?_<;>refine OD.c1 4 hcs Tryz.func68 ?_<;>refine OD.st2 5 6 ?_<;>refine OD.dn ?_)
  refine goW ?_
  exact TX.rt1 [0,1,2] (.ren rfl)
 ·rw [ho] at hcs
  rw [if_pos rfl]
  by_cases h40:40≤ts.length
  all_goals (try rw [if_pos h40])
  all_goals (try rw [if_neg h40])
  all_goals refine goW ?_
  all_goals (with_reducible refine TC.draw (id:=1) true 7 7 ?_<;>refine OD.st2 0 2 ?_<;>refine OD.st 3 ?_<;>refine OD.e1 1 (ss.length-1) hlw Tryz.func202 hle ?_<;>refine OD.c1 4 hcs Tryz.func68 ?_<;>refine OD.st2 5 6 ?_<;>refine OD.dn ?_)
  all_goals refine goW ?_
  all_goals exact TX.rt1 [0,1,2] (.ren rfl)
set_option maxHeartbeats 2000000 in
theorem s_turn_mayTouch (lz:Bool) {ss:List (List Cls)} {ts:List Thing} (h:WOk ss ts) (s:Step) (d:3≤s.d∧s.d≤6) :
  V.Spec Tryz.prog 149 [.bp 0 0,stepA s] (worldO lz ss ts) (V.int (refusedE ss ts s)) (worldO lz ss ts):=by
 obtain ⟨n1,n12,lg,lsh,_⟩:=h.last
 obtain ⟨l10,lf⟩:=goodB_fine lg
 have h40:=h.n40
 have hlw:=turn_last_w n1 n12
 have hle:=last_schE n1
 have hcs:=s_turn_class (lastS ss) s.c (by omega)
 have hva:=s_turn_value s.v ts.length
 have hin:inB ts.length s.th=true↔0≤s.th∧s.th < (ts.length:Int):=by rw [inB,Bool.and_eq_true,decide_eq_true_eq,decide_eq_true_eq]
 have hcls:=fun i (hi:i < ts.length)=>h.cls (List.getElem_mem hi)
 have hth:∀ h:s.th.toNat < ts.length,thAt ts s.th=ts[s.th.toNat]:=fun h=>getD_lt h
 have hhs:=fun c (h3:3≤c) (hc:c < 3+(lastS ss).length)=>s_turn_has (lastS ss) (by omega) h3 hc
 rw [refusedE,if_neg (by omega),if_neg (by omega)]
 generalize lastS ss=L at *
 refine V.Spec.enter Tryz.tabOK Tryz.mixed Tryz.func149 rfl rfl rfl fun B hB=>?_
 cases hi:inB ts.length s.th
 ·have hni:¬ (0≤s.th∧s.th < (ts.length:Int)):=fun q=>by rw [hin.2 q] at hi;cases hi
  simp only [Bool.false_eq_true,if_false,Bool.false_and]
  rw [show (if s.d=3∨s.d=4 then (2:Int) else if s.d=5 then 2 else if s.d=6 then 2 else 2)=2 by split<;>first|rfl|(split<;>first|rfl|(split<;>rfl))]
  by_cases h0:0≤s.th
  all_goals repeat' (first|(with_reducible first|refine OL.st ?_|refine OL.box ?_|refine TC.region ?_|refine TC.seq ?_|refine OL.nil ?_|refine TX.thenN ?_|refine TC.ifT ?_|refine TC.ifD ?_ ?_<;>(intro hc;try (exfalso;omega))|refine TC.ret ?_|refine TX.thenR ?_)|((with_reducible refine TC.draw (id:=1) true 13 13 ?_<;>refine OD.st4 0 1 2 3 ?_<;>refine OD.sD 8 ?_ ?_<;>(intro hc;try (exfalso;omega))<;>(first|(with_reducible refine OD.st 4 ?_)|(with_reducible refine OD.of 4 ?_)))<;>(first|(with_reducible refine OD.st 5 ?_)|(with_reducible refine OD.of 5 ?_))<;>(first|(with_reducible refine OD.st 6 ?_)|(with_reducible refine OD.of 6 ?_))<;>(first|(with_reducible refine OD.st 7 ?_)|(with_reducible refine OD.of 7 ?_))<;>(first|(with_reducible refine OD.st 8 ?_)|(with_reducible refine OD.of 8 ?_))<;>(first|(with_reducible refine OD.st 9 ?_)|(with_reducible refine OD.of 9 ?_))<;>(first|(with_reducible refine OD.st 10 ?_)|(with_reducible refine OD.of 10 ?_))<;>(first|(with_reducible refine OD.st 11 ?_)|(with_reducible refine OD.of 11 ?_))<;>(with_reducible refine OD.st 12 ?_<;>refine OD.dn ?_))|fail)
  all_goals exact TX.rt1 [0,1,2] (.ren rfl)
 obtain ⟨t1,t2⟩:=hin.1 hi
 obtain ⟨c,hc1,hc2,hc3⟩:=hcls s.th.toNat (by omega)
 have hth:=hth (by omega)
 have hhs:=hhs c hc2 hc3
 have hct:=s_slices_Contains_Lint_int (slotsOf L c) s.sl
 have hcp:=contains_placeN s.sl (slotsOf L c) 0 (Int.le_refl _)
 rw [← hc1] at hhs
 simp only [if_true,Bool.true_and]
 by_cases d5:s.d=5
 ·rw [if_neg (by omega),if_pos d5]
  cases ho:ownB L.length s.c
  all_goals rw [ho] at hcs
  all_goals repeat' (first|(with_reducible first|refine OL.st ?_|refine OL.box ?_|refine TC.region ?_|refine TC.seq ?_|refine OL.nil ?_|refine TX.thenN ?_|refine TC.block ?_|refine TC.skip ?_|refine TC.exit ?_|refine TX.hit ?_|refine TX.thenX ?_|refine TC.ifD ?_ ?_<;>(intro hc;try (exfalso;omega)))|((with_reducible refine TC.draw (id:=1) true 13 13 ?_<;>refine OD.st4 0 1 2 3 ?_<;>refine OD.sD 8 ?_ ?_<;>(intro hc;try (exfalso;omega))<;>(first|(with_reducible refine OD.st 4 ?_)|(with_reducible refine OD.of 4 ?_))<;>refine OD.st4 5 6 7 8 ?_<;>refine OD.st4 9 10 11 12 ?_<;>refine OD.dn ?_))|fail)
  all_goals (with_reducible refine TC.draw (id:=7) true 6 6 ?_<;>refine OD.st2 0 2 ?_<;>refine OD.st 3 ?_<;>refine OD.e1 1 (ss.length-1) hlw Tryz.func202 hle ?_<;>refine OD.c1 4 hcs Tryz.func68 ?_<;>refine OD.st 5 ?_<;>refine OD.dn ?_)
  all_goals refine goW ?_
  all_goals exact TX.rt1 [0,1,2] (.ren rfl)
 by_cases d6:s.d=6
 ·rw [if_neg (by omega),if_neg d5,if_pos d6]
  repeat' (first|(with_reducible first|refine OL.st ?_|refine OL.box ?_|refine TC.region ?_|refine TC.seq ?_|refine OL.nil ?_|refine TX.thenN ?_|refine TC.block ?_|refine TC.skip ?_|refine TC.exit ?_|refine TX.hit ?_|refine TX.thenX ?_|refine TX.miss ?_ rfl|refine TC.ifD ?_ ?_<;>(intro hc;try (exfalso;omega))|refine TC.ret ?_)|((with_reducible refine TC.draw (id:=1) true 13 13 ?_<;>refine OD.st4 0 1 2 3 ?_<;>refine OD.sD 8 ?_ ?_<;>(intro hc;try (exfalso;omega))<;>(first|(with_reducible refine OD.st 4 ?_)|(with_reducible refine OD.of 4 ?_))<;>refine OD.st4 5 6 7 8 ?_<;>refine OD.st4 9 10 11 12 ?_<;>refine OD.dn ?_))|fail)
  exact TX.rt1 [0,1,2] (.ren rfl)
 rw [if_pos (by omega),hth,hc1,Int.toNat_natCast]
 generalize placeN (slotsOf L c) s.sl 0=pl at *
 cases hcb:(slotsOf L c).contains s.sl
 ·have hpl:pl < 0:=by
   rw [hcb] at hcp;simp only [Bool.false_eq_true,false_iff] at hcp;omega
  rw [if_pos hpl]
  rw [hcb] at hct
  by_cases d4:s.d=4
  ·cases hvb:valB s.v ts.length
   all_goals rw [hvb] at hva
   ·rw [if_pos ⟨d4,rfl⟩]
    repeat' (first|(with_reducible first|refine OL.st ?_|refine OL.box ?_|refine TC.region ?_|refine TC.seq ?_|refine OL.nil ?_|refine TX.thenN ?_|refine TC.block ?_|refine TC.skip ?_|refine TC.exit ?_|refine TX.hit ?_|refine TX.thenX ?_|refine TX.miss ?_ rfl|refine TC.ifD ?_ ?_<;>(intro hc;try (exfalso;omega)))|((with_reducible refine TC.draw (id:=1) true 13 13 ?_<;>refine OD.st4 0 1 2 3 ?_<;>refine OD.sD 8 ?_ ?_<;>(intro hc;try (exfalso;omega))<;>(first|(with_reducible refine OD.st 4 ?_)|(with_reducible refine OD.of 4 ?_))<;>refine OD.st4 5 6 7 8 ?_<;>refine OD.st4 9 10 11 12 ?_<;>refine OD.dn ?_))|fail)
    (with_reducible refine TC.draw (id:=9) true 9 9 ?_<;>refine OD.st4 0 2 3 4 ?_<;>refine OD.st2 5 6 ?_<;>refine OD.s1 1 ?_ (h:=gvM)<;>refine OD.c1 7 hva Tryz.func103 ?_<;>refine OD.st 8 ?_<;>refine OD.dn ?_)
    refine goW ?_
    exact TX.rt1 [0,1,2] (.ren rfl)
   ·rw [if_neg (fun h=>by cases h.2)]
    repeat' (first|(with_reducible first|refine OL.st ?_|refine OL.box ?_|refine TC.region ?_|refine TC.seq ?_|refine OL.nil ?_|refine TX.thenN ?_|refine TC.block ?_|refine TC.skip ?_|refine TC.exit ?_|refine TX.hit ?_|refine TX.thenX ?_|refine TX.miss ?_ rfl|refine TC.ifD ?_ ?_<;>(intro hc;try (exfalso;omega)))|((with_reducible refine TC.draw (id:=1) true 13 13 ?_<;>refine OD.st4 0 1 2 3 ?_<;>refine OD.sD 8 ?_ ?_<;>(intro hc;try (exfalso;omega))<;>(first|(with_reducible refine OD.st 4 ?_)|(with_reducible refine OD.of 4 ?_))<;>refine OD.st4 5 6 7 8 ?_<;>refine OD.st4 9 10 11 12 ?_<;>refine OD.dn ?_))|fail)
    (with_reducible refine TC.draw (id:=9) true 9 9 ?_<;>refine OD.st4 0 2 3 4 ?_<;>refine OD.st2 5 6 ?_<;>refine OD.s1 1 ?_ (h:=gvM)<;>refine OD.c1 7 hva Tryz.func103 ?_<;>refine OD.st 8 ?_<;>refine OD.dn ?_)
    refine goW ?_
    (with_reducible refine TC.draw (id:=11) true 16 16 ?_<;>refine OD.st4 0 2 3 4 ?_<;>refine OD.st4 5 6 7 8 ?_<;>refine OD.st4 9 10 12 13 ?_<;>refine OD.e1 1 (ss.length-1) hlw Tryz.func202 hle ?_<;>refine OD.c1 11 hhs Tryz.func69 ?_<;>refine OD.c1 14 hct Tryz.func30 ?_<;>refine OD.st 15 ?_<;>refine OD.dn ?_)
    refine goW ?_
    exact TX.rt1 [0,1,2] (.ren rfl)
  ·rw [if_neg (fun h=>d4 h.1)]
   repeat' (first|(with_reducible first|refine OL.st ?_|refine OL.box ?_|refine TC.region ?_|refine TC.seq ?_|refine OL.nil ?_|refine TX.thenN ?_|refine TC.block ?_|refine TC.skip ?_|refine TC.exit ?_|refine TX.hit ?_|refine TX.thenX ?_|refine TX.miss ?_ rfl|refine TC.ifD ?_ ?_<;>(intro hc;try (exfalso;omega)))|((with_reducible refine TC.draw (id:=1) true 13 13 ?_<;>refine OD.st4 0 1 2 3 ?_<;>refine OD.sD 8 ?_ ?_<;>(intro hc;try (exfalso;omega))<;>(first|(with_reducible refine OD.st 4 ?_)|(with_reducible refine OD.of 4 ?_))<;>refine OD.st4 5 6 7 8 ?_<;>refine OD.st4 9 10 11 12 ?_<;>refine OD.dn ?_))|fail)
   (with_reducible refine TC.draw (id:=11) true 16 16 ?_<;>refine OD.st4 0 2 3 4 ?_<;>refine OD.st4 5 6 7 8 ?_<;>refine OD.st4 9 10 12 13 ?_<;>refine OD.e1 1 (ss.length-1) hlw Tryz.func202 hle ?_<;>refine OD.c1 11 hhs Tryz.func69 ?_<;>refine OD.c1 14 hct Tryz.func30 ?_<;>refine OD.st 15 ?_<;>refine OD.dn ?_)
   refine goW ?_
   exact TX.rt1 [0,1,2] (.ren rfl)
 ·have hpl:¬ pl < 0:=by
   have:=hcp.1 hcb;omega
  rw [if_neg hpl]
  rw [hcb] at hct
  by_cases d4:s.d=4
  ·cases hvb:valB s.v ts.length
   all_goals rw [hvb] at hva
   ·rw [if_pos ⟨d4,rfl⟩]
    repeat' (first|(with_reducible first|refine OL.st ?_|refine OL.box ?_|refine TC.region ?_|refine TC.seq ?_|refine OL.nil ?_|refine TX.thenN ?_|refine TC.block ?_|refine TC.skip ?_|refine TC.exit ?_|refine TX.hit ?_|refine TX.thenX ?_|refine TX.miss ?_ rfl|refine TC.ifD ?_ ?_<;>(intro hc;try (exfalso;omega)))|((with_reducible refine TC.draw (id:=1) true 13 13 ?_<;>refine OD.st4 0 1 2 3 ?_<;>refine OD.sD 8 ?_ ?_<;>(intro hc;try (exfalso;omega))<;>(first|(with_reducible refine OD.st 4 ?_)|(with_reducible refine OD.of 4 ?_))<;>refine OD.st4 5 6 7 8 ?_<;>refine OD.st4 9 10 11 12 ?_<;>refine OD.dn ?_))|fail)
    (with_reducible refine TC.draw (id:=9) true 9 9 ?_<;>refine OD.st4 0 2 3 4 ?_<;>refine OD.st2 5 6 ?_<;>refine OD.s1 1 ?_ (h:=gvM)<;>refine OD.c1 7 hva Tryz.func103 ?_<;>refine OD.st 8 ?_<;>refine OD.dn ?_)
    refine goW ?_
    exact TX.rt1 [0,1,2] (.ren rfl)
   ·rw [if_neg (fun h=>by cases h.2)]
    repeat' (first|(with_reducible first|refine OL.st ?_|refine OL.box ?_|refine TC.region ?_|refine TC.seq ?_|refine OL.nil ?_|refine TX.thenN ?_|refine TC.block ?_|refine TC.skip ?_|refine TC.exit ?_|refine TX.hit ?_|refine TX.thenX ?_|refine TX.miss ?_ rfl|refine TC.ifD ?_ ?_<;>(intro hc;try (exfalso;omega)))|((with_reducible refine TC.draw (id:=1) true 13 13 ?_<;>refine OD.st4 0 1 2 3 ?_<;>refine OD.sD 8 ?_ ?_<;>(intro hc;try (exfalso;omega))<;>(first|(with_reducible refine OD.st 4 ?_)|(with_reducible refine OD.of 4 ?_))<;>refine OD.st4 5 6 7 8 ?_<;>refine OD.st4 9 10 11 12 ?_<;>refine OD.dn ?_))|fail)
    (with_reducible refine TC.draw (id:=9) true 9 9 ?_<;>refine OD.st4 0 2 3 4 ?_<;>refine OD.st2 5 6 ?_<;>refine OD.s1 1 ?_ (h:=gvM)<;>refine OD.c1 7 hva Tryz.func103 ?_<;>refine OD.st 8 ?_<;>refine OD.dn ?_)
    refine goW ?_
    (with_reducible refine TC.draw (id:=11) true 16 16 ?_<;>refine OD.st4 0 2 3 4 ?_<;>refine OD.st4 5 6 7 8 ?_<;>refine OD.st4 9 10 12 13 ?_<;>refine OD.e1 1 (ss.length-1) hlw Tryz.func202 hle ?_<;>refine OD.c1 11 hhs Tryz.func69 ?_<;>refine OD.c1 14 hct Tryz.func30 ?_<;>refine OD.st 15 ?_<;>refine OD.dn ?_)
    refine goW ?_
    exact TX.rt1 [0,1,2] (.ren rfl)
  ·rw [if_neg (fun h=>d4 h.1)]
   repeat' (first|(with_reducible first|refine OL.st ?_|refine OL.box ?_|refine TC.region ?_|refine TC.seq ?_|refine OL.nil ?_|refine TX.thenN ?_|refine TC.block ?_|refine TC.skip ?_|refine TC.exit ?_|refine TX.hit ?_|refine TX.thenX ?_|refine TX.miss ?_ rfl|refine TC.ifD ?_ ?_<;>(intro hc;try (exfalso;omega)))|((with_reducible refine TC.draw (id:=1) true 13 13 ?_<;>refine OD.st4 0 1 2 3 ?_<;>refine OD.sD 8 ?_ ?_<;>(intro hc;try (exfalso;omega))<;>(first|(with_reducible refine OD.st 4 ?_)|(with_reducible refine OD.of 4 ?_))<;>refine OD.st4 5 6 7 8 ?_<;>refine OD.st4 9 10 11 12 ?_<;>refine OD.dn ?_))|fail)
   (with_reducible refine TC.draw (id:=11) true 16 16 ?_<;>refine OD.st4 0 2 3 4 ?_<;>refine OD.st4 5 6 7 8 ?_<;>refine OD.st4 9 10 12 13 ?_<;>refine OD.e1 1 (ss.length-1) hlw Tryz.func202 hle ?_<;>refine OD.c1 11 hhs Tryz.func69 ?_<;>refine OD.c1 14 hct Tryz.func30 ?_<;>refine OD.st 15 ?_<;>refine OD.dn ?_)
   refine goW ?_
   exact TX.rt1 [0,1,2] (.ren rfl)
end Go.Proofs
namespace Go.Proofs
open Go Go.W Go.V
theorem play_ok (lz:Bool):∀ (l:List Step) (ss:List (List Cls)) (ts:List Thing),WOk ss ts→(∀ s∈l,ShortC s.k)→WOk (playV lz ss ts l).1 (playV lz ss ts l).2.1
 | [],_,_,h,_=>h
 | s::l,ss,ts,h,hl=>by
   rw [playV]
   by_cases hr:refusedE ss ts s=0
   ·rw [if_pos hr]
    exact play_ok lz l _ _ (step_ok h (hl s (by simp)) (refused_ok hr)) (fun x hx=>hl x (by simp [hx]))
   ·rw [if_neg hr]
    exact play_ok lz l _ _ h (fun x hx=>hl x (by simp [hx]))
theorem play_lens (lz:Bool):∀ (l:List Step) (ss:List (List Cls)) (ts:List Thing),(playV lz ss ts l).2.2.1.length=l.length∧(playV lz ss ts l).2.2.2.length=l.length
 | [],_,_=>⟨rfl,rfl⟩
 | s::l,ss,ts=>by
   rw [playV]
   by_cases hr:refusedE ss ts s=0
   ·rw [if_pos hr]
    have:=play_lens lz l (doS ss s) (doT lz ss ts s)
    exact ⟨by dsimp only;rw [List.length_cons,List.length_cons,this.1],by dsimp only;rw [List.length_cons,List.length_cons,this.2]⟩
   ·rw [if_neg hr]
    have:=play_lens lz l ss ts
    exact ⟨by dsimp only;rw [List.length_cons,List.length_cons,this.1],by dsimp only;rw [List.length_cons,List.length_cons,this.2]⟩
end Go.Proofs
namespace Go.Proofs
open Go Go.W Go.V
def doX (lz:Bool) (ss:List (List Cls)) (ts:List Thing) (s:Step):Wld × (Int × Int) × Int:=
 if formedB lz ss ts then (if refusedE ss ts s=0 then ((lz,doS ss s,doT lz ss ts s),doR ss ts s,0) else ((false,[],[]),(0,0),refusedE ss ts s)) else ((false,[],[]),(0,0),2)
def playX (lz:Bool) (ss:List (List Cls)) (ts:List Thing) (l:List Step):Wld × List (Int × Int) × List Int × Int:=
 if formedB lz ss ts=true∧l.length≤60 then ((lz,(playV lz ss ts l).1,(playV lz ss ts l).2.1),(playV lz ss ts l).2.2.1,(playV lz ss ts l).2.2.2,0) else ((false,[],[]),[],[],2)
def startX (l:List Cls) (lz:Bool):Wld × Int:=if goodB l then ((lz,[l],[]),0) else ((false,[],[]),2)
theorem playV_snoc (lz:Bool) (s:Step):∀ (l:List Step) (ss:List (List Cls)) (ts:List Thing),playV lz ss ts (l++[s]) =
  if refusedE (playV lz ss ts l).1 (playV lz ss ts l).2.1 s=0 then
   (doS (playV lz ss ts l).1 s,doT lz (playV lz ss ts l).1 (playV lz ss ts l).2.1 s,(playV lz ss ts l).2.2.1++[doR (playV lz ss ts l).1 (playV lz ss ts l).2.1 s],(playV lz ss ts l).2.2.2++[0])
  else ((playV lz ss ts l).1,(playV lz ss ts l).2.1,(playV lz ss ts l).2.2.1++[(0,0)],(playV lz ss ts l).2.2.2++[refusedE (playV lz ss ts l).1 (playV lz ss ts l).2.1 s])
 | [],ss,ts=>by
   by_cases h:refusedE ss ts s=0<;>simp [playV,h]
 | x::l,ss,ts=>by
   rw [List.cons_append]
   by_cases h:refusedE ss ts x=0
   ·have e:∀ r,playV lz ss ts (x::r)=((playV lz (doS ss x) (doT lz ss ts x) r).1,(playV lz (doS ss x) (doT lz ss ts x) r).2.1,doR ss ts x::(playV lz (doS ss x) (doT lz ss ts x) r).2.2.1,0::(playV lz (doS ss x) (doT lz ss ts x) r).2.2.2):=fun r=>by rw [playV,if_pos h]
    rw [e,e,playV_snoc lz s l]
    by_cases h2:refusedE (playV lz (doS ss x) (doT lz ss ts x) l).1 (playV lz (doS ss x) (doT lz ss ts x) l).2.1 s=0
    ·rw [if_pos h2];dsimp only;rw [if_pos h2];rfl
    ·rw [if_neg h2];dsimp only;rw [if_neg h2];rfl
   ·have e:∀ r,playV lz ss ts (x::r)=((playV lz ss ts r).1,(playV lz ss ts r).2.1,(0,0)::(playV lz ss ts r).2.2.1,refusedE ss ts x::(playV lz ss ts r).2.2.2):=fun r=>by rw [playV,if_neg h]
    rw [e,e,playV_snoc lz s l]
    by_cases h2:refusedE (playV lz ss ts l).1 (playV lz ss ts l).2.1 s=0
    ·rw [if_pos h2];dsimp only;rw [if_pos h2];rfl
    ·rw [if_neg h2];dsimp only;rw [if_neg h2];rfl
end Go.Proofs
