/- Lemmas for the claim; no conditions. -/
import Derived.Test.YtdjhogobbbnddaaGreatC23
import Derived.Test.YtdjhogobbbnddaaGreatC18
import Derived.Test.YtdjhogobbbnddaaGreatC43
namespace Go.Proofs
open Go Go.W Go.V
def toF (row:List (Nat × Nat)) (s:Nat):Nat:=match row.find? fun x=>x.1==s with
 | some x=>x.2
 | none=>0
def Yfi (row:List (Nat × Nat)) (t:Nat):Nat:=match row.find? fun x=>x.2==t with
 | some x=>x.1
 | none=>0
abbrev toM (row:List (Nat × Nat)):List (Int × AV):=row.map fun x=>((x.1:Int),V.int (x.2:Nat))
abbrev backM (row:List (Nat × Nat)):List (Int × AV):=row.map fun x=>((x.2:Int),V.int (x.1:Nat))
theorem YmS:∀ (row:List (Nat × Nat)) (s:Nat),afind (s:Int) (toM row)=some (V.int (toF row s:Nat))∨(afind (s:Int) (toM row)=none∧toF row s=0∧s ∉ row.map (fun x=>Prod.fst x))
 | [],s=>.inr ⟨rfl,rfl,by simp⟩
 | x::row,s=>by
   by_cases h:(Prod.fst x)=s
   ·left;show (if ((s:Int)==((Prod.fst x:Nat):Int)) then some (V.int ((Prod.snd x):Nat)) else afind (s:Int) (toM row))=_;subst h;simp [toF]
   ·have h1:((s:Int)==((Prod.fst x:Nat):Int))=false:=by rw [beq_eq_false_iff_ne];omega
    have h2:((Prod.fst x)==s)=false:=beq_eq_false_iff_ne.2 h;have e1:afind (s:Int) (toM (x::row))=afind (s:Int) (toM row):=by
     show (if ((s:Int)==((Prod.fst x:Nat):Int)) then some (V.int ((Prod.snd x):Nat)) else afind (s:Int) (toM row))=_;rw [h1];rfl
    have e2:toF (x::row) s=toF row s:=by simp only [toF,List.find?_cons,h2]
    rw [e1,e2];rcases YmS row s with q|⟨q1,q2,q3⟩
    ·exact .inl q
    ·exact .inr ⟨q1,q2,fun hm=>by
      rw [List.map_cons] at hm;rcases List.mem_cons.1 hm with e|hm
      ·exact h e.symm
      ·exact q3 hm⟩
theorem Yr2:∀ (row:List (Nat × Nat)) (s:Nat),s ∉ row.map (fun x=>Prod.fst x)→afind (s:Int) (toM row)=none
 | [],_,_=>rfl
 | x::row,s,h=>by
   rw [List.map_cons,List.mem_cons,not_or] at h;have h1:((s:Int)==((Prod.fst x:Nat):Int))=false:=by rw [beq_eq_false_iff_ne];have:=h.1;omega
   show (if ((s:Int)==((Prod.fst x:Nat):Int)) then some (V.int ((Prod.snd x):Nat)) else afind (s:Int) (toM row))=_;rw [h1];exact Yr2 row s h.2
theorem YqX {row:List (Nat × Nat)} (hp:∀ x∈row,0 < (Prod.snd x)) (s:Nat):toF row s=0↔s ∉ row.map (fun x=>Prod.fst x):=by
 unfold toF
 cases h:row.find? fun x=>(Prod.fst x)==s with
 | none =>
   rw [List.find?_eq_none] at h;simp only [true_iff];intro hm;obtain ⟨x,hx,e⟩:=List.mem_map.1 hm;exact h x hx (by simpa using e)
 | some x =>
   have hx:=List.mem_of_find?_eq_some h;have he:=List.find?_some h;have:=hp x hx
   simp only [beq_iff_eq] at he;constructor
   ·intro e;dsimp only at e;omega
   ·intro hn;exact (hn (List.mem_map.2 ⟨x,hx,he⟩)).elim
theorem YiJ:∀ (row:List (Nat × Nat)) (s:Nat),afind (s:Int) (backM row)=some (V.int (Yfi row s:Nat))∨(afind (s:Int) (backM row)=none∧Yfi row s=0∧s ∉ row.map (fun x=>Prod.snd x))
 | [],s=>.inr ⟨rfl,rfl,by simp⟩
 | x::row,s=>by
   by_cases h:(Prod.snd x)=s
   ·left;show (if ((s:Int)==((Prod.snd x:Nat):Int)) then some (V.int ((Prod.fst x):Nat)) else afind (s:Int) (backM row))=_;subst h;simp [Yfi]
   ·have h1:((s:Int)==((Prod.snd x:Nat):Int))=false:=by rw [beq_eq_false_iff_ne];omega
    have h2:((Prod.snd x)==s)=false:=beq_eq_false_iff_ne.2 h;have e1:afind (s:Int) (backM (x::row))=afind (s:Int) (backM row):=by
     show (if ((s:Int)==((Prod.snd x:Nat):Int)) then some (V.int ((Prod.fst x):Nat)) else afind (s:Int) (backM row))=_;rw [h1];rfl
    have e2:Yfi (x::row) s=Yfi row s:=by simp only [Yfi,List.find?_cons,h2]
    rw [e1,e2];rcases YiJ row s with q|⟨q1,q2,q3⟩
    ·exact .inl q
    ·exact .inr ⟨q1,q2,fun hm=>by
      rw [List.map_cons] at hm;rcases List.mem_cons.1 hm with e|hm
      ·exact h e.symm
      ·exact q3 hm⟩
theorem Ynr:∀ (row:List (Nat × Nat)) (s:Nat),s ∉ row.map (fun x=>Prod.snd x)→afind (s:Int) (backM row)=none
 | [],_,_=>rfl
 | x::row,s,h=>by
   rw [List.map_cons,List.mem_cons,not_or] at h;have h1:((s:Int)==((Prod.snd x:Nat):Int))=false:=by rw [beq_eq_false_iff_ne];have:=h.1;omega
   show (if ((s:Int)==((Prod.snd x:Nat):Int)) then some (V.int ((Prod.fst x):Nat)) else afind (s:Int) (backM row))=_;rw [h1];exact Ynr row s h.2
theorem Yn1 {row:List (Nat × Nat)} (hp:∀ x∈row,0 < (Prod.fst x)) (s:Nat):Yfi row s=0↔s ∉ row.map (fun x=>Prod.snd x):=by
 unfold Yfi
 cases h:row.find? fun x=>(Prod.snd x)==s with
 | none =>
   rw [List.find?_eq_none] at h;simp only [true_iff];intro hm;obtain ⟨x,hx,e⟩:=List.mem_map.1 hm;exact h x hx (by simpa using e)
 | some x =>
   have hx:=List.mem_of_find?_eq_some h;have he:=List.find?_some h;have:=hp x hx
   simp only [beq_iff_eq] at he;constructor
   ·intro e;dsimp only at e;omega
   ·intro hn;exact (hn (List.mem_map.2 ⟨x,hx,he⟩)).elim
theorem YfU (k:Int) (u:AV):∀ (es:List (Int × AV)),afind k es=none→afind k (es++[(k,u)])=some u
 | [],_=>by simp [afind]
 | x::es,h=>by
   simp only [afind,List.cons_append] at h ⊢
   cases hk:k==x.1 with
   | true=>rw [hk] at h;simp at h
   | false=>rw [hk] at h;simpa using YfU k u es (by simpa using h)
theorem YuF {row:List (Nat × Nat)} (hp:PairOK row) {s t:Nat} (ht:0 < t):toF row s=t↔(s,t)∈row:=by
 unfold toF
 cases h:row.find? fun x=>x.1==s with
 | none =>
   rw [List.find?_eq_none] at h;constructor
   ·intro e;dsimp only at e;omega
   ·intro hm;exact (h _ hm (by simp)).elim
 | some x =>
   have hx:=List.mem_of_find?_eq_some h;have he:=List.find?_some h;simp only [beq_iff_eq] at he;obtain ⟨a,b⟩:=x;simp only at he;subst he;constructor
   ·intro e;dsimp only at e;subst e;exact hx
   ·intro hm;exact Yix hp.n1 hx hm
theorem Yqq {row:List (Nat × Nat)} (hp:PairOK row) {s t:Nat} (hs:0 < s):Yfi row t=s↔(s,t)∈row:=by
 unfold Yfi
 cases h:row.find? fun x=>x.2==t with
 | none =>
   rw [List.find?_eq_none] at h;constructor
   ·intro e;dsimp only at e;omega
   ·intro hm;exact (h _ hm (by simp)).elim
 | some x =>
   have hx:=List.mem_of_find?_eq_some h;have he:=List.find?_some h;simp only [beq_iff_eq] at he;obtain ⟨a,b⟩:=x;simp only at he;subst he;constructor
   ·intro e;dsimp only at e;subst e;exact hx
   ·intro hm;exact Yio hp.n2 hx hm
abbrev prA (x:Nat × Nat):AV:=.st [V.int (x.1:Nat),V.int (x.2:Nat)]
abbrev prI (p:Prg) (G H:List Int) (bg bh:AV) (row:List (Nat × Nat)):Eta:=[.cb 93 (stC p (ints G) 1 bg),.mo (slM p.cls p.cls.length),.cb 93 (stC p (ints H) 3 bh),.mo (slM p.cls p.cls.length),.cb 86 [.bp 0 0],.cb 86 [.bp 2 0],.mo (toM row),.cb 110 [.mp 6],.mo (backM row),.cb 110 [.mp 8],.cb 170 [.hs 11],.gs false 171 2 none (row.map prA)]
abbrev prJ (p:Prg) (G H:List Int) (bg bh:AV) (row:List (Nat × Nat)):Eta:=[.cb 93 (stC p (ints G) 1 bg),.mo (slM p.cls p.cls.length),.cb 93 (stC p (ints H) 3 bh),.mo (slM p.cls p.cls.length),.cb 86 [.bp 0 0],.cb 86 [.bp 2 0],.mo (toM row),.cb 110 [.mp 6],.mo (backM row),.cb 110 [.mp 8],.cb 170 [.hs 12],.dead,.gs false 171 2 none (row.map prA)]
abbrev prD (p:Prg) (G H:List Int) (bg bh:AV):Eta:=[.cb 93 (stC p (ints G) 1 bg),.mo (slM p.cls p.cls.length),.cb 93 (stC p (ints H) 3 bh),.mo (slM p.cls p.cls.length),.cb 86 [.bp 0 0],.cb 86 [.bp 2 0],.dead,.dead,.dead,.dead,.dead,.dead,.dead]
def prO (p:Prg) (G H:List Int) (bg bh:AV):Option (List (Nat × Nat))→Eta
 | some row=>prJ p G H bg bh row
 | none=>prD p G H bg bh
set_option maxHeartbeats 4000000 in
theorem YiI (p:Prg) (G H:List Int) (hGi:∀ x∈G,YbC x) (hHi:∀ x∈H,YbC x) (sg sk:List Nat) (hG:GH (shp p.cls) G sg) (hH:GH (shp p.cls) H sk) (bg bh:List Bool) (l m:List Int) (hli:∀ w∈l,YbC w) (hmi:∀ w∈m,YbC w) (hlo:∀ w∈l,okW sg w=true) (hmo:∀ w∈m,okW sk w=true) (hll:l.length*8≤140737488355328) (_hml:m.length*8≤140737488355328)
  (row:List (Nat × Nat)) (hp:PairOK row) (hr1:RowOK G sg (row.map (·.1))) (hr2:RowOK H sk (row.map (·.2))) :
  V.Spec Tryz.prog 125 [ints l,ints m,.bp 4 0,.bp 5 0,.bp 7 0,.bp 9 0,.bp 10 0] (prI p G H (bools bg) (bools bh) row) (V.bool (Ya2 G H row l m).isSome) (prO p G H (bools bg) (bools bh) (Ya2 G H row l m)):=by
 have hl6:=(Yah hG.eq).2.1;generalize hR:Ya2 G H row l m=R;refine Se Tryz.func125 rfl rfl rfl fun B hB=>?_;refine Zcr 10 0 ?_;by_cases hlen:l.length=m.length;rotate_left
 ·rw [YiQ _ _ _ hlen] at hR;subst hR;refine goW ?_;exact Zad [0,1,2,3,4,5,6,7,8,9,10,11,12] (.ren rfl) (ho:=by with_unfolding_all exact ⟨⟨_,rfl,.ren rfl⟩,⟨_,rfl,.ren rfl⟩,⟨_,rfl,.ren rfl⟩,⟨_,rfl,.ren rfl⟩,⟨_,rfl,.ren rfl⟩,⟨_,rfl,.ren rfl⟩,⟨_,rfl,OE.dead⟩,⟨_,rfl,OE.dead⟩,⟨_,rfl,OE.dead⟩,⟨_,rfl,OE.dead⟩,⟨_,rfl,OE.dead⟩,⟨_,rfl,OE.dead⟩,⟨_,rfl,OE.dead⟩,trivial⟩)
 ·have hml2:m.length=l.length:=hlen.symm;refine goW ?_;refine Zat (S:=Nat × List (Nat × Nat)) (fun q=>[(0,ints l),(1,ints m),(2,.bp 4 0),(3,.bp 5 0),(4,.bp 7 0),(5,.bp 9 0),(6,.bp 10 0),(18,ints l),(19,V.int l.length),(20,V.int q.1)]) (fun q=>prJ p G H (bools bg) (bools bh) q.2)
   (fun q=>q.1≤l.length∧PairOK q.2∧RowOK G sg (q.2.map (·.1))∧RowOK H sk (q.2.map (·.2))∧Ya2 G H q.2 (l.drop q.1) (m.drop q.1)=R) (fun q=>l.length-q.1) (0,row) [0,1,2,3,4,5,6,7,8,9,10,11,12] ⟨Nat.zero_le _,hp,hr1,hr2,by simpa using hR⟩ ?_
  clear hp hr1 hr2 hR;rintro ⟨k,rw_⟩ ⟨hk,hp,hr1,hr2,hm⟩;dsimp only at hk hp hr1 hr2 hm ⊢;by_cases hkl:k < l.length;rotate_left
  ·rw [List.drop_eq_nil_iff.2 (by omega),List.drop_eq_nil_iff.2 (by omega),Ya2] at hm;subst hm;refine goW ?_;exact Zad [0,1,2,3,4,5,6,7,8,9,10,11,12] (.ren rfl) (ho:=by with_unfolding_all exact ⟨⟨_,rfl,.ren rfl⟩,⟨_,rfl,.ren rfl⟩,⟨_,rfl,.ren rfl⟩,⟨_,rfl,.ren rfl⟩,⟨_,rfl,.ren rfl⟩,⟨_,rfl,.ren rfl⟩,⟨_,rfl,.ren rfl⟩,⟨_,rfl,.ren rfl⟩,⟨_,rfl,.ren rfl⟩,⟨_,rfl,.ren rfl⟩,⟨_,rfl,.ren rfl⟩,⟨_,rfl,.ren rfl⟩,⟨_,rfl,.ren rfl⟩,trivial⟩)
  ·have hok1:=hlo l[k] (List.getElem_mem _);have hok2:=hmo m[k] (List.getElem_mem _);have hob1:=Ydd p G hGi sg hG bg l[k] (hli _ (List.getElem_mem _)) hok1;have hob2:=Ydd p H hHi sk hH bh m[k] (hmi _ (List.getElem_mem _)) hok2;have hln:=hr1.len hG;rw [List.length_map] at hln;rw [List.drop_eq_getElem_cons hkl,List.drop_eq_getElem_cons (show k < m.length by omega),Ya2] at hm;have hre1:Yax G l[k]≠0→Re G sg (Yax G l[k]):=hG.re_obj hok1;have hre2:Yax H m[k]≠0→Re H sk (Yax H m[k]):=hH.re_obj hok2;have hp1:∀ x∈rw_,0 < x.1:=fun x hx=>by have:=(hG.hd (hr1.re x.1 (List.mem_map.2 ⟨x,hx,rfl⟩)).1).1;omega
   have hp2:∀ x∈rw_,0 < x.2:=fun x hx=>by have:=(hH.hd (hr2.re x.2 (List.mem_map.2 ⟨x,hx,rfl⟩)).1).1;omega
   generalize Yax G l[k]=s at *
   generalize Yax H m[k]=t at *
   refine goW ?_;refine TC.rebase fun B3 hB3 hub hf=>?_;refine ZaO [(0,ints l),(1,ints m),(2,.bp 4 0),(3,.bp 5 0),(4,.bp 7 0),(5,.bp 9 0),(6,.bp 10 0),(10,V.int k),(11,V.int s),(12,V.int t),(18,ints l),(19,V.int l.length),(20,V.int k)] (prJ p G H (bools bg) (bools bh) rw_) ?_ ?_
   ·(refine Zbi (id:=6) [(4,0,.bp 0 0),(5,0,.bp 2 0)] 14 14 ?_<;>refine ZaQ 0 ?_<;>refine Zaq 1 ?_<;>refine Zaq 2 ?_<;>refine Zaq 3 ?_<;>refine ZaQ 6 ?_<;>refine Zaq 7 ?_<;>refine Zaq 8 ?_<;>refine Zaq 9 ?_)
    all_goals (with_reducible refine OZ.n2 4 10 ?_ ?_)<;>(first|(with_reducible refine NZ.at 4 ?_)<;>(have t4_:=True.intro)<;>(with_reducible refine NZ.s ?_)|(with_reducible refine NZ.at 10 ?_)<;>(have t10_:=True.intro)<;>(with_reducible refine NZ.s ?_)|fail)
    all_goals (first|(have _:=t4_;((with_reducible refine OZ.n2 5 10 ?_ ?_)<;>(first|((with_reducible refine NZ.at 5 ?_)<;>(have t5_:=True.intro)<;>((with_reducible refine NZ.a ?_);refine Zaj [0,1] hob1 Tryz.func70 ?_<;>(with_reducible refine OL.nil ?_<;>refine ZaI ?_)))|((with_reducible refine NZ.at 10 ?_)<;>(have t10_:=True.intro)<;>(with_reducible refine NZ.s ?_))|fail)))|(have _:=t10_;((have t4_:=True.intro)<;>(with_reducible refine ZaR 4 ?_)))|fail)
    all_goals (first|(have _:=t5_;((have t10_:=True.intro)<;>(with_reducible refine ZaR 10 ?_)))|(have _:=t10_;((have t5_:=True.intro)<;>((with_reducible refine ZaU 5 ?_);refine Zaj [0,1] hob1 Tryz.func70 ?_<;>(with_reducible refine OL.nil ?_<;>refine ZaI ?_))))|fail)
    all_goals (((with_reducible refine ZaU 11 ?_);refine Zaj [2,3] hob2 Tryz.func70 ?_<;>(with_reducible refine OL.nil ?_<;>refine ZaI ?_))<;>(with_reducible refine Zaq 12 ?_<;>refine Zaq 13 ?_))
    all_goals (with_reducible refine Zbj ?_)
    all_goals exact ZaP [0,1,2,3,4,5,6,7,8,9,10,11,12]
   refine Zap ?_;by_cases hz:s=0∨t=0
   ·rw [if_pos hz] at hm;by_cases hwv:l[k]=m[k]
    ·rw [if_pos hwv] at hm;repeat' (first|(with_reducible first|refine OL.st ?_|refine TC.region ?_|refine TC.seq ?_|refine OL.nil ?_|refine Zap ?_|refine TC.skip ?_|refine TC.exit ?_|refine Za3 ?_|refine Za2 ?_|refine ZaY ?_|refine ZaB ?_|refine ZaD ?_|refine Zay ?_ ?_<;>(intro hc;try (exfalso;omega))|refine Zaz ?_ ?_<;>(intro hc;try (exfalso;omega))|refine Zb2 ?_)|((with_reducible refine Zal (id:=8) true 9 9 ?_<;>refine OD.st 0 ?_<;>refine OD.st 1 ?_<;>refine OD.st 2 ?_<;>refine OD.st 3 ?_<;>refine OD.st 4 ?_<;>refine OD.st 5 ?_<;>refine OD.st 6 ?_<;>refine OD.st 7 ?_<;>refine OD.st 8 ?_<;>refine Zaa ?_))|fail)
     all_goals refine Za0 hub ?_
     all_goals exact Zan (k+1,rw_) [0,1,2,3,4,5,6,7,8,9,10,11,12] ⟨by dsimp only;omega,hp,hr1,hr2,hm⟩ (by dsimp only;omega)
    ·rw [if_neg hwv] at hm;subst hm;repeat' (first|(with_reducible first|refine OL.st ?_|refine TC.region ?_|refine TC.seq ?_|refine OL.nil ?_|refine Zap ?_|refine ZaY ?_|refine ZaB ?_|refine ZaD ?_|refine Zay ?_ ?_<;>(intro hc;try (exfalso;omega))|refine Zaz ?_ ?_<;>(intro hc;try (exfalso;omega))|refine TC.ret ?_|refine ZaE ?_|refine ZaK ?_)|((with_reducible refine Zal (id:=8) true 9 9 ?_<;>refine OD.st 0 ?_<;>refine OD.st 1 ?_<;>refine OD.st 2 ?_<;>refine OD.st 3 ?_<;>refine OD.st 4 ?_<;>refine OD.st 5 ?_<;>refine OD.st 6 ?_<;>refine OD.st 7 ?_<;>refine OD.st 8 ?_<;>refine Zaa ?_))|fail)
     all_goals refine Za0 hub ?_
     all_goals exact Zad [0,1,2,3,4,5,6,7,8,9,10,11,12] (.ren rfl) (ho:=by with_unfolding_all exact ⟨⟨_,rfl,.ren rfl⟩,⟨_,rfl,.ren rfl⟩,⟨_,rfl,.ren rfl⟩,⟨_,rfl,.ren rfl⟩,⟨_,rfl,.ren rfl⟩,⟨_,rfl,.ren rfl⟩,⟨_,rfl,OE.dead⟩,⟨_,rfl,OE.dead⟩,⟨_,rfl,OE.dead⟩,⟨_,rfl,OE.dead⟩,⟨_,rfl,OE.dead⟩,⟨_,rfl,OE.dead⟩,⟨_,rfl,OE.dead⟩,trivial⟩)
   ·rw [if_neg hz] at hm;rw [not_or] at hz;have hs0:0 < s:=by omega
    have ht0:0 < t:=by omega
    have hl1:=YmS rw_ s;have hl2:=YiJ rw_ t;have hl1:afind (s:Int) (toM rw_)=some (V.int (toF rw_ s:Nat))∨(afind (s:Int) (toM rw_)=none∧toF rw_ s=0):=hl1.imp id fun q=>⟨q.1,q.2.1⟩
    have hl2:afind (t:Int) (backM rw_)=some (V.int (Yfi rw_ t:Nat))∨(afind (t:Int) (backM rw_)=none∧Yfi rw_ t=0):=hl2.imp id fun q=>⟨q.1,q.2.1⟩
    have hz1:=YqX hp2 s;have hz2:=Yn1 hp1 t;have he1:=YuF hp (s:=s) ht0;have he2:=Yqq hp (t:=t) hs0;by_cases hn:toF rw_ s=0∧Yfi rw_ t=0
    ·have hn1:=hz1.1 hn.1;have hn2:=hz2.1 hn.2;rw [if_pos ⟨hn1,hn2⟩] at hm;have ha1:=Yr2 rw_ s hn1;have ha2:=Ynr rw_ t hn2;have hg1:=YfU (s:Int) (V.int (t:Nat)) _ ha1;have hg2:=YfU (t:Int) (V.int (s:Nat)) _ ha2;have hre1:=hre1 hz.1;have hre2:=hre2 hz.2;have hr1':RowOK G sg ((rw_++[(s,t)]).map (·.1)):=⟨fun x hx=>by
      rw [List.map_append] at hx;rcases List.mem_append.1 hx with hx|hx
      ·exact hr1.re x hx
      ·simp at hx;subst hx;exact hre1,(hp.snoc hn1 hn2).n1⟩
     have hr2':RowOK H sk ((rw_++[(s,t)]).map (·.2)):=⟨fun x hx=>by
      rw [List.map_append] at hx;rcases List.mem_append.1 hx with hx|hx
      ·exact hr2.re x hx
      ·simp at hx;subst hx;exact hre2,(hp.snoc hn1 hn2).n2⟩
     have hp':=hp.snoc hn1 hn2;have e1:toM rw_++[((s:Int),V.int (t:Nat))]=toM (rw_++[(s,t)]):=by rw [toM,toM,List.map_append];rfl
     have e2:backM rw_++[((t:Int),V.int (s:Nat))]=backM (rw_++[(s,t)]):=by rw [backM,backM,List.map_append];rfl
     have e3:rw_.map prA++[prA (s,t)]=(rw_++[(s,t)]).map prA:=by rw [List.map_append];rfl
     rw [e1] at hg1;rw [e2] at hg2;refine YaF ?_;refine OL.lookup (v:=V.int (0:Nat)) ?_ (.inr ⟨ha1,fun _ _ _=>.raw rfl⟩);refine YaF ?_;refine OL.lookup (v:=V.int (0:Nat)) ?_ (.inr ⟨ha2,fun _ _ _=>.raw rfl⟩);refine YaF ?_;refine ZaO [(0,ints l),(1,ints m),(2,.bp 4 0),(3,.bp 5 0),(4,.bp 7 0),(5,.bp 9 0),(6,.bp 10 0),(10,V.int k),(11,V.int s),(12,V.int t),(18,ints l),(19,V.int l.length),(20,V.int k)] [.cb 93 (stC p (ints G) 1 (bools bg)),.mo (slM p.cls p.cls.length),.cb 93 (stC p (ints H) 3 (bools bh)),.mo (slM p.cls p.cls.length),.cb 86 [.bp 0 0],.cb 86 [.bp 2 0],.mo (toM (rw_++[(s,t)])),.cb 110 [.mp 6],.mo (backM (rw_++[(s,t)])),.cb 110 [.mp 8],.cb 170 [.hs 12],.dead,.gs false 171 2 none (rw_.map prA)] ?_ ?_
     ·(refine Zbi (id:=11) [(7,0,.mp 6),(9,0,.mp 8)] 8 8 ?_<;>refine ZaQ 0 ?_<;>refine Zaq 1 ?_<;>refine ZaQ 2 ?_<;>refine Zaq 3 ?_<;>refine Zaq 4 ?_<;>refine Zaq 5 ?_)
      all_goals (((with_reducible refine ZaU 6 ?_);refine ZbM ?_ (.inl rfl) ha1<;>(with_reducible refine OL.nil ?_<;>refine ZaI ?_)))
      all_goals (((with_reducible refine ZaU 7 ?_);refine ZbM ?_ (.inl rfl) ha2<;>(with_reducible refine OL.nil ?_<;>refine ZaI ?_)))
      all_goals (with_reducible refine Zbj ?_)
      all_goals rw [e1,e2]
      all_goals exact ZaP [0,1,2,3,4,5,6,7,8,9,10,11,12]
     refine Zap ?_;generalize htm:toM (rw_++[(s,t)])=tm at *
     generalize hbm:backM (rw_++[(s,t)])=bm at *
     refine YaF ?_;refine Zc0 ?_;refine YaF ?_;refine OL.lookup ?_ (.inl hg1);refine YaF ?_;refine OL.lookup ?_ (.inl hg2);refine YaF ?_;refine Za0 hub ?_;refine Zd8 14 e3 ?_;rw [← htm,← hbm];exact Zan (k+1,rw_++[(s,t)]) [0,1,2,3,4,5,6,7,8,9,10,11,14] ⟨by dsimp only;omega,hp',hr1',hr2',hm⟩ (by dsimp only;omega)
    ·rw [if_neg (fun q=>hn ⟨hz1.2 q.1,hz2.2 q.2⟩)] at hm;generalize toF rw_ s=τ at *
     generalize Yfi rw_ t=β at *
     by_cases hin:(s,t)∈rw_
     ·rw [if_pos hin] at hm;obtain rfl:=he1.2 hin;obtain rfl:=he2.2 hin;refine YaF ?_;refine OL.lookup ?_ (hl1.imp id fun ⟨a,b⟩=>⟨a,fun _ _ _=>by rw [b];exact .raw rfl⟩);refine YaF ?_;refine OL.lookup ?_ (hl1.imp id fun ⟨a,b⟩=>⟨a,fun _ _ _=>by rw [b];exact .raw rfl⟩);refine YaF ?_;refine OL.lookup ?_ (hl2.imp id fun ⟨a,b⟩=>⟨a,fun _ _ _=>by rw [b];exact .raw rfl⟩);refine YaF ?_;refine Za0 hub ?_;exact Zan (k+1,rw_) [0,1,2,3,4,5,6,7,8,9,10,11,12] ⟨by dsimp only;omega,hp,hr1,hr2,hm⟩ (by dsimp only;omega)
     ·rw [if_neg hin] at hm;subst hm;have hne:¬ τ=t:=fun h=>hin (he1.1 h)
      refine YaF ?_;refine OL.lookup ?_ (hl1.imp id fun ⟨a,b⟩=>⟨a,fun _ _ _=>by rw [b];exact .raw rfl⟩);(refine YxP ?_ ?_<;>intro hc<;>refine YaF ?_)
      ·refine OL.lookup ?_ (hl2.imp id fun ⟨a,b⟩=>⟨a,fun _ _ _=>by rw [b];exact .raw rfl⟩);repeat' (with_reducible first|refine OL.st ?_|refine TC.region ?_|refine TC.seq ?_|refine OL.nil ?_|refine Zap ?_|refine TC.skip ?_|refine ZaB ?_|refine Zay ?_ ?_<;>(intro hc;try (exfalso;omega))|fail)
       refine OL.lookup ?_ (hl1.imp id fun ⟨a,b⟩=>⟨a,fun _ _ _=>by rw [b];exact .raw rfl⟩);refine YaF ?_;refine Za0 hub ?_;exact Zad [0,1,2,3,4,5,6,7,8,9,10,11,12] (.ren rfl) (ho:=by with_unfolding_all exact ⟨⟨_,rfl,.ren rfl⟩,⟨_,rfl,.ren rfl⟩,⟨_,rfl,.ren rfl⟩,⟨_,rfl,.ren rfl⟩,⟨_,rfl,.ren rfl⟩,⟨_,rfl,.ren rfl⟩,⟨_,rfl,OE.dead⟩,⟨_,rfl,OE.dead⟩,⟨_,rfl,OE.dead⟩,⟨_,rfl,OE.dead⟩,⟨_,rfl,OE.dead⟩,⟨_,rfl,OE.dead⟩,⟨_,rfl,OE.dead⟩,trivial⟩)
      ·refine OL.lookup ?_ (hl1.imp id fun ⟨a,b⟩=>⟨a,fun _ _ _=>by rw [b];exact .raw rfl⟩);refine YaF ?_;refine Za0 hub ?_;exact Zad [0,1,2,3,4,5,6,7,8,9,10,11,12] (.ren rfl) (ho:=by with_unfolding_all exact ⟨⟨_,rfl,.ren rfl⟩,⟨_,rfl,.ren rfl⟩,⟨_,rfl,.ren rfl⟩,⟨_,rfl,.ren rfl⟩,⟨_,rfl,.ren rfl⟩,⟨_,rfl,.ren rfl⟩,⟨_,rfl,OE.dead⟩,⟨_,rfl,OE.dead⟩,⟨_,rfl,OE.dead⟩,⟨_,rfl,OE.dead⟩,⟨_,rfl,OE.dead⟩,⟨_,rfl,OE.dead⟩,⟨_,rfl,OE.dead⟩,trivial⟩)
end Go.Proofs
