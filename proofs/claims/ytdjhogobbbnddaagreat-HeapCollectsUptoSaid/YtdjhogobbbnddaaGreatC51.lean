/- Lemmas for the claim; no conditions. -/
import Derived.Test.YtdjhogobbbnddaaGreatC23
import Derived.Test.YtdjhogobbbnddaaGreatC19
import Derived.Test.YtdjhogobbbnddaaGreatC18
import Derived.Test.YtdjhogobbbnddaaGreatC44
namespace Go.V
open Go Go.W
theorem Ywt {C:Cx} {ρ:Ro} {η:Eta} {x y:Operand} {X:Nat} {M:Bool} {len E sz:Nat} {j:Int} {u u':AV} (n:Nat) (hs:(C.tab X).map (·.sh)=some (.array len E):=by with_unfolding_all exact rfl) (hz:(C.tab E).map (·.size)=some sz:=by with_unfolding_all exact rfl) (hx:ev2 ρ x=some u:=by with_unfolding_all exact rfl) (hy:ev2 ρ y=some (.raw (.int .i64 j)):=by with_unfolding_all exact rfl)
  (hj:j=(n:Nat):=by omega) (hn:n < len:=by omega) (hu:Ygb (n*sz) u=some u':=by with_unfolding_all exact rfl):Yaj C.P C.N C.D (.indexAddr X x y) ρ η u' M:=YcZ C.hT hs hz hx hy hj hn hu
end Go.V
namespace Go.Proofs
open Go Go.W Go.V
theorem Yd7 {G H:List Int}:∀ (ws vs:List Int) (row row':List (Nat × Nat)),Ya2 G H row ws vs=some row'→∃ r,row'=row++r
 | [],[],row,row',h=>by rw [Ya2] at h;cases h;exact ⟨[],by simp⟩
 | [],_::_,row,row',h=>by rw [Ya2] at h;cases h;all_goals simp
 | _::_,[],row,row',h=>by rw [Ya2] at h;cases h;all_goals simp
 | w::ws,v::vs,row,row',h=>by
   rw [Ya2] at h;split at h
   ·split at h
    ·exact Yd7 ws vs row row' h
    ·cases h
   ·split at h
    ·obtain ⟨r,e⟩:=Yd7 ws vs _ row' h;exact ⟨_::r,by rw [e,List.append_assoc];rfl⟩
    ·split at h
     ·exact Yd7 ws vs row row' h
     ·cases h
theorem YvY:WideMaps.ArrKey Tryz.prog 171 3 2:=⟨by kernel_rfl,by kernel_rfl,by kernel_rfl,by kernel_rfl⟩
theorem YxS:Tryz.prog.underlying 3=some (.int .i64):=by kernel_rfl
theorem YxQ:∃ m,Tryz.prog.types.size=m+1:=by
 have h:Tryz.prog.types.isEmpty=false:=by kernel_rfl
 cases hs:Tryz.prog.types.size with
 | zero=>rw [Array.isEmpty,hs] at h;cases h
 | succ m=>exact ⟨m,rfl⟩
def Yl3 (x:Nat × Nat):Value:=.agg #[.int .i64 (x.1:Nat),.int .i64 (x.2:Nat)]
abbrev Yj2 (row:List (Nat × Nat)):List (Value × AV):=row.map fun x=>(Yl3 x,V.bool true)
theorem YoU {x y:Nat × Nat} (h:Yl3 x=Yl3 y):x=y:=by
 simp only [Yl3,Value.agg.injEq,Array.mk.injEq,List.cons.injEq,Value.int.injEq,true_and,and_true] at h;exact Prod.ext (by omega) (by omega)
theorem Ykt (x:Nat × Nat) (h1:x.1≤1000000) (h2:x.2≤1000000):∃ l,keyOf Tryz.prog 171 (Yl3 x)=some l:=YxV YvY YxS YxQ (by omega) (by omega)
abbrev pr4 (p:Prg) (G H:List Int) (bg bh:AV):Eta:=[.cb 93 (stC p (ints G) 1 bg),.mo (slM p.cls p.cls.length),.cb 93 (stC p (ints H) 3 bh),.mo (slM p.cls p.cls.length)]
abbrev prL (p:Prg) (G H:List Int) (bg bh:AV) (i:Nat) (row:List (Nat × Nat)):Eta:=[.cb 93 (stC p (ints G) 1 bg),.mo (slM p.cls p.cls.length),.cb 93 (stC p (ints H) 3 bh),.mo (slM p.cls p.cls.length),.cb 86 [.bp 0 0],.cb 86 [.bp 2 0],.mo (toM row),.mo (backM row),.mk (Yj2 (row.take i)),.cb 110 [.mp 6],.cb 110 [.mp 7],.cb 170 [.hs 12],.gs false 171 2 none (row.map prA)]
set_option maxHeartbeats 4000000 in
theorem Yqh (p:Prg) (G H:List Int) (hGi:∀ x∈G,YbC x) (hHi:∀ x∈H,YbC x) (sg sk:List Nat) (hG:GH (shp p.cls) G sg) (hH:GH (shp p.cls) H sk) (bg bh:List Bool) (a b:List Int) (hai:∀ w∈a,YbC w) (hbi:∀ w∈b,YbC w) (hao:∀ w∈a,okW sg w=true) (hbo:∀ w∈b,okW sk w=true) (hal:a.length*8≤140737488355328) (hbl:b.length*8≤140737488355328) :
  V.Spec Tryz.prog 81 [.bp 0 0,.bp 2 0,ints a,ints b] (pr4 p G H (bools bg) (bools bh)) (V.bool (YdM (shp p.cls) G H a b)) (pr4 p G H (bools bg) (bools bh)):=by
 have hl6:=(Yah hG.eq).2.1;have hk6:=(Yah hH.eq).2.1;have hp0:PairOK []:=⟨by simp,by simp⟩;have hm0:=YiI p G H hGi hHi sg sk hG hH bg bh a b hai hbi hao hbo hal hbl [] hp0 ⟨by simp,by simp⟩ ⟨by simp,by simp⟩;have hsp:=YbM hG hH a b [];unfold YdM;refine Se Tryz.func81 rfl rfl rfl fun B hB=>?_;repeat' (first|(with_reducible refine TC.seq ?_)|(with_reducible refine TC.region ?_))
 refine goW ?_;refine ZcE 11 0 171 2 ?_;refine Zc9 8 ?_
 cases hm:Ya2 G H [] a b with
 | none =>
   dsimp only;rw [hm] at hm0;simp only [prO,Option.isSome_none] at hm0;refine Zbg [0,1,2,3,4,5,6,9,7,10,11,12] hm0 Tryz.func125 ?_;refine goW ?_;exact Zad [0,1,2,3] (.ren rfl)
 | some row0 =>
   dsimp only;rw [hm] at hm0;simp only [prO,Option.isSome_some] at hm0;obtain ⟨hp,hsub,hf1,hf2,hcs⟩:=hsp row0 hao hbo hp0 hm;have hr1:RowOK G sg (row0.map (·.1)):=by rw [hf1];exact RowOK.meet hG ⟨by simp,by simp⟩ hao
   have hr2:RowOK H sk (row0.map (·.2)):=by rw [hf2];exact RowOK.meet hH ⟨by simp,by simp⟩ hbo
   generalize hR:Yih (shp p.cls) G H (G.length+H.length) 0 row0=R;refine Zbg [0,1,2,3,4,5,6,9,7,10,11,12] hm0 Tryz.func125 ?_;refine goW ?_;refine Zat (S:=Nat × List (Nat × Nat)) (fun q=>[(4,.bp 4 0),(5,.bp 5 0),(11,.mp 8),(12,.bp 11 0),(13,.fn (.func 125) [] [.bp 4 0,.bp 5 0,.bp 9 0,.bp 10 0,.bp 11 0]),(14,V.int q.1)]) (fun q=>prL p G H (bools bg) (bools bh) q.1 q.2)
    (fun q=>q.1≤q.2.length∧PairOK q.2∧RowOK G sg (q.2.map (·.1))∧RowOK H sk (q.2.map (·.2))∧∃ f,G.length≤q.1+f∧Yih (shp p.cls) G H f q.1 q.2=R) (fun q=>G.length-q.1) (0,row0) [0,1,2,3,4,5,6,7,8,9,10,11,13] ⟨Nat.zero_le _,hp,hr1,hr2,_,by dsimp only;omega,hR⟩ ?_
   clear hp hr1 hr2 hR hm hm0 hsub hf1 hf2 hcs hsp;rintro ⟨i,row⟩ ⟨hi,hp,hr1,hr2,f,hf,hR⟩;dsimp only at hi hp hr1 hr2 hf hR ⊢;have hln:=hr1.len hG;rw [List.length_map] at hln;by_cases hil:i < row.length;rotate_left
   ·have hRt:R=true:=by
     rw [← hR]
     cases f with
     | zero=>rfl
     | succ f=>rw [Yih,if_neg (by omega)]
    subst hRt;refine goW ?_;exact Zad [0,1,2,3] (.ren rfl)
   ·obtain ⟨f,rfl⟩:∃ g,f=g+1:=⟨f-1,by omega⟩;have hgd:row.getD i (0,0)=row[i]:=by rw [List.getD_eq_getElem?_getD,List.getElem?_eq_getElem hil];rfl
    rw [Yih,if_pos hil,hgd] at hR;have hxm:row[i]∈row:=List.getElem_mem hil;obtain ⟨q,hq⟩:∃ q,row[i]=q:=⟨_,rfl⟩;rw [hq] at hR hxm;have hre1:=hr1.re q.1 (List.mem_map.2 ⟨_,hxm,rfl⟩);have hre2:=hr2.re q.2 (List.mem_map.2 ⟨_,hxm,rfl⟩);obtain ⟨hs1,hsl,hsd⟩:=hG.hd hre1.1;obtain ⟨ht1,htl,htd⟩:=hH.hd hre2.1;have hws:wAt G q.1=G[q.1]:=by rw [wAt,List.getD_eq_getElem?_getD,List.getElem?_eq_getElem hsl];rfl
    have hwt:wAt H q.2=H[q.2]:=by rw [wAt,List.getD_eq_getElem?_getD,List.getElem?_eq_getElem htl];rfl
    have hks:∀ x∈Yj2 (row.take i),∃ l,keyOf Tryz.prog 171 x.1=some l:=fun x hx=>by
     obtain ⟨y,hy,rfl⟩:=List.mem_map.1 hx;have hyr:=List.mem_of_mem_take hy;have h1:=(hG.hd (hr1.re y.1 (List.mem_map.2 ⟨y,hyr,rfl⟩)).1).2.1;have h2:=(hH.hd (hr2.re y.2 (List.mem_map.2 ⟨y,hyr,rfl⟩)).1).2.1;exact Ykt y (by omega) (by omega)
    have hk:=Ykt q (by omega) (by omega);have hno:∀ x∈Yj2 (row.take i),x.1≠Yl3 q:=fun x hx e=>by
     obtain ⟨y,hy,rfl⟩:=List.mem_map.1 hx;have e2:=YoU e;subst e2;have hnd:=hp.n1;rw [← List.take_append_drop i row,List.map_append] at hnd;refine (List.nodup_append.1 hnd).2.2 y.1 (List.mem_map.2 ⟨_,hy,rfl⟩) y.1 (List.mem_map.2 ⟨y,?_,rfl⟩) rfl;rw [List.drop_eq_getElem_cons hil,hq];exact List.mem_cons_self ..
    have hkt:Yj2 (row.take i)++[(Yl3 q,V.bool true)]=Yj2 (row.take (i+1)):=by rw [Yab hil,hq];simp
    have hsl1:=Ydb p G bg q.1 hl6 hsd;have hsl2:=Ydb p H bh q.2 hk6 htd;rw [YeU] at hsl1 hsl2;have hso1:=YbW hG hre1.1;have hso2:=YbW hH hre2.1;have hsi1:∀ w∈slotsW (shp p.cls) G q.1,YbC w:=fun w hw=>hGi w (List.mem_of_mem_drop (List.mem_of_mem_take hw))
    have hsi2:∀ w∈slotsW (shp p.cls) H q.2,YbC w:=fun w hw=>hHi w (List.mem_of_mem_drop (List.mem_of_mem_take hw))
    have hsn1:(slotsW (shp p.cls) G q.1).length*8≤140737488355328:=by rw [slotsW,List.length_take,List.length_drop];omega
    have hsn2:(slotsW (shp p.cls) H q.2).length*8≤140737488355328:=by rw [slotsW,List.length_take,List.length_drop];omega
    have hmt:=YiI p G H hGi hHi sg sk hG hH bg bh _ _ hsi1 hsi2 hso1 hso2 hsn1 hsn2 row hp hr1 hr2;have hms:=YbM hG hH (slotsW (shp p.cls) G q.1) (slotsW (shp p.cls) H q.2) row;rw [hws,hwt] at hR;obtain ⟨s,t⟩:=q;dsimp only at hsl hsd htl htd hsl1 hsl2 hmt hms hR hre1 hre2;have hkt:Yj2 (row.take i)++[(.agg #[.int .i64 (s:Nat),.int .i64 (t:Nat)],V.bool true)]=Yj2 (row.take (i+1)):=hkt;refine goW ?_;rw [hq];refine Zda (v:=V.bool false) YvY.law hks hk hno (fun _ _ _=>.raw rfl) ?_;refine goW ?_;rw [hq];refine Zdb YvY.law hks hk hno ?_;rw [hkt];generalize hpk:Yj2 (row.take (i+1))=pk at *
    refine goW ?_;(refine Zal (id:=11) true 12 12 ?_<;>refine Zaf 0 1 2 3 ?_<;>refine Zaf 4 5 6 7 ?_<;>refine OD.st 8 ?_ (h:=Ywt 1)<;>refine Zae 9 10 ?_<;>refine OD.st 11 ?_<;>refine Zaa ?_)
    rw [hq,show ((s,t):Nat × Nat).1=s from rfl,show ((s,t):Nat × Nat).2=t from rfl];refine Zap ?_;refine goW ?_;refine TC.rebase fun B3 hB3 hub hf=>?_;by_cases hh:G[s]=H[t];rotate_left
    ·rw [if_neg hh] at hR;subst hR;(refine Zbi (id:=12) [(4,0,.bp 0 0),(5,0,.bp 2 0)] 28 28 ?_<;>refine ZaQ 0 ?_<;>refine Zaq 1 ?_<;>refine Zaq 2 ?_<;>refine Zaq 3 ?_<;>refine Zaq 5 ?_<;>refine ZaQ 8 ?_<;>refine Zaq 9 ?_<;>refine Zaq 10 ?_<;>refine Zaq 11 ?_<;>refine Zaq 13 ?_)
     all_goals (with_reducible refine OZ.n2 4 12 ?_ ?_)<;>(first|(with_reducible refine NZ.at 4 ?_)<;>(have t4_:=True.intro)<;>(with_reducible refine NZ.s ?_<;>refine Zaq 6 ?_)|(with_reducible refine NZ.at 12 ?_)<;>(have t12_:=True.intro)<;>(with_reducible refine NZ.s ?_<;>refine Zaq 14 ?_)|fail)
     all_goals (first|(have _:=t4_;((with_reducible refine OZ.n2 7 12 ?_ ?_)<;>(first|((with_reducible refine NZ.at 7 ?_)<;>(have t7_:=True.intro)<;>(with_reducible refine NZ.s ?_))|((with_reducible refine NZ.at 12 ?_)<;>(have t12_:=True.intro)<;>(with_reducible refine NZ.s ?_<;>refine Zaq 14 ?_))|fail)))|(have _:=t12_;((with_reducible refine OZ.n2 4 15 ?_ ?_)<;>(first|((with_reducible refine NZ.at 4 ?_)<;>(have t4_:=True.intro)<;>(with_reducible refine NZ.s ?_<;>refine Zaq 6 ?_))|((with_reducible refine NZ.at 15 ?_)<;>(have t15_:=True.intro)<;>(with_reducible refine NZ.s ?_))|fail)))|fail)
     all_goals (first|(have _:=t4_;have _:=t7_;((have t12_:=True.intro)<;>(with_reducible refine ZaR 12 ?_<;>refine Zaq 14 ?_)))|(have _:=t4_;have _:=t12_;((with_reducible refine OZ.n2 7 15 ?_ ?_)<;>(first|((with_reducible refine NZ.at 7 ?_)<;>(have t7_:=True.intro)<;>(with_reducible refine NZ.s ?_))|((with_reducible refine NZ.at 15 ?_)<;>(have t15_:=True.intro)<;>(with_reducible refine NZ.s ?_))|fail)))|(have _:=t12_;have _:=t15_;((have t4_:=True.intro)<;>(with_reducible refine ZaR 4 ?_<;>refine Zaq 6 ?_)))|fail)
     all_goals (first|(have _:=t7_;((have t15_:=True.intro)<;>(with_reducible refine ZaR 15 ?_<;>refine Zaq 16 ?_<;>refine Zaq 17 ?_<;>refine ZbQ 70 ?_ ?_)<;>(intro hc;try (exfalso;omega))<;>(with_reducible refine OZ.of 18 ?_<;>refine OZ.of 19 ?_<;>refine OZ.of 20 ?_<;>refine OZ.of 21 ?_<;>refine OZ.of 22 ?_<;>refine OZ.of 23 ?_<;>refine OZ.of 24 ?_<;>refine OZ.of 25 ?_<;>refine OZ.of 26 ?_<;>refine Zaq 27 ?_)))|(have _:=t15_;((have t7_:=True.intro)<;>(with_reducible refine ZaR 7 ?_<;>refine Zaq 16 ?_<;>refine Zaq 17 ?_<;>refine ZbQ 70 ?_ ?_)<;>(intro hc;try (exfalso;omega))<;>(with_reducible refine OZ.of 18 ?_<;>refine OZ.of 19 ?_<;>refine OZ.of 20 ?_<;>refine OZ.of 21 ?_<;>refine OZ.of 22 ?_<;>refine OZ.of 23 ?_<;>refine OZ.of 24 ?_<;>refine OZ.of 25 ?_<;>refine OZ.of 26 ?_<;>refine Zaq 27 ?_)))|fail)
     all_goals (with_reducible refine Zbj ?_)
     all_goals refine YaF ?_
     all_goals refine Za0 hub ?_
     all_goals exact Zad [0,1,2,3] (.ren rfl)
    ·rw [if_pos hh] at hR
     cases hmm:Ya2 G H row (slotsW (shp p.cls) G s) (slotsW (shp p.cls) H t) with
     | none =>
       rw [hmm] at hR hmt;simp only [prO,Option.isSome_none] at hmt hR;subst hR;generalize slotsW (shp p.cls) G s=s1 at *
       generalize slotsW (shp p.cls) H t=s2 at *
       (refine Zbi (id:=12) [(4,0,.bp 0 0),(5,0,.bp 2 0)] 28 28 ?_<;>refine ZaQ 0 ?_<;>refine Zaq 1 ?_<;>refine Zaq 2 ?_<;>refine Zaq 3 ?_<;>refine Zaq 5 ?_<;>refine ZaQ 8 ?_<;>refine Zaq 9 ?_<;>refine Zaq 10 ?_<;>refine Zaq 11 ?_<;>refine Zaq 13 ?_)
       all_goals (with_reducible refine OZ.n2 4 12 ?_ ?_)<;>(first|(with_reducible refine NZ.at 4 ?_)<;>(have t4_:=True.intro)<;>(with_reducible refine NZ.s ?_<;>refine Zaq 6 ?_)|(with_reducible refine NZ.at 12 ?_)<;>(have t12_:=True.intro)<;>(with_reducible refine NZ.s ?_<;>refine Zaq 14 ?_)|fail)
       all_goals (first|(have _:=t4_;((with_reducible refine OZ.n2 7 12 ?_ ?_)<;>(first|((with_reducible refine NZ.at 7 ?_)<;>(have t7_:=True.intro)<;>(with_reducible refine NZ.s ?_))|((with_reducible refine NZ.at 12 ?_)<;>(have t12_:=True.intro)<;>(with_reducible refine NZ.s ?_<;>refine Zaq 14 ?_))|fail)))|(have _:=t12_;((with_reducible refine OZ.n2 4 15 ?_ ?_)<;>(first|((with_reducible refine NZ.at 4 ?_)<;>(have t4_:=True.intro)<;>(with_reducible refine NZ.s ?_<;>refine Zaq 6 ?_))|((with_reducible refine NZ.at 15 ?_)<;>(have t15_:=True.intro)<;>(with_reducible refine NZ.s ?_))|fail)))|fail)
       all_goals (first|(have _:=t4_;have _:=t7_;((have t12_:=True.intro)<;>(with_reducible refine ZaR 12 ?_<;>refine Zaq 14 ?_)))|(have _:=t4_;have _:=t12_;((with_reducible refine OZ.n2 7 15 ?_ ?_)<;>(first|((with_reducible refine NZ.at 7 ?_)<;>(have t7_:=True.intro)<;>(with_reducible refine NZ.s ?_))|((with_reducible refine NZ.at 15 ?_)<;>(have t15_:=True.intro)<;>(with_reducible refine NZ.s ?_))|fail)))|(have _:=t12_;have _:=t15_;((have t4_:=True.intro)<;>(with_reducible refine ZaR 4 ?_<;>refine Zaq 6 ?_)))|fail)
       all_goals (first|(have _:=t7_;((have t15_:=True.intro)<;>(with_reducible refine ZaR 15 ?_<;>refine Zaq 16 ?_<;>refine Zaq 17 ?_<;>refine ZbQ 70 ?_ ?_)<;>(intro hc;try (exfalso;omega))<;>(with_reducible refine Zaq 18 ?_<;>refine ZaQ 19 ?_<;>refine Zaq 20 ?_<;>refine ZaQ 22 ?_<;>refine Zaq 23 ?_)))|(have _:=t15_;((have t7_:=True.intro)<;>(with_reducible refine ZaR 7 ?_<;>refine Zaq 16 ?_<;>refine Zaq 17 ?_<;>refine ZbQ 70 ?_ ?_)<;>(intro hc;try (exfalso;omega))<;>(with_reducible refine Zaq 18 ?_<;>refine ZaQ 19 ?_<;>refine Zaq 20 ?_<;>refine ZaQ 22 ?_<;>refine Zaq 23 ?_)))|fail)
       all_goals (((with_reducible refine ZaU 21 ?_);refine Zaj [0,1] hsl1 Tryz.func72 ?_<;>(with_reducible refine OL.nil ?_<;>refine ZaI ?_)))
       all_goals (((with_reducible refine ZaU 24 ?_);refine Zaj [2,3] hsl2 Tryz.func72 ?_<;>(with_reducible refine OL.nil ?_<;>refine ZaI ?_)))
       all_goals (((with_reducible refine ZaU 25 ?_);refine Zbg [0,1,2,3,4,5,6,9,7,10,11,12] hmt Tryz.func125 ?_<;>(with_reducible refine OL.nil ?_<;>refine ZaI ?_))<;>(with_reducible refine Zaq 26 ?_<;>refine Zaq 27 ?_))
       all_goals (with_reducible refine Zbj ?_)
       all_goals refine YaF ?_
       all_goals refine Za0 hub ?_
       all_goals exact Zad [0,1,2,3] (.ren rfl)
     | some row2 =>
       obtain ⟨hp',_,hf1,hf2,_⟩:=hms row2 hso1 hso2 hp hmm;have hr1':RowOK G sg (row2.map (·.1)):=by rw [hf1];exact hr1.meet hG hso1
       have hr2':RowOK H sk (row2.map (·.2)):=by rw [hf2];exact hr2.meet hH hso2
       obtain ⟨rr,hrr⟩:=Yd7 _ _ _ _ hmm;have hpk2:Yj2 (row2.take (i+1))=pk:=by rw [hrr,List.take_append_of_le_length (by omega)];exact hpk
       have hi2:i+1≤row2.length:=by rw [hrr,List.length_append];omega
       rw [hmm] at hR hmt;simp only [prO,Option.isSome_some] at hmt hR;generalize slotsW (shp p.cls) G s=s1 at *
       generalize slotsW (shp p.cls) H t=s2 at *
       refine ZaO [(4,.bp 4 0),(5,.bp 5 0),(11,.mp 8),(12,.bp 11 0),(13,.fn (.func 125) [] [.bp 4 0,.bp 5 0,.bp 9 0,.bp 10 0,.bp 11 0]),(14,V.int i),(80,V.bool false)] [.cb 93 (stC p (ints G) 1 (bools bg)),.mo (slM p.cls p.cls.length),.cb 93 (stC p (ints H) 3 (bools bh)),.mo (slM p.cls p.cls.length),.cb 86 [.bp 0 0],.cb 86 [.bp 2 0],.mo (toM row2),.mo (backM row2),.mk pk,.cb 110 [.mp 6],.cb 110 [.mp 7],.cb 170 [.hs 13],.dead,.gs false 171 2 none (row2.map prA)] ?_ ?_
       ·(refine Zbi (id:=12) [(4,0,.bp 0 0),(5,0,.bp 2 0)] 28 28 ?_<;>refine ZaQ 0 ?_<;>refine Zaq 1 ?_<;>refine Zaq 2 ?_<;>refine Zaq 3 ?_<;>refine Zaq 5 ?_<;>refine ZaQ 8 ?_<;>refine Zaq 9 ?_<;>refine Zaq 10 ?_<;>refine Zaq 11 ?_<;>refine Zaq 13 ?_)
        all_goals (with_reducible refine OZ.n2 4 12 ?_ ?_)<;>(first|(with_reducible refine NZ.at 4 ?_)<;>(have t4_:=True.intro)<;>(with_reducible refine NZ.s ?_<;>refine Zaq 6 ?_)|(with_reducible refine NZ.at 12 ?_)<;>(have t12_:=True.intro)<;>(with_reducible refine NZ.s ?_<;>refine Zaq 14 ?_)|fail)
        all_goals (first|(have _:=t4_;((with_reducible refine OZ.n2 7 12 ?_ ?_)<;>(first|((with_reducible refine NZ.at 7 ?_)<;>(have t7_:=True.intro)<;>(with_reducible refine NZ.s ?_))|((with_reducible refine NZ.at 12 ?_)<;>(have t12_:=True.intro)<;>(with_reducible refine NZ.s ?_<;>refine Zaq 14 ?_))|fail)))|(have _:=t12_;((with_reducible refine OZ.n2 4 15 ?_ ?_)<;>(first|((with_reducible refine NZ.at 4 ?_)<;>(have t4_:=True.intro)<;>(with_reducible refine NZ.s ?_<;>refine Zaq 6 ?_))|((with_reducible refine NZ.at 15 ?_)<;>(have t15_:=True.intro)<;>(with_reducible refine NZ.s ?_))|fail)))|fail)
        all_goals (first|(have _:=t4_;have _:=t7_;((have t12_:=True.intro)<;>(with_reducible refine ZaR 12 ?_<;>refine Zaq 14 ?_)))|(have _:=t4_;have _:=t12_;((with_reducible refine OZ.n2 7 15 ?_ ?_)<;>(first|((with_reducible refine NZ.at 7 ?_)<;>(have t7_:=True.intro)<;>(with_reducible refine NZ.s ?_))|((with_reducible refine NZ.at 15 ?_)<;>(have t15_:=True.intro)<;>(with_reducible refine NZ.s ?_))|fail)))|(have _:=t12_;have _:=t15_;((have t4_:=True.intro)<;>(with_reducible refine ZaR 4 ?_<;>refine Zaq 6 ?_)))|fail)
        all_goals (first|(have _:=t7_;((have t15_:=True.intro)<;>(with_reducible refine ZaR 15 ?_<;>refine Zaq 16 ?_<;>refine Zaq 17 ?_<;>refine ZbQ 70 ?_ ?_)<;>(intro hc;try (exfalso;omega))<;>(with_reducible refine Zaq 18 ?_<;>refine ZaQ 19 ?_<;>refine Zaq 20 ?_<;>refine ZaQ 22 ?_<;>refine Zaq 23 ?_)))|(have _:=t15_;((have t7_:=True.intro)<;>(with_reducible refine ZaR 7 ?_<;>refine Zaq 16 ?_<;>refine Zaq 17 ?_<;>refine ZbQ 70 ?_ ?_)<;>(intro hc;try (exfalso;omega))<;>(with_reducible refine Zaq 18 ?_<;>refine ZaQ 19 ?_<;>refine Zaq 20 ?_<;>refine ZaQ 22 ?_<;>refine Zaq 23 ?_)))|fail)
        all_goals (((with_reducible refine ZaU 21 ?_);refine Zaj [0,1] hsl1 Tryz.func72 ?_<;>(with_reducible refine OL.nil ?_<;>refine ZaI ?_)))
        all_goals (((with_reducible refine ZaU 24 ?_);refine Zaj [2,3] hsl2 Tryz.func72 ?_<;>(with_reducible refine OL.nil ?_<;>refine ZaI ?_)))
        all_goals (((with_reducible refine ZaU 25 ?_);refine Zbg [0,1,2,3,4,5,6,9,7,10,11,12] hmt Tryz.func125 ?_<;>(with_reducible refine OL.nil ?_<;>refine ZaI ?_))<;>(with_reducible refine Zaq 26 ?_<;>refine Zaq 27 ?_))
        all_goals (with_reducible refine Zbj ?_)
        all_goals exact ZaP [0,1,2,3,4,5,6,7,8,9,10,11,12,13]
       refine Zap ?_;refine YaF ?_;refine Za0 hub ?_;rw [← hpk2];exact Zan (i+1,row2) [0,1,2,3,4,5,6,7,8,9,10,11,13] ⟨hi2,hp',hr1',hr2',f,by dsimp only;omega,hR⟩ (by dsimp only;omega)
end Go.Proofs
