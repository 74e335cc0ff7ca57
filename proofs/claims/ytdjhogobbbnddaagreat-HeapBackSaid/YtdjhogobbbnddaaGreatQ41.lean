/- Part 41 of what the claim is proved by: lemmas on the model and walks through functions of the program; no conditions. -/
import Derived.Test.YtdjhogobbbnddaaGreatQ18
import Derived.Test.YtdjhogobbbnddaaGreatQ40
import Derived.Test.YtdjhogobbbnddaaGreatQ23
import Derived.Test.YtdjhogobbbnddaaGreatQ22
import Derived.Test.YtdjhogobbbnddaaGreatQ39
import Derived.Test.YtdjhogobbbnddaaGreatQ19
namespace Go.Proofs
open Go Go.W Go.V
def YaU (W:List Int) (st:List Nat):List Nat:=st.filter fun x=>decide (wAt W x / 64=0)
def YmY (rs:List Nat) (i:Int):Int:=((rs.idxOf i.toNat:Nat):Int)
def Ylw (sh:Int→Option Nat) (W:List Int) (num:Int→Int) (x:Nat):Ob:=(wAt W x,(slotsW sh W x).map (Yrj W num))
theorem Yti {rs:List Nat} {x:Nat} (h:x∈rs):afind (x:Int) (idM rs (List.range rs.length))=some (V.int (YmY rs x)):=by
 have hi:=List.idxOf_lt_length_of_mem h;rw [Ymw _ _ _ (by simp) h,List.getD_eq_getElem?_getD,List.getElem?_range hi];rfl
theorem YeU (sh:Int→Option Nat) (W:List Int) (i:Nat):(W.take (i+1+szW sh (wAt W i))).drop (i+1)=slotsW sh W i:=by
 rw [List.drop_take,slotsW,show i+1+szW sh (wAt W i)-(i+1)=szW sh (wAt W i) by omega]
abbrev nilA:AV:=.raw (.slice none 0 0)
section
variable (p:Prg) (hs:Ya9 p.cls) (hpk:∀ x∈p.nodes,x.2.2.length*8≤140737488355328) (W:List Int) (hW:∀ x∈W,YbC x) (hWl:W.length*8≤140737488355328) (ws:List Int) (hws:∀ w∈ws,YbC w)
include hs hpk hW hWl hws
set_option maxHeartbeats 4000000 in
theorem Yni (hp:Ybk p=true) (hgw:Ydi (shp p.cls) W=true) (st:List Nat) (hst:starts (shp p.cls) W=some st) (hG:GH (shp p.cls) W st) (hok:ws.all (okW st)=true) (hwl:ws.length*16≤140737488355328) :
  Ybu Tryz.prog 63 [.ep (YbB p) 0,.ep [ints W] 0,.ep [ints ws] 0,.bp 0 0,.bp 1 0] [.cb Tc.Lapi_MeanThing [nilA],.cb Tc.Lapi_MeanVal [nilA]] (.tp [])
   [.cb Tc.Lapi_MeanThing [.hs 2],.cb Tc.Lapi_MeanVal [.hs 3],.gs false Tc.api_MeanThing 2 none ((YaU W st).map fun x=>obA (Ylw (shp p.cls) W (YmY (YaU W st)) x)),.gs false Tc.api_MeanVal 2 none ((ws.map (Yrj W (YmY (YaU W st)))).map Ycb)]
   ((YaU W st).length≤40) (rfv 3) [.cb Tc.Lapi_MeanThing [nilA],.cb Tc.Lapi_MeanVal [nilA]]:=by
 have hlt:=fun x hx=>(hG.hd (x:=x) hx).2.1
 have h2:=YaB p hs hpk W hW hWl hp hgw;rw [stW,hst,Option.getD_some] at h2;have hwd:=(Ycz p W st hlt ws hws).yes hok;refine Ybu.enterQ Tryz.tabOK Tryz.mixed Tryz.func63 rfl rfl rfl fun B hB=>?_;refine TF.seq ?_;refine goW ?_;refine OL.c h2 Tryz.func64 ?_;refine goW ?_;refine TX.thenF ?_;refine TF.seq ?_;refine goW ?_;refine OL.ch [2,3,4] hwd Tryz.func65 ?_;refine goW ?_;refine TX.thenF ?_;refine TF.seq ?_;refine goW ?_;refine TX.vwC 2 0 ?_;refine TX.thenF ?_;refine TF.seqF ?_;refine TF.seq ?_;refine goW ?_;refine TX.thenF ?_;refine TF.block ?_;generalize hms:marks W.length st=ms at *
 have hnd:=Ygt hst;refine TF.rfO (fun x:Nat=>V.int x) [(18,.fn (.func 66) [.bp 2 0] []),(2,.ep [ints ws] 0),(3,.bp 0 0),(4,.bp 1 0),(5,.bp 5 0),(6,.bp 7 0)]
  (fun pre=>[.cb Tc.Lapi_MeanThing [nilA],.cb Tc.Lapi_MeanVal [nilA],.cb Tc.heap_store (stC p (ints W) 4 (bools ms)),.gs true Tc.int 1 none (W.map V.int),.mo (slM p.cls p.cls.length),.cb Tc.Pheap_store [.bp 2 0],.mo (idM (YaU W pre) (List.range (YaU W pre).length)),.cb Tc.map_int_int [.mp 6]])
  [2,4] [] (fun _=>True) False 8 [0,1,2,3,4,5,6,7]
  (Yfp p W ms st (rfv 3) hst) Tryz.func63 Tryz.func66 rfl rfl ?_ ?_ (fun _=>rfl) rfl rfl ?_ ?_ ?_ (by simp) (by simp) rfl rfl rfl (by decide) ?_ ?_ trivial ?_ ?_ ?_
 ·with_unfolding_all exact ⟨.ren rfl,trivial⟩
 ·with_unfolding_all exact trivial
 ·with_unfolding_all exact ⟨⟨_,rfl,.ren rfl⟩,⟨_,rfl,.ren rfl⟩,⟨_,rfl,.ren rfl⟩,⟨_,rfl,.gs⟩,⟨_,rfl,.ren rfl⟩,⟨_,rfl,.ren rfl⟩,⟨_,rfl,.ren rfl⟩,⟨_,rfl,.ren rfl⟩,trivial⟩
 ·with_unfolding_all exact ⟨⟨_,rfl,.ren rfl⟩,⟨_,rfl,.ren rfl⟩,⟨_,rfl,.ren rfl⟩,⟨_,rfl,.ren rfl⟩,⟨_,rfl,.ren rfl⟩,⟨_,rfl,.ren rfl⟩,trivial⟩
 ·with_unfolding_all exact ⟨⟨_,rfl,.ren rfl⟩,⟨_,rfl,.ren rfl⟩,⟨_,rfl,.ren rfl⟩,⟨_,rfl,.ren rfl⟩,⟨_,rfl,.ren rfl⟩,⟨_,rfl,.ren rfl⟩,trivial⟩
 ·intro _;with_unfolding_all exact ⟨⟨_,rfl,.ren rfl⟩,⟨_,rfl,.ren rfl⟩,trivial⟩
 ·intro _;with_unfolding_all exact ⟨rfl,rfl,trivial⟩
 ·rintro pre x Bx hBx l ⟨r,hr⟩ -
  have hx:x∈st:=by rw [← hr];simp
  obtain ⟨hx1,hxl,hxd⟩:=hG.hd hx;have h0:=hG.nonneg hx;have hwx:wAt W x=W[x]:=by rw [wAt,List.getD_eq_getElem?_getD,List.getElem?_eq_getElem hxl];rfl
  rw [hwx] at h0;have hfw:=YbJ W[x] h0 (hW W[x] (List.getElem_mem hxl)).2;have hnx:x ∉ YaU W pre:=fun hm=>by
   rw [← hr] at hnd;exact (List.nodup_append.1 hnd).2.2 x (List.mem_filter.1 hm).1 x (List.mem_cons_self ..) rfl
  have hap:YaU W (pre++[x])=YaU W pre++(if W[x] / 64=0 then [x] else []):=by
   rw [YaU,List.filter_append,List.filter_cons,hwx];by_cases h:W[x] / 64=0<;>simp [h,YaU]
  rw [hap];generalize YaU W pre=rs at *
  refine YaF ?_;refine OL.c hfw Tryz.func67 ?_;(refine YxP ?_ ?_<;>intro hc<;>refine YaF ?_)
  ·skip;rw [if_pos hc];have e:idM rs (List.range rs.length)++[((x:Int),V.int (rs.length:Nat))]=idM (rs++[x]) (List.range (rs++[x]).length):=by
    rw [List.length_append,List.length_singleton,List.range_succ,YpQ _ _ _ _ (by simp)]
   refine OL.st ?_ (h:=Ypt);rw [show (idM rs (List.range rs.length)).length=rs.length by simp [idM]];refine OL.mapNewC ?_ (.inl rfl) (YjM _ _ _ hnx);rw [← e];refine YaF ?_;exact TX.rqx trivial [0,1,2,3,4,5,6,7]
  ·skip;rw [if_neg hc,List.append_nil];exact TX.rqx trivial [0,1,2,3,4,5,6,7]
 ·intro _ B1 hB1 D1 hM1;refine YaF ?_;refine TX.thenF ?_;generalize hrs:YaU W st=rs at *
  have hlm:(idM rs (List.range rs.length)).length=rs.length:=by simp [idM]
  by_cases h40:rs.length≤40;rotate_left
  ·refine TF.seq ?_;refine goW ?_;refine OL.st ?_ (h:=Ypt);rw [hlm];refine goW ?_;refine OL.cX [] (Ybm 3) Tryz.func68 ?_ (hle:=by with_unfolding_all exact ⟨.bool (decide_eq_false (by omega)),.ren rfl,trivial⟩);repeat' (first|refine TX.thenP ?_|refine TX.blkP ?_)
   exact TX.qaMY h40 hM1 hB [0,1]
  ·refine TF.seq ?_;refine goW ?_;refine OL.st ?_ (h:=Ypt);rw [hlm];refine goW ?_;refine OL.c (Ya5 3) Tryz.func68 ?_ (hle:=by with_unfolding_all exact ⟨.bool (decide_eq_true (by omega)),.ren rfl,trivial⟩);refine goW ?_;refine TX.thenF ?_;refine TF.seq ?_;refine goW ?_;refine TX.thenF ?_;refine TF.seqF ?_;refine TF.seq ?_;refine TC.adpC 0 0 Tc.api_MeanThing 2 ?_;refine goW ?_;refine TX.thenF ?_;refine TF.block ?_;have hnum:∀ w:Int,okW st w=true→w≠0→w.tmod 2=0→afind (Yax W w:Int) (idM rs (List.range rs.length))=some (V.int (YmY rs (Yax W w))):=fun w hw h0 h1=>by
    refine Yti ?_;have h2:Yax W w≠0:=fun h=>by
     rcases (hG.obj_iff hw).1 h with q|q
     ·exact q (YcG.1 h1)
     ·exact h0 q
    obtain ⟨a1,a2⟩:=hG.re_obj hw h2;rw [← hrs];exact List.mem_filter.2 ⟨a1,by simpa using a2⟩
   have hcl:=fun w hi hw=>YnN p W hW st hG ms (idM rs (List.range rs.length)) (YmY rs) w hi hw (hnum w hw)
   generalize hth:(fun x=>obA (Ylw (shp p.cls) W (YmY rs) x))=th at *
   generalize hix:idM rs (List.range rs.length)=ix at *
   refine TF.rfO (fun x:Nat=>V.int x) [(40,.fn (.func 66) [.bp 2 0] []),(2,.ep [ints ws] 0),(3,.bp 0 0),(4,.bp 1 0),(5,.bp 5 0),(6,.bp 7 0),(8,.bp 8 0)]
    (fun pre=>[.cb Tc.Lapi_MeanThing [.hs 9],.cb Tc.Lapi_MeanVal [nilA],.cb Tc.heap_store (stC p (ints W) 4 (bools ms)),.gs true Tc.int 1 none (W.map V.int),.mo (slM p.cls p.cls.length),.cb Tc.Pheap_store [.bp 2 0],.mo ix,.cb Tc.map_int_int [.mp 6],.cb 107 [.fn (.func 69) [] [.bp 7 0,.bp 5 0]],.gs false Tc.api_MeanThing 2 none ((YaU W pre).map th)])
    [2,4] [] (fun _=>True) False 9 [0,1,2,3,4,5,6,7,8,9]
    (Yfp p W ms st (rfv 3) hst) Tryz.func63 Tryz.func66 rfl rfl ?_ ?_ (fun _=>rfl) rfl rfl ?_ ?_ ?_ (by simp) (by simp) rfl rfl rfl (by decide) ?_ ?_ trivial ?_ ?_ ?_
   ·with_unfolding_all exact ⟨.ren rfl,trivial⟩
   ·with_unfolding_all exact trivial
   ·with_unfolding_all exact ⟨⟨_,rfl,.ren rfl⟩,⟨_,rfl,.ren rfl⟩,⟨_,rfl,.ren rfl⟩,⟨_,rfl,.gs⟩,⟨_,rfl,.ren rfl⟩,⟨_,rfl,.ren rfl⟩,⟨_,rfl,.ren rfl⟩,⟨_,rfl,.ren rfl⟩,⟨_,rfl,.ren rfl⟩,⟨_,rfl,.gs⟩,trivial⟩
   ·with_unfolding_all exact ⟨⟨_,rfl,.ren rfl⟩,⟨_,rfl,.ren rfl⟩,⟨_,rfl,.ren rfl⟩,⟨_,rfl,.ren rfl⟩,⟨_,rfl,.ren rfl⟩,⟨_,rfl,.ren rfl⟩,⟨_,rfl,.ren rfl⟩,trivial⟩
   ·with_unfolding_all exact ⟨⟨_,rfl,.ren rfl⟩,⟨_,rfl,.ren rfl⟩,⟨_,rfl,.ren rfl⟩,⟨_,rfl,.ren rfl⟩,⟨_,rfl,.ren rfl⟩,⟨_,rfl,.ren rfl⟩,⟨_,rfl,.ren rfl⟩,trivial⟩
   ·intro _;with_unfolding_all exact ⟨⟨_,rfl,.ren rfl⟩,⟨_,rfl,.ren rfl⟩,trivial⟩
   ·intro _;with_unfolding_all exact ⟨rfl,rfl,trivial⟩
   ·rintro pre x Bx hBx l ⟨r,hr⟩ -
    have hx:x∈st:=by rw [← hr];simp
    obtain ⟨hx1,hxl,hxd⟩:=hG.hd hx;have h0:=hG.nonneg hx;have hwx:wAt W x=W[x]:=by rw [wAt,List.getD_eq_getElem?_getD,List.getElem?_eq_getElem hxl];rfl
    have hfw:=YbJ W[x] (hwx ▸ h0) (hW W[x] (List.getElem_mem hxl)).2;have hsl:=Ydb p W ms x (Yah hst).2.1 hxd;rw [YeU] at hsl;have hsok:=YbW hG hx;have hsi:∀ w∈slotsW (shp p.cls) W x,YbC w:=fun w hw=>hW w (List.mem_of_mem_drop (List.mem_of_mem_take hw))
    have hsn:(slotsW (shp p.cls) W x).length*16≤140737488355328:=by
     have:=(Yah hst).2.1
     rw [slotsW,List.length_take,List.length_drop];omega
    have hch:=Yf7 p W ms ix (slotsW (shp p.cls) W x) (Yrj W (YmY rs)) hsn (fun w hw=>hcl w (hsi w hw) (hsok w hw));have hap:YaU W (pre++[x])=YaU W pre++(if W[x] / 64=0 then [x] else []):=by
     rw [YaU,List.filter_append,List.filter_cons,hwx];by_cases h:W[x] / 64=0<;>simp [h,YaU]
    have hrpl:(YaU W pre).length≤600:=by
     have h1:(YaU W pre).length≤pre.length:=List.length_filter_le _ _;have h2:=congrArg List.length hr;have h3:=Yuv hG;have h4:=(Yah hst).2.1;simp at h2;omega
    have hthx:th x=.st [V.int W[x],Ych ((slotsW (shp p.cls) W x).map (Yrj W (YmY rs)))]:=by rw [← hth,← hwx];rfl
    rw [hap];generalize (slotsW (shp p.cls) W x).map (Yrj W (YmY rs))=vx at *
    generalize slotsW (shp p.cls) W x=sx at *
    generalize YaU W pre=rp at *
    refine YaF ?_;refine OL.c hfw Tryz.func67 ?_;(refine YxP ?_ ?_<;>intro hc<;>refine YaF ?_)
    ·rw [if_pos hc,List.map_append,List.map_singleton,hthx];have hrl:rp.length≤600:=hrpl;refine TC.rebase fun B3 hB3 hub hf=>?_;refine TC.cut [(40,.fn (.func 66) [.bp 2 0] []),(2,.ep [ints ws] 0),(3,.bp 0 0),(4,.bp 1 0),(5,.bp 5 0),(6,.bp 7 0),(8,.bp 8 0)]
      [.cb Tc.Lapi_MeanThing [.hs 10],.cb Tc.Lapi_MeanVal [nilA],.cb Tc.heap_store (stC p (ints W) 4 (bools ms)),.gs true Tc.int 1 none (W.map V.int),.mo (slM p.cls p.cls.length),.cb Tc.Pheap_store [.bp 2 0],.mo ix,.cb Tc.map_int_int [.mp 6],.cb 107 [.fn (.func 69) [] [.bp 7 0,.bp 5 0]],.dead,.gs false Tc.api_MeanThing 2 none (rp.map th++[.st [V.int W[x],Ych vx]])] ?_ ?_
     ·(refine TC.drawZ (id:=12) [(0,0,.hs 9),(5,0,.bp 2 0)] 17 18 ?_<;>refine OZ.ld 0 ?_<;>refine OZ.ld 1 ?_<;>refine OZ.stT 2 ?_<;>refine OZ.stT 3 ?_<;>refine OZ.stT 4 ?_<;>refine OZ.stT 6 ?_<;>refine OZ.ld 9 ?_<;>refine OZ.stT 10 ?_)
      all_goals ((with_reducible refine OZ.n3 5 11 12 ?_ ?_ ?_)<;>(first|((with_reducible refine NZ.at 5 ?_)<;>(have t5_:=True.intro)<;>(with_reducible refine NZ.s ?_<;>refine OZ.stT 7 ?_))|((with_reducible refine NZ.at 11 ?_)<;>(have t11_:=True.intro)<;>((with_reducible refine NZ.a ?_);refine OL.ch [2,4] hsl Tryz.func72 ?_<;>(with_reducible refine OL.nil ?_<;>refine TX.oz ?_)))|((with_reducible refine NZ.at 12 ?_)<;>(have t12_:=True.intro)<;>(with_reducible refine NZ.s ?_))|fail))
      all_goals (first|(have _:=t5_;((with_reducible refine OZ.n3 8 11 12 ?_ ?_ ?_)<;>(first|((with_reducible refine NZ.at 8 ?_)<;>(have t8_:=True.intro)<;>(with_reducible refine NZ.s ?_))|((with_reducible refine NZ.at 11 ?_)<;>(have t11_:=True.intro)<;>((with_reducible refine NZ.a ?_);refine OL.ch [2,4] hsl Tryz.func72 ?_<;>(with_reducible refine OL.nil ?_<;>refine TX.oz ?_)))|((with_reducible refine NZ.at 12 ?_)<;>(have t12_:=True.intro)<;>(with_reducible refine NZ.s ?_))|fail)))|(have _:=t11_;((with_reducible refine OZ.n2 5 12 ?_ ?_)<;>(first|((with_reducible refine NZ.at 5 ?_)<;>(have t5_:=True.intro)<;>(with_reducible refine NZ.s ?_<;>refine OZ.stT 7 ?_))|((with_reducible refine NZ.at 12 ?_)<;>(have t12_:=True.intro)<;>(with_reducible refine NZ.s ?_))|fail)))|(have _:=t12_;((with_reducible refine OZ.n2 5 11 ?_ ?_)<;>(first|((with_reducible refine NZ.at 5 ?_)<;>(have t5_:=True.intro)<;>(with_reducible refine NZ.s ?_<;>refine OZ.stT 7 ?_))|((with_reducible refine NZ.at 11 ?_)<;>(have t11_:=True.intro)<;>((with_reducible refine NZ.a ?_);refine OL.ch [2,4] hsl Tryz.func72 ?_<;>(with_reducible refine OL.nil ?_<;>refine TX.oz ?_)))|fail)))|fail)
      all_goals (first|(have _:=t5_;have _:=t8_;((with_reducible refine OZ.n2 11 12 ?_ ?_)<;>(first|((with_reducible refine NZ.at 11 ?_)<;>(have t11_:=True.intro)<;>((with_reducible refine NZ.a ?_);refine OL.ch [2,4] hsl Tryz.func72 ?_<;>(with_reducible refine OL.nil ?_<;>refine TX.oz ?_)))|((with_reducible refine NZ.at 12 ?_)<;>(have t12_:=True.intro)<;>(with_reducible refine NZ.s ?_))|fail)))|(have _:=t5_;have _:=t11_;((with_reducible refine OZ.n2 8 12 ?_ ?_)<;>(first|((with_reducible refine NZ.at 8 ?_)<;>(have t8_:=True.intro)<;>(with_reducible refine NZ.s ?_))|((with_reducible refine NZ.at 12 ?_)<;>(have t12_:=True.intro)<;>(with_reducible refine NZ.s ?_))|fail)))|(have _:=t5_;have _:=t12_;((with_reducible refine OZ.n2 8 11 ?_ ?_)<;>(first|((with_reducible refine NZ.at 8 ?_)<;>(have t8_:=True.intro)<;>(with_reducible refine NZ.s ?_))|((with_reducible refine NZ.at 11 ?_)<;>(have t11_:=True.intro)<;>((with_reducible refine NZ.a ?_);refine OL.ch [2,4] hsl Tryz.func72 ?_<;>(with_reducible refine OL.nil ?_<;>refine TX.oz ?_)))|fail)))|(have _:=t11_;have _:=t12_;((with_reducible refine OZ.n2 5 13 ?_ ?_)<;>(first|((with_reducible refine NZ.at 5 ?_)<;>(have t5_:=True.intro)<;>(with_reducible refine NZ.s ?_<;>refine OZ.stT 7 ?_))|((with_reducible refine NZ.at 13 ?_)<;>(have t13_:=True.intro)<;>((with_reducible refine NZ.a ?_);refine OL.ch [7,5,2,4,6] hch Tryz.func71 ?_<;>refine OL.vw 65 ?_<;>(with_reducible refine OL.nil ?_<;>refine TX.oz ?_)))|fail)))|fail)
      all_goals (first|(have _:=t5_;have _:=t8_;have _:=t11_;((have t12_:=True.intro)<;>(with_reducible refine OZ.s1 12 ?_)))|(have _:=t5_;have _:=t8_;have _:=t12_;((have t11_:=True.intro)<;>((with_reducible refine OZ.a1 11 ?_);refine OL.ch [2,4] hsl Tryz.func72 ?_<;>(with_reducible refine OL.nil ?_<;>refine TX.oz ?_))))|(have _:=t5_;have _:=t11_;have _:=t12_;((with_reducible refine OZ.n2 8 13 ?_ ?_)<;>(first|((with_reducible refine NZ.at 8 ?_)<;>(have t8_:=True.intro)<;>(with_reducible refine NZ.s ?_))|((with_reducible refine NZ.at 13 ?_)<;>(have t13_:=True.intro)<;>((with_reducible refine NZ.a ?_);refine OL.ch [7,5,2,4,6] hch Tryz.func71 ?_<;>refine OL.vw 65 ?_<;>(with_reducible refine OL.nil ?_<;>refine TX.oz ?_)))|fail)))|(have _:=t11_;have _:=t12_;have _:=t13_;((have t5_:=True.intro)<;>(with_reducible refine OZ.s1 5 ?_<;>refine OZ.stT 7 ?_)))|fail)
      all_goals (first|(have _:=t8_;((have t13_:=True.intro)<;>((with_reducible refine OZ.a1 13 ?_);refine OL.ch [7,5,2,4,6] hch Tryz.func71 ?_<;>refine OL.vw 65 ?_<;>(with_reducible refine OL.nil ?_<;>refine TX.oz ?_))<;>(with_reducible refine OZ.stT 14 ?_ (h:=Yp6))))|(have _:=t13_;((have t8_:=True.intro)<;>(with_reducible refine OZ.s1 8 ?_<;>refine OZ.stT 14 ?_ (h:=Yp6))))|fail)
      all_goals (((with_reducible refine OZ.a1 15 ?_);with_reducible refine OL.lit ?_<;>(with_reducible refine OL.nil ?_<;>refine TX.oz ?_)))
      all_goals (((with_reducible refine OZ.a1 16 ?_);with_reducible refine OL.appO ?_<;>(with_reducible refine OL.nil ?_<;>refine TX.oz ?_)))
      all_goals (((with_reducible refine OZ.w1 17 ?_);with_reducible refine OL.store ?_<;>(with_reducible refine OL.nil ?_<;>refine TX.ow ?_)))
      all_goals (with_reducible refine OZ.dn ?_)
      all_goals exact TX.ct [0,1,2,3,4,5,6,7,8,9,12]
     ·refine YaF ?_;refine TX.unbase hub ?_;exact TX.rqx trivial [0,1,2,3,4,5,6,7,8,10]
    ·rw [if_neg hc,List.append_nil];exact TX.rqx trivial [0,1,2,3,4,5,6,7,8,9]
   ·intro _ B2 hB2 D2 hM2;refine YaF ?_;refine TX.thenF ?_;refine TF.of ?_;have hchw:=Yf7 p W ms ix ws (Yrj W (YmY rs)) (by omega) (fun w hw=>hcl w (hws w hw) (List.all_eq_true.1 hok w hw));refine goW ?_;refine OL.ch [7,5,2,4,6] hchw Tryz.func71 ?_;refine goW ?_;refine TX.qaN ?_;rw [hrs];exact TX.rtM0Y2 h40 hM1 hM2 hB [0,1,9,10]
   ·intro h;exact h.elim
 ·intro h;exact h.elim
end
def Yku (p:Prg) (W ws:List Int):List Ob × List (Int × Int) × Int:=
 if Ybt p W&&ws.all (okW (Yee p W)) then
  (if (YaU W (Yee p W)).length≤40 then ((YaU W (Yee p W)).map (Ylw (shp p.cls) W (YmY (YaU W (Yee p W)))),ws.map (Yrj W (YmY (YaU W (Yee p W)))),0) else ([],[],3))
 else ([],[],2)
abbrev YsP:Eta:=[.cb Tc.Lapi_MeanThing [nilA],.cb Tc.Lapi_MeanVal [nilA]]
theorem Ykk (p:Prg) (W ws:List Int) {o:List Ob} {v:List (Int × Int)} {e:Int} (h:V.Spec Tryz.prog 50 [.fn (.func 63) [] [.ep (YbB p) 0,.ep [ints W] 0,.ep [ints ws] 0,.bp 0 0,.bp 1 0]] YsP (V.int e) [.cb Tc.Lapi_MeanThing [.hs 2],.cb Tc.Lapi_MeanVal [.hs 3],.gs false Tc.api_MeanThing 2 none (o.map obA),.gs false Tc.api_MeanVal 2 none (v.map Ycb)]) :
  V.Spec Tryz.prog 18 [Ya0 p,Yaw W,ints ws] [] (.tp [(Yef o),(Ych v),V.int e]) []:=by
 refine Se Tryz.func18 rfl rfl rfl fun B hB=>?_;repeat' (first|(with_reducible refine TC.seq ?_)|(with_reducible refine TC.region ?_))
 with_reducible refine OL.box ?_
 with_reducible refine OL.box ?_
 with_reducible refine OL.box ?_
 refine OL.frzB 3 ?_;refine OL.frzB 4 ?_;refine OL.frzB 5 ?_;refine goW ?_;refine OL.ch [3,4] h Tryz.func50 ?_;refine OL.vwC 3 0 ?_;refine OL.vwC 4 0 ?_;refine goW ?_;refine TC.cut [(6,.bp 3 0),(7,.bp 4 0),(8,V.int e)] [.dead,.dead,.dead,.cb Tc.Lapi_MeanThing [(Yef o)],.cb Tc.Lapi_MeanVal [(Ych v)]] ?_ ?_
 ·(refine TC.draw (id:=2) false 3 6 ?_<;>refine OD.stT 2 ?_<;>refine OD.n2 0 1 ?_ ?_<;>(first|refine Yaa.at 0 ?_<;>refine Yaa.s ?_ (h:=gv)<;>refine OD.n2 1 3 ?_ ?_<;>(first|refine Yaa.at 1 ?_<;>refine Yaa.s ?_ (h:=gv)<;>(refine OD.a1 3 ?_;refine OL.store ?_;refine OL.nil ?_;refine TX.od ?_)<;>(refine OD.a1 4 ?_;refine OL.store ?_;refine OL.nil ?_;refine TX.od ?_)<;>refine OD.st 5 ?_<;>refine OD.dn ?_|refine Yaa.at 3 ?_<;>(refine Yaa.a ?_;refine OL.store ?_;refine OL.nil ?_;refine TX.od ?_)<;>refine OD.s1 1 ?_<;>(refine OD.a1 4 ?_;refine OL.store ?_;refine OL.nil ?_;refine TX.od ?_)<;>refine OD.st 5 ?_<;>refine OD.dn ?_)|refine Yaa.at 1 ?_<;>refine Yaa.s ?_ (h:=gv)<;>refine OD.s1 0 ?_<;>(refine OD.a1 3 ?_;refine OL.store ?_;refine OL.nil ?_;refine TX.od ?_)<;>(refine OD.a1 4 ?_;refine OL.store ?_;refine OL.nil ?_;refine TX.od ?_)<;>refine OD.st 5 ?_<;>refine OD.dn ?_))
  all_goals exact TX.ct [0,1,2,3,4]
 ·refine goW ?_;exact TX.rv3 [] (.ren rfl) (.ren rfl) (.ren rfl)
section
variable (p:Prg) (hs:Ya9 p.cls) (hpk:∀ x∈p.nodes,x.2.2.length*8≤140737488355328) (W:List Int) (hW:∀ x∈W,YbC x) (hWl:W.length*8≤140737488355328) (ws:List Int) (hws:∀ w∈ws,YbC w) (hwl:ws.length*16≤140737488355328)
include hs hpk hW hWl hws hwl
theorem Yia (h:(Yku p W ws).2.2=0):V.Spec Tryz.prog 18 [Ya0 p,Yaw W,ints ws] [] (.tp [Yef (Yku p W ws).1,Ych (Yku p W ws).2.1,V.int 0]) []:=by
 unfold Yku at h ⊢
 cases hg:Ybt p W&&ws.all (okW (Yee p W)) with
 | false=>rw [hg] at h;cases h
 | true =>
   rw [hg] at h;rw [if_pos rfl] at h ⊢;simp only [Bool.and_eq_true] at hg;obtain ⟨hp,hgw,st,hst,hG⟩:=Ybe hg.1;have hok:=hg.2;rw [YcP hst] at h hok ⊢;by_cases h40:(YaU W st).length≤40
   ·rw [if_pos h40];have h1:=(Yni p hs hpk W hW hWl ws hws hp hgw st hst hG hok hwl).yes h40;dsimp only;have e:((YaU W st).map fun x=>obA (Ylw (shp p.cls) W (YmY (YaU W st)) x))=((YaU W st).map (Ylw (shp p.cls) W (YmY (YaU W st)))).map obA:=by rw [List.map_map];rfl
    rw [e] at h1;exact Ykk p W ws (YbH Tryz.func63 h1)
   ·rw [if_neg h40] at h;cases h
end
abbrev natsA (l:List Nat):List AV:=l.map fun (x:Nat)=>V.int x
abbrev YwB (p:Prg) (W:List Int) (b:AV) (row:List Nat):Eta:=[.cb Tc.heap_store (stC p (ints W) 1 b),.mo (slM p.cls p.cls.length),.cb Tc.Pheap_store [.bp 0 0],.mo (Yp1 row),.cb Tc.map_int_bool [.mp 3],.cb Tc.Lint [.hs 7],.dead,.gs false Tc.int 1 none (natsA row)]
abbrev Yw4 (p:Prg) (W:List Int) (b:AV) (row:List Nat):Eta:=[.cb Tc.heap_store (stC p (ints W) 1 b),.mo (slM p.cls p.cls.length),.cb Tc.Pheap_store [.bp 0 0],.mo (Yp1 row),.cb Tc.map_int_bool [.mp 3],.cb Tc.Lint [.hs 6],.gs false Tc.int 1 none (natsA row)]
theorem Ylv (p:Prg) (W:List Int) (hW:∀ x∈W,YbC x) (st:List Nat) (hG:GH (shp p.cls) W st) (b:List Bool) (ws:List Int) (hwi:∀ w∈ws,YbC w) (hok:∀ w∈ws,okW st w=true) (hwl:ws.length*8≤140737488355328) (row:List Nat) (hr:RowOK W st row) :
  V.Spec Tryz.prog 123 [ints ws,.bp 2 0,.bp 4 0,.bp 5 0] (Yw4 p W (bools b) row) (.tp []) (YwB p W (bools b) (Ybr W row ws)):=by
 have hwl6:=(Yah hG.eq).2.1;refine Se Tryz.func123 rfl rfl rfl fun B hB=>?_;refine TC.mvC 5 0 ?_;refine goW ?_;refine TC.lp (fun k:Nat=>[(1,.bp 2 0),(2,.bp 4 0),(3,.bp 5 0),(8,ints ws),(9,V.int ws.length),(10,V.int k)]) (fun k=>YwB p W (bools b) (Ybr W row (ws.take k))) (fun k=>k≤ws.length) (fun k=>ws.length-k) 0 [0,1,2,3,4,5,6,7] (Nat.zero_le _) ?_;rintro k hk;by_cases hkl:k < ws.length
 ·have hrk:RowOK W st (Ybr W row (ws.take k)):=hr.meet hG fun w hw=>hok w (List.mem_of_mem_take hw)
  have hln:=hrk.len hG;have hok1:=hok ws[k] (List.getElem_mem _);have hob:=Ydd p W hW st hG b ws[k] (hwi _ (List.getElem_mem _)) hok1;have e:Ybr W row (ws.take (k+1))=if Yax W ws[k]=0∨Yax W ws[k]∈Ybr W row (ws.take k) then Ybr W row (ws.take k) else Ybr W row (ws.take k)++[Yax W ws[k]]:=by
   rw [Yab hkl,Yps,YbS,Yd3]
  generalize Ybr W row (ws.take k)=rk at *
  generalize hq:Yax W ws[k]=q at *
  by_cases h0:q=0
  ·rw [if_pos (.inl h0)] at e;subst h0;refine goW ?_;refine OL.ch [0,1] hob Tryz.func70 ?_;refine goW ?_;rw [← e];exact TX.rd (k+1) [0,1,2,3,4,5,6,7] (by omega) (by omega)
  ·by_cases h1:q∈rk
   ·rw [if_pos (.inr h1)] at e;have hlk:=YmU rk q h1;refine goW ?_;refine OL.ch [0,1] hob Tryz.func70 ?_;refine goW ?_;refine OL.lookup ?_ (.inl hlk);refine goW ?_;rw [← e];exact TX.rd (k+1) [0,1,2,3,4,5,6,7] (by omega) (by omega)
   ·rw [if_neg (not_or.2 ⟨h0,h1⟩)] at e;have hlk:=YkD rk q h1;have e1:Yp1 rk++[((q:Int),V.bool true)]=Yp1 (rk++[q]):=(Yro rk q).symm;have e2:natsA rk++[V.int q]=natsA (rk++[q]):=by rw [natsA,natsA,List.map_append];rfl
    have e3:(natsA rk).length=rk.length:=by rw [natsA,List.length_map]
    refine goW ?_;refine OL.ch [0,1] hob Tryz.func70 ?_;refine goW ?_;refine OL.lookup (v:=V.bool false) ?_ (.inr ⟨hlk,fun _ _ _=>.raw rfl⟩);refine goW ?_;refine OL.mapNewC ?_ (.inl rfl) hlk;rw [e1];refine goW ?_;rw [e2,← e];exact TX.rd (k+1) [0,1,2,3,4,5,6,9] (by omega) (by omega)
 ·rw [Yaf (by omega)];refine goW ?_;exact TX.rt0 [0,1,2,3,4,5,6,7]
end Go.Proofs
namespace Go.V
open Go Go.W
theorem OL.adpC {C:Cx} {ops:Array Oper} {Q:Qt} {rest:List Oper} {ρ:Ro} {η η2:Eta} {k T:Nat} {cs:List AV} (i o E sz:Nat) (kk:OL C ops Q rest ρ η2) (ho:η[i]?=some (.cb T cs):=by with_unfolding_all exact rfl) (hc:cs[o]?=some (.raw (.slice none 0 0)):=by with_unfolding_all exact rfl) (hk:η.length=k:=by (try dsimp only [List.length])<;>exact rfl) (hη:η.set i (.cb T (cs.set o (.hs k)))++[.gs false E sz (some true) []]=η2:=by (try dsimp only [List.set,List.cons_append,List.nil_append,List.append_eq])<;>exact rfl):OL C ops Q rest ρ η:=by
 subst hη;exact OL.wk (Wk.adoptCell ho hc hk) kk
end Go.V
namespace Go.Proofs
open Go Go.W Go.V
abbrev Yxd (p:Prg) (W:List Int) (b:AV):Eta:=[.cb Tc.heap_store (stC p (ints W) 1 b),.mo (slM p.cls p.cls.length),.cb Tc.Pheap_store [.bp 0 0]]
theorem Yv6 (p:Prg) (W:List Int) (b:List Bool) (ws:List Int):V.Spec Tryz.prog 77 [.bp 0 0,ints ws] (stF p W (bools b)) (.fn (.func 122) [] [.bp 2 0,.ep [ints ws] 0]) (Yxd p W (bools b)++[.dead]):=by
 refine Se Tryz.func77 rfl rfl rfl fun B hB=>?_;repeat' (first|(with_reducible refine TC.seq ?_)|(with_reducible refine TC.region ?_))
 with_reducible refine OL.box ?_
 with_reducible refine OL.box ?_
 refine OL.frzB 3 ?_;refine goW ?_;exact TX.rt1 [0,1,2,3] (.ren rfl)
structure MeS where
 i:Nat
 row:List Nat
 B:Base
 hB:B.γ.length=3
theorem Yss (p:Prg) (W:List Int) (hW:∀ x∈W,YbC x) (st:List Nat) (hG:GH (shp p.cls) W st) (b:List Bool) (ws:List Int) (hwi:∀ w∈ws,YbC w) (hok:∀ w∈ws,okW st w=true) (hwl:ws.length*8≤140737488355328) (pv:Value) :
  Yqf Tryz.prog 122 (fun x:Nat=>[V.int x]) pv (YjF (shp p.cls) W ws) (Yxd p W (bools b)) [] [.bp 2 0,.ep [ints ws] 0]:=by
 have hl6:=(Yah hG.eq).2.1;have hr0:RowOK W st []:=⟨by simp,by simp⟩;have hm0:=Ylv p W hW st hG b ws hwi hok hwl [] hr0;refine Yqf.enter Tryz.tabOK Tryz.mixed Tryz.func122 rfl rfl rfl fun γ0 I m0 W0 B hB hA=>?_;refine YaF ?_;refine OL.adpC 5 0 Tc.int 1 ?_;refine OL.chv [0,1,2,3,4,5,6] hm0 Tryz.func123 ?_;refine YaF ?_;refine TC.loopC (S:=MeS) (fun S=>⟨Tryz.prog,Tryz.tab,Tryz.tabOK,Tryz.mixed,34,[],S.B,3,S.hB,some none,0⟩) (fun S=>[(0,.raw (.func (.yield I.l) #[] #[])),(1,.bp 2 0),(5,.bp 5 0),(6,.fn (.func 123) [] [.bp 2 0,.bp 4 0,.bp 5 0]),(7,V.int S.i)]) (fun S=>Yw4 p W (bools b) S.row)
  (fun S=>AtO I m0 W0 (S.row.take S.i) S.B∧RowOK W st S.row∧S.i≤S.row.length∧metF (shp p.cls) W W.length S.i S.row=YjF (shp p.cls) W ws) (fun S=>W.length-S.i) ⟨0,Ybr W [] ws,B,hB⟩ ⟨by simpa using hA,hr0.meet hG hok,Nat.zero_le _,rfl⟩ rfl (fun _ _=>rfl) [0,1,2,3,4,5,7] rfl rfl ?_ ?_ ?_
 ·repeat' (first|with_unfolding_all exact trivial|exact OE.ren (by with_unfolding_all exact rfl)|with_unfolding_all refine And.intro ⟨_,by with_unfolding_all exact rfl,?_⟩ ?_)
 ·repeat' (first|with_unfolding_all exact trivial|exact LE.ren (by with_unfolding_all exact rfl)|with_unfolding_all refine And.intro ⟨_,by with_unfolding_all exact rfl,?_⟩ ?_)
 rintro ⟨i,row,B1,hB1⟩ ⟨hA1,hr,hir,hm⟩;dsimp only at hA1 hr hir hm ⊢;have hln:=hr.len hG;have e3:(natsA row).length=row.length:=by rw [natsA,List.length_map]
 by_cases hi:i < row.length
 ·obtain ⟨rr,hrr⟩:=YjK (sh:=shp p.cls) (W:=W) W.length i row;rw [hm] at hrr;have he:row.take i++row[i]::(row.drop (i+1)++rr)=YjF (shp p.cls) W ws:=by
   rw [hrr,← List.cons_append,← List.append_assoc,← List.drop_eq_getElem_cons hi,List.take_append_drop]
  have hxr:=hr.re row[i] (List.getElem_mem hi);have hgd:row.getD i 0=row[i]:=by rw [List.getD_eq_getElem?_getD,List.getElem?_eq_getElem hi];rfl
  have hnx:=YkB hG hr hi;rw [hgd,hm] at hnx;have hsl:=Ydb p W b row[i] hl6 (hG.hd hxr.1).2.2;rw [YeU] at hsl;have hsok:=YbW hG hxr.1;have hsi:∀ w∈slotsW (shp p.cls) W row[i],YbC w:=fun w hw=>hW w (List.mem_of_mem_drop (List.mem_of_mem_take hw))
  have hsn:(slotsW (shp p.cls) W row[i]).length*8≤140737488355328:=by
   rw [slotsW,List.length_take,List.length_drop];omega
  have hmt:=Ylv p W hW st hG b _ hsi hsok hsn row hr;have hr2:=hr.meet hG hsok;obtain ⟨r2,hr2e⟩:=YcN (W:=W) (slotsW (shp p.cls) W row[i]) row;generalize Ybr W row (slotsW (shp p.cls) W row[i])=row2 at *
  generalize slotsW (shp p.cls) W row[i]=sx at *
  have ht:row.take i++[row[i]]=row2.take (i+1):=by rw [hr2e,List.take_append_of_le_length (by omega),Yab hi]
  have hi2:i+1≤row2.length:=by rw [hr2e];simp;omega
  refine YaF ?_;refine OL.yieldO hA1 ⟨_,he⟩ (fun B2 hB2 hA2=>?_) (fun a w hd h=>⟨rfl,hd,h⟩);rw [ht] at hA2;refine YaF ?_;refine TC.rebase fun B3 hB3 hub hf=>?_;refine TC.cut [(0,.raw (.func (.yield I.l) #[] #[])),(1,.bp 2 0),(5,.bp 5 0),(6,.fn (.func 123) [] [.bp 2 0,.bp 4 0,.bp 5 0]),(7,V.int i)] (YwB p W (bools b) row2) ?_ ?_
  ·(refine TC.drawZ (id:=8) [(2,0,.bp 0 0),(5,0,.hs 6)] 7 8 ?_<;>refine OZ.stT 0 ?_<;>refine OZ.ld 1 ?_<;>refine OZ.ld 2 ?_<;>refine OZ.stT 3 ?_<;>refine OZ.stT 4 ?_)
   all_goals ((with_reducible refine OZ.s1 5 ?_))
   all_goals (((with_reducible refine OZ.a1 6 ?_);refine OL.ch [0,1] hsl Tryz.func72 ?_<;>(with_reducible refine OL.nil ?_<;>refine TX.oz ?_)))
   all_goals (((with_reducible refine OZ.w1 7 ?_);refine OL.chv [0,1,2,3,4,5,6] hmt Tryz.func123 ?_<;>(with_reducible refine OL.nil ?_<;>refine TX.ow ?_)))
   all_goals (with_reducible refine OZ.dn ?_)
   all_goals exact TX.ct [0,1,2,3,4,5,6,7]
  ·refine YaF ?_;refine TX.unbase hub ?_;exact TX.rdC ⟨i+1,row2,B2,hB2⟩ [0,1,2,3,4,5,7] ⟨hA2,hr2,hi2,hnx.symm⟩ (by dsimp only;omega) (hr:=⟨⟨_,rfl,LE.ren rfl⟩,⟨_,rfl,LE.ren rfl⟩,⟨_,rfl,LE.ren rfl⟩,⟨_,rfl,LE.ren rfl⟩,⟨_,rfl,LE.int (by dsimp only;omega)⟩,trivial⟩)
 ·have hie:i=row.length:=by omega
  have he:row.take i=YjF (shp p.cls) W ws:=by
   rw [← hm,hie,List.take_length]
   cases W.length with
   | zero=>rfl
   | succ n=>rw [metF,if_neg (by omega)]
  rw [he] at hA1;refine YaF ?_;refine TX.endN ?_;exact TX.endO hA1
abbrev YsS (p:Prg) (W:List Int) (b:AV) (es:List (Int × AV)):Eta:=[.cb Tc.Pheap_store [.bp 2 0],.cb Tc.map_int_int [.mp 4],.cb Tc.heap_store (stC p (ints W) 3 b),.mo (slM p.cls p.cls.length),.mo es]
theorem YjE (p:Prg) (W:List Int) (hW:∀ x∈W,YbC x) (st:List Nat) (hG:GH (shp p.cls) W st) (b:List Bool) (row:List Nat) (hr:RowOK W st row) (w:Int) (hw:YbC w) (hok:okW st w=true) (hin:Yax W w≠0→Yax W w∈row) :
  V.Spec Tryz.prog 78 [V.int w,.bp 0 0,.bp 1 0] (YsS p W (bools b) (idM row (adsF (shp p.cls) W 1 row))) (V.int (YqK (shp p.cls) W row w)) (YsS p W (bools b) (idM row (adsF (shp p.cls) W 1 row))):=by
 have hob:=Ydd p W hW st hG b w hw hok;have hl6:=(Yah hG.eq).2.1;unfold YqK;by_cases h0:Yax W w=0
 ·rw [if_pos h0];rw [h0] at hob;generalize idM row (adsF (shp p.cls) W 1 row)=es at *
  refine Se Tryz.func78 rfl rfl rfl fun B hB=>?_;refine goW ?_;refine OL.ch [2,3] hob Tryz.func70 ?_;refine goW ?_;exact TX.rt1 [0,1,2,3,4] (.ren rfl)
 ·rw [if_neg h0];have hx:=hin h0;have hlk:=Ymw row (adsF (shp p.cls) W 1 row) (Yax W w) (YgM _ _) hx;have hb:=Yvj hG hr hx;rw [show (adsF (shp p.cls) W 1 row).getD (row.idxOf (Yax W w)) 0=adW (shp p.cls) W row (Yax W w) from rfl] at hlk;generalize adW (shp p.cls) W row (Yax W w)=ad at *
  generalize idM row (adsF (shp p.cls) W 1 row)=es at *
  generalize Yax W w=q at *
  refine Se Tryz.func78 rfl rfl rfl fun B hB=>?_;refine goW ?_;refine OL.ch [2,3] hob Tryz.func70 ?_;refine goW ?_;refine OL.lookup ?_ (.inl hlk);refine goW ?_;exact TX.rt1 [0,1,2,3,4] (.ren rfl)
theorem Ygg (p:Prg) (W:List Int) (b:List Bool) (es:List (Int × AV)) (l:List Int) (g:Int→Int) (hl:l.length*8≤140737488355328)
  (hs:∀ x∈l,V.Spec Tryz.prog 78 [V.int x,.bp 0 0,.bp 1 0] (YsS p W (bools b) es) (V.int (g x)) (YsS p W (bools b) es)) :
  V.Spec Tryz.prog 56 [ints l,.fn (.func 78) [] [.bp 0 0,.bp 1 0]] (YsS p W (bools b) es) (.hs 5) (YsS p W (bools b) es++[.gs false Tc.int 1 none ((l.map g).map V.int)]):=by
 refine Se Tryz.func56 rfl rfl rfl fun B hB=>?_;refine goW ?_;refine TC.adp 5 Tc.int 1 ?_;refine TC.lp (fun k:Nat=>[(1,.fn (.func 78) [] [.bp 0 0,.bp 1 0]),(5,.hs 5),(8,ints l),(9,V.int l.length),(10,V.int k)]) (fun k=>YsS p W (bools b) es++[.gs false Tc.int 1 none (((l.take k).map g).map V.int)]) (fun k=>k≤l.length) (fun k=>l.length-k) 0 [0,1,2,3,4,5] (Nat.zero_le _) ?_;rintro k hk;by_cases hkl:k < l.length
 ·have hlen:((l.take k).map g).length=k:=by simp;omega
  have h1:=hs l[k] (List.getElem_mem _);have e:((l.take k).map g).map V.int++[V.int (g l[k])]=((l.take (k+1)).map g).map V.int:=by rw [Yab hkl,List.map_append,List.map_append];rfl
  generalize (l.take k).map g=gk at *
  refine goW ?_;refine OL.chv [0,1,2,3,4] h1 Tryz.func78 ?_;refine goW ?_;exact TX.rd (k+1) [0,1,2,3,4,7] (by omega) (by omega)
 ·rw [Yaf (by omega)];refine goW ?_;exact TX.rt1 [0,1,2,3,4,5] (.ren rfl)
abbrev Yuq:Eta:=[.cb Tc.api_Heap [nilA],.cb Tc.Lint [nilA]]
section
variable (p:Prg) (hs:Ya9 p.cls) (hpk:∀ x∈p.nodes,x.2.2.length*8≤140737488355328) (W:List Int) (hW:∀ x∈W,YbC x) (hWl:W.length*8≤140737488355328) (ws:List Int) (hws:∀ w∈ws,YbC w)
include hs hpk hW hWl hws
set_option maxHeartbeats 4000000 in
theorem Ymz (hp:Ybk p=true) (hgw:Ydi (shp p.cls) W=true) (st:List Nat) (hst:starts (shp p.cls) W=some st) (hG:GH (shp p.cls) W st) (hok:ws.all (okW st)=true) (hwl:ws.length*8≤140737488355328) :
  Ybu Tryz.prog 76 [.ep (YbB p) 0,.ep [ints W] 0,.ep [ints ws] 0,.bp 0 0,.bp 1 0] Yuq (.tp [])
   [.cb Tc.api_Heap [.hs 2],.cb Tc.Lint [.hs 3],.gs false Tc.int 1 none ((Yt8 (shp p.cls) W ws).map V.int),.gs false Tc.int 1 none ((YuJ (shp p.cls) W ws).map V.int)] True (rfv 2) Yuq:=by
 have hlt:=fun x hx=>(hG.hd (x:=x) hx).2.1
 have hl6:=(Yah hst).2.1;have h2:=YaB p hs hpk W hW hWl hp hgw;rw [stW,hst,Option.getD_some] at h2;have hwd:=(Ycz p W st hlt ws hws).yes hok;have hokw:=List.all_eq_true.1 hok;have hmt:=YpA hG hokw;have hsq:=fun pv=>Yss p W hW st hG (marks W.length st) ws hws hokw hwl pv
 have hm1:=Yv6 p W (marks W.length st) ws;unfold Yt8 YuJ;generalize hrow:YjF (shp p.cls) W ws=row at *
 generalize hms:marks W.length st=ms at *
 have hcl:=fun w hi hw hin=>YjE p W hW st hG ms row hmt.ok w hi hw hin
 refine Ybu.enterQ Tryz.tabOK Tryz.mixed Tryz.func76 rfl rfl rfl fun B hB=>?_;refine TF.seq ?_;refine goW ?_;refine OL.c h2 Tryz.func64 ?_;refine goW ?_;refine TX.thenF ?_;refine TF.seq ?_;refine goW ?_;refine OL.ch [2,3,4] hwd Tryz.func65 ?_;refine goW ?_;refine TX.thenF ?_;refine TF.seq ?_;refine goW ?_;refine TX.vwC 2 0 ?_;refine TX.thenF ?_;refine TF.seqF ?_;refine TF.seq ?_;refine goW ?_;refine OL.ch [2,4] hm1 Tryz.func77 ?_;refine goW ?_;refine TX.thenF ?_;refine TF.block ?_;refine TF.rfO (fun x:Nat=>V.int x) [(20,.fn (.func 122) [] [.bp 9 0,.ep [ints ws] 0]),(2,.ep [ints ws] 0),(3,.bp 0 0),(4,.bp 1 0),(5,.bp 5 0),(6,.bp 7 0),(7,.bp 8 0)]
  (fun pre=>[.cb Tc.api_Heap [nilA],.cb Tc.Lint [nilA],.cb Tc.heap_store (stC p (ints W) 4 (bools ms)),.gs true Tc.int 1 none (W.map V.int),.mo (slM p.cls p.cls.length),.cb Tc.Pheap_store [.bp 2 0],.mo (idM pre (adsF (shp p.cls) W 1 pre)),.cb Tc.map_int_int [.mp 6],.cb Tc.int [V.int (endF (shp p.cls) W 1 pre)],.cb Tc.Pheap_store [.bp 2 0],.dead])
  [2,4,9] [] (fun _=>True) False 11 [0,1,2,3,4,5,6,7,8,9,10]
  (hsq (rfv 2)) Tryz.func76 Tryz.func122 rfl rfl ?_ ?_ (fun _=>rfl) rfl rfl ?_ ?_ ?_ (by simp) (by simp) rfl rfl rfl (by decide) ?_ ?_ trivial ?_ ?_ ?_
 ·with_unfolding_all exact trivial
 ·with_unfolding_all exact ⟨.ren rfl,.ren rfl,trivial⟩
 ·repeat' (first|with_unfolding_all exact trivial|exact OE.ren (by with_unfolding_all exact rfl)|with_unfolding_all exact OE.gs|with_unfolding_all refine And.intro ⟨_,by with_unfolding_all exact rfl,?_⟩ ?_)
 ·repeat' (first|with_unfolding_all exact trivial|exact LE.ren (by with_unfolding_all exact rfl)|with_unfolding_all refine And.intro ⟨_,by with_unfolding_all exact rfl,?_⟩ ?_)
 ·repeat' (first|with_unfolding_all exact trivial|exact LE.ren (by with_unfolding_all exact rfl)|with_unfolding_all refine And.intro ⟨_,by with_unfolding_all exact rfl,?_⟩ ?_)
 ·intro _;with_unfolding_all exact ⟨⟨_,rfl,.ren rfl⟩,⟨_,rfl,.ren rfl⟩,⟨_,rfl,.ren rfl⟩,trivial⟩
 ·intro _;with_unfolding_all exact ⟨rfl,rfl,rfl,trivial⟩
 ·rintro pre x Bx hBx l ⟨r,hr⟩ -
  have hx:x∈row:=by rw [← hr];simp
  have hxr:=hmt.ok.re x hx;have hsl:=Ydb p W ms x hl6 (hG.hd hxr.1).2.2;rw [YeU] at hsl;have hsn:(slotsW (shp p.cls) W x).length=szW (shp p.cls) (wAt W x):=hG.slots_len hxr.1;have hnx:x ∉ pre:=fun hm=>by
   have:=hmt.ok.nd
   rw [← hr] at this;exact (List.nodup_append.1 this).2.2 x hm x (List.mem_cons_self ..) rfl
  have hpx:RowOK W st (pre++[x]):=by
   have e:row=(pre++[x])++r:=by rw [← hr];simp
   refine ⟨fun y hy=>hmt.ok.re y (by rw [e];exact List.mem_append_left _ hy),?_⟩;have:=hmt.ok.nd
   rw [e] at this;exact (List.nodup_append.1 this).1
  have hen:=YmD hG hpx;have ha:adsF (shp p.cls) W 1 (pre++[x])=adsF (shp p.cls) W 1 pre++[endF (shp p.cls) W 1 pre]:=by rw [Ynh];rfl
  have hb:endF (shp p.cls) W 1 (pre++[x])=endF (shp p.cls) W 1 pre+1+(slotsW (shp p.cls) W x).length:=by rw [Yno,hsn];rfl
  have e:idM pre (adsF (shp p.cls) W 1 pre)++[((x:Int),V.int (endF (shp p.cls) W 1 pre:Nat))]=idM (pre++[x]) (adsF (shp p.cls) W 1 (pre++[x])):=by rw [ha,YpQ _ _ _ _ (YgM _ _)]
  have hno:=YjM pre (adsF (shp p.cls) W 1 pre) x hnx;rw [hb] at hen ⊢;generalize idM (pre++[x]) (adsF (shp p.cls) W 1 (pre++[x]))=es2 at *
  generalize idM pre (adsF (shp p.cls) W 1 pre)=es at *
  generalize endF (shp p.cls) W 1 pre=n at *
  generalize slotsW (shp p.cls) W x=sx at *
  refine YaF ?_;refine OL.mapNewC ?_ (.inl rfl) hno;rw [e];refine YaF ?_;refine TC.rebase fun B3 hB3 hub hf=>?_;(refine TC.drawZ (id:=6) [(8,0,V.int n),(5,0,.bp 2 0)] 7 8 ?_<;>refine OZ.ld 0 ?_<;>refine OZ.ld 1 ?_<;>refine OZ.stT 2 ?_)
  all_goals (((with_reducible refine OZ.a1 3 ?_);refine OL.ch [2,4] hsl Tryz.func72 ?_<;>(with_reducible refine OL.nil ?_<;>refine TX.oz ?_)))
  all_goals (with_reducible refine OZ.s1 4 ?_<;>refine OZ.stT 5 ?_<;>refine OZ.stT 6 ?_)
  all_goals (((with_reducible refine OZ.w1 7 ?_);with_reducible refine OL.store ?_<;>(with_reducible refine OL.nil ?_<;>refine TX.ow ?_)))
  all_goals (with_reducible refine OZ.dn ?_)
  all_goals refine YaF ?_
  all_goals refine TX.unbase hub ?_
  all_goals rw [show (n:Int)+(1+(sx.length:Nat))=((n+1+sx.length:Nat):Int) by omega]
  all_goals exact TX.rqx trivial [0,1,2,3,4,5,6,7,8,9,10]
 ·intro _ B1 hB1 D1 hM1;refine YaF ?_;refine TX.thenF ?_;generalize idM row (adsF (shp p.cls) W 1 row)=es at *
  generalize endF (shp p.cls) W 1 row=n1 at *
  refine TF.seq ?_;refine goW ?_;refine TX.thenF ?_;refine TF.seq ?_;refine goW ?_;refine TX.thenF ?_;refine TF.seqF ?_;refine TF.seq ?_;refine goW ?_;refine OL.ch [2,4] hm1 Tryz.func77 ?_;refine goW ?_;refine TX.thenF ?_;refine TF.block ?_;refine TF.rfO (fun x:Nat=>V.int x) [(37,.fn (.func 122) [] [.bp 12 0,.ep [ints ws] 0]),(2,.ep [ints ws] 0),(3,.bp 0 0),(4,.bp 1 0),(5,.bp 5 0),(6,.bp 7 0),(9,.bp 11 0)]
   (fun pre=>[.cb Tc.api_Heap [.hs 13],.cb Tc.Lint [nilA],.cb Tc.heap_store (stC p (ints W) 4 (bools ms)),.gs true Tc.int 1 none (W.map V.int),.mo (slM p.cls p.cls.length),.cb Tc.Pheap_store [.bp 2 0],.mo es,.cb Tc.map_int_int [.mp 6],.cb Tc.int [V.int (n1:Nat)],.cb Tc.Pheap_store [.bp 2 0],.dead,.cb 100 [.fn (.func 78) [] [.bp 5 0,.bp 7 0]],.cb Tc.Pheap_store [.bp 2 0],.gs false Tc.int 1 none ((0::pre.flatMap (rowW (shp p.cls) W row)).map V.int)])
   [2,4,12] [] (fun _=>True) False 13 [0,1,2,3,4,5,6,7,8,9,10,11,13,12]
   (hsq (rfv 2)) Tryz.func76 Tryz.func122 rfl rfl ?_ ?_ (fun _=>rfl) rfl rfl ?_ ?_ ?_ (by simp) (by simp) rfl rfl rfl (by decide) ?_ ?_ trivial ?_ ?_ ?_
  ·with_unfolding_all exact trivial
  ·with_unfolding_all exact ⟨.ren rfl,.ren rfl,trivial⟩
  ·repeat' (first|with_unfolding_all exact trivial|exact OE.ren (by with_unfolding_all exact rfl)|with_unfolding_all exact OE.gs|with_unfolding_all refine And.intro ⟨_,by with_unfolding_all exact rfl,?_⟩ ?_)
  ·repeat' (first|with_unfolding_all exact trivial|exact LE.ren (by with_unfolding_all exact rfl)|with_unfolding_all refine And.intro ⟨_,by with_unfolding_all exact rfl,?_⟩ ?_)
  ·repeat' (first|with_unfolding_all exact trivial|exact LE.ren (by with_unfolding_all exact rfl)|with_unfolding_all refine And.intro ⟨_,by with_unfolding_all exact rfl,?_⟩ ?_)
  ·intro _;with_unfolding_all exact ⟨⟨_,rfl,.ren rfl⟩,⟨_,rfl,.ren rfl⟩,⟨_,rfl,.ren rfl⟩,trivial⟩
  ·intro _;with_unfolding_all exact ⟨rfl,rfl,rfl,trivial⟩
  ·rintro pre x Bx hBx l ⟨r,hr⟩ -
   have hx:x∈row:=by rw [← hr];simp
   have hxr:=hmt.ok.re x hx;obtain ⟨hx1,hxl,hxd⟩:=hG.hd hxr.1;have hwx:wAt W x=W[x]:=by rw [wAt,List.getD_eq_getElem?_getD,List.getElem?_eq_getElem hxl];rfl
   have hsl:=Ydb p W ms x hl6 hxd;rw [YeU] at hsl;have hsok:=YbW hG hxr.1;have hsi:∀ w∈slotsW (shp p.cls) W x,YbC w:=fun w hw=>hW w (List.mem_of_mem_drop (List.mem_of_mem_take hw))
   have hsn:(slotsW (shp p.cls) W x).length*8≤140737488355328:=by rw [slotsW,List.length_take,List.length_drop];omega
   have hch:=Ygg p W ms es (slotsW (shp p.cls) W x) (YqK (shp p.cls) W row) hsn (fun w hw=>hcl w (hsi w hw) (hsok w hw) (hmt.next x hx w hw));have hfl:(pre++[x]).flatMap (rowW (shp p.cls) W row)=pre.flatMap (rowW (shp p.cls) W row)++(W[x]::(slotsW (shp p.cls) W x).map (YqK (shp p.cls) W row)):=by
    rw [List.flatMap_append,← hwx];simp [rowW]
   have hln:(0::pre.flatMap (rowW (shp p.cls) W row)).length≤600:=by
    have h3:∀ y∈pre,y∈row:=fun y hy=>by rw [← hr];exact List.mem_append_left _ hy
    have h4:=YmV hG row 1 pre (fun y hy=>(hmt.ok.re y (h3 y hy)).1);have h5:RowOK W st pre:=⟨fun y hy=>hmt.ok.re y (h3 y hy),by have:=hmt.ok.nd;rw [← hr] at this;exact (List.nodup_append.1 this).1⟩;have h6:=YmD hG h5;rw [List.length_cons];omega
   rw [hfl];have hgl:((slotsW (shp p.cls) W x).map (YqK (shp p.cls) W row)).length≤600:=by rw [List.length_map,slotsW,List.length_take,List.length_drop];omega
   generalize (slotsW (shp p.cls) W x).map (YqK (shp p.cls) W row)=gx at *
   generalize slotsW (shp p.cls) W x=sx at *
   rw [← List.cons_append];generalize (0:Int)::pre.flatMap (rowW (shp p.cls) W row)=ac at *
   have e:ac.map V.int++[V.int W[x]]++gx.map V.int=(ac++W[x]::gx).map V.int:=by simp
   refine YaF ?_;refine TC.rebase fun B3 hB3 hub hf=>?_;refine TC.cut [(37,.fn (.func 122) [] [.bp 12 0,.ep [ints ws] 0]),(2,.ep [ints ws] 0),(3,.bp 0 0),(4,.bp 1 0),(5,.bp 5 0),(6,.bp 7 0),(9,.bp 11 0)]
    [.cb Tc.api_Heap [.hs 14],.cb Tc.Lint [nilA],.cb Tc.heap_store (stC p (ints W) 4 (bools ms)),.gs true Tc.int 1 none (W.map V.int),.mo (slM p.cls p.cls.length),.cb Tc.Pheap_store [.bp 2 0],.mo es,.cb Tc.map_int_int [.mp 6],.cb Tc.int [V.int (n1:Nat)],.cb Tc.Pheap_store [.bp 2 0],.dead,.cb 100 [.fn (.func 78) [] [.bp 5 0,.bp 7 0]],.cb Tc.Pheap_store [.bp 2 0],.dead,.gs false Tc.int 1 none (ac.map V.int++[V.int W[x]]++gx.map V.int)] ?_ ?_
   ·(refine TC.drawZ (id:=11) [(0,0,.hs 13),(5,0,.bp 2 0)] 19 20 ?_<;>refine OZ.stT 0 ?_<;>refine OZ.ld 1 ?_<;>refine OZ.ld 2 ?_<;>refine OZ.stT 3 ?_<;>refine OZ.stT 4 ?_<;>refine OZ.stT 5 ?_<;>refine OZ.stT 7 ?_<;>refine OZ.ld 12 ?_<;>refine OZ.stT 13 ?_)
    all_goals (with_reducible refine OZ.n2 6 15 ?_ ?_)<;>(first|(with_reducible refine NZ.at 6 ?_)<;>(have t6_:=True.intro)<;>(with_reducible refine NZ.s ?_<;>refine OZ.stT 8 ?_)|(with_reducible refine NZ.at 15 ?_)<;>(have t15_:=True.intro)<;>(with_reducible refine NZ.s ?_)|fail)
    all_goals (first|(have _:=t6_;((with_reducible refine OZ.n2 9 15 ?_ ?_)<;>(first|((with_reducible refine NZ.at 9 ?_)<;>(have t9_:=True.intro)<;>(with_reducible refine NZ.s ?_))|((with_reducible refine NZ.at 15 ?_)<;>(have t15_:=True.intro)<;>(with_reducible refine NZ.s ?_))|fail)))|(have _:=t15_;((have t6_:=True.intro)<;>(with_reducible refine OZ.s1 6 ?_<;>refine OZ.stT 8 ?_)))|fail)
    all_goals (first|(have _:=t9_;((with_reducible refine OZ.n2 10 15 ?_ ?_)<;>(first|((with_reducible refine NZ.at 10 ?_)<;>(have t10_:=True.intro)<;>((with_reducible refine NZ.a ?_);with_reducible refine OL.lit ?_<;>(with_reducible refine OL.nil ?_<;>refine TX.oz ?_)))|((with_reducible refine NZ.at 15 ?_)<;>(have t15_:=True.intro)<;>(with_reducible refine NZ.s ?_))|fail)))|(have _:=t15_;((have t9_:=True.intro)<;>(with_reducible refine OZ.s1 9 ?_)))|fail)
    all_goals (first|(have _:=t10_;((with_reducible refine OZ.n2 11 15 ?_ ?_)<;>(first|((with_reducible refine NZ.at 11 ?_)<;>(have t11_:=True.intro)<;>((with_reducible refine NZ.a ?_);with_reducible refine OL.appO ?_<;>(with_reducible refine OL.nil ?_<;>refine TX.oz ?_)))|((with_reducible refine NZ.at 15 ?_)<;>(have t15_:=True.intro)<;>(with_reducible refine NZ.s ?_))|fail)))|(have _:=t15_;((have t10_:=True.intro)<;>((with_reducible refine OZ.a1 10 ?_);with_reducible refine OL.lit ?_<;>(with_reducible refine OL.nil ?_<;>refine TX.oz ?_))))|fail)
    all_goals (first|(have _:=t11_;((with_reducible refine OZ.n2 14 15 ?_ ?_)<;>(first|((with_reducible refine NZ.at 14 ?_)<;>(have t14_:=True.intro)<;>((with_reducible refine NZ.a ?_);refine OL.ch [2,4] hsl Tryz.func72 ?_<;>(with_reducible refine OL.nil ?_<;>refine TX.oz ?_)))|((with_reducible refine NZ.at 15 ?_)<;>(have t15_:=True.intro)<;>(with_reducible refine NZ.s ?_))|fail)))|(have _:=t15_;((have t11_:=True.intro)<;>((with_reducible refine OZ.a1 11 ?_);with_reducible refine OL.appO ?_<;>(with_reducible refine OL.nil ?_<;>refine TX.oz ?_))))|fail)
    all_goals (first|(have _:=t14_;((have t15_:=True.intro)<;>(with_reducible refine OZ.s1 15 ?_)))|(have _:=t15_;((have t14_:=True.intro)<;>((with_reducible refine OZ.a1 14 ?_);refine OL.ch [2,4] hsl Tryz.func72 ?_<;>(with_reducible refine OL.nil ?_<;>refine TX.oz ?_))))|fail)
    all_goals (((with_reducible refine OZ.a1 16 ?_);refine OL.ch [5,7,2,4,6] hch Tryz.func56 ?_<;>refine OL.vw 55 ?_<;>(with_reducible refine OL.nil ?_<;>refine TX.oz ?_)))
    all_goals (((with_reducible refine OZ.a1 17 ?_);with_reducible refine OL.app ?_<;>(with_reducible refine OL.nil ?_<;>refine TX.oz ?_))<;>(with_reducible refine OZ.stT 18 ?_))
    all_goals (((with_reducible refine OZ.w1 19 ?_);with_reducible refine OL.store ?_<;>(with_reducible refine OL.nil ?_<;>refine TX.ow ?_)))
    all_goals (with_reducible refine OZ.dn ?_)
    all_goals exact TX.ct [0,1,2,3,4,5,6,7,8,9,10,11,12,13,17]
   ·rw [e];refine YaF ?_;refine TX.unbase hub ?_;exact TX.rqx trivial [0,1,2,3,4,5,6,7,8,9,10,11,12,14]
  ·intro _ B2 hB2 D2 hM2;refine YaF ?_;refine TX.thenF ?_;refine TF.of ?_;have hchw:=Ygg p W ms es ws (YqK (shp p.cls) W row) hwl (fun w hw=>hcl w (hws w hw) (hokw w hw) (hmt.root w hw));refine goW ?_;refine OL.ch [5,7,2,4,6] hchw Tryz.func56 ?_;refine goW ?_;refine TX.qaN ?_;exact TX.rtM0Y2 trivial hM1 hM2 hB [0,1,13,14]
  ·intro h;exact h.elim
 ·intro h;exact h.elim
end
theorem Yg0 (p:Prg) (W ws:List Int) {o v:List Int} {e:Int} (h:V.Spec Tryz.prog 50 [.fn (.func 76) [] [.ep (YbB p) 0,.ep [ints W] 0,.ep [ints ws] 0,.bp 0 0,.bp 1 0]] Yuq (V.int e) [.cb Tc.api_Heap [.hs 2],.cb Tc.Lint [.hs 3],.gs false Tc.int 1 none (o.map V.int),.gs false Tc.int 1 none (v.map V.int)]) :
  V.Spec Tryz.prog 22 [Ya0 p,Yaw W,ints ws] [] (.tp [(Yaw o),(ints v),V.int e]) []:=by
 refine Se Tryz.func22 rfl rfl rfl fun B hB=>?_;repeat' (first|(with_reducible refine TC.seq ?_)|(with_reducible refine TC.region ?_))
 with_reducible refine OL.box ?_
 with_reducible refine OL.box ?_
 with_reducible refine OL.box ?_
 refine OL.frzB 3 ?_;refine OL.frzB 4 ?_;refine OL.frzB 5 ?_;refine goW ?_;refine OL.ch [3,4] h Tryz.func50 ?_;refine OL.vwC 3 0 ?_;refine OL.vwC 4 0 ?_;refine goW ?_;refine TC.cut [(6,.bp 3 0),(7,.bp 4 0),(8,V.int e)] [.dead,.dead,.dead,.cb Tc.api_Heap [(ints o)],.cb Tc.Lint [(ints v)]] ?_ ?_
 ·(refine TC.draw (id:=2) false 3 6 ?_<;>refine OD.stT 2 ?_<;>refine OD.n2 0 1 ?_ ?_<;>(first|refine Yaa.at 0 ?_<;>refine Yaa.s ?_ (h:=gv)<;>refine OD.n2 1 3 ?_ ?_<;>(first|refine Yaa.at 1 ?_<;>refine Yaa.s ?_ (h:=gv)<;>(refine OD.a1 3 ?_;refine OL.storeAgg ?_;refine OL.nil ?_;refine TX.od ?_)<;>(refine OD.a1 4 ?_;refine OL.store ?_;refine OL.nil ?_;refine TX.od ?_)<;>refine OD.st 5 ?_<;>refine OD.dn ?_|refine Yaa.at 3 ?_<;>(refine Yaa.a ?_;refine OL.storeAgg ?_;refine OL.nil ?_;refine TX.od ?_)<;>refine OD.s1 1 ?_<;>(refine OD.a1 4 ?_;refine OL.store ?_;refine OL.nil ?_;refine TX.od ?_)<;>refine OD.st 5 ?_<;>refine OD.dn ?_)|refine Yaa.at 1 ?_<;>refine Yaa.s ?_ (h:=gv)<;>refine OD.s1 0 ?_<;>(refine OD.a1 3 ?_;refine OL.storeAgg ?_;refine OL.nil ?_;refine TX.od ?_)<;>(refine OD.a1 4 ?_;refine OL.store ?_;refine OL.nil ?_;refine TX.od ?_)<;>refine OD.st 5 ?_<;>refine OD.dn ?_))
  all_goals exact TX.ct [0,1,2,3,4]
 ·refine goW ?_;exact TX.rv3 [] (.ren rfl) (.ren rfl) (.ren rfl)
section
variable (p:Prg) (hs:Ya9 p.cls) (hpk:∀ x∈p.nodes,x.2.2.length*8≤140737488355328) (W:List Int) (hW:∀ x∈W,YbC x) (hWl:W.length*8≤140737488355328) (ws:List Int) (hws:∀ w∈ws,YbC w) (hwl:ws.length*8≤140737488355328)
include hs hpk hW hWl hws hwl
theorem YfT (h:(Ybt p W&&ws.all (okW (Yee p W)))=true):V.Spec Tryz.prog 22 [Ya0 p,Yaw W,ints ws] [] (.tp [Yaw (Yt8 (shp p.cls) W ws),ints (YuJ (shp p.cls) W ws),V.int 0]) []:=by
 simp only [Bool.and_eq_true] at h;obtain ⟨hp,hgw,st,hst,hG⟩:=Ybe h.1;have hok:=h.2;rw [YcP hst] at hok;exact Yg0 p W ws (YbH Tryz.func76 ((Ymz p hs hpk W hW hWl ws hws hp hgw st hst hG hok hwl).yes trivial))
end
theorem Yu4 {l:List Cls} (h:clsB 0 l=true):slN l≤4*l.length:=by
 have key:∀ k,k≤l.length→slN (l.take k)≤4*k:=by
  intro k;induction k with
  | zero=>intro _;simp [slN]
  | succ k ih =>
    intro hk;have h1:=(Yet h (show k < l.length by omega)).1;have h2:=ih (by omega);rw [Ydz l (by omega)];omega
 have:=key l.length (Nat.le_refl _)
 rwa [List.take_length] at this
theorem YbO {p:Prg} (h:Yag p=true):slN p.cls≤40∧p.cls.length≤10∧fine (graphOf p.cls)=true:=by
 simp only [Yag,Bool.and_eq_true,decide_eq_true_eq] at h;have:=Yu4 h.1.2
 exact ⟨by omega,h.1.1,h.2.1.2⟩
section
variable (p:Prg) (hs:Ya9 p.cls) (hcb:Yag p=true)
end
section
variable (p:Prg) (hs:Ya9 p.cls) (hcb:Yag p=true)
include hs hcb
end
end Go.Proofs
