/- Lemmas for the claim; no conditions. -/
import Derived.Test.YtdjhogobbbnddaaGreatC18
import Derived.Test.YtdjhogobbbnddaaGreatC40
import Derived.Test.YtdjhogobbbnddaaGreatC23
import Derived.Test.YtdjhogobbbnddaaGreatC21
import Derived.Test.YtdjhogobbbnddaaGreatC39
import Derived.Test.YtdjhogobbbnddaaGreatC19
namespace Go.Proofs
open Go Go.W Go.V
def YaU (W:List Int) (st:List Nat):List Nat:=st.filter fun x=>decide (wAt W x / 64=0)
def YmY (rs:List Nat) (i:Int):Int:=((rs.idxOf i.toNat:Nat):Int)
def Ylw (sh:Int→Option Nat) (W:List Int) (num:Int→Int) (x:Nat):Ob:=(wAt W x,(slotsW sh W x).map (Yrj W num))
theorem Yti {rs:List Nat} {x:Nat} (h:x∈rs):afind (x:Int) (idM rs (List.range rs.length))=some (V.int (YmY rs x)):=by
 have hi:=List.idxOf_lt_length_of_mem h;rw [Ymw _ _ _ (by simp) h,List.getD_eq_getElem?_getD,List.getElem?_range hi];rfl
theorem YeU (sh:Int→Option Nat) (W:List Int) (i:Nat):(W.take (i+1+szW sh (wAt W i))).drop (i+1)=slotsW sh W i:=by
 rw [List.drop_take,slotsW,show i+1+szW sh (wAt W i)-(i+1)=szW sh (wAt W i) by omega]
abbrev nilA:AV:=.raw (.slice none 0 0)
section
variable (p:Prg) (hs:Ya9 p.cls) (hpk:∀ x∈p.nodes,x.2.2.length*8≤140737488355328) (W:List Int) (hW:∀ x∈W,YbC x) (hWl:W.length*8≤140737488355328) (ws:List Int) (hws:∀ w∈ws,YbC w)
include hs hpk hW hWl hws
set_option maxHeartbeats 4000000 in
theorem Yni (hp:Ybk p=true) (hgw:Ydi (shp p.cls) W=true) (st:List Nat) (hst:starts (shp p.cls) W=some st) (hG:GH (shp p.cls) W st) (hok:ws.all (okW st)=true) (hwl:ws.length*16≤140737488355328) :
  Ybu Tryz.prog 63 [.ep (YbB p) 0,.ep [ints W] 0,.ep [ints ws] 0,.bp 0 0,.bp 1 0] [.cb 28 [nilA],.cb 38 [nilA]] (.tp [])
   [.cb 28 [.hs 2],.cb 38 [.hs 3],.gs false 89 2 none ((YaU W st).map fun x=>obA (Ylw (shp p.cls) W (YmY (YaU W st)) x)),.gs false 63 2 none ((ws.map (Yrj W (YmY (YaU W st)))).map Ycb)]
   ((YaU W st).length≤40) (rfv 3) [.cb 28 [nilA],.cb 38 [nilA]]:=by
 have hlt:=fun x hx=>(hG.hd (x:=x) hx).2.1
 have h2:=YaB p hs hpk W hW hWl hp hgw;rw [stW,hst,Option.getD_some] at h2;have hwd:=(Ycz p W st hlt ws hws).yes hok;refine Zco Tryz.tabOK Tryz.mixed Tryz.func63 rfl rfl rfl fun B hB=>?_;refine TF.seq ?_;refine goW ?_;refine OL.c h2 Tryz.func64 ?_;refine goW ?_;refine ZaX ?_;refine TF.seq ?_;refine goW ?_;refine Zaj [2,3,4] hwd Tryz.func65 ?_;refine goW ?_;refine ZaX ?_;refine TF.seq ?_;refine goW ?_;refine Zcg 2 0 ?_;refine ZaX ?_;refine Zb4 ?_;refine TF.seq ?_;refine goW ?_;refine ZaX ?_;refine TF.block ?_;generalize hms:marks W.length st=ms at *
 have hnd:=Ygt hst;refine ZbV (fun x:Nat=>V.int x) [(18,.fn (.func 66) [.bp 2 0] []),(2,.ep [ints ws] 0),(3,.bp 0 0),(4,.bp 1 0),(5,.bp 5 0),(6,.bp 7 0)]
  (fun pre=>[.cb 28 [nilA],.cb 38 [nilA],.cb 93 (stC p (ints W) 4 (bools ms)),.gs true 3 1 none (W.map V.int),.mo (slM p.cls p.cls.length),.cb 86 [.bp 2 0],.mo (idM (YaU W pre) (List.range (YaU W pre).length)),.cb 110 [.mp 6]])
  [2,4] [] (fun _=>True) False 8 [0,1,2,3,4,5,6,7]
  (Yfp p W ms st (rfv 3) hst) Tryz.func63 Tryz.func66 rfl rfl ?_ ?_ (fun _=>rfl) rfl rfl ?_ ?_ ?_ (by simp) (by simp) rfl rfl rfl (by decide) ?_ ?_ trivial ?_ ?_ ?_
 ·with_unfolding_all exact ⟨.ren rfl,trivial⟩
 ·with_unfolding_all exact trivial
 ·with_unfolding_all exact ⟨⟨_,rfl,.ren rfl⟩,⟨_,rfl,.ren rfl⟩,⟨_,rfl,.ren rfl⟩,⟨_,rfl,.gs⟩,⟨_,rfl,.ren rfl⟩,⟨_,rfl,.ren rfl⟩,⟨_,rfl,.ren rfl⟩,⟨_,rfl,.ren rfl⟩,trivial⟩
 ·with_unfolding_all exact ⟨⟨_,rfl,.ren rfl⟩,⟨_,rfl,.ren rfl⟩,⟨_,rfl,.ren rfl⟩,⟨_,rfl,.ren rfl⟩,⟨_,rfl,.ren rfl⟩,⟨_,rfl,.ren rfl⟩,trivial⟩
 ·with_unfolding_all exact ⟨⟨_,rfl,.ren rfl⟩,⟨_,rfl,.ren rfl⟩,⟨_,rfl,.ren rfl⟩,⟨_,rfl,.ren rfl⟩,⟨_,rfl,.ren rfl⟩,⟨_,rfl,.ren rfl⟩,trivial⟩
 ·intro _;with_unfolding_all exact ⟨⟨_,rfl,.ren rfl⟩,⟨_,rfl,.ren rfl⟩,trivial⟩
 ·intro _;with_unfolding_all exact ⟨rfl,rfl,trivial⟩
 ·rintro pre x Bx hBx l ⟨r,hr⟩ -
  have hx:x∈st:=by rw [← hr];simp
  obtain ⟨hx1,hxl,hxd⟩:=hG.hd hx;have h0:=hG.nonneg hx;have hwx:wAt W x=W[x]:=by rw [wAt,List.getD_eq_getElem?_getD,List.getElem?_eq_getElem hxl];rfl
  rw [hwx] at h0;have hfw:=YbJ W[x] h0 (hW W[x] (List.getElem_mem hxl)).2;have hnx:x ∉ YaU W pre:=fun hm=>by
   rw [← hr] at hnd;exact (List.nodup_append.1 hnd).2.2 x (List.mem_filter.1 hm).1 x (List.mem_cons_self ..) rfl
  have hap:YaU W (pre++[x])=YaU W pre++(if W[x] / 64=0 then [x] else []):=by
   rw [YaU,List.filter_append,List.filter_cons,hwx];by_cases h:W[x] / 64=0<;>simp [h,YaU]
  rw [hap];generalize YaU W pre=rs at *
  refine YaF ?_;refine OL.c hfw Tryz.func67 ?_;(refine YxP ?_ ?_<;>intro hc<;>refine YaF ?_)
  ·skip;rw [if_pos hc];have e:idM rs (List.range rs.length)++[((x:Int),V.int (rs.length:Nat))]=idM (rs++[x]) (List.range (rs++[x]).length):=by
    rw [List.length_append,List.length_singleton,List.range_succ,YpQ _ _ _ _ (by simp)]
   refine OL.st ?_ (h:=Ypt);rw [show (idM rs (List.range rs.length)).length=rs.length by simp [idM]];refine ZbM ?_ (.inl rfl) (YjM _ _ _ hnx);rw [← e];refine YaF ?_;exact Zbw trivial [0,1,2,3,4,5,6,7]
  ·skip;rw [if_neg hc,List.append_nil];exact Zbw trivial [0,1,2,3,4,5,6,7]
 ·intro _ B1 hB1 D1 hM1;refine YaF ?_;refine ZaX ?_;generalize hrs:YaU W st=rs at *
  have hlm:(idM rs (List.range rs.length)).length=rs.length:=by simp [idM]
  by_cases h40:rs.length≤40;rotate_left
  ·refine TF.seq ?_;refine goW ?_;refine OL.st ?_ (h:=Ypt);rw [hlm];refine goW ?_;refine Zar [] (Ybm 3) Tryz.func68 ?_ (hle:=by with_unfolding_all exact ⟨.bool (decide_eq_false (by omega)),.ren rfl,trivial⟩);repeat' (first|refine Zam ?_|refine Zak ?_)
   exact ZcG h40 hM1 hB [0,1]
  ·refine TF.seq ?_;refine goW ?_;refine OL.st ?_ (h:=Ypt);rw [hlm];refine goW ?_;refine OL.c (Ya5 3) Tryz.func68 ?_ (hle:=by with_unfolding_all exact ⟨.bool (decide_eq_true (by omega)),.ren rfl,trivial⟩);refine goW ?_;refine ZaX ?_;refine TF.seq ?_;refine goW ?_;refine ZaX ?_;refine Zb4 ?_;refine TF.seq ?_;refine ZbO 0 0 89 2 ?_;refine goW ?_;refine ZaX ?_;refine TF.block ?_;have hnum:∀ w:Int,okW st w=true→w≠0→w.tmod 2=0→afind (Yax W w:Int) (idM rs (List.range rs.length))=some (V.int (YmY rs (Yax W w))):=fun w hw h0 h1=>by
    refine Yti ?_;have h2:Yax W w≠0:=fun h=>by
     rcases (hG.obj_iff hw).1 h with q|q
     ·exact q (YcG.1 h1)
     ·exact h0 q
    obtain ⟨a1,a2⟩:=hG.re_obj hw h2;rw [← hrs];exact List.mem_filter.2 ⟨a1,by simpa using a2⟩
   have hcl:=fun w hi hw=>YnN p W hW st hG ms (idM rs (List.range rs.length)) (YmY rs) w hi hw (hnum w hw)
   generalize hth:(fun x=>obA (Ylw (shp p.cls) W (YmY rs) x))=th at *
   generalize hix:idM rs (List.range rs.length)=ix at *
   refine ZbV (fun x:Nat=>V.int x) [(40,.fn (.func 66) [.bp 2 0] []),(2,.ep [ints ws] 0),(3,.bp 0 0),(4,.bp 1 0),(5,.bp 5 0),(6,.bp 7 0),(8,.bp 8 0)]
    (fun pre=>[.cb 28 [.hs 9],.cb 38 [nilA],.cb 93 (stC p (ints W) 4 (bools ms)),.gs true 3 1 none (W.map V.int),.mo (slM p.cls p.cls.length),.cb 86 [.bp 2 0],.mo ix,.cb 110 [.mp 6],.cb 107 [.fn (.func 69) [] [.bp 7 0,.bp 5 0]],.gs false 89 2 none ((YaU W pre).map th)])
    [2,4] [] (fun _=>True) False 9 [0,1,2,3,4,5,6,7,8,9]
    (Yfp p W ms st (rfv 3) hst) Tryz.func63 Tryz.func66 rfl rfl ?_ ?_ (fun _=>rfl) rfl rfl ?_ ?_ ?_ (by simp) (by simp) rfl rfl rfl (by decide) ?_ ?_ trivial ?_ ?_ ?_
   ·with_unfolding_all exact ⟨.ren rfl,trivial⟩
   ·with_unfolding_all exact trivial
   ·with_unfolding_all exact ⟨⟨_,rfl,.ren rfl⟩,⟨_,rfl,.ren rfl⟩,⟨_,rfl,.ren rfl⟩,⟨_,rfl,.gs⟩,⟨_,rfl,.ren rfl⟩,⟨_,rfl,.ren rfl⟩,⟨_,rfl,.ren rfl⟩,⟨_,rfl,.ren rfl⟩,⟨_,rfl,.ren rfl⟩,⟨_,rfl,.gs⟩,trivial⟩
   ·with_unfolding_all exact ⟨⟨_,rfl,.ren rfl⟩,⟨_,rfl,.ren rfl⟩,⟨_,rfl,.ren rfl⟩,⟨_,rfl,.ren rfl⟩,⟨_,rfl,.ren rfl⟩,⟨_,rfl,.ren rfl⟩,⟨_,rfl,.ren rfl⟩,trivial⟩
   ·with_unfolding_all exact ⟨⟨_,rfl,.ren rfl⟩,⟨_,rfl,.ren rfl⟩,⟨_,rfl,.ren rfl⟩,⟨_,rfl,.ren rfl⟩,⟨_,rfl,.ren rfl⟩,⟨_,rfl,.ren rfl⟩,⟨_,rfl,.ren rfl⟩,trivial⟩
   ·intro _;with_unfolding_all exact ⟨⟨_,rfl,.ren rfl⟩,⟨_,rfl,.ren rfl⟩,trivial⟩
   ·intro _;with_unfolding_all exact ⟨rfl,rfl,trivial⟩
   ·rintro pre x Bx hBx l ⟨r,hr⟩ -
    have hx:x∈st:=by rw [← hr];simp
    obtain ⟨hx1,hxl,hxd⟩:=hG.hd hx;have h0:=hG.nonneg hx;have hwx:wAt W x=W[x]:=by rw [wAt,List.getD_eq_getElem?_getD,List.getElem?_eq_getElem hxl];rfl
    have hfw:=YbJ W[x] (hwx ▸ h0) (hW W[x] (List.getElem_mem hxl)).2;have hsl:=Ydb p W ms x (Yah hst).2.1 hxd;rw [YeU] at hsl;have hsok:=YbW hG hx;have hsi:∀ w∈slotsW (shp p.cls) W x,YbC w:=fun w hw=>hW w (List.mem_of_mem_drop (List.mem_of_mem_take hw))
    have hsn:(slotsW (shp p.cls) W x).length*16≤140737488355328:=by
     have:=(Yah hst).2.1
     rw [slotsW,List.length_take,List.length_drop];omega
    have hch:=Yf7 p W ms ix (slotsW (shp p.cls) W x) (Yrj W (YmY rs)) hsn (fun w hw=>hcl w (hsi w hw) (hsok w hw));have hap:YaU W (pre++[x])=YaU W pre++(if W[x] / 64=0 then [x] else []):=by
     rw [YaU,List.filter_append,List.filter_cons,hwx];by_cases h:W[x] / 64=0<;>simp [h,YaU]
    have hrpl:(YaU W pre).length≤600:=by
     have h1:(YaU W pre).length≤pre.length:=List.length_filter_le _ _;have h2:=congrArg List.length hr;have h3:=Yuv hG;have h4:=(Yah hst).2.1;simp at h2;omega
    have hthx:th x=.st [V.int W[x],Ych ((slotsW (shp p.cls) W x).map (Yrj W (YmY rs)))]:=by rw [← hth,← hwx];rfl
    rw [hap];generalize (slotsW (shp p.cls) W x).map (Yrj W (YmY rs))=vx at *
    generalize slotsW (shp p.cls) W x=sx at *
    generalize YaU W pre=rp at *
    refine YaF ?_;refine OL.c hfw Tryz.func67 ?_;(refine YxP ?_ ?_<;>intro hc<;>refine YaF ?_)
    ·rw [if_pos hc,List.map_append,List.map_singleton,hthx];have hrl:rp.length≤600:=hrpl;refine TC.rebase fun B3 hB3 hub hf=>?_;refine ZaO [(40,.fn (.func 66) [.bp 2 0] []),(2,.ep [ints ws] 0),(3,.bp 0 0),(4,.bp 1 0),(5,.bp 5 0),(6,.bp 7 0),(8,.bp 8 0)]
      [.cb 28 [.hs 10],.cb 38 [nilA],.cb 93 (stC p (ints W) 4 (bools ms)),.gs true 3 1 none (W.map V.int),.mo (slM p.cls p.cls.length),.cb 86 [.bp 2 0],.mo ix,.cb 110 [.mp 6],.cb 107 [.fn (.func 69) [] [.bp 7 0,.bp 5 0]],.dead,.gs false 89 2 none (rp.map th++[.st [V.int W[x],Ych vx]])] ?_ ?_
     ·(refine Zbi (id:=12) [(0,0,.hs 9),(5,0,.bp 2 0)] 17 18 ?_<;>refine ZaQ 0 ?_<;>refine ZaQ 1 ?_<;>refine Zaq 2 ?_<;>refine Zaq 3 ?_<;>refine Zaq 4 ?_<;>refine Zaq 6 ?_<;>refine ZaQ 9 ?_<;>refine Zaq 10 ?_)
      all_goals ((with_reducible refine Zck 5 11 12 ?_ ?_ ?_)<;>(first|((with_reducible refine NZ.at 5 ?_)<;>(have t5_:=True.intro)<;>(with_reducible refine NZ.s ?_<;>refine Zaq 7 ?_))|((with_reducible refine NZ.at 11 ?_)<;>(have t11_:=True.intro)<;>((with_reducible refine NZ.a ?_);refine Zaj [2,4] hsl Tryz.func72 ?_<;>(with_reducible refine OL.nil ?_<;>refine ZaI ?_)))|((with_reducible refine NZ.at 12 ?_)<;>(have t12_:=True.intro)<;>(with_reducible refine NZ.s ?_))|fail))
      all_goals (first|(have _:=t5_;((with_reducible refine Zck 8 11 12 ?_ ?_ ?_)<;>(first|((with_reducible refine NZ.at 8 ?_)<;>(have t8_:=True.intro)<;>(with_reducible refine NZ.s ?_))|((with_reducible refine NZ.at 11 ?_)<;>(have t11_:=True.intro)<;>((with_reducible refine NZ.a ?_);refine Zaj [2,4] hsl Tryz.func72 ?_<;>(with_reducible refine OL.nil ?_<;>refine ZaI ?_)))|((with_reducible refine NZ.at 12 ?_)<;>(have t12_:=True.intro)<;>(with_reducible refine NZ.s ?_))|fail)))|(have _:=t11_;((with_reducible refine OZ.n2 5 12 ?_ ?_)<;>(first|((with_reducible refine NZ.at 5 ?_)<;>(have t5_:=True.intro)<;>(with_reducible refine NZ.s ?_<;>refine Zaq 7 ?_))|((with_reducible refine NZ.at 12 ?_)<;>(have t12_:=True.intro)<;>(with_reducible refine NZ.s ?_))|fail)))|(have _:=t12_;((with_reducible refine OZ.n2 5 11 ?_ ?_)<;>(first|((with_reducible refine NZ.at 5 ?_)<;>(have t5_:=True.intro)<;>(with_reducible refine NZ.s ?_<;>refine Zaq 7 ?_))|((with_reducible refine NZ.at 11 ?_)<;>(have t11_:=True.intro)<;>((with_reducible refine NZ.a ?_);refine Zaj [2,4] hsl Tryz.func72 ?_<;>(with_reducible refine OL.nil ?_<;>refine ZaI ?_)))|fail)))|fail)
      all_goals (first|(have _:=t5_;have _:=t8_;((with_reducible refine OZ.n2 11 12 ?_ ?_)<;>(first|((with_reducible refine NZ.at 11 ?_)<;>(have t11_:=True.intro)<;>((with_reducible refine NZ.a ?_);refine Zaj [2,4] hsl Tryz.func72 ?_<;>(with_reducible refine OL.nil ?_<;>refine ZaI ?_)))|((with_reducible refine NZ.at 12 ?_)<;>(have t12_:=True.intro)<;>(with_reducible refine NZ.s ?_))|fail)))|(have _:=t5_;have _:=t11_;((with_reducible refine OZ.n2 8 12 ?_ ?_)<;>(first|((with_reducible refine NZ.at 8 ?_)<;>(have t8_:=True.intro)<;>(with_reducible refine NZ.s ?_))|((with_reducible refine NZ.at 12 ?_)<;>(have t12_:=True.intro)<;>(with_reducible refine NZ.s ?_))|fail)))|(have _:=t5_;have _:=t12_;((with_reducible refine OZ.n2 8 11 ?_ ?_)<;>(first|((with_reducible refine NZ.at 8 ?_)<;>(have t8_:=True.intro)<;>(with_reducible refine NZ.s ?_))|((with_reducible refine NZ.at 11 ?_)<;>(have t11_:=True.intro)<;>((with_reducible refine NZ.a ?_);refine Zaj [2,4] hsl Tryz.func72 ?_<;>(with_reducible refine OL.nil ?_<;>refine ZaI ?_)))|fail)))|(have _:=t11_;have _:=t12_;((with_reducible refine OZ.n2 5 13 ?_ ?_)<;>(first|((with_reducible refine NZ.at 5 ?_)<;>(have t5_:=True.intro)<;>(with_reducible refine NZ.s ?_<;>refine Zaq 7 ?_))|((with_reducible refine NZ.at 13 ?_)<;>(have t13_:=True.intro)<;>((with_reducible refine NZ.a ?_);refine Zaj [7,5,2,4,6] hch Tryz.func71 ?_<;>refine Zax 65 ?_<;>(with_reducible refine OL.nil ?_<;>refine ZaI ?_)))|fail)))|fail)
      all_goals (first|(have _:=t5_;have _:=t8_;have _:=t11_;((have t12_:=True.intro)<;>(with_reducible refine ZaR 12 ?_)))|(have _:=t5_;have _:=t8_;have _:=t12_;((have t11_:=True.intro)<;>((with_reducible refine ZaU 11 ?_);refine Zaj [2,4] hsl Tryz.func72 ?_<;>(with_reducible refine OL.nil ?_<;>refine ZaI ?_))))|(have _:=t5_;have _:=t11_;have _:=t12_;((with_reducible refine OZ.n2 8 13 ?_ ?_)<;>(first|((with_reducible refine NZ.at 8 ?_)<;>(have t8_:=True.intro)<;>(with_reducible refine NZ.s ?_))|((with_reducible refine NZ.at 13 ?_)<;>(have t13_:=True.intro)<;>((with_reducible refine NZ.a ?_);refine Zaj [7,5,2,4,6] hch Tryz.func71 ?_<;>refine Zax 65 ?_<;>(with_reducible refine OL.nil ?_<;>refine ZaI ?_)))|fail)))|(have _:=t11_;have _:=t12_;have _:=t13_;((have t5_:=True.intro)<;>(with_reducible refine ZaR 5 ?_<;>refine Zaq 7 ?_)))|fail)
      all_goals (first|(have _:=t8_;((have t13_:=True.intro)<;>((with_reducible refine ZaU 13 ?_);refine Zaj [7,5,2,4,6] hch Tryz.func71 ?_<;>refine Zax 65 ?_<;>(with_reducible refine OL.nil ?_<;>refine ZaI ?_))<;>(with_reducible refine Zaq 14 ?_ (h:=Yp6))))|(have _:=t13_;((have t8_:=True.intro)<;>(with_reducible refine ZaR 8 ?_<;>refine Zaq 14 ?_ (h:=Yp6))))|fail)
      all_goals (((with_reducible refine ZaU 15 ?_);with_reducible refine OL.lit ?_<;>(with_reducible refine OL.nil ?_<;>refine ZaI ?_)))
      all_goals (((with_reducible refine ZaU 16 ?_);with_reducible refine ZaH ?_<;>(with_reducible refine OL.nil ?_<;>refine ZaI ?_)))
      all_goals (((with_reducible refine ZbD 17 ?_);with_reducible refine OL.store ?_<;>(with_reducible refine OL.nil ?_<;>refine ZbE ?_)))
      all_goals (with_reducible refine Zbj ?_)
      all_goals exact ZaP [0,1,2,3,4,5,6,7,8,9,12]
     ·refine YaF ?_;refine Za0 hub ?_;exact Zbw trivial [0,1,2,3,4,5,6,7,8,10]
    ·rw [if_neg hc,List.append_nil];exact Zbw trivial [0,1,2,3,4,5,6,7,8,9]
   ·intro _ B2 hB2 D2 hM2;refine YaF ?_;refine ZaX ?_;refine TF.of ?_;have hchw:=Yf7 p W ms ix ws (Yrj W (YmY rs)) (by omega) (fun w hw=>hcl w (hws w hw) (List.all_eq_true.1 hok w hw));refine goW ?_;refine Zaj [7,5,2,4,6] hchw Tryz.func71 ?_;refine goW ?_;refine Zcp ?_;rw [hrs];exact ZcD h40 hM1 hM2 hB [0,1,9,10]
   ·intro h;exact h.elim
 ·intro h;exact h.elim
end
def Yku (p:Prg) (W ws:List Int):List Ob × List (Int × Int) × Int:=
 if Ybt p W&&ws.all (okW (Yee p W)) then
  (if (YaU W (Yee p W)).length≤40 then ((YaU W (Yee p W)).map (Ylw (shp p.cls) W (YmY (YaU W (Yee p W)))),ws.map (Yrj W (YmY (YaU W (Yee p W)))),0) else ([],[],3))
 else ([],[],2)
abbrev YsP:Eta:=[.cb 28 [nilA],.cb 38 [nilA]]
theorem Ykk (p:Prg) (W ws:List Int) {o:List Ob} {v:List (Int × Int)} {e:Int} (h:V.Spec Tryz.prog 50 [.fn (.func 63) [] [.ep (YbB p) 0,.ep [ints W] 0,.ep [ints ws] 0,.bp 0 0,.bp 1 0]] YsP (V.int e) [.cb 28 [.hs 2],.cb 38 [.hs 3],.gs false 89 2 none (o.map obA),.gs false 63 2 none (v.map Ycb)]) :
  V.Spec Tryz.prog 18 [Ya0 p,Yaw W,ints ws] [] (.tp [(Yef o),(Ych v),V.int e]) []:=by
 refine Se Tryz.func18 rfl rfl rfl fun B hB=>?_;repeat' (first|(with_reducible refine TC.seq ?_)|(with_reducible refine TC.region ?_))
 with_reducible refine OL.box ?_
 with_reducible refine OL.box ?_
 with_reducible refine OL.box ?_
 refine Zag 3 ?_;refine Zag 4 ?_;refine Zag 5 ?_;refine goW ?_;refine Zaj [3,4] h Tryz.func50 ?_;refine Zbu 3 0 ?_;refine Zbu 4 0 ?_;refine goW ?_;refine ZaO [(6,.bp 3 0),(7,.bp 4 0),(8,V.int e)] [.dead,.dead,.dead,.cb 28 [(Yef o)],.cb 38 [(Ych v)]] ?_ ?_
 ·(refine Zal (id:=2) false 3 6 ?_<;>refine Zao 2 ?_<;>refine OD.n2 0 1 ?_ ?_<;>(first|refine Yaa.at 0 ?_<;>refine Yaa.s ?_ (h:=gv)<;>refine OD.n2 1 3 ?_ ?_<;>(first|refine Yaa.at 1 ?_<;>refine Yaa.s ?_ (h:=gv)<;>(refine Zac 3 ?_;refine OL.store ?_;refine OL.nil ?_;refine Zab ?_)<;>(refine Zac 4 ?_;refine OL.store ?_;refine OL.nil ?_;refine Zab ?_)<;>refine OD.st 5 ?_<;>refine Zaa ?_|refine Yaa.at 3 ?_<;>(refine Yaa.a ?_;refine OL.store ?_;refine OL.nil ?_;refine Zab ?_)<;>refine Zai 1 ?_<;>(refine Zac 4 ?_;refine OL.store ?_;refine OL.nil ?_;refine Zab ?_)<;>refine OD.st 5 ?_<;>refine Zaa ?_)|refine Yaa.at 1 ?_<;>refine Yaa.s ?_ (h:=gv)<;>refine Zai 0 ?_<;>(refine Zac 3 ?_;refine OL.store ?_;refine OL.nil ?_;refine Zab ?_)<;>(refine Zac 4 ?_;refine OL.store ?_;refine OL.nil ?_;refine Zab ?_)<;>refine OD.st 5 ?_<;>refine Zaa ?_))
  all_goals exact ZaP [0,1,2,3,4]
 ·refine goW ?_;exact Za7 [] (.ren rfl) (.ren rfl) (.ren rfl)
section
variable (p:Prg) (hs:Ya9 p.cls) (hpk:∀ x∈p.nodes,x.2.2.length*8≤140737488355328) (W:List Int) (hW:∀ x∈W,YbC x) (hWl:W.length*8≤140737488355328) (ws:List Int) (hws:∀ w∈ws,YbC w) (hwl:ws.length*16≤140737488355328)
include hs hpk hW hWl hws hwl
theorem Yia (h:(Yku p W ws).2.2=0):V.Spec Tryz.prog 18 [Ya0 p,Yaw W,ints ws] [] (.tp [Yef (Yku p W ws).1,Ych (Yku p W ws).2.1,V.int 0]) []:=by
 unfold Yku at h ⊢
 cases hg:Ybt p W&&ws.all (okW (Yee p W)) with
 | false=>rw [hg] at h;cases h
 | true =>
   rw [hg] at h;rw [if_pos rfl] at h ⊢;simp only [Bool.and_eq_true] at hg;obtain ⟨hp,hgw,st,hst,hG⟩:=Ybe hg.1;have hok:=hg.2;rw [YcP hst] at h hok ⊢;by_cases h40:(YaU W st).length≤40
   ·rw [if_pos h40];have h1:=(Yni p hs hpk W hW hWl ws hws hp hgw st hst hG hok hwl).yes h40;dsimp only;have e:((YaU W st).map fun x=>obA (Ylw (shp p.cls) W (YmY (YaU W st)) x))=((YaU W st).map (Ylw (shp p.cls) W (YmY (YaU W st)))).map obA:=by rw [List.map_map];rfl
    rw [e] at h1;exact Ykk p W ws (YbH Tryz.func63 h1)
   ·rw [if_neg h40] at h;cases h
end
abbrev natsA (l:List Nat):List AV:=l.map fun (x:Nat)=>V.int x
abbrev YwB (p:Prg) (W:List Int) (b:AV) (row:List Nat):Eta:=[.cb 93 (stC p (ints W) 1 b),.mo (slM p.cls p.cls.length),.cb 86 [.bp 0 0],.mo (Yp1 row),.cb 166 [.mp 3],.cb 23 [.hs 7],.dead,.gs false 3 1 none (natsA row)]
abbrev Yw4 (p:Prg) (W:List Int) (b:AV) (row:List Nat):Eta:=[.cb 93 (stC p (ints W) 1 b),.mo (slM p.cls p.cls.length),.cb 86 [.bp 0 0],.mo (Yp1 row),.cb 166 [.mp 3],.cb 23 [.hs 6],.gs false 3 1 none (natsA row)]
theorem Ylv (p:Prg) (W:List Int) (hW:∀ x∈W,YbC x) (st:List Nat) (hG:GH (shp p.cls) W st) (b:List Bool) (ws:List Int) (hwi:∀ w∈ws,YbC w) (hok:∀ w∈ws,okW st w=true) (hwl:ws.length*8≤140737488355328) (row:List Nat) (hr:RowOK W st row) :
  V.Spec Tryz.prog 123 [ints ws,.bp 2 0,.bp 4 0,.bp 5 0] (Yw4 p W (bools b) row) (.tp []) (YwB p W (bools b) (Ybr W row ws)):=by
 have hwl6:=(Yah hG.eq).2.1;refine Se Tryz.func123 rfl rfl rfl fun B hB=>?_;refine Zcr 5 0 ?_;refine goW ?_;refine Zat (fun k:Nat=>[(1,.bp 2 0),(2,.bp 4 0),(3,.bp 5 0),(8,ints ws),(9,V.int ws.length),(10,V.int k)]) (fun k=>YwB p W (bools b) (Ybr W row (ws.take k))) (fun k=>k≤ws.length) (fun k=>ws.length-k) 0 [0,1,2,3,4,5,6,7] (Nat.zero_le _) ?_;rintro k hk;by_cases hkl:k < ws.length
 ·have hrk:RowOK W st (Ybr W row (ws.take k)):=hr.meet hG fun w hw=>hok w (List.mem_of_mem_take hw)
  have hln:=hrk.len hG;have hok1:=hok ws[k] (List.getElem_mem _);have hob:=Ydd p W hW st hG b ws[k] (hwi _ (List.getElem_mem _)) hok1;have e:Ybr W row (ws.take (k+1))=if Yax W ws[k]=0∨Yax W ws[k]∈Ybr W row (ws.take k) then Ybr W row (ws.take k) else Ybr W row (ws.take k)++[Yax W ws[k]]:=by
   rw [Yab hkl,Yps,YbS,Yd3]
  generalize Ybr W row (ws.take k)=rk at *
  generalize hq:Yax W ws[k]=q at *
  by_cases h0:q=0
  ·rw [if_pos (.inl h0)] at e;subst h0;refine goW ?_;refine Zaj [0,1] hob Tryz.func70 ?_;refine goW ?_;rw [← e];exact Zan (k+1) [0,1,2,3,4,5,6,7] (by omega) (by omega)
  ·by_cases h1:q∈rk
   ·rw [if_pos (.inr h1)] at e;have hlk:=YmU rk q h1;refine goW ?_;refine Zaj [0,1] hob Tryz.func70 ?_;refine goW ?_;refine OL.lookup ?_ (.inl hlk);refine goW ?_;rw [← e];exact Zan (k+1) [0,1,2,3,4,5,6,7] (by omega) (by omega)
   ·rw [if_neg (not_or.2 ⟨h0,h1⟩)] at e;have hlk:=YkD rk q h1;have e1:Yp1 rk++[((q:Int),V.bool true)]=Yp1 (rk++[q]):=(Yro rk q).symm;have e2:natsA rk++[V.int q]=natsA (rk++[q]):=by rw [natsA,natsA,List.map_append];rfl
    have e3:(natsA rk).length=rk.length:=by rw [natsA,List.length_map]
    refine goW ?_;refine Zaj [0,1] hob Tryz.func70 ?_;refine goW ?_;refine OL.lookup (v:=V.bool false) ?_ (.inr ⟨hlk,fun _ _ _=>.raw rfl⟩);refine goW ?_;refine ZbM ?_ (.inl rfl) hlk;rw [e1];refine goW ?_;rw [e2,← e];exact Zan (k+1) [0,1,2,3,4,5,6,9] (by omega) (by omega)
 ·rw [Yaf (by omega)];refine goW ?_;exact Za1 [0,1,2,3,4,5,6,7]
end Go.Proofs
namespace Go.V
open Go Go.W
theorem ZcE {C:Cx} {ops:Array Oper} {Q:Qt} {rest:List Oper} {ρ:Ro} {η η2:Eta} {k T:Nat} {cs:List AV} (i o E sz:Nat) (kk:OL C ops Q rest ρ η2) (ho:η[i]?=some (.cb T cs):=by with_unfolding_all exact rfl) (hc:cs[o]?=some (.raw (.slice none 0 0)):=by with_unfolding_all exact rfl) (hk:η.length=k:=by (try dsimp only [List.length])<;>exact rfl) (hη:η.set i (.cb T (cs.set o (.hs k)))++[.gs false E sz (some true) []]=η2:=by (try dsimp only [List.set,List.cons_append,List.nil_append,List.append_eq])<;>exact rfl):OL C ops Q rest ρ η:=by
 subst hη;exact Za5 (ZcZ ho hc hk) kk
end Go.V
namespace Go.Proofs
open Go Go.W Go.V
abbrev Yxd (p:Prg) (W:List Int) (b:AV):Eta:=[.cb 93 (stC p (ints W) 1 b),.mo (slM p.cls p.cls.length),.cb 86 [.bp 0 0]]
theorem Yv6 (p:Prg) (W:List Int) (b:List Bool) (ws:List Int):V.Spec Tryz.prog 77 [.bp 0 0,ints ws] (stF p W (bools b)) (.fn (.func 122) [] [.bp 2 0,.ep [ints ws] 0]) (Yxd p W (bools b)++[.dead]):=by
 refine Se Tryz.func77 rfl rfl rfl fun B hB=>?_;repeat' (first|(with_reducible refine TC.seq ?_)|(with_reducible refine TC.region ?_))
 with_reducible refine OL.box ?_
 with_reducible refine OL.box ?_
 refine Zag 3 ?_;refine goW ?_;exact Zad [0,1,2,3] (.ren rfl)
structure MeS where
 i:Nat
 row:List Nat
 B:Base
 hB:B.γ.length=3
theorem Yss (p:Prg) (W:List Int) (hW:∀ x∈W,YbC x) (st:List Nat) (hG:GH (shp p.cls) W st) (b:List Bool) (ws:List Int) (hwi:∀ w∈ws,YbC w) (hok:∀ w∈ws,okW st w=true) (hwl:ws.length*8≤140737488355328) (pv:Value) :
  Yqf Tryz.prog 122 (fun x:Nat=>[V.int x]) pv (YjF (shp p.cls) W ws) (Yxd p W (bools b)) [] [.bp 2 0,.ep [ints ws] 0]:=by
 have hl6:=(Yah hG.eq).2.1;have hr0:RowOK W st []:=⟨by simp,by simp⟩;have hm0:=Ylv p W hW st hG b ws hwi hok hwl [] hr0;refine Yqf.enter Tryz.tabOK Tryz.mixed Tryz.func122 rfl rfl rfl fun γ0 I m0 W0 B hB hA=>?_;refine YaF ?_;refine ZcE 5 0 3 1 ?_;refine Zbg [0,1,2,3,4,5,6] hm0 Tryz.func123 ?_;refine YaF ?_;refine Zb3 (S:=MeS) (fun S=>⟨Tryz.prog,Tryz.tab,Tryz.tabOK,Tryz.mixed,34,[],S.B,3,S.hB,some none,0⟩) (fun S=>[(0,.raw (.func (.yield I.l) #[] #[])),(1,.bp 2 0),(5,.bp 5 0),(6,.fn (.func 123) [] [.bp 2 0,.bp 4 0,.bp 5 0]),(7,V.int S.i)]) (fun S=>Yw4 p W (bools b) S.row)
  (fun S=>AtO I m0 W0 (S.row.take S.i) S.B∧RowOK W st S.row∧S.i≤S.row.length∧metF (shp p.cls) W W.length S.i S.row=YjF (shp p.cls) W ws) (fun S=>W.length-S.i) ⟨0,Ybr W [] ws,B,hB⟩ ⟨by simpa using hA,hr0.meet hG hok,Nat.zero_le _,rfl⟩ rfl (fun _ _=>rfl) [0,1,2,3,4,5,7] rfl rfl ?_ ?_ ?_
 ·repeat' (first|with_unfolding_all exact trivial|exact OE.ren (by with_unfolding_all exact rfl)|with_unfolding_all refine And.intro ⟨_,by with_unfolding_all exact rfl,?_⟩ ?_)
 ·repeat' (first|with_unfolding_all exact trivial|exact LE.ren (by with_unfolding_all exact rfl)|with_unfolding_all refine And.intro ⟨_,by with_unfolding_all exact rfl,?_⟩ ?_)
 rintro ⟨i,row,B1,hB1⟩ ⟨hA1,hr,hir,hm⟩;dsimp only at hA1 hr hir hm ⊢;have hln:=hr.len hG;have e3:(natsA row).length=row.length:=by rw [natsA,List.length_map]
 by_cases hi:i < row.length
 ·obtain ⟨rr,hrr⟩:=YjK (sh:=shp p.cls) (W:=W) W.length i row;rw [hm] at hrr;have he:row.take i++row[i]::(row.drop (i+1)++rr)=YjF (shp p.cls) W ws:=by
   rw [hrr,← List.cons_append,← List.append_assoc,← List.drop_eq_getElem_cons hi,List.take_append_drop]
  have hxr:=hr.re row[i] (List.getElem_mem hi);have hgd:row.getD i 0=row[i]:=by rw [List.getD_eq_getElem?_getD,List.getElem?_eq_getElem hi];rfl
  have hnx:=YkB hG hr hi;rw [hgd,hm] at hnx;have hsl:=Ydb p W b row[i] hl6 (hG.hd hxr.1).2.2;rw [YeU] at hsl;have hsok:=YbW hG hxr.1;have hsi:∀ w∈slotsW (shp p.cls) W row[i],YbC w:=fun w hw=>hW w (List.mem_of_mem_drop (List.mem_of_mem_take hw))
  have hsn:(slotsW (shp p.cls) W row[i]).length*8≤140737488355328:=by
   rw [slotsW,List.length_take,List.length_drop];omega
  have hmt:=Ylv p W hW st hG b _ hsi hsok hsn row hr;have hr2:=hr.meet hG hsok;obtain ⟨r2,hr2e⟩:=YcN (W:=W) (slotsW (shp p.cls) W row[i]) row;generalize Ybr W row (slotsW (shp p.cls) W row[i])=row2 at *
  generalize slotsW (shp p.cls) W row[i]=sx at *
  have ht:row.take i++[row[i]]=row2.take (i+1):=by rw [hr2e,List.take_append_of_le_length (by omega),Yab hi]
  have hi2:i+1≤row2.length:=by rw [hr2e];simp;omega
  refine YaF ?_;refine Zcl hA1 ⟨_,he⟩ (fun B2 hB2 hA2=>?_) (fun a w hd h=>⟨rfl,hd,h⟩);rw [ht] at hA2;refine YaF ?_;refine TC.rebase fun B3 hB3 hub hf=>?_;refine ZaO [(0,.raw (.func (.yield I.l) #[] #[])),(1,.bp 2 0),(5,.bp 5 0),(6,.fn (.func 123) [] [.bp 2 0,.bp 4 0,.bp 5 0]),(7,V.int i)] (YwB p W (bools b) row2) ?_ ?_
  ·(refine Zbi (id:=8) [(2,0,.bp 0 0),(5,0,.hs 6)] 7 8 ?_<;>refine Zaq 0 ?_<;>refine ZaQ 1 ?_<;>refine ZaQ 2 ?_<;>refine Zaq 3 ?_<;>refine Zaq 4 ?_)
   all_goals ((with_reducible refine ZaR 5 ?_))
   all_goals (((with_reducible refine ZaU 6 ?_);refine Zaj [0,1] hsl Tryz.func72 ?_<;>(with_reducible refine OL.nil ?_<;>refine ZaI ?_)))
   all_goals (((with_reducible refine ZbD 7 ?_);refine Zbg [0,1,2,3,4,5,6] hmt Tryz.func123 ?_<;>(with_reducible refine OL.nil ?_<;>refine ZbE ?_)))
   all_goals (with_reducible refine Zbj ?_)
   all_goals exact ZaP [0,1,2,3,4,5,6,7]
  ·refine YaF ?_;refine Za0 hub ?_;exact ZbP ⟨i+1,row2,B2,hB2⟩ [0,1,2,3,4,5,7] ⟨hA2,hr2,hi2,hnx.symm⟩ (by dsimp only;omega) (hr:=⟨⟨_,rfl,LE.ren rfl⟩,⟨_,rfl,LE.ren rfl⟩,⟨_,rfl,LE.ren rfl⟩,⟨_,rfl,LE.ren rfl⟩,⟨_,rfl,LE.int (by dsimp only;omega)⟩,trivial⟩)
 ·have hie:i=row.length:=by omega
  have he:row.take i=YjF (shp p.cls) W ws:=by
   rw [← hm,hie,List.take_length]
   cases W.length with
   | zero=>rfl
   | succ n=>rw [metF,if_neg (by omega)]
  rw [he] at hA1;refine YaF ?_;refine Zcn ?_;exact Zcm hA1
abbrev YsS (p:Prg) (W:List Int) (b:AV) (es:List (Int × AV)):Eta:=[.cb 86 [.bp 2 0],.cb 110 [.mp 4],.cb 93 (stC p (ints W) 3 b),.mo (slM p.cls p.cls.length),.mo es]
theorem YjE (p:Prg) (W:List Int) (hW:∀ x∈W,YbC x) (st:List Nat) (hG:GH (shp p.cls) W st) (b:List Bool) (row:List Nat) (hr:RowOK W st row) (w:Int) (hw:YbC w) (hok:okW st w=true) (hin:Yax W w≠0→Yax W w∈row) :
  V.Spec Tryz.prog 78 [V.int w,.bp 0 0,.bp 1 0] (YsS p W (bools b) (idM row (adsF (shp p.cls) W 1 row))) (V.int (YqK (shp p.cls) W row w)) (YsS p W (bools b) (idM row (adsF (shp p.cls) W 1 row))):=by
 have hob:=Ydd p W hW st hG b w hw hok;have hl6:=(Yah hG.eq).2.1;unfold YqK;by_cases h0:Yax W w=0
 ·rw [if_pos h0];rw [h0] at hob;generalize idM row (adsF (shp p.cls) W 1 row)=es at *
  refine Se Tryz.func78 rfl rfl rfl fun B hB=>?_;refine goW ?_;refine Zaj [2,3] hob Tryz.func70 ?_;refine goW ?_;exact Zad [0,1,2,3,4] (.ren rfl)
 ·rw [if_neg h0];have hx:=hin h0;have hlk:=Ymw row (adsF (shp p.cls) W 1 row) (Yax W w) (YgM _ _) hx;have hb:=Yvj hG hr hx;rw [show (adsF (shp p.cls) W 1 row).getD (row.idxOf (Yax W w)) 0=adW (shp p.cls) W row (Yax W w) from rfl] at hlk;generalize adW (shp p.cls) W row (Yax W w)=ad at *
  generalize idM row (adsF (shp p.cls) W 1 row)=es at *
  generalize Yax W w=q at *
  refine Se Tryz.func78 rfl rfl rfl fun B hB=>?_;refine goW ?_;refine Zaj [2,3] hob Tryz.func70 ?_;refine goW ?_;refine OL.lookup ?_ (.inl hlk);refine goW ?_;exact Zad [0,1,2,3,4] (.ren rfl)
theorem Ygg (p:Prg) (W:List Int) (b:List Bool) (es:List (Int × AV)) (l:List Int) (g:Int→Int) (hl:l.length*8≤140737488355328)
  (hs:∀ x∈l,V.Spec Tryz.prog 78 [V.int x,.bp 0 0,.bp 1 0] (YsS p W (bools b) es) (V.int (g x)) (YsS p W (bools b) es)) :
  V.Spec Tryz.prog 56 [ints l,.fn (.func 78) [] [.bp 0 0,.bp 1 0]] (YsS p W (bools b) es) (.hs 5) (YsS p W (bools b) es++[.gs false 3 1 none ((l.map g).map V.int)]):=by
 refine Se Tryz.func56 rfl rfl rfl fun B hB=>?_;refine goW ?_;refine ZaT 5 3 1 ?_;refine Zat (fun k:Nat=>[(1,.fn (.func 78) [] [.bp 0 0,.bp 1 0]),(5,.hs 5),(8,ints l),(9,V.int l.length),(10,V.int k)]) (fun k=>YsS p W (bools b) es++[.gs false 3 1 none (((l.take k).map g).map V.int)]) (fun k=>k≤l.length) (fun k=>l.length-k) 0 [0,1,2,3,4,5] (Nat.zero_le _) ?_;rintro k hk;by_cases hkl:k < l.length
 ·have hlen:((l.take k).map g).length=k:=by simp;omega
  have h1:=hs l[k] (List.getElem_mem _);have e:((l.take k).map g).map V.int++[V.int (g l[k])]=((l.take (k+1)).map g).map V.int:=by rw [Yab hkl,List.map_append,List.map_append];rfl
  generalize (l.take k).map g=gk at *
  refine goW ?_;refine Zbg [0,1,2,3,4] h1 Tryz.func78 ?_;refine goW ?_;exact Zan (k+1) [0,1,2,3,4,7] (by omega) (by omega)
 ·rw [Yaf (by omega)];refine goW ?_;exact Zad [0,1,2,3,4,5] (.ren rfl)
abbrev Yuq:Eta:=[.cb 30 [nilA],.cb 23 [nilA]]
section
variable (p:Prg) (hs:Ya9 p.cls) (hpk:∀ x∈p.nodes,x.2.2.length*8≤140737488355328) (W:List Int) (hW:∀ x∈W,YbC x) (hWl:W.length*8≤140737488355328) (ws:List Int) (hws:∀ w∈ws,YbC w)
include hs hpk hW hWl hws
set_option maxHeartbeats 4000000 in
theorem Ymz (hp:Ybk p=true) (hgw:Ydi (shp p.cls) W=true) (st:List Nat) (hst:starts (shp p.cls) W=some st) (hG:GH (shp p.cls) W st) (hok:ws.all (okW st)=true) (hwl:ws.length*8≤140737488355328) :
  Ybu Tryz.prog 76 [.ep (YbB p) 0,.ep [ints W] 0,.ep [ints ws] 0,.bp 0 0,.bp 1 0] Yuq (.tp [])
   [.cb 30 [.hs 2],.cb 23 [.hs 3],.gs false 3 1 none ((Yt8 (shp p.cls) W ws).map V.int),.gs false 3 1 none ((YuJ (shp p.cls) W ws).map V.int)] True (rfv 2) Yuq:=by
 have hlt:=fun x hx=>(hG.hd (x:=x) hx).2.1
 have hl6:=(Yah hst).2.1;have h2:=YaB p hs hpk W hW hWl hp hgw;rw [stW,hst,Option.getD_some] at h2;have hwd:=(Ycz p W st hlt ws hws).yes hok;have hokw:=List.all_eq_true.1 hok;have hmt:=YpA hG hokw;have hsq:=fun pv=>Yss p W hW st hG (marks W.length st) ws hws hokw hwl pv
 have hm1:=Yv6 p W (marks W.length st) ws;unfold Yt8 YuJ;generalize hrow:YjF (shp p.cls) W ws=row at *
 generalize hms:marks W.length st=ms at *
 have hcl:=fun w hi hw hin=>YjE p W hW st hG ms row hmt.ok w hi hw hin
 refine Zco Tryz.tabOK Tryz.mixed Tryz.func76 rfl rfl rfl fun B hB=>?_;refine TF.seq ?_;refine goW ?_;refine OL.c h2 Tryz.func64 ?_;refine goW ?_;refine ZaX ?_;refine TF.seq ?_;refine goW ?_;refine Zaj [2,3,4] hwd Tryz.func65 ?_;refine goW ?_;refine ZaX ?_;refine TF.seq ?_;refine goW ?_;refine Zcg 2 0 ?_;refine ZaX ?_;refine Zb4 ?_;refine TF.seq ?_;refine goW ?_;refine Zaj [2,4] hm1 Tryz.func77 ?_;refine goW ?_;refine ZaX ?_;refine TF.block ?_;refine ZbV (fun x:Nat=>V.int x) [(20,.fn (.func 122) [] [.bp 9 0,.ep [ints ws] 0]),(2,.ep [ints ws] 0),(3,.bp 0 0),(4,.bp 1 0),(5,.bp 5 0),(6,.bp 7 0),(7,.bp 8 0)]
  (fun pre=>[.cb 30 [nilA],.cb 23 [nilA],.cb 93 (stC p (ints W) 4 (bools ms)),.gs true 3 1 none (W.map V.int),.mo (slM p.cls p.cls.length),.cb 86 [.bp 2 0],.mo (idM pre (adsF (shp p.cls) W 1 pre)),.cb 110 [.mp 6],.cb 3 [V.int (endF (shp p.cls) W 1 pre)],.cb 86 [.bp 2 0],.dead])
  [2,4,9] [] (fun _=>True) False 11 [0,1,2,3,4,5,6,7,8,9,10]
  (hsq (rfv 2)) Tryz.func76 Tryz.func122 rfl rfl ?_ ?_ (fun _=>rfl) rfl rfl ?_ ?_ ?_ (by simp) (by simp) rfl rfl rfl (by decide) ?_ ?_ trivial ?_ ?_ ?_
 ·with_unfolding_all exact trivial
 ·with_unfolding_all exact ⟨.ren rfl,.ren rfl,trivial⟩
 ·repeat' (first|with_unfolding_all exact trivial|exact OE.ren (by with_unfolding_all exact rfl)|with_unfolding_all exact OE.gs|with_unfolding_all refine And.intro ⟨_,by with_unfolding_all exact rfl,?_⟩ ?_)
 ·repeat' (first|with_unfolding_all exact trivial|exact LE.ren (by with_unfolding_all exact rfl)|with_unfolding_all refine And.intro ⟨_,by with_unfolding_all exact rfl,?_⟩ ?_)
 ·repeat' (first|with_unfolding_all exact trivial|exact LE.ren (by with_unfolding_all exact rfl)|with_unfolding_all refine And.intro ⟨_,by with_unfolding_all exact rfl,?_⟩ ?_)
 ·intro _;with_unfolding_all exact ⟨⟨_,rfl,.ren rfl⟩,⟨_,rfl,.ren rfl⟩,⟨_,rfl,.ren rfl⟩,trivial⟩
 ·intro _;with_unfolding_all exact ⟨rfl,rfl,rfl,trivial⟩
 ·rintro pre x Bx hBx l ⟨r,hr⟩ -
  have hx:x∈row:=by rw [← hr];simp
  have hxr:=hmt.ok.re x hx;have hsl:=Ydb p W ms x hl6 (hG.hd hxr.1).2.2;rw [YeU] at hsl;have hsn:(slotsW (shp p.cls) W x).length=szW (shp p.cls) (wAt W x):=hG.slots_len hxr.1;have hnx:x ∉ pre:=fun hm=>by
   have:=hmt.ok.nd
   rw [← hr] at this;exact (List.nodup_append.1 this).2.2 x hm x (List.mem_cons_self ..) rfl
  have hpx:RowOK W st (pre++[x]):=by
   have e:row=(pre++[x])++r:=by rw [← hr];simp
   refine ⟨fun y hy=>hmt.ok.re y (by rw [e];exact List.mem_append_left _ hy),?_⟩;have:=hmt.ok.nd
   rw [e] at this;exact (List.nodup_append.1 this).1
  have hen:=YmD hG hpx;have ha:adsF (shp p.cls) W 1 (pre++[x])=adsF (shp p.cls) W 1 pre++[endF (shp p.cls) W 1 pre]:=by rw [Ynh];rfl
  have hb:endF (shp p.cls) W 1 (pre++[x])=endF (shp p.cls) W 1 pre+1+(slotsW (shp p.cls) W x).length:=by rw [Yno,hsn];rfl
  have e:idM pre (adsF (shp p.cls) W 1 pre)++[((x:Int),V.int (endF (shp p.cls) W 1 pre:Nat))]=idM (pre++[x]) (adsF (shp p.cls) W 1 (pre++[x])):=by rw [ha,YpQ _ _ _ _ (YgM _ _)]
  have hno:=YjM pre (adsF (shp p.cls) W 1 pre) x hnx;rw [hb] at hen ⊢;generalize idM (pre++[x]) (adsF (shp p.cls) W 1 (pre++[x]))=es2 at *
  generalize idM pre (adsF (shp p.cls) W 1 pre)=es at *
  generalize endF (shp p.cls) W 1 pre=n at *
  generalize slotsW (shp p.cls) W x=sx at *
  refine YaF ?_;refine ZbM ?_ (.inl rfl) hno;rw [e];refine YaF ?_;refine TC.rebase fun B3 hB3 hub hf=>?_;(refine Zbi (id:=6) [(8,0,V.int n),(5,0,.bp 2 0)] 7 8 ?_<;>refine ZaQ 0 ?_<;>refine ZaQ 1 ?_<;>refine Zaq 2 ?_)
  all_goals (((with_reducible refine ZaU 3 ?_);refine Zaj [2,4] hsl Tryz.func72 ?_<;>(with_reducible refine OL.nil ?_<;>refine ZaI ?_)))
  all_goals (with_reducible refine ZaR 4 ?_<;>refine Zaq 5 ?_<;>refine Zaq 6 ?_)
  all_goals (((with_reducible refine ZbD 7 ?_);with_reducible refine OL.store ?_<;>(with_reducible refine OL.nil ?_<;>refine ZbE ?_)))
  all_goals (with_reducible refine Zbj ?_)
  all_goals refine YaF ?_
  all_goals refine Za0 hub ?_
  all_goals rw [show (n:Int)+(1+(sx.length:Nat))=((n+1+sx.length:Nat):Int) by omega]
  all_goals exact Zbw trivial [0,1,2,3,4,5,6,7,8,9,10]
 ·intro _ B1 hB1 D1 hM1;refine YaF ?_;refine ZaX ?_;generalize idM row (adsF (shp p.cls) W 1 row)=es at *
  generalize endF (shp p.cls) W 1 row=n1 at *
  refine TF.seq ?_;refine goW ?_;refine ZaX ?_;refine TF.seq ?_;refine goW ?_;refine ZaX ?_;refine Zb4 ?_;refine TF.seq ?_;refine goW ?_;refine Zaj [2,4] hm1 Tryz.func77 ?_;refine goW ?_;refine ZaX ?_;refine TF.block ?_;refine ZbV (fun x:Nat=>V.int x) [(37,.fn (.func 122) [] [.bp 12 0,.ep [ints ws] 0]),(2,.ep [ints ws] 0),(3,.bp 0 0),(4,.bp 1 0),(5,.bp 5 0),(6,.bp 7 0),(9,.bp 11 0)]
   (fun pre=>[.cb 30 [.hs 13],.cb 23 [nilA],.cb 93 (stC p (ints W) 4 (bools ms)),.gs true 3 1 none (W.map V.int),.mo (slM p.cls p.cls.length),.cb 86 [.bp 2 0],.mo es,.cb 110 [.mp 6],.cb 3 [V.int (n1:Nat)],.cb 86 [.bp 2 0],.dead,.cb 100 [.fn (.func 78) [] [.bp 5 0,.bp 7 0]],.cb 86 [.bp 2 0],.gs false 3 1 none ((0::pre.flatMap (rowW (shp p.cls) W row)).map V.int)])
   [2,4,12] [] (fun _=>True) False 13 [0,1,2,3,4,5,6,7,8,9,10,11,13,12]
   (hsq (rfv 2)) Tryz.func76 Tryz.func122 rfl rfl ?_ ?_ (fun _=>rfl) rfl rfl ?_ ?_ ?_ (by simp) (by simp) rfl rfl rfl (by decide) ?_ ?_ trivial ?_ ?_ ?_
  ·with_unfolding_all exact trivial
  ·with_unfolding_all exact ⟨.ren rfl,.ren rfl,trivial⟩
  ·repeat' (first|with_unfolding_all exact trivial|exact OE.ren (by with_unfolding_all exact rfl)|with_unfolding_all exact OE.gs|with_unfolding_all refine And.intro ⟨_,by with_unfolding_all exact rfl,?_⟩ ?_)
  ·repeat' (first|with_unfolding_all exact trivial|exact LE.ren (by with_unfolding_all exact rfl)|with_unfolding_all refine And.intro ⟨_,by with_unfolding_all exact rfl,?_⟩ ?_)
  ·repeat' (first|with_unfolding_all exact trivial|exact LE.ren (by with_unfolding_all exact rfl)|with_unfolding_all refine And.intro ⟨_,by with_unfolding_all exact rfl,?_⟩ ?_)
  ·intro _;with_unfolding_all exact ⟨⟨_,rfl,.ren rfl⟩,⟨_,rfl,.ren rfl⟩,⟨_,rfl,.ren rfl⟩,trivial⟩
  ·intro _;with_unfolding_all exact ⟨rfl,rfl,rfl,trivial⟩
  ·rintro pre x Bx hBx l ⟨r,hr⟩ -
   have hx:x∈row:=by rw [← hr];simp
   have hxr:=hmt.ok.re x hx;obtain ⟨hx1,hxl,hxd⟩:=hG.hd hxr.1;have hwx:wAt W x=W[x]:=by rw [wAt,List.getD_eq_getElem?_getD,List.getElem?_eq_getElem hxl];rfl
   have hsl:=Ydb p W ms x hl6 hxd;rw [YeU] at hsl;have hsok:=YbW hG hxr.1;have hsi:∀ w∈slotsW (shp p.cls) W x,YbC w:=fun w hw=>hW w (List.mem_of_mem_drop (List.mem_of_mem_take hw))
   have hsn:(slotsW (shp p.cls) W x).length*8≤140737488355328:=by rw [slotsW,List.length_take,List.length_drop];omega
   have hch:=Ygg p W ms es (slotsW (shp p.cls) W x) (YqK (shp p.cls) W row) hsn (fun w hw=>hcl w (hsi w hw) (hsok w hw) (hmt.next x hx w hw));have hfl:(pre++[x]).flatMap (rowW (shp p.cls) W row)=pre.flatMap (rowW (shp p.cls) W row)++(W[x]::(slotsW (shp p.cls) W x).map (YqK (shp p.cls) W row)):=by
    rw [List.flatMap_append,← hwx];simp [rowW]
   have hln:(0::pre.flatMap (rowW (shp p.cls) W row)).length≤600:=by
    have h3:∀ y∈pre,y∈row:=fun y hy=>by rw [← hr];exact List.mem_append_left _ hy
    have h4:=YmV hG row 1 pre (fun y hy=>(hmt.ok.re y (h3 y hy)).1);have h5:RowOK W st pre:=⟨fun y hy=>hmt.ok.re y (h3 y hy),by have:=hmt.ok.nd;rw [← hr] at this;exact (List.nodup_append.1 this).1⟩;have h6:=YmD hG h5;rw [List.length_cons];omega
   rw [hfl];have hgl:((slotsW (shp p.cls) W x).map (YqK (shp p.cls) W row)).length≤600:=by rw [List.length_map,slotsW,List.length_take,List.length_drop];omega
   generalize (slotsW (shp p.cls) W x).map (YqK (shp p.cls) W row)=gx at *
   generalize slotsW (shp p.cls) W x=sx at *
   rw [← List.cons_append];generalize (0:Int)::pre.flatMap (rowW (shp p.cls) W row)=ac at *
   have e:ac.map V.int++[V.int W[x]]++gx.map V.int=(ac++W[x]::gx).map V.int:=by simp
   refine YaF ?_;refine TC.rebase fun B3 hB3 hub hf=>?_;refine ZaO [(37,.fn (.func 122) [] [.bp 12 0,.ep [ints ws] 0]),(2,.ep [ints ws] 0),(3,.bp 0 0),(4,.bp 1 0),(5,.bp 5 0),(6,.bp 7 0),(9,.bp 11 0)]
    [.cb 30 [.hs 14],.cb 23 [nilA],.cb 93 (stC p (ints W) 4 (bools ms)),.gs true 3 1 none (W.map V.int),.mo (slM p.cls p.cls.length),.cb 86 [.bp 2 0],.mo es,.cb 110 [.mp 6],.cb 3 [V.int (n1:Nat)],.cb 86 [.bp 2 0],.dead,.cb 100 [.fn (.func 78) [] [.bp 5 0,.bp 7 0]],.cb 86 [.bp 2 0],.dead,.gs false 3 1 none (ac.map V.int++[V.int W[x]]++gx.map V.int)] ?_ ?_
   ·(refine Zbi (id:=11) [(0,0,.hs 13),(5,0,.bp 2 0)] 19 20 ?_<;>refine Zaq 0 ?_<;>refine ZaQ 1 ?_<;>refine ZaQ 2 ?_<;>refine Zaq 3 ?_<;>refine Zaq 4 ?_<;>refine Zaq 5 ?_<;>refine Zaq 7 ?_<;>refine ZaQ 12 ?_<;>refine Zaq 13 ?_)
    all_goals (with_reducible refine OZ.n2 6 15 ?_ ?_)<;>(first|(with_reducible refine NZ.at 6 ?_)<;>(have t6_:=True.intro)<;>(with_reducible refine NZ.s ?_<;>refine Zaq 8 ?_)|(with_reducible refine NZ.at 15 ?_)<;>(have t15_:=True.intro)<;>(with_reducible refine NZ.s ?_)|fail)
    all_goals (first|(have _:=t6_;((with_reducible refine OZ.n2 9 15 ?_ ?_)<;>(first|((with_reducible refine NZ.at 9 ?_)<;>(have t9_:=True.intro)<;>(with_reducible refine NZ.s ?_))|((with_reducible refine NZ.at 15 ?_)<;>(have t15_:=True.intro)<;>(with_reducible refine NZ.s ?_))|fail)))|(have _:=t15_;((have t6_:=True.intro)<;>(with_reducible refine ZaR 6 ?_<;>refine Zaq 8 ?_)))|fail)
    all_goals (first|(have _:=t9_;((with_reducible refine OZ.n2 10 15 ?_ ?_)<;>(first|((with_reducible refine NZ.at 10 ?_)<;>(have t10_:=True.intro)<;>((with_reducible refine NZ.a ?_);with_reducible refine OL.lit ?_<;>(with_reducible refine OL.nil ?_<;>refine ZaI ?_)))|((with_reducible refine NZ.at 15 ?_)<;>(have t15_:=True.intro)<;>(with_reducible refine NZ.s ?_))|fail)))|(have _:=t15_;((have t9_:=True.intro)<;>(with_reducible refine ZaR 9 ?_)))|fail)
    all_goals (first|(have _:=t10_;((with_reducible refine OZ.n2 11 15 ?_ ?_)<;>(first|((with_reducible refine NZ.at 11 ?_)<;>(have t11_:=True.intro)<;>((with_reducible refine NZ.a ?_);with_reducible refine ZaH ?_<;>(with_reducible refine OL.nil ?_<;>refine ZaI ?_)))|((with_reducible refine NZ.at 15 ?_)<;>(have t15_:=True.intro)<;>(with_reducible refine NZ.s ?_))|fail)))|(have _:=t15_;((have t10_:=True.intro)<;>((with_reducible refine ZaU 10 ?_);with_reducible refine OL.lit ?_<;>(with_reducible refine OL.nil ?_<;>refine ZaI ?_))))|fail)
    all_goals (first|(have _:=t11_;((with_reducible refine OZ.n2 14 15 ?_ ?_)<;>(first|((with_reducible refine NZ.at 14 ?_)<;>(have t14_:=True.intro)<;>((with_reducible refine NZ.a ?_);refine Zaj [2,4] hsl Tryz.func72 ?_<;>(with_reducible refine OL.nil ?_<;>refine ZaI ?_)))|((with_reducible refine NZ.at 15 ?_)<;>(have t15_:=True.intro)<;>(with_reducible refine NZ.s ?_))|fail)))|(have _:=t15_;((have t11_:=True.intro)<;>((with_reducible refine ZaU 11 ?_);with_reducible refine ZaH ?_<;>(with_reducible refine OL.nil ?_<;>refine ZaI ?_))))|fail)
    all_goals (first|(have _:=t14_;((have t15_:=True.intro)<;>(with_reducible refine ZaR 15 ?_)))|(have _:=t15_;((have t14_:=True.intro)<;>((with_reducible refine ZaU 14 ?_);refine Zaj [2,4] hsl Tryz.func72 ?_<;>(with_reducible refine OL.nil ?_<;>refine ZaI ?_))))|fail)
    all_goals (((with_reducible refine ZaU 16 ?_);refine Zaj [5,7,2,4,6] hch Tryz.func56 ?_<;>refine Zax 55 ?_<;>(with_reducible refine OL.nil ?_<;>refine ZaI ?_)))
    all_goals (((with_reducible refine ZaU 17 ?_);with_reducible refine OL.app ?_<;>(with_reducible refine OL.nil ?_<;>refine ZaI ?_))<;>(with_reducible refine Zaq 18 ?_))
    all_goals (((with_reducible refine ZbD 19 ?_);with_reducible refine OL.store ?_<;>(with_reducible refine OL.nil ?_<;>refine ZbE ?_)))
    all_goals (with_reducible refine Zbj ?_)
    all_goals exact ZaP [0,1,2,3,4,5,6,7,8,9,10,11,12,13,17]
   ·rw [e];refine YaF ?_;refine Za0 hub ?_;exact Zbw trivial [0,1,2,3,4,5,6,7,8,9,10,11,12,14]
  ·intro _ B2 hB2 D2 hM2;refine YaF ?_;refine ZaX ?_;refine TF.of ?_;have hchw:=Ygg p W ms es ws (YqK (shp p.cls) W row) hwl (fun w hw=>hcl w (hws w hw) (hokw w hw) (hmt.root w hw));refine goW ?_;refine Zaj [5,7,2,4,6] hchw Tryz.func56 ?_;refine goW ?_;refine Zcp ?_;exact ZcD trivial hM1 hM2 hB [0,1,13,14]
  ·intro h;exact h.elim
 ·intro h;exact h.elim
end
def Yye (p:Prg) (W ws:List Int):List Int × List Int × Int:=
 if Ybt p W&&ws.all (okW (Yee p W)) then (Yt8 (shp p.cls) W ws,YuJ (shp p.cls) W ws,0) else ([],[],2)
theorem Yg0 (p:Prg) (W ws:List Int) {o v:List Int} {e:Int} (h:V.Spec Tryz.prog 50 [.fn (.func 76) [] [.ep (YbB p) 0,.ep [ints W] 0,.ep [ints ws] 0,.bp 0 0,.bp 1 0]] Yuq (V.int e) [.cb 30 [.hs 2],.cb 23 [.hs 3],.gs false 3 1 none (o.map V.int),.gs false 3 1 none (v.map V.int)]) :
  V.Spec Tryz.prog 22 [Ya0 p,Yaw W,ints ws] [] (.tp [(Yaw o),(ints v),V.int e]) []:=by
 refine Se Tryz.func22 rfl rfl rfl fun B hB=>?_;repeat' (first|(with_reducible refine TC.seq ?_)|(with_reducible refine TC.region ?_))
 with_reducible refine OL.box ?_
 with_reducible refine OL.box ?_
 with_reducible refine OL.box ?_
 refine Zag 3 ?_;refine Zag 4 ?_;refine Zag 5 ?_;refine goW ?_;refine Zaj [3,4] h Tryz.func50 ?_;refine Zbu 3 0 ?_;refine Zbu 4 0 ?_;refine goW ?_;refine ZaO [(6,.bp 3 0),(7,.bp 4 0),(8,V.int e)] [.dead,.dead,.dead,.cb 30 [(ints o)],.cb 23 [(ints v)]] ?_ ?_
 ·(refine Zal (id:=2) false 3 6 ?_<;>refine Zao 2 ?_<;>refine OD.n2 0 1 ?_ ?_<;>(first|refine Yaa.at 0 ?_<;>refine Yaa.s ?_ (h:=gv)<;>refine OD.n2 1 3 ?_ ?_<;>(first|refine Yaa.at 1 ?_<;>refine Yaa.s ?_ (h:=gv)<;>(refine Zac 3 ?_;refine Zau ?_;refine OL.nil ?_;refine Zab ?_)<;>(refine Zac 4 ?_;refine OL.store ?_;refine OL.nil ?_;refine Zab ?_)<;>refine OD.st 5 ?_<;>refine Zaa ?_|refine Yaa.at 3 ?_<;>(refine Yaa.a ?_;refine Zau ?_;refine OL.nil ?_;refine Zab ?_)<;>refine Zai 1 ?_<;>(refine Zac 4 ?_;refine OL.store ?_;refine OL.nil ?_;refine Zab ?_)<;>refine OD.st 5 ?_<;>refine Zaa ?_)|refine Yaa.at 1 ?_<;>refine Yaa.s ?_ (h:=gv)<;>refine Zai 0 ?_<;>(refine Zac 3 ?_;refine Zau ?_;refine OL.nil ?_;refine Zab ?_)<;>(refine Zac 4 ?_;refine OL.store ?_;refine OL.nil ?_;refine Zab ?_)<;>refine OD.st 5 ?_<;>refine Zaa ?_))
  all_goals exact ZaP [0,1,2,3,4]
 ·refine goW ?_;exact Za7 [] (.ren rfl) (.ren rfl) (.ren rfl)
theorem Yd0 (p:Prg) (W ws:List Int) {_o _v:List Int} {e:Int} (h:V.Spec Tryz.prog 50 [.fn (.func 76) [] [.ep (YbB p) 0,.ep [ints W] 0,.ep [ints ws] 0,.bp 0 0,.bp 1 0]] Yuq (V.int e) Yuq) :
  V.Spec Tryz.prog 22 [Ya0 p,Yaw W,ints ws] [] (.tp [(.st [nilA]),nilA,V.int e]) []:=by
 refine Se Tryz.func22 rfl rfl rfl fun B hB=>?_;repeat' (first|(with_reducible refine TC.seq ?_)|(with_reducible refine TC.region ?_))
 with_reducible refine OL.box ?_
 with_reducible refine OL.box ?_
 with_reducible refine OL.box ?_
 refine Zag 3 ?_;refine Zag 4 ?_;refine Zag 5 ?_;refine goW ?_;refine Zaj [3,4] h Tryz.func50 ?_;skip;skip;refine goW ?_;refine ZaO [(6,.bp 3 0),(7,.bp 4 0),(8,V.int e)] [.dead,.dead,.dead,.cb 30 [nilA],.cb 23 [nilA]] ?_ ?_
 ·(refine Zal (id:=2) false 3 6 ?_<;>refine Zao 2 ?_<;>refine OD.n2 0 1 ?_ ?_<;>(first|refine Yaa.at 0 ?_<;>refine Yaa.s ?_ (h:=gv)<;>refine OD.n2 1 3 ?_ ?_<;>(first|refine Yaa.at 1 ?_<;>refine Yaa.s ?_ (h:=gv)<;>(refine Zac 3 ?_;refine Zau ?_;refine OL.nil ?_;refine Zab ?_)<;>(refine Zac 4 ?_;refine OL.store ?_;refine OL.nil ?_;refine Zab ?_)<;>refine OD.st 5 ?_<;>refine Zaa ?_|refine Yaa.at 3 ?_<;>(refine Yaa.a ?_;refine Zau ?_;refine OL.nil ?_;refine Zab ?_)<;>refine Zai 1 ?_<;>(refine Zac 4 ?_;refine OL.store ?_;refine OL.nil ?_;refine Zab ?_)<;>refine OD.st 5 ?_<;>refine Zaa ?_)|refine Yaa.at 1 ?_<;>refine Yaa.s ?_ (h:=gv)<;>refine Zai 0 ?_<;>(refine Zac 3 ?_;refine Zau ?_;refine OL.nil ?_;refine Zab ?_)<;>(refine Zac 4 ?_;refine OL.store ?_;refine OL.nil ?_;refine Zab ?_)<;>refine OD.st 5 ?_<;>refine Zaa ?_))
  all_goals exact ZaP [0,1,2,3,4]
 ·refine goW ?_;exact Za7 [] (.ren rfl) (.ren rfl) (.ren rfl)
section
variable (p:Prg) (hs:Ya9 p.cls) (hpk:∀ x∈p.nodes,x.2.2.length*8≤140737488355328) (W:List Int) (hW:∀ x∈W,YbC x) (hWl:W.length*8≤140737488355328) (ws:List Int) (hws:∀ w∈ws,YbC w) (hwl:ws.length*8≤140737488355328)
include hs hpk hW hWl hws hwl
theorem YfT (h:(Ybt p W&&ws.all (okW (Yee p W)))=true):V.Spec Tryz.prog 22 [Ya0 p,Yaw W,ints ws] [] (.tp [Yaw (Yt8 (shp p.cls) W ws),ints (YuJ (shp p.cls) W ws),V.int 0]) []:=by
 simp only [Bool.and_eq_true] at h;obtain ⟨hp,hgw,st,hst,hG⟩:=Ybe h.1;have hok:=h.2;rw [YcP hst] at hok;exact Yg0 p W ws (YbH Tryz.func76 ((Ymz p hs hpk W hW hWl ws hws hp hgw st hst hG hok hwl).yes trivial))
theorem Yob (h:(Ybt p W&&ws.all (okW (Yee p W)))=false):V.Spec Tryz.prog 22 [Ya0 p,Yaw W,ints ws] [] (.tp [.st [nilA],nilA,V.int 2]) []:=by
 have _:=hwl;cases hg:Ybt p W with
 | false =>
   have h2:=Ybi p hs hpk W hW hWl hg;refine Yd0 (_o:=[]) (_v:=[]) p W ws (Yaz Tryz.func76 ?_);refine YaZ.enter Tryz.tabOK Tryz.mixed Tryz.func76 rfl rfl rfl fun B hB=>?_;refine goW ?_;refine Zar [] h2 Tryz.func64 ?_;repeat' (first|refine Zam ?_|refine Zak ?_)
   exact Zas [0,1]
 | true =>
   rw [hg,Bool.true_and] at h;obtain ⟨hp,hgw,st,hst,hG⟩:=Ybe hg;rw [YcP hst] at h;have hlt:=fun x hx=>(hG.hd (x:=x) hx).2.1
   have h2:=YaB p hs hpk W hW hWl hp hgw;rw [stW,hst,Option.getD_some] at h2;have hwd:=(Ycz p W st hlt ws hws).no (by rw [h];decide);generalize marks W.length st=ms at *
   refine Yd0 (_o:=[]) (_v:=[]) p W ws (Yaz Tryz.func76 ?_);refine YaZ.enter Tryz.tabOK Tryz.mixed Tryz.func76 rfl rfl rfl fun B hB=>?_;refine goW ?_;refine OL.c h2 Tryz.func64 ?_;refine goW ?_;refine Zar [2,3,4] hwd Tryz.func65 ?_;repeat' (first|refine Zam ?_|refine Zak ?_)
   exact Zas [0,1]
end
theorem Yrz {sh:Int→Option Nat} (W:List Int) (hW:∀ x∈W,YbC x) (st:List Nat) (hG:GH sh W st) (x:Nat) (hx:x∈st):V.Spec Tryz.prog 30 [Yaw W,V.int x] [] (V.int (real W x)) []:=by
 have hl6:=(Yah hG.eq).2.1;refine Se Tryz.func30 rfl rfl rfl fun B hB=>?_;repeat' (first|(with_reducible refine TC.seq ?_)|(with_reducible refine TC.region ?_))
 with_reducible refine OL.box ?_
 refine Zag 2 ?_;refine goW ?_;refine Zat (fun a:Nat=>[(1,V.int a),(2,.ep [ints W] 0)]) (fun _=>[.dead]) (fun a=>a∈st∧real W a=real W x) (fun a=>W.length-a) x [0] ⟨hx,rfl⟩ ?_;rintro a ⟨ha,hr⟩;obtain ⟨h1,hl,hd⟩:=hG.hd ha;have h0:=hG.nonneg ha;have hwx:wAt W a=W[a]:=by rw [wAt,List.getD_eq_getElem?_getD,List.getElem?_eq_getElem hl];rfl
 have hfw:=YdS W[a] (hwx ▸ h0) (hW W[a] (List.getElem_mem hl)).2;by_cases hz:W[a] / 64=0
 ·have e:real W x=a:=by rw [← hr];exact YhA (by rw [hwx];exact hz)
  rw [e];refine goW ?_;refine OL.c hfw Tryz.func85 ?_;refine goW ?_;exact Zad [] (.ren rfl)
 ·have hs:=Yg3 hG ha (by rw [hwx];exact hz);rcases hG.fwd ha with q|⟨q1,q2⟩
  ·rw [hwx] at q;exact (hz q).elim
  ·rw [hwx] at hs q1 q2;have hl2:=(hG.hd q2).2.1;rw [hwx] at h0;generalize hv:W[a] / 64=v at *
   refine goW ?_;refine OL.c hfw Tryz.func85 ?_;refine goW ?_;refine OL.c hfw Tryz.func85 ?_;refine goW ?_;exact Zan v.toNat [0] ⟨q2,by rw [← hs];exact hr⟩ (by omega)
abbrev YxC (l:List Nat):AV:=.sl 1 none (natsA l)
theorem Yu4 {l:List Cls} (h:clsB 0 l=true):slN l≤4*l.length:=by
 have key:∀ k,k≤l.length→slN (l.take k)≤4*k:=by
  intro k;induction k with
  | zero=>intro _;simp [slN]
  | succ k ih =>
    intro hk;have h1:=(Yet h (show k < l.length by omega)).1;have h2:=ih (by omega);rw [Ydz l (by omega)];omega
 have:=key l.length (Nat.le_refl _)
 rwa [List.take_length] at this
theorem YbO {p:Prg} (h:Yag p=true):slN p.cls≤40∧p.cls.length≤10∧fine (graphOf p.cls)=true:=by
 simp only [Yag,Bool.and_eq_true,decide_eq_true_eq] at h;have:=Yu4 h.1.2
 exact ⟨by omega,h.1.1,h.2.1.2⟩
section
variable (p:Prg) (hs:Ya9 p.cls) (hcb:Yag p=true)
theorem Yq8 (c:Int):clsN p c=(shp p.cls c).isSome:=by
 unfold clsN shp;by_cases h:3≤c∧c < 3+(p.cls.length:Int)
 ·rw [if_pos h];simp [h.1,h.2]
 ·rw [if_neg h];by_cases h1:3≤c
  ·have:¬ c < 3+(p.cls.length:Int):=fun h2=>h ⟨h1,h2⟩
   simp [this]
  ·simp [h1]
include hs hcb
set_option maxHeartbeats 2000000 in
theorem Yep (W:List Int) (_hW:∀ x∈W,YbC x) (hWl:W.length*8≤140737488355328) :
  V.Spec Tryz.prog 83 [Ya0 p,Yaw W] [] (.tp [YxC ((starts (shp p.cls) W).getD []),V.bool (starts (shp p.cls) W).isSome]) []:=by
 obtain ⟨hsl,hpl,hf⟩:=YbO hcb;have hsz:=fun c h3 hc=>YdI p hs hf (by omega) (c:=c) h3 hc
 have how:=fun c=>YgS p (by omega) c
 generalize hst:starts (shp p.cls) W=ST;have hbad:∀ q:W.length=0∨600 < W.length∨wAt W 0≠0,ST=none:=fun q=>by rw [← hst,starts,if_pos q]
 refine Se Tryz.func83 rfl rfl rfl fun B hB=>?_;repeat' (first|(with_reducible refine TC.seq ?_)|(with_reducible refine TC.region ?_))
 with_reducible refine OL.box ?_
 with_reducible refine OL.box ?_
 refine Zag 2 ?_;refine Zag 3 ?_;repeat' (with_reducible first|refine OL.st ?_|refine TC.region ?_|refine TC.seq ?_|refine OL.nil ?_|refine Zap ?_|refine TC.block ?_|refine TC.skip ?_|refine ZaY ?_|refine ZaB ?_|refine ZaD ?_|refine Zay ?_ ?_<;>(intro hc;try (exfalso;omega))|refine Zaz ?_ ?_<;>(intro hc;try (exfalso;omega))|refine TC.ret ?_|refine ZaE ?_|fail)
 ·rw [hbad (.inl (by omega))];exact ZaA [] (.nil (by decide)) (.ren rfl)
 ·rw [hbad (.inr (.inl (by omega)))];exact ZaA [] (.nil (by decide)) (.ren rfl)
 ·rw [hbad (.inr (.inr (by rw [wAt,List.getD_eq_getElem?_getD,List.getElem?_eq_getElem (by omega)];exact hc)))];exact ZaA [] (.nil (by decide)) (.ren rfl)
 ·have hw0:wAt W 0=0:=by rw [wAt,List.getD_eq_getElem?_getD,List.getElem?_eq_getElem (by omega)];simpa using hc
  have hstF:starts (shp p.cls) W=startsF (shp p.cls) W W.length 1:=by rw [starts,if_neg (by omega)]
  refine ZaT 6 3 1 ?_;refine Zat (S:=Nat × List Nat) (fun q=>[(2,.ep (YbB p) 0),(3,.ep [ints W] 0),(6,.hs 2),(7,V.int q.1)]) (fun q=>[.dead,.dead,.gs false 3 1 none (natsA q.2)])
   (fun q=>1≤q.1∧q.2.length≤q.1∧q.1≤W.length∧(startsF (shp p.cls) W W.length q.1).map (q.2++·)=ST) (fun q=>W.length-q.1) (1,[]) [0,1,2] ⟨Nat.le_refl _,by simp,by dsimp only;omega,by rw [← hst,hstF];simp⟩ ?_
  rintro ⟨i,out⟩ ⟨hi1,hol,hiw,hS⟩;dsimp only at hi1 hol hiw hS ⊢;have e3:(natsA out).length=out.length:=by rw [natsA,List.length_map]
  rw [YcU] at hS;by_cases hi:i < W.length;rotate_left
  ·rw [if_neg hi] at hS;simp only [Option.map_some,List.append_nil] at hS;subst hS;refine goW ?_;refine Za4 4 ?_;exact ZaA [] (.ren rfl) (.ren rfl)
  ·rw [if_pos hi] at hS;have hwi:wAt W i=W[i]:=by rw [wAt,List.getD_eq_getElem?_getD,List.getElem?_eq_getElem hi];rfl
   have hno:¬ hdB (shp p.cls) W i=true→ST=none:=fun hn=>by rw [if_neg hn] at hS;rw [← hS];rfl
   by_cases h0:0≤W[i];rotate_left
   ·have hno:=hno (fun h=>h0 (by have:=(Ybd.1 h).1;rwa [hwi] at this));subst hno;refine goW ?_;(refine Zal (id:=6) true 17 17 ?_<;>refine Zaf 0 1 2 3 ?_<;>refine Zae 4 5 ?_<;>refine OD.st 6 ?_<;>refine Zaw 36 ?_ ?_<;>(intro hc;try (exfalso;omega))<;>(first|(refine OD.st 7 ?_)|(refine OD.of 7 ?_))<;>refine OD.of 8 ?_<;>refine OD.of 9 ?_<;>refine OD.of 10 ?_<;>refine OD.of 11 ?_<;>refine OD.of 12 ?_<;>refine OD.of 13 ?_<;>refine OD.of 14 ?_<;>refine OD.of 15 ?_<;>refine OD.st 16 ?_<;>refine Zaa ?_)
    refine Zap ?_;refine goW ?_;exact ZaA [] (.nil (by decide)) (.ren rfl)
   ·have hcl:=Ye4 W[i] h0;have how:=how (W[i] % 64);rw [Yq8] at how
    cases hsh:shp p.cls (W[i] % 64) with
    | none =>
      have hno:=hno (fun h=>by obtain ⟨_,n,q,_⟩:=Ybd.1 h;rw [hwi,hsh] at q;cases q);subst hno;rw [hsh] at how;refine goW ?_;(refine Zal (id:=6) true 17 17 ?_<;>refine Zaf 0 1 2 3 ?_<;>refine Zae 4 5 ?_<;>refine OD.st 6 ?_<;>refine Zaw 36 ?_ ?_<;>(intro hc;try (exfalso;omega))<;>(first|(refine OD.st 7 ?_)|(refine OD.of 7 ?_))<;>refine Zaf 8 9 10 11 ?_<;>refine OD.st 12 ?_<;>refine Zah 13 hcl Tryz.func84 ?_<;>refine Zah 14 how Tryz.func97 ?_<;>refine Zae 15 16 ?_<;>refine Zaa ?_)
      refine Zap ?_;refine goW ?_;exact ZaA [] (.nil (by decide)) (.ren rfl)
    | some n =>
      rw [hsh] at how;obtain ⟨k,hk,hk3,hkl,hn⟩:=YcS hsh;have hsz:=hsz k hk3 (by omega);rw [Ya4 hcb,← hn,← hk] at hsz;have hnb:=Ya3 hpl k;rw [← hn] at hnb;have hszw:szW (shp p.cls) (wAt W i)=n:=by rw [szW,hwi,hsh];rfl
      by_cases h2:i+n < W.length;rotate_left
      ·have hno:=hno (fun h=>by obtain ⟨_,n',q,q2⟩:=Ybd.1 h;rw [hwi,hsh] at q;cases q;exact h2 q2);subst hno;refine goW ?_;(refine Zal (id:=6) true 17 17 ?_<;>refine Zaf 0 1 2 3 ?_<;>refine Zae 4 5 ?_<;>refine OD.st 6 ?_<;>refine Zaw 36 ?_ ?_<;>(intro hc;try (exfalso;omega))<;>(first|(refine OD.st 7 ?_)|(refine OD.of 7 ?_))<;>refine Zaf 8 9 10 11 ?_<;>refine OD.st 12 ?_<;>refine Zah 13 hcl Tryz.func84 ?_<;>refine Zah 14 how Tryz.func97 ?_<;>refine Zae 15 16 ?_<;>refine Zaa ?_)
       refine Zap ?_;refine goW ?_;(refine Zal (id:=9) true 11 11 ?_<;>refine Zaf 0 1 2 3 ?_<;>refine Zae 4 5 ?_<;>refine OD.st 6 ?_<;>refine Zah 7 hcl Tryz.func84 ?_<;>refine Zah 8 hsz Tryz.func28 ?_<;>refine Zae 9 10 ?_<;>refine Zaa ?_)
       refine Zap ?_;refine goW ?_;exact ZaA [] (.nil (by decide)) (.ren rfl)
      ·have hd:hdB (shp p.cls) W i=true:=Ybd.2 ⟨by rw [hwi];exact h0,n,by rw [hwi];exact hsh,h2⟩;rw [if_pos hd,hszw] at hS;have e4:natsA out++[V.int i]=natsA (out++[i]):=by rw [natsA,natsA,List.map_append];rfl
       refine goW ?_;(refine Zal (id:=6) true 17 17 ?_<;>refine Zaf 0 1 2 3 ?_<;>refine Zae 4 5 ?_<;>refine OD.st 6 ?_<;>refine Zaw 36 ?_ ?_<;>(intro hc;try (exfalso;omega))<;>(first|(refine OD.st 7 ?_)|(refine OD.of 7 ?_))<;>refine Zaf 8 9 10 11 ?_<;>refine OD.st 12 ?_<;>refine Zah 13 hcl Tryz.func84 ?_<;>refine Zah 14 how Tryz.func97 ?_<;>refine Zae 15 16 ?_<;>refine Zaa ?_)
       refine Zap ?_;refine goW ?_;(refine Zal (id:=9) true 11 11 ?_<;>refine Zaf 0 1 2 3 ?_<;>refine Zae 4 5 ?_<;>refine OD.st 6 ?_<;>refine Zah 7 hcl Tryz.func84 ?_<;>refine Zah 8 hsz Tryz.func28 ?_<;>refine Zae 9 10 ?_<;>refine Zaa ?_)
       refine Zap ?_;refine goW ?_;rw [e4];refine Zan (i+1+n,out++[i]) [0,1,4] ⟨by dsimp only;omega,by rw [List.length_append,List.length_singleton];dsimp only;omega,by dsimp only;omega,?_⟩ (by dsimp only;omega) (hr:=⟨⟨_,rfl,LE.ren rfl⟩,⟨_,rfl,LE.ren rfl⟩,⟨_,rfl,LE.ren rfl⟩,⟨_,rfl,LE.int (by dsimp only;omega)⟩,trivial⟩);rw [← hS,Option.map_map];dsimp only;congr 1;funext x
       simp
end
abbrev Yd1 (l:List Nat):List Int:=l.map fun (n:Nat)=>(n:Int)
theorem YpU (l:List Nat):YxC l=ints (Yd1 l):=by
 show AV.sl 1 none _=AV.sl 1 none _;rw [Yd1,List.map_map];rfl
theorem Ylg {st:List Nat} (h:∀ x∈st,1≤x) (w:Int):Yrq (Yd1 st) w=okW st w:=by
 unfold Yrq okW;by_cases ho:w.tmod 2≠0
 ·have:w % 2≠0:=fun e=>ho (YcG.2 e)
  rw [if_pos ho,if_pos this]
 ·have hm:w % 2=0:=YcG.1 (by simpa using ho);rw [if_neg ho,if_neg (by omega)];congr 1;rw [Bool.eq_iff_iff];simp only [List.any_eq_true,Bool.and_eq_true,decide_eq_true_eq,List.contains_iff_mem,beq_iff_eq];constructor
  ·rintro ⟨x,hx,e⟩;obtain ⟨n,hn,rfl⟩:=List.mem_map.1 hx;have:=h n hn
   exact ⟨by omega,by rw [← e];simpa using hn⟩
  ·rintro ⟨h1,h2⟩;exact ⟨_,List.mem_map.2 ⟨_,h2,rfl⟩,by omega⟩
theorem Ypw (st:List Nat) (n:Int) (hn:0≤n):((Yd1 st).any fun x=>x==n)=st.contains n.toNat:=by
 rw [Bool.eq_iff_iff];simp only [List.any_eq_true,List.contains_iff_mem,beq_iff_eq];constructor
 ·rintro ⟨x,hx,e⟩;obtain ⟨m,hm,rfl⟩:=List.mem_map.1 hx;rw [← e];simpa using hm
 ·intro h;exact ⟨_,List.mem_map.2 ⟨_,h,rfl⟩,by omega⟩
section
variable (p:Prg) (hs:Ya9 p.cls) (hcb:Yag p=true)
include hs hcb
theorem Yqe (W:List Int) (hW:∀ x∈W,YbC x) (hWl:W.length*8≤140737488355328) (ws:List Int) (hwi:∀ w∈ws,YbC w) (hwl:ws.length*8≤140737488355328) :
  V.Spec Tryz.prog 27 [Ya0 p,Yaw W,ints ws] [] (V.bool (ws.all (okW (Yee p W)))) []:=by
 have h1:=Yep p hs hcb W hW hWl;have hst1:∀ x∈Yee p W,1≤x:=fun x hx=>by
  rw [Yee] at hx
  cases hst:starts (shp p.cls) W with
  | none=>rw [hst] at hx;cases hx
  | some st=>rw [hst] at hx;exact (Yc7 hst hx).1
 have hstl:(Yee p W).length≤600:=by
  rw [Yee]
  cases hst:starts (shp p.cls) W with
  | none=>simp
  | some st =>
    have h2:=YdA _ _ _ (Yah hst).2.2.2 (by omega) (by have:=(Yah hst).1;omega);have h3:=(Yah hst).2.1;have h4:∀ l:List Nat,l.length≤(l.map fun x=>1+szW (shp p.cls) (wAt W x)).sum:=by
     intro l;induction l with
     | nil=>simp
     | cons x l ih=>simp only [List.length_cons,List.map_cons,List.sum_cons];omega
    have:=h4 st
    simp only [Option.getD_some];omega
 rw [show (starts (shp p.cls) W).getD []=Yee p W from rfl,YpU] at h1;have hcl:(Yd1 (Yee p W)).length≤1000000000:=by rw [Yd1,List.length_map];omega
 have hwd:=fun w hw=>Yf9 (Yd1 (Yee p W)) w hcl hw
 simp only [Ylg hst1] at hwd;generalize Yd1 (Yee p W)=cl at *
 generalize (starts (shp p.cls) W).isSome=bb at *
 generalize okW (Yee p W)=ok at *
 refine Se Tryz.func27 rfl rfl rfl fun B hB=>?_;repeat' (first|(with_reducible refine TC.seq ?_)|(with_reducible refine TC.region ?_))
 with_reducible refine OL.box ?_
 with_reducible refine OL.box ?_
 refine Zag 3 ?_;refine Zag 4 ?_;refine goW ?_;refine OL.c h1 Tryz.func83 ?_;refine goW ?_;refine Zat (fun k:Nat=>[(2,ints ws),(7,ints cl),(9,V.int k)]) (fun _=>[.dead,.dead]) (fun k=>k≤ws.length∧(ws.take k).all ok=true) (fun k=>ws.length-k) 0 [0,1] ⟨Nat.zero_le _,by simp⟩ ?_;rintro k ⟨hk,hal⟩;by_cases hkl:k < ws.length
 ·have hwd:=hwd ws[k] (hwi _ (List.getElem_mem _))
  cases ho:ok ws[k] with
  | false =>
    have e:ws.all ok=false:=by
     rw [Bool.eq_false_iff];intro h;have:=List.all_eq_true.1 h ws[k] (List.getElem_mem _)
     rw [ho] at this;cases this
    rw [e];rw [ho] at hwd;refine goW ?_;refine OL.c hwd Tryz.func87 ?_;refine goW ?_;exact Zad [] (.ren rfl)
  | true =>
    rw [ho] at hwd;refine goW ?_;refine OL.c hwd Tryz.func87 ?_;refine goW ?_;exact Zan (k+1) [0,1] ⟨by omega,by rw [Yab hkl,List.all_append,hal];simp [ho]⟩ (by omega)
 ·rw [Yaf (by omega)] at hal;rw [hal];refine goW ?_;exact Zad [] (.ren rfl)
end
end Go.Proofs
