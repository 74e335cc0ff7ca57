/- Lemmas for the claim; no conditions. -/
import Derived.Test.YtdjhogobbbnddaaGreatC23
import Derived.Test.YtdjhogobbbnddaaGreatC19
import Derived.Test.YtdjhogobbbnddaaGreatC18
import Derived.Test.YtdjhogobbbnddaaGreatC51
import Derived.Test.YtdjhogobbbnddaaGreatC42
namespace Go.Proofs
open Go Go.W Go.V
def Ynm (p:Prg) (G H a b:List Int):Bool × Int:=
 if (Ybt p G&&Ybt p H)&&(a.all (okW (Yee p G))&&b.all (okW (Yee p H))) then (YdM (shp p.cls) G H a b,0) else (false,2)
theorem YbZ (p:Prg) (G H a b:List Int) {e:Int} {r:Bool} (h:V.Spec Tryz.prog 50 [.fn (.func 80) [] [.ep (YbB p) 0,.ep [ints G] 0,.ep [ints H] 0,.ep [ints a] 0,.ep [ints b] 0,.bp 0 0]] [.cb 4 [V.bool false]] (V.int e) [.cb 4 [V.bool r]]) :
  V.Spec Tryz.prog 24 [Ya0 p,Yaw G,Yaw H,ints a,ints b] [] (.tp [V.bool r,V.int e]) []:=by
 refine Se Tryz.func24 rfl rfl rfl fun B hB=>?_;repeat' (first|(with_reducible refine TC.seq ?_)|(with_reducible refine TC.region ?_))
 with_reducible refine OL.box ?_
 with_reducible refine OL.box ?_
 with_reducible refine OL.box ?_
 with_reducible refine OL.box ?_
 with_reducible refine OL.box ?_
 refine Zag 5 ?_;refine Zag 6 ?_;refine Zag 7 ?_;refine Zag 8 ?_;refine Zag 9 ?_;refine goW ?_;refine Zaj [5] h Tryz.func50 ?_;refine goW ?_;exact ZaZ [] (.ren rfl) (.ren rfl)
section
variable (p:Prg) (hs:Ya9 p.cls) (hpk:∀ x∈p.nodes,x.2.2.length*8≤140737488355328) (G H:List Int) (hGi:∀ x∈G,YbC x) (hHi:∀ x∈H,YbC x) (hGl:G.length*8≤140737488355328) (hHl:H.length*8≤140737488355328) (a b:List Int) (hai:∀ w∈a,YbC w) (hbi:∀ w∈b,YbC w) (hal:a.length*8≤140737488355328) (hbl:b.length*8≤140737488355328)
include hs hpk hGi hHi hGl hHl hai hbi hal hbl
theorem YkN:V.Spec Tryz.prog 24 [Ya0 p,Yaw G,Yaw H,ints a,ints b] [] (.tp [V.bool (Ynm p G H a b).1,V.int (Ynm p G H a b).2]) []:=by
 unfold Ynm
 cases hg:Ybt p G with
 | false =>
   have h2:=Ybi p hs hpk G hGi hGl hg;refine YbZ p G H a b (Yaz Tryz.func80 ?_);refine YaZ.enter Tryz.tabOK Tryz.mixed Tryz.func80 rfl rfl rfl fun B hB=>?_;refine goW ?_;(refine Zal (id:=0) false 2 8 ?_)<;>((refine Zch 0 1 3 4 ?_ ?_ ?_ ?_)<;>(first|((refine NS 0 ?_)<;>((refine ZaJ 1 3 4 ?_ ?_ ?_)<;>(first|((refine NS 1 ?_)<;>((refine ZaJ 2 3 4 ?_ ?_ ?_)<;>(first|((refine NA 2 ?_;refine Zar [] h2 Tryz.func64 ?_<;>refine Zav ?_<;>(repeat' (first|refine Zam ?_|refine Zak ?_))<;>exact Zas [0])<;>((refine OD.n2 3 4 ?_ ?_)<;>(first|((refine NS 3 ?_)<;>skip<;>skip<;>skip<;>skip<;>(refine Zaa ?_))|((refine NS 4 ?_)<;>skip<;>skip<;>skip<;>skip<;>(refine Zaa ?_)))))|((refine NS 3 ?_)<;>((refine OD.n2 2 4 ?_ ?_)<;>(first|((refine NA 2 ?_;refine Zar [] h2 Tryz.func64 ?_<;>refine Zav ?_<;>(repeat' (first|refine Zam ?_|refine Zak ?_))<;>exact Zas [0])<;>skip<;>skip<;>skip<;>skip<;>(refine Zaa ?_))|((refine NS 4 ?_)<;>((refine Zac 2 ?_);refine Zar [] h2 Tryz.func64 ?_<;>refine Zav ?_<;>(repeat' (first|refine Zam ?_|refine Zak ?_))<;>exact Zas [0])<;>skip<;>skip<;>skip<;>(refine Zaa ?_)))))|((refine NS 4 ?_)<;>((refine OD.n2 2 3 ?_ ?_)<;>(first|((refine NA 2 ?_;refine Zar [] h2 Tryz.func64 ?_<;>refine Zav ?_<;>(repeat' (first|refine Zam ?_|refine Zak ?_))<;>exact Zas [0])<;>skip<;>skip<;>skip<;>skip<;>(refine Zaa ?_))|((refine NS 3 ?_)<;>((refine Zac 2 ?_);refine Zar [] h2 Tryz.func64 ?_<;>refine Zav ?_<;>(repeat' (first|refine Zam ?_|refine Zak ?_))<;>exact Zas [0])<;>skip<;>skip<;>skip<;>(refine Zaa ?_))))))))|((refine NS 3 ?_)<;>((refine OD.n2 1 4 ?_ ?_)<;>(first|((refine NS 1 ?_)<;>((refine OD.n2 2 4 ?_ ?_)<;>(first|((refine NA 2 ?_;refine Zar [] h2 Tryz.func64 ?_<;>refine Zav ?_<;>(repeat' (first|refine Zam ?_|refine Zak ?_))<;>exact Zas [0])<;>skip<;>skip<;>skip<;>skip<;>(refine Zaa ?_))|((refine NS 4 ?_)<;>((refine Zac 2 ?_);refine Zar [] h2 Tryz.func64 ?_<;>refine Zav ?_<;>(repeat' (first|refine Zam ?_|refine Zak ?_))<;>exact Zas [0])<;>skip<;>skip<;>skip<;>(refine Zaa ?_)))))|((refine NS 4 ?_<;>refine Zai 1 ?_)<;>((refine Zac 2 ?_);refine Zar [] h2 Tryz.func64 ?_<;>refine Zav ?_<;>(repeat' (first|refine Zam ?_|refine Zak ?_))<;>exact Zas [0])<;>skip<;>skip<;>skip<;>(refine Zaa ?_)))))|((refine NS 4 ?_)<;>((refine OD.n2 1 3 ?_ ?_)<;>(first|((refine NS 1 ?_)<;>((refine OD.n2 2 3 ?_ ?_)<;>(first|((refine NA 2 ?_;refine Zar [] h2 Tryz.func64 ?_<;>refine Zav ?_<;>(repeat' (first|refine Zam ?_|refine Zak ?_))<;>exact Zas [0])<;>skip<;>skip<;>skip<;>skip<;>(refine Zaa ?_))|((refine NS 3 ?_)<;>((refine Zac 2 ?_);refine Zar [] h2 Tryz.func64 ?_<;>refine Zav ?_<;>(repeat' (first|refine Zam ?_|refine Zak ?_))<;>exact Zas [0])<;>skip<;>skip<;>skip<;>(refine Zaa ?_)))))|((refine NS 3 ?_<;>refine Zai 1 ?_)<;>((refine Zac 2 ?_);refine Zar [] h2 Tryz.func64 ?_<;>refine Zav ?_<;>(repeat' (first|refine Zam ?_|refine Zak ?_))<;>exact Zas [0])<;>skip<;>skip<;>skip<;>(refine Zaa ?_))))))))|((refine NS 1 ?_)<;>((refine ZaJ 0 3 4 ?_ ?_ ?_)<;>(first|((refine NS 0 ?_)<;>((refine ZaJ 2 3 4 ?_ ?_ ?_)<;>(first|((refine NA 2 ?_;refine Zar [] h2 Tryz.func64 ?_<;>refine Zav ?_<;>(repeat' (first|refine Zam ?_|refine Zak ?_))<;>exact Zas [0])<;>((refine OD.n2 3 4 ?_ ?_)<;>(first|((refine NS 3 ?_)<;>skip<;>skip<;>skip<;>skip<;>(refine Zaa ?_))|((refine NS 4 ?_)<;>skip<;>skip<;>skip<;>skip<;>(refine Zaa ?_)))))|((refine NS 3 ?_)<;>((refine OD.n2 2 4 ?_ ?_)<;>(first|((refine NA 2 ?_;refine Zar [] h2 Tryz.func64 ?_<;>refine Zav ?_<;>(repeat' (first|refine Zam ?_|refine Zak ?_))<;>exact Zas [0])<;>skip<;>skip<;>skip<;>skip<;>(refine Zaa ?_))|((refine NS 4 ?_)<;>((refine Zac 2 ?_);refine Zar [] h2 Tryz.func64 ?_<;>refine Zav ?_<;>(repeat' (first|refine Zam ?_|refine Zak ?_))<;>exact Zas [0])<;>skip<;>skip<;>skip<;>(refine Zaa ?_)))))|((refine NS 4 ?_)<;>((refine OD.n2 2 3 ?_ ?_)<;>(first|((refine NA 2 ?_;refine Zar [] h2 Tryz.func64 ?_<;>refine Zav ?_<;>(repeat' (first|refine Zam ?_|refine Zak ?_))<;>exact Zas [0])<;>skip<;>skip<;>skip<;>skip<;>(refine Zaa ?_))|((refine NS 3 ?_)<;>((refine Zac 2 ?_);refine Zar [] h2 Tryz.func64 ?_<;>refine Zav ?_<;>(repeat' (first|refine Zam ?_|refine Zak ?_))<;>exact Zas [0])<;>skip<;>skip<;>skip<;>(refine Zaa ?_))))))))|((refine NS 3 ?_)<;>((refine OD.n2 0 4 ?_ ?_)<;>(first|((refine NS 0 ?_)<;>((refine OD.n2 2 4 ?_ ?_)<;>(first|((refine NA 2 ?_;refine Zar [] h2 Tryz.func64 ?_<;>refine Zav ?_<;>(repeat' (first|refine Zam ?_|refine Zak ?_))<;>exact Zas [0])<;>skip<;>skip<;>skip<;>skip<;>(refine Zaa ?_))|((refine NS 4 ?_)<;>((refine Zac 2 ?_);refine Zar [] h2 Tryz.func64 ?_<;>refine Zav ?_<;>(repeat' (first|refine Zam ?_|refine Zak ?_))<;>exact Zas [0])<;>skip<;>skip<;>skip<;>(refine Zaa ?_)))))|((refine NS 4 ?_<;>refine Zai 0 ?_)<;>((refine Zac 2 ?_);refine Zar [] h2 Tryz.func64 ?_<;>refine Zav ?_<;>(repeat' (first|refine Zam ?_|refine Zak ?_))<;>exact Zas [0])<;>skip<;>skip<;>skip<;>(refine Zaa ?_)))))|((refine NS 4 ?_)<;>((refine OD.n2 0 3 ?_ ?_)<;>(first|((refine NS 0 ?_)<;>((refine OD.n2 2 3 ?_ ?_)<;>(first|((refine NA 2 ?_;refine Zar [] h2 Tryz.func64 ?_<;>refine Zav ?_<;>(repeat' (first|refine Zam ?_|refine Zak ?_))<;>exact Zas [0])<;>skip<;>skip<;>skip<;>skip<;>(refine Zaa ?_))|((refine NS 3 ?_)<;>((refine Zac 2 ?_);refine Zar [] h2 Tryz.func64 ?_<;>refine Zav ?_<;>(repeat' (first|refine Zam ?_|refine Zak ?_))<;>exact Zas [0])<;>skip<;>skip<;>skip<;>(refine Zaa ?_)))))|((refine NS 3 ?_<;>refine Zai 0 ?_)<;>((refine Zac 2 ?_);refine Zar [] h2 Tryz.func64 ?_<;>refine Zav ?_<;>(repeat' (first|refine Zam ?_|refine Zak ?_))<;>exact Zas [0])<;>skip<;>skip<;>skip<;>(refine Zaa ?_))))))))|((refine NS 3 ?_)<;>((refine ZaJ 0 1 4 ?_ ?_ ?_)<;>(first|((refine NS 0 ?_)<;>((refine OD.n2 1 4 ?_ ?_)<;>(first|((refine NS 1 ?_)<;>((refine OD.n2 2 4 ?_ ?_)<;>(first|((refine NA 2 ?_;refine Zar [] h2 Tryz.func64 ?_<;>refine Zav ?_<;>(repeat' (first|refine Zam ?_|refine Zak ?_))<;>exact Zas [0])<;>skip<;>skip<;>skip<;>skip<;>(refine Zaa ?_))|((refine NS 4 ?_)<;>((refine Zac 2 ?_);refine Zar [] h2 Tryz.func64 ?_<;>refine Zav ?_<;>(repeat' (first|refine Zam ?_|refine Zak ?_))<;>exact Zas [0])<;>skip<;>skip<;>skip<;>(refine Zaa ?_)))))|((refine NS 4 ?_<;>refine Zai 1 ?_)<;>((refine Zac 2 ?_);refine Zar [] h2 Tryz.func64 ?_<;>refine Zav ?_<;>(repeat' (first|refine Zam ?_|refine Zak ?_))<;>exact Zas [0])<;>skip<;>skip<;>skip<;>(refine Zaa ?_)))))|((refine NS 1 ?_)<;>((refine OD.n2 0 4 ?_ ?_)<;>(first|((refine NS 0 ?_)<;>((refine OD.n2 2 4 ?_ ?_)<;>(first|((refine NA 2 ?_;refine Zar [] h2 Tryz.func64 ?_<;>refine Zav ?_<;>(repeat' (first|refine Zam ?_|refine Zak ?_))<;>exact Zas [0])<;>skip<;>skip<;>skip<;>skip<;>(refine Zaa ?_))|((refine NS 4 ?_)<;>((refine Zac 2 ?_);refine Zar [] h2 Tryz.func64 ?_<;>refine Zav ?_<;>(repeat' (first|refine Zam ?_|refine Zak ?_))<;>exact Zas [0])<;>skip<;>skip<;>skip<;>(refine Zaa ?_)))))|((refine NS 4 ?_<;>refine Zai 0 ?_)<;>((refine Zac 2 ?_);refine Zar [] h2 Tryz.func64 ?_<;>refine Zav ?_<;>(repeat' (first|refine Zam ?_|refine Zak ?_))<;>exact Zas [0])<;>skip<;>skip<;>skip<;>(refine Zaa ?_)))))|((refine NS 4 ?_)<;>((refine OD.n2 0 1 ?_ ?_)<;>(first|((refine NS 0 ?_<;>refine Zai 1 ?_)<;>((refine Zac 2 ?_);refine Zar [] h2 Tryz.func64 ?_<;>refine Zav ?_<;>(repeat' (first|refine Zam ?_|refine Zak ?_))<;>exact Zas [0])<;>skip<;>skip<;>skip<;>(refine Zaa ?_))|((refine NS 1 ?_<;>refine Zai 0 ?_)<;>((refine Zac 2 ?_);refine Zar [] h2 Tryz.func64 ?_<;>refine Zav ?_<;>(repeat' (first|refine Zam ?_|refine Zak ?_))<;>exact Zas [0])<;>skip<;>skip<;>skip<;>(refine Zaa ?_))))))))|((refine NS 4 ?_)<;>((refine ZaJ 0 1 3 ?_ ?_ ?_)<;>(first|((refine NS 0 ?_)<;>((refine OD.n2 1 3 ?_ ?_)<;>(first|((refine NS 1 ?_)<;>((refine OD.n2 2 3 ?_ ?_)<;>(first|((refine NA 2 ?_;refine Zar [] h2 Tryz.func64 ?_<;>refine Zav ?_<;>(repeat' (first|refine Zam ?_|refine Zak ?_))<;>exact Zas [0])<;>skip<;>skip<;>skip<;>skip<;>(refine Zaa ?_))|((refine NS 3 ?_)<;>((refine Zac 2 ?_);refine Zar [] h2 Tryz.func64 ?_<;>refine Zav ?_<;>(repeat' (first|refine Zam ?_|refine Zak ?_))<;>exact Zas [0])<;>skip<;>skip<;>skip<;>(refine Zaa ?_)))))|((refine NS 3 ?_<;>refine Zai 1 ?_)<;>((refine Zac 2 ?_);refine Zar [] h2 Tryz.func64 ?_<;>refine Zav ?_<;>(repeat' (first|refine Zam ?_|refine Zak ?_))<;>exact Zas [0])<;>skip<;>skip<;>skip<;>(refine Zaa ?_)))))|((refine NS 1 ?_)<;>((refine OD.n2 0 3 ?_ ?_)<;>(first|((refine NS 0 ?_)<;>((refine OD.n2 2 3 ?_ ?_)<;>(first|((refine NA 2 ?_;refine Zar [] h2 Tryz.func64 ?_<;>refine Zav ?_<;>(repeat' (first|refine Zam ?_|refine Zak ?_))<;>exact Zas [0])<;>skip<;>skip<;>skip<;>skip<;>(refine Zaa ?_))|((refine NS 3 ?_)<;>((refine Zac 2 ?_);refine Zar [] h2 Tryz.func64 ?_<;>refine Zav ?_<;>(repeat' (first|refine Zam ?_|refine Zak ?_))<;>exact Zas [0])<;>skip<;>skip<;>skip<;>(refine Zaa ?_)))))|((refine NS 3 ?_<;>refine Zai 0 ?_)<;>((refine Zac 2 ?_);refine Zar [] h2 Tryz.func64 ?_<;>refine Zav ?_<;>(repeat' (first|refine Zam ?_|refine Zak ?_))<;>exact Zas [0])<;>skip<;>skip<;>skip<;>(refine Zaa ?_)))))|((refine NS 3 ?_)<;>((refine OD.n2 0 1 ?_ ?_)<;>(first|((refine NS 0 ?_<;>refine Zai 1 ?_)<;>((refine Zac 2 ?_);refine Zar [] h2 Tryz.func64 ?_<;>refine Zav ?_<;>(repeat' (first|refine Zam ?_|refine Zak ?_))<;>exact Zas [0])<;>skip<;>skip<;>skip<;>(refine Zaa ?_))|((refine NS 1 ?_<;>refine Zai 0 ?_)<;>((refine Zac 2 ?_);refine Zar [] h2 Tryz.func64 ?_<;>refine Zav ?_<;>(repeat' (first|refine Zam ?_|refine Zak ?_))<;>exact Zas [0])<;>skip<;>skip<;>skip<;>(refine Zaa ?_))))))))))
 | true =>
   obtain ⟨hp,hgw,sg,hsg,hG⟩:=Ybe hg;have h2:=YaB p hs hpk G hGi hGl hp hgw;rw [stW,hsg,Option.getD_some] at h2
   cases hh:Ybt p H with
   | false =>
     have h3:=Ybi p hs hpk H hHi hHl hh;generalize marks G.length sg=mg at *
     refine YbZ p G H a b (Yaz Tryz.func80 ?_);refine YaZ.enter Tryz.tabOK Tryz.mixed Tryz.func80 rfl rfl rfl fun B hB=>?_;refine goW ?_;(refine Zal (id:=0) true 5 8 ?_<;>refine Zaf 0 1 3 4 ?_<;>refine Zah 2 h2 Tryz.func64 ?_)<;>((refine Zac 5 ?_);refine Zar [] h3 Tryz.func64 ?_<;>refine Zav ?_<;>(repeat' (first|refine Zam ?_|refine Zak ?_))<;>exact Zas [0])<;>skip<;>skip<;>(refine Zaa ?_)
   | true =>
     obtain ⟨_,hhw,sk,hsk,hH⟩:=Ybe hh;have h3:=YaB p hs hpk H hHi hHl hp hhw;rw [stW,hsk,Option.getD_some] at h3;rw [YcP hsg,YcP hsk];have hlg:=fun x hx=>(hG.hd (x:=x) hx).2.1
     have hlh:=fun x hx=>(hH.hd (x:=x) hx).2.1
     have hwa:=Ycz p G sg hlg a hai;have hwb:=Ycz p H sk hlh b hbi;have hpa:=fun ha hb=>Yqh p G H hGi hHi sg sk hG hH (marks G.length sg) (marks H.length sk) a b hai hbi ha hb hal hbl
     generalize marks G.length sg=mg at *
     generalize marks H.length sk=mh at *
     by_cases ha:a.all (okW sg)=true;rotate_left
     ·have hwa:=hwa.no ha;rw [Bool.eq_false_iff.2 ha,Bool.false_and,Bool.and_false,if_neg (by decide)];refine YbZ p G H a b (Yaz Tryz.func80 ?_);refine YaZ.enter Tryz.tabOK Tryz.mixed Tryz.func80 rfl rfl rfl fun B hB=>?_;refine goW ?_;(refine Zal (id:=0) true 8 8 ?_<;>refine Zaf 0 1 3 4 ?_<;>refine Zah 2 h2 Tryz.func64 ?_<;>refine Zah 5 h3 Tryz.func64 ?_<;>refine Zae 6 7 ?_<;>refine Zaa ?_)
      refine Zap ?_;refine goW ?_;refine Zar [1,2,3] hwa Tryz.func65 ?_;repeat' (first|refine Zam ?_|refine Zak ?_)
      exact Zas [0]
     have hwa:=hwa.yes ha;by_cases hb:b.all (okW sk)=true;rotate_left
     ·have hwb:=hwb.no hb;rw [Bool.eq_false_iff.2 hb,Bool.and_false,Bool.and_false,if_neg (by decide)];refine YbZ p G H a b (Yaz Tryz.func80 ?_);refine YaZ.enter Tryz.tabOK Tryz.mixed Tryz.func80 rfl rfl rfl fun B hB=>?_;refine goW ?_;(refine Zal (id:=0) true 8 8 ?_<;>refine Zaf 0 1 3 4 ?_<;>refine Zah 2 h2 Tryz.func64 ?_<;>refine Zah 5 h3 Tryz.func64 ?_<;>refine Zae 6 7 ?_<;>refine Zaa ?_)
      refine Zap ?_;refine goW ?_;refine Zaj [1,2,3] hwa Tryz.func65 ?_;refine goW ?_;refine Zar [4,5,6] hwb Tryz.func65 ?_;repeat' (first|refine Zam ?_|refine Zak ?_)
      exact Zas [0]
     have hwb:=hwb.yes hb;have hpa:=hpa (List.all_eq_true.1 ha) (List.all_eq_true.1 hb);rw [ha,hb,if_pos (by decide)];dsimp only;generalize YdM (shp p.cls) G H a b=R at *
     refine YbZ p G H a b (YbH (r:=.tp []) Tryz.func80 ?_);refine Se Tryz.func80 rfl rfl rfl fun B hB=>?_;refine goW ?_;(refine Zal (id:=0) true 8 8 ?_<;>refine Zaf 0 1 3 4 ?_<;>refine Zah 2 h2 Tryz.func64 ?_<;>refine Zah 5 h3 Tryz.func64 ?_<;>refine Zae 6 7 ?_<;>refine Zaa ?_)
     refine Zap ?_;refine goW ?_;refine Zaj [1,2,3] hwa Tryz.func65 ?_;refine goW ?_;refine Zaj [4,5,6] hwb Tryz.func65 ?_;refine Zbu 1 0 ?_;refine Zbu 4 0 ?_;refine goW ?_;refine Zaj [1,3,4,6] hpa Tryz.func81 ?_;refine goW ?_;exact Za1 [0]
end
def exP:Prg:=⟨[([],[0],[(0,7)]),([3],[1],[]),([4,3],[],[(0,1)])],2,[1],[⟨1,0,⟨2,0,[],3,0,[]⟩,0⟩,⟨2,0,⟨3,0,[0],0,5,[]⟩,3⟩],
 [(17,0,[1]),(4,0,[2]),(3,0,[]),(9,0,[4,5]),(3,0,[]),(3,1,[]),(5,0,[7]),(6,5,[])],6⟩
theorem Yuc:Ya0 exP=.st [.sl 3 none [.st [ints [],ints [0],Yde [(0,7)]],.st [ints [3],ints [1],Yde []],.st [ints [4,3],ints [],Yde [(0,1)]]],V.int 2,ints [1],
  .sl 9 none [.st [V.int 1,V.int 0,V.int 2,V.int 0,ints [],V.int 3,V.int 0,.sl 6 none [],V.int 0],.st [V.int 2,V.int 0,V.int 3,V.int 0,ints [0],V.int 0,V.int 5,.sl 6 none [],V.int 3]],
  .sl 3 none [.st [V.int 17,V.int 0,ints [1]],.st [V.int 4,V.int 0,ints [2]],.st [V.int 3,V.int 0,ints []],.st [V.int 9,V.int 0,ints [4,5]],.st [V.int 3,V.int 0,ints []],.st [V.int 3,V.int 1,ints []],.st [V.int 5,V.int 0,ints [7]],.st [V.int 6,V.int 5,ints []]],V.int 6]:=by
 with_unfolding_all rfl
set_option maxHeartbeats 4000000 in
theorem Yh0:V.Spec Tryz.prog 60 [] [] (Ya0 exP) []:=by
 rw [Yuc];refine Se Tryz.func60 rfl rfl rfl fun B hB=>?_;repeat' (first|(with_reducible refine TC.seq ?_)|(with_reducible refine TC.region ?_))
 with_reducible refine OL.alloc ?_
 repeat' (first|(with_reducible refine TC.seq ?_)|(with_reducible refine TC.region ?_)|(with_reducible refine OL.nil ?_)|(with_reducible refine Zap ?_))
 with_reducible refine OL.lit ?_
 refine Zax 4 ?_;with_reducible refine OL.build ?_
 with_reducible refine OL.lit ?_
 refine Zax 6 ?_;with_reducible refine OL.build ?_
 with_reducible refine OL.lit ?_
 refine Zax 8 ?_;with_reducible refine OL.lit ?_
 refine Zax 9 ?_;with_reducible refine OL.build ?_
 with_reducible refine OL.lit ?_
 refine Zax 11 ?_;with_reducible refine OL.build ?_
 with_reducible refine OL.lit ?_
 refine Zax 13 ?_;with_reducible refine OL.build ?_
 with_reducible refine OL.lit ?_
 refine Zax 15 ?_;with_reducible refine OL.st ?_
 repeat' (first|(with_reducible refine TC.seq ?_)|(with_reducible refine TC.region ?_)|(with_reducible refine OL.nil ?_)|(with_reducible refine Zap ?_))
 with_reducible refine OL.build ?_
 with_reducible refine OL.build ?_
 with_reducible refine OL.lit ?_
 refine Zax 18 ?_;with_reducible refine OL.build ?_
 with_reducible refine OL.build ?_
 with_reducible refine OL.lit ?_
 refine Zax 21 ?_;with_reducible refine OL.st ?_
 repeat' (first|(with_reducible refine TC.seq ?_)|(with_reducible refine TC.region ?_)|(with_reducible refine OL.nil ?_)|(with_reducible refine Zap ?_))
 with_reducible refine OL.lit ?_
 refine Zax 22 ?_;with_reducible refine OL.build ?_
 with_reducible refine OL.lit ?_
 refine Zax 24 ?_;with_reducible refine OL.build ?_
 with_reducible refine OL.build ?_
 with_reducible refine OL.lit ?_
 refine Zax 27 ?_;with_reducible refine OL.build ?_
 with_reducible refine OL.build ?_
 with_reducible refine OL.build ?_
 with_reducible refine OL.lit ?_
 refine Zax 31 ?_;with_reducible refine OL.build ?_
 with_reducible refine OL.build ?_
 with_reducible refine OL.lit ?_
 refine Zax 34 ?_;with_reducible refine OL.st ?_
 repeat' (first|(with_reducible refine TC.seq ?_)|(with_reducible refine TC.region ?_)|(with_reducible refine OL.nil ?_)|(with_reducible refine Zap ?_))
 with_reducible refine OL.st ?_
 with_reducible refine OL.lit ?_
 refine Zax 36 ?_;with_reducible refine OL.st ?_
 with_reducible refine OL.st ?_
 with_reducible refine OL.build ?_
 with_reducible refine Zau ?_
 refine goW ?_;refine Zba [] ?_;exact (LE.st ⟨LE.slc ⟨⟨.nil (by decide),.ren rfl,.ren rfl,trivial⟩,⟨.ren rfl,.ren rfl,.nil (by decide),trivial⟩,⟨.ren rfl,.nil (by decide),.ren rfl,trivial⟩,trivial⟩,.ren rfl,.ren rfl,LE.slc ⟨⟨.ren rfl,.ren rfl,.ren rfl,.ren rfl,.nil (by decide),.ren rfl,.ren rfl,.nil (by decide),.ren rfl,trivial⟩,⟨.ren rfl,.ren rfl,.ren rfl,.ren rfl,.ren rfl,.ren rfl,.ren rfl,.nil (by decide),.ren rfl,trivial⟩,trivial⟩,LE.slc ⟨⟨.ren rfl,.ren rfl,.ren rfl,trivial⟩,⟨.ren rfl,.ren rfl,.ren rfl,trivial⟩,⟨.ren rfl,.ren rfl,.nil (by decide),trivial⟩,⟨.ren rfl,.ren rfl,.ren rfl,trivial⟩,⟨.ren rfl,.ren rfl,.nil (by decide),trivial⟩,⟨.ren rfl,.ren rfl,.nil (by decide),trivial⟩,⟨.ren rfl,.ren rfl,.ren rfl,trivial⟩,⟨.ren rfl,.ren rfl,.nil (by decide),trivial⟩,trivial⟩,.ren rfl,trivial⟩)
abbrev exO:List Ob:=[(3,[(3,1)]),(4,[(1,9),(3,1)])]
abbrev exH:List Int:=[0,3,6,4,19,6]
abbrev exT:List Int:=[0,387,0,4,19,6,5,6,0]
theorem YtY:Ybk exP=true:=by kernel_rfl
theorem Yv4:Ygy exP.cls exO=true:=by kernel_rfl
theorem Ywh:Yeo (Ycx exO) exO=exH:=by kernel_rfl
theorem YvZ:(Ycx exO).map (2*·)=[2,6]:=by kernel_rfl
theorem YrU:YlK exP exH 2 5=(exT,0):=by kernel_rfl
theorem Ywl:(Ybt exP exT&&[2].all (okW (Yee exP exT)))=true:=by kernel_rfl
theorem Yuk:Yt8 (shp exP.cls) exT [2]=[0,5,8,0,4,19,8]:=by kernel_rfl
theorem YuN:YuJ (shp exP.cls) exT [2]=[2]:=by kernel_rfl
theorem Yuj:YtX exP exT 2 1=(0,0):=by kernel_rfl
theorem Yuy:YtX exP exH 2 1=(0,5):=by kernel_rfl
theorem Ysx:Ynm exP exT [0,5,8,0,4,19,8] [2] [2]=(true,0):=by kernel_rfl
theorem Yun:YrW exP exH 3=([0,3,6,4,19,6,3,15],12,0):=by kernel_rfl
theorem Yr3:Yku exP exT [2,7]=([(4,[(1,9),(3,0)]),(5,[(3,0),(2,0)])],[(3,1),(1,3)],0):=by kernel_rfl
theorem YgB (la lb:List (Int × Int)):V.Spec Tryz.prog 21 [Ych la,Ych lb] [] (V.bool (la==lb)) []:=by
 refine Se Tryz.func21 rfl rfl rfl fun B hB=>?_;refine ZaS 0 fun hla=>ZaS 1 fun hlb=>?_;by_cases hl:la.length=lb.length
 ·refine goW ?_;refine Zat (fun k:Nat=>[(0,Ych la),(1,Ych lb),(5,V.int k)]) (fun _=>[]) (fun k=>k≤la.length∧la.take k=lb.take k) (fun k=>la.length-k) 0 [] ⟨Nat.zero_le _,by simp⟩ ?_;rintro k ⟨hk,hpre⟩;by_cases hkl:k < la.length
  ·obtain ⟨a1,a2⟩:∃ t:Bool,t=(la[k].1==(lb[k]'(by omega)).1&&la[k].2==(lb[k]'(by omega)).2):=⟨_,rfl⟩;refine goW ?_;(refine Zal (id:=6) true 8 9 ?_<;>refine OD.st 0 ?_<;>refine OD.st 1 ?_<;>refine OD.st 2 ?_<;>refine OD.st 3 ?_<;>refine OD.st 4 ?_<;>refine OD.st 5 ?_<;>refine OD.st 6 ?_<;>refine OD.st 7 ?_<;>(refine Zac 8 ?_;refine Zd0 Yyd ?_;rw [← a2];refine OL.nil ?_;refine Zab ?_)<;>refine Zaa ?_)
   refine goW ?_
   cases a1
   ·refine goW ?_;refine Zad [] (.bool ?_);have:la≠lb:=fun e=>by subst e;simp at a2
    simp [this]
   ·have h:la[k]=lb[k]'(by omega):=by
     have:=a2.symm
     simp only [Bool.and_eq_true,beq_iff_eq] at this;exact Prod.ext this.1 this.2
    refine goW ?_;refine Zan (k+1) [] ⟨by omega,?_⟩ (by omega);rw [Yab (by omega),Yab (by omega),hpre,h]
  ·refine goW ?_;refine Zad [] (.bool ?_);have e:la=lb:=by
    rw [← Yaf (l:=la) (k:=k) (by omega),← Yaf (l:=lb) (k:=k) (by omega)];exact hpre
   simp [e]
 ·refine goW ?_;refine Zad [] (.bool ?_);have:la≠lb:=fun e=>by subst e;exact hl rfl
  simp [this]
theorem YaQ (x:Ob):V.Spec Tryz.prog 61 [V.int x.1,Ych x.2] [] (obA x) []:=by
 refine Se Tryz.func61 rfl rfl rfl fun B hB=>?_;refine goW ?_;exact Zba [] (.ren rfl)
end Go.Proofs
