/- Lemmas for the claim; no conditions. -/
import Derived.Test.YtdjhogobbbnddaaGreatC23
import Derived.Test.YtdjhogobbbnddaaGreatC19
import Derived.Test.YtdjhogobbbnddaaGreatC18
import Derived.Test.YtdjhogobbbnddaaGreatC45
import Derived.Test.YtdjhogobbbnddaaGreatC42
namespace Go.Proofs
open Go Go.W Go.V
theorem exS:Ya9 exP.cls:=⟨by decide,by decide⟩
theorem exN:∀ x∈exP.nodes,x.2.2.length*8≤140737488355328:=by decide
abbrev exB:List Int:=[0,5,8,0,4,19,8]
abbrev exC:List Int:=[0,3,6,4,19,6,3,15]
abbrev exD:List Ob:=[(4,[(1,9),(3,0)]),(5,[(3,0),(2,0)])]
abbrev exV:List (Int × Int):=[(3,1),(1,3)]
theorem You (l:List Int) (h:(l.all fun x=>decide (-9223372036854775808≤x)&&decide (x≤9223372036854775807))=true):∀ x∈l,YbC x:=fun x hx=>by
 have:=List.all_eq_true.1 h x hx
 simp only [Bool.and_eq_true,decide_eq_true_eq] at this;exact this
theorem YwD:V.Spec Tryz.prog 13 [Ya0 exP,Yef exO] [] (.tp [Yaw exH,ints [2,6],V.int 0]) []:=by
 have h:=Yfw exP exS exN exO YtY Yv4;rwa [Ywh,YvZ,if_pos (by decide)] at h
theorem Yvg:V.Spec Tryz.prog 40 [Ya0 exP,Yaw exH,V.int 2,V.int 5] [] (.tp [Yaw exT,V.int 0]) []:=by
 have h:=Yh5 exP exS exN exH (You _ (by decide)) (by decide) 2 5 ⟨by decide,by decide⟩ (by rw [YrU]);rwa [YrU] at h
theorem YuT:V.Spec Tryz.prog 22 [Ya0 exP,Yaw exT,ints [2]] [] (.tp [Yaw exB,ints [2],V.int 0]) []:=by
 have h:=YfT exP exS exN exT (You _ (by decide)) (by decide) [2] (You _ (by decide)) (by decide) Ywl;rwa [Yuk,YuN] at h
theorem YtZ:V.Spec Tryz.prog 31 [Ya0 exP,Yaw exT,V.int 2,V.int 1] [] (.tp [V.int 0,V.int 0]) []:=by
 have h:=Yim exP exS exN exT (You _ (by decide)) (by decide) 2 1 ⟨by decide,by decide⟩;rwa [Yuj] at h
theorem Yu3:V.Spec Tryz.prog 31 [Ya0 exP,Yaw exH,V.int 2,V.int 1] [] (.tp [V.int 0,V.int 5]) []:=by
 have h:=Yim exP exS exN exH (You _ (by decide)) (by decide) 2 1 ⟨by decide,by decide⟩;rwa [Yuy] at h
theorem Ytl:V.Spec Tryz.prog 24 [Ya0 exP,Yaw exT,Yaw exB,ints [2],ints [2]] [] (.tp [V.bool true,V.int 0]) []:=by
 have h:=YkN exP exS exN exT exB (You _ (by decide)) (You _ (by decide)) (by decide) (by decide) [2] [2] (You _ (by decide)) (You _ (by decide)) (by decide) (by decide);rwa [Ysx] at h
theorem Ywi:V.Spec Tryz.prog 35 [Ya0 exP,Yaw exH,V.int 3] [] (.tp [Yaw exC,V.int 12,V.int 0]) []:=by
 have h:=Yjo exP exS exN exH (You _ (by decide)) (by decide) 3 (by rw [Yun]);rwa [Yun] at h
theorem Yu7:V.Spec Tryz.prog 18 [Ya0 exP,Yaw exT,ints [2,7]] [] (.tp [Yef exD,Ych exV,V.int 0]) []:=by
 have h:=Yia exP exS exN exT (You _ (by decide)) (by decide) [2,7] (You _ (by decide)) (by decide) (by rw [Yr3]);rwa [Yr3] at h
theorem Ytp (l:List Int):V.Spec Tryz.prog 16 [ints l,ints l] [] (V.bool true) []:=by
 have h:=YdD l l;rwa [beq_self_eq_true] at h
theorem YxT (l:List (Int × Int)):V.Spec Tryz.prog 21 [Ych l,Ych l] [] (V.bool true) []:=by
 have h:=YgB l l;rwa [beq_self_eq_true] at h
set_option maxRecDepth 8000 in
set_option maxHeartbeats 8000000 in
theorem Ye2:V.Spec Tryz.prog 17 [] [] (V.bool true) []:=by
 have hlay:=YwD;have hturn:=Yvg;have hcoll:=YuT;have hget1:=YtZ;have hget2:=Yu3;have halike:=Ytl;have hnew:=Ywi;have hobjs:=Yu7;refine Se Tryz.func17 rfl rfl rfl fun B hB=>?_;refine goW ?_;refine OL.c Yh0 Tryz.func60 ?_;refine goW ?_;refine ZaO [(1,.bp 0 0),(2,.bp 1 0),(3,.bp 2 0),(4,ints [2,6]),(5,V.int 0)] [.cb 27 (YbB exP),.cb 63 [V.int 3,V.int 1],.cb 30 [ints exH]] ?_ ?_
 ·(refine Zal (id:=3) true 15 18 ?_<;>refine Zae 0 1 ?_<;>refine OD.st 5 ?_<;>refine OD.n2 2 14 ?_ ?_<;>(first|refine Yaa.at 2 ?_<;>refine ZcA ?_<;>refine Zbb 28 ?_<;>refine OD.n2 3 14 ?_ ?_<;>(first|refine Yaa.at 3 ?_<;>refine ZaN (YaQ (3,[(3,1)])) Tryz.func61 ?_<;>refine OD.n2 4 14 ?_ ?_<;>(first|refine Yaa.at 4 ?_<;>refine ZaN (YcL 9) Tryz.func62 ?_<;>refine OD.n2 6 14 ?_ ?_<;>(first|refine Yaa.at 6 ?_<;>refine ZcA ?_<;>refine Zbb 32 ?_<;>refine OD.n2 7 14 ?_ ?_<;>(first|refine Yaa.at 7 ?_<;>refine ZaN (YaQ (4,[(1,9),(3,1)])) Tryz.func61 ?_<;>refine OD.n2 8 14 ?_ ?_<;>(first|refine Yaa.at 8 ?_<;>refine ZcA ?_<;>refine Zbb 34 ?_<;>refine OD.n2 9 14 ?_ ?_<;>(first|refine Yaa.at 9 ?_<;>refine ZaN hlay Tryz.func13 ?_<;>refine Zae 10 11 ?_<;>refine Zao 12 ?_<;>refine Zao 13 ?_<;>refine Zbh 14 ?_<;>(refine Zac 15 ?_;refine Zau ?_;refine OL.nil ?_;refine Zab ?_)<;>refine Zae 16 17 ?_<;>refine Zaa ?_|refine Yaa.at 14 ?_<;>refine ZaC ?_<;>refine Zah 9 hlay Tryz.func13 ?_<;>refine Zae 10 11 ?_<;>refine Zao 12 ?_<;>refine Zao 13 ?_<;>(refine Zac 15 ?_;refine Zau ?_;refine OL.nil ?_;refine Zab ?_)<;>refine Zae 16 17 ?_<;>refine Zaa ?_)|refine Yaa.at 14 ?_<;>refine ZaC ?_<;>refine Zbe 8 ?_<;>refine Zbb 34 ?_<;>refine Zah 9 hlay Tryz.func13 ?_<;>refine Zae 10 11 ?_<;>refine Zao 12 ?_<;>refine Zao 13 ?_<;>(refine Zac 15 ?_;refine Zau ?_;refine OL.nil ?_;refine Zab ?_)<;>refine Zae 16 17 ?_<;>refine Zaa ?_)|refine Yaa.at 14 ?_<;>refine ZaC ?_<;>refine Zah 7 (YaQ (4,[(1,9),(3,1)])) Tryz.func61 ?_<;>refine Zbe 8 ?_<;>refine Zbb 34 ?_<;>refine Zah 9 hlay Tryz.func13 ?_<;>refine Zae 10 11 ?_<;>refine Zao 12 ?_<;>refine Zao 13 ?_<;>(refine Zac 15 ?_;refine Zau ?_;refine OL.nil ?_;refine Zab ?_)<;>refine Zae 16 17 ?_<;>refine Zaa ?_)|refine Yaa.at 14 ?_<;>refine ZaC ?_<;>refine Zbe 6 ?_<;>refine Zbb 32 ?_<;>refine Zah 7 (YaQ (4,[(1,9),(3,1)])) Tryz.func61 ?_<;>refine Zbe 8 ?_<;>refine Zbb 34 ?_<;>refine Zah 9 hlay Tryz.func13 ?_<;>refine Zae 10 11 ?_<;>refine Zao 12 ?_<;>refine Zao 13 ?_<;>(refine Zac 15 ?_;refine Zau ?_;refine OL.nil ?_;refine Zab ?_)<;>refine Zae 16 17 ?_<;>refine Zaa ?_)|refine Yaa.at 14 ?_<;>refine ZaC ?_<;>refine Zah 4 (YcL 9) Tryz.func62 ?_<;>refine Zbe 6 ?_<;>refine Zbb 32 ?_<;>refine Zah 7 (YaQ (4,[(1,9),(3,1)])) Tryz.func61 ?_<;>refine Zbe 8 ?_<;>refine Zbb 34 ?_<;>refine Zah 9 hlay Tryz.func13 ?_<;>refine Zae 10 11 ?_<;>refine Zao 12 ?_<;>refine Zao 13 ?_<;>(refine Zac 15 ?_;refine Zau ?_;refine OL.nil ?_;refine Zab ?_)<;>refine Zae 16 17 ?_<;>refine Zaa ?_)|refine Yaa.at 14 ?_<;>refine ZaC ?_<;>refine Zah 3 (YaQ (3,[(3,1)])) Tryz.func61 ?_<;>refine Zah 4 (YcL 9) Tryz.func62 ?_<;>refine Zbe 6 ?_<;>refine Zbb 32 ?_<;>refine Zah 7 (YaQ (4,[(1,9),(3,1)])) Tryz.func61 ?_<;>refine Zbe 8 ?_<;>refine Zbb 34 ?_<;>refine Zah 9 hlay Tryz.func13 ?_<;>refine Zae 10 11 ?_<;>refine Zao 12 ?_<;>refine Zao 13 ?_<;>(refine Zac 15 ?_;refine Zau ?_;refine OL.nil ?_;refine Zab ?_)<;>refine Zae 16 17 ?_<;>refine Zaa ?_)|refine Yaa.at 14 ?_<;>refine ZaC ?_<;>refine Zbe 2 ?_<;>refine Zbb 28 ?_<;>refine Zah 3 (YaQ (3,[(3,1)])) Tryz.func61 ?_<;>refine Zah 4 (YcL 9) Tryz.func62 ?_<;>refine Zbe 6 ?_<;>refine Zbb 32 ?_<;>refine Zah 7 (YaQ (4,[(1,9),(3,1)])) Tryz.func61 ?_<;>refine Zbe 8 ?_<;>refine Zbb 34 ?_<;>refine Zah 9 hlay Tryz.func13 ?_<;>refine Zae 10 11 ?_<;>refine Zao 12 ?_<;>refine Zao 13 ?_<;>(refine Zac 15 ?_;refine Zau ?_;refine OL.nil ?_;refine Zab ?_)<;>refine Zae 16 17 ?_<;>refine Zaa ?_))
  all_goals exact Zeb 3 [0,1]
 refine goW ?_;refine OL.c hturn Tryz.func40 ?_;refine goW ?_;refine Zax 48 ?_;refine OL.c hcoll Tryz.func22 ?_;refine goW ?_;refine OL.c hget1 Tryz.func31 ?_;refine goW ?_;refine OL.c hget2 Tryz.func31 ?_;refine goW ?_;refine Zax 89 ?_;refine OL.c (Ytp exH) Tryz.func16 ?_;refine goW ?_;refine Zax 94 ?_;refine OL.c (Ytp [2,6]) Tryz.func16 ?_;refine goW ?_;refine Zax 101 ?_;refine OL.c (Ytp exT) Tryz.func16 ?_;refine goW ?_;refine Zax 109 ?_;refine Zax 110 ?_;refine OL.c halike Tryz.func24 ?_;refine goW ?_;refine OL.c hnew Tryz.func35 ?_;refine goW ?_;refine Zax 124 ?_;refine OL.c hobjs Tryz.func18 ?_;refine goW ?_;(refine Zal (id:=17) true 17 17 ?_<;>refine Zae 0 1 ?_<;>refine Zbe 2 ?_<;>refine Zbb 174 ?_<;>refine Zah 3 (Ytp exB) Tryz.func16 ?_<;>refine Zae 4 5 ?_<;>refine Zbe 6 ?_<;>refine Zbb 178 ?_<;>refine Zah 7 (Ytp [2]) Tryz.func16 ?_<;>refine Zaf 8 9 10 11 ?_<;>refine Zah 12 (YcL 3) Tryz.func62 ?_<;>refine Zbe 13 ?_<;>refine Zbb 185 ?_<;>refine Zah 14 (YxT exV) Tryz.func21 ?_<;>refine Zae 15 16 ?_<;>refine Zaa ?_)
 all_goals refine goW ?_
 all_goals exact Zad [] (.ren rfl)
theorem LE.tp {τ:Nat→Option Nat} {xs ys:List AV} (h:LEs τ xs ys):LE τ (.tp xs) (.tp ys):=fun m w γ γ' hs v hr=>by
 cases hr with
 | @tp _ vs _ hl hr =>
 have hv:VL m w γ vs xs:=VL.of hl hr;have hv':=h.vl hs hv;exact .tp hv'.len hv'.get
theorem Yna {e:Int}:LE (ts []) (.tp [.st [.raw (.slice none 0 0)],.raw (.slice none 0 0),V.int e]) (.tp [Yaw [],ints [],V.int e]):=
 LE.tp ⟨LE.st ⟨.nil (by decide),trivial⟩,.nil (by decide),.ren rfl,trivial⟩
theorem YxN (l:List Int):V.Spec Tryz.prog 15 [Yaw l,Yaw l] [] (V.bool true) []:=by
 have h:=YfK l l;rwa [beq_self_eq_true] at h
end Go.Proofs
