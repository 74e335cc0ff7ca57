/- Part 60 of what the claim is proved by: lemmas on the model and walks through functions of the program; no conditions. -/
import Derived.Test.YtdjhogobbbnddaaGreatQC0
import Derived.Test.YtdjhogobbbnddaaGreatQ23
import Derived.Test.YtdjhogobbbnddaaGreatQ19
import Derived.Test.YtdjhogobbbnddaaGreatQ18
import Derived.Test.YtdjhogobbbnddaaGreatQC46
namespace Go.Proofs
open Go Go.W Go.V
def Ygj (p:Prg) (c:Int):List Int:=if Yc4 p c then slotsOf p.cls c.toNat else []
section
variable (p:Prg) (hs:Ya9 p.cls) (hpk:∀ x∈p.nodes,x.2.2.length*8≤140737488355328)
include hs hpk
theorem YjB (W:List Int) (hW:∀ x∈W,YbC x) (hWl:W.length*8≤140737488355328):V.Spec Tryz.prog 47 [Ya0 p,Yaw W] [] (V.int (if Ybt p W then 0 else 2)) []:=by
 have h1:=Ylk p hs hpk W hW hWl
 cases hg:Ybt p W
 all_goals
  rw [hg] at h1;refine Se Tryz.func47 rfl rfl rfl fun B hB=>?_;repeat' (first|(with_reducible refine TC.seq ?_)|(with_reducible refine TC.region ?_))
  with_reducible refine OL.box ?_
  with_reducible refine OL.box ?_
  refine OL.frzB 2 ?_;refine OL.frzB 3 ?_;refine goW ?_;refine OL.c h1 Tryz.func26 ?_;refine goW ?_;exact TX.rt1 [] (.ren rfl)
theorem YjJ (c:Int):V.Spec Tryz.prog 46 [Ya0 p,V.int c] [] (.tp [ints (Ygj p c),V.int (if Yc4 p c then 0 else 2)]) []:=by
 have h0:=Yd5 p hs hpk
 cases hp:Ybk p with
 | false =>
   rw [hp] at h0;have ho:Yc4 p c=false:=by simp [Yc4,hp]
   rw [Ygj,ho];refine Se Tryz.func46 rfl rfl rfl fun B hB=>?_;repeat' (first|(with_reducible refine TC.seq ?_)|(with_reducible refine TC.region ?_))
   with_reducible refine OL.box ?_
   refine OL.frzB 2 ?_;refine goW ?_;refine OL.c h0 Tryz.func42 ?_;refine goW ?_;exact TX.rt2 [] (.nil (by decide)) (.ren rfl)
 | true =>
   rw [hp] at h0;have hcb:=YaC hp;obtain ⟨hsl,hpl,hf⟩:=YbO hcb;have h1:=YgS p (by omega) c;have hoc:Yc4 p c=clsN p c:=by simp [Yc4,clsN,hp]
   cases ho:clsN p c with
   | false =>
     rw [ho] at h1;rw [Ygj,hoc,ho];refine Se Tryz.func46 rfl rfl rfl fun B hB=>?_;repeat' (first|(with_reducible refine TC.seq ?_)|(with_reducible refine TC.region ?_))
     with_reducible refine OL.box ?_
     refine OL.frzB 2 ?_;refine goW ?_;refine OL.c h0 Tryz.func42 ?_;refine goW ?_;refine OL.c h1 Tryz.func97 ?_;refine goW ?_;exact TX.rt2 [] (.nil (by decide)) (.ren rfl)
   | true =>
     rw [ho] at h1;rw [Ygj,hoc,ho];simp only [clsN,Bool.and_eq_true,decide_eq_true_eq] at ho;obtain ⟨k,rfl⟩:∃ k:Nat,c=k:=⟨c.toNat,by omega⟩;have h2:=YeR p hs hf (by omega) (c:=k) (by omega) (by omega);rw [Ya4 hcb] at h2;refine Se Tryz.func46 rfl rfl rfl fun B hB=>?_;repeat' (first|(with_reducible refine TC.seq ?_)|(with_reducible refine TC.region ?_))
     with_reducible refine OL.box ?_
     refine OL.frzB 2 ?_;refine goW ?_;refine OL.c h0 Tryz.func42 ?_;refine goW ?_;refine OL.c h1 Tryz.func97 ?_;refine goW ?_;refine OL.c h2 Tryz.func88 ?_;refine goW ?_;exact TX.rt2 [] (.ren rfl) (.ren rfl)
theorem YlG (c:Int):V.Spec Tryz.prog 45 [Ya0 p,V.int c] [] (.tp [ints (Ygj p c),V.int (if Yc4 p c then 0 else 2)]) []:=by
 cases ho:Yc4 p c
 ·rw [Ygj,ho];exact (YhY p hs hpk ho).drop (LE.tp ⟨.nil (by decide),.ren rfl,trivial⟩)
 ·rw [Ygj,ho];exact Ygw p hs hpk ho
theorem Yfu (W:List Int) (hW:∀ x∈W,YbC x) (hWl:W.length*8≤140737488355328) (c:Int):V.Spec Tryz.prog 12 [Ya0 p,Yaw W,V.int c] [] (V.bool true) []:=by
 have hkn:=Ye2;have h1:=YlG p hs hpk c;have h2:=YjJ p hs hpk c;have h3:=Ykb p hs hpk W hW hWl;have h4:=YjB p hs hpk W hW hWl;generalize Ygj p c=L at *
 generalize (if Yc4 p c then (0:Int) else 2)=e at *
 generalize (if Ybt p W then (0:Int) else 2)=f at *
 have h5:=Ytp L;refine Se Tryz.func12 rfl rfl rfl fun B hB=>?_;repeat' (first|(with_reducible refine TC.seq ?_)|(with_reducible refine TC.region ?_))
 with_reducible refine OL.box ?_
 with_reducible refine OL.box ?_
 refine OL.frzB 3 ?_;refine OL.frzB 4 ?_;refine goW ?_;refine OL.c h1 Tryz.func45 ?_;refine goW ?_;refine OL.c h2 Tryz.func46 ?_;refine goW ?_;(refine TC.draw (id:=3) true 21 21 ?_<;>refine OD.st4 0 1 3 4 ?_<;>refine OD.c1 2 h3 Tryz.func34 ?_<;>refine OD.c1 5 h4 Tryz.func47 ?_<;>refine OD.st2 6 7 ?_<;>refine OD.sD 30 ?_ ?_<;>(intro hc;try (exfalso;omega))<;>(first|(refine OD.st 8 ?_)|(refine OD.of 8 ?_))<;>refine OD.st 9 ?_<;>refine OD.c1 10 h5 Tryz.func16 ?_<;>refine OD.st4 11 12 13 14 ?_<;>refine OD.st2 15 16 ?_<;>refine OD.st 17 ?_<;>refine OD.sD 40 ?_ ?_<;>(intro hc;try (exfalso;omega))<;>(first|(refine OD.c1 18 hkn Tryz.func17 ?_)|(refine OD.of 18 ?_))<;>refine OD.st2 19 20 ?_<;>refine OD.dn ?_)
 all_goals refine goW ?_
 all_goals exact TX.rt1 [] (.ren rfl)
end
end Go.Proofs
