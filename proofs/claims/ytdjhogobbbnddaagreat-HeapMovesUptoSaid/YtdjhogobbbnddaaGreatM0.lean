/- Lemmas for the claim, part 0; no conditions. -/
import Derived.Test.YtdjhogobbbnddaaGreatQ39
import Derived.Test.YtdjhogobbbnddaaGreatQ23
import Derived.Test.YtdjhogobbbnddaaGreatQ18
namespace Go.Proofs
open Go Go.W Go.V
theorem YfK (a b:List Int):V.Spec Tryz.prog 15 [Yaw a,Yaw b] [] (V.bool (a==b)) []:=by
 have h:=YdD a b;refine Se Tryz.func15 rfl rfl rfl fun B hB=>?_;repeat' (first|(with_reducible refine TC.seq ?_)|(with_reducible refine TC.region ?_))
 with_reducible refine OL.box ?_
 with_reducible refine OL.box ?_
 refine Zag 2 ?_;refine Zag 3 ?_;refine goW ?_;refine OL.c h Tryz.func16 ?_;refine goW ?_;exact Zad [] (.ren rfl)
end Go.Proofs
