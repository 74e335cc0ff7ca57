/- Lemmas for the claim, part 52; no conditions. -/
import Derived.Test.YtdjhogobbbnddaaGreatS0
import Derived.Test.YtdjhogobbbnddaaGreatQ23
import Derived.Test.YtdjhogobbbnddaaGreatQ19
import Derived.Test.YtdjhogobbbnddaaGreatQ18
import Derived.Test.YtdjhogobbbnddaaGreatS46
namespace Go.V
open Go Go.W
theorem Yzo {C:Cx} {ρ:Ro} {η:Eta} {X Y:Nat} {x y:Operand} {i j:Int} (hx:ev2 ρ x=some (.raw (.int .i64 i)):=by with_unfolding_all exact rfl) (hy:ev2 ρ y=some (.raw (.int .i64 j)):=by with_unfolding_all exact rfl) (hj:0 < j:=by omega) (h:0≤i∨i % j=0:=by omega) (h0:-9223372036854775808≤i / j:=by omega) (h1:i / j≤9223372036854775807:=by omega) :
  Yaj C.P C.N C.D (.binOp .quo X x y Y) ρ η (V.int (i / j)):=Yq6 hx hy hj h h0 h1
end Go.V
