/- Part 33 of what the claim is proved by: lemmas on the model and walks through functions of the program; no conditions. -/
import Derived.Test.YtmdpbfghjdljiaaGreatQ13
import Derived.Test.YtmdpbfghjdljiaaGreatQ32
namespace Go.Proofs
open Go Go.W Go.V
end Go.Proofs
