/- Part 12 of what the claim is proved by: lemmas on the model and walks through functions of the program; no conditions. -/
import Derived.Test.YthoblhbdeamjmaaRows
import Derived.Test.YthoblhbdeamjmaaQ8
import Derived.Test.YthoblhbdeamjmaaQ11
import Derived.WalkKit
import Derived.ProofKit
import Derived.OpenShut
import Derived.ChangeSame
/- What the rows of all laws need of the program. -/
namespace Go.Proofs.Ythoblhbdeamjmaa
open Go Go.V Go.ChangeShapes Go.WideShapes Go.ChangeAt Go.RowKit Go.Deep
theorem lOwn : ownKnob Try.prog.godebug = none := by kernel_rfl
theorem lLaid : laidOutB Try.prog = true := by kernel_rfl
theorem lCells25 : Try.prog.cellsOf 25 = 1 := by kernel_rfl
theorem lCells3 : Try.prog.cellsOf 3 = 1 := by kernel_rfl
end Go.Proofs.Ythoblhbdeamjmaa
