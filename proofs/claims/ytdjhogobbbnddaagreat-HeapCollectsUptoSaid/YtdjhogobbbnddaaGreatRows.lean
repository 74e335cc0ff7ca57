/-
  NARROWER THAN 'FOR EVERY INPUT', by the rows' own cells (each row's printed sentence says how): HeapLays: loops · HeapReads: loops · HeapCollects: loops · HeapAlikes: loops · HeapMoves: loops · HeapSees: loops · HeapBack: loops · HeapDoes: loops · HeapMeans: loops · HeapChecks: loops.
  DERIVED. THE GIVEN ROWS OF THIS SEAT. 10 by the template 'for every input the law returns true; each argument reads behind the call as it read before'; 0 by the template 'total and deterministic' (their statements: YtdjhogobbbnddaaGreatTotals.lean).
  GIVEN WITH THE SEED: the statements are not yours to turn. If you find one false, say at which input.
  Laid BY PROGRAM, IN A SANDBOX (cutbox-rows.mjs): the forced cells as the released guide's own fill.sh prints them over the translation 1f16862ece3813ba… (all of the seat's roots in one cut). By AI agents, Wed Nov 11 2026. No macro, syntax, notation, axiom, sorry.
-/
import Derived.Test.YtdjhogobbbnddaaGreatChecked
import GoSem.Claim
import GoSem.ClaimJoined
import GoSem.ClaimMapViews
import Derived.JoinedTies
import Derived.KernelRfl
namespace Go.Proofs.YtdjhogobbbnddaaGreat
/- THE CELL 'sum', in the pinned program and in every row, IS THE sha256 OF THE DUMP (.gsa) THAT YtdjhogobbbnddaaGreatProg.lean LOADS. Nothing in Lean hashes anything: it is a label: what it is worth is what the hold of that sum in a sandbox is worth. -/
noncomputable def Tryz.pinned : Pinned := { name := "ytdjhogobbbnddaagreat", sum := "1f16862ece3813ba2bdf5e1d8b4883e2ce3ea5dadb03c971f1fb85e041742e5e", checked := Tryz.checked }
namespace Rows
def none {H : Type} : Left H := { results := [], args := [] }

/-- 'consortlaw16.HeapLays': WHATEVER THE INPUT: true; the input reads as it did. -/
def heapLaysSpec : ChangeSpec := { name := "heapLays", fn := fun _ => fun
  | [d1, d2] => { results := [.lit (.bool true)], args := [d1, d2] }
  | _ => none }
def heapLaysRow : OpenClaim := { program := "ytdjhogobbbnddaagreat", sum := "1f16862ece3813ba2bdf5e1d8b4883e2ce3ea5dadb03c971f1fb85e041742e5e", func := "consort/consortlaw16.HeapLays", spec := "heapLays", unfollowed := true, recurses := true, loops := true, plainKeys := false, apart := false }
def HeapLaysSaid : Prop := heapLaysRow.holds Tryz.pinned (OpenSpec.ofChange heapLaysSpec)

/-- ITS FALSE NEIGHBOUR: 'it returns false'. Refute it at one input. -/
def heapLaysWrong : ChangeSpec := { name := "heapLays", fn := fun _ => fun
  | [d1, d2] => { results := [.lit (.bool false)], args := [d1, d2] }
  | _ => none }
def HeapLaysWrongFalsely : Prop := heapLaysRow.holds Tryz.pinned (OpenSpec.ofChange heapLaysWrong)

/-- 'consortlaw16.HeapReads': WHATEVER THE INPUT: true; the input reads as it did. -/
def heapReadsSpec : ChangeSpec := { name := "heapReads", fn := fun _ => fun
  | [d1, d2, d3] => { results := [.lit (.bool true)], args := [d1, d2, d3] }
  | _ => none }
def heapReadsRow : OpenClaim := { program := "ytdjhogobbbnddaagreat", sum := "1f16862ece3813ba2bdf5e1d8b4883e2ce3ea5dadb03c971f1fb85e041742e5e", func := "consort/consortlaw16.HeapReads", spec := "heapReads", unfollowed := true, recurses := true, loops := true, plainKeys := false, apart := false }
def HeapReadsSaid : Prop := heapReadsRow.holds Tryz.pinned (OpenSpec.ofChange heapReadsSpec)

/-- ITS FALSE NEIGHBOUR: 'it returns false'. Refute it at one input. -/
def heapReadsWrong : ChangeSpec := { name := "heapReads", fn := fun _ => fun
  | [d1, d2, d3] => { results := [.lit (.bool false)], args := [d1, d2, d3] }
  | _ => none }
def HeapReadsWrongFalsely : Prop := heapReadsRow.holds Tryz.pinned (OpenSpec.ofChange heapReadsWrong)

/-- 'consortlaw16.HeapCollects': WHATEVER THE INPUT: true; the input reads as it did. -/
def heapCollectsSpec : ChangeSpec := { name := "heapCollects", fn := fun _ => fun
  | [d1, d2, d3] => { results := [.lit (.bool true)], args := [d1, d2, d3] }
  | _ => none }
def heapCollectsRow : OpenClaim := { program := "ytdjhogobbbnddaagreat", sum := "1f16862ece3813ba2bdf5e1d8b4883e2ce3ea5dadb03c971f1fb85e041742e5e", func := "consort/consortlaw16.HeapCollects", spec := "heapCollects", unfollowed := true, recurses := true, loops := true, plainKeys := false, apart := false }
def HeapCollectsSaid : Prop := heapCollectsRow.holds Tryz.pinned (OpenSpec.ofChange heapCollectsSpec)

/-- ITS FALSE NEIGHBOUR: 'it returns false'. Refute it at one input. -/
def heapCollectsWrong : ChangeSpec := { name := "heapCollects", fn := fun _ => fun
  | [d1, d2, d3] => { results := [.lit (.bool false)], args := [d1, d2, d3] }
  | _ => none }
def HeapCollectsWrongFalsely : Prop := heapCollectsRow.holds Tryz.pinned (OpenSpec.ofChange heapCollectsWrong)

/-- 'consortlaw16.HeapAlikes': WHATEVER THE INPUT: true; the input reads as it did. -/
def heapAlikesSpec : ChangeSpec := { name := "heapAlikes", fn := fun _ => fun
  | [d1, d2] => { results := [.lit (.bool true)], args := [d1, d2] }
  | _ => none }
def heapAlikesRow : OpenClaim := { program := "ytdjhogobbbnddaagreat", sum := "1f16862ece3813ba2bdf5e1d8b4883e2ce3ea5dadb03c971f1fb85e041742e5e", func := "consort/consortlaw16.HeapAlikes", spec := "heapAlikes", unfollowed := true, recurses := true, loops := true, plainKeys := false, apart := false }
def HeapAlikesSaid : Prop := heapAlikesRow.holds Tryz.pinned (OpenSpec.ofChange heapAlikesSpec)

/-- ITS FALSE NEIGHBOUR: 'it returns false'. Refute it at one input. -/
def heapAlikesWrong : ChangeSpec := { name := "heapAlikes", fn := fun _ => fun
  | [d1, d2] => { results := [.lit (.bool false)], args := [d1, d2] }
  | _ => none }
def HeapAlikesWrongFalsely : Prop := heapAlikesRow.holds Tryz.pinned (OpenSpec.ofChange heapAlikesWrong)

/-- 'consortlaw16.HeapMoves': WHATEVER THE INPUT: true; the input reads as it did. -/
def heapMovesSpec : ChangeSpec := { name := "heapMoves", fn := fun _ => fun
  | [d1, d2, d3] => { results := [.lit (.bool true)], args := [d1, d2, d3] }
  | _ => none }
def heapMovesRow : OpenClaim := { program := "ytdjhogobbbnddaagreat", sum := "1f16862ece3813ba2bdf5e1d8b4883e2ce3ea5dadb03c971f1fb85e041742e5e", func := "consort/consortlaw16.HeapMoves", spec := "heapMoves", unfollowed := true, recurses := true, loops := true, plainKeys := false, apart := false }
def HeapMovesSaid : Prop := heapMovesRow.holds Tryz.pinned (OpenSpec.ofChange heapMovesSpec)

/-- ITS FALSE NEIGHBOUR: 'it returns false'. Refute it at one input. -/
def heapMovesWrong : ChangeSpec := { name := "heapMoves", fn := fun _ => fun
  | [d1, d2, d3] => { results := [.lit (.bool false)], args := [d1, d2, d3] }
  | _ => none }
def HeapMovesWrongFalsely : Prop := heapMovesRow.holds Tryz.pinned (OpenSpec.ofChange heapMovesWrong)

/-- 'consortlaw16.HeapSees': WHATEVER THE INPUT: true; the input reads as it did. -/
def heapSeesSpec : ChangeSpec := { name := "heapSees", fn := fun _ => fun
  | [d1, d2, d3] => { results := [.lit (.bool true)], args := [d1, d2, d3] }
  | _ => none }
def heapSeesRow : OpenClaim := { program := "ytdjhogobbbnddaagreat", sum := "1f16862ece3813ba2bdf5e1d8b4883e2ce3ea5dadb03c971f1fb85e041742e5e", func := "consort/consortlaw16.HeapSees", spec := "heapSees", unfollowed := true, recurses := true, loops := true, plainKeys := false, apart := false }
def HeapSeesSaid : Prop := heapSeesRow.holds Tryz.pinned (OpenSpec.ofChange heapSeesSpec)

/-- ITS FALSE NEIGHBOUR: 'it returns false'. Refute it at one input. -/
def heapSeesWrong : ChangeSpec := { name := "heapSees", fn := fun _ => fun
  | [d1, d2, d3] => { results := [.lit (.bool false)], args := [d1, d2, d3] }
  | _ => none }
def HeapSeesWrongFalsely : Prop := heapSeesRow.holds Tryz.pinned (OpenSpec.ofChange heapSeesWrong)

/-- 'consortlaw16.HeapBack': WHATEVER THE INPUT: true; the input reads as it did. -/
def heapBackSpec : ChangeSpec := { name := "heapBack", fn := fun _ => fun
  | [d1, d2] => { results := [.lit (.bool true)], args := [d1, d2] }
  | _ => none }
def heapBackRow : OpenClaim := { program := "ytdjhogobbbnddaagreat", sum := "1f16862ece3813ba2bdf5e1d8b4883e2ce3ea5dadb03c971f1fb85e041742e5e", func := "consort/consortlaw16.HeapBack", spec := "heapBack", unfollowed := true, recurses := true, loops := true, plainKeys := false, apart := false }
def HeapBackSaid : Prop := heapBackRow.holds Tryz.pinned (OpenSpec.ofChange heapBackSpec)

/-- ITS FALSE NEIGHBOUR: 'it returns false'. Refute it at one input. -/
def heapBackWrong : ChangeSpec := { name := "heapBack", fn := fun _ => fun
  | [d1, d2] => { results := [.lit (.bool false)], args := [d1, d2] }
  | _ => none }
def HeapBackWrongFalsely : Prop := heapBackRow.holds Tryz.pinned (OpenSpec.ofChange heapBackWrong)

/-- 'consortlaw16.HeapDoes': WHATEVER THE INPUT: true; the input reads as it did. -/
def heapDoesSpec : ChangeSpec := { name := "heapDoes", fn := fun _ => fun
  | [d1, d2, d3] => { results := [.lit (.bool true)], args := [d1, d2, d3] }
  | _ => none }
def heapDoesRow : OpenClaim := { program := "ytdjhogobbbnddaagreat", sum := "1f16862ece3813ba2bdf5e1d8b4883e2ce3ea5dadb03c971f1fb85e041742e5e", func := "consort/consortlaw16.HeapDoes", spec := "heapDoes", unfollowed := true, recurses := true, loops := true, plainKeys := false, apart := false }
def HeapDoesSaid : Prop := heapDoesRow.holds Tryz.pinned (OpenSpec.ofChange heapDoesSpec)

/-- ITS FALSE NEIGHBOUR: 'it returns false'. Refute it at one input. -/
def heapDoesWrong : ChangeSpec := { name := "heapDoes", fn := fun _ => fun
  | [d1, d2, d3] => { results := [.lit (.bool false)], args := [d1, d2, d3] }
  | _ => none }
def HeapDoesWrongFalsely : Prop := heapDoesRow.holds Tryz.pinned (OpenSpec.ofChange heapDoesWrong)

/-- 'consortlaw16.HeapMeans': WHATEVER THE INPUT: true; the input reads as it did. -/
def heapMeansSpec : ChangeSpec := { name := "heapMeans", fn := fun _ => fun
  | [d1, d2] => { results := [.lit (.bool true)], args := [d1, d2] }
  | _ => none }
def heapMeansRow : OpenClaim := { program := "ytdjhogobbbnddaagreat", sum := "1f16862ece3813ba2bdf5e1d8b4883e2ce3ea5dadb03c971f1fb85e041742e5e", func := "consort/consortlaw16.HeapMeans", spec := "heapMeans", unfollowed := true, recurses := true, loops := true, plainKeys := false, apart := false }
def HeapMeansSaid : Prop := heapMeansRow.holds Tryz.pinned (OpenSpec.ofChange heapMeansSpec)

/-- ITS FALSE NEIGHBOUR: 'it returns false'. Refute it at one input. -/
def heapMeansWrong : ChangeSpec := { name := "heapMeans", fn := fun _ => fun
  | [d1, d2] => { results := [.lit (.bool false)], args := [d1, d2] }
  | _ => none }
def HeapMeansWrongFalsely : Prop := heapMeansRow.holds Tryz.pinned (OpenSpec.ofChange heapMeansWrong)

/-- 'consortlaw16.HeapChecks': WHATEVER THE INPUT: true; the input reads as it did. -/
def heapChecksSpec : ChangeSpec := { name := "heapChecks", fn := fun _ => fun
  | [d1, d2, d3] => { results := [.lit (.bool true)], args := [d1, d2, d3] }
  | _ => none }
def heapChecksRow : OpenClaim := { program := "ytdjhogobbbnddaagreat", sum := "1f16862ece3813ba2bdf5e1d8b4883e2ce3ea5dadb03c971f1fb85e041742e5e", func := "consort/consortlaw16.HeapChecks", spec := "heapChecks", unfollowed := true, recurses := true, loops := true, plainKeys := false, apart := false }
def HeapChecksSaid : Prop := heapChecksRow.holds Tryz.pinned (OpenSpec.ofChange heapChecksSpec)

/-- ITS FALSE NEIGHBOUR: 'it returns false'. Refute it at one input. -/
def heapChecksWrong : ChangeSpec := { name := "heapChecks", fn := fun _ => fun
  | [d1, d2, d3] => { results := [.lit (.bool false)], args := [d1, d2, d3] }
  | _ => none }
def HeapChecksWrongFalsely : Prop := heapChecksRow.holds Tryz.pinned (OpenSpec.ofChange heapChecksWrong)

/- THE SECOND FORM. 'bulk': how many values and letters a reading holds, each counted each time it is reached (what is shared counts as often as it is met; a slice's spare places count too). A statement '..UptoSaid' is the law's where the arguments, and the package variables that the reading takes, are together of bulk at most 1048576: NARROWER than '..Said'. Prove '..Said' where nothing that the law and all that it calls make is longer than what came in: it says more and counts as full. Else prove '..UptoSaid'. A law counts once. -/
mutual
def uptoBulk {H : Type} : DataW H → Nat
  | .lit (.string bytes) => bytes.length + 1
  | .lit _ => 1
  | .nil => 1
  | .ptr d => uptoBulk d + 1
  | .slice elems spare => uptoBulkAll elems + uptoBulkAll spare + 1
  | .agg parts => uptoBulkAll parts + 1
  | .iface _ d => uptoBulk d + 1
  | .map entries => uptoBulkEntries entries + 1
  | .held _ => 1
def uptoBulkAll {H : Type} : List (DataW H) → Nat
  | [] => 0
  | d :: r => uptoBulk d + uptoBulkAll r
def uptoBulkEntries {H : Type} : List (Lit × DataW H) → Nat
  | [] => 0
  | x :: r => uptoBulkEntry x + uptoBulkEntries r
def uptoBulkEntry {H : Type} : Lit × DataW H → Nat
  | (.string bytes, d) => bytes.length + uptoBulk d + 1
  | (_, d) => uptoBulk d + 1
 end
def uptoSmall : (H : Type) → List (DataW H) → Bool := fun _ ds => decide (uptoBulkAll ds ≤ 1048576)
def OpenSpec.upto (s : _root_.Go.ChangeSpec) : _root_.Go.OpenSpec := { _root_.Go.OpenSpec.ofChange s with cond := some uptoSmall }

/-- 'consortlaw16.HeapLays', WHERE WHAT IT READS IS OF BULK AT MOST 1048576: true; the input reads as it did. -/
def heapLaysUptoRow : OpenClaim := { program := "ytdjhogobbbnddaagreat", sum := "1f16862ece3813ba2bdf5e1d8b4883e2ce3ea5dadb03c971f1fb85e041742e5e", func := "consort/consortlaw16.HeapLays", spec := "heapLays", unfollowed := true, recurses := true, loops := true, plainKeys := false, apart := false, narrowed := true }
def HeapLaysUptoSaid : Prop := heapLaysUptoRow.holds Tryz.pinned (OpenSpec.upto heapLaysSpec)

/-- 'consortlaw16.HeapReads', WHERE WHAT IT READS IS OF BULK AT MOST 1048576: true; the input reads as it did. -/
def heapReadsUptoRow : OpenClaim := { program := "ytdjhogobbbnddaagreat", sum := "1f16862ece3813ba2bdf5e1d8b4883e2ce3ea5dadb03c971f1fb85e041742e5e", func := "consort/consortlaw16.HeapReads", spec := "heapReads", unfollowed := true, recurses := true, loops := true, plainKeys := false, apart := false, narrowed := true }
def HeapReadsUptoSaid : Prop := heapReadsUptoRow.holds Tryz.pinned (OpenSpec.upto heapReadsSpec)

/-- 'consortlaw16.HeapCollects', WHERE WHAT IT READS IS OF BULK AT MOST 1048576: true; the input reads as it did. -/
def heapCollectsUptoRow : OpenClaim := { program := "ytdjhogobbbnddaagreat", sum := "1f16862ece3813ba2bdf5e1d8b4883e2ce3ea5dadb03c971f1fb85e041742e5e", func := "consort/consortlaw16.HeapCollects", spec := "heapCollects", unfollowed := true, recurses := true, loops := true, plainKeys := false, apart := false, narrowed := true }
def HeapCollectsUptoSaid : Prop := heapCollectsUptoRow.holds Tryz.pinned (OpenSpec.upto heapCollectsSpec)

/-- 'consortlaw16.HeapAlikes', WHERE WHAT IT READS IS OF BULK AT MOST 1048576: true; the input reads as it did. -/
def heapAlikesUptoRow : OpenClaim := { program := "ytdjhogobbbnddaagreat", sum := "1f16862ece3813ba2bdf5e1d8b4883e2ce3ea5dadb03c971f1fb85e041742e5e", func := "consort/consortlaw16.HeapAlikes", spec := "heapAlikes", unfollowed := true, recurses := true, loops := true, plainKeys := false, apart := false, narrowed := true }
def HeapAlikesUptoSaid : Prop := heapAlikesUptoRow.holds Tryz.pinned (OpenSpec.upto heapAlikesSpec)

/-- 'consortlaw16.HeapMoves', WHERE WHAT IT READS IS OF BULK AT MOST 1048576: true; the input reads as it did. -/
def heapMovesUptoRow : OpenClaim := { program := "ytdjhogobbbnddaagreat", sum := "1f16862ece3813ba2bdf5e1d8b4883e2ce3ea5dadb03c971f1fb85e041742e5e", func := "consort/consortlaw16.HeapMoves", spec := "heapMoves", unfollowed := true, recurses := true, loops := true, plainKeys := false, apart := false, narrowed := true }
def HeapMovesUptoSaid : Prop := heapMovesUptoRow.holds Tryz.pinned (OpenSpec.upto heapMovesSpec)

/-- 'consortlaw16.HeapSees', WHERE WHAT IT READS IS OF BULK AT MOST 1048576: true; the input reads as it did. -/
def heapSeesUptoRow : OpenClaim := { program := "ytdjhogobbbnddaagreat", sum := "1f16862ece3813ba2bdf5e1d8b4883e2ce3ea5dadb03c971f1fb85e041742e5e", func := "consort/consortlaw16.HeapSees", spec := "heapSees", unfollowed := true, recurses := true, loops := true, plainKeys := false, apart := false, narrowed := true }
def HeapSeesUptoSaid : Prop := heapSeesUptoRow.holds Tryz.pinned (OpenSpec.upto heapSeesSpec)

/-- 'consortlaw16.HeapBack', WHERE WHAT IT READS IS OF BULK AT MOST 1048576: true; the input reads as it did. -/
def heapBackUptoRow : OpenClaim := { program := "ytdjhogobbbnddaagreat", sum := "1f16862ece3813ba2bdf5e1d8b4883e2ce3ea5dadb03c971f1fb85e041742e5e", func := "consort/consortlaw16.HeapBack", spec := "heapBack", unfollowed := true, recurses := true, loops := true, plainKeys := false, apart := false, narrowed := true }
def HeapBackUptoSaid : Prop := heapBackUptoRow.holds Tryz.pinned (OpenSpec.upto heapBackSpec)

/-- 'consortlaw16.HeapDoes', WHERE WHAT IT READS IS OF BULK AT MOST 1048576: true; the input reads as it did. -/
def heapDoesUptoRow : OpenClaim := { program := "ytdjhogobbbnddaagreat", sum := "1f16862ece3813ba2bdf5e1d8b4883e2ce3ea5dadb03c971f1fb85e041742e5e", func := "consort/consortlaw16.HeapDoes", spec := "heapDoes", unfollowed := true, recurses := true, loops := true, plainKeys := false, apart := false, narrowed := true }
def HeapDoesUptoSaid : Prop := heapDoesUptoRow.holds Tryz.pinned (OpenSpec.upto heapDoesSpec)

/-- 'consortlaw16.HeapMeans', WHERE WHAT IT READS IS OF BULK AT MOST 1048576: true; the input reads as it did. -/
def heapMeansUptoRow : OpenClaim := { program := "ytdjhogobbbnddaagreat", sum := "1f16862ece3813ba2bdf5e1d8b4883e2ce3ea5dadb03c971f1fb85e041742e5e", func := "consort/consortlaw16.HeapMeans", spec := "heapMeans", unfollowed := true, recurses := true, loops := true, plainKeys := false, apart := false, narrowed := true }
def HeapMeansUptoSaid : Prop := heapMeansUptoRow.holds Tryz.pinned (OpenSpec.upto heapMeansSpec)

/-- 'consortlaw16.HeapChecks', WHERE WHAT IT READS IS OF BULK AT MOST 1048576: true; the input reads as it did. -/
def heapChecksUptoRow : OpenClaim := { program := "ytdjhogobbbnddaagreat", sum := "1f16862ece3813ba2bdf5e1d8b4883e2ce3ea5dadb03c971f1fb85e041742e5e", func := "consort/consortlaw16.HeapChecks", spec := "heapChecks", unfollowed := true, recurses := true, loops := true, plainKeys := false, apart := false, narrowed := true }
def HeapChecksUptoSaid : Prop := heapChecksUptoRow.holds Tryz.pinned (OpenSpec.upto heapChecksSpec)

end Rows
end Go.Proofs.YtdjhogobbbnddaaGreat
