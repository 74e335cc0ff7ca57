/-
  NARROWER THAN 'FOR EVERY INPUT', by the rows' own cells (each row's printed sentence says how): TurnSchemas: loops · TurnMean: loops.
  DERIVED. THE GIVEN ROWS OF THIS SEAT. 13 by the template 'for every input the law returns true; each argument reads behind the call as it read before'; 0 by the template 'total and deterministic' (their statements: YtmdpbfghjdljiaaGreatTotals.lean).
  GIVEN WITH THE SEED: the statements are not yours to turn. If you find one false, say at which input.
  Laid BY PROGRAM, IN A SANDBOX (cutbox-rows.mjs): the forced cells as the released guide's own fill.sh prints them over the translation 8959e6f251974015… (all of the seat's roots in one cut). By AI agents, Wed Nov 11 2026. No macro, syntax, notation, axiom, sorry.
-/
import Derived.Test.YtmdpbfghjdljiaaGreatChecked
import GoSem.Claim
import GoSem.ClaimJoined
import GoSem.ClaimMapViews
import Derived.JoinedTies
import Derived.KernelRfl
namespace Go.Proofs.YtmdpbfghjdljiaaGreat
/- THE CELL 'sum', in the pinned program and in every row, IS THE sha256 OF THE DUMP (.gsa) THAT YtmdpbfghjdljiaaGreatProg.lean LOADS. Nothing in Lean hashes anything: it is a label: what it is worth is what the hold of that sum in a sandbox is worth. -/
noncomputable def Tryz.pinned : Pinned := { name := "ytmdpbfghjdljiaagreat", sum := "8959e6f251974015b6a233342c32146569139f3dda895f8bc909437860d8b74d", checked := Tryz.checked }
namespace Rows
def none {H : Type} : Left H := { results := [], args := [] }

/-- 'consortlaw17.TurnDoes': WHATEVER THE INPUT: true; the input reads as it did. -/
def turnDoesSpec : ChangeSpec := { name := "turnDoes", fn := fun _ => fun
  | [d] => { results := [.lit (.bool true)], args := [d] }
  | _ => none }
def turnDoesRow : OpenClaim := { program := "ytmdpbfghjdljiaagreat", sum := "8959e6f251974015b6a233342c32146569139f3dda895f8bc909437860d8b74d", func := "consort/consortlaw17.TurnDoes", spec := "turnDoes", unfollowed := true, recurses := true, apart := false }
def TurnDoesSaid : Prop := turnDoesRow.holds Tryz.pinned (OpenSpec.ofChange turnDoesSpec)

/-- ITS FALSE NEIGHBOUR: 'it returns false'. Refute it at one input. -/
def turnDoesWrong : ChangeSpec := { name := "turnDoes", fn := fun _ => fun
  | [d] => { results := [.lit (.bool false)], args := [d] }
  | _ => none }
def TurnDoesWrongFalsely : Prop := turnDoesRow.holds Tryz.pinned (OpenSpec.ofChange turnDoesWrong)

/-- 'consortlaw17.TurnPlays': WHATEVER THE INPUT: true; the input reads as it did. -/
def turnPlaysSpec : ChangeSpec := { name := "turnPlays", fn := fun _ => fun
  | [d] => { results := [.lit (.bool true)], args := [d] }
  | _ => none }
def turnPlaysRow : OpenClaim := { program := "ytmdpbfghjdljiaagreat", sum := "8959e6f251974015b6a233342c32146569139f3dda895f8bc909437860d8b74d", func := "consort/consortlaw17.TurnPlays", spec := "turnPlays", unfollowed := true, recurses := true, apart := false }
def TurnPlaysSaid : Prop := turnPlaysRow.holds Tryz.pinned (OpenSpec.ofChange turnPlaysSpec)

/-- ITS FALSE NEIGHBOUR: 'it returns false'. Refute it at one input. -/
def turnPlaysWrong : ChangeSpec := { name := "turnPlays", fn := fun _ => fun
  | [d] => { results := [.lit (.bool false)], args := [d] }
  | _ => none }
def TurnPlaysWrongFalsely : Prop := turnPlaysRow.holds Tryz.pinned (OpenSpec.ofChange turnPlaysWrong)

/-- 'consortlaw17.TurnMaps': WHATEVER THE INPUT: true; the input reads as it did. -/
def turnMapsSpec : ChangeSpec := { name := "turnMaps", fn := fun _ => fun
  | [d] => { results := [.lit (.bool true)], args := [d] }
  | _ => none }
def turnMapsRow : OpenClaim := { program := "ytmdpbfghjdljiaagreat", sum := "8959e6f251974015b6a233342c32146569139f3dda895f8bc909437860d8b74d", func := "consort/consortlaw17.TurnMaps", spec := "turnMaps", unfollowed := true, recurses := true, apart := false }
def TurnMapsSaid : Prop := turnMapsRow.holds Tryz.pinned (OpenSpec.ofChange turnMapsSpec)

/-- ITS FALSE NEIGHBOUR: 'it returns false'. Refute it at one input. -/
def turnMapsWrong : ChangeSpec := { name := "turnMaps", fn := fun _ => fun
  | [d] => { results := [.lit (.bool false)], args := [d] }
  | _ => none }
def TurnMapsWrongFalsely : Prop := turnMapsRow.holds Tryz.pinned (OpenSpec.ofChange turnMapsWrong)

/-- 'consortlaw17.TurnAnew': WHATEVER THE INPUT: true; the input reads as it did. -/
def turnAnewSpec : ChangeSpec := { name := "turnAnew", fn := fun _ => fun
  | [d1, d2] => { results := [.lit (.bool true)], args := [d1, d2] }
  | _ => none }
def turnAnewRow : OpenClaim := { program := "ytmdpbfghjdljiaagreat", sum := "8959e6f251974015b6a233342c32146569139f3dda895f8bc909437860d8b74d", func := "consort/consortlaw17.TurnAnew", spec := "turnAnew", unfollowed := true, recurses := true, apart := false }
def TurnAnewSaid : Prop := turnAnewRow.holds Tryz.pinned (OpenSpec.ofChange turnAnewSpec)

/-- ITS FALSE NEIGHBOUR: 'it returns false'. Refute it at one input. -/
def turnAnewWrong : ChangeSpec := { name := "turnAnew", fn := fun _ => fun
  | [d1, d2] => { results := [.lit (.bool false)], args := [d1, d2] }
  | _ => none }
def TurnAnewWrongFalsely : Prop := turnAnewRow.holds Tryz.pinned (OpenSpec.ofChange turnAnewWrong)

/-- 'consortlaw17.TurnChecks': WHATEVER THE INPUT: true; the input reads as it did. -/
def turnChecksSpec : ChangeSpec := { name := "turnChecks", fn := fun _ => fun
  | [d1, d2, d3] => { results := [.lit (.bool true)], args := [d1, d2, d3] }
  | _ => none }
def turnChecksRow : OpenClaim := { program := "ytmdpbfghjdljiaagreat", sum := "8959e6f251974015b6a233342c32146569139f3dda895f8bc909437860d8b74d", func := "consort/consortlaw17.TurnChecks", spec := "turnChecks", unfollowed := true, recurses := true, apart := false }
def TurnChecksSaid : Prop := turnChecksRow.holds Tryz.pinned (OpenSpec.ofChange turnChecksSpec)

/-- ITS FALSE NEIGHBOUR: 'it returns false'. Refute it at one input. -/
def turnChecksWrong : ChangeSpec := { name := "turnChecks", fn := fun _ => fun
  | [d1, d2, d3] => { results := [.lit (.bool false)], args := [d1, d2, d3] }
  | _ => none }
def TurnChecksWrongFalsely : Prop := turnChecksRow.holds Tryz.pinned (OpenSpec.ofChange turnChecksWrong)

/-- 'consortlaw17.TurnFormed': WHATEVER THE INPUT: true; the input reads as it did. -/
def turnFormedSpec : ChangeSpec := { name := "turnFormed", fn := fun _ => fun
  | [d] => { results := [.lit (.bool true)], args := [d] }
  | _ => none }
def turnFormedRow : OpenClaim := { program := "ytmdpbfghjdljiaagreat", sum := "8959e6f251974015b6a233342c32146569139f3dda895f8bc909437860d8b74d", func := "consort/consortlaw17.TurnFormed", spec := "turnFormed", unfollowed := true, recurses := true, apart := false }
def TurnFormedSaid : Prop := turnFormedRow.holds Tryz.pinned (OpenSpec.ofChange turnFormedSpec)

/-- ITS FALSE NEIGHBOUR: 'it returns false'. Refute it at one input. -/
def turnFormedWrong : ChangeSpec := { name := "turnFormed", fn := fun _ => fun
  | [d] => { results := [.lit (.bool false)], args := [d] }
  | _ => none }
def TurnFormedWrongFalsely : Prop := turnFormedRow.holds Tryz.pinned (OpenSpec.ofChange turnFormedWrong)

/-- 'consortlaw17.TurnKnown': WHATEVER THE INPUT: true; the input reads as it did. -/
def turnKnownSpec : ChangeSpec := { name := "turnKnown", fn := fun _ => fun
  | [] => { results := [.lit (.bool true)], args := [] }
  | _ => none }
def turnKnownRow : OpenClaim := { program := "ytmdpbfghjdljiaagreat", sum := "8959e6f251974015b6a233342c32146569139f3dda895f8bc909437860d8b74d", func := "consort/consortlaw17.TurnKnown", spec := "turnKnown", unfollowed := true, recurses := true, apart := false }
def TurnKnownSaid : Prop := turnKnownRow.holds Tryz.pinned (OpenSpec.ofChange turnKnownSpec)

/-- ITS FALSE NEIGHBOUR: 'it returns false'. Refute it at one input. -/
def turnKnownWrong : ChangeSpec := { name := "turnKnown", fn := fun _ => fun
  | [] => { results := [.lit (.bool false)], args := [] }
  | _ => none }
def TurnKnownWrongFalsely : Prop := turnKnownRow.holds Tryz.pinned (OpenSpec.ofChange turnKnownWrong)

/-- 'consortlaw17.TurnOn': WHATEVER THE INPUT: true; the input reads as it did. -/
def turnOnSpec : ChangeSpec := { name := "turnOn", fn := fun _ => fun
  | [d] => { results := [.lit (.bool true)], args := [d] }
  | _ => none }
def turnOnRow : OpenClaim := { program := "ytmdpbfghjdljiaagreat", sum := "8959e6f251974015b6a233342c32146569139f3dda895f8bc909437860d8b74d", func := "consort/consortlaw17.TurnOn", spec := "turnOn", unfollowed := true, recurses := true, apart := false }
def TurnOnSaid : Prop := turnOnRow.holds Tryz.pinned (OpenSpec.ofChange turnOnSpec)

/-- ITS FALSE NEIGHBOUR: 'it returns false'. Refute it at one input. -/
def turnOnWrong : ChangeSpec := { name := "turnOn", fn := fun _ => fun
  | [d] => { results := [.lit (.bool false)], args := [d] }
  | _ => none }
def TurnOnWrongFalsely : Prop := turnOnRow.holds Tryz.pinned (OpenSpec.ofChange turnOnWrong)

/-- 'consortlaw17.TurnLooks': WHATEVER THE INPUT: true; the input reads as it did. -/
def turnLooksSpec : ChangeSpec := { name := "turnLooks", fn := fun _ => fun
  | [d] => { results := [.lit (.bool true)], args := [d] }
  | _ => none }
def turnLooksRow : OpenClaim := { program := "ytmdpbfghjdljiaagreat", sum := "8959e6f251974015b6a233342c32146569139f3dda895f8bc909437860d8b74d", func := "consort/consortlaw17.TurnLooks", spec := "turnLooks", unfollowed := true, recurses := true, apart := false }
def TurnLooksSaid : Prop := turnLooksRow.holds Tryz.pinned (OpenSpec.ofChange turnLooksSpec)

/-- ITS FALSE NEIGHBOUR: 'it returns false'. Refute it at one input. -/
def turnLooksWrong : ChangeSpec := { name := "turnLooks", fn := fun _ => fun
  | [d] => { results := [.lit (.bool false)], args := [d] }
  | _ => none }
def TurnLooksWrongFalsely : Prop := turnLooksRow.holds Tryz.pinned (OpenSpec.ofChange turnLooksWrong)

/-- 'consortlaw17.TurnSteady': WHATEVER THE INPUT: true; the input reads as it did. -/
def turnSteadySpec : ChangeSpec := { name := "turnSteady", fn := fun _ => fun
  | [d] => { results := [.lit (.bool true)], args := [d] }
  | _ => none }
def turnSteadyRow : OpenClaim := { program := "ytmdpbfghjdljiaagreat", sum := "8959e6f251974015b6a233342c32146569139f3dda895f8bc909437860d8b74d", func := "consort/consortlaw17.TurnSteady", spec := "turnSteady", unfollowed := true, recurses := true, apart := false }
def TurnSteadySaid : Prop := turnSteadyRow.holds Tryz.pinned (OpenSpec.ofChange turnSteadySpec)

/-- ITS FALSE NEIGHBOUR: 'it returns false'. Refute it at one input. -/
def turnSteadyWrong : ChangeSpec := { name := "turnSteady", fn := fun _ => fun
  | [d] => { results := [.lit (.bool false)], args := [d] }
  | _ => none }
def TurnSteadyWrongFalsely : Prop := turnSteadyRow.holds Tryz.pinned (OpenSpec.ofChange turnSteadyWrong)

/-- 'consortlaw17.TurnLazy': WHATEVER THE INPUT: true; the input reads as it did. -/
def turnLazySpec : ChangeSpec := { name := "turnLazy", fn := fun _ => fun
  | [d] => { results := [.lit (.bool true)], args := [d] }
  | _ => none }
def turnLazyRow : OpenClaim := { program := "ytmdpbfghjdljiaagreat", sum := "8959e6f251974015b6a233342c32146569139f3dda895f8bc909437860d8b74d", func := "consort/consortlaw17.TurnLazy", spec := "turnLazy", unfollowed := true, recurses := true, apart := false }
def TurnLazySaid : Prop := turnLazyRow.holds Tryz.pinned (OpenSpec.ofChange turnLazySpec)

/-- ITS FALSE NEIGHBOUR: 'it returns false'. Refute it at one input. -/
def turnLazyWrong : ChangeSpec := { name := "turnLazy", fn := fun _ => fun
  | [d] => { results := [.lit (.bool false)], args := [d] }
  | _ => none }
def TurnLazyWrongFalsely : Prop := turnLazyRow.holds Tryz.pinned (OpenSpec.ofChange turnLazyWrong)

/-- 'consortlaw17.TurnSchemas': WHATEVER THE INPUT: true; the input reads as it did. -/
def turnSchemasSpec : ChangeSpec := { name := "turnSchemas", fn := fun _ => fun
  | [d1, d2] => { results := [.lit (.bool true)], args := [d1, d2] }
  | _ => none }
def turnSchemasRow : OpenClaim := { program := "ytmdpbfghjdljiaagreat", sum := "8959e6f251974015b6a233342c32146569139f3dda895f8bc909437860d8b74d", func := "consort/consortlaw17.TurnSchemas", spec := "turnSchemas", unfollowed := true, recurses := true, loops := true, apart := false }
def TurnSchemasSaid : Prop := turnSchemasRow.holds Tryz.pinned (OpenSpec.ofChange turnSchemasSpec)

/-- ITS FALSE NEIGHBOUR: 'it returns false'. Refute it at one input. -/
def turnSchemasWrong : ChangeSpec := { name := "turnSchemas", fn := fun _ => fun
  | [d1, d2] => { results := [.lit (.bool false)], args := [d1, d2] }
  | _ => none }
def TurnSchemasWrongFalsely : Prop := turnSchemasRow.holds Tryz.pinned (OpenSpec.ofChange turnSchemasWrong)

/-- 'consortlaw17.TurnMean': WHATEVER THE INPUT: true; the input reads as it did. -/
def turnMeanSpec : ChangeSpec := { name := "turnMean", fn := fun _ => fun
  | [d1, d2, d3, d4] => { results := [.lit (.bool true)], args := [d1, d2, d3, d4] }
  | _ => none }
def turnMeanRow : OpenClaim := { program := "ytmdpbfghjdljiaagreat", sum := "8959e6f251974015b6a233342c32146569139f3dda895f8bc909437860d8b74d", func := "consort/consortlaw17.TurnMean", spec := "turnMean", unfollowed := true, recurses := true, loops := true, apart := false }
def TurnMeanSaid : Prop := turnMeanRow.holds Tryz.pinned (OpenSpec.ofChange turnMeanSpec)

/-- ITS FALSE NEIGHBOUR: 'it returns false'. Refute it at one input. -/
def turnMeanWrong : ChangeSpec := { name := "turnMean", fn := fun _ => fun
  | [d1, d2, d3, d4] => { results := [.lit (.bool false)], args := [d1, d2, d3, d4] }
  | _ => none }
def TurnMeanWrongFalsely : Prop := turnMeanRow.holds Tryz.pinned (OpenSpec.ofChange turnMeanWrong)

/- THE SECOND FORM. 'bulk': how many values and letters a reading holds, each counted each time it is reached (what is shared counts as often as it is met; a slice's spare places count too). A statement '..UptoSaid' is the law's where the arguments, and the package variables that the reading takes, are together of bulk at most 1048576: NARROWER than '..Said'. Prove '..Said' where nothing that the law and all that it calls make is longer than what came in: it says more and counts as full. Else prove '..UptoSaid'. A law counts once. -/
mutual
def uptoBulk {H : Type} : DataW H → Nat
  | .lit (.string bytes) => bytes.length + 1
  | .lit _ => 1
  | .nil => 1
  | .ptr d => uptoBulk d + 1
  | .slice elems spare => uptoBulkAll elems + uptoBulkAll spare + 1
  | .agg parts => uptoBulkAll parts + 1
  | .iface _ d => uptoBulk d + 1
  | .map entries => uptoBulkEntries entries + 1
  | .held _ => 1
def uptoBulkAll {H : Type} : List (DataW H) → Nat
  | [] => 0
  | d :: r => uptoBulk d + uptoBulkAll r
def uptoBulkEntries {H : Type} : List (Lit × DataW H) → Nat
  | [] => 0
  | x :: r => uptoBulkEntry x + uptoBulkEntries r
def uptoBulkEntry {H : Type} : Lit × DataW H → Nat
  | (.string bytes, d) => bytes.length + uptoBulk d + 1
  | (_, d) => uptoBulk d + 1
 end
def uptoSmall : (H : Type) → List (DataW H) → Bool := fun _ ds => decide (uptoBulkAll ds ≤ 1048576)
def OpenSpec.upto (s : _root_.Go.ChangeSpec) : _root_.Go.OpenSpec := { _root_.Go.OpenSpec.ofChange s with cond := some uptoSmall }

/-- 'consortlaw17.TurnDoes', WHERE WHAT IT READS IS OF BULK AT MOST 1048576: true; the input reads as it did. -/
def turnDoesUptoRow : OpenClaim := { program := "ytmdpbfghjdljiaagreat", sum := "8959e6f251974015b6a233342c32146569139f3dda895f8bc909437860d8b74d", func := "consort/consortlaw17.TurnDoes", spec := "turnDoes", unfollowed := true, recurses := true, apart := false, narrowed := true }
def TurnDoesUptoSaid : Prop := turnDoesUptoRow.holds Tryz.pinned (OpenSpec.upto turnDoesSpec)

/-- 'consortlaw17.TurnPlays', WHERE WHAT IT READS IS OF BULK AT MOST 1048576: true; the input reads as it did. -/
def turnPlaysUptoRow : OpenClaim := { program := "ytmdpbfghjdljiaagreat", sum := "8959e6f251974015b6a233342c32146569139f3dda895f8bc909437860d8b74d", func := "consort/consortlaw17.TurnPlays", spec := "turnPlays", unfollowed := true, recurses := true, apart := false, narrowed := true }
def TurnPlaysUptoSaid : Prop := turnPlaysUptoRow.holds Tryz.pinned (OpenSpec.upto turnPlaysSpec)

/-- 'consortlaw17.TurnMaps', WHERE WHAT IT READS IS OF BULK AT MOST 1048576: true; the input reads as it did. -/
def turnMapsUptoRow : OpenClaim := { program := "ytmdpbfghjdljiaagreat", sum := "8959e6f251974015b6a233342c32146569139f3dda895f8bc909437860d8b74d", func := "consort/consortlaw17.TurnMaps", spec := "turnMaps", unfollowed := true, recurses := true, apart := false, narrowed := true }
def TurnMapsUptoSaid : Prop := turnMapsUptoRow.holds Tryz.pinned (OpenSpec.upto turnMapsSpec)

/-- 'consortlaw17.TurnAnew', WHERE WHAT IT READS IS OF BULK AT MOST 1048576: true; the input reads as it did. -/
def turnAnewUptoRow : OpenClaim := { program := "ytmdpbfghjdljiaagreat", sum := "8959e6f251974015b6a233342c32146569139f3dda895f8bc909437860d8b74d", func := "consort/consortlaw17.TurnAnew", spec := "turnAnew", unfollowed := true, recurses := true, apart := false, narrowed := true }
def TurnAnewUptoSaid : Prop := turnAnewUptoRow.holds Tryz.pinned (OpenSpec.upto turnAnewSpec)

/-- 'consortlaw17.TurnChecks', WHERE WHAT IT READS IS OF BULK AT MOST 1048576: true; the input reads as it did. -/
def turnChecksUptoRow : OpenClaim := { program := "ytmdpbfghjdljiaagreat", sum := "8959e6f251974015b6a233342c32146569139f3dda895f8bc909437860d8b74d", func := "consort/consortlaw17.TurnChecks", spec := "turnChecks", unfollowed := true, recurses := true, apart := false, narrowed := true }
def TurnChecksUptoSaid : Prop := turnChecksUptoRow.holds Tryz.pinned (OpenSpec.upto turnChecksSpec)

/-- 'consortlaw17.TurnFormed', WHERE WHAT IT READS IS OF BULK AT MOST 1048576: true; the input reads as it did. -/
def turnFormedUptoRow : OpenClaim := { program := "ytmdpbfghjdljiaagreat", sum := "8959e6f251974015b6a233342c32146569139f3dda895f8bc909437860d8b74d", func := "consort/consortlaw17.TurnFormed", spec := "turnFormed", unfollowed := true, recurses := true, apart := false, narrowed := true }
def TurnFormedUptoSaid : Prop := turnFormedUptoRow.holds Tryz.pinned (OpenSpec.upto turnFormedSpec)

/-- 'consortlaw17.TurnKnown', WHERE WHAT IT READS IS OF BULK AT MOST 1048576: true; the input reads as it did. -/
def turnKnownUptoRow : OpenClaim := { program := "ytmdpbfghjdljiaagreat", sum := "8959e6f251974015b6a233342c32146569139f3dda895f8bc909437860d8b74d", func := "consort/consortlaw17.TurnKnown", spec := "turnKnown", unfollowed := true, recurses := true, apart := false, narrowed := true }
def TurnKnownUptoSaid : Prop := turnKnownUptoRow.holds Tryz.pinned (OpenSpec.upto turnKnownSpec)

/-- 'consortlaw17.TurnOn', WHERE WHAT IT READS IS OF BULK AT MOST 1048576: true; the input reads as it did. -/
def turnOnUptoRow : OpenClaim := { program := "ytmdpbfghjdljiaagreat", sum := "8959e6f251974015b6a233342c32146569139f3dda895f8bc909437860d8b74d", func := "consort/consortlaw17.TurnOn", spec := "turnOn", unfollowed := true, recurses := true, apart := false, narrowed := true }
def TurnOnUptoSaid : Prop := turnOnUptoRow.holds Tryz.pinned (OpenSpec.upto turnOnSpec)

/-- 'consortlaw17.TurnLooks', WHERE WHAT IT READS IS OF BULK AT MOST 1048576: true; the input reads as it did. -/
def turnLooksUptoRow : OpenClaim := { program := "ytmdpbfghjdljiaagreat", sum := "8959e6f251974015b6a233342c32146569139f3dda895f8bc909437860d8b74d", func := "consort/consortlaw17.TurnLooks", spec := "turnLooks", unfollowed := true, recurses := true, apart := false, narrowed := true }
def TurnLooksUptoSaid : Prop := turnLooksUptoRow.holds Tryz.pinned (OpenSpec.upto turnLooksSpec)

/-- 'consortlaw17.TurnSteady', WHERE WHAT IT READS IS OF BULK AT MOST 1048576: true; the input reads as it did. -/
def turnSteadyUptoRow : OpenClaim := { program := "ytmdpbfghjdljiaagreat", sum := "8959e6f251974015b6a233342c32146569139f3dda895f8bc909437860d8b74d", func := "consort/consortlaw17.TurnSteady", spec := "turnSteady", unfollowed := true, recurses := true, apart := false, narrowed := true }
def TurnSteadyUptoSaid : Prop := turnSteadyUptoRow.holds Tryz.pinned (OpenSpec.upto turnSteadySpec)

/-- 'consortlaw17.TurnLazy', WHERE WHAT IT READS IS OF BULK AT MOST 1048576: true; the input reads as it did. -/
def turnLazyUptoRow : OpenClaim := { program := "ytmdpbfghjdljiaagreat", sum := "8959e6f251974015b6a233342c32146569139f3dda895f8bc909437860d8b74d", func := "consort/consortlaw17.TurnLazy", spec := "turnLazy", unfollowed := true, recurses := true, apart := false, narrowed := true }
def TurnLazyUptoSaid : Prop := turnLazyUptoRow.holds Tryz.pinned (OpenSpec.upto turnLazySpec)

/-- 'consortlaw17.TurnSchemas', WHERE WHAT IT READS IS OF BULK AT MOST 1048576: true; the input reads as it did. -/
def turnSchemasUptoRow : OpenClaim := { program := "ytmdpbfghjdljiaagreat", sum := "8959e6f251974015b6a233342c32146569139f3dda895f8bc909437860d8b74d", func := "consort/consortlaw17.TurnSchemas", spec := "turnSchemas", unfollowed := true, recurses := true, loops := true, apart := false, narrowed := true }
def TurnSchemasUptoSaid : Prop := turnSchemasUptoRow.holds Tryz.pinned (OpenSpec.upto turnSchemasSpec)

/-- 'consortlaw17.TurnMean', WHERE WHAT IT READS IS OF BULK AT MOST 1048576: true; the input reads as it did. -/
def turnMeanUptoRow : OpenClaim := { program := "ytmdpbfghjdljiaagreat", sum := "8959e6f251974015b6a233342c32146569139f3dda895f8bc909437860d8b74d", func := "consort/consortlaw17.TurnMean", spec := "turnMean", unfollowed := true, recurses := true, loops := true, apart := false, narrowed := true }
def TurnMeanUptoSaid : Prop := turnMeanUptoRow.holds Tryz.pinned (OpenSpec.upto turnMeanSpec)

end Rows
end Go.Proofs.YtmdpbfghjdljiaaGreat
