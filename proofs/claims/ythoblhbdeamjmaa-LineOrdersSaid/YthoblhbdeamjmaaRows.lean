/-
  No cell of these rows narrows 'for every input' (looked for: loops, veiled, ifaces, maps, wideKeys, modest, calm, conditions, laid).
  DERIVED. THE GIVEN ROWS OF THIS SEAT. 13 by the template 'for every input the law returns true; each argument reads behind the call as it read before'; 0 by the template 'total and deterministic' (their statements: YthoblhbdeamjmaaTotals.lean).
  GIVEN WITH THE SEED: the statements are not yours to turn. If you find one false, say at which input.
  Laid BY PROGRAM, IN A SANDBOX (cutbox-rows.mjs): the forced cells as the released guide's own fill.sh prints them over the translation 956658f64a183282… (all of the seat's roots in one cut). By AI agents, Wed Nov 11 2026. No macro, syntax, notation, axiom, sorry.
-/
import Derived.Test.YthoblhbdeamjmaaChecked
import GoSem.Claim
import GoSem.ClaimJoined
import GoSem.ClaimMapViews
import Derived.JoinedTies
import Derived.KernelRfl
namespace Go.Proofs.Ythoblhbdeamjmaa
/- THE CELL 'sum', in the pinned program and in every row, IS THE sha256 OF THE DUMP (.gsa) THAT YthoblhbdeamjmaaProg.lean LOADS. Nothing in Lean hashes anything: it is a label: what it is worth is what the hold of that sum in a sandbox is worth. -/
noncomputable def Try.pinned : Pinned := { name := "ythoblhbdeamjmaa", sum := "956658f64a18328242cf75449e29703acf5c33a67504eb24163617b1ff9a6366", checked := Try.checked }
namespace Rows
def none {H : Type} : Left H := { results := [], args := [] }

/-- 'consortlaw03.LineLins': WHATEVER THE INPUT: true; the input reads as it did. -/
def lineLinsSpec : ChangeSpec := { name := "lineLins", fn := fun _ => fun
  | [d1, d2] => { results := [.lit (.bool true)], args := [d1, d2] }
  | _ => none }
def lineLinsRow : OpenClaim := { program := "ythoblhbdeamjmaa", sum := "956658f64a18328242cf75449e29703acf5c33a67504eb24163617b1ff9a6366", func := "consort/consortlaw03.LineLins", spec := "lineLins", unfollowed := true, recurses := true, apart := false }
def LineLinsSaid : Prop := lineLinsRow.holds Try.pinned (OpenSpec.ofChange lineLinsSpec)

/-- ITS FALSE NEIGHBOUR: 'it returns false'. Refute it at one input. -/
def lineLinsWrong : ChangeSpec := { name := "lineLins", fn := fun _ => fun
  | [d1, d2] => { results := [.lit (.bool false)], args := [d1, d2] }
  | _ => none }
def LineLinsWrongFalsely : Prop := lineLinsRow.holds Try.pinned (OpenSpec.ofChange lineLinsWrong)

/-- 'consortlaw03.LineTurned': WHATEVER THE INPUT: true; the input reads as it did. -/
def lineTurnedSpec : ChangeSpec := { name := "lineTurned", fn := fun _ => fun
  | [d1, d2] => { results := [.lit (.bool true)], args := [d1, d2] }
  | _ => none }
def lineTurnedRow : OpenClaim := { program := "ythoblhbdeamjmaa", sum := "956658f64a18328242cf75449e29703acf5c33a67504eb24163617b1ff9a6366", func := "consort/consortlaw03.LineTurned", spec := "lineTurned", unfollowed := true, recurses := true, apart := false }
def LineTurnedSaid : Prop := lineTurnedRow.holds Try.pinned (OpenSpec.ofChange lineTurnedSpec)

/-- ITS FALSE NEIGHBOUR: 'it returns false'. Refute it at one input. -/
def lineTurnedWrong : ChangeSpec := { name := "lineTurned", fn := fun _ => fun
  | [d1, d2] => { results := [.lit (.bool false)], args := [d1, d2] }
  | _ => none }
def LineTurnedWrongFalsely : Prop := lineTurnedRow.holds Try.pinned (OpenSpec.ofChange lineTurnedWrong)

/-- 'consortlaw03.LineHeirs': WHATEVER THE INPUT: true; the input reads as it did. -/
def lineHeirsSpec : ChangeSpec := { name := "lineHeirs", fn := fun _ => fun
  | [d1, d2] => { results := [.lit (.bool true)], args := [d1, d2] }
  | _ => none }
def lineHeirsRow : OpenClaim := { program := "ythoblhbdeamjmaa", sum := "956658f64a18328242cf75449e29703acf5c33a67504eb24163617b1ff9a6366", func := "consort/consortlaw03.LineHeirs", spec := "lineHeirs", unfollowed := true, recurses := true, apart := false }
def LineHeirsSaid : Prop := lineHeirsRow.holds Try.pinned (OpenSpec.ofChange lineHeirsSpec)

/-- ITS FALSE NEIGHBOUR: 'it returns false'. Refute it at one input. -/
def lineHeirsWrong : ChangeSpec := { name := "lineHeirs", fn := fun _ => fun
  | [d1, d2] => { results := [.lit (.bool false)], args := [d1, d2] }
  | _ => none }
def LineHeirsWrongFalsely : Prop := lineHeirsRow.holds Try.pinned (OpenSpec.ofChange lineHeirsWrong)

/-- 'consortlaw03.LineSpans': WHATEVER THE INPUT: true; the input reads as it did. -/
def lineSpansSpec : ChangeSpec := { name := "lineSpans", fn := fun _ => fun
  | [d1, d2, d3, d4] => { results := [.lit (.bool true)], args := [d1, d2, d3, d4] }
  | _ => none }
def lineSpansRow : OpenClaim := { program := "ythoblhbdeamjmaa", sum := "956658f64a18328242cf75449e29703acf5c33a67504eb24163617b1ff9a6366", func := "consort/consortlaw03.LineSpans", spec := "lineSpans", unfollowed := true, recurses := true, apart := false }
def LineSpansSaid : Prop := lineSpansRow.holds Try.pinned (OpenSpec.ofChange lineSpansSpec)

/-- ITS FALSE NEIGHBOUR: 'it returns false'. Refute it at one input. -/
def lineSpansWrong : ChangeSpec := { name := "lineSpans", fn := fun _ => fun
  | [d1, d2, d3, d4] => { results := [.lit (.bool false)], args := [d1, d2, d3, d4] }
  | _ => none }
def LineSpansWrongFalsely : Prop := lineSpansRow.holds Try.pinned (OpenSpec.ofChange lineSpansWrong)

/-- 'consortlaw03.LineMore': WHATEVER THE INPUT: true; the input reads as it did. -/
def lineMoreSpec : ChangeSpec := { name := "lineMore", fn := fun _ => fun
  | [d1, d2, d3] => { results := [.lit (.bool true)], args := [d1, d2, d3] }
  | _ => none }
def lineMoreRow : OpenClaim := { program := "ythoblhbdeamjmaa", sum := "956658f64a18328242cf75449e29703acf5c33a67504eb24163617b1ff9a6366", func := "consort/consortlaw03.LineMore", spec := "lineMore", unfollowed := true, recurses := true, apart := false }
def LineMoreSaid : Prop := lineMoreRow.holds Try.pinned (OpenSpec.ofChange lineMoreSpec)

/-- ITS FALSE NEIGHBOUR: 'it returns false'. Refute it at one input. -/
def lineMoreWrong : ChangeSpec := { name := "lineMore", fn := fun _ => fun
  | [d1, d2, d3] => { results := [.lit (.bool false)], args := [d1, d2, d3] }
  | _ => none }
def LineMoreWrongFalsely : Prop := lineMoreRow.holds Try.pinned (OpenSpec.ofChange lineMoreWrong)

/-- 'consortlaw03.LineConflicts': WHATEVER THE INPUT: true; the input reads as it did. -/
def lineConflictsSpec : ChangeSpec := { name := "lineConflicts", fn := fun _ => fun
  | [d1, d2, d3] => { results := [.lit (.bool true)], args := [d1, d2, d3] }
  | _ => none }
def lineConflictsRow : OpenClaim := { program := "ythoblhbdeamjmaa", sum := "956658f64a18328242cf75449e29703acf5c33a67504eb24163617b1ff9a6366", func := "consort/consortlaw03.LineConflicts", spec := "lineConflicts", unfollowed := true, recurses := true, apart := false }
def LineConflictsSaid : Prop := lineConflictsRow.holds Try.pinned (OpenSpec.ofChange lineConflictsSpec)

/-- ITS FALSE NEIGHBOUR: 'it returns false'. Refute it at one input. -/
def lineConflictsWrong : ChangeSpec := { name := "lineConflicts", fn := fun _ => fun
  | [d1, d2, d3] => { results := [.lit (.bool false)], args := [d1, d2, d3] }
  | _ => none }
def LineConflictsWrongFalsely : Prop := lineConflictsRow.holds Try.pinned (OpenSpec.ofChange lineConflictsWrong)

/-- 'consortlaw03.LineCommon': WHATEVER THE INPUT: true; the input reads as it did. -/
def lineCommonSpec : ChangeSpec := { name := "lineCommon", fn := fun _ => fun
  | [d1, d2] => { results := [.lit (.bool true)], args := [d1, d2] }
  | _ => none }
def lineCommonRow : OpenClaim := { program := "ythoblhbdeamjmaa", sum := "956658f64a18328242cf75449e29703acf5c33a67504eb24163617b1ff9a6366", func := "consort/consortlaw03.LineCommon", spec := "lineCommon", unfollowed := true, recurses := true, apart := false }
def LineCommonSaid : Prop := lineCommonRow.holds Try.pinned (OpenSpec.ofChange lineCommonSpec)

/-- ITS FALSE NEIGHBOUR: 'it returns false'. Refute it at one input. -/
def lineCommonWrong : ChangeSpec := { name := "lineCommon", fn := fun _ => fun
  | [d1, d2] => { results := [.lit (.bool false)], args := [d1, d2] }
  | _ => none }
def LineCommonWrongFalsely : Prop := lineCommonRow.holds Try.pinned (OpenSpec.ofChange lineCommonWrong)

/-- 'consortlaw03.LineAgrees': WHATEVER THE INPUT: true; the input reads as it did. -/
def lineAgreesSpec : ChangeSpec := { name := "lineAgrees", fn := fun _ => fun
  | [d1, d2, d3] => { results := [.lit (.bool true)], args := [d1, d2, d3] }
  | _ => none }
def lineAgreesRow : OpenClaim := { program := "ythoblhbdeamjmaa", sum := "956658f64a18328242cf75449e29703acf5c33a67504eb24163617b1ff9a6366", func := "consort/consortlaw03.LineAgrees", spec := "lineAgrees", unfollowed := true, recurses := true, apart := false }
def LineAgreesSaid : Prop := lineAgreesRow.holds Try.pinned (OpenSpec.ofChange lineAgreesSpec)

/-- ITS FALSE NEIGHBOUR: 'it returns false'. Refute it at one input. -/
def lineAgreesWrong : ChangeSpec := { name := "lineAgrees", fn := fun _ => fun
  | [d1, d2, d3] => { results := [.lit (.bool false)], args := [d1, d2, d3] }
  | _ => none }
def LineAgreesWrongFalsely : Prop := lineAgreesRow.holds Try.pinned (OpenSpec.ofChange lineAgreesWrong)

/-- 'consortlaw03.LineTests': WHATEVER THE INPUT: true; the input reads as it did. -/
def lineTestsSpec : ChangeSpec := { name := "lineTests", fn := fun _ => fun
  | [d1, d2] => { results := [.lit (.bool true)], args := [d1, d2] }
  | _ => none }
def lineTestsRow : OpenClaim := { program := "ythoblhbdeamjmaa", sum := "956658f64a18328242cf75449e29703acf5c33a67504eb24163617b1ff9a6366", func := "consort/consortlaw03.LineTests", spec := "lineTests", unfollowed := true, recurses := true, apart := false }
def LineTestsSaid : Prop := lineTestsRow.holds Try.pinned (OpenSpec.ofChange lineTestsSpec)

/-- ITS FALSE NEIGHBOUR: 'it returns false'. Refute it at one input. -/
def lineTestsWrong : ChangeSpec := { name := "lineTests", fn := fun _ => fun
  | [d1, d2] => { results := [.lit (.bool false)], args := [d1, d2] }
  | _ => none }
def LineTestsWrongFalsely : Prop := lineTestsRow.holds Try.pinned (OpenSpec.ofChange lineTestsWrong)

/-- 'consortlaw03.LineBelows': WHATEVER THE INPUT: true; the input reads as it did. -/
def lineBelowsSpec : ChangeSpec := { name := "lineBelows", fn := fun _ => fun
  | [d1, d2, d3] => { results := [.lit (.bool true)], args := [d1, d2, d3] }
  | _ => none }
def lineBelowsRow : OpenClaim := { program := "ythoblhbdeamjmaa", sum := "956658f64a18328242cf75449e29703acf5c33a67504eb24163617b1ff9a6366", func := "consort/consortlaw03.LineBelows", spec := "lineBelows", unfollowed := true, recurses := true, apart := false }
def LineBelowsSaid : Prop := lineBelowsRow.holds Try.pinned (OpenSpec.ofChange lineBelowsSpec)

/-- ITS FALSE NEIGHBOUR: 'it returns false'. Refute it at one input. -/
def lineBelowsWrong : ChangeSpec := { name := "lineBelows", fn := fun _ => fun
  | [d1, d2, d3] => { results := [.lit (.bool false)], args := [d1, d2, d3] }
  | _ => none }
def LineBelowsWrongFalsely : Prop := lineBelowsRow.holds Try.pinned (OpenSpec.ofChange lineBelowsWrong)

/-- 'consortlaw03.LineAgreed': WHATEVER THE INPUT: true; the input reads as it did. -/
def lineAgreedSpec : ChangeSpec := { name := "lineAgreed", fn := fun _ => fun
  | [d1, d2, d3, d4] => { results := [.lit (.bool true)], args := [d1, d2, d3, d4] }
  | _ => none }
def lineAgreedRow : OpenClaim := { program := "ythoblhbdeamjmaa", sum := "956658f64a18328242cf75449e29703acf5c33a67504eb24163617b1ff9a6366", func := "consort/consortlaw03.LineAgreed", spec := "lineAgreed", unfollowed := true, recurses := true, apart := false }
def LineAgreedSaid : Prop := lineAgreedRow.holds Try.pinned (OpenSpec.ofChange lineAgreedSpec)

/-- ITS FALSE NEIGHBOUR: 'it returns false'. Refute it at one input. -/
def lineAgreedWrong : ChangeSpec := { name := "lineAgreed", fn := fun _ => fun
  | [d1, d2, d3, d4] => { results := [.lit (.bool false)], args := [d1, d2, d3, d4] }
  | _ => none }
def LineAgreedWrongFalsely : Prop := lineAgreedRow.holds Try.pinned (OpenSpec.ofChange lineAgreedWrong)

/-- 'consortlaw03.LineOrders': WHATEVER THE INPUT: true; the input reads as it did. -/
def lineOrdersSpec : ChangeSpec := { name := "lineOrders", fn := fun _ => fun
  | [d] => { results := [.lit (.bool true)], args := [d] }
  | _ => none }
def lineOrdersRow : OpenClaim := { program := "ythoblhbdeamjmaa", sum := "956658f64a18328242cf75449e29703acf5c33a67504eb24163617b1ff9a6366", func := "consort/consortlaw03.LineOrders", spec := "lineOrders", unfollowed := true, recurses := true, apart := false }
def LineOrdersSaid : Prop := lineOrdersRow.holds Try.pinned (OpenSpec.ofChange lineOrdersSpec)

/-- ITS FALSE NEIGHBOUR: 'it returns false'. Refute it at one input. -/
def lineOrdersWrong : ChangeSpec := { name := "lineOrders", fn := fun _ => fun
  | [d] => { results := [.lit (.bool false)], args := [d] }
  | _ => none }
def LineOrdersWrongFalsely : Prop := lineOrdersRow.holds Try.pinned (OpenSpec.ofChange lineOrdersWrong)

/-- 'consortlaw03.LineKnown': WHATEVER THE INPUT: true; the input reads as it did. -/
def lineKnownSpec : ChangeSpec := { name := "lineKnown", fn := fun _ => fun
  | [] => { results := [.lit (.bool true)], args := [] }
  | _ => none }
def lineKnownRow : OpenClaim := { program := "ythoblhbdeamjmaa", sum := "956658f64a18328242cf75449e29703acf5c33a67504eb24163617b1ff9a6366", func := "consort/consortlaw03.LineKnown", spec := "lineKnown", unfollowed := true, recurses := true, apart := false }
def LineKnownSaid : Prop := lineKnownRow.holds Try.pinned (OpenSpec.ofChange lineKnownSpec)

/-- ITS FALSE NEIGHBOUR: 'it returns false'. Refute it at one input. -/
def lineKnownWrong : ChangeSpec := { name := "lineKnown", fn := fun _ => fun
  | [] => { results := [.lit (.bool false)], args := [] }
  | _ => none }
def LineKnownWrongFalsely : Prop := lineKnownRow.holds Try.pinned (OpenSpec.ofChange lineKnownWrong)

/- THE SECOND FORM. 'bulk': how many values and letters a reading holds, each counted each time it is reached (what is shared counts as often as it is met; a slice's spare places count too). A statement '..UptoSaid' is the law's where the arguments, and the package variables that the reading takes, are together of bulk at most 1048576: NARROWER than '..Said'. Prove '..Said' where nothing that the law and all that it calls make is longer than what came in: it says more and counts as full. Else prove '..UptoSaid'. A law counts once. -/
mutual
def uptoBulk {H : Type} : DataW H → Nat
  | .lit (.string bytes) => bytes.length + 1
  | .lit _ => 1
  | .nil => 1
  | .ptr d => uptoBulk d + 1
  | .slice elems spare => uptoBulkAll elems + uptoBulkAll spare + 1
  | .agg parts => uptoBulkAll parts + 1
  | .iface _ d => uptoBulk d + 1
  | .map entries => uptoBulkEntries entries + 1
  | .held _ => 1
def uptoBulkAll {H : Type} : List (DataW H) → Nat
  | [] => 0
  | d :: r => uptoBulk d + uptoBulkAll r
def uptoBulkEntries {H : Type} : List (Lit × DataW H) → Nat
  | [] => 0
  | x :: r => uptoBulkEntry x + uptoBulkEntries r
def uptoBulkEntry {H : Type} : Lit × DataW H → Nat
  | (.string bytes, d) => bytes.length + uptoBulk d + 1
  | (_, d) => uptoBulk d + 1
 end
def uptoSmall : (H : Type) → List (DataW H) → Bool := fun _ ds => decide (uptoBulkAll ds ≤ 1048576)
def OpenSpec.upto (s : _root_.Go.ChangeSpec) : _root_.Go.OpenSpec := { _root_.Go.OpenSpec.ofChange s with cond := some uptoSmall }

/-- 'consortlaw03.LineLins', WHERE WHAT IT READS IS OF BULK AT MOST 1048576: true; the input reads as it did. -/
def lineLinsUptoRow : OpenClaim := { program := "ythoblhbdeamjmaa", sum := "956658f64a18328242cf75449e29703acf5c33a67504eb24163617b1ff9a6366", func := "consort/consortlaw03.LineLins", spec := "lineLins", unfollowed := true, recurses := true, apart := false, narrowed := true }
def LineLinsUptoSaid : Prop := lineLinsUptoRow.holds Try.pinned (OpenSpec.upto lineLinsSpec)

/-- 'consortlaw03.LineTurned', WHERE WHAT IT READS IS OF BULK AT MOST 1048576: true; the input reads as it did. -/
def lineTurnedUptoRow : OpenClaim := { program := "ythoblhbdeamjmaa", sum := "956658f64a18328242cf75449e29703acf5c33a67504eb24163617b1ff9a6366", func := "consort/consortlaw03.LineTurned", spec := "lineTurned", unfollowed := true, recurses := true, apart := false, narrowed := true }
def LineTurnedUptoSaid : Prop := lineTurnedUptoRow.holds Try.pinned (OpenSpec.upto lineTurnedSpec)

/-- 'consortlaw03.LineHeirs', WHERE WHAT IT READS IS OF BULK AT MOST 1048576: true; the input reads as it did. -/
def lineHeirsUptoRow : OpenClaim := { program := "ythoblhbdeamjmaa", sum := "956658f64a18328242cf75449e29703acf5c33a67504eb24163617b1ff9a6366", func := "consort/consortlaw03.LineHeirs", spec := "lineHeirs", unfollowed := true, recurses := true, apart := false, narrowed := true }
def LineHeirsUptoSaid : Prop := lineHeirsUptoRow.holds Try.pinned (OpenSpec.upto lineHeirsSpec)

/-- 'consortlaw03.LineSpans', WHERE WHAT IT READS IS OF BULK AT MOST 1048576: true; the input reads as it did. -/
def lineSpansUptoRow : OpenClaim := { program := "ythoblhbdeamjmaa", sum := "956658f64a18328242cf75449e29703acf5c33a67504eb24163617b1ff9a6366", func := "consort/consortlaw03.LineSpans", spec := "lineSpans", unfollowed := true, recurses := true, apart := false, narrowed := true }
def LineSpansUptoSaid : Prop := lineSpansUptoRow.holds Try.pinned (OpenSpec.upto lineSpansSpec)

/-- 'consortlaw03.LineMore', WHERE WHAT IT READS IS OF BULK AT MOST 1048576: true; the input reads as it did. -/
def lineMoreUptoRow : OpenClaim := { program := "ythoblhbdeamjmaa", sum := "956658f64a18328242cf75449e29703acf5c33a67504eb24163617b1ff9a6366", func := "consort/consortlaw03.LineMore", spec := "lineMore", unfollowed := true, recurses := true, apart := false, narrowed := true }
def LineMoreUptoSaid : Prop := lineMoreUptoRow.holds Try.pinned (OpenSpec.upto lineMoreSpec)

/-- 'consortlaw03.LineConflicts', WHERE WHAT IT READS IS OF BULK AT MOST 1048576: true; the input reads as it did. -/
def lineConflictsUptoRow : OpenClaim := { program := "ythoblhbdeamjmaa", sum := "956658f64a18328242cf75449e29703acf5c33a67504eb24163617b1ff9a6366", func := "consort/consortlaw03.LineConflicts", spec := "lineConflicts", unfollowed := true, recurses := true, apart := false, narrowed := true }
def LineConflictsUptoSaid : Prop := lineConflictsUptoRow.holds Try.pinned (OpenSpec.upto lineConflictsSpec)

/-- 'consortlaw03.LineCommon', WHERE WHAT IT READS IS OF BULK AT MOST 1048576: true; the input reads as it did. -/
def lineCommonUptoRow : OpenClaim := { program := "ythoblhbdeamjmaa", sum := "956658f64a18328242cf75449e29703acf5c33a67504eb24163617b1ff9a6366", func := "consort/consortlaw03.LineCommon", spec := "lineCommon", unfollowed := true, recurses := true, apart := false, narrowed := true }
def LineCommonUptoSaid : Prop := lineCommonUptoRow.holds Try.pinned (OpenSpec.upto lineCommonSpec)

/-- 'consortlaw03.LineAgrees', WHERE WHAT IT READS IS OF BULK AT MOST 1048576: true; the input reads as it did. -/
def lineAgreesUptoRow : OpenClaim := { program := "ythoblhbdeamjmaa", sum := "956658f64a18328242cf75449e29703acf5c33a67504eb24163617b1ff9a6366", func := "consort/consortlaw03.LineAgrees", spec := "lineAgrees", unfollowed := true, recurses := true, apart := false, narrowed := true }
def LineAgreesUptoSaid : Prop := lineAgreesUptoRow.holds Try.pinned (OpenSpec.upto lineAgreesSpec)

/-- 'consortlaw03.LineTests', WHERE WHAT IT READS IS OF BULK AT MOST 1048576: true; the input reads as it did. -/
def lineTestsUptoRow : OpenClaim := { program := "ythoblhbdeamjmaa", sum := "956658f64a18328242cf75449e29703acf5c33a67504eb24163617b1ff9a6366", func := "consort/consortlaw03.LineTests", spec := "lineTests", unfollowed := true, recurses := true, apart := false, narrowed := true }
def LineTestsUptoSaid : Prop := lineTestsUptoRow.holds Try.pinned (OpenSpec.upto lineTestsSpec)

/-- 'consortlaw03.LineBelows', WHERE WHAT IT READS IS OF BULK AT MOST 1048576: true; the input reads as it did. -/
def lineBelowsUptoRow : OpenClaim := { program := "ythoblhbdeamjmaa", sum := "956658f64a18328242cf75449e29703acf5c33a67504eb24163617b1ff9a6366", func := "consort/consortlaw03.LineBelows", spec := "lineBelows", unfollowed := true, recurses := true, apart := false, narrowed := true }
def LineBelowsUptoSaid : Prop := lineBelowsUptoRow.holds Try.pinned (OpenSpec.upto lineBelowsSpec)

/-- 'consortlaw03.LineAgreed', WHERE WHAT IT READS IS OF BULK AT MOST 1048576: true; the input reads as it did. -/
def lineAgreedUptoRow : OpenClaim := { program := "ythoblhbdeamjmaa", sum := "956658f64a18328242cf75449e29703acf5c33a67504eb24163617b1ff9a6366", func := "consort/consortlaw03.LineAgreed", spec := "lineAgreed", unfollowed := true, recurses := true, apart := false, narrowed := true }
def LineAgreedUptoSaid : Prop := lineAgreedUptoRow.holds Try.pinned (OpenSpec.upto lineAgreedSpec)

/-- 'consortlaw03.LineOrders', WHERE WHAT IT READS IS OF BULK AT MOST 1048576: true; the input reads as it did. -/
def lineOrdersUptoRow : OpenClaim := { program := "ythoblhbdeamjmaa", sum := "956658f64a18328242cf75449e29703acf5c33a67504eb24163617b1ff9a6366", func := "consort/consortlaw03.LineOrders", spec := "lineOrders", unfollowed := true, recurses := true, apart := false, narrowed := true }
def LineOrdersUptoSaid : Prop := lineOrdersUptoRow.holds Try.pinned (OpenSpec.upto lineOrdersSpec)

/-- 'consortlaw03.LineKnown', WHERE WHAT IT READS IS OF BULK AT MOST 1048576: true; the input reads as it did. -/
def lineKnownUptoRow : OpenClaim := { program := "ythoblhbdeamjmaa", sum := "956658f64a18328242cf75449e29703acf5c33a67504eb24163617b1ff9a6366", func := "consort/consortlaw03.LineKnown", spec := "lineKnown", unfollowed := true, recurses := true, apart := false, narrowed := true }
def LineKnownUptoSaid : Prop := lineKnownUptoRow.holds Try.pinned (OpenSpec.upto lineKnownSpec)

end Rows
end Go.Proofs.Ythoblhbdeamjmaa
