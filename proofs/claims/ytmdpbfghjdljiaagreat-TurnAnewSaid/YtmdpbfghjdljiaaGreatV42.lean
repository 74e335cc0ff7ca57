/- Part 42 of what the claim is proved by: lemmas on the model and walks through functions of the program; no conditions. -/
import Derived.Test.YtmdpbfghjdljiaaGreatV15
import Derived.Test.YtmdpbfghjdljiaaGreatV40
import Derived.WalkKit
namespace Go.Proofs
open Go Go.W Go.V Go.ChangeShapes Go.WideShapes Go.ChangeAt Go.RowKit Go.Deep
theorem lOwn : ownKnob Tryz.prog.godebug = none := by kernel_rfl
theorem lLaid : laidOutB Tryz.prog = true := by kernel_rfl
theorem reach_le {n : Nat} (h : n ≤ reachBytes) : n ≤ 140737488355328 := Nat.le_trans h (by decide)
section
variable {H : Type} {enc : TypeId × Value → H} {w : World} {held : Bool}
theorem rInt : Rs enc Tryz.prog w held 3 1 V.int (fun _ => True) := Rs.int Tryz.underlying3
theorem rBool : Rs enc Tryz.prog w held 4 1 V.bool (fun _ => True) := Rs.bool Tryz.underlying4
theorem rKind : Rs enc Tryz.prog w held 29 1 V.int (fun _ => True) := Rs.int Tryz.underlying29
theorem rDo : Rs enc Tryz.prog w held 35 1 V.int (fun _ => True) := Rs.int Tryz.underlying35
theorem rInts : Rs enc Tryz.prog w held 36 1 ints (fun l => l.length * 8 ≤ reachBytes ∧ ∀ x ∈ l, True) := Rs.slice Tryz.underlying36 (by kernel_rfl) (by kernel_rfl) (by decide) rInt
theorem rInit : Rs enc Tryz.prog w held 115 2 initA (fun _ => True) :=
  by
    have h := Rs.struct (enc := enc) (w := w) (held := held) Tryz.underlying115 (by kernel_rfl) (RsS.cons rInt (RsS.cons rInt RsS.nil rfl (by kernel_rfl)) rfl (by kernel_rfl))
    exact h.map (fun x => (x.1, x.2.1)) (fun _ => rfl) (fun _ _ => trivial)
theorem rInits : Rs enc Tryz.prog w held 37 1 initsA (fun l => l.length * 16 ≤ reachBytes ∧ ∀ x ∈ l, True) := Rs.slice Tryz.underlying37 (by kernel_rfl) (by kernel_rfl) (by decide) rInit
theorem rCls : Rs enc Tryz.prog w held 39 3 clsA ShortC :=
  by
    have h := Rs.struct (enc := enc) (w := w) (held := held) Tryz.underlying39 (by kernel_rfl) (RsS.cons rInts (RsS.cons rInts (RsS.cons rInits RsS.nil rfl (by kernel_rfl)) rfl (by kernel_rfl)) rfl (by kernel_rfl))
    exact h.map (fun x => (x.1, x.2.1, x.2.2.1)) (fun _ => rfl)
      (fun _ h => ⟨reach_le h.1.1, reach_le h.2.1.1, reach_le h.2.2.1.1⟩)
theorem rClss : Rs enc Tryz.prog w held 59 1 clssA Short :=
  by
    have h := Rs.slice (enc := enc) (w := w) (held := held) Tryz.underlying59 (by kernel_rfl) (B := 72) (by kernel_rfl) (by decide) rCls
    exact h.map (fun x => x) (fun _ => rfl) (fun _ h => ⟨reach_le h.1, h.2⟩)
theorem rSchs : Rs enc Tryz.prog w held 22 1 schsA (fun ss => ∀ s ∈ ss, Short s) :=
  by
    have h := Rs.slice (enc := enc) (w := w) (held := held) Tryz.underlying22 (by kernel_rfl) (B := 24) (by kernel_rfl) (by decide) rClss
    exact h.map (fun x => x) (fun _ => rfl) (fun _ h => h.2)
theorem rVal : Rs enc Tryz.prog w held 31 2 valA (fun _ => True) :=
  by
    have h := Rs.struct (enc := enc) (w := w) (held := held) Tryz.underlying31 (by kernel_rfl) (RsS.cons rKind (RsS.cons rInt RsS.nil rfl (by kernel_rfl)) rfl (by kernel_rfl))
    exact h.map (fun x => (x.1, x.2.1)) (fun _ => rfl) (fun _ _ => trivial)
theorem rVals : Rs enc Tryz.prog w held 45 1 valsA (fun _ => True) :=
  by
    have h := Rs.slice (enc := enc) (w := w) (held := held) Tryz.underlying45 (by kernel_rfl) (B := 16) (by kernel_rfl) (by decide) rVal
    exact h.map (fun x => x) (fun _ => rfl) (fun _ _ => trivial)
theorem rThing : Rs enc Tryz.prog w held 58 3 thingA (fun _ => True) :=
  by
    have h := Rs.struct (enc := enc) (w := w) (held := held) Tryz.underlying58 (by kernel_rfl) (RsS.cons rInt (RsS.cons rInt (RsS.cons rVals RsS.nil rfl (by kernel_rfl)) rfl (by kernel_rfl)) rfl (by kernel_rfl))
    exact h.map (fun x => (x.1, x.2.1, x.2.2.1)) (fun _ => rfl) (fun _ _ => trivial)
theorem rThings : Rs enc Tryz.prog w held 23 1 thingsA (fun _ => True) :=
  by
    have h := Rs.slice (enc := enc) (w := w) (held := held) Tryz.underlying23 (by kernel_rfl) (B := 40) (by kernel_rfl) (by decide) rThing
    exact h.map (fun x => x) (fun _ => rfl) (fun _ _ => trivial)
theorem rWld : Rs enc Tryz.prog w held 25 3 wldA (fun x => ∀ s ∈ x.2.1, Short s) :=
  by
    have h := Rs.struct (enc := enc) (w := w) (held := held) Tryz.underlying25 (by kernel_rfl) (RsS.cons rBool (RsS.cons rSchs (RsS.cons rThings RsS.nil rfl (by kernel_rfl)) rfl (by kernel_rfl)) rfl (by kernel_rfl))
    exact h.map (fun x => (x.1, x.2.1, x.2.2.1)) (fun _ => rfl) (fun _ h => h.2.1)
theorem rStep : Rs enc Tryz.prog w held 41 9 stepA (fun s => ShortC s.k) :=
  by
    have h := Rs.struct (enc := enc) (w := w) (held := held) Tryz.underlying41 (by kernel_rfl) (RsS.cons rDo (RsS.cons rInt (RsS.cons rInt (RsS.cons rInt (RsS.cons rVal (RsS.cons rCls RsS.nil rfl (by kernel_rfl)) rfl (by kernel_rfl)) rfl (by kernel_rfl)) rfl (by kernel_rfl)) rfl (by kernel_rfl)) rfl (by kernel_rfl))
    exact h.map 
      (fun x => ⟨x.1, x.2.1, x.2.2.1, x.2.2.2.1, x.2.2.2.2.1, x.2.2.2.2.2.1⟩) (fun _ => rfl) (fun _ h => h.2.2.2.2.2.1)
theorem rSteps : Rs enc Tryz.prog w held 26 1 stepsA (fun l => ∀ s ∈ l, ShortC s.k) :=
  by
    have h := Rs.slice (enc := enc) (w := w) (held := held) Tryz.underlying26 (by kernel_rfl) (B := 120) (by kernel_rfl) (by decide) rStep
    exact h.map (fun x => x) (fun _ => rfl) (fun _ h => h.2)
abbrev Giv := Wld × List Step × Int × Int × Int × Int
abbrev givC (x : Giv) : List AV := [V.bool x.1.1, schsA x.1.2.1, thingsA x.1.2.2, stepsA x.2.1, V.int x.2.2.1, V.int x.2.2.2.1, V.int x.2.2.2.2.1, V.int x.2.2.2.2.2]
theorem rGiv : Rs enc Tryz.prog w held 28 8 (fun x : Giv => .st (givC x)) (fun x => (∀ s ∈ x.1.2.1, Short s) ∧ ∀ s ∈ x.2.1, ShortC s.k) :=
  by
    have h := Rs.struct (enc := enc) (w := w) (held := held) Tryz.underlying28 (by kernel_rfl) (RsS.cons rWld (RsS.cons rSteps (RsS.cons rInt (RsS.cons rInt (RsS.cons rInt (RsS.cons rInt RsS.nil rfl (by kernel_rfl)) rfl (by kernel_rfl)) rfl (by kernel_rfl)) rfl (by kernel_rfl)) rfl (by kernel_rfl)) rfl (by kernel_rfl))
    exact h.map 
      (fun x => (x.1, x.2.1, x.2.2.1, x.2.2.2.1, x.2.2.2.2.1, x.2.2.2.2.2.1)) (fun _ => rfl) (fun _ h => ⟨h.1, h.2.1⟩)
end
end Go.Proofs
