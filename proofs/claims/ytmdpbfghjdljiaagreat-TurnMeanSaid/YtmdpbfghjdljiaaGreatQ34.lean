/- Part 34 of what the claim is proved by: lemmas on the model and walks through functions of the program; no conditions. -/
import Derived.Test.YtmdpbfghjdljiaaGreatQ12
import Derived.Test.YtmdpbfghjdljiaaGreatQ33b
import Derived.WalkKit
namespace Go.Proofs
open Go Go.W Go.V Go.ChangeShapes Go.WideShapes Go.ChangeAt Go.RowKit Go.Deep
theorem lOwn:ownKnob Tryz.prog.godebug=none:=by kernel_rfl
theorem lLaid:laidOutB Tryz.prog=true:=by kernel_rfl
theorem reach_le {n:Nat} (h:n≤reachBytes):n≤140737488355328:=Nat.le_trans h (by decide)
section
variable {H:Type} {enc:TypeId × Value→H} {w:World} {held:Bool}
theorem rInt:Rs enc Tryz.prog w held 3 1 V.int (fun _=>True):=Rs.int Tryz.underlying3
theorem rKind:Rs enc Tryz.prog w held 29 1 V.int (fun _=>True):=Rs.int Tryz.underlying29
theorem rInts:Rs enc Tryz.prog w held 36 1 ints (fun l=>l.length*8≤reachBytes∧∀ x∈l,True):=Rs.slice Tryz.underlying36 (by kernel_rfl) (by kernel_rfl) (by decide) rInt
theorem rInit:Rs enc Tryz.prog w held 115 2 initA (fun _=>True):=
 by
  have h:=Rs.struct (enc:=enc) (w:=w) (held:=held) Tryz.underlying115 (by kernel_rfl) (RsS.cons rInt (RsS.cons rInt RsS.nil rfl (by kernel_rfl)) rfl (by kernel_rfl))
  exact h.map (fun x=>(x.1,x.2.1)) (fun _=>rfl) (fun _ _=>trivial)
theorem rInits:Rs enc Tryz.prog w held 37 1 initsA (fun l=>l.length*16≤reachBytes∧∀ x∈l,True):=Rs.slice Tryz.underlying37 (by kernel_rfl) (by kernel_rfl) (by decide) rInit
theorem rCls:Rs enc Tryz.prog w held 39 3 clsA ShortC:=
 by
  have h:=Rs.struct (enc:=enc) (w:=w) (held:=held) Tryz.underlying39 (by kernel_rfl) (RsS.cons rInts (RsS.cons rInts (RsS.cons rInits RsS.nil rfl (by kernel_rfl)) rfl (by kernel_rfl)) rfl (by kernel_rfl))
  exact h.map (fun x=>(x.1,x.2.1,x.2.2.1)) (fun _=>rfl)
   (fun _ h=>⟨reach_le h.1.1,reach_le h.2.1.1,reach_le h.2.2.1.1⟩)
theorem rClss:Rs enc Tryz.prog w held 59 1 clssA Short:=
 by
  have h:=Rs.slice (enc:=enc) (w:=w) (held:=held) Tryz.underlying59 (by kernel_rfl) (B:=72) (by kernel_rfl) (by decide) rCls
  exact h.map (fun x=>x) (fun _=>rfl) (fun _ h=>⟨reach_le h.1,h.2⟩)
theorem rVal:Rs enc Tryz.prog w held 31 2 valA (fun _=>True):=
 by
  have h:=Rs.struct (enc:=enc) (w:=w) (held:=held) Tryz.underlying31 (by kernel_rfl) (RsS.cons rKind (RsS.cons rInt RsS.nil rfl (by kernel_rfl)) rfl (by kernel_rfl))
  exact h.map (fun x=>(x.1,x.2.1)) (fun _=>rfl) (fun _ _=>trivial)
end
end Go.Proofs
