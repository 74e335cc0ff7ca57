/- LineKnown holds: the program returns true: the chapter's examples. No conditions. -/
import Derived.Test.YthoblhbdeamjmaaW2
import Derived.Test.YthoblhbdeamjmaaB1
namespace Go.Proofs.Ythoblhbdeamjmaa
open Go Go.V Go.ChangeShapes Go.WideShapes Go.ChangeAt Go.RowKit Go.Deep
set_option maxRecDepth 100000 in
theorem lineKnown_lifted (os : Os) (started : os.Started) (H : Type) (enc : TypeId × Value → H) :
    ReturnsInHanded {} Try.checked os 15 .any (Rows.lineKnownSpec.pre6 enc Try.prog Try.f15 Rows.lineKnownRow.domain false) (Rows.lineKnownSpec.post enc Try.prog Try.f15 false true false false) := by
  refine returnsInHanded_of_change (C := Try.checked) lOwn started (by kernel_rfl) Try.func15
    (ChangeSpec.witness6 (enc := enc) (C := Try.checked) false ⟨#[], #[], []⟩ 8 (by kernel_rfl) (by kernel_rfl) (by kernel_rfl) (by kernel_rfl)) ?_
  intro W base args ds gs before hval0 hW hcnd _
  have hval : ∀ (j : Nat) t v, Try.f15.params[j]? = some t → args[j]? = some v → Value.okWide Try.prog W .any base t v := hval0
  have hW' := hW
  obtain ⟨p, q, hA0, hV, rfl, hfz, hnd⟩ := hW
  have hA : DataW.TrodAll enc Try.prog W 0 (fun _ => true) true Try.f15.params.toList args.toList ds p := hA0
  have hA1 := hA
  rw [Try.params15] at hA hval
  obtain ⟨hargs, rfl, rfl⟩ := trodAll_nil hA
  obtain rfl : args = #[] := by cases args; simp_all
  obtain ⟨rfl, rfl⟩ := trodVars_none hV
  exact law_calls (f := 15) (fn := Try.f15) (vs := []) (s_law03_LineKnown) lLaid Try.underlying4 (by kernel_rfl) hW' hA1 rfl rfl rfl rfl rfl (by rw [Try.params15]; decide +kernel) trivial
theorem lineKnown_over : Rows.lineKnownRow.holds Try.pinned (OpenSpec.ofChange Rows.lineKnownSpec) :=
  OpenClaim.holds_of_wide 15 Try.f15 rfl rfl rfl rfl rfl rfl rfl ⟨rfl, rfl, rfl, rfl, rfl⟩ rfl rfl rfl rfl rfl (by kernel_rfl) Try.func15 (by kernel_rfl)
    (of_decide_eq_true (by kernel_rfl)) (by unfold Func.isWrapper; first | (rw [if_pos (by decide +kernel)]; kernel_rfl) | (rw [if_neg (by decide +kernel)]; exact ⟨rfl, rfl⟩))
    (fun os started H enc _ => lineKnown_lifted os started H enc)
theorem LineKnown_holds : Rows.LineKnownSaid := lineKnown_over
end Go.Proofs.Ythoblhbdeamjmaa
