/- LineOrders holds: for every graph the program returns true: linear orders keep all orders above them; a class has none just if there is a ring. No conditions. -/
import Derived.Test.YthoblhbdeamjmaaQ12
import Derived.Test.YthoblhbdeamjmaaQ16
namespace Go.Proofs.Ythoblhbdeamjmaa
open Go Go.V Go.ChangeShapes Go.WideShapes Go.ChangeAt Go.RowKit Go.Deep
set_option maxRecDepth 100000 in
theorem lineOrders_lifted (os : Os) (started : os.Started) (H : Type) (enc : TypeId × Value → H) :
    ReturnsInHanded {} Try.checked os 14 .any (Rows.lineOrdersSpec.pre6 enc Try.prog Try.f14 Rows.lineOrdersRow.domain false) (Rows.lineOrdersSpec.post enc Try.prog Try.f14 false true false false) := by
  refine returnsInHanded_of_change (C := Try.checked) lOwn started (by kernel_rfl) Try.func14
    (ChangeSpec.witness6 (enc := enc) (C := Try.checked) false ⟨#[], #[.slice none 0 0], []⟩ 8 (by kernel_rfl) (by kernel_rfl) (by kernel_rfl) (by kernel_rfl)) ?_
  intro W base args ds gs before hval0 hW hcnd _
  have hval : ∀ (j : Nat) t v, Try.f14.params[j]? = some t → args[j]? = some v → Value.okWide Try.prog W .any base t v := hval0
  have hW' := hW
  obtain ⟨p, q, hA0, hV, rfl, hfz, hnd⟩ := hW
  have hA : DataW.TrodAll enc Try.prog W 0 (fun _ => true) true Try.f14.params.toList args.toList ds p := hA0
  have hA1 := hA
  rw [Try.params14] at hA hval
  obtain ⟨v0, vs0, d0, ds0, p0, q0, hargs, rfl, rfl, h0, r0⟩ := trodAll_cons hA
  obtain ⟨rfl, rfl, rfl⟩ := trodAll_nil r0
  obtain rfl : args = #[v0] := by cases args; simp_all
  obtain ⟨rfl, rfl⟩ := trodVars_none hV
  obtain ⟨_, _, _, e0⟩ := okWide_slice Try.underlying22 (hval 0 22 v0 rfl rfl)
  obtain ⟨x0, g0, k0⟩ := Rd.arg (Rd.slice Try.underlying22 lCells25 (by decide) (Rd.slice Try.underlying25 lCells3 (by decide) (Rd.int Try.underlying3))) (by rw [e0]; rfl) (fun _ => rfl) h0
  exact law_calls (f := 14) (fn := Try.f14) (vs := [v0]) (s_law03_LineOrders x0) lLaid Try.underlying4 (by kernel_rfl) hW' hA1 rfl rfl rfl rfl rfl (by rw [Try.params14]; decide +kernel) ⟨g0, trivial⟩
theorem lineOrders_over : Rows.lineOrdersRow.holds Try.pinned (OpenSpec.ofChange Rows.lineOrdersSpec) :=
  OpenClaim.holds_of_wide 14 Try.f14 rfl rfl rfl rfl rfl rfl rfl ⟨rfl, rfl, rfl, rfl, rfl⟩ rfl rfl rfl rfl rfl (by kernel_rfl) Try.func14 (by kernel_rfl)
    (of_decide_eq_true (by kernel_rfl)) (by unfold Func.isWrapper; first | (rw [if_pos (by decide +kernel)]; kernel_rfl) | (rw [if_neg (by decide +kernel)]; exact ⟨rfl, rfl⟩))
    (fun os started H enc _ => lineOrders_lifted os started H enc)
theorem LineOrders_holds : Rows.LineOrdersSaid := lineOrders_over
end Go.Proofs.Ythoblhbdeamjmaa

