/- LineTurned holds: for every graph and numbers the program returns true: classes that are numbered otherwise have the same orders, and are below the same ones, but for the numbers. No conditions. -/
import Derived.Test.YthoblhbdeamjmaaW2
import Derived.Test.YthoblhbdeamjmaaQ2
namespace Go.Proofs.Ythoblhbdeamjmaa
open Go Go.V Go.ChangeShapes Go.WideShapes Go.ChangeAt Go.RowKit Go.Deep
set_option maxRecDepth 100000 in
theorem lineTurned_lifted (os : Os) (started : os.Started) (H : Type) (enc : TypeId × Value → H) :
    ReturnsInHanded {} Try.checked os 4 .any (Rows.lineTurnedSpec.pre6 enc Try.prog Try.f4 Rows.lineTurnedRow.domain false) (Rows.lineTurnedSpec.post enc Try.prog Try.f4 false true false false) := by
  refine returnsInHanded_of_change (C := Try.checked) lOwn started (by kernel_rfl) Try.func4
    (ChangeSpec.witness6 (enc := enc) (C := Try.checked) false ⟨#[], #[.slice none 0 0, .slice none 0 0], []⟩ 8 (by kernel_rfl) (by kernel_rfl) (by kernel_rfl) (by kernel_rfl)) ?_
  intro W base args ds gs before hval0 hW hcnd _
  have hval : ∀ (j : Nat) t v, Try.f4.params[j]? = some t → args[j]? = some v → Value.okWide Try.prog W .any base t v := hval0
  have hW' := hW
  obtain ⟨p, q, hA0, hV, rfl, hfz, hnd⟩ := hW
  have hA : DataW.TrodAll enc Try.prog W 0 (fun _ => true) true Try.f4.params.toList args.toList ds p := hA0
  have hA1 := hA
  rw [Try.params4] at hA hval
  obtain ⟨v0, vs0, d0, ds0, p0, q0, hargs, rfl, rfl, h0, r0⟩ := trodAll_cons hA
  obtain ⟨v1, vs1, d1, ds1, p1, q1, rfl, rfl, rfl, h1, r1⟩ := trodAll_cons r0
  obtain ⟨rfl, rfl, rfl⟩ := trodAll_nil r1
  obtain rfl : args = #[v0, v1] := by cases args; simp_all
  obtain ⟨rfl, rfl⟩ := trodVars_none hV
  obtain ⟨_, _, _, e0⟩ := okWide_slice Try.underlying22 (hval 0 22 v0 rfl rfl)
  obtain ⟨x0, g0, k0⟩ := Rd.arg (Rd.slice Try.underlying22 lCells25 (by decide) (Rd.slice Try.underlying25 lCells3 (by decide) (Rd.int Try.underlying3))) (by rw [e0]; rfl) (fun _ => rfl) h0
  obtain ⟨_, _, _, e1⟩ := okWide_slice Try.underlying31 (hval 1 31 v1 rfl rfl)
  obtain ⟨x1, g1, k1⟩ := Rd.arg (Rd.slice Try.underlying31 lCells5 (by decide) (Rd.int Try.underlying5)) (by rw [e1]; rfl) (fun _ => rfl) h1
  exact law_calls (f := 4) (fn := Try.f4) (vs := [v0, v1]) (s_law03_LineTurned x0 x1 (k1)) lLaid Try.underlying4 (by kernel_rfl) hW' hA1 rfl rfl rfl rfl rfl (by rw [Try.params4]; decide +kernel) ⟨g0, g1, trivial⟩
theorem lineTurned_over : Rows.lineTurnedRow.holds Try.pinned (OpenSpec.ofChange Rows.lineTurnedSpec) :=
  OpenClaim.holds_of_wide 4 Try.f4 rfl rfl rfl rfl rfl rfl rfl ⟨rfl, rfl, rfl, rfl, rfl⟩ rfl rfl rfl rfl rfl (by kernel_rfl) Try.func4 (by kernel_rfl)
    (of_decide_eq_true (by kernel_rfl)) (by unfold Func.isWrapper; first | (rw [if_pos (by decide +kernel)]; kernel_rfl) | (rw [if_neg (by decide +kernel)]; exact ⟨rfl, rfl⟩))
    (fun os started H enc _ => lineTurned_lifted os started H enc)
theorem LineTurned_holds : Rows.LineTurnedSaid := lineTurned_over
end Go.Proofs.Ythoblhbdeamjmaa
