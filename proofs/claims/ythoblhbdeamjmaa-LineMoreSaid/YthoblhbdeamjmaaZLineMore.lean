/- LineMore holds: for every graph, parents and classes by numbers the program returns true: a graph with one more class has the same orders, below, and least common classes of all others. No conditions. -/
import Derived.Test.YthoblhbdeamjmaaW2
import Derived.Test.YthoblhbdeamjmaaC1
namespace Go.Proofs.Ythoblhbdeamjmaa
open Go Go.V Go.ChangeShapes Go.WideShapes Go.ChangeAt Go.RowKit Go.Deep
set_option maxRecDepth 100000 in
theorem lineMore_lifted (os : Os) (started : os.Started) (H : Type) (enc : TypeId × Value → H) :
    ReturnsInHanded {} Try.checked os 7 .any (Rows.lineMoreSpec.pre6 enc Try.prog Try.f7 Rows.lineMoreRow.domain false) (Rows.lineMoreSpec.post enc Try.prog Try.f7 false true false false) := by
  refine returnsInHanded_of_change (C := Try.checked) lOwn started (by kernel_rfl) Try.func7
    (ChangeSpec.witness6 (enc := enc) (C := Try.checked) false ⟨#[], #[.slice none 0 0, .slice none 0 0, .slice none 0 0], []⟩ 8 (by kernel_rfl) (by kernel_rfl) (by kernel_rfl) (by kernel_rfl)) ?_
  intro W base args ds gs before hval0 hW hcnd _
  have hval : ∀ (j : Nat) t v, Try.f7.params[j]? = some t → args[j]? = some v → Value.okWide Try.prog W .any base t v := hval0
  have hW' := hW
  obtain ⟨p, q, hA0, hV, rfl, hfz, hnd⟩ := hW
  have hA : DataW.TrodAll enc Try.prog W 0 (fun _ => true) true Try.f7.params.toList args.toList ds p := hA0
  have hA1 := hA
  rw [Try.params7] at hA hval
  obtain ⟨v0, vs0, d0, ds0, p0, q0, hargs, rfl, rfl, h0, r0⟩ := trodAll_cons hA
  obtain ⟨v1, vs1, d1, ds1, p1, q1, rfl, rfl, rfl, h1, r1⟩ := trodAll_cons r0
  obtain ⟨v2, vs2, d2, ds2, p2, q2, rfl, rfl, rfl, h2, r2⟩ := trodAll_cons r1
  obtain ⟨rfl, rfl, rfl⟩ := trodAll_nil r2
  obtain rfl : args = #[v0, v1, v2] := by cases args; simp_all
  obtain ⟨rfl, rfl⟩ := trodVars_none hV
  obtain ⟨_, _, _, e0⟩ := okWide_slice Try.underlying22 (hval 0 22 v0 rfl rfl)
  obtain ⟨x0, g0, k0⟩ := Rd.arg (Rd.slice Try.underlying22 lCells25 (by decide) (Rd.slice Try.underlying25 lCells3 (by decide) (Rd.int Try.underlying3))) (by rw [e0]; rfl) (fun _ => rfl) h0
  obtain ⟨_, _, _, e1⟩ := okWide_slice Try.underlying31 (hval 1 31 v1 rfl rfl)
  obtain ⟨x1, g1, k1⟩ := Rd.arg (Rd.slice Try.underlying31 lCells5 (by decide) (Rd.int Try.underlying5)) (by rw [e1]; rfl) (fun _ => rfl) h1
  obtain ⟨_, _, _, e2⟩ := okWide_slice Try.underlying31 (hval 2 31 v2 rfl rfl)
  obtain ⟨x2, g2, k2⟩ := Rd.arg (Rd.slice Try.underlying31 lCells5 (by decide) (Rd.int Try.underlying5)) (by rw [e2]; rfl) (fun _ => rfl) h2
  exact law_calls (f := 7) (fn := Try.f7) (vs := [v0, v1, v2]) (s_law03_LineMore x0 x1 x2 (k1) (k2)) lLaid Try.underlying4 (by kernel_rfl) hW' hA1 rfl rfl rfl rfl rfl (by rw [Try.params7]; decide +kernel) ⟨g0, g1, g2, trivial⟩
theorem lineMore_over : Rows.lineMoreRow.holds Try.pinned (OpenSpec.ofChange Rows.lineMoreSpec) :=
  OpenClaim.holds_of_wide 7 Try.f7 rfl rfl rfl rfl rfl rfl rfl ⟨rfl, rfl, rfl, rfl, rfl⟩ rfl rfl rfl rfl rfl (by kernel_rfl) Try.func7 (by kernel_rfl)
    (of_decide_eq_true (by kernel_rfl)) (by unfold Func.isWrapper; first | (rw [if_pos (by decide +kernel)]; kernel_rfl) | (rw [if_neg (by decide +kernel)]; exact ⟨rfl, rfl⟩))
    (fun os started H enc _ => lineMore_lifted os started H enc)
theorem LineMore_holds : Rows.LineMoreSaid := lineMore_over
end Go.Proofs.Ythoblhbdeamjmaa
