/- LineAgreed holds: for every graph, class, place and list of classes the program returns true: the linear order of a class agrees with it, and what is exchanged does not, if an order asked for it; a class has a ring or an order, never both. No conditions. -/
import Derived.Test.YthoblhbdeamjmaaW2
import Derived.Test.YthoblhbdeamjmaaF2
namespace Go.Proofs.Ythoblhbdeamjmaa
open Go Go.V Go.ChangeShapes Go.WideShapes Go.ChangeAt Go.RowKit Go.Deep
set_option maxRecDepth 100000 in
theorem lineAgreed_lifted (os : Os) (started : os.Started) (H : Type) (enc : TypeId × Value → H) :
    ReturnsInHanded {} Try.checked os 13 .any (Rows.lineAgreedSpec.pre6 enc Try.prog Try.f13 Rows.lineAgreedRow.domain false) (Rows.lineAgreedSpec.post enc Try.prog Try.f13 false true false false) := by
  refine returnsInHanded_of_change (C := Try.checked) lOwn started (by kernel_rfl) Try.func13
    (ChangeSpec.witness6 (enc := enc) (C := Try.checked) false ⟨#[], #[.slice none 0 0, .int .u8 0, .int .u8 0, .slice none 0 0], []⟩ 8 (by kernel_rfl) (by kernel_rfl) (by kernel_rfl) (by kernel_rfl)) ?_
  intro W base args ds gs before hval0 hW hcnd _
  have hval : ∀ (j : Nat) t v, Try.f13.params[j]? = some t → args[j]? = some v → Value.okWide Try.prog W .any base t v := hval0
  have hW' := hW
  obtain ⟨p, q, hA0, hV, rfl, hfz, hnd⟩ := hW
  have hA : DataW.TrodAll enc Try.prog W 0 (fun _ => true) true Try.f13.params.toList args.toList ds p := hA0
  have hA1 := hA
  rw [Try.params13] at hA hval
  obtain ⟨v0, vs0, d0, ds0, p0, q0, hargs, rfl, rfl, h0, r0⟩ := trodAll_cons hA
  obtain ⟨v1, vs1, d1, ds1, p1, q1, rfl, rfl, rfl, h1, r1⟩ := trodAll_cons r0
  obtain ⟨v2, vs2, d2, ds2, p2, q2, rfl, rfl, rfl, h2, r2⟩ := trodAll_cons r1
  obtain ⟨v3, vs3, d3, ds3, p3, q3, rfl, rfl, rfl, h3, r3⟩ := trodAll_cons r2
  obtain ⟨rfl, rfl, rfl⟩ := trodAll_nil r3
  obtain rfl : args = #[v0, v1, v2, v3] := by cases args; simp_all
  obtain ⟨rfl, rfl⟩ := trodVars_none hV
  obtain ⟨_, _, _, e0⟩ := okWide_slice Try.underlying22 (hval 0 22 v0 rfl rfl)
  obtain ⟨x0, g0, k0⟩ := Rd.arg (Rd.slice Try.underlying22 lCells25 (by decide) (Rd.slice Try.underlying25 lCells3 (by decide) (Rd.int Try.underlying3))) (by rw [e0]; rfl) (fun _ => rfl) h0
  obtain ⟨x1, rfl, rfl, rfl, w1⟩ := open_int Try.underlying5 (hval 1 5 v1 rfl rfl) h1
  obtain ⟨x2, rfl, rfl, rfl, w2⟩ := open_int Try.underlying5 (hval 2 5 v2 rfl rfl) h2
  obtain ⟨_, _, _, e3⟩ := okWide_slice Try.underlying25 (hval 3 25 v3 rfl rfl)
  obtain ⟨x3, g3, k3⟩ := Rd.arg (Rd.slice Try.underlying25 lCells3 (by decide) (Rd.int Try.underlying3)) (by rw [e3]; rfl) (fun _ => rfl) h3
  exact law_calls (f := 13) (fn := Try.f13) (vs := [v0, .int .u8 x1, .int .u8 x2, v3]) (s_law03_LineAgreed x0 x1 x2 x3 (w1) (w2)) lLaid Try.underlying4 (by kernel_rfl) hW' hA1 rfl rfl rfl rfl rfl (by rw [Try.params13]; decide +kernel) ⟨g0, .raw rfl, .raw rfl, g3, trivial⟩
theorem lineAgreed_over : Rows.lineAgreedRow.holds Try.pinned (OpenSpec.ofChange Rows.lineAgreedSpec) :=
  OpenClaim.holds_of_wide 13 Try.f13 rfl rfl rfl rfl rfl rfl rfl ⟨rfl, rfl, rfl, rfl, rfl⟩ rfl rfl rfl rfl rfl (by kernel_rfl) Try.func13 (by kernel_rfl)
    (of_decide_eq_true (by kernel_rfl)) (by unfold Func.isWrapper; first | (rw [if_pos (by decide +kernel)]; kernel_rfl) | (rw [if_neg (by decide +kernel)]; exact ⟨rfl, rfl⟩))
    (fun os started H enc _ => lineAgreed_lifted os started H enc)
theorem LineAgreed_holds : Rows.LineAgreedSaid := lineAgreed_over
end Go.Proofs.Ythoblhbdeamjmaa
