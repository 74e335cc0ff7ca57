/- LineSpans holds: for every graph, list of classes, spans and position the program returns true: numberings, spans and positions in spans are as stated. No conditions. -/
import Derived.Test.YthoblhbdeamjmaaY1
namespace Go.Proofs.Ythoblhbdeamjmaa
open Go Go.V Go.ChangeShapes Go.WideShapes Go.ChangeAt Go.RowKit Go.Deep
set_option maxRecDepth 100000 in
theorem lineSpans_lifted (os : Os) (started : os.Started) (H : Type) (enc : TypeId × Value → H) :
    ReturnsInHanded {} Try.checked os 6 .any (Rows.lineSpansSpec.pre6 enc Try.prog Try.f6 Rows.lineSpansRow.domain false) (Rows.lineSpansSpec.post enc Try.prog Try.f6 false true false false) := by
  refine returnsInHanded_of_change (C := Try.checked) lOwn started (by kernel_rfl) Try.func6
    (ChangeSpec.witness6 (enc := enc) (C := Try.checked) false ⟨#[], #[.slice none 0 0, .slice none 0 0, .slice none 0 0, .int .i64 0], []⟩ 8 (by kernel_rfl) (by kernel_rfl) (by kernel_rfl) (by kernel_rfl)) ?_
  intro W base args ds gs before hval0 hW hcnd _
  have hval : ∀ (j : Nat) t v, Try.f6.params[j]? = some t → args[j]? = some v → Value.okWide Try.prog W .any base t v := hval0
  have hW' := hW
  obtain ⟨p, q, hA0, hV, rfl, hfz, hnd⟩ := hW
  have hA : DataW.TrodAll enc Try.prog W 0 (fun _ => true) true Try.f6.params.toList args.toList ds p := hA0
  have hA1 := hA
  rw [Try.params6] at hA hval
  obtain ⟨v0, vs0, d0, ds0, p0, q0, hargs, rfl, rfl, h0, r0⟩ := trodAll_cons hA
  obtain ⟨v1, vs1, d1, ds1, p1, q1, rfl, rfl, rfl, h1, r1⟩ := trodAll_cons r0
  obtain ⟨v2, vs2, d2, ds2, p2, q2, rfl, rfl, rfl, h2, r2⟩ := trodAll_cons r1
  obtain ⟨v3, vs3, d3, ds3, p3, q3, rfl, rfl, rfl, h3, r3⟩ := trodAll_cons r2
  obtain ⟨rfl, rfl, rfl⟩ := trodAll_nil r3
  obtain rfl : args = #[v0, v1, v2, v3] := by cases args; simp_all
  obtain ⟨rfl, rfl⟩ := trodVars_none hV
  obtain ⟨_, _, _, e0⟩ := okWide_slice Try.underlying22 (hval 0 22 v0 rfl rfl)
  obtain ⟨x0, g0, k0⟩ := Rd.arg (Rd.slice Try.underlying22 lCells25 (by decide) (Rd.slice Try.underlying25 lCells3 (by decide) (Rd.int Try.underlying3))) (by rw [e0]; rfl) (fun _ => rfl) h0
  obtain ⟨_, _, _, e1⟩ := okWide_slice Try.underlying25 (hval 1 25 v1 rfl rfl)
  obtain ⟨x1, g1, k1⟩ := Rd.arg (Rd.slice Try.underlying25 lCells3 (by decide) (Rd.int Try.underlying3)) (by rw [e1]; rfl) (fun _ => rfl) h1
  obtain ⟨_, _, _, e2⟩ := okWide_slice Try.underlying40 (hval 2 40 v2 rfl rfl)
  obtain ⟨x2, g2, k2⟩ := Rd.arg (Rd.slice Try.underlying40 lCells70 (by decide) lSpan) (by rw [e2]; rfl) (fun _ => rfl) h2
  obtain ⟨x3, rfl, rfl, rfl, w3⟩ := open_int Try.underlying3 (hval 3 3 v3 rfl rfl) h3
  exact law_calls (f := 6) (fn := Try.f6) (vs := [v0, v1, v2, .int .i64 x3]) (s_law03_LineSpans x0 x1 x2 x3) lLaid Try.underlying4 (by kernel_rfl) hW' hA1 rfl rfl rfl rfl rfl (by rw [Try.params6]; decide +kernel) ⟨g0, g1, g2, .raw rfl, trivial⟩
theorem lineSpans_over : Rows.lineSpansRow.holds Try.pinned (OpenSpec.ofChange Rows.lineSpansSpec) :=
  OpenClaim.holds_of_wide 6 Try.f6 rfl rfl rfl rfl rfl rfl rfl ⟨rfl, rfl, rfl, rfl, rfl⟩ rfl rfl rfl rfl rfl (by kernel_rfl) Try.func6 (by kernel_rfl)
    (of_decide_eq_true (by kernel_rfl)) (by unfold Func.isWrapper; first | (rw [if_pos (by decide +kernel)]; kernel_rfl) | (rw [if_neg (by decide +kernel)]; exact ⟨rfl, rfl⟩))
    (fun os started H enc _ => lineSpans_lifted os started H enc)
theorem LineSpans_holds : Rows.LineSpansSaid := lineSpans_over
end Go.Proofs.Ythoblhbdeamjmaa
