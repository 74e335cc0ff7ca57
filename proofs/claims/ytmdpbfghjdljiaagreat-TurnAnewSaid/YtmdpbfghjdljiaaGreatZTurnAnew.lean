/- TurnAnew holds: for every world, object, slot and all steps, a slot keeps its value just as long as the class has it, else it begins anew. No conditions. -/
import Derived.Test.YtmdpbfghjdljiaaGreatV42
import Derived.Test.YtmdpbfghjdljiaaGreatRows
import Derived.Test.YtmdpbfghjdljiaaGreatF1
import Derived.ProofKit
import Derived.OpenShut
import Derived.ChangeSame
import Derived.JoinedOf
namespace Go.Proofs.YtmdpbfghjdljiaaGreat
open Go Go.V Go.ChangeShapes Go.WideShapes Go.ChangeAt Go.RowKit Go.Deep
set_option maxRecDepth 100000 in
theorem turnAnew_lifted (os : Os) (started : os.Started) (H : Type) (enc : TypeId × Value → H) :
    ReturnsInHanded {} Tryz.checked os 6 .any (Rows.turnAnewSpec.pre6 enc Tryz.prog Tryz.f6 Rows.turnAnewRow.domain false) (Rows.turnAnewSpec.post enc Tryz.prog Tryz.f6 false true false false) := by
  refine returnsInHanded_of_change_sized (C := Tryz.checked) lOwn started (by kernel_rfl) Tryz.func6
    (ChangeSpec.witness6 (enc := enc) (C := Tryz.checked) false ⟨#[], #[.agg #[.bool false, .slice none 0 0, .slice none 0 0, .slice none 0 0, .int .i64 0, .int .i64 0, .int .i64 0, .int .i64 0], .int .i64 0], []⟩ 8 (by kernel_rfl) (by kernel_rfl) (by kernel_rfl) (by kernel_rfl)) ?_
  intro W base args ds gs before hval0 hW hcnd hsz0 _
  have hval : ∀ (j : Nat) t v, Tryz.f6.params[j]? = some t → args[j]? = some v → Value.okWide Tryz.prog W .any base t v := hval0
  have hW' := hW
  obtain ⟨p, q, hA0, hV, rfl, hfz, hnd⟩ := hW
  have hA : DataW.TrodAll enc Tryz.prog W 0 (fun _ => true) true Tryz.f6.params.toList args.toList ds p := hA0
  have hA1 := hA
  have hsz : (DataW.weightsEach Tryz.prog (Tryz.f6.params.toList ++ Rows.turnAnewSpec.plain.varTypes Tryz.prog) (ds ++ gs)).all (· ≤ reachBytes) = true := hsz0
  rw [Tryz.params6] at hA hval hsz
  obtain ⟨v0, vs0, d0, ds0, p0, q0, hargs, rfl, rfl, h0, r0⟩ := trodAll_cons hA
  obtain ⟨v1, vs1, d1, ds1, p1, q1, rfl, rfl, rfl, h1, r1⟩ := trodAll_cons r0
  obtain ⟨rfl, rfl, rfl⟩ := trodAll_nil r1
  obtain rfl : args = #[v0, v1] := by cases args; simp_all
  obtain ⟨rfl, rfl⟩ := trodVars_none hV
  have l0 : Light Tryz.prog 28 d0 := fun q hq => by simpa using List.all_eq_true.1 hsz q (mem_each (i := 0) rfl rfl hq)
  obtain ⟨c0, rfl, _⟩ := okWide_struct Tryz.underlying28 (hval 0 28 v0 rfl rfl)
  obtain ⟨⟨⟨a0, b0, t0⟩, s0, u0, x0, y0, z0⟩, g0, m0, n0⟩ := Rs.argS rGiv h0 l0
  obtain ⟨x1, rfl, rfl, rfl, w1⟩ := open_int Tryz.underlying3 (hval 1 3 v1 rfl rfl) h1
  have hv : VL (mAll W) W [] [.agg c0, .int .i64 x1] [givA a0 b0 t0 s0 u0 x0 y0 z0, V.int x1] := ⟨g0, .raw rfl, trivial⟩
  have hs := s_law17_TurnAnew a0 b0 t0 m0 s0 n0 u0 x0 y0 z0 x1
  have hts : ∀ t ∈ Tryz.f6.params.toList, Tryz.prog.readableRec t = true ∧ t < Tryz.prog.types.size := by rw [Tryz.params6]; decide +kernel
  have hres : Tryz.f6.resultTypes = #[4] := by kernel_rfl
  have := law_calls (f := 6) (s := Rows.turnAnewSpec) (fn := Tryz.f6) (vs := [.agg c0, .int .i64 x1]) hs lLaid Tryz.underlying4 hres hW' hA1 rfl rfl rfl rfl rfl hts hv
  exact this
theorem turnAnew_named : Tryz.checked.prog.funcNamed Rows.turnAnewRow.func = some 6 := by kernel_rfl
set_option maxHeartbeats 40000000 in
theorem turnAnew_closed : joinedFacts Tryz.checked.prog 6 Tryz.f6 Rows.turnAnewSpec Rows.turnAnewRow = true := by
  unfold joinedFacts
  repeat' (with_reducible apply and_tt)
  all_goals as_aux_lemma => kernel_rfl
theorem turnAnew_inst : Tryz.f6.isInstance Tryz.checked.prog Rows.turnAnewRow.origin Rows.turnAnewRow.targs := of_decide_eq_true (by kernel_rfl)
theorem turnAnew_wrap : Tryz.f6.isWrapper Tryz.checked.prog Rows.turnAnewRow.wrapper Rows.turnAnewRow.mainSum := by unfold Func.isWrapper; first | (rw [if_pos (by decide +kernel)]; kernel_rfl) | (rw [if_neg (by decide +kernel)]; exact ⟨rfl, rfl⟩)
theorem turnAnew_over : Rows.turnAnewRow.holds Tryz.pinned (OpenSpec.ofChange Rows.turnAnewSpec) :=
  OpenClaim.holds_of_wide 6 Tryz.f6 rfl rfl rfl rfl rfl rfl rfl ⟨rfl, rfl, rfl, rfl, rfl⟩ rfl rfl rfl rfl rfl turnAnew_named Tryz.func6 turnAnew_closed turnAnew_inst turnAnew_wrap
    (fun os started H enc _ => turnAnew_lifted os started H enc)
theorem TurnAnew_holds : Rows.TurnAnewSaid := turnAnew_over
end Go.Proofs.YtmdpbfghjdljiaaGreat

