/- TurnSteady holds: for every world and all steps, a class that is made anew changes no object that has nothing to do with it. No conditions. -/
import Derived.Test.YtmdpbfghjdljiaaGreatV42
import Derived.Test.YtmdpbfghjdljiaaGreatRows
import Derived.Test.YtmdpbfghjdljiaaGreatE1
import Derived.ProofKit
import Derived.OpenShut
import Derived.ChangeSame
import Derived.JoinedOf
namespace Go.Proofs.YtmdpbfghjdljiaaGreat
open Go Go.V Go.ChangeShapes Go.WideShapes Go.ChangeAt Go.RowKit Go.Deep
set_option maxRecDepth 100000 in
theorem turnSteady_lifted (os : Os) (started : os.Started) (H : Type) (enc : TypeId × Value → H) :
    ReturnsInHanded {} Tryz.checked os 12 .any (Rows.turnSteadySpec.pre6 enc Tryz.prog Tryz.f12 Rows.turnSteadyRow.domain false) (Rows.turnSteadySpec.post enc Tryz.prog Tryz.f12 false true false false) := by
  refine returnsInHanded_of_change_sized (C := Tryz.checked) lOwn started (by kernel_rfl) Tryz.func12
    (ChangeSpec.witness6 (enc := enc) (C := Tryz.checked) false ⟨#[], #[.agg #[.bool false, .slice none 0 0, .slice none 0 0, .slice none 0 0, .int .i64 0, .int .i64 0, .int .i64 0, .int .i64 0]], []⟩ 8 (by kernel_rfl) (by kernel_rfl) (by kernel_rfl) (by kernel_rfl)) ?_
  intro W base args ds gs before hval0 hW hcnd hsz0 _
  have hval : ∀ (j : Nat) t v, Tryz.f12.params[j]? = some t → args[j]? = some v → Value.okWide Tryz.prog W .any base t v := hval0
  have hW' := hW
  obtain ⟨p, q, hA0, hV, rfl, hfz, hnd⟩ := hW
  have hA : DataW.TrodAll enc Tryz.prog W 0 (fun _ => true) true Tryz.f12.params.toList args.toList ds p := hA0
  have hA1 := hA
  have hsz : (DataW.weightsEach Tryz.prog (Tryz.f12.params.toList ++ Rows.turnSteadySpec.plain.varTypes Tryz.prog) (ds ++ gs)).all (· ≤ reachBytes) = true := hsz0
  rw [Tryz.params12] at hA hval hsz
  obtain ⟨v0, vs0, d0, ds0, p0, q0, hargs, rfl, rfl, h0, r0⟩ := trodAll_cons hA
  obtain ⟨rfl, rfl, rfl⟩ := trodAll_nil r0
  obtain rfl : args = #[v0] := by cases args; simp_all
  obtain ⟨rfl, rfl⟩ := trodVars_none hV
  have l0 : Light Tryz.prog 28 d0 := fun q hq => by simpa using List.all_eq_true.1 hsz q (mem_each (i := 0) rfl rfl hq)
  obtain ⟨c0, rfl, _⟩ := okWide_struct Tryz.underlying28 (hval 0 28 v0 rfl rfl)
  obtain ⟨⟨⟨a0, b0, t0⟩, s0, u0, x0, y0, z0⟩, g0, m0, n0⟩ := Rs.argS rGiv h0 l0
  have hv : VL (mAll W) W [] [.agg c0] [givA a0 b0 t0 s0 u0 x0 y0 z0] := ⟨g0, trivial⟩
  have hs := s_law17_TurnSteady a0 b0 t0 m0 s0 n0 u0 x0 y0 z0
  have hts : ∀ t ∈ Tryz.f12.params.toList, Tryz.prog.readableRec t = true ∧ t < Tryz.prog.types.size := by rw [Tryz.params12]; decide +kernel
  have hres : Tryz.f12.resultTypes = #[4] := by kernel_rfl
  have := law_calls (f := 12) (s := Rows.turnSteadySpec) (fn := Tryz.f12) (vs := [.agg c0]) hs lLaid Tryz.underlying4 hres hW' hA1 rfl rfl rfl rfl rfl hts hv
  exact this
theorem turnSteady_named : Tryz.checked.prog.funcNamed Rows.turnSteadyRow.func = some 12 := by kernel_rfl
set_option maxHeartbeats 40000000 in
theorem turnSteady_closed : joinedFacts Tryz.checked.prog 12 Tryz.f12 Rows.turnSteadySpec Rows.turnSteadyRow = true := by
  unfold joinedFacts
  repeat' (with_reducible apply and_tt)
  all_goals as_aux_lemma => kernel_rfl
theorem turnSteady_inst : Tryz.f12.isInstance Tryz.checked.prog Rows.turnSteadyRow.origin Rows.turnSteadyRow.targs := of_decide_eq_true (by kernel_rfl)
theorem turnSteady_wrap : Tryz.f12.isWrapper Tryz.checked.prog Rows.turnSteadyRow.wrapper Rows.turnSteadyRow.mainSum := by unfold Func.isWrapper; first | (rw [if_pos (by decide +kernel)]; kernel_rfl) | (rw [if_neg (by decide +kernel)]; exact ⟨rfl, rfl⟩)
theorem turnSteady_over : Rows.turnSteadyRow.holds Tryz.pinned (OpenSpec.ofChange Rows.turnSteadySpec) :=
  OpenClaim.holds_of_wide 12 Tryz.f12 rfl rfl rfl rfl rfl rfl rfl ⟨rfl, rfl, rfl, rfl, rfl⟩ rfl rfl rfl rfl rfl turnSteady_named Tryz.func12 turnSteady_closed turnSteady_inst turnSteady_wrap
    (fun os started H enc _ => turnSteady_lifted os started H enc)
theorem TurnSteady_holds : Rows.TurnSteadySaid := turnSteady_over
end Go.Proofs.YtmdpbfghjdljiaaGreat

