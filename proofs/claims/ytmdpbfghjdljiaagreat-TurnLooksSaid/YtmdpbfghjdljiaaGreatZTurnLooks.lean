/- TurnLooks holds: for every world and every number of an object, the object as it is when it is up to date, and the world in which all are, are as the document says, or the error. No conditions. -/
import Derived.Test.YtmdpbfghjdljiaaGreatV42
import Derived.Test.YtmdpbfghjdljiaaGreatRows
import Derived.Test.YtmdpbfghjdljiaaGreatA1
import Derived.ProofKit
import Derived.OpenShut
import Derived.ChangeSame
import Derived.JoinedOf
namespace Go.Proofs.YtmdpbfghjdljiaaGreat
open Go Go.V Go.ChangeShapes Go.WideShapes Go.ChangeAt Go.RowKit Go.Deep
set_option maxRecDepth 100000 in
theorem turnLooks_lifted (os : Os) (started : os.Started) (H : Type) (enc : TypeId × Value → H) :
    ReturnsInHanded {} Tryz.checked os 11 .any (Rows.turnLooksSpec.pre6 enc Tryz.prog Tryz.f11 Rows.turnLooksRow.domain false) (Rows.turnLooksSpec.post enc Tryz.prog Tryz.f11 false true false false) := by
  refine returnsInHanded_of_change_sized (C := Tryz.checked) lOwn started (by kernel_rfl) Tryz.func11
    (ChangeSpec.witness6 (enc := enc) (C := Tryz.checked) false ⟨#[], #[.agg #[.bool false, .slice none 0 0, .slice none 0 0, .slice none 0 0, .int .i64 0, .int .i64 0, .int .i64 0, .int .i64 0]], []⟩ 8 (by kernel_rfl) (by kernel_rfl) (by kernel_rfl) (by kernel_rfl)) ?_
  intro W base args ds gs before hval0 hW hcnd hsz0 _
  have hval : ∀ (j : Nat) t v, Tryz.f11.params[j]? = some t → args[j]? = some v → Value.okWide Tryz.prog W .any base t v := hval0
  have hW' := hW
  obtain ⟨p, q, hA0, hV, rfl, hfz, hnd⟩ := hW
  have hA : DataW.TrodAll enc Tryz.prog W 0 (fun _ => true) true Tryz.f11.params.toList args.toList ds p := hA0
  have hA1 := hA
  have hsz : (DataW.weightsEach Tryz.prog (Tryz.f11.params.toList ++ Rows.turnLooksSpec.plain.varTypes Tryz.prog) (ds ++ gs)).all (· ≤ reachBytes) = true := hsz0
  rw [Tryz.params11] at hA hval hsz
  obtain ⟨v0, vs0, d0, ds0, p0, q0, hargs, rfl, rfl, h0, r0⟩ := trodAll_cons hA
  obtain ⟨rfl, rfl, rfl⟩ := trodAll_nil r0
  obtain rfl : args = #[v0] := by cases args; simp_all
  obtain ⟨rfl, rfl⟩ := trodVars_none hV
  have l0 : Light Tryz.prog 28 d0 := fun q hq => by simpa using List.all_eq_true.1 hsz q (mem_each (i := 0) rfl rfl hq)
  obtain ⟨c0, rfl, _⟩ := okWide_struct Tryz.underlying28 (hval 0 28 v0 rfl rfl)
  obtain ⟨⟨⟨a0, b0, t0⟩, s0, u0, x0, y0, z0⟩, g0, m0, _⟩ := Rs.argS rGiv h0 l0
  have hv : VL (mAll W) W [] [.agg c0] [givA a0 b0 t0 s0 u0 x0 y0 z0] := ⟨g0, trivial⟩
  have hs := s_law17_TurnLooks a0 b0 t0 m0 s0 u0 x0 y0 z0
  have hts : ∀ t ∈ Tryz.f11.params.toList, Tryz.prog.readableRec t = true ∧ t < Tryz.prog.types.size := by rw [Tryz.params11]; decide +kernel
  have hres : Tryz.f11.resultTypes = #[4] := by kernel_rfl
  have := law_calls (f := 11) (s := Rows.turnLooksSpec) (fn := Tryz.f11) (vs := [.agg c0]) hs lLaid Tryz.underlying4 hres hW' hA1 rfl rfl rfl rfl rfl hts hv
  exact this
theorem turnLooks_named : Tryz.checked.prog.funcNamed Rows.turnLooksRow.func = some 11 := by kernel_rfl
set_option maxHeartbeats 40000000 in
theorem turnLooks_closed : joinedFacts Tryz.checked.prog 11 Tryz.f11 Rows.turnLooksSpec Rows.turnLooksRow = true := by
  unfold joinedFacts
  repeat' (with_reducible apply and_tt)
  all_goals as_aux_lemma => kernel_rfl
theorem turnLooks_inst : Tryz.f11.isInstance Tryz.checked.prog Rows.turnLooksRow.origin Rows.turnLooksRow.targs := of_decide_eq_true (by kernel_rfl)
theorem turnLooks_wrap : Tryz.f11.isWrapper Tryz.checked.prog Rows.turnLooksRow.wrapper Rows.turnLooksRow.mainSum := by unfold Func.isWrapper; first | (rw [if_pos (by decide +kernel)]; kernel_rfl) | (rw [if_neg (by decide +kernel)]; exact ⟨rfl, rfl⟩)
theorem turnLooks_over : Rows.turnLooksRow.holds Tryz.pinned (OpenSpec.ofChange Rows.turnLooksSpec) :=
  OpenClaim.holds_of_wide 11 Tryz.f11 rfl rfl rfl rfl rfl rfl rfl ⟨rfl, rfl, rfl, rfl, rfl⟩ rfl rfl rfl rfl rfl turnLooks_named Tryz.func11 turnLooks_closed turnLooks_inst turnLooks_wrap
    (fun os started H enc _ => turnLooks_lifted os started H enc)
theorem TurnLooks_holds : Rows.TurnLooksSaid := turnLooks_over
end Go.Proofs.YtmdpbfghjdljiaaGreat

