/- TurnLazy holds: for every world and all steps, the same steps return the same, with the same errors, in a lazy world and in one that is not, and settled both worlds are the same. No conditions. -/
import Derived.Test.YtmdpbfghjdljiaaGreatV42
import Derived.Test.YtmdpbfghjdljiaaGreatRows
import Derived.Test.YtmdpbfghjdljiaaGreatB1
import Derived.ProofKit
import Derived.OpenShut
import Derived.ChangeSame
import Derived.JoinedOf
namespace Go.Proofs.YtmdpbfghjdljiaaGreat
open Go Go.V Go.ChangeShapes Go.WideShapes Go.ChangeAt Go.RowKit Go.Deep
set_option maxRecDepth 100000 in
theorem turnLazy_lifted (os : Os) (started : os.Started) (H : Type) (enc : TypeId × Value → H) :
    ReturnsInHanded {} Tryz.checked os 13 .any (Rows.turnLazySpec.pre6 enc Tryz.prog Tryz.f13 Rows.turnLazyRow.domain false) (Rows.turnLazySpec.post enc Tryz.prog Tryz.f13 false true false false) := by
  refine returnsInHanded_of_change_sized (C := Tryz.checked) lOwn started (by kernel_rfl) Tryz.func13
    (ChangeSpec.witness6 (enc := enc) (C := Tryz.checked) false ⟨#[], #[.agg #[.bool false, .slice none 0 0, .slice none 0 0, .slice none 0 0, .int .i64 0, .int .i64 0, .int .i64 0, .int .i64 0]], []⟩ 8 (by kernel_rfl) (by kernel_rfl) (by kernel_rfl) (by kernel_rfl)) ?_
  intro W base args ds gs before hval0 hW hcnd hsz0 _
  have hval : ∀ (j : Nat) t v, Tryz.f13.params[j]? = some t → args[j]? = some v → Value.okWide Tryz.prog W .any base t v := hval0
  have hW' := hW
  obtain ⟨p, q, hA0, hV, rfl, hfz, hnd⟩ := hW
  have hA : DataW.TrodAll enc Tryz.prog W 0 (fun _ => true) true Tryz.f13.params.toList args.toList ds p := hA0
  have hA1 := hA
  have hsz : (DataW.weightsEach Tryz.prog (Tryz.f13.params.toList ++ Rows.turnLazySpec.plain.varTypes Tryz.prog) (ds ++ gs)).all (· ≤ reachBytes) = true := hsz0
  rw [Tryz.params13] at hA hval hsz
  obtain ⟨v0, vs0, d0, ds0, p0, q0, hargs, rfl, rfl, h0, r0⟩ := trodAll_cons hA
  obtain ⟨rfl, rfl, rfl⟩ := trodAll_nil r0
  obtain rfl : args = #[v0] := by cases args; simp_all
  obtain ⟨rfl, rfl⟩ := trodVars_none hV
  have l0 : Light Tryz.prog 28 d0 := fun q hq => by simpa using List.all_eq_true.1 hsz q (mem_each (i := 0) rfl rfl hq)
  obtain ⟨c0, rfl, _⟩ := okWide_struct Tryz.underlying28 (hval 0 28 v0 rfl rfl)
  obtain ⟨⟨⟨a0, b0, t0⟩, s0, u0, x0, y0, z0⟩, g0, m0, n0⟩ := Rs.argS rGiv h0 l0
  have hv : VL (mAll W) W [] [.agg c0] [givA a0 b0 t0 s0 u0 x0 y0 z0] := ⟨g0, trivial⟩
  have hs := s_law17_TurnLazy a0 b0 t0 m0 s0 n0 u0 x0 y0 z0
  have hts : ∀ t ∈ Tryz.f13.params.toList, Tryz.prog.readableRec t = true ∧ t < Tryz.prog.types.size := by rw [Tryz.params13]; decide +kernel
  have hres : Tryz.f13.resultTypes = #[4] := by kernel_rfl
  have := law_calls (f := 13) (s := Rows.turnLazySpec) (fn := Tryz.f13) (vs := [.agg c0]) hs lLaid Tryz.underlying4 hres hW' hA1 rfl rfl rfl rfl rfl hts hv
  exact this
theorem turnLazy_named : Tryz.checked.prog.funcNamed Rows.turnLazyRow.func = some 13 := by kernel_rfl
set_option maxHeartbeats 40000000 in
theorem turnLazy_closed : joinedFacts Tryz.checked.prog 13 Tryz.f13 Rows.turnLazySpec Rows.turnLazyRow = true := by
  unfold joinedFacts
  repeat' (with_reducible apply and_tt)
  all_goals as_aux_lemma => kernel_rfl
theorem turnLazy_inst : Tryz.f13.isInstance Tryz.checked.prog Rows.turnLazyRow.origin Rows.turnLazyRow.targs := of_decide_eq_true (by kernel_rfl)
theorem turnLazy_wrap : Tryz.f13.isWrapper Tryz.checked.prog Rows.turnLazyRow.wrapper Rows.turnLazyRow.mainSum := by unfold Func.isWrapper; first | (rw [if_pos (by decide +kernel)]; kernel_rfl) | (rw [if_neg (by decide +kernel)]; exact ⟨rfl, rfl⟩)
theorem turnLazy_over : Rows.turnLazyRow.holds Tryz.pinned (OpenSpec.ofChange Rows.turnLazySpec) :=
  OpenClaim.holds_of_wide 13 Tryz.f13 rfl rfl rfl rfl rfl rfl rfl ⟨rfl, rfl, rfl, rfl, rfl⟩ rfl rfl rfl rfl rfl turnLazy_named Tryz.func13 turnLazy_closed turnLazy_inst turnLazy_wrap
    (fun os started H enc _ => turnLazy_lifted os started H enc)
theorem TurnLazy_holds : Rows.TurnLazySaid := turnLazy_over
end Go.Proofs.YtmdpbfghjdljiaaGreat

