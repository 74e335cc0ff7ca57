/- TurnChecks holds: which worlds are formed, and how they start, is as the document says. No conditions. -/
import Derived.Test.YtmdpbfghjdljiaaGreatV42
import Derived.Test.YtmdpbfghjdljiaaGreatRows
import Derived.Test.YtmdpbfghjdljiaaGreatV40
import Derived.ProofKit
import Derived.OpenShut
import Derived.ChangeSame
import Derived.JoinedOf
namespace Go.Proofs.YtmdpbfghjdljiaaGreat
open Go Go.V Go.ChangeShapes Go.WideShapes Go.ChangeAt Go.RowKit Go.Deep
set_option maxRecDepth 100000 in
theorem turnChecks_lifted (os : Os) (started : os.Started) (H : Type) (enc : TypeId × Value → H) :
    ReturnsInHanded {} Tryz.checked os 7 .any (Rows.turnChecksSpec.pre6 enc Tryz.prog Tryz.f7 Rows.turnChecksRow.domain false) (Rows.turnChecksSpec.post enc Tryz.prog Tryz.f7 false true false false) := by
  refine returnsInHanded_of_change_sized (C := Tryz.checked) lOwn started (by kernel_rfl) Tryz.func7
    (ChangeSpec.witness6 (enc := enc) (C := Tryz.checked) false ⟨#[], #[.agg #[.bool false, .slice none 0 0, .slice none 0 0], .slice none 0 0, .bool false], []⟩ 8 (by kernel_rfl) (by kernel_rfl) (by kernel_rfl) (by kernel_rfl)) ?_
  intro W base args ds gs before hval0 hW hcnd hsz0 _
  have hval : ∀ (j : Nat) t v, Tryz.f7.params[j]? = some t → args[j]? = some v → Value.okWide Tryz.prog W .any base t v := hval0
  have hW' := hW
  obtain ⟨p, q, hA0, hV, rfl, hfz, hnd⟩ := hW
  have hA : DataW.TrodAll enc Tryz.prog W 0 (fun _ => true) true Tryz.f7.params.toList args.toList ds p := hA0
  have hA1 := hA
  have hsz : (DataW.weightsEach Tryz.prog (Tryz.f7.params.toList ++ Rows.turnChecksSpec.plain.varTypes Tryz.prog) (ds ++ gs)).all (· ≤ reachBytes) = true := hsz0
  rw [Tryz.params7] at hA hval hsz
  obtain ⟨v0, vs0, d0, ds0, p0, q0, hargs, rfl, rfl, h0, r0⟩ := trodAll_cons hA
  obtain ⟨v1, vs1, d1, ds1, p1, q1, rfl, rfl, rfl, h1, r1⟩ := trodAll_cons r0
  obtain ⟨v2, vs2, d2, ds2, p2, q2, rfl, rfl, rfl, h2, r2⟩ := trodAll_cons r1
  obtain ⟨rfl, rfl, rfl⟩ := trodAll_nil r2
  obtain rfl : args = #[v0, v1, v2] := by cases args; simp_all
  obtain ⟨rfl, rfl⟩ := trodVars_none hV
  have l0 : Light Tryz.prog 25 d0 := fun q hq => by simpa using List.all_eq_true.1 hsz q (mem_each (i := 0) rfl rfl hq)
  obtain ⟨c0, rfl, _⟩ := okWide_struct Tryz.underlying25 (hval 0 25 v0 rfl rfl)
  obtain ⟨⟨a0, b0, t0⟩, g0, m0⟩ := Rs.argS rWld h0 l0
  have l1 : Light Tryz.prog 59 d1 := fun q hq => by simpa using List.all_eq_true.1 hsz q (mem_each (i := 1) rfl rfl hq)
  obtain ⟨_, _, _, e1⟩ := okWide_slice Tryz.underlying59 (hval 1 59 v1 rfl rfl)
  obtain ⟨x1, g1, k1⟩ := Rs.arg1 rClss (by rw [e1]; rfl) (fun _ => rfl) h1 l1
  obtain ⟨x2, rfl, rfl, rfl⟩ := open_bool Tryz.underlying4 (hval 2 4 v2 rfl rfl) h2
  have hv : VL (mAll W) W [] [.agg c0, v1, .bool x2] [wlA a0 b0 t0, clssA x1, V.bool x2] := ⟨g0, g1, .raw rfl, trivial⟩
  have hs := s_law17_TurnChecks a0 b0 t0 m0 x1 k1 x2
  have hts : ∀ t ∈ Tryz.f7.params.toList, Tryz.prog.readableRec t = true ∧ t < Tryz.prog.types.size := by rw [Tryz.params7]; decide +kernel
  have hres : Tryz.f7.resultTypes = #[4] := by kernel_rfl
  have := law_calls (f := 7) (s := Rows.turnChecksSpec) (fn := Tryz.f7) (vs := [.agg c0, v1, .bool x2]) hs lLaid Tryz.underlying4 hres hW' hA1 rfl rfl rfl rfl rfl hts hv
  exact this
theorem turnChecks_named : Tryz.checked.prog.funcNamed Rows.turnChecksRow.func = some 7 := by kernel_rfl
set_option maxHeartbeats 40000000 in
theorem turnChecks_closed : joinedFacts Tryz.checked.prog 7 Tryz.f7 Rows.turnChecksSpec Rows.turnChecksRow = true := by
  unfold joinedFacts
  repeat' (with_reducible apply and_tt)
  all_goals as_aux_lemma => kernel_rfl
theorem turnChecks_inst : Tryz.f7.isInstance Tryz.checked.prog Rows.turnChecksRow.origin Rows.turnChecksRow.targs := of_decide_eq_true (by kernel_rfl)
theorem turnChecks_wrap : Tryz.f7.isWrapper Tryz.checked.prog Rows.turnChecksRow.wrapper Rows.turnChecksRow.mainSum := by unfold Func.isWrapper; first | (rw [if_pos (by decide +kernel)]; kernel_rfl) | (rw [if_neg (by decide +kernel)]; exact ⟨rfl, rfl⟩)
theorem turnChecks_over : Rows.turnChecksRow.holds Tryz.pinned (OpenSpec.ofChange Rows.turnChecksSpec) :=
  OpenClaim.holds_of_wide 7 Tryz.f7 rfl rfl rfl rfl rfl rfl rfl ⟨rfl, rfl, rfl, rfl, rfl⟩ rfl rfl rfl rfl rfl turnChecks_named Tryz.func7 turnChecks_closed turnChecks_inst turnChecks_wrap
    (fun os started H enc _ => turnChecks_lifted os started H enc)
theorem TurnChecks_holds : Rows.TurnChecksSaid := turnChecks_over
end Go.Proofs.YtmdpbfghjdljiaaGreat

