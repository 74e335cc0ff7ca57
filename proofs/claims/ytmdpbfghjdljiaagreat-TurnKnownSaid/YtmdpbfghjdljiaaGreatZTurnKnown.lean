/- The rest of the examples of chapter 17 hold: consortlaw17.TurnKnown answers true, and writes nothing that was there; no conditions. -/
import Derived.Test.YtmdpbfghjdljiaaGreatQ34
import Derived.Test.YtmdpbfghjdljiaaGreatRows
import Derived.Test.YtmdpbfghjdljiaaGreatQ35
import Derived.ProofKit
import Derived.OpenShut
import Derived.ChangeSame
import Derived.JoinedOf
namespace Go.Proofs.YtmdpbfghjdljiaaGreat
open Go Go.V Go.ChangeShapes Go.WideShapes Go.ChangeAt Go.RowKit Go.Deep
set_option maxRecDepth 100000 in
theorem turnKnown_lifted (os:Os) (started:os.Started) (H:Type) (enc:TypeId × Value→H) :
  ReturnsInHanded {} Tryz.checked os 9 .any (Rows.turnKnownSpec.pre6 enc Tryz.prog Tryz.f9 Rows.turnKnownRow.domain false) (Rows.turnKnownSpec.post enc Tryz.prog Tryz.f9 false true false false):=by
 refine returnsInHanded_of_change_sized (C:=Tryz.checked) lOwn started (by kernel_rfl) Tryz.func9
  (ChangeSpec.witness6 (enc:=enc) (C:=Tryz.checked) false ⟨#[],#[],[]⟩ 8 (by kernel_rfl) (by kernel_rfl) (by kernel_rfl) (by kernel_rfl)) ?_
 intro W base args ds gs before hval0 hW hcnd hsz0 _
 have hval:∀ (j:Nat) t v,Tryz.f9.params[j]?=some t→args[j]?=some v→Value.okWide Tryz.prog W .any base t v:=hval0
 have hW':=hW
 obtain ⟨p,q,hA0,hV,rfl,hfz,hnd⟩:=hW
 have hA:DataW.TrodAll enc Tryz.prog W 0 (fun _=>true) true Tryz.f9.params.toList args.toList ds p:=hA0
 have hA1:=hA
 have hsz:(DataW.weightsEach Tryz.prog (Tryz.f9.params.toList++Rows.turnKnownSpec.plain.varTypes Tryz.prog) (ds++gs)).all (·≤reachBytes)=true:=hsz0
 rw [Tryz.params9] at hA hval hsz
 obtain ⟨hargs,rfl,rfl⟩:=trodAll_nil hA
 obtain rfl:args=#[]:=by cases args;simp_all
 obtain ⟨rfl,rfl⟩:=trodVars_none hV
 have hv:VL (mAll W) W [] [] []:=trivial
 have hs:=s_law17_TurnKnown
 have hts:∀ t∈Tryz.f9.params.toList,Tryz.prog.readableRec t=true∧t < Tryz.prog.types.size:=by rw [Tryz.params9];decide +kernel
 have hres:Tryz.f9.resultTypes=#[4]:=by kernel_rfl
 have:=law_calls (f:=9) (s:=Rows.turnKnownSpec) (fn:=Tryz.f9) (vs:=[]) hs lLaid Tryz.underlying4 hres hW' hA1 rfl rfl rfl rfl rfl hts hv
 exact this
theorem turnKnown_named:Tryz.checked.prog.funcNamed Rows.turnKnownRow.func=some 9:=by kernel_rfl
set_option maxHeartbeats 40000000 in
theorem turnKnown_closed:joinedFacts Tryz.checked.prog 9 Tryz.f9 Rows.turnKnownSpec Rows.turnKnownRow=true:=by
 unfold joinedFacts
 repeat' (with_reducible apply and_tt)
 all_goals as_aux_lemma=>kernel_rfl
theorem turnKnown_inst:Tryz.f9.isInstance Tryz.checked.prog Rows.turnKnownRow.origin Rows.turnKnownRow.targs:=of_decide_eq_true (by kernel_rfl)
theorem turnKnown_wrap:Tryz.f9.isWrapper Tryz.checked.prog Rows.turnKnownRow.wrapper Rows.turnKnownRow.mainSum:=by unfold Func.isWrapper;first|(rw [if_pos (by decide +kernel)];kernel_rfl)|(rw [if_neg (by decide +kernel)];exact ⟨rfl,rfl⟩)
theorem turnKnown_over:Rows.turnKnownRow.holds Tryz.pinned (OpenSpec.ofChange Rows.turnKnownSpec):=
 OpenClaim.holds_of_wide 9 Tryz.f9 rfl rfl rfl rfl rfl rfl rfl ⟨rfl,rfl,rfl,rfl,rfl⟩ rfl rfl rfl rfl rfl turnKnown_named Tryz.func9 turnKnown_closed turnKnown_inst turnKnown_wrap
  (fun os started H enc _=>turnKnown_lifted os started H enc)
theorem TurnKnown_holds:Rows.TurnKnownSaid:=turnKnown_over
end Go.Proofs.YtmdpbfghjdljiaaGreat

