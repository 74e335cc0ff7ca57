/- TurnSchemas holds: for all classes and all programs by numbers. No conditions. -/
import Derived.Test.YtmdpbfghjdljiaaGreatQ39
import Derived.Test.YtmdpbfghjdljiaaGreatRows
import Derived.Test.YtmdpbfghjdljiaaGreatQ52
import Derived.ProofKit
import Derived.OpenShut
import Derived.ChangeSame
import Derived.JoinedOf
namespace Go.Proofs.YtmdpbfghjdljiaaGreat
open Go Go.V Go.ChangeShapes Go.WideShapes Go.ChangeAt Go.RowKit Go.Deep
set_option maxRecDepth 100000 in
theorem turnSchemas_lifted (os:Os) (started:os.Started) (H:Type) (enc:TypeId × Value → H) :
  ReturnsInHanded {} Tryz.checked os 14 .any (Rows.turnSchemasSpec.pre6 enc Tryz.prog Tryz.f14 Rows.turnSchemasRow.domain false) (Rows.turnSchemasSpec.post enc Tryz.prog Tryz.f14 false true false false):=by
 refine returnsInHanded_of_change_sized (C:=Tryz.checked) lOwn started (by kernel_rfl) Tryz.func14
  (ChangeSpec.witness6 (enc:=enc) (C:=Tryz.checked) false ⟨#[],#[.slice none 0 0,.agg #[.slice none 0 0,.int .i64 0,.slice none 0 0,.slice none 0 0,.slice none 0 0,.int .i64 0]],[]⟩ 8 (by kernel_rfl) (by kernel_rfl) (by kernel_rfl) (by kernel_rfl)) ?_
 intro W base args ds gs before hval0 hW hcnd hsz0 _
 have hval:∀ (j:Nat) t v,Tryz.f14.params[j]? = some t → args[j]? = some v → Value.okWide Tryz.prog W .any base t v:=hval0
 have hW':=hW
 obtain ⟨p,q,hA0,hV,rfl,hfz,hnd⟩:=hW
 have hA:DataW.TrodAll enc Tryz.prog W 0 (fun _=>true) true Tryz.f14.params.toList args.toList ds p:=hA0
 have hA1:=hA
 have hsz:(DataW.weightsEach Tryz.prog (Tryz.f14.params.toList ++ Rows.turnSchemasSpec.plain.varTypes Tryz.prog) (ds ++ gs)).all (· ≤ reachBytes) = true:=hsz0
 rw [Tryz.params14] at hA hval hsz
 obtain ⟨v0,vs0,d0,ds0,p0,q0,hargs,rfl,rfl,h0,r0⟩:=trodAll_cons hA
 obtain ⟨v1,vs1,d1,ds1,p1,q1,rfl,rfl,rfl,h1,r1⟩:=trodAll_cons r0
 obtain ⟨rfl,rfl,rfl⟩:=trodAll_nil r1
 obtain rfl:args = #[v0,v1]:=by cases args; simp_all
 obtain ⟨rfl,rfl⟩:=trodVars_none hV
 have l0:Light Tryz.prog 59 d0:=fun q hq=>by simpa using List.all_eq_true.1 hsz q (mem_each (i:=0) rfl rfl hq)
 obtain ⟨_,_,_,e0⟩:=okWide_slice Tryz.underlying59 (hval 0 59 v0 rfl rfl)
 obtain ⟨x0,g0,k0⟩:=Rs.arg1 rClss (by rw [e0]; rfl) (fun _=>rfl) h0 l0
 have l1:Light Tryz.prog 89 d1:=fun q hq=>by simpa using List.all_eq_true.1 hsz q (mem_each (i:=1) rfl rfl hq)
 obtain ⟨c1,rfl,_⟩:=okWide_struct Tryz.underlying89 (hval 1 89 v1 rfl rfl)
 obtain ⟨x1,g1,m1⟩:=Rs.argS (g:=prgC) (pPrg rClss) h1 l1
 have hv:VL (mAll W) W [] [v0,.agg c1] [clssA x0,prgA x1]:=⟨g0,g1,trivial⟩
 have hs:=s_law17_TurnSchemas x0 k0 x1 m1.1 m1.2
 have hts:∀ t ∈ Tryz.f14.params.toList,Tryz.prog.readableRec t = true ∧ t < Tryz.prog.types.size:=by rw [Tryz.params14]; decide +kernel
 have hres:Tryz.f14.resultTypes = #[4]:=by kernel_rfl
 have:=law_calls (f:=14) (s:=Rows.turnSchemasSpec) (fn:=Tryz.f14) (vs:=[v0,.agg c1]) hs lLaid Tryz.underlying4 hres hW' hA1 rfl rfl rfl rfl rfl hts hv
 exact this
theorem turnSchemas_named:Tryz.checked.prog.funcNamed Rows.turnSchemasRow.func = some 14:=by kernel_rfl
set_option maxHeartbeats 40000000 in
theorem turnSchemas_closed:joinedFacts Tryz.checked.prog 14 Tryz.f14 Rows.turnSchemasSpec Rows.turnSchemasRow = true:=by
 unfold joinedFacts
 repeat' (with_reducible apply and_tt)
 all_goals as_aux_lemma=>kernel_rfl
theorem turnSchemas_inst:Tryz.f14.isInstance Tryz.checked.prog Rows.turnSchemasRow.origin Rows.turnSchemasRow.targs:=of_decide_eq_true (by kernel_rfl)
theorem turnSchemas_wrap:Tryz.f14.isWrapper Tryz.checked.prog Rows.turnSchemasRow.wrapper Rows.turnSchemasRow.mainSum:=by unfold Func.isWrapper; first | (rw [if_pos (by decide +kernel)]; kernel_rfl) | (rw [if_neg (by decide +kernel)]; exact ⟨rfl,rfl⟩)
theorem turnSchemas_over:Rows.turnSchemasRow.holds Tryz.pinned (OpenSpec.ofChange Rows.turnSchemasSpec):=
 OpenClaim.holds_of_wide 14 Tryz.f14 rfl rfl rfl rfl rfl rfl rfl ⟨rfl,rfl,rfl,rfl,rfl⟩ rfl rfl rfl rfl rfl turnSchemas_named Tryz.func14 turnSchemas_closed turnSchemas_inst turnSchemas_wrap
  (fun os started H enc _=>turnSchemas_lifted os started H enc)
theorem TurnSchemas_holds:Rows.TurnSchemasSaid:=turnSchemas_over
end Go.Proofs.YtmdpbfghjdljiaaGreat

