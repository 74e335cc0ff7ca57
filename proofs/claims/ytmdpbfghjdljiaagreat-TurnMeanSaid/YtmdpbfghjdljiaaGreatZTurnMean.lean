/- TurnMean holds: for all programs, objects, and an object and a class by numbers. No conditions. -/
import Derived.Test.YtmdpbfghjdljiaaGreatQ34
import Derived.Test.YtmdpbfghjdljiaaGreatRows
import Derived.Test.YtmdpbfghjdljiaaGreatQ48
import Derived.ProofKit
import Derived.OpenShut
import Derived.ChangeSame
import Derived.JoinedOf
namespace Go.Proofs.YtmdpbfghjdljiaaGreat
open Go Go.V Go.ChangeShapes Go.WideShapes Go.ChangeAt Go.RowKit Go.Deep
set_option maxRecDepth 100000 in
theorem turnMean_lifted (os:Os) (started:os.Started) (H:Type) (enc:TypeId × Value→H) :
  ReturnsInHanded {} Tryz.checked os 15 .any (Rows.turnMeanSpec.pre6 enc Tryz.prog Tryz.f15 Rows.turnMeanRow.domain false) (Rows.turnMeanSpec.post enc Tryz.prog Tryz.f15 false true false false):=by
 refine returnsInHanded_of_change_sized (C:=Tryz.checked) lOwn started (by kernel_rfl) Tryz.func15
  (ChangeSpec.witness6 (enc:=enc) (C:=Tryz.checked) false ⟨#[],#[.agg #[.slice none 0 0,.int .i64 0,.slice none 0 0,.slice none 0 0,.slice none 0 0,.int .i64 0],.slice none 0 0,.int .u8 0,.int .u8 0],[]⟩ 8 (by kernel_rfl) (by kernel_rfl) (by kernel_rfl) (by kernel_rfl)) ?_
 intro W base args ds gs before hval0 hW hcnd hsz0 _
 have hval:∀ (j:Nat) t v,Tryz.f15.params[j]?=some t→args[j]?=some v→Value.okWide Tryz.prog W .any base t v:=hval0
 have hW':=hW
 obtain ⟨p,q,hA0,hV,rfl,hfz,hnd⟩:=hW
 have hA:DataW.TrodAll enc Tryz.prog W 0 (fun _=>true) true Tryz.f15.params.toList args.toList ds p:=hA0
 have hA1:=hA
 have hsz:(DataW.weightsEach Tryz.prog (Tryz.f15.params.toList++Rows.turnMeanSpec.plain.varTypes Tryz.prog) (ds++gs)).all (·≤reachBytes)=true:=hsz0
 rw [Tryz.params15] at hA hval hsz
 obtain ⟨v0,vs0,d0,ds0,p0,q0,hargs,rfl,rfl,h0,r0⟩:=trodAll_cons hA
 obtain ⟨v1,vs1,d1,ds1,p1,q1,rfl,rfl,rfl,h1,r1⟩:=trodAll_cons r0
 obtain ⟨v2,vs2,d2,ds2,p2,q2,rfl,rfl,rfl,h2,r2⟩:=trodAll_cons r1
 obtain ⟨v3,vs3,d3,ds3,p3,q3,rfl,rfl,rfl,h3,r3⟩:=trodAll_cons r2
 obtain ⟨rfl,rfl,rfl⟩:=trodAll_nil r3
 obtain rfl:args=#[v0,v1,v2,v3]:=by cases args;simp_all
 obtain ⟨rfl,rfl⟩:=trodVars_none hV
 have l0:Light Tryz.prog 89 d0:=fun q hq=>by simpa using List.all_eq_true.1 hsz q (mem_each (i:=0) rfl rfl hq)
 obtain ⟨c0,rfl,_⟩:=okWide_struct Tryz.underlying89 (hval 0 89 v0 rfl rfl)
 obtain ⟨x0,g0,m0⟩:=Rs.argS (g:=prgC) (pPrg rClss) h0 l0
 have l1:Light Tryz.prog 96 d1:=fun q hq=>by simpa using List.all_eq_true.1 hsz q (mem_each (i:=1) rfl rfl hq)
 obtain ⟨_,_,_,e1⟩:=okWide_slice Tryz.underlying96 (hval 1 96 v1 rfl rfl)
 obtain ⟨x1,g1,k1⟩:=Rs.arg1 rObs (by rw [e1];rfl) (fun _=>rfl) h1 l1
 obtain ⟨x2,rfl,rfl,rfl,w2⟩:=open_int Tryz.underlying5 (hval 2 5 v2 rfl rfl) h2
 obtain ⟨x3,rfl,rfl,rfl,w3⟩:=open_int Tryz.underlying5 (hval 3 5 v3 rfl rfl) h3
 have hv:VL (mAll W) W [] [.agg c0,v1,.int .u8 x2,.int .u8 x3] [prgA x0,obsA x1,u8v x2,u8v x3]:=⟨g0,g1,.raw rfl,.raw rfl,trivial⟩
 have hs:=Ct124 x0 m0.1 m0.2 x1 k1 x2 w2 x3 w3
 have hts:∀ t∈Tryz.f15.params.toList,Tryz.prog.readableRec t=true∧t < Tryz.prog.types.size:=by rw [Tryz.params15];decide +kernel
 have hres:Tryz.f15.resultTypes=#[4]:=by kernel_rfl
 have:=law_calls (f:=15) (s:=Rows.turnMeanSpec) (fn:=Tryz.f15) (vs:=[.agg c0,v1,.int .u8 x2,.int .u8 x3]) hs lLaid Tryz.underlying4 hres hW' hA1 rfl rfl rfl rfl rfl hts hv
 exact this
theorem turnMean_named:Tryz.checked.prog.funcNamed Rows.turnMeanRow.func=some 15:=by kernel_rfl
set_option maxHeartbeats 40000000 in
theorem turnMean_closed:joinedFacts Tryz.checked.prog 15 Tryz.f15 Rows.turnMeanSpec Rows.turnMeanRow=true:=by
 unfold joinedFacts
 repeat' (with_reducible apply and_tt)
 all_goals as_aux_lemma=>kernel_rfl
theorem turnMean_inst:Tryz.f15.isInstance Tryz.checked.prog Rows.turnMeanRow.origin Rows.turnMeanRow.targs:=of_decide_eq_true (by kernel_rfl)
theorem turnMean_wrap:Tryz.f15.isWrapper Tryz.checked.prog Rows.turnMeanRow.wrapper Rows.turnMeanRow.mainSum:=by unfold Func.isWrapper;first|(rw [if_pos (by decide +kernel)];kernel_rfl)|(rw [if_neg (by decide +kernel)];exact ⟨rfl,rfl⟩)
theorem turnMean_over:Rows.turnMeanRow.holds Tryz.pinned (OpenSpec.ofChange Rows.turnMeanSpec):=
 OpenClaim.holds_of_wide 15 Tryz.f15 rfl rfl rfl rfl rfl rfl rfl ⟨rfl,rfl,rfl,rfl,rfl⟩ rfl rfl rfl rfl rfl turnMean_named Tryz.func15 turnMean_closed turnMean_inst turnMean_wrap
  (fun os started H enc _=>turnMean_lifted os started H enc)
theorem TurnMean_holds:Rows.TurnMeanSaid:=turnMean_over
end Go.Proofs.YtmdpbfghjdljiaaGreat

