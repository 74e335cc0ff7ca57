/- HeapDoes holds: for all programs by numbers, all heaps, and all that is asked of them. No conditions. -/
import Derived.Test.YtdjhogobbbnddaaGreatD37
import Derived.Test.YtdjhogobbbnddaaGreatRows
import Derived.Test.YtdjhogobbbnddaaGreatD61
import Derived.ProofKit
import Derived.OpenShut
import Derived.ChangeSame
import Derived.JoinedOf
namespace Go.Proofs.YtdjhogobbbnddaaGreat
open Go Go.V Go.ChangeShapes Go.WideShapes Go.ChangeAt Go.RowKit Go.Deep
set_option maxRecDepth 100000 in
theorem Yzj (os:Os) (started:os.Started) (H:Type) (enc:TypeId × Value→H) :
  ReturnsInHanded {} Tryz.checked os 10 .any (Rows.heapDoesSpec.pre6 enc Tryz.prog Tryz.f10 Rows.heapDoesRow.domain false) (Rows.heapDoesSpec.post enc Tryz.prog Tryz.f10 false true false false):=by
 refine returnsInHanded_of_change_sized (C:=Tryz.checked) YxB started (by kernel_rfl) Tryz.func10
  (ChangeSpec.witness6 (enc:=enc) (C:=Tryz.checked) false ⟨#[],#[.agg #[.slice none 0 0,.int .i64 0,.slice none 0 0,.slice none 0 0,.slice none 0 0,.int .i64 0],.agg #[.slice none 0 0],.agg #[.int .i64 0,.int .i64 0,.int .i64 0,.int .i64 0]],[]⟩ 8 (by kernel_rfl) (by kernel_rfl) (by kernel_rfl) (by kernel_rfl)) ?_
 intro W base args ds gs before hval0 hW hcnd hsz0 _;have hval:∀ (j:Nat) t v,Tryz.f10.params[j]?=some t→args[j]?=some v→Value.okWide Tryz.prog W .any base t v:=hval0;have hW':=hW;obtain ⟨p,q,hA0,hV,rfl,hfz,hnd⟩:=hW;have hA:DataW.TrodAll enc Tryz.prog W 0 (fun _=>true) true Tryz.f10.params.toList args.toList ds p:=hA0;have hA1:=hA;have hsz:(DataW.weightsEach Tryz.prog (Tryz.f10.params.toList++Rows.heapDoesSpec.plain.varTypes Tryz.prog) (ds++gs)).all (·≤reachBytes)=true:=hsz0;rw [Tryz.params10] at hA hval hsz;obtain ⟨v0,vs0,d0,ds0,p0,q0,hargs,rfl,rfl,h0,r0⟩:=trodAll_cons hA;obtain ⟨v1,vs1,d1,ds1,p1,q1,rfl,rfl,rfl,h1,r1⟩:=trodAll_cons r0;obtain ⟨v2,vs2,d2,ds2,p2,q2,rfl,rfl,rfl,h2,r2⟩:=trodAll_cons r1;obtain ⟨rfl,rfl,rfl⟩:=trodAll_nil r2;obtain rfl:args=#[v0,v1,v2]:=by cases args;simp_all
 obtain ⟨rfl,rfl⟩:=trodVars_none hV;have l0:YgC Tryz.prog 27 d0:=fun q hq=>by simpa using List.all_eq_true.1 hsz q (Ydx (i:=0) rfl rfl hq)
 obtain ⟨c0,rfl,_⟩:=okWide_struct Tryz.underlying27 (hval 0 27 v0 rfl rfl);obtain ⟨x0,g0,m0⟩:=Rs.argS (g:=YbB) YxK h0 l0;have l1:YgC Tryz.prog 30 d1:=fun q hq=>by simpa using List.all_eq_true.1 hsz q (Ydx (i:=1) rfl rfl hq)
 obtain ⟨c1,rfl,_⟩:=okWide_struct Tryz.underlying30 (hval 1 30 v1 rfl rfl);obtain ⟨x1,g1,m1⟩:=Rs.argS (g:=(fun l:List Int=>[ints l])) YwE h1 l1;have l2:YgC Tryz.prog 65 d2:=fun q hq=>by simpa using List.all_eq_true.1 hsz q (Ydx (i:=2) rfl rfl hq)
 obtain ⟨c2,rfl,_⟩:=okWide_struct Tryz.underlying65 (hval 2 65 v2 rfl rfl);obtain ⟨x2,g2,m2⟩:=Rs.argS (g:=YBh) YBj h2 l2;have hv:VL (YhS W) W [] [.agg c0,.agg c1,.agg c2] [Ya0 x0,Yaw x1,YBg x2]:=⟨g0,g1,g2,trivial⟩;have hs:=Yy5 x0 m0.1 m0.2 x1 m1.1 m1.2 x2 m2.1 m2.2;have hts:∀ t∈Tryz.f10.params.toList,Tryz.prog.readableRec t=true∧t < Tryz.prog.types.size:=by rw [Tryz.params10];decide +kernel
 have hres:Tryz.f10.resultTypes=#[4]:=by kernel_rfl
 have:=Ylq (f:=10) (s:=Rows.heapDoesSpec) (fn:=Tryz.f10) (vs:=[.agg c0,.agg c1,.agg c2]) hs YuL Tryz.underlying4 hres hW' hA1 rfl rfl rfl rfl rfl hts hv
 exact this
theorem YzI:Tryz.checked.prog.funcNamed Rows.heapDoesRow.func=some 10:=by kernel_rfl
set_option maxHeartbeats 40000000 in
theorem Yzu:joinedFacts Tryz.checked.prog 10 Tryz.f10 Rows.heapDoesSpec Rows.heapDoesRow=true:=by
 unfold joinedFacts;repeat' (with_reducible apply YrQ)
 all_goals as_aux_lemma=>kernel_rfl
theorem Yz3:Tryz.f10.isInstance Tryz.checked.prog Rows.heapDoesRow.origin Rows.heapDoesRow.targs:=of_decide_eq_true (by kernel_rfl)
theorem Yz4:Tryz.f10.isWrapper Tryz.checked.prog Rows.heapDoesRow.wrapper Rows.heapDoesRow.mainSum:=by unfold Func.isWrapper;first|(rw [if_pos (by decide +kernel)];kernel_rfl)|(rw [if_neg (by decide +kernel)];exact ⟨rfl,rfl⟩)
theorem YzS:Rows.heapDoesRow.holds Tryz.pinned (OpenSpec.ofChange Rows.heapDoesSpec):=
 OpenClaim.holds_of_wide 10 Tryz.f10 rfl rfl rfl rfl rfl rfl rfl ⟨rfl,rfl,rfl,rfl,rfl⟩ rfl rfl rfl rfl rfl YzI Tryz.func10 Yzu Yz3 Yz4
  (fun os started H enc _=>Yzj os started H enc)
theorem HeapDoes_holds:Rows.HeapDoesSaid:=YzS
end Go.Proofs.YtdjhogobbbnddaaGreat
