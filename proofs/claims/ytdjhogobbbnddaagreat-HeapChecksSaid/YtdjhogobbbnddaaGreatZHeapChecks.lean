/- HeapChecks holds: for all programs by numbers, all heaps and all classes. No conditions. -/
import Derived.Test.YtdjhogobbbnddaaGreatQ37
import Derived.Test.YtdjhogobbbnddaaGreatRows
import Derived.Test.YtdjhogobbbnddaaGreatQC60
import Derived.ProofKit
import Derived.OpenShut
import Derived.ChangeSame
import Derived.JoinedOf
namespace Go.Proofs.YtdjhogobbbnddaaGreat
open Go Go.V Go.ChangeShapes Go.WideShapes Go.ChangeAt Go.RowKit Go.Deep
set_option maxRecDepth 100000 in
theorem YfH (os:Os) (started:os.Started) (H:Type) (enc:TypeId × Value→H) :
  ReturnsInHanded {} Tryz.checked os 12 .any (Rows.heapChecksSpec.pre6 enc Tryz.prog Tryz.f12 Rows.heapChecksRow.domain false) (Rows.heapChecksSpec.post enc Tryz.prog Tryz.f12 false true false false):=by
 refine returnsInHanded_of_change_sized (C:=Tryz.checked) YxB started (by kernel_rfl) Tryz.func12
  (ChangeSpec.witness6 (enc:=enc) (C:=Tryz.checked) false ⟨#[],#[.agg #[.slice none 0 0,.int .i64 0,.slice none 0 0,.slice none 0 0,.slice none 0 0,.int .i64 0],.agg #[.slice none 0 0],.int .i64 0],[]⟩ 8 (by kernel_rfl) (by kernel_rfl) (by kernel_rfl) (by kernel_rfl)) ?_
 intro W base args ds gs before hval0 hW hcnd hsz0 _;have hval:∀ (j:Nat) t v,Tryz.f12.params[j]?=some t→args[j]?=some v→Value.okWide Tryz.prog W .any base t v:=hval0;have hW':=hW;obtain ⟨p,q,hA0,hV,rfl,hfz,hnd⟩:=hW;have hA:DataW.TrodAll enc Tryz.prog W 0 (fun _=>true) true Tryz.f12.params.toList args.toList ds p:=hA0;have hA1:=hA;have hsz:(DataW.weightsEach Tryz.prog (Tryz.f12.params.toList++Rows.heapChecksSpec.plain.varTypes Tryz.prog) (ds++gs)).all (·≤reachBytes)=true:=hsz0;rw [Tryz.params12] at hA hval hsz;obtain ⟨v0,vs0,d0,ds0,p0,q0,hargs,rfl,rfl,h0,r0⟩:=trodAll_cons hA;obtain ⟨v1,vs1,d1,ds1,p1,q1,rfl,rfl,rfl,h1,r1⟩:=trodAll_cons r0;obtain ⟨v2,vs2,d2,ds2,p2,q2,rfl,rfl,rfl,h2,r2⟩:=trodAll_cons r1;obtain ⟨rfl,rfl,rfl⟩:=trodAll_nil r2;obtain rfl:args=#[v0,v1,v2]:=by cases args;simp_all
 obtain ⟨rfl,rfl⟩:=trodVars_none hV;have l0:YgC Tryz.prog 27 d0:=fun q hq=>by simpa using List.all_eq_true.1 hsz q (Ydx (i:=0) rfl rfl hq)
 obtain ⟨c0,rfl,_⟩:=okWide_struct Tryz.underlying27 (hval 0 27 v0 rfl rfl);obtain ⟨x0,g0,m0⟩:=Rs.argS (g:=YbB) YxK h0 l0;have l1:YgC Tryz.prog 30 d1:=fun q hq=>by simpa using List.all_eq_true.1 hsz q (Ydx (i:=1) rfl rfl hq)
 obtain ⟨c1,rfl,_⟩:=okWide_struct Tryz.underlying30 (hval 1 30 v1 rfl rfl);obtain ⟨x1,g1,m1⟩:=Rs.argS (g:=(fun l:List Int=>[ints l])) YwE h1 l1;obtain ⟨x2,rfl,rfl,rfl,w2⟩:=open_int Tryz.underlying3 (hval 2 3 v2 rfl rfl) h2;have hv:VL (YhS W) W [] [.agg c0,.agg c1,.int .i64 x2] [Ya0 x0,Yaw x1,V.int x2]:=⟨g0,g1,.raw rfl,trivial⟩;have hs:=Yfu x0 m0.1 m0.2 x1 m1.1 m1.2 x2;have hts:∀ t∈Tryz.f12.params.toList,Tryz.prog.readableRec t=true∧t < Tryz.prog.types.size:=by rw [Tryz.params12];decide +kernel
 have hres:Tryz.f12.resultTypes=#[4]:=by kernel_rfl
 have:=Ylq (f:=12) (s:=Rows.heapChecksSpec) (fn:=Tryz.f12) (vs:=[.agg c0,.agg c1,.int .i64 x2]) hs YuL Tryz.underlying4 hres hW' hA1 rfl rfl rfl rfl rfl hts hv
 exact this
theorem YgK:Tryz.checked.prog.funcNamed Rows.heapChecksRow.func=some 12:=by kernel_rfl
set_option maxHeartbeats 40000000 in
theorem Yf1:joinedFacts Tryz.checked.prog 12 Tryz.f12 Rows.heapChecksSpec Rows.heapChecksRow=true:=by
 unfold joinedFacts;repeat' (with_reducible apply YrQ)
 all_goals as_aux_lemma=>kernel_rfl
theorem Yg9:Tryz.f12.isInstance Tryz.checked.prog Rows.heapChecksRow.origin Rows.heapChecksRow.targs:=of_decide_eq_true (by kernel_rfl)
theorem YhJ:Tryz.f12.isWrapper Tryz.checked.prog Rows.heapChecksRow.wrapper Rows.heapChecksRow.mainSum:=by unfold Func.isWrapper;first|(rw [if_pos (by decide +kernel)];kernel_rfl)|(rw [if_neg (by decide +kernel)];exact ⟨rfl,rfl⟩)
theorem YgZ:Rows.heapChecksRow.holds Tryz.pinned (OpenSpec.ofChange Rows.heapChecksSpec):=
 OpenClaim.holds_of_wide 12 Tryz.f12 rfl rfl rfl rfl rfl rfl rfl ⟨rfl,rfl,rfl,rfl,rfl⟩ rfl rfl rfl rfl rfl YgK Tryz.func12 Yf1 Yg9 YhJ
  (fun os started H enc _=>YfH os started H enc)
theorem HeapChecks_holds:Rows.HeapChecksSaid:=YgZ
end Go.Proofs.YtdjhogobbbnddaaGreat
