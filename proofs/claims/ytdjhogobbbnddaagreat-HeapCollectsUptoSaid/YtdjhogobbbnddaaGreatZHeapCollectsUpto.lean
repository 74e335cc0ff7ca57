/- HeapCollects holds where its arguments are of bulk at most 1048576: for all such programs by numbers, heaps and words. No other conditions. -/
import Derived.Test.YtdjhogobbbnddaaGreatC37
import Derived.Test.YtdjhogobbbnddaaGreatRows
import Derived.Test.YtdjhogobbbnddaaGreatC61
import Derived.ProofKit
import Derived.OpenShut
import Derived.ChangeSame
import Derived.JoinedOf
import Derived.JoinedCond
import Derived.Deep.CondSized
namespace Go.Proofs.YtdjhogobbbnddaaGreat
open Go Go.V Go.ChangeShapes Go.WideShapes Go.ChangeAt Go.RowKit Go.Deep
set_option maxRecDepth 100000 in
theorem YyN (os:Os) (started:os.Started) (H:Type) (enc:TypeId × Value→H) (F:Stop.Interp) :
  ReturnsInHanded {} Tryz.checked os 5 .any ((Rows.OpenSpec.upto Rows.heapCollectsSpec).pre6 enc Tryz.prog Tryz.f5 Rows.heapCollectsUptoRow.domain false) (((Rows.OpenSpec.upto Rows.heapCollectsSpec).at F).post enc Tryz.prog Tryz.f5 false true false false):=by
 refine returnsInHanded_of_cond_sized (C:=Tryz.checked) (s:=Rows.OpenSpec.upto Rows.heapCollectsSpec) (k:=Rows.uptoSmall) rfl YxB started (by kernel_rfl) Tryz.func5
  (OpenSpec.witness (enc:=enc) (C:=Tryz.checked) (s:=Rows.OpenSpec.upto Rows.heapCollectsSpec) (k:=Rows.uptoSmall) rfl false ⟨#[],#[.agg #[.slice none 0 0,.int .i64 0,.slice none 0 0,.slice none 0 0,.slice none 0 0,.int .i64 0],.agg #[.slice none 0 0],.slice none 0 0],[]⟩ 8 (by kernel_rfl) (by kernel_rfl) (by kernel_rfl) (x:=([.agg [.nil,.lit (.int .i64 0),.nil,.nil,.nil,.lit (.int .i64 0)],.agg [.nil],.nil],[],[])) (by kernel_rfl) rfl (by kernel_rfl)) ?_
 intro W base args ds gs before hval0 hW hcnd hk hsz0 _;have hval:∀ (j:Nat) t v,Tryz.f5.params[j]?=some t→args[j]?=some v→Value.okWide Tryz.prog W .any base t v:=hval0;have hW':DataW.Whole enc Tryz.prog Tryz.f5.params.toList Rows.heapCollectsSpec.vars false W args.toList ds gs before:=hW;obtain ⟨p,q,hA0,hV,rfl,hfz,hnd⟩:=hW;have hA:DataW.TrodAll enc Tryz.prog W 0 (fun _=>true) true Tryz.f5.params.toList args.toList ds p:=hA0;have hA1:=hA;have hsz:(DataW.weightsEach Tryz.prog (Tryz.f5.params.toList++Rows.heapCollectsSpec.plain.varTypes Tryz.prog) (ds++gs)).all (·≤reachBytes)=true:=hsz0;have hbk:Rows.uptoBulkAll (ds++gs)≤1048576:=of_decide_eq_true hk;rw [Tryz.params5] at hA hval hsz;obtain ⟨v0,vs0,d0,ds0,p0,q0,hargs,rfl,rfl,h0,r0⟩:=trodAll_cons hA;obtain ⟨v1,vs1,d1,ds1,p1,q1,rfl,rfl,rfl,h1,r1⟩:=trodAll_cons r0;obtain ⟨v2,vs2,d2,ds2,p2,q2,rfl,rfl,rfl,h2,r2⟩:=trodAll_cons r1;obtain ⟨rfl,rfl,rfl⟩:=trodAll_nil r2;obtain rfl:args=#[v0,v1,v2]:=by cases args;simp_all
 obtain ⟨rfl,rfl⟩:=trodVars_none hV;have l0:YgC Tryz.prog 27 d0:=fun q hq=>by simpa using List.all_eq_true.1 hsz q (Ydx (i:=0) rfl rfl hq)
 obtain ⟨c0,rfl,_⟩:=okWide_struct Tryz.underlying27 (hval 0 27 v0 rfl rfl);obtain ⟨x0,g0,m0⟩:=Rs.argS (g:=YbB) YxK h0 l0;have l1:YgC Tryz.prog 30 d1:=fun q hq=>by simpa using List.all_eq_true.1 hsz q (Ydx (i:=1) rfl rfl hq)
 obtain ⟨c1,rfl,_⟩:=okWide_struct Tryz.underlying30 (hval 1 30 v1 rfl rfl);obtain ⟨x1,g1,m1⟩:=Rs.argS (g:=(fun l:List Int=>[ints l])) YwE h1 l1;have l2:YgC Tryz.prog 23 d2:=fun q hq=>by simpa using List.all_eq_true.1 hsz q (Ydx (i:=2) rfl rfl hq)
 have b2:Rows.uptoBulk d2≤1048576:=Nat.le_trans (YyG (by simp)) hbk;obtain ⟨_,_,_,e2⟩:=okWide_slice Tryz.underlying23 (hval 2 23 v2 rfl rfl);obtain ⟨x2,g2,m2⟩:=RsU.arg1 YAK (by rw [e2];rfl) (fun _=>rfl) h2 b2 l2;have hv:VL (YhS W) W [] [.agg c0,.agg c1,v2] [Ya0 x0,Yaw x1,ints x2]:=⟨g0,g1,g2,trivial⟩;have hs:=YyK x0 m0.1 m0.2 x1 m1.1 m1.2 x2 m2.1 m2.2;have hts:∀ t∈Tryz.f5.params.toList,Tryz.prog.readableRec t=true∧t < Tryz.prog.types.size:=by rw [Tryz.params5];decide +kernel
 have hres:Tryz.f5.resultTypes=#[4]:=by kernel_rfl
 have:=Ylq (f:=5) (s:=Rows.heapCollectsSpec) (fn:=Tryz.f5) (vs:=[.agg c0,.agg c1,v2]) hs YuL Tryz.underlying4 hres hW' hA1 rfl rfl rfl rfl rfl hts hv
 exact this
theorem YyS:Tryz.checked.prog.funcNamed Rows.heapCollectsUptoRow.func=some 5:=by kernel_rfl
set_option maxHeartbeats 40000000 in
theorem YyM:joinedFacts Tryz.checked.prog 5 Tryz.f5 (Rows.OpenSpec.upto Rows.heapCollectsSpec).bare Rows.heapCollectsUptoRow=true:=by
 unfold joinedFacts;repeat' (with_reducible apply YrQ)
 all_goals as_aux_lemma=>kernel_rfl
theorem Yy4:Tryz.f5.isInstance Tryz.checked.prog Rows.heapCollectsUptoRow.origin Rows.heapCollectsUptoRow.targs:=of_decide_eq_true (by kernel_rfl)
theorem Yy3:Tryz.f5.isWrapper Tryz.checked.prog Rows.heapCollectsUptoRow.wrapper Rows.heapCollectsUptoRow.mainSum:=by unfold Func.isWrapper;first|(rw [if_pos (by decide +kernel)];kernel_rfl)|(rw [if_neg (by decide +kernel)];exact ⟨rfl,rfl⟩)
theorem YyV:Rows.heapCollectsUptoRow.holds Tryz.pinned (Rows.OpenSpec.upto Rows.heapCollectsSpec):=
 OpenClaim.holds_of_cond 5 Tryz.f5 rfl rfl rfl rfl rfl rfl rfl ⟨rfl,rfl,rfl,rfl,rfl⟩ rfl rfl rfl rfl rfl YyS Tryz.func5 YyM Yy4 Yy3
  (fun os started H enc _ F=>YyN os started H enc F)
theorem HeapCollectsUpto_holds:Rows.HeapCollectsUptoSaid:=YyV
end Go.Proofs.YtdjhogobbbnddaaGreat
