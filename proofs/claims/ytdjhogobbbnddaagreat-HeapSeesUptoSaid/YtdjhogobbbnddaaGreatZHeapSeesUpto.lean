/- HeapSees holds where its arguments are of bulk at most 1048576: for all such programs by numbers, pairs of heaps and words, and paths. No other conditions. -/
import Derived.Test.YtdjhogobbbnddaaGreatQ37
import Derived.Test.YtdjhogobbbnddaaGreatRows
import Derived.Test.YtdjhogobbbnddaaGreatS60
import Derived.ProofKit
import Derived.OpenShut
import Derived.ChangeSame
import Derived.JoinedOf
import Derived.JoinedCond
import Derived.Deep.CondSized
namespace Go.Proofs.YtdjhogobbbnddaaGreat
open Go Go.V Go.ChangeShapes Go.WideShapes Go.ChangeAt Go.RowKit Go.Deep
set_option maxRecDepth 100000 in
theorem Yzw (os:Os) (started:os.Started) (H:Type) (enc:TypeId × Value→H) (F:Stop.Interp) :
  ReturnsInHanded {} Tryz.checked os 8 .any ((Rows.OpenSpec.upto Rows.heapSeesSpec).pre6 enc Tryz.prog Tryz.f8 Rows.heapSeesUptoRow.domain false) (((Rows.OpenSpec.upto Rows.heapSeesSpec).at F).post enc Tryz.prog Tryz.f8 false true false false):=by
 refine returnsInHanded_of_cond_sized (C:=Tryz.checked) (s:=Rows.OpenSpec.upto Rows.heapSeesSpec) (k:=Rows.uptoSmall) rfl YxB started (by kernel_rfl) Tryz.func8
  (OpenSpec.witness (enc:=enc) (C:=Tryz.checked) (s:=Rows.OpenSpec.upto Rows.heapSeesSpec) (k:=Rows.uptoSmall) rfl false ⟨#[],#[.agg #[.slice none 0 0,.int .i64 0,.slice none 0 0,.slice none 0 0,.slice none 0 0,.int .i64 0],.agg #[.slice none 0 0,.slice none 0 0,.slice none 0 0,.slice none 0 0],.slice none 0 0],[]⟩ 8 (by kernel_rfl) (by kernel_rfl) (by kernel_rfl) (x:=([.agg [.nil,.lit (.int .i64 0),.nil,.nil,.nil,.lit (.int .i64 0)],.agg [.agg [.nil],.agg [.nil],.agg [.nil,.nil]],.nil],[],[])) (by kernel_rfl) rfl (by kernel_rfl)) ?_
 intro W base args ds gs before hval0 hW hcnd hk hsz0 _;have hval:∀ (j:Nat) t v,Tryz.f8.params[j]?=some t→args[j]?=some v→Value.okWide Tryz.prog W .any base t v:=hval0;have hW':DataW.Whole enc Tryz.prog Tryz.f8.params.toList Rows.heapSeesSpec.vars false W args.toList ds gs before:=hW;obtain ⟨p,q,hA0,hV,rfl,hfz,hnd⟩:=hW;have hA:DataW.TrodAll enc Tryz.prog W 0 (fun _=>true) true Tryz.f8.params.toList args.toList ds p:=hA0;have hA1:=hA;have hsz:(DataW.weightsEach Tryz.prog (Tryz.f8.params.toList++Rows.heapSeesSpec.plain.varTypes Tryz.prog) (ds++gs)).all (·≤reachBytes)=true:=hsz0;have hbk:Rows.uptoBulkAll (ds++gs)≤1048576:=of_decide_eq_true hk;rw [Tryz.params8] at hA hval hsz;obtain ⟨v0,vs0,d0,ds0,p0,q0,hargs,rfl,rfl,h0,r0⟩:=trodAll_cons hA;obtain ⟨v1,vs1,d1,ds1,p1,q1,rfl,rfl,rfl,h1,r1⟩:=trodAll_cons r0;obtain ⟨v2,vs2,d2,ds2,p2,q2,rfl,rfl,rfl,h2,r2⟩:=trodAll_cons r1;obtain ⟨rfl,rfl,rfl⟩:=trodAll_nil r2;obtain rfl:args=#[v0,v1,v2]:=by cases args;simp_all
 obtain ⟨rfl,rfl⟩:=trodVars_none hV;have l0:YgC Tryz.prog 27 d0:=fun q hq=>by simpa using List.all_eq_true.1 hsz q (Ydx (i:=0) rfl rfl hq)
 obtain ⟨c0,rfl,_⟩:=okWide_struct Tryz.underlying27 (hval 0 27 v0 rfl rfl);obtain ⟨x0,g0,m0⟩:=Rs.argS (g:=YbB) YxK h0 l0;have l1:YgC Tryz.prog 47 d1:=fun q hq=>by simpa using List.all_eq_true.1 hsz q (Ydx (i:=1) rfl rfl hq)
 have b1:Rows.uptoBulk d1≤1048576:=Nat.le_trans (YyG (by simp)) hbk;obtain ⟨c1,rfl,_⟩:=okWide_struct Tryz.underlying47 (hval 1 47 v1 rfl rfl);obtain ⟨x1,g1,m1⟩:=RsU.argS (g:=(fun x:Pr=>[ints x.1,ints x.2.1,ints x.2.2.1,ints x.2.2.2])) YBc h1 b1 l1;have l2:YgC Tryz.prog 54 d2:=fun q hq=>by simpa using List.all_eq_true.1 hsz q (Ydx (i:=2) rfl rfl hq)
 obtain ⟨_,_,_,e2⟩:=okWide_slice Tryz.underlying54 (hval 2 54 v2 rfl rfl);obtain ⟨x2,g2,m2⟩:=Rs.arg1 YBi (by rw [e2];rfl) (fun _=>rfl) h2 l2;have hv:VL (YhS W) W [] [.agg c0,.agg c1,v2] [Ya0 x0,YAx x1,u8L x2]:=⟨g0,g1,g2,trivial⟩;have hs:=Yze x0 m0.1 m0.2 x1.1 x1.2.1 m1.1.1 m1.2.1.1 m1.1.2 m1.2.1.2 x1.2.2.1 x1.2.2.2 m1.2.2.1.1 m1.2.2.2.1 m1.2.2.1.2 m1.2.2.2.2 x2 m2;have hts:∀ t∈Tryz.f8.params.toList,Tryz.prog.readableRec t=true∧t < Tryz.prog.types.size:=by rw [Tryz.params8];decide +kernel
 have hres:Tryz.f8.resultTypes=#[4]:=by kernel_rfl
 have:=Ylq (f:=8) (s:=Rows.heapSeesSpec) (fn:=Tryz.f8) (vs:=[.agg c0,.agg c1,v2]) hs YuL Tryz.underlying4 hres hW' hA1 rfl rfl rfl rfl rfl hts hv
 exact this
theorem YzH:Tryz.checked.prog.funcNamed Rows.heapSeesUptoRow.func=some 8:=by kernel_rfl
set_option maxHeartbeats 40000000 in
theorem Yzi:joinedFacts Tryz.checked.prog 8 Tryz.f8 (Rows.OpenSpec.upto Rows.heapSeesSpec).bare Rows.heapSeesUptoRow=true:=by
 unfold joinedFacts;repeat' (with_reducible apply YrQ)
 all_goals as_aux_lemma=>kernel_rfl
theorem YzP:Tryz.f8.isInstance Tryz.checked.prog Rows.heapSeesUptoRow.origin Rows.heapSeesUptoRow.targs:=of_decide_eq_true (by kernel_rfl)
theorem YzR:Tryz.f8.isWrapper Tryz.checked.prog Rows.heapSeesUptoRow.wrapper Rows.heapSeesUptoRow.mainSum:=by unfold Func.isWrapper;first|(rw [if_pos (by decide +kernel)];kernel_rfl)|(rw [if_neg (by decide +kernel)];exact ⟨rfl,rfl⟩)
theorem YzW:Rows.heapSeesUptoRow.holds Tryz.pinned (Rows.OpenSpec.upto Rows.heapSeesSpec):=
 OpenClaim.holds_of_cond 8 Tryz.f8 rfl rfl rfl rfl rfl rfl rfl ⟨rfl,rfl,rfl,rfl,rfl⟩ rfl rfl rfl rfl rfl YzH Tryz.func8 Yzi YzP YzR
  (fun os started H enc _ F=>Yzw os started H enc F)
theorem HeapSeesUpto_holds:Rows.HeapSeesUptoSaid:=YzW
end Go.Proofs.YtdjhogobbbnddaaGreat
