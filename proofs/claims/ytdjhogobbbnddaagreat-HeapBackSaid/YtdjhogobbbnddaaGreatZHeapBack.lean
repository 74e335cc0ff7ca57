/- HeapBack holds: for all programs by numbers and all objects. No conditions. -/
import Derived.Test.YtdjhogobbbnddaaGreatQ37
import Derived.Test.YtdjhogobbbnddaaGreatRows
import Derived.Test.YtdjhogobbbnddaaGreatQD60
import Derived.ProofKit
import Derived.OpenShut
import Derived.ChangeSame
import Derived.JoinedOf
namespace Go.Proofs.YtdjhogobbbnddaaGreat
open Go Go.V Go.ChangeShapes Go.WideShapes Go.ChangeAt Go.RowKit Go.Deep
set_option maxRecDepth 100000 in
theorem Yzy (os:Os) (started:os.Started) (H:Type) (enc:TypeId × Value→H) :
  ReturnsInHanded {} Tryz.checked os 9 .any (Rows.heapBackSpec.pre6 enc Tryz.prog Tryz.f9 Rows.heapBackRow.domain false) (Rows.heapBackSpec.post enc Tryz.prog Tryz.f9 false true false false):=by
 refine returnsInHanded_of_change_sized (C:=Tryz.checked) YxB started (by kernel_rfl) Tryz.func9
  (ChangeSpec.witness6 (enc:=enc) (C:=Tryz.checked) false ⟨#[],#[.agg #[.slice none 0 0,.int .i64 0,.slice none 0 0,.slice none 0 0,.slice none 0 0,.int .i64 0],.slice none 0 0],[]⟩ 8 (by kernel_rfl) (by kernel_rfl) (by kernel_rfl) (by kernel_rfl)) ?_
 intro W base args ds gs before hval0 hW hcnd hsz0 _;have hval:∀ (j:Nat) t v,Tryz.f9.params[j]?=some t→args[j]?=some v→Value.okWide Tryz.prog W .any base t v:=hval0;have hW':=hW;obtain ⟨p,q,hA0,hV,rfl,hfz,hnd⟩:=hW;have hA:DataW.TrodAll enc Tryz.prog W 0 (fun _=>true) true Tryz.f9.params.toList args.toList ds p:=hA0;have hA1:=hA;have hsz:(DataW.weightsEach Tryz.prog (Tryz.f9.params.toList++Rows.heapBackSpec.plain.varTypes Tryz.prog) (ds++gs)).all (·≤reachBytes)=true:=hsz0;rw [Tryz.params9] at hA hval hsz;obtain ⟨v0,vs0,d0,ds0,p0,q0,hargs,rfl,rfl,h0,r0⟩:=trodAll_cons hA;obtain ⟨v1,vs1,d1,ds1,p1,q1,rfl,rfl,rfl,h1,r1⟩:=trodAll_cons r0;obtain ⟨rfl,rfl,rfl⟩:=trodAll_nil r1;obtain rfl:args=#[v0,v1]:=by cases args;simp_all
 obtain ⟨rfl,rfl⟩:=trodVars_none hV;have l0:YgC Tryz.prog 27 d0:=fun q hq=>by simpa using List.all_eq_true.1 hsz q (Ydx (i:=0) rfl rfl hq)
 obtain ⟨c0,rfl,_⟩:=okWide_struct Tryz.underlying27 (hval 0 27 v0 rfl rfl);obtain ⟨x0,g0,m0⟩:=Rs.argS (g:=YbB) YxK h0 l0;have l1:YgC Tryz.prog 28 d1:=fun q hq=>by simpa using List.all_eq_true.1 hsz q (Ydx (i:=1) rfl rfl hq)
 obtain ⟨_,_,_,e1⟩:=okWide_slice Tryz.underlying28 (hval 1 28 v1 rfl rfl);obtain ⟨x1,g1,m1⟩:=Rs.arg1 Yx2 (by rw [e1];rfl) (fun _=>rfl) h1 l1;have hv:VL (YhS W) W [] [.agg c0,v1] [Ya0 x0,Yef x1]:=⟨g0,g1,trivial⟩;have hs:=Yy9 x0 m0.1 m0.2 x1 m1.1 m1.2;have hts:∀ t∈Tryz.f9.params.toList,Tryz.prog.readableRec t=true∧t < Tryz.prog.types.size:=by rw [Tryz.params9];decide +kernel
 have hres:Tryz.f9.resultTypes=#[4]:=by kernel_rfl
 have:=Ylq (f:=9) (s:=Rows.heapBackSpec) (fn:=Tryz.f9) (vs:=[.agg c0,v1]) hs YuL Tryz.underlying4 hres hW' hA1 rfl rfl rfl rfl rfl hts hv
 exact this
theorem YzJ:Tryz.checked.prog.funcNamed Rows.heapBackRow.func=some 9:=by kernel_rfl
set_option maxHeartbeats 40000000 in
theorem Yzx:joinedFacts Tryz.checked.prog 9 Tryz.f9 Rows.heapBackSpec Rows.heapBackRow=true:=by
 unfold joinedFacts;repeat' (with_reducible apply YrQ)
 all_goals as_aux_lemma=>kernel_rfl
theorem YzV:Tryz.f9.isInstance Tryz.checked.prog Rows.heapBackRow.origin Rows.heapBackRow.targs:=of_decide_eq_true (by kernel_rfl)
theorem Yz1:Tryz.f9.isWrapper Tryz.checked.prog Rows.heapBackRow.wrapper Rows.heapBackRow.mainSum:=by unfold Func.isWrapper;first|(rw [if_pos (by decide +kernel)];kernel_rfl)|(rw [if_neg (by decide +kernel)];exact ⟨rfl,rfl⟩)
theorem YzT:Rows.heapBackRow.holds Tryz.pinned (OpenSpec.ofChange Rows.heapBackSpec):=
 OpenClaim.holds_of_wide 9 Tryz.f9 rfl rfl rfl rfl rfl rfl rfl ⟨rfl,rfl,rfl,rfl,rfl⟩ rfl rfl rfl rfl rfl YzJ Tryz.func9 Yzx YzV Yz1
  (fun os started H enc _=>Yzy os started H enc)
theorem HeapBack_holds:Rows.HeapBackSaid:=YzT
end Go.Proofs.YtdjhogobbbnddaaGreat
