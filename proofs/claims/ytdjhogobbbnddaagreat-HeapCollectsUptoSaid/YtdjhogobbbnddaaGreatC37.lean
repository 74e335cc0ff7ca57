/- Lemmas for the claim; no conditions. -/
import Derived.Test.YtdjhogobbbnddaaGreatC11
import Derived.Test.YtdjhogobbbnddaaGreatC27
import Derived.Test.YtdjhogobbbnddaaGreatC36
import Derived.WalkKit
import Derived.Test.YtdjhogobbbnddaaGreatRows
import Derived.OpenShut
import Derived.Test.YtdjhogobbbnddaaGreatC23
import Derived.Test.YtdjhogobbbnddaaGreatC19
import Derived.Test.YtdjhogobbbnddaaGreatC18
namespace Go.Proofs
open Go Go.W Go.V Go.ChangeShapes Go.WideShapes Go.ChangeAt Go.RowKit Go.Deep
def YyA (k:Cls):Prop:=k.1.length*8≤140737488355328∧k.2.1.length*8≤140737488355328∧k.2.2.length*16≤140737488355328
theorem YxB:ownKnob Tryz.prog.godebug=none:=by kernel_rfl
theorem YuL:laidOutB Tryz.prog=true:=by kernel_rfl
theorem YdB {n:Nat} (h:n≤reachBytes):n≤140737488355328:=Nat.le_trans h (by decide)
section
variable {H:Type} {enc:TypeId × Value→H} {w:World} {held:Bool}
theorem YnK:Rs enc Tryz.prog w held 3 1 V.int (fun _=>True):=Rs.int Tryz.underlying3
theorem YxR:Rs enc Tryz.prog w held 3 1 V.int YbC:=by
 intro n cs y h _;obtain ⟨i,rfl,rfl,hw⟩:=DataW.trod_int Tryz.underlying3 h;have:IntKind.i64.min≤i∧i≤IntKind.i64.max:=by simpa [Lit.wf] using hw
 exact ⟨i,CL.one rfl (.raw rfl),rfl,this.1,this.2⟩
theorem YpI:Rs enc Tryz.prog w held 23 1 ints (fun l=>l.length*8≤reachBytes∧∀ x∈l,True):=Rs.slice Tryz.underlying23 (by kernel_rfl) (by kernel_rfl) (by decide) YnK
theorem Ywo:Rs enc Tryz.prog w held 23 1 ints (fun l=>(∀ x∈l,YbC x)∧l.length*8≤140737488355328):=
 (Rs.slice Tryz.underlying23 (by kernel_rfl) (B:=8) (by kernel_rfl) (by decide) YxR).map (fun x=>x) (fun _=>rfl) (fun _ h=>⟨h.2,YdB h.1⟩)
theorem YwE:Rs enc Tryz.prog w held 30 1 Yaw (fun l=>(∀ x∈l,YbC x)∧l.length*8≤140737488355328):=
 by
  have h:=Rs.struct (enc:=enc) (w:=w) (held:=held) Tryz.underlying30 (by kernel_rfl) (RsS.cons Ywo RsS.nil rfl (by kernel_rfl));exact h.map (fun x=>x.1) (fun _=>rfl) (fun _ h=>h.1)
theorem Yws:Rs enc Tryz.prog w held 151 2 YhF (fun _=>True):=
 by
  have h:=Rs.struct (enc:=enc) (w:=w) (held:=held) Tryz.underlying151 (by kernel_rfl) (RsS.cons YnK (RsS.cons YnK RsS.nil rfl (by kernel_rfl)) rfl (by kernel_rfl));exact h.map (fun x=>(x.1,x.2.1)) (fun _=>rfl) (fun _ _=>trivial)
theorem Yur:Rs enc Tryz.prog w held 152 1 Yde (fun l=>l.length*16≤reachBytes∧∀ x∈l,True):=Rs.slice Tryz.underlying152 (by kernel_rfl) (by kernel_rfl) (by decide) Yws
theorem YxO:Rs enc Tryz.prog w held 154 3 YvC YyA:=
 by
  have h:=Rs.struct (enc:=enc) (w:=w) (held:=held) Tryz.underlying154 (by kernel_rfl) (RsS.cons YpI (RsS.cons YpI (RsS.cons Yur RsS.nil rfl (by kernel_rfl)) rfl (by kernel_rfl)) rfl (by kernel_rfl));exact h.map (fun x=>(x.1,x.2.1,x.2.2.1)) (fun _=>rfl)
   (fun _ h=>⟨YdB h.1.1,YdB h.2.1.1,YdB h.2.2.1.1⟩)
theorem YwH:Rs enc Tryz.prog w held 22 1 Yei Ya9:=
 by
  have h:=Rs.slice (enc:=enc) (w:=w) (held:=held) Tryz.underlying22 (by kernel_rfl) (B:=72) (by kernel_rfl) (by decide) YxO;exact h.map (fun x=>x) (fun _=>rfl) (fun _ h=>⟨YdB h.1,h.2⟩)
theorem Yuf:Rs enc Tryz.prog w held 155 1 V.int (fun _=>True):=Rs.int Tryz.underlying155
theorem Yx5:Rs enc Tryz.prog w held 156 1 V.int (fun _=>True):=Rs.int Tryz.underlying156
theorem Yx9:Rs enc Tryz.prog w held 162 1 V.int (fun _=>True):=Rs.int Tryz.underlying162
theorem pNd:Rs enc Tryz.prog w held 164 3 ndA (fun x=>x.2.2.length*8≤140737488355328):=
 by
  have h:=Rs.struct (enc:=enc) (w:=w) (held:=held) Tryz.underlying164 (by kernel_rfl) (RsS.cons Yx9 (RsS.cons YnK (RsS.cons YpI RsS.nil rfl (by kernel_rfl)) rfl (by kernel_rfl)) rfl (by kernel_rfl));exact h.map (fun x=>((x.1,x.2.1,x.2.2.1):Nd)) (fun _=>rfl) (fun _ h=>Nat.le_trans h.2.2.1.1 (by decide))
theorem Yx4:Rs enc Tryz.prog w held 25 1 Yvx (fun l=>∀ x∈l,x.2.2.length*8≤140737488355328):=
 by
  have h:=Rs.slice (enc:=enc) (w:=w) (held:=held) Tryz.underlying25 (by kernel_rfl) (B:=40) (by kernel_rfl) (by decide) pNd;exact h.map (fun x=>x) (fun _=>rfl) (fun _ h=>h.2)
theorem YuQ:∀ N,RsZ N enc Tryz.prog w held 159 6 Yck (fun _=>True)
 | 0=>RsZ.zero
 | N+1=>by
   have hk:=RsZ.slice (enc:=enc) (w:=w) (held:=held) (t:=157) Tryz.underlying157 (by kernel_rfl) (B:=80) (by kernel_rfl) (by decide) (YuQ N);have h:=RsZ.struct (enc:=enc) (w:=w) (held:=held) Tryz.underlying159 (by kernel_rfl) (Yn7.cons (Yx5.z N) (Yn7.cons (YnK.z N) (Yn7.cons (YpI.z N) (Yn7.cons (YnK.z N) (Yn7.cons (YnK.z N) (Yn7.cons hk Yn7.nil rfl (by kernel_rfl)) rfl (by kernel_rfl)) rfl (by kernel_rfl)) rfl (by kernel_rfl)) rfl (by kernel_rfl)) rfl (by kernel_rfl));exact h.map (fun x=>Fct.mk x.1 x.2.1 x.2.2.1 x.2.2.2.1 x.2.2.2.2.1 x.2.2.2.2.2.1) (fun x=>by rw [Ydm];rfl) (fun _ _=>trivial)
theorem Yyf:Rs enc Tryz.prog w held 159 6 Yck (fun _=>True):=Rs.ofZ YuQ
theorem Yyi:Rs enc Tryz.prog w held 161 9 YuR (fun _=>True):=
 by
  have h:=Rs.struct (enc:=enc) (w:=w) (held:=held) Tryz.underlying161 (by kernel_rfl) (RsS.cons Yuf (RsS.cons YnK (RsS.cons Yyf (RsS.cons YnK RsS.nil rfl (by kernel_rfl)) rfl (by kernel_rfl)) rfl (by kernel_rfl)) rfl (by kernel_rfl));exact h.map (fun x=>(⟨x.1,x.2.1,x.2.2.1,x.2.2.2.1⟩:Mth)) (fun x=>by rw [YuR,YhH];rfl) (fun _ _=>trivial)
theorem YwL:Rs enc Tryz.prog w held 24 1 YpH (fun _=>True):=
 by
  have h:=Rs.slice (enc:=enc) (w:=w) (held:=held) Tryz.underlying24 (by kernel_rfl) (B:=104) (by kernel_rfl) (by decide) Yyi;exact h.map (fun x=>x) (fun _=>rfl) (fun _ _=>trivial)
theorem YxK:Rs enc Tryz.prog w held 27 6 Ya0 (fun p=>Ya9 p.cls∧∀ x∈p.nodes,x.2.2.length*8≤140737488355328):=
 by
  have h:=Rs.struct (enc:=enc) (w:=w) (held:=held) Tryz.underlying27 (by kernel_rfl) (RsS.cons YwH (RsS.cons YnK (RsS.cons YpI (RsS.cons YwL (RsS.cons Yx4 (RsS.cons YnK RsS.nil rfl (by kernel_rfl)) rfl (by kernel_rfl)) rfl (by kernel_rfl)) rfl (by kernel_rfl)) rfl (by kernel_rfl)) rfl (by kernel_rfl));exact h.map (fun x=>(⟨x.1,x.2.1,x.2.2.1,x.2.2.2.1,x.2.2.2.2.1,x.2.2.2.2.2.1⟩:Prg)) (fun _=>rfl) (fun _ h=>⟨h.1,h.2.2.2.2.1⟩)
end
end Go.Proofs
namespace Go.Proofs.YtdjhogobbbnddaaGreat
open Go Go.W Go.V Go.ChangeShapes Go.WideShapes Go.ChangeAt Go.RowKit Go.Deep
theorem YAS {H:Type} (d:DataW H):1≤Rows.uptoBulk d:=by
 cases d with
 | lit l=>cases l<;>simp [Rows.uptoBulk]
 | _=>simp [Rows.uptoBulk]
theorem YyG {H:Type} {d:DataW H} {l:List (DataW H)} (h:d∈l):Rows.uptoBulk d≤Rows.uptoBulkAll l:=by
 induction l with
 | nil=>cases h
 | cons x r ih =>
   simp only [Rows.uptoBulkAll];rcases List.mem_cons.1 h with rfl|h
   ·omega
   ·have:=ih h;omega
theorem YAV {H:Type} (l:List (DataW H)):l.length≤Rows.uptoBulkAll l:=by
 induction l with
 | nil=>simp [Rows.uptoBulkAll]
 | cons x r ih=>have:=YAS x;simp only [Rows.uptoBulkAll,List.length_cons];omega
section
variable {H:Type} {enc:TypeId × Value→H} {w:World} {held:Bool}
def RsU (enc:TypeId × Value→H) (w:World) (held:Bool) (e sz:Nat) {α:Type} (f:α→AV) (ok:α→Prop):Prop:=
 ∀ n cs y,DataW.trod enc Tryz.prog w 0 (fun _=>true) held n e cs=some y→Rows.uptoBulk y.1≤1048576→YgC Tryz.prog e y.1→∃ x:α,CL [] (YhS w) w cs (f x).cells∧cs.length=sz∧ok x
theorem YAN {m:Nat→Nat} {a:Option Addr} {len cap:Nat} {xs:List AV} {nl:Option Bool} (h:Rep m w [] (.slice a len cap) (.sl 1 nl xs)):xs.length=len:=by
 cases h<;>rfl
theorem YAK:RsU enc w held 23 1 ints (fun l=>(∀ x∈l,YbC x)∧l.length≤1048576):=by
 intro n cs y hy hb hl;obtain ⟨x,h1,h2,h3⟩:=Ywo n cs y hy hl;refine ⟨x,h1,h2,h3.1,?_⟩;have hc:CL [] (YhS w) w cs [ints x]:=h1;rcases open_slice Tryz.underlying23 hy with ⟨rfl,rfl⟩|⟨a,len,cap,m,n',D,Pl,rfl,_,hl1,hm,hmm,rfl,hx⟩
 ·have:=YAN (hc.2.2 0 _ _ rfl rfl)
  rw [List.length_map] at this;omega
 ·have:=YAN (hc.2.2 0 _ _ rfl rfl)
  rw [List.length_map] at this;simp only [Rows.uptoBulk] at hb;have h4:=YAV ((List.range len).map D);rw [List.length_map,List.length_range] at h4;omega
def YAO (enc:TypeId × Value→H) (w:World) (held:Bool) (fs:List Field) (o sz:Nat) {α:Type} (g:α→List AV) (ok:α→Prop):Prop:=
 ∀ (m:Nat) (cs:List Value) (xs:List (DataW H × List MemPlace)),(∀ (i:Nat) f,fs[i]?=some f→DataW.trod enc Tryz.prog w 0 (fun _=>true) held m f.type ((cs.drop f.offset).take (Tryz.prog.cellsOf f.type))=xs[i]?)→xs.length=fs.length →
  (∀ (x:DataW H × List MemPlace),x∈xs→Rows.uptoBulk x.1≤1048576)→(∀ (i:Nat) f x,fs[i]?=some f→xs[i]?=some x→YgC Tryz.prog f.type x.1)→∃ x:α,CL [] (YhS w) w ((cs.drop o).take sz) (g x)∧((cs.drop o).take sz).length=sz∧ok x
theorem YAO.nil {o:Nat}:YAO enc w held [] o 0 (fun _:Unit=>[]) (fun _=>True):=fun _ _ _ _ _ _ _=>⟨(),⟨rfl,by simp,by simp⟩,rfl,trivial⟩
theorem RsU.arg1 {t:Nat} {α:Type} {f:α→AV} {ok:α→Prop} {v:Value} {d:DataW H} {p:List MemPlace} (h:RsU enc w held t 1 f ok) (hv:v.oneCell'=true) (hf:∀ x,(f x).cells=[f x]) (ht:DataW.Trod enc Tryz.prog w 0 (fun _=>true) held t v d p) (hb:Rows.uptoBulk d≤1048576) (hl:YgC Tryz.prog t d):∃ x:α,Rep (YhS w) w [] v (f x)∧ok x:=by
 obtain ⟨fuel,hy⟩:=ht;rw [Ycs hv] at hy;obtain ⟨x,h1,_,h3⟩:=h _ _ _ hy hb hl;rw [hf] at h1;exact ⟨x,h1.2.2 0 v (f x) rfl rfl,h3⟩
end
end Go.Proofs.YtdjhogobbbnddaaGreat
namespace Go.Proofs
open Go Go.W Go.V
theorem Ybe {p:Prg} {W:List Int} (h:Ybt p W=true):Ybk p=true∧Ydi (shp p.cls) W=true∧∃ st,starts (shp p.cls) W=some st∧GH (shp p.cls) W st:=by
 simp only [Ybt,Bool.and_eq_true] at h;obtain ⟨st,hst⟩:=Ypx.1 h.2;exact ⟨h.1,h.2,st,hst.eq,hst⟩
def Yee (p:Prg) (W:List Int):List Nat:=(starts (shp p.cls) W).getD []
theorem YcP {p:Prg} {W:List Int} {st:List Nat} (h:starts (shp p.cls) W=some st):Yee p W=st:=by rw [Yee,h];rfl
def YtX (p:Prg) (W:List Int) (w s:Int):Int × Int:=
 if Ybt p W then (if (Yb5 p.cls p.slots W (Yee p W) w s).1=0 then (wAt W (Yb5 p.cls p.slots W (Yee p W) w s).2.toNat,0) else (0,(Yb5 p.cls p.slots W (Yee p W) w s).1)) else (0,2)
theorem Ykd {l:List Cls} {slots:Int} {W:List Int} {st:List Nat} (hG:GH (shp l) W st) {w s:Int} (h:(Yb5 l slots W st w s).1=0):1≤(Yb5 l slots W st w s).2∧(Yb5 l slots W st w s).2 < W.length:=by
 unfold Yb5 at h ⊢;by_cases h1:okW st w=true∧0≤s∧s < slots
 ·rw [if_pos h1] at h ⊢;by_cases h2:Yax W w=0
  ·rw [if_pos h2] at h;cases h
  ·rw [if_neg h2] at h ⊢;obtain ⟨k,hk,g1,g2,g3⟩:=YnA hG (hG.re_obj h1.1 h2);have hfb:=Ydj (fun x=>s==x) (slotsOf l (wAt W (Yax W w)).toNat) 0;split at h
   ·cases h
   ·rename_i hf
    rw [if_neg hf];dsimp only;omega
 ·rw [if_neg h1] at h;cases h
section
variable (p:Prg) (hs:Ya9 p.cls) (hpk:∀ x∈p.nodes,x.2.2.length*8≤140737488355328) (W:List Int) (hW:∀ x∈W,YbC x) (hWl:W.length*8≤140737488355328) (w s:Int) (hw:YbC w)
theorem YeJ {e x:Int} (h:V.Spec Tryz.prog 50 [.fn (.func 89) [] [.ep (YbB p) 0,.ep [ints W] 0,.ep [V.int w] 0,.ep [V.int s] 0,.bp 0 0]] [.cb 3 [V.int 0]] (V.int e) [.cb 3 [V.int x]]) :
  V.Spec Tryz.prog 31 [Ya0 p,Yaw W,V.int w,V.int s] [] (.tp [V.int x,V.int e]) []:=by
 refine Se Tryz.func31 rfl rfl rfl fun B hB=>?_;repeat' (first|(with_reducible refine TC.seq ?_)|(with_reducible refine TC.region ?_))
 with_reducible refine OL.box ?_
 with_reducible refine OL.box ?_
 with_reducible refine OL.box ?_
 with_reducible refine OL.box ?_
 refine Zag 4 ?_;refine Zag 5 ?_;refine Zag 6 ?_;refine Zag 7 ?_;refine goW ?_;refine Zaj [4] h Tryz.func50 ?_;refine goW ?_;exact ZaZ [] (.ren rfl) (.ren rfl)
include hs hpk hW hWl hw
theorem Yim:V.Spec Tryz.prog 31 [Ya0 p,Yaw W,V.int w,V.int s] [] (.tp [V.int (YtX p W w s).1,V.int (YtX p W w s).2]) []:=by
 unfold YtX
 cases hg:Ybt p W with
 | false =>
   have h2:=Ybi p hs hpk W hW hWl hg;refine YeJ p W w s (Yaz Tryz.func89 ?_);refine YaZ.enter Tryz.tabOK Tryz.mixed Tryz.func89 rfl rfl rfl fun B hB=>?_;refine goW ?_;refine Zar [] h2 Tryz.func64 ?_;repeat' (first|refine Zam ?_|refine Zak ?_)
   exact Zas [0]
 | true =>
   rw [if_pos rfl];obtain ⟨hp,hgw,st,hst,hG⟩:=Ybe hg;have h2:=YaB p hs hpk W hW hWl hp hgw;have hpi:=Ykd (slots:=p.slots) (w:=w) (s:=s) hG;have hpo:=YiW p W hW st hG w s hw;have hpn:=@Yi0 p W hW st hG w s hw;rw [YcP hst];rw [stW,hst,Option.getD_some] at h2;generalize Yb5 p.cls p.slots W st w s=q at *
   obtain ⟨e,at_⟩:=q;dsimp only at *
   generalize marks W.length st=ms at *
   by_cases he:e=0
   ·subst he;obtain ⟨a1,a2⟩:=hpi rfl;have hpl:=hpo rfl;rw [if_pos rfl];have hwa:wAt W at_.toNat=W[at_.toNat]'(by omega):=by rw [wAt,List.getD_eq_getElem?_getD,List.getElem?_eq_getElem (by omega)];rfl
    rw [hwa];refine YeJ p W w s (YbH (r:=.tp []) Tryz.func89 ?_);refine Se Tryz.func89 rfl rfl rfl fun B hB=>?_;refine goW ?_;refine OL.c h2 Tryz.func64 ?_;refine goW ?_;refine ZaO [] [.cb 3 [V.int (W[at_.toNat]'(by omega))]] ?_ ?_
    ·(refine Zal (id:=1) false 8 12 ?_<;>refine Zao 0 ?_<;>refine Zao 1 ?_<;>refine Zao 2 ?_<;>refine Zao 3 ?_<;>refine OD.st 5 ?_)<;>((refine ZaJ 4 6 7 ?_ ?_ ?_)<;>(first|((refine NS 4 ?_<;>refine Zbf 6 7 ?_)<;>((refine Zac 8 ?_);refine Zaj [1,2,3] hpl Tryz.func90 ?_<;>refine OL.nil (Zab ?_))<;>(refine OD.st 9 ?_<;>refine Zai 10 ?_)<;>(refine Zac 11 ?_;refine OL.store ?_;refine OL.nil ?_;refine Zab ?_)<;>(refine Zaa ?_))|((refine NS 6 ?_)<;>((refine OD.n2 4 7 ?_ ?_)<;>(first|((refine NS 4 ?_<;>refine Zai 7 ?_)<;>((refine Zac 8 ?_);refine Zaj [1,2,3] hpl Tryz.func90 ?_<;>refine OL.nil (Zab ?_))<;>(refine OD.st 9 ?_<;>refine Zai 10 ?_)<;>(refine Zac 11 ?_;refine OL.store ?_;refine OL.nil ?_;refine Zab ?_)<;>(refine Zaa ?_))|((refine NS 7 ?_)<;>((refine OD.n2 4 8 ?_ ?_)<;>(first|((refine NS 4 ?_)<;>((refine Zac 8 ?_);refine Zaj [1,2,3] hpl Tryz.func90 ?_<;>refine OL.nil (Zab ?_))<;>(refine OD.st 9 ?_<;>refine Zai 10 ?_)<;>(refine Zac 11 ?_;refine OL.store ?_;refine OL.nil ?_;refine Zab ?_)<;>(refine Zaa ?_))|((refine NA 8 ?_;refine Zaj [1,2,3] hpl Tryz.func90 ?_<;>refine OL.nil (Zab ?_))<;>(refine Zai 4 ?_<;>refine OD.st 9 ?_<;>refine Zai 10 ?_)<;>(refine Zac 11 ?_;refine OL.store ?_;refine OL.nil ?_;refine Zab ?_)<;>(refine Zaa ?_))))))))|((refine NS 7 ?_)<;>((refine OD.n2 4 6 ?_ ?_)<;>(first|((refine NS 4 ?_<;>refine Zai 6 ?_)<;>((refine Zac 8 ?_);refine Zaj [1,2,3] hpl Tryz.func90 ?_<;>refine OL.nil (Zab ?_))<;>(refine OD.st 9 ?_<;>refine Zai 10 ?_)<;>(refine Zac 11 ?_;refine OL.store ?_;refine OL.nil ?_;refine Zab ?_)<;>(refine Zaa ?_))|((refine NS 6 ?_)<;>((refine OD.n2 4 8 ?_ ?_)<;>(first|((refine NS 4 ?_)<;>((refine Zac 8 ?_);refine Zaj [1,2,3] hpl Tryz.func90 ?_<;>refine OL.nil (Zab ?_))<;>(refine OD.st 9 ?_<;>refine Zai 10 ?_)<;>(refine Zac 11 ?_;refine OL.store ?_;refine OL.nil ?_;refine Zab ?_)<;>(refine Zaa ?_))|((refine NA 8 ?_;refine Zaj [1,2,3] hpl Tryz.func90 ?_<;>refine OL.nil (Zab ?_))<;>(refine Zai 4 ?_<;>refine OD.st 9 ?_<;>refine Zai 10 ?_)<;>(refine Zac 11 ?_;refine OL.store ?_;refine OL.nil ?_;refine Zab ?_)<;>(refine Zaa ?_))))))))))
     all_goals exact ZaP [0]
    ·refine goW ?_;exact Za1 [0]
   ·have hpl:=hpn rfl he;rw [if_neg he];refine YeJ p W w s (Yaz Tryz.func89 ?_);refine YaZ.enter Tryz.tabOK Tryz.mixed Tryz.func89 rfl rfl rfl fun B hB=>?_;refine goW ?_;refine OL.c h2 Tryz.func64 ?_;refine goW ?_;(refine Zal (id:=1) false 8 12 ?_<;>refine Zao 0 ?_<;>refine Zao 1 ?_<;>refine Zao 2 ?_<;>refine Zao 3 ?_<;>refine OD.st 5 ?_)<;>((refine ZaJ 4 6 7 ?_ ?_ ?_)<;>(first|((refine NS 4 ?_<;>refine Zbf 6 7 ?_)<;>((refine Zac 8 ?_);refine Zar [1,2,3] hpl Tryz.func90 ?_<;>refine Zav ?_<;>(repeat' (first|refine Zam ?_|refine Zak ?_))<;>exact Zas [0])<;>skip<;>skip<;>skip<;>(refine Zaa ?_))|((refine NS 6 ?_)<;>((refine OD.n2 4 7 ?_ ?_)<;>(first|((refine NS 4 ?_<;>refine Zai 7 ?_)<;>((refine Zac 8 ?_);refine Zar [1,2,3] hpl Tryz.func90 ?_<;>refine Zav ?_<;>(repeat' (first|refine Zam ?_|refine Zak ?_))<;>exact Zas [0])<;>skip<;>skip<;>skip<;>(refine Zaa ?_))|((refine NS 7 ?_)<;>((refine OD.n2 4 8 ?_ ?_)<;>(first|((refine NS 4 ?_)<;>((refine Zac 8 ?_);refine Zar [1,2,3] hpl Tryz.func90 ?_<;>refine Zav ?_<;>(repeat' (first|refine Zam ?_|refine Zak ?_))<;>exact Zas [0])<;>skip<;>skip<;>skip<;>(refine Zaa ?_))|((refine NA 8 ?_;refine Zar [1,2,3] hpl Tryz.func90 ?_<;>refine Zav ?_<;>(repeat' (first|refine Zam ?_|refine Zak ?_))<;>exact Zas [0])<;>skip<;>skip<;>skip<;>skip<;>(refine Zaa ?_))))))))|((refine NS 7 ?_)<;>((refine OD.n2 4 6 ?_ ?_)<;>(first|((refine NS 4 ?_<;>refine Zai 6 ?_)<;>((refine Zac 8 ?_);refine Zar [1,2,3] hpl Tryz.func90 ?_<;>refine Zav ?_<;>(repeat' (first|refine Zam ?_|refine Zak ?_))<;>exact Zas [0])<;>skip<;>skip<;>skip<;>(refine Zaa ?_))|((refine NS 6 ?_)<;>((refine OD.n2 4 8 ?_ ?_)<;>(first|((refine NS 4 ?_)<;>((refine Zac 8 ?_);refine Zar [1,2,3] hpl Tryz.func90 ?_<;>refine Zav ?_<;>(repeat' (first|refine Zam ?_|refine Zak ?_))<;>exact Zas [0])<;>skip<;>skip<;>skip<;>(refine Zaa ?_))|((refine NA 8 ?_;refine Zar [1,2,3] hpl Tryz.func90 ?_<;>refine Zav ?_<;>(repeat' (first|refine Zam ?_|refine Zak ?_))<;>exact Zas [0])<;>skip<;>skip<;>skip<;>skip<;>(refine Zaa ?_))))))))))
end
end Go.Proofs
namespace Go.V
open Go Go.W
theorem ZaF {C:Cx} {ops:Array Oper} {Q:Qt} {ρ:Ro} {η η2:Eta} {rest:List Oper} {T X:Nat} {pos:String} {af:Array Edge} {x y:Operand} {i k E:Nat} {l:List Int} {t:Int} {nl:Option Bool} (hk:k < l.length) (kk:OL C ops Q rest ρ η2) (hs:(C.tab X).map (fun e=>(e.sh.agg,e.size))=some (false,1):=by with_unfolding_all exact rfl)
  (hx:ev2 ρ x=some (.gp i 1 k 0):=by with_unfolding_all exact rfl) (hy:ev2 ρ y=some (.raw (.int .i64 t)):=by with_unfolding_all exact rfl) (ho:η[i]?=some (.gs false E 1 nl (l.map V.int)):=by with_unfolding_all exact rfl) (hη:η.set i (.gs false E 1 nl ((l.set k t).map V.int))=η2:=by (try dsimp only [List.set])<;>exact rfl):OL C ops Q (⟨none,.store X x y,T,pos,af,none⟩::rest) ρ η:=
 ZbC (e:=V.int l[k]) (e':=V.int t) kk hs hx hy ho (Ybp hk) rfl (by decide) (by rw [← List.map_set];exact hη)
end Go.V
namespace Go.Proofs
open Go Go.W Go.V
theorem YiH (has:List Int):∀ (is:List (Int × Int)) (own:List Int),initsOk has own is=true→∀ x∈is,-1000000000≤x.2∧x.2≤1000000000
 | [],_,_,x,hx=>by cases hx
 | i::r,own,h,x,hx=>by
   simp only [initsOk,Bool.and_eq_true,decide_eq_true_eq] at h;rcases List.mem_cons.1 hx with rfl|hx
   ·exact h.1.2
   ·exact YiH has r _ h.2 x hx
theorem Yo3 {p:Prg} (h:Yag p=true) {o:List Int} {s n:Int} (hb:YbI p.cls o s=some n):-1000000000≤n∧n≤1000000000:=by
 obtain ⟨c,_,hi⟩:=List.exists_of_findSome?_eq_some hb;unfold Yg2 at hi;split at hi
 ·cases hi
 ·obtain ⟨x,hx,rfl⟩:=Option.map_eq_some_iff.1 hi;have hm:=List.mem_of_find?_eq_some hx;by_cases hk:(c-3).toNat < p.cls.length
  ·simp only [Yag,Bool.and_eq_true] at h;have:=List.all_eq_true.1 h.2.2 _ (List.mem_range.2 hk)
   rw [Yb7,Bool.and_eq_true] at this;exact YiH _ _ _ this.2 x hm
  ·rw [clsAt,List.getD_eq_getElem?_getD,List.getElem?_eq_none (by omega)] at hm
   cases hm
theorem Yhf {p:Prg} (h:Ybk p=true) (c:Nat) (s:Int) (hk:(Yao p.cls c s).1=1):-1000000000≤(Yao p.cls c s).2∧(Yao p.cls c s).2≤1000000000:=by
 unfold Yao at hk ⊢
 cases hb:YbI p.cls (at_ (orders (graphOf p.cls)) c) s with
 | none=>rw [hb] at hk;cases hk
 | some n=>exact Yo3 (YaC h) hb
def YrW (p:Prg) (W:List Int) (c:Int):List Int × Int × Int:=
 if Ybt p W then (if (shp p.cls c).isSome then (if (W++c::YcC p.cls c.toNat).length≤600 then (W++c::YcC p.cls c.toNat,2*(W.length:Int),0) else ([],0,3)) else ([],0,2)) else ([],0,2)
theorem YmJ (p:Prg) (W:List Int) (c:Int) {W':List Int} {x e:Int} (h:V.Spec Tryz.prog 50 [.fn (.func 94) [] [.ep (YbB p) 0,.ep [ints W] 0,.ep [V.int c] 0,.bp 0 0,.bp 1 0]] [.cb 30 [.raw (.slice none 0 0)],.cb 3 [V.int 0]] (V.int e) [.cb 30 [.hs 2],.cb 3 [V.int x],.gs false 3 1 none (W'.map V.int)]) :
  V.Spec Tryz.prog 35 [Ya0 p,Yaw W,V.int c] [] (.tp [Yaw W',V.int x,V.int e]) []:=by
 refine Se Tryz.func35 rfl rfl rfl fun B hB=>?_;repeat' (first|(with_reducible refine TC.seq ?_)|(with_reducible refine TC.region ?_))
 with_reducible refine OL.box ?_
 with_reducible refine OL.box ?_
 with_reducible refine OL.box ?_
 refine Zag 3 ?_;refine Zag 4 ?_;refine Zag 5 ?_;refine goW ?_;refine Zaj [3,4] h Tryz.func50 ?_;refine Zbu 3 0 ?_;refine goW ?_;refine ZaO [(6,.bp 3 0),(7,.bp 4 0),(8,V.int e)] [.dead,.dead,.dead,.cb 30 [.sl 1 none (W'.map V.int)],.cb 3 [V.int x]] ?_ ?_
 ·(refine Zal (id:=2) false 3 6 ?_<;>refine Zao 2 ?_<;>refine OD.n2 0 1 ?_ ?_<;>(first|refine Yaa.at 0 ?_<;>refine Yaa.s ?_ (h:=gv)<;>refine OD.n2 1 3 ?_ ?_<;>(first|refine Yaa.at 1 ?_<;>refine Yaa.s ?_ (h:=gv)<;>(refine Zac 3 ?_;refine Zau ?_;refine OL.nil ?_;refine Zab ?_)<;>(refine Zac 4 ?_;refine OL.store ?_;refine OL.nil ?_;refine Zab ?_)<;>refine OD.st 5 ?_<;>refine Zaa ?_|refine Yaa.at 3 ?_<;>(refine Yaa.a ?_;refine Zau ?_;refine OL.nil ?_;refine Zab ?_)<;>refine Zai 1 ?_<;>(refine Zac 4 ?_;refine OL.store ?_;refine OL.nil ?_;refine Zab ?_)<;>refine OD.st 5 ?_<;>refine Zaa ?_)|refine Yaa.at 1 ?_<;>refine Yaa.s ?_ (h:=gv)<;>refine Zai 0 ?_<;>(refine Zac 3 ?_;refine Zau ?_;refine OL.nil ?_;refine Zab ?_)<;>(refine Zac 4 ?_;refine OL.store ?_;refine OL.nil ?_;refine Zab ?_)<;>refine OD.st 5 ?_<;>refine Zaa ?_))
  all_goals exact ZaP [0,1,2,3,4]
 ·refine goW ?_;exact Za7 [] (.ren rfl) (.ren rfl) (.ren rfl)
section
variable (p:Prg) (hs:Ya9 p.cls) (hpk:∀ x∈p.nodes,x.2.2.length*8≤140737488355328) (W:List Int) (hW:∀ x∈W,YbC x) (hWl:W.length*8≤140737488355328) (c:Int)
include hs hpk hW hWl
theorem Yjo (h:(YrW p W c).2.2=0):V.Spec Tryz.prog 35 [Ya0 p,Yaw W,V.int c] [] (.tp [Yaw (YrW p W c).1,V.int (YrW p W c).2.1,V.int 0]) []:=by
 unfold YrW at h ⊢
 cases hg:Ybt p W with
 | false=>rw [hg] at h;cases h
 | true =>
   rw [hg] at h;rw [if_pos rfl] at h ⊢;obtain ⟨hp,hgw,st,hst,hG⟩:=Ybe hg;have h2:=YaB p hs hpk W hW hWl hp hgw;rw [stW,hst,Option.getD_some] at h2;have ho:=Yqy p W (marks W.length st) c
   cases hsh:(shp p.cls c).isSome with
   | false=>rw [hsh] at h;cases h
   | true =>
     rw [hsh,if_pos rfl] at h;rw [if_pos rfl];have ho:=ho.yes hsh;obtain ⟨n,hn⟩:=Option.isSome_iff_exists.1 hsh;obtain ⟨k,rfl,a1,a2,-⟩:=YcS hn;have how:Yc4 p k=true:=by rw [Yc4,hp];simp;omega
     rw [Int.toNat_natCast] at *
     have hfr:=Ypk p hs hpk W (marks W.length st) how (fun s _=>Yhf hp k s);have hfl:(YcC p.cls k).length≤1000:=by rw [YcC,List.length_map];exact Nat.le_trans (Ya3 (Ybq hp) k) (by omega)
     have hwl:=(Yah hG.eq).2.1;have hly:=YqF p W (by omega) (bools (marks W.length st)) (fun _=>rfl) k (YcC p.cls k) hfl;generalize YcC p.cls k=fr at *
     generalize marks W.length st=ms at *
     by_cases hl:(W++(k:Int)::fr).length≤600;rotate_left
     ·rw [if_neg hl] at h;cases h
     have hly:=hly.yes hl;rw [if_pos hl];dsimp only;refine YmJ p W k (YbH (r:=.tp []) Tryz.func94 ?_);refine Se Tryz.func94 rfl rfl rfl fun B hB=>?_;refine goW ?_;refine OL.c h2 Tryz.func64 ?_;refine goW ?_;refine Zaj [2,3,4] ho Tryz.func95 ?_;refine goW ?_;refine ZaO [(3,.bp 0 0),(4,.bp 1 0),(5,.bp 2 0),(6,V.int W.length)] (.cb 30 [.raw (.slice none 0 0)]::.cb 3 [V.int 0]::[.cb 93 (stC p (.hs 5) 4 (bools ms)),.dead,.mo (slM p.cls p.cls.length),.gs false 3 1 none ((W++(k:Int)::fr).map V.int)]) ?_ ?_
     ·(refine Zal (id:=2) false 4 7 ?_<;>refine Zao 0 ?_<;>refine OD.st 2 ?_)<;>((refine OD.n2 1 3 ?_ ?_)<;>(first|((refine NS 1 ?_<;>refine Zai 3 ?_)<;>((refine Zac 4 ?_);refine Zaj [2,3,4] hfr Tryz.func96 ?_<;>refine OL.nil (Zab ?_))<;>((refine Zac 5 ?_);refine Zaj [2,3,4] hly Tryz.func52 ?_<;>refine OL.nil (Zab ?_))<;>(refine OD.st 6 ?_<;>refine Zaa ?_))|((refine NS 3 ?_)<;>((refine OD.n2 1 4 ?_ ?_)<;>(first|((refine NS 1 ?_)<;>((refine Zac 4 ?_);refine Zaj [2,3,4] hfr Tryz.func96 ?_<;>refine OL.nil (Zab ?_))<;>((refine Zac 5 ?_);refine Zaj [2,3,4] hly Tryz.func52 ?_<;>refine OL.nil (Zab ?_))<;>(refine OD.st 6 ?_<;>refine Zaa ?_))|((refine NA 4 ?_;refine Zaj [2,3,4] hfr Tryz.func96 ?_<;>refine OL.nil (Zab ?_))<;>(refine Zai 1 ?_)<;>((refine Zac 5 ?_);refine Zaj [2,3,4] hly Tryz.func52 ?_<;>refine OL.nil (Zab ?_))<;>(refine OD.st 6 ?_<;>refine Zaa ?_)))))))
      all_goals exact ZaP [0,1,2,3,4,5]
     ·refine goW ?_;exact Za1 [0,1,5]
end
theorem YhR {α:Type} {P:List α→Prop} (nil:P []) (snoc:∀ l x,P l→P (l++[x])) (l:List α):P l:=by
 rw [← List.reverse_reverse l];induction l.reverse with
 | nil=>exact nil
 | cons x r ih=>rw [List.reverse_cons];exact snoc _ _ ih
def Yh2 (l:List Ob):Int:=l.foldl (fun a x=>a+(1+(x.2.length:Int))) 1
def Ycx (l:List Ob):List Int:=(List.range l.length).map fun k=>Yh2 (l.take k)
def Yeo (at_:List Int) (l:List Ob):List Int:=l.foldl (fun w x=>w++x.1::x.2.map (YaS at_)) [0]
theorem Ycr (l:List Ob) (x:Ob):Yh2 (l++[x])=Yh2 l+(1+(x.2.length:Int)):=by simp [Yh2]
theorem YhT (at_:List Int) (l:List Ob) (x:Ob):Yeo at_ (l++[x])=Yeo at_ l++x.1::x.2.map (YaS at_):=by simp [Yeo]
theorem YkG (l:List Ob) (x:Ob):Ycx (l++[x])=Ycx l++[Yh2 l]:=by
 unfold Ycx;rw [List.length_append,List.length_singleton,List.range_succ,List.map_append,List.map_singleton,List.take_left' rfl];congr 1;refine List.map_congr_left fun k hk=>?_;rw [List.take_append_of_le_length (Nat.le_of_lt (List.mem_range.1 hk))]
theorem Yjp (l:List Ob):(Ycx l).length=l.length:=by simp [Ycx]
theorem YgO (at_:List Int) (l:List Ob):((Yeo at_ l).length:Int)=Yh2 l:=by
 induction l using YhR with
 | nil=>rfl
 | snoc l x ih=>rw [YhT,Ycr,← ih,List.length_append,List.length_cons,List.length_map];omega
theorem Yhv (l:List Ob) (k:Nat):1≤Yh2 (l.take k)∧Yh2 (l.take k)≤Yh2 l:=by
 induction l using YhR generalizing k with
 | nil=>rw [List.take_nil];exact ⟨by decide,Int.le_refl _⟩
 | snoc l x ih =>
   have h1:=ih k;have h2:=ih l.length;rw [List.take_length] at h2;by_cases hk:k≤l.length
   ·rw [List.take_append_of_le_length hk,Ycr];omega
   ·rw [List.take_of_length_le (by simp;omega),Ycr];omega
theorem Yqv {l:List Ob} {a:Int} (h:a∈Ycx l):1≤a∧a≤Yh2 l:=by
 obtain ⟨k,hk,rfl⟩:=List.mem_map.1 h;exact Yhv l k
theorem YkH (l:List Int) (f:Int→Int) (hl:l.length*16≤140737488355328):V.Spec Tryz.prog 56 [ints l,.pr (YdQ Tryz.prog (·∈l) (fun x=>[V.int x]) (fun x=>V.int (f x)) (fun _=>[]))] [] (ints (l.map f)) []:=by
 refine Se Tryz.func56 rfl rfl rfl fun B hB=>?_;refine goW ?_;refine ZaT 5 3 1 ?_;refine Zat (fun k:Nat=>[(1,.pr (YdQ Tryz.prog (·∈l) (fun x=>[V.int x]) (fun x=>V.int (f x)) (fun _=>[]))),(5,.hs 0),(8,ints l),(9,V.int l.length),(10,V.int k)]) (fun k=>[.gs false 3 1 none (((l.take k).map f).map V.int)]) (fun k=>k≤l.length) (fun k=>l.length-k) 0 [0] (Nat.zero_le _) ?_;rintro k hk;by_cases hkl:k < l.length
 ·have hlen:((l.take k).map f).length=k:=by simp;omega
  have e:((l.take k).map f).map V.int++[V.int (f l[k])]=((l.take (k+1)).map f).map V.int:=by rw [Yab hkl,List.map_append,List.map_append];rfl
  generalize (l.take k).map f=gk at *
  refine goW ?_;refine Zbm l[k] (List.getElem_mem _) ?_;refine goW ?_;exact Zan (k+1) [2] (by omega) (by omega)
 ·rw [Yaf (by omega)];refine goW ?_;refine Za4 4 ?_;exact Zad [] (.ren rfl)
theorem Ytf (n:Int) (hn:-1000000000≤n∧n≤1000000000):V.Spec Tryz.prog 57 [V.int n] [] (V.int (2*n)) []:=by
 refine Se Tryz.func57 rfl rfl rfl fun B hB=>?_;refine goW ?_;exact Zad [] (.ren rfl)
section
variable (at_:List Int) (n:Nat) (hn:at_.length=n) (ha:∀ a∈at_,0≤a∧a≤1000000000)
include hn ha
theorem Ypy (v:Int × Int) (hv:YgF v n=true):V.Spec Tryz.prog 54 [Ycb v,.ep [ints at_] 0] [] (V.int (YaS at_ v)) []:=by
 have h1:v.1=1→-1000000000≤v.2∧v.2≤1000000000:=fun h=>by
  rw [YgF,if_pos h,Bool.and_eq_true,decide_eq_true_eq,decide_eq_true_eq] at hv;exact hv
 have h3:v.1=3→0≤v.2∧v.2 < at_.length∧0≤at_.getD v.2.toNat 0∧at_.getD v.2.toNat 0≤1000000000:=fun h=>by
  rw [YgF,if_neg (by omega),if_neg (by omega),if_pos h,Bool.and_eq_true,decide_eq_true_eq,decide_eq_true_eq] at hv;refine ⟨hv.1,by omega,?_⟩;rw [List.getD_eq_getElem?_getD,List.getElem?_eq_getElem (by omega)];exact ha _ (List.getElem_mem _)
 have h:=YrC at_ v h1 h3;refine Se Tryz.func54 rfl rfl rfl fun B hB=>?_;refine goW ?_;refine OL.c h Tryz.func55 ?_;refine goW ?_;exact Zad [] (.ren rfl)
end
end Go.Proofs
namespace Go.V
open Go Go.W
theorem Zdj {C:Cx} {ρ:Ro} {η:Eta} {i o j k E E2 sz:Nat} {cs:List AV} {fz nl} {xs:List AV} (ho:η[i]?=some (.cb E cs)) (hc:cs[o]?=some (.hs j)) (hj:η[j]?=some (.gs fz E2 sz nl xs)) (hk:η.length=k):Wk C ρ η ρ ((η.set j .dead++[AO.gs fz E2 sz nl xs]).set i (.cb E (cs.set o (.hs k)))):=by
 rintro a w ⟨m,γ,ρc,hE,hR,hI⟩;obtain ⟨v,hv,_⟩:=hI.heap.get hj;have hok:=hI.heap.ok j _ _ hv hj;have hl:=hI.heap.len;have h3:=hI.over (v':=v) (o':=.gs fz E2 sz nl xs) hv hj ((Keep.refl m w).touch _) hok (fun b hb=>.inl hb);have hne:j≠i:=by intro e;subst e;rw [ho] at hj;cases hj
 have hi:i < η.length:=(List.getElem?_eq_some_iff.1 ho).1;have hjl:j < γ.length:=(List.getElem?_eq_some_iff.1 hv).1;have ho':(η.set j .dead++[AO.gs fz E2 sz nl xs])[i]?=some (.cb E cs):=by rw [List.getElem?_append_left (by simpa using hi),List.getElem?_set_ne hne];exact ho
 obtain ⟨u,hu,hok'⟩:=h3.heap.get ho';obtain ⟨b,vs,rfl,hB,hC⟩:=hok';refine ⟨m,γ++[v],ρc,hE,hR.mono (.refl _ _) (.app _ _),h3.put (o':=.cb E (cs.set o (.hs k))) hu ho' ((Keep.refl m w).touch _) ?_ (.inl rfl)⟩;have hlt:o < vs.length:=by rw [hC.1];exact (List.getElem?_eq_some_iff.1 hc).1
 have hrep:=hC.2.2 o _ _ (List.getElem?_eq_getElem hlt) hc;obtain ⟨hvo,aa,n,c,hs⟩:=hrep.hs_get;rw [List.getElem?_append_left hjl,hv] at hvo
 cases hvo
 subst hk;refine ⟨b,vs,rfl,hB,by simpa using hC.1,hC.2.1,fun q v c' hq hcq=>?_⟩;rw [List.getElem?_set] at hcq;split at hcq
 ·rename_i e
  subst e;split at hcq
  ·cases hcq
   rw [List.getElem?_eq_getElem hlt] at hq
   cases hq
   rw [hs];exact .hs (by rw [← hl];exact YaD)
  ·cases hcq
 ·exact hC.2.2 q v c' hq hcq
theorem Zcr {C:Cx} {Q:Qt} {A:Code} {ρ:Ro} {η η2:Eta} {k E j E2 sz:Nat} {cs:List AV} {fz nl} {xs:List AV} (i o:Nat) (kk:TC C Q A ρ η2) (ho:η[i]?=some (.cb E cs):=by with_unfolding_all exact rfl) (hc:cs[o]?=some (.hs j):=by with_unfolding_all exact rfl) (hj:η[j]?=some (.gs fz E2 sz nl xs):=by with_unfolding_all exact rfl) (hk:η.length=k:=by (try dsimp only [List.length])<;>exact rfl) (hη:(η.set j .dead++[AO.gs fz E2 sz nl xs]).set i (.cb E (cs.set o (.hs k)))=η2:=by (try dsimp only [List.set,List.cons_append,List.nil_append,List.append_eq])<;>exact rfl):TC C Q A ρ η:=Zbd (Zdj ho hc hj hk) (hη ▸ kk)
end Go.V
namespace Go.Proofs
open Go Go.W Go.V
abbrev Yx1 (p:Prg) (W:List Int):Eta:=[.cb 86 [.bp 1 0],.cb 93 (stC p (.hs 2) 3 (.raw (.slice none 0 0))),.gs false 3 1 none (W.map V.int),.mo (slM p.cls p.cls.length)]
abbrev Ywr (p:Prg) (W:List Int):Eta:=[.cb 86 [.bp 1 0],.cb 93 (stC p (.hs 4) 3 (.raw (.slice none 0 0))),.dead,.mo (slM p.cls p.cls.length),.gs false 3 1 none (W.map V.int)]
theorem Yte (p:Prg) (os:List Ob) (hol:os.length≤40) (hos:∀ x∈os,x.2.length≤640∧∀ v∈x.2,YgF v os.length=true) (at_:List Int) (hn:at_.length=os.length) (ha:∀ a∈at_,0≤a∧a≤1000000000) :
  Ybu Tryz.prog 51 [.ep [Yef os] 0,.bp 0 0,.ep [ints at_] 0] (Yx1 p [0]) (.tp []) (Ywr p (Yeo at_ os)) ((Yeo at_ os).length≤600) (rfv 3) [.dead,.dead,.dead,.dead]:=by
 refine Ybu.enter Tryz.tabOK Tryz.mixed Tryz.func51 rfl rfl rfl fun B hB=>?_;refine goW ?_;refine Zcr 1 0 ?_;refine Zat (fun k:Nat=>[(1,.bp 0 0),(2,.ep [ints at_] 0),(5,Yef os),(6,V.int os.length),(7,V.int k)]) (fun k=>Ywr p (Yeo at_ (os.take k))) (fun k=>k≤os.length∧(Yeo at_ (os.take k)).length≤600) (fun k=>os.length-k) 0 [0,1,2,3,4] ⟨Nat.zero_le _,by simp [Yeo]⟩ ?_;rintro k ⟨hk,hall⟩;by_cases hkl:k < os.length
 ·have hm:=hos os[k] (List.getElem_mem _);have e:=YhT at_ (os.take k) os[k];rw [← Yab hkl] at e;have hfl:(os[k].2.map (YaS at_)).length≤1000:=by rw [List.length_map];omega
  have hlyY:=YqF p (Yeo at_ (os.take k)) (by omega) (.raw (.slice none 0 0)) (fun _=>rfl) os[k].1 (os[k].2.map (YaS at_)) hfl;have hch:=Yga os[k].2 (YaS at_) (by omega);have hcl:∀ v,v∈os[k].2→V.Spec Tryz.prog 54 ([]++[Ycb v]++[.ep [ints at_] 0]) [] (V.int (YaS at_ v)) []:=fun v hv=>Ypy at_ os.length hn ha v (hm.2 v hv)
  rw [← e] at hlyY;refine goW ?_;by_cases hl:(Yeo at_ (os.take (k+1))).length≤600
  ·have hly:=hlyY.yes hl;clear hlyY;generalize hw1:Yeo at_ (os.take (k+1))=w1 at *
   generalize Yeo at_ (os.take k)=w0 at *
   refine ZaO [(1,.bp 0 0),(2,.ep [ints at_] 0),(5,Yef os),(6,V.int os.length),(7,V.int k)] (Ywr p w1) ?_ ?_
   ·(refine Zal (id:=3) true 7 8 ?_<;>refine Zaf 0 1 2 3 ?_<;>refine Zae 4 5 ?_<;>refine Zah 6 (hle:=by with_unfolding_all exact ⟨.ren rfl,LE.funT (first':=[]) (caps':=[.ep [ints at_] 0]) Tryz.func54 rfl trivial ⟨.ren rfl,trivial⟩ hcl,trivial⟩) hch Tryz.func53 ?_)<;>((refine Zac 7 ?_);refine Zaj [1,4,3] hly Tryz.func52 ?_<;>refine OL.nil (Zab ?_))<;>(refine Zaa ?_)
    all_goals exact ZaP [0,1,2,3,6]
   ·subst hw1;refine goW ?_;exact Zan (k+1) [0,1,2,3,4] ⟨by omega,hl⟩ (by omega)
  ·have hly:=hlyY.no hl;clear hlyY;have hbad:¬ (Yeo at_ os).length≤600:=fun h=>hl (by have:=YgO at_ os;have:=YgO at_ (os.take (k+1));have:=(Yhv os (k+1)).2;omega)
   generalize Yeo at_ (os.take (k+1))=w1 at *
   generalize Yeo at_ (os.take k)=w0 at *
   (refine Zal (id:=3) true 7 8 ?_<;>refine Zaf 0 1 2 3 ?_<;>refine Zae 4 5 ?_<;>refine Zah 6 (hle:=by with_unfolding_all exact ⟨.ren rfl,LE.funT (first':=[]) (caps':=[.ep [ints at_] 0]) Tryz.func54 rfl trivial ⟨.ren rfl,trivial⟩ hcl,trivial⟩) hch Tryz.func53 ?_)<;>((refine Zac 7 ?_);refine Zar [1,4,3] hly Tryz.func52 ?_<;>refine Zav ?_<;>(repeat' (first|refine Zam ?_|refine Zak ?_))<;>refine TX.no hbad ?_<;>exact Zas [0,1,2,3] (ho:=by with_unfolding_all exact ⟨⟨_,rfl,OE.dead⟩,⟨_,rfl,OE.dead⟩,⟨_,rfl,OE.dead⟩,⟨_,rfl,OE.dead⟩,trivial⟩))<;>(refine Zaa ?_)
 ·rw [Yaf (by omega)] at hall ⊢;refine goW ?_;refine TX.yes hall ?_;exact Za1 [0,1,2,3,4]
theorem Yj7 (l:List Ob) (h:∀ x∈l,x.2.length≤640):Yh2 l≤1+641*(l.length:Int):=by
 induction l using YhR with
 | nil=>decide
 | snoc l x ih =>
   have h1:=ih fun y hy=>h y (List.mem_append_left _ hy)
   have h2:=h x (by simp);rw [Ycr,List.length_append,List.length_singleton];omega
theorem Yrx {p:Prg} {os:List Ob} (hp:Ybk p=true) (ho:Ygy p.cls os=true):os.length≤40∧∀ x∈os,x.2.length≤640∧∀ v∈x.2,YgF v os.length=true:=by
 simp only [Ygy,Bool.and_eq_true,decide_eq_true_eq] at ho;refine ⟨ho.1,fun x hx=>?_⟩;have:=List.all_eq_true.1 ho.2 x hx
 simp only [obB,Bool.and_eq_true,decide_eq_true_eq] at this;exact ⟨by rw [this.2.1];exact Ya3 (Ybq hp) _,fun v hv=>List.all_eq_true.1 this.2.2 v hv⟩
section
variable (p:Prg) (hs:Ya9 p.cls) (hpk:∀ x∈p.nodes,x.2.2.length*8≤140737488355328) (os:List Ob)
include hs hpk
theorem Yfw (hp:Ybk p=true) (ho:Ygy p.cls os=true):V.Spec Tryz.prog 13 [Ya0 p,Yef os] [] (if (Yeo (Ycx os) os).length≤600 then .tp [Yaw (Yeo (Ycx os) os),ints ((Ycx os).map (2*·)),V.int 0] else .tp [.st [.raw (.slice none 0 0)],.raw (.slice none 0 0),V.int 3]) []:=by
 have h1:=Ygr p hs hpk os;rw [hp,ho] at h1;have h2:=YdY p hs hpk hp;obtain ⟨hol,hom⟩:=Yrx hp ho;have hnb:=Yj7 os fun x hx=>(hom x hx).1
 refine Se Tryz.func13 rfl rfl rfl fun B hB=>?_;repeat' (first|(with_reducible refine TC.seq ?_)|(with_reducible refine TC.region ?_))
 with_reducible refine OL.box ?_
 with_reducible refine OL.box ?_
 refine Zag 2 ?_;refine Zag 3 ?_;refine goW ?_;refine OL.c h1 Tryz.func48 ?_;refine goW ?_;refine OL.c h2 Tryz.func49 ?_;refine goW ?_;refine Zat (fun k:Nat=>[(3,.ep [Yef os] 0),(4,.bp 2 0),(8,.bp 5 0),(9,.bp 7 0),(10,V.int (Yh2 (os.take k))),(24,Yef os),(25,V.int os.length),(26,V.int k)]) (fun k=>[.dead,.dead,.cb 30 [.raw (.slice none 0 0)],.cb 93 (stC p (.raw (.slice none 0 0)) 4 (.raw (.slice none 0 0))),.mo (slM p.cls p.cls.length),.cb 86 [.bp 3 0],.gs false 3 1 none ((Ycx (os.take k)).map V.int),.cb 23 [.hs 6]]) (fun k=>k≤os.length) (fun k=>os.length-k) 0 [0,1,2,3,4,5,6,7] (Nat.zero_le _) ?_;rintro k hk;by_cases hkl:k < os.length
 ·have hm:=hom os[k] (List.getElem_mem _);have e1:=Ycr (os.take k) os[k];have e2:=YkG (os.take k) os[k];rw [← Yab hkl] at e1 e2;have hb:=Yhv os k;have hadl:=Yjp (os.take k);rw [List.length_take] at hadl;generalize hnk:Yh2 (os.take k)=nk at *
  generalize hak:Ycx (os.take k)=ak at *
  have e3:(Ycx (os.take (k+1))).map V.int=ak.map V.int++[V.int nk]:=by rw [e2,List.map_append];rfl
  have e1:=e1.symm;have e3:=e3.symm;refine goW ?_;exact Zan (k+1) [0,1,2,3,4,5,10,7] (by omega) (by omega)
 ·rw [Yaf (by omega)];have hda:=Yjp os;have hla:∀ a∈Ycx os,0≤a∧a≤1000000000:=fun a ha=>by have:=Yqv ha;omega
  have hY:=Yte p os hol hom (Ycx os) hda hla;have h4:=YkH (Ycx os) (2*·) (by omega);have h5:∀ n,n∈Ycx os→V.Spec Tryz.prog 57 [V.int n] [] (V.int (2*n)) []:=fun n hn=>Ytf n (by have:=hla n hn;omega)
  generalize Yeo (Ycx os) os=w1 at *
  generalize (Ycx os).map (2*·)=ws at *
  generalize Ycx os=ad at *
  refine Zbp 7 0 ?_;repeat' (first|(with_reducible refine TC.seq ?_)|(with_reducible refine TC.region ?_))
  refine Zag 9 ?_;refine goW ?_;by_cases hl:w1.length≤600
  ·have h3:=YbH Tryz.func51 (hY.yes hl);rw [if_pos hl];refine Zaj [5,3,8,4] h3 Tryz.func50 ?_;refine goW ?_;refine Zbp 3 0 ?_;refine ZaO [(4,.bp 2 0),(5,ints ws),(6,V.int 0)] [.dead,.dead,.cb 30 [ints w1]] ?_ ?_
   ·(refine Zal (id:=16) false 6 9 ?_<;>refine OD.n2 0 4 ?_ ?_<;>(first|refine Yaa.at 0 ?_<;>refine Yaa.s ?_ (h:=gv)<;>refine Zae 1 2 ?_<;>refine OD.n2 3 4 ?_ ?_<;>(first|refine Yaa.at 3 ?_<;>(refine Yaa.a ?_;refine Zbt ?_;refine OL.nil ?_;refine Zab ?_)<;>refine Zai 4 ?_<;>refine Zah 5 (hle:=by with_unfolding_all exact ⟨.ren rfl,LE.fun0 Tryz.func57 h5,trivial⟩) h4 Tryz.func56 ?_<;>(refine Zac 6 ?_;refine Zau ?_;refine OL.nil ?_;refine Zab ?_)<;>refine Zae 7 8 ?_<;>refine Zaa ?_|refine Yaa.at 4 ?_<;>refine Yaa.s ?_ (h:=gv)<;>refine OD.n2 3 5 ?_ ?_<;>(first|refine Yaa.at 3 ?_<;>(refine Yaa.a ?_;refine Zbt ?_;refine OL.nil ?_;refine Zab ?_)<;>refine Zah 5 (hle:=by with_unfolding_all exact ⟨.ren rfl,LE.fun0 Tryz.func57 h5,trivial⟩) h4 Tryz.func56 ?_<;>(refine Zac 6 ?_;refine Zau ?_;refine OL.nil ?_;refine Zab ?_)<;>refine Zae 7 8 ?_<;>refine Zaa ?_|refine Yaa.at 5 ?_<;>refine ZaN (hle:=by with_unfolding_all exact ⟨.ren rfl,LE.fun0 Tryz.func57 h5,trivial⟩) h4 Tryz.func56 ?_<;>(refine Zac 3 ?_;refine Zbt ?_;refine OL.nil ?_;refine Zab ?_)<;>(refine Zac 6 ?_;refine Zau ?_;refine OL.nil ?_;refine Zab ?_)<;>refine Zae 7 8 ?_<;>refine Zaa ?_))|refine Yaa.at 4 ?_<;>refine Yaa.s ?_ (h:=gv)<;>refine OD.n2 0 5 ?_ ?_<;>(first|refine Yaa.at 0 ?_<;>refine Yaa.s ?_ (h:=gv)<;>refine Zae 1 2 ?_<;>refine OD.n2 3 5 ?_ ?_<;>(first|refine Yaa.at 3 ?_<;>(refine Yaa.a ?_;refine Zbt ?_;refine OL.nil ?_;refine Zab ?_)<;>refine Zah 5 (hle:=by with_unfolding_all exact ⟨.ren rfl,LE.fun0 Tryz.func57 h5,trivial⟩) h4 Tryz.func56 ?_<;>(refine Zac 6 ?_;refine Zau ?_;refine OL.nil ?_;refine Zab ?_)<;>refine Zae 7 8 ?_<;>refine Zaa ?_|refine Yaa.at 5 ?_<;>refine ZaN (hle:=by with_unfolding_all exact ⟨.ren rfl,LE.fun0 Tryz.func57 h5,trivial⟩) h4 Tryz.func56 ?_<;>(refine Zac 3 ?_;refine Zbt ?_;refine OL.nil ?_;refine Zab ?_)<;>(refine Zac 6 ?_;refine Zau ?_;refine OL.nil ?_;refine Zab ?_)<;>refine Zae 7 8 ?_<;>refine Zaa ?_)|refine Yaa.at 5 ?_<;>refine ZaN (hle:=by with_unfolding_all exact ⟨.ren rfl,LE.fun0 Tryz.func57 h5,trivial⟩) h4 Tryz.func56 ?_<;>refine Zai 0 ?_<;>refine Zae 1 2 ?_<;>(refine Zac 3 ?_;refine Zbt ?_;refine OL.nil ?_;refine Zab ?_)<;>(refine Zac 6 ?_;refine Zau ?_;refine OL.nil ?_;refine Zab ?_)<;>refine Zae 7 8 ?_<;>refine Zaa ?_)))
    all_goals exact ZaP [0,1,2]
   ·refine goW ?_;exact Za7 [] (.ren rfl) (.ren rfl) (.ren rfl)
  ·have h3:=Yaz Tryz.func51 (hY.no hl);rw [if_neg hl];refine Zaj [5,3,8,4] h3 Tryz.func50 ?_;refine goW ?_;exact Za7 [] (.ren rfl) (.ren rfl) (.ren rfl)
end
end Go.Proofs
namespace Go.V
open Go Go.W
theorem YmH {X E ty g L cap0 cap l h i j:Nat} {w:World} {P:Program} {m:Nat→Nat} {nl nl2} {xs zs:List AV} {v:Value} {te tE:TyE} {B γ} {η:Eta} (hI:In B m w γ η) (hT:TyOK P X ⟨.slice E,te.size,te.bytes,te.zero⟩) (hE:TyOK P E tE) (hsz:tE.size=1)
  (hv:γ[i]?=some v) (ho:η[i]?=some (.gs false E 1 nl xs)) (hvj:γ[j]?=some (.slice (some ⟨g,0,none⟩) L cap0)) (hoj:η[j]?=some (.gs false E 1 nl2 zs)) (hij:i≠j) (h0:0 < zs.length) (hl:l≤h) (hh:h≤zs.length) (hcap:zs.length≤cap) (hcm:cap≤maxLen)
  (hlen:xs.length+(h-l)≤9223372036854775807) (hb:(xs.length+(h-l))*tE.bytes≤140737488355328) :
  ∃ v' m' w',(Builtin.append_ #[X,X] ty #[v,partV g 0 cap l h]).run P w=.ok v' w'∧Ext m w m' w'∧(∃ a n c,v'=.slice a n c) ∧
   ∀ nl',NL nl' v'→In B m' w' (γ++[v']) (η.set i .dead++[.gs false E 1 nl' (xs++(zs.drop l).take (h-l))]):=by
 obtain ⟨m1,o1,o2,o3,o4⟩:=hI.heap.gs ho hv;obtain ⟨h1,h2,h3⟩:=hI.heap.ok i v _ hv ho;obtain ⟨inf,i1,i2,i3,i4,i5⟩:=hE.info;obtain ⟨d,hu,hd⟩:=hT.sh;obtain rfl:d=_:=hd;obtain ⟨c1,c2,c3,c4⟩:=h1;obtain ⟨cur,hL,hg,hcl,hce⟩:=hI.cur hvj hoj h0;have hjo:=(hI.heap.ok j _ _ hvj hoj).1;obtain ⟨d1,d2,d3,d4⟩:=hjo;have hlt:g < w.heap.size:=(Array.getElem?_eq_some_iff.1 hg).1;obtain ⟨cc,rfl⟩:∃ cc,cap0=cc+1:=by
  rcases d2 with ⟨e,_⟩|⟨_,_,e,q⟩|⟨g',cap',cur',e,p0,_⟩
  ·cases e
  ·subst q;simp at h0
  ·cases e;exact ⟨cap0-1,by omega⟩
 have hog:Yay (.slice (some ⟨g,0,none⟩) L (cc+1))=some g:=by simp [Yay]
 have hm0:m g=0:=d4 g hog;have hvg:Yay v≠some g:=fun e=>hI.heap.apart i j _ _ _ _ g hij hv ho hvj hoj e hog
 have hyl:((zs.drop l).take (h-l)).length=h-l:=by simp;omega
 have hE1:Ext m1 w (Yb8 m1 g cur.length) w:=Ynl hg (by rw [o3 g (Ne.symm hvg),hm0];exact Nat.zero_le _) (Nat.le_refl _) (fun _ _ _=>rfl) hg (fun _ _ _ hc=>hc);have o1':W.Own E 1 (CK m w) (Yb8 m1 g cur.length) w v xs:=Own.mark o1 (fun b hb=>Ycj (fun e=>hvg (e ▸ hb))) (fun _ _ hc=>hc);have hr1:RS 1 (CK m w) (Yb8 m1 g cur.length) w (partV g 0 cap l h) ((zs.drop l).take (h-l)):=by
  unfold partV;by_cases hcl':cap=l
  ·rw [if_pos hcl'];refine .inr (.inl ⟨g,0,cap-l,by rw [hyl],by rw [hyl];omega,by omega,fun q x hx=>?_⟩);have:=(List.getElem?_eq_some_iff.1 hx).1
   omega
  ·rw [if_neg hcl'];refine .inr (.inl ⟨g,0+l,cap-l,by rw [hyl],by rw [hyl];omega,by omega,fun q x hx=>?_⟩);have hq:q < h-l:=by have:=(List.getElem?_eq_some_iff.1 hx).1;omega
   rw [List.getElem?_take,if_pos hq,List.getElem?_drop] at hx;obtain ⟨y,hy,hc⟩:=hce _ _ hx;have hyl:=(List.getElem?_eq_some_iff.1 hy).1;refine ⟨[y],rfl,fun k c hk=>?_,hc⟩;have hk0:k=0:=by have:=(List.getElem?_eq_some_iff.1 hk).1;simp at this;omega
   subst hk0;simp only [List.getElem?_cons_zero,Option.some.injEq] at hk;subst hk;refine ⟨?_,?_⟩
   ·simp only [Yb8,if_true];omega
   ·simp only [World.cell?,hg];simp only [Nat.zero_add,Nat.mul_one,Nat.add_zero];simpa using hy
 obtain ⟨v',m2,w',hrun,hA⟩:=YfQ (P:=P) (ty:=ty) hu i1 (i2.trans hsz) i3 i4 (i5.trans hsz) (by omega) o1' hr1 (by rw [hyl];exact hlen) (by rw [hyl];exact hb);obtain ⟨hT1,hO,hob,hnil⟩:=hA;have hsh:∃ a n c,v'=.slice a n c:=by
  obtain ⟨b,cap,e,_⟩:=hO.rs.shape;exact ⟨_,_,_,e⟩
 have hcells:∀ x∈xs++(zs.drop l).take (h-l),x.cells.length=1:=fun x hx=>by
  rcases List.mem_append.1 hx with h|h
  ·exact h3 x h
  ·exact (hI.heap.ok j _ _ hvj hoj).2.2 x (List.mem_of_mem_drop (List.mem_of_mem_take h))
 have hblk:∀ b,Yay v'=some b→Yay v=some b∨w.heap.size≤b:=fun b hb=>by
  rcases hob with e|e
  ·exact .inl (e ▸ hb)
  ·exact .inr (e b hb)
 have hg':Yay v'≠some g:=fun e=>by
  rcases hblk g e with q|q
  ·exact hvg q
  ·omega
 have hT3:W.Touch (Yay v) m w (fun b=>if some b=Yay v' then 0 else if b=g then m b else m2 b) w':=by
  refine ⟨hT1.grown,fun b hb hX=>?_,hT1.grown.size,fun b hb=>?_,fun b k c hk hc=>?_⟩
  ·split
   ·rename_i e
    rcases hblk b e.symm with h|h
    ·exact (hX h.symm).elim
    ·omega
   ·split
    ·rfl
    ·rename_i hbg
     rw [hT1.lim b hb hX,Ycj hbg,o3 b hX]
  ·split
   ·rename_i e
    rcases hblk b e.symm with h|h
    ·rw [c4 b h];exact Nat.le_refl _
    ·omega
   ·split
    ·exact Nat.le_refl _
    ·exact Nat.le_trans (o4.lim b hb) (Nat.le_trans (hE1.lim b hb) (hT1.ext.lim b hb))
  ·have hne':some b≠Yay v:=fun e=>by rw [c4 b e.symm] at hk;omega
   rw [World.cell?_of_block (w:=w) (hT1.grown.block b (YbQ hc) hne')];exact hc
 have hO2:=Own.mark (m':=fun b=>if b=g then m b else m2 b) (Own.imp (C':=CK (fun b=>if some b=Yay v' then 0 else if b=g then m b else m2 b) w') hO (fun cs x hc=>CMono.mono (R:=CA) hT3.ext hc)) (fun b hb=>by
  have:b≠g:=fun e=>hg' (by rw [← e];exact hb)
  simp only [if_neg this]) (fun _ _ hc=>hc)
 refine ⟨v',_,w',hrun,hT3.ext,hsh,fun nl' hnl=>hI.over hv ho hT3 ⟨⟨fun b=>if b=g then m b else m2 b,hO2,fun b hb=>?_,fun b hb=>?_⟩,hnl,hcells⟩ hblk⟩
 ·simp only [if_neg hb]
 ·simp only [hb,if_true]
theorem Zdk {C:Cx} {ops:Array Oper} {Q:Qt} {ρ:Ro} {η η2:Eta} {rest:List Oper} {T d X E:Nat} {pos:String} {af:Array Edge} {x y:Operand} {i j k g L cap0 cap l h bt:Nat} {nl nl2} {xs zs:List AV} (hvj:C.B.γ[j]?=some (.slice (some ⟨g,0,none⟩) L cap0)) (hcap:zs.length≤cap) (hcm:cap≤maxLen) (h0:0 < zs.length) (hl:l≤h) (hh:h≤zs.length) (kk:OL C ops Q rest ((d,.hs k)::ρ) η2)
  (hs:(C.tab X).map (·.sh)=some (.slice E):=by with_unfolding_all exact rfl) (hz:(C.tab E).map (fun e=>(e.size,e.bytes))=some (1,bt):=by with_unfolding_all exact rfl)
  (hx:ev2 ρ x=some (.hs i):=by with_unfolding_all exact rfl) (ho:η[i]?=some (.gs false E 1 nl xs):=by with_unfolding_all exact rfl) (hy:ev2 ρ y=some (.raw (partV g 0 cap l h)):=by with_unfolding_all exact rfl) (hoj:η[j]?=some (.gs false E 1 nl2 zs):=by with_unfolding_all exact rfl) (hij:Nat.beq i j=false:=by with_unfolding_all exact rfl)
  (hk:η.length=k:=by (try dsimp only [List.length])<;>exact rfl) (hη:η.set i .dead++[AO.gs false E 1 none (xs++(zs.drop l).take (h-l))]=η2:=by (try dsimp only [List.set,List.cons_append,List.nil_append,List.append_eq])<;>exact rfl) (hd:Nat.blt d C.N=true:=by with_unfolding_all exact rfl)
  (hlen:xs.length+(h-l)≤9223372036854775807:=by (try simp only [List.length_map,List.length_nil]);omega) (hb:(xs.length+(h-l))*bt≤140737488355328:=by (try simp only [List.length_map,List.length_nil]);omega) :
  OL C ops Q (⟨some d,.call ⟨.builtin .append,#[x,y],#[X,X]⟩,T,pos,af,none⟩::rest) ρ η:=by
 rintro a w ⟨m,γ,ρc,hE,hR,hI⟩;obtain ⟨v,g1,g2⟩:=hR.ev hx;have hne:i≠j:=by intro e;subst e;simp at hij
 obtain ⟨hv,_⟩:=g2.hs_get;have hvj':=hI.pre j _ hvj
 cases ht:C.tab X with
 | none=>rw [ht] at hs;cases hs
 | some te =>
   rw [ht] at hs;simp at hs
   cases hte:C.tab E with
   | none=>rw [hte] at hz;cases hz
   | some tE =>
     rw [hte] at hz;simp at hz;obtain ⟨v',m',w',hrun,hext,⟨q1,q2,q3,rfl⟩,hin⟩:=YmH (ty:=T) hI ((C.hT X te ht).re hs) (C.hT E tE hte) hz.1 hv ho hvj' hoj hne h0 hl hh hcap hcm hlen (by rw [hz.2];exact hb);subst hη;have hlq:=hI.heap.len;refine Cx.lcons (wl_value (v:=.slice q1 q2 q3) (w':=w') rfl ?_ (kk _ _ ⟨m',_,_,hE.put _ (by simpa using hd),⟨rfl,.hs (by rw [← hk,← hlq];exact YaD),hR.mono hext (.app _ _)⟩,hin none (NL.none _)⟩));simp [execOp,resolve,invoke,builtin,hE.ev g1,hE.ev (hR.raw hy),hrun]
end Go.V
