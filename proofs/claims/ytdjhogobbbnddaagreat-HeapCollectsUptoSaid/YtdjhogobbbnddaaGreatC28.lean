/- Lemmas for the claim; no conditions. -/
import Derived.Test.YtdjhogobbbnddaaGreatC27
import Derived.Test.YtdjhogobbbnddaaGreatC15
import Derived.Test.YtdjhogobbbnddaaGreatC14
import Derived.Laws.IdiomCopy
import Derived.Test.YtdjhogobbbnddaaGreatC23
import Derived.Test.YtdjhogobbbnddaaGreatC18
import Derived.Test.YtdjhogobbbnddaaGreatC20
import Derived.Test.YtdjhogobbbnddaaGreatC24
import Derived.Test.YtdjhogobbbnddaaGreatC26
import Derived.Test.YtdjhogobbbnddaaGreatC16
import Derived.Test.YtdjhogobbbnddaaGreatC13
namespace Go.V
open Go Go.W
theorem In.cur {B m w γ} {η:Eta} {i T:Nat} {nl} {xs:List AV} {g n c:Nat} (hI:In B m w γ η) (hv:γ[i]?=some (.slice (some ⟨g,0,none⟩) n c)) (ho:η[i]?=some (.gs false T 1 nl xs)) (h0:0 < xs.length) :
  ∃ cur:List Value,n=xs.length∧w.heap[g]?=some (.cells cur.toArray T (0,0))∧xs.length≤cur.length∧∀ (j:Nat) x,xs[j]?=some x→∃ v,cur[j]?=some v∧CL [] m w [v] x.cells:=by
 obtain ⟨hown,hnl,hlen⟩:=hI.heap.ok i _ _ hv ho;simp only [Bool.false_eq_true,if_false] at hown;obtain ⟨m',hown,hm1,hm2⟩:=hown;rcases hown with ⟨_,rfl⟩|⟨_,_,_,rfl⟩|⟨g',cap,cur,hve,hc0,hg,h1,h2,h3,h4,h5⟩
 ·simp at h0
 ·simp at h0
 ·cases hve
  refine ⟨cur.toList,rfl,by simpa using hg,by simp;omega,fun j x hx=>?_⟩;obtain ⟨cs,a1,a2,a3⟩:=h5 j x hx;obtain ⟨v,rfl⟩:∃ v,cs=[v]:=by
   match cs,a1 with
   | [v],_=>exact ⟨v,rfl⟩
  exact ⟨v,by have:=a2 0 v rfl;simpa using this,a3⟩
theorem In.span {B m w γ} {η:Eta} {i k T:Nat} {nl} {xs:List AV} {g n c:Nat} {vs:List Value} {us:List AV} {cur:List Value} (hI:In B m w γ η) (hv:γ[i]?=some (.slice (some ⟨g,0,none⟩) n c)) (ho:η[i]?=some (.gs false T 1 nl xs)) (h0:0 < xs.length) (hcur:w.heap[g]?=some (.cells cur.toArray T (0,0)))
  (hul:us.length=vs.length) (hC:∀ (j:Nat) v u,vs[j]?=some v→us[j]?=some u→u.cells.length=1∧CL [] m w [v] u.cells) (hk:k+vs.length≤xs.length) :
  k+vs.length≤cur.length∧Ext m w m (w.setRow g (cur.take k++vs++cur.drop (k+vs.length)).toArray) ∧
   In B m (w.setRow g (cur.take k++vs++cur.drop (k+vs.length)).toArray) γ (η.set i (.gs false T 1 nl (xs.take k++us++xs.drop (k+us.length)))):=by
 obtain ⟨hown,hnl,hlen⟩:=hI.heap.ok i _ _ hv ho;simp only [Bool.false_eq_true,if_false] at hown;obtain ⟨m',hown,hm1,hm2⟩:=hown;rcases hown with ⟨_,rfl⟩|⟨_,_,_,rfl⟩|⟨g',cap,cur',hve,hc0,hg,h1,h2,h3,h4,h5⟩
 ·simp at h0
 ·simp at h0
 ·cases hve
  rw [hg] at hcur;simp only [Option.some.injEq,Obj.cells.injEq,and_true] at hcur;obtain rfl:=hcur;have hob:Yay (.slice (some ⟨g,0,none⟩) xs.length c)=some g:=by
   obtain ⟨c',rfl⟩:∃ c',c=c'+1:=⟨c-1,by omega⟩;simp [Yay]
  have hB:Box m w g cur T:=⟨hg,hm2 g hob⟩;have h3':c≤cur.length:=by simpa using h3
  have hbd:k+vs.length≤cur.length:=by omega
  obtain ⟨t1,t2⟩:=Yci (vs:=cur.take k++vs++cur.drop (k+vs.length)) hB;have hsl:=Ycd cur vs k hbd;have hsg:=Ycc cur vs k hbd;have hxl:=Ycd xs us k (by omega);have hxg:=Ycc xs us k (by omega);refine ⟨hbd,t1.ext,hI.put (o':=.gs false T 1 nl (xs.take k++us++xs.drop (k+us.length))) hv ho (by simp only [blk];rw [hob];exact t1) ⟨?_,?_,?_⟩ (.inl rfl)⟩
  ·simp only [Bool.false_eq_true,if_false];refine ⟨m',.inr (.inr ⟨g,c,_,by rw [hxl],hc0,t2.heap,by rw [hxl];exact h1,h2,by rw [List.size_toArray,hsl];simpa using h3,by rw [hxl];exact h4,fun j x hx=>?_⟩),hm1,hm2⟩;rw [hxg] at hx;by_cases c1:j < k
   ·rw [if_pos c1] at hx;obtain ⟨cs,a1,a2,a3⟩:=h5 j x hx;refine ⟨cs,a1,fun q cc hq=>?_,CL.mono t1.ext (.refl _) a3⟩;have hq1:=(List.getElem?_eq_some_iff.1 hq).1;have:=a2 q cc hq
    simp only [List.getElem?_toArray] at this ⊢;rw [hsg,if_pos (by omega)];exact this
   ·rw [if_neg c1] at hx;by_cases c2:j < k+us.length
    ·rw [if_pos c2] at hx;have hjv:j-k < vs.length:=by omega
     have hv1:vs[j-k]?=some vs[j-k]:=List.getElem?_eq_getElem hjv;obtain ⟨_,hc2⟩:=hC _ _ _ hv1 hx;refine ⟨[vs[j-k]],rfl,fun q cc hq=>?_,CL.mono t1.ext (.refl _) hc2⟩
     cases q with
     | zero =>
       simp at hq;subst hq;simp only [List.getElem?_toArray,Nat.mul_one,Nat.add_zero];rw [hsg,if_neg c1,if_pos (by omega)];exact hv1
     | succ q=>simp at hq
    ·rw [if_neg c2] at hx;obtain ⟨cs,a1,a2,a3⟩:=h5 j x hx;refine ⟨cs,a1,fun q cc hq=>?_,CL.mono t1.ext (.refl _) a3⟩;have hq1:=(List.getElem?_eq_some_iff.1 hq).1;have:=a2 q cc hq
     simp only [List.getElem?_toArray] at this ⊢;rw [hsg,if_neg (by omega),if_neg (by omega)];exact this
  ·refine ⟨fun e=>?_,fun e=>hnl.2 e⟩;exact hnl.1 e
  ·intro x hx;rcases List.mem_append.1 hx with hx|hx
   ·rcases List.mem_append.1 hx with hx|hx
    ·exact hlen x (List.mem_of_mem_take hx)
    ·obtain ⟨j,hj,rfl⟩:=List.mem_iff_getElem.1 hx;exact (hC j _ _ (List.getElem?_eq_getElem (by omega)) (List.getElem?_eq_getElem hj)).1
   ·exact hlen x (List.mem_of_mem_drop hx)
section
variable {C:Cx} {ops:Array Oper} {Q:Qt} {ρ ρ':Ro} {η η' η2:Eta} {rest:List Oper} {T d X E:Nat} {pos:String} {af:Array Edge} {x y z:Operand} {A:Code} {e:Exit}
theorem TC.rebase (k:∀ (B':Base) (hB':B'.γ.length=η.length),(∀ m w γ η',In B' m w γ η'→In C.B m w γ η')→(∀ (i:Nat) o,η[i]?=some o→∃ v,B'.γ[i]?=some v∧YcR B'.m B'.w B'.γ v o) →
  TC ⟨C.P,C.tab,C.hT,C.hm,C.N,C.D,B',η.length,hB',C.r,C.k⟩ Q A ρ η):TC C Q A ρ η:=by
 rintro a w ⟨m,γ,ρc,hE,hR,hI⟩;have h:=k ⟨m,w,Ybl γ η,γ⟩ hI.heap.len (fun m' w' γ' η' h=>h.comp hI.far (Yaq hI) hI.pre) (fun i o ho=>hI.heap.get ho) a w ⟨m,γ,ρc,hE,hR,hI.rebase (.refl _)⟩;exact h
theorem Za0 {B':Base} {n':Nat} {hB':B'.γ.length=n'} (hu:∀ m w γ η',In B' m w γ η'→In C.B m w γ η') (h:TX C Q e ρ η):TX ⟨C.P,C.tab,C.hT,C.hm,C.N,C.D,B',n',hB',C.r,C.k⟩ Q e ρ η:=by
 rintro a w ⟨m,γ,ρc,hE,hR,hI⟩;exact h a w ⟨m,γ,ρc,hE,hR,hu _ _ _ _ hI⟩
theorem Yhn {m w γ v T nl} {xs:List AV} (h:YcR m w γ v (.gs false T 1 nl xs)) (h0:0 < xs.length):∃ g cap,v=.slice (some ⟨g,0,none⟩) xs.length cap∧xs.length≤cap:=by
 obtain ⟨hown,_,_⟩:=h;simp only [Bool.false_eq_true,if_false] at hown;obtain ⟨m',hown,_,_⟩:=hown;rcases hown with ⟨_,rfl⟩|⟨_,_,_,rfl⟩|⟨g',cap,cur',hve,hc0,hg,h1,h2,h3,h4,h5⟩
 ·simp at h0
 ·simp at h0
 ·exact ⟨g',cap,hve,h1⟩
theorem ZbR {t i:Nat} {a:Option Addr} {n c:Nat} (hx:lk ρ t=some (.hs i)) (hγ:C.B.γ[i]?=some (.slice a n c)):Wk C ρ η ((t,.raw (.slice a n c))::ρ) η:=by
 rintro ac w ⟨m,γ,ρc,hE,hR,hI⟩;obtain ⟨v,h1,h2⟩:=hR.look hx
 cases h2 with
 | @hs _ _ a' n' c' hb =>
 have:=hI.pre i _ hγ
 rw [hb] at this;simp only [Option.some.injEq,Value.slice.injEq] at this;obtain ⟨rfl,rfl,rfl⟩:=this;refine ⟨m,γ,(t,.slice a' n' c')::ρc,⟨hE.size,hE.defers,fun s q hs=>?_⟩,⟨rfl,.raw rfl,hR⟩,hI⟩;simp only [W.look] at hs
 cases hb':Nat.beq t s with
 | true =>
   rw [hb'] at hs;simp at hs;subst hs;rw [← Nat.eq_of_beq_eq_true hb'];exact hE.look _ _ h1
 | false=>rw [hb'] at hs;exact hE.look _ _ (by simpa using hs)
theorem Zdp {t i:Nat} {a:Option Addr} {n c:Nat} (hx:lk ρ t=some (.raw (.slice a n c))) (hγ:C.B.γ[i]?=some (.slice a n c)):Wk C ρ η ((t,.hs i)::ρ) η:=by
 rintro ac w ⟨m,γ,ρc,hE,hR,hI⟩;obtain ⟨v,h1,h2⟩:=hR.look hx
 cases h2 with
 | raw h =>
 refine ⟨m,γ,(t,.slice a n c)::ρc,⟨hE.size,hE.defers,fun s q hs=>?_⟩,⟨rfl,.hs (hI.pre i _ hγ),hR⟩,hI⟩;simp only [W.look] at hs
 cases hb':Nat.beq t s with
 | true =>
   rw [hb'] at hs;simp at hs;subst hs;rw [← Nat.eq_of_beq_eq_true hb'];exact hE.look _ _ h1
 | false=>rw [hb'] at hs;exact hE.look _ _ (by simpa using hs)
theorem Yud {M:Bool} {a:Option Addr} {n c:Nat} (hs:(C.tab X).map (·.sh)=some (.slice E):=by with_unfolding_all exact rfl) (hx:ev2 ρ x=some (.raw (.slice a n c)):=by with_unfolding_all exact rfl):Yaj C.P C.N C.D (.call ⟨.builtin .len,#[x],#[X]⟩) ρ η (V.int n) M:=fun m w γ ρc ac hE hR hH=>by
 obtain ⟨dd,hu,hd⟩:=YcO C.hT hs;obtain rfl:dd=_:=hd;exact ⟨_,.raw rfl,fun _ _ _ _ _ _=>by simp [execOp,resolve,invoke,builtin,hE.ev (hR.raw hx),Builtin.len_,run_underlying hu,goInt]⟩
theorem Ypl {M:Bool} {g o len cap l:Nat} {i:Int} (hs:(C.tab X).map (·.sh)=some (.slice E):=by with_unfolding_all exact rfl) (hz:(C.tab E).map (·.size)=some 1:=by with_unfolding_all exact rfl) (hx:ev2 ρ x=some (.raw (.slice (some ⟨g,o,none⟩) len cap)):=by with_unfolding_all exact rfl) (hy:ev2 ρ y=some (.raw (.int .i64 i)):=by with_unfolding_all exact rfl)
  (hi:i=(l:Nat):=by omega) (hl:l≤len:=by omega) (hlc:l < cap:=by omega) (_hc:len≤cap:=by omega):Yaj C.P C.N C.D (.slice X x (some y) none none) ρ η (.raw (.slice (some ⟨g,o+l,none⟩) (len-l) (cap-l))) M:=fun m w γ ρc ac hE hR hH=>by
 obtain ⟨dd,hu,hd⟩:=YcO C.hT hs;obtain rfl:dd=_:=hd;obtain ⟨inf,i1,i2⟩:=Ybh C.hT hz;subst hi;refine ⟨_,.raw rfl,fun _ _ _ _ _ _=>?_⟩;have:¬ cap=l:=by omega
 simp [execOp,hE.ev (hR.raw hx),hE.ev (hR.raw hy),Instr.sliceAt,run_underlying hu,Instr.slice,Instr.sliceBounds,Instr.sliceBound,asIntOf,sizeOf,typeInfo,i1,i2,hl,this,Addr.add]
theorem Yvi {M:Bool} {g o len cap h:Nat} {i:Int} (hs:(C.tab X).map (·.sh)=some (.slice E):=by with_unfolding_all exact rfl) (hz:(C.tab E).map (·.size)=some 1:=by with_unfolding_all exact rfl) (hx:ev2 ρ x=some (.raw (.slice (some ⟨g,o,none⟩) len cap)):=by with_unfolding_all exact rfl) (hy:ev2 ρ y=some (.raw (.int .i64 i)):=by with_unfolding_all exact rfl)
  (hi:i=(h:Nat):=by omega) (hh:h≤cap:=by omega):Yaj C.P C.N C.D (.slice X x none (some y) none) ρ η (.raw (.slice (some ⟨g,o,none⟩) h cap)) M:=fun m w γ ρc ac hE hR hH=>by
 obtain ⟨dd,hu,hd⟩:=YcO C.hT hs;obtain rfl:dd=_:=hd;obtain ⟨inf,i1,i2⟩:=Ybh C.hT hz;subst hi;refine ⟨_,.raw rfl,fun _ _ _ _ _ _=>?_⟩;simp [execOp,hE.ev (hR.raw hx),hE.ev (hR.raw hy),Instr.sliceAt,run_underlying hu,Instr.slice,Instr.sliceBounds,Instr.sliceBound,asIntOf,sizeOf,typeInfo,i1,hh,Addr.add]
end
section
variable {C:Cx} {ops:Array Oper} {Q:Qt} {ρ ρ':Ro} {η η' η2:Eta} {rest:List Oper} {T d X Y E:Nat} {pos:String} {af:Array Edge} {x y z:Operand}
theorem YiZ {P:Program} {X Y ty E g o1 l1 c1 o2 l2 c2 n:Nat} {b2:Nat} {T:TypeId} {inf:TypeInfo} {w:World} {cur vs:List Value} (hu:P.underlying X=some (.slice E)) (hi:P.info? E=some inf) (hsz:inf.size=1) (hg:w.heap[g]?=some (.cells cur.toArray T (0,0))) (hn:n=Min.min l2 l1) (hvl:vs.length=n) (hbd:o1+n≤cur.length)
  (hsrc:∀ j v,vs[j]?=some v→w.cell? ⟨b2,o2+j,none⟩=some v) (h1:∀ v∈vs,v.oneCell'=true) :
  (Builtin.copy_ #[X,Y] ty #[.slice (some ⟨g,o1,none⟩) l1 c1,.slice (some ⟨b2,o2,none⟩) l2 c2]).run P w=.ok (goInt n) (w.setRow g (cur.take o1++vs++cur.drop (o1+vs.length)).toArray):=by
 subst hvl;have hl:=run_loadCells_list (P:=P) w ⟨b2,o2,none⟩ vs (fun j v hj=>by rw [Yak];exact hsrc j v hj);have hst:=run_storeCells_at P g o1 T vs 0 cur.toArray w hg (by simp;omega) h1;simp only [Nat.add_zero] at hst;have hm:Nat.min l2 l1=vs.length:=hn.symm;simp only [List.append_assoc] at hst;simp [Builtin.copy_,run_underlying hu,Builtin.lenOf,Builtin.firstCells,sizeOf,typeInfo,hi,hsz,hm,hl,hst]
theorem Zdq {i g L cap o1 l1 c1 o2 l2 c2 T':Nat} {nl} {xs:List AV} (n:Nat) (kk:OL C ops Q rest ((d,V.int n)::ρ) η2) (hs:(C.tab X).map (·.sh)=some (.slice E):=by with_unfolding_all exact rfl) (hz:(C.tab E).map (·.size)=some 1:=by with_unfolding_all exact rfl)
  (hx:ev2 ρ x=some (.raw (.slice (some ⟨g,o1,none⟩) l1 c1)):=by with_unfolding_all exact rfl) (hy:ev2 ρ y=some (.raw (.slice (some ⟨g,o2,none⟩) l2 c2)):=by with_unfolding_all exact rfl) (hγ:C.B.γ[i]?=some (.slice (some ⟨g,0,none⟩) L cap):=by assumption)
  (ho:η[i]?=some (.gs false T' 1 nl xs):=by with_unfolding_all exact rfl) (hη:η.set i (.gs false T' 1 nl (xs.take o1++(xs.drop o2).take n++xs.drop (o1+n)))=η2:=by (try dsimp only [List.set])<;>exact rfl) (hd:Nat.blt d C.N=true:=by with_unfolding_all exact rfl)
  (hn:n=Min.min l2 l1:=by omega) (h1:o1+n≤xs.length:=by (try simp only [List.length_map]);omega) (h2:o2+n≤xs.length:=by (try simp only [List.length_map]);omega) (h0:0 < xs.length:=by (try simp only [List.length_map]);omega) :
  OL C ops Q (⟨some d,.call ⟨.builtin .copy,#[x,y],#[X,Y]⟩,T,pos,af,none⟩::rest) ρ η:=by
 rintro a w ⟨m,γ,ρc,hE,hR,hI⟩;obtain ⟨dd,hu,hdd⟩:=YcO C.hT hs;obtain rfl:dd=_:=hdd;obtain ⟨inf,i1,i2⟩:=Ybh C.hT hz;have hv:=hI.pre i _ hγ;obtain ⟨cur,hnL,hcur,hcl,hce⟩:=hI.cur hv ho h0;have hvl:((cur.drop o2).take n).length=n:=by simp;omega
 have hul:((xs.drop o2).take n).length=n:=by simp;omega
 have hC:∀ (j:Nat) v u,((cur.drop o2).take n)[j]?=some v→((xs.drop o2).take n)[j]?=some u→u.cells.length=1∧CL [] m w [v] u.cells:=by
  intro j v u hv hu;have hj:j < n:=by have:=(List.getElem?_eq_some_iff.1 hv).1;omega
  rw [List.getElem?_take,if_pos hj,List.getElem?_drop] at hv hu;obtain ⟨v',q1,q2⟩:=hce _ _ hu;rw [hv] at q1
  cases q1
  exact ⟨by have:=q2.1;simpa using this.symm,q2⟩
 obtain ⟨hb,hext,hI'⟩:=hI.span hv ho h0 hcur (by rw [hul,hvl]) hC (k:=o1) (by rw [hvl];exact h1);rw [hul] at hI';rw [hvl] at hext hI' hb;subst hη;have hone:∀ v∈(cur.drop o2).take n,v.oneCell'=true:=by
  intro v hv;obtain ⟨j,hj,rfl⟩:=List.mem_iff_getElem.1 hv;have:=hC j _ _ (List.getElem?_eq_getElem hj) (List.getElem?_eq_getElem (by omega))
  exact this.2.2.1 _ (by simp)
 have hrun:=YiZ (P:=C.P) (X:=X) (Y:=Y) (ty:=T) (l1:=l1) (c1:=c1) (l2:=l2) (c2:=c2) (o1:=o1) (o2:=o2) (b2:=g) (n:=n) (vs:=(cur.drop o2).take n) hu i1 i2 hcur hn hvl (by omega) (fun j v hj=>by
  have hj':j < n:=by have:=(List.getElem?_eq_some_iff.1 hj).1;omega
  rw [List.getElem?_take,if_pos hj',List.getElem?_drop] at hj;simp [World.cell?,hcur,hj]) hone
 rw [hvl] at hrun;refine Cx.lcons (wl_value (v:=.int .i64 n) (w':=w.setRow g (cur.take o1++(cur.drop o2).take n++cur.drop (o1+n)).toArray) rfl ?_ (kk _ _ ⟨m,γ,_,hE.put _ (by simpa using hd),⟨rfl,.raw rfl,hR.mono hext (.refl _)⟩,hI'⟩));simp [execOp,resolve,invoke,builtin,hE.ev (hR.raw hx),hE.ev (hR.raw hy),hrun,goInt]
theorem ZcK {α:Type} {f:α→AV} {i g L cap o1 l1 c1 T':Nat} {nl nl2} {xs:List AV} {ys:List α} (n:Nat) (kk:OL C ops Q rest ((d,V.int n)::ρ) η2) (hs:(C.tab X).map (·.sh)=some (.slice E):=by with_unfolding_all exact rfl) (hz:(C.tab E).map (·.size)=some 1:=by with_unfolding_all exact rfl)
  (hx:ev2 ρ x=some (.raw (.slice (some ⟨g,o1,none⟩) l1 c1)):=by with_unfolding_all exact rfl) (hy:ev2 ρ y=some (.sl 1 nl2 (ys.map f)):=by with_unfolding_all exact rfl) (hγ:C.B.γ[i]?=some (.slice (some ⟨g,0,none⟩) L cap):=by assumption)
  (ho:η[i]?=some (.gs false T' 1 nl xs):=by with_unfolding_all exact rfl) (hη:η.set i (.gs false T' 1 nl (xs.take o1++(ys.take n).map f++xs.drop (o1+n)))=η2:=by (try dsimp only [List.set])<;>exact rfl) (hd:Nat.blt d C.N=true:=by with_unfolding_all exact rfl)
  (hn:n=Min.min ys.length l1:=by omega) (h1:o1+n≤xs.length:=by (try simp only [List.length_map]);omega) (h0:0 < xs.length:=by (try simp only [List.length_map]);omega) (hn0:0 < n:=by omega) :
  OL C ops Q (⟨some d,.call ⟨.builtin .copy,#[x,y],#[X,Y]⟩,T,pos,af,none⟩::rest) ρ η:=by
 rintro a w ⟨m,γ,ρc,hE,hR,hI⟩;obtain ⟨dd,hu,hdd⟩:=YcO C.hT hs;obtain rfl:dd=_:=hdd;obtain ⟨inf,i1,i2⟩:=Ybh C.hT hz;have hv:=hI.pre i _ hγ;obtain ⟨cur,hnL,hcur,hcl,hce⟩:=hI.cur hv ho h0;obtain ⟨sv,g1,g2⟩:=hR.ev hy;have hrs:=g2.rs.1;have hyl:ys.length=(ys.map f).length:=by simp
 rcases hrs with ⟨_,hnil⟩|⟨b,o,cap2,rfl,q1,q2,q3⟩|⟨aw,_,hnil⟩
 ·rw [hnil,List.length_nil] at hyl;omega
 rotate_left
 ·rw [hnil,List.length_nil] at hyl;omega
 obtain ⟨vs,hvs⟩:∃ vs:List Value,vs=(List.range n).map fun j=>(w.cell? ⟨b,o+j,none⟩).getD (.bool false):=⟨_,rfl⟩
 have hvl:vs.length=n:=by rw [hvs];simp
 have hul:((ys.take n).map f).length=n:=by simp;omega
 have hvc:∀ j v,vs[j]?=some v→w.cell? ⟨b,o+j,none⟩=some v∧∀ u,((ys.take n).map f)[j]?=some u→u.cells.length=1∧CL [] m w [v] u.cells:=by
  intro j v hj;have hjn:j < n:=by have:=(List.getElem?_eq_some_iff.1 hj).1;omega
  have hjy:j < (ys.map f).length:=by omega
  obtain ⟨cs,a1,a2,a3⟩:=q3 j _ (List.getElem?_eq_getElem hjy);obtain ⟨v',rfl⟩:∃ v,cs=[v]:=by
   match cs,a1 with
   | [v],_=>exact ⟨v,rfl⟩
  have hc:=(a2 0 v' rfl).2;simp only [Nat.mul_one,Nat.add_zero] at hc;rw [hvs,List.getElem?_map,List.getElem?_range hjn] at hj;simp only [Option.map_some,Option.some.injEq] at hj;rw [hc] at hj;simp only [Option.getD_some] at hj;subst hj;refine ⟨hc,fun u hu=>?_⟩;have hu':u=(ys.map f)[j]:=by
   rw [List.map_take,List.getElem?_take,if_pos hjn,List.getElem?_eq_getElem hjy] at hu;exact (Option.some.inj hu).symm
  subst hu';exact ⟨by have:=a3.1;simpa using this.symm,a3⟩
 obtain ⟨hb,hext,hI'⟩:=hI.span hv ho h0 hcur (by rw [hul,hvl]) (fun j v u h1 h2=>(hvc j v h1).2 u h2) (k:=o1) (by rw [hvl];exact h1);rw [hul] at hI';rw [hvl] at hext hI' hb;subst hη;have hone:∀ v∈vs,v.oneCell'=true:=by
  intro v hv;obtain ⟨j,hj,rfl⟩:=List.mem_iff_getElem.1 hv;have:=(hvc j _ (List.getElem?_eq_getElem hj)).2 _ (List.getElem?_eq_getElem (by omega))
  exact this.2.2.1 _ (by simp)
 have hrun:=YiZ (P:=C.P) (X:=X) (Y:=Y) (ty:=T) (l1:=l1) (c1:=c1) (l2:=(ys.map f).length) (c2:=cap2) (o1:=o1) (o2:=o) (b2:=b) (n:=n) (vs:=vs) hu i1 i2 hcur (by rw [← hyl];exact hn) hvl (by omega) (fun j v hj=>(hvc j v hj).1) hone;rw [hvl] at hrun;refine Cx.lcons (wl_value (v:=.int .i64 n) (w':=w.setRow g (cur.take o1++vs++cur.drop (o1+n)).toArray) rfl ?_ (kk _ _ ⟨m,γ,_,hE.put _ (by simpa using hd),⟨rfl,.raw rfl,hR.mono hext (.refl _)⟩,hI'⟩));simp only [List.length_map] at hrun;simp [execOp,resolve,invoke,builtin,hE.ev (hR.raw hx),hE.ev g1,hrun,goInt]
end
def Ypq (P:Program) (f:Nat) (ag:List AV) (η:Eta) (r:List Value→AV) (η':Eta):Prop:=
 ∀ m w γ vs,Heap m w γ η→VL m w γ vs ag→Calls P f vs.toArray w (YbF (Ya1 m w γ η) (r γ) η')
theorem Ypq.enter {P:Program} {f:Nat} {fn:Func} {c:Code} {ag:List AV} {r:List Value→AV} {η η':Eta} {tab:Tab} {N:Nat} (hT:YaX P tab) (hm:P.follows .mixedOrders=true) (hf:P.funcs[f]?=some fn) (hb:fn.body=some c) (hN:fn.ntmps=N) (ha:Nat.ble ag.length N=true)
  (h:∀ B (hB:B.γ.length=η.length),(∀ (i:Nat) o,η[i]?=some o→∃ v,B.γ[i]?=some v∧YcR B.m B.w B.γ v o)→TC ⟨P,tab,hT,hm,N,[],B,η.length,hB,none,0⟩ (bodyPost P fn (YbF B (r B.γ) η')) c (Ym3 0 ag) η):Ypq P f ag η r η':=by
 intro m w γ vs hH hV;refine W.enter (N:=N) (W.zipA 0 vs) hf hb hN (by simp) (by have:=hV.len;simp at ha;simp;omega) fun a hE=>?_;exact h (Ya1 m w γ η) hH.len (fun i o ho=>hH.get ho) a w ⟨m,γ,_,hE,hV.zip 0,hH,.refl _ _ _,fun i v o b h1 h2 h3=>.inl (Yap.2 ⟨i,v,o,h1,h2,h3⟩),.refl _⟩
section
variable {C:Cx} {ops:Array Oper} {Q:Qt} {ρ ρ':Ro} {η η' η1 η1' η2:Eta} {rest:List Oper} {T d X E:Nat} {pos:String} {af:Array Edge} {x y z:Operand} {args:List Operand} {at_:Array TypeId} {A:Code} {e:Exit}
theorem Zcq {P:Program} {f:Nat} {fn:Func} {us ag:List AV} {r:List Value→AV} {v:Value} (is:List Nat) (hs:Ypq P f ag η1 r η1') (hf:P.funcs[f]?=some fn) (hrv:r (is.map fun i=>C.B.γ.getD i undef)=.raw v) (k:OL C ops Q rest ((d,.raw v)::ρ) η2)
  (his : (is.all fun i => Nat.blt i C.n) = true := by with_unfolding_all exact rfl) (hP : C.P = P := by with_unfolding_all exact rfl) (hb : (fn.body.isNone || fn.name == "runtime.NumGoroutine") = false := by with_unfolding_all exact rfl) (hl : Yc6 ρ args = some us := by with_unfolding_all exact rfl)
  (hn:YbG is=true:=by with_unfolding_all exact rfl)
  (ho:Ybw (ts is) η is η1:=by repeat' (first|with_unfolding_all exact trivial|exact OE.ren (by with_unfolding_all exact rfl)|with_unfolding_all exact OE.gs|with_unfolding_all refine And.intro ⟨_,by with_unfolding_all exact rfl,?_⟩ ?_))
  (hle:LEs (ts is) us ag:=by repeat' (first|with_unfolding_all exact trivial|exact LE.ren (by with_unfolding_all exact rfl)|with_unfolding_all exact LE.sl|with_unfolding_all exact LE.nil (by decide)|with_unfolding_all refine And.intro ?_ ?_)) (hd:Nat.blt d C.N=true:=by with_unfolding_all exact rfl)
  (hη:upd is (η1'.map (renO (back is η.length))) η++(η1'.drop is.length).map (renO (back is η.length))=η2:=by (try simp only [upd,renO,ren,ren0,ren1,ren2,back,Nat.blt,Nat.ble,cond_true,cond_false,List.set,List.drop,List.map,List.length,List.cons_append,List.nil_append,List.append_nil,List.getElem?_cons_succ,List.getElem?_cons_zero,List.getElem?_nil,Nat.add_zero,Nat.zero_add,Nat.reduceAdd,Nat.reduceSub])<;>exact rfl) :
  OL C ops Q (⟨some d,.call ⟨.value (.func f),args.toArray,at_⟩,T,pos,af,none⟩::rest) ρ η:=by
 subst hP;rintro a w ⟨m,γ,ρc,hE,hR,hI⟩;have eγ:(is.map fun i=>γ.getD i undef)=is.map fun i=>C.B.γ.getD i undef:=List.map_congr_left fun i hi=>by
  have h1:i < C.B.γ.length:=by rw [C.hn];have:=List.all_eq_true.1 his i hi;simpa using this
  have h2:=hI.pre i _ (List.getElem?_eq_getElem h1);simp [List.getD_eq_getElem?_getD,h2,List.getElem?_eq_getElem h1]
 obtain ⟨vs,h1,h2⟩:=hR.evs hl;obtain ⟨hsh,hH1,_⟩:=hI.heap.sel hn ho;have hc:=hs m w _ vs hH1 (hle.vl hsh h2);rw [eγ,hrv,← eγ] at hc;simp at hb;have hb':fn.body≠none:=Option.isSome_iff_ne_none.1 hb.1;refine Cx.lcons (Ycf (f:=f) (args:=vs.toArray) rfl ?_ (hc.mono fun e w' ⟨v',m',γ1',he,hC,hv⟩=>⟨v',he,?_⟩))
 ·have he:a.eval (.func f)=.func (.func f) #[] #[]:=rfl;simp [execOp,resolve,he,Deferred.ofValue,invoke,callFunc,hf,hb.2,hb',hE.evs h1]
 ·obtain ⟨γ2,p1,p2,p3,p4⟩:=hI.call hn ho hC;subst hη;obtain rfl:=hv.raw_eq
  cases hv with
  | raw hone=>exact k _ _ ⟨m',γ2,_,hE.put _ (by simpa using hd),⟨rfl,.raw hone,hR.mono p4 p1⟩,p3⟩
theorem Zde {t i g k n c:Nat} (hx:lk ρ t=some (.raw (.pointer (some ⟨g,k,none⟩)))) (hγ:C.B.γ[i]?=some (.slice (some ⟨g,0,none⟩) n c)):Wk C ρ η ((t,.gp i 1 k 0)::ρ) η:=by
 rintro ac w ⟨m,γ,ρc,hE,hR,hI⟩;obtain ⟨v,h1,h2⟩:=hR.look hx
 cases h2 with
 | raw h =>
 refine ⟨m,γ,(t,.pointer (some ⟨g,k,none⟩))::ρc,⟨hE.size,hE.defers,fun s q hs=>?_⟩,⟨rfl,by have:=Rep.gp (m:=m) (w:=w) (sz:=1) (k:=k) (o:=0) (hI.pre i _ hγ);simpa using this,hR⟩,hI⟩;simp only [W.look] at hs
 cases hb':Nat.beq t s with
 | true =>
   rw [hb'] at hs;simp at hs;subst hs;rw [← Nat.eq_of_beq_eq_true hb'];exact hE.look _ _ h1
 | false=>rw [hb'] at hs;exact hE.look _ _ (by simpa using hs)
theorem Zdf {i g k n c:Nat} (t:Nat) (hγ:C.B.γ[i]?=some (.slice (some ⟨g,0,none⟩) n c)) (kk:OL C ops Q rest ((t,.gp i 1 k 0)::ρ) η) (hx:lk ρ t=some (.raw (.pointer (some ⟨g,k,none⟩))):=by with_unfolding_all exact rfl):OL C ops Q rest ρ η:=Za5 (Zde hx hγ) kk
theorem Yuu {M:Bool} {g o n c j:Nat} {i:Int} (hs:(C.tab X).map (·.sh)=some (.slice E):=by with_unfolding_all exact rfl) (hz:(C.tab E).map (·.size)=some 1:=by with_unfolding_all exact rfl) (hx:ev2 ρ x=some (.raw (.slice (some ⟨g,o,none⟩) n c)):=by with_unfolding_all exact rfl) (hy:ev2 ρ y=some (.raw (.int .i64 i)):=by with_unfolding_all exact rfl)
  (hi:i=(j:Nat):=by omega) (hj:j < n:=by omega):Yaj C.P C.N C.D (.indexAddr X x y) ρ η (.raw (.pointer (some ⟨g,o+j,none⟩))) M:=fun m w γ ρc ac hE hR hH=>by
 obtain ⟨dd,hu,hd⟩:=YcO C.hT hs;obtain rfl:dd=_:=hd;obtain ⟨inf,i1,i2⟩:=Ybh C.hT hz;subst hi;refine ⟨_,.raw rfl,fun _ _ _ _ _ _=>?_⟩;simp [execOp,hE.ev (hR.raw hx),hE.ev (hR.raw hy),Instr.indexAt,run_underlying hu,asIntOf,sizeOf,typeInfo,i1,i2,hj,Addr.add]
def partV (g o cap l h:Nat):Value:=.slice (some (if cap=l then ⟨g,o,none⟩ else ⟨g,o+l,none⟩)) (h-l) (cap-l)
theorem Ysv {M:Bool} {g o len cap l h:Nat} {i j:Int} (hs:(C.tab X).map (·.sh)=some (.slice E):=by with_unfolding_all exact rfl) (hz:(C.tab E).map (·.size)=some 1:=by with_unfolding_all exact rfl) (hx:ev2 ρ x=some (.raw (.slice (some ⟨g,o,none⟩) len cap)):=by with_unfolding_all exact rfl) (hy:ev2 ρ y=some (.raw (.int .i64 i)):=by with_unfolding_all exact rfl) (hz':ev2 ρ z=some (.raw (.int .i64 j)):=by with_unfolding_all exact rfl)
  (hi:i=(l:Nat):=by omega) (hj:j=(h:Nat):=by omega) (hl:l≤h:=by omega) (hh:h≤cap:=by omega):Yaj C.P C.N C.D (.slice X x (some y) (some z) none) ρ η (.raw (partV g o cap l h)) M:=fun m w γ ρc ac hE hR hH=>by
 obtain ⟨dd,hu,hd⟩:=YcO C.hT hs;obtain rfl:dd=_:=hd;obtain ⟨inf,i1,i2⟩:=Ybh C.hT hz;subst hi hj;refine ⟨_,.raw rfl,fun _ _ _ _ _ _=>?_⟩;by_cases hc:cap=l
 ·obtain rfl:h=l:=by omega
  subst hc;simp [execOp,hE.ev (hR.raw hx),hE.ev (hR.raw hy),hE.ev (hR.raw hz'),Instr.sliceAt,run_underlying hu,Instr.slice,Instr.sliceBounds,Instr.sliceBound,asIntOf,sizeOf,typeInfo,i1,Addr.add,partV]
 ·simp [execOp,hE.ev (hR.raw hx),hE.ev (hR.raw hy),hE.ev (hR.raw hz'),Instr.sliceAt,run_underlying hu,Instr.slice,Instr.sliceBounds,Instr.sliceBound,asIntOf,sizeOf,typeInfo,i1,i2,hl,hh,Addr.add,partV,hc]
end
theorem In.side {B m w γ} {η:Eta} {m' w'} {g:Nat} (h:In B m w γ η) (ht:W.Touch (some g) m w m' w') (hoff:g ∉ Ybl γ η) (hg:B.w.heap.size≤g):In B m' w' γ η:=
 ⟨h.heap.far ht.far (fun b hb hm=>hoff (by simp at hm;rwa [← hm])),h.far.trans ht.far (fun b hb=>.inr (by simp at hb;omega)),h.own,h.pre⟩
section
variable {P:Program} {tab:Tab} {N:Nat} {D:List Deferred} {ρ:Ro} {η:Eta} {x y:Operand} {T A X Y:Nat} {M:Bool} {i j:Int}
theorem Yo2 {v:Value} (hT:P.concrete T=true) (hx:ev2 ρ x=some (.st [.raw v])):Yaj P N D (.makeInterface T x) ρ η (.raw (.iface T (.agg #[v]))) M:=fun _ _ _ _ _ hE hR hH=>by
 obtain ⟨u,h1,h2⟩:=hR.ev hx
 cases h2 with
 | @st _ vs _ hl _ hr =>
 obtain ⟨u,rfl⟩:∃ u,vs=[u]:=by
  match vs,hl with
  | [u],_=>exact ⟨u,rfl⟩
 obtain rfl:=(hr 0 u _ rfl rfl).raw_eq;exact ⟨_,.raw rfl,fun _ _ _ _ _ _=>by simp [execOp,hE.ev h1,run_makeInterface,hT,Result.andThen]⟩
theorem Ypg (hx:ev2 ρ x=some (.raw (.int .i64 i))) (hy:ev2 ρ y=some (.raw (.int .i64 j))) (hj:j≠0):Yaj P N D (.binOp .rem X x y Y) ρ η (.raw (.int .i64 (i.tmod j))) M:=fun _ _ _ _ _ hE hR hH =>
 ⟨_,.raw rfl,fun _ _ _ _ _ _=>by simp [execOp,hE.ev (hR.raw hx),hE.ev (hR.raw hy),binOp,eqGuard,Op.intDiv,hj]⟩
theorem Yq6 (hx:ev2 ρ x=some (.raw (.int .i64 i))) (hy:ev2 ρ y=some (.raw (.int .i64 j))) (hj:0 < j) (h:0≤i∨i % j=0) (h0:-9223372036854775808≤i / j) (h1:i / j≤9223372036854775807):Yaj P N D (.binOp .quo X x y Y) ρ η (.raw (.int .i64 (i / j))) M:=fun _ _ _ _ _ hE hR hH =>
 ⟨_,.raw rfl,fun _ _ _ _ _ _=>by
  have e:i.tdiv j=i / j:=by
   rcases h with h|h
   ·exact Int.tdiv_eq_ediv_of_nonneg h
   ·exact Int.tdiv_eq_ediv_of_dvd (Int.dvd_of_emod_eq_zero h)
  simp [execOp,hE.ev (hR.raw hx),hE.ev (hR.raw hy),binOp,eqGuard,Op.intDiv,show j≠0 by omega,e,YbX h0 h1]⟩
theorem Yki {tab:Tab} {E:Nat} {i:Nat} {es:List (Int × AV)} {k:Int} {K:Nat} {te:TyE} {v:AV} (hT:YaX P tab) (hv:afind k es=some v∨(afind k es=none∧∀ m w γ,Rep m w γ te.zero v)) (hs:(tab X).map (·.sh)=some (.map K E)) (hkt:(tab K).map (·.sh)=some (.int .i64)) (hE:tab E=some te)
  (hx:ev2 ρ x=some (.mp i)) (ho:η[i]?=some (.mo es)) (hy:ev2 ρ y=some (.raw (.int .i64 k))):Yaj P N D (.lookup X x y false) ρ η v:=by
 intro m w γ ρc a hE' hR hH;obtain ⟨u,g1,g2⟩:=hR.ev hx
 cases g2 with
 | @mp _ _ b hb =>
 obtain ⟨b',l,e,h0,hM,hkeys,hrep⟩:=hH.ok i _ _ hb ho
 cases e
 obtain ⟨d,ut,h2⟩:=YcO hT hs;obtain ⟨d',uk,h2'⟩:=YcO hT hkt;obtain rfl:d=_:=h2;obtain rfl:d'=_:=h2';obtain ⟨inf,i1,i2,i3,i4,i5⟩:=(hT E te hE).info;haveI:IntTy P K .i64:=⟨uk⟩
 obtain ⟨es',clock,hb',hl⟩:=id hM;have hlt:b < w.heap.size:=(Array.getElem?_eq_some_iff.1 hb').1;rcases Ycg k es'.toList l 0 hl with ⟨e1,e2⟩|⟨v',j,e1,e2⟩
 ·rcases YcF k l es hkeys hrep with ⟨_,a2⟩|⟨_,_,a1,_⟩
  ·have hz:∀ m w γ,Rep m w γ te.zero v:=by
    rcases hv with h|h
    ·rw [a2] at h;cases h
    ·exact h.2
   refine ⟨te.zero,hz _ _ _,fun {m' w'} hk _ _ _ _ _=>?_⟩
   ·have hb2:w'.heap[b]?=some (.map es' clock):=(hk rfl).heap hb';have hck:=YaR (P:=P) (Y:=K) (w:=w');simp [execOp,hE'.ev g1,hE'.ev (hR.raw hy),Instr.lookup,run_underlying ut,MapKept.run_getObj_map hb2,hck,Instr.findKey,run_underlying uk,e2,zeroValue,typeInfo,i1,i4]
  ·rw [e1] at a1;cases a1
 ·rcases YcF k l es hkeys hrep with ⟨a1,_⟩|⟨v2,u2,a1,a2,a3,_⟩
  ·rw [e1] at a1;cases a1
  ·rw [e1] at a1;cases a1;have hu:u2=v:=by
    rcases hv with h|h
    ·rw [a2] at h;cases h;rfl
    ·rw [a2] at h;cases h.1
   subst hu;refine ⟨v',a3.mono (.refl _ _) (fun _ _ h=>by simp at h),fun {m' w'} hk _ _ _ _ _=>?_⟩
   ·have hb2:w'.heap[b]?=some (.map es' clock):=(hk rfl).heap hb';have hck:=YaR (P:=P) (Y:=K) (w:=w');simp [execOp,hE'.ev g1,hE'.ev (hR.raw hy),Instr.lookup,run_underlying ut,MapKept.run_getObj_map hb2,hck,Instr.findKey,run_underlying uk,e2]
end
section
variable {C:Cx} {ops:Array Oper} {Q:Qt} {ρ:Ro} {η:Eta} {rest:List Oper} {T Ty d X Y:Nat} {pos:String} {af:Array Edge} {x y:Operand} {i j:Int}
theorem YaH {E i:Nat} {es:List (Int × AV)} {k:Int} {K:Nat} {te:TyE} {v:AV} (hv:afind k es=some v∨(afind k es=none∧∀ m w γ,Rep m w γ te.zero v)) (hs:(C.tab X).map (·.sh)=some (.map K E):=by with_unfolding_all exact rfl) (hkt:(C.tab K).map (·.sh)=some (.int .i64):=by with_unfolding_all exact rfl) (hE:C.tab E=some te:=by with_unfolding_all exact rfl)
  (hx:ev2 ρ x=some (.mp i):=by with_unfolding_all exact rfl) (ho:η[i]?=some (.mo es):=by with_unfolding_all exact rfl) (hy:ev2 ρ y=some (.raw (.int .i64 k)):=by with_unfolding_all exact rfl):Yaj C.P C.N C.D (.lookup X x y false) ρ η v:=Yki C.hT hv hs hkt hE hx ho hy
theorem Zdg {v:Value} (hT:C.P.concrete Ty=true) (k:OL C ops Q rest ((d,.raw (.iface Ty (.agg #[v])))::ρ) η) (hx:ev2 ρ x=some (.st [.raw v]):=by with_unfolding_all exact rfl) (hd:Nat.blt d C.N=true:=by with_unfolding_all exact rfl):OL C ops Q (⟨some d,.makeInterface Ty x,T,pos,af,none⟩::rest) ρ η:=ZaG (Yo2 hT hx) hd k
theorem Zdh {C:Cx} {M:Bool} {fi:Nat} {l:List Oper} {Q:Qt} {fuel:Nat} {listed:Array Bool} {ρ:Ro} {η η2:Eta} {g:Option (Nat × Bool)} {X T d:Nat} {pos:String} {af:Array Edge} {x y:Operand} {E k n c:Nat} {i j:Int} {te:TyE} {zc:Value} (u:AV) (u0:AV) (hu:∀ m w γ,Rep m w γ zc u0) (i0:Nat) (kk:OD C M fi l.toArray Q fuel (listed.setIfInBounds i0 true) ((d,.hs k)::ρ) η2) (hi0:l[i0]?=some ⟨some d,.makeSlice X x y,T,pos,af,g⟩:=by with_unfolding_all exact rfl) (hg:GB l.toArray ρ g true:=by first|with_unfolding_all exact rfl|with_unfolding_all exact ⟨_,_,rfl,rfl,rfl⟩)
  (hs:(C.tab X).map (·.sh)=some (.slice E):=by with_unfolding_all exact rfl) (hE:C.tab E=some te:=by with_unfolding_all exact rfl) (hz:te.size=1:=by with_unfolding_all exact rfl) (hzc:te.zero.cells=#[zc]:=by with_unfolding_all exact rfl) (hone:zc.oneCell'=true:=by with_unfolding_all exact rfl) (hul:u.cells=[u0]:=by with_unfolding_all exact rfl)
  (hx:ev2 ρ x=some (.raw (.int .i64 i)):=by with_unfolding_all exact rfl) (hy:ev2 ρ y=some (.raw (.int .i64 j)):=by with_unfolding_all exact rfl) (hk:η.length=k:=by (try dsimp only [List.length])<;>exact rfl) (hi:i=(n:Int):=by first|rfl|omega) (hj:j=(c:Int):=by first|rfl|omega) (hη:η++[.gs false E 1 (some false) (List.replicate n u)]=η2:=by (try dsimp only [List.cons_append,List.nil_append,List.append_eq,List.replicate])<;>exact rfl) (hd:Nat.blt d C.N=true:=by with_unfolding_all exact rfl)
  (hlc:n≤c:=by omega) (h0:0 < c:=by omega) (hc:c≤16777216:=by omega) (hbt:te.bytes*c≤16777216:=by (first|omega|(simp only [TyE.bytes];omega))) (hrd:Region.ready .any l.toArray listed=[i0]:=by kernel_rfl):OD C M fi l.toArray Q (fuel+1) listed ρ η:=
 OD.n1 i0 (ZcY hu hs hE hz hzc hone hul hx hy hk hi hj hη hd hlc h0 hc hbt) kk hi0 hg hrd
theorem Zbq {r:Int} (hr:i.tmod j=r) (k:OL C ops Q rest ((d,V.int r)::ρ) η) (hx:ev2 ρ x=some (.raw (.int .i64 i)):=by with_unfolding_all exact rfl) (hy:ev2 ρ y=some (.raw (.int .i64 j)):=by with_unfolding_all exact rfl) (hj:j≠0:=by omega) (hd:Nat.blt d C.N=true:=by with_unfolding_all exact rfl):OL C ops Q (⟨some d,.binOp .rem X x y Y,T,pos,af,none⟩::rest) ρ η:=ZaG (hr ▸ Ypg hx hy hj) hd k
theorem OL.quo (k:OL C ops Q rest ((d,V.int (i / j))::ρ) η) (hx:ev2 ρ x=some (.raw (.int .i64 i)):=by with_unfolding_all exact rfl) (hy:ev2 ρ y=some (.raw (.int .i64 j)):=by with_unfolding_all exact rfl) (hj:0 < j:=by omega) (h:0≤i∨i % j=0:=by omega) (h0:-9223372036854775808≤i / j:=by omega) (h1:i / j≤9223372036854775807:=by omega) (hd:Nat.blt d C.N=true:=by with_unfolding_all exact rfl):OL C ops Q (⟨some d,.binOp .quo X x y Y,T,pos,af,none⟩::rest) ρ η:=ZaG (Yq6 hx hy hj h h0 h1) hd k
end
end Go.V
namespace Go.Proofs
open Go Go.W Go.V
abbrev rfv (k:Int):Value:=.iface 149 (.agg #[.int .i64 k])
theorem YlO:Tryz.prog.concrete 149=true:=by kernel_rfl
theorem Ya5 (k:Int):V.Spec Tryz.prog 68 [V.bool true,V.int k] [] (.tp []) []:=by
 refine Se Tryz.func68 rfl rfl rfl fun B hB=>?_;refine goW ?_;exact Za1 []
theorem Ybm (k:Int):YaZ Tryz.prog 68 [V.bool false,V.int k] [] (rfv k) []:=by
 refine YaZ.enter Tryz.tabOK Tryz.mixed Tryz.func68 rfl rfl rfl fun B hB=>?_;refine goW ?_;refine Zdg YlO ?_;refine OL.panic ?_ ⟨_,_,rfl⟩;exact Zas []
theorem Yoq (p:Addr) (w:World):CallsD Tryz.prog 116 #[.pointer (some p)] .returning w fun e u' w'=>e=.returned (.tuple #[])∧u'=.returning∧w'=w:=by
 refine callsD_of_wpS Tryz.func116 rfl fun c₀ cs hu=>?_;have heq:∀ w,(binOp .eql 20 .nilIface .nilIface).run Tryz.prog w=.ok (.bool true) w:=fun w=>by kernel_rfl
 apply wpS_seq;apply wpS_region;simp [wpOpsS,go_sem,recoverD,hu,Tryz.ntmps116,Exit.thenS];refine wpS_of_wp ?_;apply wp_block;apply wp_seq;apply wp_region;simp [wpOps,go_sem,Exit.then,heq];left;refine wp_cond (t:=true) (by simp [Act.eval,Array.replicate]) ?_;simp only [if_true];apply wp_region;simp [wpOps,go_sem,Exit.inBlock];left
 cases c₀
 simp_all [bodyPostS,results,Tryz.results116]
theorem YqA (k:Int) (p:Addr) (w:World) (hc:w.cell? p=some (.int .i64 0)) (hz:w.frozen? p=false):CallsD Tryz.prog 116 #[.pointer (some p)] (.panicking (pan (rfv k))) w fun e u' w' =>
  e=.returned (.tuple #[])∧u'=.panicking [{ v:=rfv k,recovered:=true }]∧∃ w1,(∀ m,∃ m1,Keep m w m1 w1)∧w'=w1.setCell p (.int .i64 k):=by
 refine callsD_of_wpS Tryz.func116 rfl fun c₀ cs hu=>?_;have heq:∀ w,(binOp .eql 20 (rfv k) .nilIface).run Tryz.prog w=.ok (.bool false) w:=fun w=>by kernel_rfl
 have hta:∀ w,(Instr.typeAssert (rfv k) 20 149 true).run Tryz.prog w=.ok (.tuple #[.agg #[.int .i64 k],.bool true]) w:=fun w=>by kernel_rfl
 apply wpS_seq;apply wpS_region;simp [wpOpsS,go_sem,recoverD,hu,Tryz.ntmps116,Exit.thenS];refine wpS_of_wp ?_;apply wp_block;apply wp_seq;apply wp_region;simp [wpOps,go_sem,Exit.then,heq];left;refine wp_cond (t:=false) (by simp [Act.eval,Array.replicate]) ?_;simp only [Bool.false_eq_true,if_false];apply wp_seq;apply wp_region;simp [wpOps,go_sem,Exit.then,hta];left;left;left;refine wp_cond (t:=true) (by simp [Act.eval,Array.replicate]) ?_;simp only [if_true];apply wp_seq;apply wp_region;simp [wpOps,go_sem,Exit.then];left;left;have hbk:(w.alloc (.cells #[.int .i64 k] 149)).heap[p.block]?=w.heap[p.block]?:=by
  refine (World.grownBy_alloc w (.cells #[.int .i64 k] 149) none).block p.block ?_ (by simp);unfold World.cell? at hc
  cases ho:w.heap[p.block]? with
  | none=>simp [ho] at hc
  | some o=>exact (Array.getElem?_eq_some_iff.1 ho).1
 have hc2:(w.alloc (.cells #[.int .i64 k] 149)).cell? p=some (.int .i64 0):=by
  rw [World.cell?_of_block (w:=w) hbk];exact hc
 have hz2:(w.alloc (.cells #[.int .i64 k] 149)).frozen? p=false:=by rw [World.frozen?_of_block (w:=w) hbk];exact hz
 apply wp_region;simp [wpOps,go_sem,Exit.inBlock,hc2,hz2];left;left;left
 cases c₀
 simp [bodyPostS,results,Tryz.results116];exact ⟨_,fun m=>⟨_,Keep.alloc m w _ 0⟩,rfl⟩
theorem YhI {f : Nat} {fn : Func} {v2 : Array Value} {w : World} {R : Ending → World → Prop} (hf : Tryz.prog.funcs[f]? = some fn) (hb : (fn.body.isNone || fn.name == "runtime.NumGoroutine") = false)
  (hc:Calls Tryz.prog f v2 (w.alloc (.cells #[.int .i64 0] 31)) fun e w'=>w'.heap[w.heap.size]?=some (.cells #[.int .i64 0] 31) ∧
   ∃ k,((k=0∧∃ v,e=.returned v)∨e=.panicked (pan (rfv k)))∧∀ w1,(∀ m,∃ m1,Keep m w' m1 w1)→R (.returned (.int .i64 k)) (w1.setCell ⟨w.heap.size,0,none⟩ (.int .i64 k))) :
  Calls Tryz.prog 50 #[.func (.func f) #[] v2] w R:=by
 have hmf:∀ (fn:Fn) (first cap:Array Value) (w:World),(Instr.makeFunc fn first cap).run Tryz.prog w=.ok (.func fn first cap) w:=fun _ _ _ _=>rfl
 have hcf:∀ args w,(callFunc f args).run Tryz.prog w=.ok (.enter f args) w:=fun args w=>by
  simp at hb;have hb':fn.body≠none:=Option.isSome_iff_ne_none.1 hb.1;simp [callFunc,hf,hb.2,hb']
 have hcell:∀ (w':World) (b:Int),w'.heap[w.heap.size]?=some (.cells #[.int .i64 b] 31)→w'.cell? ⟨w.heap.size,0,none⟩=some (.int .i64 b)∧w'.frozen? ⟨w.heap.size,0,none⟩=false:=fun w' b h=>by
  simp [World.cell?,World.frozen?,h]
 have hset:∀ (w':World) (a b:Int),w'.heap[w.heap.size]?=some (.cells #[.int .i64 a] 31)→(w'.setCell ⟨w.heap.size,0,none⟩ (.int .i64 b)).heap[w.heap.size]?=some (.cells #[.int .i64 b] 31):=fun w' a b h=>by
  obtain ⟨hlt,he⟩:=Array.getElem?_eq_some_iff.1 h;simp [World.setCell,Array.getElem?_modify,h]
 go_enter_defers Tryz.func50,Tryz.ntmps50
 apply wp_seq;apply wp_region;simp [wpOps,go_sem,Exit.then];left;apply wp_seq;apply wp_region;simp [wpOps,go_sem,Exit.then];left;left;apply wp_seq;apply wp_region;simp [wpOps,go_sem,Exit.then,hcf];left;left;have hinv:∀ (p:Addr) (w:World),(invoke (.fn (.func 116) #[.pointer (some p)]) #[]).run Tryz.prog w=.ok (.enter 116 #[.pointer (some p)]) w:=fun p w=>by
  have h224:Tryz.prog.funcs[116]?=some Tryz.f116:=Tryz.func116;have hb224 : (Tryz.f116.body.isNone || Tryz.f116.name == "runtime.NumGoroutine") = false := rfl;simp at hb224;have hb':Tryz.f116.body≠none:=Option.isSome_iff_ne_none.1 hb224.1;simp [invoke,callFunc,h224,hb224.2,hb']
 refine hc.mono ?_;rintro e w' ⟨hcl,k,(⟨rfl,v,rfl⟩|rfl),hR⟩
 ·obtain ⟨c1,c2⟩:=hcell w' 0 hcl;have hR':=hR w' (fun m=>⟨m,.refl _ _⟩);show Code.wp _ _ _ _ _;apply wp_seq;apply wp_region;simp [wpOps,go_sem,Exit.then,c1,c2];left;refine wp_ret ?_;refine leaves_cons (f:=116) (args:=#[.pointer (some ⟨w.heap.size,0,none⟩)]) (by simp) (hinv _ _) ?_;refine (Yoq _ _).mono ?_;rintro e u' w'' ⟨rfl,rfl,rfl⟩;obtain ⟨d1,d2⟩:=hcell _ 0 (hset w' 0 0 hcl);simp [Leaves,settle,results,Tryz.results50,go_sem,d1];exact hR'
 ·obtain ⟨c1,c2⟩:=hcell w' 0 hcl;show Leaves _ _ _ _ _ _ _;refine leaves_cons (f:=116) (args:=#[.pointer (some ⟨w.heap.size,0,none⟩)]) (by simp) (hinv _ _) ?_;refine (YqA k _ _ c1 c2).mono ?_;rintro e u' w'' ⟨rfl,rfl,w1,hw1,rfl⟩;obtain ⟨_,hk0⟩:=hw1 (fun _=>0);have hcl2:=hk0.heap hcl;obtain ⟨d1,d2⟩:=hcell _ k (hset _ 0 k hcl2);simp [Leaves,settle,results,Tryz.results50,go_sem,d1];exact hR w1 hw1
theorem Ynf {w:World} {m:Nat→Nat} {γ γ':List Value} {η η':Eta} {m':Nat→Nat} {w':World} (hH:Heap m w γ η) (hI:In (Ya1 (Yb8 m w.heap.size 0) (w.alloc (.cells #[.int .i64 0] 31)) γ η) m' w' γ' η') :
  w'.heap[w.heap.size]?=some (.cells #[.int .i64 0] 31)∧∀ (k:Int) w1,(∀ m,∃ m1,Keep m w' m1 w1)→∃ m1,In (Ya1 m w γ η) m1 (w1.setCell ⟨w.heap.size,0,none⟩ (.int .i64 k)) γ' η':=by
 have hK:=Keep.alloc m w (.cells #[.int .i64 0] 31) 0;have hn:w.heap.size ∉ Ybl γ η:=fun hm=>by have:=hH.lt _ hm;omega
 have hlt:w.heap.size < (w.alloc (.cells #[.int .i64 0] 31)).heap.size:=by simp
 have hh:w'.heap[w.heap.size]?=some (.cells #[.int .i64 0] 31):=(hI.far.block _ hlt hn).trans (heap_alloc_new w _);have hm0:m' w.heap.size=0:=(hI.far.lim _ hlt hn).trans (by show Yb8 m w.heap.size 0 w.heap.size=0;simp);have hoff:w.heap.size ∉ Ybl γ' η':=fun hm=>by
  rcases Yaq hI _ hm with h|h
  ·exact hn h
  ·have h:(w.alloc (.cells #[.int .i64 0] 31)).heap.size≤w.heap.size:=h;simp at h;omega
 refine ⟨hh,fun k w1 hw1=>?_⟩;obtain ⟨m1,hk⟩:=hw1 m';have hI1:=(hI.comp (B:=Ya1 m w γ η) (hK.far _) (fun b h=>.inl h) (.refl _)).keep hk;have hlt':=(Array.getElem?_eq_some_iff.1 hh).1;have hB:Box m1 w1 w.heap.size [.int .i64 0] 31:=⟨hk.heap hh,by rw [hk.lim _ hlt'];exact hm0⟩;exact ⟨m1,hI1.side (YcK (o:=0) hB (.int .i64 k)).1 hoff (Nat.le_refl _)⟩
theorem YbH {f : Nat} {fn : Func} {caps : List AV} {η η' : Eta} {r : AV} (hf : Tryz.prog.funcs[f]? = some fn) (hs : V.Spec Tryz.prog f caps η r η') (hb : (fn.body.isNone || fn.name == "runtime.NumGoroutine") = false := by with_unfolding_all exact rfl) :
  V.Spec Tryz.prog 50 [.fn (.func f) [] caps] η (V.int 0) η':=by
 intro m w γ vs hH hV;match vs,hV with
 | [fv],hV =>
 cases hV.1 with
 | @fn _ _ v1 v2 _ _ l1 l2 q1 q2 =>
 obtain rfl:v1=[]:=List.eq_nil_of_length_eq_zero (by simpa using l1);have hK:=Keep.alloc m w (.cells #[.int .i64 0] 31) 0;refine YhI hf hb ((hs _ _ γ v2 (hH.far (hK.far []) (by simp)) (VL.mono hK.ext (.refl _) (VL.of l2 q2))).mono ?_);rintro e w' ⟨v,m',γ',rfl,hI,hv⟩;obtain ⟨h1,h2⟩:=Ynf hH hI;refine ⟨h1,0,.inl ⟨rfl,v,rfl⟩,fun w1 hw1=>?_⟩;obtain ⟨m1,h3⟩:=h2 0 w1 hw1;exact ⟨_,m1,γ',rfl,h3,.raw rfl⟩
theorem Yaz {f : Nat} {fn : Func} {caps : List AV} {η ηX : Eta} {k : Int} (hf : Tryz.prog.funcs[f]? = some fn) (hs : YaZ Tryz.prog f caps η (rfv k) ηX) (hb : (fn.body.isNone || fn.name == "runtime.NumGoroutine") = false := by with_unfolding_all exact rfl) :
  V.Spec Tryz.prog 50 [.fn (.func f) [] caps] η (V.int k) ηX:=by
 intro m w γ vs hH hV;match vs,hV with
 | [fv],hV =>
 cases hV.1 with
 | @fn _ _ v1 v2 _ _ l1 l2 q1 q2 =>
 obtain rfl:v1=[]:=List.eq_nil_of_length_eq_zero (by simpa using l1);have hK:=Keep.alloc m w (.cells #[.int .i64 0] 31) 0;refine YhI hf hb ((hs _ _ γ v2 (hH.far (hK.far []) (by simp)) (VL.mono hK.ext (.refl _) (VL.of l2 q2))).mono ?_);rintro e w' ⟨m',γ',rfl,hI⟩;obtain ⟨h1,h2⟩:=Ynf hH hI;refine ⟨h1,k,.inr rfl,fun w1 hw1=>?_⟩;obtain ⟨m1,h3⟩:=h2 k w1 hw1;exact ⟨_,m1,γ',rfl,h3,.raw rfl⟩
def Yay (n:Nat) (c:Int):Bool:=decide (3≤c)&&decide (c < 3+(n:Int))
def YuZ (l:List Cls) (c:Nat) (slots:List Int) (vals:List (Int × Int)) (s:Int):Int × Int:=if 0≤YdE slots s 0 then vals.getD (YdE slots s 0).toNat (0,0) else Yao l c s
def YhC (l:List Cls) (c:Nat) (slots:List Int) (vals:List (Int × Int)):List (Int × Int):=(slotsOf l c).map (YuZ l c slots vals)
/-! ### The reference -/
/-! ### The program -/
/-! ### Where a number stands -/
/-! ### The search for rings -/
def Yft (rel:Int→Int→Bool) (l:List Int):Prop:=l.Nodup∧∀ (i:Nat) (h:i+1 < l.length),rel l[i] l[i+1]=true
theorem Yft.nil (rel):Yft rel []:=⟨List.nodup_nil,fun i h=>by simp at h⟩
/-! ### One class ahead of another one -/
/-! ### Merges -/
theorem Yex {l:List Int} {n:Int} (h:n ∉ l):without l n=l:=by
 rw [without,List.filter_eq_self];intro x hx;rw [bne_iff_ne];intro e;subst e;exact h hx
theorem YhZ {all:List (List Int)}:YcQ all=false↔∀ m∈all,m=[]:=by
 rw [YcQ,List.any_eq_false];constructor
 ·intro h m hm;have:=h m hm;simpa using this
 ·intro h m hm;rw [h m hm];simp
theorem Ypi {all:List (List Int)} {h:Int} (hf:free all h=true) {m:List Int} (hm:m∈all) (hh:h∈m):∃ t,m=h::t∧h ∉ t:=by
 rw [free,List.all_eq_true] at hf;have:=hf m hm
 match m,hh with
 | x::t,hh =>
   have h1:h ∉ t:=by simpa using this
   have:h=x:=by rcases List.mem_cons.1 hh with e|e;exact e;exact absurd e h1
   subst this;exact ⟨t,rfl,h1⟩
theorem YiR:∀ (n:Nat) (all:List (List Int)) (out:List Int),YaY all≤n→(YaT n all out).2=true→∃ e,(YaT n all out).1=out++e∧e.Nodup∧(∀ m∈all,m.Sublist e)∧∀ x∈e,∃ m∈all,x∈m
 | 0,all,out,hn,h=>by
   rw [YaT] at h ⊢;have h0:YcQ all=false:=by simpa using h
   exact ⟨[],by simp,by simp,fun m hm=>by rw [YhZ.1 h0 m hm];exact List.Sublist.refl _,by simp⟩
 | n+1,all,out,hn,h=>by
   rw [YaT] at h ⊢
   cases hx:YaG all all with
   | none =>
     rw [hx] at h;have h0:YcQ all=false:=by simpa using h
     exact ⟨[],by simp,by simp,fun m hm=>by rw [YhZ.1 h0 m hm];exact List.Sublist.refl _,by simp⟩
   | some x =>
     rw [hx] at h;obtain ⟨t,ht,hf⟩:=Ybx all all x hx;have hlt:=YaN all x t ht;dsimp only at h ⊢;obtain ⟨e,e1,e2,e3,e4⟩:=YiR n _ _ (by omega) h;have hxe:x ∉ e:=fun hx=>by
      obtain ⟨m,hm,hxm⟩:=e4 x hx;obtain ⟨l,_,rfl⟩:=List.mem_map.1 hm;exact (YaI.1 hxm).2 rfl
     refine ⟨x::e,by rw [e1];simp,List.nodup_cons.2 ⟨hxe,e2⟩,fun m hm=>?_,fun y hy=>?_⟩
     ·have hs:=e3 _ (List.mem_map_of_mem (f:=(without · x)) hm);by_cases hxm:x∈m
      ·obtain ⟨r,rfl,hr⟩:=Ypi hf hm hxm;have:without (x::r) x=r:=by
        rw [show without (x::r) x=without r x by simp [without]];exact Yex hr
       rw [this] at hs;exact hs.cons_cons _
      ·rw [Yex hxm] at hs;exact hs.cons _
     ·rcases List.mem_cons.1 hy with rfl|hy
      ·exact ⟨_,ht,by simp⟩
      ·obtain ⟨m,hm,hxm⟩:=e4 y hy;obtain ⟨l,hl,rfl⟩:=List.mem_map.1 hm;exact ⟨l,hl,(YaI.1 hxm).1⟩
theorem Yl1 {all:List (List Int)} (h:(merge all).2=true):(merge all).1.Nodup∧(∀ m∈all,m.Sublist (merge all).1)∧∀ x,x∈(merge all).1↔∃ m∈all,x∈m:=by
 obtain ⟨e,e1,e2,e3,e4⟩:=YiR (YaY all) all [] (Nat.le_refl _) h;rw [List.nil_append] at e1;rw [merge,e1];exact ⟨e2,e3,fun x=>⟨e4 x,fun ⟨m,hm,hx⟩=>(e3 m hm).subset hx⟩⟩
theorem Yft.take {rel} {b:List Int} (h:Yft rel b) (k:Nat):Yft rel (b.take k):=by
 refine ⟨(List.take_sublist k b).nodup h.1,fun i hi=>?_⟩;simp only [List.getElem_take];exact h.2 i (by simp at hi;omega)
/-! ### Linear orders -/
theorem Yhm:∀ (a b acc:List (List Int)),Ybo acc (a++b)=Ybo (Ybo acc a) b
 | [],b,acc=>rfl
 | p::a,b,acc=>by rw [List.cons_append,Ybv,Ybv,Yhm a b]
theorem Ydw:∀ (r acc:List (List Int)),∃ t,Ybo acc r=acc++t∧t.length=r.length
 | [],acc=>⟨[],by simp [Ybo],rfl⟩
 | p::r,acc=>by
   obtain ⟨t,h1,h2⟩:=Ydw r (acc++[orderOf acc p acc.length]);exact ⟨orderOf acc p acc.length::t,by rw [Ybv,h1];simp,by simp [h2]⟩
theorem Ysi {acc t:List (List Int)} {p:Int} (h:p.toNat < acc.length):at_ (acc++t) p=at_ acc p:=by
 rw [at_,at_,List.getD_eq_getElem?_getD,List.getD_eq_getElem?_getD,List.getElem?_append_left h]
theorem Yj0 {a b:List (List Int)} {ps:List Int} (h:∀ p∈ps,at_ a p=at_ b p):listsOf a ps=listsOf b ps:=by
 have h1:(ps.all fun p=>!(at_ a p).isEmpty)=ps.all fun p=>!(at_ b p).isEmpty:=by
  rw [Bool.eq_iff_iff,List.all_eq_true,List.all_eq_true];exact ⟨fun q p hp=>by rw [← h p hp];exact q p hp,fun q p hp=>by rw [h p hp];exact q p hp⟩
 have h2:ps.map (fun p=>bare (at_ a p))=ps.map fun p=>bare (at_ b p):=List.map_congr_left fun p hp=>by rw [h p hp]
 rw [listsOf,listsOf,h1,h2]
theorem Ykg {g:List (List Int)} (hf:fine g=true) {c:Nat} (h1:1≤c) (hc:c < 3+g.length):at_ (orders g) c=orderOf (orders g) (pOf g c) c:=by
 have hd:=Ycn hc;have hpl:=Yar g;have hsp:(parentsOf g).drop 1=((parentsOf g).drop 1).take (c-1)++(pOf g c::(parentsOf g).drop (c+1)):=by
  rw [← hd];have:=(List.take_append_drop (c-1) ((parentsOf g).drop 1)).symm
  rw [List.drop_drop,show 1+(c-1)=c by omega] at this;exact this
 obtain ⟨t,e,hlen⟩:=Ydw (((parentsOf g).drop 1).take (c-1)) [[0]];have hl:(Ybo [[0]] (((parentsOf g).drop 1).take (c-1))).length=c:=by
  rw [e];simp [hlen];omega
 generalize hA:Ybo [[0]] (((parentsOf g).drop 1).take (c-1))=A at *
 have ho:orders g=Ybo (A++[orderOf A (pOf g c) c]) ((parentsOf g).drop (c+1)):=by
  rw [YcV,hsp,Yhm];rw [hA,Ybv,hl]
 obtain ⟨u,e2,_⟩:=Ydw ((parentsOf g).drop (c+1)) (A++[orderOf A (pOf g c) c]);rw [e2] at ho;have hp:=(YaK hf (c:=(c:Int)) (by omega)).2.1;have hcg:listsOf A (pOf g c)=listsOf (orders g) (pOf g c):=Yj0 fun p hpm=>by
  have:=hp p hpm
  rw [ho,List.append_assoc,Ysi (by omega)]
 have hoo:orderOf (orders g) (pOf g c) c=orderOf A (pOf g c) c:=by rw [orderOf,orderOf,hcg]
 rw [hoo,ho,Ysi (by simp;omega),at_,Int.toNat_natCast,List.getD_eq_getElem?_getD,← hl];simp
end Go.Proofs
