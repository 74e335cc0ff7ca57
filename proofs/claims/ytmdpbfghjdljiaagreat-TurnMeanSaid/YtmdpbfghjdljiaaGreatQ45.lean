/- Part 45 of what the claim is proved by: lemmas on the model and walks through functions of the program; no conditions. -/
import Derived.Test.YtmdpbfghjdljiaaGreatQ44
import Derived.Test.YtmdpbfghjdljiaaGreatQ16
import Derived.Test.YtmdpbfghjdljiaaGreatQ14
import Derived.Laws.IdiomCopy
import Derived.Test.YtmdpbfghjdljiaaGreatQ13
namespace Go.V
open Go Go.W
theorem In.cur {B m w γ} {η:Eta} {i T:Nat} {nl} {xs:List AV} {g n c:Nat} (hI:In B m w γ η) (hv:γ[i]?=some (.slice (some ⟨g,0,none⟩) n c)) (ho:η[i]?=some (.gs false T 1 nl xs)) (h0:0 < xs.length) :
  ∃ cur:List Value,n=xs.length∧w.heap[g]?=some (.cells cur.toArray T (0,0))∧xs.length≤cur.length∧∀ (j:Nat) x,xs[j]?=some x→∃ v,cur[j]?=some v∧CL [] m w [v] x.cells:=by
 obtain ⟨hown,hnl,hlen⟩:=hI.heap.ok i _ _ hv ho
 simp only [Bool.false_eq_true,if_false] at hown
 obtain ⟨m',hown,hm1,hm2⟩:=hown
 rcases hown with ⟨_,rfl⟩|⟨_,_,_,rfl⟩|⟨g',cap,cur,hve,hc0,hg,h1,h2,h3,h4,h5⟩
 ·simp at h0
 ·simp at h0
 ·cases hve
  refine ⟨cur.toList,rfl,by simpa using hg,by simp;omega,fun j x hx=>?_⟩
  obtain ⟨cs,a1,a2,a3⟩:=h5 j x hx
  obtain ⟨v,rfl⟩:∃ v,cs=[v]:=by
   match cs,a1 with
   | [v],_=>exact ⟨v,rfl⟩
  exact ⟨v,by have:=a2 0 v rfl;simpa using this,a3⟩
theorem In.span {B m w γ} {η:Eta} {i k T:Nat} {nl} {xs:List AV} {g n c:Nat} {vs:List Value} {us:List AV} {cur:List Value} (hI:In B m w γ η) (hv:γ[i]?=some (.slice (some ⟨g,0,none⟩) n c)) (ho:η[i]?=some (.gs false T 1 nl xs)) (h0:0 < xs.length) (hcur:w.heap[g]?=some (.cells cur.toArray T (0,0)))
  (hul:us.length=vs.length) (hC:∀ (j:Nat) v u,vs[j]?=some v→us[j]?=some u→u.cells.length=1∧CL [] m w [v] u.cells) (hk:k+vs.length≤xs.length) :
  k+vs.length≤cur.length∧Ext m w m (w.setRow g (cur.take k++vs++cur.drop (k+vs.length)).toArray) ∧
   In B m (w.setRow g (cur.take k++vs++cur.drop (k+vs.length)).toArray) γ (η.set i (.gs false T 1 nl (xs.take k++us++xs.drop (k+us.length)))):=by
 obtain ⟨hown,hnl,hlen⟩:=hI.heap.ok i _ _ hv ho
 simp only [Bool.false_eq_true,if_false] at hown
 obtain ⟨m',hown,hm1,hm2⟩:=hown
 rcases hown with ⟨_,rfl⟩|⟨_,_,_,rfl⟩|⟨g',cap,cur',hve,hc0,hg,h1,h2,h3,h4,h5⟩
 ·simp at h0
 ·simp at h0
 ·cases hve
  rw [hg] at hcur
  simp only [Option.some.injEq,Obj.cells.injEq,and_true] at hcur
  obtain rfl:=hcur
  have hob:ownB (.slice (some ⟨g,0,none⟩) xs.length c)=some g:=by
   obtain ⟨c',rfl⟩:∃ c',c=c'+1:=⟨c-1,by omega⟩
   simp [ownB]
  have hB:Box m w g cur T:=⟨hg,hm2 g hob⟩
  have h3':c≤cur.length:=by simpa using h3
  have hbd:k+vs.length≤cur.length:=by omega
  obtain ⟨t1,t2⟩:=setRow_box (vs:=cur.take k++vs++cur.drop (k+vs.length)) hB
  have hsl:=splice_len cur vs k hbd
  have hsg:=splice_get cur vs k hbd
  have hxl:=splice_len xs us k (by omega)
  have hxg:=splice_get xs us k (by omega)
  refine ⟨hbd,t1.ext,hI.put (o':=.gs false T 1 nl (xs.take k++us++xs.drop (k+us.length))) hv ho (by simp only [blk];rw [hob];exact t1) ⟨?_,?_,?_⟩ (.inl rfl)⟩
  ·simp only [Bool.false_eq_true,if_false]
   refine ⟨m',.inr (.inr ⟨g,c,_,by rw [hxl],hc0,t2.heap,by rw [hxl];exact h1,h2,by rw [List.size_toArray,hsl];simpa using h3,by rw [hxl];exact h4,fun j x hx=>?_⟩),hm1,hm2⟩
   rw [hxg] at hx
   by_cases c1:j < k
   ·rw [if_pos c1] at hx
    obtain ⟨cs,a1,a2,a3⟩:=h5 j x hx
    refine ⟨cs,a1,fun q cc hq=>?_,CL.mono t1.ext (.refl _) a3⟩
    have hq1:=(List.getElem?_eq_some_iff.1 hq).1
    have:=a2 q cc hq
    simp only [List.getElem?_toArray] at this ⊢
    rw [hsg,if_pos (by omega)];exact this
   ·rw [if_neg c1] at hx
    by_cases c2:j < k+us.length
    ·rw [if_pos c2] at hx
     have hjv:j-k < vs.length:=by omega
     have hv1:vs[j-k]?=some vs[j-k]:=List.getElem?_eq_getElem hjv
     obtain ⟨_,hc2⟩:=hC _ _ _ hv1 hx
     refine ⟨[vs[j-k]],rfl,fun q cc hq=>?_,CL.mono t1.ext (.refl _) hc2⟩
     cases q with
     | zero =>
       simp at hq
       subst hq
       simp only [List.getElem?_toArray,Nat.mul_one,Nat.add_zero]
       rw [hsg,if_neg c1,if_pos (by omega)];exact hv1
     | succ q=>simp at hq
    ·rw [if_neg c2] at hx
     obtain ⟨cs,a1,a2,a3⟩:=h5 j x hx
     refine ⟨cs,a1,fun q cc hq=>?_,CL.mono t1.ext (.refl _) a3⟩
     have hq1:=(List.getElem?_eq_some_iff.1 hq).1
     have:=a2 q cc hq
     simp only [List.getElem?_toArray] at this ⊢
     rw [hsg,if_neg (by omega),if_neg (by omega)];exact this
  ·refine ⟨fun e=>?_,fun e=>hnl.2 e⟩
   exact hnl.1 e
  ·intro x hx
   rcases List.mem_append.1 hx with hx|hx
   ·rcases List.mem_append.1 hx with hx|hx
    ·exact hlen x (List.mem_of_mem_take hx)
    ·obtain ⟨j,hj,rfl⟩:=List.mem_iff_getElem.1 hx
     exact (hC j _ _ (List.getElem?_eq_getElem (by omega)) (List.getElem?_eq_getElem hj)).1
   ·exact hlen x (List.mem_of_mem_drop hx)
section
variable {C:Cx} {ops:Array Oper} {Q:Qt} {ρ ρ':Ro} {η η' η2:Eta} {rest:List Oper} {T d X E:Nat} {pos:String} {af:Array Edge} {x y z:Operand} {A:Code} {e:Exit}
theorem TC.rebase (k:∀ (B':Base) (hB':B'.γ.length=η.length),(∀ m w γ η',In B' m w γ η'→In C.B m w γ η')→(∀ (i:Nat) o,η[i]?=some o→∃ v,B'.γ[i]?=some v∧ObjOK B'.m B'.w B'.γ v o) →
  TC ⟨C.P,C.tab,C.hT,C.hm,C.N,C.D,B',η.length,hB',C.r,C.k⟩ Q A ρ η):TC C Q A ρ η:=by
 rintro a w ⟨m,γ,ρc,hE,hR,hI⟩
 have h:=k ⟨m,w,blks γ η,γ⟩ hI.heap.len (fun m' w' γ' η' h=>h.comp hI.far (blks_own hI) hI.pre) (fun i o ho=>hI.heap.get ho) a w ⟨m,γ,ρc,hE,hR,hI.rebase (.refl _)⟩
 exact h
theorem TX.unbase {B':Base} {n':Nat} {hB':B'.γ.length=n'} (hu:∀ m w γ η',In B' m w γ η'→In C.B m w γ η') (h:TX C Q e ρ η):TX ⟨C.P,C.tab,C.hT,C.hm,C.N,C.D,B',n',hB',C.r,C.k⟩ Q e ρ η:=by
 rintro a w ⟨m,γ,ρc,hE,hR,hI⟩
 exact h a w ⟨m,γ,ρc,hE,hR,hu _ _ _ _ hI⟩
theorem own_shape {m w γ v T nl} {xs:List AV} (h:ObjOK m w γ v (.gs false T 1 nl xs)) (h0:0 < xs.length):∃ g cap,v=.slice (some ⟨g,0,none⟩) xs.length cap∧xs.length≤cap:=by
 obtain ⟨hown,_,_⟩:=h
 simp only [Bool.false_eq_true,if_false] at hown
 obtain ⟨m',hown,_,_⟩:=hown
 rcases hown with ⟨_,rfl⟩|⟨_,_,_,rfl⟩|⟨g',cap,cur',hve,hc0,hg,h1,h2,h3,h4,h5⟩
 ·simp at h0
 ·simp at h0
 ·exact ⟨g',cap,hve,h1⟩
theorem Wk.rawOf {t i:Nat} {a:Option Addr} {n c:Nat} (hx:lk ρ t=some (.hs i)) (hγ:C.B.γ[i]?=some (.slice a n c)):Wk C ρ η ((t,.raw (.slice a n c))::ρ) η:=by
 rintro ac w ⟨m,γ,ρc,hE,hR,hI⟩
 obtain ⟨v,h1,h2⟩:=hR.look hx
 cases h2 with
 | @hs _ _ a' n' c' hb =>
 have:=hI.pre i _ hγ
 rw [hb] at this
 simp only [Option.some.injEq,Value.slice.injEq] at this
 obtain ⟨rfl,rfl,rfl⟩:=this
 refine ⟨m,γ,(t,.slice a' n' c')::ρc,⟨hE.size,hE.defers,fun s q hs=>?_⟩,⟨rfl,.raw rfl,hR⟩,hI⟩
 simp only [W.look] at hs
 cases hb':Nat.beq t s with
 | true =>
   rw [hb'] at hs
   simp at hs
   subst hs
   rw [← Nat.eq_of_beq_eq_true hb']
   exact hE.look _ _ h1
 | false=>rw [hb'] at hs;exact hE.look _ _ (by simpa using hs)
theorem Wk.hsOf {t i:Nat} {a:Option Addr} {n c:Nat} (hx:lk ρ t=some (.raw (.slice a n c))) (hγ:C.B.γ[i]?=some (.slice a n c)):Wk C ρ η ((t,.hs i)::ρ) η:=by
 rintro ac w ⟨m,γ,ρc,hE,hR,hI⟩
 obtain ⟨v,h1,h2⟩:=hR.look hx
 cases h2 with
 | raw h =>
 refine ⟨m,γ,(t,.slice a n c)::ρc,⟨hE.size,hE.defers,fun s q hs=>?_⟩,⟨rfl,.hs (hI.pre i _ hγ),hR⟩,hI⟩
 simp only [W.look] at hs
 cases hb':Nat.beq t s with
 | true =>
   rw [hb'] at hs
   simp at hs
   subst hs
   rw [← Nat.eq_of_beq_eq_true hb']
   exact hE.look _ _ h1
 | false=>rw [hb'] at hs;exact hE.look _ _ (by simpa using hs)
theorem gvSubL {M:Bool} {g o len cap l:Nat} {i:Int} (hs:(C.tab X).map (·.sh)=some (.slice E):=by with_unfolding_all exact rfl) (hz:(C.tab E).map (·.size)=some 1:=by with_unfolding_all exact rfl) (hx:ev2 ρ x=some (.raw (.slice (some ⟨g,o,none⟩) len cap)):=by with_unfolding_all exact rfl) (hy:ev2 ρ y=some (.raw (.int .i64 i)):=by with_unfolding_all exact rfl)
  (hi:i=(l:Nat):=by omega) (hl:l≤len:=by omega) (hlc:l < cap:=by omega) (_hc:len≤cap:=by omega):Gives C.P C.N C.D (.slice X x (some y) none none) ρ η (.raw (.slice (some ⟨g,o+l,none⟩) (len-l) (cap-l))) M:=fun m w γ ρc ac hE hR hH=>by
 obtain ⟨dd,hu,hd⟩:=shOf C.hT hs
 obtain rfl:dd=_:=hd
 obtain ⟨inf,i1,i2⟩:=sizeOf' C.hT hz
 subst hi
 refine ⟨_,.raw rfl,fun _ _ _ _ _ _=>?_⟩
 have:¬ cap=l:=by omega
 simp [execOp,hE.ev (hR.raw hx),hE.ev (hR.raw hy),Instr.sliceAt,run_underlying hu,Instr.slice,Instr.sliceBounds,Instr.sliceBound,asIntOf,sizeOf,typeInfo,i1,i2,hl,this,Addr.add]
theorem gvSubH {M:Bool} {g o len cap h:Nat} {i:Int} (hs:(C.tab X).map (·.sh)=some (.slice E):=by with_unfolding_all exact rfl) (hz:(C.tab E).map (·.size)=some 1:=by with_unfolding_all exact rfl) (hx:ev2 ρ x=some (.raw (.slice (some ⟨g,o,none⟩) len cap)):=by with_unfolding_all exact rfl) (hy:ev2 ρ y=some (.raw (.int .i64 i)):=by with_unfolding_all exact rfl)
  (hi:i=(h:Nat):=by omega) (hh:h≤cap:=by omega):Gives C.P C.N C.D (.slice X x none (some y) none) ρ η (.raw (.slice (some ⟨g,o,none⟩) h cap)) M:=fun m w γ ρc ac hE hR hH=>by
 obtain ⟨dd,hu,hd⟩:=shOf C.hT hs
 obtain rfl:dd=_:=hd
 obtain ⟨inf,i1,i2⟩:=sizeOf' C.hT hz
 subst hi
 refine ⟨_,.raw rfl,fun _ _ _ _ _ _=>?_⟩
 simp [execOp,hE.ev (hR.raw hx),hE.ev (hR.raw hy),Instr.sliceAt,run_underlying hu,Instr.slice,Instr.sliceBounds,Instr.sliceBound,asIntOf,sizeOf,typeInfo,i1,hh,Addr.add]
end
end Go.V
namespace Go.V
open Go Go.W
section
variable {C:Cx} {ops:Array Oper} {Q:Qt} {ρ ρ':Ro} {η η' η2:Eta} {rest:List Oper} {T d X Y E:Nat} {pos:String} {af:Array Edge} {x y z:Operand}
theorem run_copyAt {P:Program} {X Y ty E g o1 l1 c1 o2 l2 c2 n:Nat} {b2:Nat} {T:TypeId} {inf:TypeInfo} {w:World} {cur vs:List Value} (hu:P.underlying X=some (.slice E)) (hi:P.info? E=some inf) (hsz:inf.size=1) (hg:w.heap[g]?=some (.cells cur.toArray T (0,0))) (hn:n=Min.min l2 l1) (hvl:vs.length=n) (hbd:o1+n≤cur.length)
  (hsrc:∀ j v,vs[j]?=some v→w.cell? ⟨b2,o2+j,none⟩=some v) (h1:∀ v∈vs,v.oneCell'=true) :
  (Builtin.copy_ #[X,Y] ty #[.slice (some ⟨g,o1,none⟩) l1 c1,.slice (some ⟨b2,o2,none⟩) l2 c2]).run P w=.ok (goInt n) (w.setRow g (cur.take o1++vs++cur.drop (o1+vs.length)).toArray):=by
 subst hvl
 have hl:=run_loadCells_list (P:=P) w ⟨b2,o2,none⟩ vs (fun j v hj=>by rw [Addr_add_lit];exact hsrc j v hj)
 have hst:=run_storeCells_at P g o1 T vs 0 cur.toArray w hg (by simp;omega) h1
 simp only [Nat.add_zero] at hst
 have hm:Nat.min l2 l1=vs.length:=hn.symm
 simp only [List.append_assoc] at hst
 simp [Builtin.copy_,run_underlying hu,Builtin.lenOf,Builtin.firstCells,sizeOf,typeInfo,hi,hsz,hm,hl,hst]
theorem OL.copyR {i g L cap o1 l1 c1 o2 l2 c2 T':Nat} {nl} {xs:List AV} (n:Nat) (kk:OL C ops Q rest ((d,V.int n)::ρ) η2) (hs:(C.tab X).map (·.sh)=some (.slice E):=by with_unfolding_all exact rfl) (hz:(C.tab E).map (·.size)=some 1:=by with_unfolding_all exact rfl)
  (hx:ev2 ρ x=some (.raw (.slice (some ⟨g,o1,none⟩) l1 c1)):=by with_unfolding_all exact rfl) (hy:ev2 ρ y=some (.raw (.slice (some ⟨g,o2,none⟩) l2 c2)):=by with_unfolding_all exact rfl) (hγ:C.B.γ[i]?=some (.slice (some ⟨g,0,none⟩) L cap):=by assumption)
  (ho:η[i]?=some (.gs false T' 1 nl xs):=by with_unfolding_all exact rfl) (hη:η.set i (.gs false T' 1 nl (xs.take o1++(xs.drop o2).take n++xs.drop (o1+n)))=η2:=by (try dsimp only [List.set])<;>exact rfl) (hd:Nat.blt d C.N=true:=by with_unfolding_all exact rfl)
  (hn:n=Min.min l2 l1:=by omega) (h1:o1+n≤xs.length:=by (try simp only [List.length_map]);omega) (h2:o2+n≤xs.length:=by (try simp only [List.length_map]);omega) (h0:0 < xs.length:=by (try simp only [List.length_map]);omega) :
  OL C ops Q (⟨some d,.call ⟨.builtin .copy,#[x,y],#[X,Y]⟩,T,pos,af,none⟩::rest) ρ η:=by
 rintro a w ⟨m,γ,ρc,hE,hR,hI⟩
 obtain ⟨dd,hu,hdd⟩:=shOf C.hT hs
 obtain rfl:dd=_:=hdd
 obtain ⟨inf,i1,i2⟩:=sizeOf' C.hT hz
 have hv:=hI.pre i _ hγ
 obtain ⟨cur,hnL,hcur,hcl,hce⟩:=hI.cur hv ho h0
 have hvl:((cur.drop o2).take n).length=n:=by simp;omega
 have hul:((xs.drop o2).take n).length=n:=by simp;omega
 have hC:∀ (j:Nat) v u,((cur.drop o2).take n)[j]?=some v→((xs.drop o2).take n)[j]?=some u→u.cells.length=1∧CL [] m w [v] u.cells:=by
  intro j v u hv hu
  have hj:j < n:=by have:=(List.getElem?_eq_some_iff.1 hv).1;omega
  rw [List.getElem?_take,if_pos hj,List.getElem?_drop] at hv hu
  obtain ⟨v',q1,q2⟩:=hce _ _ hu
  rw [hv] at q1
  cases q1
  exact ⟨by have:=q2.1;simpa using this.symm,q2⟩
 obtain ⟨hb,hext,hI'⟩:=hI.span hv ho h0 hcur (by rw [hul,hvl]) hC (k:=o1) (by rw [hvl];exact h1)
 rw [hul] at hI'
 rw [hvl] at hext hI' hb
 subst hη
 have hone:∀ v∈(cur.drop o2).take n,v.oneCell'=true:=by
  intro v hv
  obtain ⟨j,hj,rfl⟩:=List.mem_iff_getElem.1 hv
  have:=hC j _ _ (List.getElem?_eq_getElem hj) (List.getElem?_eq_getElem (by omega))
  exact this.2.2.1 _ (by simp)
 have hrun:=run_copyAt (P:=C.P) (X:=X) (Y:=Y) (ty:=T) (l1:=l1) (c1:=c1) (l2:=l2) (c2:=c2) (o1:=o1) (o2:=o2) (b2:=g) (n:=n) (vs:=(cur.drop o2).take n) hu i1 i2 hcur hn hvl (by omega) (fun j v hj=>by
  have hj':j < n:=by have:=(List.getElem?_eq_some_iff.1 hj).1;omega
  rw [List.getElem?_take,if_pos hj',List.getElem?_drop] at hj
  simp [World.cell?,hcur,hj]) hone
 rw [hvl] at hrun
 refine Cx.lcons (wl_value (v:=.int .i64 n) (w':=w.setRow g (cur.take o1++(cur.drop o2).take n++cur.drop (o1+n)).toArray) rfl ?_ (kk _ _ ⟨m,γ,_,hE.put _ (by simpa using hd),⟨rfl,.raw rfl,hR.mono hext (.refl _)⟩,hI'⟩))
 simp [execOp,resolve,invoke,builtin,hE.ev (hR.raw hx),hE.ev (hR.raw hy),hrun,goInt]
theorem OL.copyV {α:Type} {f:α→AV} {i g L cap o1 l1 c1 T':Nat} {nl nl2} {xs:List AV} {ys:List α} (n:Nat) (kk:OL C ops Q rest ((d,V.int n)::ρ) η2) (hs:(C.tab X).map (·.sh)=some (.slice E):=by with_unfolding_all exact rfl) (hz:(C.tab E).map (·.size)=some 1:=by with_unfolding_all exact rfl)
  (hx:ev2 ρ x=some (.raw (.slice (some ⟨g,o1,none⟩) l1 c1)):=by with_unfolding_all exact rfl) (hy:ev2 ρ y=some (.sl 1 nl2 (ys.map f)):=by with_unfolding_all exact rfl) (hγ:C.B.γ[i]?=some (.slice (some ⟨g,0,none⟩) L cap):=by assumption)
  (ho:η[i]?=some (.gs false T' 1 nl xs):=by with_unfolding_all exact rfl) (hη:η.set i (.gs false T' 1 nl (xs.take o1++(ys.take n).map f++xs.drop (o1+n)))=η2:=by (try dsimp only [List.set])<;>exact rfl) (hd:Nat.blt d C.N=true:=by with_unfolding_all exact rfl)
  (hn:n=Min.min ys.length l1:=by omega) (h1:o1+n≤xs.length:=by (try simp only [List.length_map]);omega) (h0:0 < xs.length:=by (try simp only [List.length_map]);omega) (hn0:0 < n:=by omega) :
  OL C ops Q (⟨some d,.call ⟨.builtin .copy,#[x,y],#[X,Y]⟩,T,pos,af,none⟩::rest) ρ η:=by
 rintro a w ⟨m,γ,ρc,hE,hR,hI⟩
 obtain ⟨dd,hu,hdd⟩:=shOf C.hT hs
 obtain rfl:dd=_:=hdd
 obtain ⟨inf,i1,i2⟩:=sizeOf' C.hT hz
 have hv:=hI.pre i _ hγ
 obtain ⟨cur,hnL,hcur,hcl,hce⟩:=hI.cur hv ho h0
 obtain ⟨sv,g1,g2⟩:=hR.ev hy
 have hrs:=g2.rs.1
 have hyl:ys.length=(ys.map f).length:=by simp
 rcases hrs with ⟨_,hnil⟩|⟨b,o,cap2,rfl,q1,q2,q3⟩|⟨aw,_,hnil⟩
 ·rw [hnil,List.length_nil] at hyl;omega
 rotate_left
 ·rw [hnil,List.length_nil] at hyl;omega
 obtain ⟨vs,hvs⟩:∃ vs:List Value,vs=(List.range n).map fun j=>(w.cell? ⟨b,o+j,none⟩).getD (.bool false):=⟨_,rfl⟩
 have hvl:vs.length=n:=by rw [hvs];simp
 have hul:((ys.take n).map f).length=n:=by simp;omega
 have hvc:∀ j v,vs[j]?=some v→w.cell? ⟨b,o+j,none⟩=some v∧∀ u,((ys.take n).map f)[j]?=some u→u.cells.length=1∧CL [] m w [v] u.cells:=by
  intro j v hj
  have hjn:j < n:=by have:=(List.getElem?_eq_some_iff.1 hj).1;omega
  have hjy:j < (ys.map f).length:=by omega
  obtain ⟨cs,a1,a2,a3⟩:=q3 j _ (List.getElem?_eq_getElem hjy)
  obtain ⟨v',rfl⟩:∃ v,cs=[v]:=by
   match cs,a1 with
   | [v],_=>exact ⟨v,rfl⟩
  have hc:=(a2 0 v' rfl).2
  simp only [Nat.mul_one,Nat.add_zero] at hc
  rw [hvs,List.getElem?_map,List.getElem?_range hjn] at hj
  simp only [Option.map_some,Option.some.injEq] at hj
  rw [hc] at hj
  simp only [Option.getD_some] at hj
  subst hj
  refine ⟨hc,fun u hu=>?_⟩
  have hu':u=(ys.map f)[j]:=by
   rw [List.map_take,List.getElem?_take,if_pos hjn,List.getElem?_eq_getElem hjy] at hu
   exact (Option.some.inj hu).symm
  subst hu'
  exact ⟨by have:=a3.1;simpa using this.symm,a3⟩
 obtain ⟨hb,hext,hI'⟩:=hI.span hv ho h0 hcur (by rw [hul,hvl]) (fun j v u h1 h2=>(hvc j v h1).2 u h2) (k:=o1) (by rw [hvl];exact h1)
 rw [hul] at hI'
 rw [hvl] at hext hI' hb
 subst hη
 have hone:∀ v∈vs,v.oneCell'=true:=by
  intro v hv
  obtain ⟨j,hj,rfl⟩:=List.mem_iff_getElem.1 hv
  have:=(hvc j _ (List.getElem?_eq_getElem hj)).2 _ (List.getElem?_eq_getElem (by omega))
  exact this.2.2.1 _ (by simp)
 have hrun:=run_copyAt (P:=C.P) (X:=X) (Y:=Y) (ty:=T) (l1:=l1) (c1:=c1) (l2:=(ys.map f).length) (c2:=cap2) (o1:=o1) (o2:=o) (b2:=b) (n:=n) (vs:=vs) hu i1 i2 hcur (by rw [← hyl];exact hn) hvl (by omega) (fun j v hj=>(hvc j v hj).1) hone
 rw [hvl] at hrun
 refine Cx.lcons (wl_value (v:=.int .i64 n) (w':=w.setRow g (cur.take o1++vs++cur.drop (o1+n)).toArray) rfl ?_ (kk _ _ ⟨m,γ,_,hE.put _ (by simpa using hd),⟨rfl,.raw rfl,hR.mono hext (.refl _)⟩,hI'⟩))
 simp only [List.length_map] at hrun
 simp [execOp,resolve,invoke,builtin,hE.ev (hR.raw hx),hE.ev g1,hrun,goInt]
end
end Go.V
namespace Go.V
open Go Go.W
section
variable {C:Cx} {ops:Array Oper} {Q:Qt} {ρ ρ':Ro} {η η' η2:Eta} {rest:List Oper} {T d X Y E:Nat} {pos:String} {af:Array Edge} {x y z:Operand}
theorem OL.rebase (k:∀ (B':Base) (hB':B'.γ.length=η.length),(∀ m w γ η',In B' m w γ η'→In C.B m w γ η')→(∀ (i:Nat) o,η[i]?=some o→∃ v,B'.γ[i]?=some v∧ObjOK B'.m B'.w B'.γ v o) →
  OL ⟨C.P,C.tab,C.hT,C.hm,C.N,C.D,B',η.length,hB',C.r,C.k⟩ ops Q rest ρ η):OL C ops Q rest ρ η:=by
 rintro a w ⟨m,γ,ρc,hE,hR,hI⟩
 have h:=k ⟨m,w,blks γ η,γ⟩ hI.heap.len (fun m' w' γ' η' h=>h.comp hI.far (blks_own hI) hI.pre) (fun i o ho=>hI.heap.get ho) a w ⟨m,γ,ρc,hE,hR,hI.rebase (.refl _)⟩
 exact h
theorem OL.addU {p q:Int} (r:Int) (k:OL C ops Q rest ((d,.raw (.int .u64 r))::ρ) η) (hx:ev2 ρ x=some (.raw (.int .u64 p)):=by with_unfolding_all exact rfl) (hy:ev2 ρ y=some (.raw (.int .u64 q)):=by with_unfolding_all exact rfl) (hd:Nat.blt d C.N=true:=by with_unfolding_all exact rfl) (hr:p+q=r:=by omega) (h0:0≤r:=by omega) (h1:r≤18446744073709551615:=by omega) :
  OL C ops Q (⟨some d,.binOp .add X x y Y,T,pos,af,none⟩::rest) ρ η:=by
 subst hr;exact OL.give (give_addU hx hy h0 h1) hd k
theorem OL.mulU {p q:Int} (r:Int) (k:OL C ops Q rest ((d,.raw (.int .u64 r))::ρ) η) (hx:ev2 ρ x=some (.raw (.int .u64 p)):=by with_unfolding_all exact rfl) (hy:ev2 ρ y=some (.raw (.int .u64 q)):=by with_unfolding_all exact rfl) (hd:Nat.blt d C.N=true:=by with_unfolding_all exact rfl) (hr:p*q=r:=by omega) (h0:0≤r:=by omega) (h1:r≤18446744073709551615:=by omega) :
  OL C ops Q (⟨some d,.binOp .mul X x y Y,T,pos,af,none⟩::rest) ρ η:=by
 subst hr;exact OL.give (give_mulU hx hy h0 h1) hd k
theorem OL.andU (p q r:Nat) (hr:p &&& q=r) (k:OL C ops Q rest ((d,.raw (.int .u64 (r:Int)))::ρ) η) (hx:ev2 ρ x=some (.raw (.int .u64 (p:Int))):=by with_unfolding_all exact rfl) (hy:ev2 ρ y=some (.raw (.int .u64 (q:Int))):=by with_unfolding_all exact rfl) (hd:Nat.blt d C.N=true:=by with_unfolding_all exact rfl) (h0:p < 2 ^ 64:=by omega) (h1:q < 2 ^ 64:=by omega) :
  OL C ops Q (⟨some d,.binOp .and X x y Y,T,pos,af,none⟩::rest) ρ η:=by
 subst hr;exact OL.give (give_and64 hx hy h0 h1) hd k
theorem OL.shrU (p r:Nat) (c:Int) (hr:p >>> c.toNat=r) (k:OL C ops Q rest ((d,.raw (.int .u64 (r:Int)))::ρ) η) (hx:ev2 ρ x=some (.raw (.int .u64 (p:Int))):=by with_unfolding_all exact rfl) (hy:ev2 ρ y=some (.raw (.int .u64 c)):=by with_unfolding_all exact rfl) (hd:Nat.blt d C.N=true:=by with_unfolding_all exact rfl) (h0:0≤c:=by omega) (h1:c < 64:=by omega) :
  OL C ops Q (⟨some d,.binOp .shr X x y Y,T,pos,af,none⟩::rest) ρ η:=by
 subst hr;exact OL.give (give_shrU hx hy h0 h1) hd k
theorem OL.convU {i:Int} (k:OL C ops Q rest ((d,.raw (.int .u64 i))::ρ) η) (h1:(C.tab X).map (·.sh)=some (.int .i64):=by with_unfolding_all exact rfl) (h2:(C.tab Y).map (·.sh)=some (.int .u64):=by with_unfolding_all exact rfl) (hx:ev2 ρ x=some (.raw (.int .i64 i)):=by with_unfolding_all exact rfl) (hd:Nat.blt d C.N=true:=by with_unfolding_all exact rfl) (h0:0≤i:=by omega) (h3:i≤9223372036854775807:=by omega) :
  OL C ops Q (⟨some d,.convert X Y x,T,pos,af,none⟩::rest) ρ η:=OL.give (give_convU C.hT h1 h2 hx h0 h3) hd k
theorem OL.convI {i:Int} (k:OL C ops Q rest ((d,V.int i)::ρ) η) (h1:(C.tab X).map (·.sh)=some (.int .u64):=by with_unfolding_all exact rfl) (h2:(C.tab Y).map (·.sh)=some (.int .i64):=by with_unfolding_all exact rfl) (hx:ev2 ρ x=some (.raw (.int .u64 i)):=by with_unfolding_all exact rfl) (hd:Nat.blt d C.N=true:=by with_unfolding_all exact rfl) (h0:0≤i:=by omega) (h3:i≤9223372036854775807:=by omega) :
  OL C ops Q (⟨some d,.convert X Y x,T,pos,af,none⟩::rest) ρ η:=OL.give (give_convI C.hT h1 h2 hx h0 h3) hd k
end
end Go.V
namespace Go.Proofs
open Go Go.W Go.V
theorem Ct8 (n:Nat) (hn:n < 4294967296):V.Spec Tryz.prog 249 [V.u64 1,V.u64 n] [] (.tp [V.u64 0,V.u64 n]) []:=by
 have hand:n &&& 4294967295=n:=by
  have:=Nat.and_two_pow_sub_one_eq_mod n 32
  rw [show (2 ^ 32-1:Nat)=4294967295 from rfl] at this
  rw [this,Nat.mod_eq_of_lt (by omega)]
 have h0a:(0 &&& 4294967295:Nat)=0:=rfl
 have h1a:(1 &&& 4294967295:Nat)=1:=rfl
 have hshr:n >>> ((32:Int).toNat)=0:=by
  rw [show ((32:Int).toNat)=32 from rfl,Nat.shiftRight_eq_div_pow]
  exact Nat.div_eq_of_lt (by omega)
 refine V.Spec.enter Tryz.tabOK Tryz.mixed Tryz.func249 rfl rfl rfl fun B hB=>?_
 refine goW ?_
 refine OL.shrU 1 0 32 (by decide) ?_
 refine goW ?_
 refine OL.andU n 4294967295 n hand ?_
 refine goW ?_
 refine OL.shrU n 0 32 hshr ?_
 refine goW ?_
 refine OL.mulU (p:=1) (n:Int) ?_
 refine goW ?_
 refine OL.mulU 0 ?_
 refine goW ?_
 refine OL.shrU n 0 32 hshr ?_
 refine goW ?_
 refine OL.addU (p:=0) (q:=0) 0 ?_
 refine goW ?_
 refine OL.shrU 0 0 32 (by decide) ?_
 refine goW ?_
 refine OL.mulU 0 ?_
 refine goW ?_
 refine OL.addU (p:=0) (q:=0) 0 ?_
 refine goW ?_
 refine OL.mulU 0 ?_
 refine goW ?_
 refine OL.addU (p:=0) (q:=0) 0 ?_
 refine goW ?_
 refine OL.shrU 0 0 32 (by decide) ?_
 refine goW ?_
 refine OL.addU (p:=0) (q:=0) 0 ?_
 refine goW ?_
 refine OL.mulU (n:Int) ?_
 refine goW ?_
 exact TX.rt2 [] (.ren rfl) (.ren rfl)
theorem s_Mul (n:Nat) (hn:n < 4294967296):V.Spec Tryz.prog 226 [V.u64 1,V.u64 n] [] (.tp [V.u64 0,V.u64 n]) []:=by
 have h:=Ct8 n hn
 refine V.Spec.enter Tryz.tabOK Tryz.mixed Tryz.func226 rfl rfl rfl fun B hB=>?_
 refine goW ?_
 refine OL.c h Tryz.func249 ?_
 refine goW ?_
 exact TX.rt2 [] (.ren rfl) (.ren rfl)
set_option maxHeartbeats 2000000 in
theorem Ct9 (n:Nat) (h1:1≤n) (hn:n≤1000):V.Spec Tryz.prog 176 [ints [-1],V.int n] [] (.hs 0) [.gs false Tc.int 1 none ((List.replicate n (-1)).map V.int)]:=by
 have hm:=s_Mul n (by omega)
 have h11:([-1]:List Int).length=1:=rfl
 refine V.Spec.enter Tryz.tabOK Tryz.mixed Tryz.func176 rfl rfl rfl fun B hB=>?_
 refine goW ?_
 refine OL.convU ?_
 refine goW ?_
 refine OL.convU ?_
 refine OL.c hm Tryz.func226 ?_
 refine goW ?_
 refine OL.convI ?_
 refine OL.make (l:=n) (c:=n) (i:=(n:Int)) (j:=(n:Int)) (u:=V.int 0) (u0:=V.int 0) ?_ (fun m w γ=>.raw rfl) (hi:=rfl) (hj:=rfl)
 have hr0:(List.replicate n (V.int 0)).length=n:=by simp
 obtain ⟨xs0,hxs0⟩:∃ xs0,xs0=List.replicate n (V.int 0):=⟨_,rfl⟩
 rw [← hxs0] at hr0 ⊢
 refine goW ?_
 refine OL.rebase fun B' hB' hu hobj=>?_
 obtain ⟨v,hv,hok⟩:=hobj 0 _ rfl
 obtain ⟨g,cap,rfl,hcap⟩:=own_shape hok (by omega)
 clear hok hobj
 rw [hr0] at hv hcap
 refine OL.wk (Wk.rawOf (t:=31) (by with_unfolding_all exact rfl) hv) ?_
 refine OL.copyV 1 ?_
 obtain ⟨xs1,hxs1⟩:∃ xs1,xs1=xs0.take 0++(([-1]:List Int).take 1).map V.int++xs0.drop (0+1):=⟨_,rfl⟩
 have hl1:xs1.length=n:=by rw [hxs1];simp;omega
 have ht1:xs1.take 1=List.replicate 1 (V.int (-1)):=by rw [hxs1];simp
 rw [← hxs1]
 refine goyW ?_
 refine TC.lp (fun s:Nat × List AV=>[(7,.hs 0),(8,V.int s.1)]) (fun s=>[.gs false Tc.int 1 (some false) s.2]) (fun s=>(1≤s.1∧s.1≤n)∧s.2.length=n∧s.2.take s.1=List.replicate s.1 (V.int (-1))) (fun s=>n-s.1) (1,xs1) [0] ⟨⟨Nat.le_refl _,h1⟩,hl1,ht1⟩ ?_
 rintro ⟨k,xs⟩ ⟨⟨hk1,hkn⟩,hxl,hxt⟩
 dsimp only at hk1 hkn hxl hxt ⊢
 by_cases hlt:k < n
 ·refine goyW ?_
  refine TC.wk (Wk.rawOf (t:=7) (by with_unfolding_all exact rfl) hv) ?_
  (with_reducible refine TC.draw (id:=9) true 7 10 ?_<;>refine OD.stT 0 ?_<;>refine OD.st2 1 2 ?_<;>refine OD.st 3 ?_ (h:=(gvSubL (l:=k)))<;>refine OD.st2 4 5 ?_<;>refine OD.st 6 ?_ (h:=(gvSubH (h:=k)))<;>(refine OD.a1 7 ?_;refine OL.copyR (min k (n-k)) ?_;refine OL.nil ?_;refine TX.od ?_)<;>refine OD.st2 8 9 ?_<;>refine OD.dn ?_)
  all_goals refine goyW ?_
  all_goals refine TX.wk (Wk.hsOf (t:=7) (by with_unfolding_all exact rfl) hv) ?_
  all_goals
   have e3:xs.take (min k (n-k))=List.replicate (min k (n-k)) (V.int (-1)):=by
    have e4:=congrArg (List.take (min k (n-k))) hxt
    rw [List.take_take,List.take_replicate,Nat.min_eq_left (Nat.min_le_left _ _)] at e4
    exact e4
   have e5:xs.take (0+k)++(xs.drop 0).take (min k (n-k))=List.replicate (k+min k (n-k)) (V.int (-1)):=by
    rw [Nat.zero_add,List.drop_zero,hxt,e3,List.replicate_append_replicate]
   obtain ⟨ys,hys⟩:∃ ys,ys=xs.take (0+k)++(xs.drop 0).take (min k (n-k))++xs.drop (0+k+min k (n-k)):=⟨_,rfl⟩
   have hyl:ys.length=n:=by rw [hys,e5];simp;omega
   have hyt:ys.take (k+min k (n-k))=List.replicate (k+min k (n-k)) (V.int (-1)):=by
    rw [hys,e5];exact List.take_left' (by simp)
   rw [← hys]
   exact TX.rd (k+min k (n-k),ys) [0] ⟨⟨by dsimp only;omega,by dsimp only;omega⟩,hyl,hyt⟩ (by dsimp only;omega) (ho:=⟨⟨_,rfl,OE.ren rfl⟩,trivial⟩) (hr:=⟨⟨_,rfl,LE.ren rfl⟩,⟨_,rfl,LE.int (by omega)⟩,trivial⟩)
 ·obtain rfl:k=n:=by omega
  rw [← hxl,List.take_length] at hxt
  refine goyW ?_
  refine TX.unbase hu ?_
  refine TX.rt1 [0] (.ren rfl) (ho:=⟨⟨_,rfl,OE.gsS (by rw [List.map_replicate,← hxl];exact hxt)⟩,trivial⟩)
end Go.Proofs
