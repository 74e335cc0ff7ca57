/- Lemmas for the claim; no conditions. -/
import Derived.Test.YtdjhogobbbnddaaGreatC18
import Derived.Test.YtdjhogobbbnddaaGreatC37
import Derived.Test.YtdjhogobbbnddaaGreatC23
namespace Go.V
open Go Go.W
def YoO (P:Program) (f:Nat) (ag:List Value→List AV) (η:Eta) (r:AV) (η':Eta):Prop:=
 ∀ m w γ vs,Heap m w γ η→VL m w γ vs (ag γ)→Calls P f vs.toArray w (YbF (Ya1 m w γ η) r η')
theorem YoO.enter {P:Program} {f:Nat} {fn:Func} {c:Code} {ag:List Value→List AV} {r:AV} {η η':Eta} {tab:Tab} {N:Nat} (hT:YaX P tab) (hm:P.follows .mixedOrders=true) (hf:P.funcs[f]?=some fn) (hb:fn.body=some c) (hN:fn.ntmps=N)
  (h:∀ B (hB:B.γ.length=η.length),(∀ (i:Nat) o,η[i]?=some o→∃ v,B.γ[i]?=some v∧YcR B.m B.w B.γ v o)→Nat.ble (ag B.γ).length N=true∧TC ⟨P,tab,hT,hm,N,[],B,η.length,hB,none,0⟩ (bodyPost P fn (YbF B r η')) c (Ym3 0 (ag B.γ)) η):YoO P f ag η r η':=by
 intro m w γ vs hH hV;obtain ⟨ha,h⟩:=h (Ya1 m w γ η) hH.len (fun i o ho=>hH.get ho);refine W.enter (N:=N) (W.zipA 0 vs) hf hb hN (by simp) (by have:=hV.len;have q:Nat.ble (ag γ).length N=true:=ha;simp at q;simp;omega) fun a hE=>?_;exact h a w ⟨m,γ,_,hE,hV.zip 0,hH,.refl _ _ _,fun i v o b h1 h2 h3=>.inl (Yap.2 ⟨i,v,o,h1,h2,h3⟩),.refl _⟩
section
variable {C:Cx} {ops:Array Oper} {Q:Qt} {ρ ρ':Ro} {η η' η1 η1' η2:Eta} {rest:List Oper} {T d X E:Nat} {pos:String} {af:Array Edge} {x y z:Operand} {args:List Operand} {at_:Array TypeId} {A:Code} {e:Exit}
theorem Zdl {P:Program} {f:Nat} {fn:Func} {us ag':List AV} {ag:List Value→List AV} {r r2:AV} (is:List Nat) (hs:YoO P f ag η1 r η1') (hf:P.funcs[f]?=some fn) (hag:ag (is.map fun i=>C.B.γ.getD i undef)=ag') (k:OL C ops Q rest ((d,r2)::ρ) η2)
  (his : (is.all fun i => Nat.blt i C.n) = true := by with_unfolding_all exact rfl) (hP : C.P = P := by with_unfolding_all exact rfl) (hb : (fn.body.isNone || fn.name == "runtime.NumGoroutine") = false := by with_unfolding_all exact rfl) (hl : Yc6 ρ args = some us := by with_unfolding_all exact rfl)
  (hn:YbG is=true:=by with_unfolding_all exact rfl)
  (ho:Ybw (ts is) η is η1:=by repeat' (first|with_unfolding_all exact trivial|exact OE.ren (by with_unfolding_all exact rfl)|with_unfolding_all exact OE.gs|with_unfolding_all refine And.intro ⟨_,by with_unfolding_all exact rfl,?_⟩ ?_))
  (hle:LEs (ts is) us ag':=by repeat' (first|with_unfolding_all exact trivial|exact LE.ren (by with_unfolding_all exact rfl)|with_unfolding_all exact LE.sl|with_unfolding_all exact LE.nil (by decide)|with_unfolding_all refine And.intro ?_ ?_)) (hd:Nat.blt d C.N=true:=by with_unfolding_all exact rfl)
  (hr:ren (back is η.length) r=r2:=by (try simp only [ren,ren0,ren1,ren2,back,Nat.blt,Nat.ble,cond_true,cond_false,List.map,List.length,List.getElem?_cons_succ,List.getElem?_cons_zero,List.getElem?_nil,Nat.add_zero,Nat.zero_add,Nat.reduceAdd,Nat.reduceSub])<;>exact rfl)
  (hη:upd is (η1'.map (renO (back is η.length))) η++(η1'.drop is.length).map (renO (back is η.length))=η2:=by (try simp only [upd,renO,ren,ren0,ren1,ren2,back,Nat.blt,Nat.ble,cond_true,cond_false,List.set,List.drop,List.map,List.length,List.cons_append,List.nil_append,List.append_nil,List.getElem?_cons_succ,List.getElem?_cons_zero,List.getElem?_nil,Nat.add_zero,Nat.zero_add,Nat.reduceAdd,Nat.reduceSub])<;>exact rfl) :
  OL C ops Q (⟨some d,.call ⟨.value (.func f),args.toArray,at_⟩,T,pos,af,none⟩::rest) ρ η:=by
 subst hP;rintro a w ⟨m,γ,ρc,hE,hR,hI⟩;have eγ:(is.map fun i=>γ.getD i undef)=is.map fun i=>C.B.γ.getD i undef:=List.map_congr_left fun i hi=>by
  have h1:i < C.B.γ.length:=by rw [C.hn];have:=List.all_eq_true.1 his i hi;simpa using this
  have h2:=hI.pre i _ (List.getElem?_eq_getElem h1);simp [List.getD_eq_getElem?_getD,h2,List.getElem?_eq_getElem h1]
 obtain ⟨vs,h1,h2⟩:=hR.evs hl;obtain ⟨hsh,hH1,_⟩:=hI.heap.sel hn ho;have hc:=hs m w _ vs hH1 (by have q:=hle.vl hsh h2;rw [← hag,← eγ] at q;exact q);simp at hb;have hb':fn.body≠none:=Option.isSome_iff_ne_none.1 hb.1;refine Cx.lcons (Ycf (f:=f) (args:=vs.toArray) rfl ?_ (hc.mono fun e w' ⟨v',m',γ1',he,hC,hv⟩=>⟨v',he,?_⟩))
 ·have he:a.eval (.func f)=.func (.func f) #[] #[]:=rfl;simp [execOp,resolve,he,Deferred.ofValue,invoke,callFunc,hf,hb.2,hb',hE.evs h1]
 ·obtain ⟨γ2,p1,p2,p3,p4⟩:=hI.call hn ho hC;subst hr hη;exact k _ _ ⟨m',γ2,_,hE.put v' (by simpa using hd),⟨rfl,YdC p2 hv,hR.mono p4 p1⟩,p3⟩
theorem Yea {m w γ v T nl} {xs:List AV} (h:YcR m w γ v (.gs false T 1 nl xs)) (h0:0 < xs.length):∃ g cap,v=.slice (some ⟨g,0,none⟩) xs.length cap∧xs.length≤cap∧cap≤maxLen:=by
 obtain ⟨hown,_,_⟩:=h;simp only [Bool.false_eq_true,if_false] at hown;obtain ⟨m',hown,_,_⟩:=hown;rcases hown with ⟨_,rfl⟩|⟨_,_,_,rfl⟩|⟨g',cap,cur',hve,hc0,hg,h1,h2,h3,h4,h5⟩
 ·simp at h0
 ·simp at h0
 ·exact ⟨g',cap,hve,h1,h2⟩
theorem ZbW {B':Base} {n':Nat} {hB':B'.γ.length=n'} (hu:∀ m w γ η',In B' m w γ η'→In C.B m w γ η') (h:OL C ops Q rest ρ η):OL ⟨C.P,C.tab,C.hT,C.hm,C.N,C.D,B',n',hB',C.r,C.k⟩ ops Q rest ρ η:=by
 rintro a w ⟨m,γ,ρc,hE,hR,hI⟩;exact h a w ⟨m,γ,ρc,hE,hR,hu _ _ _ _ hI⟩
theorem YsA {M:Bool} {g o len cap:Nat} {i:Int} (hs:(C.tab X).map (·.sh)=some (.slice E):=by with_unfolding_all exact rfl) (hz:(C.tab E).map (·.size)=some 1:=by with_unfolding_all exact rfl) (hx:ev2 ρ x=some (.raw (.slice (some ⟨g,o,none⟩) len cap)):=by with_unfolding_all exact rfl) (hy:ev2 ρ y=some (.raw (.int .i64 i)):=by with_unfolding_all exact rfl)
  (hi:i=(cap:Nat):=by omega) (hl:len=cap:=by omega):Yaj C.P C.N C.D (.slice X x (some y) none none) ρ η (.raw (.slice (some ⟨g,o,none⟩) 0 0)) M:=fun m w γ ρc ac hE hR hH=>by
 obtain ⟨dd,hu,hd⟩:=YcO C.hT hs;obtain rfl:dd=_:=hd;obtain ⟨inf,i1,i2⟩:=Ybh C.hT hz;subst hi hl;refine ⟨_,.raw rfl,fun _ _ _ _ _ _=>?_⟩;simp [execOp,hE.ev (hR.raw hx),hE.ev (hR.raw hy),Instr.sliceAt,run_underlying hu,Instr.slice,Instr.sliceBounds,Instr.sliceBound,asIntOf,sizeOf,typeInfo,i1,Addr.add]
theorem ZcH {a:Option Addr} {l1 c1 Y:Nat} {nl} {ys:List AV} (hy0:ys=[]) (kk:OL C ops Q rest ((d,V.int 0)::ρ) η) (hs:(C.tab X).map (·.sh)=some (.slice E):=by with_unfolding_all exact rfl) (hz:(C.tab E).map (·.size)=some 1:=by with_unfolding_all exact rfl)
  (hx:ev2 ρ x=some (.raw (.slice a l1 c1)):=by with_unfolding_all exact rfl) (hy:ev2 ρ y=some (.sl 1 nl ys):=by with_unfolding_all exact rfl) (hd:Nat.blt d C.N=true:=by with_unfolding_all exact rfl) :
  OL C ops Q (⟨some d,.call ⟨.builtin .copy,#[x,y],#[X,Y]⟩,T,pos,af,none⟩::rest) ρ η:=by
 rintro ac w ⟨m,γ,ρc,hE,hR,hI⟩;obtain ⟨dd,hu,hdd⟩:=YcO C.hT hs;obtain rfl:dd=_:=hdd;obtain ⟨inf,i1,i2⟩:=Ybh C.hT hz;obtain ⟨v,g1,g2⟩:=hR.ev hy;subst hy0;refine Cx.lcons (wl_value (v:=.int .i64 0) (w':=w) rfl ?_ (kk _ _ ⟨m,γ,_,hE.put _ (by simpa using hd),⟨rfl,.raw rfl,hR⟩,hI⟩));rcases g2.rs.1 with ⟨rfl,_⟩|⟨b,o,cap,rfl,_,_,_⟩|⟨aw,rfl,_⟩;all_goals
  cases a<;>simp [execOp,resolve,invoke,builtin,hE.ev (hR.raw hx),hE.ev g1,Builtin.copy_,run_underlying hu,Builtin.lenOf,Builtin.firstCells,sizeOf,typeInfo,i1,goInt,loadCells,loadCellsFrom,storeCells]
theorem Zdm {g o cap l h Y:Nat} (k:OL C ops Q rest ((d,.raw (.bool false))::ρ) η) (hs:(C.tab X).map (·.sh)=some (.slice E):=by with_unfolding_all exact rfl)
  (hx:ev2 ρ x=some (.raw (partV g o cap l h)):=by with_unfolding_all exact rfl) (hd:Nat.blt d C.N=true:=by with_unfolding_all exact rfl) :
  OL C ops Q (⟨some d,.binOp .eql X x (.const (.slice none 0 0)) Y,T,pos,af,none⟩::rest) ρ η:=by
 rintro a w ⟨m,γ,ρc,hE,hR,hI⟩;obtain ⟨dd,hu,hd'⟩:=YcO C.hT hs;obtain rfl:dd=_:=hd';refine Cx.lcons (wl_value (v:=.bool false) rfl ?_ (k _ _ ⟨m,γ,_,hE.put _ (by simpa using hd),⟨rfl,.raw rfl,hR⟩,hI⟩));have he:a.eval (.const (.slice none 0 0))=.slice none 0 0:=rfl;have hev:=hE.ev (hR.raw hx);rw [partV] at hev;generalize (if cap=l then (⟨g,o,none⟩:Addr) else ⟨g,o+l,none⟩)=ad at hev;simp [execOp,hev,he,eqGuard,Lib.run_eql_slice_nil w X E (some ad) (h-l) (cap-l) 0 0 hu]
theorem Zdn {i g L cap0 cap l h:Nat} {nl} {xs:List AV} {te:TyE} {zc:Value} {u:AV} (hγ:C.B.γ[i]?=some (.slice (some ⟨g,0,none⟩) L cap0)) (h0:0 < xs.length) (hl:l≤h) (hh:h≤xs.length) (hcap:xs.length≤cap) (kk:OL C ops Q rest ρ η2) (hs:(C.tab X).map (·.sh)=some (.slice E):=by with_unfolding_all exact rfl) (hE:C.tab E=some te:=by with_unfolding_all exact rfl) (_hz:te.size=1:=by with_unfolding_all exact rfl) (hzc:te.zero.cells=#[zc]:=by with_unfolding_all exact rfl) (hone:zc.oneCell'=true:=by with_unfolding_all exact rfl) (hu:u=.raw zc:=by with_unfolding_all exact rfl)
  (hx:ev2 ρ x=some (.raw (partV g 0 cap l h)):=by with_unfolding_all exact rfl) (ho:η[i]?=some (.gs false E 1 nl xs):=by with_unfolding_all exact rfl)
  (hη:η.set i (.gs false E 1 nl (xs.take l++List.replicate (h-l) u++xs.drop h))=η2:=by (try dsimp only [List.set])<;>exact rfl) :
  OL C ops Q (⟨none,.call ⟨.builtin .clear,#[x],#[X]⟩,T,pos,af,none⟩::rest) ρ η:=by
 rintro a w ⟨m,γ,ρc,hEv,hR,hI⟩;obtain ⟨dd,hu',hd'⟩:=YcO C.hT hs;obtain rfl:dd=_:=hd';obtain ⟨inf,i1,i2,i3,i4,i5⟩:=(C.hT E te hE).info;have hv:=hI.pre i _ hγ;obtain ⟨cur,hnL,hcur,hcl,hce⟩:=hI.cur hv ho h0;subst hu;subst hη;by_cases hn:h-l=0
 ·obtain rfl:h=l:=by omega
  have e:η.set i (.gs false E 1 nl (xs.take h++List.replicate (h-h) (.raw zc)++xs.drop h))=η:=by
   rw [hn];simp only [List.replicate_zero,List.append_nil,List.take_append_drop];refine List.ext_getElem? fun j=>?_;rw [List.getElem?_set];split
   ·rename_i e;subst e
    split
    ·exact ho.symm
    ·rename_i hn;rw [List.getElem?_eq_none (by omega)]
   ·rfl
  rw [e] at kk;refine Cx.lcons (wl_value (v:=.tuple #[]) (w':=w) rfl ?_ (kk _ _ ⟨m,γ,ρc,by simpa [Act.put] using hEv,hR,hI⟩));simp [execOp,resolve,invoke,builtin,hEv.ev (hR.raw hx),Builtin.clear_,run_underlying hu',partV,hn]
 ·have hlc:cap≠l:=by omega
  have hC:∀ (j:Nat) v u,(List.replicate (h-l) zc)[j]?=some v→(List.replicate (h-l) (AV.raw zc))[j]?=some u→u.cells.length=1∧CL [] m w [v] u.cells:=by
   intro j v u q1 q2;have e1:=List.eq_of_mem_replicate (List.mem_of_getElem? q1);have e2:=List.eq_of_mem_replicate (List.mem_of_getElem? q2);subst e1 e2;refine ⟨rfl,rfl,by simpa using hone,fun j v c h1 h2=>?_⟩
   cases j with
   | zero=>simp [AV.cells] at h1 h2;subst h1 h2;exact .raw hone
   | succ j=>simp [AV.cells] at h2
  obtain ⟨hb,hext,hI'⟩:=hI.span hv ho h0 hcur (by simp) hC (k:=l) (by simp;omega);simp only [List.length_replicate] at hb hext hI';have ehl:l+(h-l)=h:=by omega
  rw [ehl] at hb hext hI';have hst:=run_storeCells_at C.P g l E (List.replicate (h-l) zc) 0 cur.toArray w hcur (by simp;omega) (fun q hq=>by rw [List.eq_of_mem_replicate hq];exact hone);simp only [Nat.add_zero] at hst;have hzcl:(Builtin.zeroCells te.zero.cells (h-l)).toList=List.replicate (h-l) zc:=by
   rw [hzc];simp [Builtin.zeroCells];apply List.ext_getElem
   ·simp
   ·intro q h1 h2;simp [Nat.mod_one]
  refine Cx.lcons (wl_value (v:=.tuple #[]) (w':=w.setRow g (cur.take l++List.replicate (h-l) zc++cur.drop h).toArray) rfl ?_ (kk _ _ ⟨m,γ,ρc,by simpa [Act.put] using hEv,hR.mono hext (.refl _),hI'⟩));have hx':=hR.raw hx;rw [partV,if_neg hlc,Nat.zero_add] at hx';obtain ⟨q,hq2⟩:∃ q,h-l=q+1:=⟨h-l-1,by omega⟩;have hzr:∀ w,(zeroValue E).run C.P w=.ok te.zero w:=fun w=>by simp [zeroValue,typeInfo,i1,i4]
  have hev:=hEv.ev hx';simp only [List.length_replicate] at hst;rw [ehl] at hst;rw [hq2] at hst hzcl hev ⊢;simp only [List.append_assoc] at hst ⊢;simp [execOp,resolve,invoke,builtin,hev,Builtin.clear_,run_underlying hu',hzr,hzcl,hst]
end
end Go.V
namespace Go.Proofs
open Go Go.W Go.V
def Yrb (l h:Nat) (γ:List Value):List AV:=match γ[0]? with
 | some (Value.slice (some a) _ c)=>[.raw (partV a.block 0 c l h)]
 | _=>[.junk]
theorem YkK (xs:List Int) (hxl:xs.length≤1000000000) (h0:0 < xs.length) {l h:Nat} (hl:l≤h) (hh:h≤xs.length):YoO Tryz.prog 103 (Yrb l h) [.gs false 3 1 none (xs.map V.int)] (.hs 1) [.gs false 3 1 none (xs.map V.int),.gs false 3 1 none (((xs.drop l).take (h-l)).map V.int)]:=by
 refine YoO.enter Tryz.tabOK Tryz.mixed Tryz.func103 rfl rfl fun B hB hf=>?_;obtain ⟨v,hv1,hv2⟩:=hf 0 _ rfl;obtain ⟨g,cap,rfl,hc,hcm⟩:=Yea hv2 (by simpa using h0);simp only [List.length_map] at hv1 hc;have hr:Yrb l h B.γ=[.raw (partV g 0 cap l h)]:=by rw [Yrb,hv1]
 rw [hr];refine ⟨by with_unfolding_all exact rfl,?_⟩;refine goW ?_;refine Zdm ?_;refine goW ?_;have e:((xs.map V.int).drop l).take (h-l)=((xs.drop l).take (h-l)).map V.int:=by rw [List.map_take,List.map_drop]
 refine Zdk (zs:=xs.map V.int) hv1 (by simpa using hc) hcm (by simpa using h0) hl (by simpa using hh) ?_;refine goW ?_;rw [e];exact Zad [0,2] (.ren rfl)
theorem Yjk (l:List (Int × Int)) (f:Int × Int→Int) (hl:l.length*16≤140737488355328):V.Spec Tryz.prog 53 [Ych l,.pr (YdQ Tryz.prog (·∈l) (fun x=>[Ycb x]) (fun x=>V.int (f x)) (fun _=>[]))] [] (.hs 0) [.gs false 3 1 none ((l.map f).map V.int)]:=by
 refine Se Tryz.func53 rfl rfl rfl fun B hB=>?_;refine goW ?_;refine ZaT 5 3 1 ?_;refine Zat (fun k:Nat=>[(1,.pr (YdQ Tryz.prog (·∈l) (fun x=>[Ycb x]) (fun x=>V.int (f x)) (fun _=>[]))),(5,.hs 0),(8,Ych l),(9,V.int l.length),(10,V.int k)]) (fun k=>[.gs false 3 1 none (((l.take k).map f).map V.int)]) (fun k=>k≤l.length) (fun k=>l.length-k) 0 [0] (Nat.zero_le _) ?_;rintro k hk;by_cases hkl:k < l.length
 ·have hlen:((l.take k).map f).length=k:=by simp;omega
  have e:((l.take k).map f).map V.int++[V.int (f l[k])]=((l.take (k+1)).map f).map V.int:=by rw [Yab hkl,List.map_append,List.map_append];rfl
  generalize (l.take k).map f=gk at *
  refine goW ?_;refine Zbm l[k] (List.getElem_mem _) ?_;refine goW ?_;exact Zan (k+1) [3] (by omega) (by omega)
 ·rw [Yaf (by omega)];refine goW ?_;exact Zad [0] (.ren rfl)
section
variable (p:Prg) (hs:Ya9 p.cls) (hpk:∀ x∈p.nodes,x.2.2.length*8≤140737488355328)
include hs hpk
theorem Ypa (W:List Int) (b:List Bool) {c:Nat} (h:Yc4 p c=true) (hv:∀ s∈slotsOf p.cls c,(Yao p.cls c s).1=1→-1000000000≤(Yao p.cls c s).2∧(Yao p.cls c s).2≤1000000000) :
  V.Spec Tryz.prog 96 [.bp 0 0,V.int c] (stO p W (bools b)) (.hs 3) (stO p W (bools b)++[.gs false 3 1 none ((YcC p.cls c).map V.int)]):=by
 have h1:=Yiy p hs hpk h;have hp:Ybk p=true:=by simp only [Yc4,Bool.and_eq_true,decide_eq_true_eq] at h;exact h.2.2
 have hnl:=Yjn (Ybq hp) c;have hns:=YgQ p.cls c;have hno:YlH p.cls (c:Int)=((c:Int),(slotsOf p.cls c).map (Yao p.cls c)):=by rw [← hns];rfl
 rw [hns] at hnl;rw [hno] at h1;have h2:=Yjk ((slotsOf p.cls c).map (Yao p.cls c)) (YaS []) (by omega);have h3:∀ v,v∈(slotsOf p.cls c).map (Yao p.cls c)→V.Spec Tryz.prog 131 [Ycb v] [] (V.int (YaS [] v)) []:=fun v hm=>by
  obtain ⟨s,hsm,rfl⟩:=List.mem_map.1 hm;exact Yk4 _ (by rcases YhX p.cls c s with q|q<;>rw [q]<;>decide) (hv s hsm)
 have hmm:((slotsOf p.cls c).map (Yao p.cls c)).map (YaS [])=YcC p.cls c:=List.map_map;rw [hmm] at h2;refine Se Tryz.func96 rfl rfl rfl fun B hB=>?_;refine goW ?_;refine OL.c h1 Tryz.func130 ?_;refine goW ?_;refine OL.c h2 Tryz.func53 ?_ (hle:=by exact ⟨.ren rfl,LE.fun0 Tryz.func131 h3,trivial⟩);refine goW ?_;exact Zad [0,1,2,4] (.ren rfl)
end
def YhQ (l:List Cls) (W:List Int) (a c:Nat) (s:Int):Int:=
 if 0≤Yb3 (fun x=>s==x) 0 (slotsOf l (wAt W a).toNat) then ((W.drop (a+1)).take (slotsOf l (wAt W a).toNat).length).getD (Yb3 (fun x=>s==x) 0 (slotsOf l (wAt W a).toNat)).toNat 0 else YaS [] (Yao l c s)
def turnW (l:List Cls) (W:List Int) (a c:Nat):List Int:=(slotsOf l c).map (YhQ l W a c)
end Go.Proofs
