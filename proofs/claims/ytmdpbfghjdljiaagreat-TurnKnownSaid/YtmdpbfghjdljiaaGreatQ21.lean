/- Part 21 of what the claim is proved by: lemmas on the model and walks through functions of the program; no conditions. -/
import Derived.Test.YtmdpbfghjdljiaaGreatQ20
namespace Go.V
open Go Go.W
section
variable {P:Program} {f:Nat} {as:List AV} {r r2:AV} {η η1 η2:Eta} {tab:Tab} {ρ:Ro}
theorem Spec.ofWk (hT:TabOK P tab) (hm:P.follows .mixedOrders=true) (h:Spec P f as η r η1) (hw:∀ B (hB:B.γ.length=η.length),Wk ⟨P,tab,hT,hm,1,[],B,η.length,hB,none,0⟩ [(0,r)] η1 ((0,r2)::ρ) η2):Spec P f as η r2 η2:=by
 intro m w γ vs hH hV
 refine (h m w γ vs hH hV).mono ?_
 rintro e w' ⟨v,m',γ',rfl,hI,hr⟩
 obtain ⟨m2,γ2,ρc2,hE2,hR2,hI2⟩:=hw (baseOf m w γ η) hH.len { tmps:=#[v],defers:=[] } w' ⟨m',γ',[(0,v)],⟨rfl,rfl,fun t u hu=>by
  cases t with
  | zero =>
    have e:W.look [(0,v)] 0=some v:=rfl
    rw [e] at hu;cases hu;rfl
  | succ t =>
    have e:W.look [(0,v)] (t+1)=none:=rfl
    rw [e] at hu;cases hu⟩,⟨rfl,hr,trivial⟩,hI⟩
 match ρc2,hR2 with
 | (t,u)::ρc,hR =>
   obtain ⟨ht,hu,_⟩:=hR
   subst ht
   have:=hE2.look 0 u (by simp [W.look])
   simp at this
   subst this
   exact ⟨_,m2,γ2,rfl,hI2,hu⟩
theorem Spec.vwS {i o E sz:Nat} {fz nl} {xs cs:List AV} (hT:TabOK P tab) (hm:P.follows .mixedOrders=true) (h:Spec P f as η (.st cs) η1) (hc:cs[o]?=some (.hs i)) (ho:η1[i]?=some (.gs fz E sz nl xs)):Spec P f as η (.st (cs.set o (.sl sz none xs))) (η1.set i (.gs true E sz nl xs)):=
 Spec.ofWk hT hm h (fun _ _=>Wk.viewS (t:=0) rfl hc ho)
theorem Spec.drop (h:Spec P f as [] r η1) (hle:LE (ts []) r r2):Spec P f as [] r2 []:=by
 intro m w γ vs hH hV
 refine (h m w γ vs hH hV).mono ?_
 rintro e w' ⟨v,m',γ',rfl,hI,hr⟩
 obtain ⟨γ2,h1,h2⟩:=hI.sel (n:=0) (σ:=[]) (η':=[]) (by show γ.length=0;exact hH.len) rfl rfl trivial
 exact ⟨v,m',γ2,rfl,h2,hle _ _ _ _ h1 _ hr⟩
end
theorem give_min {P:Program} {N:Nat} {D:List Deferred} {ρ:Ro} {η:Eta} {x y:Operand} {a b:Int} {M:Bool} {ts:Array TypeId} (hx:ev2 ρ x=some (.raw (.int .i64 a))) (hy:ev2 ρ y=some (.raw (.int .i64 b))):Gives P N D (.call ⟨.builtin .min,#[x,y],ts⟩) ρ η (.raw (.int .i64 (if b < a then b else a))) M:=fun m w γ ρc ac hE hR hH =>
 ⟨_,.raw rfl,fun _ _ _ _ _ _=>by simp [execOp,resolve,invoke,builtin,hE.ev (hR.raw hx),hE.ev (hR.raw hy),Builtin.min_,Builtin.min2]⟩
theorem OL.min {C:Cx} {ops:Array Oper} {Q:Qt} {rest:List Oper} {ρ:Ro} {η:Eta} {x y:Operand} {a b c:Int} {ts:Array TypeId} {d T:Nat} {pos:String} {af:Array Edge} (hc:(if b < a then b else a)=c) (k:OL C ops Q rest ((d,.raw (.int .i64 c))::ρ) η) (hx:ev2 ρ x=some (.raw (.int .i64 a)):=by with_unfolding_all exact rfl) (hy:ev2 ρ y=some (.raw (.int .i64 b)):=by with_unfolding_all exact rfl) (hd:Nat.blt d C.N=true:=by with_unfolding_all exact rfl) :
  OL C ops Q (⟨some d,.call ⟨.builtin .min,#[x,y],ts⟩,T,pos,af,none⟩::rest) ρ η:=by
 subst hc;exact OL.give (give_min hx hy) hd k
theorem OL.bl {C:Cx} {ops:Array Oper} {Q:Qt} {rest:List Oper} {ρ:Ro} {η:Eta} {α:Type} {f:α→AV} {l:List α} {sz:Nat} {nl} (t:Nat) (k:l.length≤9223372036854775807→OL C ops Q rest ρ η) (hx:lk ρ t=some (.sl sz nl (l.map f)):=by with_unfolding_all exact rfl):OL C ops Q rest ρ η:=by
 rintro a w ⟨m,γ,ρc,hE,hR,hI⟩
 obtain ⟨v,_,h2⟩:=hR.look hx
 have:=h2.sl_len
 rw [List.length_map] at this
 exact k this a w ⟨m,γ,ρc,hE,hR,hI⟩
section
variable {C:Cx} {M:Bool} {fi:Nat} {l:List Oper} {Q:Qt} {fuel:Nat} {listed:Array Bool} {ρ:Ro} {η:Eta}
theorem OD.n4 (i j k q:Nat) (h1:NextBy C M fi l Q fuel listed ρ η i) (h2:NextBy C M fi l Q fuel listed ρ η j) (h3:NextBy C M fi l Q fuel listed ρ η k) (h4:NextBy C M fi l Q fuel listed ρ η q) (hr:Region.ready .any l.toArray listed=[i,j,k,q]:=by kernel_rfl):OD C M fi l.toArray Q (fuel+1) listed ρ η:=fun a w hA =>
 ⟨fun h=>(by rw [hr] at h;cases h),fun x hx=>by
  rw [hr] at hx
  simp only [List.mem_cons,List.not_mem_nil,or_false] at hx
  rcases hx with rfl|rfl|rfl|rfl
  ·exact h1 a w hA
  ·exact h2 a w hA
  ·exact h3 a w hA
  ·exact h4 a w hA⟩
end
theorem CL.app2 {γ m} {w:World} {vs us:List Value} {cs ds:List AV} (h:CL γ m w vs cs) (k:CL γ m w us ds):CL γ m w (vs++us) (cs++ds):=by
 refine ⟨by rw [List.length_append,List.length_append,h.1,k.1],fun c hc=>(List.mem_append.1 hc).elim (h.2.1 c) (k.2.1 c),fun j v c hv hc=>?_⟩
 by_cases hj:j < vs.length
 ·rw [List.getElem?_append_left hj] at hv
  rw [List.getElem?_append_left (by rw [← h.1];exact hj)] at hc
  exact h.2.2 j v c hv hc
 ·rw [List.getElem?_append_right (by omega)] at hv
  rw [List.getElem?_append_right (by rw [← h.1];omega),← h.1] at hc
  exact k.2.2 _ v c hv hc
theorem CL.take {γ m} {w:World} {vs:List Value} {cs:List AV} (n:Nat) (h:CL γ m w vs cs):CL γ m w (vs.take n) (cs.take n):=by
 refine ⟨by rw [List.length_take,List.length_take,h.1],fun c hc=>h.2.1 c (List.mem_of_mem_take hc),fun j v c hv hc=>?_⟩
 rw [List.getElem?_take] at hv hc
 split at hv
 ·rename_i hj
  rw [if_pos hj] at hc
  exact h.2.2 j v c hv hc
 ·cases hv
theorem CL.drop {γ m} {w:World} {vs:List Value} {cs:List AV} (n:Nat) (h:CL γ m w vs cs):CL γ m w (vs.drop n) (cs.drop n):=by
 refine ⟨by rw [List.length_drop,List.length_drop,h.1],fun c hc=>h.2.1 c (List.mem_of_mem_drop hc),fun j v c hv hc=>?_⟩
 rw [List.getElem?_drop] at hv hc
 exact h.2.2 _ v c hv hc
section
variable {C:Cx} {ops:Array Oper} {Q:Qt} {ρ:Ro} {η η2:Eta} {rest:List Oper} {T X:Nat} {pos:String} {af:Array Edge} {x y:Operand}
theorem OL.storeAt {i o E n:Nat} {cs us:List AV} (kk:OL C ops Q rest ρ η2) (hs:(C.tab X).map (fun e=>(e.sh.agg,e.size))=some (true,n):=by with_unfolding_all exact rfl) (hx:ev2 ρ x=some (.bp i o):=by with_unfolding_all exact rfl) (hy:ev2 ρ y=some (.st us):=by with_unfolding_all exact rfl)
  (ho:η[i]?=some (.cb E cs):=by with_unfolding_all exact rfl) (hn':us.length=n:=by with_unfolding_all exact rfl) (hn:Nat.ble (o+n) cs.length=true:=by with_unfolding_all exact rfl) (hη:η.set i (.cb E (cs.take o++us++cs.drop (o+n)))=η2:=by (try dsimp only [List.set,List.take,List.drop,List.cons_append,List.nil_append,Nat.add_zero,Nat.zero_add,Nat.reduceAdd])<;>exact rfl) :
  OL C ops Q (⟨none,.store X x y,T,pos,af,none⟩::rest) ρ η:=by
 rintro a w ⟨m,γ,ρc,hE,hR,hI⟩
 obtain ⟨v1,g1,g2⟩:=hR.ev hx
 obtain ⟨v,g3,g4⟩:=hR.ev hy
 cases g2 with
 | @bp _ _ _ b hb =>
 cases g4 with
 | @st _ qs _ ql q1 qr =>
 obtain ⟨b',vs,e,hB,hC⟩:=hI.heap.ok i _ _ hb ho
 cases e
 have hqn:qs.length=n:=by omega
 have hvn:o+n≤vs.length:=by rw [hC.1];exact Nat.le_of_ble_eq_true hn
 obtain ⟨t1,t2⟩:=setRow_box (vs:=vs.take o++qs++vs.drop (o+n)) hB
 subst hη
 cases ht:C.tab X with
 | none=>rw [ht] at hs;cases hs
 | some te =>
   rw [ht] at hs
   simp at hs
   obtain ⟨inf,i1,i2,i3,i4,i5⟩:=(C.hT X te ht).info
   have hst:=run_storeCells_at C.P b o E qs 0 vs.toArray w hB.heap (by simp;omega) q1
   have e:(vs.toArray.toList.take (o+0)++qs++vs.toArray.toList.drop (o+0+qs.length)).toArray=(vs.take o++qs++vs.drop (o+n)).toArray:=by
    simp [hqn]
   rw [e] at hst
   have hC':CL γ m w (vs.take o++qs++vs.drop (o+n)) (cs.take o++us++cs.drop (o+n)):=((hC.take o).app2 ⟨ql,q1,qr⟩).app2 (hC.drop (o+n))
   refine Cx.lcons (wl_skip (w':=w.setRow b (vs.take o++qs++vs.drop (o+n)).toArray) rfl ?_ (kk _ _ ⟨m,γ,ρc,by simpa [Act.put] using hE,hR.mono t1.ext (.refl _),hI.put (o':=.cb E (cs.take o++us++cs.drop (o+n))) hb ho t1 ⟨b,_,rfl,t2,hC'.mono t1.ext (.refl _)⟩ (.inl rfl)⟩))
   have hq:qs.length=te.size:=by omega
   simp only [List.append_assoc] at hst
   simp [execOp,hE.ev g1,hE.ev g3,Instr.storeAt,Instr.sureAddr,storeVar,sizeOf,typeInfo,i1,i2,Value.cells,hq,hst,Result.andThen]
end
end Go.V
