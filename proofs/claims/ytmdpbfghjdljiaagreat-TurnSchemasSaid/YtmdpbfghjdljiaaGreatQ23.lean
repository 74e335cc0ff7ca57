/- Part 23 of what the claim is proved by: lemmas on the model and walks through functions of the program; no conditions. -/
import Derived.Test.YtmdpbfghjdljiaaGreatQ22
namespace Go.V
open Go Go.W
section
variable {C:Cx} {ops:Array Oper} {Q:Qt} {md:Region.Mode} {R:World → World → Prop} {fi:Nat}
theorem wpAnyR_firstT (hrf:∀ w,R w w) {i:Nat} {oi:Oper} {v:Value} (hi:ops[i]? = some oi) (hsel:∀ (j:Nat) (o:Oper) cs b,ops[j]? = some o → o.op ≠ .select cs b)
  (hdf:∀ (j:Nat) (o:Oper),ops[j]? = some o → ∀ c,o.op ≠ .defer c)
  (hQ:∀ c a w,Q (.panic c) (a.put oi.dst v) w → Q (.panic c) a w) :
  ∀ (fuel:Nat) (listed:Array Bool) (a:Act) (w:World),Closed md ops listed →
   (∀ (j:Nat) oj,ops[j]? = some oj → j ≠ i → listed.getD j true = false → (∀ e ∈ oj.after,Region.binds md e = true → e.on ≠ i) → oi.apart ops oj = true) →
   i ∈ Region.ready md ops listed → YieldsIf C.P ops (fun _=>True) oi v a →
   wpAnyR C md ops Q R fi fuel (listed.setIfInBounds i true) (a.put oi.dst v) w → wpAnyR C md ops Q R fi (fuel + 1) listed a w:=by
 intro fuel
 induction fuel with
 | zero =>
   intro listed a w _ _ hr hy H
   refine ⟨fun h=>(by rw [h] at hr; cases hr),fun j hj=>?_⟩
   by_cases hji:j = i
   ·subst hji; exact Cx.O_yields hi hy trivial ⟨.inr (hrf w),H⟩
   ·have:=ready_mono hj hji
    rw [H.1] at this
    cases this
 | succ fuel ih =>
   intro listed a w hcl hfree hr hy H
   refine ⟨fun h=>(by rw [h] at hr; cases hr),fun j hj=>?_⟩
   by_cases hji:j = i
   ·subst hji; exact Cx.O_yields hi hy trivial ⟨.inr (hrf w),H⟩
   ·have h1:=H.2 j (ready_mono hj hji)
    obtain ⟨hjun,oj,hoj,hall⟩:=mem_ready.1 hj
    have hnot:∀ e ∈ oj.after,Region.binds md e = true → e.on ≠ i:=fun e he hb heq=>by
     have h1:=hall e he hb
     have h0:=(mem_ready.1 hr).1
     rw [heq] at h1
     rcases Nat.lt_or_ge i listed.size with h' | h'
     ·simp [h'] at h0 h1; rw [h0] at h1; cases h1
     ·simp [Array.getElem?_eq_none h'] at h1
    have h2:=Cx.O_put hoj (hfree j oj hoj hji hjun hnot) (fun cs b=>hsel i oi cs b hi) (fun cs b=>hsel j oj cs b hoj) (hdf j oj hoj) hQ hy h1
    have hfree':∀ (k:Nat) ok,ops[k]? = some ok → k ≠ i → (listed.setIfInBounds j true).getD k true = false →
      (∀ e ∈ ok.after,Region.binds md e = true → e.on ≠ i) → oi.apart ops ok = true:=fun k ok hk hki hun hno=>by
     refine hfree k ok hk hki ?_ hno
     by_cases hjk:j = k
     ·subst hjk; exact hjun
     ·rw [getD_set_ne true hjk] at hun; exact hun
    refine Cx.O_mono (fun a' w' h3=>?_) h2
    refine ⟨h3.2.1,ih (listed.setIfInBounds j true) a' w' (hcl.set hj) hfree' (ready_mono hr (Ne.symm hji)) h3.1 ?_⟩
    rw [Array.setIfInBounds_comm _ _ hji]
    exact h3.2.2
end
def takeT (ops:Array Oper) (listed:Array Bool) (i:Nat):Bool:=
 Region.noSelect ops && Region.free .any ops listed i && (Region.ready .any ops listed).contains i && closedB .any ops listed && noDefer ops
section
variable {C:Cx} {M:Bool} {fi fuel i:Nat} {l:List Oper} {Q:Qt} {listed:Array Bool} {ρ:Ro} {η:Eta} {d T:Nat} {pos:String} {af:Array Edge} {op:Op} {g:Option (Nat × Bool)} {u:AV}
theorem OD.stT (i:Nat) (k:OD C M fi l.toArray Q fuel (listed.setIfInBounds i true) ((d,u) :: ρ) η) (hi:l.toArray[i]? = some ⟨some d,op,T,pos,af,g⟩:=by with_unfolding_all exact rfl) (hb:takeT l.toArray listed i = true:=by kernel_rfl) (hQ:NoPan Q:=by with_unfolding_all exact fun _ _ _ _ _ h=>h)
  (hg:GB l.toArray ρ g true:=by first | with_unfolding_all exact rfl | with_unfolding_all exact ⟨_,_,rfl,rfl,rfl⟩) (h:Gives C.P C.N C.D op ρ η u false:=by exact gv) (hd:Nat.blt d C.N = true:=by with_unfolding_all exact rfl):OD C M fi l.toArray Q (fuel + 1) listed ρ η:=by
 intro a w hA
 simp only [takeT,Bool.and_eq_true] at hb
 obtain ⟨⟨⟨⟨h1,h2⟩,h3⟩,h4⟩,h6⟩:=hb
 obtain ⟨m,γ,ρc,hE,hR,hI⟩:=id hA
 obtain ⟨v,hv,hrun⟩:=h hE hR hI.heap
 have hA':A2 C.N C.D C.B (a.put (some d) v) w ((d,u) :: ρ) η:=⟨m,γ,(d,v) :: ρc,hE.put v (by simpa using hd),⟨rfl,hv,hR⟩,hI⟩
 exact wpAnyR_firstT (RM.refl M) hi (Region.noSelect_spec h1) (noDefer_spec h6) (fun c a w h=>hQ c a w d _ h) fuel listed a w (closedB_spec h4) (Region.free_spec hi h2) (by simpa using h3)
  (.inl ⟨GB.wanted (o:=⟨some d,op,T,pos,af,g⟩) hE hR hg,fun w' _=>hrun (m':=m) nofun d T pos af g⟩) (k _ _ hA')
variable {A:Code} {e:Exit} {ops:Array Oper} {rest:List Oper} {η2:Eta}
theorem Wk.eqW {E sz nl} {xs ys:List AV} {i:Nat} (h:xs = ys) (ho:η[i]? = some (.gw E sz nl xs)):η.set i (.gw E sz nl ys) = η:=by
 subst h
 apply List.ext_getElem?
 intro j
 rw [List.getElem?_set]
 split
 ·rename_i hij; subst hij
  split
  ·exact ho.symm
  ·rename_i hlt; exact (List.getElem?_eq_none (by omega)).symm
 ·rfl
theorem OL.eqW {E sz nl} {xs ys:List AV} (i:Nat) (h:xs = ys) (kk:OL C ops Q rest ρ η2) (ho:η[i]? = some (.gw E sz nl xs):=by with_unfolding_all exact rfl) (hη:η.set i (.gw E sz nl ys) = η2:=by (try dsimp only [List.set])<;>exact rfl):OL C ops Q rest ρ η:=Wk.eqW h ho ▸ hη ▸ kk
theorem TC.eqW {E sz nl} {xs ys:List AV} (i:Nat) (h:xs = ys) (kk:TC C Q A ρ η2) (ho:η[i]? = some (.gw E sz nl xs):=by with_unfolding_all exact rfl) (hη:η.set i (.gw E sz nl ys) = η2:=by (try dsimp only [List.set])<;>exact rfl):TC C Q A ρ η:=Wk.eqW h ho ▸ hη ▸ kk
theorem TX.eqW {E sz nl} {xs ys:List AV} (i:Nat) (h:xs = ys) (kk:TX C Q e ρ η2) (ho:η[i]? = some (.gw E sz nl xs):=by with_unfolding_all exact rfl) (hη:η.set i (.gw E sz nl ys) = η2:=by (try dsimp only [List.set])<;>exact rfl):TX C Q e ρ η:=Wk.eqW h ho ▸ hη ▸ kk
theorem TX.ctk {ρ1:Ro} {η1:Eta} {k:Nat} (s:Nat) (is:List Nat) (_hk:lk ρ s = some (.bp k 0):=by with_unfolding_all exact rfl) (hn:nodB (is ++ [k]) = true:=by with_unfolding_all exact rfl) (hp:preB C.n 0 (is ++ [k]) = true:=by with_unfolding_all exact rfl)
  (ho:SubO (ts (is ++ [k])) η (is ++ [k]) η1:=by repeat' (first | with_unfolding_all exact trivial | exact OE.ren (by with_unfolding_all exact rfl) | with_unfolding_all exact OE.gs | with_unfolding_all refine And.intro ⟨_,by with_unfolding_all exact rfl,?_⟩ ?_))
  (hr:SubR (ts (is ++ [k])) ρ ρ1:=by repeat' (first | with_unfolding_all exact trivial | exact LE.ren (by with_unfolding_all exact rfl) | with_unfolding_all exact LE.sl | with_unfolding_all exact LE.nil (by decide) | with_unfolding_all exact LE.junk | with_unfolding_all refine And.intro ⟨_,by with_unfolding_all exact rfl,?_⟩ ?_)):TX C (CutQ C ρ1 η1 Q) .normal ρ η:=fun _ _ hA=>hA.sel C.hn hn hp ho hr
theorem gvNeBl {X Z:Nat} {x y:Operand} {a b:Bool} (hu:C.P.underlying X = some .bool) (hx:ev2 ρ x = some (.raw (.bool a)):=by with_unfolding_all exact rfl) (hy:ev2 ρ y = some (.raw (.bool b)):=by with_unfolding_all exact rfl):Gives C.P C.N C.D (.binOp .neq X x y Z) ρ η (bool (!(a == b))) M:=
 fun m w γ ρc a' hE hR hH=>⟨_,.raw rfl,fun _ _ _ _ _ _=>by simp [execOp,hE.ev (hR.raw hx),hE.ev (hR.raw hy),eqGuard,run_neq_bool,hu]⟩
end
end Go.V
namespace Go.V
open Go Go.W
section
variable {P:Program} {f:Nat} {as:List AV} {r r2:AV} {η η1 η2:Eta} {tab:Tab} {ρ:Ro}
theorem Spec.ofWk (hT:TabOK P tab) (hm:P.follows .mixedOrders = true) (h:Spec P f as η r η1) (hw:∀ B (hB:B.γ.length = η.length),Wk ⟨P,tab,hT,hm,1,[],B,η.length,hB,none,0⟩ [(0,r)] η1 ((0,r2) :: ρ) η2):Spec P f as η r2 η2:=by
 intro m w γ vs hH hV
 refine (h m w γ vs hH hV).mono ?_
 rintro e w' ⟨v,m',γ',rfl,hI,hr⟩
 obtain ⟨m2,γ2,ρc2,hE2,hR2,hI2⟩:=hw (baseOf m w γ η) hH.len { tmps:=#[v],defers:=[] } w' ⟨m',γ',[(0,v)],⟨rfl,rfl,fun t u hu=>by
  cases t with
  | zero =>
    have e:W.look [(0,v)] 0 = some v:=rfl
    rw [e] at hu; cases hu; rfl
  | succ t =>
    have e:W.look [(0,v)] (t + 1) = none:=rfl
    rw [e] at hu; cases hu⟩,⟨rfl,hr,trivial⟩,hI⟩
 match ρc2,hR2 with
 | (t,u) :: ρc,hR =>
   obtain ⟨ht,hu,_⟩:=hR
   subst ht
   have:=hE2.look 0 u (by simp [W.look])
   simp at this
   subst this
   exact ⟨_,m2,γ2,rfl,hI2,hu⟩
theorem Spec.vwS {i o E sz:Nat} {fz nl} {xs cs:List AV} (hT:TabOK P tab) (hm:P.follows .mixedOrders = true) (h:Spec P f as η (.st cs) η1) (hc:cs[o]? = some (.hs i)) (ho:η1[i]? = some (.gs fz E sz nl xs)):Spec P f as η (.st (cs.set o (.sl sz none xs))) (η1.set i (.gs true E sz nl xs)):=
 Spec.ofWk hT hm h (fun _ _=>Wk.viewS (t:=0) rfl hc ho)
theorem Spec.drop (h:Spec P f as [] r η1) (hle:LE (ts []) r r2):Spec P f as [] r2 []:=by
 intro m w γ vs hH hV
 refine (h m w γ vs hH hV).mono ?_
 rintro e w' ⟨v,m',γ',rfl,hI,hr⟩
 obtain ⟨γ2,h1,h2⟩:=hI.sel (n:=0) (σ:=[]) (η':=[]) (by show γ.length = 0; exact hH.len) rfl rfl trivial
 exact ⟨v,m',γ2,rfl,h2,hle _ _ _ _ h1 _ hr⟩
end
theorem give_min {P:Program} {N:Nat} {D:List Deferred} {ρ:Ro} {η:Eta} {x y:Operand} {a b:Int} {M:Bool} {ts:Array TypeId} (hx:ev2 ρ x = some (.raw (.int .i64 a))) (hy:ev2 ρ y = some (.raw (.int .i64 b))):Gives P N D (.call ⟨.builtin .min,#[x,y],ts⟩) ρ η (.raw (.int .i64 (if b < a then b else a))) M:=fun m w γ ρc ac hE hR hH =>
 ⟨_,.raw rfl,fun _ _ _ _ _ _=>by simp [execOp,resolve,invoke,builtin,hE.ev (hR.raw hx),hE.ev (hR.raw hy),Builtin.min_,Builtin.min2]⟩
theorem OL.min {C:Cx} {ops:Array Oper} {Q:Qt} {rest:List Oper} {ρ:Ro} {η:Eta} {x y:Operand} {a b c:Int} {ts:Array TypeId} {d T:Nat} {pos:String} {af:Array Edge} (hc:(if b < a then b else a) = c) (k:OL C ops Q rest ((d,.raw (.int .i64 c)) :: ρ) η) (hx:ev2 ρ x = some (.raw (.int .i64 a)):=by with_unfolding_all exact rfl) (hy:ev2 ρ y = some (.raw (.int .i64 b)):=by with_unfolding_all exact rfl) (hd:Nat.blt d C.N = true:=by with_unfolding_all exact rfl) :
  OL C ops Q (⟨some d,.call ⟨.builtin .min,#[x,y],ts⟩,T,pos,af,none⟩ :: rest) ρ η:=by
 subst hc; exact OL.give (give_min hx hy) hd k
theorem OL.bl {C:Cx} {ops:Array Oper} {Q:Qt} {rest:List Oper} {ρ:Ro} {η:Eta} {α:Type} {f:α → AV} {l:List α} {sz:Nat} {nl} (t:Nat) (k:l.length ≤ 9223372036854775807 → OL C ops Q rest ρ η) (hx:lk ρ t = some (.sl sz nl (l.map f)):=by with_unfolding_all exact rfl):OL C ops Q rest ρ η:=by
 rintro a w ⟨m,γ,ρc,hE,hR,hI⟩
 obtain ⟨v,_,h2⟩:=hR.look hx
 have:=h2.sl_len
 rw [List.length_map] at this
 exact k this a w ⟨m,γ,ρc,hE,hR,hI⟩
section
variable {C:Cx} {M:Bool} {fi:Nat} {l:List Oper} {Q:Qt} {fuel:Nat} {listed:Array Bool} {ρ:Ro} {η:Eta}
theorem OD.n4 (i j k q:Nat) (h1:NextBy C M fi l Q fuel listed ρ η i) (h2:NextBy C M fi l Q fuel listed ρ η j) (h3:NextBy C M fi l Q fuel listed ρ η k) (h4:NextBy C M fi l Q fuel listed ρ η q) (hr:Region.ready .any l.toArray listed = [i,j,k,q]:=by kernel_rfl):OD C M fi l.toArray Q (fuel + 1) listed ρ η:=fun a w hA =>
 ⟨fun h=>(by rw [hr] at h; cases h),fun x hx=>by
  rw [hr] at hx
  simp only [List.mem_cons,List.not_mem_nil,or_false] at hx
  rcases hx with rfl | rfl | rfl | rfl
  ·exact h1 a w hA
  ·exact h2 a w hA
  ·exact h3 a w hA
  ·exact h4 a w hA⟩
end
theorem CL.app2 {γ m} {w:World} {vs us:List Value} {cs ds:List AV} (h:CL γ m w vs cs) (k:CL γ m w us ds):CL γ m w (vs ++ us) (cs ++ ds):=by
 refine ⟨by rw [List.length_append,List.length_append,h.1,k.1],fun c hc=>(List.mem_append.1 hc).elim (h.2.1 c) (k.2.1 c),fun j v c hv hc=>?_⟩
 by_cases hj:j < vs.length
 ·rw [List.getElem?_append_left hj] at hv
  rw [List.getElem?_append_left (by rw [← h.1]; exact hj)] at hc
  exact h.2.2 j v c hv hc
 ·rw [List.getElem?_append_right (by omega)] at hv
  rw [List.getElem?_append_right (by rw [← h.1]; omega),← h.1] at hc
  exact k.2.2 _ v c hv hc
theorem CL.take {γ m} {w:World} {vs:List Value} {cs:List AV} (n:Nat) (h:CL γ m w vs cs):CL γ m w (vs.take n) (cs.take n):=by
 refine ⟨by rw [List.length_take,List.length_take,h.1],fun c hc=>h.2.1 c (List.mem_of_mem_take hc),fun j v c hv hc=>?_⟩
 rw [List.getElem?_take] at hv hc
 split at hv
 ·rename_i hj
  rw [if_pos hj] at hc
  exact h.2.2 j v c hv hc
 ·cases hv
theorem CL.drop {γ m} {w:World} {vs:List Value} {cs:List AV} (n:Nat) (h:CL γ m w vs cs):CL γ m w (vs.drop n) (cs.drop n):=by
 refine ⟨by rw [List.length_drop,List.length_drop,h.1],fun c hc=>h.2.1 c (List.mem_of_mem_drop hc),fun j v c hv hc=>?_⟩
 rw [List.getElem?_drop] at hv hc
 exact h.2.2 _ v c hv hc
section
variable {C:Cx} {ops:Array Oper} {Q:Qt} {ρ:Ro} {η η2:Eta} {rest:List Oper} {T X:Nat} {pos:String} {af:Array Edge} {x y:Operand}
theorem OL.storeAt {i o E n:Nat} {cs us:List AV} (kk:OL C ops Q rest ρ η2) (hs:(C.tab X).map (fun e=>(e.sh.agg,e.size)) = some (true,n):=by with_unfolding_all exact rfl) (hx:ev2 ρ x = some (.bp i o):=by with_unfolding_all exact rfl) (hy:ev2 ρ y = some (.st us):=by with_unfolding_all exact rfl)
  (ho:η[i]? = some (.cb E cs):=by with_unfolding_all exact rfl) (hn':us.length = n:=by with_unfolding_all exact rfl) (hn:Nat.ble (o + n) cs.length = true:=by with_unfolding_all exact rfl) (hη:η.set i (.cb E (cs.take o ++ us ++ cs.drop (o + n))) = η2:=by (try dsimp only [List.set,List.take,List.drop,List.cons_append,List.nil_append,Nat.add_zero,Nat.zero_add,Nat.reduceAdd])<;>exact rfl) :
  OL C ops Q (⟨none,.store X x y,T,pos,af,none⟩ :: rest) ρ η:=by
 rintro a w ⟨m,γ,ρc,hE,hR,hI⟩
 obtain ⟨v1,g1,g2⟩:=hR.ev hx
 obtain ⟨v,g3,g4⟩:=hR.ev hy
 cases g2 with
 | @bp _ _ _ b hb =>
 cases g4 with
 | @st _ qs _ ql q1 qr =>
 obtain ⟨b',vs,e,hB,hC⟩:=hI.heap.ok i _ _ hb ho
 cases e
 have hqn:qs.length = n:=by omega
 have hvn:o + n ≤ vs.length:=by rw [hC.1]; exact Nat.le_of_ble_eq_true hn
 obtain ⟨t1,t2⟩:=setRow_box (vs:=vs.take o ++ qs ++ vs.drop (o + n)) hB
 subst hη
 cases ht:C.tab X with
 | none=>rw [ht] at hs; cases hs
 | some te =>
   rw [ht] at hs
   simp at hs
   obtain ⟨inf,i1,i2,i3,i4,i5⟩:=(C.hT X te ht).info
   have hst:=run_storeCells_at C.P b o E qs 0 vs.toArray w hB.heap (by simp; omega) q1
   have e:(vs.toArray.toList.take (o + 0) ++ qs ++ vs.toArray.toList.drop (o + 0 + qs.length)).toArray = (vs.take o ++ qs ++ vs.drop (o + n)).toArray:=by
    simp [hqn]
   rw [e] at hst
   have hC':CL γ m w (vs.take o ++ qs ++ vs.drop (o + n)) (cs.take o ++ us ++ cs.drop (o + n)):=((hC.take o).app2 ⟨ql,q1,qr⟩).app2 (hC.drop (o + n))
   refine Cx.lcons (wl_skip (w':=w.setRow b (vs.take o ++ qs ++ vs.drop (o + n)).toArray) rfl ?_ (kk _ _ ⟨m,γ,ρc,by simpa [Act.put] using hE,hR.mono t1.ext (.refl _),hI.put (o':=.cb E (cs.take o ++ us ++ cs.drop (o + n))) hb ho t1 ⟨b,_,rfl,t2,hC'.mono t1.ext (.refl _)⟩ (.inl rfl)⟩))
   have hq:qs.length = te.size:=by omega
   simp only [List.append_assoc] at hst
   simp [execOp,hE.ev g1,hE.ev g3,Instr.storeAt,Instr.sureAddr,storeVar,sizeOf,typeInfo,i1,i2,Value.cells,hq,hst,Result.andThen]
end
end Go.V
