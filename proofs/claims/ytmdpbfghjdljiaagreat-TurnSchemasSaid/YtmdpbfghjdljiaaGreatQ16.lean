/- Part 16 of what the claim is proved by: lemmas on the model and walks through functions of the program; no conditions. -/
import Derived.Test.YtmdpbfghjdljiaaGreatQ15
namespace Go.V
open Go Go.W
theorem splice_get {α:Type} (cur vs:List α) (p:Nat) (h:p + vs.length ≤ cur.length) (j:Nat):(cur.take p ++ vs ++ cur.drop (p + vs.length))[j]? = if j < p then cur[j]? else if j < p + vs.length then vs[j - p]? else cur[j]?:=by
 have hp:(cur.take p).length = p:=by rw [List.length_take]; omega
 rw [List.append_assoc,List.getElem?_append,hp]
 split
 ·rename_i h1; rw [List.getElem?_take,if_pos h1]
 ·rename_i h1
  rw [List.getElem?_append]
  split
  ·rename_i h2; rw [if_pos (by omega)]
  ·rename_i h2; rw [if_neg (by omega),List.getElem?_drop]; congr 1; omega
theorem splice_len {α:Type} (cur vs:List α) (p:Nat) (h:p + vs.length ≤ cur.length):(cur.take p ++ vs ++ cur.drop (p + vs.length)).length = cur.length:=by
 simp only [List.length_append,List.length_take,List.length_drop]; omega
theorem In.elem {B m w γ} {η:Eta} {i k o T sz:Nat} {nl} {xs:List AV} {g n c:Nat} {vs:List Value} {us:List AV} {e e':AV} (hI:In B m w γ η) (hv:γ[i]? = some (.slice (some ⟨g,0,none⟩) n c)) (ho:η[i]? = some (.gs false T sz nl xs)) (hk:xs[k]? = some e) (hC:CL [] m w vs us) (hou:o + us.length ≤ sz) (he:e'.cells = putA e.cells o us) :
  ∃ cur:List Value,w.heap[g]? = some (.cells cur.toArray T (0,0)) ∧ k * sz + o + vs.length ≤ cur.length ∧ Ext m w m (w.setRow g (cur.take (k * sz + o) ++ vs ++ cur.drop (k * sz + o + vs.length)).toArray) ∧
   In B m (w.setRow g (cur.take (k * sz + o) ++ vs ++ cur.drop (k * sz + o + vs.length)).toArray) γ (η.set i (.gs false T sz nl (xs.set k e'))):=by
 have hok:=hI.heap.ok i _ _ hv ho
 obtain ⟨hown,hnl,hlen⟩:=hok
 simp only [Bool.false_eq_true,if_false] at hown
 obtain ⟨m',hown,hm1,hm2⟩:=hown
 rcases hown with ⟨_,rfl⟩ | ⟨_,_,_,rfl⟩ | ⟨g',cap,cur,hve,h0,hg,h1,h2,h3,h4,h5⟩
 ·simp at hk
 ·simp at hk
 ·cases hve
  have hob:ownB (.slice (some ⟨g,0,none⟩) xs.length c) = some g:=by
   obtain ⟨c',rfl⟩:∃ c',c = c' + 1:=⟨c - 1,by omega⟩
   simp [ownB]
  have hB:Box m w g cur.toList T:=⟨by simpa using hg,hm2 g hob⟩
  have hkl:k < xs.length:=(List.getElem?_eq_some_iff.1 hk).1
  have hkc:(k + 1) * sz ≤ c * sz:=Nat.mul_le_mul_right sz (by omega)
  have hks:(k + 1) * sz = k * sz + sz:=Nat.succ_mul k sz
  have hvl:=hC.1
  have hbd:k * sz + o + vs.length ≤ cur.toList.length:=by simp; omega
  obtain ⟨t1,t2⟩:=setRow_box (vs:=cur.toList.take (k * sz + o) ++ vs ++ cur.toList.drop (k * sz + o + vs.length)) hB
  have hsl:=splice_len cur.toList vs (k * sz + o) hbd
  have hsg:=splice_get cur.toList vs (k * sz + o) hbd
  refine ⟨cur.toList,by simpa using hg,hbd,t1.ext,hI.put (o':=.gs false T sz nl (xs.set k e')) hv ho (by simp only [blk]; rw [hob]; exact t1) ⟨?_,hnl,?_⟩ (.inl rfl)⟩
  ·simp only [Bool.false_eq_true,if_false]
   refine ⟨m',.inr (.inr ⟨g,c,_,by simp,h0,t2.heap,by simpa using h1,h2,by rw [List.size_toArray,hsl]; simpa using h3,by simpa using h4,fun i' x hx=>?_⟩),hm1,hm2⟩
   rw [List.getElem?_set] at hx
   split at hx
   ·rename_i hik
    subst hik
    cases hx
    obtain ⟨cs,a1,a2,a3⟩:=h5 k e hk
    have hcb:o + vs.length ≤ cs.length:=by omega
    have hcl:=splice_len cs vs o hcb
    have hcg:=splice_get cs vs o hcb
    have hec:e.cells.length = cs.length:=a3.1.symm
    have hul:us.length = vs.length:=hvl.symm
    refine ⟨cs.take o ++ vs ++ cs.drop (o + vs.length),by rw [hcl,a1],fun j cc hj=>?_,?_,fun q hq=>?_,fun j v cc hj hcc=>?_⟩
    ·rw [hcg] at hj
     simp only [List.getElem?_toArray]
     rw [hsg]
     split at hj
     ·rw [if_pos (by omega),Array.getElem?_toList]; exact a2 j cc hj
     ·rename_i hn
      split at hj
      ·rw [if_neg (by omega),if_pos (by omega),show k * sz + j - (k * sz + o) = j - o by omega]; exact hj
      ·rw [if_neg (by omega),if_neg (by omega),Array.getElem?_toList]; exact a2 j cc hj
    ·rw [hcl,he,putA_len,hec]
    ·rcases List.mem_append.1 hq with hq | hq
     ·rcases List.mem_append.1 hq with hq | hq
      ·exact a3.2.1 q (List.mem_of_mem_take hq)
      ·exact hC.2.1 q hq
     ·exact a3.2.1 q (List.mem_of_mem_drop hq)
    ·rw [he,putA_get _ _ _ (by omega)] at hcc
     rw [hcg] at hj
     rw [hul] at hcc
     split at hj
     ·rename_i hn
      rw [if_pos hn] at hcc
      exact (a3.2.2 j v cc hj hcc).mono t1.ext (.refl _)
     ·rename_i hn
      rw [if_neg hn] at hcc
      split at hj
      ·rename_i hn2
       rw [if_pos hn2] at hcc
       exact (hC.2.2 (j - o) v cc hj hcc).mono t1.ext (.refl _)
      ·rename_i hn2
       rw [if_neg hn2] at hcc
       exact (a3.2.2 j v cc hj hcc).mono t1.ext (.refl _)
   ·rename_i hik
    obtain ⟨cs,a1,a2,a3⟩:=h5 i' x hx
    refine ⟨cs,a1,fun j cc hj=>?_,CL.mono t1.ext (.refl _) a3⟩
    have hjs:j < sz:=by rw [← a1]; exact (List.getElem?_eq_some_iff.1 hj).1
    simp only [List.getElem?_toArray]
    rw [hsg]
    have hne:i' * sz + j < k * sz + o ∨ k * sz + o + vs.length ≤ i' * sz + j:=by
     rcases Nat.lt_or_gt_of_ne hik with h | h
     ·right
      have:=Nat.mul_le_mul_right sz (show k + 1 ≤ i' by omega)
      omega
     ·left
      have:=Nat.mul_le_mul_right sz (show i' + 1 ≤ k by omega)
      have h9:(i' + 1) * sz = i' * sz + sz:=Nat.succ_mul i' sz
      omega
    rcases hne with h | h
    ·rw [if_pos h,Array.getElem?_toList]; exact a2 j cc hj
    ·rw [if_neg (by omega),if_neg (by omega),Array.getElem?_toList]; exact a2 j cc hj
  ·intro x hx
   rcases List.mem_or_eq_of_mem_set hx with h | h
   ·exact hlen x h
   ·rw [h,he,putA_len]; exact hlen e (List.mem_of_getElem? hk)
section
variable {C:Cx} {ops:Array Oper} {Q:Qt} {ρ ρ':Ro} {η η' η2:Eta} {rest:List Oper} {T d X Y:Nat} {pos:String} {af:Array Edge} {op:Op} {x y z:Operand} {A K:Code} {e:Exit}
theorem OL.storeEA {i k E sz:Nat} {nl} {xs us:List AV} {e:AV} (kk:OL C ops Q rest ρ η2) (hs:(C.tab X).map (fun e=>(e.sh.agg,e.size)) = some (true,sz):=by with_unfolding_all exact rfl) (hx:ev2 ρ x = some (.gp i sz k 0):=by with_unfolding_all exact rfl) (hy:ev2 ρ y = some (.st us):=by with_unfolding_all exact rfl)
  (ho:η[i]? = some (.gs false E sz nl xs):=by with_unfolding_all exact rfl) (hn:us.length = sz:=by with_unfolding_all exact rfl) (hp:us.all pureA = true:=by with_unfolding_all exact rfl) (hη:η.set i (.gs false E sz nl (xs.set k (.st us))) = η2:=by (try dsimp only [List.set])<;>exact rfl) (hk:xs[k]? = some e:=by first | exact map_get (by omega) | exact List.getElem?_eq_getElem (by omega)) :
  OL C ops Q (⟨none,.store X x y,T,pos,af,none⟩ :: rest) ρ η:=by
 rintro a w ⟨m,γ,ρc,hE,hR,hI⟩
 obtain ⟨v1,g1,g2⟩:=hR.ev hx
 obtain ⟨v,g3,g4⟩:=hR.ev hy
 cases g2 with
 | @gp _ _ _ _ _ b n c hb =>
 cases g4 with
 | @st _ qs _ ql q1 qr =>
 have hC:CL [] m w qs us:=⟨ql,q1,fun j v c h1 h2=>pureA_rep (qr j v c h1 h2) (List.all_eq_true.1 hp c (List.mem_of_getElem? h2))⟩
 have hel:e.cells.length = sz:=(hI.heap.ok i _ _ hb ho).2.2 e (List.mem_of_getElem? hk)
 have hput:∀ (cs us:List AV),us.length = cs.length → putA cs 0 us = us:=by
  intro cs
  induction cs with
  | nil=>intro us h; cases us with | nil=>rfl | cons _ _=>simp at h
  | cons c cs ih=>intro us h; cases us with | nil=>simp at h | cons u us=>simp only [putA]; rw [ih us (by simpa using h)]
 obtain ⟨cur,hg,hbd,hext,hI'⟩:=hI.elem (o:=0) (e':=.st us) hb ho hk hC (by omega) (by rw [hput _ _ (by omega)]; rfl)
 subst hη
 cases ht:C.tab X with
 | none=>rw [ht] at hs; cases hs
 | some te =>
   rw [ht] at hs
   simp at hs
   obtain ⟨inf,i1,i2,i3,i4,i5⟩:=(C.hT X te ht).info
   have hst:=run_storeCells_at C.P b (k * sz + 0) E qs 0 cur.toArray w hg (by simpa using hbd) q1
   simp only [Nat.add_zero] at hst hI' hext ⊢
   refine Cx.lcons (wl_skip (w':=w.setRow b (cur.take (k * sz) ++ qs ++ cur.drop (k * sz + qs.length)).toArray) rfl ?_ (kk _ _ ⟨m,γ,ρc,by simpa [Act.put] using hE,hR.mono hext (.refl _),hI'⟩))
   have hq:qs.length = te.size:=by omega
   simp [execOp,hE.ev g1,hE.ev g3,Instr.storeAt,Instr.sureAddr,storeVar,sizeOf,typeInfo,i1,i2,Value.cells,hq,hst]
end
end Go.V
namespace Go.V
open Go Go.W
section
variable {C:Cx} {ops:Array Oper} {Q:Qt} {ρ:Ro} {η:Eta} {rest:List Oper} {T d X Y:Nat} {pos:String} {af:Array Edge} {x:Operand}
end
end Go.V
namespace Go.V
open Go Go.W
def pj (c:AV):AV:=bif pureA c then c else .junk
section
variable {C:Cx} {ops:Array Oper} {Q:Qt} {ρ:Ro} {η η2:Eta} {rest:List Oper} {A:Code}
end
end Go.V
namespace Go.V
open Go Go.W
section
variable {C:Cx} {ops:Array Oper} {Q:Qt} {ρ ρ':Ro} {η η' η2:Eta} {rest:List Oper} {T d X Y:Nat} {pos:String} {af:Array Edge} {op:Op} {x y z:Operand} {A K:Code} {e:Exit}
theorem OL.storeE {i k o E sz:Nat} {nl} {xs:List AV} {e e':AV} {v:Value} (kk:OL C ops Q rest ρ η2) (hs:(C.tab X).map (fun e=>(e.sh.agg,e.size)) = some (false,1):=by with_unfolding_all exact rfl) (hx:ev2 ρ x = some (.gp i sz k o):=by with_unfolding_all exact rfl) (hy:ev2 ρ y = some (.raw v):=by with_unfolding_all exact rfl)
  (ho:η[i]? = some (.gs false E sz nl xs):=by with_unfolding_all exact rfl) (hk:xs[k]? = some e:=by first | exact map_get (by omega) | exact List.getElem?_eq_getElem (by omega)) (he:e'.cells = putA e.cells o [.raw v]:=by with_unfolding_all exact rfl) (hou:o + 1 ≤ sz:=by with_unfolding_all decide) (hη:η.set i (.gs false E sz nl (xs.set k e')) = η2:=by (try dsimp only [List.set])<;>exact rfl) :
  OL C ops Q (⟨none,.store X x y,T,pos,af,none⟩ :: rest) ρ η:=by
 rintro a w ⟨m,γ,ρc,hE,hR,hI⟩
 obtain ⟨v1,g1,g2⟩:=hR.ev hx
 have g3:=hR.raw hy
 cases g2 with
 | @gp _ _ _ _ _ b n c hb =>
 obtain ⟨v0,g5,g4⟩:=hR.ev hy
 have hv0:=g4.raw_eq
 subst hv0
 have h1:v0.oneCell' = true:=by cases g4; assumption
 have hC:CL [] m w [v0] [.raw v0]:=by
  refine ⟨rfl,by simpa using h1,fun j u c hu hc=>?_⟩
  have:j = 0:=by
   have:=(List.getElem?_eq_some_iff.1 hu).1
   simp at this; omega
  subst this
  simp at hu hc
  subst hu hc
  exact .raw h1
 obtain ⟨cur,hg,hbd,hext,hI'⟩:=hI.elem (o:=o) (e':=e') hb ho hk hC hou he
 subst hη
 cases ht:C.tab X with
 | none=>rw [ht] at hs; cases hs
 | some te =>
   rw [ht] at hs
   simp at hs
   obtain ⟨inf,i1,i2,i3,i4,i5⟩:=(C.hT X te ht).info
   have hst:=run_storeCells_at C.P b (k * sz + o) E [v0] 0 cur.toArray w hg (by simpa using hbd) (by simpa using h1)
   simp only [Nat.add_zero] at hst
   refine Cx.lcons (wl_skip (w':=w.setRow b (cur.take (k * sz + o) ++ [v0] ++ cur.drop (k * sz + o + [v0].length)).toArray) rfl ?_ (kk _ _ ⟨m,γ,ρc,by simpa [Act.put] using hE,hR.mono hext (.refl _),hI'⟩))
   have hq:inf.size = 1:=by omega
   have hcl:=cells_one h1
   simp [execOp,hE.ev g1,hE.ev g3,Instr.storeAt,Instr.sureAddr,storeVar,sizeOf,typeInfo,i1,hq,hcl]
   simp at hst
   rw [hst]
   simp [Result.andThen]
end
/-! ### A variable is read for good, wherever it is named -/
def sb0 (i:Nat) (cs:List AV):AV → AV
 | .bp j o=>bif Nat.beq j i then .ep cs o else .bp j o
 | x=>x
def sbp (i:Nat) (cs:List AV):AV → AV
 | .bp j o=>bif Nat.beq j i then .ep cs o else .bp j o
 | .fn f a c=>.fn f (a.map (sb0 i cs)) (c.map (sb0 i cs))
 | x=>x
def sbr (i:Nat) (cs:List AV):Ro → Ro
 | []=>[]
 | (t,x) :: r=>(t,sbp i cs x) :: sbr i cs r
theorem sb0_rep {m w m' γ i cs b} {vs:List Value} (he:Ext m w m' w) (hb:γ[i]? = some (.pointer (some ⟨b,0,none⟩))) (hc:CellsAt m' w ⟨b,0,none⟩ vs) (hC:CL [] m' w vs cs) {v x} (h:Rep m w γ v x):Rep m' w γ v (sb0 i cs x):=by
 cases x with
 | bp j o =>
   simp only [sb0]
   cases hq:Nat.beq j i with
   | false=>exact h.mono he (.refl _)
   | true =>
     have:=Nat.eq_of_beq_eq_true hq
     subst this
     cases h with
     | bp h' =>
       rw [hb] at h'
       cases h'
       have:=Rep.ep (γ:=γ) (o:=o) hc hC.1 hC.2.1 hC.2.2
       simpa using this
 | _=>exact h.mono he (.refl _)
theorem sbp_rep {m w m' γ i cs b} {vs:List Value} (he:Ext m w m' w) (hb:γ[i]? = some (.pointer (some ⟨b,0,none⟩))) (hc:CellsAt m' w ⟨b,0,none⟩ vs) (hC:CL [] m' w vs cs) {v x} (h:Rep m w γ v x):Rep m' w γ v (sbp i cs x):=by
 cases x with
 | bp j o=>exact sb0_rep he hb hc hC h
 | fn f a c =>
   cases h with
   | @fn _ _ v1 v2 _ _ l1 l2 q1 q2 =>
   refine .fn (by simpa using l1) (by simpa using l2) (fun j v x h1 h2=>?_) (fun j v x h1 h2=>?_)
   ·rw [List.getElem?_map] at h2
    cases hq:a[j]? with
    | none=>rw [hq] at h2; cases h2
    | some y=>rw [hq] at h2; cases h2; exact sb0_rep he hb hc hC (q1 j v y h1 hq)
   ·rw [List.getElem?_map] at h2
    cases hq:c[j]? with
    | none=>rw [hq] at h2; cases h2
    | some y=>rw [hq] at h2; cases h2; exact sb0_rep he hb hc hC (q2 j v y h1 hq)
 | _=>exact h.mono he (.refl _)
section
variable {C:Cx} {ops:Array Oper} {Q:Qt} {ρ ρ2:Ro} {η η2:Eta} {rest:List Oper} {A:Code} {e:Exit}
theorem Wk.frzA {i E:Nat} {cs:List AV} (ho:η[i]? = some (.cb E cs)) (hp:cs.all pureA = true):Wk C ρ η (sbr i cs ρ) (η.set i .dead):=by
 rintro a w ⟨m,γ,ρc,hE,hR,hI⟩
 obtain ⟨v,hv,hok⟩:=hI.heap.get ho
 obtain ⟨b,vs,rfl,hB,hC⟩:=hok
 obtain ⟨hx1,hcell⟩:=hB.freeze
 have hT:=hB.frz
 have hC':CL [] _ w vs cs:=⟨hC.1,hC.2.1,fun j v c h1 h2=>(pureA_rep (hC.2.2 j v c h1 h2) (List.all_eq_true.1 hp c (List.mem_of_getElem? h2))).mono hx1 (.refl _)⟩
 have hall:∀ (ρc:List (Nat × Value)) (ρ:Ro),RL m w γ ρc ρ → RL (mset m b vs.length) w γ ρc (sbr i cs ρ):=by
  intro ρc
  induction ρc with
  | nil=>intro ρ h; cases ρ with | nil=>trivial | cons _ _=>exact h.elim
  | cons p ρc ih =>
    intro ρ h
    cases ρ with
    | nil=>exact h.elim
    | cons q ρ=>exact ⟨h.1,sbp_rep hx1 hv hcell hC' h.2.1,ih ρ h.2.2⟩
 exact ⟨_,γ,ρc,hE,hall ρc ρ hR,hI.put (o':=.dead) hv ho hT trivial (.inr rfl)⟩
theorem OL.frzA {E:Nat} {cs:List AV} (i:Nat) (k:OL C ops Q rest ρ2 η2) (ho:η[i]? = some (.cb E cs):=by with_unfolding_all exact rfl) (hp:cs.all pureA = true:=by with_unfolding_all exact rfl) (hρ:sbr i cs ρ = ρ2:=by (try dsimp only [sbr,sbp,sb0,List.map,Nat.beq,Nat.add_zero,Nat.zero_add,Nat.reduceAdd,cond_true,cond_false])<;>exact rfl) (hη:η.set i .dead = η2:=by (try dsimp only [List.set])<;>exact rfl):OL C ops Q rest ρ η:=by
 subst hρ hη; exact OL.wk (Wk.frzA ho hp) k
theorem TC.frzA {E:Nat} {cs:List AV} (i:Nat) (k:TC C Q A ρ2 η2) (ho:η[i]? = some (.cb E cs):=by with_unfolding_all exact rfl) (hp:cs.all pureA = true:=by with_unfolding_all exact rfl) (hρ:sbr i cs ρ = ρ2:=by (try dsimp only [sbr,sbp,sb0,List.map,Nat.beq,Nat.add_zero,Nat.zero_add,Nat.reduceAdd,cond_true,cond_false])<;>exact rfl) (hη:η.set i .dead = η2:=by (try dsimp only [List.set])<;>exact rfl):TC C Q A ρ η:=by
 subst hρ hη; exact TC.wk (Wk.frzA ho hp) k
end
end Go.V
