/- Part 23 of what the claim is proved by: lemmas on the model and walks through functions of the program; no conditions. -/
import Derived.Test.YtmdpbfghjdljiaaGreatQ12
import Derived.Deep.DeepAppendWide
namespace Go.W
open Go
section
variable {P:Program} {w:World} {v u:Value}
theorem run_appendW {α:Type} {t ty e sz bt:Nat} {zv:Value} {C:CRel α} [CMono C] [COne C] {m:Nat→Nat} {xs ys:List α} {i:TypeInfo}
  (ht:P.underlying t=some (.slice e)) (hi:P.info? e=some i) (hsz:i.size=sz) (hbt:i.bytes=bt) (hz:i.zero=some zv) (hzs:zv.cells.size=sz) (h0:0 < sz)
  (ho:Own e sz C m w v xs) (hr:RS sz C m w u ys) (hlen:xs.length+ys.length≤9223372036854775807) (hfW:∀ old,old < xs.length+ys.length→Builtin.nextslicecap (xs.length+ys.length) old*bt≤281474976710656) :
  ∃ v' m' w',(Builtin.append_ #[t,t] ty #[v,u]).run P w=.ok v' w'∧AppPost e sz C m w v (xs++ys) v' m' w':=by
 have hsame:ys=[]→∀ base n cap,v=.slice base n cap→n≤cap→(u=.slice none 0 0∨∃ a' c,u=.slice (some a') 0 c) →
   ∃ v' m' w',(Builtin.append_ #[t,t] ty #[v,u]).run P w=.ok v' w'∧AppPost e sz C m w v (xs++ys) v' m' w':=by
  intro hy base n cap hv hn hu
  subst hv hy
  refine ⟨.slice base n cap,m,w,?_,(Keep.refl m w).touch _,by simpa using ho,.inl rfl,?_⟩
  rotate_left
  ·constructor
   ·intro e
    rw [e] at ho
    refine ⟨e,?_⟩
    rcases ho with ⟨_,rfl⟩|⟨_,_,e',_⟩|⟨_,_,_,e',_⟩
    ·rfl
    ·cases e'
    ·cases e'
   ·exact fun e=>e.1
  rcases hu with rfl|⟨a',c,rfl⟩
  ·exact append_none t ty e n cap base i ht hi hn
  ·exact append_zero t ty e n cap c base i a' ht hi hn
 have hshape:∃ base cap,v=.slice base xs.length cap∧xs.length≤cap:=ho.rs.shape
 rcases hr with ⟨rfl,rfl⟩|⟨b,o,cap,rfl,hc1,hc2,hel⟩|⟨aw,rfl,rfl⟩
 rotate_right
 ·obtain ⟨base,cap,hv,hn⟩:=hshape
  exact hsame rfl base _ cap hv hn (.inr ⟨_,_,rfl⟩)
 ·obtain ⟨base,cap,hv,hn⟩:=hshape
  exact hsame rfl base _ cap hv hn (.inl rfl)
 by_cases hy0:ys=[]
 ·subst hy0
  obtain ⟨base,cap',hv,hn⟩:=hshape
  exact hsame rfl base _ cap' hv hn (.inr ⟨_,_,rfl⟩)
 have hyl:0 < ys.length:=List.length_pos_iff.2 hy0
 obtain ⟨news,n1,n2,n3,n4⟩:=RS.news h0 hel
 have fresh:∀ (olds:List Value) (cap':Nat),olds.length=xs.length*sz→xs.length+ys.length≤cap'→cap'≤maxLen →
   (∀ i x,xs[i]?=some x→∃ cs,cs.length=sz∧(∀ j c,cs[j]?=some c→olds[i*sz+j]?=some c)∧C m w cs x) →
   AppPost e sz C m w v (xs++ys) (.slice (some ⟨w.heap.size,0,none⟩) (xs.length+ys.length) cap')
    (mset m w.heap.size ((xs.length+ys.length)*sz)) (w.drew.alloc (.cells (olds.toArray++news.toArray++Builtin.zeroCells zv.cells (cap'-(xs.length+ys.length))) e)):=by
  intro olds cap' hol hcap hcm hold
  have hk:Keep m w (mset m w.heap.size ((xs.length+ys.length)*sz)) (w.drew.alloc (.cells (olds.toArray++news.toArray++Builtin.zeroCells zv.cells (cap'-(xs.length+ys.length))) e)):=
   (Keep.drew m w).trans (Keep.alloc m w.drew _ _)
  refine ⟨hk.touch _,.inr (.inr ⟨w.heap.size,cap',_,by simp,by omega,heap_alloc_new w.drew _,by simpa using hcap,hcm,?_,by simp,?_⟩),.inr fun g hg=>?_,by simp;intro _ _;exact hy0⟩
  ·apply Nat.le_of_eq
   simp only [Array.size_append,List.size_toArray,size_zeroCells,hzs,hol,n1,← Nat.add_mul]
   congr 1
   omega
  ·intro i' x hx
   rcases Nat.lt_or_ge i' xs.length with hlt|hge
   ·obtain ⟨cs,a1,a2,a3⟩:=hold i' x (by rw [List.getElem?_append_left hlt] at hx;exact hx)
    refine ⟨cs,a1,fun j c hj=>?_,CMono.mono hk.ext a3⟩
    have:=a2 j c hj
    have hlt2:i'*sz+j < olds.length:=(List.getElem?_eq_some_iff.1 this).1
    rw [Array.getElem?_append,if_pos (by simp;omega),Array.getElem?_append,if_pos (by simpa using hlt2)]
    simpa using this
   ·rw [List.getElem?_append_right hge] at hx
    obtain ⟨cs,a1,a2,a3⟩:=n4 _ x hx
    refine ⟨cs,a1,fun j c hj=>?_,CMono.mono hk.ext a3⟩
    have:=a2 j c hj
    have hlt2:(i'-xs.length)*sz+j < news.length:=(List.getElem?_eq_some_iff.1 this).1
    have e1:i'*sz+j=olds.length+((i'-xs.length)*sz+j):=by
     rw [hol]
     have:i'*sz=xs.length*sz+(i'-xs.length)*sz:=by rw [← Nat.add_mul];congr 1;omega
     omega
    rw [Array.getElem?_append,if_pos (by simp;omega),Array.getElem?_append,if_neg (by simp;omega)]
    simp only [List.size_toArray,e1,Nat.add_sub_cancel_left]
    simpa using this
  ·obtain ⟨c,rfl⟩:∃ c,cap'=c+1:=⟨cap'-1,by omega⟩
   simp [ownB] at hg
   omega
 have hfit:∀ old,old < xs.length+ys.length→Builtin.nextslicecap (xs.length+ys.length) old*i.bytes≤281474976710656:=fun old ho'=>by rw [hbt];exact hfW old ho'
 have hcapm:∀ old,xs.length+ys.length≤grownCap w (xs.length+ys.length) old e∧grownCap w (xs.length+ys.length) old e≤maxLen:=fun old =>
  ⟨grownCap_ge _ _ _ _,grownCap_le_maxLen _ _ _ _ (by have:maxLen=9223372036854775807:=rfl;omega)⟩
 subst hsz
 rcases ho with ⟨rfl,rfl⟩|⟨b0,o0,rfl,rfl⟩|⟨g,cap0,cur,rfl,hp,hg,h1,h2,h3,h4,h5⟩
 ·have hr:=run_append_nil (P:=P) w t ty e i zv ht hi hz ⟨b,o,none⟩ ys.length cap news n1 n2 hyl (by simp at hlen;omega) (by have h0':=hfit 0 (by simp;omega);rw [nextslicecap_zero (by simp;omega)] at h0';simpa using h0')
  refine ⟨_,mset m w.heap.size (ys.length*i.size),_,hr,?_⟩
  have:=fresh [] (grownCap w ys.length 0 e) (by simp) (by simpa using (hcapm 0).1) (by simpa using (hcapm 0).2) (by simp)
  simpa using this
 ·have hr:=run_append_grow (P:=P) w t ty e i zv ht hi hz ⟨b0,o0,none⟩ 0 0 [] (by simp) (by simp) ⟨b,o,none⟩ ys.length cap news n1 n2 (by omega) (by simp at hlen ⊢;omega) (by simpa using hfit 0 (by simp;omega))
  refine ⟨_,mset m w.heap.size (ys.length*i.size),_,hr,?_⟩
  have:=fresh [] (grownCap w ys.length 0 e) (by simp) (by simpa using (hcapm 0).1) (by simpa using (hcapm 0).2) (by simp)
  simpa using this
 ·by_cases hroom:xs.length+ys.length≤cap0
  ·have hfit':xs.length*i.size+news.length≤cur.size:=by rw [n1,← Nat.add_mul];exact Nat.le_trans (Nat.mul_le_mul_right _ hroom) h3
   have hr:=run_append_room (P:=P) w t ty e i ht hi g xs.length cap0 cur hg ⟨b,o,none⟩ ys.length cap news n1 n2 n3 hroom hfit'
   have hg':=setRow_heap w g cur (cur.toList.take (xs.length*i.size)++news++cur.toList.drop (xs.length*i.size+news.length)).toArray e _ hg
   have hpre:∀ j c,j < xs.length*i.size→cur[j]?=some c→(cur.toList.take (xs.length*i.size)++news++cur.toList.drop (xs.length*i.size+news.length)).toArray[j]?=some c:=by
    intro j c hj hc
    have hjs:j < cur.size:=(Array.getElem?_eq_some_iff.1 hc).1
    simp only [List.getElem?_toArray]
    rw [List.append_assoc,List.getElem?_append_left (by simp;omega),List.getElem?_take,if_pos hj]
    simpa using hc
   have hoth:∀ k,k < w.heap.size→k≠g→(w.setRow g (cur.toList.take (xs.length*i.size)++news++cur.toList.drop (xs.length*i.size+news.length)).toArray).heap[k]?=w.heap[k]?:=
    fun k _ hk=>setRow_other w g k _ hk
   have hext:Ext m w (mset m g ((xs.length+ys.length)*i.size)) (w.setRow g (cur.toList.take (xs.length*i.size)++news++cur.toList.drop (xs.length*i.size+news.length)).toArray):=
    ext_mset hg (by rw [h4];exact Nat.mul_le_mul_right _ (by omega)) (by simp) hoth hg' (by rw [h4];exact hpre)
   have hob:ownB (.slice (some ⟨g,0,none⟩) xs.length cap0)=some g:=by
    obtain ⟨c,rfl⟩:∃ c,cap0=c+1:=⟨cap0-1,by omega⟩
    rfl
   refine ⟨_,mset m g ((xs.length+ys.length)*i.size),_,hr,⟨⟨rfl,rfl,rfl,by simp,fun k hk hX=>hoth k hk (fun e=>hX (by rw [hob,e]))⟩,fun b' hb' hX=>mset_ne (fun e=>hX (by rw [hob,e])),hext⟩,.inr (.inr ⟨g,cap0,_,by simp,hp,hg',by simpa using hroom,h2,?_,by simp,?_⟩),.inl ?_,by simp⟩
   ·simp only [List.size_toArray,List.length_append,List.length_take,List.length_drop,Array.length_toList]
    omega
   ·intro i' x hx
    rcases Nat.lt_or_ge i' xs.length with hlt|hge
    ·obtain ⟨cs,a1,a2,a3⟩:=h5 i' x (by rw [List.getElem?_append_left hlt] at hx;exact hx)
     refine ⟨cs,a1,fun j c hj=>hpre _ c ?_ (a2 j c hj),CMono.mono hext a3⟩
     have hjs:j < i.size:=by rw [← a1];exact (List.getElem?_eq_some_iff.1 hj).1
     exact Nat.lt_of_lt_of_le (by rw [Nat.succ_mul];omega:i'*i.size+j < (i'+1)*i.size) (Nat.mul_le_mul_right _ hlt)
    ·rw [List.getElem?_append_right hge] at hx
     obtain ⟨cs,a1,a2,a3⟩:=n4 _ x hx
     refine ⟨cs,a1,fun j c hj=>?_,CMono.mono hext a3⟩
     have:=a2 j c hj
     have hlt2:(i'-xs.length)*i.size+j < news.length:=(List.getElem?_eq_some_iff.1 this).1
     have e1:i'*i.size+j=xs.length*i.size+((i'-xs.length)*i.size+j):=by
      have:i'*i.size=xs.length*i.size+(i'-xs.length)*i.size:=by rw [← Nat.add_mul];congr 1;omega
      omega
     have hl1:(cur.toList.take (xs.length*i.size)).length=xs.length*i.size:=by
      have hcl:cap0*i.size≤cur.toList.length:=(by simpa using h3)
      rw [List.length_take]
      exact Nat.min_eq_left (Nat.le_trans (Nat.mul_le_mul_right _ h1) hcl)
     simp only [List.getElem?_toArray]
     rw [e1,List.append_assoc,List.getElem?_append_right (by rw [hl1];omega),hl1,Nat.add_sub_cancel_left,List.getElem?_append_left hlt2]
     exact this
   ·rw [hob]
    obtain ⟨c,rfl⟩:∃ c,cap0=c+1:=⟨cap0-1,by omega⟩
    rfl
  ·have hcurl:(cur.toList.take (xs.length*i.size)).length=xs.length*i.size:=by
    have hcl:cap0*i.size≤cur.toList.length:=(by simpa using h3)
    rw [List.length_take]
    exact Nat.min_eq_left (Nat.le_trans (Nat.mul_le_mul_right _ h1) hcl)
   have hr:=run_append_grow (P:=P) w t ty e i zv ht hi hz ⟨g,0,none⟩ xs.length cap0 (cur.toList.take (xs.length*i.size)) hcurl
    (fun j u' hu'=>by
     have hadd:(⟨g,0,none⟩:Addr).add j=⟨g,j,none⟩:=by unfold Addr.add;split<;>simp_all
     rw [hadd]
     rw [List.getElem?_take] at hu'
     split at hu'
     ·simp only [World.cell?,hg];simpa using hu'
     ·cases hu') ⟨b,o,none⟩ ys.length cap news n1 n2 (by omega) (by omega) (hfit cap0 (by omega))
   refine ⟨_,mset m w.heap.size ((xs.length+ys.length)*i.size),_,hr,fresh _ _ hcurl (hcapm cap0).1 (hcapm cap0).2 fun i' x hx=>?_⟩
   obtain ⟨cs,a1,a2,a3⟩:=h5 i' x hx
   refine ⟨cs,a1,fun j c hj=>?_,a3⟩
   have hlt:i' < xs.length:=(List.getElem?_eq_some_iff.1 hx).1
   have hjs:j < i.size:=by rw [← a1];exact (List.getElem?_eq_some_iff.1 hj).1
   rw [List.getElem?_take,if_pos (Nat.lt_of_lt_of_le (by rw [Nat.succ_mul];omega:i'*i.size+j < (i'+1)*i.size) (Nat.mul_le_mul_right _ hlt))]
   simpa using a2 j c hj
end
end Go.W
namespace Go.V
open Go Go.W
section
variable {X:Nat}
theorem run_append2W {w:World} {P:Program} {ty:Nat} {sz:Nat} {m:Nat→Nat} {fz E nl} {xs ys:List AV} {v u:Value} {te:TyE} {B γ} {η:Eta} {i:Nat} (hI:In B m w γ η) (hT:TyOK P X ⟨.slice E,te.size,te.bytes,te.zero⟩) {tE:TyE} (hE:TyOK P E tE) (hsz:tE.size=sz) (h0:0 < sz)
  (hv:γ[i]?=some v) (ho:η[i]?=some (.gs fz E sz nl xs)) (hr:RS sz CA m w u ys) (hy:∀ y∈ys,y.cells.length=sz) (hlen:xs.length+ys.length≤9223372036854775807) (hb:∀ old,old < xs.length+ys.length→Builtin.nextslicecap (xs.length+ys.length) old*tE.bytes≤281474976710656) :
  ∃ v' m' w',(Builtin.append_ #[X,X] ty #[v,u]).run P w=.ok v' w'∧Ext m w m' w'∧(∃ a n c,v'=.slice a n c)∧(ys≠[]→v'≠.slice none 0 0) ∧
   ∀ nl',NL nl' v'→In B m' w' (γ++[v']) (η.set i .dead++[.gs fz E sz nl' (xs++ys)]):=by
 obtain ⟨m1,o1,o2,o3,o4⟩:=hI.heap.gs ho hv
 obtain ⟨h1,h2,h3⟩:=hI.heap.ok i v _ hv ho
 obtain ⟨inf,i1,i2,i3,i4,i5⟩:=hE.info
 obtain ⟨d,hu,hd⟩:=hT.sh
 obtain rfl:d=_:=hd
 have hr1:RS sz (CK m w) m1 w u ys:=by
  rcases hr with hn|⟨b,o,cap,e,c1,c2,c3⟩|hw
  ·exact .inl hn
  ·exact .inr (.inl ⟨b,o,cap,e,c1,c2,fun i x hx=>let ⟨cs,a1,a2,a3⟩:=c3 i x hx;⟨cs,a1,a2.mono o4,a3⟩⟩)
  ·exact .inr (.inr hw)
 obtain ⟨v',m2,w',hrun,hA⟩:=run_appendW (P:=P) (ty:=ty) hu i1 (i2.trans hsz) i3 i4 (i5.trans hsz) h0 o1 hr1 hlen hb
 obtain ⟨hT1,hO,hob,hnil⟩:=hA
 have hsh:∃ a n c,v'=.slice a n c:=by
  obtain ⟨b,cap,e,_⟩:=hO.rs.shape
  exact ⟨_,_,_,e⟩
 have hne:ys≠[]→v'≠.slice none 0 0:=fun hy e=>by
  have:=(hnil.1 e).2
  simp at this
  exact hy this.2
 have hcells:∀ x∈xs++ys,x.cells.length=sz:=fun x hx=>by
  rcases List.mem_append.1 hx with h|h
  ·exact h3 x h
  ·exact hy x h
 have hblk:∀ b,ownB v'=some b→ownB v=some b∨w.heap.size≤b:=fun b hb=>by
  rcases hob with e|e
  ·exact .inl (e ▸ hb)
  ·exact .inr (e b hb)
 cases fz with
 | true =>
   obtain rfl:=o2 rfl
   refine ⟨v',m2,w',hrun,hT1.ext,hsh,hne,fun nl' hnl=>hI.over hv ho hT1 ⟨Own.imp hO (fun cs x hc=>CMono.mono (R:=CA) hT1.ext hc),hnl,hcells⟩ hblk⟩
 | false =>
   obtain ⟨_,_,_,c3⟩:=h1
   have hT3:W.Touch (ownB v) m w (fun b=>if some b=ownB v' then 0 else m2 b) w':=by
    refine ⟨hT1.grown,fun b hb hX=>?_,hT1.grown.size,fun b hb=>?_,fun b k c hk hc=>?_⟩
    ·split
     ·rename_i e
      rcases hblk b e.symm with h|h
      ·exact (hX h.symm).elim
      ·omega
     ·rw [hT1.lim b hb hX,o3 b hX]
    ·split
     ·rename_i e
      rcases hblk b e.symm with h|h
      ·rw [c3 b h];exact Nat.le_refl _
      ·omega
     ·exact Nat.le_trans (o4.lim b hb) (hT1.ext.lim b hb)
    ·have hne':some b≠ownB v:=fun e=>by rw [c3 b e.symm] at hk;omega
     rw [World.cell?_of_block (w:=w) (hT1.grown.block b (lt_of_cell hc) hne')];exact hc
   refine ⟨v',_,w',hrun,hT3.ext,hsh,hne,fun nl' hnl=>hI.over hv ho hT3 ⟨⟨m2,Own.imp hO (fun cs x hc=>CMono.mono (R:=CA) hT3.ext hc),fun b hb=>?_,fun b hb=>?_⟩,hnl,hcells⟩ hblk⟩
   ·simp only [if_neg hb]
   ·simp only [hb,if_true]
end
section
variable {C:Cx} {ops:Array Oper} {Q:Qt} {ρ:Ro} {η η2:Eta} {rest:List Oper} {T d X:Nat} {pos:String} {af:Array Edge} {x y:Operand}
theorem OL.appOW {i j k E sz bt:Nat} {fz nl fy ny} {xs ys:List AV} (kk:OL C ops Q rest ((d,.hs k)::ρ) η2)
  (hs:(C.tab X).map (·.sh)=some (.slice E):=by with_unfolding_all exact rfl) (hz:(C.tab E).map (fun e=>(e.size,e.bytes))=some (sz+1,bt):=by with_unfolding_all exact rfl)
  (hx:ev2 ρ x=some (.hs i):=by with_unfolding_all exact rfl) (ho:η[i]?=some (.gs fz E (sz+1) nl xs):=by with_unfolding_all exact rfl) (hy:ev2 ρ y=some (.hs j):=by with_unfolding_all exact rfl) (hoy:η[j]?=some (.gs fy E (sz+1) ny ys):=by with_unfolding_all exact rfl) (hij:Nat.beq i j=false:=by with_unfolding_all exact rfl)
  (hk:η.length=k:=by (try dsimp only [List.length])<;>exact rfl) (hη:(η.set j .dead).set i .dead++[.gs fz E (sz+1) none (xs++ys)]=η2:=by (try dsimp only [List.set,List.cons_append,List.nil_append,List.append_eq])<;>exact rfl) (hd:Nat.blt d C.N=true:=by with_unfolding_all exact rfl)
  (hlen:xs.length+ys.length≤9223372036854775807:=by (try simp only [List.length_append,List.length_map,List.length_cons,List.length_nil,List.length_take,List.length_drop]);omega) (hb:(xs.length+ys.length+(xs.length+ys.length) / 4+192)*bt≤281474976710656:=by (try simp only [List.length_append,List.length_map,List.length_cons,List.length_nil,List.length_take,List.length_drop]);omega) :
  OL C ops Q (⟨some d,.call ⟨.builtin .append,#[x,y],#[X,X]⟩,T,pos,af,none⟩::rest) ρ η:=by
 rintro a w ⟨m,γ,ρc,hE,hR,hI⟩
 obtain ⟨v,g1,g2⟩:=hR.ev hx
 obtain ⟨u,g3,g4⟩:=hR.ev hy
 have hne:i≠j:=by intro e;subst e;simp at hij
 obtain ⟨hv,_⟩:=g2.hs_get
 obtain ⟨hu,_⟩:=g4.hs_get
 obtain ⟨m1,f1,f2,f3⟩:=hI.freeze hu hoy
 have hI1:=f3.put (o':=.dead) hu (List.getElem?_set_self (List.getElem?_eq_some_iff.1 hoy).1) ((Keep.refl m1 w).touch _) trivial (.inr (by cases u<;>rfl))
 rw [List.set_set] at hI1
 have ho1:(η.set j .dead)[i]?=some (.gs fz E (sz+1) nl xs):=by rw [List.getElem?_set_ne (Ne.symm hne)];exact ho
 have hyc:=(hI.heap.ok j u _ hu hoy).2.2
 cases ht:C.tab X with
 | none=>rw [ht] at hs;cases hs
 | some te =>
   rw [ht] at hs
   simp at hs
   cases hte:C.tab E with
   | none=>rw [hte] at hz;cases hz
   | some tE =>
     rw [hte] at hz
     simp at hz
     obtain ⟨v',m',w',hrun,hext,⟨q1,q2,q3,rfl⟩,_,hin⟩:=run_append2W (ty:=T) hI1 ((C.hT X te ht).re hs) (C.hT E tE hte) hz.1 (by omega) hv ho1 f2.rs hyc hlen (fun old ho=>by rw [hz.2];exact growslice_fits_wide ho hb)
     subst hη
     have hl:=hI.heap.len
     refine Cx.lcons (wl_value (v:=.slice q1 q2 q3) (w':=w') rfl ?_ (kk _ _ ⟨m',_,_,hE.put _ (by simpa using hd),⟨rfl,.hs (by rw [← hk,← hl];exact get_last),hR.mono (f1.trans hext) (.app _ _)⟩,hin none (NL.none _)⟩))
     simp [execOp,resolve,invoke,builtin,hE.ev g1,hE.ev g3,hrun]
end
end Go.V
namespace Go.V
open Go Go.W Go.ChangeShapes Go.WideShapes Go.ChangeAt Go.RowKit Go.Deep
section
variable {H:Type} {enc:TypeId × Value→H} {P:Program} {w:World} {held:Bool}
def RsZ (N:Nat) (enc:TypeId × Value→H) (P:Program) (w:World) (held:Bool) (e sz:Nat) {α:Type} (f:α→AV) (ok:α→Prop):Prop:=
 ∀ n cs y,DataW.trod enc P w 0 (fun _=>true) held n e cs=some y→SizeOf.sizeOf y.1≤N→Light P e y.1→∃ x:α,CL [] (mAll w) w cs (f x).cells∧cs.length=sz∧ok x
theorem Rs.z {e sz:Nat} {α:Type} {f:α→AV} {ok:α→Prop} (h:Rs enc P w held e sz f ok) (N:Nat):RsZ N enc P w held e sz f ok:=fun n cs y hy _ hl=>h n cs y hy hl
theorem Rs.ofZ {e sz:Nat} {α:Type} {f:α→AV} {ok:α→Prop} (h:∀ N,RsZ N enc P w held e sz f ok):Rs enc P w held e sz f ok:=fun n cs y hy hl=>h _ n cs y hy (Nat.le_refl _) hl
theorem RsZ.zero {e sz:Nat} {α:Type} {f:α→AV} {ok:α→Prop}:RsZ 0 enc P w held e sz f ok:=fun n cs y hy hz hl=>by
 exfalso
 obtain ⟨d,l⟩:=y
 cases d<;>simp at hz
theorem RsZ.slice {N t e sz B:Nat} {α:Type} {f:α→AV} {ok:α→Prop} (ht:P.underlying t=some (.slice e)) (hc:P.cellsOf e=sz) (hB:P.bytesOf e=B) (hsz:0 < sz) (h:RsZ N enc P w held e sz f ok) :
  RsZ N enc P w held t 1 (fun l:List α=>.sl sz none (l.map f)) (fun l=>l.length*B≤reachBytes∧∀ x∈l,ok x):=by
 intro n cs y hy hZ hlight
 rcases open_slice ht hy with ⟨rfl,rfl⟩|⟨a,len,cap,m,n',D,Pl,rfl,_,hl,hm,hmm,rfl,hx⟩
 ·exact ⟨[],CL.one rfl (.nil nofun),rfl,by simp⟩
 ·have hlm:len≤m:=by rw [hmm];split<;>omega
  have hwt:∀ q,q∈((((List.range len).map D).length+((List.range (m-len)).map fun j=>D (len+j)).length)*P.bytesOf e::(DataW.weightsAll P e ((List.range len).map D)++DataW.weightsAll P e ((List.range (m-len)).map fun j=>D (len+j))))→q≤reachBytes:=fun q hq=>hlight q (by
   show q∈DataW.weights P t (.slice _ _)
   rw [DataW.weights,ht]
   exact hq)
  have hD:∀ i,i < len→Light P e (D i):=fun i hi q hq=>hwt q (by
   refine List.mem_cons_of_mem _ (List.mem_append_left _ (mem_all (d:=D i) (List.mem_map.2 ⟨i,List.mem_range.2 hi,rfl⟩) hq))
   )
  have hZD:∀ i,i < len→SizeOf.sizeOf (D i)≤N:=fun i hi=>by
   have h1:SizeOf.sizeOf (D i) < SizeOf.sizeOf ((List.range len).map D):=List.sizeOf_lt_of_mem (List.mem_map.2 ⟨i,List.mem_range.2 hi,rfl⟩)
   have h2:SizeOf.sizeOf ((List.range len).map D) < SizeOf.sizeOf (DataW.slice ((List.range len).map D) ((List.range (m-len)).map fun j=>D (len+j))):=by rw [DataW.slice.sizeOf_spec];omega
   exact Nat.le_trans (Nat.le_of_lt (Nat.lt_trans h1 h2)) hZ
  have hlen:len*B≤reachBytes:=by
   have:=hwt _ (List.mem_cons_self ..)
   rw [hB] at this
   simp only [List.length_map,List.length_range] at this
   exact Nat.le_trans (Nat.mul_le_mul_right B (by omega)) this
  have each:∀ i,i < len→∃ q:α × List Value,CL [] (mAll w) w q.2 (f q.1).cells∧q.2.length=sz∧ok q.1∧CellsAt (mAll w) w ⟨a.block,a.off+i*sz,none⟩ q.2∧(i=0→a.spot=none):=by
   intro i hi
   obtain ⟨cs',h1,h2⟩:=hx i (by omega)
   obtain ⟨x,g1,g2,g3⟩:=h n' cs' _ h2 (hZD i hi) (hD i hi)
   rw [hc] at h1
   obtain ⟨k1,k2,k3⟩:=cells_all h1
   rw [Addr.add_block,Addr.add_off] at k2
   refine ⟨(x,cs'),g1,g2,g3,k2,fun e=>?_⟩
   subst e
   have:=k3 hsz
   simpa [Addr.add] using this
  by_cases hl0:len=0
  ·subst hl0
   refine ⟨[],CL.one rfl ?_,rfl,by simp⟩
   simp only [if_true] at hmm
   subst hmm
   obtain ⟨b,o,s⟩:=a
   by_cases hc0:m=0
   ·subst hc0;exact .sl0 nofun
   ·obtain ⟨cs',h1,_⟩:=hx 0 (by omega)
    rw [hc] at h1
    have h2:=(cells_all h1).2.2 hsz
    obtain rfl:s=none:=by simpa [Addr.add] using h2
    exact Rep.sl (xs:=[]) (fun _=>[]) nofun (Nat.zero_le _) hm (by simp) (by simp)
  obtain ⟨q0,_⟩:=each 0 (by omega)
  haveI:Inhabited (α × List Value):=⟨q0⟩
  obtain ⟨q,hq⟩:=choose_lt each
  have key:∀ (i:Nat) x,((List.range len).map fun i=>(q i).1)[i]?=some x→i < len∧x=(q i).1:=by
   intro i x hx
   rw [List.getElem?_map] at hx
   have hi:i < len:=by
    cases hr:(List.range len)[i]? with
    | none=>rw [hr] at hx;simp at hx
    | some z=>have:=(List.getElem?_eq_some_iff.1 hr).1;simpa using this
   rw [List.getElem?_range hi] at hx
   simp at hx
   exact ⟨hi,hx.symm⟩
  refine ⟨(List.range len).map fun i=>(q i).1,CL.one rfl ?_,rfl,by simpa using hlen,fun x hx=>?_⟩
  ·obtain ⟨b,o,s⟩:=a
   have hlen:(((List.range len).map fun i=>(q i).1).map f).length=len:=by simp
   have hx2:∀ (i:Nat) x,(((List.range len).map fun i=>(q i).1).map f)[i]?=some x→i < len∧x=f (q i).1:=by
    intro i x hx
    rw [List.getElem?_map] at hx
    cases hr:((List.range len).map fun i=>(q i).1)[i]? with
    | none=>rw [hr] at hx;simp at hx
    | some z=>rw [hr] at hx;simp at hx;obtain ⟨h1,rfl⟩:=key i z hr;exact ⟨h1,hx.symm⟩
   have hs:s=none:=(hq 0 (by omega)).2.2.2.2 rfl
   subst hs
   have hfin:=Rep.sl (m:=mAll w) (w:=w) (γ:=[]) (sz:=sz) (nl:=none) (xs:=((List.range len).map fun i=>(q i).1).map f) (b:=b) (o:=o) (cap:=cap) (fun i=>(q i).2) nofun (by rw [hlen];exact hl) hm (fun i x hx=>?_) (fun i x j c y hx hj hy=>?_)
   ·rw [hlen] at hfin;exact hfin
   ·obtain ⟨hi,rfl⟩:=hx2 i x hx
    obtain ⟨c1,c2,c3,c4,_⟩:=hq i hi
    exact ⟨c2,by rw [← c1.1,c2],c4,c1.2.1⟩
   ·obtain ⟨hi,rfl⟩:=hx2 i x hx
    exact (hq i hi).1.2.2 j c y hj hy
  ·obtain ⟨i,hi,rfl⟩:=List.mem_map.1 hx
   exact (hq i (List.mem_range.1 hi)).2.2.1
def RsSZ (N:Nat) (enc:TypeId × Value→H) (P:Program) (w:World) (held:Bool) (fs:List Field) (o sz:Nat) {α:Type} (g:α→List AV) (ok:α→Prop):Prop:=
 ∀ (m:Nat) (cs:List Value) (xs:List (DataW H × List MemPlace)),(∀ (i:Nat) f,fs[i]?=some f→DataW.trod enc P w 0 (fun _=>true) held m f.type ((cs.drop f.offset).take (P.cellsOf f.type))=xs[i]?)→xs.length=fs.length →
  (∀ (x:DataW H × List MemPlace),x∈xs→SizeOf.sizeOf x.1≤N)→(∀ (i:Nat) f x,fs[i]?=some f→xs[i]?=some x→Light P f.type x.1)→∃ x:α,CL [] (mAll w) w ((cs.drop o).take sz) (g x)∧((cs.drop o).take sz).length=sz∧ok x
theorem RsSZ.nil {N o:Nat}:RsSZ N enc P w held [] o 0 (fun _:Unit=>[]) (fun _=>True):=fun _ _ _ _ _ _ _=>⟨(),⟨rfl,by simp,by simp⟩,rfl,trivial⟩
theorem RsSZ.cons {N:Nat} {fs:List Field} {f:Field} {o s1 s2:Nat} {α β:Type} {f1:α→AV} {g:β→List AV} {ok1:α→Prop} {ok2:β→Prop} (hf:RsZ N enc P w held f.type s1 f1 ok1) (h:RsSZ N enc P w held fs (o+s1) s2 g ok2) (ho:f.offset=o) (hc:P.cellsOf f.type=s1) :
  RsSZ N enc P w held (f::fs) o (s1+s2) (fun x:α × β=>(f1 x.1).cells++g x.2) (fun x=>ok1 x.1∧ok2 x.2):=by
 intro m cs xs hx hl hz hlt
 match xs,hl with
 | y::ys,hl =>
   have h0:=hx 0 f rfl
   simp only [List.getElem?_cons_zero] at h0
   rw [ho,hc] at h0
   obtain ⟨x,a1,a2,a3⟩:=hf m _ y h0 (hz y (by simp)) (hlt 0 f y rfl rfl)
   obtain ⟨x2,b1,b2,b3⟩:=h m cs ys (fun i f hi=>by have:=hx (i+1) f (by simpa using hi);simpa using this) (by simpa using hl) (fun x hx=>hz x (by simp [hx])) (fun i f x hi hj=>hlt (i+1) f x (by simpa using hi) (by simpa using hj))
   have e:(cs.drop o).take (s1+s2)=(cs.drop o).take s1++(cs.drop (o+s1)).take s2:=by rw [List.take_add,List.drop_drop]
   exact ⟨(x,x2),by rw [e];exact a1.app b1,by rw [e,List.length_append,a2,b2],a3,b3⟩
theorem RsZ.struct {N t sz:Nat} {fs:Array Field} {α:Type} {g:α→List AV} {ok:α→Prop} (ht:P.underlying t=some (.struct fs)) (hc:P.cellsOf t=sz) (h:RsSZ N enc P w held fs.toList 0 sz g ok):RsZ (N+1) enc P w held t sz (fun x=>.st (g x)) ok:=by
 intro n cs y hy hZ hlight
 obtain ⟨xs,m,hm,rfl,hcl,hxl,hf⟩:=DataW.trod_struct ht hy
 rw [hc] at hcl
 obtain ⟨x,h1,h2,h3⟩:=h m cs xs (fun i f hi=>hf i f (by simpa using hi)) (by simpa using hxl) (fun x hx=>by
  have h1:SizeOf.sizeOf x.1 < SizeOf.sizeOf (xs.map (·.1)):=List.sizeOf_lt_of_mem (List.mem_map.2 ⟨x,hx,rfl⟩)
  have h2:SizeOf.sizeOf (DataW.agg (xs.map (·.1)):DataW H)=1+SizeOf.sizeOf (xs.map (·.1)):=DataW.agg.sizeOf_spec _
  have h3:SizeOf.sizeOf (DataW.agg (xs.map (·.1)):DataW H)≤N+1:=hZ
  omega) (fun i f x hi hxi q hq=>hlight q (by
  show q∈DataW.weights P t (.agg _)
  rw [DataW.weights,ht]
  exact mem_each (i:=i) (by rw [List.getElem?_map,hi];rfl) (by rw [List.getElem?_map,hxi];rfl) hq))
 rw [List.drop_zero,List.take_of_length_le (by omega)] at h1
 exact ⟨x,h1,hcl,h3⟩
theorem RsZ.map {N e sz:Nat} {α β:Type} {f:α→AV} {f':β→AV} {ok:α→Prop} {ok':β→Prop} (h:RsZ N enc P w held e sz f ok) (φ:α→β) (hf:∀ x,(f' (φ x)).cells=(f x).cells) (hok:∀ x,ok x→ok' (φ x)):RsZ N enc P w held e sz f' ok':=fun n cs y hy hz hl=>by
 obtain ⟨x,h1,h2,h3⟩:=h n cs y hy hz hl
 exact ⟨φ x,by rw [hf];exact h1,h2,hok x h3⟩
end
end Go.V
