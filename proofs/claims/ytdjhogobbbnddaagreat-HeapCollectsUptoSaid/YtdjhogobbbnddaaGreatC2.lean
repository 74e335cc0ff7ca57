/- Lemmas for the claim; no conditions. -/
import Derived.Scope
import Derived.Test.YtdjhogobbbnddaaGreatC1
import Derived.LoopN
namespace Go.W
open Go
section
variable {P:Program} {Q:Exit→Act→World→Prop} {w:World} {a:Act} {A B:Code} {id id':Nat} {l:List Oper} {x:Operand}
variable {N:Nat} {D:List Deferred} {ρ:List (Nat × Value)} {n:Act→World→Prop}
theorem region (h:wpList P l.toArray Q l a w):(Code.region id l.toArray false).wp P Q a w:=wp_region_lit h
theorem seq (h:A.wp P (Exit.then (B.wp P Q) Q) a w):(Code.seq A B).wp P Q a w:=wp_seq h
theorem skip (h:Q .normal a w):Code.skip.wp P Q a w:=wp_skip h
theorem exit (h:Q (.exit id) a w):(Code.exit id).wp P Q a w:=wp_exit h
theorem YuX (h:Q (.exit id') a w) (hne:id'≠id):Exit.inBlock id Q (.exit id') a w:=by simp [Exit.inBlock,hne,h]
theorem ret (h:Q .ret a w):Code.ret.wp P Q a w:=wp_ret h
theorem label {l:Nat} (h:Q .normal a w):(Code.label l).wp P Q a w:=wp_label h
theorem scope (h:A.wp P (Exit.noGoto Q) a w):(Code.scope A).wp P Q a w:=wp_scope_straight h
theorem block (h:A.wp P (Exit.inBlock id Q) a w):(Code.block id A).wp P Q a w:=wp_block h
theorem loop {S:Type} (I:S→Act→World→Prop) (μ:S→Nat) (s0:S) (h0:I s0 a w)
  (round:∀ s a w,I s a w→A.wp P (Exit.then (fun a' w'=>∃ s',I s' a' w'∧μ s' < μ s) Q) a w):(Code.loop A).wp P Q a w:=by
 have key:∀ n s a w,μ s < n→I s a w→Code.rounds P A Q n a w:=by
  intro n;induction n with
  | zero=>intro s a w h;omega
  | succ n ih =>
    intro s a w hn hI;rw [rounds_succ];refine wp_mono (round s a w hI) fun e a' w' q=>?_
    cases e with
    | normal=>obtain ⟨s',h1,h2⟩:=q;exact ih s' a' w' (by omega) h1
    | _=>exact q
 exact wp_loop_rounds _ (key _ s0 a w (Nat.lt_succ_self _) h0)
/-! ## Entry and return -/
def zipA:Nat→List Value→List (Nat × Value)
 | _,[]=>[]
 | k,v::r=>(k,v)::zipA (k+1) r
theorem zipA_look:∀ (vs:List Value) (k t:Nat) (v:Value),look (zipA k vs) t=some v→k≤t∧vs[t-k]?=some v:=by
 intro vs;induction vs with
 | nil=>intro k t v h;simp [zipA,look] at h
 | cons u r ih =>
   intro k t v h;simp only [zipA,look] at h
   cases hb:Nat.beq k t with
   | true =>
     rw [hb] at h;obtain rfl:=Nat.eq_of_beq_eq_true hb;simp at h;simp [h]
   | false =>
     rw [hb] at h;have hne:k≠t:=fun e=>by subst e;simp at hb
     obtain ⟨h1,h2⟩:=ih (k+1) t v (by simpa using h);refine ⟨by omega,?_⟩;rw [show t-k=(t-(k+1))+1 by omega];simpa using h2
theorem enter {f:FuncId} {fn:Func} {c:Code} {args:Array Value} {R:Ending→World→Prop} (ρ:List (Nat × Value)) (hf:P.funcs[f]?=some fn) (hb:fn.body=some c) (hN:fn.ntmps=N)
  (hρ:zipA 0 args.toList=ρ) (ha:args.size≤N) (h:∀ a,Env N [] a ρ→c.wp P (bodyPost P fn R) a w):Calls P f args w R:=by
 refine calls_of_wp hf hb (h _ ⟨by simp [hN];omega,rfl,?_⟩);intro t v ht;subst hρ;obtain ⟨_,h2⟩:=zipA_look args.toList 0 t v ht;have h3:args[t]?=some v:=by simpa using h2
 have hlt:t < args.size:=by
  rcases Array.getElem?_eq_some_iff.1 h3 with ⟨q,_⟩;exact q
 simp only [Array.getElem?_append,hlt,if_true];exact h3
variable {fn:Func} {R:Ending→World→Prop} {t t1 t2 t3:Tmp} {v v1 v2 v3:Value}
theorem Env.get (hE:Env N D a ρ) (h:W.look ρ t=some v):a.tmps.getD t undef=v:=by
 have:=hE.look t v h
 simp [this]
theorem ret0 (hE:Env N [] a ρ) (hr:fn.results=#[]) (hR:R (.returned (.tuple #[])) w):bodyPost P fn R .ret a w:=
 bodyPost_ret (results_none hr _ P w) hE.defers hR
theorem ret1 (hE:Env N [] a ρ) (hr:fn.results=#[.tmp t]) (h:look ρ t=some v) (hR:R (.returned v) w):bodyPost P fn R .ret a w:=
 bodyPost_ret (by rw [results_tmp hr a.tmps P w,hE.get h]) hE.defers hR
theorem ret2 (hE:Env N [] a ρ) (hr:fn.results=#[.tmp t1,.tmp t2]) (h1:look ρ t1=some v1) (h2:look ρ t2=some v2) (hR:R (.returned (.tuple #[v1,v2])) w):bodyPost P fn R .ret a w:=
 bodyPost_ret (by rw [results_tmp2 hr a.tmps P w,hE.get h1,hE.get h2]) hE.defers hR
end
section
variable {P:Program} {ops:Array Oper} {Q:Exit→Act→World→Prop} {Kc:Act→World→Prop} {w w':World} {a:Act}
variable {N:Nat} {D:List Deferred} {ρ:List (Nat × Value)} {d T X Y:Nat} {pos:String} {af:Array Edge} {x y z:Operand} {u v:Value}
/-! ### append -/
theorem Yme (t ty e n cap:Nat) (base:Option Addr) (i:TypeInfo) (ht:P.underlying t=some (.slice e)) (hi:P.info? e=some i) (hn:n≤cap) :
  (Builtin.append_ #[t,t] ty #[.slice base n cap,.slice none 0 0]).run P w=.ok (.slice base n cap) w:=by
 cases base<;>simp [Builtin.append_,run_underlying ht,sizeOf,typeInfo,hi,Builtin.lenOf,hn,Builtin.firstCells,storeCells]
theorem YlP (t ty e n cap c:Nat) (base:Option Addr) (i:TypeInfo) (a':Addr) (ht:P.underlying t=some (.slice e)) (hi:P.info? e=some i) (hn:n≤cap) :
  (Builtin.append_ #[t,t] ty #[.slice base n cap,.slice (some a') 0 c]).run P w=.ok (.slice base n cap) w:=by
 cases base<;>simp [Builtin.append_,run_underlying ht,sizeOf,typeInfo,hi,Builtin.lenOf,hn,Builtin.firstCells,storeCells,loadCells,loadCellsFrom]
def YjU {α:Type} (T sz:Nat) (C:Ycl α) (m:Nat→Nat) (w:World) (v:Value) (zs:List α) (v':Value) (m':Nat→Nat) (w':World):Prop:=
 Touch (Yay v) m w m' w'∧Own T sz C m' w' v' zs∧(Yay v'=Yay v∨∀ g,Yay v'=some g→w.heap.size≤g)∧(v'=.slice none 0 0↔v=.slice none 0 0∧zs=[])
theorem Ynl {m:Nat→Nat} {w w':World} {g n:Nat} {cur:Array Value} {T:TypeId} (hg:w.heap[g]?=some (.cells cur T (0,0))) (hm:m g≤n)
  (hsz:w.heap.size≤w'.heap.size) (hoth:∀ k,k < w.heap.size→k≠g→w'.heap[k]?=w.heap[k]?)
  {cur':Array Value} (hg':w'.heap[g]?=some (.cells cur' T (0,0))) (hpre:∀ i c,i < m g→cur[i]?=some c→cur'[i]?=some c):Ext m w (Yb8 m g n) w':=by
 refine ⟨hsz,fun b _=>?_,fun b i c hi hc=>?_⟩
 ·by_cases e:b=g
  ·subst e;simpa using hm
  ·rw [Ycj e];exact Nat.le_refl _
 ·by_cases e:b=g
  ·subst e;simp only [World.cell?,hg] at hc;simp only [World.cell?,hg'];simp at hc ⊢;exact hpre i c hi hc
  ·rw [World.cell?_of_block (w:=w) (hoth b (YbQ hc) e)];exact hc
theorem YfQ {α:Type} {t ty e sz bt:Nat} {zv:Value} {C:Ycl α} [CMono C] [COne C] {m:Nat→Nat} {xs ys:List α} {i:TypeInfo}
  (ht:P.underlying t=some (.slice e)) (hi:P.info? e=some i) (hsz:i.size=sz) (hbt:i.bytes=bt) (hz:i.zero=some zv) (hzs:zv.cells.size=sz) (h0:0 < sz)
  (ho:Own e sz C m w v xs) (hr:RS sz C m w u ys) (hlen:xs.length+ys.length≤9223372036854775807) (hb:(xs.length+ys.length)*bt≤140737488355328) :
  ∃ v' m' w',(Builtin.append_ #[t,t] ty #[v,u]).run P w=.ok v' w'∧YjU e sz C m w v (xs++ys) v' m' w':=by
 have hsame:ys=[]→∀ base n cap,v=.slice base n cap→n≤cap→(u=.slice none 0 0∨∃ a' c,u=.slice (some a') 0 c) →
   ∃ v' m' w',(Builtin.append_ #[t,t] ty #[v,u]).run P w=.ok v' w'∧YjU e sz C m w v (xs++ys) v' m' w':=by
  intro hy base n cap hv hn hu;subst hv hy;refine ⟨.slice base n cap,m,w,?_,(Keep.refl m w).touch _,by simpa using ho,.inl rfl,?_⟩;rotate_left
  ·constructor
   ·intro e;rw [e] at ho;refine ⟨e,?_⟩;rcases ho with ⟨_,rfl⟩|⟨_,_,e',_⟩|⟨_,_,_,e',_⟩
    ·rfl
    ·cases e'
    ·cases e'
   ·exact fun e=>e.1
  rcases hu with rfl|⟨a',c,rfl⟩
  ·exact Yme t ty e n cap base i ht hi hn
  ·exact YlP t ty e n cap c base i a' ht hi hn
 have hshape:∃ base cap,v=.slice base xs.length cap∧xs.length≤cap:=ho.rs.shape;rcases hr with ⟨rfl,rfl⟩|⟨b,o,cap,rfl,hc1,hc2,hel⟩|⟨aw,rfl,rfl⟩;rotate_right
 ·obtain ⟨base,cap,hv,hn⟩:=hshape;exact hsame rfl base _ cap hv hn (.inr ⟨_,_,rfl⟩)
 ·obtain ⟨base,cap,hv,hn⟩:=hshape;exact hsame rfl base _ cap hv hn (.inl rfl)
 by_cases hy0:ys=[]
 ·subst hy0;obtain ⟨base,cap',hv,hn⟩:=hshape;exact hsame rfl base _ cap' hv hn (.inr ⟨_,_,rfl⟩)
 have hyl:0 < ys.length:=List.length_pos_iff.2 hy0;obtain ⟨news,n1,n2,n3,n4⟩:=RS.news h0 hel
 have fresh:∀ (olds:List Value) (cap':Nat),olds.length=xs.length*sz→xs.length+ys.length≤cap'→cap'≤maxLen →
   (∀ i x,xs[i]?=some x→∃ cs,cs.length=sz∧(∀ j c,cs[j]?=some c→olds[i*sz+j]?=some c)∧C m w cs x) →
   YjU e sz C m w v (xs++ys) (.slice (some ⟨w.heap.size,0,none⟩) (xs.length+ys.length) cap')
    (Yb8 m w.heap.size ((xs.length+ys.length)*sz)) (w.drew.alloc (.cells (olds.toArray++news.toArray++Builtin.zeroCells zv.cells (cap'-(xs.length+ys.length))) e)):=by
  intro olds cap' hol hcap hcm hold;have hk:Keep m w (Yb8 m w.heap.size ((xs.length+ys.length)*sz)) (w.drew.alloc (.cells (olds.toArray++news.toArray++Builtin.zeroCells zv.cells (cap'-(xs.length+ys.length))) e)):=
   (Keep.drew m w).trans (Keep.alloc m w.drew _ _)
  refine ⟨hk.touch _,.inr (.inr ⟨w.heap.size,cap',_,by simp,by omega,heap_alloc_new w.drew _,by simpa using hcap,hcm,?_,by simp,?_⟩),.inr fun g hg=>?_,by simp;intro _ _;exact hy0⟩
  ·apply Nat.le_of_eq;simp only [Array.size_append,List.size_toArray,size_zeroCells,hzs,hol,n1,← Nat.add_mul];congr 1;omega
  ·intro i' x hx;rcases Nat.lt_or_ge i' xs.length with hlt|hge
   ·obtain ⟨cs,a1,a2,a3⟩:=hold i' x (by rw [List.getElem?_append_left hlt] at hx;exact hx);refine ⟨cs,a1,fun j c hj=>?_,CMono.mono hk.ext a3⟩;have:=a2 j c hj
    have hlt2:i'*sz+j < olds.length:=(List.getElem?_eq_some_iff.1 this).1;rw [Array.getElem?_append,if_pos (by simp;omega),Array.getElem?_append,if_pos (by simpa using hlt2)];simpa using this
   ·rw [List.getElem?_append_right hge] at hx;obtain ⟨cs,a1,a2,a3⟩:=n4 _ x hx;refine ⟨cs,a1,fun j c hj=>?_,CMono.mono hk.ext a3⟩;have:=a2 j c hj
    have hlt2:(i'-xs.length)*sz+j < news.length:=(List.getElem?_eq_some_iff.1 this).1;have e1:i'*sz+j=olds.length+((i'-xs.length)*sz+j):=by
     rw [hol];have:i'*sz=xs.length*sz+(i'-xs.length)*sz:=by rw [← Nat.add_mul];congr 1;omega
     omega
    rw [Array.getElem?_append,if_pos (by simp;omega),Array.getElem?_append,if_neg (by simp;omega)];simp only [List.size_toArray,e1,Nat.add_sub_cancel_left];simpa using this
  ·obtain ⟨c,rfl⟩:∃ c,cap'=c+1:=⟨cap'-1,by omega⟩;simp [Yay] at hg;omega
 have hfit:∀ old,old < xs.length+ys.length→Builtin.nextslicecap (xs.length+ys.length) old*i.bytes≤281474976710656:=fun old ho'=>growslice_fits ho' (by rw [hbt];exact hb)
 have hcapm:∀ old,xs.length+ys.length≤grownCap w (xs.length+ys.length) old e∧grownCap w (xs.length+ys.length) old e≤maxLen:=fun old =>
  ⟨grownCap_ge _ _ _ _,grownCap_le_maxLen _ _ _ _ (by have:maxLen=9223372036854775807:=rfl;omega)⟩
 subst hsz;rcases ho with ⟨rfl,rfl⟩|⟨b0,o0,rfl,rfl⟩|⟨g,cap0,cur,rfl,hp,hg,h1,h2,h3,h4,h5⟩
 ·have hr:=run_append_nil (P:=P) w t ty e i zv ht hi hz ⟨b,o,none⟩ ys.length cap news n1 n2 hyl (by simp at hlen;omega) (by have hb':ys.length*bt≤140737488355328:=(by simpa using hb);rw [hbt];omega);refine ⟨_,Yb8 m w.heap.size (ys.length*i.size),_,hr,?_⟩;have:=fresh [] (grownCap w ys.length 0 e) (by simp) (by simpa using (hcapm 0).1) (by simpa using (hcapm 0).2) (by simp)
  simpa using this
 ·have hr:=run_append_grow (P:=P) w t ty e i zv ht hi hz ⟨b0,o0,none⟩ 0 0 [] (by simp) (by simp) ⟨b,o,none⟩ ys.length cap news n1 n2 (by omega) (by simp at hlen ⊢;omega) (by simpa using hfit 0 (by simp;omega));refine ⟨_,Yb8 m w.heap.size (ys.length*i.size),_,hr,?_⟩;have:=fresh [] (grownCap w ys.length 0 e) (by simp) (by simpa using (hcapm 0).1) (by simpa using (hcapm 0).2) (by simp)
  simpa using this
 ·by_cases hroom:xs.length+ys.length≤cap0
  ·have hfit':xs.length*i.size+news.length≤cur.size:=by rw [n1,← Nat.add_mul];exact Nat.le_trans (Nat.mul_le_mul_right _ hroom) h3
   have hr:=run_append_room (P:=P) w t ty e i ht hi g xs.length cap0 cur hg ⟨b,o,none⟩ ys.length cap news n1 n2 n3 hroom hfit';have hg':=setRow_heap w g cur (cur.toList.take (xs.length*i.size)++news++cur.toList.drop (xs.length*i.size+news.length)).toArray e _ hg;have hpre:∀ j c,j < xs.length*i.size→cur[j]?=some c→(cur.toList.take (xs.length*i.size)++news++cur.toList.drop (xs.length*i.size+news.length)).toArray[j]?=some c:=by
    intro j c hj hc;have hjs:j < cur.size:=(Array.getElem?_eq_some_iff.1 hc).1;simp only [List.getElem?_toArray];rw [List.append_assoc,List.getElem?_append_left (by simp;omega),List.getElem?_take,if_pos hj];simpa using hc
   have hoth:∀ k,k < w.heap.size→k≠g→(w.setRow g (cur.toList.take (xs.length*i.size)++news++cur.toList.drop (xs.length*i.size+news.length)).toArray).heap[k]?=w.heap[k]?:=
    fun k _ hk=>setRow_other w g k _ hk
   have hext:Ext m w (Yb8 m g ((xs.length+ys.length)*i.size)) (w.setRow g (cur.toList.take (xs.length*i.size)++news++cur.toList.drop (xs.length*i.size+news.length)).toArray):=
    Ynl hg (by rw [h4];exact Nat.mul_le_mul_right _ (by omega)) (by simp) hoth hg' (by rw [h4];exact hpre)
   have hob:Yay (.slice (some ⟨g,0,none⟩) xs.length cap0)=some g:=by
    obtain ⟨c,rfl⟩:∃ c,cap0=c+1:=⟨cap0-1,by omega⟩;rfl
   refine ⟨_,Yb8 m g ((xs.length+ys.length)*i.size),_,hr,⟨⟨rfl,rfl,rfl,by simp,fun k hk hX=>hoth k hk (fun e=>hX (by rw [hob,e]))⟩,fun b' hb' hX=>Ycj (fun e=>hX (by rw [hob,e])),hext⟩,.inr (.inr ⟨g,cap0,_,by simp,hp,hg',by simpa using hroom,h2,?_,by simp,?_⟩),.inl ?_,by simp⟩
   ·simp only [List.size_toArray,List.length_append,List.length_take,List.length_drop,Array.length_toList];omega
   ·intro i' x hx;rcases Nat.lt_or_ge i' xs.length with hlt|hge
    ·obtain ⟨cs,a1,a2,a3⟩:=h5 i' x (by rw [List.getElem?_append_left hlt] at hx;exact hx);refine ⟨cs,a1,fun j c hj=>hpre _ c ?_ (a2 j c hj),CMono.mono hext a3⟩;have hjs:j < i.size:=by rw [← a1];exact (List.getElem?_eq_some_iff.1 hj).1
     exact Nat.lt_of_lt_of_le (by rw [Nat.succ_mul];omega:i'*i.size+j < (i'+1)*i.size) (Nat.mul_le_mul_right _ hlt)
    ·rw [List.getElem?_append_right hge] at hx;obtain ⟨cs,a1,a2,a3⟩:=n4 _ x hx;refine ⟨cs,a1,fun j c hj=>?_,CMono.mono hext a3⟩;have:=a2 j c hj
     have hlt2:(i'-xs.length)*i.size+j < news.length:=(List.getElem?_eq_some_iff.1 this).1;have e1:i'*i.size+j=xs.length*i.size+((i'-xs.length)*i.size+j):=by
      have:i'*i.size=xs.length*i.size+(i'-xs.length)*i.size:=by rw [← Nat.add_mul];congr 1;omega
      omega
     have hl1:(cur.toList.take (xs.length*i.size)).length=xs.length*i.size:=by
      have hcl:cap0*i.size≤cur.toList.length:=(by simpa using h3);rw [List.length_take];exact Nat.min_eq_left (Nat.le_trans (Nat.mul_le_mul_right _ h1) hcl)
     simp only [List.getElem?_toArray];rw [e1,List.append_assoc,List.getElem?_append_right (by rw [hl1];omega),hl1,Nat.add_sub_cancel_left,List.getElem?_append_left hlt2];exact this
   ·rw [hob];obtain ⟨c,rfl⟩:∃ c,cap0=c+1:=⟨cap0-1,by omega⟩;rfl
  ·have hcurl:(cur.toList.take (xs.length*i.size)).length=xs.length*i.size:=by
    have hcl:cap0*i.size≤cur.toList.length:=(by simpa using h3);rw [List.length_take];exact Nat.min_eq_left (Nat.le_trans (Nat.mul_le_mul_right _ h1) hcl)
   have hr:=run_append_grow (P:=P) w t ty e i zv ht hi hz ⟨g,0,none⟩ xs.length cap0 (cur.toList.take (xs.length*i.size)) hcurl
    (fun j u' hu'=>by
     have hadd:(⟨g,0,none⟩:Addr).add j=⟨g,j,none⟩:=by unfold Addr.add;split<;>simp_all
     rw [hadd];rw [List.getElem?_take] at hu';split at hu'
     ·simp only [World.cell?,hg];simpa using hu'
     ·cases hu') ⟨b,o,none⟩ ys.length cap news n1 n2 (by omega) (by omega) (hfit cap0 (by omega))
   refine ⟨_,Yb8 m w.heap.size ((xs.length+ys.length)*i.size),_,hr,fresh _ _ hcurl (hcapm cap0).1 (hcapm cap0).2 fun i' x hx=>?_⟩;obtain ⟨cs,a1,a2,a3⟩:=h5 i' x hx;refine ⟨cs,a1,fun j c hj=>?_,a3⟩;have hlt:i' < xs.length:=(List.getElem?_eq_some_iff.1 hx).1;have hjs:j < i.size:=by rw [← a1];exact (List.getElem?_eq_some_iff.1 hj).1
   rw [List.getElem?_take,if_pos (Nat.lt_of_lt_of_le (by rw [Nat.succ_mul];omega:i'*i.size+j < (i'+1)*i.size) (Nat.mul_le_mul_right _ hlt))];simpa using a2 j c hj
end
end Go.W
