/- Part 37 of what the claim is proved by: lemmas on the model and walks through functions of the program; no conditions. -/
import Derived.Test.YtmdpbfghjdljiaaGreatQ36
import Derived.Test.YtmdpbfghjdljiaaGreatQ27
import Derived.Test.YtmdpbfghjdljiaaGreatQ26
import Derived.Test.YtmdpbfghjdljiaaGreatQ16
import Derived.Test.YtmdpbfghjdljiaaGreatQ28
import Derived.Test.YtmdpbfghjdljiaaGreatQ20
import Derived.Test.YtmdpbfghjdljiaaGreatQ19
import Derived.Test.YtmdpbfghjdljiaaGreatQ22
namespace Go.Proofs
open Go Go.W Go.V
theorem upHas_rng {g:List (List Int)} {a b:Int} (h:upHas g a b=true):0≤b∧b < 64:=by
 rw [upHas,hasB] at h
 simp only [Bool.and_eq_true,decide_eq_true_eq] at h
 exact h.1
theorem upHas_bd {g:List (List Int)} (hf:fine g=true) {a:Nat} (ha:a < 3+g.length) {b:Int} (h:upHas g a b=true) (h3:3≤b):b≤a:=by
 obtain ⟨h0,h1⟩:=upHas_rng h
 rcases upHas_down hf (a+1) a (by omega) ha b h0 h1 h with h|h|h<;>omega
theorem upHas_up {g:List (List Int)} (hf:fine g=true):∀ (n a:Nat),a < n→a < 3+g.length→∀ c b:Int,3≤c→upHas g a c=true→b∈pOf g c→upHas g a b=true:=by
 intro n
 induction n with
 | zero=>intro a h;omega
 | succ n ih =>
   intro a han ha c b hc3 hc hb
   obtain ⟨h0,h1⟩:=upHas_rng hc
   have hle:=upHas_bd hf ha hc hc3
   have hpb:=(fine_pOf hf (c:=c) (by omega)).2.1 b hb
   have h16:=fine_len hf
   rw [upHas_step hf ha (by omega) (by omega)] at hc ⊢
   simp only [Bool.or_eq_true,decide_eq_true_eq,List.any_eq_true] at hc ⊢
   rcases hc with (hc|hc)|⟨p,hp,hc⟩
   ·subst hc
    refine .inr ⟨b,hb,?_⟩
    have:=upHas_self hf (a:=b.toNat) (by omega)
    rwa [show ((b.toNat:Nat):Int)=b by omega] at this
   ·omega
   ·have hpp:=(fine_pOf hf (c:=(a:Int)) (by omega)).2.1 p hp
    obtain ⟨q,rfl⟩:∃ q:Nat,p=q:=⟨p.toNat,by omega⟩
    exact .inr ⟨_,hp,ih q (by omega) (by omega) c b hc3 hc hb⟩
theorem upHas_last {g:List (List Int)} (hf:fine g=true):∀ (n a:Nat),a < n→a < 3+g.length→∀ b:Int,3≤b→upHas g a b=true→b=a∨∃ c:Nat,3≤c∧c≤a∧upHas g a c=true∧b∈pOf g c:=by
 intro n
 induction n with
 | zero=>intro a h;omega
 | succ n ih =>
   intro a han ha b hb3 hb
   obtain ⟨h0,h1⟩:=upHas_rng hb
   have h16:=fine_len hf
   have hb':=hb
   rw [upHas_step hf ha (by omega) (by omega)] at hb
   simp only [Bool.or_eq_true,decide_eq_true_eq,List.any_eq_true] at hb
   rcases hb with (hb|hb)|⟨p,hp,hb⟩
   ·exact .inl hb
   ·omega
   ·have hpp:=(fine_pOf hf (c:=(a:Int)) (by omega)).2.1 p hp
    obtain ⟨q,rfl⟩:∃ q:Nat,p=q:=⟨p.toNat,by omega⟩
    right
    rcases ih q (by omega) (by omega) b hb3 hb with rfl|⟨c,c3,c1,c2,c4⟩
    ·exact ⟨a,by omega,Nat.le_refl _,upHas_self hf ha,hp⟩
    ·refine ⟨c,c3,by omega,?_,c4⟩
     rw [upHas_step hf ha (by omega) (by omega)]
     simp only [Bool.or_eq_true,decide_eq_true_eq,List.any_eq_true]
     exact .inr ⟨_,hp,c2⟩
/-! ## The slots stand one behind the other -/
def consB:Int→List Int→Bool
 | _,[]=>true
 | n,s::r=>decide (s=n)&&consB (n+1) r
def slN:List Cls→Nat
 | []=>0
 | c::r=>c.2.1.length+slN r
def clsB:Int→List Cls→Bool
 | _,[]=>true
 | n,c::r=>(decide (c.2.1.length≤4)&&consB n c.2.1)&&clsB (n+c.2.1.length) r
def ownF:Nat→List Cls→List Int
 | _,[]=>[]
 | k,c::r=>List.replicate c.2.1.length ((k:Int)+3)++ownF (k+1) r
theorem consB_app:∀ (a b:List Int) (n:Int),consB n (a++b)=(consB n a&&consB (n+a.length) b)
 | [],b,n=>by simp [consB]
 | s::r,b,n=>by rw [List.cons_append,consB,consB,consB_app r b,Bool.and_assoc,show n+1+(r.length:Int)=n+((s::r).length:Int) by simp;omega]
theorem consB_get:∀ (l:List Int) (n:Int),consB n l=true→∀ k (h:k < l.length),l[k]=n+k
 | s::r,n,h,0,_=>by simp only [consB,Bool.and_eq_true,decide_eq_true_eq] at h;simp [h.1]
 | s::r,n,h,k+1,hk=>by
   simp only [consB,Bool.and_eq_true,decide_eq_true_eq] at h
   have:=consB_get r (n+1) h.2 k (by simpa using hk)
   rw [List.getElem_cons_succ,this];omega
theorem consB_mem {l:List Int} {n:Int} (h:consB n l=true) {s:Int}:s∈l↔n≤s∧s < n+l.length:=by
 constructor
 ·intro hs
  obtain ⟨k,hk,rfl⟩:=List.mem_iff_getElem.1 hs
  rw [consB_get l n h k hk];omega
 ·rintro ⟨h1,h2⟩
  have hk:(s-n).toNat < l.length:=by omega
  have:=consB_get l n h (s-n).toNat hk
  exact List.mem_iff_getElem.2 ⟨_,hk,by rw [this];omega⟩
theorem consB_nodup:∀ {l:List Int} {n:Int},consB n l=true→l.Nodup
 | [],_,_=>by simp
 | s::r,n,h=>by
   have h':=h
   simp only [consB,Bool.and_eq_true,decide_eq_true_eq] at h
   rw [List.nodup_cons]
   refine ⟨fun hs=>?_,consB_nodup h.2⟩
   have:=(consB_mem h.2).1 hs
   omega
theorem slN_app:∀ (a b:List Cls),slN (a++b)=slN a+slN b
 | [],b=>by simp [slN]
 | c::r,b=>by rw [List.cons_append,slN,slN,slN_app r b];omega
theorem slN_succ (l:List Cls) {k:Nat} (h:k < l.length):slN (l.take (k+1))=slN (l.take k)+l[k].2.1.length:=by rw [take_succ h,slN_app,slN,slN];rfl
theorem clsB_app:∀ (a b:List Cls) (n:Int),clsB n (a++b)=(clsB n a&&clsB (n+slN a) b)
 | [],b,n=>by simp [clsB,slN]
 | c::r,b,n=>by
   rw [List.cons_append,clsB,clsB,clsB_app r b,slN,show n+(c.2.1.length:Int)+(slN r:Int)=n+((c.2.1.length+slN r:Nat):Int) by omega]
   simp only [Bool.and_assoc]
theorem clsB_at {l:List Cls} (h:clsB 0 l=true) {k:Nat} (hk:k < l.length):l[k].2.1.length≤4∧consB (slN (l.take k)) l[k].2.1=true:=by
 have e:l=l.take k++l[k]::l.drop (k+1):=by rw [← drop_cons hk,List.take_append_drop]
 have h2:clsB 0 (l.take k++l[k]::l.drop (k+1))=true:=by rw [← e];exact h
 rw [clsB_app] at h2
 simp only [Bool.and_eq_true,clsB,decide_eq_true_eq,Int.zero_add] at h2
 exact h2.2.1
theorem clsB_len:∀ {l:List Cls} {n:Int},clsB n l=true→slN l≤4*l.length
 | [],_,_=>by simp [slN]
 | c::r,n,h=>by
   simp only [clsB,Bool.and_eq_true,decide_eq_true_eq] at h
   have:=clsB_len h.2
   rw [slN];simp;omega
theorem ownF_app:∀ (a b:List Cls) (k:Nat),ownF k (a++b)=ownF k a++ownF (k+a.length) b
 | [],b,k=>by simp [ownF]
 | c::r,b,k=>by rw [List.cons_append,ownF,ownF,ownF_app r b,List.append_assoc,show k+1+r.length=k+(c::r).length by simp;omega]
theorem ownF_succ (l:List Cls) {k:Nat} (h:k < l.length):ownF 0 (l.take (k+1))=ownF 0 (l.take k)++List.replicate l[k].2.1.length ((k:Int)+3):=by
 rw [take_succ h,ownF_app,ownF,ownF,List.append_nil,List.length_take,Nat.min_eq_left (by omega),Nat.zero_add]
theorem ownF_len:∀ (l:List Cls) (k:Nat),(ownF k l).length=slN l
 | [],k=>rfl
 | c::r,k=>by rw [ownF,slN,List.length_append,ownF_len r];simp
theorem slN_take_le (l:List Cls) (k:Nat):slN (l.take k)≤slN l:=by
 have:slN l=slN (l.take k)+slN (l.drop k):=by rw [← slN_app,List.take_append_drop]
 omega
theorem ownF_get:∀ (l:List Cls) (q s:Nat),s < slN l→∃ k,∃ (hk:k < l.length),slN (l.take k)≤s∧s < slN (l.take k)+l[k].2.1.length∧(ownF q l).getD s 0=((q+k:Nat):Int)+3
 | [],q,s,h=>by simp [slN] at h
 | c::r,q,s,h=>by
   by_cases hs:s < c.2.1.length
   ·refine ⟨0,by simp,by simp [slN],by simpa [slN] using hs,?_⟩
    rw [ownF,List.getD_eq_getElem?_getD,List.getElem?_append_left (by simpa using hs),List.getElem?_replicate,if_pos hs];simp
   ·rw [slN] at h
    obtain ⟨k,hk,h1,h2,h3⟩:=ownF_get r (q+1) (s-c.2.1.length) (by omega)
    refine ⟨k+1,by simp;omega,?_,?_,?_⟩
    ·rw [List.take_succ_cons,slN];omega
    ·rw [List.take_succ_cons,slN,List.getElem_cons_succ];omega
    ·rw [ownF,List.getD_eq_getElem?_getD,List.getElem?_append_right (by simp;omega),← List.getD_eq_getElem?_getD,List.length_replicate,h3];omega
theorem own_iff {l:List Cls} (h:clsB 0 l=true) {k:Nat} (hk:k < l.length) {s:Int}:s∈l[k].2.1↔(0≤s∧s < slN l)∧(ownF 0 l).getD s.toNat 0=(k:Int)+3:=by
 have hmono:∀ i j,i < j→j < l.length→slN (l.take i)+(l.getD i ([],[],[])).2.1.length≤slN (l.take j):=by
  intro i j hij hj
  have e1:l.take j=l.take (i+1)++(l.drop (i+1)).take (j-(i+1)):=by
   rw [show j=(i+1)+(j-(i+1)) by omega,List.take_add]
   congr 2
   omega
  rw [e1,slN_app,slN_succ l (by omega),getD_lt (by omega)]
  omega
 have hc:=(clsB_at h hk).2
 have htot:=slN_succ l hk
 have hle:=slN_take_le l (k+1)
 rw [consB_mem hc]
 constructor
 ·rintro ⟨h1,h2⟩
  refine ⟨⟨by omega,by omega⟩,?_⟩
  obtain ⟨j,hj,g1,g2,g3⟩:=ownF_get l 0 s.toNat (by omega)
  rw [g3]
  by_cases hjk:j=k
  ·omega
  ·rcases Nat.lt_or_gt_of_ne hjk with hlt|hlt
   ·have:=hmono j k hlt hk
    rw [getD_lt hj] at this
    omega
   ·have:=hmono k j hlt hj
    rw [getD_lt hk] at this
    omega
 ·rintro ⟨⟨h1,h2⟩,h3⟩
  obtain ⟨j,hj,g1,g2,g3⟩:=ownF_get l 0 s.toNat (by omega)
  rw [g3] at h3
  obtain rfl:j=k:=by omega
  omega
/-! ## The slots of a class -/
def hasTo (l:List Cls) (c:Int) (n:Nat):List Int:=((List.range n).filter fun s=>upHas (graphOf l) c ((ownF 0 l).getD s 0)).map fun (s:Nat)=>(s:Int)
def hasL (l:List Cls) (c:Int):List Int:=hasTo l c (slN l)
theorem mem_hasL {l:List Cls} {c s:Int}:s∈hasL l c↔(0≤s∧s < slN l)∧upHas (graphOf l) c ((ownF 0 l).getD s.toNat 0)=true:=by
 simp only [hasL,hasTo,List.mem_map,List.mem_filter,List.mem_range]
 constructor
 ·rintro ⟨n,⟨h1,h2⟩,rfl⟩
  exact ⟨by omega,by simpa using h2⟩
 ·rintro ⟨h1,h2⟩
  exact ⟨s.toNat,⟨by omega,h2⟩,by omega⟩
theorem hasL_sorted (l:List Cls) (c:Int):(hasL l c).Pairwise (· < ·):=by
 rw [hasL,hasTo,List.pairwise_map]
 refine List.Pairwise.filter _ ?_
 exact List.Pairwise.imp (fun h=>by omega) (List.pairwise_lt_range (n:=slN l))
def hasRaw (l:List Cls) (c:Nat) (j:Nat):List Int:=(List.range j).flatMap fun k=>if upHas (graphOf l) c ((c-k:Nat):Int) then (l.getD (c-k-3) ([],[],[])).2.1 else []
theorem hasRaw_succ (l:List Cls) (c j:Nat):hasRaw l c (j+1)=hasRaw l c j++(if upHas (graphOf l) c ((c-j:Nat):Int) then (l.getD (c-j-3) ([],[],[])).2.1 else []):=by
 rw [hasRaw,List.range_succ,List.flatMap_append,← hasRaw];simp
theorem mem_hasRaw {l:List Cls} {c j:Nat} {s:Int}:s∈hasRaw l c j↔∃ k,k < j∧upHas (graphOf l) c ((c-k:Nat):Int)=true∧s∈(l.getD (c-k-3) ([],[],[])).2.1:=by
 simp only [hasRaw,List.mem_flatMap,List.mem_range]
 constructor
 ·rintro ⟨k,hk,h⟩
  split at h
  ·rename_i hu;exact ⟨k,hk,hu,h⟩
  ·simp at h
 ·rintro ⟨k,hk,hu,h⟩
  exact ⟨k,hk,by rw [if_pos hu];exact h⟩
theorem hasRaw_nodup {l:List Cls} (h:clsB 0 l=true) {c:Nat} (hc:c < 3+l.length):∀ j,j+3≤c+1→(hasRaw l c j).Nodup:=by
 intro j
 induction j with
 | zero=>intro _;simp [hasRaw]
 | succ j ih =>
   intro hj
   rw [hasRaw_succ,List.nodup_append]
   have hkl:c-j-3 < l.length:=by omega
   refine ⟨ih (by omega),?_,?_⟩
   ·split
    ·rw [getD_lt hkl]
     exact consB_nodup (clsB_at h hkl).2
    ·simp
   ·intro a ha b hb hab
    subst hab
    obtain ⟨k,hk,_,h2⟩:=mem_hasRaw.1 ha
    split at hb
    ·rw [getD_lt hkl] at hb
     have hk2:c-k-3 < l.length:=by omega
     rw [getD_lt hk2] at h2
     have e1:=((own_iff h hkl).1 hb).2
     have e2:=((own_iff h hk2).1 h2).2
     omega
    ·simp at hb
theorem hasRaw_len {l:List Cls} (h:clsB 0 l=true) {c:Nat} (hc:c < 3+l.length):∀ j,j+3≤c+1→(hasRaw l c j).length≤4*j:=by
 intro j
 induction j with
 | zero=>intro _;simp [hasRaw]
 | succ j ih =>
   intro hj
   have:=ih (by omega)
   have hkl:c-j-3 < l.length:=by omega
   have h4:=(clsB_at h hkl).1
   rw [hasRaw_succ,List.length_append]
   split
   ·rw [getD_lt hkl];omega
   ·simp;omega
theorem sort_hasRaw {l:List Cls} (hf:fine (graphOf l)=true) (h:clsB 0 l=true) {c:Nat} (h3:3≤c) (hc:c < 3+l.length):sortI (hasRaw l c (c-2))=hasL l c:=by
 have hgl:(graphOf l).length=l.length:=by simp [graphOf]
 have hnd:=hasRaw_nodup h hc (c-2) (by omega)
 have hs:=hasL_sorted l c
 have hnd2:(hasL l c).Nodup:=List.Pairwise.imp (fun h=>by omega) hs
 have hperm:(hasRaw l c (c-2)).Perm (hasL l c):=by
  refine (List.perm_ext_iff_of_nodup hnd hnd2).2 fun s=>?_
  rw [mem_hasRaw,mem_hasL]
  constructor
  ·rintro ⟨k,hk,hu,hs⟩
   have hkl:c-k-3 < l.length:=by omega
   rw [getD_lt hkl] at hs
   obtain ⟨g1,g2⟩:=(own_iff h hkl).1 hs
   refine ⟨g1,?_⟩
   rw [g2,show ((c-k-3:Nat):Int)+3=((c-k:Nat):Int) by omega]
   exact hu
  ·rintro ⟨⟨h0,h1⟩,hu⟩
   obtain ⟨k,hk,g1,g2,g3⟩:=ownF_get l 0 s.toNat (by omega)
   rw [Nat.zero_add] at g3
   rw [g3] at hu
   have hle:=upHas_bd hf (a:=c) (by omega) hu (by omega)
   have hkl:c-(c-3-k)-3=k:=by omega
   refine ⟨c-3-k,by omega,?_,?_⟩
   ·rw [show ((c-(c-3-k):Nat):Int)=(k:Int)+3 by omega];exact hu
   ·rw [hkl,getD_lt hk]
    exact (own_iff h hk).2 ⟨⟨h0,h1⟩,g3⟩
 refine List.Perm.eq_of_pairwise (le:=(·≤·)) (fun a b _ _ h1 h2=>by omega) (sortI_sorted _) ?_ ((sortI_perm _).trans hperm)
 exact List.Pairwise.imp (fun h=>by omega) hs
end Go.Proofs
namespace Go.Proofs
open Go Go.W Go.V
abbrev backS (o:List Int):Nat→List AV:=fun i=>[V.int (i:Int),V.int (o.getD i 0)]
structure BaS where
 k:Nat
 B:Base
 hB:B.γ.length=0
theorem back_pre {n k:Nat} (hk:k < n):((List.range n).drop (k+1)).reverse++k::((List.range n).take k).reverse=(List.range n).reverse∧((List.range n).drop k).reverse=((List.range n).drop (k+1)).reverse++[k]:=by
 have hd:(List.range n).drop k=k::(List.range n).drop (k+1):=by rw [drop_cons (by simpa using hk),List.getElem_range]
 refine ⟨?_,by rw [hd,List.reverse_cons]⟩
 have h1:(List.range n).take k++(List.range n).drop k=List.range n:=List.take_append_drop _ _
 rw [hd] at h1
 have h2:=congrArg List.reverse h1
 rw [List.reverse_append,List.reverse_cons,List.append_assoc] at h2
 simpa using h2
theorem back_at {n x:Nat} {pre:List Nat} (h:∃ r,pre++x::r=(List.range n).reverse):x+pre.length+1=n:=by
 obtain ⟨r,h⟩:=h
 have hl:=congrArg List.length h
 simp at hl
 have h1:(pre++x::r)[pre.length]'(by simp)=x:=by simp
 simp only [h] at h1
 rw [List.getElem_reverse,List.getElem_range] at h1
 simp at h1
 omega
theorem Ct0 (o:List Int) (ho:o.length≤1000000000) (m:Nat→Nat) (w:World) (vs:List Value) (hv:VL m w [] vs [.ep [ints o] 0]):SeqV Tryz.prog 237 vs.toArray (backS o) (List.range o.length).reverse m w:=by
 refine SeqV.enter hv Tryz.tabOK Tryz.mixed Tryz.func237 rfl rfl rfl fun I B hB hA=>?_
 refine goyW ?_
 refine TC.loopC (S:=BaS) (fun s=>⟨Tryz.prog,Tryz.tab,Tryz.tabOK,Tryz.mixed,19,[],s.B,0,s.hB,some none,0⟩) (fun s=>[(0,.raw (.func (.yield I.l) #[] #[])),(1,.ep [ints o] 0),(3,V.int ((s.k:Int)-1))]) (fun _=>[])
  (fun s=>s.k≤o.length∧At I (I.J ((List.range o.length).drop s.k).reverse) [] s.B) (fun s=>s.k) ⟨o.length,B,hB⟩ ⟨Nat.le_refl _,by rw [List.drop_eq_nil_of_le (by simp)];exact hA⟩ rfl (fun _ _=>rfl) [] rfl rfl ?_ ?_ ?_
 ·with_unfolding_all exact trivial
 ·repeat' (first|with_unfolding_all exact trivial|exact LE.ren (by with_unfolding_all exact rfl)|with_unfolding_all refine And.intro ⟨_,by with_unfolding_all exact rfl,?_⟩ ?_)
 rintro ⟨k,B2,hB2⟩ ⟨hk,hA2⟩
 dsimp only at hk hA2 ⊢
 cases k with
 | succ k =>
   obtain ⟨hp1,hp2⟩:=back_pre (n:=o.length) (k:=k) (by omega)
   have hbs:backS o k=[V.int (((k+1:Nat):Int)-1),V.int (o[(((k+1:Nat):Int)-1).toNat]'(by omega))]:=by
    have e:(((k+1:Nat):Int)-1)=(k:Int):=by omega
    have e2:∀ (i:Nat) (h:i < o.length),i=k→o[i]=o.getD k 0:=fun i h hi=>by subst hi;rw [getD_lt h]
    rw [e2 _ _ (by omega),e]
   refine goyW ?_
   refine OL.yield (pre:=((List.range o.length).drop (k+1)).reverse) (y:=k) hA2 ⟨_,hp1⟩ (fun B1 hB1 hA1 _ _=>?_) (fun B1 hB1 hA1 _ _=>?_) (hle:=by rw [hbs];exact ⟨.ren rfl,.ren rfl,trivial⟩)
   ·refine goyW ?_
    exact TX.rdC ⟨k,B1,hB1⟩ [] ⟨by dsimp only;omega,by dsimp only;rw [hp2];exact hA1⟩ (by dsimp only;omega) (hr:=⟨⟨_,rfl,LE.ren rfl⟩,⟨_,rfl,LE.ren rfl⟩,⟨_,rfl,LE.int (by show ((k+1:Nat):Int)-1-1=(k:Int)-1;omega)⟩,trivial⟩)
   ·refine goyW ?_
    exact TX.rtIt (ds:=[]) hA1 (fun m w h=>.inr ⟨_,h⟩)
 | zero =>
   refine goyW ?_
   refine TX.endM ?_
   exact TX.rtIt (ds:=[]) (by rwa [List.drop_zero] at hA2) (fun m w h=>.inl h)
theorem Ct307 (o:List Int) (ho:o.length≤1000000000):V.Spec Tryz.prog 195 [ints o] [] (.pr (SeqMP Tryz.prog (backS o) (List.range o.length).reverse)) []:=by
 refine V.Spec.enter Tryz.tabOK Tryz.mixed Tryz.func195 rfl rfl rfl fun B hB=>?_
 refine goW ?_
 refine TX.frzA 0 ?_
 exact TX.rt1 [] (LE.seq Tryz.func237 (Ct0 o ho))
theorem clip_inits (l:List (Int × Int)):V.Spec Tryz.prog 196 [initsA l] [] (initsA l) []:=by
 refine V.Spec.enter Tryz.tabOK Tryz.mixed Tryz.func196 rfl rfl rfl fun B hB=>?_
 refine goW ?_
 refine OL.clip ?_
 refine goW ?_
 exact TX.rt1 [] (.ren rfl)
theorem lin_lt {l:List Cls} (hf:fine (graphOf l)=true) {c:Nat} (_h3:3≤c) (hc:c < 3+l.length):∀ x∈at_ (orders (graphOf l)) c,x < 3+(l.length:Int):=by
 intro x hx
 have hgl:(graphOf l).length=l.length:=by simp [graphOf]
 by_cases hne:at_ (orders (graphOf l)) c=[]
 ·rw [hne] at hx;simp at hx
 ·obtain ⟨m1,_,_⟩:=ord_main hf (c+1) c (by omega) (by omega) hne
  obtain ⟨h1,h2⟩:=(m1 x).1 hx
  rcases Int.lt_or_le x 3 with h|h
  ·omega
  ·have:=upHas_rng h2
   have:=upHas_le hf (a:=c) (by omega) (b:=x) (by omega) (by omega) h2
   omega
end Go.Proofs
namespace Go.Proofs
open Go Go.W Go.V
def insK (L:List Int) (k:Int):List Int:=if L.contains k then L else L++[k]
theorem mem_insK {L:List Int} {k b:Int}:b∈insK L k↔b∈L∨b=k:=by
 unfold insK
 split
 ·rename_i h
  have h':k∈L:=by simpa using h
  constructor
  ·exact .inl
  ·rintro (h|rfl)
   ·exact h
   ·exact h'
 ·simp
def upKeys (g:List (List Int)) (c:Nat):Nat→List Int
 | 0=>[(c:Int)]
 | j+1=>if (upKeys g c j).contains ((c-j:Nat):Int) then (pOf g ((c-j:Nat):Int)).foldl insK (upKeys g c j) else upKeys g c j
theorem mem_foldK {b:Int}:∀ (l L:List Int),b∈l.foldl insK L↔b∈L∨b∈l
 | [],L=>by simp
 | k::r,L=>by rw [List.foldl_cons,mem_foldK r,mem_insK,List.mem_cons,or_assoc]
theorem mem_upKeys {g:List (List Int)} (hf:fine g=true) {c:Nat} (h3:3≤c) (hc:c < 3+g.length):∀ j,j≤c-2 →
  (∀ b:Int,b∈upKeys g c j↔(b=c∨∃ q:Nat,c-j < q∧q≤c∧upHas g c q=true∧b∈pOf g q))∧(j≤c-3→(((c-j:Nat):Int)∈upKeys g c j↔upHas g c ((c-j:Nat):Int)=true)):=by
 intro j
 have key:(∀ b:Int,b∈upKeys g c j↔(b=c∨∃ q:Nat,c-j < q∧q≤c∧upHas g c q=true∧b∈pOf g q))→(j≤c-3→(((c-j:Nat):Int)∈upKeys g c j↔upHas g c ((c-j:Nat):Int)=true)):=by
  intro hk hj
  rw [hk]
  constructor
  ·rintro (h|⟨q,q1,q2,q3,q4⟩)
   ·rw [h];exact upHas_self hf hc
   ·exact upHas_up hf (c+1) c (by omega) hc q _ (by omega) q3 q4
  ·intro h
   rcases upHas_last hf (c+1) c (by omega) hc _ (by omega) h with h|⟨q,q0,q1,q2,q4⟩
   ·exact .inl h
   ·refine .inr ⟨q,?_,q1,q2,q4⟩
    have:=(fine_pOf hf (c:=(q:Int)) (by omega)).2.1 _ q4
    omega
 induction j with
 | zero =>
   intro _
   refine ⟨?_,key ?_⟩ <;>
   ·intro b
    simp only [upKeys,List.mem_singleton]
    constructor
    ·exact .inl
    ·rintro (h|⟨q,q1,q2,_⟩)
     ·exact h
     ·omega
 | succ j ih =>
   intro hj
   have key':(∀ b:Int,b∈upKeys g c j↔(b=c∨∃ q:Nat,c-j < q∧q≤c∧upHas g c q=true∧b∈pOf g q))→(j≤c-3→(((c-j:Nat):Int)∈upKeys g c j↔upHas g c ((c-j:Nat):Int)=true)):=by
    intro hk hj
    rw [hk]
    constructor
    ·rintro (h|⟨q,q1,q2,q3,q4⟩)
     ·rw [h];exact upHas_self hf hc
     ·exact upHas_up hf (c+1) c (by omega) hc q _ (by omega) q3 q4
    ·intro h
     rcases upHas_last hf (c+1) c (by omega) hc _ (by omega) h with h|⟨q,q0,q1,q2,q4⟩
     ·exact .inl h
     ·refine .inr ⟨q,?_,q1,q2,q4⟩
      have:=(fine_pOf hf (c:=(q:Int)) (by omega)).2.1 _ q4
      omega
   obtain ⟨i1,i2⟩:=ih key' (by omega)
   have i2:=i2 (by omega)
   have main:∀ b:Int,b∈upKeys g c (j+1)↔(b=c∨∃ q:Nat,c-(j+1) < q∧q≤c∧upHas g c q=true∧b∈pOf g q):=by
    intro b
    rw [upKeys]
    by_cases hu:upHas g c ((c-j:Nat):Int)=true
    ·rw [if_pos (by simpa using i2.2 hu),mem_foldK,i1]
     constructor
     ·rintro ((h|⟨q,q1,q2,q3⟩)|h)
      ·exact .inl h
      ·exact .inr ⟨q,by omega,q2,q3⟩
      ·exact .inr ⟨c-j,by omega,by omega,hu,h⟩
     ·rintro (h|⟨q,q1,q2,q3,q4⟩)
      ·exact .inl (.inl h)
      ·by_cases hq:q=c-j
       ·subst hq;exact .inr q4
       ·exact .inl (.inr ⟨q,by omega,q2,q3,q4⟩)
    ·rw [if_neg (by simpa using fun h=>hu (i2.1 h)),i1]
     constructor
     ·rintro (h|⟨q,q1,q2,q3⟩)
      ·exact .inl h
      ·exact .inr ⟨q,by omega,q2,q3⟩
     ·rintro (h|⟨q,q1,q2,q3,q4⟩)
      ·exact .inl h
      ·by_cases hq:q=c-j
       ·subst hq;exact absurd q3 hu
       ·exact .inr ⟨q,by omega,q2,q3,q4⟩
   exact ⟨main,key main⟩
theorem upKeys_has {g:List (List Int)} (hf:fine g=true) {c j:Nat} (h3:3≤c) (hc:c < 3+g.length) (hj:j≤c-3):(upKeys g c j).contains ((c-j:Nat):Int)=upHas g c ((c-j:Nat):Int):=by
 rw [Bool.eq_iff_iff,List.contains_iff_mem]
 exact (mem_upKeys hf h3 hc j (by omega)).2 hj
/-! ## Which programs are formed -/
def clsInB (l:List Cls) (k:Nat):Bool:=decide (0 < (at_ (orders (graphOf l)) ((3+k:Nat):Int)).length)&&initsOk (hasL l ((3+k:Nat):Int)) [] (clsAt l k).2.2
def classesB (p:Prg):Bool:=(decide (p.cls.length≤10)&&clsB 0 p.cls)&&((decide ((slN p.cls:Int)=p.slots)&&fine (graphOf p.cls))&&(List.range p.cls.length).all (clsInB p.cls))
def nxtB (k:Int):Bool:=decide (k=1) || decide (k=4)
def mthB (p:Prg) (out:List Int) (x:Mth):Option (List Int):=
 if (decide (1≤x.kind)&&decide (x.kind≤4))&&(decide (0≤x.gen)&&decide (x.gen < p.gens.length)) then
  if okF p.cls.length (slN p.cls) 24 12 x.fact&&decide (speaksF x.fact≤p.gens.getD x.gen.toNat 0) then runB p (nxtB x.kind) out (belowL p x.node (p.gens.getD x.gen.toNat 0)) else none
 else none
def mthsB (p:Prg) (out:List Int) (l:List Mth):Option (List Int):=l.foldlM (mthB p) out
def lensB (p:Prg):Bool:=((decide (p.gens.length≤8)&&decide (p.mths.length≤16))&&(decide (1≤p.nodes.length)&&decide (p.nodes.length≤120)))&&p.gens.all fun n=>decide (1≤n)&&decide (n≤3)
def sizesV (p:Prg):Option (List Int):=
 if classesB p&&lensB p then
  ((mthsB p (List.replicate p.nodes.length (-1)) p.mths).bind fun o=>runB p false o (belowL p p.main 0)).filter fun o=>!o.contains (-1)
 else none
def progB (p:Prg):Bool:=(sizesV p).isSome
theorem mthsB_snoc (p:Prg) (out:List Int) (l:List Mth) (x:Mth):mthsB p out (l++[x])=(mthsB p out l).bind fun o=>mthB p o x:=by simp [mthsB,List.foldlM_append]
theorem mthsB_app (p:Prg) (out:List Int) (l r:List Mth):mthsB p out (l++r)=(mthsB p out l).bind fun o=>mthsB p o r:=by simp [mthsB,List.foldlM_append]
theorem stepB_ge {p:Prg} {next:Bool} {out o:List Int} {x:Pl} (h:stepB p next out x=some o) (h0:∀ y∈out,-1≤y) (hx:0≤x.2.1):∀ y∈o,-1≤y:=by
 unfold stepB at h
 split at h
 ·split at h
  ·cases h
   intro y hy
   rcases List.mem_or_eq_of_mem_set hy with h|h
   ·exact h0 y h
   ·omega
  ·cases h
 ·cases h
theorem runB_ge {p:Prg} {next:Bool}:∀ {l:List Pl} {out o:List Int},runB p next out l=some o→(∀ y∈out,-1≤y)→(∀ x∈l,0≤x.2.1)→∀ y∈o,-1≤y
 | [],out,o,h,h0,_=>by simp [runB] at h;subst h;exact h0
 | x::l,out,o,h,h0,hl=>by
   have e:=runB_app p next out [x] l
   rw [List.singleton_append,h] at e
   cases h1:runB p next out [x] with
   | none=>rw [h1] at e;cases e
   | some o1 =>
     rw [h1] at e
     have h2:stepB p next out x=some o1:=by simpa [runB] using h1
     exact runB_ge e.symm (stepB_ge h2 h0 (hl x (by simp))) (fun y hy=>hl y (by simp [hy]))
theorem visL_ge (nodes:List Nd):∀ (f:Nat) (n s d:Int),0≤s→∀ x∈visL nodes f n s d,0≤x.2.1
 | 0,n,s,d,h,x,hx=>by simp [visL] at hx;subst hx;exact h
 | f+1,n,s,d,h,x,hx=>by
   rw [visL] at hx
   rcases List.mem_cons.1 hx with rfl|hx
   ·exact h
   ·obtain ⟨q,_,hq⟩:=List.mem_flatMap.1 hx
    exact visL_ge nodes f _ _ _ (by split<;>omega) x hq
theorem mthB_len {p:Prg} {out o:List Int} {x:Mth} (h:mthB p out x=some o):o.length=out.length:=by
 unfold mthB at h
 split at h
 ·split at h
  ·exact runB_len h
  ·cases h
 ·cases h
theorem mthsB_len {p:Prg}:∀ {l:List Mth} {out o:List Int},mthsB p out l=some o→o.length=out.length
 | [],out,o,h=>by simp [mthsB] at h;rw [h]
 | x::l,out,o,h=>by
   have e:=mthsB_app p out [x] l
   rw [List.singleton_append,h] at e
   cases h1:mthsB p out [x] with
   | none=>rw [h1] at e;cases e
   | some o1 =>
     rw [h1] at e
     have h2:mthB p out x=some o1:=by simpa [mthsB] using h1
     rw [mthsB_len e.symm,mthB_len h2]
theorem gens_pos {p:Prg} (h:lensB p=true) {k:Nat} (hk:k < p.gens.length):1≤p.gens[k]∧p.gens[k]≤3:=by
 simp only [lensB,Bool.and_eq_true,List.all_eq_true,decide_eq_true_eq] at h
 exact h.2 _ (List.getElem_mem hk)
theorem mthB_ge {p:Prg} (hl:lensB p=true) {out o:List Int} {x:Mth} (h:mthB p out x=some o) (h0:∀ y∈out,-1≤y):∀ y∈o,-1≤y:=by
 unfold mthB at h
 split at h
 ·rename_i hk
  simp only [Bool.and_eq_true,decide_eq_true_eq] at hk
  have hg:=gens_pos hl (k:=x.gen.toNat) (by omega)
  split at h
  ·refine runB_ge h h0 (visL_ge _ _ _ _ _ ?_)
   rw [getD_lt (by omega)];omega
  ·cases h
 ·cases h
theorem mthsB_ge {p:Prg} (hl:lensB p=true):∀ {l:List Mth} {out o:List Int},mthsB p out l=some o→(∀ y∈out,-1≤y)→∀ y∈o,-1≤y
 | [],out,o,h,h0=>by simp [mthsB] at h;subst h;exact h0
 | x::l,out,o,h,h0=>by
   have e:=mthsB_app p out [x] l
   rw [List.singleton_append,h] at e
   cases h1:mthsB p out [x] with
   | none=>rw [h1] at e;cases e
   | some o1 =>
     rw [h1] at e
     have h2:mthB p out x=some o1:=by simpa [mthsB] using h1
     exact mthsB_ge hl e.symm (mthB_ge hl h2 h0)
theorem neg_iff {o:List Int} (h:∀ y∈o,-1≤y):o.contains (-1)=o.any fun y=>decide (y < 0):=by
 rw [Bool.eq_iff_iff,List.contains_iff_mem,List.any_eq_true]
 constructor
 ·intro hm;exact ⟨-1,hm,by decide⟩
 ·rintro ⟨y,hy,hlt⟩
  have:=h y hy
  have:y=-1:=by simp at hlt;omega
  rwa [this] at hy
end Go.Proofs
namespace Go.Proofs
open Go Go.W Go.V
theorem metOf_cons:∀ (l:List Cls) (n:Int),clsB n l=true→(metOf l).length=slN l∧consB n (metOf l)=true
 | [],n,_=>⟨rfl,rfl⟩
 | c::r,n,h=>by
   have hm:metOf (c::r)=c.2.1++metOf r:=by simp [metOf]
   simp only [clsB,Bool.and_eq_true,decide_eq_true_eq] at h
   obtain ⟨h1,h2⟩:=metOf_cons r _ h.2
   rw [hm,consB_app,h.1.2,h2,List.length_append,h1,slN]
   exact ⟨rfl,rfl⟩
theorem has_slots {l:List Cls} (hc:clsB 0 l=true) (h10:l.length≤10) {c:Nat} (s:Int):(hasL l c).contains s=(slotsOf l c).contains s:=by
 have hsl:=clsB_len hc
 rw [Bool.eq_iff_iff,List.contains_iff_mem,List.contains_iff_mem,mem_hasL,slotsOf,mem_slotsTo]
 constructor
 ·rintro ⟨⟨h0,h1⟩,hu⟩
  obtain ⟨k,hk,g1,g2,g3⟩:=ownF_get l 0 s.toNat (by omega)
  rw [Nat.zero_add] at g3
  refine ⟨⟨h0,by omega⟩,k,hk,?_⟩
  have hm:=(own_iff hc hk (s:=s)).2 ⟨⟨h0,h1⟩,g3⟩
  rw [g3] at hu
  rw [ownSl,clsAt,getD_lt hk,List.contains_iff_mem.2 hm,Bool.true_and,show ((3+k:Nat):Int)=(k:Int)+3 by omega]
  exact hu
 ·rintro ⟨_,k,hk,ho⟩
  rw [ownSl,clsAt,getD_lt hk,Bool.and_eq_true,List.contains_iff_mem] at ho
  obtain ⟨g1,g2⟩:=(own_iff hc hk).1 ho.1
  refine ⟨g1,?_⟩
  rw [g2,show (k:Int)+3=((3+k:Nat):Int) by omega]
  exact ho.2
theorem initsOk_congr {a b:List Int} (h:∀ s,a.contains s=b.contains s):∀ (l:List (Int × Int)) (own:List Int),initsOk a own l=initsOk b own l
 | [],_=>rfl
 | x::r,own=>by rw [initsOk,initsOk,h,initsOk_congr h r]
theorem good_of_classes {p:Prg} (h:classesB p=true):goodB p.cls=true:=by
 simp only [classesB,Bool.and_eq_true,decide_eq_true_eq] at h
 obtain ⟨⟨h10,hc⟩,⟨_,hf⟩,hin⟩:=h
 have hsl:=clsB_len hc
 obtain ⟨hm1,hm2⟩:=metOf_cons p.cls 0 hc
 have hin':∀ k,k < p.cls.length→clsInB p.cls k=true:=fun k hk=>List.all_eq_true.1 hin k (List.mem_range.2 hk)
 rw [goodB,hf,decide_eq_true h10,Bool.true_and,Bool.true_and,Bool.and_eq_true]
 constructor
 ·rw [clsOk_iff]
  refine ⟨fun j hj=>?_,consB_nodup hm2,fun s hs=>⟨?_,by simp⟩⟩
  ·have:=hin' j hj
   rw [clsInB,Bool.and_eq_true,decide_eq_true_eq] at this
   rw [Nat.zero_add]
   exact ⟨this.1,(clsB_at hc hj).1⟩
  ·have:=(consB_mem hm2).1 hs
   rw [slotR_iff];omega
 ·refine all_true fun k hk=>?_
  have:=hin' k hk
  rw [clsInB,Bool.and_eq_true] at this
  rw [iniAt,← initsOk_congr (fun s=>has_slots hc h10 (c:=3+k) s)]
  exact this.2
end Go.Proofs
namespace Go.Proofs
open Go Go.W Go.V
abbrev Ob:=Int × List (Int × Int)
abbrev obA (x:Ob):AV:=.st [V.int x.1,valsA x.2]
abbrev obsA (l:List Ob):AV:=.sl 2 none (l.map obA)
theorem clip_valsO (l:List (Int × Int)):V.Spec Tryz.prog 238 [.hs 0] [.gs false Tc.api_MeanVal 2 none (l.map valA)] (.hs 1) [.dead,.gs false Tc.api_MeanVal 2 none (l.map valA)]:=by
 refine V.Spec.enter Tryz.tabOK Tryz.mixed Tryz.func238 rfl rfl rfl fun B hB=>?_
 refine goW ?_
 refine OL.clipO ?_
 refine goW ?_
 exact TX.rt1 [0,1] (.ren rfl)
theorem clip_obsO (l:List Ob):V.Spec Tryz.prog 201 [.hs 0] [.gs false Tc.api_MeanThing 2 none (l.map obA)] (.hs 1) [.dead,.gs false Tc.api_MeanThing 2 none (l.map obA)]:=by
 refine V.Spec.enter Tryz.tabOK Tryz.mixed Tryz.func201 rfl rfl rfl fun B hB=>?_
 refine goW ?_
 refine OL.clipO ?_
 refine goW ?_
 exact TX.rt1 [0,1] (.ren rfl)
theorem Ct182 (l:List (Int × Int)) (hl:l.length*16≤140737488355328):V.Spec Tryz.prog 197 [.sl 2 none (l.map valA),.pr (FunMP Tryz.prog (·∈l) (fun x=>[valA x]) valA (fun _=>[]))] [] (.hs 0) [.gs false Tc.api_MeanVal 2 none (l.map valA)]:=by
 refine V.Spec.enter Tryz.tabOK Tryz.mixed Tryz.func197 rfl rfl rfl fun B hB=>?_
 refine goW ?_
 refine TC.adp 5 Tc.api_MeanVal 2 ?_
 refine TC.lp (fun k:Nat=>[(1,.pr (FunMP Tryz.prog (·∈l) (fun x=>[valA x]) valA (fun _=>[]))),(5,.hs 0),(8,.sl 2 none (l.map valA)),(9,V.int l.length),(10,V.int k)]) (fun k=>[.gs false Tc.api_MeanVal 2 none ((l.take k).map valA)]) (fun k=>k≤l.length) (fun k=>l.length-k) 0 [0] (Nat.zero_le _) ?_
 rintro k hk
 by_cases hkl:k < l.length
 ·have hlen:(l.take k).length=k:=by simp;omega
  have e:(l.take k).map valA++[valA l[k]]=(l.take (k+1)).map valA:=by rw [take_succ hkl,List.map_append];rfl
  generalize l.take k=gk at *
  refine goW ?_
  refine OL.cf l[k] (List.getElem_mem _) ?_
  refine goW ?_
  exact TX.rd (k+1) [3] (by omega) (by omega)
 ·rw [take_all (by omega)]
  refine goW ?_
  refine OL.ch [0] (clip_valsO l) Tryz.func238 ?_
  refine goW ?_
  exact TX.rt1 [1] (.ren rfl)
theorem Ct181 (l:List (Ob)) (hl:l.length*32≤140737488355328):V.Spec Tryz.prog 141 [.sl 2 none (l.map obA),.pr (FunMP Tryz.prog (·∈l) (fun x=>[obA x]) obA (fun _=>[]))] [] (.hs 0) [.gs false Tc.api_MeanThing 2 none (l.map obA)]:=by
 refine V.Spec.enter Tryz.tabOK Tryz.mixed Tryz.func141 rfl rfl rfl fun B hB=>?_
 refine goW ?_
 refine TC.adp 5 Tc.api_MeanThing 2 ?_
 refine TC.lp (fun k:Nat=>[(1,.pr (FunMP Tryz.prog (·∈l) (fun x=>[obA x]) obA (fun _=>[]))),(5,.hs 0),(8,.sl 2 none (l.map obA)),(9,V.int l.length),(10,V.int k)]) (fun k=>[.gs false Tc.api_MeanThing 2 none ((l.take k).map obA)]) (fun k=>k≤l.length) (fun k=>l.length-k) 0 [0] (Nat.zero_le _) ?_
 rintro k hk
 by_cases hkl:k < l.length
 ·have hlen:(l.take k).length=k:=by simp;omega
  have e:(l.take k).map obA++[obA l[k]]=(l.take (k+1)).map obA:=by rw [take_succ hkl,List.map_append];rfl
  generalize l.take k=gk at *
  refine goW ?_
  refine OL.cf l[k] (List.getElem_mem _) ?_
  refine goW ?_
  exact TX.rd (k+1) [3] (by omega) (by omega)
 ·rw [take_all (by omega)]
  refine goW ?_
  refine OL.ch [0] (clip_obsO l) Tryz.func201 ?_
  refine goW ?_
  exact TX.rt1 [1] (.ren rfl)
theorem Ct190 (x:Int × Int):V.Spec Tryz.prog 198 [valA x] [] (valA x) []:=by
 refine V.Spec.enter Tryz.tabOK Tryz.mixed Tryz.func198 rfl rfl rfl fun B hB=>?_
 refine goW ?_
 exact TX.rtc [] (.ren rfl)
theorem Ct188 (l:List (Int × Int)) (hl:l.length*16≤140737488355328):V.Spec Tryz.prog 139 [valsA l] [] (.hs 0) [.gs false Tc.api_MeanVal 2 none (l.map valA)]:=by
 have h:=Ct182 l hl
 refine V.Spec.enter Tryz.tabOK Tryz.mixed Tryz.func139 rfl rfl rfl fun B hB=>?_
 refine goW ?_
 refine OL.c h Tryz.func197 ?_ (hle:=by exact ⟨.ren rfl,LE.fun_ (first':=[]) (caps':=[]) Tryz.func198 rfl trivial trivial (fun x hx=>Ct190 x),trivial⟩)
 refine goW ?_
 exact TX.rt1 [0] (.ren rfl)
theorem Ct189 (l:List (Int × Int)) (hl:l.length*16≤140737488355328):V.Spec Tryz.prog 139 [valsA l] [] (valsA l) []:=by
 have h:=Ct182 l hl
 refine V.Spec.enter Tryz.tabOK Tryz.mixed Tryz.func139 rfl rfl rfl fun B hB=>?_
 refine goW ?_
 refine OL.c h Tryz.func197 ?_ (hle:=by exact ⟨.ren rfl,LE.fun_ (first':=[]) (caps':=[]) Tryz.func198 rfl trivial trivial (fun x hx=>Ct190 x),trivial⟩)
 refine goW ?_
 refine TX.vw 2 ?_
 exact TX.rt1 [] (.ren rfl)
theorem Ct186 (x:Ob) (hx:x.2.length*16≤140737488355328):V.Spec Tryz.prog 142 [obA x] [] (obA x) []:=by
 have h:=Ct189 x.2 hx
 refine V.Spec.enter Tryz.tabOK Tryz.mixed Tryz.func142 rfl rfl rfl fun B hB=>?_
 refine goW ?_
 (with_reducible refine TC.draw (id:=1) true 6 7 ?_<;>refine OD.st 0 ?_<;>refine OD.st 1 ?_<;>refine OD.st 2 ?_<;>refine OD.st 3 ?_<;>refine OD.c1 4 h Tryz.func139 ?_<;>refine OD.s1 5 ?_ (h:=gvBuild)<;>(refine OD.a1 6 ?_;refine OL.storeAgg ?_;refine OL.nil ?_;refine TX.od ?_)<;>refine OD.dn ?_)
 all_goals refine goW ?_
 all_goals exact TX.rtc [] (.ren rfl)
theorem Ct185 (l:List Ob) (hl:l.length*32≤140737488355328) (hx:∀ x∈l,x.2.length*16≤140737488355328):V.Spec Tryz.prog 99 [obsA l] [] (.hs 0) [.gs false Tc.api_MeanThing 2 none (l.map obA)]:=by
 have h:=Ct181 l hl
 refine V.Spec.enter Tryz.tabOK Tryz.mixed Tryz.func99 rfl rfl rfl fun B hB=>?_
 refine goW ?_
 refine OL.c h Tryz.func141 ?_ (hle:=by exact ⟨.ren rfl,LE.fun_ (first':=[]) (caps':=[]) Tryz.func142 rfl trivial trivial (fun x hx'=>Ct186 x (hx x hx')),trivial⟩)
 refine goW ?_
 exact TX.rt1 [0] (.ren rfl)
theorem Ct191 (v:Int × Int) (n:Int):V.Spec Tryz.prog 200 [valA v,V.int n] [] (V.bool (valB v n)) []:=by
 rw [valB]
 refine V.Spec.enter Tryz.tabOK Tryz.mixed Tryz.func200 rfl rfl rfl fun B hB=>?_
 by_cases h1:v.1=1
 ·rw [if_pos h1]
  repeat' (with_reducible first|refine OL.st ?_|refine OL.box ?_|refine TC.region ?_|refine TC.seq ?_|refine OL.nil ?_|refine TX.thenN ?_|refine TC.block ?_|refine OL.gOn ?_|refine OL.gOff ?_|refine TC.ifD ?_ ?_<;>(intro hc;try (exfalso;omega))|refine OL.gD ?_ ?_<;>(intro hc;try (exfalso;omega))|refine TC.ret ?_|refine TX.thenR ?_|refine TX.blkR ?_|fail)
  all_goals refine TX.rt1 [] (.bool ?_)
  ·have:-1000000000≤v.2:=by omega
   simp [this]
  ·have:¬ -1000000000≤v.2:=by omega
   simp [this]
 ·rw [if_neg h1]
  by_cases h2:v.1=2
  ·rw [if_pos h2]
   refine goW ?_
   exact TX.rt1 [] (.bool rfl)
  ·rw [if_neg h2]
   by_cases h3:v.1=3
   ·rw [if_pos h3]
    repeat' (with_reducible first|refine OL.st ?_|refine OL.box ?_|refine TC.region ?_|refine TC.seq ?_|refine OL.nil ?_|refine TX.thenN ?_|refine TC.block ?_|refine OL.gOn ?_|refine OL.gOff ?_|refine TC.ifD ?_ ?_<;>(intro hc;try (exfalso;omega))|refine OL.gD ?_ ?_<;>(intro hc;try (exfalso;omega))|refine TC.ret ?_|refine TX.thenR ?_|refine TX.blkR ?_|fail)
    all_goals refine TX.rt1 [] (.bool ?_)
    ·have:0≤v.2:=by omega
     simp [this]
    ·have:¬ 0≤v.2:=by omega
     simp [this]
   ·rw [if_neg h3]
    refine goW ?_
    exact TX.rt1 [] (.bool rfl)
theorem Ct193 (v:Int × Int) (n:Int):V.Spec Tryz.prog 199 [valA v,.ep [V.int n] 0] [] (V.bool (!valB v n)) []:=by
 have h:=Ct191 v n
 refine V.Spec.enter Tryz.tabOK Tryz.mixed Tryz.func199 rfl rfl rfl fun B hB=>?_
 refine goW ?_
 refine OL.c h Tryz.func200 ?_
 refine goW ?_
 exact TX.rt1 [] (.ren rfl)
theorem Ct192 (l:List (Int × Int)) (n:Int):V.Spec Tryz.prog 140 [valsA l,V.int n] [] (V.bool (l.all (valB · n))) []:=by
 have hc:=Ct314 l (fun v=>!valB v n)
 have e:l.all (valB · n)=!l.any (fun v=>!valB v n):=by
  rw [Bool.eq_iff_iff];simp
 rw [e]
 refine V.Spec.enter Tryz.tabOK Tryz.mixed Tryz.func140 rfl rfl rfl fun B hB=>?_
 refine goW ?_
 refine OL.frzA 0 ?_
 refine OL.c hc Tryz.func101 ?_ (hle:=by exact ⟨.ren rfl,LE.fun_ (first':=[]) (caps':=[.ep [V.int n] 0]) Tryz.func199 rfl trivial ⟨.ren rfl,trivial⟩ (fun x hx=>Ct193 x n),trivial⟩)
 refine goW ?_
 exact TX.rt1 [] (.ren rfl)
end Go.Proofs
namespace Go.Proofs
open Go Go.W Go.V
theorem hasL_slotsOf {p:Prg} (h:classesB p=true) (c:Nat):hasL p.cls c=slotsOf p.cls c:=by
 simp only [classesB,Bool.and_eq_true,decide_eq_true_eq] at h
 obtain ⟨⟨h10,hc⟩,_,_⟩:=h
 have hm:∀ s,s∈hasL p.cls c↔s∈slotsOf p.cls c:=fun s=>by
  rw [← List.contains_iff_mem,← List.contains_iff_mem,has_slots hc h10 (c:=c) s]
 have hs:(hasL p.cls c).Pairwise (· < ·):=hasL_sorted p.cls c
 have hn1:(hasL p.cls c).Nodup:=List.Pairwise.imp (fun h=>by omega) hs
 have hn2:(slotsOf p.cls c).Nodup:=slotsTo_nodup (fun s j k hj hk h3 h4=>by
  rw [clsAt,getD_lt hj] at h3
  rw [clsAt,getD_lt hk] at h4
  have h5:=((own_iff hc hj).1 h3).2
  have h6:=((own_iff hc hk).1 h4).2
  omega) 40
 refine List.Perm.eq_of_pairwise (le:=(·≤·)) (fun a b _ _ h1 h2=>by omega) ?_ (slotsTo_sorted p.cls c 40) ((List.perm_ext_iff_of_nodup hn1 hn2).2 hm)
 exact List.Pairwise.imp (fun h=>by omega) hs
theorem classesB_ord {p:Prg} (h:classesB p=true) {k:Nat} (hk:k < p.cls.length):0 < (at_ (orders (graphOf p.cls)) ((3+k:Nat):Int)).length∧(p.cls[k].2.2.map (·.1)).Nodup:=by
 simp only [classesB,Bool.and_eq_true,decide_eq_true_eq] at h
 have:=List.all_eq_true.1 h.2.2 k (List.mem_range.2 hk)
 rw [clsInB,Bool.and_eq_true,decide_eq_true_eq,clsAt,getD_lt hk,initsOk_iff] at this
 exact ⟨this.1,this.2.1.1⟩
def insI:List (Int × AV)→List (Int × Int)→List (Int × AV):=List.foldl fun m x=>aput x.1 (V.int x.2) m
theorem insI_snoc (m:List (Int × AV)) (l:List (Int × Int)) (x:Int × Int):insI m (l++[x])=aput x.1 (V.int x.2) (insI m l):=by simp [insI]
theorem find_none {r:List (Int × Int)} {s:Int} (h:s ∉ r.map (·.1)):r.find? (fun x=>x.1==s)=none:=by
 rw [List.find?_eq_none]
 intro x hx hs
 exact h (List.mem_map.2 ⟨x,hx,by simpa using hs⟩)
theorem afind_insI (s:Int):∀ (l:List (Int × Int)) (m:List (Int × AV)),(l.map (·.1)).Nodup→afind s (insI m l)=match l.find? (fun x=>x.1==s) with
  | some x=>some (V.int x.2)
  | none=>afind s m
 | [],m,_=>rfl
 | x::r,m,h=>by
   rw [List.map_cons,List.nodup_cons] at h
   have ih:=afind_insI s r (aput x.1 (V.int x.2) m) h.2
   rw [show insI m (x::r)=insI (aput x.1 (V.int x.2) m) r from rfl,ih,List.find?_cons,afind_aput]
   by_cases e:s=x.1
   ·subst e
    rw [find_none h.1];simp
   ·have e':(x.1==s)=false:=by simpa using Ne.symm e
    rw [e',if_neg e]
def insC (l:List Cls) (m:List (Int × AV)) (c:Int):List (Int × AV):=if c < 3 then m else insI m (clsAt l (c-3).toNat).2.2
def iniM (l:List Cls) (o:List Int):List (Int × AV):=o.foldr (fun c m=>insC l m c) []
theorem iniM_cons (l:List Cls) (c:Int) (o:List Int):iniM l (c::o)=insC l (iniM l o) c:=rfl
theorem afind_iniM (l:List Cls) (hn:∀ x∈l,(x.2.2.map (·.1)).Nodup) (s:Int):∀ o:List Int,afind s (iniM l o)=(beginO l o s).map V.int
 | []=>rfl
 | c::o=>by
   have ih:=afind_iniM l hn s o
   rw [iniM_cons,beginO_cons,insC,initOf]
   split
   ·exact ih
   ·have hd:((clsAt l (c-3).toNat).2.2.map (·.1)).Nodup:=by
     rw [clsAt]
     by_cases hl:(c-3).toNat < l.length
     ·rw [getD_lt hl];exact hn _ (List.getElem_mem _)
     ·rw [List.getD_eq_getElem?_getD,List.getElem?_eq_none (by omega)];simp
    rw [afind_insI s _ _ hd]
    cases (clsAt l (c-3).toNat).2.2.find? (fun x=>x.1==s) with
    | none=>exact ih
    | some x=>rfl
def begO (l:List Cls) (o:List Int) (ss:List Int):List (Int × Int):=ss.filterMap fun s=>(beginO l o s).map fun n=>(s,n)
abbrev begL (l:List Cls) (c:Nat):List (Int × Int):=begO l (at_ (orders (graphOf l)) c) (slotsOf l c)
theorem begO_snoc (l:List Cls) (o ss:List Int) (s:Int):begO l o (ss++[s])=begO l o ss++(match beginO l o s with|some n=>[(s,n)]|none=>[]):=by
 rw [begO,List.filterMap_append,← begO]
 cases h:beginO l o s<;>simp [h]
theorem begO_len (l:List Cls) (o ss:List Int):(begO l o ss).length≤ss.length:=List.length_filterMap_le _ _
theorem begO_find (l:List Cls) (o:List Int) (s:Int):∀ ss:List Int,s∈ss→(begO l o ss).find? (fun x=>x.1==s)=(beginO l o s).map fun n=>(s,n)
 | [],h=>by simp at h
 | x::r,h=>by
   rw [show begO l o (x::r)=begO l o [x]++begO l o r by rw [← List.singleton_append,begO,List.filterMap_append];rfl,List.find?_append]
   by_cases e:x=s
   ·subst e
    cases hb:beginO l o x with
    | some n=>simp [begO,hb]
    | none =>
      have h1:begO l o [x]=[]:=by simp [begO,hb]
      rw [h1]
      have:(begO l o r).find? (fun y=>y.1==x)=none:=by
       rw [List.find?_eq_none]
       intro y hy hs
       rw [begO,List.mem_filterMap] at hy
       obtain ⟨z,_,hz⟩:=hy
       cases hbz:beginO l o z with
       | none=>rw [hbz] at hz;cases hz
       | some n =>
         rw [hbz] at hz
         cases hz
         have:z=x:=by simpa using hs
         rw [this,hb] at hbz;cases hbz
      rw [this];rfl
   ·have h1:(begO l o [x]).find? (fun y=>y.1==s)=none:=by
     rw [List.find?_eq_none]
     intro y hy hs
     cases hb:beginO l o x with
     | none=>simp [begO,hb] at hy
     | some n =>
       simp [begO,hb] at hy
       subst hy
       exact e (by simpa using hs)
    rw [h1]
    exact begO_find l o s r (by simpa [Ne.symm e] using h)
theorem begL_at (l:List Cls) (c:Nat) {s:Int} (h:s∈slotsOf l c):(fidx (fun x:Int × Int=>x.1==s) 0 (begL l c) < 0∧beginV l c s=(2,0))∨∃ i:Nat,∃ hi:i < (begL l c).length,fidx (fun x:Int × Int=>x.1==s) 0 (begL l c)=i∧beginV l c s=(1,(begL l c)[i].2):=by
 have hf:=begO_find l (at_ (orders (graphOf l)) c) s (slotsOf l c) h
 rcases fidx_find (begL l c) s with ⟨h1,h2⟩|⟨i,h1,h2,h3⟩
 ·rw [h2] at hf
  refine .inl ⟨h1,?_⟩
  rw [beginV]
  cases hb:beginO l (at_ (orders (graphOf l)) c) s with
  | none=>rfl
  | some n=>rw [hb] at hf;cases hf
 ·rw [h3] at hf
  refine .inr ⟨i,h1,h2,?_⟩
  rw [beginV]
  cases hb:beginO l (at_ (orders (graphOf l)) c) s with
  | none=>rw [hb] at hf;cases hf
  | some n =>
    rw [hb,getD_lt h1] at hf
    simp only [Option.map_some,Option.some.injEq] at hf
    rw [hf];rfl
theorem turnedV_nil (l:List Cls) (c:Nat):turnedV l c [] []=(slotsOf l c).map (beginV l c):=rfl
def obB (l:List Cls) (n:Nat) (x:Ob):Bool:=(decide (3≤x.1)&&decide (x.1 < 3+(l.length:Int)))&&(decide (x.2.length=(slotsOf l x.1.toNat).length)&&x.2.all (valB · n))
def obsB (l:List Cls) (os:List Ob):Bool:=decide (os.length≤40)&&os.all (obB l os.length)
def newO (l:List Cls) (c:Int):Ob:=(c,turnedV l c.toNat [] [])
def turnO (l:List Cls) (x:Ob) (c:Int):Ob:=(c,turnedV l c.toNat (slotsOf l x.1.toNat) x.2)
theorem obsB_len {l:List Cls} {os:List Ob} (h:obsB l os=true):os.length≤40:=by
 rw [obsB,Bool.and_eq_true,decide_eq_true_eq] at h;exact h.1
theorem obsB_at {l:List Cls} {os:List Ob} (h:obsB l os=true) {x:Ob} (hx:x∈os):(3≤x.1∧x.1 < 3+(l.length:Int))∧x.2.length=(slotsOf l x.1.toNat).length:=by
 rw [obsB,Bool.and_eq_true,List.all_eq_true] at h
 have:=h.2 x hx
 simp only [obB,Bool.and_eq_true,decide_eq_true_eq] at this
 exact ⟨this.1,this.2.1⟩
end Go.Proofs
namespace Go.Proofs
open Go Go.W Go.V
theorem Ct258 (n:Int):V.Spec Tryz.prog 186 [V.int n] [] (V.bool (betweenV n)) []:=by
 refine V.Spec.enter Tryz.tabOK Tryz.mixed Tryz.func186 rfl rfl rfl fun B hB=>?_
 (refine goSW ?_ ?_<;>intro hc<;>refine goW ?_)
 ·rw [show betweenV n=decide (n≤1000000000) by simp [betweenV,hc]]
  exact TX.rt1 [] (.ren rfl)
 ·rw [show betweenV n=false by simp [betweenV,hc]]
  exact TX.rt1 [] (.ren rfl)
theorem Ct253 (k:Int):V.Spec Tryz.prog 134 [V.int k] [] (V.bool (nxtB k)) []:=by
 refine V.Spec.enter Tryz.tabOK Tryz.mixed Tryz.func134 rfl rfl rfl fun B hB=>?_
 (refine goSW ?_ ?_<;>intro hc<;>refine goW ?_)
 all_goals
  refine TX.rt1 [] (LE.bool ?_)
  simp [nxtB, *]
set_option maxHeartbeats 2000000 in
theorem Ct260 (p:Prg) (x:Nd) (size:Int) (hc:p.cls.length < 1000000000):V.Spec Tryz.prog 192 [prgA p,ndA x,V.int size] [] (V.bool (numberV p x size)) []:=by
 obtain ⟨op,n,kids⟩:=x
 refine V.Spec.enter Tryz.tabOK Tryz.mixed Tryz.func192 rfl rfl rfl fun B hB=>?_
 repeat' (with_reducible first|refine OL.st ?_|refine OL.box ?_|refine TC.region ?_|refine TC.seq ?_|refine OL.nil ?_|refine TX.thenN ?_|refine TC.block ?_|refine TC.skip ?_|refine TX.blkN ?_|refine OL.gOn ?_|refine OL.gOff ?_|refine TC.ifD ?_ ?_<;>(intro hc;try (exfalso;omega))|refine OL.gD ?_ ?_<;>(intro hc;try (exfalso;omega))|refine TC.ret ?_|refine TX.thenR ?_|refine TX.blkR ?_|fail)
 ·refine OL.c (Ct258 n) Tryz.func186 ?_
  refine goW ?_
  refine TX.rt1 [] (LE.bool ?_)
  simp [numberV, *]
 all_goals
  refine TX.rt1 [] (LE.bool ?_)
  rw [Bool.eq_iff_iff]
  simp [numberV,mostV, *]
  try omega
def kidsRV (p:Prg) (x:Nd):Int:=if x.1=5∧x.2.1 < 0 then -1 else (manyV p x).getD (-1)
set_option maxHeartbeats 2000000 in
theorem Ct252 (p:Prg) (x:Nd):V.Spec Tryz.prog 191 [prgA p,ndA x] [] (V.int (kidsRV p x)) []:=by
 obtain ⟨op,n,kids⟩:=x
 refine V.Spec.enter Tryz.tabOK Tryz.mixed Tryz.func191 rfl rfl rfl fun B hB=>?_
 repeat' (with_reducible first|refine OL.st ?_|refine OL.box ?_|refine TC.region ?_|refine TC.seq ?_|refine OL.nil ?_|refine TX.thenN ?_|refine TC.block ?_|refine TC.skip ?_|refine TX.blkN ?_|refine TC.ifF ?_|refine OL.gOn ?_|refine OL.gOff ?_|refine TC.ifD ?_ ?_<;>(intro hc;try (exfalso;omega))|refine OL.gD ?_ ?_<;>(intro hc;try (exfalso;omega))|refine TC.ret ?_|refine TX.thenR ?_|refine TX.blkR ?_|fail)
 all_goals
  refine TX.rt1 [] (LE.int ?_)
  simp [kidsRV,manyV, *]
  try omega
theorem Ct251 (p:Prg) (hs:Short p.cls):V.Spec Tryz.prog 184 [prgA p] [] (rows (graphOf p.cls)) []:=by
 have hb:=hs.1
 refine V.Spec.enter Tryz.tabOK Tryz.mixed Tryz.func184 rfl rfl rfl fun B hB=>?_
 refine goW ?_
 refine TC.frzB 1 ?_
 refine TC.adp 3 Tc.Lint 1 ?_
 refine TC.lp (fun k:Nat=>[(1,.ep (prgC p) 0),(3,.hs 1),(4,V.int k)]) (fun k=>[.dead,.gs false Tc.Lint 1 none ((graphOf (p.cls.take k)).map ints)]) (fun k=>k≤p.cls.length) (fun k=>p.cls.length-k) 0 [0,1] (Nat.zero_le _) ?_
 rintro k hk
 by_cases hkl:k < p.cls.length
 ·have hlen:(graphOf (p.cls.take k)).length=k:=by simp;omega
  have e:(graphOf (p.cls.take k)).map ints++[ints p.cls[k].1]=(graphOf (p.cls.take (k+1))).map ints:=by rw [graphOf,graphOf,take_succ hkl,List.map_append,List.map_append];rfl
  have hc:=(hs.2 p.cls[k] (List.getElem_mem _)).1
  generalize graphOf (p.cls.take k)=gk at *
  refine goW ?_
  refine OL.app0 ?_
  refine OL.vw 19 ?_
  refine goW ?_
  exact TX.rd (k+1) [0,5] (by omega) (by omega)
 ·rw [take_all (by omega)]
  refine goW ?_
  refine TX.vw 2 ?_
  exact TX.rt1 [] (.ren rfl)
end Go.Proofs
