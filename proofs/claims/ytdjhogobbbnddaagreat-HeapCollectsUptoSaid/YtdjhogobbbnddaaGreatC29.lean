/- Lemmas for the claim; no conditions. -/
import Derived.Test.YtdjhogobbbnddaaGreatC28
import Derived.Test.YtdjhogobbbnddaaGreatC23
import Derived.Test.YtdjhogobbbnddaaGreatC18
import Derived.Test.YtdjhogobbbnddaaGreatC26
import Derived.Test.YtdjhogobbbnddaaGreatC20
import Derived.Test.YtdjhogobbbnddaaGreatC16
import Derived.Test.YtdjhogobbbnddaaGreatC19
import Derived.Test.YtdjhogobbbnddaaGreatC25
namespace Go.Proofs
open Go Go.W Go.V
theorem Ypb (g:List (List Int)):at_ (orders g) 0=[0]:=by
 obtain ⟨t,e,_⟩:=Ydw ((parentsOf g).drop 1) [[0]];rw [YcV,e];rfl
theorem Yng {g:List (List Int)} (hf:fine g=true) {c:Nat} (h1:1≤c) (hc:c < 3+g.length) (hne:at_ (orders g) c≠[]):∃ all,listsOf (orders g) (pOf g c)=some all∧(merge all).2=true∧at_ (orders g) c=(c:Int)::((merge all).1++[0]):=by
 rw [Ykg hf h1 hc,orderOf] at hne;rw [Ykg hf h1 hc,orderOf]
 cases hl:listsOf (orders g) (pOf g c) with
 | none=>rw [hl] at hne;exact absurd rfl hne
 | some all =>
   rw [hl] at hne;dsimp only at hne ⊢
   cases hm:(merge all).2 with
   | false=>rw [hm] at hne;simp at hne
   | true=>exact ⟨all,rfl,hm,by simp⟩
theorem Yms {ords:List (List Int)} {ps:List Int} {all:List (List Int)} (h:listsOf ords ps=some all):∀ p∈ps,at_ ords p≠[]:=by
 rw [listsOf] at h;split at h
 ·rename_i h1
  intro p hp;have:=List.all_eq_true.1 h1 p hp
  simpa using this
 ·cases h
theorem Yqk {g:List (List Int)} (hf:fine g=true) {c:Nat} (h1:1≤c) (hc:c < 3+g.length) (hne:at_ (orders g) c≠[]):at_ (orders g) c=bare (at_ (orders g) c)++[0]:=by
 obtain ⟨all,_,_,e⟩:=Yng hf h1 hc hne;have hn:=((Yb2 hf).1.at c).1;rw [e] at hn ⊢;rw [← List.cons_append] at hn ⊢;have h0:(0:Int) ∉ (c:Int)::(merge all).1:=fun h=>by
  rw [List.nodup_append] at hn;exact hn.2.2 0 h 0 (by simp) rfl
 rw [bare,show without ((c:Int)::(merge all).1++[0]) 0=(c:Int)::(merge all).1 by
  have:=Yex h0
  rw [without] at this ⊢;rw [List.filter_append,this];simp]
theorem Yjj {g:List (List Int)} (hf:fine g=true):∀ (n c:Nat),c < n→c < 3+g.length→at_ (orders g) c≠[] →
  (∀ x:Int,x∈at_ (orders g) c↔(0≤x∧x < 3+(g.length:Int))∧upHas g c x=true) ∧
  (∀ a:Int,(0≤a∧a < 3+(g.length:Int))→upHas g c a=true→at_ (orders g) a≠[]∧(at_ (orders g) a).Sublist (at_ (orders g) c))∧(pOf g c).Sublist (at_ (orders g) c):=by
 have h16:=YaP hf;intro n;induction n with
 | zero=>intro c h;omega
 | succ n ih =>
   intro c hcn hc hne;by_cases h0:c=0
   ·subst h0;have hz:=Ypb g;have hle:∀ x:Int,(0≤x∧x < 3+(g.length:Int))→upHas g (0:Nat) x=true→x=0:=fun x hx h=>by
     have:=Yd8 hf hc (b:=x) (by omega) (by omega) h;omega
    refine ⟨fun x=>?_,fun a ha h=>?_,?_⟩
    ·rw [show ((0:Nat):Int)=0 from rfl,hz,List.mem_singleton];constructor
     ·rintro rfl;exact ⟨by omega,YnQ hf (a:=0) (by omega)⟩
     ·rintro ⟨h1,h2⟩;exact hle x h1 h2
    ·rw [hle a ha h];rw [show ((0:Nat):Int)=0 from rfl] at hne ⊢;exact ⟨hne,List.Sublist.refl _⟩
    ·rw [Ypp (by omega)];exact List.nil_sublist _
   ·have h1:1≤c:=by omega
    obtain ⟨all,hl,hm,e⟩:=Yng hf h1 hc hne;have hps:=YaK hf (c:=(c:Int)) (by omega);obtain ⟨k1,k2,k3⟩:=Yl1 hm;have hall:=YdL hl;have hhas:=Yms hl;have hpar:∀ p∈pOf g c,(∀ x:Int,x∈at_ (orders g) p↔(0≤x∧x < 3+(g.length:Int))∧upHas g p x=true) ∧
      (∀ a:Int,(0≤a∧a < 3+(g.length:Int))→upHas g p a=true→at_ (orders g) a≠[]∧(at_ (orders g) a).Sublist (at_ (orders g) p))∧at_ (orders g) p=bare (at_ (orders g) p)++[0]:=fun p hp=>by
     have hb:=hps.2.1 p hp;obtain ⟨q,rfl⟩:∃ q:Nat,p=(q:Int):=⟨p.toNat,by omega⟩;obtain ⟨a1,a2,_⟩:=ih q (by omega) (by omega) (hhas _ hp);exact ⟨a1,a2,Yqk hf (by omega) (by omega) (hhas _ hp)⟩
    have hsubp:∀ p∈pOf g c,(at_ (orders g) p).Sublist (at_ (orders g) c):=fun p hp=>by
     have:=k2 (bare (at_ (orders g) p)) (by rw [hall];exact List.mem_append_left _ (List.mem_map_of_mem (f:=fun p=>bare (at_ (orders g) p)) hp))
     rw [(hpar p hp).2.2,e];exact (this.append_right [0]).cons _
    refine ⟨fun x=>?_,fun a ha h=>?_,?_⟩
    ·rw [e,List.mem_cons,List.mem_append,List.mem_singleton,k3];constructor
     ·intro h;have hx:x=(c:Int)∨x=0∨∃ p∈pOf g c,(0≤x∧x < 3+(g.length:Int))∧upHas g p x=true:=by
       rcases h with h|⟨m,hm,hx⟩|h
       ·exact .inl h
       ·right;right
        rw [hall,List.mem_append,List.mem_map,List.mem_singleton] at hm;rcases hm with ⟨p,hp,rfl⟩|rfl
        ·exact ⟨p,hp,((hpar p hp).1 x).1 (YaI.1 hx).1⟩
        ·have:=hps.2.1 x hx
         obtain ⟨q,rfl⟩:∃ q:Nat,x=(q:Int):=⟨x.toNat,by omega⟩;exact ⟨_,hx,by omega,YbT hf (by omega)⟩
       ·exact .inr (.inl h)
      have hxr:0≤x∧x < 3+(g.length:Int):=by
       rcases hx with h|h|⟨_,_,h,_⟩<;>omega
      refine ⟨hxr,?_⟩;rw [Ybn hf hc (by omega) (by omega)];simp only [Bool.or_eq_true,decide_eq_true_eq,List.any_eq_true];rcases hx with h|h|⟨p,hp,_,h⟩
      ·exact .inl (.inl h)
      ·exact .inl (.inr h)
      ·exact .inr ⟨p,hp,h⟩
     ·rintro ⟨hxr,h⟩;rw [Ybn hf hc (by omega) (by omega)] at h;simp only [Bool.or_eq_true,decide_eq_true_eq,List.any_eq_true] at h;rcases h with (h|h)|⟨p,hp,h⟩
      ·exact .inl h
      ·exact .inr (.inr h)
      ·by_cases hx0:x=0
       ·exact .inr (.inr hx0)
       ·exact .inr (.inl ⟨bare (at_ (orders g) p),by rw [hall];exact List.mem_append_left _ (List.mem_map_of_mem (f:=fun p=>bare (at_ (orders g) p)) hp),YaI.2 ⟨((hpar p hp).1 x).2 ⟨hxr,h⟩,hx0⟩⟩)
    ·rw [Ybn hf hc (by omega) (by omega)] at h;simp only [Bool.or_eq_true,decide_eq_true_eq,List.any_eq_true] at h;rcases h with (h|h)|⟨p,hp,h⟩
     ·subst h;exact ⟨hne,List.Sublist.refl _⟩
     ·subst h;rw [Ypb,e];exact ⟨by simp,((List.sublist_append_right _ _).cons _)⟩
     ·obtain ⟨h2,h3⟩:=(hpar p hp).2.1 a ha h;exact ⟨h2,h3.trans (hsubp p hp)⟩
    ·rw [e];have:=k2 (pOf g c) (by rw [hall];simp)
     exact ((this.trans (List.sublist_append_left _ _)).cons _)
/-! ### Within -/
theorem Ybb (l:List (Int × Int)) (p:Int × Int→Bool):V.Spec Tryz.prog 178 [.sl 2 none (l.map YhF),Ye8 Tryz.prog YhF (·∈l) p] [] (V.int (Yb3 p 0 l)) []:=by
 refine Se Tryz.func178 rfl rfl rfl fun B hB=>?_;refine ZaS 0 fun hl=>?_;refine go ?_;refine Zat (fun k:Nat=>[(0,.sl 2 none (l.map YhF)),(1,Ye8 Tryz.prog YhF (·∈l) p),(7,V.int l.length),(8,V.int k)]) (fun _=>[]) (fun k=>k≤l.length∧Yb3 p 0 l=Yb3 p k (l.drop k)) (fun k=>l.length-k) 0 [] ⟨Nat.zero_le _,rfl⟩ ?_;rintro k ⟨hk,hinv⟩;(refine goS ?_ ?_<;>intro hc<;>refine go ?_)
 ·refine Zbm l[k] (List.getElem_mem _) ?_;refine go ?_;refine Zbl (fun hp=>?_) (fun hp=>?_)
  ·refine go ?_;refine Zad [] (.int ?_);rw [hinv,Yac (by omega)];simp [Yb3,hp]
  ·refine go ?_;refine Zan (k+1) [] ⟨by omega,?_⟩ (by omega);rw [hinv,Yac (by omega)];simp [Yb3,hp]
 ·refine Zad [] (.int ?_);rw [hinv,Yat (by omega)];rfl
theorem Ybj (l:List (Int × Int)) (p:Int × Int→Bool):V.Spec Tryz.prog 175 [.sl 2 none (l.map Ycb),Ye8 Tryz.prog Ycb (·∈l) p] [] (V.int (Yb3 p 0 l)) []:=by
 refine Se Tryz.func175 rfl rfl rfl fun B hB=>?_;refine ZaS 0 fun hl=>?_;refine go ?_;refine Zat (fun k:Nat=>[(0,.sl 2 none (l.map Ycb)),(1,Ye8 Tryz.prog Ycb (·∈l) p),(7,V.int l.length),(8,V.int k)]) (fun _=>[]) (fun k=>k≤l.length∧Yb3 p 0 l=Yb3 p k (l.drop k)) (fun k=>l.length-k) 0 [] ⟨Nat.zero_le _,rfl⟩ ?_;rintro k ⟨hk,hinv⟩;(refine goS ?_ ?_<;>intro hc<;>refine go ?_)
 ·refine Zbm l[k] (List.getElem_mem _) ?_;refine go ?_;refine Zbl (fun hp=>?_) (fun hp=>?_)
  ·refine go ?_;refine Zad [] (.int ?_);rw [hinv,Yac (by omega)];simp [Yb3,hp]
  ·refine go ?_;refine Zan (k+1) [] ⟨by omega,?_⟩ (by omega);rw [hinv,Yac (by omega)];simp [Yb3,hp]
 ·refine Zad [] (.int ?_);rw [hinv,Yat (by omega)];rfl
theorem Ya8 (l:List (Int × Int)) (p:Int × Int→Bool):V.Spec Tryz.prog 143 [.sl 2 none (l.map Ycb),Ye8 Tryz.prog Ycb (·∈l) p] [] (V.bool (l.any p)) []:=by
 refine Se Tryz.func143 rfl rfl rfl fun B hB=>?_;refine go ?_;refine OL.c (Ybj l p) Tryz.func175 ?_;refine go ?_;refine Zad [] (.bool ?_)
 cases h:l.any p
 ·rw [decide_eq_false];intro h';rw [(Ya7 _ _ _).1 h'] at h;cases h
 ·exact decide_eq_true ((Ya7 _ _ _).2 h)
theorem Ypc (l:List (Int × Int)) (s:Int):(Yb3 (fun p:Int × Int=>p.1==s) 0 l < 0∧l.find? (fun p=>p.1==s)=none)∨∃ i:Nat,i < l.length∧Yb3 (fun p:Int × Int=>p.1==s) 0 l=i∧l.find? (fun p=>p.1==s)=some (l.getD i (0,0)):=by
 have key:∀ (l:List (Int × Int)) (k:Nat),(Yb3 (fun p:Int × Int=>p.1==s) k l=-1∧l.find? (fun p=>p.1==s)=none)∨∃ i:Nat,i < l.length∧Yb3 (fun p:Int × Int=>p.1==s) k l=(k:Int)+i∧l.find? (fun p=>p.1==s)=some (l.getD i (0,0)):=by
  intro l;induction l with
  | nil=>intro k;exact .inl ⟨rfl,rfl⟩
  | cons x r ih =>
    intro k;rw [Yb3,List.find?_cons]
    cases hp:x.1==s with
    | true=>exact .inr ⟨0,by simp,by simp,by simp⟩
    | false =>
      rcases ih (k+1) with ⟨h1,h2⟩|⟨i,h1,h2,h3⟩
      ·exact .inl ⟨by simpa using h1,by simpa using h2⟩
      ·refine .inr ⟨i+1,by simpa using h1,by simp only [Bool.false_eq_true,if_false];rw [h2];push_cast;omega,by simpa using h3⟩
 rcases key l 0 with ⟨h1,h2⟩|⟨i,h1,h2,h3⟩
 ·exact .inl ⟨by omega,h2⟩
 ·exact .inr ⟨i,h1,by omega,h3⟩
abbrev Ysr (o:List Int):Nat→List AV:=fun i=>[V.int (i:Int),V.int (o.getD i 0)]
structure BaS where
 k:Nat
 B:Base
 hB:B.γ.length=0
theorem Yq3 {n k:Nat} (hk:k < n):((List.range n).drop (k+1)).reverse++k::((List.range n).take k).reverse=(List.range n).reverse∧((List.range n).drop k).reverse=((List.range n).drop (k+1)).reverse++[k]:=by
 have hd:(List.range n).drop k=k::(List.range n).drop (k+1):=by rw [Yac (by simpa using hk),List.getElem_range]
 refine ⟨?_,by rw [hd,List.reverse_cons]⟩;have h1:(List.range n).take k++(List.range n).drop k=List.range n:=List.take_append_drop _ _;rw [hd] at h1;have h2:=congrArg List.reverse h1;rw [List.reverse_append,List.reverse_cons,List.append_assoc] at h2;simpa using h2
theorem YsE {n x:Nat} {pre:List Nat} (h:∃ r,pre++x::r=(List.range n).reverse):x+pre.length+1=n:=by
 obtain ⟨r,h⟩:=h;have hl:=congrArg List.length h;simp at hl;have h1:(pre++x::r)[pre.length]'(by simp)=x:=by simp
 simp only [h] at h1;rw [List.getElem_reverse,List.getElem_range] at h1;simp at h1;omega
theorem YlC (o:List Int) (ho:o.length≤1000000000) (m:Nat→Nat) (w:World) (vs:List Value) (hv:VL m w [] vs [.ep [ints o] 0]):Yox Tryz.prog 224 vs.toArray (Ysr o) (List.range o.length).reverse m w:=by
 refine Yox.enter hv Tryz.tabOK Tryz.mixed Tryz.func224 rfl rfl rfl fun I B hB hA=>?_;refine YaF ?_;refine Zb3 (S:=BaS) (fun s=>⟨Tryz.prog,Tryz.tab,Tryz.tabOK,Tryz.mixed,19,[],s.B,0,s.hB,some none,0⟩) (fun s=>[(0,.raw (.func (.yield I.l) #[] #[])),(1,.ep [ints o] 0),(3,V.int ((s.k:Int)-1))]) (fun _=>[])
  (fun s=>s.k≤o.length∧At I (I.J ((List.range o.length).drop s.k).reverse) [] s.B) (fun s=>s.k) ⟨o.length,B,hB⟩ ⟨Nat.le_refl _,by rw [List.drop_eq_nil_of_le (by simp)];exact hA⟩ rfl (fun _ _=>rfl) [] rfl rfl ?_ ?_ ?_
 ·with_unfolding_all exact trivial
 ·repeat' (first|with_unfolding_all exact trivial|exact LE.ren (by with_unfolding_all exact rfl)|with_unfolding_all refine And.intro ⟨_,by with_unfolding_all exact rfl,?_⟩ ?_)
 rintro ⟨k,B2,hB2⟩ ⟨hk,hA2⟩;dsimp only at hk hA2 ⊢
 cases k with
 | succ k =>
   obtain ⟨hp1,hp2⟩:=Yq3 (n:=o.length) (k:=k) (by omega);have hbs:Ysr o k=[V.int (((k+1:Nat):Int)-1),V.int (o[(((k+1:Nat):Int)-1).toNat]'(by omega))]:=by
    have e:(((k+1:Nat):Int)-1)=(k:Int):=by omega
    have e2:∀ (i:Nat) (h:i < o.length),i=k→o[i]=o.getD k 0:=fun i h hi=>by subst hi;rw [Yai h]
    rw [e2 _ _ (by omega),e]
   refine YaF ?_;refine OL.yield (pre:=((List.range o.length).drop (k+1)).reverse) (y:=k) hA2 ⟨_,hp1⟩ (fun B1 hB1 hA1 _ _=>?_) (fun B1 hB1 hA1 _ _=>?_) (hle:=by rw [hbs];exact ⟨.ren rfl,.ren rfl,trivial⟩)
   ·refine YaF ?_;exact ZbP ⟨k,B1,hB1⟩ [] ⟨by dsimp only;omega,by dsimp only;rw [hp2];exact hA1⟩ (by dsimp only;omega) (hr:=⟨⟨_,rfl,LE.ren rfl⟩,⟨_,rfl,LE.ren rfl⟩,⟨_,rfl,LE.int (by show ((k+1:Nat):Int)-1-1=(k:Int)-1;omega)⟩,trivial⟩)
   ·refine YaF ?_;exact Zc4 (ds:=[]) hA1 (fun m w h=>.inr ⟨_,h⟩)
 | zero =>
   refine YaF ?_;refine Zc3 ?_;exact Zc4 (ds:=[]) (by rwa [List.drop_zero] at hA2) (fun m w h=>.inl h)
theorem YfM (o:List Int) (ho:o.length≤1000000000):V.Spec Tryz.prog 199 [ints o] [] (.pr (YnM Tryz.prog (Ysr o) (List.range o.length).reverse)) []:=by
 refine Se Tryz.func199 rfl rfl rfl fun B hB=>?_;refine goW ?_;refine Zci 0 ?_;exact Zad [] (LE.seq Tryz.func224 (YlC o ho))
theorem YnS (l:List (Int × Int)):V.Spec Tryz.prog 200 [Yde l] [] (Yde l) []:=by
 refine Se Tryz.func200 rfl rfl rfl fun B hB=>?_;refine goW ?_;refine Zcu ?_;refine goW ?_;exact Zad [] (.ren rfl)
theorem Yvh {l:List Cls} (hf:fine (graphOf l)=true) {c:Nat} (_h3:3≤c) (hc:c < 3+l.length):∀ x∈at_ (orders (graphOf l)) c,x < 3+(l.length:Int):=by
 intro x hx;have hgl:(graphOf l).length=l.length:=by simp [graphOf]
 by_cases hne:at_ (orders (graphOf l)) c=[]
 ·rw [hne] at hx;simp at hx
 ·obtain ⟨m1,_,_⟩:=Yjj hf (c+1) c (by omega) (by omega) hne;obtain ⟨h1,h2⟩:=(m1 x).1 hx;rcases Int.lt_or_le x 3 with h|h
  ·omega
  ·have:=Yfg h2
   have:=Yd8 hf (a:=c) (by omega) (b:=x) (by omega) (by omega) h2
   omega
def YpC (has:List Int) (x:Int × Int):Bool:=!has.contains x.1 || (decide (x.2 < -1000000000) || decide (1000000000 < x.2))
theorem YeO (has:List Int):∀ (is:List (Int × Int)) (own:List Int),initsOk has own is=true↔((is.map (·.1)).Nodup∧is.any (YpC has)=false)∧∀ x∈is,x.1 ∉ own
 | [],own=>by simp [initsOk]
 | x::r,own=>by
   rw [initsOk,Bool.and_eq_true,Bool.and_eq_true,Bool.and_eq_true,Bool.and_eq_true,decide_eq_true_eq,decide_eq_true_eq,YeO has r,List.any_cons,Bool.or_eq_false_iff];simp only [YpC,Bool.or_eq_false_iff,Bool.not_eq_true',Bool.not_eq_false',decide_eq_false_iff_not,List.contains_eq_mem,decide_eq_true_eq,List.map_cons,List.nodup_cons,List.mem_cons,forall_eq_or_imp,List.mem_append,List.not_mem_nil,or_false,List.mem_map];constructor
   ·rintro ⟨⟨⟨h1,h2⟩,h3,h4⟩,⟨h5,h6⟩,h7⟩;exact ⟨⟨⟨fun ⟨a,ha,e⟩=>h7 a ha (.inr e),h5⟩,⟨h1,by omega,by omega⟩,h6⟩,h2,fun a ha h=>h7 a ha (.inl h)⟩
   ·rintro ⟨⟨⟨h1,h5⟩,⟨h2,h3,h4⟩,h6⟩,h7,h8⟩;refine ⟨⟨⟨h2,h7⟩,by omega,by omega⟩,⟨h5,h6⟩,fun a ha h=>?_⟩;rcases h with h|h
    ·exact h8 a ha h
    ·exact h1 ⟨a,ha,h⟩
theorem Ydo {l:List Cls} {c:Nat} {s:Int}:∀ {n:Nat} {x:Int},x∈slotsOfN l c s n→x=s:=fun {n x} h=>by
 rw [slotsOfN,List.mem_flatMap] at h;obtain ⟨k,_,h⟩:=h;split at h
 ·simpa using h
 ·simp at h
theorem Yc3 (l:List Cls) (c:Nat):∀ n,(YbV l c n).Pairwise (·≤·)
 | 0=>by simp [YbV,upto]
 | n+1=>by
   rw [YdZ,List.pairwise_append];refine ⟨Yc3 l c n,?_,fun a ha b hb=>?_⟩
   ·rw [List.pairwise_iff_getElem];intro i j hi hj _;rw [Ydo (List.getElem_mem hi),Ydo (List.getElem_mem hj)];omega
   ·have:=(Ydl.1 ha).1
    rw [Ydo hb];omega
theorem Ydy {l:List Cls} {c:Nat} (hu:∀ s j k,j < l.length→k < l.length→s∈(clsAt l j).2.1→s∈(clsAt l k).2.1→j=k):∀ n,(YbV l c n).Nodup
 | 0=>by simp [YbV,upto]
 | n+1=>by
   have key:∀ (s:Int) (m:Nat),m≤l.length→(slotsOfN l c s m=[]∧∀ k,k < m→YgW l c s k=false)∨(slotsOfN l c s m=[s]∧∃ k,k < m∧YgW l c s k=true):=by
    intro s m;induction m with
    | zero=>intro _;exact .inl ⟨by simp [slotsOfN],fun k h=>by omega⟩
    | succ m ih =>
      intro hm;rw [YeW]
      cases ho:YgW l c s m with
      | false =>
        rcases ih (by omega) with ⟨h1,h2⟩|⟨h1,k,h2,h3⟩
        ·refine .inl ⟨by rw [h1];simp,fun k hk=>?_⟩;by_cases e:k=m
         ·rw [e];exact ho
         ·exact h2 k (by omega)
        ·exact .inr ⟨by rw [h1];simp,k,by omega,h3⟩
      | true =>
        rcases ih (by omega) with ⟨h1,h2⟩|⟨h1,k,h2,h3⟩
        ·exact .inr ⟨by rw [h1];simp,m,by omega,ho⟩
        ·rw [YgW,Bool.and_eq_true] at ho h3;have:=hu s m k (by omega) (by omega) (by simpa using ho.1) (by simpa using h3.1)
         omega
   rw [YdZ,List.nodup_append];refine ⟨Ydy hu n,?_,fun a ha b hb e=>?_⟩
   ·rcases key n l.length (Nat.le_refl _) with ⟨h,_⟩|⟨h,_⟩<;>rw [h]<;>simp
   ·have h1:=(Ydl.1 ha).1;have h2:=Ydo hb;omega
theorem YkS {l:List Cls} (hc:clsB 0 l=true) (h10:l.length≤10) {c:Nat} (s:Int):(YfE l c).contains s=(slotsOf l c).contains s:=by
 have hsl:=Ydu hc;rw [Bool.eq_iff_iff,List.contains_iff_mem,List.contains_iff_mem,Yjg,slotsOf,Ydl];constructor
 ·rintro ⟨⟨h0,h1⟩,hu⟩;obtain ⟨k,hk,g1,g2,g3⟩:=Ydp l 0 s.toNat (by omega);rw [Nat.zero_add] at g3;refine ⟨⟨h0,by omega⟩,k,hk,?_⟩;have hm:=(YdJ hc hk (s:=s)).2 ⟨⟨h0,h1⟩,g3⟩;rw [g3] at hu;rw [YgW,clsAt,Yai hk,List.contains_iff_mem.2 hm,Bool.true_and,show ((3+k:Nat):Int)=(k:Int)+3 by omega];exact hu
 ·rintro ⟨_,k,hk,ho⟩;rw [YgW,clsAt,Yai hk,Bool.and_eq_true,List.contains_iff_mem] at ho;obtain ⟨g1,g2⟩:=(YdJ hc hk).1 ho.1;refine ⟨g1,?_⟩;rw [g2,show (k:Int)+3=((3+k:Nat):Int) by omega];exact ho.2
abbrev Ob:=Int × List (Int × Int)
abbrev obA (x:Ob):AV:=.st [V.int x.1,Ych x.2]
abbrev Yef (l:List Ob):AV:=.sl 2 none (l.map obA)
theorem Yof (l:List (Int × Int)):V.Spec Tryz.prog 225 [.hs 0] [.gs false 63 2 none (l.map Ycb)] (.hs 1) [.dead,.gs false 63 2 none (l.map Ycb)]:=by
 refine Se Tryz.func225 rfl rfl rfl fun B hB=>?_;refine goW ?_;refine Zdc ?_;refine goW ?_;exact Zad [0,1] (.ren rfl)
theorem YbK (l:List (Int × Int)) (hl:l.length*16≤140737488355328):V.Spec Tryz.prog 201 [.sl 2 none (l.map Ycb),.pr (YdQ Tryz.prog (·∈l) (fun x=>[Ycb x]) Ycb (fun _=>[]))] [] (.hs 0) [.gs false 63 2 none (l.map Ycb)]:=by
 refine Se Tryz.func201 rfl rfl rfl fun B hB=>?_;refine goW ?_;refine ZaT 5 63 2 ?_;refine Zat (fun k:Nat=>[(1,.pr (YdQ Tryz.prog (·∈l) (fun x=>[Ycb x]) Ycb (fun _=>[]))),(5,.hs 0),(8,.sl 2 none (l.map Ycb)),(9,V.int l.length),(10,V.int k)]) (fun k=>[.gs false 63 2 none ((l.take k).map Ycb)]) (fun k=>k≤l.length) (fun k=>l.length-k) 0 [0] (Nat.zero_le _) ?_;rintro k hk;by_cases hkl:k < l.length
 ·have hlen:(l.take k).length=k:=by simp;omega
  have e:(l.take k).map Ycb++[Ycb l[k]]=(l.take (k+1)).map Ycb:=by rw [Yab hkl,List.map_append];rfl
  generalize l.take k=gk at *
  refine goW ?_;refine Zbm l[k] (List.getElem_mem _) ?_;refine goW ?_;exact Zan (k+1) [3] (by omega) (by omega)
 ·rw [Yaf (by omega)];refine goW ?_;refine Zaj [0] (Yof l) Tryz.func225 ?_;refine goW ?_;exact Zad [1] (.ren rfl)
theorem YfC (x:Int × Int):V.Spec Tryz.prog 202 [Ycb x] [] (Ycb x) []:=by
 refine Se Tryz.func202 rfl rfl rfl fun B hB=>?_;refine goW ?_;exact Zba [] (.ren rfl)
theorem Ymb (l:List (Int × Int)) (hl:l.length*16≤140737488355328):V.Spec Tryz.prog 180 [Ych l] [] (.hs 0) [.gs false 63 2 none (l.map Ycb)]:=by
 have h:=YbK l hl;refine Se Tryz.func180 rfl rfl rfl fun B hB=>?_;refine goW ?_;refine OL.c h Tryz.func201 ?_ (hle:=by exact ⟨.ren rfl,LE.fun_ (first':=[]) (caps':=[]) Tryz.func202 rfl trivial trivial (fun x hx=>YfC x),trivial⟩);refine goW ?_;exact Zad [0] (.ren rfl)
theorem Ykh (v:Int × Int) (n:Int):V.Spec Tryz.prog 145 [Ycb v,V.int n] [] (V.bool (YgF v n)) []:=by
 rw [YgF];refine Se Tryz.func145 rfl rfl rfl fun B hB=>?_;by_cases h1:v.1=1
 ·rw [if_pos h1];repeat' (with_reducible first|refine OL.st ?_|refine OL.box ?_|refine TC.region ?_|refine TC.seq ?_|refine OL.nil ?_|refine Zap ?_|refine TC.block ?_|refine ZaB ?_|refine ZaD ?_|refine Zay ?_ ?_<;>(intro hc;try (exfalso;omega))|refine Zaz ?_ ?_<;>(intro hc;try (exfalso;omega))|refine TC.ret ?_|refine ZaE ?_|refine ZaK ?_|fail)
  all_goals refine Zad [] (.bool ?_)
  ·have:-1000000000≤v.2:=by omega
   simp [this]
  ·have:¬ -1000000000≤v.2:=by omega
   simp [this]
 ·rw [if_neg h1];by_cases h2:v.1=2
  ·rw [if_pos h2];refine goW ?_;exact Zad [] (.bool rfl)
  ·rw [if_neg h2];by_cases h3:v.1=3
   ·rw [if_pos h3];repeat' (with_reducible first|refine OL.st ?_|refine OL.box ?_|refine TC.region ?_|refine TC.seq ?_|refine OL.nil ?_|refine Zap ?_|refine TC.block ?_|refine ZaB ?_|refine ZaD ?_|refine Zay ?_ ?_<;>(intro hc;try (exfalso;omega))|refine Zaz ?_ ?_<;>(intro hc;try (exfalso;omega))|refine TC.ret ?_|refine ZaE ?_|refine ZaK ?_|fail)
    all_goals refine Zad [] (.bool ?_)
    ·have:0≤v.2:=by omega
     simp [this]
    ·have:¬ 0≤v.2:=by omega
     simp [this]
   ·rw [if_neg h3];refine goW ?_;exact Zad [] (.bool rfl)
theorem Yhd (v:Int × Int) (n:Int):V.Spec Tryz.prog 144 [Ycb v,.ep [V.int n] 0] [] (V.bool (!YgF v n)) []:=by
 have h:=Ykh v n;refine Se Tryz.func144 rfl rfl rfl fun B hB=>?_;refine goW ?_;refine OL.c h Tryz.func145 ?_;refine goW ?_;exact Zad [] (.ren rfl)
theorem YjH (l:List (Int × Int)) (n:Int):V.Spec Tryz.prog 115 [Ych l,V.int n] [] (V.bool (l.all (YgF · n))) []:=by
 have hc:=Ya8 l (fun v=>!YgF v n);have e:l.all (YgF · n)=!l.any (fun v=>!YgF v n):=by
  rw [Bool.eq_iff_iff];simp
 rw [e];refine Se Tryz.func115 rfl rfl rfl fun B hB=>?_;refine goW ?_;refine ZbN 0 ?_;refine OL.c hc Tryz.func143 ?_ (hle:=by exact ⟨.ren rfl,LE.fun_ (first':=[]) (caps':=[.ep [V.int n] 0]) Tryz.func144 rfl trivial ⟨.ren rfl,trivial⟩ (fun x hx=>Yhd x n),trivial⟩);refine goW ?_;exact Zad [] (.ren rfl)
theorem Ya4 {p:Prg} (h:Yag p=true) (c:Nat):YfE p.cls c=slotsOf p.cls c:=by
 simp only [Yag,Bool.and_eq_true,decide_eq_true_eq] at h;obtain ⟨⟨h10,hc⟩,_,_⟩:=h;have hm:∀ s,s∈YfE p.cls c↔s∈slotsOf p.cls c:=fun s=>by
  rw [← List.contains_iff_mem,← List.contains_iff_mem,YkS hc h10 (c:=c) s]
 have hs:(YfE p.cls c).Pairwise (· < ·):=Yg6 p.cls c;have hn1:(YfE p.cls c).Nodup:=List.Pairwise.imp (fun h=>by omega) hs;have hn2:(slotsOf p.cls c).Nodup:=Ydy (fun s j k hj hk h3 h4=>by
  rw [clsAt,Yai hj] at h3;rw [clsAt,Yai hk] at h4;have h5:=((YdJ hc hj).1 h3).2;have h6:=((YdJ hc hk).1 h4).2;omega) 40
 refine List.Perm.eq_of_pairwise (le:=(·≤·)) (fun a b _ _ h1 h2=>by omega) ?_ (Yc3 p.cls c 40) ((List.perm_ext_iff_of_nodup hn1 hn2).2 hm);exact List.Pairwise.imp (fun h=>by omega) hs
theorem Ygs {p:Prg} (h:Yag p=true) {k:Nat} (hk:k < p.cls.length):0 < (at_ (orders (graphOf p.cls)) ((3+k:Nat):Int)).length∧(p.cls[k].2.2.map (·.1)).Nodup:=by
 simp only [Yag,Bool.and_eq_true,decide_eq_true_eq] at h;have:=List.all_eq_true.1 h.2.2 k (List.mem_range.2 hk)
 rw [Yb7,Bool.and_eq_true,decide_eq_true_eq,clsAt,Yai hk,YeO] at this;exact ⟨this.1,this.2.1.1⟩
def YpT:List (Int × AV)→List (Int × Int)→List (Int × AV):=List.foldl fun m x=>aput x.1 (V.int x.2) m
theorem YoQ (m:List (Int × AV)) (l:List (Int × Int)) (x:Int × Int):YpT m (l++[x])=aput x.1 (V.int x.2) (YpT m l):=by simp [YpT]
theorem Yo7 {r:List (Int × Int)} {s:Int} (h:s ∉ r.map (·.1)):r.find? (fun x=>x.1==s)=none:=by
 rw [List.find?_eq_none];intro x hx hs;exact h (List.mem_map.2 ⟨x,hx,by simpa using hs⟩)
theorem YiN (s:Int):∀ (l:List (Int × Int)) (m:List (Int × AV)),(l.map (·.1)).Nodup→afind s (YpT m l)=match l.find? (fun x=>x.1==s) with
  | some x=>some (V.int x.2)
  | none=>afind s m
 | [],m,_=>rfl
 | x::r,m,h=>by
   rw [List.map_cons,List.nodup_cons] at h;have ih:=YiN s r (aput x.1 (V.int x.2) m) h.2;rw [show YpT m (x::r)=YpT (aput x.1 (V.int x.2) m) r from rfl,ih,List.find?_cons,Yit];by_cases e:s=x.1
   ·subst e;rw [Yo7 h.1];simp
   ·have e':(x.1==s)=false:=by simpa using Ne.symm e
    rw [e',if_neg e]
def insC (l:List Cls) (m:List (Int × AV)) (c:Int):List (Int × AV):=if c < 3 then m else YpT m (clsAt l (c-3).toNat).2.2
def YrK (l:List Cls) (o:List Int):List (Int × AV):=o.foldr (fun c m=>insC l m c) []
theorem Ykx (l:List Cls) (c:Int) (o:List Int):YrK l (c::o)=insC l (YrK l o) c:=rfl
theorem Yip (l:List Cls) (hn:∀ x∈l,(x.2.2.map (·.1)).Nodup) (s:Int):∀ o:List Int,afind s (YrK l o)=(YbI l o s).map V.int
 | []=>rfl
 | c::o=>by
   have ih:=Yip l hn s o;rw [Ykx,YeL,insC,Yg2];split
   ·exact ih
   ·have hd:((clsAt l (c-3).toNat).2.2.map (·.1)).Nodup:=by
     rw [clsAt];by_cases hl:(c-3).toNat < l.length
     ·rw [Yai hl];exact hn _ (List.getElem_mem _)
     ·rw [List.getD_eq_getElem?_getD,List.getElem?_eq_none (by omega)];simp
    rw [YiN s _ _ hd]
    cases (clsAt l (c-3).toNat).2.2.find? (fun x=>x.1==s) with
    | none=>exact ih
    | some x=>rfl
def begO (l:List Cls) (o:List Int) (ss:List Int):List (Int × Int):=ss.filterMap fun s=>(YbI l o s).map fun n=>(s,n)
abbrev Yqm (l:List Cls) (c:Nat):List (Int × Int):=begO l (at_ (orders (graphOf l)) c) (slotsOf l c)
theorem Yo6 (l:List Cls) (o ss:List Int) (s:Int):begO l o (ss++[s])=begO l o ss++(match YbI l o s with|some n=>[(s,n)]|none=>[]):=by
 rw [begO,List.filterMap_append,← begO]
 cases h:YbI l o s<;>simp [h]
theorem YqJ (l:List Cls) (o ss:List Int):(begO l o ss).length≤ss.length:=List.length_filterMap_le _ _
theorem Ykq (l:List Cls) (o:List Int) (s:Int):∀ ss:List Int,s∈ss→(begO l o ss).find? (fun x=>x.1==s)=(YbI l o s).map fun n=>(s,n)
 | [],h=>by simp at h
 | x::r,h=>by
   rw [show begO l o (x::r)=begO l o [x]++begO l o r by rw [← List.singleton_append,begO,List.filterMap_append];rfl,List.find?_append];by_cases e:x=s
   ·subst e
    cases hb:YbI l o x with
    | some n=>simp [begO,hb]
    | none =>
      have h1:begO l o [x]=[]:=by simp [begO,hb]
      rw [h1];have:(begO l o r).find? (fun y=>y.1==x)=none:=by
       rw [List.find?_eq_none];intro y hy hs;rw [begO,List.mem_filterMap] at hy;obtain ⟨z,_,hz⟩:=hy
       cases hbz:YbI l o z with
       | none=>rw [hbz] at hz;cases hz
       | some n =>
         rw [hbz] at hz
         cases hz
         have:z=x:=by simpa using hs
         rw [this,hb] at hbz;cases hbz
      rw [this];rfl
   ·have h1:(begO l o [x]).find? (fun y=>y.1==s)=none:=by
     rw [List.find?_eq_none];intro y hy hs
     cases hb:YbI l o x with
     | none=>simp [begO,hb] at hy
     | some n =>
       simp [begO,hb] at hy;subst hy;exact e (by simpa using hs)
    rw [h1];exact Ykq l o s r (by simpa [Ne.symm e] using h)
theorem Ytb (l:List Cls) (c:Nat) {s:Int} (h:s∈slotsOf l c):(Yb3 (fun x:Int × Int=>x.1==s) 0 (Yqm l c) < 0∧Yao l c s=(2,0))∨∃ i:Nat,∃ hi:i < (Yqm l c).length,Yb3 (fun x:Int × Int=>x.1==s) 0 (Yqm l c)=i∧Yao l c s=(1,(Yqm l c)[i].2):=by
 have hf:=Ykq l (at_ (orders (graphOf l)) c) s (slotsOf l c) h;rcases Ypc (Yqm l c) s with ⟨h1,h2⟩|⟨i,h1,h2,h3⟩
 ·rw [h2] at hf;refine .inl ⟨h1,?_⟩;rw [Yao]
  cases hb:YbI l (at_ (orders (graphOf l)) c) s with
  | none=>rfl
  | some n=>rw [hb] at hf;cases hf
 ·rw [h3] at hf;refine .inr ⟨i,h1,h2,?_⟩;rw [Yao]
  cases hb:YbI l (at_ (orders (graphOf l)) c) s with
  | none=>rw [hb] at hf;cases hf
  | some n =>
    rw [hb,Yai h1] at hf;simp only [Option.map_some,Option.some.injEq] at hf;rw [hf];rfl
theorem YlT (l:List Cls) (c:Nat):YhC l c [] []=(slotsOf l c).map (Yao l c):=rfl
def obB (l:List Cls) (n:Nat) (x:Ob):Bool:=(decide (3≤x.1)&&decide (x.1 < 3+(l.length:Int)))&&(decide (x.2.length=(slotsOf l x.1.toNat).length)&&x.2.all (YgF · n))
def Ygy (l:List Cls) (os:List Ob):Bool:=decide (os.length≤40)&&os.all (obB l os.length)
def YlH (l:List Cls) (c:Int):Ob:=(c,YhC l c.toNat [] [])
end Go.Proofs
namespace Go.V
open Go Go.W
theorem OE.dead {τ o}:OE τ o .dead:=fun _ _ _ _ _ v _=>⟨trivial,.inr (by cases v<;>rfl)⟩
theorem OE.junk1 {τ T x}:OE τ (.cb T [x]) (.cb T [.junk]):=fun _ _ _ _ _ v h=>by
 obtain ⟨b,vs,e,hB,hC⟩:=h;subst e;refine ⟨⟨b,vs,rfl,hB,by simpa using hC.1,hC.2.1,fun j v c _ h2=>?_⟩,.inl rfl⟩;have:c=.junk:=by have:=List.mem_of_getElem? h2;simpa using this
 subst this;exact .junk
end Go.V
namespace Go.Proofs
open Go Go.W Go.V
abbrev YtU (o:Option (List Int)):List AO:=[.cb 23 [.hs 1],.gs false 3 1 none ((o.getD []).map V.int)]
set_option maxHeartbeats 4000000 in
theorem Yg4 (p:Prg) (hpk:∀ x∈p.nodes,x.2.2.length*8≤140737488355328) (hcl:p.cls.length < 1000000000) (n s:Int) (hs:0≤s) (hs2:s < 1000000) (next:Bool) (out:List Int) (hlen:out.length=p.nodes.length) :
  Ybu Tryz.prog 165 [V.int n,V.int s,V.bool next,.ep (YbB p) 0,.bp 0 0] (YtU (some out)) (.tp []) (YtU (YcA p next out (YbY p n s))) ((YcA p next out (YbY p n s)).isSome=true) upv [.cb 23 [.junk],.dead]:=by
 refine ZcP Tryz.tabOK Tryz.mixed Tryz.func165 rfl rfl rfl fun B hB=>?_;refine TF.seq ?_;with_reducible refine TC.region ?_
 with_reducible refine OL.box ?_
 refine Zag 7 ?_;with_reducible refine OL.nil ?_
 refine ZaX ?_;refine TF.seq ?_;refine goW ?_;refine OL.c (YkC p hpk n s hs hs2) Tryz.func166 ?_;refine goW ?_;refine ZaX ?_;refine TF.block ?_;refine Zdv (fun x=>V.int x.1) (fun x=>.st [V.int x.2.1,V.int x.2.2]) [(3,.ep (YbB p) 0),(4,.bp 0 0),(7,.ep [V.bool next] 0)] (fun pre=>YtU (YcA p next out pre))
  (fun _ x=>[(8,V.int x.1),(9,.bp 2 0),(3,.ep (YbB p) 0),(4,.bp 0 0),(7,.ep [V.bool next] 0)]) (fun pre x=>YtU (YcA p next out pre)++[.cb 204 [V.int x.2.1,V.int x.2.2]])
  [.cb 23 [.junk],.dead] (fun pre=>(YcA p next out pre).isSome=true) (¬ (YcA p next out (YbY p n s)).isSome=true) 2 [0,1] Tryz.func165 rfl (fun _=>rfl) rfl rfl ?_ ?_ ?_ (by simp) (by simp) rfl rfl rfl ?_ ?_ ?_ ?_ ?_
 ·with_unfolding_all exact ⟨⟨_,rfl,OE.ren rfl⟩,⟨_,rfl,OE.gs⟩,trivial⟩
 ·with_unfolding_all exact ⟨⟨_,rfl,LE.ren rfl⟩,⟨_,rfl,LE.ren rfl⟩,⟨_,rfl,LE.ren rfl⟩,trivial⟩
 ·with_unfolding_all exact ⟨⟨_,rfl,LE.ren rfl⟩,⟨_,rfl,LE.ren rfl⟩,⟨_,rfl,LE.ren rfl⟩,trivial⟩
 ·intro pre hg x hx;obtain ⟨o,ho⟩:=Option.isSome_iff_exists.1 hg;exact Yp3 ho x hx
 ·rintro pre x Bx hBx l hx hg;dsimp only;refine YaF ?_;exact Zdu [0,1,2]
 ·rintro pre x Bx hBx l ⟨r,hr⟩ hg;obtain ⟨o,ho⟩:=Option.isSome_iff_exists.1 hg;have hol:=Ye5 ho;rw [hlen] at hol;have hbad:YbP p next o x=none→¬ (YcA p next out (YbY p n s)).isSome=true:=by
   intro h;rw [← hr,show pre++x::r=pre++[x]++r by simp,Ydr,YlF,ho,Option.bind_some,h];simp
  rw [YlF,ho,Option.bind_some];simp only [YtU,Option.getD_some];obtain ⟨k,sz,dp⟩:=x;dsimp only;repeat' (with_reducible first|refine OL.st ?_|refine TC.region ?_|refine TC.seq ?_|refine TC.block ?_|refine ZaB ?_|refine ZaD ?_|refine Zaz ?_ ?_<;>(intro hc;try (exfalso;omega))|fail)
  rotate_left
  ·refine Zar [] Yau Tryz.func163 ?_;repeat' (first|refine Zam ?_|refine Zak ?_)
   exact ZaV (hbad (by rw [YbP,if_neg];rintro ⟨a1,a2,a3,a4⟩;dsimp only at a1 a2 a3 a4;rw [List.getD_eq_getElem?_getD,List.getElem?_eq_getElem (by omega),Option.getD_some] at a3;omega)) [0,1] (ho:=by with_unfolding_all exact ⟨⟨_,rfl,OE.junk1⟩,⟨_,rfl,OE.dead⟩,trivial⟩)
  ·refine Zar [] Yau Tryz.func163 ?_;repeat' (first|refine Zam ?_|refine Zak ?_)
   exact ZaV (hbad (by rw [YbP,if_neg];rintro ⟨a1,a2,a3,a4⟩;dsimp only at a1 a2 a3 a4;rw [List.getD_eq_getElem?_getD,List.getElem?_eq_getElem (by omega),Option.getD_some] at a3;omega)) [0,1] (ho:=by with_unfolding_all exact ⟨⟨_,rfl,OE.junk1⟩,⟨_,rfl,OE.dead⟩,trivial⟩)
  ·refine Zar [] Yau Tryz.func163 ?_;repeat' (first|refine Zam ?_|refine Zak ?_)
   exact ZaV (hbad (by rw [YbP,if_neg];rintro ⟨a1,a2,a3,a4⟩;dsimp only at a1 a2 a3 a4;rw [List.getD_eq_getElem?_getD,List.getElem?_eq_getElem (by omega),Option.getD_some] at a3;omega)) [0,1] (ho:=by with_unfolding_all exact ⟨⟨_,rfl,OE.junk1⟩,⟨_,rfl,OE.dead⟩,trivial⟩)
  by_cases h12:dp≤12
  ·simp only [h12,decide_true];refine OL.c YaL Tryz.func163 ?_;rename_i h0 h1
   have h2:=hc;refine YaF ?_;refine ZbC (k:=k.toNat) (o:=0) (sz:=1) (e:=V.int o[k.toNat]) (e':=V.int sz) ?_;rw [show (o.map V.int).set k.toNat (V.int sz)=(o.set k.toNat sz).map V.int from List.map_set.symm];obtain ⟨nd,hnd⟩:∃ nd,nd=p.nodes[k.toNat]:=⟨_,rfl⟩;have hna:nodeAt p.nodes k=nd:=by rw [hnd,nodeAt,List.getD_eq_getElem?_getD,List.getElem?_eq_getElem (by omega)];rfl
   have hst:YbP p next o (k,sz,dp)=if YbE p nd sz=true∧(next=true∨nd.1≠18)∧manyV p nd=some (nd.2.2.length:Int) then some (o.set k.toNat sz) else none:=by
    rw [YbP,if_pos ⟨h0,h1,by rw [List.getD_eq_getElem?_getD,List.getElem?_eq_getElem (by omega)];exact h2,h12⟩,hna]
   have hnk:=hpk nd (hnd ▸ List.getElem_mem _);generalize YbP p next o (k,sz,dp)=so at *
   subst hst;refine YaF ?_;simp only [← hnd];obtain ⟨op,xn,kids⟩:=nd;refine OL.c (Yj6 p (op,xn,kids) sz hcl) Tryz.func167 ?_
   cases hnv:YbE p (op,xn,kids) sz
   ·refine YaF ?_;refine Zar [] Yau Tryz.func163 ?_;repeat' (first|refine Zam ?_|refine Zak ?_)
    exact ZaV (hbad (if_neg (fun h=>by rw [hnv] at h;exact absurd h.1 (by decide)))) [0,1] (ho:=by with_unfolding_all exact ⟨⟨_,rfl,OE.junk1⟩,⟨_,rfl,OE.dead⟩,trivial⟩)
   by_cases hnx:next=true∨op≠18;rotate_left
   ·obtain ⟨rfl,rfl⟩:next=false∧op=18:=by
     constructor
     ·cases next
      ·rfl
      ·exact absurd (.inl rfl) hnx
     ·exact Decidable.byContradiction fun h=>hnx (.inr h)
    refine YaF ?_;refine Zar [] Yau Tryz.func163 ?_;repeat' (first|refine Zam ?_|refine Zak ?_)
    exact ZaV (hbad (if_neg (fun h=>hnx h.2.1))) [0,1] (ho:=by with_unfolding_all exact ⟨⟨_,rfl,OE.junk1⟩,⟨_,rfl,OE.dead⟩,trivial⟩)
   have e18:next=false→decide ((op,xn,kids).1≠18)=true:=fun h=>by
    rcases hnx with h2|h2
    ·rw [h] at h2;cases h2
    ·exact decide_eq_true h2
   have hsome:manyV p (op,xn,kids)=some ((kids.length:Nat):Int)→(if true=true∧(next=true∨op≠18)∧manyV p (op,xn,kids)=some ((kids.length:Nat):Int) then some (o.set k.toNat sz) else none)=some (o.set k.toNat sz):=fun h=>if_pos ⟨rfl,hnx,h⟩
   have hnone:¬ manyV p (op,xn,kids)=some ((kids.length:Nat):Int)→(if true=true∧(next=true∨op≠18)∧manyV p (op,xn,kids)=some ((kids.length:Nat):Int) then some (o.set k.toNat sz) else none)=none:=fun h=>if_neg fun q=>h q.2.2
   cases next
   case' false =>
    replace e18:=e18 rfl
    refine YaF ?_;rw [e18]
   case' true =>
    clear e18;refine YaF ?_
   all_goals
    refine OL.c YaL Tryz.func163 ?_;refine YaF ?_;refine OL.c (Yj4 op) Tryz.func168 ?_;rcases Ykf p (op,xn,kids) with ⟨h5,hk⟩|⟨h5,mm,hm,hk⟩|⟨h5,hm,hk⟩
    ·dsimp only at h5 hk;have hr0:0≤xn:=by
      rw [YbE,if_neg (by simp;omega),if_neg (by simp;omega)] at hnv;simp at hnv;exact hnv.1
     have hr1:xn < p.gens.length:=by
      rw [YbE,if_neg (by simp;omega),if_neg (by simp;omega),mostV,if_neg (by simp;omega),if_neg (by simp;omega),if_pos (by simpa using h5)] at hnv;simp at hnv;exact hnv.2
     obtain ⟨mm,hmm⟩:∃ mm,mm=p.gens[xn.toNat]'(by omega):=⟨_,rfl⟩;have hm:manyV p (op,xn,kids)=some mm:=by
      rw [manyV,if_pos (by simpa using h5),hmm];exact List.getElem?_eq_getElem _
     rw [hk];refine YaF ?_;refine ZbT (YqB) ?_;refine YaF ?_;refine ZbT (Yrc) ?_;refine YaF ?_;by_cases hq:(kids.length:Int)=mm
     ·have eq1:decide ((kids.length:Int)=mm)=true:=decide_eq_true hq;rw [hsome (by rw [hm,hq])];(refine Zal (id:=13) false 6 9 ?_<;>refine Zao 0 ?_<;>refine OD.st 3 ?_)<;>((refine ZaJ 1 4 5 ?_ ?_ ?_)<;>(first|((refine NS 1 ?_<;>refine Zao 2 ?_<;>refine Zbf 4 5 ?_)<;>((refine Zac 6 ?_);refine OL.inv (u0:=.st []) (Yae p (op,xn,kids) hr0 hr1) Yfr (fun _ _ _=>.st (vs:=[]) rfl (by simp) (by simp)) ?_<;>refine OL.nil (Zab ?_))<;>(refine OD.st 7 ?_)<;>((refine Zac 8 ?_);simp only [← hmm]<;>rw [eq1]<;>refine OL.c YaL Tryz.func163 ?_<;>refine OL.nil (Zab ?_))<;>(refine Zaa ?_))|((refine NS 4 ?_)<;>((refine OD.n2 1 5 ?_ ?_)<;>(first|((refine NS 1 ?_<;>refine Zao 2 ?_<;>refine Zai 5 ?_)<;>((refine Zac 6 ?_);refine OL.inv (u0:=.st []) (Yae p (op,xn,kids) hr0 hr1) Yfr (fun _ _ _=>.st (vs:=[]) rfl (by simp) (by simp)) ?_<;>refine OL.nil (Zab ?_))<;>(refine OD.st 7 ?_)<;>((refine Zac 8 ?_);simp only [← hmm]<;>rw [eq1]<;>refine OL.c YaL Tryz.func163 ?_<;>refine OL.nil (Zab ?_))<;>(refine Zaa ?_))|((refine NS 5 ?_)<;>((refine OD.n2 1 6 ?_ ?_)<;>(first|((refine NS 1 ?_<;>refine Zao 2 ?_)<;>((refine Zac 6 ?_);refine OL.inv (u0:=.st []) (Yae p (op,xn,kids) hr0 hr1) Yfr (fun _ _ _=>.st (vs:=[]) rfl (by simp) (by simp)) ?_<;>refine OL.nil (Zab ?_))<;>(refine OD.st 7 ?_)<;>((refine Zac 8 ?_);simp only [← hmm]<;>rw [eq1]<;>refine OL.c YaL Tryz.func163 ?_<;>refine OL.nil (Zab ?_))<;>(refine Zaa ?_))|((refine NA 6 ?_;refine OL.inv (u0:=.st []) (Yae p (op,xn,kids) hr0 hr1) Yfr (fun _ _ _=>.st (vs:=[]) rfl (by simp) (by simp)) ?_<;>refine OL.nil (Zab ?_))<;>(refine Zai 1 ?_<;>refine Zae 2 7 ?_)<;>((refine Zac 8 ?_);simp only [← hmm]<;>rw [eq1]<;>refine OL.c YaL Tryz.func163 ?_<;>refine OL.nil (Zab ?_))<;>(refine Zaa ?_))))))))|((refine NS 5 ?_)<;>((refine OD.n2 1 4 ?_ ?_)<;>(first|((refine NS 1 ?_<;>refine Zao 2 ?_<;>refine Zai 4 ?_)<;>((refine Zac 6 ?_);refine OL.inv (u0:=.st []) (Yae p (op,xn,kids) hr0 hr1) Yfr (fun _ _ _=>.st (vs:=[]) rfl (by simp) (by simp)) ?_<;>refine OL.nil (Zab ?_))<;>(refine OD.st 7 ?_)<;>((refine Zac 8 ?_);simp only [← hmm]<;>rw [eq1]<;>refine OL.c YaL Tryz.func163 ?_<;>refine OL.nil (Zab ?_))<;>(refine Zaa ?_))|((refine NS 4 ?_)<;>((refine OD.n2 1 6 ?_ ?_)<;>(first|((refine NS 1 ?_<;>refine Zao 2 ?_)<;>((refine Zac 6 ?_);refine OL.inv (u0:=.st []) (Yae p (op,xn,kids) hr0 hr1) Yfr (fun _ _ _=>.st (vs:=[]) rfl (by simp) (by simp)) ?_<;>refine OL.nil (Zab ?_))<;>(refine OD.st 7 ?_)<;>((refine Zac 8 ?_);simp only [← hmm]<;>rw [eq1]<;>refine OL.c YaL Tryz.func163 ?_<;>refine OL.nil (Zab ?_))<;>(refine Zaa ?_))|((refine NA 6 ?_;refine OL.inv (u0:=.st []) (Yae p (op,xn,kids) hr0 hr1) Yfr (fun _ _ _=>.st (vs:=[]) rfl (by simp) (by simp)) ?_<;>refine OL.nil (Zab ?_))<;>(refine Zai 1 ?_<;>refine Zae 2 7 ?_)<;>((refine Zac 8 ?_);simp only [← hmm]<;>rw [eq1]<;>refine OL.c YaL Tryz.func163 ?_<;>refine OL.nil (Zab ?_))<;>(refine Zaa ?_))))))))))
      all_goals refine YaF ?_
      all_goals exact Zbw rfl [0,1]
     ·have eq0:decide ((kids.length:Int)=mm)=false:=decide_eq_false hq;have hn0:=hnone (by rw [hm];intro h;exact hq (Option.some.inj h).symm);have hbb:=hbad (by rw [hnv];exact hn0);rw [hn0];(refine Zal (id:=13) false 6 9 ?_<;>refine Zao 0 ?_<;>refine OD.st 3 ?_)<;>((refine ZaJ 1 4 5 ?_ ?_ ?_)<;>(first|((refine NS 1 ?_<;>refine Zao 2 ?_<;>refine Zbf 4 5 ?_)<;>((refine Zac 6 ?_);refine OL.inv (u0:=.st []) (Yae p (op,xn,kids) hr0 hr1) Yfr (fun _ _ _=>.st (vs:=[]) rfl (by simp) (by simp)) ?_<;>refine OL.nil (Zab ?_))<;>(refine OD.st 7 ?_)<;>((refine Zac 8 ?_);simp only [← hmm]<;>rw [eq0]<;>refine Zar [] Yau Tryz.func163 ?_<;>refine Zav ?_<;>refine Zak ?_<;>refine Zak ?_<;>exact ZaV hbb [0,1] (ho:=by with_unfolding_all exact ⟨⟨_,rfl,OE.junk1⟩,⟨_,rfl,OE.dead⟩,trivial⟩))<;>(refine Zaa ?_))|((refine NS 4 ?_)<;>((refine OD.n2 1 5 ?_ ?_)<;>(first|((refine NS 1 ?_<;>refine Zao 2 ?_<;>refine Zai 5 ?_)<;>((refine Zac 6 ?_);refine OL.inv (u0:=.st []) (Yae p (op,xn,kids) hr0 hr1) Yfr (fun _ _ _=>.st (vs:=[]) rfl (by simp) (by simp)) ?_<;>refine OL.nil (Zab ?_))<;>(refine OD.st 7 ?_)<;>((refine Zac 8 ?_);simp only [← hmm]<;>rw [eq0]<;>refine Zar [] Yau Tryz.func163 ?_<;>refine Zav ?_<;>refine Zak ?_<;>refine Zak ?_<;>exact ZaV hbb [0,1] (ho:=by with_unfolding_all exact ⟨⟨_,rfl,OE.junk1⟩,⟨_,rfl,OE.dead⟩,trivial⟩))<;>(refine Zaa ?_))|((refine NS 5 ?_)<;>((refine OD.n2 1 6 ?_ ?_)<;>(first|((refine NS 1 ?_<;>refine Zao 2 ?_)<;>((refine Zac 6 ?_);refine OL.inv (u0:=.st []) (Yae p (op,xn,kids) hr0 hr1) Yfr (fun _ _ _=>.st (vs:=[]) rfl (by simp) (by simp)) ?_<;>refine OL.nil (Zab ?_))<;>(refine OD.st 7 ?_)<;>((refine Zac 8 ?_);simp only [← hmm]<;>rw [eq0]<;>refine Zar [] Yau Tryz.func163 ?_<;>refine Zav ?_<;>refine Zak ?_<;>refine Zak ?_<;>exact ZaV hbb [0,1] (ho:=by with_unfolding_all exact ⟨⟨_,rfl,OE.junk1⟩,⟨_,rfl,OE.dead⟩,trivial⟩))<;>(refine Zaa ?_))|((refine NA 6 ?_;refine OL.inv (u0:=.st []) (Yae p (op,xn,kids) hr0 hr1) Yfr (fun _ _ _=>.st (vs:=[]) rfl (by simp) (by simp)) ?_<;>refine OL.nil (Zab ?_))<;>(refine Zai 1 ?_<;>refine Zae 2 7 ?_)<;>((refine Zac 8 ?_);simp only [← hmm]<;>rw [eq0]<;>refine Zar [] Yau Tryz.func163 ?_<;>refine Zav ?_<;>refine Zak ?_<;>refine Zak ?_<;>exact ZaV hbb [0,1] (ho:=by with_unfolding_all exact ⟨⟨_,rfl,OE.junk1⟩,⟨_,rfl,OE.dead⟩,trivial⟩))<;>(refine Zaa ?_))))))))|((refine NS 5 ?_)<;>((refine OD.n2 1 4 ?_ ?_)<;>(first|((refine NS 1 ?_<;>refine Zao 2 ?_<;>refine Zai 4 ?_)<;>((refine Zac 6 ?_);refine OL.inv (u0:=.st []) (Yae p (op,xn,kids) hr0 hr1) Yfr (fun _ _ _=>.st (vs:=[]) rfl (by simp) (by simp)) ?_<;>refine OL.nil (Zab ?_))<;>(refine OD.st 7 ?_)<;>((refine Zac 8 ?_);simp only [← hmm]<;>rw [eq0]<;>refine Zar [] Yau Tryz.func163 ?_<;>refine Zav ?_<;>refine Zak ?_<;>refine Zak ?_<;>exact ZaV hbb [0,1] (ho:=by with_unfolding_all exact ⟨⟨_,rfl,OE.junk1⟩,⟨_,rfl,OE.dead⟩,trivial⟩))<;>(refine Zaa ?_))|((refine NS 4 ?_)<;>((refine OD.n2 1 6 ?_ ?_)<;>(first|((refine NS 1 ?_<;>refine Zao 2 ?_)<;>((refine Zac 6 ?_);refine OL.inv (u0:=.st []) (Yae p (op,xn,kids) hr0 hr1) Yfr (fun _ _ _=>.st (vs:=[]) rfl (by simp) (by simp)) ?_<;>refine OL.nil (Zab ?_))<;>(refine OD.st 7 ?_)<;>((refine Zac 8 ?_);simp only [← hmm]<;>rw [eq0]<;>refine Zar [] Yau Tryz.func163 ?_<;>refine Zav ?_<;>refine Zak ?_<;>refine Zak ?_<;>exact ZaV hbb [0,1] (ho:=by with_unfolding_all exact ⟨⟨_,rfl,OE.junk1⟩,⟨_,rfl,OE.dead⟩,trivial⟩))<;>(refine Zaa ?_))|((refine NA 6 ?_;refine OL.inv (u0:=.st []) (Yae p (op,xn,kids) hr0 hr1) Yfr (fun _ _ _=>.st (vs:=[]) rfl (by simp) (by simp)) ?_<;>refine OL.nil (Zab ?_))<;>(refine Zai 1 ?_<;>refine Zae 2 7 ?_)<;>((refine Zac 8 ?_);simp only [← hmm]<;>rw [eq0]<;>refine Zar [] Yau Tryz.func163 ?_<;>refine Zav ?_<;>refine Zak ?_<;>refine Zak ?_<;>exact ZaV hbb [0,1] (ho:=by with_unfolding_all exact ⟨⟨_,rfl,OE.junk1⟩,⟨_,rfl,OE.dead⟩,trivial⟩))<;>(refine Zaa ?_))))))))))
    ·dsimp only at h5 hk;rw [hk];refine YaF ?_;refine ZbT (Yqn mm) ?_;refine YaF ?_;refine ZbT (Yqs mm) ?_;refine YaF ?_;by_cases hq:(kids.length:Int)=mm
     ·have eq1:decide ((kids.length:Int)=mm)=true:=decide_eq_true hq;rw [hsome (by rw [hm,hq])];(refine Zal (id:=13) false 6 9 ?_<;>refine Zao 0 ?_<;>refine OD.st 3 ?_)<;>((refine ZaJ 1 4 5 ?_ ?_ ?_)<;>(first|((refine NS 1 ?_<;>refine Zao 2 ?_<;>refine Zbf 4 5 ?_)<;>((refine Zac 6 ?_);refine OL.inv (Yan mm p (op,xn,kids)) (Yff mm) (fun _ _ _=>.raw rfl) ?_<;>refine OL.nil (Zab ?_))<;>(refine OD.st 7 ?_)<;>((refine Zac 8 ?_);rw [eq1]<;>refine OL.c YaL Tryz.func163 ?_<;>refine OL.nil (Zab ?_))<;>(refine Zaa ?_))|((refine NS 4 ?_)<;>((refine OD.n2 1 5 ?_ ?_)<;>(first|((refine NS 1 ?_<;>refine Zao 2 ?_<;>refine Zai 5 ?_)<;>((refine Zac 6 ?_);refine OL.inv (Yan mm p (op,xn,kids)) (Yff mm) (fun _ _ _=>.raw rfl) ?_<;>refine OL.nil (Zab ?_))<;>(refine OD.st 7 ?_)<;>((refine Zac 8 ?_);rw [eq1]<;>refine OL.c YaL Tryz.func163 ?_<;>refine OL.nil (Zab ?_))<;>(refine Zaa ?_))|((refine NS 5 ?_)<;>((refine OD.n2 1 6 ?_ ?_)<;>(first|((refine NS 1 ?_<;>refine Zao 2 ?_)<;>((refine Zac 6 ?_);refine OL.inv (Yan mm p (op,xn,kids)) (Yff mm) (fun _ _ _=>.raw rfl) ?_<;>refine OL.nil (Zab ?_))<;>(refine OD.st 7 ?_)<;>((refine Zac 8 ?_);rw [eq1]<;>refine OL.c YaL Tryz.func163 ?_<;>refine OL.nil (Zab ?_))<;>(refine Zaa ?_))|((refine NA 6 ?_;refine OL.inv (Yan mm p (op,xn,kids)) (Yff mm) (fun _ _ _=>.raw rfl) ?_<;>refine OL.nil (Zab ?_))<;>(refine Zai 1 ?_<;>refine Zae 2 7 ?_)<;>((refine Zac 8 ?_);rw [eq1]<;>refine OL.c YaL Tryz.func163 ?_<;>refine OL.nil (Zab ?_))<;>(refine Zaa ?_))))))))|((refine NS 5 ?_)<;>((refine OD.n2 1 4 ?_ ?_)<;>(first|((refine NS 1 ?_<;>refine Zao 2 ?_<;>refine Zai 4 ?_)<;>((refine Zac 6 ?_);refine OL.inv (Yan mm p (op,xn,kids)) (Yff mm) (fun _ _ _=>.raw rfl) ?_<;>refine OL.nil (Zab ?_))<;>(refine OD.st 7 ?_)<;>((refine Zac 8 ?_);rw [eq1]<;>refine OL.c YaL Tryz.func163 ?_<;>refine OL.nil (Zab ?_))<;>(refine Zaa ?_))|((refine NS 4 ?_)<;>((refine OD.n2 1 6 ?_ ?_)<;>(first|((refine NS 1 ?_<;>refine Zao 2 ?_)<;>((refine Zac 6 ?_);refine OL.inv (Yan mm p (op,xn,kids)) (Yff mm) (fun _ _ _=>.raw rfl) ?_<;>refine OL.nil (Zab ?_))<;>(refine OD.st 7 ?_)<;>((refine Zac 8 ?_);rw [eq1]<;>refine OL.c YaL Tryz.func163 ?_<;>refine OL.nil (Zab ?_))<;>(refine Zaa ?_))|((refine NA 6 ?_;refine OL.inv (Yan mm p (op,xn,kids)) (Yff mm) (fun _ _ _=>.raw rfl) ?_<;>refine OL.nil (Zab ?_))<;>(refine Zai 1 ?_<;>refine Zae 2 7 ?_)<;>((refine Zac 8 ?_);rw [eq1]<;>refine OL.c YaL Tryz.func163 ?_<;>refine OL.nil (Zab ?_))<;>(refine Zaa ?_))))))))))
      all_goals refine YaF ?_
      all_goals exact Zbw rfl [0,1]
     ·have eq0:decide ((kids.length:Int)=mm)=false:=decide_eq_false hq;have hn0:=hnone (by rw [hm];intro h;exact hq (Option.some.inj h).symm);have hbb:=hbad (by rw [hnv];exact hn0);rw [hn0];(refine Zal (id:=13) false 6 9 ?_<;>refine Zao 0 ?_<;>refine OD.st 3 ?_)<;>((refine ZaJ 1 4 5 ?_ ?_ ?_)<;>(first|((refine NS 1 ?_<;>refine Zao 2 ?_<;>refine Zbf 4 5 ?_)<;>((refine Zac 6 ?_);refine OL.inv (Yan mm p (op,xn,kids)) (Yff mm) (fun _ _ _=>.raw rfl) ?_<;>refine OL.nil (Zab ?_))<;>(refine OD.st 7 ?_)<;>((refine Zac 8 ?_);rw [eq0]<;>refine Zar [] Yau Tryz.func163 ?_<;>refine Zav ?_<;>refine Zak ?_<;>refine Zak ?_<;>exact ZaV hbb [0,1] (ho:=by with_unfolding_all exact ⟨⟨_,rfl,OE.junk1⟩,⟨_,rfl,OE.dead⟩,trivial⟩))<;>(refine Zaa ?_))|((refine NS 4 ?_)<;>((refine OD.n2 1 5 ?_ ?_)<;>(first|((refine NS 1 ?_<;>refine Zao 2 ?_<;>refine Zai 5 ?_)<;>((refine Zac 6 ?_);refine OL.inv (Yan mm p (op,xn,kids)) (Yff mm) (fun _ _ _=>.raw rfl) ?_<;>refine OL.nil (Zab ?_))<;>(refine OD.st 7 ?_)<;>((refine Zac 8 ?_);rw [eq0]<;>refine Zar [] Yau Tryz.func163 ?_<;>refine Zav ?_<;>refine Zak ?_<;>refine Zak ?_<;>exact ZaV hbb [0,1] (ho:=by with_unfolding_all exact ⟨⟨_,rfl,OE.junk1⟩,⟨_,rfl,OE.dead⟩,trivial⟩))<;>(refine Zaa ?_))|((refine NS 5 ?_)<;>((refine OD.n2 1 6 ?_ ?_)<;>(first|((refine NS 1 ?_<;>refine Zao 2 ?_)<;>((refine Zac 6 ?_);refine OL.inv (Yan mm p (op,xn,kids)) (Yff mm) (fun _ _ _=>.raw rfl) ?_<;>refine OL.nil (Zab ?_))<;>(refine OD.st 7 ?_)<;>((refine Zac 8 ?_);rw [eq0]<;>refine Zar [] Yau Tryz.func163 ?_<;>refine Zav ?_<;>refine Zak ?_<;>refine Zak ?_<;>exact ZaV hbb [0,1] (ho:=by with_unfolding_all exact ⟨⟨_,rfl,OE.junk1⟩,⟨_,rfl,OE.dead⟩,trivial⟩))<;>(refine Zaa ?_))|((refine NA 6 ?_;refine OL.inv (Yan mm p (op,xn,kids)) (Yff mm) (fun _ _ _=>.raw rfl) ?_<;>refine OL.nil (Zab ?_))<;>(refine Zai 1 ?_<;>refine Zae 2 7 ?_)<;>((refine Zac 8 ?_);rw [eq0]<;>refine Zar [] Yau Tryz.func163 ?_<;>refine Zav ?_<;>refine Zak ?_<;>refine Zak ?_<;>exact ZaV hbb [0,1] (ho:=by with_unfolding_all exact ⟨⟨_,rfl,OE.junk1⟩,⟨_,rfl,OE.dead⟩,trivial⟩))<;>(refine Zaa ?_))))))))|((refine NS 5 ?_)<;>((refine OD.n2 1 4 ?_ ?_)<;>(first|((refine NS 1 ?_<;>refine Zao 2 ?_<;>refine Zai 4 ?_)<;>((refine Zac 6 ?_);refine OL.inv (Yan mm p (op,xn,kids)) (Yff mm) (fun _ _ _=>.raw rfl) ?_<;>refine OL.nil (Zab ?_))<;>(refine OD.st 7 ?_)<;>((refine Zac 8 ?_);rw [eq0]<;>refine Zar [] Yau Tryz.func163 ?_<;>refine Zav ?_<;>refine Zak ?_<;>refine Zak ?_<;>exact ZaV hbb [0,1] (ho:=by with_unfolding_all exact ⟨⟨_,rfl,OE.junk1⟩,⟨_,rfl,OE.dead⟩,trivial⟩))<;>(refine Zaa ?_))|((refine NS 4 ?_)<;>((refine OD.n2 1 6 ?_ ?_)<;>(first|((refine NS 1 ?_<;>refine Zao 2 ?_)<;>((refine Zac 6 ?_);refine OL.inv (Yan mm p (op,xn,kids)) (Yff mm) (fun _ _ _=>.raw rfl) ?_<;>refine OL.nil (Zab ?_))<;>(refine OD.st 7 ?_)<;>((refine Zac 8 ?_);rw [eq0]<;>refine Zar [] Yau Tryz.func163 ?_<;>refine Zav ?_<;>refine Zak ?_<;>refine Zak ?_<;>exact ZaV hbb [0,1] (ho:=by with_unfolding_all exact ⟨⟨_,rfl,OE.junk1⟩,⟨_,rfl,OE.dead⟩,trivial⟩))<;>(refine Zaa ?_))|((refine NA 6 ?_;refine OL.inv (Yan mm p (op,xn,kids)) (Yff mm) (fun _ _ _=>.raw rfl) ?_<;>refine OL.nil (Zab ?_))<;>(refine Zai 1 ?_<;>refine Zae 2 7 ?_)<;>((refine Zac 8 ?_);rw [eq0]<;>refine Zar [] Yau Tryz.func163 ?_<;>refine Zav ?_<;>refine Zak ?_<;>refine Zak ?_<;>exact ZaV hbb [0,1] (ho:=by with_unfolding_all exact ⟨⟨_,rfl,OE.junk1⟩,⟨_,rfl,OE.dead⟩,trivial⟩))<;>(refine Zaa ?_))))))))))
    ·dsimp only at h5 hk;rw [hk];refine YaF ?_;refine ZbT YoC ?_;refine YaF ?_;refine ZbT YoT ?_;refine YaF ?_;refine Zar [] Yau Tryz.func163 ?_;repeat' (first|refine Zam ?_|refine Zak ?_)
     exact ZaV (hbad (by rw [hnv];exact hnone (by rw [hm];simp))) [0,1] (ho:=by with_unfolding_all exact ⟨⟨_,rfl,OE.junk1⟩,⟨_,rfl,OE.dead⟩,trivial⟩)
  ·simp only [h12,decide_false];refine Zar [] Yau Tryz.func163 ?_;repeat' (first|refine Zam ?_|refine Zak ?_)
   exact ZaV (hbad (by rw [YbP,if_neg];rintro ⟨a1,a2,a3,a4⟩;dsimp only at a1 a2 a3 a4;rw [List.getD_eq_getElem?_getD,List.getElem?_eq_getElem (by omega),Option.getD_some] at a3;omega)) [0,1] (ho:=by with_unfolding_all exact ⟨⟨_,rfl,OE.junk1⟩,⟨_,rfl,OE.dead⟩,trivial⟩)
 ·intro hg B' hB' D hM;refine ZaM ?_;exact ZcQ hg hM hB [0,1]
 ·intro hb B' hB' D hM;refine Zak ?_;exact Zdy hb hM hB [0,1]
end Go.Proofs
