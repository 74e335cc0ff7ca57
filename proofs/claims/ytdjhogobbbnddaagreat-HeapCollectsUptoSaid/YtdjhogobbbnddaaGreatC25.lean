/- Lemmas for the claim; no conditions. -/
import Derived.Test.YtdjhogobbbnddaaGreatC23
import Derived.Test.YtdjhogobbbnddaaGreatC19
import Derived.Test.YtdjhogobbbnddaaGreatC18
import Derived.Test.YtdjhogobbbnddaaGreatC24
import Derived.Test.YtdjhogobbbnddaaGreatC14
import Derived.Test.YtdjhogobbbnddaaGreatC16
namespace Go.Proofs
open Go Go.W Go.V
set_option maxHeartbeats 2000000 in
theorem YkM (g:List (List Int)):V.Spec Tryz.prog 151 [YbU g] [] (V.bool (fine g)) []:=by
 refine Se Tryz.func151 rfl rfl rfl fun B hB=>?_;refine ZaS 0 fun hlen=>?_;(refine goS ?_ ?_<;>intro hc<;>refine go ?_)
 ·refine Zad [] (.bool ?_);have:decide (g.length≤16)=false:=by simp;omega
  simp [fine,this]
 have hfine:fine g=Yb6 0 g:=by
  have:decide (g.length≤16)=true:=by simp;omega
  simp [fine,this]
 have h16:g.length≤16:=by omega
 refine Zat (fun i:Nat=>[(0,YbU g),(3,V.int i)]) (fun _=>[]) (fun i=>i≤g.length∧Yb6 0 g=Yb6 i (g.drop i)) (fun i=>g.length-i) 0 [] ⟨Nat.zero_le _,rfl⟩ ?_;rintro i ⟨hi,hinv⟩;by_cases hlt:i < g.length
 ·have hst:∀ b,okRow i [] g[i]=b→g[i].length≤3→Yb6 i (g.drop i)=(b&&Yb6 (i+1) (g.drop (i+1))):=by
   intro b hb h3;rw [Yac hlt];have:decide (g[i].length≤3)=true:=by simp;omega
   simp [Yb6,this,hb]
  repeat' (with_reducible first|refine OL.st ?_|refine TC.region ?_|refine TC.seq ?_|refine OL.nil ?_|refine Zap ?_|refine TC.block ?_|refine TC.skip ?_|refine Zay ?_ ?_<;>(intro hc;try (exfalso;omega))|refine TC.ret ?_|refine ZaE ?_|refine ZaK ?_|fail)
  ·refine Zad [] (.bool ?_);rw [hfine,hinv,Yac hlt];have:decide (g[i].length≤3)=false:=by simp;omega
   simp [Yb6,this]
  ·have hr3:g[i].length≤3:=by omega
   refine Zat (fun k:Nat=>[(0,YbU g),(3,V.int i),(4,V.int k)]) (fun _=>[]) (fun k=>k≤g[i].length∧okRow i [] g[i]=okRow i (g[i].take k) (g[i].drop k)) (fun k=>g[i].length-k) 0 [] ⟨Nat.zero_le _,rfl⟩ ?_;rintro k ⟨hk,hki⟩;have hfail:okRow i (g[i].take k) (g[i].drop k)=false→fine g=false:=fun hb=>by rw [hfine,hinv,hst _ (hki.trans hb) hr3];rfl
   (refine goS ?_ ?_<;>intro hc<;>refine go ?_)
   ·have hkl:k < g[i].length:=by omega
    (refine Zal (id:=11) true 36 36 ?_<;>refine Zaf 0 1 2 3 ?_<;>refine Zaf 4 5 6 7 ?_<;>refine OD.st 8 ?_<;>refine Zaw 37 ?_ ?_<;>(intro hc;try (exfalso;omega))<;>(first|(refine OD.st 9 ?_)|(refine OD.of 9 ?_))<;>(first|refine OD.st 10 ?_|refine OD.of 10 ?_)<;>(first|refine OD.st 11 ?_|refine OD.of 11 ?_)<;>(first|refine OD.st 12 ?_|refine OD.of 12 ?_)<;>(first|refine OD.st 13 ?_|refine OD.of 13 ?_)<;>(first|refine OD.st 14 ?_|refine OD.of 14 ?_)<;>(first|refine OD.st 15 ?_|refine OD.of 15 ?_)<;>(first|refine OD.st 16 ?_|refine OD.of 16 ?_)<;>(first|refine OD.st 17 ?_|refine OD.of 17 ?_)<;>(first|refine OD.st 18 ?_|refine OD.of 18 ?_)<;>refine Zae 19 20 ?_<;>(first|refine OD.of 21 ?_|refine Zaw 49 ?_ ?_<;>(intro hc;try (exfalso;omega))<;>(first|(refine OD.st 21 ?_)|(refine OD.of 21 ?_)))<;>(first|refine OD.st 22 ?_|refine OD.of 22 ?_)<;>(first|refine OD.st 23 ?_|refine OD.of 23 ?_)<;>(first|refine OD.st 24 ?_|refine OD.of 24 ?_)<;>(first|refine OD.st 25 ?_|refine OD.of 25 ?_)<;>(first|refine OD.st 26 ?_|refine OD.of 26 ?_)<;>(first|refine OD.st 27 ?_|refine OD.of 27 ?_)<;>(first|refine OD.st 28 ?_|refine OD.of 28 ?_)<;>(first|refine OD.st 29 ?_|refine OD.of 29 ?_)<;>(first|refine OD.st 30 ?_|refine OD.of 30 ?_)<;>(first|refine OD.st 31 ?_|refine OD.of 31 ?_)<;>(first|refine OD.st 32 ?_|refine OD.of 32 ?_)<;>(first|refine OD.st 33 ?_|refine OD.of 33 ?_)<;>(first|refine Zah 34 (YgV (g[i].take k) g[i][k]) Tryz.func181 ?_|refine OD.of 34 ?_)<;>refine OD.st 35 ?_<;>refine Zaa ?_)
    ·refine go ?_;refine Zad [] (.bool ?_);rw [hfail];rw [Yac hkl];simp only [okRow];rw [decide_eq_false (by omega:¬ 3≤g[i][k])];rfl
    ·refine go ?_;refine Zad [] (.bool ?_);rw [hfail];rw [Yac hkl];simp only [okRow];rw [decide_eq_false (by omega:¬ g[i][k] < 3+(i:Int))];simp
    ·refine go ?_;refine Zbl (fun hct=>?_) (fun hct=>?_)
     ·refine go ?_;refine Zad [] (.bool ?_);rw [hfail];rw [Yac hkl];simp only [okRow];rw [hct];simp
     ·have hs1:okRow i (g[i].take k) (g[i].drop k)=okRow i (g[i].take (k+1)) (g[i].drop (k+1)):=by
       rw [Yac hkl,Yab hkl];simp only [okRow];rw [decide_eq_true (by omega:3≤g[i][k]),decide_eq_true (by omega:g[i][k] < 3+(i:Int)),hct];simp
      refine go ?_;exact Zan (k+1) [] ⟨by omega,hki.trans hs1⟩ (by omega)
   ·refine Zan (i+1) [] ⟨by omega,?_⟩ (by omega);rw [hinv,hst _ hki hr3,Yat (l:=g[i]) (by omega)];rfl
 ·refine go ?_;refine Zad [] (.bool ?_);rw [hfine,hinv,Yat (by omega)];rfl
theorem YjI (g:List (List Int)) (c:Int) (hf:fine g=true) (h0:0≤c) (h1:c < 3+(g.length:Int)):V.Spec Tryz.prog 152 [YbU g,V.int c] [] (.tp [ints (at_ (orders g) c),V.bool (decide (0 < (at_ (orders g) c).length))]) []:=by
 refine Se Tryz.func152 rfl rfl rfl fun B hB=>?_;have hol:=(Yb2 hf).2;have hlt:c.toNat < (orders g).length:=by omega
 rw [at_,Yai hlt];refine go ?_;refine OL.c (YgG g hf) Tryz.func182 ?_;refine go ?_;refine ZaA [] (.ren rfl) (.bool ?_);simp
def okc (g:List (List Int)) (c:Int):Bool:=fine g&&(decide (0≤c)&&decide (c < 3+(g.length:Int)))
def linL (g:List (List Int)) (c:Int):List Int:=if okc g c then at_ (orders g) c else []
def Yq5 (g:List (List Int)) (c:Int):Int:=if okc g c then (if (at_ (orders g) c).length=0 then 7 else 0) else 2
def omapF:Nat→List (List Int)→List (Int × AV)
 | _,[]=>[]
 | c,o::r=>(if o.isEmpty then [] else [((c:Int),ints o)])++omapF (c+1) r
def Yj9 (ords:List (List Int)):List (Int × AV):=omapF 0 ords
theorem YiS:∀ (l:List (List Int)) (c:Nat) (o:List Int),omapF c (l++[o])=omapF c l++(if o.isEmpty then [] else [(((c+l.length:Nat):Int),ints o)])
 | [],c,o=>by simp [omapF]
 | p::r,c,o=>by
   simp only [List.cons_append,omapF,YiS r (c+1) o,List.append_assoc,List.length_cons];rw [show c+1+r.length=c+(r.length+1) by omega]
theorem YoN (l:List (List Int)) (o:List Int):Yj9 (l++[o])=Yj9 l++(if o.isEmpty then [] else [((l.length:Int),ints o)]):=by
 rw [Yj9,YiS];simp [Yj9]
theorem YfA (k:Int):∀ (a b:List (Int × AV)),afind k (a++b)=(afind k a).or (afind k b)
 | [],b=>by simp [afind]
 | p::r,b=>by
   simp only [List.cons_append,afind]
   cases h:k==p.1
   ·simpa using YfA k r b
   ·simp
theorem Yhc:∀ (l:List (List Int)) (c:Nat) (k:Int),(c:Int)≤k→afind k (omapF c l)=if (l.getD (k-c).toNat []).isEmpty then none else some (ints (l.getD (k-c).toNat []))
 | [],c,k,_=>by simp [omapF,afind]
 | o::r,c,k,h=>by
   simp only [omapF,YfA];by_cases e:k=c
   ·subst e;simp only [Int.sub_self,Int.toNat_zero,List.getD_cons_zero]
    cases ho:o.isEmpty
    ·simp [afind]
    ·have hlow:∀ (r:List (List Int)) (n:Nat) (k:Int),k < n→afind k (omapF n r)=none:=by
      intro r;induction r with
      | nil=>intro n k _;rfl
      | cons p r ih =>
        intro n k hk;simp only [omapF,YfA,ih (n+1) k (by omega),Option.or_none];split
        ·rfl
        ·simp only [afind];rw [if_neg (by simp;omega)]
     simp [afind,hlow r (c+1) c (by omega)]
   ·have h1:(c:Int)+1≤k:=by omega
    have:=Yhc r (c+1) k (by omega)
    rw [this];have e2:(k-c).toNat=(k-((c+1:Nat):Int)).toNat+1:=by omega
    rw [e2,List.getD_cons_succ];have e3:afind k (if o.isEmpty then [] else [((c:Int),ints o)])=none:=by
     split
     ·rfl
     ·simp only [afind];rw [if_neg (by simp;omega)]
    rw [e3];rfl
theorem YiM (ords:List (List Int)) (k:Int) (h:0≤k):afind k (Yj9 ords)=if (at_ ords k).isEmpty then none else some (ints (at_ ords k)):=by
 have:=Yhc ords 0 k (by omega)
 simpa [Yj9,at_] using this
theorem Ye1 (ords:List (List Int)) (k:Int) (h:0≤k):afind k (Yj9 ords)=some (ints (at_ ords k))∨(afind k (Yj9 ords)=none∧∀ m w γ,Rep m w γ (.slice none 0 0) (ints (at_ ords k))):=by
 rw [YiM ords k h]
 cases he:at_ ords k with
 | nil=>exact .inr ⟨rfl,fun m w γ=>.nil nofun⟩
 | cons a r=>exact .inl rfl
theorem Yra (ords:List (List Int)) (k:Int) (h:(ords.length:Int)≤k):afind k (Yj9 ords)=none:=by
 rw [YiM ords k (by omega)];have:at_ ords k=[]:=by unfold at_;rw [List.getD_eq_getElem?_getD,List.getElem?_eq_none (by omega)];rfl
 rw [this];rfl
abbrev Yvc (us:List Nat):AV:=.sl 1 none (us.map Ypo)
abbrev Yfz (pss:List (List Int)) (us:List Nat) (k:Nat):AO:=.cb 254 [YbU pss,Yvc us,.mp k]
set_option maxHeartbeats 1000000 in
theorem YcW (pss:List (List Int)) (us:List Nat) (ords:List (List Int)) (c:Nat) (hc:c < pss.length)
  (hps:∀ p∈pss[c],0≤p) (hol:∀ o∈ords,o.length≤1000000) (hpl:pss[c].length≤1000000) :
  V.Spec Tryz.prog 245 [.bp 0 0,V.int c] [Yfz pss us 1,.mo (Yj9 ords)] (.tp [YbU ((listsOf ords pss[c]).getD []),V.bool (listsOf ords pss[c]).isSome]) [Yfz pss us 1,.mo (Yj9 ords)]:=by
 refine Se Tryz.func245 rfl rfl rfl fun B hB=>?_;refine go ?_;generalize hpe:pss[c]=ps at *
 refine ZaT 6 23 1 ?_;refine Zat (fun i:Nat=>[(0,.bp 0 0),(1,V.int c),(6,.hs 2),(15,ints ps),(16,V.int ps.length),(17,V.int i)]) (fun i=>[Yfz pss us 1,.mo (Yj9 ords),.gs false 23 1 none (((ps.take i).map fun p=>bare (at_ ords p)).map ints)]) (fun i=>i≤ps.length∧(ps.take i).all (fun p=>!(at_ ords p).isEmpty)=true) (fun i=>ps.length-i) 0 [0,1,2] ⟨Nat.zero_le _,rfl⟩ ?_;rintro i ⟨hi,hall⟩;by_cases hlt:i < ps.length
 ·have hpi:=hps ps[i] (List.getElem_mem _);have hlo:(at_ ords ps[i]).length≤1000000:=by
   rcases Ynp (ords:=ords) (p:=ps[i]) with e|e
   ·rw [e];simp
   ·exact hol _ e
  refine go ?_;refine OL.lookup ?_ (Ye1 ords ps[i] hpi);(refine goS ?_ ?_<;>intro hc<;>refine go ?_)
  ·have he:at_ ords ps[i]=[]:=List.eq_nil_of_length_eq_zero (by omega);have:listsOf ords ps=none:=by
    rw [listsOf,if_neg];intro h;have:=List.all_eq_true.1 h ps[i] (List.getElem_mem _)
    rw [he] at this
    cases this
   rw [this];exact ZaA [0,1] (.nil (by decide)) (.ren rfl)
  ·have hne:(at_ ords ps[i]).isEmpty=false:=by
    cases hq:at_ ords ps[i] with
    | nil=>rw [hq] at hc;simp at hc
    | cons _ _=>rfl
   refine OL.lookup ?_ (Ye1 ords ps[i] hpi);refine go ?_;refine OL.c (Ymu (at_ ords ps[i]) (by omega)) Tryz.func257 ?_;refine go ?_;have e:(((ps.take i).map fun p=>bare (at_ ords p)).map ints)++[ints (bare (at_ ords ps[i]))]=(((ps.take (i+1)).map fun p=>bare (at_ ords p)).map ints):=by
    rw [Yab hlt];simp only [List.map_append,List.map_cons,List.map_nil]
   refine Zan (i+1) [0,1,5] ⟨by omega,?_⟩ (by omega);rw [Yab hlt,List.all_append,hall];simp [hne]
 ·refine go ?_;rw [Yaf (by omega)] at hall ⊢;rw [listsOf,if_pos hall];have e:(ps.map fun p=>bare (at_ ords p)).map ints++[ints pss[c]]=((ps.map fun p=>bare (at_ ords p))++[ps]).map ints:=by rw [List.map_append,hpe];rfl
  refine Za4 4 ?_;exact ZaA [0,1] (.sl' e) (.ren rfl)
def ordOf (ords:List (List Int)) (ps:List Int) (c:Nat):List Int:=if c=0 then [0] else orderOf ords ps c
set_option maxHeartbeats 1000000 in
theorem Yfq (pss:List (List Int)) (us:List Nat) (ords:List (List Int)) (c:Nat) (hcl:c < pss.length) (hoc:ords.length=c) (hcs:c≤100)
  (hps:∀ p∈pss[c],0≤p) (hok:YcI ords) (hpl:pss[c].length≤3) :
  V.Spec Tryz.prog 232 [.bp 0 0,V.int c] [Yfz pss us 1,.mo (Yj9 ords)] (.tp []) [Yfz pss us 1,.mo (Yj9 (ords++[ordOf ords pss[c] c]))]:=by
 refine Se Tryz.func232 rfl rfl rfl fun B hB=>?_;rw [YoN,hoc];have hnew:=Yra ords c (by omega);(refine goS ?_ ?_<;>intro hc<;>refine go ?_)
 ·have h0:c=0:=by omega
  subst h0;refine go ?_;refine Zax 14 ?_;refine Za8 ?_ hnew;refine go ?_;exact Za1 [0,1]
 ·have hc0:c≠0:=by omega
  have hol:=hok.small (by omega);have hb:=fun all (h:listsOf ords pss[c]=some all)=>Yen h hok (by omega) (by omega) hps
  have hs:=YcW pss us ords c hcl hps (fun o ho=>Nat.le_trans (hol o ho) (by omega)) (by omega);rw [ordOf,if_neg hc0,orderOf]
  cases hls:listsOf ords pss[c] with
  | none =>
    rw [hls] at hs;simp only [Option.getD_none,Option.isSome_none] at hs;simp only [List.append_nil,List.isEmpty_nil,if_true];refine Zaj [0,1] hs Tryz.func245 ?_;refine go ?_;exact Za1 [0,1]
  | some all =>
    obtain ⟨hb1,hb2,hb3⟩:=hb all hls;have hlen:(merge all).1.length≤1000000:=Nat.le_trans (Ygo all) (by omega);rw [hls] at hs;simp only [Option.getD_some,Option.isSome_some] at hs;refine Zaj [0,1] hs Tryz.func245 ?_;refine go ?_;refine OL.c (Ylh all (by omega) (by omega)) Tryz.func246 ?_;refine go ?_;refine Zbl (fun hm=>?_) (fun hm=>?_)
    ·have e:(if (if (merge all).2=true then (c:Int)::((merge all).1++[0]) else []).isEmpty=true then [] else [((c:Int),ints (if (merge all).2=true then (c:Int)::((merge all).1++[0]) else []))])=[((c:Int),AV.sl 1 none (V.int c::((merge all).1.map V.int++[V.int 0])))]:=by simp [hm]
     rw [e,hm];refine go ?_;refine ZcU 6 ?_;(refine Zal (id:=6) false 12 12 ?_<;>refine Zaf 0 1 2 4 ?_<;>refine Zae 5 7 ?_<;>refine ZaJ 3 6 9 ?_ ?_ ?_<;>(first|refine Yaa.at 3 ?_<;>refine Yaa.s ?_<;>refine OD.n2 6 9 ?_ ?_<;>(first|refine Yaa.at 6 ?_<;>(refine Yaa.a ?_;refine OL.lit ?_;refine OL.nil ?_;refine Zab ?_)<;>refine OD.n2 8 9 ?_ ?_<;>(first|refine Yaa.at 8 ?_<;>(refine Yaa.a ?_;refine OL.app ?_;refine OL.nil ?_;refine Zab ?_)<;>(refine Zac 9 ?_;refine OL.lit ?_;refine OL.nil ?_;refine Zab ?_)<;>(refine Zac 10 ?_;refine ZaH ?_;refine OL.nil ?_;refine Zab ?_)<;>(refine Zac 11 ?_;refine Zax 39 ?_;refine Za8 ?_ hnew;refine OL.nil ?_;refine Zab ?_)<;>refine Zaa ?_|refine Yaa.at 9 ?_<;>(refine Yaa.a ?_;refine OL.lit ?_;refine OL.nil ?_;refine Zab ?_)<;>(refine Zac 8 ?_;refine OL.app ?_;refine OL.nil ?_;refine Zab ?_)<;>(refine Zac 10 ?_;refine ZaH ?_;refine OL.nil ?_;refine Zab ?_)<;>(refine Zac 11 ?_;refine Zax 39 ?_;refine Za8 ?_ hnew;refine OL.nil ?_;refine Zab ?_)<;>refine Zaa ?_)|refine Yaa.at 9 ?_<;>(refine Yaa.a ?_;refine OL.lit ?_;refine OL.nil ?_;refine Zab ?_)<;>(refine Zac 6 ?_;refine OL.lit ?_;refine OL.nil ?_;refine Zab ?_)<;>(refine Zac 8 ?_;refine OL.app ?_;refine OL.nil ?_;refine Zab ?_)<;>(refine Zac 10 ?_;refine ZaH ?_;refine OL.nil ?_;refine Zab ?_)<;>(refine Zac 11 ?_;refine Zax 39 ?_;refine Za8 ?_ hnew;refine OL.nil ?_;refine Zab ?_)<;>refine Zaa ?_)|refine Yaa.at 6 ?_<;>(refine Yaa.a ?_;refine OL.lit ?_;refine OL.nil ?_;refine Zab ?_)<;>refine ZaJ 3 8 9 ?_ ?_ ?_<;>(first|refine Yaa.at 3 ?_<;>refine Yaa.s ?_<;>refine OD.n2 8 9 ?_ ?_<;>(first|refine Yaa.at 8 ?_<;>(refine Yaa.a ?_;refine OL.app ?_;refine OL.nil ?_;refine Zab ?_)<;>(refine Zac 9 ?_;refine OL.lit ?_;refine OL.nil ?_;refine Zab ?_)<;>(refine Zac 10 ?_;refine ZaH ?_;refine OL.nil ?_;refine Zab ?_)<;>(refine Zac 11 ?_;refine Zax 39 ?_;refine Za8 ?_ hnew;refine OL.nil ?_;refine Zab ?_)<;>refine Zaa ?_|refine Yaa.at 9 ?_<;>(refine Yaa.a ?_;refine OL.lit ?_;refine OL.nil ?_;refine Zab ?_)<;>(refine Zac 8 ?_;refine OL.app ?_;refine OL.nil ?_;refine Zab ?_)<;>(refine Zac 10 ?_;refine ZaH ?_;refine OL.nil ?_;refine Zab ?_)<;>(refine Zac 11 ?_;refine Zax 39 ?_;refine Za8 ?_ hnew;refine OL.nil ?_;refine Zab ?_)<;>refine Zaa ?_)|refine Yaa.at 8 ?_<;>(refine Yaa.a ?_;refine OL.app ?_;refine OL.nil ?_;refine Zab ?_)<;>refine OD.n2 3 9 ?_ ?_<;>(first|refine Yaa.at 3 ?_<;>refine Yaa.s ?_<;>(refine Zac 9 ?_;refine OL.lit ?_;refine OL.nil ?_;refine Zab ?_)<;>(refine Zac 10 ?_;refine ZaH ?_;refine OL.nil ?_;refine Zab ?_)<;>(refine Zac 11 ?_;refine Zax 39 ?_;refine Za8 ?_ hnew;refine OL.nil ?_;refine Zab ?_)<;>refine Zaa ?_|refine Yaa.at 9 ?_<;>(refine Yaa.a ?_;refine OL.lit ?_;refine OL.nil ?_;refine Zab ?_)<;>refine OD.n2 3 10 ?_ ?_<;>(first|refine Yaa.at 3 ?_<;>refine Yaa.s ?_<;>(refine Zac 10 ?_;refine ZaH ?_;refine OL.nil ?_;refine Zab ?_)<;>(refine Zac 11 ?_;refine Zax 39 ?_;refine Za8 ?_ hnew;refine OL.nil ?_;refine Zab ?_)<;>refine Zaa ?_|refine Yaa.at 10 ?_<;>(refine Yaa.a ?_;refine ZaH ?_;refine OL.nil ?_;refine Zab ?_)<;>refine Zai 3 ?_<;>(refine Zac 11 ?_;refine Zax 39 ?_;refine Za8 ?_ hnew;refine OL.nil ?_;refine Zab ?_)<;>refine Zaa ?_))|refine Yaa.at 9 ?_<;>(refine Yaa.a ?_;refine OL.lit ?_;refine OL.nil ?_;refine Zab ?_)<;>refine OD.n2 3 8 ?_ ?_<;>(first|refine Yaa.at 3 ?_<;>refine Yaa.s ?_<;>(refine Zac 8 ?_;refine OL.app ?_;refine OL.nil ?_;refine Zab ?_)<;>(refine Zac 10 ?_;refine ZaH ?_;refine OL.nil ?_;refine Zab ?_)<;>(refine Zac 11 ?_;refine Zax 39 ?_;refine Za8 ?_ hnew;refine OL.nil ?_;refine Zab ?_)<;>refine Zaa ?_|refine Yaa.at 8 ?_<;>(refine Yaa.a ?_;refine OL.app ?_;refine OL.nil ?_;refine Zab ?_)<;>refine OD.n2 3 10 ?_ ?_<;>(first|refine Yaa.at 3 ?_<;>refine Yaa.s ?_<;>(refine Zac 10 ?_;refine ZaH ?_;refine OL.nil ?_;refine Zab ?_)<;>(refine Zac 11 ?_;refine Zax 39 ?_;refine Za8 ?_ hnew;refine OL.nil ?_;refine Zab ?_)<;>refine Zaa ?_|refine Yaa.at 10 ?_<;>(refine Yaa.a ?_;refine ZaH ?_;refine OL.nil ?_;refine Zab ?_)<;>refine Zai 3 ?_<;>(refine Zac 11 ?_;refine Zax 39 ?_;refine Za8 ?_ hnew;refine OL.nil ?_;refine Zab ?_)<;>refine Zaa ?_)))|refine Yaa.at 9 ?_<;>(refine Yaa.a ?_;refine OL.lit ?_;refine OL.nil ?_;refine Zab ?_)<;>refine OD.n2 3 6 ?_ ?_<;>(first|refine Yaa.at 3 ?_<;>refine Yaa.s ?_<;>(refine Zac 6 ?_;refine OL.lit ?_;refine OL.nil ?_;refine Zab ?_)<;>(refine Zac 8 ?_;refine OL.app ?_;refine OL.nil ?_;refine Zab ?_)<;>(refine Zac 10 ?_;refine ZaH ?_;refine OL.nil ?_;refine Zab ?_)<;>(refine Zac 11 ?_;refine Zax 39 ?_;refine Za8 ?_ hnew;refine OL.nil ?_;refine Zab ?_)<;>refine Zaa ?_|refine Yaa.at 6 ?_<;>(refine Yaa.a ?_;refine OL.lit ?_;refine OL.nil ?_;refine Zab ?_)<;>refine OD.n2 3 8 ?_ ?_<;>(first|refine Yaa.at 3 ?_<;>refine Yaa.s ?_<;>(refine Zac 8 ?_;refine OL.app ?_;refine OL.nil ?_;refine Zab ?_)<;>(refine Zac 10 ?_;refine ZaH ?_;refine OL.nil ?_;refine Zab ?_)<;>(refine Zac 11 ?_;refine Zax 39 ?_;refine Za8 ?_ hnew;refine OL.nil ?_;refine Zab ?_)<;>refine Zaa ?_|refine Yaa.at 8 ?_<;>(refine Yaa.a ?_;refine OL.app ?_;refine OL.nil ?_;refine Zab ?_)<;>refine OD.n2 3 10 ?_ ?_<;>(first|refine Yaa.at 3 ?_<;>refine Yaa.s ?_<;>(refine Zac 10 ?_;refine ZaH ?_;refine OL.nil ?_;refine Zab ?_)<;>(refine Zac 11 ?_;refine Zax 39 ?_;refine Za8 ?_ hnew;refine OL.nil ?_;refine Zab ?_)<;>refine Zaa ?_|refine Yaa.at 10 ?_<;>(refine Yaa.a ?_;refine ZaH ?_;refine OL.nil ?_;refine Zab ?_)<;>refine Zai 3 ?_<;>(refine Zac 11 ?_;refine Zax 39 ?_;refine Za8 ?_ hnew;refine OL.nil ?_;refine Zab ?_)<;>refine Zaa ?_)))))
     all_goals refine go ?_
     all_goals exact Za1 [0,1]
    ·have e:(if (if (merge all).2=true then (c:Int)::((merge all).1++[0]) else []).isEmpty=true then [] else [((c:Int),ints (if (merge all).2=true then (c:Int)::((merge all).1++[0]) else []))])=[]:=by simp [hm]
     rw [e,hm,List.append_nil];refine go ?_;exact Za1 [0,1]
/-! ### What open finds -/
def upK (us:List Nat) (ps:List Int) (c:Nat) (i:Nat):Nat:=(ps.take i).foldl (fun s p=>s ||| us.getD p.toNat 0) (setWith (setWith 0 c) 0)
def Yj8 (us:List Nat) (ps:List Int) (c:Nat):Nat:=upK us ps c ps.length
theorem Yja {us ps c i} (h:i < ps.length) (hp:ps[i].toNat < us.length):upK us ps c (i+1)=upK us ps c i ||| us[ps[i].toNat]:=by
 unfold upK;rw [Yab h,List.foldl_append,List.foldl_cons,List.foldl_nil,Yai hp]
def upsF:List Nat→List (List Int)→List Nat
 | us,[]=>us
 | us,ps::r=>upsF (us++[Yj8 us ps us.length]) r
def ups (g:List (List Int)):List Nat:=upsF [] (parentsOf g)
def oks (g:List (List Int)) (l:List Int):Bool:=fine g&&l.all fun c=>decide (0≤c)&&decide (c < 3+(g.length:Int))
def YnU (g:List (List Int)) (l:List Int):AV:=if oks g l then .tp [.bp 0 0,V.bool true] else .tp [.raw (.pointer none),V.bool false]
def openE (g:List (List Int)) (l:List Int):V.Eta:=if oks g l then [Yfz (parentsOf g) (ups g) 1,.mo (Yj9 (orders g))] else []
set_option maxHeartbeats 2000000 in
theorem YmI (g:List (List Int)) (l:List Int):V.Spec Tryz.prog 208 [YbU g,ints l] [] (YnU g l) (openE g l):=by
 refine Se Tryz.func208 rfl rfl rfl fun B hB=>?_;refine go ?_;refine OL.c (YeG g) Tryz.func207 ?_
 cases hf:fine g
 ·have ho:oks g l=false:=by simp [oks,hf]
  rw [YnU,openE,ho];refine go ?_;exact ZaA [] (.ren rfl) (.ren rfl)
 have h16:=YaP hf;refine go ?_;refine ZaS 18 fun hbl=>?_;refine Zat (fun i:Nat=>[(0,YbU g),(18,ints l),(19,V.int l.length),(20,V.int i)]) (fun _=>[]) (fun i=>i≤l.length∧(l.take i).all (fun c=>decide (0≤c)&&decide (c < 3+(g.length:Int)))=true) (fun i=>l.length-i) 0 [] ⟨Nat.zero_le _,rfl⟩ ?_;rintro i ⟨hi,hall⟩;have hbad:∀ h:i < l.length,(decide (0≤l[i])&&decide (l[i] < 3+(g.length:Int)))=false→oks g l=false:=by
  intro h hb;rw [oks,hf,Bool.true_and,List.all_eq_false];exact ⟨l[i],List.getElem_mem h,by rw [hb];simp⟩
 repeat' (with_reducible first|refine OL.st ?_|refine TC.region ?_|refine TC.seq ?_|refine OL.nil ?_|refine Zap ?_|refine TC.block ?_|refine TC.skip ?_|refine ZaM ?_|refine TC.exit ?_|refine Za3 ?_|refine Za2 ?_|refine ZaY ?_|refine ZaB ?_|refine ZaD ?_|refine Zay ?_ ?_<;>(intro hc;try (exfalso;omega))|refine Zaz ?_ ?_<;>(intro hc;try (exfalso;omega))|refine TC.ret ?_|refine ZaE ?_|refine ZaK ?_|fail)
 ·have ho:=hbad (by omega) (by rw [decide_eq_false (by omega:¬ 0≤l[i])];rfl);rw [YnU,openE,ho];exact ZaA [] (.ren rfl) (.ren rfl)
 ·have ho:=hbad (by omega) (by rw [decide_eq_false (by omega:¬ l[i] < 3+(g.length:Int)),Bool.and_false]);rw [YnU,openE,ho];exact ZaA [] (.ren rfl) (.ren rfl)
 ·refine Zan (i+1) [] ⟨by omega,?_⟩ (by omega);rw [Yab (by omega),List.all_append,hall];simp;omega
 ·rw [Yaf (by omega)] at hall;have hoks:oks g l=true:=by rw [oks,hf,hall];rfl
  have hokc:YcI []:=fun c o h=>by simp at h
  rw [YnU,openE,hoks,if_pos rfl,if_pos rfl];refine go ?_;refine Zb1 (l:=3) (c:=3+g.length) (u:=ints []) (u0:=ints []) ?_ (fun m w γ=>.nil nofun);refine go ?_;have hpe:ints []::ints []::ints []::g.map ints=(parentsOf g).map ints:=by simp [parentsOf]
  have hpl:(parentsOf g).length=3+g.length:=Yar g;have hpl2:((parentsOf g).map ints).length=3+g.length:=by rw [List.length_map,hpl]
  refine ZcU 53 ?_;refine Zbp 2 0 ?_;rw [hpe];refine go ?_;refine ZbO 2 1 276 1 ?_;refine Zat (fun s:List Nat=>[(8,.bp 0 0),(53,YbU (parentsOf g)),(54,V.int ((parentsOf g).map ints).length),(55,V.int s.length)]) (fun s=>[.cb 254 [YbU (parentsOf g),.hs 2,.mp 1],.mo [],.gs false 276 1 none (s.map Ypo)])
   (fun s=>s.length≤3+g.length∧ups g=upsF s ((parentsOf g).drop s.length)∧(∀ u∈s,u < 2 ^ 64)) (fun s=>3+g.length-s.length) [] [2,1,4] ⟨Nat.zero_le _,rfl,by simp⟩ ?_
  rintro us ⟨hcl,hus,hu64⟩;(refine goS ?_ ?_<;>intro hc<;>refine go ?_)
  ·have hclt:us.length < 3+g.length:=by omega
   have hpq:(parentsOf g)[us.length]'(by omega)=pOf g us.length:=by
    have:=YbA hclt
    rw [List.getElem?_eq_getElem (by omega)] at this;simpa using this
   obtain ⟨hp3,hpr,hpn⟩:=YaK hf (c:=(us.length:Int)) (by omega);rw [← hpq] at hp3 hpr hpn;have hdrop:(parentsOf g).drop us.length=(parentsOf g)[us.length]::(parentsOf g).drop (us.length+1):=Yac (by omega);rw [hdrop] at hus;generalize (parentsOf g)[us.length]=ps at *
   have hs1:=Yd4 0 (by decide) us.length (by omega) (by omega);have hlt1:setWith 0 us.length < 2 ^ 64:=Ydc (by decide) (by omega);have hs2:=Yd4 (setWith 0 us.length) hlt1 0 (by omega) (by omega);have hlt2:setWith (setWith 0 us.length) 0 < 2 ^ 64:=Ydc hlt1 (by omega);rw [Int.toNat_natCast] at hs1;rw [Int.toNat_zero] at hs2;refine Zc0 ?_;refine go ?_;refine OL.c hs1 Tryz.func230 ?_;refine go ?_;refine OL.c hs2 Tryz.func230 ?_;refine go ?_;have e0:setWith (setWith 0 us.length) 0=upK us ps us.length 0:=rfl;rw [e0];refine Zat (fun i:Nat=>[(8,.bp 0 0),(11,.bp 3 0),(53,YbU (parentsOf g)),(54,V.int ((parentsOf g).map ints).length),(55,V.int us.length),(64,ints ps),(65,V.int ps.length),(66,V.int i)]) (fun i=>[.cb 254 [YbU (parentsOf g),.hs 2,.mp 1],.mo [],.gs false 276 1 none (us.map Ypo),.cb 276 [V.u64 (upK us ps us.length i)]])
    (fun i=>i≤ps.length∧upK us ps us.length i < 2 ^ 64) (fun i=>ps.length-i) 0 [0,1,2,3] ⟨Nat.zero_le _,hlt2⟩ ?_
   rintro i ⟨hi',hs64⟩;(refine goS ?_ ?_<;>intro hc<;>refine go ?_)
   ·have hpi:=hpr ps[i] (List.getElem_mem _);have hpu:ps[i].toNat < us.length:=by omega
    have hx64:=hu64 _ (List.getElem_mem hpu);have hor:=YjQ (upK us ps us.length i) us[ps[i].toNat] hs64 hx64;have hlt:=Nat.or_lt_two_pow hs64 hx64;rw [← Yja (by omega) hpu] at hor hlt;(refine Zal (id:=18) true 9 10 ?_<;>refine Zaf 0 1 2 3 ?_<;>refine Zaf 4 5 6 7 ?_<;>refine Zah 8 hor Tryz.func231 ?_<;>(refine Zac 9 ?_;refine Zau ?_;refine OL.nil ?_;refine Zab ?_)<;>refine Zaa ?_)
    refine go ?_;exact Zan (i+1) [0,1,2,3] ⟨by omega,hlt⟩ (by omega)
   ·have e1:upK us ps us.length i=Yj8 us ps us.length:=by rw [Yj8,show i=ps.length by omega]
    rw [e1] at hs64;rw [e1];rw [upsF] at hus;have e:us.map Ypo++[Ypo (Yj8 us ps us.length)]=(us++[Yj8 us ps us.length]).map Ypo:=by simp
    have e2:((us.length:Int)+1)=((us++[Yj8 us ps us.length]).length:Nat):=by simp
    (refine Zal (id:=20) false 11 11 ?_<;>refine Zaf 0 1 2 3 ?_<;>refine OD.n2 4 5 ?_ ?_<;>(first|refine Yaa.at 4 ?_<;>refine Yaa.s ?_<;>refine Zai 5 ?_<;>(refine Zac 6 ?_;refine OL.lit ?_;refine OL.nil ?_;refine Zab ?_)<;>(refine Zac 7 ?_;refine ZaH ?_;refine OL.nil ?_;refine Zab ?_)<;>refine Zae 8 9 ?_<;>(refine Zac 10 ?_;refine OL.store ?_;refine OL.nil ?_;refine Zab ?_)<;>refine Zaa ?_|refine Yaa.at 5 ?_<;>refine Yaa.s ?_<;>refine OD.n2 4 6 ?_ ?_<;>(first|refine Yaa.at 4 ?_<;>refine Yaa.s ?_<;>(refine Zac 6 ?_;refine OL.lit ?_;refine OL.nil ?_;refine Zab ?_)<;>(refine Zac 7 ?_;refine ZaH ?_;refine OL.nil ?_;refine Zab ?_)<;>refine Zae 8 9 ?_<;>(refine Zac 10 ?_;refine OL.store ?_;refine OL.nil ?_;refine Zab ?_)<;>refine Zaa ?_|refine Yaa.at 6 ?_<;>(refine Yaa.a ?_;refine OL.lit ?_;refine OL.nil ?_;refine Zab ?_)<;>refine Zai 4 ?_<;>(refine Zac 7 ?_;refine ZaH ?_;refine OL.nil ?_;refine Zab ?_)<;>refine Zae 8 9 ?_<;>(refine Zac 10 ?_;refine OL.store ?_;refine OL.nil ?_;refine Zab ?_)<;>refine Zaa ?_)))
    all_goals refine go ?_
    all_goals refine Zan (us++[Yj8 us ps us.length]) [0,1,5] ⟨by simp;omega,by simpa using hus,fun u hu=>(List.mem_append.1 hu).elim (hu64 u) fun h=>by rw [List.mem_singleton.1 h];exact hs64⟩ (by simp;omega)
  ·have hue:ups g=us:=by rw [hus,Yat (by omega)];rfl
   rw [hue];refine Zbp 0 1 ?_;refine Zat (fun s:List (List Int)=>[(8,.bp 0 0),(95,V.int (parentsOf g).length),(96,V.int s.length)]) (fun s=>[Yfz (parentsOf g) us 1,.mo (Yj9 s)])
    (fun s=>s.length≤(parentsOf g).length∧YcI s∧((s.length=0∧s=[])∨(0 < s.length∧orders g=Ybo s ((parentsOf g).drop s.length)))) (fun s=>(parentsOf g).length-s.length) [] [0,1] ⟨Nat.zero_le _,hokc,.inl ⟨rfl,rfl⟩⟩ ?_
   rintro ords ⟨hcl',hok,hor⟩;(refine goS ?_ ?_<;>intro hc<;>refine go ?_)
   ·have hclt:ords.length < 3+g.length:=by omega
    have hpq:(parentsOf g)[ords.length]'(by omega)=pOf g ords.length:=by
     have:=YbA hclt
     rw [List.getElem?_eq_getElem (by omega)] at this;simpa using this
    obtain ⟨hp3,hpr,hpn⟩:=YaK hf (c:=(ords.length:Int)) (by omega);have hs:=Yfq (parentsOf g) us ords ords.length (by omega) rfl (by omega) (by rw [hpq];intro p hp;have:=hpr p hp;omega) hok (by rw [hpq];exact hp3);rw [hpq] at hs;refine Zaj [0,1] hs Tryz.func232 ?_;refine go ?_;have e2:((ords.length:Int)+1)=((ords++[ordOf ords (pOf g ords.length) ords.length]).length:Nat):=by simp
    refine Zan (ords++[ordOf ords (pOf g ords.length) ords.length]) [0,1] ⟨by simp;omega,?_,.inr ⟨by simp,?_⟩⟩ (by simp;omega)
    ·rcases hor with ⟨h0,rfl⟩|⟨h0,h1⟩
     ·exact YcI.start
     ·rw [ordOf,if_neg (by omega)];refine hok.snoc (YfL hok (fun p hp=>?_) (by omega));have:=hpr p hp
      omega
    ·rcases hor with ⟨h0,rfl⟩|⟨h0,h1⟩
     ·rw [YcV];rfl
     ·rw [h1,Ycn hclt,Ybv,ordOf,if_neg (by omega)];simp
   ·rcases hor with ⟨h0,rfl⟩|⟨h0,h1⟩
    ·omega
    ·rw [Yat (by omega)] at h1;have h1:orders g=ords:=h1;rw [h1];exact ZaA [0,1] (.ren rfl) (.ren rfl)
theorem Yds (l:List Int) (hb:l.length≤1000000000):V.Spec Tryz.prog 103 [ints l] [] (.hs 0) [.gs false 3 1 none (l.map V.int)]:=by
 refine Se Tryz.func103 rfl rfl rfl fun B hB=>?_;refine go ?_;refine Zca (fun h=>?_) ?_
 ·refine go ?_;have e:[]=l.map V.int:=h.symm;refine Zcv 2 3 1 ?_;exact Zad [0] (.ren rfl)
 ·refine go ?_;exact Zad [1] (.ren rfl)
theorem YsB (g:List (List Int)) (c:Int):oks g [c]=okc g c:=by simp [oks,okc]
theorem Yiw (g:List (List Int)) (c:Int):V.Spec Tryz.prog 189 [YbU g,V.int c] [] (.tp [ints (linL g c),V.int (Yq5 g c)]) []:=by
 refine Se Tryz.func189 rfl rfl rfl fun B hB=>?_;have ho:=YmI g [c];rw [YnU,openE,YsB] at ho;refine go ?_;refine Zbs 1 ?_
 cases hok:okc g c
 ·rw [hok] at ho;simp only [Bool.false_eq_true,if_false] at ho;refine OL.c ho Tryz.func208 ?_;refine go ?_;refine ZaA [] (.nil' ?_) (.int ?_)
  ·rw [linL,hok];rfl
  ·rw [Yq5,hok];rfl
 ·rw [hok] at ho;simp only [if_true] at ho;refine OL.c ho Tryz.func208 ?_;have h0:0≤c:=by
   simp only [okc,Bool.and_eq_true,decide_eq_true_eq] at hok;exact hok.2.1
  have hf:fine g=true:=by
   simp only [okc,Bool.and_eq_true] at hok;exact hok.1
  have h16:=YaP hf;have hlen:(at_ (orders g) c).length≤1000000000:=by
   have hs:=(Yb2 hf).1.small (by have:=(Yb2 hf).2;omega);rcases Ynp (ords:=orders g) (p:=c) with e|e
   ·rw [e];simp
   ·exact Nat.le_trans (hs _ e) (by omega)
  refine go ?_;refine OL.lookup ?_ (Ye1 (orders g) c h0);(refine goS ?_ ?_<;>intro hc<;>refine go ?_)
  ·have he:at_ (orders g) c=[]:=List.eq_nil_of_length_eq_zero (by omega);refine ZaA [] (.nil' ?_) (.int ?_)
   ·rw [linL,if_pos hok,he];rfl
   ·rw [Yq5,if_pos hok,he];rfl
  ·refine OL.lookup ?_ (Ye1 (orders g) c h0);refine go ?_;refine OL.c (Yds _ hlen) Tryz.func103 ?_;refine go ?_;refine Za4 4 ?_;refine ZaA [] (.sl' ?_) (.int ?_)
   ·rw [linL,if_pos hok]
   ·rw [Yq5,if_pos hok,if_neg (by omega)]
/-! ### What after finds -/
def upto (n:Nat):List Int:=(List.range n).map fun (k:Nat)=>(k:Int)
theorem Yla (n:Nat):upto (n+1)=upto n++[(n:Int)]:=by simp [upto,List.range_succ]
def Ym0 (x:Nat) (c:Int):Bool:=decide (0≤c)&&decide (c < 64)&&x.testBit c.toNat
end Go.Proofs
namespace Go.V
open Go Go.W
theorem LE.seq {τ} {P:Program} {f:Nat} {fn:Func} {caps:List AV} {α:Type} {ar:α→List AV} {L:List α} (hf:P.funcs[f]?=some fn) (hs:∀ m w vs,VL m w [] vs caps→Yox P f vs.toArray ar L m w) (hc:caps.all pureA=true:=by with_unfolding_all exact rfl)
  (hb : (fn.body.isNone || fn.name == "runtime.NumGoroutine") = false := by with_unfolding_all exact rfl) : LE τ (.fn (.func f) [] caps) (.pr (YnM P ar L)) := by
 intro m w γ γ' _ v hr
 cases hr with
 | @fn _ _ fv cv _ _ l1 l2 h1 h2 =>
   obtain rfl:fv=[]:=List.length_eq_zero_iff.1 l1;exact .pr ⟨f,cv.toArray,fn,rfl,hf,hb,hs m w cv (VL.of l2 fun j v c a b=>YaV (h2 j v c a b) (List.all_eq_true.1 hc c (List.mem_of_getElem? b)))⟩
section
variable {C:Cx} {Q:Qt} {ρ ρ2:Ro} {η η2:Eta} {e:Exit}
theorem Zci {E:Nat} {cs:List AV} (i:Nat) (k:TX C Q e ρ2 η2) (ho:η[i]?=some (.cb E cs):=by with_unfolding_all exact rfl) (hp:cs.all pureA=true:=by with_unfolding_all exact rfl) (hρ:sbr i cs ρ=ρ2:=by (try dsimp only [sbr,sbp,sb0,List.map,Nat.beq,Nat.add_zero,Nat.zero_add,Nat.reduceAdd,cond_true,cond_false])<;>exact rfl) (hη:η.set i .dead=η2:=by (try dsimp only [List.set])<;>exact rfl):TX C Q e ρ η:=by
 subst hρ hη;exact Zbo (Zcw ho hp) k
end
theorem At.mono {P:Program} {α:Type} {ar:α→List AV} {L:List α} {I:It P ar L} {K K':(Nat→Nat)→World→Prop} {ds B} (h:At I K ds B) (hk:∀ m w,K m w→K' m w) (hs:∀ m w m' w',K' m w→Yam I.W.heap.size m w m' w'→K' m' w'):At I K' ds B:=
 ⟨h.ext,h.noS,h.noγ,hs,hk _ _ h.holds,h.marks,h.nodup⟩
theorem LE.seqX {τ} {P:Program} {f:Nat} {fn:Func} {caps:List AV} {α:Type} {ar:α→List AV} {ok:α→Prop} {pv:Value} {L:List α} (hf:P.funcs[f]?=some fn) (hs:∀ m w vs,VL m w [] vs caps→YqS P f vs.toArray ar ok pv L m w) (hc:caps.all pureA=true:=by with_unfolding_all exact rfl)
  (hb : (fn.body.isNone || fn.name == "runtime.NumGoroutine") = false := by with_unfolding_all exact rfl) : LE τ (.fn (.func f) [] caps) (.pr (Ys1 P ar ok pv L)) := by
 intro m w γ γ' _ v hr
 cases hr with
 | @fn _ _ fv cv _ _ l1 l2 h1 h2 =>
   obtain rfl:fv=[]:=List.length_eq_zero_iff.1 l1;exact .pr ⟨f,cv.toArray,fn,rfl,hf,hb,hs m w cv (VL.of l2 fun j v c a b=>YaV (h2 j v c a b) (List.all_eq_true.1 hc c (List.mem_of_getElem? b)))⟩
end Go.V
namespace Go.Proofs
open Go Go.W Go.V
abbrev YbY (p:Prg) (n s:Int):List Pl:=YgE p.nodes 12 n s 1
set_option maxHeartbeats 4000000 in
theorem YpJ (p:Prg) (hpk:∀ x∈p.nodes,x.2.2.length*8≤140737488355328) (n s:Int) (hs:0≤s) (hs2:s < 1000000) (I:ItX Tryz.prog plA (YuM p.nodes) upv (YbY p n s)) :
  Yrs I 192 [.raw (.func (.yield I.l) #[] #[]),.ep (YbB p) 0,.ep [V.int n] 0,.ep [V.int s,V.int 1] 0] [] (YbY p n s) (.tuple #[]):=by
 have hv:=YlM p hpk _ I 12 n s 1 [] (by omega) hs (by omega) (by omega) ⟨[],by simp⟩;rw [List.nil_append] at hv;refine Yrs.enter Tryz.tabOK Tryz.mixed Tryz.func192 rfl rfl rfl fun m0 W0 B hB hA=>?_;with_reducible refine TC.seq ?_
 with_reducible refine TC.region ?_
 with_reducible refine OL.box ?_
 with_reducible refine OL.nil ?_
 with_reducible refine Zap ?_
 refine Za6 4 ?_;with_reducible refine TC.seq ?_
 with_reducible refine TC.region ?_
 with_reducible refine OL.alloc ?_
 with_reducible refine OL.nil ?_
 with_reducible refine Zap ?_
 with_reducible refine TC.seq ?_
 with_reducible refine TC.region ?_
 with_reducible refine OL.st ?_
 with_reducible refine OL.store ?_
 with_reducible refine OL.nil ?_
 with_reducible refine Zap ?_
 refine Zdx (f:=.func 193) (caps:=[yA Tryz.prog I,.ep (YbB p) 0]) 5 13 ?_;rw [show Yp4 (.func 193) [yA Tryz.prog I,.ep (YbB p) 0] 13=.ep [.fn (.func 193) [] [yA Tryz.prog I,.ep (YbB p) 0,Yp4 (.func 193) [yA Tryz.prog I,.ep (YbB p) 0] 12]] 0 from rfl];refine YaF ?_;refine Zb7 hA hv Tryz.func193 rfl (fun B3 hB3 hA3=>?_) (fun B3 hB3 hA3=>?_)
 ·refine YaF ?_;refine Zc3 ?_;exact ZdA hA3
 ·repeat' (first|refine Zam ?_|refine Zak ?_)
  exact ZbS hA3
theorem YkC (p:Prg) (hpk:∀ x∈p.nodes,x.2.2.length*8≤140737488355328) (n s:Int) (hs:0≤s) (hs2:s < 1000000) :
  V.Spec Tryz.prog 166 [Ya0 p,V.int n,.st [V.int s,V.int 1]] [] (.pr (Ys1 Tryz.prog plA (YuM p.nodes) upv (YbY p n s))) []:=by
 refine Se Tryz.func166 rfl rfl rfl fun B hB=>?_;refine goW ?_;refine Zci 0 ?_;refine Zci 1 ?_;refine Zci 2 ?_;exact Zad [] (LE.seqX Tryz.func192 (fun m w vs hv=>YqS.of hv (fun I=>YpJ p hpk n s hs hs2 I)))
end Go.Proofs
namespace Go.V
open Go Go.W
section
variable {P:Program} {N:Nat} {D:List Deferred} {ρ:Ro} {η:Eta} {x:Operand} {X A:Nat} {M:Bool}
theorem Ysn {v:Value} {b:Bool} (hr:∃ u,∀ w,(Instr.typeAssert v X A true).run P w=.ok (.tuple #[u,.bool b]) w) (hx:ev2 ρ x=some (.raw v)):Yaj P N D (.typeAssert x X A true) ρ η (.tp [.junk,.raw (.bool b)]) M:=fun _ _ _ _ _ hE hR hH=>by
 obtain ⟨u,hr⟩:=hr;refine ⟨.tuple #[u,.bool b],.tp (vs:=[u,.bool b]) rfl fun j q c h1 h2=>?_,fun _ _ _ _ _ _=>by simp [execOp,hE.ev (hR.raw hx),hr,Result.andThen]⟩;match j with
 | 0=>simp at h1 h2;subst h1 h2;exact .junk
 | 1=>simp at h1 h2;subst h1 h2;exact .raw rfl
 | j+2=>simp at h1
end
section
variable {C:Cx} {ops:Array Oper} {Q:Qt} {ρ:Ro} {η η2 η1':Eta} {rest:List Oper} {T X A d:Nat} {pos:String} {af:Array Edge} {x:Operand} {args:List Operand} {at_:Array TypeId} {nm:String}
theorem ZbT {v:Value} {b:Bool} (hr:∃ u,∀ w,(Instr.typeAssert v X A true).run C.P w=.ok (.tuple #[u,.bool b]) w) (k:OL C ops Q rest ((d,.tp [.junk,.raw (.bool b)])::ρ) η) (hx:ev2 ρ x=some (.raw v):=by with_unfolding_all exact rfl) (hd:Nat.blt d C.N=true:=by with_unfolding_all exact rfl) :
  OL C ops Q (⟨some d,.typeAssert x X A true,T,pos,af,none⟩::rest) ρ η:=ZaG (Ysn hr hx) hd k
theorem One.inv {f:Nat} {iv rv:Value} {u0:AV} {us vs2:List AV} {r r2} (hs:Spec C.P f vs2 [] r η1') (hm:∀ xs w,(callMethod iv nm xs).run C.P w=.ok (.enter f (#[rv]++xs)) w) (hrv:∀ m w γ,Rep m w γ rv u0) (hx:ev2 ρ x=some (.raw iv)) (hl:Yc6 ρ args=some us)
  (hle:LEs (ts []) (u0::us) vs2) (hd:Nat.blt d C.N=true) (hr:ren (back [] η.length) r=r2) (hη:η++η1'.map (renO (back [] η.length))=η2) :
  Yli C ops Q ⟨some d,.call ⟨.invoke x nm,args.toArray,at_⟩,T,pos,af,none⟩ ρ η ((d,r2)::ρ) η2:=by
 rintro a w Kc ⟨m,γ,ρc,hE,hR,hI⟩ k;obtain ⟨vs,h1,h2⟩:=hR.evs hl;obtain ⟨hsh,hH1,_⟩:=hI.heap.sel (η':=[]) (σ:=[]) rfl trivial;have hc:=hs m w _ (rv::vs) hH1 (hle.vl hsh ⟨hrv _ _ _,h2⟩);refine (Ycf (f:=f) (args:=(rv::vs).toArray) rfl ?_ (hc.mono fun e w' ⟨v,m',γ1',he,hC,hv⟩=>⟨v,he,?_⟩))
 ·have e1:a.eval x=iv:=hE.ev (hR.raw hx);simp [execOp,resolve,invoke,e1,hE.evs h1,hm]
 ·obtain ⟨γ2,p1,p2,p3,p4⟩:=hI.call (is:=[]) (η1:=[]) rfl trivial hC;subst hr hη;have hfar:Far [] m w m' w':=hC.far;exact k _ _ hfar.keep.grown ⟨m',γ2,_,hE.put v (by simpa using hd),⟨rfl,YdC p2 hv,hR.mono p4 p1⟩,by simpa [upd] using p3⟩
theorem OL.inv {P:Program} {f:Nat} {iv rv:Value} {u0:AV} {us vs2:List AV} {r r2} {n:Nat} (hs:Spec P f vs2 [] r η1') (hm:∀ xs w,(callMethod iv nm xs).run P w=.ok (.enter f (#[rv]++xs)) w) (hrv:∀ m w γ,Rep m w γ rv u0) (k:OL C ops Q rest ((d,r2)::ρ) η2) (hP:C.P=P:=by with_unfolding_all exact rfl) (hx:ev2 ρ x=some (.raw iv):=by with_unfolding_all exact rfl) (hl:Yc6 ρ args=some us:=by with_unfolding_all exact rfl)
  (hle:LEs (ts []) (u0::us) vs2:=by repeat' (first|with_unfolding_all exact trivial|exact LE.ren (by with_unfolding_all exact rfl)|with_unfolding_all exact LE.sl|with_unfolding_all exact LE.nil (by decide)|with_unfolding_all refine And.intro ?_ ?_)) (hd:Nat.blt d C.N=true:=by with_unfolding_all exact rfl)
  (hk:η.length=n:=by (try dsimp only [List.length])<;>exact rfl) (hr:ren (fun j=>some (n+j)) r=r2:=by (try dsimp only [ren,ren0,ren1,ren2,List.map,Nat.add_zero,Nat.zero_add,Nat.reduceAdd])<;>exact rfl)
  (hη:η++η1'.map (renO (fun j=>some (n+j)))=η2:=by (try dsimp only [renO,ren,ren0,ren1,ren2,List.map,List.cons_append,List.nil_append,Nat.add_zero,Nat.zero_add,Nat.reduceAdd])<;>exact rfl) :
  OL C ops Q (⟨some d,.call ⟨.invoke x nm,args.toArray,at_⟩,T,pos,af,none⟩::rest) ρ η:=by
 subst hk hP;exact OL.one (One.inv hs hm hrv hx hl hle hd (by rw [Yc2];exact hr) (by rw [Yc2];exact hη)) k
end
end Go.V
namespace Go.Proofs
open Go Go.W Go.V
theorem YoC:∃ u,∀ w,(Instr.typeAssert .nilIface 206 208 true).run Tryz.prog w=.ok (.tuple #[u,.bool false]) w:=⟨.int .i64 0,fun w=>by kernel_rfl⟩
theorem YoT:∃ u,∀ w,(Instr.typeAssert .nilIface 206 210 true).run Tryz.prog w=.ok (.tuple #[u,.bool false]) w:=⟨.agg #[],fun w=>by kernel_rfl⟩
theorem Yqn (m:Int):∃ u,∀ w,(Instr.typeAssert (.iface 208 (.int .i64 m)) 206 208 true).run Tryz.prog w=.ok (.tuple #[u,.bool true]) w:=⟨.int .i64 m,fun w=>by kernel_rfl⟩
theorem Yqs (m:Int):∃ u,∀ w,(Instr.typeAssert (.iface 208 (.int .i64 m)) 206 210 true).run Tryz.prog w=.ok (.tuple #[u,.bool false]) w:=⟨.agg #[],fun w=>by kernel_rfl⟩
theorem YqB:∃ u,∀ w,(Instr.typeAssert (.iface 210 (.agg #[])) 206 208 true).run Tryz.prog w=.ok (.tuple #[u,.bool false]) w:=⟨.int .i64 0,fun w=>by kernel_rfl⟩
theorem Yrc:∃ u,∀ w,(Instr.typeAssert (.iface 210 (.agg #[])) 206 210 true).run Tryz.prog w=.ok (.tuple #[u,.bool true]) w:=⟨.agg #[],fun w=>by kernel_rfl⟩
theorem Yff (m : Int) (xs : Array Value) (w : World) : (callMethod (.iface 208 (.int .i64 m)) "consort/bind.many" xs).run Tryz.prog w = .ok (.enter 279 (#[.int .i64 m] ++ xs)) w := by kernel_rfl
theorem Yfr (xs : Array Value) (w : World) : (callMethod (.iface 210 (.agg #[])) "consort/bind.many" xs).run Tryz.prog w = .ok (.enter 280 (#[.agg #[]] ++ xs)) w := by kernel_rfl
def manyV (p:Prg) (x:Nd):Option Int:=
 if x.1=5 then p.gens[x.2.1.toNat]? else
 if x.1=1∨x.1=2∨x.1=3∨x.1=6∨x.1=18 then some 0 else
 if x.1=4∨x.1=8∨x.1=17 then some 1 else
 if x.1=7∨x.1=9∨x.1=11∨x.1=12∨x.1=13∨x.1=14∨x.1=15∨x.1=16 then some 2 else
 if x.1=10 then some 3 else none
theorem Ykf (p:Prg) (x:Nd):(x.1=5∧Ybg x.1=.iface 210 (.agg #[]))∨(x.1≠5∧∃ m,manyV p x=some m∧Ybg x.1=.iface 208 (.int .i64 m))∨(x.1≠5∧manyV p x=none∧Ybg x.1=.nilIface):=by
 unfold manyV Ybg;by_cases h:x.1=5
 ·left;exact ⟨h,by rw [if_pos h]⟩
 right;rw [if_neg h,if_neg h];by_cases h0:x.1=1∨x.1=2∨x.1=3∨x.1=6∨x.1=18
 ·left;exact ⟨h,0,by rw [if_pos h0],by rw [if_pos h0]⟩
 rw [if_neg h0,if_neg h0];by_cases h1:x.1=4∨x.1=8∨x.1=17
 ·left;exact ⟨h,1,by rw [if_pos h1],by rw [if_pos h1]⟩
 rw [if_neg h1,if_neg h1];by_cases h2:x.1=7∨x.1=9∨x.1=11∨x.1=12∨x.1=13∨x.1=14∨x.1=15∨x.1=16
 ·left;exact ⟨h,2,by rw [if_pos h2],by rw [if_pos h2]⟩
 rw [if_neg h2,if_neg h2];by_cases h3:x.1=10
 ·left;exact ⟨h,3,by rw [if_pos h3],by rw [if_pos h3]⟩
 rw [if_neg h3,if_neg h3];right;exact ⟨h,rfl,rfl⟩
def YbP (p:Prg) (next:Bool) (out:List Int) (x:Pl):Option (List Int):=
 if 0≤x.1∧x.1 < p.nodes.length∧out.getD x.1.toNat 0 < 0∧x.2.2≤12 then
  if YbE p (nodeAt p.nodes x.1) x.2.1=true∧(next=true∨(nodeAt p.nodes x.1).1≠18)∧manyV p (nodeAt p.nodes x.1)=some ((nodeAt p.nodes x.1).2.2.length:Int) then some (out.set x.1.toNat x.2.1) else none
 else none
def YcA (p:Prg) (next:Bool) (out:List Int) (l:List Pl):Option (List Int):=l.foldlM (YbP p next) out
theorem YlF (p:Prg) (next:Bool) (out:List Int) (l:List Pl) (x:Pl):YcA p next out (l++[x])=(YcA p next out l).bind fun o=>YbP p next o x:=by
 simp [YcA,List.foldlM_append]
theorem Ydr (p:Prg) (next:Bool) (out:List Int) (l r:List Pl):YcA p next out (l++r)=(YcA p next out l).bind fun o=>YcA p next o r:=by
 simp [YcA,List.foldlM_append]
theorem Ypm {p:Prg} {next:Bool} {out o:List Int} {x:Pl} (h:YbP p next out x=some o):o.length=out.length:=by
 unfold YbP at h;split at h
 ·split at h
  ·cases h;simp
  ·cases h
 ·cases h
theorem Yqi {p:Prg} {next:Bool} {out o:List Int} {x:Pl} (h:YbP p next out x=some o):YuM p.nodes x:=by
 unfold YbP at h;split at h
 ·rename_i h1;exact ⟨h1.1,h1.2.1,h1.2.2.2⟩
 ·cases h
theorem Ye5 {p:Prg} {next:Bool}:∀ {l:List Pl} {out o:List Int},YcA p next out l=some o→o.length=out.length
 | [],out,o,h=>by simp [YcA] at h;rw [h]
 | x::l,out,o,h=>by
   have e:=Ydr p next out [x] l;rw [List.singleton_append,h] at e
   cases h1:YcA p next out [x] with
   | none=>rw [h1] at e;cases e
   | some o1 =>
     rw [h1] at e;have h2:YbP p next out x=some o1:=by simpa [YcA] using h1
     rw [Ye5 e.symm,Ypm h2]
theorem Yp3 {p:Prg} {next:Bool}:∀ {l:List Pl} {out o:List Int},YcA p next out l=some o→∀ x∈l,YuM p.nodes x
 | [],_,_,_=>by simp
 | x::l,out,o,h=>by
   have e:=Ydr p next out [x] l;rw [List.singleton_append,h] at e
   cases h1:YcA p next out [x] with
   | none=>rw [h1] at e;cases e
   | some o1 =>
     rw [h1] at e;have h2:YbP p next out x=some o1:=by simpa [YcA] using h1
     intro y hy;rcases List.mem_cons.1 hy with rfl|hy
     ·exact Yqi h2
     ·exact Yp3 e.symm y hy
abbrev Fct.op:Fct→Int|.mk op _ _ _ _ _=>op
abbrev Fct.arg:Fct→Int|.mk _ a _ _ _ _=>a
abbrev Fct.path:Fct→List Int|.mk _ _ p _ _ _=>p
abbrev Fct.cls:Fct→Int|.mk _ _ _ c _ _=>c
abbrev Fct.n:Fct→Int|.mk _ _ _ _ n _=>n
abbrev Fct.kids:Fct→List Fct|.mk _ _ _ _ _ k=>k
mutual
def nodesF:Fct→Nat
 | .mk _ _ _ _ _ kids=>1+nodesL kids
def nodesL:List Fct→Nat
 | []=>0
 | f::r=>nodesF f+nodesL r
end
mutual
def depthF:Fct→Nat
 | .mk _ _ _ _ _ kids=>depthL kids+1
def depthL:List Fct→Nat
 | []=>0
 | f::r=>max (depthF f) (depthL r)
end
abbrev YcE (op:Int):Bool:=decide (op=2) || (decide (op=3) || decide (op=4))
mutual
def Ybf:Fct→Int
 | .mk op arg _ _ _ kids=>max (if YcE op then arg+1 else 0) (speaksL kids)
def speaksL:List Fct→Int
 | []=>0
 | f::r=>max (Ybf f) (speaksL r)
end
def Yeh (op:Int):Nat:=if op=5 then 1 else if op=6∨op=7 then 2 else 0
def Yig (no:Nat) (l:List Int):Bool:=decide (l.length≤2)&&l.all fun s=>decide (0≤s)&&decide (s < (no:Int))
def Yl2 (np no:Nat):Fct→Bool
 | .mk op arg path cls n kids=>(decide (1≤op)&&decide (op≤7)&&decide (kids.length=Yeh op)) &&
   (if YcE op then ((decide (0≤arg)&&decide (arg < 3))&&Yig no path)&&(if op=2 then decide (n=0)&&(decide (0≤cls)&&decide (cls < 3+(np:Int))) else decide (cls=0)&&YaE n)
    else (decide (arg=0)&&decide (path.length=0))&&(decide (cls=0)&&decide (n=0)))
mutual
def nodeOkB (np no:Nat):Fct→Bool
 | .mk op arg path cls n kids=>Yl2 np no (.mk op arg path cls n kids)&&nodesOkB np no kids
def nodesOkB (np no:Nat):List Fct→Bool
 | []=>true
 | f::r=>nodeOkB np no f&&nodesOkB np no r
end
def okF (np no:Nat) (left deep:Int) (f:Fct):Bool:=(decide ((nodesF f:Int)≤left)&&decide ((depthF f:Int)≤deep))&&nodeOkB np no f
def okFs (np no:Nat) (left deep:Int) (l:List Fct):Bool:=(decide ((nodesL l:Int)≤left)&&decide ((depthL l:Int)≤deep))&&nodesOkB np no l
theorem Yby (f:Fct):1≤nodesF f:=by cases f;rw [nodesF];omega
theorem YnX (f:Fct):1≤depthF f:=by cases f;rw [depthF];omega
theorem YfG (a b:List Fct):nodesL (a++b)=nodesL a+nodesL b:=by
 induction a with
 | nil=>simp [nodesL]
 | cons f r ih=>rw [List.cons_append,nodesL,nodesL,ih];omega
theorem YiA (a b:List Fct):depthL (a++b)=max (depthL a) (depthL b):=by
 induction a with
 | nil=>simp [depthL]
 | cons f r ih=>rw [List.cons_append,depthL,depthL,ih];omega
theorem Yej (a:List Fct):0≤speaksL a:=by
 induction a with
 | nil=>simp [speaksL]
 | cons f r ih=>rw [speaksL];omega
theorem Ymr (a b:List Fct):speaksL (a++b)=max (speaksL a) (speaksL b):=by
 induction a with
 | nil=>have:=Yej b;simp [speaksL];omega
 | cons f r ih=>rw [List.cons_append,speaksL,speaksL,ih];omega
theorem Ygd (np no:Nat) (a b:List Fct):nodesOkB np no (a++b)=(nodesOkB np no a&&nodesOkB np no b):=by
 induction a with
 | nil=>simp [nodesOkB]
 | cons f r ih=>rw [List.cons_append,nodesOkB,nodesOkB,ih,Bool.and_assoc]
theorem YeA (a:List Fct) (f:Fct):nodesL (a++[f])=nodesL a+nodesF f:=by rw [YfG,nodesL,nodesL];omega
theorem Yht (a:List Fct) (f:Fct):depthL (a++[f])=max (depthL a) (depthF f):=by rw [YiA,depthL,depthL];omega
theorem Yc0 (a:List Fct) (f:Fct):speaksL (a++[f])=max (speaksL a) (Ybf f):=by
 rw [Ymr,speaksL,speaksL];have:=Yej a
 omega
theorem YjV (np no:Nat) (a:List Fct) (f:Fct):nodesOkB np no (a++[f])=(nodesOkB np no a&&nodeOkB np no f):=by rw [Ygd,nodesOkB,nodesOkB,Bool.and_true]
theorem YgL (np no:Nat) (left deep:Int) (h0:0≤left) (h1:0≤deep):okFs np no left deep []=true:=by simp [okFs,nodesL,depthL,nodesOkB,h0,h1]
theorem Yk2 (np no:Nat) (left deep:Int) (a:List Fct) (f:Fct):okFs np no left deep (a++[f])=(okFs np no left deep a&&okF np no (left-nodesL a) deep f):=by
 rw [okFs,okFs,okF,YeA,Yht,YjV];rw [Bool.eq_iff_iff];simp only [Bool.and_eq_true,decide_eq_true_eq];have:=Yby f
 constructor
 ·rintro ⟨⟨h1,h2⟩,h3,h4⟩;refine ⟨⟨⟨?_,?_⟩,h3⟩,⟨?_,?_⟩,h4⟩<;>omega
 ·rintro ⟨⟨⟨h1,h2⟩,h3⟩,⟨h4,h5⟩,h6⟩;refine ⟨⟨?_,?_⟩,h3,h6⟩<;>omega
theorem YoV (np no:Nat) (left deep:Int) (l:List Fct) (k:Nat) (h:okFs np no left deep l=true):okFs np no left deep (l.take k)=true:=by
 have e:l=l.take k++l.drop k:=(List.take_append_drop k l).symm;rw [okFs] at h ⊢;rw [e,YfG,YiA,Ygd] at h;simp only [Bool.and_eq_true,decide_eq_true_eq] at h ⊢;obtain ⟨⟨h1,h2⟩,h3,h4⟩:=h;exact ⟨⟨by omega,by omega⟩,h3⟩
theorem YuY (np no:Nat) (left deep:Int) (f:Fct):okF np no left deep f=(Yl2 np no f&&(decide (1≤left)&&decide (1≤deep))&&okFs np no (left-1) (deep-1) f.kids):=by
 obtain ⟨op,arg,path,cls,n,kids⟩:=f;rw [okF,okFs,nodesF,depthF,nodeOkB,Bool.eq_iff_iff];simp only [Bool.and_eq_true,decide_eq_true_eq,Fct.kids];constructor
 ·rintro ⟨⟨h1,h2⟩,h3,h4⟩;exact ⟨⟨h3,by omega,by omega⟩,⟨by omega,by omega⟩,h4⟩
 ·rintro ⟨⟨h3,h5,h6⟩,⟨h1,h2⟩,h4⟩;exact ⟨⟨by omega,by omega⟩,h3,h4⟩
theorem YfN (np no:Nat) (f:Fct):nodeOkB np no f=(Yl2 np no f&&nodesOkB np no f.kids):=by cases f;rw [nodeOkB]
theorem Yfj (f:Fct):nodesF f=1+nodesL f.kids:=by cases f;rw [nodesF]
theorem Yhy (f:Fct):depthF f=depthL f.kids+1:=by cases f;rw [depthF]
theorem Yiz (f:Fct):Ybf f=max (if YcE f.op then f.arg+1 else 0) (speaksL f.kids):=by cases f;rw [Ybf]
theorem YdV {f k:Fct} (h:k∈f.kids):nodesF k < nodesF f:=by
 rw [Yfj f];have:∀ l:List Fct,k∈l→nodesF k≤nodesL l:=by
  intro l;induction l with
  | nil=>simp
  | cons x r ih =>
    intro h;rw [nodesL];rcases List.mem_cons.1 h with rfl|h
    ·omega
    ·have:=ih h;omega
 have:=this _ h
 omega
theorem YnI {l:List Fct} {k:Fct} (h:k∈l):depthF k≤depthL l:=by
 induction l with
 | nil=>simp at h
 | cons x r ih =>
   rw [depthL];rcases List.mem_cons.1 h with rfl|h
   ·omega
   ·have:=ih h;omega
end Go.Proofs
