/- Lemmas for the claim; no conditions. -/
import Derived.Test.YtdjhogobbbnddaaGreatC23
import Derived.Test.YtdjhogobbbnddaaGreatC18
import Derived.Test.YtdjhogobbbnddaaGreatC47
import Derived.Test.YtdjhogobbbnddaaGreatC33
import Derived.Test.YtdjhogobbbnddaaGreatC48
import Derived.Test.YtdjhogobbbnddaaGreatC29
import Derived.Test.YtdjhogobbbnddaaGreatC25
import Derived.Test.YtdjhogobbbnddaaGreatC31
namespace Go.V
open Go Go.W Go.Proofs
section
variable {C:Cx} {ops:Array Oper} {Q:Qt} {ρ:Ro} {η η2:Eta} {rest:List Oper} {T d X:Nat} {pos:String} {af:Array Edge} {x y:Operand}
theorem YrO {M:Bool} {i len E:Nat} {j:Int} (n:Nat) (hs:(C.tab X).map (·.sh)=some (.array len E):=by with_unfolding_all exact rfl) (hz:(C.tab E).map (·.size)=some 1:=by with_unfolding_all exact rfl)
  (hx:ev2 ρ x=some (.bp i 2):=by with_unfolding_all exact rfl) (hy:ev2 ρ y=some (.raw (.int .i64 j)):=by with_unfolding_all exact rfl) (hj:j=(n:Nat):=by omega) (hn:n < len:=by omega):Yaj C.P C.N C.D (.indexAddr X x y) ρ η (.bp i (2+n)) M:=
 YcZ C.hT hs hz hx hy hj hn (u':=.bp i (2+n)) (by simp [Ygb])
theorem ZcI {i len E:Nat} {j:Int} (n:Nat) (k:OL C ops Q rest ((d,.bp i (2+n))::ρ) η) (hs:(C.tab X).map (·.sh)=some (.array len E):=by with_unfolding_all exact rfl) (hz:(C.tab E).map (·.size)=some 1:=by with_unfolding_all exact rfl)
  (hx:ev2 ρ x=some (.bp i 2):=by with_unfolding_all exact rfl) (hy:ev2 ρ y=some (.raw (.int .i64 j)):=by with_unfolding_all exact rfl) (hd:Nat.blt d C.N=true:=by with_unfolding_all exact rfl) (hj:j=(n:Nat):=by omega) (hn:n < len:=by omega):OL C ops Q (⟨some d,.indexAddr X x y,T,pos,af,none⟩::rest) ρ η:=
 ZaG (YrO n hs hz hx hy hj hn) hd k
theorem Zdo {i E n:Nat} {g:List (List Int)} {ow:List Int} {us:List Nat} (k:∀ hn:n < us.length,OL C ops Q rest ((d,V.u64 us[n])::ρ) η) (hs:(C.tab X).map (·.sh.agg)=some false:=by with_unfolding_all exact rfl)
  (hx:ev2 ρ x=some (.bp i (2+n)):=by with_unfolding_all exact rfl) (ho:η[i]?=some (.cb E (wC g ow us)):=by with_unfolding_all exact rfl) (hd:Nat.blt d C.N=true:=by with_unfolding_all exact rfl) (hn:n < us.length:=by omega):OL C ops Q (⟨some d,.load X x,T,pos,af,none⟩::rest) ρ η:=
 ZaG (Yg8 (cs:=wC g ow us) (o:=2+n) C.hT hs hx (by simp only [YaJ,ho]) (by rw [Nat.add_comm];simp [hn])) hd (k hn)
theorem ZcJ {i E n:Nat} {g:List (List Int)} {ow:List Int} {us:List Nat} {v:Nat} (k:OL C ops Q rest ρ η2) (hs:(C.tab X).map (fun e=>(e.sh.agg,e.size))=some (false,1):=by with_unfolding_all exact rfl)
  (hx:ev2 ρ x=some (.bp i (2+n)):=by with_unfolding_all exact rfl) (hy:ev2 ρ y=some (V.u64 v):=by with_unfolding_all exact rfl) (ho:η[i]?=some (.cb E (wC g ow us)):=by with_unfolding_all exact rfl) (hη:η.set i (.cb E (wC g ow (us.set n v)))=η2:=by (try dsimp only [List.set])<;>exact rfl) (hn:n < us.length:=by omega):OL C ops Q (⟨none,.store X x y,T,pos,af,none⟩::rest) ρ η:=
 OL.store (cs:=wC g ow us) (o:=2+n) (u:=V.u64 v) (u0:=V.u64 us[n]) k hs hx hy rfl rfl ho (by rw [Nat.add_comm];simp [hn]) (by rw [← hη];congr 2;rw [Nat.add_comm];simp [List.map_set])
end
theorem OE.wC {τ T} {g:List (List Int)} {ow:List Int} {us us':List Nat} (h:us=us'):OE τ (.cb T (wC g ow us)) (.cb T (wC g ow us')):=by
 subst h;refine OE.ren ?_;simp only [renO,List.map_append,List.map_map,List.map_cons,List.map_nil];congr 1
theorem Yso (g:List (List Int)) (ow:List Int) (us:List Nat):(wC g ow us).all pureA=true:=by
 simp [pureA]
end Go.V
namespace Go.Proofs
open Go Go.W Go.V
theorem Ygz (l:List Fct) (p:Fct→Bool):V.Spec Tryz.prog 261 [.sl 6 none (l.map Yck),Ye8 Tryz.prog Yck (·∈l) p] [] (V.int (Yb3 p 0 l)) []:=by
 refine Se Tryz.func261 rfl rfl rfl fun B hB=>?_;refine ZaS 0 fun hl=>?_;refine goW ?_;refine Zat (fun k:Nat=>[(0,.sl 6 none (l.map Yck)),(1,Ye8 Tryz.prog Yck (·∈l) p),(7,V.int l.length),(8,V.int k)]) (fun _=>[]) (fun k=>k≤l.length∧Yb3 p 0 l=Yb3 p k (l.drop k)) (fun k=>l.length-k) 0 [] ⟨Nat.zero_le _,rfl⟩ ?_;rintro k ⟨hk,hinv⟩;(refine YnB ?_ ?_<;>intro hc<;>refine goW ?_)
 ·refine Zbm l[k] (List.getElem_mem _) ?_;refine goW ?_;refine Zbl (fun hp=>?_) (fun hp=>?_)
  ·refine goW ?_;refine Zad [] (.int ?_);rw [hinv,Yac (by omega)];simp [Yb3,hp]
  ·refine goW ?_;refine Zan (k+1) [] ⟨by omega,?_⟩ (by omega);rw [hinv,Yac (by omega)];simp [Yb3,hp]
 ·refine Zad [] (.int ?_);rw [hinv,Yat (by omega)];rfl
theorem YeD (l:List Fct) (p:Fct→Bool):V.Spec Tryz.prog 249 [.sl 6 none (l.map Yck),Ye8 Tryz.prog Yck (·∈l) p] [] (V.bool (l.any p)) []:=by
 refine Se Tryz.func249 rfl rfl rfl fun B hB=>?_;refine goW ?_;refine OL.c (Ygz l p) Tryz.func261 ?_;refine goW ?_;refine Zad [] (.bool ?_)
 cases h:l.any p
 ·rw [decide_eq_false];intro h';rw [(Ya7 _ _ _).1 h'] at h;cases h
 ·exact decide_eq_true ((Ya7 _ _ _).2 h)
theorem YjP (dom:Fct→Prop) (p:Fct→Bool) (x:Fct) (hx:dom x):V.Spec Tryz.prog 250 [Yck x,.ep [Ye8 Tryz.prog Yck dom p] 0] [] (V.bool (!p x)) []:=by
 refine Se Tryz.func250 rfl rfl rfl fun B hB=>?_;refine goW ?_;refine Zbm x hx ?_;refine goW ?_;exact Zad [] (.ren rfl)
theorem YmL (l:List Fct) (p:Fct→Bool):V.Spec Tryz.prog 236 [.sl 6 none (l.map Yck),Ye8 Tryz.prog Yck (·∈l) p] [] (V.bool (l.all p)) []:=by
 have h:=YeD l (fun x=>!p x);refine Se Tryz.func236 rfl rfl rfl fun B hB=>?_;refine goW ?_;refine ZbN 0 ?_;refine OL.c h Tryz.func249 ?_ (hle:=by exact ⟨.ren rfl,LE.fun_ (first':=[]) (caps':=[.ep [Ye8 Tryz.prog Yck (·∈l) p] 0]) Tryz.func250 rfl trivial ⟨.ren rfl,trivial⟩ (fun x hx=>YjP (·∈l) p x hx),trivial⟩);refine goW ?_;refine Zad [] (.bool ?_);rw [List.not_any_eq_all_not];simp
section
variable (g:List (List Int)) (ow:List Int) (us:List Nat)
theorem YhU (hgb:g.length≤1000000) (f:Fct):V.Spec Tryz.prog 237 [Yck f,.ep [wP g ow us] 0] [] (V.bool (okF g.length ow.length 24 12 f)) []:=by
 have h:=Yl4 g ow us hgb 12 (Nat.le_refl _) f 24 (by omega) (by omega);refine Se Tryz.func237 rfl rfl rfl fun B hB=>?_;refine goW ?_;refine Zaj [1] h Tryz.func238 ?_;refine goW ?_;exact Zad [] (.ren rfl)
theorem Yje (hgb:g.length≤1000000) (l:List Fct):V.Spec Tryz.prog 212 [wP g ow us,.sl 6 none (l.map Yck)] [] (V.bool (l.all fun f=>okF g.length ow.length 24 12 f)) []:=by
 have h:=YmL l fun f=>okF g.length ow.length 24 12 f
 refine Se Tryz.func212 rfl rfl rfl fun B hB=>?_;refine goW ?_;refine ZbN 0 ?_;refine OL.c h Tryz.func236 ?_ (hle:=by exact ⟨.ren rfl,LE.fun_ (first':=[]) (caps':=[.ep [wP g ow us] 0]) Tryz.func237 rfl trivial ⟨.ren rfl,trivial⟩ (fun x hx=>YhU g ow us hgb x),trivial⟩);refine goW ?_;exact Zad [] (.ren rfl)
end
/-! ## Worlds are opened -/
theorem Yhz (x:Nat) (hx:x < 2 ^ 64) (c:Int) (h0:0≤c) (h1:c < 64):V.Spec Tryz.prog 233 [V.u64 x,V.int c] [] (V.u64 (setWith x c.toNat)) []:=by
 refine Se Tryz.func233 rfl rfl rfl fun B hB=>?_;refine goW ?_;exact Zad [] (.ren rfl)
theorem Ym6:∀ (a b:List (List Int)) (us:List Nat),upsF us (a++b)=upsF (upsF us a) b
 | [],b,us=>rfl
 | p::r,b,us=>by rw [List.cons_append,upsF,upsF,Ym6 r b]
theorem Yrr {g:List (List Int)} {k:Nat} (h:k < g.length):ups (g.take (k+1))=ups (g.take k)++[Yj8 (ups (g.take k)) g[k] (3+k)]:=by
 have e:(ups (g.take k)).length=3+k:=by rw [Ydf,List.length_take,Nat.min_eq_left (by omega)]
 rw [ups,parentsOf,Yab h,← List.append_assoc,Ym6];rw [show upsF [] ([[],[],[]]++g.take k)=ups (g.take k) from rfl,upsF,upsF,e]
def usT (g:List (List Int)) (k:Nat):List Nat:=ups (g.take k)++List.replicate (60-k) 0
def usF (g:List (List Int)):List Nat:=usT g g.length
theorem YpL {g:List (List Int)} {k:Nat} (hk:k≤g.length) (h60:g.length≤60):(usT g k).length=63:=by
 rw [usT,List.length_append,Ydf,List.length_take,List.length_replicate];omega
theorem Ys0 {g:List (List Int)} {k:Nat} (hk:k < g.length) (h60:g.length≤60):(usT g k).set (3+k) (Yj8 (ups (g.take k)) g[k] (3+k))=usT g (k+1):=by
 have e:(ups (g.take k)).length=3+k:=by rw [Ydf,List.length_take,Nat.min_eq_left (by omega)]
 rw [usT,usT,Yrr hk,List.set_append_right _ _ (by omega),e,Nat.sub_self,show 60-k=(60-(k+1))+1 by omega,List.replicate_succ,List.set_cons_zero,List.append_assoc];rfl
theorem Ys5 {g:List (List Int)} {k p:Nat} (hk:k≤g.length) (hp:p < 3+k) (h:p < (usT g k).length):(usT g k)[p]=(ups (g.take k)).getD p 0:=by
 have e:(ups (g.take k)).length=3+k:=by rw [Ydf,List.length_take,Nat.min_eq_left (by omega)]
 rw [Yai (by omega)];exact List.getElem_append_left (by omega)
theorem Ytc {g:List (List Int)} (h60:g.length≤60) (k:Nat):∀ u∈ups (g.take k),u < 2 ^ 64:=Ymj _ [] (by rw [Yar,List.length_take];simp;omega) (by simp)
set_option maxHeartbeats 4000000 in
theorem Yl8 (g:List (List Int)) (ow:List Int) (hf:fine g=true) (how:∀ o∈ow,3≤o∧o < 3+(g.length:Int)) (h40:ow.length≤40) :
  V.Spec Tryz.prog 211 [fwA g ow] [] (.tp [wP g ow (usF g),V.bool true]) []:=by
 have h16:=YaP hf;have hal:=Yel ow (fun c=>decide (3≤c)&&decide (c < 3+(g.length:Int)));have hall:ow.all (fun c=>decide (3≤c)&&decide (c < 3+(g.length:Int)))=true:=by
  rw [List.all_eq_true];intro o ho;have:=how o ho;simp;omega
 rw [hall] at hal;have hu0:=YpL (g:=g) (k:=0) (Nat.zero_le _) (by omega);refine Se Tryz.func211 rfl rfl rfl fun B hB=>?_;refine goW ?_;refine Za6 1 ?_;refine Zat (fun k:Nat=>[(1,.ep (fwC g ow) 0),(4,.bp 1 0),(24,V.int k)]) (fun k=>[.dead,.cb 282 (wC g ow (((List.range k).map fun c=>setWith 1 c)++List.replicate (63-k) 0))]) (fun k=>k≤3) (fun k=>3-k) 0 [0,1] (Nat.zero_le _) ?_ (ho:=⟨⟨_,rfl,OE.ren rfl⟩,⟨_,rfl,OE.ren (by with_unfolding_all exact rfl)⟩,trivial⟩);rintro k hk;by_cases hk3:k < 3
 ·have hw:=Yhz 1 (by omega) k (by omega) (by omega);have hst:(((List.range k).map fun c=>setWith 1 c)++List.replicate (63-k) 0).set k (setWith 1 k)=(((List.range (k+1)).map fun c=>setWith 1 c)++List.replicate (63-(k+1)) 0):=by
   rw [List.set_append_right _ _ (by simp),List.length_map,List.length_range,Nat.sub_self,show 63-k=(63-(k+1))+1 by omega,List.replicate_succ,List.set_cons_zero,List.range_succ,List.map_append,List.append_assoc];rfl
  have hlen:(((List.range k).map fun c=>setWith 1 c)++List.replicate (63-k) 0).length=63:=by simp;omega
  generalize (((List.range k).map fun c=>setWith 1 c)++List.replicate (63-k) 0)=us at *
  refine goW ?_;(refine Zal (id:=7) true 7 8 ?_<;>refine OD.st 0 ?_<;>refine OD.st 1 ?_<;>refine OD.st 2 ?_<;>refine OD.st 4 ?_<;>refine OD.st 5 ?_<;>refine Zah 3 hw Tryz.func233 ?_<;>refine OD.st 6 ?_ (h:=(YrO k))<;>(refine Zac 7 ?_;refine ZcJ (n:=k) ?_;refine OL.nil ?_;refine Zab ?_)<;>refine Zaa ?_)
  all_goals refine goW ?_
  all_goals exact Zan (k+1) [0,1] (by omega) (by omega) (ho:=⟨⟨_,rfl,OE.ren rfl⟩,⟨_,rfl,OE.wC (by rw [Int.toNat_natCast] at *;exact hst)⟩,trivial⟩)
 obtain rfl:k=3:=by omega
 have e3:(((List.range 3).map fun c=>setWith 1 c)++List.replicate (63-3) 0)=usT g 0:=by rw [usT,List.take_zero];rfl
 rw [e3];refine goW ?_;refine Zat (fun k:Nat=>[(1,.ep (fwC g ow) 0),(4,.bp 1 0),(36,YbU g),(37,V.int g.length),(38,V.int k)]) (fun k=>[.dead,.cb 282 (wC g ow (usT g k))]) (fun k=>k≤g.length) (fun k=>g.length-k) 0 [0,1] (Nat.zero_le _) ?_ (ho:=⟨⟨_,rfl,OE.ren rfl⟩,⟨_,rfl,OE.wC rfl⟩,trivial⟩);rintro k hk;have hul:=YpL hk (show g.length≤60 by omega);by_cases hkl:k < g.length
 ·have hw:=Yhz 1 (by omega) (3+(k:Int)) (by omega) (by omega);have hset:=Ys0 hkl (show g.length≤60 by omega);have hps:=YaK hf (c:=((3+k:Nat):Int)) (by omega);have hpi:pOf g ((3+k:Nat):Int)=g[k]:=by rw [Yk0 (by omega),Yai (by omega)];congr 1;omega
  rw [hpi] at hps;obtain ⟨hp3,hpr,hpn⟩:=hps;have hult:=Ytc (show g.length≤60 by omega) k;have huln:(ups (g.take k)).length=3+k:=by rw [Ydf,List.length_take,Nat.min_eq_left (by omega)]
  have hgt:∀ (p:Int) (hp:p∈g[k]),(usT g k)[p.toNat]'(by have:=hpr p hp;omega)=(ups (g.take k)).getD p.toNat 0:=fun p hp=>Ys5 (by omega) (by have:=hpr p hp;omega) (by have:=hpr p hp;omega)
  have huK:∀ i,i≤g[k].length→upK (ups (g.take k)) g[k] (3+k) i < 2 ^ 64:=by
   intro i;induction i with
   | zero =>
     intro _;rw [upK,List.take_zero,List.foldl_nil];exact Nat.or_lt_two_pow (Nat.or_lt_two_pow (by decide) (by rw [Nat.one_shiftLeft];exact Nat.pow_lt_pow_right (by omega) (by omega))) (by decide)
   | succ i ih =>
     intro hi;have hpm:=hpr g[k][i] (List.getElem_mem _);rw [Yja (by omega) (by omega)];exact Nat.or_lt_two_pow (ih (by omega)) (hult _ (List.getElem_mem _))
  have hw0:setWith 1 (3+k)=upK (ups (g.take k)) g[k] (3+k) 0:=by
   rw [upK,List.take_zero,List.foldl_nil,setWith,setWith,setWith,Nat.zero_or,Nat.or_comm];rfl
  rw [show (3+(k:Int)).toNat=3+k by omega,hw0] at hw;refine goW ?_;refine OL.c hw Tryz.func233 ?_;refine goW ?_;generalize hgk:g[k]=ps at *
  refine Zat (fun i:Nat=>[(1,.ep (fwC g ow) 0),(4,.bp 1 0),(36,YbU g),(37,V.int g.length),(38,V.int k),(6,V.int k),(7,ints ps),(8,V.u64 (upK (ups (g.take k)) ps (3+k) i)),(46,ints ps),(47,V.int ps.length),(48,V.int i)]) (fun i=>[.dead,.cb 282 (wC g ow (usT g k))]) (fun i=>i≤ps.length) (fun i=>ps.length-i) 0 [0,1] (Nat.zero_le _) ?_ (ho:=⟨⟨_,rfl,OE.ren rfl⟩,⟨_,rfl,OE.wC rfl⟩,trivial⟩);rintro i hi;by_cases hil:i < ps.length
  ·have hpm:=hpr ps[i] (List.getElem_mem _);have hct:=Yav (ps.take i) ps[i];have hcf:(ps.take i).contains ps[i]=false:=by
    rw [Bool.eq_false_iff,ne_eq,List.contains_iff_mem,List.mem_take_iff_getElem];rintro ⟨j,hj,he⟩;have:=(List.getElem_inj (h₀:=by omega) (h₁:=hil) hpn).1 he
    omega
   rw [hcf] at hct;have hk1:=huK i (by omega);have hk2:=Yja (us:=ups (g.take k)) (ps:=ps) (c:=3+k) hil (by omega);have hg1:(usT g k)[ps[i].toNat]'(by omega)=(ups (g.take k))[ps[i].toNat]'(by omega):=by rw [hgt _ (List.getElem_mem _),Yai]
   have hk3:(usT g k)[ps[i].toNat]'(by omega) < 2 ^ 64:=by rw [hg1];exact hult _ (List.getElem_mem _)
   rw [← hg1] at hk2;generalize upK (ups (g.take k)) ps (3+k) i=s0 at *
   refine goW ?_;refine OL.c hct Tryz.func172 ?_;refine goW ?_;refine ZcI ps[i].toNat ?_;refine Zdo (n:=ps[i].toNat) (fun _=>?_);refine goW ?_;exact Zan (i+1) [0,1] (by omega) (by omega) (ho:=⟨⟨_,rfl,OE.ren rfl⟩,⟨_,rfl,OE.wC rfl⟩,trivial⟩) (hr:=by rw [hk2];with_unfolding_all exact ⟨⟨_,rfl,LE.ren rfl⟩,⟨_,rfl,LE.ren rfl⟩,⟨_,rfl,LE.ren rfl⟩,⟨_,rfl,LE.ren rfl⟩,⟨_,rfl,LE.ren rfl⟩,⟨_,rfl,LE.ren rfl⟩,⟨_,rfl,LE.ren rfl⟩,⟨_,rfl,LE.ren rfl⟩,⟨_,rfl,LE.ren rfl⟩,⟨_,rfl,LE.ren rfl⟩,⟨_,rfl,LE.ren rfl⟩,trivial⟩)
  ·obtain rfl:i=ps.length:=by omega
   rw [show upK (ups (g.take k)) ps (3+k) ps.length=Yj8 (ups (g.take k)) ps (3+k) from rfl];refine goW ?_;refine ZcI (3+k) ?_;refine ZcJ (n:=3+k) ?_;refine goW ?_;exact Zan (k+1) [0,1] (by omega) (by omega) (ho:=⟨⟨_,rfl,OE.ren rfl⟩,⟨_,rfl,OE.wC hset⟩,trivial⟩)
 ·obtain rfl:k=g.length:=by omega
  rw [show usT g g.length=usF g from rfl];refine Za6 4 ?_ (hp:=Yso _ _ _);refine goW ?_;refine OL.c hal Tryz.func234 ?_ (hle:=by exact ⟨.ren rfl,LE.fun_ (first':=[wP g ow (usF g)]) (caps':=[]) Tryz.func235 rfl ⟨.ren rfl,trivial⟩ trivial (fun x _=>Yoi g ow (usF g) (by omega) x),trivial⟩);refine goW ?_;exact ZaA [] (.ren rfl) (.ren rfl)
theorem Yh7 (b:Bool):V.Spec Tryz.prog 195 [V.bool b] [] (V.int (if b then 0 else 2)) []:=by
 refine Se Tryz.func195 rfl rfl rfl fun B hB=>?_
 cases b
 ·refine goW ?_;exact Zad [] (.ren rfl)
 ·refine goW ?_;exact Zad [] (.ren rfl)
section
variable (g:List (List Int)) (ow:List Int) (hf:fine g=true) (how:∀ o∈ow,3≤o∧o < 3+(g.length:Int)) (h40:ow.length≤40)
include hf how h40
theorem Ymq (l:List Fct):V.Spec Tryz.prog 194 [fwA g ow,.sl 6 none (l.map Yck)] [] (.tp [wP g ow (usF g),V.bool (l.all fun f=>okF g.length ow.length 24 12 f)]) []:=by
 have h16:=YaP hf;have h1:=Yl8 g ow hf how h40;have h2:=Yje g ow (usF g) (by omega) l;refine Se Tryz.func194 rfl rfl rfl fun B hB=>?_;refine goW ?_;refine OL.c h1 Tryz.func211 ?_;refine goW ?_;refine OL.c h2 Tryz.func212 ?_;refine goW ?_;exact ZaA [] (.ren rfl) (.ren rfl)
theorem Yjq (f:Fct):V.Spec Tryz.prog 170 [fwA g ow,Yck f] [] (V.int (if okF g.length ow.length 24 12 f then 0 else 2)) []:=by
 have h1:=Ymq g ow hf how h40 [f];have h2:=Yh7 (okF g.length ow.length 24 12 f);rw [show [f].all (fun f=>okF g.length ow.length 24 12 f)=okF g.length ow.length 24 12 f by simp] at h1;refine Se Tryz.func170 rfl rfl rfl fun B hB=>?_;refine goW ?_;refine Zbs 1 ?_;refine OL.c h1 Tryz.func194 ?_;refine goW ?_;refine OL.c h2 Tryz.func195 ?_;refine goW ?_;exact Zad [] (.ren rfl)
end
set_option maxHeartbeats 1000000 in
theorem YjA (np no:Nat):∀ (n:Nat) (f:Fct),nodesF f≤n→nodeOkB np no f=true→V.Spec Tryz.prog 171 [Yck f] [] (V.int (Ybf f)) []:=by
 intro n;induction n with
 | zero=>intro f h;have:=Yby f;omega
 | succ n ih =>
   intro f hn hok;rw [YfN,Bool.and_eq_true] at hok;obtain ⟨hh,hks⟩:=hok;have hkk:∀ l:List Fct,nodesOkB np no l=true→∀ k∈l,nodeOkB np no k=true:=by
    intro l;induction l with
    | nil=>simp
    | cons x r ih2 =>
      intro h k hk;rw [nodesOkB,Bool.and_eq_true] at h;rcases List.mem_cons.1 hk with rfl|hk
      ·exact h.1
      ·exact ih2 h.2 k hk
   have hkid:∀ k∈f.kids,V.Spec Tryz.prog 171 [Yck k] [] (V.int (Ybf k)) []:=fun k hk=>ih k (by have:=YdV hk;omega) (hkk _ hks k hk)
   have harg:YcE f.op=true→0≤f.arg∧f.arg < 3:=by
    intro hlf;obtain ⟨op,arg,path,cls,fn,l⟩:=f;rw [Yl2,if_pos hlf] at hh;simp only [Bool.and_eq_true,decide_eq_true_eq] at hh;exact hh.2.1.1
   rw [Yiz];rw [Ydm];obtain ⟨op,arg,path,cls,fn,l⟩:=f;simp only [Fct.op,Fct.arg,Fct.path,Fct.cls,Fct.n,Fct.kids] at *
   by_cases hlf:op=2∨op=3∨op=4
   ·have hl1:YcE op=true:=by simp [YcE];omega
    have harg:=harg hl1;rw [if_pos hl1];refine Se Tryz.func171 rfl rfl rfl fun B hB=>?_;with_reducible refine TC.seq ?_
    with_reducible refine TC.region ?_
    with_reducible refine OL.box ?_
    with_reducible refine OL.st ?_
    with_reducible refine OL.nil ?_
    with_reducible refine Zap ?_
    with_reducible refine TC.seq ?_
    with_reducible refine TC.region ?_
    with_reducible refine OL.st ?_
    with_reducible refine OL.nil ?_
    with_reducible refine Zap ?_
    with_reducible refine TC.seq ?_
    refine ZaO [(1,.bp 0 0),(3,V.int (arg+1))] [.cb 159 [V.int op,V.int arg,ints path,V.int cls,V.int fn,.sl 6 none (l.map Yck)]] ?_ ?_
    ·repeat' (with_reducible first|refine OL.st ?_|refine TC.region ?_|refine TC.seq ?_|refine OL.nil ?_|refine Zap ?_|refine ZaY ?_|refine ZaB ?_|refine ZaD ?_|refine Zay ?_ ?_<;>(intro hc;try (exfalso;omega))|refine Zaz ?_ ?_<;>(intro hc;try (exfalso;omega))|fail)
     all_goals exact ZaP [0]
    refine goW ?_;refine ZaS 23 fun hll=>?_;refine Zat (fun k:Nat=>[(3,V.int (max (arg+1) (speaksL (l.take k)))),(23,.sl 6 none (l.map Yck)),(24,V.int l.length),(25,V.int k)]) (fun _=>[]) (fun k=>k≤l.length) (fun k=>l.length-k) 0 [] (Nat.zero_le _) ?_ (hr:=⟨⟨_,rfl,LE.int (by rw [List.take_zero,speaksL];omega)⟩,⟨_,rfl,LE.ren rfl⟩,⟨_,rfl,LE.ren rfl⟩,⟨_,rfl,LE.ren rfl⟩,trivial⟩);rintro k hk;by_cases hkl:k < l.length
    ·have hs:=hkid l[k] (List.getElem_mem _);have e:speaksL (l.take (k+1))=max (speaksL (l.take k)) (Ybf l[k]):=by rw [Yab hkl,Yc0]
     refine goW ?_;refine OL.c hs Tryz.func171 ?_;refine OL.max (max (arg+1) (speaksL (l.take (k+1)))) ?_ (hc:=by rw [e];omega);refine goW ?_;exact Zan (k+1) [] (by omega) (by omega)
    ·rw [Yaf (by omega)];refine goW ?_;exact Zad [] (.ren rfl)
   ·have hl1:YcE op=false:=by rw [Bool.eq_false_iff];simp [YcE];omega
    rw [if_neg (by rw [hl1];decide)];refine Se Tryz.func171 rfl rfl rfl fun B hB=>?_;refine goW ?_;refine ZaS 23 fun hll=>?_;refine Zat (fun k:Nat=>[(3,V.int (max 0 (speaksL (l.take k)))),(23,.sl 6 none (l.map Yck)),(24,V.int l.length),(25,V.int k)]) (fun _=>[]) (fun k=>k≤l.length) (fun k=>l.length-k) 0 [] (Nat.zero_le _) ?_;rintro k hk;by_cases hkl:k < l.length
    ·have hs:=hkid l[k] (List.getElem_mem _);have e:speaksL (l.take (k+1))=max (speaksL (l.take k)) (Ybf l[k]):=by rw [Yab hkl,Yc0]
     refine goW ?_;refine OL.c hs Tryz.func171 ?_;refine OL.max (max 0 (speaksL (l.take (k+1)))) ?_ (hc:=by rw [e];omega);refine goW ?_;exact Zan (k+1) [] (by omega) (by omega)
    ·rw [Yaf (by omega)];refine goW ?_;exact Zad [] (.ren rfl)
end Go.Proofs
namespace Go.V
open Go Go.W Go.Proofs
section
variable {C:Cx} {ops:Array Oper} {Q:Qt} {ρ:Ro} {η:Eta} {rest:List Oper} {T d:Nat} {pos:String} {af:Array Edge} {args:List Operand} {at_:Array TypeId}
theorem Zcs {b:Bool} (h1:b=true→OL C ops Q rest ((d,.tp [])::ρ) η) (h2:b=false→TX C Q (.panic (pan upv)) ρ η) (hx:Yc6 ρ args=some [V.bool b]:=by with_unfolding_all exact rfl) (hP:C.P=Tryz.prog:=by with_unfolding_all exact rfl) (hd:Nat.blt d C.N=true:=by with_unfolding_all exact rfl) :
  OL C ops Q (⟨some d,.call ⟨.value (.func 163),args.toArray,at_⟩,T,pos,af,none⟩::rest) ρ η:=by
 cases b
 ·exact Zar [] Yau Tryz.func163 (h2 rfl) (hP:=hP) (hl:=hx) (ho:=trivial) (hle:=⟨.ren rfl,trivial⟩) (hη:=by simp [upd])
 ·exact OL.c YaL Tryz.func163 (h1 rfl) (hP:=hP) (hl:=hx) (hle:=⟨.ren rfl,trivial⟩) (hd:=hd) (hη:=by simp)
theorem ZbY (k:OL C ops Q rest ((d,.tp [])::ρ) η) (hx:Yc6 ρ args=some [V.bool true]:=by with_unfolding_all exact rfl) (hP:C.P=Tryz.prog:=by with_unfolding_all exact rfl) (hd:Nat.blt d C.N=true:=by with_unfolding_all exact rfl) :
  OL C ops Q (⟨some d,.call ⟨.value (.func 163),args.toArray,at_⟩,T,pos,af,none⟩::rest) ρ η:=Zcs (b:=true) (fun _=>k) (fun h=>by cases h) hx hP hd
theorem Zbk (k:TX C Q (.panic (pan upv)) ρ η) (hx:Yc6 ρ args=some [V.bool false]:=by with_unfolding_all exact rfl) (hP:C.P=Tryz.prog:=by with_unfolding_all exact rfl) (hd:Nat.blt d C.N=true:=by with_unfolding_all exact rfl) :
  OL C ops Q (⟨some d,.call ⟨.value (.func 163),args.toArray,at_⟩,T,pos,af,none⟩::rest) ρ η:=Zcs (b:=false) (fun h=>by cases h) (fun _=>k) hx hP hd
theorem Zbv {p:Prop} [Decidable p] (h1:p→OL C ops Q rest ((d,.tp [])::ρ) η) (h2:¬ p→TX C Q (.panic (pan upv)) ρ η) (hx:Yc6 ρ args=some [V.bool (decide p)]:=by with_unfolding_all exact rfl) (hP:C.P=Tryz.prog:=by with_unfolding_all exact rfl) (hd:Nat.blt d C.N=true:=by with_unfolding_all exact rfl) :
  OL C ops Q (⟨some d,.call ⟨.value (.func 163),args.toArray,at_⟩,T,pos,af,none⟩::rest) ρ η:=
 Zcs (fun h=>h1 (of_decide_eq_true h)) (fun h=>h2 (of_decide_eq_false h)) hx hP hd
end
end Go.V
namespace Go.Proofs
open Go Go.W Go.V
abbrev esK (L:List Int):List (Int × AV):=L.map fun k=>(k,V.bool true)
theorem YkP (c:Int):∀ L:List Int,afind c (esK L)=if L.contains c then some (V.bool true) else none
 | []=>rfl
 | k::r=>by
   rw [esK,List.map_cons,afind,List.contains_cons]
   cases h:c==k with
   | true=>simp
   | false =>
     simp only [Bool.false_eq_true,if_false,Bool.false_or];exact YkP c r
theorem YjW (k:Int):∀ L:List Int,aput k (V.bool true) (esK L)=esK (insK L k)
 | []=>rfl
 | x::r=>by
   have ih:=YjW k r;rw [esK,List.map_cons,aput];by_cases h:k=x
   ·subst h;simp [insK]
   ·have hb:(k==x)=false:=by simpa using h
    rw [hb];simp only [Bool.false_eq_true,if_false];rw [show List.map (fun k=>(k,V.bool true)) r=esK r from rfl,ih,insK,insK,List.contains_cons,hb,Bool.false_or];split<;>simp [esK]
theorem YrF (L:List Int) (c:Int) (te:Value) (hte:te=.bool false):afind c (esK L)=some (V.bool (L.contains c))∨(afind c (esK L)=none∧∀ m w γ,Rep m w γ te (V.bool (L.contains c))):=by
 subst hte;rw [YkP]
 cases L.contains c
 ·exact .inr ⟨rfl,fun _ _ _=>.raw rfl⟩
 ·exact .inl rfl
set_option maxHeartbeats 2000000 in
theorem YfJ (p:Prg) (hf:fine (graphOf p.cls)=true) (hcl:clsB 0 p.cls=true) {c:Nat} (h3:3≤c) (hc:c < 3+p.cls.length):V.Spec Tryz.prog 142 [Ya0 p,V.int c] [] (ints (YfE p.cls c)) []:=by
 have hgl:(graphOf p.cls).length=p.cls.length:=by simp [graphOf]
 have h16:=YaP hf;have hlen:=fun j hj=>Yog hcl hc j hj
 have hso:=Yi9 (Yca p.cls c (c-2)) (by have:=hlen (c-2) (by omega);omega);rw [YlR hf hcl h3 hc] at hso;refine Se Tryz.func142 rfl rfl rfl fun B hB=>?_;refine goW ?_;refine Zag 2 ?_;refine ZdQ ?_ rfl;refine goW ?_;refine ZaT 6 3 1 ?_;refine Zat (fun j:Nat=>[(2,.ep (YbB p) 0),(5,.mp 1),(6,.hs 2),(7,V.int ((c:Int)-j))]) (fun j=>[.dead,.mo (esK (YaW (graphOf p.cls) c j)),.gs false 3 1 none ((Yca p.cls c j).map V.int)]) (fun j=>j≤c-2) (fun j=>c-2-j) 0 [0,1,2] (Nat.zero_le _) ?_ (hr:=⟨⟨_,rfl,LE.ren rfl⟩,⟨_,rfl,LE.ren rfl⟩,⟨_,rfl,LE.ren rfl⟩,⟨_,rfl,LE.int (by omega)⟩,trivial⟩);rintro j hj;by_cases hjc:j < c-2
 ·have hidx:((c:Int)-j-3).toNat < p.cls.length:=by clear hlen hso;omega
  have hjl:=hlen j (by omega);have hk:=Yor hf h3 (by omega) (show j≤c-3 by omega);have hus:YaW (graphOf p.cls) c (j+1)=if (YaW (graphOf p.cls) c j).contains ((c-j:Nat):Int) then (pOf (graphOf p.cls) ((c-j:Nat):Int)).foldl insK (YaW (graphOf p.cls) c j) else YaW (graphOf p.cls) c j:=rfl;have hrs:=YeB p.cls c j;rw [← hk] at hrs;obtain ⟨x,hx⟩:∃ x,x=p.cls[((c:Int)-j-3).toNat]'hidx:=⟨_,rfl⟩;have hxi:p.cls.getD (c-j-3) ([],[],[])=x:=by rw [Yai (by omega),hx];congr 1;omega
  have hpx:pOf (graphOf p.cls) ((c-j:Nat):Int)=x.1:=by
   have:=Yir (l:=p.cls) (k:=c-j-3) (by omega)
   rw [show 3+(c-j-3)=c-j by omega] at this;rw [this,← hxi,Yai (by omega)]
  rw [hxi] at hrs;rw [hpx] at hus;have ecj:((c-j:Nat):Int)=(c:Int)-j:=by omega
  rw [ecj] at hus hrs;have hx4:x.2.1.length≤4:=by rw [← hxi,Yai (by omega)];exact (Yet hcl (by omega)).1
  generalize YaW (graphOf p.cls) c j=K at *
  generalize Yca p.cls c j=out at *
  have hv:=YrF K ((c:Int)-j)
  cases hq:K.contains ((c:Int)-j)
  ·rw [hq] at hus hrs hv;simp only [Bool.false_eq_true,if_false,List.append_nil] at hus hrs;have e1:=congrArg esK hus.symm;have e2:=congrArg (List.map V.int) hrs.symm;refine goW ?_;refine OL.lookup ?_ (hv _ rfl);refine goW ?_;exact Zan (j+1) [0,1,2] (by omega) (by omega) (ho:=⟨⟨_,rfl,OE.ren rfl⟩,⟨_,rfl,OE.ren (by rw [hus];rfl)⟩,⟨_,rfl,OE.gsS (by rw [hrs])⟩,trivial⟩) (hr:=⟨⟨_,rfl,LE.ren rfl⟩,⟨_,rfl,LE.ren rfl⟩,⟨_,rfl,LE.ren rfl⟩,⟨_,rfl,LE.int (by omega)⟩,trivial⟩)
  ·rw [hq] at hus hrs hv;simp only [if_true] at hus hrs;refine goW ?_;refine OL.lookup ?_ (hv _ rfl);refine goW ?_;simp only [← hx];refine OL.app ?_;rw [← List.map_append,← hrs];have hls:(Yca p.cls c (j+1)).length≤1000:=by rw [hrs,List.length_append];omega
   obtain ⟨out2,ho2⟩:∃ o,o=Yca p.cls c (j+1):=⟨_,rfl⟩;rw [← ho2] at hls ⊢;refine goW ?_;simp only [← hx];obtain ⟨ps,hps⟩:∃ ps,ps=x.1:=⟨_,rfl⟩;rw [← hps] at hus ⊢;have hpl:ps.length≤3:=by
    have:=(YaK hf (c:=((c-j:Nat):Int)) (by omega)).1
    rw [hpx,← hps] at this;exact this
   refine Zat (fun i:Nat=>[(2,.ep (YbB p) 0),(5,.mp 1),(6,.hs 3),(7,V.int ((c:Int)-j)),(36,ints ps),(37,V.int ps.length),(38,V.int i)]) (fun i=>[.dead,.mo (esK ((ps.take i).foldl insK K)),.dead,.gs false 3 1 none (out2.map V.int)]) (fun i=>i≤ps.length) (fun i=>ps.length-i) 0 [0,1,2,3] (Nat.zero_le _) ?_;rintro i hi;by_cases hil:i < ps.length
   ·have hsn:(ps.take (i+1)).foldl insK K=insK ((ps.take i).foldl insK K) ps[i]:=by rw [Yab hil,List.foldl_append];rfl
    generalize (ps.take i).foldl insK K=Ki at *
    refine goW ?_;refine Zct ?_;rw [YjW,← hsn];refine goW ?_;exact Zan (i+1) [0,1,2,3] (by omega) (by omega)
   ·rw [Yaf (by omega),← hus];refine goW ?_;exact Zan (j+1) [0,1,3] (by omega) (by omega) (ho:=⟨⟨_,rfl,OE.ren rfl⟩,⟨_,rfl,OE.ren rfl⟩,⟨_,rfl,OE.gsS (by rw [ho2])⟩,trivial⟩) (hr:=⟨⟨_,rfl,LE.ren rfl⟩,⟨_,rfl,LE.ren rfl⟩,⟨_,rfl,LE.ren rfl⟩,⟨_,rfl,LE.int (by omega)⟩,trivial⟩)
 ·obtain rfl:j=c-2:=by omega
  generalize Yca p.cls c (c-2)=out at *
  refine goW ?_;refine Zaj [2] hso Tryz.func173 ?_;refine goW ?_;refine Zbs 0 ?_;refine OL.c (YoW _) Tryz.func174 ?_;refine goW ?_;exact Zad [] (.ren rfl)
end Go.Proofs
