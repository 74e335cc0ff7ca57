/- Lemmas for the claim; no conditions. -/
import Derived.Shelf.Sort.Plain
import Derived.Shelf.Slices.In.SortNone
import Derived.Test.YtdjhogobbbnddaaGreatProg
import Derived.Test.YtdjhogobbbnddaaGreatC23
import Derived.Test.YtdjhogobbbnddaaGreatC18
import Derived.Test.YtdjhogobbbnddaaGreatC16
import Derived.Test.YtdjhogobbbnddaaGreatC25
import Derived.Test.YtdjhogobbbnddaaGreatC15
import Derived.Test.YtdjhogobbbnddaaGreatC14
import Derived.Test.YtdjhogobbbnddaaGreatC19
namespace Go.Proofs
open Go.Shelf
def Tryz.lays189_ren:Go.Shelf.Ren:=⟨fun|189=>173|125=>197|257=>196|128=>222|129=>223|294=>213|295=>214|296=>215|297=>216|298=>217|299=>218|216=>219|300=>220|301=>221|328=>239|329=>240|330=>241|331=>242|332=>243|215=>244|343=>256|n=>n,fun|28=>23|3=>3|46=>143|0=>0|51=>255|53=>258|4=>4|183=>265|182=>264|131=>141|5=>5|9=>9|218=>288|222=>287|228=>296|229=>297|n=>n,fun|n=>n⟩
theorem Tryz.lays189:Go.Proofs.Lays.n189 Tryz.prog Tryz.lays189_ren:={
 mixed:=by kernel_rfl
 f125:=Tryz.func197.trans (congrArg some (by kernel_rfl))
 f128:=Tryz.func222.trans (congrArg some (by kernel_rfl))
 f129:=Tryz.func223.trans (congrArg some (by kernel_rfl))
 f189:=Tryz.func173.trans (congrArg some (by kernel_rfl))
 f215:=Tryz.func244.trans (congrArg some (by kernel_rfl))
 f216:=Tryz.func219.trans (congrArg some (by kernel_rfl))
 f257:=Tryz.func196.trans (congrArg some (by kernel_rfl))
 f294:=Tryz.func213.trans (congrArg some (by kernel_rfl))
 f295:=Tryz.func214.trans (congrArg some (by kernel_rfl))
 f296:=Tryz.func215.trans (congrArg some (by kernel_rfl))
 f297:=Tryz.func216.trans (congrArg some (by kernel_rfl))
 f298:=Tryz.func217.trans (congrArg some (by kernel_rfl))
 f299:=Tryz.func218.trans (congrArg some (by kernel_rfl))
 f300:=Tryz.func220.trans (congrArg some (by kernel_rfl))
 f301:=Tryz.func221.trans (congrArg some (by kernel_rfl))
 f328:=Tryz.func239.trans (congrArg some (by kernel_rfl))
 f329:=Tryz.func240.trans (congrArg some (by kernel_rfl))
 f330:=Tryz.func241.trans (congrArg some (by kernel_rfl))
 f331:=Tryz.func242.trans (congrArg some (by kernel_rfl))
 f332:=Tryz.func243.trans (congrArg some (by kernel_rfl))
 f343:=Tryz.func256.trans (congrArg some (by kernel_rfl))
 t0:=Tryz.underlying0
 a0:=Tryz.isAgg0
 z0:=Tryz.sizeOf0
 v0:=Tryz.zeroValue0
 t3:=Tryz.underlying3
 a3:=Tryz.isAgg3
 z3:=Tryz.sizeOf3
 v3:=Tryz.zeroValue3
 t4:=Tryz.underlying4
 a4:=Tryz.isAgg4
 z4:=Tryz.sizeOf4
 v4:=Tryz.zeroValue4
 t5:=Tryz.underlying5
 a5:=Tryz.isAgg5
 z5:=Tryz.sizeOf5
 v5:=Tryz.zeroValue5
 t9:=Tryz.underlying9
 a9:=Tryz.isAgg9
 z9:=Tryz.sizeOf9
 v9:=Tryz.zeroValue9
 t28:=Tryz.underlying23
 a28:=Tryz.isAgg23
 z28:=Tryz.sizeOf23
 v28:=Tryz.zeroValue23
 t46:=Tryz.underlying143
 a46:=Tryz.isAgg143
 z46:=Tryz.sizeOf143
 v46:=Tryz.zeroValue143
 t51:=Tryz.underlying255
 a51:=Tryz.isAgg255
 z51:=Tryz.sizeOf255
 v51:=Tryz.zeroValue255
 t53:=Tryz.underlying258
 a53:=Tryz.isAgg258
 z53:=Tryz.sizeOf258
 v53:=Tryz.zeroValue258
 t131:=Tryz.underlying141
 a131:=Tryz.isAgg141
 z131:=Tryz.sizeOf141
 v131:=Tryz.zeroValue141
 t182:=Tryz.underlying264
 a182:=Tryz.isAgg264
 z182:=Tryz.sizeOf264
 v182:=Tryz.zeroValue264
 t183:=Tryz.underlying265
 a183:=Tryz.isAgg265
 z183:=Tryz.sizeOf265
 v183:=Tryz.zeroValue265
 t218:=Tryz.underlying288
 a218:=Tryz.isAgg288
 z218:=Tryz.sizeOf288
 v218:=Tryz.zeroValue288
 t222:=Tryz.underlying287
 a222:=Tryz.isAgg287
 z222:=Tryz.sizeOf287
 v222:=Tryz.zeroValue287
 t228:=Tryz.underlying296
 a228:=Tryz.isAgg296
 z228:=Tryz.sizeOf296
 v228:=Tryz.zeroValue296
 t229:=Tryz.underlying297
 a229:=Tryz.isAgg297
 z229:=Tryz.sizeOf297
 v229:=Tryz.zeroValue297 }
open Go.Sort Go.RowKit in
theorem Tryz.slices_Sort_int (blk off cap:Nat) (zs:List Int) (w:World) (hH:Holds (Value.int .i64) w blk off zs.toArray) (hblk:blk < w.heap.size) (hsz:zs.length < 4611686018427387904) :
  Calls Tryz.prog 173 #[.slice (some ⟨blk,off,none⟩) zs.length cap] w fun e w' =>
   e=.returned (.tuple #[])∧∃ n os,w'=grow (putRow (Value.int .i64) (Sort.ahead w n) blk off (zs.mergeSort fun x y=>decide (x≤y)).toArray) os:=Any.slices_Sort_int Tryz.lays189 blk off cap zs w hH hblk hsz
open Go.RowKit Go.Sort in
theorem Tryz.slices_Sort_int_none (p:Option Addr) (cap:Nat) (w:World) :
  Calls Tryz.prog 173 #[.slice p 0 cap] w fun e w'=>e=.returned (.tuple #[])∧w'=w:=Any.slices_Sort_int_none Tryz.lays189 p cap w
open Go Go.W Go.V
theorem Ysy (l:List Int) (hb:l.length*8≤140737488355328):V.Spec Tryz.prog 103 [ints l] [] (ints l) []:=by
 refine Se Tryz.func103 rfl rfl rfl fun B hB=>?_;refine go ?_;refine Zca (fun h=>?_) ?_
 ·refine go ?_;have e:l.map V.int=[]:=h;exact Zad [] (.nil' e)
 ·refine go ?_;refine Za4 2 ?_;exact Zad [] (.ren rfl)
abbrev Yxx (P:Program) (dom:Cls→Prop) (r:Cls→AV):AV:=.pr (YdQ P dom (fun c=>[YvC c]) r (fun _=>[]))
def Yoa (l:List Int):List Int:=l.mergeSort fun x y=>decide (x≤y)
theorem YfP (l:List Int):(Yoa l).Perm l:=List.mergeSort_perm l _
theorem YoA (l:List Int):(Yoa l).length=l.length:=(YfP l).length_eq
theorem Ygp (l:List Int):(Yoa l).Pairwise (·≤·):=by
 have:=List.pairwise_mergeSort (le:=fun x y:Int=>decide (x≤y)) (fun a b c h1 h2=>by simp at h1 h2 ⊢;omega) (fun a b=>by simp;omega) l
 exact this.imp (fun h=>by simpa using h)
theorem Yi9 (l:List Int) (hl:l.length*8≤140737488355328):V.Spec Tryz.prog 173 [.hs 0] [.gs false 3 1 none (l.map V.int)] (.tp []) [.gs false 3 1 none ((Yoa l).map V.int)]:=
 Yk1 (YoA l) (fun g cap w hH hb=>Tryz.slices_Sort_int g 0 cap l w hH hb (by omega)) (fun hl p cap w=>by subst hl;exact Tryz.slices_Sort_int_none p cap w)
theorem YdD (la lb:List Int):V.Spec Tryz.prog 16 [ints la,ints lb] [] (V.bool (la==lb)) []:=by
 refine Se Tryz.func16 rfl rfl rfl fun B hB=>?_;refine ZaS 0 fun hla=>ZaS 1 fun hlb=>?_;by_cases hl:la.length=lb.length
 ·refine go ?_;refine Zat (fun k:Nat=>[(0,ints la),(1,ints lb),(12,V.int la.length),(13,V.int k)]) (fun _=>[]) (fun k=>k≤la.length∧la.take k=lb.take k) (fun k=>la.length-k) 0 [] ⟨Nat.zero_le _,by simp⟩ ?_;rintro k ⟨hk,hpre⟩;by_cases hkl:k < la.length
  ·by_cases he:la[k]=lb[k]
   ·repeat' (first|(with_reducible first|refine OL.st ?_|refine TC.region ?_|refine TC.seq ?_|refine OL.nil ?_|refine Zap ?_|refine TC.block ?_|refine TC.skip ?_|refine ZaM ?_|refine Zay ?_ ?_<;>(intro hc;try (exfalso;omega)))|((with_reducible refine Zal (id:=6) true 9 9 ?_<;>refine OD.st 0 ?_<;>refine OD.st 1 ?_<;>refine OD.st 2 ?_<;>refine OD.st 3 ?_<;>refine OD.st 4 ?_<;>refine OD.st 5 ?_<;>refine OD.st 6 ?_<;>refine OD.st 7 ?_<;>refine OD.st 8 ?_<;>refine Zaa ?_))|fail)
    refine Zan (k+1) [] ⟨by omega,?_⟩ (by omega);rw [Yab (by omega),Yab (by omega),hpre,he]
   ·repeat' (first|(with_reducible first|refine OL.st ?_|refine TC.region ?_|refine TC.seq ?_|refine OL.nil ?_|refine Zap ?_|refine TC.block ?_|refine TC.skip ?_|refine Zay ?_ ?_<;>(intro hc;try (exfalso;omega))|refine TC.ret ?_|refine ZaE ?_|refine ZaK ?_)|((with_reducible refine Zal (id:=6) true 9 9 ?_<;>refine OD.st 0 ?_<;>refine OD.st 1 ?_<;>refine OD.st 2 ?_<;>refine OD.st 3 ?_<;>refine OD.st 4 ?_<;>refine OD.st 5 ?_<;>refine OD.st 6 ?_<;>refine OD.st 7 ?_<;>refine OD.st 8 ?_<;>refine Zaa ?_))|fail)
    refine Zad [] (.bool ?_);have:la≠lb:=fun e=>by subst e;exact he rfl
    simp [this]
  ·refine go ?_;refine Zad [] (.bool ?_);have e:la=lb:=by
    rw [← Yaf (l:=la) (k:=k) (by omega),← Yaf (l:=lb) (k:=k) (by omega)];exact hpre
   simp [e]
 ·refine go ?_;refine Zad [] (.bool ?_);have:la≠lb:=fun e=>by subst e;exact hl rfl
  simp [this]
def Ya9 (l:List Cls):Prop:=l.length*72≤140737488355328∧∀ c∈l,c.1.length*8≤140737488355328∧c.2.1.length*8≤140737488355328∧c.2.2.length*16≤140737488355328
abbrev Ycb (v:Int × Int):AV:=.st [V.int v.1,V.int v.2]
abbrev Ych (l:List (Int × Int)):AV:=.sl 2 none (l.map Ycb)
theorem Yyd:EqD2 Tryz.prog 63 61 3 .i64:=⟨by kernel_rfl,by kernel_rfl,by kernel_rfl,by kernel_rfl,Tryz.underlying3,by kernel_rfl⟩
def asks (g:List (List Int)) (l:List Int):Bool:=decide (l.length≤16)&&oks g l
def upHas (g:List (List Int)) (b c:Int):Bool:=Ym0 ((ups g).getD b.toNat 0) c
theorem Yhq:∀ (r:List (List Int)) (us:List Nat),(upsF us r).length=us.length+r.length
 | [],us=>by simp [upsF]
 | p::r,us=>by rw [upsF,Yhq r];simp;omega
theorem Ydf (g:List (List Int)):(ups g).length=3+g.length:=by rw [ups,Yhq,Yar];simp
theorem Ymj:∀ (r:List (List Int)) (us:List Nat),us.length+r.length≤64→(∀ u∈us,u < 2 ^ 64)→∀ u∈upsF us r,u < 2 ^ 64
 | [],us,_,h=>h
 | p::r,us,hl,h=>by
   rw [upsF];refine Ymj r _ (by simp at hl ⊢;omega) fun u hu=>?_;rcases List.mem_append.1 hu with hu|hu
   ·exact h u hu
   ·rw [List.mem_singleton.1 hu];unfold Yj8 upK;have key:∀ (l:List Int) (s:Nat),s < 2 ^ 64→l.foldl (fun s p=>s ||| us.getD p.toNat 0) s < 2 ^ 64:=by
     intro l;induction l with
     | nil=>exact fun s hs=>hs
     | cons a l ih =>
       intro s hs;refine ih _ (Nat.or_lt_two_pow hs ?_);rw [List.getD_eq_getElem?_getD]
       cases hq:us[a.toNat]? with
       | none=>simp
       | some v=>exact h v (List.mem_of_getElem? hq)
    exact key _ _ (Ydc (Ydc (by decide) (by simp at hl;omega)) (by omega))
theorem YdO {α:Type} (f:α→Nat) (b:Nat):∀ (l:List α) (s:Nat),(l.foldl (fun s p=>s ||| f p) s).testBit b=(s.testBit b || l.any fun p=>(f p).testBit b)
 | [],s=>by simp
 | p::r,s=>by rw [List.foldl_cons,YdO f b r,Nat.testBit_or,List.any_cons,Bool.or_assoc]
theorem Yhu (x c b:Nat):(setWith x c).testBit b=(x.testBit b || decide (c=b)):=by
 rw [setWith,Nat.testBit_or,Nat.one_shiftLeft,Nat.testBit_two_pow]
theorem YdX {α β:Type} {f f':β→α→β}:∀ (l:List α) (s:β),(∀ a∈l,∀ s,f s a=f' s a)→l.foldl f s=l.foldl f' s
 | [],_,_=>rfl
 | a::r,s,h=>by rw [List.foldl_cons,List.foldl_cons,h a (by simp),YdX r _ (fun b hb=>h b (by simp [hb]))]
theorem Yl5 (us:List Nat) (ps:List Int) (c:Nat):Yj8 us ps c=ps.foldl (fun s p=>s ||| us.getD p.toNat 0) (setWith (setWith 0 c) 0):=by rw [Yj8,upK,List.take_length]
theorem Yj3:∀ (r:List (List Int)) (us:List Nat) (i:Nat),i < us.length→(upsF us r)[i]?=us[i]?
 | [],_,_,_=>rfl
 | p::r,us,i,h=>by rw [upsF,Yj3 r _ i (by simp;omega),List.getElem?_append_left h]
theorem Ym8:∀ (r:List (List Int)) (us:List Nat) (k:Nat) (ps:List Int),r[k]?=some ps→(∀ p∈ps,p.toNat < us.length+k)→(upsF us r)[us.length+k]?=some (Yj8 (upsF us r) ps (us.length+k))
 | [],us,k,ps,h,_=>by simp at h
 | q::r,us,0,ps,h,hp=>by
   simp at h;subst h;have e1:(us++[Yj8 us q us.length])[us.length]?=some (Yj8 us q us.length):=by simp
   rw [Nat.add_zero,upsF,Yj3 r _ us.length (by simp),e1];congr 1;rw [Yl5,Yl5];refine YdX _ _ fun p hpm s=>?_;have hlt:p.toNat < us.length:=by have:=hp p hpm;omega
   rw [List.getD_eq_getElem?_getD,List.getD_eq_getElem?_getD,Yj3 r _ p.toNat (by simp;omega),List.getElem?_append_left hlt]
 | q::r,us,k+1,ps,h,hp=>by
   have:=Ym8 r (us++[Yj8 us q us.length]) k ps (by simpa using h) (fun p hpm=>by have:=hp p hpm;simp;omega)
   simp only [List.length_append,List.length_cons,List.length_nil,Nat.zero_add] at this;rw [show us.length+1+k=us.length+(k+1) by omega] at this;exact this
theorem Ytx {g:List (List Int)} (hf:fine g=true) {c:Nat} (hc:c < 3+g.length):(ups g).getD c 0=Yj8 (ups g) (pOf g c) c:=by
 have h:=Ym8 (parentsOf g) [] c (pOf g c) (YbA hc) (fun p hp=>by
  have:=(YaK hf (c:=(c:Int)) (by omega)).2.1 p hp
  simp;omega)
 rw [List.length_nil,Nat.zero_add] at h;rw [List.getD_eq_getElem?_getD,ups,h];rfl
theorem Ybn {g:List (List Int)} (hf:fine g=true) {a:Nat} (ha:a < 3+g.length) {b:Int} (h0:0≤b) (h1:b < 64):upHas g a b=(decide (b=a) || decide (b=0) || (pOf g a).any fun p=>upHas g p b):=by
 have e:∀ x:Nat,Ym0 x b=x.testBit b.toNat:=fun x=>by simp [Ym0,h0,h1]
 have h2:(pOf g a).any (fun p=>upHas g p b)=(pOf g a).any (fun p=>((ups g).getD p.toNat 0).testBit b.toNat):=by
  congr 1;funext p;rw [upHas,e]
 have d1:decide (b=(a:Int))=decide (a=b.toNat):=by simp only [decide_eq_decide];omega
 have d2:decide (b=0)=decide (0=b.toNat):=by simp only [decide_eq_decide];omega
 rw [h2,upHas,e,Int.toNat_natCast,Ytx hf ha,Yl5,YdO,Yhu,Yhu,Nat.zero_testBit,Bool.false_or,d1,d2]
theorem YbT {g:List (List Int)} (hf:fine g=true) {a:Nat} (ha:a < 3+g.length):upHas g a a=true:=by
 have:=YaP hf
 rw [Ybn hf ha (by omega) (by omega)];simp
theorem YnQ {g:List (List Int)} (hf:fine g=true) {a:Nat} (ha:a < 3+g.length):upHas g a 0=true:=by
 rw [Ybn hf ha (by omega) (by omega)];simp
theorem Yin {g:List (List Int)} (hf:fine g=true):∀ (n a:Nat),a < n→a < 3+g.length→∀ b:Int,0≤b→b < 64→upHas g a b=true→b=0∨b=a∨(3≤b∧b < a):=by
 intro n;induction n with
 | zero=>intro a h;omega
 | succ n ih =>
   intro a han ha b h0 h1 h;rw [Ybn hf ha h0 h1] at h;simp only [Bool.or_eq_true,decide_eq_true_eq,List.any_eq_true] at h;rcases h with (h|h)|⟨p,hp,h⟩
   ·exact .inr (.inl h)
   ·exact .inl h
   ·have hpp:=(YaK hf (c:=(a:Int)) (by omega)).2.1 p hp;obtain ⟨q,rfl⟩:∃ q:Nat,p=(q:Int):=⟨p.toNat,by omega⟩;rcases ih q (by omega) (by omega) b h0 h1 h with e|e|e
    ·exact .inl e
    ·right;right;omega
    ·right;right;omega
theorem Yd8 {g:List (List Int)} (hf:fine g=true) {a:Nat} (ha:a < 3+g.length) {b:Int} (h0:0≤b) (h1:b < 64) (h:upHas g a b=true):b=0∨b=a∨(3≤b∧b < a):=Yin hf (a+1) a (by omega) ha b h0 h1 h
/-! ### The reference's marks -/
def clsAt (l:List Cls) (k:Nat):Cls:=l.getD k ([],[],[])
def YgW (l:List Cls) (c:Nat) (s:Int) (k:Nat):Bool:=(clsAt l k).2.1.contains s&&upHas (graphOf l) c ((3+k:Nat):Int)
def slotsOfN (l:List Cls) (c:Nat) (s:Int) (n:Nat):List Int:=(List.range n).flatMap fun k=>if YgW l c s k then [s] else []
def YbV (l:List Cls) (c n:Nat):List Int:=(upto n).flatMap fun s=>slotsOfN l c s l.length
def slotsOf (l:List Cls) (c:Nat):List Int:=YbV l c 40
theorem YeW (l:List Cls) (c:Nat) (s:Int) (n:Nat):slotsOfN l c s (n+1)=slotsOfN l c s n++(if YgW l c s n then [s] else []):=by rw [slotsOfN,List.range_succ,List.flatMap_append,← slotsOfN];simp
theorem YdZ (l:List Cls) (c n:Nat):YbV l c (n+1)=YbV l c n++slotsOfN l c n l.length:=by rw [YbV,Yla,List.flatMap_append,← YbV];simp
theorem Yge (l:List Cls) (c:Nat) (s:Int):∀ n,(slotsOfN l c s n).length≤n
 | 0=>by simp [slotsOfN]
 | n+1=>by
   rw [YeW,List.length_append];have:=Yge l c s n
   split<;>simp<;>omega
theorem Ydq (l:List Cls) (c:Nat):∀ n,(YbV l c n).length≤n*l.length
 | 0=>by simp [YbV,upto]
 | n+1=>by
   rw [YdZ,List.length_append];have:=Ydq l c n
   have:=Yge l c n l.length
   have h9:(n+1)*l.length=n*l.length+l.length:=Nat.succ_mul _ _;omega
theorem Ydl {l:List Cls} {c n:Nat} {s:Int}:s∈YbV l c n↔(0≤s∧s < (n:Int))∧∃ k,k < l.length∧YgW l c s k=true:=by
 simp only [YbV,slotsOfN,upto,List.mem_flatMap,List.mem_map,List.mem_range];constructor
 ·rintro ⟨_,⟨q,hq,rfl⟩,k,hk,h⟩;split at h
  ·rename_i ho
   simp only [List.mem_singleton] at h;subst h;exact ⟨by omega,k,hk,ho⟩
  ·simp at h
 ·rintro ⟨h1,k,hk,ho⟩;exact ⟨s,⟨s.toNat,by omega,by omega⟩,k,hk,by rw [if_pos ho];simp⟩
def Yg2 (l:List Cls) (s c:Int):Option Int:=if c < 3 then none else ((clsAt l (c-3).toNat).2.2.find? fun p=>p.1==s).map (·.2)
def YbI (l:List Cls) (o:List Int) (s:Int):Option Int:=o.findSome? (Yg2 l s)
theorem YeL (l:List Cls) (c:Int) (r:List Int) (s:Int):YbI l (c::r) s=match Yg2 l s c with|some n=>some n|none=>YbI l r s:=by
 rw [YbI,List.findSome?_cons];cases Yg2 l s c<;>rfl
def YxU:Option Int→Int × Int
 | some n=>(1,n)
 | none=>(2,0)
def Yao (l:List Cls) (c:Nat) (s:Int):Int × Int:=YxU (YbI l (at_ (orders (graphOf l)) c) s)
def YgF (v:Int × Int) (n:Int):Bool:=
 if v.1=1 then decide (-1000000000≤v.2)&&decide (v.2≤1000000000) else if v.1=2 then decide (v.2=0) else if v.1=3 then decide (0≤v.2)&&decide (v.2 < n) else false
theorem Yq9 {α β:Type} (f:α→β) (a:List α) (x:α):a.map f++[f x]=(a++[x]).map f:=by simp
def initsOk (has:List Int):List Int→List (Int × Int)→Bool
 | _,[]=>true
 | own,i::r=>((has.contains i.1&&!own.contains i.1)&&(decide (-1000000000≤i.2)&&decide (i.2≤1000000000)))&&initsOk has (own++[i.1]) r
theorem YpB {p:Nat→Bool} {n k:Nat} (hk:k < n) (h:p k=false):(List.range n).all p=false:=by
 rw [List.all_eq_false];exact ⟨k,List.mem_range.2 hk,by simp [h]⟩
theorem Yji {p:Nat→Bool} {n:Nat} (h:∀ k,k < n→p k=true):(List.range n).all p=true:=by
 rw [List.all_eq_true];exact fun k hk=>h k (List.mem_range.1 hk)
theorem Yfg {g:List (List Int)} {a b:Int} (h:upHas g a b=true):0≤b∧b < 64:=by
 rw [upHas,Ym0] at h;simp only [Bool.and_eq_true,decide_eq_true_eq] at h;exact h.1
theorem Ym7 {g:List (List Int)} (hf:fine g=true) {a:Nat} (ha:a < 3+g.length) {b:Int} (h:upHas g a b=true) (h3:3≤b):b≤a:=by
 obtain ⟨h0,h1⟩:=Yfg h;rcases Yin hf (a+1) a (by omega) ha b h0 h1 h with h|h|h<;>omega
theorem Yjm {g:List (List Int)} (hf:fine g=true):∀ (n a:Nat),a < n→a < 3+g.length→∀ c b:Int,3≤c→upHas g a c=true→b∈pOf g c→upHas g a b=true:=by
 intro n;induction n with
 | zero=>intro a h;omega
 | succ n ih =>
   intro a han ha c b hc3 hc hb;obtain ⟨h0,h1⟩:=Yfg hc;have hle:=Ym7 hf ha hc hc3;have hpb:=(YaK hf (c:=c) (by omega)).2.1 b hb;have h16:=YaP hf;rw [Ybn hf ha (by omega) (by omega)] at hc ⊢;simp only [Bool.or_eq_true,decide_eq_true_eq,List.any_eq_true] at hc ⊢;rcases hc with (hc|hc)|⟨p,hp,hc⟩
   ·subst hc;refine .inr ⟨b,hb,?_⟩;have:=YbT hf (a:=b.toNat) (by omega)
    rwa [show ((b.toNat:Nat):Int)=b by omega] at this
   ·omega
   ·have hpp:=(YaK hf (c:=(a:Int)) (by omega)).2.1 p hp;obtain ⟨q,rfl⟩:∃ q:Nat,p=q:=⟨p.toNat,by omega⟩;exact .inr ⟨_,hp,ih q (by omega) (by omega) c b hc3 hc hb⟩
theorem YfZ {g:List (List Int)} (hf:fine g=true):∀ (n a:Nat),a < n→a < 3+g.length→∀ b:Int,3≤b→upHas g a b=true→b=a∨∃ c:Nat,3≤c∧c≤a∧upHas g a c=true∧b∈pOf g c:=by
 intro n;induction n with
 | zero=>intro a h;omega
 | succ n ih =>
   intro a han ha b hb3 hb;obtain ⟨h0,h1⟩:=Yfg hb;have h16:=YaP hf;have hb':=hb;rw [Ybn hf ha (by omega) (by omega)] at hb;simp only [Bool.or_eq_true,decide_eq_true_eq,List.any_eq_true] at hb;rcases hb with (hb|hb)|⟨p,hp,hb⟩
   ·exact .inl hb
   ·omega
   ·have hpp:=(YaK hf (c:=(a:Int)) (by omega)).2.1 p hp;obtain ⟨q,rfl⟩:∃ q:Nat,p=q:=⟨p.toNat,by omega⟩;right;rcases ih q (by omega) (by omega) b hb3 hb with rfl|⟨c,c3,c1,c2,c4⟩
    ·exact ⟨a,by omega,Nat.le_refl _,YbT hf ha,hp⟩
    ·refine ⟨c,c3,by omega,?_,c4⟩;rw [Ybn hf ha (by omega) (by omega)];simp only [Bool.or_eq_true,decide_eq_true_eq,List.any_eq_true];exact .inr ⟨_,hp,c2⟩
/-! ## The slots stand one YaJ the other -/
def consB:Int→List Int→Bool
 | _,[]=>true
 | n,s::r=>decide (s=n)&&consB (n+1) r
def slN:List Cls→Nat
 | []=>0
 | c::r=>c.2.1.length+slN r
def clsB:Int→List Cls→Bool
 | _,[]=>true
 | n,c::r=>(decide (c.2.1.length≤4)&&consB n c.2.1)&&clsB (n+c.2.1.length) r
def ownF:Nat→List Cls→List Int
 | _,[]=>[]
 | k,c::r=>List.replicate c.2.1.length ((k:Int)+3)++ownF (k+1) r
theorem Yfx:∀ (a b:List Int) (n:Int),consB n (a++b)=(consB n a&&consB (n+a.length) b)
 | [],b,n=>by simp [consB]
 | s::r,b,n=>by rw [List.cons_append,consB,consB,Yfx r b,Bool.and_assoc,show n+1+(r.length:Int)=n+((s::r).length:Int) by simp;omega]
theorem YeX:∀ (l:List Int) (n:Int),consB n l=true→∀ k (h:k < l.length),l[k]=n+k
 | s::r,n,h,0,_=>by simp only [consB,Bool.and_eq_true,decide_eq_true_eq] at h;simp [h.1]
 | s::r,n,h,k+1,hk=>by
   simp only [consB,Bool.and_eq_true,decide_eq_true_eq] at h;have:=YeX r (n+1) h.2 k (by simpa using hk)
   rw [List.getElem_cons_succ,this];omega
theorem Yg7 {l:List Int} {n:Int} (h:consB n l=true) {s:Int}:s∈l↔n≤s∧s < n+l.length:=by
 constructor
 ·intro hs;obtain ⟨k,hk,rfl⟩:=List.mem_iff_getElem.1 hs;rw [YeX l n h k hk];omega
 ·rintro ⟨h1,h2⟩;have hk:(s-n).toNat < l.length:=by omega
  have:=YeX l n h (s-n).toNat hk
  exact List.mem_iff_getElem.2 ⟨_,hk,by rw [this];omega⟩
theorem YeK:∀ {l:List Int} {n:Int},consB n l=true→l.Nodup
 | [],_,_=>by simp
 | s::r,n,h=>by
   have h':=h;simp only [consB,Bool.and_eq_true,decide_eq_true_eq] at h;rw [List.nodup_cons];refine ⟨fun hs=>?_,YeK h.2⟩;have:=(Yg7 h.2).1 hs
   omega
theorem Yjv:∀ (a b:List Cls),slN (a++b)=slN a+slN b
 | [],b=>by simp [slN]
 | c::r,b=>by rw [List.cons_append,slN,slN,Yjv r b];omega
theorem Ydz (l:List Cls) {k:Nat} (h:k < l.length):slN (l.take (k+1))=slN (l.take k)+l[k].2.1.length:=by rw [Yab h,Yjv,slN,slN];rfl
theorem YjG:∀ (a b:List Cls) (n:Int),clsB n (a++b)=(clsB n a&&clsB (n+slN a) b)
 | [],b,n=>by simp [clsB,slN]
 | c::r,b,n=>by
   rw [List.cons_append,clsB,clsB,YjG r b,slN,show n+(c.2.1.length:Int)+(slN r:Int)=n+((c.2.1.length+slN r:Nat):Int) by omega];simp only [Bool.and_assoc]
theorem Yet {l:List Cls} (h:clsB 0 l=true) {k:Nat} (hk:k < l.length):l[k].2.1.length≤4∧consB (slN (l.take k)) l[k].2.1=true:=by
 have e:l=l.take k++l[k]::l.drop (k+1):=by rw [← Yac hk,List.take_append_drop]
 have h2:clsB 0 (l.take k++l[k]::l.drop (k+1))=true:=by rw [← e];exact h
 rw [YjG] at h2;simp only [Bool.and_eq_true,clsB,decide_eq_true_eq,Int.zero_add] at h2;exact h2.2.1
theorem Ydu:∀ {l:List Cls} {n:Int},clsB n l=true→slN l≤4*l.length
 | [],_,_=>by simp [slN]
 | c::r,n,h=>by
   simp only [clsB,Bool.and_eq_true,decide_eq_true_eq] at h;have:=Ydu h.2
   rw [slN];simp;omega
theorem YmO:∀ (a b:List Cls) (k:Nat),ownF k (a++b)=ownF k a++ownF (k+a.length) b
 | [],b,k=>by simp [ownF]
 | c::r,b,k=>by rw [List.cons_append,ownF,ownF,YmO r b,List.append_assoc,show k+1+r.length=k+(c::r).length by simp;omega]
theorem Ylr (l:List Cls) {k:Nat} (h:k < l.length):ownF 0 (l.take (k+1))=ownF 0 (l.take k)++List.replicate l[k].2.1.length ((k:Int)+3):=by
 rw [Yab h,YmO,ownF,ownF,List.append_nil,List.length_take,Nat.min_eq_left (by omega),Nat.zero_add]
theorem YbL:∀ (l:List Cls) (k:Nat),(ownF k l).length=slN l
 | [],k=>rfl
 | c::r,k=>by rw [ownF,slN,List.length_append,YbL r];simp
theorem YeC (l:List Cls) (k:Nat):slN (l.take k)≤slN l:=by
 have:slN l=slN (l.take k)+slN (l.drop k):=by rw [← Yjv,List.take_append_drop]
 omega
theorem Ydp:∀ (l:List Cls) (q s:Nat),s < slN l→∃ k,∃ (hk:k < l.length),slN (l.take k)≤s∧s < slN (l.take k)+l[k].2.1.length∧(ownF q l).getD s 0=((q+k:Nat):Int)+3
 | [],q,s,h=>by simp [slN] at h
 | c::r,q,s,h=>by
   by_cases hs:s < c.2.1.length
   ·refine ⟨0,by simp,by simp [slN],by simpa [slN] using hs,?_⟩;rw [ownF,List.getD_eq_getElem?_getD,List.getElem?_append_left (by simpa using hs),List.getElem?_replicate,if_pos hs];simp
   ·rw [slN] at h;obtain ⟨k,hk,h1,h2,h3⟩:=Ydp r (q+1) (s-c.2.1.length) (by omega);refine ⟨k+1,by simp;omega,?_,?_,?_⟩
    ·rw [List.take_succ_cons,slN];omega
    ·rw [List.take_succ_cons,slN,List.getElem_cons_succ];omega
    ·rw [ownF,List.getD_eq_getElem?_getD,List.getElem?_append_right (by simp;omega),← List.getD_eq_getElem?_getD,List.length_replicate,h3];omega
theorem YdJ {l:List Cls} (h:clsB 0 l=true) {k:Nat} (hk:k < l.length) {s:Int}:s∈l[k].2.1↔(0≤s∧s < slN l)∧(ownF 0 l).getD s.toNat 0=(k:Int)+3:=by
 have hmono:∀ i j,i < j→j < l.length→slN (l.take i)+(l.getD i ([],[],[])).2.1.length≤slN (l.take j):=by
  intro i j hij hj;have e1:l.take j=l.take (i+1)++(l.drop (i+1)).take (j-(i+1)):=by
   rw [show j=(i+1)+(j-(i+1)) by omega,List.take_add];congr 2;omega
  rw [e1,Yjv,Ydz l (by omega),Yai (by omega)];omega
 have hc:=(Yet h hk).2;have htot:=Ydz l hk;have hle:=YeC l (k+1);rw [Yg7 hc];constructor
 ·rintro ⟨h1,h2⟩;refine ⟨⟨by omega,by omega⟩,?_⟩;obtain ⟨j,hj,g1,g2,g3⟩:=Ydp l 0 s.toNat (by omega);rw [g3];by_cases hjk:j=k
  ·omega
  ·rcases Nat.lt_or_gt_of_ne hjk with hlt|hlt
   ·have:=hmono j k hlt hk
    rw [Yai hj] at this;omega
   ·have:=hmono k j hlt hj
    rw [Yai hk] at this;omega
 ·rintro ⟨⟨h1,h2⟩,h3⟩;obtain ⟨j,hj,g1,g2,g3⟩:=Ydp l 0 s.toNat (by omega);rw [g3] at h3;obtain rfl:j=k:=by omega
  omega
/-! ## The slots of a class -/
def hasTo (l:List Cls) (c:Int) (n:Nat):List Int:=((List.range n).filter fun s=>upHas (graphOf l) c ((ownF 0 l).getD s 0)).map fun (s:Nat)=>(s:Int)
def YfE (l:List Cls) (c:Int):List Int:=hasTo l c (slN l)
theorem Yjg {l:List Cls} {c s:Int}:s∈YfE l c↔(0≤s∧s < slN l)∧upHas (graphOf l) c ((ownF 0 l).getD s.toNat 0)=true:=by
 simp only [YfE,hasTo,List.mem_map,List.mem_filter,List.mem_range];constructor
 ·rintro ⟨n,⟨h1,h2⟩,rfl⟩;exact ⟨by omega,by simpa using h2⟩
 ·rintro ⟨h1,h2⟩;exact ⟨s.toNat,⟨by omega,h2⟩,by omega⟩
theorem Yg6 (l:List Cls) (c:Int):(YfE l c).Pairwise (· < ·):=by
 rw [YfE,hasTo,List.pairwise_map];refine List.Pairwise.filter _ ?_;exact List.Pairwise.imp (fun h=>by omega) (List.pairwise_lt_range (n:=slN l))
def Yca (l:List Cls) (c:Nat) (j:Nat):List Int:=(List.range j).flatMap fun k=>if upHas (graphOf l) c ((c-k:Nat):Int) then (l.getD (c-k-3) ([],[],[])).2.1 else []
theorem YeB (l:List Cls) (c j:Nat):Yca l c (j+1)=Yca l c j++(if upHas (graphOf l) c ((c-j:Nat):Int) then (l.getD (c-j-3) ([],[],[])).2.1 else []):=by
 rw [Yca,List.range_succ,List.flatMap_append,← Yca];simp
theorem Yi1 {l:List Cls} {c j:Nat} {s:Int}:s∈Yca l c j↔∃ k,k < j∧upHas (graphOf l) c ((c-k:Nat):Int)=true∧s∈(l.getD (c-k-3) ([],[],[])).2.1:=by
 simp only [Yca,List.mem_flatMap,List.mem_range];constructor
 ·rintro ⟨k,hk,h⟩;split at h
  ·rename_i hu;exact ⟨k,hk,hu,h⟩
  ·simp at h
 ·rintro ⟨k,hk,hu,h⟩;exact ⟨k,hk,by rw [if_pos hu];exact h⟩
theorem Ylm {l:List Cls} (h:clsB 0 l=true) {c:Nat} (hc:c < 3+l.length):∀ j,j+3≤c+1→(Yca l c j).Nodup:=by
 intro j;induction j with
 | zero=>intro _;simp [Yca]
 | succ j ih =>
   intro hj;rw [YeB,List.nodup_append];have hkl:c-j-3 < l.length:=by omega
   refine ⟨ih (by omega),?_,?_⟩
   ·split
    ·rw [Yai hkl];exact YeK (Yet h hkl).2
    ·simp
   ·intro a ha b hb hab;subst hab;obtain ⟨k,hk,_,h2⟩:=Yi1.1 ha;split at hb
    ·rw [Yai hkl] at hb;have hk2:c-k-3 < l.length:=by omega
     rw [Yai hk2] at h2;have e1:=((YdJ h hkl).1 hb).2;have e2:=((YdJ h hk2).1 h2).2;omega
    ·simp at hb
theorem Yog {l:List Cls} (h:clsB 0 l=true) {c:Nat} (hc:c < 3+l.length):∀ j,j+3≤c+1→(Yca l c j).length≤4*j:=by
 intro j;induction j with
 | zero=>intro _;simp [Yca]
 | succ j ih =>
   intro hj;have:=ih (by omega)
   have hkl:c-j-3 < l.length:=by omega
   have h4:=(Yet h hkl).1;rw [YeB,List.length_append];split
   ·rw [Yai hkl];omega
   ·simp;omega
theorem YlR {l:List Cls} (hf:fine (graphOf l)=true) (h:clsB 0 l=true) {c:Nat} (h3:3≤c) (hc:c < 3+l.length):Yoa (Yca l c (c-2))=YfE l c:=by
 have hgl:(graphOf l).length=l.length:=by simp [graphOf]
 have hnd:=Ylm h hc (c-2) (by omega);have hs:=Yg6 l c;have hnd2:(YfE l c).Nodup:=List.Pairwise.imp (fun h=>by omega) hs;have hperm:(Yca l c (c-2)).Perm (YfE l c):=by
  refine (List.perm_ext_iff_of_nodup hnd hnd2).2 fun s=>?_;rw [Yi1,Yjg];constructor
  ·rintro ⟨k,hk,hu,hs⟩;have hkl:c-k-3 < l.length:=by omega
   rw [Yai hkl] at hs;obtain ⟨g1,g2⟩:=(YdJ h hkl).1 hs;refine ⟨g1,?_⟩;rw [g2,show ((c-k-3:Nat):Int)+3=((c-k:Nat):Int) by omega];exact hu
  ·rintro ⟨⟨h0,h1⟩,hu⟩;obtain ⟨k,hk,g1,g2,g3⟩:=Ydp l 0 s.toNat (by omega);rw [Nat.zero_add] at g3;rw [g3] at hu;have hle:=Ym7 hf (a:=c) (by omega) hu (by omega);have hkl:c-(c-3-k)-3=k:=by omega
   refine ⟨c-3-k,by omega,?_,?_⟩
   ·rw [show ((c-(c-3-k):Nat):Int)=(k:Int)+3 by omega];exact hu
   ·rw [hkl,Yai hk];exact (YdJ h hk).2 ⟨⟨h0,h1⟩,g3⟩
 refine List.Perm.eq_of_pairwise (le:=(·≤·)) (fun a b _ _ h1 h2=>by omega) (Ygp _) ?_ ((YfP _).trans hperm);exact List.Pairwise.imp (fun h=>by omega) hs
def insK (L:List Int) (k:Int):List Int:=if L.contains k then L else L++[k]
theorem Ym4 {L:List Int} {k b:Int}:b∈insK L k↔b∈L∨b=k:=by
 unfold insK;split
 ·rename_i h
  have h':k∈L:=by simpa using h
  constructor
  ·exact .inl
  ·rintro (h|rfl)
   ·exact h
   ·exact h'
 ·simp
def YaW (g:List (List Int)) (c:Nat):Nat→List Int
 | 0=>[(c:Int)]
 | j+1=>if (YaW g c j).contains ((c-j:Nat):Int) then (pOf g ((c-j:Nat):Int)).foldl insK (YaW g c j) else YaW g c j
theorem Yhi {b:Int}:∀ (l L:List Int),b∈l.foldl insK L↔b∈L∨b∈l
 | [],L=>by simp
 | k::r,L=>by rw [List.foldl_cons,Yhi r,Ym4,List.mem_cons,or_assoc]
theorem YiP {g:List (List Int)} (hf:fine g=true) {c:Nat} (h3:3≤c) (hc:c < 3+g.length):∀ j,j≤c-2 →
  (∀ b:Int,b∈YaW g c j↔(b=c∨∃ q:Nat,c-j < q∧q≤c∧upHas g c q=true∧b∈pOf g q))∧(j≤c-3→(((c-j:Nat):Int)∈YaW g c j↔upHas g c ((c-j:Nat):Int)=true)):=by
 intro j;have key:(∀ b:Int,b∈YaW g c j↔(b=c∨∃ q:Nat,c-j < q∧q≤c∧upHas g c q=true∧b∈pOf g q))→(j≤c-3→(((c-j:Nat):Int)∈YaW g c j↔upHas g c ((c-j:Nat):Int)=true)):=by
  intro hk hj;rw [hk];constructor
  ·rintro (h|⟨q,q1,q2,q3,q4⟩)
   ·rw [h];exact YbT hf hc
   ·exact Yjm hf (c+1) c (by omega) hc q _ (by omega) q3 q4
  ·intro h;rcases YfZ hf (c+1) c (by omega) hc _ (by omega) h with h|⟨q,q0,q1,q2,q4⟩
   ·exact .inl h
   ·refine .inr ⟨q,?_,q1,q2,q4⟩;have:=(YaK hf (c:=(q:Int)) (by omega)).2.1 _ q4
    omega
 induction j with
 | zero =>
   intro _;refine ⟨?_,key ?_⟩ <;>
   ·intro b;simp only [YaW,List.mem_singleton];constructor
    ·exact .inl
    ·rintro (h|⟨q,q1,q2,_⟩)
     ·exact h
     ·omega
 | succ j ih =>
   intro hj;have key':(∀ b:Int,b∈YaW g c j↔(b=c∨∃ q:Nat,c-j < q∧q≤c∧upHas g c q=true∧b∈pOf g q))→(j≤c-3→(((c-j:Nat):Int)∈YaW g c j↔upHas g c ((c-j:Nat):Int)=true)):=by
    intro hk hj;rw [hk];constructor
    ·rintro (h|⟨q,q1,q2,q3,q4⟩)
     ·rw [h];exact YbT hf hc
     ·exact Yjm hf (c+1) c (by omega) hc q _ (by omega) q3 q4
    ·intro h;rcases YfZ hf (c+1) c (by omega) hc _ (by omega) h with h|⟨q,q0,q1,q2,q4⟩
     ·exact .inl h
     ·refine .inr ⟨q,?_,q1,q2,q4⟩;have:=(YaK hf (c:=(q:Int)) (by omega)).2.1 _ q4
      omega
   obtain ⟨i1,i2⟩:=ih key' (by omega);have i2:=i2 (by omega);have main:∀ b:Int,b∈YaW g c (j+1)↔(b=c∨∃ q:Nat,c-(j+1) < q∧q≤c∧upHas g c q=true∧b∈pOf g q):=by
    intro b;rw [YaW];by_cases hu:upHas g c ((c-j:Nat):Int)=true
    ·rw [if_pos (by simpa using i2.2 hu),Yhi,i1];constructor
     ·rintro ((h|⟨q,q1,q2,q3⟩)|h)
      ·exact .inl h
      ·exact .inr ⟨q,by omega,q2,q3⟩
      ·exact .inr ⟨c-j,by omega,by omega,hu,h⟩
     ·rintro (h|⟨q,q1,q2,q3,q4⟩)
      ·exact .inl (.inl h)
      ·by_cases hq:q=c-j
       ·subst hq;exact .inr q4
       ·exact .inl (.inr ⟨q,by omega,q2,q3,q4⟩)
    ·rw [if_neg (by simpa using fun h=>hu (i2.1 h)),i1];constructor
     ·rintro (h|⟨q,q1,q2,q3⟩)
      ·exact .inl h
      ·exact .inr ⟨q,by omega,q2,q3⟩
     ·rintro (h|⟨q,q1,q2,q3,q4⟩)
      ·exact .inl h
      ·by_cases hq:q=c-j
       ·subst hq;exact absurd q3 hu
       ·exact .inr ⟨q,by omega,q2,q3,q4⟩
   exact ⟨main,key main⟩
theorem Yor {g:List (List Int)} (hf:fine g=true) {c j:Nat} (h3:3≤c) (hc:c < 3+g.length) (hj:j≤c-3):(YaW g c j).contains ((c-j:Nat):Int)=upHas g c ((c-j:Nat):Int):=by
 rw [Bool.eq_iff_iff,List.contains_iff_mem];exact (YiP hf h3 hc j (by omega)).2 hj
/-! ## Which programs are formed -/
def Yb7 (l:List Cls) (k:Nat):Bool:=decide (0 < (at_ (orders (graphOf l)) ((3+k:Nat):Int)).length)&&initsOk (YfE l ((3+k:Nat):Int)) [] (clsAt l k).2.2
def Yag (p:Prg):Bool:=(decide (p.cls.length≤10)&&clsB 0 p.cls)&&((decide ((slN p.cls:Int)=p.slots)&&fine (graphOf p.cls))&&(List.range p.cls.length).all (Yb7 p.cls))
def YqG (k:Int):Bool:=decide (k=1) || decide (k=4)
def Yjh (p:Prg) (out:List Int) (x:Mth):Option (List Int):=
 if (decide (1≤x.kind)&&decide (x.kind≤4))&&(decide (0≤x.gen)&&decide (x.gen < p.gens.length)) then
  if okF p.cls.length (slN p.cls) 24 12 x.fact&&decide (Ybf x.fact≤p.gens.getD x.gen.toNat 0) then YcA p (YqG x.kind) out (YbY p x.node (p.gens.getD x.gen.toNat 0)) else none
 else none
def Yb4 (p:Prg) (out:List Int) (l:List Mth):Option (List Int):=l.foldlM (Yjh p) out
def Yed (p:Prg):Bool:=((decide (p.gens.length≤8)&&decide (p.mths.length≤16))&&(decide (1≤p.nodes.length)&&decide (p.nodes.length≤120)))&&p.gens.all fun n=>decide (1≤n)&&decide (n≤3)
def Ybs (p:Prg):Option (List Int):=
 if Yag p&&Yed p then
  ((Yb4 p (List.replicate p.nodes.length (-1)) p.mths).bind fun o=>YcA p false o (YbY p p.main 0)).filter fun o=>!o.contains (-1)
 else none
def Ybk (p:Prg):Bool:=(Ybs p).isSome
theorem YfX (p:Prg) (out:List Int) (l:List Mth) (x:Mth):Yb4 p out (l++[x])=(Yb4 p out l).bind fun o=>Yjh p o x:=by simp [Yb4,List.foldlM_append]
theorem Yhe (p:Prg) (out:List Int) (l r:List Mth):Yb4 p out (l++r)=(Yb4 p out l).bind fun o=>Yb4 p o r:=by simp [Yb4,List.foldlM_append]
theorem YqC {p:Prg} {next:Bool} {out o:List Int} {x:Pl} (h:YbP p next out x=some o) (h0:∀ y∈out,-1≤y) (hx:0≤x.2.1):∀ y∈o,-1≤y:=by
 unfold YbP at h;split at h
 ·split at h
  ·cases h
   intro y hy;rcases List.mem_or_eq_of_mem_set hy with h|h
   ·exact h0 y h
   ·omega
  ·cases h
 ·cases h
theorem YlI {p:Prg} {next:Bool}:∀ {l:List Pl} {out o:List Int},YcA p next out l=some o→(∀ y∈out,-1≤y)→(∀ x∈l,0≤x.2.1)→∀ y∈o,-1≤y
 | [],out,o,h,h0,_=>by simp [YcA] at h;subst h;exact h0
 | x::l,out,o,h,h0,hl=>by
   have e:=Ydr p next out [x] l;rw [List.singleton_append,h] at e
   cases h1:YcA p next out [x] with
   | none=>rw [h1] at e;cases e
   | some o1 =>
     rw [h1] at e;have h2:YbP p next out x=some o1:=by simpa [YcA] using h1
     exact YlI e.symm (YqC h2 h0 (hl x (by simp))) (fun y hy=>hl y (by simp [hy]))
theorem YlY (nodes:List Nd):∀ (f:Nat) (n s d:Int),0≤s→∀ x∈YgE nodes f n s d,0≤x.2.1
 | 0,n,s,d,h,x,hx=>by simp [YgE] at hx;subst hx;exact h
 | f+1,n,s,d,h,x,hx=>by
   rw [YgE] at hx;rcases List.mem_cons.1 hx with rfl|hx
   ·exact h
   ·obtain ⟨q,_,hq⟩:=List.mem_flatMap.1 hx;exact YlY nodes f _ _ _ (by split<;>omega) x hq
theorem Yjc {p:Prg} {out o:List Int} {x:Mth} (h:Yjh p out x=some o):o.length=out.length:=by
 unfold Yjh at h;split at h
 ·split at h
  ·exact Ye5 h
  ·cases h
 ·cases h
theorem Ykl {p:Prg}:∀ {l:List Mth} {out o:List Int},Yb4 p out l=some o→o.length=out.length
 | [],out,o,h=>by simp [Yb4] at h;rw [h]
 | x::l,out,o,h=>by
   have e:=Yhe p out [x] l;rw [List.singleton_append,h] at e
   cases h1:Yb4 p out [x] with
   | none=>rw [h1] at e;cases e
   | some o1 =>
     rw [h1] at e;have h2:Yjh p out x=some o1:=by simpa [Yb4] using h1
     rw [Ykl e.symm,Yjc h2]
theorem YgP {p:Prg} (h:Yed p=true) {k:Nat} (hk:k < p.gens.length):1≤p.gens[k]∧p.gens[k]≤3:=by
 simp only [Yed,Bool.and_eq_true,List.all_eq_true,decide_eq_true_eq] at h;exact h.2 _ (List.getElem_mem hk)
theorem Ytd {p:Prg} (hl:Yed p=true) {out o:List Int} {x:Mth} (h:Yjh p out x=some o) (h0:∀ y∈out,-1≤y):∀ y∈o,-1≤y:=by
 unfold Yjh at h;split at h
 ·rename_i hk
  simp only [Bool.and_eq_true,decide_eq_true_eq] at hk;have hg:=YgP hl (k:=x.gen.toNat) (by omega);split at h
  ·refine YlI h h0 (YlY _ _ _ _ _ ?_);rw [Yai (by omega)];omega
  ·cases h
 ·cases h
theorem Ynw {p:Prg} (hl:Yed p=true):∀ {l:List Mth} {out o:List Int},Yb4 p out l=some o→(∀ y∈out,-1≤y)→∀ y∈o,-1≤y
 | [],out,o,h,h0=>by simp [Yb4] at h;subst h;exact h0
 | x::l,out,o,h,h0=>by
   have e:=Yhe p out [x] l;rw [List.singleton_append,h] at e
   cases h1:Yb4 p out [x] with
   | none=>rw [h1] at e;cases e
   | some o1 =>
     rw [h1] at e;have h2:Yjh p out x=some o1:=by simpa [Yb4] using h1
     exact Ynw hl e.symm (Ytd hl h2 h0)
theorem Ysl {o:List Int} (h:∀ y∈o,-1≤y):o.contains (-1)=o.any fun y=>decide (y < 0):=by
 rw [Bool.eq_iff_iff,List.contains_iff_mem,List.any_eq_true];constructor
 ·intro hm;exact ⟨-1,hm,by decide⟩
 ·rintro ⟨y,hy,hlt⟩;have:=h y hy
  have:y=-1:=by simp at hlt;omega
  rwa [this] at hy
theorem YiK (n:Int):V.Spec Tryz.prog 153 [V.int n] [] (V.bool (YaE n)) []:=by
 refine Se Tryz.func153 rfl rfl rfl fun B hB=>?_;(refine YnB ?_ ?_<;>intro hc<;>refine goW ?_)
 ·rw [show YaE n=decide (n≤1000000000) by simp [YaE,hc]];exact Zad [] (.ren rfl)
 ·rw [show YaE n=false by simp [YaE,hc]];exact Zad [] (.ren rfl)
theorem YkT (k:Int):V.Spec Tryz.prog 136 [V.int k] [] (V.bool (YqG k)) []:=by
 refine Se Tryz.func136 rfl rfl rfl fun B hB=>?_;(refine YnB ?_ ?_<;>intro hc<;>refine goW ?_)
 all_goals
  refine Zad [] (LE.bool ?_);simp [YqG, *]
set_option maxHeartbeats 2000000 in
theorem Yie (p:Prg) (x:Nd) (size:Int) (hc:p.cls.length < 1000000000):V.Spec Tryz.prog 159 [Ya0 p,ndA x,V.int size] [] (V.bool (YbE p x size)) []:=by
 obtain ⟨op,n,kids⟩:=x;refine Se Tryz.func159 rfl rfl rfl fun B hB=>?_;repeat' (with_reducible first|refine OL.st ?_|refine OL.box ?_|refine TC.region ?_|refine TC.seq ?_|refine OL.nil ?_|refine Zap ?_|refine TC.block ?_|refine TC.skip ?_|refine ZaM ?_|refine ZaB ?_|refine ZaD ?_|refine Zay ?_ ?_<;>(intro hc;try (exfalso;omega))|refine Zaz ?_ ?_<;>(intro hc;try (exfalso;omega))|refine TC.ret ?_|refine ZaE ?_|refine ZaK ?_|fail)
 ·refine OL.c (YiK n) Tryz.func153 ?_;refine goW ?_;refine Zad [] (LE.bool ?_);simp [YbE, *]
 all_goals
  refine Zad [] (LE.bool ?_);rw [Bool.eq_iff_iff];simp [YbE,mostV, *];try omega
def Yiq (p:Prg) (x:Nd):Int:=if x.1=5∧x.2.1 < 0 then -1 else (manyV p x).getD (-1)
set_option maxHeartbeats 2000000 in
theorem Yk9 (p:Prg) (x:Nd):V.Spec Tryz.prog 158 [Ya0 p,ndA x] [] (V.int (Yiq p x)) []:=by
 obtain ⟨op,n,kids⟩:=x;refine Se Tryz.func158 rfl rfl rfl fun B hB=>?_;repeat' (with_reducible first|refine OL.st ?_|refine OL.box ?_|refine TC.region ?_|refine TC.seq ?_|refine OL.nil ?_|refine Zap ?_|refine TC.block ?_|refine TC.skip ?_|refine ZaM ?_|refine Za9 ?_|refine ZaB ?_|refine ZaD ?_|refine Zay ?_ ?_<;>(intro hc;try (exfalso;omega))|refine Zaz ?_ ?_<;>(intro hc;try (exfalso;omega))|refine TC.ret ?_|refine ZaE ?_|refine ZaK ?_|fail)
 all_goals
  refine Zad [] (LE.int ?_);simp [Yiq,manyV, *];try omega
theorem Yfa (p:Prg) (hs:Ya9 p.cls):V.Spec Tryz.prog 129 [Ya0 p] [] (YbU (graphOf p.cls)) []:=by
 have hb:=hs.1;refine Se Tryz.func129 rfl rfl rfl fun B hB=>?_;refine goW ?_;refine Za6 1 ?_;refine ZaT 3 23 1 ?_;refine Zat (fun k:Nat=>[(1,.ep (YbB p) 0),(3,.hs 1),(4,V.int k)]) (fun k=>[.dead,.gs false 23 1 none ((graphOf (p.cls.take k)).map ints)]) (fun k=>k≤p.cls.length) (fun k=>p.cls.length-k) 0 [0,1] (Nat.zero_le _) ?_;rintro k hk;by_cases hkl:k < p.cls.length
 ·have hlen:(graphOf (p.cls.take k)).length=k:=by simp;omega
  have e:(graphOf (p.cls.take k)).map ints++[ints p.cls[k].1]=(graphOf (p.cls.take (k+1))).map ints:=by rw [graphOf,graphOf,Yab hkl,List.map_append,List.map_append];rfl
  have hc:=(hs.2 p.cls[k] (List.getElem_mem _)).1;generalize graphOf (p.cls.take k)=gk at *
  refine goW ?_;refine ZdZ ?_;refine Zax 19 ?_;refine goW ?_;exact Zan (k+1) [0,5] (by omega) (by omega)
 ·rw [Yaf (by omega)];refine goW ?_;refine Za4 2 ?_;exact Zad [] (.ren rfl)
abbrev fwC (g:List (List Int)) (ow:List Int):List AV:=[YbU g,ints ow]
abbrev fwA (g:List (List Int)) (ow:List Int):AV:=.st (fwC g ow)
set_option maxHeartbeats 1000000 in
theorem Yb1 (p:Prg) (hs:Ya9 p.cls) (hsl:slN p.cls≤1000000):V.Spec Tryz.prog 92 [Ya0 p] [] (fwA (graphOf p.cls) (ownF 0 p.cls)) []:=by
 have hg:=Yfa p hs;have hb:=hs.1;generalize graphOf p.cls=g at *
 refine Se Tryz.func92 rfl rfl rfl fun B hB=>?_;refine goW ?_;refine Zag 1 ?_;refine OL.c hg Tryz.func129 ?_;refine goW ?_;refine ZbO 2 1 3 1 ?_;refine Zat (fun k:Nat=>[(1,.ep (YbB p) 0),(2,.bp 1 0),(3,.bp 2 0),(4,V.int k)]) (fun k=>[.dead,.cb 130 [.raw (.slice none 0 0),.raw (.slice none 0 0)],.cb 130 [YbU g,.hs 3],.gs false 3 1 none ((ownF 0 (p.cls.take k)).map V.int)]) (fun k=>k≤p.cls.length) (fun k=>p.cls.length-k) 0 [0,1,2,3] (Nat.zero_le _) ?_;rintro k hk;by_cases hkl:k < p.cls.length
 ·have hos:=Ylr p.cls hkl;have hsu:=Ydz p.cls hkl;have hle:=YeC p.cls (k+1);have hql:(ownF 0 (p.cls.take k)).length=slN (p.cls.take k):=YbL _ _;generalize ownF 0 (p.cls.take k)=q at *
  refine goW ?_;refine Zat (fun j:Nat=>[(1,.ep (YbB p) 0),(2,.bp 1 0),(3,.bp 2 0),(4,V.int k),(5,V.int j)]) (fun j=>[.dead,.cb 130 [.raw (.slice none 0 0),.raw (.slice none 0 0)],.cb 130 [YbU g,.hs 3],.gs false 3 1 none ((q++List.replicate j ((k:Int)+3)).map V.int)]) (fun j=>j≤p.cls[k].2.1.length) (fun j=>p.cls[k].2.1.length-j) 0 [0,1,2,3] (Nat.zero_le _) ?_ (ho:=⟨⟨_,rfl,OE.ren rfl⟩,⟨_,rfl,OE.ren rfl⟩,⟨_,rfl,OE.ren rfl⟩,⟨_,rfl,OE.gsS (by simp)⟩,trivial⟩);rintro j hj;by_cases hjl:j < p.cls[k].2.1.length
  ·have e:(q++List.replicate j ((k:Int)+3)).map V.int++[V.int ((k:Int)+3)]=(q++List.replicate (j+1) ((k:Int)+3)).map V.int:=by rw [List.replicate_succ'];simp
   have hq2:(q++List.replicate j ((k:Int)+3)).length≤2000000:=by simp;omega
   generalize q++List.replicate j ((k:Int)+3)=q2 at *
   refine goW ?_;exact Zan (j+1) [0,1,2,5] (by omega) (by omega)
  ·obtain rfl:j=p.cls[k].2.1.length:=by omega
   have e5:=congrArg (List.map V.int) hos.symm;refine goW ?_;exact Zan (k+1) [0,1,2,3] (by omega) (by omega)
 ·rw [Yaf (by omega)];refine Zbp 2 1 ?_;refine goW ?_;exact Zba [] (.ren rfl)
theorem Yif (c:Cls) (hc:c.1.length*8≤140737488355328):V.Spec Tryz.prog 206 [YvC c] [] (ints c.1) []:=by
 refine Se Tryz.func206 rfl rfl rfl fun B hB=>?_;refine goW ?_;refine OL.c (Ysy c.1 hc) Tryz.func103 ?_;refine goW ?_;exact Zad [] (.ren rfl)
theorem YpD (g:List (List Int)):V.Spec Tryz.prog 229 [YbU g] [] (YbU g) []:=by
 refine Se Tryz.func229 rfl rfl rfl fun B hB=>?_;refine goW ?_;refine Zcu ?_;refine goW ?_;exact Zad [] (.ren rfl)
theorem YoW (l:List Int):V.Spec Tryz.prog 174 [ints l] [] (ints l) []:=by
 refine Se Tryz.func174 rfl rfl rfl fun B hB=>?_;refine goW ?_;refine Zcu ?_;refine goW ?_;exact Zad [] (.ren rfl)
theorem Yib (l:List Cls) (f:Cls→List Int) (hb:l.length*72≤140737488355328):V.Spec Tryz.prog 205 [Yei l,Yxx Tryz.prog (·∈l) (fun c=>ints (f c))] [] (YbU (l.map f)) []:=by
 refine Se Tryz.func205 rfl rfl rfl fun B hB=>?_;refine goW ?_;refine ZaT 5 23 1 ?_;refine Zat (fun k:Nat=>[(1,Yxx Tryz.prog (·∈l) (fun c=>ints (f c))),(5,.hs 0),(8,Yei l),(9,V.int l.length),(10,V.int k)]) (fun k=>[.gs false 23 1 none (((l.take k).map f).map ints)]) (fun k=>k≤l.length) (fun k=>l.length-k) 0 [0] (Nat.zero_le _) ?_;rintro k hk;by_cases hkl:k < l.length
 ·have hlen:((l.take k).map f).length=k:=by simp;omega
  have e:((l.take k).map f).map ints++[ints (f l[k])]=((l.take (k+1)).map f).map ints:=by rw [Yab hkl,List.map_append,List.map_append];rfl
  generalize (l.take k).map f=gk at *
  refine goW ?_;refine Zbm l[k] (List.getElem_mem _) ?_;refine goW ?_;exact Zan (k+1) [3] (by omega) (by omega)
 ·rw [Yaf (by omega)];refine goW ?_;refine Zbs 0 ?_;refine OL.c (YpD (l.map f)) Tryz.func229 ?_;refine goW ?_;exact Zad [] (.ren rfl)
theorem YdN (p:Prg) (hs:Ya9 p.cls):V.Spec Tryz.prog 187 [Ya0 p] [] (YbU (graphOf p.cls)) []:=by
 have he:=Yib p.cls (·.1) hs.1;refine Se Tryz.func187 rfl rfl rfl fun B hB=>?_;refine goW ?_;refine OL.c he Tryz.func205 ?_ (hle:=by with_unfolding_all exact ⟨.ren rfl,LE.fun0 Tryz.func206 (fun c hc=>Yif c (hs.2 c hc).1),trivial⟩);refine goW ?_;exact Zad [] (.ren rfl)
set_option maxHeartbeats 1000000 in
theorem Ylx (p:Prg) (hs:Ya9 p.cls) (hsl:slN p.cls≤1000000):V.Spec Tryz.prog 169 [Ya0 p] [] (fwA (graphOf p.cls) (ownF 0 p.cls)) []:=by
 have hg:=YdN p hs;have hb:=hs.1;generalize graphOf p.cls=g at *
 refine Se Tryz.func169 rfl rfl rfl fun B hB=>?_;refine goW ?_;refine Zag 1 ?_;refine OL.c hg Tryz.func187 ?_;refine goW ?_;refine ZbO 2 1 3 1 ?_;refine Zat (fun k:Nat=>[(2,.bp 1 0),(3,.bp 2 0),(10,Yei p.cls),(11,V.int p.cls.length),(12,V.int k)]) (fun k=>[.dead,.cb 130 [.raw (.slice none 0 0),.raw (.slice none 0 0)],.cb 130 [YbU g,.hs 3],.gs false 3 1 none ((ownF 0 (p.cls.take k)).map V.int)]) (fun k=>k≤p.cls.length) (fun k=>p.cls.length-k) 0 [0,1,2,3] (Nat.zero_le _) ?_;rintro k hk;by_cases hkl:k < p.cls.length
 ·have hos:=Ylr p.cls hkl;have hsu:=Ydz p.cls hkl;have hle:=YeC p.cls (k+1);have hql:(ownF 0 (p.cls.take k)).length=slN (p.cls.take k):=YbL _ _;generalize ownF 0 (p.cls.take k)=q at *
  refine goW ?_;refine Zat (fun j:Nat=>[(2,.bp 1 0),(3,.bp 2 0),(4,V.int k),(10,Yei p.cls),(11,V.int p.cls.length),(12,V.int k),(19,V.int p.cls[k].2.1.length),(20,V.int j)]) (fun j=>[.dead,.cb 130 [.raw (.slice none 0 0),.raw (.slice none 0 0)],.cb 130 [YbU g,.hs 3],.gs false 3 1 none ((q++List.replicate j ((k:Int)+3)).map V.int)]) (fun j=>j≤p.cls[k].2.1.length) (fun j=>p.cls[k].2.1.length-j) 0 [0,1,2,3] (Nat.zero_le _) ?_ (ho:=⟨⟨_,rfl,OE.ren rfl⟩,⟨_,rfl,OE.ren rfl⟩,⟨_,rfl,OE.ren rfl⟩,⟨_,rfl,OE.gsS (by simp)⟩,trivial⟩);rintro j hj;by_cases hjl:j < p.cls[k].2.1.length
  ·have e:(q++List.replicate j ((k:Int)+3)).map V.int++[V.int ((k:Int)+3)]=(q++List.replicate (j+1) ((k:Int)+3)).map V.int:=by rw [List.replicate_succ'];simp
   have hq2:(q++List.replicate j ((k:Int)+3)).length≤2000000:=by simp;omega
   generalize q++List.replicate j ((k:Int)+3)=q2 at *
   refine goW ?_;exact Zan (j+1) [0,1,2,5] (by omega) (by omega)
  ·obtain rfl:j=p.cls[k].2.1.length:=by omega
   have e5:=congrArg (List.map V.int) hos.symm;refine goW ?_;exact Zan (k+1) [0,1,2,3] (by omega) (by omega)
 ·rw [Yaf (by omega)];refine Zbp 2 1 ?_;refine goW ?_;exact Zba [] (.ren rfl)
end Go.Proofs
