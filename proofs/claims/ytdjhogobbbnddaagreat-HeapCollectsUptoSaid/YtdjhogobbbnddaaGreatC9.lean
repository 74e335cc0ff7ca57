/- Lemmas for the claim; no conditions. -/
import Derived.Test.YtdjhogobbbnddaaGreatC8
namespace Go.V
open Go Go.W
abbrev int (n:Int):AV:=.raw (.int .i64 n)
abbrev bool (b:Bool):AV:=.raw (.bool b)
abbrev ints (l:List Int):AV:=.sl 1 none (l.map int)
abbrev YbU (g:List (List Int)):AV:=.sl 1 none (g.map ints)
section
variable {P:Program} {tab:Tab} {N:Nat} {D:List Deferred} {ρ:Ro} {η:Eta} {x y z:Operand} {X Y:Nat} {M:Bool}
theorem YoE {p:Prop} [Decidable p] {Ty} (hx:ev2 ρ x=some (.raw (.bool (decide p)))):Yaj P N D (.unOp .not Ty x) ρ η (.raw (.bool (decide (¬p)))) M:=by
 have:=Ynk (P:=P) (N:=N) (D:=D) (η:=η) (Ty:=Ty) (M:=M) hx
 rw [show (!decide p)=decide (¬p) by simp] at this;exact this
theorem Yj5 {fn:Fn} {lf l:List Operand} {us vs:List AV} (hf:Yc6 ρ lf=some us) (hl:Yc6 ρ l=some vs):Yaj P N D (.makeFunc fn lf.toArray l.toArray) ρ η (.fn fn us vs) M:=fun m w γ ρc a hE hR hH=>by
 obtain ⟨v1,h1,h2⟩:=hR.evs hf;obtain ⟨v2,g1,g2⟩:=hR.evs hl;exact ⟨.func fn v1.toArray v2.toArray,.fn h2.len g2.len h2.get g2.get,fun _ _ _ _ _ _=>by simp [execOp,Instr.makeFunc,hE.evs h1,hE.evs g1]⟩
theorem YlE {vs:List AV} {i:Nat} {u} (hx:ev2 ρ x=some (.tp vs)) (hi:vs[i]?=some u):Yaj P N D (.extract x i) ρ η u M:=fun m w γ ρc a hE hR hH=>by
 obtain ⟨v,h1,h2⟩:=hR.ev hx
 cases h2 with
 | @tp _ qs _ hl hr =>
 have hlt:i < qs.length:=by rw [hl];exact (List.getElem?_eq_some_iff.1 hi).1
 exact ⟨qs[i],hr i _ _ (List.getElem?_eq_getElem hlt) hi,fun _ _ _ _ _ _=>by simp [execOp,hE.ev h1,Instr.extract,List.getElem?_eq_getElem hlt]⟩
theorem YkV {α:Type} {sz:Nat} {Cr:Ycl α} {m:Nat→Nat} {w1:World} {xs:List α} {v:Value} {lo hi:Option Value} {l h e:Nat} {inf:TypeInfo} (hu:P.underlying X=some (.slice e)) (hi1:P.info? e=some inf) (hi2:inf.size=sz) (hr:RS sz Cr m w1 v xs)
  (hlo:(lo=none∧l=0)∨lo=some (.int .i64 (l:Int))) (hhi:(hi=none∧h=xs.length)∨hi=some (.int .i64 (h:Int))) (hlh:l≤h) (hh:h≤xs.length) :
  ∃ v',RS sz Cr m w1 v' ((xs.take h).drop l)∧∀ w,(Instr.slice X v lo hi none).run P w=.ok v' w:=by
 rcases hr with ⟨rfl,rfl⟩|⟨b,o,cap,rfl,hc,hm,hel⟩|⟨aw,rfl,rfl⟩;rotate_right
 ·obtain rfl:h=0:=by simpa using hh
  obtain rfl:l=0:=by omega
  refine ⟨.slice (some aw) 0 0,.inr (.inr ⟨aw,rfl,rfl⟩),fun w=>?_⟩;rcases hlo with ⟨rfl,_⟩|rfl<;>rcases hhi with ⟨rfl,_⟩|rfl<;>simp [Instr.slice,run_underlying hu,Instr.sliceBounds,Instr.sliceBound,asIntOf,sizeOf,typeInfo,hi1]
 ·obtain rfl:h=0:=by simpa using hh
  obtain rfl:l=0:=by omega
  refine ⟨.slice none 0 0,.inl ⟨rfl,rfl⟩,fun w=>?_⟩;rcases hlo with ⟨rfl,_⟩|rfl<;>rcases hhi with ⟨rfl,_⟩|rfl<;>simp [Instr.slice,run_underlying hu,Instr.sliceBounds,Instr.sliceBound,asIntOf,sizeOf,typeInfo,hi1]
 ·refine ⟨.slice (some (if cap=l then ⟨b,o,none⟩ else (⟨b,o,none⟩:Addr).add (l*sz))) (h-l) (cap-l),RS.sliced hc hm hel hlh hh,fun w=>?_⟩;have hhc:h≤cap:=by omega
  rcases hlo with ⟨rfl,rfl⟩|rfl<;>rcases hhi with ⟨rfl,rfl⟩|rfl<;>simp [Instr.slice,run_underlying hu,Instr.sliceBounds,Instr.sliceBound,asIntOf,sizeOf,typeInfo,hi1,hi2,hhc,hlh]<;>split<;>simp
def Bnd (ρ:Ro) (o:Option Operand) (df n:Nat):Prop:=(o=none∧n=df)∨∃ x i,o=some x∧ev2 ρ x=some (.raw (.int .i64 i))∧i=n
theorem Yf0 {sz nl xs E} {lo hi:Option Operand} {l h:Nat} (hT:YaX P tab) (hs:(tab X).map (·.sh)=some (.slice E)) (hz:(tab E).map (·.size)=some sz) (hx:ev2 ρ x=some (.sl sz nl xs)) (hlo:Bnd ρ lo 0 l) (hhi:Bnd ρ hi xs.length h) (hlh:l≤h) (hh:h≤xs.length) :
  Yaj P N D (.slice X x lo hi none) ρ η (.sl sz none ((xs.take h).drop l)) M:=fun m w γ ρc a hE hR hH=>by
 obtain ⟨v,h1,h2⟩:=hR.ev hx;obtain ⟨d,hu,hd⟩:=YcO hT hs;obtain rfl:d=_:=hd;obtain ⟨inf,i1,i2⟩:=Ybh hT hz;have key:∀ {o:Option Operand} {df n:Nat},Bnd ρ o df n→(o.map a.eval=none∧n=df)∨o.map a.eval=some (.int .i64 (n:Int)):=by
  rintro o df n (⟨rfl,rfl⟩|⟨x,i,rfl,hx,rfl⟩)
  ·exact .inl ⟨rfl,rfl⟩
  ·exact .inr (by simp [hE.ev (hR.raw hx)])
 obtain ⟨v',g1,g2⟩:=YkV (lo:=lo.map a.eval) (hi:=hi.map a.eval) hu i1 i2 h2.rs.1 (key hlo) (key hhi) hlh hh;refine ⟨v',Rep.of_rs g1 (NL.none _),fun _ _ _ _ _ _=>?_⟩;have:=g2
 simp [execOp,hE.ev h1,Instr.sliceAt,run_underlying hu,g2]
theorem Ygq {α:Type} {f:α→AV} {sz nl E i} {xs:List α} {h:Nat} (hT:YaX P tab) (hs:(tab X).map (·.sh)=some (.slice E)) (hz:(tab E).map (·.size)=some sz) (hx:ev2 ρ x=some (.sl sz nl (xs.map f))) (hy:ev2 ρ y=some (.raw (.int .i64 i))) (hi:i=(h:Nat)) (hh:h≤xs.length) :
  Yaj P N D (.slice X x none (some y) none) ρ η (.sl sz none ((xs.take h).map f)) M:=by
 have:=Yf0 (P:=P) (N:=N) (D:=D) (η:=η) (M:=M) (hi:=some y) (l:=0) hT hs hz hx (.inl ⟨rfl,rfl⟩) (.inr ⟨y,i,rfl,hy,hi⟩) (Nat.zero_le _) (by simpa using hh)
 rwa [List.drop_zero,← List.map_take] at this
theorem Yd6 {α:Type} {f:α→AV} {sz nl E i} {xs:List α} {l:Nat} (hT:YaX P tab) (hs:(tab X).map (·.sh)=some (.slice E)) (hz:(tab E).map (·.size)=some sz) (hx:ev2 ρ x=some (.sl sz nl (xs.map f))) (hy:ev2 ρ y=some (.raw (.int .i64 i))) (hi:i=(l:Nat)) (hl:l≤xs.length) :
  Yaj P N D (.slice X x (some y) none none) ρ η (.sl sz none ((xs.drop l).map f)) M:=by
 have:=Yf0 (P:=P) (N:=N) (D:=D) (η:=η) (M:=M) (lo:=some y) hT hs hz hx (.inr ⟨y,i,rfl,hy,hi⟩) (.inl ⟨rfl,rfl⟩) (by simpa using hl) (Nat.le_refl _)
 rwa [List.take_length,← List.map_drop] at this
theorem Ygk {α:Type} {f:α→AV} {sz nl E i j} {xs:List α} {l h:Nat} (hT:YaX P tab) (hs:(tab X).map (·.sh)=some (.slice E)) (hz:(tab E).map (·.size)=some sz) (hx:ev2 ρ x=some (.sl sz nl (xs.map f))) (hy:ev2 ρ y=some (.raw (.int .i64 i))) (hi:i=(l:Nat)) (hz':ev2 ρ z=some (.raw (.int .i64 j))) (hj:j=(h:Nat)) (hlh:l≤h) (hh:h≤xs.length) :
  Yaj P N D (.slice X x (some y) (some z) none) ρ η (.sl sz none (((xs.take h).drop l).map f)) M:=by
 have:=Yf0 (P:=P) (N:=N) (D:=D) (η:=η) (M:=M) (lo:=some y) (hi:=some z) hT hs hz hx (.inr ⟨y,i,rfl,hy,hi⟩) (.inr ⟨z,j,rfl,hz',hj⟩) hlh (by simpa using hh)
 rwa [← List.map_take,← List.map_drop] at this
theorem YnW {u} (hx:ev2 ρ x=some (.raw (.bool true))) (hy:ev2 ρ y=some u):Yaj P N D (.pick x y z) ρ η u M:=fun m w γ ρc a hE hR hH=>by
 obtain ⟨q,g1,g2⟩:=hR.ev hy;exact ⟨q,g2,fun _ _ _ _ _ _=>by simp [execOp,hE.ev (hR.raw hx),hE.ev g1,asBool]⟩
theorem Yn3 {u} (hx:ev2 ρ x=some (.raw (.bool false))) (hz:ev2 ρ z=some u):Yaj P N D (.pick x y z) ρ η u M:=fun m w γ ρc a hE hR hH=>by
 obtain ⟨q,g1,g2⟩:=hR.ev hz;exact ⟨q,g2,fun _ _ _ _ _ _=>by simp [execOp,hE.ev (hR.raw hx),hE.ev g1,asBool]⟩
theorem Ymx {f:Nat} {fs:List (Nat × Nat)} {off F cs c} (hT:YaX P tab) (hs:(tab X).map (·.sh)=some (.strct fs)) (hf:fs[f]?=some (off,F)) (hF:(tab F).map (·.sh.agg)=some false) (hx:ev2 ρ x=some (.st cs)) (hc:cs[off]?=some c):Yaj P N D (.field X x f) ρ η c M:=fun m w γ ρc a hE hR hH=>by
 obtain ⟨v,h1,h2⟩:=hR.ev hx;obtain ⟨d,hu,fields,rfl,hfs⟩:=YcO hT hs;subst hfs;have hq:∃ fd,fields[f]?=some fd∧fd.offset=off∧fd.type=F:=by
  simp only [List.getElem?_map,Array.getElem?_toList] at hf
  cases hq:fields[f]? with
  | none=>rw [hq] at hf;cases hf
  | some fd=>rw [hq] at hf;simp at hf;exact ⟨fd,rfl,hf.1,hf.2⟩
 obtain ⟨fd,hq,rfl,rfl⟩:=hq
 cases h2 with
 | @st _ vs _ hl h1' hr =>
 have hlt:fd.offset < vs.length:=by rw [hl];exact (List.getElem?_eq_some_iff.1 hc).1
 cases ht:tab fd.type with
 | none=>rw [ht] at hF;cases hF
 | some te =>
   rw [ht] at hF;simp at hF;have hagg:=(hT _ te ht).nagg hF;exact ⟨vs[fd.offset],hr _ _ _ (List.getElem?_eq_getElem hlt) hc,fun {m' w'} _ _ _ _ _ _=>by simp [execOp,hE.ev h1,Instr.field,run_underlying hu,hq,part,asAgg,hagg w',List.getElem?_eq_getElem hlt]⟩
theorem YkQ {i sz k o:Nat} {fz E nl} {xs:List AV} {e c} (hT:YaX P tab) (hs:(tab X).map (·.sh.agg)=some false) (hx:ev2 ρ x=some (.gp i sz k o)) (ho:η[i]?=some (.gs fz E sz nl xs)) (he:xs[k]?=some e) (hc:e.cells[o]?=some c):Yaj P N D (.load X x) ρ η c:=fun m w γ ρc a hE hR hH=>by
 obtain ⟨v,h1,h2⟩:=hR.ev hx;obtain ⟨b,vs,rfl,hC,hK⟩:=YmP hH h2 ho he;have hlt:o < vs.length:=by rw [hC.1];exact (List.getElem?_eq_some_iff.1 hc).1
 refine ⟨vs[o],(hC.2.2 o _ _ (List.getElem?_eq_getElem hlt) hc).mono (.refl _ _) (fun _ _ h=>by simp at h),fun {m' w'} hk _ _ _ _ _=>?_⟩;have hcell:=hK (hk rfl) o _ (List.getElem?_eq_getElem hlt)
 cases ht:tab X with
 | none=>rw [ht] at hs;cases hs
 | some te =>
   rw [ht] at hs;simp at hs;have hagg:=(hT X te ht).nagg hs;simp [execOp,hE.ev h1,Instr.loadAt,Instr.sureAddr,loadVar,hagg,hcell]
theorem YgH {i sz k o n:Nat} {fz E nl} {xs:List AV} {e} (hT:YaX P tab) (hs:(tab X).map (fun e=>(e.sh.agg,e.size))=some (true,n)) (hx:ev2 ρ x=some (.gp i sz k o)) (ho:η[i]?=some (.gs fz E sz nl xs)) (he:xs[k]?=some e) (hn:(e.cells.drop o).length=n):Yaj P N D (.load X x) ρ η (.st (e.cells.drop o)):=fun m w γ ρc a hE hR hH=>by
 obtain ⟨v,h1,h2⟩:=hR.ev hx;obtain ⟨b,vs,rfl,hC,hK⟩:=YmP hH h2 ho he;have hlen:(vs.drop o).length=n:=by rw [← hn,List.length_drop,List.length_drop,hC.1]
 refine ⟨.agg (vs.drop o).toArray,.st (by rw [hlen,hn]) (fun c hc=>hC.2.1 c (List.mem_of_mem_drop hc)) (fun j v c a a'=>(hC.2.2 (o+j) v c (by simpa using a) (by simpa using a')).mono (.refl _ _) (fun _ _ h=>by simp at h)),fun {m' w'} hk _ _ _ _ _=>?_⟩
 cases ht:tab X with
 | none=>rw [ht] at hs;cases hs
 | some te =>
   rw [ht] at hs;simp at hs;have hagg:=(hT X te ht).agg hs.1;obtain ⟨inf,i1,i2,_⟩:=(hT X te ht).info;have hl:=run_loadCells_list (P:=P) w' ⟨b,k*sz+o,none⟩ (vs.drop o) (fun j c hj=>by rw [Yak,Nat.add_assoc];exact hK (hk rfl) (o+j) c (by simpa using hj));rw [hlen,← hs.2,← i2] at hl;simp [execOp,hE.ev h1,Instr.loadAt,Instr.sureAddr,loadVar,hagg,sizeOf,typeInfo,i1,hl]
/-! ### Bits -/
theorem YpW {p q:Nat} (hx:ev2 ρ x=some (.raw (.int .u64 (p:Int)))) (hy:ev2 ρ y=some (.raw (.int .u64 (q:Int)))) (hp:p < 2 ^ 64) (hq:q < 2 ^ 64):Yaj P N D (.binOp .or X x y Y) ρ η (.raw (.int .u64 ((p ||| q:Nat):Int))) M:=fun _ _ _ _ _ hE hR _hH =>
 ⟨_,.raw rfl,fun _ _ _ _ _ _=>YmQ hE (hR.raw hx) (hR.raw hy) hp hq⟩
theorem Yf2 {p q:Nat} (hx:ev2 ρ x=some (.raw (.int .u64 (p:Int)))) (hy:ev2 ρ y=some (.raw (.int .u64 (q:Int)))) (hp:p < 2 ^ 64) (hq:q < 2 ^ 64):Yaj P N D (.binOp .and X x y Y) ρ η (.raw (.int .u64 ((p &&& q:Nat):Int))) M:=fun _ _ _ _ _ hE hR hH =>
 ⟨_,.raw rfl,fun _ _ _ _ _ _=>by
  have hpq:p &&& q < 2 ^ 64:=Nat.lt_of_le_of_lt Nat.and_le_left hp;have e1:=YtP p hp;have e2:=YtP q hq;have e3:p % 2 ^ IntKind.u64.bits=p:=Nat.mod_eq_of_lt hp;have e4:q % 2 ^ IntKind.u64.bits=q:=Nat.mod_eq_of_lt hq;have e5:=YcX (Int.natCast_nonneg _) (Yt9 hpq);simp only [execOp,hE.ev (hR.raw hx),hE.ev (hR.raw hy),binOp,eqGuard,Op.intBits];simp [e3,e4,e5]⟩
theorem Ypv {c:Int} (hy:ev2 ρ y=some (.raw (.int .i64 c))) (h0:0≤c) (h1:c < 64):Yaj P N D (.binOp .shl X (.const (.int .u64 1)) y Y) ρ η (.raw (.int .u64 ((1 <<< c.toNat:Nat):Int))) M:=fun _ _ _ _ _ hE hR _hH =>
 ⟨_,.raw rfl,fun _ _ _ _ _ _=>Yjx hE (hR.raw hy) h0 h1⟩
theorem Yoe {p:Nat} {c:Int} (hx:ev2 ρ x=some (.raw (.int .u64 (p:Int)))) (hy:ev2 ρ y=some (.raw (.int .i64 c))) (h0:0≤c) (h1:c < 64):Yaj P N D (.binOp .shr X x y Y) ρ η (.raw (.int .u64 ((p >>> c.toNat:Nat):Int))) M:=fun _ _ _ _ _ hE hR hH =>
 ⟨_,.raw rfl,fun _ _ _ _ _ _=>by
  have hm:min c.toNat 64=c.toNat:=by omega
  have hc:¬ c < 0:=by omega
  have e:(p:Int).fdiv (2 ^ c.toNat)=((p >>> c.toNat:Nat):Int):=by
   rw [Nat.shiftRight_eq_div_pow,Int.fdiv_eq_ediv_of_nonneg _ (by exact Int.le_of_lt (Int.pow_pos (by omega)))];simp
  simp only [execOp,hE.ev (hR.raw hx),hE.ev (hR.raw hy),binOp,eqGuard,Op.shift];simp only [hc,if_false,IntKind.bits,hm,e];simp⟩
theorem YiO {c:Int} (h0:0≤c) (h1:c < 64):1 <<< c.toNat < 2 ^ 64:=by rw [Nat.one_shiftLeft];exact Nat.pow_lt_pow_right (by omega) (by omega)
end
section
variable {C:Cx} {ops:Array Oper} {Q:Qt} {ρ:Ro} {η:Eta} {rest:List Oper} {T d:Nat} {pos:String} {af:Array Edge} {op:Op} {x:Operand} {A K:Code}
theorem gv {C:Cx} {op:Op} {ρ:Ro} {η:Eta} {u:AV} {M:Bool}
  (h:Yaj C.P C.N C.D op ρ η u M:=by
   first
   | with_reducible refine YoB (by with_unfolding_all exact rfl)
   | with_reducible refine Yma (by with_unfolding_all exact rfl)
   | with_reducible refine Yrv (by with_unfolding_all exact rfl) (by with_unfolding_all exact rfl) (by with_unfolding_all exact rfl)
   | with_reducible refine YqL (by with_unfolding_all exact rfl) (by with_unfolding_all exact rfl) (by omega) (by omega)
   | with_reducible refine Yq4 (by with_unfolding_all exact rfl) (by with_unfolding_all exact rfl) (by omega) (by omega)
   | with_reducible refine Yrt (by with_unfolding_all exact rfl) (by with_unfolding_all exact rfl) (by omega) (by omega)
   | with_reducible refine Yqj (by with_unfolding_all exact rfl) (by with_unfolding_all exact rfl) (by omega) (by omega)
   | with_reducible refine YoE (by with_unfolding_all exact rfl)
   | with_reducible refine Ynk (by with_unfolding_all exact rfl)
   | with_reducible refine Yln (Cx.hT _) (by with_unfolding_all exact rfl) (by with_unfolding_all exact rfl)
   | with_reducible refine YhM (Cx.hT _) (by with_unfolding_all exact rfl) (by with_unfolding_all exact rfl)
   | with_reducible refine Yhl (Cx.hT _) (by with_unfolding_all exact rfl) (by with_unfolding_all exact rfl) (by with_unfolding_all exact rfl)
   | with_reducible refine YhD (Cx.hT _) (by with_unfolding_all exact rfl) (by with_unfolding_all exact rfl) (by with_unfolding_all exact rfl)
   | with_reducible refine YjZ (Cx.hT _) (by with_unfolding_all exact rfl) (by with_unfolding_all exact rfl) (by with_unfolding_all exact rfl) (by with_unfolding_all exact rfl) (by with_unfolding_all exact rfl) (by first|exact Ybp (by omega)|with_unfolding_all exact rfl|exact List.getElem?_eq_getElem (by omega))
   | with_reducible refine YjZ (n:=0) (Cx.hT _) (by with_unfolding_all exact rfl) (by with_unfolding_all exact rfl) (by with_unfolding_all exact rfl) (by with_unfolding_all exact rfl) (by with_unfolding_all exact rfl) (by first|exact Ybp (by omega)|with_unfolding_all exact rfl|exact List.getElem?_eq_getElem (by omega))
   | with_reducible refine YjZ (n:=Int.toNat _) (Cx.hT _) (by with_unfolding_all exact rfl) (by with_unfolding_all exact rfl) (by with_unfolding_all exact rfl) (by with_unfolding_all exact rfl) (Int.toNat_of_nonneg (by omega)).symm (by first|exact Ybp (by omega)|with_unfolding_all exact rfl|exact List.getElem?_eq_getElem (by omega))
   | with_reducible refine Yhp (Cx.hT _) (by with_unfolding_all exact rfl) (by with_unfolding_all exact rfl) (by with_unfolding_all exact rfl) (by with_unfolding_all exact rfl) (by with_unfolding_all exact rfl) (by with_unfolding_all exact rfl) (by first|exact Ybp (by omega)|with_unfolding_all exact rfl|exact List.getElem?_eq_getElem (by omega))
   | with_reducible refine Yhp (n:=Int.toNat _) (Cx.hT _) (by with_unfolding_all exact rfl) (by with_unfolding_all exact rfl) (by with_unfolding_all exact rfl) (by with_unfolding_all exact rfl) (by with_unfolding_all exact rfl) (Int.toNat_of_nonneg (by omega)).symm (by first|exact Ybp (by omega)|with_unfolding_all exact rfl|exact List.getElem?_eq_getElem (by omega))
   | with_reducible refine YcZ (n:=0) (Cx.hT _) (by with_unfolding_all exact rfl) (by with_unfolding_all exact rfl) (by with_unfolding_all exact rfl) (by with_unfolding_all exact rfl) (by with_unfolding_all exact rfl) (by decide) (by with_unfolding_all exact rfl)
   | with_reducible refine Yg1 (Cx.hT _) (by with_unfolding_all exact rfl) (by with_unfolding_all exact rfl) (by with_unfolding_all exact rfl) (by with_unfolding_all exact rfl) (by with_unfolding_all exact rfl)
   | with_reducible refine Yi6 (by with_unfolding_all exact rfl) (by with_unfolding_all exact rfl)
   | with_reducible refine Yg8 (Cx.hT _) (by with_unfolding_all exact rfl) (by with_unfolding_all exact rfl) (by with_unfolding_all exact rfl) (by with_unfolding_all exact rfl)
   | with_reducible refine Yjs (Cx.hT _) (by with_unfolding_all exact rfl) (by with_unfolding_all exact rfl) (by with_unfolding_all exact rfl) (by with_unfolding_all exact rfl)
   | with_reducible refine YnW (by with_unfolding_all exact rfl) (by with_unfolding_all exact rfl)
   | with_reducible refine Yn3 (by with_unfolding_all exact rfl) (by with_unfolding_all exact rfl)
   | with_reducible refine Ygq (Cx.hT _) (by with_unfolding_all exact rfl) (by with_unfolding_all exact rfl) (by with_unfolding_all exact rfl) (by with_unfolding_all exact rfl) (by with_unfolding_all exact rfl) (by omega)
   | with_reducible refine Ygq (h:=Int.toNat _) (Cx.hT _) (by with_unfolding_all exact rfl) (by with_unfolding_all exact rfl) (by with_unfolding_all exact rfl) (by with_unfolding_all exact rfl) (Int.toNat_of_nonneg (by omega)).symm (by omega)
   | with_reducible refine Yd6 (Cx.hT _) (by with_unfolding_all exact rfl) (by with_unfolding_all exact rfl) (by with_unfolding_all exact rfl) (by with_unfolding_all exact rfl) (by with_unfolding_all exact rfl) (by omega)
   | with_reducible refine Yd6 (l:=1) (Cx.hT _) (by with_unfolding_all exact rfl) (by with_unfolding_all exact rfl) (by with_unfolding_all exact rfl) (by with_unfolding_all exact rfl) (by with_unfolding_all exact rfl) (by omega)
   | with_reducible refine Yd6 (l:=Int.toNat _) (Cx.hT _) (by with_unfolding_all exact rfl) (by with_unfolding_all exact rfl) (by with_unfolding_all exact rfl) (by with_unfolding_all exact rfl) (Int.toNat_of_nonneg (by omega)).symm (by omega)
   | with_reducible refine Ymx (Cx.hT _) (by with_unfolding_all exact rfl) (by with_unfolding_all exact rfl) (by with_unfolding_all exact rfl) (by with_unfolding_all exact rfl) (by with_unfolding_all exact rfl)
   | with_reducible refine YkQ (Cx.hT _) (by with_unfolding_all exact rfl) (by with_unfolding_all exact rfl) (by with_unfolding_all exact rfl) (by first|exact Ybp (by omega)|with_unfolding_all exact rfl|exact List.getElem?_eq_getElem (by omega)) (by with_unfolding_all exact rfl)
   | with_reducible refine YgH (Cx.hT _) (by with_unfolding_all exact rfl) (by with_unfolding_all exact rfl) (by with_unfolding_all exact rfl) (by first|exact Ybp (by omega)|with_unfolding_all exact rfl|exact List.getElem?_eq_getElem (by omega)) (by with_unfolding_all exact rfl)
   | with_reducible refine YpW (by with_unfolding_all exact rfl) (by with_unfolding_all exact rfl) (by first|assumption|decide|exact YiO (by omega) (by omega)|exact Nat.or_lt_two_pow (by assumption) (by assumption)|exact Nat.lt_of_le_of_lt (Nat.shiftRight_le _ _) (by assumption)|exact Nat.lt_of_le_of_lt Nat.and_le_left (by assumption)) (by first|assumption|decide|exact YiO (by omega) (by omega)|exact Nat.or_lt_two_pow (by assumption) (by assumption)|exact Nat.lt_of_le_of_lt (Nat.shiftRight_le _ _) (by assumption)|exact Nat.lt_of_le_of_lt Nat.and_le_left (by assumption))
   | with_reducible refine Yf2 (by with_unfolding_all exact rfl) (by with_unfolding_all exact rfl) (by first|assumption|decide|exact YiO (by omega) (by omega)|exact Nat.or_lt_two_pow (by assumption) (by assumption)|exact Nat.lt_of_le_of_lt (Nat.shiftRight_le _ _) (by assumption)|exact Nat.lt_of_le_of_lt Nat.and_le_left (by assumption)) (by first|assumption|decide|exact YiO (by omega) (by omega)|exact Nat.or_lt_two_pow (by assumption) (by assumption)|exact Nat.lt_of_le_of_lt (Nat.shiftRight_le _ _) (by assumption)|exact Nat.lt_of_le_of_lt Nat.and_le_left (by assumption))
   | with_reducible refine Yf2 (q:=1) (by with_unfolding_all exact rfl) (by with_unfolding_all exact rfl) (by first|assumption|decide|exact YiO (by omega) (by omega)|exact Nat.or_lt_two_pow (by assumption) (by assumption)|exact Nat.lt_of_le_of_lt (Nat.shiftRight_le _ _) (by assumption)|exact Nat.lt_of_le_of_lt Nat.and_le_left (by assumption)) (by first|assumption|decide|exact YiO (by omega) (by omega)|exact Nat.or_lt_two_pow (by assumption) (by assumption)|exact Nat.lt_of_le_of_lt (Nat.shiftRight_le _ _) (by assumption)|exact Nat.lt_of_le_of_lt Nat.and_le_left (by assumption))
   | with_reducible refine Ypv (by with_unfolding_all exact rfl) (by omega) (by omega)
   | with_reducible refine Yoe (by with_unfolding_all exact rfl) (by with_unfolding_all exact rfl) (by omega) (by omega)
   | with_reducible refine YlE (by with_unfolding_all exact rfl) (by with_unfolding_all exact rfl)
   | with_reducible refine Yj5 (by with_unfolding_all exact rfl) (by with_unfolding_all exact rfl)):Yaj C.P C.N C.D op ρ η u M:=h
theorem OL.st {u} (k:OL C ops Q rest ((d,u)::ρ) η) (h:Yaj C.P C.N C.D op ρ η u:=by exact gv) (hd:Nat.blt d C.N=true:=by with_unfolding_all exact rfl):OL C ops Q (⟨some d,op,T,pos,af,none⟩::rest) ρ η:=ZaG h hd k
/-! ### Guards -/
variable {j dj:Nat} {b:Bool} {oj:Oper}
theorem ZaB {dst:Option Tmp} (k:OL C ops Q (⟨dst,op,T,pos,af,none⟩::rest) ρ η) (hj:ops[j]?=some oj:=by with_unfolding_all exact rfl) (hd:oj.dst=some dj:=by with_unfolding_all exact rfl) (hl:lk ρ dj=some (.raw (.bool b)):=by with_unfolding_all exact rfl)
  (hN:∃ e,dst=some e∧Nat.blt e C.N=true:=by exact ⟨_,rfl,by with_unfolding_all exact rfl⟩):OL C ops Q (⟨dst,op,T,pos,af,some (j,b)⟩::rest) ρ η:=
 OL.guard hj hd hl (fun _=>k) (fun h=>by cases b<;>cases h) hN
theorem ZaD (k:OL C ops Q rest ((d,.tp [])::ρ) η) (hj:ops[j]?=some oj:=by with_unfolding_all exact rfl) (hd:oj.dst=some dj:=by with_unfolding_all exact rfl) (hl:lk ρ dj=some (.raw (.bool (!b))):=by with_unfolding_all exact rfl)
  (hN:Nat.blt d C.N=true:=by with_unfolding_all exact rfl):OL C ops Q (⟨some d,op,T,pos,af,some (j,b)⟩::rest) ρ η:=
 OL.guard hj hd hl (fun h=>by cases b<;>cases h) (fun _ e he _=>by cases he;exact k) ⟨_,rfl,hN⟩
theorem ZbH (k:OL C ops Q rest ((d,.tp [])::ρ) η) (hj:ops[j]?=some oj:=by with_unfolding_all exact rfl) (hd:oj.dst=some dj:=by with_unfolding_all exact rfl) (hl:lk ρ dj=some (.tp []):=by with_unfolding_all exact rfl)
  (hN:Nat.blt d C.N=true:=by with_unfolding_all exact rfl):OL C ops Q (⟨some d,op,T,pos,af,some (j,b)⟩::rest) ρ η:=ZdB hj hd hl hN k
theorem A2.know {N D B a w} {t:Nat} {x y:AV} (hA:A2 N D B a w ρ η) (hl:lk ρ t=some x) (h:∀ m w γ v,Rep m w γ v x→Rep m w γ v y):A2 N D B a w ((t,y)::ρ) η:=by
 obtain ⟨m,γ,ρc,hE,hR,hI⟩:=hA;obtain ⟨v,g1,g2⟩:=hR.look hl;refine ⟨m,γ,(t,v)::ρc,⟨hE.size,hE.defers,fun s q hs=>?_⟩,⟨rfl,h _ _ _ _ g2,hR⟩,hI⟩;simp only [W.look] at hs
 cases hb:Nat.beq t s with
 | true =>
   rw [hb] at hs;simp at hs;subst hs;rw [← Nat.eq_of_beq_eq_true hb];exact hE.look _ _ g1
 | false=>rw [hb] at hs;exact hE.look _ _ (by simpa using hs)
theorem Zaz {dst:Option Tmp} {p:Prop} [Decidable p] (h1:p→OL C ops Q (⟨dst,op,T,pos,af,some (j,b)⟩::rest) ((dj,bool true)::ρ) η) (h2:¬p→OL C ops Q (⟨dst,op,T,pos,af,some (j,b)⟩::rest) ((dj,bool false)::ρ) η)
  (_hj:ops[j]?=some oj:=by with_unfolding_all exact rfl) (_hd:oj.dst=some dj:=by with_unfolding_all exact rfl) (hl:lk ρ dj=some (.raw (.bool (decide p))):=by with_unfolding_all exact rfl):OL C ops Q (⟨dst,op,T,pos,af,some (j,b)⟩::rest) ρ η:=by
 intro a w hA;by_cases h:p
 ·exact h1 h a w (hA.know hl fun m w γ v hr=>by simpa [h] using hr)
 ·exact h2 h a w (hA.know hl fun m w γ v hr=>by simpa [h] using hr)
/-! ### Calls -/
variable {args:List Operand} {at_:Array TypeId}
theorem Yc2 (k:Nat):back [] k=fun j=>some (k+j):=by
 funext j
 simp only [back,List.length_nil];have:Nat.blt j 0=false:=by cases h:Nat.blt j 0<;>simp_all
 rw [this];simp
theorem OL.c {P:Program} {f:Nat} {fn:Func} {us as:List AV} {r r2} {η1' η2:Eta} {n:Nat} (hs:Spec P f as [] r η1') (hf:P.funcs[f]?=some fn) (k:OL C ops Q rest ((d,r2)::ρ) η2)
  (hP : C.P = P := by with_unfolding_all exact rfl) (hb : (fn.body.isNone || fn.name == "runtime.NumGoroutine") = false := by with_unfolding_all exact rfl) (hl : Yc6 ρ args = some us := by with_unfolding_all exact rfl)
  (hle:LEs (ts []) us as:=by repeat' (first|with_unfolding_all exact trivial|exact LE.ren (by with_unfolding_all exact rfl)|with_unfolding_all exact LE.sl|with_unfolding_all exact LE.nil (by decide)|with_unfolding_all refine And.intro ?_ ?_)) (hd:Nat.blt d C.N=true:=by with_unfolding_all exact rfl)
  (hk:η.length=n:=by (try dsimp only [List.length])<;>exact rfl) (hr:ren (fun j=>some (n+j)) r=r2:=by (try dsimp only [ren,ren0,ren1,ren2,List.map,Nat.add_zero,Nat.zero_add,Nat.reduceAdd])<;>exact rfl)
  (hη:η++η1'.map (renO (fun j=>some (n+j)))=η2:=by (try dsimp only [renO,ren,ren0,ren1,ren2,List.map,List.cons_append,List.nil_append,Nat.add_zero,Nat.zero_add,Nat.reduceAdd])<;>exact rfl) :
  OL C ops Q (⟨some d,.call ⟨.value (.func f),args.toArray,at_⟩,T,pos,af,none⟩::rest) ρ η:=by
 subst hk hP;exact OL.one (One.call hs hf hb hl hle hd (by rw [Yc2];exact hr) (by rw [Yc2];exact hη)) k
theorem Zay {p:Prop} [Decidable p] (h1:p→TC C Q A ρ η) (h2:¬p→TC C Q K ρ η) (hx:ev2 ρ x=some (.raw (.bool (decide p))):=by with_unfolding_all exact rfl):TC C Q (.cond x A K) ρ η:=ZdC hx h1 h2
theorem ZaY (h1:TC C Q A ρ η) (hx:ev2 ρ x=some (.raw (.bool true)):=by with_unfolding_all exact rfl):TC C Q (.cond x A K) ρ η:=ZdD hx h1
theorem Za9 (h2:TC C Q K ρ η) (hx:ev2 ρ x=some (.raw (.bool false)):=by with_unfolding_all exact rfl):TC C Q (.cond x A K) ρ η:=ZdE hx h2
theorem Zbl {t:Bool} (h1:t=true→TC C Q A ρ η) (h2:t=false→TC C Q K ρ η) (hx:ev2 ρ x=some (.raw (.bool t)):=by with_unfolding_all exact rfl):TC C Q (.cond x A K) ρ η:=TC.cond hx h1 h2
theorem Zbm {P:Program} {ι:Type} {us:List AV} {dom:ι→Prop} {as r e} {r2} {η2:Eta} {n:Nat} (t:ι) (hdom:dom t) (k:OL C ops Q rest ((d,r2)::ρ) η2) (hx:ev2 ρ x=some (.pr (YdQ P dom as r e)):=by with_unfolding_all exact rfl)
  (hP:C.P=P:=by with_unfolding_all exact rfl) (hl:Yc6 ρ args=some us:=by with_unfolding_all exact rfl)
  (hle:LEs (ts []) us (as t):=by repeat' (first|with_unfolding_all exact trivial|exact LE.ren (by with_unfolding_all exact rfl)|with_unfolding_all exact LE.sl|with_unfolding_all exact LE.nil (by decide)|with_unfolding_all refine And.intro ?_ ?_)) (hd:Nat.blt d C.N=true:=by with_unfolding_all exact rfl)
  (hk:η.length=n:=by (try dsimp only [List.length])<;>exact rfl) (hr:ren (fun j=>some (n+j)) (r t)=r2:=by (try dsimp only [ren,ren0,ren1,ren2,List.map,Nat.add_zero,Nat.zero_add,Nat.reduceAdd])<;>exact rfl)
  (hη:η++(e t).map (renO (fun j=>some (n+j)))=η2:=by (try dsimp only [renO,ren,ren0,ren1,ren2,List.map,List.cons_append,List.nil_append,Nat.add_zero,Nat.zero_add,Nat.reduceAdd])<;>exact rfl) :
  OL C ops Q (⟨some d,.call ⟨.value x,args.toArray,at_⟩,T,pos,af,none⟩::rest) ρ η:=by
 subst hk;exact OL.one (ZdK hP hx hl hdom hle hd (by rw [Yc2];exact hr) (by rw [Yc2];exact hη)) k
theorem LE.fun0 {P : Program} {ι : Type} {f : Nat} {fn : Func} {dom : ι → Prop} {as r e} (hf : P.funcs[f]? = some fn) (hs : ∀ x, dom x → Spec P f (as x) [] (r x) (e x)) (hb : (fn.body.isNone || fn.name == "runtime.NumGoroutine") = false := by with_unfolding_all exact rfl) : LE (ts []) (.fn (.func f) [] []) (.pr (YdQ P dom as r e)) :=
 LE.fun_ (first':=[]) (caps':=[]) hf hb trivial trivial fun x hx=>by simpa using hs x hx
abbrev YoH (P:Program) (dom:Int→Prop) (p:Int→Bool):AV:=.pr (YdQ P dom (fun n=>[int n]) (fun n=>bool (p n)) (fun _=>[]))
abbrev Ye8 (P:Program) {α:Type} (f:α→AV) (dom:α→Prop) (p:α→Bool):AV:=.pr (YdQ P dom (fun n=>[f n]) (fun n=>bool (p n)) (fun _=>[]))
abbrev u64 (x:Nat):AV:=.raw (.int .u64 (x:Int))
/-! ## Loops, returns -/
theorem LE.raw {τ} {v v':Value} (h:v=v'):LE τ (.raw v) (.raw v'):=fun _ _ _ _ _ u hr=>by subst h;cases hr with|raw h=>exact .raw h
theorem LE.bool {τ} {b b':Bool} (h:b=b'):LE τ (bool b) (bool b'):=.raw (by rw [h])
theorem LE.int {τ} {i j:Int} (h:i=j):LE τ (int i) (int j):=.raw (by rw [h])
theorem LE.sl' {τ sz nl xs ys} (h:xs=ys):LE τ (.sl sz nl xs) (.sl sz none ys):=h ▸ LE.sl
theorem LE.nil' {τ sz ys} (h:ys=[]):LE τ (.raw (.slice none 0 0)) (.sl sz none ys):=h ▸ LE.nil nofun
theorem OE.gsS {τ fz T sz nl xs ys} (h:xs=ys):OE τ (.gs fz T sz nl xs) (.gs fz T sz none ys):=h ▸ OE.gs
theorem Zat {S:Type} (ρs:S→Ro) (ηs:S→Eta) (I:S→Prop) (μ:S→Nat) (s0:S) (σ:List Nat) (h0:I s0) (round:∀ s,I s→TC C (Exit.then (V.Next C ρs ηs I μ s) Q) A (ρs s) (ηs s))
  (hn:YbG σ=true:=by with_unfolding_all exact rfl) (hp:Ycy C.n 0 σ=true:=by with_unfolding_all exact rfl)
  (ho:Ybw (ts σ) η σ (ηs s0):=by repeat' (first|with_unfolding_all exact trivial|exact OE.ren (by with_unfolding_all exact rfl)|with_unfolding_all exact OE.gs|exact OE.gsS (by first|assumption|(simp only [V.ints,V.int,V.bool,List.map_append,List.map_cons,List.map_nil,List.cons_append,List.nil_append,List.append_assoc,Nat.zero_add];done)|(simp only [List.map_append,List.map_cons,List.map_nil];done)|(simp only [List.map_append,List.map_cons,List.map_nil];rfl)|(rw [List.take_succ_eq_append_getElem (by omega)];simp only [List.map_append,List.map_cons,List.map_nil];done)|(rw [List.take_succ_eq_append_getElem (by omega)];simp only [List.map_append,List.map_cons,List.map_nil];rfl))|with_unfolding_all refine And.intro ⟨_,by with_unfolding_all exact rfl,?_⟩ ?_))
  (hr:YdG (ts σ) ρ (ρs s0):=by repeat' (first|with_unfolding_all exact trivial|exact LE.ren (by with_unfolding_all exact rfl)|with_unfolding_all exact LE.sl|with_unfolding_all exact LE.nil (by decide)|with_unfolding_all exact LE.junk|exact LE.bool (by first|assumption|(symm;assumption))|exact LE.int (by first|assumption|omega)|with_unfolding_all refine And.intro ⟨_,by with_unfolding_all exact rfl,?_⟩ ?_)):TC C Q (.loop A) ρ η:=
 TC.loop ρs ηs I μ s0 σ h0 hn hp ho hr round
theorem Zan {S:Type} {ρs:S→Ro} {ηs:S→Eta} {I:S→Prop} {μ:S→Nat} {s:S} (s':S) (σ:List Nat) (hI:I s') (hμ:μ s' < μ s)
  (hn:YbG σ=true:=by with_unfolding_all exact rfl) (hp:Ycy C.n 0 σ=true:=by with_unfolding_all exact rfl)
  (ho:Ybw (ts σ) η σ (ηs s'):=by repeat' (first|with_unfolding_all exact trivial|exact OE.ren (by with_unfolding_all exact rfl)|with_unfolding_all exact OE.gs|exact OE.gsS (by first|assumption|(simp only [V.ints,V.int,V.bool,List.map_append,List.map_cons,List.map_nil,List.cons_append,List.nil_append,List.append_assoc,Nat.zero_add];done)|(simp only [List.map_append,List.map_cons,List.map_nil];done)|(simp only [List.map_append,List.map_cons,List.map_nil];rfl)|(rw [List.take_succ_eq_append_getElem (by omega)];simp only [List.map_append,List.map_cons,List.map_nil];done)|(rw [List.take_succ_eq_append_getElem (by omega)];simp only [List.map_append,List.map_cons,List.map_nil];rfl))|with_unfolding_all refine And.intro ⟨_,by with_unfolding_all exact rfl,?_⟩ ?_))
  (hr:YdG (ts σ) ρ (ρs s'):=by repeat' (first|with_unfolding_all exact trivial|exact LE.ren (by with_unfolding_all exact rfl)|with_unfolding_all exact LE.sl|with_unfolding_all exact LE.nil (by decide)|with_unfolding_all exact LE.junk|exact LE.bool (by first|assumption|(symm;assumption))|exact LE.int (by first|assumption|omega)|with_unfolding_all refine And.intro ⟨_,by with_unfolding_all exact rfl,?_⟩ ?_)):TX C (Exit.then (V.Next C ρs ηs I μ s) Q) .normal ρ η:=
 TX.round s' σ hI hμ hn hp ho hr
variable {η':Eta} {fn:Func} {t t1 t2 t3:Nat} {u u1 u2 u3 r r1 r2 r3:AV}
theorem Zad (σ:List Nat) (hle:LE (ts σ) u r) (hD:C.D=[]:=by with_unfolding_all exact rfl) (hres:fn.results=#[.tmp t]:=by with_unfolding_all exact rfl) (hx:lk ρ t=some u:=by with_unfolding_all exact rfl)
  (hn:YbG σ=true:=by with_unfolding_all exact rfl) (hp:Ycy C.n 0 σ=true:=by with_unfolding_all exact rfl)
  (ho:Ybw (ts σ) η σ η':=by repeat' (first|with_unfolding_all exact trivial|exact OE.ren (by with_unfolding_all exact rfl)|with_unfolding_all exact OE.gs|exact OE.gsS (by first|assumption|(simp only [V.ints,V.int,V.bool,List.map_append,List.map_cons,List.map_nil,List.cons_append,List.nil_append,List.append_assoc,Nat.zero_add];done)|(simp only [List.map_append,List.map_cons,List.map_nil];done)|(simp only [List.map_append,List.map_cons,List.map_nil];rfl)|(rw [List.take_succ_eq_append_getElem (by omega)];simp only [List.map_append,List.map_cons,List.map_nil];done)|(rw [List.take_succ_eq_append_getElem (by omega)];simp only [List.map_append,List.map_cons,List.map_nil];rfl))|with_unfolding_all refine And.intro ⟨_,by with_unfolding_all exact rfl,?_⟩ ?_)) :
  TX C (bodyPost C.P fn (YbF C.B r η')) .ret ρ η:=ZdF σ hD hres hx hn hp ho hle
theorem ZaA (σ:List Nat) (hle1:LE (ts σ) u1 r1) (hle2:LE (ts σ) u2 r2) (hD:C.D=[]:=by with_unfolding_all exact rfl) (hres:fn.results=#[.tmp t1,.tmp t2]:=by with_unfolding_all exact rfl) (hx1:lk ρ t1=some u1:=by with_unfolding_all exact rfl) (hx2:lk ρ t2=some u2:=by with_unfolding_all exact rfl)
  (hn:YbG σ=true:=by with_unfolding_all exact rfl) (hp:Ycy C.n 0 σ=true:=by with_unfolding_all exact rfl)
  (ho:Ybw (ts σ) η σ η':=by repeat' (first|with_unfolding_all exact trivial|exact OE.ren (by with_unfolding_all exact rfl)|with_unfolding_all exact OE.gs|exact OE.gsS (by first|assumption|(simp only [V.ints,V.int,V.bool,List.map_append,List.map_cons,List.map_nil,List.cons_append,List.nil_append,List.append_assoc,Nat.zero_add];done)|(simp only [List.map_append,List.map_cons,List.map_nil];done)|(simp only [List.map_append,List.map_cons,List.map_nil];rfl)|(rw [List.take_succ_eq_append_getElem (by omega)];simp only [List.map_append,List.map_cons,List.map_nil];done)|(rw [List.take_succ_eq_append_getElem (by omega)];simp only [List.map_append,List.map_cons,List.map_nil];rfl))|with_unfolding_all refine And.intro ⟨_,by with_unfolding_all exact rfl,?_⟩ ?_)) :
  TX C (bodyPost C.P fn (YbF C.B (.tp [r1,r2]) η')) .ret ρ η:=ZdG σ hD hres hx1 hx2 hn hp ho hle1 hle2
theorem Za1 (σ:List Nat) (hD:C.D=[]:=by with_unfolding_all exact rfl) (hres:fn.results=#[]:=by with_unfolding_all exact rfl)
  (hn:YbG σ=true:=by with_unfolding_all exact rfl) (hp:Ycy C.n 0 σ=true:=by with_unfolding_all exact rfl)
  (ho:Ybw (ts σ) η σ η':=by repeat' (first|with_unfolding_all exact trivial|exact OE.ren (by with_unfolding_all exact rfl)|with_unfolding_all exact OE.gs|exact OE.gsS (by first|assumption|(simp only [V.ints,V.int,V.bool,List.map_append,List.map_cons,List.map_nil,List.cons_append,List.nil_append,List.append_assoc,Nat.zero_add];done)|(simp only [List.map_append,List.map_cons,List.map_nil];done)|(simp only [List.map_append,List.map_cons,List.map_nil];rfl)|(rw [List.take_succ_eq_append_getElem (by omega)];simp only [List.map_append,List.map_cons,List.map_nil];done)|(rw [List.take_succ_eq_append_getElem (by omega)];simp only [List.map_append,List.map_cons,List.map_nil];rfl))|with_unfolding_all refine And.intro ⟨_,by with_unfolding_all exact rfl,?_⟩ ?_)) :
  TX C (bodyPost C.P fn (YbF C.B (.tp []) η')) .ret ρ η:=ZdI σ hD hres hn hp ho
theorem Zba {X i E n:Nat} {cs:List AV} (σ:List Nat) (hle:LE (ts σ) (.st cs) r) (hD:C.D=[]:=by with_unfolding_all exact rfl) (hres:fn.results=#[.cell t X]:=by with_unfolding_all exact rfl) (hx:lk ρ t=some (.bp i 0):=by with_unfolding_all exact rfl) (hs:(C.tab X).map (fun e=>(e.sh.agg,e.size))=some (true,n):=by with_unfolding_all exact rfl)
  (hb:η[i]?=some (.cb E cs):=by with_unfolding_all exact rfl) (hl:cs.length=n:=by with_unfolding_all exact rfl)
  (hn:YbG σ=true:=by with_unfolding_all exact rfl) (hp:Ycy C.n 0 σ=true:=by with_unfolding_all exact rfl)
  (ho:Ybw (ts σ) η σ η':=by repeat' (first|with_unfolding_all exact trivial|exact OE.ren (by with_unfolding_all exact rfl)|with_unfolding_all exact OE.gs|with_unfolding_all refine And.intro ⟨_,by with_unfolding_all exact rfl,?_⟩ ?_)) :
  TX C (bodyPost C.P fn (YbF C.B r η')) .ret ρ η:=by
 rintro a w ⟨m,γ,ρc,hE,hR,hI⟩;obtain ⟨v,h1,h2⟩:=hR.look hx;obtain ⟨γ',g1,g2⟩:=hI.sel C.hn hn hp ho
 cases h2 with
 | @bp _ _ _ b hb' =>
 obtain ⟨b',vs,e,hB,hC⟩:=hI.heap.ok i _ _ hb' hb
 cases e
 rw [hD] at hE
 cases ht:C.tab X with
 | none=>rw [ht] at hs;cases hs
 | some te =>
   rw [ht] at hs;simp at hs;obtain ⟨dd,hu,hd⟩:=(C.hT X te ht).sh;obtain ⟨inf,i1,i2,_⟩:=(C.hT X te ht).info;have hvl:vs.length=te.size:=by rw [hC.1,hl,hs.2]
   refine bodyPost_ret (v:=.agg vs.toArray) ?_ hE.defers ⟨_,m,γ',rfl,g2,hle _ _ _ _ g1 _ (.st hC.1 hC.2.1 hC.2.2)⟩;have hagg:=(C.hT X te ht).agg hs.1 w;have hll:=run_loadCells_list (P:=C.P) w ⟨b,0,none⟩ vs (fun j c hj=>by rw [Yak,Nat.zero_add];exact hB.cell hj);have hl':(loadCells ⟨b,0,none⟩ te.size).run C.P w=.ok vs.toArray w:=by rw [← hvl];simpa using hll
   have hg:=hE.get h1;have hlv:(loadVar X ⟨b,0,none⟩).run C.P w=.ok (.agg vs.toArray) w:=by simp [loadVar,hagg,sizeOf,typeInfo,i1,i2,hl']
   simp only [results,hres];simp [asAddr];simp only [Array.getD_eq_getD_getElem?] at hg;rw [hg];simp [hlv]
end
end Go.V
