/- Part 19 of what the claim is proved by: lemmas on the model and walks through functions of the program; no conditions. -/
import Derived.Test.YtmdpbfghjdljiaaGreatQ16
import Derived.Sort.Grow
import Derived.Test.YtmdpbfghjdljiaaGreatQ17
import Derived.Test.YtmdpbfghjdljiaaGreatQ18
import Derived.Test.YtmdpbfghjdljiaaGreatQ14
import Derived.Test.YtmdpbfghjdljiaaGreatQ13
namespace Go.V
open Go Go.W Go.Sort
theorem row_world {w w':World} {g T:Nat} {cur:Array Value} {q:Nat} {os:Array Obj} {zs:List Int} (hg:w.heap[g]?=some (.cells cur T (0,0))) (hz:zs.length≤cur.size) (e:w'=grow (putRow (Value.int .i64) (Sort.ahead w q) g 0 zs.toArray) os) :
  w.grownBy w' (some g)∧∃ cur':Array Value,w'.heap[g]?=some (.cells cur' T (0,0))∧cur'.size=cur.size∧∀ j (h:j < zs.length),cur'[j]?=some (.int .i64 zs[j]):=by
 have hlt:g < w.heap.size:=(Array.getElem?_eq_some_iff.1 hg).1
 have hsz:(putRow (Value.int .i64) (Sort.ahead w q) g 0 zs.toArray).heap.size=w.heap.size:=by rw [size_putRow];rfl
 have hh:∀ b,b < w.heap.size→w'.heap[b]?=(putRow (Value.int .i64) (Sort.ahead w q) g 0 zs.toArray).heap[b]?:=fun b hb=>by
  rw [e]
  simp only [grow]
  rw [Array.getElem?_append_left (by rw [hsz];exact hb)]
 have hother:∀ b,b≠g→(putRow (Value.int .i64) (Sort.ahead w q) g 0 zs.toArray).heap[b]?=w.heap[b]?:=fun b hb=>by
  simp only [putRow,mapBlock]
  rw [Array.getElem?_modify,if_neg (fun h=>hb h.symm)];rfl
 refine ⟨⟨by rw [e];rfl,by rw [e];rfl,by rw [e];rfl,by rw [e,size_grow,hsz];omega,fun b hb hne=>?_⟩,putCells (Value.int .i64) 0 zs.toArray cur,?_,?_,fun j h=>?_⟩
 ·rw [hh b hb,hother b (fun h=>hne (by rw [h]))]
 ·rw [hh g hlt]
  simp only [putRow,mapBlock]
  rw [Array.getElem?_modify,if_pos rfl]
  show Option.map _ w.heap[g]?=_
  rw [hg];rfl
 ·simp [putCells]
 ·simp only [putCells,Array.getElem?_mapIdx]
  rw [Array.getElem?_eq_getElem (by omega)]
  simp [h]
theorem row_touch {m:Nat→Nat} {w w':World} {g:Nat} (hm:m g=0) (h:w.grownBy w' (some g)):W.Touch (some g) m w m w':=by
 refine ⟨h,fun _ _ _=>rfl,h.size,fun _ _=>Nat.le_refl _,fun b i c hi hc=>?_⟩
 have hne:b≠g:=fun e=>by subst e;rw [hm] at hi;omega
 rw [World.cell?_of_block (w:=w) (h.block b (lt_of_cell hc) (by simpa using hne))];exact hc
theorem own_holds {m:Nat→Nat} {w:World} {g T:Nat} {cur:Array Value} {l:List Int} (hg:w.heap[g]?=some (.cells cur T (0,0))) (h5:∀ i x,(l.map int)[i]?=some x→∃ cs,cs.length=1∧(∀ j c,cs[j]?=some c→cur[i*1+j]?=some c)∧CK m w m w cs x):Holds (Value.int .i64) w g 0 l.toArray:=by
 intro j hj
 have hj':j < l.length:=by simpa using hj
 obtain ⟨cs,a1,a2,a3⟩:=h5 j (int l[j]) (by simp [hj'])
 have:cs=[.int .i64 l[j]]:=by
  match cs,a1 with
  | [c],_ =>
    have:=a3.2.2 0 c (int l[j]) rfl rfl
    rw [this.raw_eq]
 subst this
 have h6:=a2 0 _ rfl
 refine ⟨?_,?_⟩
 ·simp only [World.cell?,hg]
  simp only [Nat.zero_add,Nat.mul_one,Nat.add_zero] at h6 ⊢
  rw [h6]
  simp [hj']
 ·simp [World.frozen?,hg]
theorem spec_inplace {P:Program} {f T:Nat} {nl:Option Bool} {l l':List Int} (hp:l'.length=l.length)
  (h1:∀ (g cap:Nat) (w:World),Holds (Value.int .i64) w g 0 l.toArray→g < w.heap.size→Calls P f #[.slice (some ⟨g,0,none⟩) l.length cap] w fun e w'=>e=.returned (.tuple #[])∧∃ n os,w'=grow (putRow (Value.int .i64) (Sort.ahead w n) g 0 l'.toArray) os)
  (h2:l=[]→∀ p cap w,Calls P f #[.slice p 0 cap] w fun e w'=>e=.returned (.tuple #[])∧w'=w):Spec P f [.hs 0] [.gs false T 1 nl (l.map int)] (.tp []) [.gs false T 1 none (l'.map int)]:=by
 intro m w γ vs hH hV
 match vs,hV with
 | [v],⟨hv0,_⟩ =>
 have hv:=hv0.hs_get.1
 have hI:In (baseOf m w γ [.gs false T 1 nl (l.map int)]) m w γ [.gs false T 1 nl (l.map int)]:=⟨hH,.refl _ _ _,fun i v o b h1 h2 h3=>.inl (mem_blks.2 ⟨i,v,o,h1,h2,h3⟩),.refl _⟩
 obtain ⟨⟨m',hown,hm1,hm2⟩,hnl,hcl⟩:=hH.ok 0 _ _ hv rfl
 have triv:∀ {v},l=[]→γ[0]?=some v→(∃ p cap,v=.slice p 0 cap)→(∃ m',W.Own T 1 (CK m w) m' w v ([]:List AV)∧(∀ b,some b≠ownB v→m' b=m b)∧∀ b,ownB v=some b→m b=0)→Calls P f #[v] w (PostB (baseOf m w γ [.gs false T 1 nl (l.map int)]) (.tp []) [.gs false T 1 none (l'.map int)]):=fun {v} hl hv ⟨p,cap,e⟩ hO=>by
  have hl':l'=[]:=List.eq_nil_of_length_eq_zero (by rw [hp,hl];rfl)
  rw [e]
  refine (h2 hl p cap w).mono fun e' w' ⟨he,hw⟩=>?_
  subst hw
  refine ⟨_,m,γ,he,?_,.tp (vs:=[]) rfl (by simp)⟩
  have:=hI.put (i:=0) (o':=.gs false T 1 none (l'.map int)) hv rfl ((Keep.refl m w').touch _) ⟨by subst hl';exact hO,NL.none _,by subst hl';simp⟩ (.inl rfl)
  exact this
 rcases hown with ⟨rfl,e⟩|⟨b,o,rfl,e⟩|⟨g,cap,cur,rfl,h0,hg,k1,k2,k3,k4,k5⟩
 ·have hl:l=[]:=by simpa using e
  exact triv hl hv ⟨_,_,rfl⟩ ⟨m',.inl ⟨rfl,rfl⟩,hm1,hm2⟩
 ·have hl:l=[]:=by simpa using e
  exact triv hl hv ⟨_,_,rfl⟩ ⟨m',.inr (.inl ⟨b,o,rfl,rfl⟩),hm1,hm2⟩
 ·simp only [List.length_map] at k1 k4 hv ⊢
  have hob:ownB (.slice (some ⟨g,0,none⟩) l.length cap)=some g:=by
   obtain ⟨c',rfl⟩:∃ c',cap=c'+1:=⟨cap-1,by omega⟩
   simp [ownB]
  have hmg:=hm2 g (by simpa using hob)
  have hlt:g < w.heap.size:=(Array.getElem?_eq_some_iff.1 hg).1
  refine (h1 g cap w (own_holds hg k5) hlt).mono fun e w' ⟨he,n,os,hw⟩=>?_
  obtain ⟨r1,cur',r2,r3,r4⟩:=row_world hg (by omega) hw
  have ht:=row_touch (m:=m) hmg r1
  refine ⟨_,m,γ,he,?_,.tp (vs:=[]) rfl (by simp)⟩
  have:=hI.put (i:=0) (o':=.gs false T 1 none (l'.map int)) hv rfl (by rw [show blk (.gs false T 1 nl (l.map int)) (.slice (some ⟨g,0,none⟩) l.length cap)=some g from hob];exact ht) ⟨⟨m',.inr (.inr ⟨g,cap,cur',by simp [hp],h0,r2,by simpa [hp] using k1,k2,by rw [r3];exact k3,by simpa [hp] using k4,fun i x hx=>?_⟩),?_,?_⟩,NL.none _,by simp [AV.cells]⟩ (.inl rfl)
  ·exact this
  ·rw [List.getElem?_map] at hx
   cases hq:l'[i]? with
   | none=>rw [hq] at hx;cases hx
   | some y =>
     rw [hq] at hx;cases hx
     obtain ⟨hlt,rfl⟩:=List.getElem?_eq_some_iff.1 hq
     refine ⟨[.int .i64 l'[i]],rfl,fun j c hc=>?_,rfl,by simp [Value.oneCell'],fun j v c a b=>?_⟩
     ·match j with
      | 0=>simp at hc;subst hc;simpa using r4 i hlt
      | j+1=>simp at hc
     ·match j with
      | 0=>simp [AV.cells] at a b;subst a b;exact .raw rfl
      | j+1=>simp at a
  ·intro b hb
   exact hm1 b (by simpa using hb)
  ·intro b hb
   exact hm2 b (by simpa using hb)
end Go.V
namespace Go.V
open Go Go.W Go.RowKit
section
variable {C:Cx} {Q:Qt} {ρ ρ':Ro} {η η':Eta}
theorem TX.rsM {fn:Func} {k D:Nat} {rv:ResultVar} {u r:AV} {B:Base} (hM:Marked B C.B D) (hBn:B.γ.length=C.n) (σ:List Nat) (hle:LE (ts σ) u r) (hD:C.D=[markD D]:=by with_unfolding_all exact rfl) (hres:fn.results=#[rv]:=by with_unfolding_all exact rfl) (hx:RV C ρ η rv u:=by with_unfolding_all exact rfl)
  (hn:nodB σ=true:=by with_unfolding_all exact rfl) (hp:preB C.n 0 σ=true:=by with_unfolding_all exact rfl) (ho:SubO (ts σ) η σ η':=by repeat' (first|with_unfolding_all exact trivial|exact OE.ren (by with_unfolding_all exact rfl)|with_unfolding_all exact OE.gs|with_unfolding_all refine And.intro ⟨_,by with_unfolding_all exact rfl,?_⟩ ?_)):TX C (bodyPostM Fence.wide k C.P fn (PostB B r η')) .ret ρ η:=by
 rintro a w ⟨m,γ,ρc,hE,hR,hI⟩
 have hDw:w.heap[D]?=some (.deferred (some [])):=by
  rw [hI.far.block D (Array.getElem?_eq_some_iff.1 hM.mark).1 hM.off];exact hM.mark
 have hI0:In B m w γ η:=hI.comp hM.far hM.own hM.pre
 have hs:StepOK B.w.heap.size m w m (w.putObj D (.deferred none)):=.put hDw rfl hM.le
 have hI1:=hI0.step hs
 obtain ⟨v,a1,b1⟩:=hx.run hE (hR.mono hs.ext (.refl _)) hI1.heap
 obtain ⟨γ',g1,g2⟩:=hI1.sel hBn hn hp ho
 rw [hD] at hE
 show LeavesInM Fence.wide k C.P fn a.tmps _ a.defers .returning w
 rw [hE.defers]
 refine ⟨by simp,.inl ⟨D,_,rfl,run_takeDeferred hDw,v,?_,⟨v,m,γ',rfl,g2,hle _ _ _ _ g1 _ b1⟩⟩⟩
 rw [results_eq,hres]
 simp [a1]
end
theorem spec_cutplace {P:Program} {f T:Nat} {nl:Option Bool} {l l' l2:List Int} (hp:l2.length=l.length) (hpre:∃ r,l2=l'++r)
  (h1:∀ (g cap:Nat) (w:World),Sort.Holds (Value.int .i64) w g 0 l.toArray→l.length≤cap→Calls P f #[.slice (some ⟨g,0,none⟩) l.length cap] w fun e w'=>e=.returned (.slice (some ⟨g,0,none⟩) l'.length cap)∧∃ n os,w'=Sort.grow (Sort.putRow (Value.int .i64) (Sort.ahead w n) g 0 l2.toArray) os)
  (h2:l=[]→∀ p cap w,Calls P f #[.slice p 0 cap] w fun e w'=>e=.returned (.slice p 0 cap)∧w'=w):Spec P f [.hs 0] [.gs false T 1 nl (l.map int)] (.hs 1) [.dead,.gs false T 1 none (l'.map int)]:=by
 intro m w γ vs hH hV
 match vs,hV with
 | [v],⟨hv0,_⟩ =>
 have hv:=hv0.hs_get.1
 have hγ:γ=[v]:=by
  have:=hH.len
  match γ,this with
  | [x],_=>simp at hv;rw [hv]
 obtain ⟨r,hr⟩:=hpre
 have hI:In (baseOf m w γ [.gs false T 1 nl (l.map int)]) m w γ [.gs false T 1 nl (l.map int)]:=⟨hH,.refl _ _ _,fun i v o b h1 h2 h3=>.inl (mem_blks.2 ⟨i,v,o,h1,h2,h3⟩),.refl _⟩
 obtain ⟨⟨m',hown,hm1,hm2⟩,hnl,hcl⟩:=hH.ok 0 _ _ hv rfl
 have triv:∀ {v},l=[]→γ=[v]→(∃ p cap,v=.slice p 0 cap)→(∃ m',W.Own T 1 (CK m w) m' w v ([]:List AV)∧(∀ b,some b≠ownB v→m' b=m b)∧∀ b,ownB v=some b→m b=0)→Calls P f #[v] w (PostB (baseOf m w γ [.gs false T 1 nl (l.map int)]) (.hs 1) [.dead,.gs false T 1 none (l'.map int)]):=fun {v} hl hγ ⟨p,cap,e⟩ hO=>by
  have hl2:l2=[]:=List.eq_nil_of_length_eq_zero (by rw [hp,hl];rfl)
  have hl':l'=[]:=by rw [hl2] at hr;exact (List.append_eq_nil_iff.1 hr.symm).1
  rw [e]
  refine (h2 hl p cap w).mono fun e' w' ⟨he,hw⟩=>?_
  subst hw
  have hv:γ[0]?=some v:=by rw [hγ];rfl
  refine ⟨_,m,γ++[v],he,?_,by rw [hγ,e];exact .hs rfl⟩
  exact hI.over (i:=0) (v':=v) (o':=.gs false T 1 none (l'.map int)) hv rfl ((Keep.refl m w').touch _) ⟨by subst hl';exact hO,NL.none _,by subst hl';simp⟩ (fun b hb=>.inl hb)
 rcases hown with ⟨rfl,e⟩|⟨b,o,rfl,e⟩|⟨g,cap,cur,rfl,h0,hg,k1,k2,k3,k4,k5⟩
 ·have hl:l=[]:=by simpa using e
  exact triv hl hγ ⟨_,_,rfl⟩ ⟨m',.inl ⟨rfl,rfl⟩,hm1,hm2⟩
 ·have hl:l=[]:=by simpa using e
  exact triv hl hγ ⟨_,_,rfl⟩ ⟨m',.inr (.inl ⟨b,o,rfl,rfl⟩),hm1,hm2⟩
 ·simp only [List.length_map] at k1 k4 hv hγ ⊢
  have hob:∀ q,ownB (.slice (some ⟨g,0,none⟩) q cap)=some g:=fun q=>by
   obtain ⟨c',rfl⟩:∃ c',cap=c'+1:=⟨cap-1,by omega⟩
   simp [ownB]
  have hmg:=hm2 g (by simpa using hob l.length)
  have hll:l'.length≤l.length:=by rw [← hp,hr];simp
  refine (h1 g cap w (own_holds hg k5) k1).mono fun e w' ⟨he,n,os,hw⟩=>?_
  obtain ⟨r1,cur',r2,r3,r4⟩:=row_world hg (by omega) hw
  have ht:=row_touch (m:=m) hmg r1
  refine ⟨_,m,γ++[.slice (some ⟨g,0,none⟩) l'.length cap],he,?_,by rw [hγ];exact .hs rfl⟩
  have:=hI.over (i:=0) (v':=.slice (some ⟨g,0,none⟩) l'.length cap) (o':=.gs false T 1 none (l'.map int)) hv rfl (by rw [show blk (.gs false T 1 nl (l.map int)) (.slice (some ⟨g,0,none⟩) l.length cap)=some g from hob _];exact ht) ⟨⟨mset m' g l'.length,.inr (.inr ⟨g,cap,cur',by simp,h0,r2,by simp;omega,k2,by rw [r3];exact k3,by simp,fun i x hx=>?_⟩),?_,?_⟩,NL.none _,by simp [AV.cells]⟩ (fun b hb=>.inl (by simp only [blk] at hb ⊢;rw [hob] at hb ⊢;exact hb))
  ·exact this
  ·rw [List.getElem?_map] at hx
   cases hq:l'[i]? with
   | none=>rw [hq] at hx;cases hx
   | some y =>
     rw [hq] at hx;cases hx
     obtain ⟨hlt,rfl⟩:=List.getElem?_eq_some_iff.1 hq
     have h4:=r4 i (by omega)
     have e4:l2[i]'(by omega)=l'[i]:=by simp only [hr];rw [List.getElem_append_left hlt]
     rw [e4] at h4
     refine ⟨[.int .i64 l'[i]],rfl,fun j c hc=>?_,rfl,by simp [Value.oneCell'],fun j v c a b=>?_⟩
     ·match j with
      | 0=>simp at hc;subst hc;simpa using h4
      | j+1=>simp at hc
     ·match j with
      | 0=>simp [AV.cells] at a b;subst a b;exact .raw rfl
      | j+1=>simp at a
  ·intro b hb
   rw [hob] at hb
   rw [mset_ne (fun e=>hb (by rw [e]))]
   exact hm1 b (by simpa [hob] using hb)
  ·intro b hb
   rw [hob] at hb;cases hb
   exact hmg
end Go.V
namespace Go.W
end Go.W
namespace Go.V
open Go Go.W
def NoInt (m m1:Nat→Nat) (w:World):Prop:=∀ b i k n,m1 b≠m b→i < m1 b→w.cell? ⟨b,i,none⟩≠some (.int k n)
theorem NoInt.trans {m m1 m2 w} (h:NoInt m m1 w) (k:NoInt m1 m2 w):NoInt m m2 w:=fun b i kk n hne hi=>by
 by_cases e:m2 b=m1 b
 ·exact h b i kk n (by rw [← e];exact hne) (by omega)
 ·exact k b i kk n e hi
def noInt:AV→Bool
 | .raw (.int _ _)=>false
 | .raw _=>true
 | .sl ..=>true
 | .st _=>true
 | .tp _=>true
 | .ep ..=>true
 | .bp ..=>true
 | .gp ..=>true
 | .hs _=>true
 | .mp _=>true
 | .fn ..=>true
 | _=>false
theorem noInt_rep {m w γ v x} (h:Rep m w γ v x) (hx:noInt x=true) (k n):v≠.int k n:=by
 rintro rfl
 cases h<;>simp_all [noInt]
def WkI (C:Cx) (ρ:Ro) (η:Eta) (ρ':Ro) (η':Eta):Prop:=∀ a w m γ ρc,Env C.N C.D a ρc→RL m w γ ρc ρ→In C.B m w γ η→∃ m1 ρc1,Env C.N C.D a ρc1∧RL m1 w γ ρc1 ρ'∧In C.B m1 w γ η'∧NoInt m m1 w
theorem In.freezeI {B m w γ η} {i:Nat} {fz T sz nl} {xs:List AV} {v} (h:In B m w γ η) (hv:γ[i]?=some v) (ho:η[i]?=some (.gs fz T sz nl xs)) (hx:∀ x∈xs,x.cells.all noInt=true) :
  ∃ m',Ext m w m' w∧W.Own T sz CA m' w v xs∧In B m' w γ (η.set i (.gs true T sz nl xs))∧NoInt m m' w:=by
 obtain ⟨h1,h2,h3⟩:=h.heap.ok i v _ hv ho
 cases fz with
 | true=>exact ⟨m,.refl _ _,h1,h.put (o':=.gs true T sz nl xs) hv ho ((Keep.refl m w).touch _) ⟨h1,h2,h3⟩ (.inl rfl),fun b i k n hne=>(hne rfl).elim⟩
 | false =>
   obtain ⟨m',a,b,c,d⟩:=OwnX.ext h1
   have a':W.Own T sz CA m' w v xs:=Own.imp a (fun cs x hc=>CMono.mono (R:=CA) d hc)
   refine ⟨m',d,a',h.put (o':=.gs true T sz nl xs) hv ho ⟨⟨rfl,rfl,rfl,Nat.le_refl _,fun _ _ _=>rfl⟩,fun b' _ hb=>b b' hb,d⟩ ⟨a',h2,h3⟩ (.inl rfl),fun b' i k n hne hi hc=>?_⟩
   have hown:ownB v=some b':=by
    by_cases e:some b'=ownB v
    ·exact e.symm
    ·exact (hne (b b' e)).elim
   rcases a' with ⟨rfl,_⟩|⟨_,_,rfl,_⟩|⟨g,cap,cur,rfl,h0,hg,q1,q2,q3,q4,q5⟩
   ·cases hown
   ·cases hown
   ·obtain ⟨c',rfl⟩:∃ c,cap=c+1:=⟨cap-1,by omega⟩
    cases hown
    rw [q4] at hi
    have hsz:0 < sz:=by
     rcases Nat.eq_zero_or_pos sz with e|e
     ·rw [e,Nat.mul_zero] at hi;omega
     ·exact e
    have hdv:i / sz < xs.length:=(Nat.div_lt_iff_lt_mul hsz).2 hi
    obtain ⟨cs,r1,r2,r3⟩:=q5 (i / sz) _ (List.getElem?_eq_getElem hdv)
    have hmod:i % sz < cs.length:=by rw [r1];exact Nat.mod_lt _ hsz
    have hcell:=r2 (i % sz) _ (List.getElem?_eq_getElem hmod)
    rw [show i / sz*sz+i % sz=i from by rw [Nat.mul_comm];exact Nat.div_add_mod i sz] at hcell
    simp only [World.cell?,hg] at hc
    rw [hcell] at hc
    have hlen:i % sz < (xs[i / sz]).cells.length:=by rw [← r3.1];exact hmod
    have hr:=r3.2.2 (i % sz) _ _ (List.getElem?_eq_getElem hmod) (List.getElem?_eq_getElem hlen)
    exact noInt_rep hr (List.all_eq_true.1 (hx _ (List.getElem_mem hdv)) _ (List.getElem_mem hlen)) k n (by simpa using hc)
section
variable {C:Cx} {ops:Array Oper} {Q:Qt} {ρ ρ1 ρ2:Ro} {η η1 η2:Eta} {rest:List Oper} {T d:Nat} {pos:String} {af:Array Edge} {x:Operand}
theorem WkI.trans (h:WkI C ρ η ρ1 η1) (k:WkI C ρ1 η1 ρ2 η2):WkI C ρ η ρ2 η2:=fun a w m γ ρc h1 h2 h3=>by
 obtain ⟨m1,ρc1,a1,a2,a3,a4⟩:=h a w m γ ρc h1 h2 h3
 obtain ⟨m2,ρc2,b1,b2,b3,b4⟩:=k a w m1 γ ρc1 a1 a2 a3
 exact ⟨m2,ρc2,b1,b2,b3,a4.trans b4⟩
theorem WkI.viewCell {i o k E E2 sz:Nat} {cs:List AV} {fz nl} {xs:List AV} (ho:η[i]?=some (.cb E cs)) (hc:cs[o]?=some (.hs k)) (hk:η[k]?=some (.gs fz E2 sz nl xs)) (hx:∀ x∈xs,x.cells.all noInt=true) :
  WkI C ρ η ρ ((η.set k (.gs true E2 sz nl xs)).set i (.cb E (cs.set o (.sl sz none xs)))):=by
 intro a w m γ ρc hE hR hI
 obtain ⟨v,hv,_⟩:=hI.heap.get hk
 obtain ⟨m',h1,h2,h3,h4⟩:=hI.freezeI hv hk hx
 have hne:k≠i:=by intro e;subst e;rw [ho] at hk;cases hk
 have ho':(η.set k (.gs true E2 sz nl xs))[i]?=some (.cb E cs):=by rw [List.getElem?_set_ne hne];exact ho
 obtain ⟨u,hu,hok⟩:=h3.heap.get ho'
 obtain ⟨b,vs,rfl,hB,hC⟩:=hok
 refine ⟨m',ρc,hE,hR.mono h1 (.refl _),h3.put (o':=.cb E (cs.set o (.sl sz none xs))) hu ho' ((Keep.refl m' w).touch _) ?_ (.inl rfl),h4⟩
 have hlt:o < vs.length:=by rw [hC.1];exact (List.getElem?_eq_some_iff.1 hc).1
 have hrep:=hC.2.2 o _ _ (List.getElem?_eq_getElem hlt) hc
 have hvo:γ[k]?=some vs[o]:=hrep.hs_get.1
 rw [hv] at hvo
 cases hvo
 refine ⟨b,vs,rfl,hB,by simpa using hC.1,hC.2.1,fun j v c hj hcj=>?_⟩
 rw [List.getElem?_set] at hcj
 split at hcj
 ·rename_i e
  subst e
  split at hcj
  ·cases hcj
   rw [List.getElem?_eq_getElem hlt] at hj
   cases hj
   exact Rep.of_rs h2.rs (NL.none _)
  ·cases hcj
 ·exact hC.2.2 j v c hj hcj
theorem WkI.frzBox {t i E:Nat} {cs:List AV} (hx:lk ρ t=some (.bp i 0)) (ho:η[i]?=some (.cb E cs)) (hi:cs.all noInt=true):WkI C ρ η ((t,.ep (cs.map pj) 0)::ρ) (η.set i .dead):=by
 intro a w m γ ρc hE hR hI
 obtain ⟨u,g1,g2⟩:=hR.look hx
 cases g2 with
 | @bp _ _ _ b hb =>
 obtain ⟨b',vs,e,hB,hC⟩:=hI.heap.ok i _ _ hb ho
 cases e
 obtain ⟨hx1,hcell⟩:=hB.freeze
 have hT:=hB.frz
 refine ⟨_,(t,.pointer (some ⟨b,0,none⟩))::ρc,⟨hE.size,hE.defers,fun s q hs=>?_⟩,⟨rfl,?_,hR.mono hx1 (.refl _)⟩,hI.put (o':=.dead) hb ho hT trivial (.inr rfl),fun b' j k n hne hj hc=>?_⟩
 ·simp only [W.look] at hs
  cases hb':Nat.beq t s with
  | true =>
    rw [hb'] at hs
    simp at hs
    subst hs
    rw [← Nat.eq_of_beq_eq_true hb']
    exact hE.look _ _ g1
  | false=>rw [hb'] at hs;exact hE.look _ _ (by simpa using hs)
 ·have:=Rep.ep (γ:=γ) (o:=0) (cs:=cs.map pj) hcell (by rw [List.length_map];exact hC.1) hC.2.1 (fun j v c h1 h2=>by
   rw [List.getElem?_map] at h2
   cases hc:cs[j]? with
   | none=>rw [hc] at h2;cases h2
   | some c0 =>
     rw [hc] at h2
     simp only [Option.map_some,Option.some.injEq] at h2
     subst h2
     unfold pj
     cases hp:pureA c0 with
     | true=>exact (pureA_rep (hC.2.2 j v c0 h1 hc) hp).mono hx1 (.refl _)
     | false=>exact .junk)
  simpa using this
 ·have hbb:b'=b:=by
   by_cases e:b'=b
   ·exact e
   ·exact (hne (mset_ne e)).elim
  subst hbb
  rw [mset_same] at hj
  have hcl:=hcell j _ (List.getElem?_eq_getElem hj)
  simp only [Nat.zero_add] at hcl
  rw [hcl.2] at hc
  have hlen:j < cs.length:=by rw [← hC.1];exact hj
  exact noInt_rep (hC.2.2 j _ _ (List.getElem?_eq_getElem hj) (List.getElem?_eq_getElem hlen)) (List.all_eq_true.1 hi _ (List.getElem_mem hlen)) k n (by simpa using hc)
def Rel0:AV→Prop
 | .raw _=>True
 | .sl _ _ xs=>∀ x∈xs,(∃ k n ys,x.cells=.raw (.int k n)::ys)∧∀ y∈x.cells,∃ v,y=.raw v
 | _=>False
def RelP:AV→Prop
 | .st vs=>∀ x∈vs,Rel0 x
 | x=>Rel0 x
theorem Rel0.rep {m' mm:Nat→Nat} {w' γ γ' v x} (hx:Rel0 x) (hm:∀ b i k n,w'.cell? ⟨b,i,none⟩=some (.int k n)→i < m' b→mm b=m' b) (h:Rep m' w' γ v x):Rep mm w' γ' v x:=by
 cases h with
 | raw h=>exact .raw h
 | nil h=>exact .nil h
 | sl0 h=>exact .sl0 h
 | @sl _ sz nl xs b o cap cv hn h1 h2 hc hr =>
   refine .sl cv hn h1 h2 (fun i x hi=>?_) (fun i x j c y hi hj hy=>?_)
   ·obtain ⟨a1,a2,a3,a4⟩:=hc i x hi
    refine ⟨a1,a2,?_,a4⟩
    obtain ⟨⟨k,n,ys,e⟩,_⟩:=hx x (List.mem_of_getElem? hi)
    have hpos:0 < (cv i).length:=by rw [a1,← a2,e];simp
    have h0:=hr i x 0 _ (.raw (.int k n)) hi (List.getElem?_eq_getElem hpos) (by rw [e];rfl)
    have hcl:=a3 0 _ (List.getElem?_eq_getElem hpos)
    cases hcv:(cv i)[0] with
    | _=>?_
    all_goals (rw [hcv] at h0)
    all_goals first
     | (cases h0;done)
     | (have e2:=hm b (o+i*sz) _ _ (by have:=hcl.2;rw [hcv] at this;simpa using this) (by simpa using hcl.1)
        intro j c hj
        obtain ⟨b1,b2⟩:=a3 j c hj
        exact ⟨by dsimp only at b1 ⊢;rw [e2];exact b1,b2⟩)
   ·obtain ⟨_,h4⟩:=hx x (List.mem_of_getElem? hi)
    obtain ⟨u,rfl⟩:=h4 y (List.mem_of_getElem? hy)
    have:=hr i x j c _ hi hj hy
    cases this with
    | raw h=>exact .raw h
 | _=>cases hx
theorem RelP.rep {m' mm:Nat→Nat} {w' γ γ' v x} (hx:RelP x) (hm:∀ b i k n,w'.cell? ⟨b,i,none⟩=some (.int k n)→i < m' b→mm b=m' b) (h:Rep m' w' γ v x):Rep mm w' γ' v x:=by
 cases x with
 | st cs =>
   cases h with
   | st hl h1 hr=>exact .st hl h1 fun j v c a b=>Rel0.rep (hx c (List.mem_of_getElem? b)) hm (hr j v c a b)
 | _=>exact Rel0.rep hx hm h
theorem OL.lendI {P:Program} {f:Nat} {fn:Func} {us as:List AV} {r:AV} {args:List Operand} {at_:Array TypeId} (hwk:WkI C ρ η ρ1 η1) (hs:Spec P f as [] r []) (hf:P.funcs[f]?=some fn) (hq:RelP r) (k:OL C ops Q rest ((d,r)::ρ) η)
  (hP : C.P = P := by with_unfolding_all exact rfl) (hb : (fn.body.isNone || fn.name == "runtime.NumGoroutine") = false := by with_unfolding_all exact rfl) (hl : evs2 ρ1 args = some us := by with_unfolding_all exact rfl)
  (hle:LEs (ts []) us as:=by repeat' (first|with_unfolding_all exact trivial|exact LE.ren (by with_unfolding_all exact rfl)|with_unfolding_all exact LE.sl|with_unfolding_all exact LE.nil (by decide)|with_unfolding_all refine And.intro ?_ ?_)) (hd:Nat.blt d C.N=true:=by with_unfolding_all exact rfl) :
  OL C ops Q (⟨some d,.call ⟨.value (.func f),args.toArray,at_⟩,T,pos,af,none⟩::rest) ρ η:=by
 subst hP
 rintro a w ⟨m,γ,ρc,hE,hR,hI⟩
 obtain ⟨m1,ρc1,hE1,hR1,hI1,hno⟩:=hwk a w m γ ρc hE hR hI
 obtain ⟨vs,h1,h2⟩:=hR1.evs hl
 obtain ⟨hsh,hH1,_⟩:=hI1.heap.sel (η':=[]) (σ:=[]) rfl trivial
 have hc:=hs m1 w _ vs hH1 (hle.vl hsh h2)
 simp at hb
 have hb':fn.body≠none:=Option.isSome_iff_ne_none.1 hb.1
 refine Cx.lcons (wl_call (f:=f) (args:=vs.toArray) rfl ?_ (hc.mono fun e w' ⟨v,m',γ1',he,hC,hv⟩=>⟨v,he,?_⟩))
 ·have he:a.eval (.func f)=.func (.func f) #[] #[]:=rfl
  simp [execOp,resolve,he,Deferred.ofValue,invoke,callFunc,hf,hb.2,hb',hE1.evs h1]
 ·have hfar:Far [] m1 w m' w':=hC.far
  have hk:Keep m w (fun b=>if b < w.heap.size then m b else m' b) w':=⟨hfar.keep.grown,fun b hb=>if_pos hb⟩
  have hext:=hk.ext
  refine k _ _ ⟨_,γ,_,hE.put v (by simpa using hd),⟨rfl,hq.rep (fun b i kk n hcell hi=>?_) hv,hR.mono hext (.refl _)⟩,hI.keep hk⟩
  by_cases hlt:b < w.heap.size
  ·rw [if_pos hlt]
   have hmb:m' b=m1 b:=hfar.lim b hlt (by simp)
   have hcw:w.cell? ⟨b,i,none⟩=some (.int kk n):=by rw [← World.cell?_of_block (w:=w) (hfar.block b hlt (by simp))];exact hcell
   rw [hmb]
   by_cases e:m1 b=m b
   ·exact e.symm
   ·exact (hno b i kk n e (by rw [← hmb];exact hi) hcw).elim
  ·rw [if_neg hlt]
end
end Go.V
namespace Go.V
open Go Go.W
section
variable {C:Cx} {ops:Array Oper} {Q:Qt} {ρ ρ':Ro} {η η' η2:Eta} {rest:List Oper} {T d X Y:Nat} {pos:String} {af:Array Edge} {op:Op} {x y z:Operand} {A K:Code} {e:Exit}
theorem TX.rs2 {fn:Func} {v1 v2:ResultVar} {u1 u2 r1 r2:AV} (σ:List Nat) (hle1:LE (ts σ) u1 r1) (hle2:LE (ts σ) u2 r2) (hD:C.D=[]:=by with_unfolding_all exact rfl) (hres:fn.results=#[v1,v2]:=by with_unfolding_all exact rfl)
  (h1:RV C ρ η v1 u1:=by first|with_unfolding_all exact rfl|with_unfolding_all exact ⟨_,_,_,_,rfl,rfl,rfl,rfl,rfl⟩) (h2:RV C ρ η v2 u2:=by first|with_unfolding_all exact rfl|with_unfolding_all exact ⟨_,_,_,_,rfl,rfl,rfl,rfl,rfl⟩)
  (hn:nodB σ=true:=by with_unfolding_all exact rfl) (hp:preB C.n 0 σ=true:=by with_unfolding_all exact rfl) (ho:SubO (ts σ) η σ η':=by repeat' (first|with_unfolding_all exact trivial|exact OE.ren (by with_unfolding_all exact rfl)|with_unfolding_all exact OE.gs|with_unfolding_all refine And.intro ⟨_,by with_unfolding_all exact rfl,?_⟩ ?_)) :
  TX C (bodyPost C.P fn (PostB C.B (.tp [r1,r2]) η')) .ret ρ η:=TX.res2 σ hD hres h1 h2 hn hp ho hle1 hle2
theorem TX.rs3 {fn:Func} {v1 v2 v3:ResultVar} {u1 u2 u3 r1 r2 r3:AV} (σ:List Nat) (hle1:LE (ts σ) u1 r1) (hle2:LE (ts σ) u2 r2) (hle3:LE (ts σ) u3 r3) (hD:C.D=[]:=by with_unfolding_all exact rfl) (hres:fn.results=#[v1,v2,v3]:=by with_unfolding_all exact rfl)
  (h1:RV C ρ η v1 u1:=by first|with_unfolding_all exact rfl|with_unfolding_all exact ⟨_,_,_,_,rfl,rfl,rfl,rfl,rfl⟩) (h2:RV C ρ η v2 u2:=by first|with_unfolding_all exact rfl|with_unfolding_all exact ⟨_,_,_,_,rfl,rfl,rfl,rfl,rfl⟩) (h3:RV C ρ η v3 u3:=by first|with_unfolding_all exact rfl|with_unfolding_all exact ⟨_,_,_,_,rfl,rfl,rfl,rfl,rfl⟩)
  (hn:nodB σ=true:=by with_unfolding_all exact rfl) (hp:preB C.n 0 σ=true:=by with_unfolding_all exact rfl) (ho:SubO (ts σ) η σ η':=by repeat' (first|with_unfolding_all exact trivial|exact OE.ren (by with_unfolding_all exact rfl)|with_unfolding_all exact OE.gs|with_unfolding_all refine And.intro ⟨_,by with_unfolding_all exact rfl,?_⟩ ?_)) :
  TX C (bodyPost C.P fn (PostB C.B (.tp [r1,r2,r3]) η')) .ret ρ η:=TX.res3 σ hD hres h1 h2 h3 hn hp ho hle1 hle2 hle3
theorem TX.rs4 {fn:Func} {v1 v2 v3 v4:ResultVar} {u1 u2 u3 u4 r1 r2 r3 r4:AV} (σ:List Nat) (hle1:LE (ts σ) u1 r1) (hle2:LE (ts σ) u2 r2) (hle3:LE (ts σ) u3 r3) (hle4:LE (ts σ) u4 r4) (hD:C.D=[]:=by with_unfolding_all exact rfl) (hres:fn.results=#[v1,v2,v3,v4]:=by with_unfolding_all exact rfl)
  (h1:RV C ρ η v1 u1:=by first|with_unfolding_all exact rfl|with_unfolding_all exact ⟨_,_,_,_,rfl,rfl,rfl,rfl,rfl⟩) (h2:RV C ρ η v2 u2:=by first|with_unfolding_all exact rfl|with_unfolding_all exact ⟨_,_,_,_,rfl,rfl,rfl,rfl,rfl⟩) (h3:RV C ρ η v3 u3:=by first|with_unfolding_all exact rfl|with_unfolding_all exact ⟨_,_,_,_,rfl,rfl,rfl,rfl,rfl⟩) (h4:RV C ρ η v4 u4:=by first|with_unfolding_all exact rfl|with_unfolding_all exact ⟨_,_,_,_,rfl,rfl,rfl,rfl,rfl⟩)
  (hn:nodB σ=true:=by with_unfolding_all exact rfl) (hp:preB C.n 0 σ=true:=by with_unfolding_all exact rfl) (ho:SubO (ts σ) η σ η':=by repeat' (first|with_unfolding_all exact trivial|exact OE.ren (by with_unfolding_all exact rfl)|with_unfolding_all exact OE.gs|with_unfolding_all refine And.intro ⟨_,by with_unfolding_all exact rfl,?_⟩ ?_)) :
  TX C (bodyPost C.P fn (PostB C.B (.tp [r1,r2,r3,r4]) η')) .ret ρ η:=TX.res4 σ hD hres h1 h2 h3 h4 hn hp ho hle1 hle2 hle3 hle4
theorem LE.st {τ:Nat→Option Nat} {xs ys:List AV} (h:LEs τ xs ys):LE τ (.st xs) (.st ys):=fun m w γ γ' hs v hr=>by
 cases hr with
 | @st _ vs _ hl h1 hr =>
 have hv:VL m w γ vs xs:=VL.of hl hr
 have hv':=h.vl hs hv
 exact .st hv'.len h1 hv'.get
theorem OL.vwC {k E E2 sz:Nat} {cs:List AV} {fz nl} {xs:List AV} (i o:Nat) (kk:OL C ops Q rest ρ η2) (ho:η[i]?=some (.cb E cs):=by with_unfolding_all exact rfl) (hc:cs[o]?=some (.hs k):=by with_unfolding_all exact rfl) (hk:η[k]?=some (.gs fz E2 sz nl xs):=by with_unfolding_all exact rfl)
  (hη:(η.set k (.gs true E2 sz nl xs)).set i (.cb E (cs.set o (.sl sz none xs)))=η2:=by (try dsimp only [List.set])<;>exact rfl):OL C ops Q rest ρ η:=OL.wk (Wk.viewCell ho hc hk) (hη ▸ kk)
theorem TX.vwC {k E E2 sz:Nat} {cs:List AV} {fz nl} {xs:List AV} (i o:Nat) (kk:TX C Q e ρ η2) (ho:η[i]?=some (.cb E cs):=by with_unfolding_all exact rfl) (hc:cs[o]?=some (.hs k):=by with_unfolding_all exact rfl) (hk:η[k]?=some (.gs fz E2 sz nl xs):=by with_unfolding_all exact rfl)
  (hη:(η.set k (.gs true E2 sz nl xs)).set i (.cb E (cs.set o (.sl sz none xs)))=η2:=by (try dsimp only [List.set])<;>exact rfl):TX C Q e ρ η:=TX.wk (Wk.viewCell ho hc hk) (hη ▸ kk)
theorem Wk.eqG {i:Nat} {fz E sz nl} {xs ys:List AV} (h:xs=ys) (ho:η[i]?=some (.gs fz E sz nl xs)):Wk C ρ η ρ (η.set i (.gs fz E sz nl ys)):=by
 subst h
 have:η.set i (.gs fz E sz nl xs)=η:=by
  refine List.ext_getElem? fun j=>?_
  rw [List.getElem?_set]
  split
  ·rename_i e;subst e
   split
   ·exact ho.symm
   ·rename_i hn;rw [List.getElem?_eq_none (by omega)]
  ·rfl
 rw [this]
 exact Wk.refl
theorem OL.eqG {fz E sz nl} {xs ys:List AV} (i:Nat) (h:xs=ys) (kk:OL C ops Q rest ρ η2) (ho:η[i]?=some (.gs fz E sz nl xs):=by with_unfolding_all exact rfl) (hη:η.set i (.gs fz E sz nl ys)=η2:=by (try dsimp only [List.set])<;>exact rfl):OL C ops Q rest ρ η:=OL.wk (Wk.eqG h ho) (hη ▸ kk)
theorem TC.eqG {fz E sz nl} {xs ys:List AV} (i:Nat) (h:xs=ys) (kk:TC C Q A ρ η2) (ho:η[i]?=some (.gs fz E sz nl xs):=by with_unfolding_all exact rfl) (hη:η.set i (.gs fz E sz nl ys)=η2:=by (try dsimp only [List.set])<;>exact rfl):TC C Q A ρ η:=TC.wk (Wk.eqG h ho) (hη ▸ kk)
theorem TX.eqG {fz E sz nl} {xs ys:List AV} (i:Nat) (h:xs=ys) (kk:TX C Q e ρ η2) (ho:η[i]?=some (.gs fz E sz nl xs):=by with_unfolding_all exact rfl) (hη:η.set i (.gs fz E sz nl ys)=η2:=by (try dsimp only [List.set])<;>exact rfl):TX C Q e ρ η:=TX.wk (Wk.eqG h ho) (hη ▸ kk)
section
variable {M:Bool} {fi fuel:Nat} {l:List Oper} {listed:Array Bool} {g:Option (Nat × Bool)}
theorem OD.al {cs:List AV} {k:Nat} (i:Nat) (kk:OD C M fi l.toArray Q fuel (listed.setIfInBounds i true) ((d,.bp k 0)::ρ) η2) (hi:l[i]?=some ⟨some d,.alloc X,T,pos,af,g⟩:=by with_unfolding_all exact rfl) (hg:GB l.toArray ρ g true:=by first|with_unfolding_all exact rfl|with_unfolding_all exact ⟨_,_,rfl,rfl,rfl⟩)
  (hz:(C.tab X).bind (fun e=>rawL e.zero.cells.toList)=some cs:=by with_unfolding_all exact rfl) (hk:η.length=k:=by (try dsimp only [List.length])<;>exact rfl) (hη:η++[.cb X cs]=η2:=by (try dsimp only [List.cons_append,List.nil_append,List.append_eq])<;>exact rfl) (hd:Nat.blt d C.N=true:=by with_unfolding_all exact rfl) (hrd:Region.ready .any l.toArray listed=[i]:=by kernel_rfl):OD C M fi l.toArray Q (fuel+1) listed ρ η:=OD.n1 i (One.alloc hz hk hη hd) kk hi hg hrd
theorem NextBy.al {cs:List AV} {k i:Nat} (kk:OD C M fi l.toArray Q fuel (listed.setIfInBounds i true) ((d,.bp k 0)::ρ) η2) (hi:l[i]?=some ⟨some d,.alloc X,T,pos,af,g⟩:=by with_unfolding_all exact rfl) (hg:GB l.toArray ρ g true:=by first|with_unfolding_all exact rfl|with_unfolding_all exact ⟨_,_,rfl,rfl,rfl⟩)
  (hz:(C.tab X).bind (fun e=>rawL e.zero.cells.toList)=some cs:=by with_unfolding_all exact rfl) (hk:η.length=k:=by (try dsimp only [List.length])<;>exact rfl) (hη:η++[.cb X cs]=η2:=by (try dsimp only [List.cons_append,List.nil_append,List.append_eq])<;>exact rfl) (hd:Nat.blt d C.N=true:=by with_unfolding_all exact rfl):NextBy C M fi l Q fuel listed ρ η i:=NextBy.o (One.alloc hz hk hη hd) kk hi hg
end
/-! ### A call of yield among operations in any order -/
theorem wpAnyR_at {md:Region.Mode} {R:World→World→Prop} {fi:Nat} {B:Base} {hB:B.γ.length=C.n}:∀ (fuel:Nat) (listed:Array Bool) (a:Act) (w:World),wpAnyR (C.at B hB) md ops Q R fi fuel listed a w→wpAnyR C md ops Q R fi fuel listed a w
 | 0,_,_,_,h=>h
 | fuel+1,_,_,_,h=>⟨h.1,fun i hi=>Cx.O_mono (C:=C) (fun a' w' h'=>⟨h'.1,wpAnyR_at fuel _ a' w' h'.2⟩) (h.2 i hi)⟩
theorem TX.odAt {M:Bool} {fi fuel:Nat} {listed:Array Bool} {B:Base} {hB:B.γ.length=C.n} (h:OD (C.at B hB) M fi ops Q fuel listed ρ η):TX (C.at B hB) (QD C M fi ops Q fuel listed) .normal ρ η:=fun a w hA=>wpAnyR_at fuel listed a w (h a w hA)
end
end Go.V
namespace Go.V
open Go Go.W
theorem Rep.raws {m w γ v nl xs} (h:Rep m w γ v (.sl 1 nl xs)):∃ qs:List Value,qs.length=xs.length∧(∀ γ',Rep m w γ' v (.sl 1 none (qs.map .raw)))∧∀ (i:Nat) q x,qs[i]?=some q→xs[i]?=some x→x.cells=[x]→Rep m w [] q x:=by
 cases h with
 | nil h=>exact ⟨[],rfl,fun _=>.nil nofun,by simp⟩
 | sl0 h=>exact ⟨[],rfl,fun _=>.sl0 nofun,by simp⟩
 | @sl _ _ _ _ b o cap cv hn h1 h2 hc hr =>
   have hex:∀ i:Nat,∃ q,i < xs.length→cv i=[q]:=fun i=>by
    by_cases hi:i < xs.length
    ·obtain ⟨a1,_⟩:=hc i _ (List.getElem?_eq_getElem hi)
     match hcv:cv i,a1 with
     | [q],_=>exact ⟨q,fun _=>rfl⟩
    ·exact ⟨undef,fun h=>(hi h).elim⟩
   obtain ⟨qf,hqf⟩:∃ qf:Nat→Value,∀ i,i < xs.length→cv i=[qf i]:=⟨fun i=>(hex i).choose,fun i=>(hex i).choose_spec⟩
   refine ⟨(List.range xs.length).map qf,by simp,fun γ'=>?_,fun i q x hq hx hx1=>?_⟩
   ·have hl:(((List.range xs.length).map qf).map AV.raw).length=xs.length:=by simp
    have key:=Rep.sl (m:=m) (w:=w) (γ:=γ') (sz:=1) (nl:=none) (xs:=((List.range xs.length).map qf).map AV.raw) (b:=b) (o:=o) (cap:=cap) cv nofun (by rw [hl];exact h1) h2 (fun i x hx=>?_) (fun i x j c y hx hj hy=>?_)
    ·rw [hl] at key;exact key
    all_goals
     have hi:i < xs.length:=by have:=(List.getElem?_eq_some_iff.1 hx).1;rwa [hl] at this
     obtain ⟨a1,a2,a3,a4⟩:=hc i _ (List.getElem?_eq_getElem hi)
     simp only [List.map_map,List.getElem?_map,List.getElem?_range hi,Option.map_some,Option.some.injEq,Function.comp_apply] at hx
     subst hx
    ·exact ⟨a1,rfl,a3,a4⟩
    ·rw [hqf i hi] at hj a4
     match j,hj,hy with
     | 0,hj,hy =>
       simp at hj
       simp [AV.cells] at hy
       subst hj hy
       exact .raw (a4 _ (by simp))
     | j+1,hj,_=>simp at hj
   ·have hi:i < xs.length:=(List.getElem?_eq_some_iff.1 hx).1
    simp only [List.getElem?_map,List.getElem?_range hi,Option.map_some,Option.some.injEq] at hq
    subst hq
    exact hr i x 0 _ _ hx (by rw [hqf i hi];rfl) (by rw [hx1];rfl)
section
variable {C:Cx} {ops:Array Oper} {Q:Qt} {ρ:Ro} {η:Eta} {T d:Nat} {pos:String} {af:Array Edge} {x:Operand} {args:List Operand} {at_:Array TypeId}
theorem One.lendV {f : Nat} {fn : Func} {u : AV} (hf : C.P.funcs[f]? = some fn) (hb : (fn.body.isNone || fn.name == "runtime.NumGoroutine") = false) (hd : Nat.blt d C.N = true)
  (h:∀ m w γ ρc,RL m w γ ρc ρ→In C.B m w γ η→∃ m1 vs as q,W.evs ρc args=some vs∧VL m1 w [] vs as∧Spec C.P f as [] (.raw q) []∧Rep m w γ q u) :
  OneK C ops Q ⟨some d,.call ⟨.value (.func f),args.toArray,at_⟩,T,pos,af,none⟩ ρ η ((d,u)::ρ) η:=by
 rintro a w K ⟨m,γ,ρc,hE,hR,hI⟩ k
 obtain ⟨m1,vs,as,q,h1,h2,hs,hq⟩:=h m w γ ρc hR hI
 have hc:=hs m1 w [] vs ⟨rfl,fun i v o hv=>by simp at hv,fun i j v v' o o' b _ hv=>by simp at hv⟩ h2
 simp at hb
 have hb':fn.body≠none:=Option.isSome_iff_ne_none.1 hb.1
 refine wl_call (f:=f) (args:=vs.toArray) rfl ?_ (hc.mono fun e w' ⟨v,m',γ1',he,hC,hv⟩=>⟨q,by rw [he,hv.raw_eq],?_⟩)
 ·have he:a.eval (.func f)=.func (.func f) #[] #[]:=rfl
  simp [execOp,resolve,he,Deferred.ofValue,invoke,callFunc,hf,hb.2,hb',hE.evs h1]
 ·have hfar:Far [] m1 w m' w':=hC.far
  have hk:Keep m w (fun b=>if b < w.heap.size then m b else m' b) w':=⟨hfar.keep.grown,fun b hb=>if_pos hb⟩
  exact k _ _ hk.grown ⟨_,γ,_,hE.put q (by simpa using hd),⟨rfl,hq.mono hk.ext (.refl _),hR.mono hk.ext (.refl _)⟩,hI.keep hk⟩
theorem One.elem {P:Program} {f:Nat} {fn:Func} {i j E E2:Nat} {nl:Option Bool} {c0 c2 u:AV} {xs:List AV} (n:Nat) (hs:∀ (qs:List Value) q,qs.length=xs.length→qs[n]?=some q→Spec P f [.ep [.junk,.sl 1 none (qs.map .raw),.junk] 0] [] (.raw q) []) (hf:P.funcs[f]?=some fn) (hn:xs[n]?=some u)
  (hu:u.cells=[u]:=by with_unfolding_all exact rfl) (hP:C.P=P:=by with_unfolding_all exact rfl) (hx:ev2 ρ x=some (.bp i 0):=by with_unfolding_all exact rfl) (ho:η[i]?=some (.cb E [c0,.hs j,c2]):=by with_unfolding_all exact rfl) (hj:η[j]?=some (.gs true E2 1 nl xs):=by with_unfolding_all exact rfl)
  (hb : (fn.body.isNone || fn.name == "runtime.NumGoroutine") = false := by with_unfolding_all exact rfl) (hd : Nat.blt d C.N = true := by with_unfolding_all exact rfl) :
  OneK C ops Q ⟨some d,.call ⟨.value (.func f),#[x],at_⟩,T,pos,af,none⟩ ρ η ((d,u)::ρ) η:=by
 subst hP
 refine One.lendV (args:=[x]) hf hb hd fun m w γ ρc hR hI=>?_
 obtain ⟨v1,g1,g2⟩:=hR.ev hx
 cases g2 with
 | @bp _ _ _ b hbp =>
 obtain ⟨b',vs,e,hB,hC⟩:=hI.heap.ok i _ _ hbp ho
 cases e
 obtain ⟨hx1,hcell⟩:=hB.freeze
 have hvl:vs.length=3:=hC.1
 have h1:=hC.2.2 1 (vs[1]'(by omega)) (.hs j) (List.getElem?_eq_getElem (by omega)) rfl
 have hγj:=h1.hs_get.1
 obtain ⟨o1,o2,o3⟩:=hI.heap.ok j _ _ hγj hj
 have hrep:Rep m w γ (vs[1]'(by omega)) (.sl 1 none xs):=Rep.of_rs (Own.rs o1) (NL.none _)
 obtain ⟨qs,q1,q2,q3⟩:=hrep.raws
 have hnl:n < xs.length:=(List.getElem?_eq_some_iff.1 hn).1
 have hqn:qs[n]?=some (qs[n]'(by omega)):=List.getElem?_eq_getElem (by omega)
 refine ⟨mset m b vs.length,[.pointer (some ⟨b,0,none⟩)],[.ep [.junk,.sl 1 none (qs.map .raw),.junk] 0],_,by simp [W.evs,g1],⟨?_,trivial⟩,hs qs _ q1 hqn,(q3 n _ u hqn hn hu).mono (.refl _ _) (fun i v h=>by simp at h)⟩
 have:=Rep.ep (γ:=[]) (o:=0) (cs:=[.junk,.sl 1 none (qs.map .raw),.junk]) hcell (by rw [hvl];rfl) hC.2.1 (fun k v c a1 a2=>by
  match k,a2 with
  | 0,a2=>simp at a2;subst a2;exact .junk
  | 1,a2 =>
    simp at a2;subst a2
    rw [List.getElem?_eq_getElem (by omega)] at a1
    cases a1
    exact (q2 []).mono hx1 (.refl _)
  | 2,a2=>simp at a2;subst a2;exact .junk
  | k+3,a2=>simp at a2)
 simpa using this
variable {rest:List Oper} {M:Bool} {fi fuel:Nat} {l:List Oper} {listed:Array Bool} {g:Option (Nat × Bool)}
variable {P:Program} {f:Nat} {fn:Func} {j E E2:Nat} {nl:Option Bool} {c0 c2 u:AV} {xs:List AV}
theorem OL.elem {i:Nat} (n:Nat) (hs:∀ (qs:List Value) q,qs.length=xs.length→qs[n]?=some q→Spec P f [.ep [.junk,.sl 1 none (qs.map .raw),.junk] 0] [] (.raw q) []) (hf:P.funcs[f]?=some fn) (hn:xs[n]?=some u) (k:OL C ops Q rest ((d,u)::ρ) η)
  (hu:u.cells=[u]:=by with_unfolding_all exact rfl) (hP:C.P=P:=by with_unfolding_all exact rfl) (hx:ev2 ρ x=some (.bp i 0):=by with_unfolding_all exact rfl) (ho:η[i]?=some (.cb E [c0,.hs j,c2]):=by with_unfolding_all exact rfl) (hj:η[j]?=some (.gs true E2 1 nl xs):=by with_unfolding_all exact rfl)
  (hb : (fn.body.isNone || fn.name == "runtime.NumGoroutine") = false := by with_unfolding_all exact rfl) (hd : Nat.blt d C.N = true := by with_unfolding_all exact rfl) :
  OL C ops Q (⟨some d,.call ⟨.value (.func f),#[x],at_⟩,T,pos,af,none⟩::rest) ρ η:=OL.one (One.elem n hs hf hn hu hP hx ho hj hb hd) k
theorem OD.e1 {q:Nat} (i n:Nat) (hs:∀ (qs:List Value) q,qs.length=xs.length→qs[n]?=some q→Spec P f [.ep [.junk,.sl 1 none (qs.map .raw),.junk] 0] [] (.raw q) []) (hf:P.funcs[f]?=some fn) (hn:xs[n]?=some u) (k:OD C M fi l.toArray Q fuel (listed.setIfInBounds i true) ((d,u)::ρ) η)
  (hi:l[i]?=some ⟨some d,.call ⟨.value (.func f),#[x],at_⟩,T,pos,af,g⟩:=by with_unfolding_all exact rfl) (hg:GB l.toArray ρ g true:=by first|with_unfolding_all exact rfl|with_unfolding_all exact ⟨_,_,rfl,rfl,rfl⟩)
  (hu:u.cells=[u]:=by with_unfolding_all exact rfl) (hP:C.P=P:=by with_unfolding_all exact rfl) (hx:ev2 ρ x=some (.bp q 0):=by with_unfolding_all exact rfl) (ho:η[q]?=some (.cb E [c0,.hs j,c2]):=by with_unfolding_all exact rfl) (hj:η[j]?=some (.gs true E2 1 nl xs):=by with_unfolding_all exact rfl)
  (hb : (fn.body.isNone || fn.name == "runtime.NumGoroutine") = false := by with_unfolding_all exact rfl) (hd : Nat.blt d C.N = true := by with_unfolding_all exact rfl) (hrd : Region.ready .any l.toArray listed = [i] := by kernel_rfl) :
  OD C M fi l.toArray Q (fuel+1) listed ρ η:=OD.n1 i (One.elem n hs hf hn hu hP hx ho hj hb hd) k hi hg hrd
theorem NextBy.e {q i:Nat} (n:Nat) (hs:∀ (qs:List Value) q,qs.length=xs.length→qs[n]?=some q→Spec P f [.ep [.junk,.sl 1 none (qs.map .raw),.junk] 0] [] (.raw q) []) (hf:P.funcs[f]?=some fn) (hn:xs[n]?=some u) (k:OD C M fi l.toArray Q fuel (listed.setIfInBounds i true) ((d,u)::ρ) η)
  (hi:l[i]?=some ⟨some d,.call ⟨.value (.func f),#[x],at_⟩,T,pos,af,g⟩:=by with_unfolding_all exact rfl) (hg:GB l.toArray ρ g true:=by first|with_unfolding_all exact rfl|with_unfolding_all exact ⟨_,_,rfl,rfl,rfl⟩)
  (hu:u.cells=[u]:=by with_unfolding_all exact rfl) (hP:C.P=P:=by with_unfolding_all exact rfl) (hx:ev2 ρ x=some (.bp q 0):=by with_unfolding_all exact rfl) (ho:η[q]?=some (.cb E [c0,.hs j,c2]):=by with_unfolding_all exact rfl) (hj:η[j]?=some (.gs true E2 1 nl xs):=by with_unfolding_all exact rfl)
  (hb : (fn.body.isNone || fn.name == "runtime.NumGoroutine") = false := by with_unfolding_all exact rfl) (hd : Nat.blt d C.N = true := by with_unfolding_all exact rfl) :
  NextBy C M fi l Q fuel listed ρ η i:=NextBy.o (One.elem n hs hf hn hu hP hx ho hj hb hd) k hi hg
end
end Go.V
