/- Lemmas for the claim; no conditions. -/
import Derived.Test.YtdjhogobbbnddaaGreatC39
namespace Go.V
open Go Go.W
def Yqa (n:Nat):AV→Bool
 | .raw _=>true
 | .bp i _=>Nat.blt i n
 | .hs i=>Nat.blt i n
 | .mp i=>Nat.blt i n
 | _=>false
theorem Yqa.same {n:Nat} {m w m' w' γ γ' v v' u} (h:Rep m w γ v u) (h':Rep m' w' γ' v' u) (hp:∀ (i:Nat) x y,i < n→γ[i]?=some x→γ'[i]?=some y→x=y) (hu:Yqa n u=true):v=v':=by
 cases u with
 | raw x=>cases h;cases h';rfl
 | bp i o =>
   have hi:i < n:=by simpa [Yqa] using hu
   cases h with
   | bp h1 =>
   cases h' with
   | bp h2 =>
   have:=hp i _ _ hi h1 h2
   simp only [Value.pointer.injEq,Option.some.injEq,Addr.mk.injEq] at this;rw [this.1]
 | hs i =>
   have hi:i < n:=by simpa [Yqa] using hu
   cases h with
   | hs h1 =>
   cases h' with
   | hs h2=>exact hp i _ _ hi h1 h2
 | mp i =>
   have hi:i < n:=by simpa [Yqa] using hu
   cases h with
   | mp h1 =>
   cases h' with
   | mp h2=>exact hp i _ _ hi h1 h2
 | _=>simp [Yqa] at hu
abbrev Zs:=List (Nat × Nat × AV)
def Yqg (Z:Zs) (B:Base) (w:World):Prop:=∀ z∈Z,∃ b v γ,B.γ[z.1]?=some (.pointer (some ⟨b,0,none⟩))∧w.cell? ⟨b,z.2.1,none⟩=some v∧Pre B.γ γ∧∃ m w',Rep m w' γ v z.2.2
def ZOK (n:Nat) (η:Eta):Zs→Prop
 | []=>True
 | z::r=>(∃ T cs,η[z.1]?=some (.cb T cs)∧cs[z.2.1]?=some z.2.2)∧(Nat.blt z.1 n&&Yqa n z.2.2)=true∧ZOK n η r
theorem ZOK.mem {n η}:∀ {Z:Zs},ZOK n η Z→∀ z∈Z,(∃ T cs,η[z.1]?=some (.cb T cs)∧cs[z.2.1]?=some z.2.2)∧z.1 < n∧Yqa n z.2.2=true
 | [],_,z,h=>by cases h
 | y::r,h,z,hz=>by
   rcases List.mem_cons.1 hz with rfl|hz
   ·have:=h.2.1
    simp only [Bool.and_eq_true] at this;exact ⟨h.1,by simpa using this.1,this.2⟩
   ·exact ZOK.mem h.2.2 z hz
theorem Yqg.of {B:Base} {m w γ η} {Z:Zs} (hI:In B m w γ η) (hz:ZOK B.γ.length η Z):Yqg Z B w:=fun z hm=>by
 obtain ⟨⟨T,cs,h1,h2⟩,h3,h4⟩:=hz.mem z hm;obtain ⟨v,g1,g2⟩:=hI.heap.get h1;obtain ⟨b,vs,rfl,hB,hC⟩:=g2;have hlt:z.2.1 < vs.length:=by rw [hC.1];exact (List.getElem?_eq_some_iff.1 h2).1
 have hb:B.γ[z.1]?=some (.pointer (some ⟨b,0,none⟩)):=by
  have:=hI.pre z.1 _ (List.getElem?_eq_getElem h3)
  rw [g1] at this;rw [List.getElem?_eq_getElem h3,← this]
 exact ⟨b,vs[z.2.1],γ,hb,hB.cell (List.getElem?_eq_getElem hlt),hI.pre,m,w,hC.2.2 _ _ _ (List.getElem?_eq_getElem hlt) h2⟩
theorem Yqg.cell {B:Base} {w m w1 γ v u} {Z:Zs} {k o b:Nat} (h:Yqg Z B w) (hm:(k,o,u)∈Z) (hu:Yqa B.γ.length u=true) (hb:B.γ[k]?=some (.pointer (some ⟨b,0,none⟩))) (hp:Pre B.γ γ) (hr:Rep m w1 γ v u):w.cell? ⟨b,o,none⟩=some v:=by
 obtain ⟨b',v',γ',h1,h2,h3,m',w',h4⟩:=h _ hm;rw [hb] at h1;simp only [Option.some.injEq,Value.pointer.injEq,Addr.mk.injEq] at h1;obtain rfl:b=b':=h1.1;have:=Yqa.same (n:=B.γ.length) hr h4 (fun i x y hi hx hy=>by
  have e:=List.getElem?_eq_getElem hi;have h5:=hp i _ e;have h6:=h3 i _ e;rw [hx] at h5;rw [hy] at h6;exact (Option.some.inj h5).trans (Option.some.inj h6).symm) hu
 rw [this];exact h2
def RZ (Z:Zs) (B:Base) (w w':World):Prop:=Yqg Z B w→Yqg Z B w'
def OZ (Z:Zs) (C:Cx) (fi:Nat) (ops:Array Oper) (Q:Qt) (fuel:Nat) (listed:Array Bool) (ρ:Ro) (η:Eta):Prop:=
 ∀ a w,A2 C.N C.D C.B a w ρ η→Yb9 C .any ops Q (RZ Z C.B) fi fuel listed a w
def QZ (Z:Zs) (t:Bool) (C:Cx) (fi:Nat) (ops:Array Oper) (Q:Qt) (fuel:Nat) (listed:Array Bool):Qt
 | .normal,a,w=>(t=true→Yqg Z C.B w)∧Yb9 C .any ops Q (RZ Z C.B) fi fuel listed a w
 | e,a,w=>Q e a w
def NZ (Z:Zs) (C:Cx) (fi:Nat) (l:List Oper) (Q:Qt) (fuel:Nat) (listed:Array Bool) (ρ:Ro) (η:Eta) (i:Nat):Prop:=
 ∀ a w,A2 C.N C.D C.B a w ρ η→C.O l.toArray Q i (fun a' w'=>(fi≤i∨RZ Z C.B w w')∧Yb9 C .any l.toArray Q (RZ Z C.B) fi fuel (listed.setIfInBounds i true) a' w') a w
section
variable {Z:Zs} {C:Cx} {t:Bool} {fi fuel n id i:Nat} {l:List Oper} {ops:Array Oper} {Q:Qt} {listed:Array Bool} {ρ ρ':Ro} {η η':Eta} {d T X:Nat} {pos:String} {af:Array Edge} {op:Op} {x:Operand} {g:Option (Nat × Bool)} {u:AV}
theorem Zbi (Z:Zs) (fi n:Nat) (h:OZ Z C fi l.toArray Q n (Array.replicate n false) ρ η) (hn:Nat.beq l.length n=true:=by with_unfolding_all exact rfl):TC C Q (.region id l.toArray true) ρ η:=by
 intro a w hA;have hn:l.length=n:=Nat.eq_of_beq_eq_true hn;subst hn;obtain ⟨m,γ,ρc,hE,hR,hI⟩:=hA;have h:=h a w.drew ⟨m,γ,ρc,hE,hR.mono (Keep.drew m w).ext (.refl _),hI.keep (.drew m w)⟩
 cases hr:C.r with
 | none=>rw [Cx.W_none hr];exact wp_region_any C.hm (YfR hr _ _ _ _ h)
 | some r=>rw [Cx.W_some hr];exact wpIn_region_any C.hm (YdH hr _ _ _ _ h)
theorem Zaq (i:Nat) (k:OZ Z C fi l.toArray Q fuel (listed.setIfInBounds i true) ((d,u)::ρ) η) (hi:l.toArray[i]?=some ⟨some d,op,T,pos,af,g⟩:=by with_unfolding_all exact rfl) (hb:Yn8 l.toArray listed i=true:=by kernel_rfl) (hQ:YaM Q:=by with_unfolding_all exact fun _ _ _ _ _ h=>h)
  (hg:GB l.toArray ρ g true:=by first|with_unfolding_all exact rfl|with_unfolding_all exact ⟨_,_,rfl,rfl,rfl⟩) (h:Yaj C.P C.N C.D op ρ η u false:=by exact gv) (hd:Nat.blt d C.N=true:=by with_unfolding_all exact rfl):OZ Z C fi l.toArray Q (fuel+1) listed ρ η:=by
 intro a w hA;simp only [Yn8,Bool.and_eq_true] at hb;obtain ⟨⟨⟨⟨h1,h2⟩,h3⟩,h4⟩,h6⟩:=hb;obtain ⟨m,γ,ρc,hE,hR,hI⟩:=id hA;obtain ⟨v,hv,hrun⟩:=h hE hR hI.heap;have hA':A2 C.N C.D C.B (a.put (some d) v) w ((d,u)::ρ) η:=⟨m,γ,(d,v)::ρc,hE.put v (by simpa using hd),⟨rfl,hv,hR⟩,hI⟩;exact Ydk (fun _ h=>h) hi (Region.noSelect_spec h1) (Ycu h6) (fun c a w h=>hQ c a w d _ h) fuel listed a w (YbR h4) (Region.free_spec hi h2) (by simpa using h3)
  (.inl ⟨GB.wanted (o:=⟨some d,op,T,pos,af,g⟩) hE hR hg,fun w' _=>hrun (m':=m) nofun d T pos af g⟩) (k _ _ hA')
theorem OZ.of (i:Nat) (k:OZ Z C fi l.toArray Q fuel (listed.setIfInBounds i true) ((d,.tp [])::ρ) η) (hi:l.toArray[i]?=some ⟨some d,op,T,pos,af,g⟩:=by with_unfolding_all exact rfl) (hb:Yn8 l.toArray listed i=true:=by kernel_rfl) (hQ:YaM Q:=by with_unfolding_all exact fun _ _ _ _ _ h=>h)
  (hg:GB l.toArray ρ g false:=by with_unfolding_all exact ⟨_,_,rfl,rfl,rfl⟩) (hd:Nat.blt d C.N=true:=by with_unfolding_all exact rfl):OZ Z C fi l.toArray Q (fuel+1) listed ρ η:=by
 intro a w hA;simp only [Yn8,Bool.and_eq_true] at hb;obtain ⟨⟨⟨⟨h1,h2⟩,h3⟩,h4⟩,h6⟩:=hb;obtain ⟨m,γ,ρc,hE,hR,hI⟩:=id hA;exact Ydk (v:=undef) (fun _ h=>h) hi (Region.noSelect_spec h1) (Ycu h6) (fun c a w h=>hQ c a w d _ h) fuel listed a w (YbR h4) (Region.free_spec hi h2) (by simpa using h3)
  (.inr ⟨GB.wanted (o:=⟨some d,op,T,pos,af,g⟩) hE hR hg,rfl⟩) (k _ _ ⟨m,γ,(d,undef)::ρc,hE.put undef (by simpa using hd),⟨rfl,.tp (vs:=[]) rfl (by simp),hR⟩,hI⟩)
theorem ZaQ {kk o:Nat} (i:Nat) (k:OZ Z C fi l.toArray Q fuel (listed.setIfInBounds i true) ((d,u)::ρ) η) (hi:l.toArray[i]?=some ⟨some d,.load X x,T,pos,af,g⟩:=by with_unfolding_all exact rfl) (hb:YeP l.toArray listed fi i=true:=by kernel_rfl) (hQ:YaM Q:=by with_unfolding_all exact fun _ _ _ _ _ h=>h)
  (hg:GB l.toArray ρ g true:=by first|with_unfolding_all exact rfl|with_unfolding_all exact ⟨_,_,rfl,rfl,rfl⟩) (hs:(C.tab X).map (·.sh.agg)=some false:=by with_unfolding_all exact rfl) (hx:ev2 ρ x=some (.bp kk o):=by with_unfolding_all exact rfl) (hm:(kk,o,u)∈Z:=by repeat' (first|with_unfolding_all exact List.Mem.head _|with_unfolding_all refine List.Mem.tail _ ?_))
  (hz:ZOK C.n η Z:=by repeat' (first|with_unfolding_all exact trivial|with_unfolding_all refine And.intro ⟨_,_,rfl,rfl⟩ (And.intro rfl ?_))) (hd:Nat.blt d C.N=true:=by with_unfolding_all exact rfl):OZ Z C fi l.toArray Q (fuel+1) listed ρ η:=by
 intro a w hA;simp only [YeP,Bool.and_eq_true,Bool.or_eq_true,decide_eq_true_eq,beq_iff_eq,List.all_eq_true,List.mem_range] at hb;obtain ⟨⟨⟨⟨⟨h1,h2⟩,h3⟩,h4⟩,h5⟩,h6⟩:=hb;have hw:∀ j,fi≤j→j < l.toArray.size→j≠i→listed.getD j true=true∨YdF .any l.toArray i l.toArray.size j=true:=by
  intro j a1 a2 a3;rcases h5 with h5|h5
  ·omega
  ·rcases h5 j a2 with ((h5|h5)|h5)|h5
   ·omega
   ·exact absurd h5 a3
   ·exact .inl h5
   ·exact .inr h5
 obtain ⟨m,γ,ρc,hE,hR,hI⟩:=id hA;rw [← C.hn] at hz;have hH:=Yqg.of hI hz;obtain ⟨⟨E,cs,e1,e2⟩,e3,e4⟩:=hz.mem _ hm;obtain ⟨p,g1,g2⟩:=hR.ev hx;obtain ⟨v0,f1,f2⟩:=hI.heap.get e1;obtain ⟨b,vs,rfl,hB,hC⟩:=f2;have hlt:o < vs.length:=by rw [hC.1];exact (List.getElem?_eq_some_iff.1 e2).1
 have hrep:=hC.2.2 o _ _ (List.getElem?_eq_getElem hlt) e2;have hbγ:C.B.γ[kk]?=some (.pointer (some ⟨b,0,none⟩)):=by
  have:=hI.pre kk _ (List.getElem?_eq_getElem e3)
  rw [f1] at this;rw [List.getElem?_eq_getElem e3,← this]
 cases g2 with
 | @bp _ _ _ b' hb' =>
 rw [f1] at hb';simp only [Option.some.injEq,Value.pointer.injEq,Addr.mk.injEq] at hb';obtain rfl:b=b':=hb'.1;have hy:YieldsIf C.P l.toArray (RZ Z C.B w) ⟨some d,.load X x,T,pos,af,g⟩ vs[o] a:=by
  refine .inl ⟨GB.wanted (o:=⟨some d,.load X x,T,pos,af,g⟩) hE hR hg,fun w' hw'=>?_⟩;have hcell:=(hw' hH).cell hm e4 hbγ hI.pre hrep
  cases ht:C.tab X with
  | none=>rw [ht] at hs;cases hs
  | some te =>
    rw [ht] at hs;simp at hs;have hagg:=(C.hT X te ht).nagg hs;simp [execOp,hE.ev g1,Instr.loadAt,Instr.sureAddr,loadVar,hagg,hcell]
 exact Ygl (fun _ h=>h) (fun _ _ _ h k q=>k (h q)) hi (Region.noSelect_spec h1) (Ycu h6) (fun c a w h=>hQ c a w d _ h) l.toArray.size fuel listed a w (YbR h4) hw (Region.free_spec hi h2) (by simpa using h3) hy
  (k _ _ ⟨m,γ,(d,vs[o])::ρc,hE.put _ (by simpa using hd),⟨rfl,hrep,hR⟩,hI⟩)
theorem Zcj (hr:Region.ready .any l.toArray listed=[i]) (h:NZ Z C fi l Q fuel listed ρ η i):OZ Z C fi l.toArray Q (fuel+1) listed ρ η:=fun a w hA =>
 ⟨fun h=>(by rw [hr] at h;cases h),fun j hj=>by
  rw [hr] at hj;obtain rfl:j=i:=by simpa using hj
  exact h a w hA⟩
theorem OZ.n2 (i j:Nat) (h:NZ Z C fi l Q fuel listed ρ η i) (h':NZ Z C fi l Q fuel listed ρ η j) (hr:Region.ready .any l.toArray listed=[i,j]:=by kernel_rfl):OZ Z C fi l.toArray Q (fuel+1) listed ρ η:=fun a w hA =>
 ⟨fun h=>(by rw [hr] at h;cases h),fun k hk=>by
  rw [hr] at hk;rcases List.mem_cons.1 hk with rfl|hk
  ·exact h a w hA
  ·obtain rfl:k=j:=by simpa using hk
   exact h' a w hA⟩
theorem Zck (i j k:Nat) (h:NZ Z C fi l Q fuel listed ρ η i) (h':NZ Z C fi l Q fuel listed ρ η j) (h'':NZ Z C fi l Q fuel listed ρ η k) (hr:Region.ready .any l.toArray listed=[i,j,k]:=by kernel_rfl):OZ Z C fi l.toArray Q (fuel+1) listed ρ η:=fun a w hA =>
 ⟨fun h=>(by rw [hr] at h;cases h),fun q hq=>by
  rw [hr] at hq;rcases List.mem_cons.1 hq with rfl|hq
  ·exact h a w hA
  ·rcases List.mem_cons.1 hq with rfl|hq
   ·exact h' a w hA
   ·obtain rfl:q=k:=by simpa using hq
    exact h'' a w hA⟩
theorem Zbj (h:TX C Q .normal ρ η) (hr:Region.ready .any ops listed=[]:=by kernel_rfl):OZ Z C fi ops Q fuel listed ρ η:=fun a w hA=>by
 cases fuel with
 | zero=>exact ⟨hr,h a w hA⟩
 | succ n=>exact ⟨fun _=>h a w hA,by rw [hr];simp⟩
theorem NZ.at (i:Nat) (h:NZ Z C fi l Q fuel listed ρ η i):NZ Z C fi l Q fuel listed ρ η i:=h
theorem NZ.s {op:Op} {i:Nat} (k:OZ Z C fi l.toArray Q fuel (listed.setIfInBounds i true) ((d,u)::ρ) η) (hi:l[i]?=some ⟨some d,op,T,pos,af,g⟩:=by with_unfolding_all exact rfl) (hg:GB l.toArray ρ g true:=by first|with_unfolding_all exact rfl|with_unfolding_all exact ⟨_,_,rfl,rfl,rfl⟩) (h:Yaj C.P C.N C.D op ρ η u:=by exact gv) (hd:Nat.blt d C.N=true:=by with_unfolding_all exact rfl):NZ Z C fi l Q fuel listed ρ η i:=by
 intro a w hA;obtain ⟨m,γ,ρc,hE,hR,hI⟩:=id hA;obtain ⟨v,hv,hrun⟩:=h hE hR hI.heap;have hw:=GB.wanted (o:=⟨some d,op,T,pos,af,g⟩) hE hR hg;exact Cx.O_yields (S:=fun q=>q=w) (o:=⟨some d,op,T,pos,af,g⟩) (by simpa using hi) (.inl ⟨hw,fun w' e=>by subst e;exact hrun (m':=m) (fun _=>.refl _ _) d T pos af g⟩) rfl
  ⟨.inr fun h=>h,k _ _ ⟨m,γ,(d,v)::ρc,hE.put v (by simpa using hd),⟨rfl,hv,hR⟩,hI⟩⟩
theorem ZaR (i:Nat) (k:OZ Z C fi l.toArray Q fuel (listed.setIfInBounds i true) ((d,u)::ρ) η) (hi:l[i]?=some ⟨some d,op,T,pos,af,g⟩:=by with_unfolding_all exact rfl) (hg:GB l.toArray ρ g true:=by first|with_unfolding_all exact rfl|with_unfolding_all exact ⟨_,_,rfl,rfl,rfl⟩) (h:Yaj C.P C.N C.D op ρ η u:=by exact gv) (hd:Nat.blt d C.N=true:=by with_unfolding_all exact rfl)
  (hr:Region.ready .any l.toArray listed=[i]:=by kernel_rfl):OZ Z C fi l.toArray Q (fuel+1) listed ρ η:=Zcj hr (.s k hi hg h hd)
theorem QZ.wp {o:Oper} {K:Act→World→Prop} {a w} (h:o.wp C.P a w K (QZ Z t C fi ops Q fuel listed)):o.wp C.P a w K Q:=by
 unfold Oper.wp at *
 generalize (execOp a.eval o).run C.P w=r at *
 cases r with
 | ok n w'=>cases n<;>first|exact h|(exact Calls.mono h fun e w'' hh=>by cases e<;>exact hh)
 | halt e w'=>cases e<;>exact h
theorem QZ.wpIn {o:Oper} {K:Act→World→Prop} {a w r n} (h:o.wpIn (WF r) n C.P a w K (QZ Z t C fi ops Q fuel listed)):o.wpIn (WF r) n C.P a w K Q:=by
 unfold Oper.wpIn at *
 refine ⟨h.1,?_⟩;have h:=h.2;generalize (o.semAt (WF r).round a.eval).run C.P w=q at *
 cases q with
 | ok x w' =>
   cases x<;>simp only [Oper.uponIn] at h ⊢<;>first
    | exact h
    | exact ⟨h.1,CallsIn.mono h.2 (fun e w'' he=>by cases e<;>exact he)⟩
    | exact ⟨h.1,RoundIn.mono h.2 (fun e w'' he=>by cases e<;>exact he)⟩
 | halt x w'=>cases x<;>simp only [Oper.uponIn] at h ⊢<;>exact h
theorem NZ.any {o o':Oper} (h:OL C l.toArray (QZ Z t C fi l.toArray Q fuel (listed.setIfInBounds i true)) [o'] ρ η) (hM:t=true∨fi≤i) (hi:l[i]?=some o) (hg:GB l.toArray ρ o.guard true) (ho:o'={ o with guard:=none }):NZ Z C fi l Q fuel listed ρ η i:=by
 intro a w hA;obtain ⟨m,γ,ρc,hE,hR,hI⟩:=id hA;have hw:=GB.wanted (o:=o) hE hR hg;have h1:=h a w hA;have hM':∀ w',(t=true→Yqg Z C.B w')→(fi≤i∨RZ Z C.B w w'):=fun w' q=>hM.elim (fun e=>.inr fun _=>q e) .inl
 subst ho
 cases hr:C.r with
 | none =>
   rw [Cx.O_none hr];rw [Cx.L_none hr] at h1;unfold wpOp;simp only [List.getElem?_toArray,hi];unfold wpList at h1;rw [if_pos (by simp [Region.wanted])] at h1;rw [if_pos hw];rcases h1 with h2|h2
   ·exact .inl (Oper.wp_mono (Q:=Q) (fun a' w' h=>⟨hM' w' h.1,h.2⟩) (QZ.wp h2))
   ·exact .inr h2
 | some r =>
   rw [Cx.O_some hr];rw [Cx.L_some hr] at h1;unfold wpOpIn;simp only [List.getElem?_toArray,hi];unfold wpListIn at h1;rw [if_pos (by simp [Region.wanted])] at h1;rw [if_pos hw];exact Oper.wpIn_mono (Q:=Q) (fun a' w' h=>⟨hM' w' h.1,h.2⟩) (QZ.wpIn h1)
theorem NZ.a {dst:Option Tmp} {i:Nat} (k:OL C l.toArray (QZ Z true C fi l.toArray Q fuel (listed.setIfInBounds i true)) [⟨dst,op,T,pos,af,none⟩] ρ η) (hi:l[i]?=some ⟨dst,op,T,pos,af,g⟩:=by with_unfolding_all exact rfl) (hg:GB l.toArray ρ g true:=by first|with_unfolding_all exact rfl|with_unfolding_all exact ⟨_,_,rfl,rfl,rfl⟩):NZ Z C fi l Q fuel listed ρ η i:=.any k (.inl rfl) hi hg rfl
theorem NZ.w {dst:Option Tmp} {i:Nat} (k:OL C l.toArray (QZ Z false C fi l.toArray Q fuel (listed.setIfInBounds i true)) [⟨dst,op,T,pos,af,none⟩] ρ η) (hi:l[i]?=some ⟨dst,op,T,pos,af,g⟩:=by with_unfolding_all exact rfl) (hg:GB l.toArray ρ g true:=by first|with_unfolding_all exact rfl|with_unfolding_all exact ⟨_,_,rfl,rfl,rfl⟩) (hM:fi≤i:=by exact Nat.le_of_ble_eq_true rfl):NZ Z C fi l Q fuel listed ρ η i:=.any k (.inr hM) hi hg rfl
theorem ZaU {dst:Option Tmp} (i:Nat) (k:OL C l.toArray (QZ Z true C fi l.toArray Q fuel (listed.setIfInBounds i true)) [⟨dst,op,T,pos,af,none⟩] ρ η) (hi:l[i]?=some ⟨dst,op,T,pos,af,g⟩:=by with_unfolding_all exact rfl) (hg:GB l.toArray ρ g true:=by first|with_unfolding_all exact rfl|with_unfolding_all exact ⟨_,_,rfl,rfl,rfl⟩) (hr:Region.ready .any l.toArray listed=[i]:=by kernel_rfl):OZ Z C fi l.toArray Q (fuel+1) listed ρ η:=Zcj hr (.a k hi hg)
theorem ZbD {dst:Option Tmp} (i:Nat) (k:OL C l.toArray (QZ Z false C fi l.toArray Q fuel (listed.setIfInBounds i true)) [⟨dst,op,T,pos,af,none⟩] ρ η) (hi:l[i]?=some ⟨dst,op,T,pos,af,g⟩:=by with_unfolding_all exact rfl) (hg:GB l.toArray ρ g true:=by first|with_unfolding_all exact rfl|with_unfolding_all exact ⟨_,_,rfl,rfl,rfl⟩) (hM:fi≤i:=by exact Nat.le_of_ble_eq_true rfl) (hr:Region.ready .any l.toArray listed=[i]:=by kernel_rfl):OZ Z C fi l.toArray Q (fuel+1) listed ρ η:=Zcj hr (.w k hi hg hM)
theorem ZaI (h:OZ Z C fi ops Q fuel listed ρ η) (hz:ZOK C.n η Z:=by repeat' (first|with_unfolding_all exact trivial|with_unfolding_all refine And.intro ⟨_,_,rfl,rfl⟩ (And.intro rfl ?_))):TX C (QZ Z true C fi ops Q fuel listed) .normal ρ η:=fun a w hA=>by
 obtain ⟨m,γ,ρc,hE,hR,hI⟩:=id hA;exact ⟨fun _=>Yqg.of hI (C.hn ▸ hz),h a w hA⟩
theorem ZbE (h:OZ Z C fi ops Q fuel listed ρ η):TX C (QZ Z false C fi ops Q fuel listed) .normal ρ η:=fun a w hA=>⟨nofun,h a w hA⟩
theorem ZbQ (t:Nat) {p:Prop} [Decidable p] (h1:p→OZ Z C fi ops Q fuel listed ((t,bool true)::ρ) η) (h2:¬p→OZ Z C fi ops Q fuel listed ((t,bool false)::ρ) η) (hl:lk ρ t=some (.raw (.bool (decide p))):=by with_unfolding_all exact rfl):OZ Z C fi ops Q fuel listed ρ η:=by
 intro a w hA;by_cases h:p
 ·exact h1 h a w (hA.know hl fun m w γ v hr=>by simpa [h] using hr)
 ·exact h2 h a w (hA.know hl fun m w γ v hr=>by simpa [h] using hr)
end
end Go.V
