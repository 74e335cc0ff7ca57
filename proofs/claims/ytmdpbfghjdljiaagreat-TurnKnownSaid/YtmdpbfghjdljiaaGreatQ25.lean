/- Part 25 of what the claim is proved by: lemmas on the model and walks through functions of the program; no conditions. -/
import Derived.Shelf.Sort.Plain
import Derived.Shelf.Slices.CompactI
import Derived.Shelf.Slices.In.SortNone
import Derived.Shelf.Spec.SlicesGrow
import Derived.Test.YtmdpbfghjdljiaaGreatProg
import Derived.Test.YtmdpbfghjdljiaaGreatQ24
import Derived.Test.YtmdpbfghjdljiaaGreatQ15
import Derived.Test.YtmdpbfghjdljiaaGreatQ17
import Derived.Test.YtmdpbfghjdljiaaGreatQ19
import Derived.Test.YtmdpbfghjdljiaaGreatQ22
import Derived.Test.YtmdpbfghjdljiaaGreatQ16
import Derived.Test.YtmdpbfghjdljiaaGreatQ13
namespace Go.Proofs
open Go.Shelf
def Tryz.lays189_ren:Go.Shelf.Ren:=⟨fun|189=>126|125=>167|257=>166|128=>222|129=>223|294=>213|295=>214|296=>215|297=>216|298=>217|299=>218|216=>219|300=>220|301=>221|328=>242|329=>243|330=>244|331=>245|332=>246|215=>247|343=>257|n=>n,fun|28=>36|3=>3|46=>237|0=>0|51=>294|53=>279|4=>4|183=>287|182=>286|131=>270|5=>5|9=>9|218=>310|222=>314|228=>325|229=>326|n=>n,fun|n=>n⟩
theorem Tryz.lays189:Go.Proofs.Lays.n189 Tryz.prog Tryz.lays189_ren:={
 mixed:=by kernel_rfl
 f125:=Tryz.func167.trans (congrArg some (by kernel_rfl))
 f128:=Tryz.func222.trans (congrArg some (by kernel_rfl))
 f129:=Tryz.func223.trans (congrArg some (by kernel_rfl))
 f189:=Tryz.func126.trans (congrArg some (by kernel_rfl))
 f215:=Tryz.func247.trans (congrArg some (by kernel_rfl))
 f216:=Tryz.func219.trans (congrArg some (by kernel_rfl))
 f257:=Tryz.func166.trans (congrArg some (by kernel_rfl))
 f294:=Tryz.func213.trans (congrArg some (by kernel_rfl))
 f295:=Tryz.func214.trans (congrArg some (by kernel_rfl))
 f296:=Tryz.func215.trans (congrArg some (by kernel_rfl))
 f297:=Tryz.func216.trans (congrArg some (by kernel_rfl))
 f298:=Tryz.func217.trans (congrArg some (by kernel_rfl))
 f299:=Tryz.func218.trans (congrArg some (by kernel_rfl))
 f300:=Tryz.func220.trans (congrArg some (by kernel_rfl))
 f301:=Tryz.func221.trans (congrArg some (by kernel_rfl))
 f328:=Tryz.func242.trans (congrArg some (by kernel_rfl))
 f329:=Tryz.func243.trans (congrArg some (by kernel_rfl))
 f330:=Tryz.func244.trans (congrArg some (by kernel_rfl))
 f331:=Tryz.func245.trans (congrArg some (by kernel_rfl))
 f332:=Tryz.func246.trans (congrArg some (by kernel_rfl))
 f343:=Tryz.func257.trans (congrArg some (by kernel_rfl))
 t0:=Tryz.underlying0
 a0:=Tryz.isAgg0
 z0:=Tryz.sizeOf0
 v0:=Tryz.zeroValue0
 t3:=Tryz.underlying3
 a3:=Tryz.isAgg3
 z3:=Tryz.sizeOf3
 v3:=Tryz.zeroValue3
 t4:=Tryz.underlying4
 a4:=Tryz.isAgg4
 z4:=Tryz.sizeOf4
 v4:=Tryz.zeroValue4
 t5:=Tryz.underlying5
 a5:=Tryz.isAgg5
 z5:=Tryz.sizeOf5
 v5:=Tryz.zeroValue5
 t9:=Tryz.underlying9
 a9:=Tryz.isAgg9
 z9:=Tryz.sizeOf9
 v9:=Tryz.zeroValue9
 t28:=Tryz.underlying36
 a28:=Tryz.isAgg36
 z28:=Tryz.sizeOf36
 v28:=Tryz.zeroValue36
 t46:=Tryz.underlying237
 a46:=Tryz.isAgg237
 z46:=Tryz.sizeOf237
 v46:=Tryz.zeroValue237
 t51:=Tryz.underlying294
 a51:=Tryz.isAgg294
 z51:=Tryz.sizeOf294
 v51:=Tryz.zeroValue294
 t53:=Tryz.underlying279
 a53:=Tryz.isAgg279
 z53:=Tryz.sizeOf279
 v53:=Tryz.zeroValue279
 t131:=Tryz.underlying270
 a131:=Tryz.isAgg270
 z131:=Tryz.sizeOf270
 v131:=Tryz.zeroValue270
 t182:=Tryz.underlying286
 a182:=Tryz.isAgg286
 z182:=Tryz.sizeOf286
 v182:=Tryz.zeroValue286
 t183:=Tryz.underlying287
 a183:=Tryz.isAgg287
 z183:=Tryz.sizeOf287
 v183:=Tryz.zeroValue287
 t218:=Tryz.underlying310
 a218:=Tryz.isAgg310
 z218:=Tryz.sizeOf310
 v218:=Tryz.zeroValue310
 t222:=Tryz.underlying314
 a222:=Tryz.isAgg314
 z222:=Tryz.sizeOf314
 v222:=Tryz.zeroValue314
 t228:=Tryz.underlying325
 a228:=Tryz.isAgg325
 z228:=Tryz.sizeOf325
 v228:=Tryz.zeroValue325
 t229:=Tryz.underlying326
 a229:=Tryz.isAgg326
 z229:=Tryz.sizeOf326
 v229:=Tryz.zeroValue326 }
open Go.Sort Go.RowKit in
theorem Tryz.slices_Sort_int (blk off cap:Nat) (zs:List Int) (w:World) (hH:Holds (Value.int .i64) w blk off zs.toArray) (hblk:blk < w.heap.size) (hsz:zs.length < 4611686018427387904) :
  Calls Tryz.prog 126 #[.slice (some ⟨blk,off,none⟩) zs.length cap] w fun e w' =>
   e=.returned (.tuple #[])∧∃ n os,w'=grow (putRow (Value.int .i64) (Sort.ahead w n) blk off (zs.mergeSort fun x y=>decide (x≤y)).toArray) os:=Any.slices_Sort_int Tryz.lays189 blk off cap zs w hH hblk hsz
def Tryz.laysNm220_ren:Go.Shelf.Ren:=⟨fun|20=>164|n=>n,fun|22=>36|3=>3|4=>4|0=>0|n=>n,fun|n=>n⟩
theorem Tryz.laysNm220:Go.Proofs.Lays2.n20 Tryz.prog Tryz.laysNm220_ren:={
 mixed:=by kernel_rfl
 f20:=Tryz.func164.trans (congrArg some (by kernel_rfl))
 t0:=Tryz.underlying0
 a0:=Tryz.isAgg0
 z0:=Tryz.sizeOf0
 v0:=Tryz.zeroValue0
 t3:=Tryz.underlying3
 a3:=Tryz.isAgg3
 z3:=Tryz.sizeOf3
 v3:=Tryz.zeroValue3
 t4:=Tryz.underlying4
 a4:=Tryz.isAgg4
 z4:=Tryz.sizeOf4
 v4:=Tryz.zeroValue4
 t22:=Tryz.underlying36
 a22:=Tryz.isAgg36
 z22:=Tryz.sizeOf36
 v22:=Tryz.zeroValue36
 i3:=by kernel_rfl }
open Go.RowKit Go.Lib Go.Sort in
theorem Tryz.slices_Compact_int (blk off cap:Nat) (zs:List Int) (w:World) (hH:Holds (Value.int .i64) w blk off zs.toArray) (hsz:zs.length≤9223372036854775807) (hcap:zs.length≤cap) :
  Calls Tryz.prog 164 #[.slice (some ⟨blk,off,none⟩) zs.length cap] w fun e w'=>e=.returned (.slice (some ⟨blk,off,none⟩) (Lib.compact zs).length cap)∧∃ q,w'=putRow (Value.int .i64) (Sort.ahead w q) blk off (Lib.compact zs++List.replicate (zs.length-(Lib.compact zs).length) 0).toArray:=Any.slices_Compact_int Tryz.laysNm220 blk off cap zs w hH hsz hcap
open Go.RowKit Go.Lib Go.Sort in
theorem Tryz.slices_Compact_int_empty (a:Option Addr) (cap:Nat) (w:World) :
  Calls Tryz.prog 164 #[.slice a 0 cap] w fun e w'=>e=.returned (.slice a 0 cap)∧w'=w:=Any.slices_Compact_int_empty Tryz.laysNm220 a cap w
open Go.RowKit Go.Sort in
theorem Tryz.slices_Sort_int_none (p:Option Addr) (cap:Nat) (w:World) :
  Calls Tryz.prog 126 #[.slice p 0 cap] w fun e w'=>e=.returned (.tuple #[])∧w'=w:=Any.slices_Sort_int_none Tryz.lays189 p cap w
def Tryz.growI_ren:Go.Shelf.Ren:=⟨fun|4=>165|n=>n,fun|22=>36|25=>3|3=>3|4=>4|9=>9|20=>20|0=>0|n=>n,fun|n=>n⟩
theorem Tryz.growI:Go.Proofs.Lays8.n4 Tryz.prog Tryz.growI_ren:={
 mixed:=by kernel_rfl
 f4:=⟨Tryz.f165.name,by decide,Tryz.func165.trans (congrArg some (by kernel_rfl))⟩
 t0:=Tryz.underlying0
 a0:=Tryz.isAgg0
 z0:=Tryz.sizeOf0
 v0:=Tryz.zeroValue0
 t3:=Tryz.underlying3
 a3:=Tryz.isAgg3
 z3:=Tryz.sizeOf3
 v3:=Tryz.zeroValue3
 t4:=Tryz.underlying4
 a4:=Tryz.isAgg4
 z4:=Tryz.sizeOf4
 v4:=Tryz.zeroValue4
 t9:=Tryz.underlying9
 a9:=Tryz.isAgg9
 z9:=Tryz.sizeOf9
 v9:=Tryz.zeroValue9
 t20:=Tryz.underlying20
 a20:=Tryz.isAgg20
 z20:=Tryz.sizeOf20
 v20:=Tryz.zeroValue20
 t22:=Tryz.underlying36
 a22:=Tryz.isAgg36
 z22:=Tryz.sizeOf36
 v22:=Tryz.zeroValue36 }
end Go.Proofs
namespace Go.V
open Go Go.W
theorem LE.seq {τ} {P:Program} {f:Nat} {fn:Func} {caps:List AV} {α:Type} {ar:α→List AV} {L:List α} (hf:P.funcs[f]?=some fn) (hs:∀ m w vs,VL m w [] vs caps→SeqV P f vs.toArray ar L m w) (hc:caps.all pureA=true:=by with_unfolding_all exact rfl)
  (hb : (fn.body.isNone || fn.name == "runtime.NumGoroutine") = false := by with_unfolding_all exact rfl) : LE τ (.fn (.func f) [] caps) (.pr (SeqMP P ar L)) := by
 intro m w γ γ' _ v hr
 cases hr with
 | @fn _ _ fv cv _ _ l1 l2 h1 h2 =>
   obtain rfl:fv=[]:=List.length_eq_zero_iff.1 l1
   exact .pr ⟨f,cv.toArray,fn,rfl,hf,hb,hs m w cv (VL.of l2 fun j v c a b=>pureA_rep (h2 j v c a b) (List.all_eq_true.1 hc c (List.mem_of_getElem? b)))⟩
section
variable {C:Cx} {Q:Qt} {ρ ρ2:Ro} {η η2:Eta} {e:Exit}
theorem TX.frzA {E:Nat} {cs:List AV} (i:Nat) (k:TX C Q e ρ2 η2) (ho:η[i]?=some (.cb E cs):=by with_unfolding_all exact rfl) (hp:cs.all pureA=true:=by with_unfolding_all exact rfl) (hρ:sbr i cs ρ=ρ2:=by (try dsimp only [sbr,sbp,sb0,List.map,Nat.beq,Nat.add_zero,Nat.zero_add,Nat.reduceAdd,cond_true,cond_false])<;>exact rfl) (hη:η.set i .dead=η2:=by (try dsimp only [List.set])<;>exact rfl):TX C Q e ρ η:=by
 subst hρ hη;exact TX.wk (Wk.frzA ho hp) k
end
theorem At.mono {P:Program} {α:Type} {ar:α→List AV} {L:List α} {I:It P ar L} {K K':(Nat→Nat)→World→Prop} {ds B} (h:At I K ds B) (hk:∀ m w,K m w→K' m w) (hs:∀ m w m' w',K' m w→StepOK I.W.heap.size m w m' w'→K' m' w'):At I K' ds B:=
 ⟨h.ext,h.noS,h.noγ,hs,hk _ _ h.holds,h.marks,h.nodup⟩
end Go.V
namespace Go.Proofs
open Go Go.W Go.V
end Go.Proofs
namespace Go.Proofs
open Go Go.W Go.V
def sortI (l:List Int):List Int:=l.mergeSort fun x y=>decide (x≤y)
theorem sortI_perm (l:List Int):(sortI l).Perm l:=List.mergeSort_perm l _
theorem sortI_len (l:List Int):(sortI l).length=l.length:=(sortI_perm l).length_eq
theorem sortI_sorted (l:List Int):(sortI l).Pairwise (·≤·):=by
 have:=List.pairwise_mergeSort (le:=fun x y:Int=>decide (x≤y)) (fun a b c h1 h2=>by simp at h1 h2 ⊢;omega) (fun a b=>by simp;omega) l
 exact this.imp (fun h=>by simpa using h)
theorem s_slices_Sort (l:List Int) (hl:l.length*8≤140737488355328):V.Spec Tryz.prog 126 [.hs 0] [.gs false Tc.int 1 none (l.map V.int)] (.tp []) [.gs false Tc.int 1 none ((sortI l).map V.int)]:=
 spec_inplace (sortI_len l) (fun g cap w hH hb=>Tryz.slices_Sort_int g 0 cap l w hH hb (by omega)) (fun hl p cap w=>by subst hl;exact Tryz.slices_Sort_int_none p cap w)
theorem s_slices_Compact (l:List Int) (hl:l.length*8≤140737488355328):V.Spec Tryz.prog 164 [.hs 0] [.gs false Tc.int 1 none (l.map V.int)] (.hs 1) [.dead,.gs false Tc.int 1 none ((Lib.compact l).map V.int)]:=by
 have hc:(Lib.compact l).length≤l.length:=by
  rw [Lib.compact,Lib.compactUpTo,List.length_map]
  have:=List.length_filter_le (Lib.keeps l.toArray) (List.range l.length)
  simpa using this
 exact spec_cutplace (l2:=Lib.compact l++List.replicate (l.length-(Lib.compact l).length) 0) (by simp;omega) ⟨_,rfl⟩ (fun g cap w hH hcap=>(Tryz.slices_Compact_int g 0 cap l w hH (by omega) hcap).mono fun e w' ⟨h1,q,h2⟩=>⟨h1,q,#[],by rw [Sort.grow_empty];exact h2⟩) (fun hl p cap w=>by subst hl;exact Tryz.slices_Compact_int_empty p cap w)
theorem compact_nodup {s:List Int} (hs:s.Pairwise (·≤·)):(Lib.compact s).length=s.length↔s.Nodup:=by
 constructor
 ·intro h
  have hall:∀ j,j < s.length→Lib.keeps s.toArray j=true:=by
   rw [Lib.compact,Lib.compactUpTo,List.length_map] at h
   have h2:((List.range s.length).filter (Lib.keeps s.toArray)).length=(List.range s.length).length:=by simpa using h
   rw [List.length_filter_eq_length_iff] at h2
   exact fun j hj=>h2 j (List.mem_range.2 hj)
  have hne:∀ j (h0:0 < j) (hj:j < s.length),s[j]≠s[j-1]:=fun j h0 hj e=>by
   have:=hall j hj
   rw [Lib.keeps_neg h0 (by simp [hj,show j-1 < s.length by omega,e])] at this
   cases this
  rw [List.Nodup,List.pairwise_iff_getElem]
  intro i j hi hj hij
  have h1:=hne j (by omega) hj
  have h2:s[j-1]≤s[j]:=List.pairwise_iff_getElem.1 hs (j-1) j (by omega) hj (by omega)
  have h3:s[i]≤s[j-1]:=by
   by_cases e:i=j-1
   ·subst e;exact Int.le_refl _
   ·exact List.pairwise_iff_getElem.1 hs i (j-1) hi (by omega) (by omega)
  omega
 ·intro h
  rw [Lib.compact_all]
  intro j hj
  by_cases h0:j=0
  ·subst h0;exact Lib.keeps_lt_one _ 0 (by omega)
  ·refine Lib.keeps_pos ?_
   have:s[j]≠s[j-1]:=fun e=>by
    have:=(List.getElem_inj h).1 e
    omega
   simpa [hj,show j-1 < s.length by omega] using this
structure VaS where
 k:Nat
 B:Base
 hB:B.γ.length=0
abbrev oneJ:Int→List AV:=fun x=>[V.int x]
theorem s_slices_Values_1 (l:List Int) (hl:l.length*8≤140737488355328) (m:Nat→Nat) (w:World) (vs:List Value) (hv:VL m w [] vs [.ep [ints l] 0]):SeqV Tryz.prog 212 vs.toArray oneJ l m w:=by
 refine SeqV.enter hv Tryz.tabOK Tryz.mixed Tryz.func212 rfl rfl rfl fun I B hB hA=>?_
 refine goy ?_
 refine TC.loopC (S:=VaS) (fun s=>⟨Tryz.prog,Tryz.tab,Tryz.tabOK,Tryz.mixed,16,[],s.B,0,s.hB,some none,0⟩) (fun s=>[(0,.raw (.func (.yield I.l) #[] #[])),(5,ints l),(6,V.int l.length),(7,V.int s.k)]) (fun _=>[])
  (fun s=>s.k≤l.length∧At I (I.J (l.take s.k)) [] s.B) (fun s=>l.length-s.k) ⟨0,B,hB⟩ ⟨Nat.zero_le _,hA⟩ rfl (fun _ _=>rfl) [] rfl rfl ?_ ?_ ?_
 ·with_unfolding_all exact trivial
 ·repeat' (first|with_unfolding_all exact trivial|exact LE.ren (by with_unfolding_all exact rfl)|with_unfolding_all refine And.intro ⟨_,by with_unfolding_all exact rfl,?_⟩ ?_)
 rintro ⟨k,B2,hB2⟩ ⟨hk,hA2⟩
 dsimp only at hk hA2 ⊢
 by_cases hkl:k < l.length
 ·have hts:=take_succ hkl
  have hpre:∃ r,l.take k++l[k]::r=l:=⟨l.drop (k+1),by rw [← drop_cons hkl,List.take_append_drop]⟩
  refine goy ?_
  refine OL.yield (pre:=l.take k) (y:=l[k]) hA2 hpre (fun B1 hB1 hA1 _ _=>?_) (fun B1 hB1 hA1 _ _=>?_)
  ·refine goy ?_
   exact TX.rdC ⟨k+1,B1,hB1⟩ [] ⟨by dsimp only;omega,by dsimp only;rw [hts];exact hA1⟩ (by dsimp only;omega)
  ·refine goy ?_
   exact TX.rtIt (ds:=[]) hA1 (fun m w h=>.inr ⟨_,h⟩)
 ·rw [take_all (by omega)] at hA2
  refine goy ?_
  refine TX.endM ?_
  exact TX.rtIt (ds:=[]) hA2 (fun m w h=>.inl h)
theorem s_slices_Values (l:List Int) (hl:l.length*8≤140737488355328):V.Spec Tryz.prog 163 [ints l] [] (.pr (SeqMP Tryz.prog oneJ l)) []:=by
 refine V.Spec.enter Tryz.tabOK Tryz.mixed Tryz.func163 rfl rfl rfl fun B hB=>?_
 refine go ?_
 refine TX.frzA 0 ?_
 exact TX.rt1 [] (LE.seq Tryz.func212 (s_slices_Values_1 l hl))
set_option maxHeartbeats 1000000 in
theorem s_slices_AppendSeq (L:List Int) (hL:L.length*8≤140737488355328):V.Spec Tryz.prog 241 [.raw (.slice none 0 0),.pr (SeqMP Tryz.prog oneJ L)] [] (.hs 0) [.gs false Tc.int 1 none (L.map V.int)]:=by
 refine Spec.enterM Tryz.tabOK Tryz.mixed Tryz.func241 rfl rfl rfl fun B hB=>?_
 refine go ?_
 refine TC.adpC 0 0 Tc.int 1 ?_
 refine TC.rfV (u:=V.int) [(2,.bp 0 0)] (fun pre=>[.cb Tc.Lint [.hs 1],.gs false Tc.int 1 none (pre.map V.int)]) 1 [0,1] rfl rfl rfl (fun _=>rfl) rfl rfl ?_ ?_ ?_ (Nat.zero_le _) (by simp) rfl rfl (fun pre x Bx hBx l hx=>?_) (fun B3 hB3 D hM=>?_)
 ·with_unfolding_all exact ⟨⟨_,rfl,OE.ren rfl⟩,⟨_,rfl,OE.gs⟩,trivial⟩
 ·with_unfolding_all exact ⟨⟨_,rfl,LE.ren rfl⟩,trivial⟩
 ·with_unfolding_all exact ⟨⟨_,rfl,LE.ren rfl⟩,trivial⟩
 ·have hpl:(pre.length+1)*8≤140737488355328:=by
   obtain ⟨r,hr⟩:=hx
   rw [← hr] at hL
   simp at hL;omega
  have e:pre.map V.int++[V.int x]=(pre++[x]).map V.int:=by simp
  dsimp only
  refine goy ?_
  exact TX.rq [0,3] (by repeat' (first|with_unfolding_all exact trivial|exact OE.gsS e|exact OE.ren (by with_unfolding_all exact rfl)|with_unfolding_all refine And.intro ⟨_,by with_unfolding_all exact rfl,?_⟩ ?_))
 ·refine goy ?_
  exact TX.rsM hM hB [1] (.ren rfl)
theorem s_slices_Collect (L:List Int) (hL:L.length*8≤140737488355328):V.Spec Tryz.prog 211 [.pr (SeqMP Tryz.prog oneJ L)] [] (.hs 0) [.gs false Tc.int 1 none (L.map V.int)]:=by
 have h:=s_slices_AppendSeq L hL
 refine V.Spec.enter Tryz.tabOK Tryz.mixed Tryz.func211 rfl rfl rfl fun B hB=>?_
 refine go ?_
 refine OL.c h Tryz.func241 ?_
 refine go ?_
 exact TX.rt1 [0] (.ren rfl)
theorem s_slices_Sorted (L:List Int) (hL:L.length*8≤140737488355328):V.Spec Tryz.prog 162 [.pr (SeqMP Tryz.prog oneJ L)] [] (.hs 0) [.gs false Tc.int 1 none ((sortI L).map V.int)]:=by
 have h:=s_slices_Collect L hL
 have h2:=s_slices_Sort L hL
 refine V.Spec.enter Tryz.tabOK Tryz.mixed Tryz.func162 rfl rfl rfl fun B hB=>?_
 refine go ?_
 refine OL.c h Tryz.func211 ?_
 refine go ?_
 refine OL.ch [0] h2 Tryz.func126 ?_
 refine go ?_
 exact TX.rt1 [0] (.ren rfl)
theorem clone_own (l:List Int) (hb:l.length*8≤140737488355328):V.Spec Tryz.prog 112 [ints l] [] (.hs 0) [.gs false Tc.int 1 none (l.map V.int)]:=by
 refine V.Spec.enter Tryz.tabOK Tryz.mixed Tryz.func112 rfl rfl rfl fun B hB=>?_
 refine go ?_
 refine OL.isNil (fun h=>?_) ?_
 ·refine go ?_
  have e:[]=l.map V.int:=h.symm
  refine TX.adp 2 Tc.int 1 ?_
  exact TX.rt1 [0] (.ren rfl)
 ·refine go ?_
  exact TX.rt1 [1] (.ren rfl)
theorem s_turn_once (l:List Int) (hl:l.length*8≤140737488355328):V.Spec Tryz.prog 121 [ints l] [] (V.bool (decide l.Nodup)) []:=by
 have h1:=s_slices_Values l hl
 have h2:=s_slices_Sorted l hl
 have hsl:=sortI_len l
 have h3:=clone_own (sortI l) (by omega)
 have h4:=s_slices_Compact (sortI l) (by omega)
 have h5:=compact_nodup (sortI_sorted l)
 rw [(sortI_perm l).nodup_iff] at h5
 generalize sortI l=s at *
 generalize Lib.compact s=c at *
 refine V.Spec.enter Tryz.tabOK Tryz.mixed Tryz.func121 rfl rfl rfl fun B hB=>?_
 refine go ?_
 refine OL.c h1 Tryz.func163 ?_
 refine go ?_
 refine OL.c h2 Tryz.func162 ?_
 refine go ?_
 refine OL.vw 6 ?_
 refine OL.c h3 Tryz.func112 ?_
 refine go ?_
 refine OL.ch [1] h4 Tryz.func164 ?_
 refine go ?_
 refine TX.rt1 [] (.bool ?_)
 rw [decide_eq_decide,← h5]
 omega
end Go.Proofs
namespace Go.Proofs
open Go Go.W Go.V
end Go.Proofs
namespace Go.Proofs
open Go Go.W Go.V
end Go.Proofs
namespace Go.Proofs
open Go Go.W Go.V
/-! ### The reference -/
/-! ### The program -/
theorem s_line_Check (g:List (List Int)):V.Spec Tryz.prog 119 [rows g] [] (V.int (if fine g then 0 else 2)) []:=by
 refine V.Spec.enter Tryz.tabOK Tryz.mixed Tryz.func119 rfl rfl rfl fun B hB=>?_
 repeat' (with_reducible first|refine OL.st ?_|refine TC.region ?_|refine TC.seq ?_|refine OL.nil ?_|refine TX.thenN ?_|fail)
 refine OL.c (s_line_fine g) Tryz.func160 ?_
 cases hf:fine g
 all_goals repeat' (with_reducible first|refine OL.st ?_|refine TC.region ?_|refine TC.seq ?_|refine OL.nil ?_|refine TX.thenN ?_|refine TC.skip ?_|refine TC.ifT ?_|refine TC.ifF ?_|refine TC.ret ?_|refine TX.thenR ?_|fail)
 all_goals exact TX.rt1 [] (.ren rfl)
end Go.Proofs
namespace Go.Proofs
open Go Go.W Go.V
/-! ### Where a number stands -/
/-! ### The search for rings -/
def nextB (rel:Int→Int→Bool) (b:List Int) (c:Int):Bool:=b.length==0 || (!b.contains c&&rel (lastI b) c)
def Chain (rel:Int→Int→Bool) (l:List Int):Prop:=l.Nodup∧∀ (i:Nat) (h:i+1 < l.length),rel l[i] l[i+1]=true
theorem Chain.nil (rel):Chain rel []:=⟨List.nodup_nil,fun i h=>by simp at h⟩
theorem lastI_get {b:List Int} (h:0 < b.length):lastI b=b[b.length-1]:=by rw [lastI,getD_lt (by omega)]
theorem Chain.snoc {rel} {b:List Int} {c:Int} (h:Chain rel b) (hn:nextB rel b c=true):Chain rel (b++[c]):=by
 simp only [nextB,Bool.or_eq_true,beq_iff_eq,Bool.and_eq_true,Bool.not_eq_true',List.length_eq_zero_iff] at hn
 rcases hn with rfl|⟨h1,h2⟩
 ·exact ⟨by simp,fun i h=>by simp at h⟩
 ·have hc:c ∉ b:=by
   intro hm;rw [← List.contains_iff_mem] at hm;rw [hm] at h1;cases h1
  refine ⟨List.nodup_append.2 ⟨h.1,by simp,fun a ha b' hb' e=>?_⟩,fun i hi=>?_⟩
  ·simp at hb';subst e hb';exact hc ha
  ·simp at hi
   by_cases e:i+1 < b.length
   ·rw [List.getElem_append_left (by omega),List.getElem_append_left e];exact h.2 i e
   ·have e1:i=b.length-1:=by omega
    rw [List.getElem_append_left (by omega),List.getElem_append_right (by omega)]
    rw [lastI_get (by omega)] at h2
    simpa [e1] using h2
end Go.Proofs
namespace Go.Proofs
open Go Go.W Go.V
/-! ### One class ahead of another one -/
/-! ### Merges -/
theorem without_not {l:List Int} {n:Int} (h:n ∉ l):without l n=l:=by
 rw [without,List.filter_eq_self]
 intro x hx;rw [bne_iff_ne];intro e;subst e;exact h hx
theorem anyNE_false {all:List (List Int)}:anyNE all=false↔∀ m∈all,m=[]:=by
 rw [anyNE,List.any_eq_false]
 constructor
 ·intro h m hm;have:=h m hm;simpa using this
 ·intro h m hm;rw [h m hm];simp
theorem free_cons {all:List (List Int)} {h:Int} (hf:free all h=true) {m:List Int} (hm:m∈all) (hh:h∈m):∃ t,m=h::t∧h ∉ t:=by
 rw [free,List.all_eq_true] at hf
 have:=hf m hm
 match m,hh with
 | x::t,hh =>
   have h1:h ∉ t:=by simpa using this
   have:h=x:=by rcases List.mem_cons.1 hh with e|e;exact e;exact absurd e h1
   subst this
   exact ⟨t,rfl,h1⟩
theorem mergeF_sub:∀ (n:Nat) (all:List (List Int)) (out:List Int),total all≤n→(mergeF n all out).2=true→∃ e,(mergeF n all out).1=out++e∧e.Nodup∧(∀ m∈all,m.Sublist e)∧∀ x∈e,∃ m∈all,x∈m
 | 0,all,out,hn,h=>by
   rw [mergeF] at h ⊢
   have h0:anyNE all=false:=by simpa using h
   exact ⟨[],by simp,by simp,fun m hm=>by rw [anyNE_false.1 h0 m hm];exact List.Sublist.refl _,by simp⟩
 | n+1,all,out,hn,h=>by
   rw [mergeF] at h ⊢
   cases hx:nextOf all all with
   | none =>
     rw [hx] at h
     have h0:anyNE all=false:=by simpa using h
     exact ⟨[],by simp,by simp,fun m hm=>by rw [anyNE_false.1 h0 m hm];exact List.Sublist.refl _,by simp⟩
   | some x =>
     rw [hx] at h
     obtain ⟨t,ht,hf⟩:=nextOf_mem all all x hx
     have hlt:=total_without_lt all x t ht
     dsimp only at h ⊢
     obtain ⟨e,e1,e2,e3,e4⟩:=mergeF_sub n _ _ (by omega) h
     have hxe:x ∉ e:=fun hx=>by
      obtain ⟨m,hm,hxm⟩:=e4 x hx
      obtain ⟨l,_,rfl⟩:=List.mem_map.1 hm
      exact (mem_without.1 hxm).2 rfl
     refine ⟨x::e,by rw [e1];simp,List.nodup_cons.2 ⟨hxe,e2⟩,fun m hm=>?_,fun y hy=>?_⟩
     ·have hs:=e3 _ (List.mem_map_of_mem (f:=(without · x)) hm)
      by_cases hxm:x∈m
      ·obtain ⟨r,rfl,hr⟩:=free_cons hf hm hxm
       have:without (x::r) x=r:=by
        rw [show without (x::r) x=without r x by simp [without]];exact without_not hr
       rw [this] at hs
       exact hs.cons_cons _
      ·rw [without_not hxm] at hs
       exact hs.cons _
     ·rcases List.mem_cons.1 hy with rfl|hy
      ·exact ⟨_,ht,by simp⟩
      ·obtain ⟨m,hm,hxm⟩:=e4 y hy
       obtain ⟨l,hl,rfl⟩:=List.mem_map.1 hm
       exact ⟨l,hl,(mem_without.1 hxm).1⟩
theorem merge_keeps {all:List (List Int)} (h:(merge all).2=true):(merge all).1.Nodup∧(∀ m∈all,m.Sublist (merge all).1)∧∀ x,x∈(merge all).1↔∃ m∈all,x∈m:=by
 obtain ⟨e,e1,e2,e3,e4⟩:=mergeF_sub (total all) all [] (Nat.le_refl _) h
 rw [List.nil_append] at e1
 rw [merge,e1]
 exact ⟨e2,e3,fun x=>⟨e4 x,fun ⟨m,hm,hx⟩=>(e3 m hm).subset hx⟩⟩
theorem Chain.cons {rel} {b:List Int} {c:Int} (h:Chain rel b) (hc:c ∉ b) (h0:0 < b.length) (hr:rel c (b[0]'h0)=true):Chain rel (c::b):=by
 refine ⟨List.nodup_cons.2 ⟨hc,h.1⟩,fun i hi=>?_⟩
 cases i with
 | zero=>exact hr
 | succ i=>exact h.2 i (by simpa using hi)
theorem Chain.take {rel} {b:List Int} (h:Chain rel b) (k:Nat):Chain rel (b.take k):=by
 refine ⟨(List.take_sublist k b).nodup h.1,fun i hi=>?_⟩
 simp only [List.getElem_take]
 exact h.2 i (by simp at hi;omega)
/-! ### Linear orders -/
theorem ordersF_app:∀ (a b acc:List (List Int)),ordersF acc (a++b)=ordersF (ordersF acc a) b
 | [],b,acc=>rfl
 | p::a,b,acc=>by rw [List.cons_append,ordersF_cons,ordersF_cons,ordersF_app a b]
theorem ordersF_pre:∀ (r acc:List (List Int)),∃ t,ordersF acc r=acc++t∧t.length=r.length
 | [],acc=>⟨[],by simp [ordersF],rfl⟩
 | p::r,acc=>by
   obtain ⟨t,h1,h2⟩:=ordersF_pre r (acc++[orderOf acc p acc.length])
   exact ⟨orderOf acc p acc.length::t,by rw [ordersF_cons,h1];simp,by simp [h2]⟩
theorem at_app {acc t:List (List Int)} {p:Int} (h:p.toNat < acc.length):at_ (acc++t) p=at_ acc p:=by
 rw [at_,at_,List.getD_eq_getElem?_getD,List.getD_eq_getElem?_getD,List.getElem?_append_left h]
theorem listsOf_congr {a b:List (List Int)} {ps:List Int} (h:∀ p∈ps,at_ a p=at_ b p):listsOf a ps=listsOf b ps:=by
 have h1:(ps.all fun p=>!(at_ a p).isEmpty)=ps.all fun p=>!(at_ b p).isEmpty:=by
  rw [Bool.eq_iff_iff,List.all_eq_true,List.all_eq_true]
  exact ⟨fun q p hp=>by rw [← h p hp];exact q p hp,fun q p hp=>by rw [h p hp];exact q p hp⟩
 have h2:ps.map (fun p=>bare (at_ a p))=ps.map fun p=>bare (at_ b p):=List.map_congr_left fun p hp=>by rw [h p hp]
 rw [listsOf,listsOf,h1,h2]
theorem at_orders {g:List (List Int)} (hf:fine g=true) {c:Nat} (h1:1≤c) (hc:c < 3+g.length):at_ (orders g) c=orderOf (orders g) (pOf g c) c:=by
 have hd:=parentsOf_drop hc
 have hpl:=parentsOf_length g
 have hsp:(parentsOf g).drop 1=((parentsOf g).drop 1).take (c-1)++(pOf g c::(parentsOf g).drop (c+1)):=by
  rw [← hd]
  have:=(List.take_append_drop (c-1) ((parentsOf g).drop 1)).symm
  rw [List.drop_drop,show 1+(c-1)=c by omega] at this
  exact this
 obtain ⟨t,e,hlen⟩:=ordersF_pre (((parentsOf g).drop 1).take (c-1)) [[0]]
 have hl:(ordersF [[0]] (((parentsOf g).drop 1).take (c-1))).length=c:=by
  rw [e];simp [hlen];omega
 generalize hA:ordersF [[0]] (((parentsOf g).drop 1).take (c-1))=A at *
 have ho:orders g=ordersF (A++[orderOf A (pOf g c) c]) ((parentsOf g).drop (c+1)):=by
  rw [orders_start,hsp,ordersF_app]
  rw [hA,ordersF_cons,hl]
 obtain ⟨u,e2,_⟩:=ordersF_pre ((parentsOf g).drop (c+1)) (A++[orderOf A (pOf g c) c])
 rw [e2] at ho
 have hp:=(fine_pOf hf (c:=(c:Int)) (by omega)).2.1
 have hcg:listsOf A (pOf g c)=listsOf (orders g) (pOf g c):=listsOf_congr fun p hpm=>by
  have:=hp p hpm
  rw [ho,List.append_assoc,at_app (by omega)]
 have hoo:orderOf (orders g) (pOf g c) c=orderOf A (pOf g c) c:=by rw [orderOf,orderOf,hcg]
 rw [hoo,ho,at_app (by simp;omega),at_,Int.toNat_natCast,List.getD_eq_getElem?_getD,← hl]
 simp
end Go.Proofs
namespace Go.Proofs
open Go Go.W Go.V
theorem at_zero (g:List (List Int)):at_ (orders g) 0=[0]:=by
 obtain ⟨t,e,_⟩:=ordersF_pre ((parentsOf g).drop 1) [[0]]
 rw [orders_start,e];rfl
theorem ord_cons {g:List (List Int)} (hf:fine g=true) {c:Nat} (h1:1≤c) (hc:c < 3+g.length) (hne:at_ (orders g) c≠[]):∃ all,listsOf (orders g) (pOf g c)=some all∧(merge all).2=true∧at_ (orders g) c=(c:Int)::((merge all).1++[0]):=by
 rw [at_orders hf h1 hc,orderOf] at hne
 rw [at_orders hf h1 hc,orderOf]
 cases hl:listsOf (orders g) (pOf g c) with
 | none=>rw [hl] at hne;exact absurd rfl hne
 | some all =>
   rw [hl] at hne
   dsimp only at hne ⊢
   cases hm:(merge all).2 with
   | false=>rw [hm] at hne;simp at hne
   | true=>exact ⟨all,rfl,hm,by simp⟩
theorem listsOf_has {ords:List (List Int)} {ps:List Int} {all:List (List Int)} (h:listsOf ords ps=some all):∀ p∈ps,at_ ords p≠[]:=by
 rw [listsOf] at h
 split at h
 ·rename_i h1
  intro p hp
  have:=List.all_eq_true.1 h1 p hp
  simpa using this
 ·cases h
theorem ord_bare {g:List (List Int)} (hf:fine g=true) {c:Nat} (h1:1≤c) (hc:c < 3+g.length) (hne:at_ (orders g) c≠[]):at_ (orders g) c=bare (at_ (orders g) c)++[0]:=by
 obtain ⟨all,_,_,e⟩:=ord_cons hf h1 hc hne
 have hn:=((orders_ok hf).1.at c).1
 rw [e] at hn ⊢
 rw [← List.cons_append] at hn ⊢
 have h0:(0:Int) ∉ (c:Int)::(merge all).1:=fun h=>by
  rw [List.nodup_append] at hn
  exact hn.2.2 0 h 0 (by simp) rfl
 rw [bare,show without ((c:Int)::(merge all).1++[0]) 0=(c:Int)::(merge all).1 by
  have:=without_not h0
  rw [without] at this ⊢
  rw [List.filter_append,this];simp]
theorem ord_main {g:List (List Int)} (hf:fine g=true):∀ (n c:Nat),c < n→c < 3+g.length→at_ (orders g) c≠[] →
  (∀ x:Int,x∈at_ (orders g) c↔(0≤x∧x < 3+(g.length:Int))∧upHas g c x=true) ∧
  (∀ a:Int,(0≤a∧a < 3+(g.length:Int))→upHas g c a=true→at_ (orders g) a≠[]∧(at_ (orders g) a).Sublist (at_ (orders g) c))∧(pOf g c).Sublist (at_ (orders g) c):=by
 have h16:=fine_len hf
 intro n
 induction n with
 | zero=>intro c h;omega
 | succ n ih =>
   intro c hcn hc hne
   by_cases h0:c=0
   ·subst h0
    have hz:=at_zero g
    have hle:∀ x:Int,(0≤x∧x < 3+(g.length:Int))→upHas g (0:Nat) x=true→x=0:=fun x hx h=>by
     have:=upHas_le hf hc (b:=x) (by omega) (by omega) h;omega
    refine ⟨fun x=>?_,fun a ha h=>?_,?_⟩
    ·rw [show ((0:Nat):Int)=0 from rfl,hz,List.mem_singleton]
     constructor
     ·rintro rfl;exact ⟨by omega,upHas_zero hf (a:=0) (by omega)⟩
     ·rintro ⟨h1,h2⟩;exact hle x h1 h2
    ·rw [hle a ha h]
     rw [show ((0:Nat):Int)=0 from rfl] at hne ⊢
     exact ⟨hne,List.Sublist.refl _⟩
    ·rw [pOf_lt (by omega)];exact List.nil_sublist _
   ·have h1:1≤c:=by omega
    obtain ⟨all,hl,hm,e⟩:=ord_cons hf h1 hc hne
    have hps:=fine_pOf hf (c:=(c:Int)) (by omega)
    obtain ⟨k1,k2,k3⟩:=merge_keeps hm
    have hall:=listsOf_some hl
    have hhas:=listsOf_has hl
    have hpar:∀ p∈pOf g c,(∀ x:Int,x∈at_ (orders g) p↔(0≤x∧x < 3+(g.length:Int))∧upHas g p x=true) ∧
      (∀ a:Int,(0≤a∧a < 3+(g.length:Int))→upHas g p a=true→at_ (orders g) a≠[]∧(at_ (orders g) a).Sublist (at_ (orders g) p))∧at_ (orders g) p=bare (at_ (orders g) p)++[0]:=fun p hp=>by
     have hb:=hps.2.1 p hp
     obtain ⟨q,rfl⟩:∃ q:Nat,p=(q:Int):=⟨p.toNat,by omega⟩
     obtain ⟨a1,a2,_⟩:=ih q (by omega) (by omega) (hhas _ hp)
     exact ⟨a1,a2,ord_bare hf (by omega) (by omega) (hhas _ hp)⟩
    have hsubp:∀ p∈pOf g c,(at_ (orders g) p).Sublist (at_ (orders g) c):=fun p hp=>by
     have:=k2 (bare (at_ (orders g) p)) (by rw [hall];exact List.mem_append_left _ (List.mem_map_of_mem (f:=fun p=>bare (at_ (orders g) p)) hp))
     rw [(hpar p hp).2.2,e]
     exact (this.append_right [0]).cons _
    refine ⟨fun x=>?_,fun a ha h=>?_,?_⟩
    ·rw [e,List.mem_cons,List.mem_append,List.mem_singleton,k3]
     constructor
     ·intro h
      have hx:x=(c:Int)∨x=0∨∃ p∈pOf g c,(0≤x∧x < 3+(g.length:Int))∧upHas g p x=true:=by
       rcases h with h|⟨m,hm,hx⟩|h
       ·exact .inl h
       ·right;right
        rw [hall,List.mem_append,List.mem_map,List.mem_singleton] at hm
        rcases hm with ⟨p,hp,rfl⟩|rfl
        ·exact ⟨p,hp,((hpar p hp).1 x).1 (mem_without.1 hx).1⟩
        ·have:=hps.2.1 x hx
         obtain ⟨q,rfl⟩:∃ q:Nat,x=(q:Int):=⟨x.toNat,by omega⟩
         exact ⟨_,hx,by omega,upHas_self hf (by omega)⟩
       ·exact .inr (.inl h)
      have hxr:0≤x∧x < 3+(g.length:Int):=by
       rcases hx with h|h|⟨_,_,h,_⟩<;>omega
      refine ⟨hxr,?_⟩
      rw [upHas_step hf hc (by omega) (by omega)]
      simp only [Bool.or_eq_true,decide_eq_true_eq,List.any_eq_true]
      rcases hx with h|h|⟨p,hp,_,h⟩
      ·exact .inl (.inl h)
      ·exact .inl (.inr h)
      ·exact .inr ⟨p,hp,h⟩
     ·rintro ⟨hxr,h⟩
      rw [upHas_step hf hc (by omega) (by omega)] at h
      simp only [Bool.or_eq_true,decide_eq_true_eq,List.any_eq_true] at h
      rcases h with (h|h)|⟨p,hp,h⟩
      ·exact .inl h
      ·exact .inr (.inr h)
      ·by_cases hx0:x=0
       ·exact .inr (.inr hx0)
       ·exact .inr (.inl ⟨bare (at_ (orders g) p),by rw [hall];exact List.mem_append_left _ (List.mem_map_of_mem (f:=fun p=>bare (at_ (orders g) p)) hp),mem_without.2 ⟨((hpar p hp).1 x).2 ⟨hxr,h⟩,hx0⟩⟩)
    ·rw [upHas_step hf hc (by omega) (by omega)] at h
     simp only [Bool.or_eq_true,decide_eq_true_eq,List.any_eq_true] at h
     rcases h with (h|h)|⟨p,hp,h⟩
     ·subst h;exact ⟨hne,List.Sublist.refl _⟩
     ·subst h
      rw [at_zero,e]
      exact ⟨by simp,((List.sublist_append_right _ _).cons _)⟩
     ·obtain ⟨h2,h3⟩:=(hpar p hp).2.1 a ha h
      exact ⟨h2,h3.trans (hsubp p hp)⟩
    ·rw [e]
     have:=k2 (pOf g c) (by rw [hall];simp)
     exact ((this.trans (List.sublist_append_left _ _)).cons _)
/-! ### Within -/
end Go.Proofs
