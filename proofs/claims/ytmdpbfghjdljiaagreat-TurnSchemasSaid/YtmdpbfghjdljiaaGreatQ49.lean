/- Part 49 of what the claim is proved by: lemmas on the model and walks through functions of the program; no conditions. -/
import Derived.Test.YtmdpbfghjdljiaaGreatQ19
import Derived.Test.YtmdpbfghjdljiaaGreatQ46
import Derived.Test.YtmdpbfghjdljiaaGreatQ48
namespace Go.V
open Go Go.W Go.Proofs
section
variable {C:Cx} {ops:Array Oper} {Q:Qt} {ρ:Ro} {η:Eta} {rest:List Oper} {T d:Nat} {pos:String} {af:Array Edge} {args:List Operand} {at_:Array TypeId}
theorem OL.needB {b:Bool} (h1:b = true → OL C ops Q rest ((d,.tp []) :: ρ) η) (h2:b = false → TX C Q (.panic (pan upv)) ρ η) (hx:evs2 ρ args = some [V.bool b]:=by with_unfolding_all exact rfl) (hP:C.P = Tryz.prog:=by with_unfolding_all exact rfl) (hd:Nat.blt d C.N = true:=by with_unfolding_all exact rfl) :
  OL C ops Q (⟨some d,.call ⟨.value (.func 175),args.toArray,at_⟩,T,pos,af,none⟩ :: rest) ρ η:=by
 cases b
 ·exact OL.cX [] s_need_no Tryz.func175 (h2 rfl) (hP:=hP) (hl:=hx) (ho:=trivial) (hle:=⟨.ren rfl,trivial⟩) (hη:=by simp [upd])
 ·exact OL.c s_need_ok Tryz.func175 (h1 rfl) (hP:=hP) (hl:=hx) (hle:=⟨.ren rfl,trivial⟩) (hd:=hd) (hη:=by simp)
theorem OL.needT (k:OL C ops Q rest ((d,.tp []) :: ρ) η) (hx:evs2 ρ args = some [V.bool true]:=by with_unfolding_all exact rfl) (hP:C.P = Tryz.prog:=by with_unfolding_all exact rfl) (hd:Nat.blt d C.N = true:=by with_unfolding_all exact rfl) :
  OL C ops Q (⟨some d,.call ⟨.value (.func 175),args.toArray,at_⟩,T,pos,af,none⟩ :: rest) ρ η:=OL.needB (b:=true) (fun _=>k) (fun h=>by cases h) hx hP hd
theorem OL.needF (k:TX C Q (.panic (pan upv)) ρ η) (hx:evs2 ρ args = some [V.bool false]:=by with_unfolding_all exact rfl) (hP:C.P = Tryz.prog:=by with_unfolding_all exact rfl) (hd:Nat.blt d C.N = true:=by with_unfolding_all exact rfl) :
  OL C ops Q (⟨some d,.call ⟨.value (.func 175),args.toArray,at_⟩,T,pos,af,none⟩ :: rest) ρ η:=OL.needB (b:=false) (fun h=>by cases h) (fun _=>k) hx hP hd
theorem OL.needD {p:Prop} [Decidable p] (h1:p → OL C ops Q rest ((d,.tp []) :: ρ) η) (h2:¬ p → TX C Q (.panic (pan upv)) ρ η) (hx:evs2 ρ args = some [V.bool (decide p)]:=by with_unfolding_all exact rfl) (hP:C.P = Tryz.prog:=by with_unfolding_all exact rfl) (hd:Nat.blt d C.N = true:=by with_unfolding_all exact rfl) :
  OL C ops Q (⟨some d,.call ⟨.value (.func 175),args.toArray,at_⟩,T,pos,af,none⟩ :: rest) ρ η:=
 OL.needB (fun h=>h1 (of_decide_eq_true h)) (fun h=>h2 (of_decide_eq_false h)) hx hP hd
end
end Go.V
namespace Go.Proofs
open Go Go.W Go.V
abbrev esK (L:List Int):List (Int × AV):=L.map fun k=>(k,V.bool true)
theorem afind_esK (c:Int):∀ L:List Int,afind c (esK L) = if L.contains c then some (V.bool true) else none
 | []=>rfl
 | k :: r=>by
   rw [esK,List.map_cons,afind,List.contains_cons]
   cases h:c == k with
   | true=>simp
   | false =>
     simp only [Bool.false_eq_true,if_false,Bool.false_or]
     exact afind_esK c r
theorem aput_esK (k:Int):∀ L:List Int,aput k (V.bool true) (esK L) = esK (insK L k)
 | []=>rfl
 | x :: r=>by
   have ih:=aput_esK k r
   rw [esK,List.map_cons,aput]
   by_cases h:k = x
   ·subst h
    simp [insK]
   ·have hb:(k == x) = false:=by simpa using h
    rw [hb]
    simp only [Bool.false_eq_true,if_false]
    rw [show List.map (fun k=>(k,V.bool true)) r = esK r from rfl,ih,insK,insK,List.contains_cons,hb,Bool.false_or]
    split<;>simp [esK]
theorem hv_esK (L:List Int) (c:Int) (te:Value) (hte:te = .bool false):afind c (esK L) = some (V.bool (L.contains c)) ∨ (afind c (esK L) = none ∧ ∀ m w γ,Rep m w γ te (V.bool (L.contains c))):=by
 subst hte
 rw [afind_esK]
 cases L.contains c
 ·exact .inr ⟨rfl,fun _ _ _=>.raw rfl⟩
 ·exact .inl rfl
set_option maxHeartbeats 2000000 in
theorem s_bind_has (p:Prg) (hf:fine (graphOf p.cls) = true) (hcl:clsB 0 p.cls = true) {c:Nat} (h3:3 ≤ c) (hc:c < 3 + p.cls.length):V.Spec Tryz.prog 136 [prgA p,V.int c] [] (ints (hasL p.cls c)) []:=by
 have hgl:(graphOf p.cls).length = p.cls.length:=by simp [graphOf]
 have h16:=fine_len hf
 have hlen:=fun j hj=>hasRaw_len hcl hc j hj
 have hso:=s_slices_Sort (hasRaw p.cls c (c - 2)) (by have:=hlen (c - 2) (by omega); omega)
 rw [sort_hasRaw hf hcl h3 hc] at hso
 refine V.Spec.enter Tryz.tabOK Tryz.mixed Tryz.func136 rfl rfl rfl fun B hB=>?_
 refine goW ?_
 refine OL.frzB 2 ?_
 refine OL.mapIns ?_ rfl
 refine goW ?_
 refine TC.adp 6 Tc.int 1 ?_
 refine TC.lp (fun j:Nat=>[(2,.ep (prgC p) 0),(5,.mp 1),(6,.hs 2),(7,V.int ((c:Int) - j))]) (fun j=>[.dead,.mo (esK (upKeys (graphOf p.cls) c j)),.gs false Tc.int 1 none ((hasRaw p.cls c j).map V.int)]) (fun j=>j ≤ c - 2) (fun j=>c - 2 - j) 0 [0,1,2] (Nat.zero_le _) ?_ (hr:=⟨⟨_,rfl,LE.ren rfl⟩,⟨_,rfl,LE.ren rfl⟩,⟨_,rfl,LE.ren rfl⟩,⟨_,rfl,LE.int (by omega)⟩,trivial⟩)
 rintro j hj
 by_cases hjc:j < c - 2
 ·have hidx:((c:Int) - j - 3).toNat < p.cls.length:=by clear hlen hso; omega
  have hjl:=hlen j (by omega)
  have hk:=upKeys_has hf h3 (by omega) (show j ≤ c - 3 by omega)
  have hus:upKeys (graphOf p.cls) c (j + 1) = if (upKeys (graphOf p.cls) c j).contains ((c - j:Nat):Int) then (pOf (graphOf p.cls) ((c - j:Nat):Int)).foldl insK (upKeys (graphOf p.cls) c j) else upKeys (graphOf p.cls) c j:=rfl
  have hrs:=hasRaw_succ p.cls c j
  rw [← hk] at hrs
  obtain ⟨x,hx⟩:∃ x,x = p.cls[((c:Int) - j - 3).toNat]'hidx:=⟨_,rfl⟩
  have hxi:p.cls.getD (c - j - 3) ([],[],[]) = x:=by rw [getD_lt (by omega),hx]; congr 1; omega
  have hpx:pOf (graphOf p.cls) ((c - j:Nat):Int) = x.1:=by
   have:=graphOf_at (l:=p.cls) (k:=c - j - 3) (by omega)
   rw [show 3 + (c - j - 3) = c - j by omega] at this
   rw [this,← hxi,getD_lt (by omega)]
  rw [hxi] at hrs
  rw [hpx] at hus
  have ecj:((c - j:Nat):Int) = (c:Int) - j:=by omega
  rw [ecj] at hus hrs
  have hx4:x.2.1.length ≤ 4:=by rw [← hxi,getD_lt (by omega)]; exact (clsB_at hcl (by omega)).1
  generalize upKeys (graphOf p.cls) c j = K at *
  generalize hasRaw p.cls c j = out at *
  have hv:=hv_esK K ((c:Int) - j)
  cases hq:K.contains ((c:Int) - j)
  ·rw [hq] at hus hrs hv
   simp only [Bool.false_eq_true,if_false,List.append_nil] at hus hrs
   have e1:=congrArg esK hus.symm
   have e2:=congrArg (List.map V.int) hrs.symm
   refine goW ?_
   refine OL.lookup ?_ (hv _ rfl)
   refine goW ?_
   exact TX.rd (j + 1) [0,1,2] (by omega) (by omega) (ho:=⟨⟨_,rfl,OE.ren rfl⟩,⟨_,rfl,OE.ren (by rw [hus]; rfl)⟩,⟨_,rfl,OE.gsS (by rw [hrs])⟩,trivial⟩) (hr:=⟨⟨_,rfl,LE.ren rfl⟩,⟨_,rfl,LE.ren rfl⟩,⟨_,rfl,LE.ren rfl⟩,⟨_,rfl,LE.int (by omega)⟩,trivial⟩)
  ·rw [hq] at hus hrs hv
   simp only [if_true] at hus hrs
   refine goW ?_
   refine OL.lookup ?_ (hv _ rfl)
   refine goW ?_
   simp only [← hx]
   refine OL.app ?_
   rw [← List.map_append,← hrs]
   have hls:(hasRaw p.cls c (j + 1)).length ≤ 1000:=by rw [hrs,List.length_append]; omega
   obtain ⟨out2,ho2⟩:∃ o,o = hasRaw p.cls c (j + 1):=⟨_,rfl⟩
   rw [← ho2] at hls ⊢
   refine goW ?_
   simp only [← hx]
   obtain ⟨ps,hps⟩:∃ ps,ps = x.1:=⟨_,rfl⟩
   rw [← hps] at hus ⊢
   have hpl:ps.length ≤ 3:=by
    have:=(fine_pOf hf (c:=((c - j:Nat):Int)) (by omega)).1
    rw [hpx,← hps] at this; exact this
   refine TC.lp (fun i:Nat=>[(2,.ep (prgC p) 0),(5,.mp 1),(6,.hs 3),(7,V.int ((c:Int) - j)),(36,ints ps),(37,V.int ps.length),(38,V.int i)]) (fun i=>[.dead,.mo (esK ((ps.take i).foldl insK K)),.dead,.gs false Tc.int 1 none (out2.map V.int)]) (fun i=>i ≤ ps.length) (fun i=>ps.length - i) 0 [0,1,2,3] (Nat.zero_le _) ?_
   rintro i hi
   by_cases hil:i < ps.length
   ·have hsn:(ps.take (i + 1)).foldl insK K = insK ((ps.take i).foldl insK K) ps[i]:=by rw [take_succ hil,List.foldl_append]; rfl
    generalize (ps.take i).foldl insK K = Ki at *
    refine goW ?_
    refine OL.mapUpd ?_
    rw [aput_esK,← hsn]
    refine goW ?_
    exact TX.rd (i + 1) [0,1,2,3] (by omega) (by omega)
   ·rw [take_all (by omega),← hus]
    refine goW ?_
    exact TX.rd (j + 1) [0,1,3] (by omega) (by omega) (ho:=⟨⟨_,rfl,OE.ren rfl⟩,⟨_,rfl,OE.ren rfl⟩,⟨_,rfl,OE.gsS (by rw [ho2])⟩,trivial⟩) (hr:=⟨⟨_,rfl,LE.ren rfl⟩,⟨_,rfl,LE.ren rfl⟩,⟨_,rfl,LE.ren rfl⟩,⟨_,rfl,LE.int (by omega)⟩,trivial⟩)
 ·obtain rfl:j = c - 2:=by omega
  generalize hasRaw p.cls c (c - 2) = out at *
  refine goW ?_
  refine OL.ch [2] hso Tryz.func126 ?_
  refine goW ?_
  refine OL.vwA 0 ?_
  refine OL.c (clip_ints _) Tryz.func193 ?_
  refine goW ?_
  exact TX.rt1 [] (.ren rfl)
end Go.Proofs
