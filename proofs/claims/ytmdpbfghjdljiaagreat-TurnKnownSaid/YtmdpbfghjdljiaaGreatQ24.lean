/- Part 24 of what the claim is proved by: lemmas on the model and walks through functions of the program; no conditions. -/
import Derived.Test.YtmdpbfghjdljiaaGreatQ13
import Derived.Test.YtmdpbfghjdljiaaGreatQ23
import Derived.Test.YtmdpbfghjdljiaaGreatQ14
import Derived.Test.YtmdpbfghjdljiaaGreatQ15
import Derived.Test.YtmdpbfghjdljiaaGreatQ16
import Derived.Test.YtmdpbfghjdljiaaGreatQ17
import Derived.Test.YtmdpbfghjdljiaaGreatQ18
namespace Go.Proofs
open Go Go.W Go.V
def okc (g:List (List Int)) (c:Int):Bool:=fine g&&(decide (0≤c)&&decide (c < 3+(g.length:Int)))
def linL (g:List (List Int)) (c:Int):List Int:=if okc g c then at_ (orders g) c else []
def linE (g:List (List Int)) (c:Int):Int:=if okc g c then (if (at_ (orders g) c).length=0 then 7 else 0) else 2
end Go.Proofs
namespace Go.Proofs
open Go Go.W Go.V
def omapF:Nat→List (List Int)→List (Int × AV)
 | _,[]=>[]
 | c,o::r=>(if o.isEmpty then [] else [((c:Int),ints o)])++omapF (c+1) r
def omap (ords:List (List Int)):List (Int × AV):=omapF 0 ords
theorem omapF_snoc:∀ (l:List (List Int)) (c:Nat) (o:List Int),omapF c (l++[o])=omapF c l++(if o.isEmpty then [] else [(((c+l.length:Nat):Int),ints o)])
 | [],c,o=>by simp [omapF]
 | p::r,c,o=>by
   simp only [List.cons_append,omapF,omapF_snoc r (c+1) o,List.append_assoc,List.length_cons]
   rw [show c+1+r.length=c+(r.length+1) by omega]
theorem omap_snoc (l:List (List Int)) (o:List Int):omap (l++[o])=omap l++(if o.isEmpty then [] else [((l.length:Int),ints o)]):=by
 rw [omap,omapF_snoc];simp [omap]
theorem afind_app (k:Int):∀ (a b:List (Int × AV)),afind k (a++b)=(afind k a).or (afind k b)
 | [],b=>by simp [afind]
 | p::r,b=>by
   simp only [List.cons_append,afind]
   cases h:k==p.1
   ·simpa using afind_app k r b
   ·simp
theorem afind_omapF:∀ (l:List (List Int)) (c:Nat) (k:Int),(c:Int)≤k→afind k (omapF c l)=if (l.getD (k-c).toNat []).isEmpty then none else some (ints (l.getD (k-c).toNat []))
 | [],c,k,_=>by simp [omapF,afind]
 | o::r,c,k,h=>by
   simp only [omapF,afind_app]
   by_cases e:k=c
   ·subst e
    simp only [Int.sub_self,Int.toNat_zero,List.getD_cons_zero]
    cases ho:o.isEmpty
    ·simp [afind]
    ·have hlow:∀ (r:List (List Int)) (n:Nat) (k:Int),k < n→afind k (omapF n r)=none:=by
      intro r
      induction r with
      | nil=>intro n k _;rfl
      | cons p r ih =>
        intro n k hk
        simp only [omapF,afind_app,ih (n+1) k (by omega),Option.or_none]
        split
        ·rfl
        ·simp only [afind]
         rw [if_neg (by simp;omega)]
     simp [afind,hlow r (c+1) c (by omega)]
   ·have h1:(c:Int)+1≤k:=by omega
    have:=afind_omapF r (c+1) k (by omega)
    rw [this]
    have e2:(k-c).toNat=(k-((c+1:Nat):Int)).toNat+1:=by omega
    rw [e2,List.getD_cons_succ]
    have e3:afind k (if o.isEmpty then [] else [((c:Int),ints o)])=none:=by
     split
     ·rfl
     ·simp only [afind];rw [if_neg (by simp;omega)]
    rw [e3];rfl
theorem afind_omap (ords:List (List Int)) (k:Int) (h:0≤k):afind k (omap ords)=if (at_ ords k).isEmpty then none else some (ints (at_ ords k)):=by
 have:=afind_omapF ords 0 k (by omega)
 simpa [omap,at_] using this
theorem look_omap (ords:List (List Int)) (k:Int) (h:0≤k):afind k (omap ords)=some (ints (at_ ords k))∨(afind k (omap ords)=none∧∀ m w γ,Rep m w γ (.slice none 0 0) (ints (at_ ords k))):=by
 rw [afind_omap ords k h]
 cases he:at_ ords k with
 | nil=>exact .inr ⟨rfl,fun m w γ=>.nil nofun⟩
 | cons a r=>exact .inl rfl
theorem new_omap (ords:List (List Int)) (k:Int) (h:(ords.length:Int)≤k):afind k (omap ords)=none:=by
 rw [afind_omap ords k (by omega)]
 have:at_ ords k=[]:=by unfold at_;rw [List.getD_eq_getElem?_getD,List.getElem?_eq_none (by omega)];rfl
 rw [this];rfl
abbrev sets (us:List Nat):AV:=.sl 1 none (us.map setA)
abbrev graphO (pss:List (List Int)) (us:List Nat) (k:Nat):AO:=.cb Tc.line_graph [rows pss,sets us,.mp k]
set_option maxHeartbeats 1000000 in
theorem s_line_graph_lists (pss:List (List Int)) (us:List Nat) (ords:List (List Int)) (c:Nat) (hc:c < pss.length)
  (hps:∀ p∈pss[c],0≤p) (hol:∀ o∈ords,o.length≤1000000) (hpl:pss[c].length≤1000000) :
  V.Spec Tryz.prog 239 [.bp 0 0,V.int c] [graphO pss us 1,.mo (omap ords)] (.tp [rows ((listsOf ords pss[c]).getD []),V.bool (listsOf ords pss[c]).isSome]) [graphO pss us 1,.mo (omap ords)]:=by
 refine V.Spec.enter Tryz.tabOK Tryz.mixed Tryz.func239 rfl rfl rfl fun B hB=>?_
 repeat' (with_reducible first|refine OL.st ?_|refine TC.region ?_|refine TC.seq ?_|refine OL.nil ?_|refine TX.thenN ?_|refine TC.block ?_|fail)
 generalize hpe:pss[c]=ps at *
 refine TC.adp 6 Tc.Lint 1 ?_
 refine TC.lp (fun i:Nat=>[(0,.bp 0 0),(1,V.int c),(6,.hs 2),(15,ints ps),(16,V.int ps.length),(17,V.int i)]) (fun i=>[graphO pss us 1,.mo (omap ords),.gs false Tc.Lint 1 none (((ps.take i).map fun p=>bare (at_ ords p)).map ints)]) (fun i=>i≤ps.length∧(ps.take i).all (fun p=>!(at_ ords p).isEmpty)=true) (fun i=>ps.length-i) 0 [0,1,2] ⟨Nat.zero_le _,rfl⟩ ?_
 rintro i ⟨hi,hall⟩
 by_cases hlt:i < ps.length
 ·have hpi:=hps ps[i] (List.getElem_mem _)
  have hlo:(at_ ords ps[i]).length≤1000000:=by
   rcases at_mem (ords:=ords) (p:=ps[i]) with e|e
   ·rw [e];simp
   ·exact hol _ e
  repeat' (with_reducible first|refine OL.st ?_|refine TC.region ?_|refine TC.seq ?_|refine OL.nil ?_|refine TX.thenN ?_|refine TC.block ?_|refine TC.skip ?_|refine TC.ifD ?_ ?_<;>(intro hc;try (exfalso;omega))|fail)
  refine OL.lookup ?_ (look_omap ords ps[i] hpi)
  repeat' (with_reducible first|refine OL.st ?_|refine TC.region ?_|refine TC.seq ?_|refine OL.nil ?_|refine TX.thenN ?_|refine TC.skip ?_|refine TC.ifD ?_ ?_<;>(intro hc;try (exfalso;omega))|refine TC.ret ?_|refine TX.thenR ?_|refine TX.blkR ?_|fail)
  ·have he:at_ ords ps[i]=[]:=List.eq_nil_of_length_eq_zero (by omega)
   have:listsOf ords ps=none:=by
    rw [listsOf,if_neg]
    intro h
    have:=List.all_eq_true.1 h ps[i] (List.getElem_mem _)
    rw [he] at this
    cases this
   rw [this]
   exact TX.rt2 [0,1] (.nil (by decide)) (.ren rfl)
  ·have hne:(at_ ords ps[i]).isEmpty=false:=by
    cases hq:at_ ords ps[i] with
    | nil=>rw [hq] at hc;simp at hc
    | cons _ _=>rfl
   refine OL.lookup ?_ (look_omap ords ps[i] hpi)
   skip
   refine OL.c (s_line_bare (at_ ords ps[i]) (by omega)) Tryz.func254 ?_
   repeat' (with_reducible first|refine OL.st ?_|refine OL.litV ?_|refine OL.lit ?_|refine OL.appO ?_|refine TC.region ?_|refine OL.nil ?_|refine TX.thenN ?_|refine TX.blkN ?_|fail)
   have e:(((ps.take i).map fun p=>bare (at_ ords p)).map ints)++[ints (bare (at_ ords ps[i]))]=(((ps.take (i+1)).map fun p=>bare (at_ ords p)).map ints):=by
    rw [take_succ hlt];simp only [List.map_append,List.map_cons,List.map_nil]
   refine TX.rd (i+1) [0,1,5] ⟨by omega,?_⟩ (by omega)
   rw [take_succ hlt,List.all_append,hall]
   simp [hne]
 ·repeat' (with_reducible first|refine OL.st ?_|refine OL.lit ?_|refine OL.appO ?_|refine TC.region ?_|refine TC.seq ?_|refine OL.nil ?_|refine TX.thenN ?_|refine TC.exit ?_|refine TX.hit ?_|refine TX.thenX ?_|refine TC.ifD ?_ ?_<;>(intro hc;try (exfalso;omega))|refine TC.ret ?_|fail)
  rw [take_all (by omega)] at hall ⊢
  rw [listsOf,if_pos hall]
  have e:(ps.map fun p=>bare (at_ ords p)).map ints++[ints pss[c]]=((ps.map fun p=>bare (at_ ords p))++[ps]).map ints:=by rw [List.map_append,hpe];rfl
  refine TX.vw 4 ?_
  exact TX.rt2 [0,1] (.sl' e) (.ren rfl)
end Go.Proofs
namespace Go.Proofs
open Go Go.W Go.V
def ordOf (ords:List (List Int)) (ps:List Int) (c:Nat):List Int:=if c=0 then [0] else orderOf ords ps c
set_option maxHeartbeats 1000000 in
theorem s_line_graph_order (pss:List (List Int)) (us:List Nat) (ords:List (List Int)) (c:Nat) (hcl:c < pss.length) (hoc:ords.length=c) (hcs:c≤100)
  (hps:∀ p∈pss[c],0≤p) (hok:OrdOK ords) (hpl:pss[c].length≤3) :
  V.Spec Tryz.prog 210 [.bp 0 0,V.int c] [graphO pss us 1,.mo (omap ords)] (.tp []) [graphO pss us 1,.mo (omap (ords++[ordOf ords pss[c] c]))]:=by
 refine V.Spec.enter Tryz.tabOK Tryz.mixed Tryz.func210 rfl rfl rfl fun B hB=>?_
 rw [omap_snoc,hoc]
 have hnew:=new_omap ords c (by omega)
 repeat' (with_reducible first|refine OL.st ?_|refine OL.lit ?_|refine TC.region ?_|refine TC.seq ?_|refine OL.nil ?_|refine TX.thenN ?_|refine TC.skip ?_|refine TC.ifD ?_ ?_<;>(intro hc;try (exfalso;omega))|fail)
 ·have h0:c=0:=by omega
  subst h0
  skip
  refine OL.vw 14 ?_
  refine OL.mapNew ?_ hnew
  repeat' (with_reducible first|refine OL.nil ?_|refine TX.thenN ?_|refine TC.ret ?_|refine TX.thenR ?_|fail)
  exact TX.rt0 [0,1]
 ·have hc0:c≠0:=by omega
  have hol:=hok.small (by omega)
  have hb:=fun all (h:listsOf ords pss[c]=some all)=>listsOf_bounds h hok (by omega) (by omega) hps
  have hs:=s_line_graph_lists pss us ords c hcl hps (fun o ho=>Nat.le_trans (hol o ho) (by omega)) (by omega)
  rw [ordOf,if_neg hc0,orderOf]
  cases hls:listsOf ords pss[c] with
  | none =>
    rw [hls] at hs
    simp only [Option.getD_none,Option.isSome_none] at hs
    simp only [List.append_nil,List.isEmpty_nil,if_true]
    refine OL.ch [0,1] hs Tryz.func239 ?_
    repeat' (with_reducible first|refine OL.st ?_|refine TC.region ?_|refine TC.seq ?_|refine OL.nil ?_|refine TX.thenN ?_|refine TC.ifT ?_|refine TC.ret ?_|refine TX.thenR ?_|fail)
    exact TX.rt0 [0,1]
  | some all =>
    obtain ⟨hb1,hb2,hb3⟩:=hb all hls
    have hlen:(merge all).1.length≤1000000:=Nat.le_trans (merge_length all) (by omega)
    rw [hls] at hs
    simp only [Option.getD_some,Option.isSome_some] at hs
    refine OL.ch [0,1] hs Tryz.func239 ?_
    repeat' (with_reducible first|refine OL.st ?_|refine TC.region ?_|refine TC.seq ?_|refine OL.nil ?_|refine TX.thenN ?_|refine TC.skip ?_|refine TC.ifF ?_|fail)
    refine OL.c (s_line_merge all (by omega) (by omega)) Tryz.func240 ?_
    repeat' (with_reducible first|refine OL.st ?_|refine TC.region ?_|refine TC.seq ?_|refine OL.nil ?_|refine TX.thenN ?_|fail)
    refine TC.ifB (fun hm=>?_) (fun hm=>?_)
    ·have e:(if (if (merge all).2=true then (c:Int)::((merge all).1++[0]) else []).isEmpty=true then [] else [((c:Int),ints (if (merge all).2=true then (c:Int)::((merge all).1++[0]) else []))])=[((c:Int),AV.sl 1 none (V.int c::((merge all).1.map V.int++[V.int 0])))]:=by simp [hm]
     rw [e,hm]
     skip
     refine TC.vw 6 ?_
     (with_reducible refine TC.draw (id:=6) false 12 12 ?_<;>refine OD.st4 0 1 2 4 ?_<;>refine OD.st2 5 7 ?_<;>refine OD.n3 3 6 9 ?_ ?_ ?_<;>(first|refine NextBy.at 3 ?_<;>refine NextBy.s ?_<;>refine OD.n2 6 9 ?_ ?_<;>(first|refine NextBy.at 6 ?_<;>(refine NextBy.a ?_;refine OL.lit ?_;refine OL.nil ?_;refine TX.od ?_)<;>refine OD.n2 8 9 ?_ ?_<;>(first|refine NextBy.at 8 ?_<;>(refine NextBy.a ?_;refine OL.app ?_;refine OL.nil ?_;refine TX.od ?_)<;>(refine OD.a1 9 ?_;refine OL.lit ?_;refine OL.nil ?_;refine TX.od ?_)<;>(refine OD.a1 10 ?_;refine OL.appO ?_;refine OL.nil ?_;refine TX.od ?_)<;>(refine OD.a1 11 ?_;refine OL.vw 39 ?_;refine OL.mapNew ?_ hnew;refine OL.nil ?_;refine TX.od ?_)<;>refine OD.dn ?_|refine NextBy.at 9 ?_<;>(refine NextBy.a ?_;refine OL.lit ?_;refine OL.nil ?_;refine TX.od ?_)<;>(refine OD.a1 8 ?_;refine OL.app ?_;refine OL.nil ?_;refine TX.od ?_)<;>(refine OD.a1 10 ?_;refine OL.appO ?_;refine OL.nil ?_;refine TX.od ?_)<;>(refine OD.a1 11 ?_;refine OL.vw 39 ?_;refine OL.mapNew ?_ hnew;refine OL.nil ?_;refine TX.od ?_)<;>refine OD.dn ?_)|refine NextBy.at 9 ?_<;>(refine NextBy.a ?_;refine OL.lit ?_;refine OL.nil ?_;refine TX.od ?_)<;>(refine OD.a1 6 ?_;refine OL.lit ?_;refine OL.nil ?_;refine TX.od ?_)<;>(refine OD.a1 8 ?_;refine OL.app ?_;refine OL.nil ?_;refine TX.od ?_)<;>(refine OD.a1 10 ?_;refine OL.appO ?_;refine OL.nil ?_;refine TX.od ?_)<;>(refine OD.a1 11 ?_;refine OL.vw 39 ?_;refine OL.mapNew ?_ hnew;refine OL.nil ?_;refine TX.od ?_)<;>refine OD.dn ?_)|refine NextBy.at 6 ?_<;>(refine NextBy.a ?_;refine OL.lit ?_;refine OL.nil ?_;refine TX.od ?_)<;>refine OD.n3 3 8 9 ?_ ?_ ?_<;>(first|refine NextBy.at 3 ?_<;>refine NextBy.s ?_<;>refine OD.n2 8 9 ?_ ?_<;>(first|refine NextBy.at 8 ?_<;>(refine NextBy.a ?_;refine OL.app ?_;refine OL.nil ?_;refine TX.od ?_)<;>(refine OD.a1 9 ?_;refine OL.lit ?_;refine OL.nil ?_;refine TX.od ?_)<;>(refine OD.a1 10 ?_;refine OL.appO ?_;refine OL.nil ?_;refine TX.od ?_)<;>(refine OD.a1 11 ?_;refine OL.vw 39 ?_;refine OL.mapNew ?_ hnew;refine OL.nil ?_;refine TX.od ?_)<;>refine OD.dn ?_|refine NextBy.at 9 ?_<;>(refine NextBy.a ?_;refine OL.lit ?_;refine OL.nil ?_;refine TX.od ?_)<;>(refine OD.a1 8 ?_;refine OL.app ?_;refine OL.nil ?_;refine TX.od ?_)<;>(refine OD.a1 10 ?_;refine OL.appO ?_;refine OL.nil ?_;refine TX.od ?_)<;>(refine OD.a1 11 ?_;refine OL.vw 39 ?_;refine OL.mapNew ?_ hnew;refine OL.nil ?_;refine TX.od ?_)<;>refine OD.dn ?_)|refine NextBy.at 8 ?_<;>(refine NextBy.a ?_;refine OL.app ?_;refine OL.nil ?_;refine TX.od ?_)<;>refine OD.n2 3 9 ?_ ?_<;>(first|refine NextBy.at 3 ?_<;>refine NextBy.s ?_<;>(refine OD.a1 9 ?_;refine OL.lit ?_;refine OL.nil ?_;refine TX.od ?_)<;>(refine OD.a1 10 ?_;refine OL.appO ?_;refine OL.nil ?_;refine TX.od ?_)<;>(refine OD.a1 11 ?_;refine OL.vw 39 ?_;refine OL.mapNew ?_ hnew;refine OL.nil ?_;refine TX.od ?_)<;>refine OD.dn ?_|refine NextBy.at 9 ?_<;>(refine NextBy.a ?_;refine OL.lit ?_;refine OL.nil ?_;refine TX.od ?_)<;>refine OD.n2 3 10 ?_ ?_<;>(first|refine NextBy.at 3 ?_<;>refine NextBy.s ?_<;>(refine OD.a1 10 ?_;refine OL.appO ?_;refine OL.nil ?_;refine TX.od ?_)<;>(refine OD.a1 11 ?_;refine OL.vw 39 ?_;refine OL.mapNew ?_ hnew;refine OL.nil ?_;refine TX.od ?_)<;>refine OD.dn ?_|refine NextBy.at 10 ?_<;>(refine NextBy.a ?_;refine OL.appO ?_;refine OL.nil ?_;refine TX.od ?_)<;>refine OD.s1 3 ?_<;>(refine OD.a1 11 ?_;refine OL.vw 39 ?_;refine OL.mapNew ?_ hnew;refine OL.nil ?_;refine TX.od ?_)<;>refine OD.dn ?_))|refine NextBy.at 9 ?_<;>(refine NextBy.a ?_;refine OL.lit ?_;refine OL.nil ?_;refine TX.od ?_)<;>refine OD.n2 3 8 ?_ ?_<;>(first|refine NextBy.at 3 ?_<;>refine NextBy.s ?_<;>(refine OD.a1 8 ?_;refine OL.app ?_;refine OL.nil ?_;refine TX.od ?_)<;>(refine OD.a1 10 ?_;refine OL.appO ?_;refine OL.nil ?_;refine TX.od ?_)<;>(refine OD.a1 11 ?_;refine OL.vw 39 ?_;refine OL.mapNew ?_ hnew;refine OL.nil ?_;refine TX.od ?_)<;>refine OD.dn ?_|refine NextBy.at 8 ?_<;>(refine NextBy.a ?_;refine OL.app ?_;refine OL.nil ?_;refine TX.od ?_)<;>refine OD.n2 3 10 ?_ ?_<;>(first|refine NextBy.at 3 ?_<;>refine NextBy.s ?_<;>(refine OD.a1 10 ?_;refine OL.appO ?_;refine OL.nil ?_;refine TX.od ?_)<;>(refine OD.a1 11 ?_;refine OL.vw 39 ?_;refine OL.mapNew ?_ hnew;refine OL.nil ?_;refine TX.od ?_)<;>refine OD.dn ?_|refine NextBy.at 10 ?_<;>(refine NextBy.a ?_;refine OL.appO ?_;refine OL.nil ?_;refine TX.od ?_)<;>refine OD.s1 3 ?_<;>(refine OD.a1 11 ?_;refine OL.vw 39 ?_;refine OL.mapNew ?_ hnew;refine OL.nil ?_;refine TX.od ?_)<;>refine OD.dn ?_)))|refine NextBy.at 9 ?_<;>(refine NextBy.a ?_;refine OL.lit ?_;refine OL.nil ?_;refine TX.od ?_)<;>refine OD.n2 3 6 ?_ ?_<;>(first|refine NextBy.at 3 ?_<;>refine NextBy.s ?_<;>(refine OD.a1 6 ?_;refine OL.lit ?_;refine OL.nil ?_;refine TX.od ?_)<;>(refine OD.a1 8 ?_;refine OL.app ?_;refine OL.nil ?_;refine TX.od ?_)<;>(refine OD.a1 10 ?_;refine OL.appO ?_;refine OL.nil ?_;refine TX.od ?_)<;>(refine OD.a1 11 ?_;refine OL.vw 39 ?_;refine OL.mapNew ?_ hnew;refine OL.nil ?_;refine TX.od ?_)<;>refine OD.dn ?_|refine NextBy.at 6 ?_<;>(refine NextBy.a ?_;refine OL.lit ?_;refine OL.nil ?_;refine TX.od ?_)<;>refine OD.n2 3 8 ?_ ?_<;>(first|refine NextBy.at 3 ?_<;>refine NextBy.s ?_<;>(refine OD.a1 8 ?_;refine OL.app ?_;refine OL.nil ?_;refine TX.od ?_)<;>(refine OD.a1 10 ?_;refine OL.appO ?_;refine OL.nil ?_;refine TX.od ?_)<;>(refine OD.a1 11 ?_;refine OL.vw 39 ?_;refine OL.mapNew ?_ hnew;refine OL.nil ?_;refine TX.od ?_)<;>refine OD.dn ?_|refine NextBy.at 8 ?_<;>(refine NextBy.a ?_;refine OL.app ?_;refine OL.nil ?_;refine TX.od ?_)<;>refine OD.n2 3 10 ?_ ?_<;>(first|refine NextBy.at 3 ?_<;>refine NextBy.s ?_<;>(refine OD.a1 10 ?_;refine OL.appO ?_;refine OL.nil ?_;refine TX.od ?_)<;>(refine OD.a1 11 ?_;refine OL.vw 39 ?_;refine OL.mapNew ?_ hnew;refine OL.nil ?_;refine TX.od ?_)<;>refine OD.dn ?_|refine NextBy.at 10 ?_<;>(refine NextBy.a ?_;refine OL.appO ?_;refine OL.nil ?_;refine TX.od ?_)<;>refine OD.s1 3 ?_<;>(refine OD.a1 11 ?_;refine OL.vw 39 ?_;refine OL.mapNew ?_ hnew;refine OL.nil ?_;refine TX.od ?_)<;>refine OD.dn ?_)))))
     all_goals repeat' (first|(with_reducible refine TX.end_ ?_)|fail)
     all_goals exact TX.rt0 [0,1]
    ·have e:(if (if (merge all).2=true then (c:Int)::((merge all).1++[0]) else []).isEmpty=true then [] else [((c:Int),ints (if (merge all).2=true then (c:Int)::((merge all).1++[0]) else []))])=[]:=by simp [hm]
     rw [e,hm,List.append_nil]
     repeat' (first|(with_reducible refine TC.skip ?_)|(with_reducible refine TX.end_ ?_)|fail)
     exact TX.rt0 [0,1]
end Go.Proofs
namespace Go.Proofs
open Go Go.W Go.V
/-! ### What open finds -/
def upK (us:List Nat) (ps:List Int) (c:Nat) (i:Nat):Nat:=(ps.take i).foldl (fun s p=>s ||| us.getD p.toNat 0) (setWith (setWith 0 c) 0)
def upOf (us:List Nat) (ps:List Int) (c:Nat):Nat:=upK us ps c ps.length
theorem upK_succ {us ps c i} (h:i < ps.length) (hp:ps[i].toNat < us.length):upK us ps c (i+1)=upK us ps c i ||| us[ps[i].toNat]:=by
 unfold upK;rw [take_succ h,List.foldl_append,List.foldl_cons,List.foldl_nil,getD_lt hp]
def upsF:List Nat→List (List Int)→List Nat
 | us,[]=>us
 | us,ps::r=>upsF (us++[upOf us ps us.length]) r
def ups (g:List (List Int)):List Nat:=upsF [] (parentsOf g)
def oks (g:List (List Int)) (l:List Int):Bool:=fine g&&l.all fun c=>decide (0≤c)&&decide (c < 3+(g.length:Int))
def openR (g:List (List Int)) (l:List Int):AV:=if oks g l then .tp [.bp 0 0,V.bool true] else .tp [.raw (.pointer none),V.bool false]
def openE (g:List (List Int)) (l:List Int):V.Eta:=if oks g l then [graphO (parentsOf g) (ups g) 1,.mo (omap (orders g))] else []
set_option maxHeartbeats 2000000 in
theorem s_line_open (g:List (List Int)) (l:List Int):V.Spec Tryz.prog 161 [rows g,ints l] [] (openR g l) (openE g l):=by
 refine V.Spec.enter Tryz.tabOK Tryz.mixed Tryz.func161 rfl rfl rfl fun B hB=>?_
 repeat' (with_reducible first|refine OL.st ?_|refine TC.region ?_|refine TC.seq ?_|refine OL.nil ?_|refine TX.thenN ?_|fail)
 refine OL.c (s_line_fine g) Tryz.func160 ?_
 cases hf:fine g
 ·have ho:oks g l=false:=by simp [oks,hf]
  rw [openR,openE,ho]
  repeat' (with_reducible first|refine OL.st ?_|refine TC.region ?_|refine TC.seq ?_|refine OL.nil ?_|refine TX.thenN ?_|refine TC.ifT ?_|refine TC.ret ?_|refine TX.thenR ?_|fail)
  exact TX.rt2 [] (.ren rfl) (.ren rfl)
 have h16:=fine_len hf
 repeat' (with_reducible first|refine OL.st ?_|refine TC.region ?_|refine TC.seq ?_|refine OL.nil ?_|refine TX.thenN ?_|refine TC.block ?_|refine TC.skip ?_|refine TC.ifF ?_|fail)
 refine TC.bl 18 fun hbl=>?_
 refine TC.lp (fun i:Nat=>[(0,rows g),(18,ints l),(19,V.int l.length),(20,V.int i)]) (fun _=>[]) (fun i=>i≤l.length∧(l.take i).all (fun c=>decide (0≤c)&&decide (c < 3+(g.length:Int)))=true) (fun i=>l.length-i) 0 [] ⟨Nat.zero_le _,rfl⟩ ?_
 rintro i ⟨hi,hall⟩
 have hbad:∀ h:i < l.length,(decide (0≤l[i])&&decide (l[i] < 3+(g.length:Int)))=false→oks g l=false:=by
  intro h hb
  rw [oks,hf,Bool.true_and,List.all_eq_false]
  exact ⟨l[i],List.getElem_mem h,by rw [hb];simp⟩
 repeat' (with_reducible first|refine OL.st ?_|refine TC.region ?_|refine TC.seq ?_|refine OL.nil ?_|refine TX.thenN ?_|refine TC.block ?_|refine TC.skip ?_|refine TX.blkN ?_|refine TC.exit ?_|refine TX.hit ?_|refine TX.thenX ?_|refine TC.ifT ?_|refine OL.gOn ?_|refine OL.gOff ?_|refine TC.ifD ?_ ?_<;>(intro hc;try (exfalso;omega))|refine OL.gD ?_ ?_<;>(intro hc;try (exfalso;omega))|refine TC.ret ?_|refine TX.thenR ?_|refine TX.blkR ?_|fail)
 ·have ho:=hbad (by omega) (by rw [decide_eq_false (by omega:¬ 0≤l[i])];rfl)
  rw [openR,openE,ho]
  exact TX.rt2 [] (.ren rfl) (.ren rfl)
 ·have ho:=hbad (by omega) (by rw [decide_eq_false (by omega:¬ l[i] < 3+(g.length:Int)),Bool.and_false])
  rw [openR,openE,ho]
  exact TX.rt2 [] (.ren rfl) (.ren rfl)
 ·refine TX.rd (i+1) [] ⟨by omega,?_⟩ (by omega)
  rw [take_succ (by omega),List.all_append,hall]
  simp
  omega
 ·rw [take_all (by omega)] at hall
  have hoks:oks g l=true:=by rw [oks,hf,hall];rfl
  have hokc:OrdOK []:=fun c o h=>by simp at h
  rw [openR,openE,hoks,if_pos rfl,if_pos rfl]
  skip
  refine OL.make (l:=3) (c:=3+g.length) (u:=ints []) (u0:=ints []) ?_ (fun m w γ=>.nil nofun)
  repeat' (with_reducible first|refine OL.st ?_|refine OL.box ?_|refine OL.store ?_|refine OL.app ?_|refine OL.makeMap ?_|refine OL.build ?_|refine TC.region ?_|refine TC.seq ?_|refine OL.nil ?_|refine TX.thenN ?_|refine TC.block ?_|fail)
  have hpe:ints []::ints []::ints []::g.map ints=(parentsOf g).map ints:=by simp [parentsOf]
  have hpl:(parentsOf g).length=3+g.length:=parentsOf_length g
  have hpl2:((parentsOf g).map ints).length=3+g.length:=by rw [List.length_map,hpl]
  refine TC.vw 53 ?_
  refine TC.vwC 2 0 ?_
  rw [hpe]
  skip
  refine TC.adpC 2 1 Tc.line_set 1 ?_
  refine TC.lp (fun s:List Nat=>[(8,.bp 0 0),(53,rows (parentsOf g)),(54,V.int ((parentsOf g).map ints).length),(55,V.int s.length)]) (fun s=>[.cb Tc.line_graph [rows (parentsOf g),.hs 2,.mp 1],.mo [],.gs false Tc.line_set 1 none (s.map setA)])
   (fun s=>s.length≤3+g.length∧ups g=upsF s ((parentsOf g).drop s.length)∧(∀ u∈s,u < 2 ^ 64)) (fun s=>3+g.length-s.length) [] [2,1,4] ⟨Nat.zero_le _,rfl,by simp⟩ ?_
  rintro us ⟨hcl,hus,hu64⟩
  repeat' (with_reducible first|refine OL.st ?_|refine TC.region ?_|refine TC.seq ?_|refine OL.nil ?_|refine TX.thenN ?_|refine TC.block ?_|refine TC.skip ?_|refine TC.exit ?_|refine TX.hit ?_|refine TX.thenX ?_|refine TC.ifD ?_ ?_<;>(intro hc;try (exfalso;omega))|fail)
  ·have hclt:us.length < 3+g.length:=by omega
   have hpq:(parentsOf g)[us.length]'(by omega)=pOf g us.length:=by
    have:=parentsOf_get hclt
    rw [List.getElem?_eq_getElem (by omega)] at this
    simpa using this
   obtain ⟨hp3,hpr,hpn⟩:=fine_pOf hf (c:=(us.length:Int)) (by omega)
   rw [← hpq] at hp3 hpr hpn
   have hdrop:(parentsOf g).drop us.length=(parentsOf g)[us.length]::(parentsOf g).drop (us.length+1):=drop_cons (by omega)
   rw [hdrop] at hus
   generalize (parentsOf g)[us.length]=ps at *
   have hs1:=s_line_set_with 0 (by decide) us.length (by omega) (by omega)
   have hlt1:setWith 0 us.length < 2 ^ 64:=setWith_lt (by decide) (by omega)
   have hs2:=s_line_set_with (setWith 0 us.length) hlt1 0 (by omega) (by omega)
   have hlt2:setWith (setWith 0 us.length) 0 < 2 ^ 64:=setWith_lt hlt1 (by omega)
   rw [Int.toNat_natCast] at hs1
   rw [Int.toNat_zero] at hs2
   refine OL.buildA ?_
   repeat' (first|(with_reducible refine OL.st ?_)|fail)
   refine OL.c hs1 Tryz.func208 ?_
   skip
   refine OL.c hs2 Tryz.func208 ?_
   repeat' (with_reducible first|refine OL.st ?_|refine OL.alloc ?_|refine OL.storeAgg ?_|refine TC.region ?_|refine TC.seq ?_|refine OL.nil ?_|refine TX.thenN ?_|refine TC.block ?_|fail)
   have e0:setWith (setWith 0 us.length) 0=upK us ps us.length 0:=rfl
   rw [e0]
   refine TC.lp (fun i:Nat=>[(8,.bp 0 0),(11,.bp 3 0),(53,rows (parentsOf g)),(54,V.int ((parentsOf g).map ints).length),(55,V.int us.length),(64,ints ps),(65,V.int ps.length),(66,V.int i)]) (fun i=>[.cb Tc.line_graph [rows (parentsOf g),.hs 2,.mp 1],.mo [],.gs false Tc.line_set 1 none (us.map setA),.cb Tc.line_set [V.u64 (upK us ps us.length i)]])
    (fun i=>i≤ps.length∧upK us ps us.length i < 2 ^ 64) (fun i=>ps.length-i) 0 [0,1,2,3] ⟨Nat.zero_le _,hlt2⟩ ?_
   rintro i ⟨hi',hs64⟩
   repeat' (with_reducible first|refine OL.st ?_|refine TC.region ?_|refine TC.seq ?_|refine OL.nil ?_|refine TX.thenN ?_|refine TC.block ?_|refine TC.skip ?_|refine TC.exit ?_|refine TX.hit ?_|refine TX.thenX ?_|refine TC.ifD ?_ ?_<;>(intro hc;try (exfalso;omega))|fail)
   ·have hpi:=hpr ps[i] (List.getElem_mem _)
    have hpu:ps[i].toNat < us.length:=by omega
    have hx64:=hu64 _ (List.getElem_mem hpu)
    have hor:=s_line_set_or (upK us ps us.length i) us[ps[i].toNat] hs64 hx64
    have hlt:=Nat.or_lt_two_pow hs64 hx64
    rw [← upK_succ (by omega) hpu] at hor hlt
    (with_reducible refine TC.draw (id:=18) true 9 10 ?_<;>refine OD.st4 0 1 2 3 ?_<;>refine OD.st4 4 5 6 7 ?_<;>refine OD.c1 8 hor Tryz.func209 ?_<;>(refine OD.a1 9 ?_;refine OL.storeAgg ?_;refine OL.nil ?_;refine TX.od ?_)<;>refine OD.dn ?_)
    repeat' (with_reducible first|refine OL.st ?_|refine TC.region ?_|refine OL.nil ?_|refine TX.thenN ?_|refine TX.blkN ?_|fail)
    exact TX.rd (i+1) [0,1,2,3] ⟨by omega,hlt⟩ (by omega)
   ·have e1:upK us ps us.length i=upOf us ps us.length:=by rw [upOf,show i=ps.length by omega]
    rw [e1] at hs64
    rw [e1]
    rw [upsF] at hus
    have e:us.map setA++[setA (upOf us ps us.length)]=(us++[upOf us ps us.length]).map setA:=by simp
    have e2:((us.length:Int)+1)=((us++[upOf us ps us.length]).length:Nat):=by simp
    (with_reducible refine TC.draw (id:=20) false 11 11 ?_<;>refine OD.st4 0 1 2 3 ?_<;>refine OD.n2 4 5 ?_ ?_<;>(first|refine NextBy.at 4 ?_<;>refine NextBy.s ?_<;>refine OD.s1 5 ?_<;>(refine OD.a1 6 ?_;refine OL.lit ?_;refine OL.nil ?_;refine TX.od ?_)<;>(refine OD.a1 7 ?_;refine OL.appO ?_;refine OL.nil ?_;refine TX.od ?_)<;>refine OD.st2 8 9 ?_<;>(refine OD.a1 10 ?_;refine OL.store ?_;refine OL.nil ?_;refine TX.od ?_)<;>refine OD.dn ?_|refine NextBy.at 5 ?_<;>refine NextBy.s ?_<;>refine OD.n2 4 6 ?_ ?_<;>(first|refine NextBy.at 4 ?_<;>refine NextBy.s ?_<;>(refine OD.a1 6 ?_;refine OL.lit ?_;refine OL.nil ?_;refine TX.od ?_)<;>(refine OD.a1 7 ?_;refine OL.appO ?_;refine OL.nil ?_;refine TX.od ?_)<;>refine OD.st2 8 9 ?_<;>(refine OD.a1 10 ?_;refine OL.store ?_;refine OL.nil ?_;refine TX.od ?_)<;>refine OD.dn ?_|refine NextBy.at 6 ?_<;>(refine NextBy.a ?_;refine OL.lit ?_;refine OL.nil ?_;refine TX.od ?_)<;>refine OD.s1 4 ?_<;>(refine OD.a1 7 ?_;refine OL.appO ?_;refine OL.nil ?_;refine TX.od ?_)<;>refine OD.st2 8 9 ?_<;>(refine OD.a1 10 ?_;refine OL.store ?_;refine OL.nil ?_;refine TX.od ?_)<;>refine OD.dn ?_)))
    all_goals repeat' (with_reducible first|refine OL.st ?_|refine TC.region ?_|refine OL.nil ?_|refine TX.thenN ?_|refine TX.blkN ?_|fail)
    all_goals refine TX.rd (us++[upOf us ps us.length]) [0,1,5] ⟨by simp;omega,by simpa using hus,fun u hu=>(List.mem_append.1 hu).elim (hu64 u) fun h=>by rw [List.mem_singleton.1 h];exact hs64⟩ (by simp;omega)
  ·have hue:ups g=us:=by rw [hus,drop_nil (by omega)];rfl
   rw [hue]
   refine TC.vwC 0 1 ?_
   refine TC.lp (fun s:List (List Int)=>[(8,.bp 0 0),(95,V.int (parentsOf g).length),(96,V.int s.length)]) (fun s=>[graphO (parentsOf g) us 1,.mo (omap s)])
    (fun s=>s.length≤(parentsOf g).length∧OrdOK s∧((s.length=0∧s=[])∨(0 < s.length∧orders g=ordersF s ((parentsOf g).drop s.length)))) (fun s=>(parentsOf g).length-s.length) [] [0,1] ⟨Nat.zero_le _,hokc,.inl ⟨rfl,rfl⟩⟩ ?_
   rintro ords ⟨hcl',hok,hor⟩
   repeat' (with_reducible first|refine OL.st ?_|refine TC.region ?_|refine TC.seq ?_|refine OL.nil ?_|refine TX.thenN ?_|refine TC.block ?_|refine TC.skip ?_|refine TC.exit ?_|refine TX.hit ?_|refine TX.thenX ?_|refine TC.ifD ?_ ?_<;>(intro hc;try (exfalso;omega))|refine TC.ret ?_|fail)
   ·have hclt:ords.length < 3+g.length:=by omega
    have hpq:(parentsOf g)[ords.length]'(by omega)=pOf g ords.length:=by
     have:=parentsOf_get hclt
     rw [List.getElem?_eq_getElem (by omega)] at this
     simpa using this
    obtain ⟨hp3,hpr,hpn⟩:=fine_pOf hf (c:=(ords.length:Int)) (by omega)
    have hs:=s_line_graph_order (parentsOf g) us ords ords.length (by omega) rfl (by omega) (by rw [hpq];intro p hp;have:=hpr p hp;omega) hok (by rw [hpq];exact hp3)
    rw [hpq] at hs
    refine OL.ch [0,1] hs Tryz.func210 ?_
    repeat' (with_reducible first|refine OL.st ?_|refine TC.region ?_|refine OL.nil ?_|refine TX.thenN ?_|refine TX.blkN ?_|fail)
    have e2:((ords.length:Int)+1)=((ords++[ordOf ords (pOf g ords.length) ords.length]).length:Nat):=by simp
    refine TX.rd (ords++[ordOf ords (pOf g ords.length) ords.length]) [0,1] ⟨by simp;omega,?_,.inr ⟨by simp,?_⟩⟩ (by simp;omega)
    ·rcases hor with ⟨h0,rfl⟩|⟨h0,h1⟩
     ·exact OrdOK.start
     ·rw [ordOf,if_neg (by omega)]
      refine hok.snoc (orderOf_ok hok (fun p hp=>?_) (by omega))
      have:=hpr p hp
      omega
    ·rcases hor with ⟨h0,rfl⟩|⟨h0,h1⟩
     ·rw [orders_start];rfl
     ·rw [h1,parentsOf_drop hclt,ordersF_cons,ordOf,if_neg (by omega)]
      simp
   ·rcases hor with ⟨h0,rfl⟩|⟨h0,h1⟩
    ·omega
    ·rw [drop_nil (by omega)] at h1
     have h1:orders g=ords:=h1
     rw [h1]
     exact TX.rt2 [0,1] (.ren rfl) (.ren rfl)
end Go.Proofs
namespace Go.Proofs
open Go Go.W Go.V
theorem s_slices_Clone_Lint_int (l:List Int) (hb:l.length≤1000000000):V.Spec Tryz.prog 112 [ints l] [] (.hs 0) [.gs false Tc.int 1 none (l.map V.int)]:=by
 refine V.Spec.enter Tryz.tabOK Tryz.mixed Tryz.func112 rfl rfl rfl fun B hB=>?_
 repeat' (with_reducible first|refine OL.st ?_|refine TC.region ?_|refine TC.seq ?_|refine OL.nil ?_|refine TX.thenN ?_|fail)
 refine OL.isNil (fun h=>?_) ?_
 ·repeat' (with_reducible first|refine OL.st ?_|refine TC.region ?_|refine TC.seq ?_|refine OL.nil ?_|refine TX.thenN ?_|refine TC.ifT ?_|refine TC.ret ?_|refine TX.thenR ?_|fail)
  have e:[]=l.map V.int:=h.symm
  refine TX.adp 2 Tc.int 1 ?_
  exact TX.rt1 [0] (.ren rfl)
 ·repeat' (with_reducible first|refine OL.st ?_|refine OL.lit0 ?_|refine OL.app ?_|refine TC.region ?_|refine TC.seq ?_|refine OL.nil ?_|refine TX.thenN ?_|refine TC.skip ?_|refine TC.ifF ?_|refine TC.ret ?_|fail)
  exact TX.rt1 [1] (.ren rfl)
theorem oks_one (g:List (List Int)) (c:Int):oks g [c]=okc g c:=by simp [oks,okc]
theorem s_line_Lin (g:List (List Int)) (c:Int):V.Spec Tryz.prog 120 [rows g,V.int c] [] (.tp [ints (linL g c),V.int (linE g c)]) []:=by
 refine V.Spec.enter Tryz.tabOK Tryz.mixed Tryz.func120 rfl rfl rfl fun B hB=>?_
 have ho:=s_line_open g [c]
 rw [openR,openE,oks_one] at ho
 repeat' (with_reducible first|refine OL.st ?_|refine OL.lit ?_|refine TC.region ?_|refine TC.seq ?_|refine OL.nil ?_|refine TX.thenN ?_|fail)
 refine OL.vwA 1 ?_
 cases hok:okc g c
 ·rw [hok] at ho
  simp only [Bool.false_eq_true,if_false] at ho
  refine OL.c ho Tryz.func161 ?_
  repeat' (with_reducible first|refine OL.st ?_|refine TC.region ?_|refine TC.seq ?_|refine OL.nil ?_|refine TX.thenN ?_|refine TC.ifT ?_|refine TC.ret ?_|refine TX.thenR ?_|fail)
  refine TX.rt2 [] (.nil' ?_) (.int ?_)
  ·rw [linL,hok];rfl
  ·rw [linE,hok];rfl
 ·rw [hok] at ho
  simp only [if_true] at ho
  refine OL.c ho Tryz.func161 ?_
  have h0:0≤c:=by
   simp only [okc,Bool.and_eq_true,decide_eq_true_eq] at hok
   exact hok.2.1
  have hf:fine g=true:=by
   simp only [okc,Bool.and_eq_true] at hok
   exact hok.1
  have h16:=fine_len hf
  have hlen:(at_ (orders g) c).length≤1000000000:=by
   have hs:=(orders_ok hf).1.small (by have:=(orders_ok hf).2;omega)
   rcases at_mem (ords:=orders g) (p:=c) with e|e
   ·rw [e];simp
   ·exact Nat.le_trans (hs _ e) (by omega)
  repeat' (with_reducible first|refine OL.st ?_|refine TC.region ?_|refine TC.seq ?_|refine OL.nil ?_|refine TX.thenN ?_|refine TC.skip ?_|refine TC.ifF ?_|fail)
  refine OL.lookup ?_ (look_omap (orders g) c h0)
  repeat' (with_reducible first|refine OL.st ?_|refine TC.region ?_|refine TC.seq ?_|refine OL.nil ?_|refine TX.thenN ?_|refine TC.skip ?_|refine TC.ifD ?_ ?_<;>(intro hc;try (exfalso;omega))|refine TC.ret ?_|refine TX.thenR ?_|fail)
  ·have he:at_ (orders g) c=[]:=List.eq_nil_of_length_eq_zero (by omega)
   refine TX.rt2 [] (.nil' ?_) (.int ?_)
   ·rw [linL,if_pos hok,he];rfl
   ·rw [linE,if_pos hok,he];rfl
  ·refine OL.lookup ?_ (look_omap (orders g) c h0)
   skip
   refine OL.c (s_slices_Clone_Lint_int _ hlen) Tryz.func112 ?_
   repeat' (with_reducible first|refine OL.st ?_|refine OL.nil ?_|refine TX.thenN ?_|refine TC.ret ?_|fail)
   refine TX.vw 4 ?_
   refine TX.rt2 [] (.sl' ?_) (.int ?_)
   ·rw [linL,if_pos hok]
   ·rw [linE,if_pos hok,if_neg (by omega)]
end Go.Proofs
namespace Go.Proofs
open Go Go.W Go.V
/-! ### What after finds -/
end Go.Proofs
namespace Go.Proofs
open Go Go.W Go.V
def upto (n:Nat):List Int:=(List.range n).map fun (k:Nat)=>(k:Int)
theorem upto_succ (n:Nat):upto (n+1)=upto n++[(n:Int)]:=by simp [upto,List.range_succ]
def hasB (x:Nat) (c:Int):Bool:=decide (0≤c)&&decide (c < 64)&&x.testBit c.toNat
def lastI (l:List Int):Int:=l.getD (l.length-1) 0
end Go.Proofs
namespace Go.Proofs
open Go Go.W Go.V
end Go.Proofs
namespace Go.Proofs
open Go Go.W Go.V
end Go.Proofs
namespace Go.Proofs
open Go Go.W Go.V
def asks (g:List (List Int)) (l:List Int):Bool:=decide (l.length≤16)&&oks g l
def upHas (g:List (List Int)) (b c:Int):Bool:=hasB ((ups g).getD b.toNat 0) c
end Go.Proofs
namespace Go.Proofs
open Go Go.W Go.V
theorem foldl_or_bit {α:Type} (f:α→Nat) (b:Nat):∀ (l:List α) (s:Nat),(l.foldl (fun s p=>s ||| f p) s).testBit b=(s.testBit b || l.any fun p=>(f p).testBit b)
 | [],s=>by simp
 | p::r,s=>by rw [List.foldl_cons,foldl_or_bit f b r,Nat.testBit_or,List.any_cons,Bool.or_assoc]
theorem setWith_bit (x c b:Nat):(setWith x c).testBit b=(x.testBit b || decide (c=b)):=by
 rw [setWith,Nat.testBit_or,Nat.one_shiftLeft,Nat.testBit_two_pow]
theorem foldl_congr_mem {α β:Type} {f f':β→α→β}:∀ (l:List α) (s:β),(∀ a∈l,∀ s,f s a=f' s a)→l.foldl f s=l.foldl f' s
 | [],_,_=>rfl
 | a::r,s,h=>by rw [List.foldl_cons,List.foldl_cons,h a (by simp),foldl_congr_mem r _ (fun b hb=>h b (by simp [hb]))]
theorem upOf_eq (us:List Nat) (ps:List Int) (c:Nat):upOf us ps c=ps.foldl (fun s p=>s ||| us.getD p.toNat 0) (setWith (setWith 0 c) 0):=by rw [upOf,upK,List.take_length]
theorem upsF_pre:∀ (r:List (List Int)) (us:List Nat) (i:Nat),i < us.length→(upsF us r)[i]?=us[i]?
 | [],_,_,_=>rfl
 | p::r,us,i,h=>by rw [upsF,upsF_pre r _ i (by simp;omega),List.getElem?_append_left h]
theorem upsF_get:∀ (r:List (List Int)) (us:List Nat) (k:Nat) (ps:List Int),r[k]?=some ps→(∀ p∈ps,p.toNat < us.length+k)→(upsF us r)[us.length+k]?=some (upOf (upsF us r) ps (us.length+k))
 | [],us,k,ps,h,_=>by simp at h
 | q::r,us,0,ps,h,hp=>by
   simp at h;subst h
   have e1:(us++[upOf us q us.length])[us.length]?=some (upOf us q us.length):=by simp
   rw [Nat.add_zero,upsF,upsF_pre r _ us.length (by simp),e1]
   congr 1
   rw [upOf_eq,upOf_eq]
   refine foldl_congr_mem _ _ fun p hpm s=>?_
   have hlt:p.toNat < us.length:=by have:=hp p hpm;omega
   rw [List.getD_eq_getElem?_getD,List.getD_eq_getElem?_getD,upsF_pre r _ p.toNat (by simp;omega),List.getElem?_append_left hlt]
 | q::r,us,k+1,ps,h,hp=>by
   have:=upsF_get r (us++[upOf us q us.length]) k ps (by simpa using h) (fun p hpm=>by have:=hp p hpm;simp;omega)
   simp only [List.length_append,List.length_cons,List.length_nil,Nat.zero_add] at this
   rw [show us.length+1+k=us.length+(k+1) by omega] at this
   exact this
theorem ups_get {g:List (List Int)} (hf:fine g=true) {c:Nat} (hc:c < 3+g.length):(ups g).getD c 0=upOf (ups g) (pOf g c) c:=by
 have h:=upsF_get (parentsOf g) [] c (pOf g c) (parentsOf_get hc) (fun p hp=>by
  have:=(fine_pOf hf (c:=(c:Int)) (by omega)).2.1 p hp
  simp;omega)
 rw [List.length_nil,Nat.zero_add] at h
 rw [List.getD_eq_getElem?_getD,ups,h];rfl
theorem upHas_step {g:List (List Int)} (hf:fine g=true) {a:Nat} (ha:a < 3+g.length) {b:Int} (h0:0≤b) (h1:b < 64):upHas g a b=(decide (b=a) || decide (b=0) || (pOf g a).any fun p=>upHas g p b):=by
 have e:∀ x:Nat,hasB x b=x.testBit b.toNat:=fun x=>by simp [hasB,h0,h1]
 have h2:(pOf g a).any (fun p=>upHas g p b)=(pOf g a).any (fun p=>((ups g).getD p.toNat 0).testBit b.toNat):=by
  congr 1;funext p;rw [upHas,e]
 have d1:decide (b=(a:Int))=decide (a=b.toNat):=by simp only [decide_eq_decide];omega
 have d2:decide (b=0)=decide (0=b.toNat):=by simp only [decide_eq_decide];omega
 rw [h2,upHas,e,Int.toNat_natCast,ups_get hf ha,upOf_eq,foldl_or_bit,setWith_bit,setWith_bit,Nat.zero_testBit,Bool.false_or,d1,d2]
theorem upHas_self {g:List (List Int)} (hf:fine g=true) {a:Nat} (ha:a < 3+g.length):upHas g a a=true:=by
 have:=fine_len hf
 rw [upHas_step hf ha (by omega) (by omega)];simp
theorem upHas_zero {g:List (List Int)} (hf:fine g=true) {a:Nat} (ha:a < 3+g.length):upHas g a 0=true:=by
 rw [upHas_step hf ha (by omega) (by omega)];simp
theorem upHas_down {g:List (List Int)} (hf:fine g=true):∀ (n a:Nat),a < n→a < 3+g.length→∀ b:Int,0≤b→b < 64→upHas g a b=true→b=0∨b=a∨(3≤b∧b < a):=by
 intro n
 induction n with
 | zero=>intro a h;omega
 | succ n ih =>
   intro a han ha b h0 h1 h
   rw [upHas_step hf ha h0 h1] at h
   simp only [Bool.or_eq_true,decide_eq_true_eq,List.any_eq_true] at h
   rcases h with (h|h)|⟨p,hp,h⟩
   ·exact .inr (.inl h)
   ·exact .inl h
   ·have hpp:=(fine_pOf hf (c:=(a:Int)) (by omega)).2.1 p hp
    obtain ⟨q,rfl⟩:∃ q:Nat,p=(q:Int):=⟨p.toNat,by omega⟩
    rcases ih q (by omega) (by omega) b h0 h1 h with e|e|e
    ·exact .inl e
    ·right;right;omega
    ·right;right;omega
theorem upHas_le {g:List (List Int)} (hf:fine g=true) {a:Nat} (ha:a < 3+g.length) {b:Int} (h0:0≤b) (h1:b < 64) (h:upHas g a b=true):b=0∨b=a∨(3≤b∧b < a):=upHas_down hf (a+1) a (by omega) ha b h0 h1 h
/-! ### The reference's marks -/
end Go.Proofs
namespace Go.Proofs
open Go Go.W Go.V
end Go.Proofs
namespace Go.Proofs
open Go Go.W Go.V
def clsAt (l:List Cls) (k:Nat):Cls:=l.getD k ([],[],[])
def ownSl (l:List Cls) (c:Nat) (s:Int) (k:Nat):Bool:=(clsAt l k).2.1.contains s&&upHas (graphOf l) c ((3+k:Nat):Int)
def slotsOfN (l:List Cls) (c:Nat) (s:Int) (n:Nat):List Int:=(List.range n).flatMap fun k=>if ownSl l c s k then [s] else []
def slotsTo (l:List Cls) (c n:Nat):List Int:=(upto n).flatMap fun s=>slotsOfN l c s l.length
def slotsOf (l:List Cls) (c:Nat):List Int:=slotsTo l c 40
theorem slotsOfN_succ (l:List Cls) (c:Nat) (s:Int) (n:Nat):slotsOfN l c s (n+1)=slotsOfN l c s n++(if ownSl l c s n then [s] else []):=by rw [slotsOfN,List.range_succ,List.flatMap_append,← slotsOfN];simp
theorem slotsTo_succ (l:List Cls) (c n:Nat):slotsTo l c (n+1)=slotsTo l c n++slotsOfN l c n l.length:=by rw [slotsTo,upto_succ,List.flatMap_append,← slotsTo];simp
theorem slotsOfN_len (l:List Cls) (c:Nat) (s:Int):∀ n,(slotsOfN l c s n).length≤n
 | 0=>by simp [slotsOfN]
 | n+1=>by
   rw [slotsOfN_succ,List.length_append]
   have:=slotsOfN_len l c s n
   split<;>simp<;>omega
theorem slotsTo_len (l:List Cls) (c:Nat):∀ n,(slotsTo l c n).length≤n*l.length
 | 0=>by simp [slotsTo,upto]
 | n+1=>by
   rw [slotsTo_succ,List.length_append]
   have:=slotsTo_len l c n
   have:=slotsOfN_len l c n l.length
   have h9:(n+1)*l.length=n*l.length+l.length:=Nat.succ_mul _ _
   omega
theorem mem_slotsTo {l:List Cls} {c n:Nat} {s:Int}:s∈slotsTo l c n↔(0≤s∧s < (n:Int))∧∃ k,k < l.length∧ownSl l c s k=true:=by
 simp only [slotsTo,slotsOfN,upto,List.mem_flatMap,List.mem_map,List.mem_range]
 constructor
 ·rintro ⟨_,⟨q,hq,rfl⟩,k,hk,h⟩
  split at h
  ·rename_i ho
   simp only [List.mem_singleton] at h
   subst h
   exact ⟨by omega,k,hk,ho⟩
  ·simp at h
 ·rintro ⟨h1,k,hk,ho⟩
  exact ⟨s,⟨s.toNat,by omega,by omega⟩,k,hk,by rw [if_pos ho];simp⟩
end Go.Proofs
namespace Go.Proofs
open Go Go.W Go.V
def initOf (l:List Cls) (s c:Int):Option Int:=if c < 3 then none else ((clsAt l (c-3).toNat).2.2.find? fun p=>p.1==s).map (·.2)
def beginO (l:List Cls) (o:List Int) (s:Int):Option Int:=o.findSome? (initOf l s)
theorem beginO_cons (l:List Cls) (c:Int) (r:List Int) (s:Int):beginO l (c::r) s=match initOf l s c with|some n=>some n|none=>beginO l r s:=by
 rw [beginO,List.findSome?_cons];cases initOf l s c<;>rfl
def optV:Option Int→Int × Int
 | some n=>(1,n)
 | none=>(2,0)
def beginV (l:List Cls) (c:Nat) (s:Int):Int × Int:=optV (beginO l (at_ (orders (graphOf l)) c) s)
def valB (v:Int × Int) (n:Int):Bool:=
 if v.1=1 then decide (-1000000000≤v.2)&&decide (v.2≤1000000000) else if v.1=2 then decide (v.2=0) else if v.1=3 then decide (0≤v.2)&&decide (v.2 < n) else false
end Go.Proofs
namespace Go.Proofs
open Go Go.W Go.V
theorem map_snoc {α β:Type} (f:α→β) (a:List α) (x:α):a.map f++[f x]=(a++[x]).map f:=by simp
def slotsOk:List Int→List Int→Bool
 | _,[]=>true
 | met,s::r=>((decide (0≤s)&&decide (s < 40))&&!met.contains s)&&slotsOk (met++[s]) r
def clsOk (g:List (List Int)):Nat→List Int→List Cls→Bool
 | _,_,[]=>true
 | k,met,x::r=>(decide (0 < (at_ (orders g) ((3+k:Nat):Int)).length)&&decide (x.2.1.length≤4))&&(slotsOk met x.2.1&&clsOk g (k+1) (met++x.2.1) r)
def initsOk (has:List Int):List Int→List (Int × Int)→Bool
 | _,[]=>true
 | own,i::r=>((has.contains i.1&&!own.contains i.1)&&(decide (-1000000000≤i.2)&&decide (i.2≤1000000000)))&&initsOk has (own++[i.1]) r
def iniAt (l:List Cls) (k:Nat):Bool:=initsOk (slotsOf l (3+k)) [] (clsAt l k).2.2
def goodB (l:List Cls):Bool:=decide (l.length≤10)&&(fine (graphOf l)&&(clsOk (graphOf l) 0 [] l&&(List.range l.length).all (iniAt l)))
theorem all_false {p:Nat→Bool} {n k:Nat} (hk:k < n) (h:p k=false):(List.range n).all p=false:=by
 rw [List.all_eq_false];exact ⟨k,List.mem_range.2 hk,by simp [h]⟩
theorem all_true {p:Nat→Bool} {n:Nat} (h:∀ k,k < n→p k=true):(List.range n).all p=true:=by
 rw [List.all_eq_true];exact fun k hk=>h k (List.mem_range.1 hk)
def metOf (l:List Cls):List Int:=l.flatMap (·.2.1)
theorem metOf_succ (l:List Cls) {k:Nat} (h:k < l.length):metOf (l.take (k+1))=metOf (l.take k)++l[k].2.1:=by rw [metOf,take_succ h,List.flatMap_append,← metOf];simp
end Go.Proofs
namespace Go.Proofs
open Go Go.W Go.V
def schAt (ss:List (List Cls)) (i:Nat):List Cls:=ss.getD i []
def schOk (ss:List (List Cls)) (i:Nat):Bool:=(decide (i=0) || decide ((schAt ss (i-1)).length≤(schAt ss i).length))&&goodB (schAt ss i)
def schemasB (ss:List (List Cls)):Bool:=(decide (1≤ss.length)&&decide (ss.length≤12))&&(List.range ss.length).all (schOk ss)
def ownB (n:Nat) (c:Int):Bool:=decide (3≤c)&&decide (c < 3+(n:Int))
def thingOk (lz:Bool) (ss:List (List Cls)) (n:Int) (x:Thing):Bool:=
 ((decide (0≤x.2.1)&&decide (x.2.1 < (ss.length:Int)))&&(lz || decide (x.2.1=(ss.length:Int)-1))) &&
   (ownB (schAt ss x.2.1.toNat).length x.1&&(decide (x.2.2.length=(slotsOf (schAt ss x.2.1.toNat) x.1.toNat).length)&&x.2.2.all (valB · n)))
def formedB (lz:Bool) (ss:List (List Cls)) (ts:List Thing):Bool:=schemasB ss&&(decide (ts.length≤40)&&ts.all (thingOk lz ss ts.length))
theorem schemasB_len {ss:List (List Cls)} (h:schemasB ss=true):1≤ss.length∧ss.length≤12:=by
 simp only [schemasB,Bool.and_eq_true,decide_eq_true_eq] at h;exact h.1
theorem schemasB_good {ss:List (List Cls)} (h:schemasB ss=true) {i:Nat} (hi:i < ss.length):goodB (schAt ss i)=true:=by
 simp only [schemasB,Bool.and_eq_true,List.all_eq_true,List.mem_range] at h
 have:=h.2 i hi
 simp only [schOk,Bool.and_eq_true] at this
 exact this.2
theorem goodB_fine {l:List Cls} (h:goodB l=true):l.length≤10∧fine (graphOf l)=true:=by
 simp only [goodB,Bool.and_eq_true,decide_eq_true_eq] at h;exact ⟨h.1,h.2.1⟩
abbrev wlA (lz:Bool) (ss:List (List Cls)) (ts:List Thing):AV:=.st [V.bool lz,schsA ss,thingsA ts]
end Go.Proofs
namespace Go.Proofs
open Go Go.W Go.V
theorem placeN_spec (n:Int):∀ (l:List Int) (k:Int),placeN l n k=-1∨(k≤placeN l n k∧placeN l n k < k+l.length)∨k < 0
 | [],_=>.inl rfl
 | x::r,k=>by
   rw [placeN]
   split
   ·exact .inr (.inl ⟨by omega,by simp;omega⟩)
   ·rcases placeN_spec n r (k+1) with h|h|h
    ·exact .inl h
    ·refine .inr (.inl ⟨by omega,?_⟩)
     simp;omega
    ·by_cases h0:k < 0
     ·exact .inr (.inr h0)
     ·omega
theorem placeN_lt (l:List Int) (n:Int):placeN l n 0=-1∨(0≤placeN l n 0∧placeN l n 0 < l.length):=by
 rcases placeN_spec n l 0 with h|h|h
 ·exact .inl h
 ·exact .inr (by omega)
 ·omega
def keptV (l:List Cls) (c:Nat) (slots:List Int) (vals:List (Int × Int)) (s:Int):Int × Int:=if 0≤placeN slots s 0 then vals.getD (placeN slots s 0).toNat (0,0) else beginV l c s
def turnedV (l:List Cls) (c:Nat) (slots:List Int) (vals:List (Int × Int)):List (Int × Int):=(slotsOf l c).map (keptV l c slots vals)
theorem turnedV_length (l:List Cls) (c:Nat) (slots:List Int) (vals:List (Int × Int)):(turnedV l c slots vals).length=(slotsOf l c).length:=by rw [turnedV,List.length_map]
end Go.Proofs
