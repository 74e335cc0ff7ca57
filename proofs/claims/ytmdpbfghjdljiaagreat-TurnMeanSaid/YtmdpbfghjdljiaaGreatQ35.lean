/- Part 35 of what the claim is proved by: lemmas on the model and walks through functions of the program; no conditions. -/
import Derived.Test.YtmdpbfghjdljiaaGreatQ16
import Derived.Test.YtmdpbfghjdljiaaGreatQ22
import Derived.Test.YtmdpbfghjdljiaaGreatQ24
namespace Go.Proofs
open Go Go.W Go.V
abbrev Nd:=Int × Int × List Int
abbrev ndA (x:Nd):AV:=.st [V.int x.1,V.int x.2.1,ints x.2.2]
abbrev ndsA (l:List Nd):AV:=.sl 3 none (l.map ndA)
inductive Fct where
 | mk (op arg:Int) (path:List Int) (cls n:Int) (kids:List Fct)
mutual
def factA:Fct→AV
 | .mk op arg path cls n kids=>.st [V.int op,V.int arg,ints path,V.int cls,V.int n,.sl 6 none (factsA kids)]
def factsA:List Fct→List AV
 | []=>[]
 | f::r=>factA f::factsA r
end
theorem factsA_map (l:List Fct):factsA l=l.map factA:=by
 induction l with
 | nil=>rfl
 | cons f r ih=>rw [factsA,ih];rfl
structure Mth where
 kind:Int
 gen:Int
 fact:Fct
 node:Int
def mthA (x:Mth):AV:=.st ([V.int x.kind,V.int x.gen]++(factA x.fact).cells++[V.int x.node])
abbrev mthsA (l:List Mth):AV:=.sl 9 none (l.map mthA)
structure Prg where
 cls:List Cls
 slots:Int
 gens:List Int
 mths:List Mth
 nodes:List Nd
 main:Int
abbrev prgC (p:Prg):List AV:=[clssA p.cls,V.int p.slots,ints p.gens,mthsA p.mths,ndsA p.nodes,V.int p.main]
abbrev prgA (p:Prg):AV:=.st (prgC p)
/-! ## The small functions -/
def betweenV (n:Int):Bool:=decide (-1000000000≤n)&&decide (n≤1000000000)
theorem Ct25 (n:Int):V.Spec Tryz.prog 225 [V.int n] [] (V.bool (betweenV n)) []:=by
 refine V.Spec.enter Tryz.tabOK Tryz.mixed Tryz.func225 rfl rfl rfl fun B hB=>?_
 (refine goSW ?_ ?_<;>intro hc<;>refine goW ?_)
 ·rw [show betweenV n=decide (n≤1000000000) by simp [betweenV,hc]]
  exact TX.rt1 [] (.ren rfl)
 ·rw [show betweenV n=false by simp [betweenV,hc]]
  exact TX.rt1 [] (.ren rfl)
theorem Ct36 (k:Int) (p:Prg) (x:Nd):V.Spec Tryz.prog 290 [V.int k,prgA p,ndA x] [] (V.int k) []:=by
 refine V.Spec.enter Tryz.tabOK Tryz.mixed Tryz.func290 rfl rfl rfl fun B hB=>?_
 refine goW ?_
 exact TX.rt1 [] (.ren rfl)
theorem Ct23 (p:Prg) (x:Nd) (h0:0≤x.2.1) (h1:x.2.1 < p.gens.length):V.Spec Tryz.prog 291 [.st [],prgA p,ndA x] [] (V.int (p.gens[x.2.1.toNat]'(by omega))) []:=by
 refine V.Spec.enter Tryz.tabOK Tryz.mixed Tryz.func291 rfl rfl rfl fun B hB=>?_
 refine goW ?_
 exact TX.rt1 [] (.ren rfl)
def mostV (p:Prg) (x:Nd) (size:Int):Int:=if x.1=3 then size else if x.1=4∨x.1=7 then p.slots else if x.1=5 then p.gens.length else 1
def numberV (p:Prg) (x:Nd) (size:Int):Bool:=
 if x.1=1 then betweenV x.2.1 else if x.1=6∨x.1=8 then decide (3≤x.2.1)&&decide (x.2.1 < 3+p.cls.length) else decide (0≤x.2.1)&&decide (x.2.1 < mostV p x size)
set_option maxHeartbeats 2000000 in
theorem Ct32 (p:Prg) (x:Nd) (size:Int) (hc:p.cls.length < 1000000000):V.Spec Tryz.prog 179 [prgA p,ndA x,V.int size] [] (V.bool (numberV p x size)) []:=by
 obtain ⟨op,n,kids⟩:=x
 refine V.Spec.enter Tryz.tabOK Tryz.mixed Tryz.func179 rfl rfl rfl fun B hB=>?_
 repeat' (with_reducible first|refine OL.st ?_|refine OL.box ?_|refine TC.region ?_|refine TC.seq ?_|refine OL.nil ?_|refine TX.thenN ?_|refine TC.block ?_|refine TC.skip ?_|refine TX.blkN ?_|refine OL.gOn ?_|refine OL.gOff ?_|refine TC.ifD ?_ ?_<;>(intro hc;try (exfalso;omega))|refine OL.gD ?_ ?_<;>(intro hc;try (exfalso;omega))|refine TC.ret ?_|refine TX.thenR ?_|refine TX.blkR ?_|fail)
 ·refine OL.c (Ct25 n) Tryz.func225 ?_
  refine goW ?_
  refine TX.rt1 [] (LE.bool ?_)
  simp [numberV, *]
 all_goals
  refine TX.rt1 [] (LE.bool ?_)
  simp [numberV,mostV, *]
end Go.Proofs
