/- Part 26 of what the claim is proved by: lemmas on the model and walks through functions of the program; no conditions. -/
import Derived.Test.YtmdpbfghjdljiaaGreatQ17
import Derived.Test.YtmdpbfghjdljiaaGreatQ24
import Derived.Test.YtmdpbfghjdljiaaGreatQ25
import Derived.Test.YtmdpbfghjdljiaaGreatQ13
namespace Go.Proofs
open Go Go.W Go.V
def ordsOf (l:List Cls):List (List Int):=(List.range l.length).map fun k=>bare (at_ (orders (graphOf l)) ((3+k:Nat):Int))
def slsOf (l:List Cls):List (List Int):=(List.range l.length).map fun k=>slotsOf l (3+k)
abbrev schE (l:List Cls):AV:=.ep [clssA l,rows (ordsOf l),rows (slsOf l)] 0
theorem ordsOf_length (l:List Cls):(ordsOf l).length=l.length:=by simp [ordsOf]
theorem slsOf_length (l:List Cls):(slsOf l).length=l.length:=by simp [slsOf]
theorem ordsOf_get {l:List Cls} {k:Nat} (h:k < (ordsOf l).length):(ordsOf l)[k]=bare (at_ (orders (graphOf l)) ((3+k:Nat):Int)):=by simp [ordsOf]
theorem slsOf_get {l:List Cls} {k:Nat} (h:k < (slsOf l).length):(slsOf l)[k]=slotsOf l (3+k):=by simp [slsOf]
theorem s_turn_class (l:List Cls) (c:Int) (hl:l.length≤1000000000):V.Spec Tryz.prog 68 [schE l,V.int c] [] (V.bool (ownB l.length c)) []:=by
 rw [ownB]
 refine V.Spec.enter Tryz.tabOK Tryz.mixed Tryz.func68 rfl rfl rfl fun B hB=>?_
 (refine goS ?_ ?_<;>intro hc<;>refine go ?_)
 all_goals refine TX.rt1 [] (.bool ?_)
 ·have:3≤c:=by omega
  simp [this]
 ·have:¬ 3≤c:=by omega
  simp [this]
theorem s_turn_has (l:List Cls) (hb:l.length≤1000000000) {c:Nat} (h3:3≤c) (hc:c < 3+l.length):V.Spec Tryz.prog 69 [schE l,V.int c] [] (ints (slotsOf l c)) []:=by
 have hl:=slsOf_length l
 have e:(slsOf l)[((c:Int)-3).toNat]'(by omega)=slotsOf l c:=by rw [slsOf_get];congr 1;omega
 refine V.Spec.enter Tryz.tabOK Tryz.mixed Tryz.func69 rfl rfl rfl fun B hB=>?_
 refine go ?_
 rw [e]
 exact TX.rt1 [] (.ren rfl)
theorem bare_three {l:List Cls} (hf:fine (graphOf l)=true) {c:Nat} (h3:3≤c) (hc:c < 3+l.length):∀ x∈bare (at_ (orders (graphOf l)) c),3≤x∧x < 3+(l.length:Int):=by
 intro x hx
 have hgl:(graphOf l).length=l.length:=by simp [graphOf]
 have h16:=fine_len hf
 by_cases hne:at_ (orders (graphOf l)) c=[]
 ·rw [hne] at hx;simp [bare,without] at hx
 ·obtain ⟨m1,_,_⟩:=ord_main hf (c+1) c (by omega) (by omega) hne
  rw [bare,mem_without] at hx
  obtain ⟨h1,h2⟩:=(m1 x).1 hx.1
  have:=upHas_le hf (a:=c) (by omega) (b:=x) (by omega) (by omega) h2
  omega
theorem beginO_bare {l:List Cls} (o:List Int) (s:Int):beginO l (bare o) s=beginO l o s:=by
 induction o with
 | nil=>rfl
 | cons x r ih =>
   rw [beginO_cons]
   by_cases h:x=0
   ·subst h
    have:initOf l s 0=none:=by rw [initOf,if_pos (by decide)]
    rw [this,← ih]
    simp [bare,without]
   ·have:bare (x::r)=x::bare r:=by simp [bare,without,h]
    rw [this,beginO_cons,ih]
theorem s_begin_1 (i:Int × Int) (s:Int):V.Spec Tryz.prog 110 [initA i,.ep [V.int s] 0] [] (V.bool (i.1==s)) []:=by
 refine V.Spec.enter Tryz.tabOK Tryz.mixed Tryz.func110 rfl rfl rfl fun B hB=>?_
 repeat' (with_reducible first|refine OL.st ?_|refine OL.box ?_|refine TC.region ?_|refine TC.seq ?_|refine OL.nil ?_|refine TX.thenN ?_|refine TC.ret ?_|fail)
 all_goals refine TX.rt1 [] (.bool ?_)
 all_goals rw [Bool.eq_iff_iff,decide_eq_true_eq,beq_iff_eq]
theorem s_slices_IndexFunc_Lapi_BindInit_api_BindInit (l:List (Int × Int)) (p:Int × Int→Bool):V.Spec Tryz.prog 109 [.sl 2 none (l.map initA),predE Tryz.prog initA (·∈l) p] [] (V.int (fidx p 0 l)) []:=by
 refine V.Spec.enter Tryz.tabOK Tryz.mixed Tryz.func109 rfl rfl rfl fun B hB=>?_
 refine TC.bl 0 fun hl=>?_
 refine go ?_
 refine TC.lp (fun k:Nat=>[(0,.sl 2 none (l.map initA)),(1,predE Tryz.prog initA (·∈l) p),(7,V.int l.length),(8,V.int k)]) (fun _=>[]) (fun k=>k≤l.length∧fidx p 0 l=fidx p k (l.drop k)) (fun k=>l.length-k) 0 [] ⟨Nat.zero_le _,rfl⟩ ?_
 rintro k ⟨hk,hinv⟩
 (refine goS ?_ ?_<;>intro hc<;>refine go ?_)
 ·refine OL.cf l[k] (List.getElem_mem _) ?_
  refine go ?_
  refine TC.ifB (fun hp=>?_) (fun hp=>?_)
  ·refine go ?_
   refine TX.rt1 [] (.int ?_)
   rw [hinv,drop_cons (by omega)]
   simp [fidx,hp]
  ·refine go ?_
   refine TX.rd (k+1) [] ⟨by omega,?_⟩ (by omega)
   rw [hinv,drop_cons (by omega)]
   simp [fidx,hp]
 ·refine TX.rt1 [] (.int ?_)
  rw [hinv,drop_nil (by omega)]
  rfl
theorem s_slices_ContainsFunc_Lapi_BindInit_api_BindInit (l:List (Int × Int)) (p:Int × Int→Bool):V.Spec Tryz.prog 170 [.sl 2 none (l.map initA),predE Tryz.prog initA (·∈l) p] [] (V.bool (l.any p)) []:=by
 refine V.Spec.enter Tryz.tabOK Tryz.mixed Tryz.func170 rfl rfl rfl fun B hB=>?_
 refine go ?_
 refine OL.c (s_slices_IndexFunc_Lapi_BindInit_api_BindInit l p) Tryz.func109 ?_
 refine go ?_
 refine TX.rt1 [] (.bool ?_)
 cases h:l.any p
 ·rw [decide_eq_false];intro h';rw [(fidx_nonneg _ _ _).1 h'] at h;cases h
 ·exact decide_eq_true ((fidx_nonneg _ _ _).2 h)
theorem s_slices_IndexFunc_Lapi_MeanVal_api_MeanVal (l:List (Int × Int)) (p:Int × Int→Bool):V.Spec Tryz.prog 143 [.sl 2 none (l.map valA),predE Tryz.prog valA (·∈l) p] [] (V.int (fidx p 0 l)) []:=by
 refine V.Spec.enter Tryz.tabOK Tryz.mixed Tryz.func143 rfl rfl rfl fun B hB=>?_
 refine TC.bl 0 fun hl=>?_
 refine go ?_
 refine TC.lp (fun k:Nat=>[(0,.sl 2 none (l.map valA)),(1,predE Tryz.prog valA (·∈l) p),(7,V.int l.length),(8,V.int k)]) (fun _=>[]) (fun k=>k≤l.length∧fidx p 0 l=fidx p k (l.drop k)) (fun k=>l.length-k) 0 [] ⟨Nat.zero_le _,rfl⟩ ?_
 rintro k ⟨hk,hinv⟩
 (refine goS ?_ ?_<;>intro hc<;>refine go ?_)
 ·refine OL.cf l[k] (List.getElem_mem _) ?_
  refine go ?_
  refine TC.ifB (fun hp=>?_) (fun hp=>?_)
  ·refine go ?_
   refine TX.rt1 [] (.int ?_)
   rw [hinv,drop_cons (by omega)]
   simp [fidx,hp]
  ·refine go ?_
   refine TX.rd (k+1) [] ⟨by omega,?_⟩ (by omega)
   rw [hinv,drop_cons (by omega)]
   simp [fidx,hp]
 ·refine TX.rt1 [] (.int ?_)
  rw [hinv,drop_nil (by omega)]
  rfl
theorem s_slices_ContainsFunc_Lapi_MeanVal_api_MeanVal (l:List (Int × Int)) (p:Int × Int→Bool):V.Spec Tryz.prog 101 [.sl 2 none (l.map valA),predE Tryz.prog valA (·∈l) p] [] (V.bool (l.any p)) []:=by
 refine V.Spec.enter Tryz.tabOK Tryz.mixed Tryz.func101 rfl rfl rfl fun B hB=>?_
 refine go ?_
 refine OL.c (s_slices_IndexFunc_Lapi_MeanVal_api_MeanVal l p) Tryz.func143 ?_
 refine go ?_
 refine TX.rt1 [] (.bool ?_)
 cases h:l.any p
 ·rw [decide_eq_false];intro h';rw [(fidx_nonneg _ _ _).1 h'] at h;cases h
 ·exact decide_eq_true ((fidx_nonneg _ _ _).2 h)
theorem fidx_find (l:List (Int × Int)) (s:Int):(fidx (fun p:Int × Int=>p.1==s) 0 l < 0∧l.find? (fun p=>p.1==s)=none)∨∃ i:Nat,i < l.length∧fidx (fun p:Int × Int=>p.1==s) 0 l=i∧l.find? (fun p=>p.1==s)=some (l.getD i (0,0)):=by
 have key:∀ (l:List (Int × Int)) (k:Nat),(fidx (fun p:Int × Int=>p.1==s) k l=-1∧l.find? (fun p=>p.1==s)=none)∨∃ i:Nat,i < l.length∧fidx (fun p:Int × Int=>p.1==s) k l=(k:Int)+i∧l.find? (fun p=>p.1==s)=some (l.getD i (0,0)):=by
  intro l
  induction l with
  | nil=>intro k;exact .inl ⟨rfl,rfl⟩
  | cons x r ih =>
    intro k
    rw [fidx,List.find?_cons]
    cases hp:x.1==s with
    | true=>exact .inr ⟨0,by simp,by simp,by simp⟩
    | false =>
      rcases ih (k+1) with ⟨h1,h2⟩|⟨i,h1,h2,h3⟩
      ·exact .inl ⟨by simpa using h1,by simpa using h2⟩
      ·refine .inr ⟨i+1,by simpa using h1,by simp only [Bool.false_eq_true,if_false];rw [h2];push_cast;omega,by simpa using h3⟩
 rcases key l 0 with ⟨h1,h2⟩|⟨i,h1,h2,h3⟩
 ·exact .inl ⟨by omega,h2⟩
 ·exact .inr ⟨i,h1,by omega,h3⟩
theorem s_turn_begin {l:List Cls} (hf:fine (graphOf l)=true) {c:Nat} (h3:3≤c) (hc:c < 3+l.length) (s:Int):V.Spec Tryz.prog 74 [schE l,V.int c,V.int s] [] (valA (beginV l c s)) []:=by
 have h16:=fine_len hf
 rw [show (graphOf l).length=l.length by simp [graphOf]] at h16
 have hl:=ordsOf_length l
 have e:(ordsOf l)[((c:Int)-3).toNat]'(by omega)=bare (at_ (orders (graphOf l)) c):=by rw [ordsOf_get];congr 3;omega
 have hb3:=bare_three hf h3 hc
 have hbv:beginV l c s=optV (beginO l (bare (at_ (orders (graphOf l)) c)) s):=by rw [beginO_bare];rfl
 rw [hbv]
 generalize bare (at_ (orders (graphOf l)) c)=o at *
 refine V.Spec.enter Tryz.tabOK Tryz.mixed Tryz.func74 rfl rfl rfl fun B hB=>?_
 refine go ?_
 rw [e]
 refine TC.bl 18 fun hol=>?_
 refine TC.frzA 0 ?_
 refine TC.lp (fun k:Nat=>[(0,schE l),(5,.ep [V.int s] 0),(6,.bp 0 0),(18,ints o),(19,V.int o.length),(20,V.int k)]) (fun _=>[.cb Tc.api_MeanVal [.raw (.int .i64 0),.raw (.int .i64 0)]]) (fun k=>k≤o.length∧beginO l o s=beginO l (o.drop k) s) (fun k=>o.length-k) 0 [1] ⟨Nat.zero_le _,rfl⟩ ?_
 rintro k ⟨hk,hinv⟩
 by_cases hkl:k < o.length
 ·have hb:=hb3 o[k] (List.getElem_mem _)
  have hci:clsAt l (o[k]-3).toNat=l[(o[k]-3).toNat]'(by omega):=by rw [clsAt,getD_lt]
  rw [drop_cons hkl,beginO_cons,initOf,if_neg (by omega),hci] at hinv
  have hif:=s_slices_IndexFunc_Lapi_BindInit_api_BindInit (l[(o[k]-3).toNat]'(by omega)).2.2 (fun p=>p.1==s)
  have hff:=fidx_find (l[(o[k]-3).toNat]'(by omega)).2.2 s
  generalize hie:(l[(o[k]-3).toNat]'(by omega)).2.2=is at *
  rcases hff with ⟨f1,f2⟩|⟨i,f1,f2,f3⟩
  ·rw [f2] at hinv
   generalize fidx (fun p:Int × Int=>p.1==s) 0 is=fi at *
   refine go ?_
   simp only [hie]
   refine OL.c hif Tryz.func109 ?_ (hle:=by exact ⟨.ren rfl,LE.fun_ (first':=[]) (caps':=[.ep [V.int s] 0]) Tryz.func110 rfl trivial ⟨.ren rfl,trivial⟩ (fun x hx=>s_begin_1 x s),trivial⟩)
   refine go ?_
   exact TX.rd (k+1) [0] ⟨by omega,hinv⟩ (by omega)
  ·rw [f3,getD_lt f1] at hinv
   rw [f2] at hif
   have e:beginO l o s=some is[i].2:=hinv
   rw [e]
   refine go ?_
   simp only [hie]
   refine OL.c hif Tryz.func109 ?_ (hle:=by exact ⟨.ren rfl,LE.fun_ (first':=[]) (caps':=[.ep [V.int s] 0]) Tryz.func110 rfl trivial ⟨.ren rfl,trivial⟩ (fun x hx=>s_begin_1 x s),trivial⟩)
   refine go ?_
   exact TX.rtc [] (.ren rfl)
 ·rw [drop_nil (by omega)] at hinv
  have e:beginO l o s=none:=hinv
  rw [e]
  refine go ?_
  exact TX.rtc [] (.ren rfl)
abbrev funI (P:Program) (dom:Int→Prop) (r:Int→AV):AV:=.pr (FunMP P dom (fun c=>[V.int c]) r (fun _=>[]))
theorem s_each_int_Lint (l:List Int) (f:Int→List Int) (hb:l.length≤1000000000):V.Spec Tryz.prog 124 [ints l,funI Tryz.prog (·∈l) (fun c=>ints (f c))] [] (.sl 1 none ((l.map f).map ints)) []:=by
 refine V.Spec.enter Tryz.tabOK Tryz.mixed Tryz.func124 rfl rfl rfl fun B hB=>?_
 refine go ?_
 refine TC.adp 5 Tc.Lint 1 ?_
 refine TC.lp (fun k:Nat=>[(1,funI Tryz.prog (·∈l) (fun c=>ints (f c))),(5,.hs 0),(8,ints l),(9,V.int l.length),(10,V.int k)]) (fun k=>[.gs false Tc.Lint 1 none (((l.take k).map f).map ints)]) (fun k=>k≤l.length) (fun k=>l.length-k) 0 [0] (Nat.zero_le _) ?_
 rintro k hk
 by_cases hkl:k < l.length
 ·have hlen:((l.take k).map f).length=k:=by simp;omega
  have e:((l.take k).map f).map ints++[ints (f l[k])]=((l.take (k+1)).map f).map ints:=by rw [take_succ hkl,List.map_append,List.map_append];rfl
  generalize (l.take k).map f=gk at *
  refine go ?_
  refine OL.cf l[k] (List.getElem_mem _) ?_
  refine go ?_
  exact TX.rd (k+1) [2] (by omega) (by omega)
 ·rw [take_all (by omega)]
  refine go ?_
  refine TX.vw 4 ?_
  exact TX.rt1 [] (.ren rfl)
theorem s_each_int_api_MeanVal (l:List Int) (f:Int→Int × Int) (hb:l.length≤1000000000):V.Spec Tryz.prog 158 [ints l,funI Tryz.prog (·∈l) (fun c=>valA (f c))] [] (.sl 2 none ((l.map f).map valA)) []:=by
 refine V.Spec.enter Tryz.tabOK Tryz.mixed Tryz.func158 rfl rfl rfl fun B hB=>?_
 refine go ?_
 refine TC.adp 5 Tc.api_MeanVal 2 ?_
 refine TC.lp (fun k:Nat=>[(1,funI Tryz.prog (·∈l) (fun c=>valA (f c))),(5,.hs 0),(8,ints l),(9,V.int l.length),(10,V.int k)]) (fun k=>[.gs false Tc.api_MeanVal 2 none (((l.take k).map f).map valA)]) (fun k=>k≤l.length) (fun k=>l.length-k) 0 [0] (Nat.zero_le _) ?_
 rintro k hk
 by_cases hkl:k < l.length
 ·have hlen:((l.take k).map f).length=k:=by simp;omega
  have e:((l.take k).map f).map valA++[valA (f l[k])]=((l.take (k+1)).map f).map valA:=by rw [take_succ hkl,List.map_append,List.map_append];rfl
  generalize (l.take k).map f=gk at *
  refine go ?_
  refine OL.cf l[k] (List.getElem_mem _) ?_
  refine go ?_
  exact TX.rd (k+1) [2] (by omega) (by omega)
 ·rw [take_all (by omega)]
  refine go ?_
  refine TX.vw 4 ?_
  exact TX.rt1 [] (.ren rfl)
theorem s_each_NI (l:List (Int × Int)) (f:Int × Int→Int) (hb:l.length*16≤140737488355328):V.Spec Tryz.prog 168 [initsA l,.pr (FunMP Tryz.prog (·∈l) (fun c=>[initA c]) (fun c=>V.int (f c)) (fun _=>[]))] [] (ints (l.map f)) []:=by
 refine V.Spec.enter Tryz.tabOK Tryz.mixed Tryz.func168 rfl rfl rfl fun B hB=>?_
 refine go ?_
 refine TC.adp 5 Tc.int 1 ?_
 refine TC.lp (fun k:Nat=>[(1,.pr (FunMP Tryz.prog (·∈l) (fun c=>[initA c]) (fun c=>V.int (f c)) (fun _=>[]))),(5,.hs 0),(8,initsA l),(9,V.int l.length),(10,V.int k)]) (fun k=>[.gs false Tc.int 1 none (((l.take k).map f).map V.int)]) (fun k=>k≤l.length) (fun k=>l.length-k) 0 [0] (Nat.zero_le _) ?_
 rintro k hk
 by_cases hkl:k < l.length
 ·have hlen:((l.take k).map f).length=k:=by simp;omega
  have e:((l.take k).map f).map V.int++[V.int (f l[k])]=((l.take (k+1)).map f).map V.int:=by rw [take_succ hkl,List.map_append,List.map_append];rfl
  generalize (l.take k).map f=gk at *
  refine go ?_
  refine OL.cf l[k] (List.getElem_mem _) ?_
  refine go ?_
  exact TX.rd (k+1) [3] (by omega) (by omega)
 ·rw [take_all (by omega)]
  refine go ?_
  refine TX.vw 4 ?_
  exact TX.rt1 [] (.ren rfl)
theorem fidx_placeN (n:Int):∀ (l:List Int) (k:Nat),fidx (fun x=>n==x) k l=placeN l n k
 | [],k=>rfl
 | x::r,k=>by
   rw [fidx,placeN]
   by_cases h:x=n
   ·subst h;simp
   ·have:(n==x)=false:=by rw [beq_eq_false_iff_ne];exact fun e=>h e.symm
    rw [this,if_neg h]
    have:=fidx_placeN n r (k+1)
    simpa using this
theorem s_kept_1 {l:List Cls} (hf:fine (graphOf l)=true) {c:Nat} (h3:3≤c) (hc:c < 3+l.length) {slots:List Int} {vals:List (Int × Int)} (hsv:slots.length≤vals.length) (s:Int) :
  V.Spec Tryz.prog 159 [V.int s,.ep [ints slots] 0,.ep [valsA vals] 0,.ep [schE l] 0,.ep [V.int c] 0] [] (valA (keptV l c slots vals s)) []:=by
 have hix:=s_slices_Index_Lint_int slots s
 have hbe:=s_turn_begin hf h3 hc s
 have hpl:=placeN_lt slots s
 have hfp:=fidx_placeN s slots 0
 rw [Int.natCast_zero] at hfp
 rw [hfp] at hix
 rw [keptV]
 generalize placeN slots s 0=p at *
 refine V.Spec.enter Tryz.tabOK Tryz.mixed Tryz.func159 rfl rfl rfl fun B hB=>?_
 by_cases h0:0≤p
 ·rw [if_pos h0,getD_lt (by omega)]
  refine go ?_
  refine OL.c hix Tryz.func78 ?_
  refine go ?_
  exact TX.rtc [] (.ren rfl)
 ·rw [if_neg h0]
  refine go ?_
  refine OL.c hix Tryz.func78 ?_
  refine go ?_
  refine OL.c hbe Tryz.func74 ?_
  refine go ?_
  exact TX.rtc [] (.ren rfl)
theorem s_turn_kept {l:List Cls} (hf:fine (graphOf l)=true) (hl:l.length≤10) {c:Nat} (h3:3≤c) (hc:c < 3+l.length) {slots:List Int} {vals:List (Int × Int)} (hsv:slots.length≤vals.length) :
  V.Spec Tryz.prog 115 [schE l,V.int c,ints slots,valsA vals] [] (valsA (turnedV l c slots vals)) []:=by
 have hha:=s_turn_has l (by omega) h3 hc
 have hsl:(slotsOf l c).length≤400:=Nat.le_trans (slotsTo_len l c 40) (by omega)
 have hea:=s_each_int_api_MeanVal (slotsOf l c) (keptV l c slots vals) (by omega)
 rw [← turnedV] at hea
 refine V.Spec.enter Tryz.tabOK Tryz.mixed Tryz.func115 rfl rfl rfl fun B hB=>?_
 refine go ?_
 refine OL.frzA 0 ?_
 refine OL.frzA 1 ?_
 refine OL.frzA 2 ?_
 refine OL.frzA 3 ?_
 refine OL.c hha Tryz.func69 ?_
 refine go ?_
 refine OL.c hea Tryz.func158 ?_ (hle:=by exact ⟨.ren rfl,LE.fun_ (first':=[]) (caps':=[.ep [ints slots] 0,.ep [valsA vals] 0,.ep [schE l] 0,.ep [V.int c] 0]) Tryz.func159 rfl trivial ⟨.ren rfl,.ren rfl,.ren rfl,.ren rfl,trivial⟩ (fun x hx=>s_kept_1 hf h3 hc hsv x),trivial⟩)
 refine go ?_
 exact TX.rt1 [] (.ren rfl)
end Go.Proofs
namespace Go.Proofs
open Go Go.W Go.V
theorem s_slices_Grow (n:Nat) (hn:n*8≤140737488355328):V.Spec Tryz.prog 165 [.raw (.slice none 0 0),V.int n] [] (.hs 0) [.gs false Tc.int 1 none []]:=by
 intro m w γ vs hH hV
 match vs,hV with
 | [v,u],⟨h1,h2,_⟩ =>
 obtain rfl:=h1.raw_eq
 obtain rfl:=h2.raw_eq
 have hγ:γ=[]:=List.eq_nil_of_length_eq_zero hH.len
 have hI:In (baseOf m w γ []) m w γ []:=⟨hH,.refl _ _ _,fun i v o b h1 h2 h3=>by simp at h2,.refl _⟩
 by_cases h0:n=0
 ·subst h0
  refine (Any8.slices_Grow_room Tryz.growI none 0 0 0 w (by omega) (by omega) (by omega) (by omega)).mono fun e w' ⟨he,hw⟩=>?_
  subst hw
  exact ⟨_,m,γ++[.slice none 0 0],he,hI.new (v:=.slice none 0 0) (o:=.gs false Tc.int 1 none []) (Keep.refl m w') ⟨⟨m,.inl ⟨rfl,rfl⟩,fun _ _=>rfl,fun b hb=>by simp [W.ownB] at hb⟩,NL.none _,by simp⟩ (fun b hb=>by simp [blk,W.ownB] at hb),.hs (by simp [hγ])⟩
 ·obtain ⟨inf,i1,i2,i3,i4,i5⟩:=(Tryz.tabOK 3 _ rfl).info
  have hsz:inf.size=1:=i2.trans rfl
  have hby:inf.bytes=8:=i3.trans rfl
  refine (Any8.slices_Grow_grow Tryz.growI inf _ i1 i4 (by omega) none 0 0 n [] w (by omega) (by omega) (by rw [hby];omega) (by omega) (by simp) (fun _=>rfl) (fun a h=>by cases h)).mono fun e w' ⟨he,hw⟩=>?_
  have hk:Keep m w (mset m w.heap.size 0) w':=by
   subst hw
   rw [Sort.alloc_eq_grow]
   refine ⟨⟨rfl,rfl,rfl,by rw [Sort.size_grow];show w.heap.size≤w.heap.size+_;omega,fun b hb _=>?_⟩,fun b hb=>mset_ne (by omega)⟩
   show (w.heap++_)[b]?=_
   rw [Array.getElem?_append_left hb]
  have hge:=grownCap_ge w (0+n) 0 3
  have hle:=grownCap_le_maxLen w (0+n) 0 3 (by have:maxLen=9223372036854775807:=rfl;omega)
  have hren:Tryz.growI_ren.t 25=3:=rfl
  rw [hren] at he hw
  generalize grownCap w (0+n) 0 3=cap at *
  obtain ⟨cur,hheap,hcs⟩:∃ cur:Array Value,w'.heap[w.heap.size]?=some (.cells cur 3 (0,0))∧cur.size=cap:=by
   subst hw
   rw [Sort.alloc_eq_grow]
   refine ⟨_,by show (w.heap++#[_])[w.heap.size]?=_;rw [Array.getElem?_append_right (Nat.le_refl _),Nat.sub_self];rfl,?_⟩
   have hz:∀ k,(Builtin.zeroCells (Value.int .i64 0).cells k).size=k:=fun k=>by simp [Builtin.zeroCells,Value.cells]
   show ((#[]:Array Value)++Builtin.zeroCells (Value.int .i64 0).cells _++Builtin.zeroCells (Value.int .i64 0).cells _).size=_
   rw [Array.size_append,Array.size_append,hz,hz]
   simp;omega
  refine ⟨_,mset m w.heap.size 0,γ++[.slice (some ⟨w.heap.size,0,none⟩) 0 cap],he,hI.new (v:=.slice (some ⟨w.heap.size,0,none⟩) 0 cap) (o:=.gs false Tc.int 1 none []) hk ⟨⟨mset m w.heap.size 0,.inr (.inr ⟨_,cap,_,rfl,by omega,hheap,by simp,hle,by rw [hcs];omega,by simp,by simp⟩),fun _ _=>rfl,fun b hb=>?_⟩,NL.none _,by simp⟩ (fun b hb=>?_),.hs (by simp [hγ])⟩
  ·obtain ⟨c',rfl⟩:∃ c',cap=c'+1:=⟨cap-1,by omega⟩
   simp [W.ownB] at hb
   subst hb
   simp
  ·obtain ⟨c',rfl⟩:∃ c',cap=c'+1:=⟨cap-1,by omega⟩
   simp [blk,W.ownB] at hb
   omega
theorem s_slices_Concat (ls:List (List Int)) (hl:∀ k,(ls.take k).flatten.length≤1000000) (hll:ls.length≤1000000):V.Spec Tryz.prog 123 [rows ls] [] (.hs 0) [.gs false Tc.int 1 none (ls.flatten.map V.int)]:=by
 have hall:=hl ls.length
 rw [List.take_length] at hall
 have hg:=s_slices_Grow ls.flatten.length (by omega)
 refine V.Spec.enter Tryz.tabOK Tryz.mixed Tryz.func123 rfl rfl rfl fun B hB=>?_
 repeat' (with_reducible first|refine OL.st ?_|refine TC.region ?_|refine TC.seq ?_|refine OL.nil ?_|refine TX.thenN ?_|refine TC.block ?_|fail)
 refine TC.lp (fun k:Nat=>[(0,rows ls),(3,V.int (ls.take k).flatten.length),(9,rows ls),(10,V.int ls.length),(11,V.int k)]) (fun _=>[]) (fun k=>k≤ls.length) (fun k=>ls.length-k) 0 [] (Nat.zero_le _) ?_
 rintro k hk
 have h1:=hl k
 by_cases hkl:k < ls.length
 ·have h2:=hl (k+1)
  have e:(((ls.take k).flatten.length:Nat):Int)+(ls[k].length:Nat)=((ls.take (k+1)).flatten.length:Nat):=by rw [take_succ hkl,List.flatten_append,List.length_append];simp
  generalize (ls.take k).flatten.length=q at *
  repeat' (with_reducible first|refine OL.st ?_|refine TC.region ?_|refine TC.seq ?_|refine OL.nil ?_|refine TX.thenN ?_|refine TC.block ?_|refine TC.skip ?_|refine TX.blkN ?_|refine TC.ifF ?_|refine TC.ifD ?_ ?_<;>(intro hc;try (exfalso;omega))|fail)
  exact TX.rd (k+1) [] (by omega) (by omega)
 ·rw [take_all (by omega)]
  repeat' (with_reducible first|refine OL.st ?_|refine TC.region ?_|refine TC.seq ?_|refine OL.nil ?_|refine TX.thenN ?_|refine TC.exit ?_|refine TX.hit ?_|refine TX.thenX ?_|refine TC.ifD ?_ ?_<;>(intro hc;try (exfalso;omega))|fail)
  refine OL.c hg Tryz.func165 ?_
  repeat' (with_reducible first|refine OL.st ?_|refine TC.region ?_|refine TC.seq ?_|refine OL.nil ?_|refine TX.thenN ?_|refine TC.block ?_|fail)
  refine TC.lp (fun k:Nat=>[(6,.hs 0),(25,rows ls),(26,V.int ls.length),(27,V.int k)]) (fun k=>[.gs false Tc.int 1 none ((ls.take k).flatten.map V.int)]) (fun k=>k≤ls.length) (fun k=>ls.length-k) 0 [0] (Nat.zero_le _) ?_
  rintro k hk
  have h1:=hl k
  by_cases hkl:k < ls.length
  ·have h2:=hl (k+1)
   have e2:(ls.take (k+1)).flatten=(ls.take k).flatten++ls[k]:=by rw [take_succ hkl,List.flatten_append];simp
   have e:(ls.take k).flatten.map V.int++ls[k].map V.int=(ls.take (k+1)).flatten.map V.int:=by rw [e2,List.map_append]
   rw [e2,List.length_append] at h2
   generalize (ls.take k).flatten=q at *
   repeat' (with_reducible first|refine OL.st ?_|refine OL.app ?_|refine TC.region ?_|refine TC.seq ?_|refine OL.nil ?_|refine TX.thenN ?_|refine TC.block ?_|refine TC.skip ?_|refine TX.blkN ?_|refine TC.ifD ?_ ?_<;>(intro hc;try (exfalso;omega))|fail)
   exact TX.rd (k+1) [1] (by omega) (by omega)
  ·rw [take_all (by omega)]
   repeat' (with_reducible first|refine OL.st ?_|refine TC.region ?_|refine TC.seq ?_|refine OL.nil ?_|refine TX.thenN ?_|refine TC.exit ?_|refine TX.hit ?_|refine TX.thenX ?_|refine TC.ifD ?_ ?_<;>(intro hc;try (exfalso;omega))|refine TC.ret ?_|fail)
   exact TX.rt1 [0] (.ren rfl)
def slotR (n:Int):Bool:=decide (0≤n)&&decide (n < 40)
theorem s_read_2 (n:Int):V.Spec Tryz.prog 122 [V.int n] [] (V.bool (!slotR n)) []:=by
 rw [slotR]
 refine V.Spec.enter Tryz.tabOK Tryz.mixed Tryz.func122 rfl rfl rfl fun B hB=>?_
 repeat' (with_reducible first|refine OL.st ?_|refine TC.region ?_|refine TC.seq ?_|refine OL.nil ?_|refine TX.thenN ?_|refine OL.gOn ?_|refine OL.gOff ?_|refine OL.gD ?_ ?_<;>(intro hc;try (exfalso;omega))|refine TC.ret ?_|fail)
 all_goals refine TX.rt1 [] (.bool ?_)
 ·have:¬ 0≤n:=by omega
  simp [this]
 ·have:0≤n:=by omega
  rw [decide_eq_true this,Bool.true_and,← decide_not,decide_eq_decide];omega
theorem s_read_3 (l:List Cls) (hl:l.length≤1000) {c:Int} (hc:3≤c∧c < 3+(l.length:Int)):V.Spec Tryz.prog 125 [V.int c,.ep [clssA l] 0] [] (ints (clsAt l (c-3).toNat).2.1) []:=by
 have e:clsAt l (c-3).toNat=l[(c-3).toNat]'(by omega):=by rw [clsAt,getD_lt]
 rw [e]
 refine V.Spec.enter Tryz.tabOK Tryz.mixed Tryz.func125 rfl rfl rfl fun B hB=>?_
 repeat' (with_reducible first|refine OL.st ?_|refine TC.region ?_|refine TC.seq ?_|refine OL.nil ?_|refine TX.thenN ?_|refine TC.ret ?_|fail)
 exact TX.rt1 [] (.ren rfl)
theorem s_starts_1 (i:Int × Int):V.Spec Tryz.prog 169 [initA i] [] (V.int i.1) []:=by
 refine V.Spec.enter Tryz.tabOK Tryz.mixed Tryz.func169 rfl rfl rfl fun B hB=>?_
 repeat' (with_reducible first|refine OL.st ?_|refine OL.box ?_|refine TC.region ?_|refine TC.seq ?_|refine OL.nil ?_|refine TX.thenN ?_|refine TC.ret ?_|fail)
 exact TX.rt1 [] (.ren rfl)
end Go.Proofs
namespace Go.Proofs
open Go Go.W Go.V
theorem slotR_iff (s:Int):slotR s=true↔0≤s∧s < 40:=by rw [slotR,Bool.and_eq_true,decide_eq_true_eq,decide_eq_true_eq]
theorem slotsOk_iff:∀ (ss met:List Int),slotsOk met ss=true↔(∀ s∈ss,slotR s=true)∧ss.Nodup∧∀ s∈ss,s ∉ met
 | [],met=>by simp [slotsOk]
 | s::r,met=>by
   rw [slotsOk,← slotR,Bool.and_eq_true,Bool.and_eq_true,slotsOk_iff r]
   simp only [Bool.not_eq_true',List.contains_eq_mem,decide_eq_false_iff_not,List.mem_cons,List.nodup_cons,List.mem_append,List.not_mem_nil,or_false,forall_eq_or_imp]
   constructor
   ·rintro ⟨⟨h1,h2⟩,h3,h4,h5⟩
    exact ⟨⟨h1,h3⟩,⟨fun h=>(h5 s h) (.inr rfl),h4⟩,h2,fun x hx h=>h5 x hx (.inl h)⟩
   ·rintro ⟨⟨h1,h2⟩,⟨h3,h4⟩,h5,h6⟩
    refine ⟨⟨h1,h5⟩,h2,h4,fun x hx h=>?_⟩
    rcases h with h|h
    ·exact h6 x hx h
    ·subst h;exact h3 hx
def clsP (g:List (List Int)) (l:List Cls) (k:Nat):Prop:=∀ j (h:j < l.length),0 < (at_ (orders g) ((3+(k+j):Nat):Int)).length∧l[j].2.1.length≤4
theorem clsP_cons {g:List (List Int)} {x:Cls} {r:List Cls} {k:Nat}:clsP g (x::r) k↔(0 < (at_ (orders g) ((3+k:Nat):Int)).length∧x.2.1.length≤4)∧clsP g r (k+1):=by
 constructor
 ·intro h
  refine ⟨h 0 (by simp),fun j hj=>?_⟩
  have:=h (j+1) (by simpa using hj)
  rw [show 3+(k+1+j)=3+(k+(j+1)) by omega]
  simpa using this
 ·rintro ⟨h1,h2⟩ j hj
  match j with
  | 0=>simpa using h1
  | j+1 =>
    have:=h2 j (by simpa using hj)
    rw [show 3+(k+1+j)=3+(k+(j+1)) by omega] at this
    simpa using this
theorem clsOk_iff (g:List (List Int)):∀ (l:List Cls) (k:Nat) (met:List Int),clsOk g k met l=true↔clsP g l k∧(metOf l).Nodup∧∀ s∈metOf l,slotR s=true∧s ∉ met
 | [],k,met=>by simp [clsOk,clsP,metOf]
 | x::r,k,met=>by
   have hm:metOf (x::r)=x.2.1++metOf r:=by simp [metOf]
   rw [clsOk,Bool.and_eq_true,Bool.and_eq_true,Bool.and_eq_true,decide_eq_true_eq,decide_eq_true_eq,slotsOk_iff,clsOk_iff g r,clsP_cons,hm,List.nodup_append]
   constructor
   ·rintro ⟨h1,⟨h2,h3,h4⟩,h5,h6,h7⟩
    refine ⟨⟨h1,h5⟩,⟨h3,h6,fun a ha b hb e=>?_⟩,fun s hs=>?_⟩
    ·subst e;exact (h7 a hb).2 (List.mem_append_right _ ha)
    ·rcases List.mem_append.1 hs with h|h
     ·exact ⟨h2 s h,h4 s h⟩
     ·exact ⟨(h7 s h).1,fun hm=>(h7 s h).2 (List.mem_append_left _ hm)⟩
   ·rintro ⟨⟨h1,h5⟩,⟨h3,h6,h8⟩,h7⟩
    refine ⟨h1,⟨fun s hs=>(h7 s (List.mem_append_left _ hs)).1,h3,fun s hs=>(h7 s (List.mem_append_left _ hs)).2⟩,h5,h6,fun s hs=>⟨(h7 s (List.mem_append_right _ hs)).1,fun hm=>?_⟩⟩
    rcases List.mem_append.1 hm with h|h
    ·exact (h7 s (List.mem_append_right _ hs)).2 h
    ·exact h8 s h s hs rfl
def iniBad (has:List Int) (x:Int × Int):Bool:=!has.contains x.1 || (decide (x.2 < -1000000000) || decide (1000000000 < x.2))
theorem initsOk_iff (has:List Int):∀ (is:List (Int × Int)) (own:List Int),initsOk has own is=true↔((is.map (·.1)).Nodup∧is.any (iniBad has)=false)∧∀ x∈is,x.1 ∉ own
 | [],own=>by simp [initsOk]
 | x::r,own=>by
   rw [initsOk,Bool.and_eq_true,Bool.and_eq_true,Bool.and_eq_true,Bool.and_eq_true,decide_eq_true_eq,decide_eq_true_eq,initsOk_iff has r,List.any_cons,Bool.or_eq_false_iff]
   simp only [iniBad,Bool.or_eq_false_iff,Bool.not_eq_true',Bool.not_eq_false',decide_eq_false_iff_not,List.contains_eq_mem,decide_eq_true_eq,List.map_cons,List.nodup_cons,List.mem_cons,forall_eq_or_imp,List.mem_append,List.not_mem_nil,or_false,List.mem_map]
   constructor
   ·rintro ⟨⟨⟨h1,h2⟩,h3,h4⟩,⟨h5,h6⟩,h7⟩
    exact ⟨⟨⟨fun ⟨a,ha,e⟩=>h7 a ha (.inr e),h5⟩,⟨h1,by omega,by omega⟩,h6⟩,h2,fun a ha h=>h7 a ha (.inl h)⟩
   ·rintro ⟨⟨⟨h1,h5⟩,⟨h2,h3,h4⟩,h6⟩,h7,h8⟩
    refine ⟨⟨⟨h2,h7⟩,by omega,by omega⟩,⟨h5,h6⟩,fun a ha h=>?_⟩
    rcases h with h|h
    ·exact h8 a ha h
    ·exact h1 ⟨a,ha,h⟩
theorem iniAt_eq (l:List Cls) (k:Nat):iniAt l k=(decide ((clsAt l k).2.2.map (·.1)).Nodup&&!(clsAt l k).2.2.any (iniBad (slotsOf l (3+k)))):=by
 rw [Bool.eq_iff_iff,iniAt,initsOk_iff,Bool.and_eq_true,decide_eq_true_eq,Bool.not_eq_true']
 simp
theorem slotsOfN_eq {l:List Cls} {c:Nat} {s:Int}:∀ {n:Nat} {x:Int},x∈slotsOfN l c s n→x=s:=fun {n x} h=>by
 rw [slotsOfN,List.mem_flatMap] at h
 obtain ⟨k,_,h⟩:=h
 split at h
 ·simpa using h
 ·simp at h
theorem slotsTo_sorted (l:List Cls) (c:Nat):∀ n,(slotsTo l c n).Pairwise (·≤·)
 | 0=>by simp [slotsTo,upto]
 | n+1=>by
   rw [slotsTo_succ,List.pairwise_append]
   refine ⟨slotsTo_sorted l c n,?_,fun a ha b hb=>?_⟩
   ·rw [List.pairwise_iff_getElem]
    intro i j hi hj _
    rw [slotsOfN_eq (List.getElem_mem hi),slotsOfN_eq (List.getElem_mem hj)];omega
   ·have:=(mem_slotsTo.1 ha).1
    rw [slotsOfN_eq hb];omega
theorem slotsTo_nodup {l:List Cls} {c:Nat} (hu:∀ s j k,j < l.length→k < l.length→s∈(clsAt l j).2.1→s∈(clsAt l k).2.1→j=k):∀ n,(slotsTo l c n).Nodup
 | 0=>by simp [slotsTo,upto]
 | n+1=>by
   have key:∀ (s:Int) (m:Nat),m≤l.length→(slotsOfN l c s m=[]∧∀ k,k < m→ownSl l c s k=false)∨(slotsOfN l c s m=[s]∧∃ k,k < m∧ownSl l c s k=true):=by
    intro s m
    induction m with
    | zero=>intro _;exact .inl ⟨by simp [slotsOfN],fun k h=>by omega⟩
    | succ m ih =>
      intro hm
      rw [slotsOfN_succ]
      cases ho:ownSl l c s m with
      | false =>
        rcases ih (by omega) with ⟨h1,h2⟩|⟨h1,k,h2,h3⟩
        ·refine .inl ⟨by rw [h1];simp,fun k hk=>?_⟩
         by_cases e:k=m
         ·rw [e];exact ho
         ·exact h2 k (by omega)
        ·exact .inr ⟨by rw [h1];simp,k,by omega,h3⟩
      | true =>
        rcases ih (by omega) with ⟨h1,h2⟩|⟨h1,k,h2,h3⟩
        ·exact .inr ⟨by rw [h1];simp,m,by omega,ho⟩
        ·rw [ownSl,Bool.and_eq_true] at ho h3
         have:=hu s m k (by omega) (by omega) (by simpa using ho.1) (by simpa using h3.1)
         omega
   rw [slotsTo_succ,List.nodup_append]
   refine ⟨slotsTo_nodup hu n,?_,fun a ha b hb e=>?_⟩
   ·rcases key n l.length (Nat.le_refl _) with ⟨h,_⟩|⟨h,_⟩<;>rw [h]<;>simp
   ·have h1:=(mem_slotsTo.1 ha).1
    have h2:=slotsOfN_eq hb
    omega
theorem slots_sorted {l:List Cls} (hf:fine (graphOf l)=true) (hm:(metOf l).Nodup) (hr:∀ s∈metOf l,slotR s=true) {c:Nat} (h3:3≤c) (hc:c < 3+l.length) (hne:at_ (orders (graphOf l)) c≠[]) :
  sortI ((bare (at_ (orders (graphOf l)) c)).flatMap fun x=>(clsAt l (x-3).toNat).2.1)=slotsOf l c:=by
 have hgl:(graphOf l).length=l.length:=by simp [graphOf]
 have h16:=fine_len hf
 obtain ⟨m1,_,_⟩:=ord_main hf (c+1) c (by omega) (by omega) hne
 have hnd:=((orders_ok hf).1.at c).1
 have hb3:=bare_three hf h3 hc
 have hin:∀ k,k < l.length→∀ s∈(clsAt l k).2.1,s∈metOf l:=fun k hk s hs=>by
  rw [metOf,List.mem_flatMap]
  exact ⟨clsAt l k,by rw [clsAt,getD_lt hk];exact List.getElem_mem _,hs⟩
 have huniq:∀ (l:List Cls),(metOf l).Nodup→∀ j k,j < l.length→k < l.length→∀ s,s∈(clsAt l j).2.1→s∈(clsAt l k).2.1→j=k:=by
  intro l
  induction l with
  | nil=>intro _ j k hj;simp at hj
  | cons x r ih =>
    intro hm j k hj hk s h1 h2
    have hmm:metOf (x::r)=x.2.1++metOf r:=by simp [metOf]
    rw [hmm,List.nodup_append] at hm
    have hin:∀ k,k < r.length→∀ s∈(clsAt r k).2.1,s∈metOf r:=fun k hk s hs=>by
     rw [metOf,List.mem_flatMap]
     exact ⟨clsAt r k,by rw [clsAt,getD_lt hk];exact List.getElem_mem _,hs⟩
    match j,k with
    | 0,0=>rfl
    | 0,k+1=>exact absurd rfl (hm.2.2 s (by simpa [clsAt] using h1) s (hin k (by simpa using hk) s (by simpa [clsAt] using h2)))
    | j+1,0=>exact absurd rfl (hm.2.2 s (by simpa [clsAt] using h2) s (hin j (by simpa using hj) s (by simpa [clsAt] using h1)))
    | j+1,k+1=>rw [ih hm.2.1 j k (by simpa using hj) (by simpa using hk) s (by simpa [clsAt] using h1) (by simpa [clsAt] using h2)]
 have hsub:∀ k,k < l.length→(clsAt l k).2.1.Nodup:=fun k hk=>by
  rw [metOf,List.flatMap_def] at hm
  have:=List.pairwise_flatten.1 hm
  exact this.1 _ (List.mem_map_of_mem (f:=fun c:Cls=>c.2.1) (by rw [clsAt,getD_lt hk];exact List.getElem_mem _))
 have hbn:(bare (at_ (orders (graphOf l)) c)).Nodup:=List.filter_sublist.nodup hnd
 have hfn:((bare (at_ (orders (graphOf l)) c)).flatMap fun x=>(clsAt l (x-3).toNat).2.1).Nodup:=by
  rw [List.Nodup,List.flatMap_def,List.pairwise_flatten]
  refine ⟨fun a ha=>?_,?_⟩
  ·obtain ⟨x,hx,rfl⟩:=List.mem_map.1 ha
   exact hsub _ (by have:=hb3 x hx;omega)
  ·rw [List.pairwise_map]
   refine List.Pairwise.imp_of_mem (R:=fun a b=>a≠b) (fun {a b} ha hb hab s hs t ht e=>?_) hbn
   subst e
   have h1:=hb3 a ha
   have h2:=hb3 b hb
   have:=huniq l hm _ _ (by omega) (by omega) s hs ht
   exact hab (by omega)
 have hperm:((bare (at_ (orders (graphOf l)) c)).flatMap fun x=>(clsAt l (x-3).toNat).2.1).Perm (slotsOf l c):=by
  rw [List.perm_ext_iff_of_nodup hfn]
  ·intro s
   rw [slotsOf,mem_slotsTo,List.mem_flatMap]
   constructor
   ·rintro ⟨x,hx,hs⟩
    have h1:=hb3 x hx
    have h2:=(slotR_iff s).1 (hr s (hin _ (by omega) s hs))
    rw [bare,mem_without] at hx
    refine ⟨by omega,(x-3).toNat,by omega,?_⟩
    rw [ownSl,Bool.and_eq_true]
    refine ⟨by simpa using hs,?_⟩
    rw [show ((3+(x-3).toNat:Nat):Int)=x by omega]
    exact ((m1 x).1 hx.1).2
   ·rintro ⟨h1,k,hk,ho⟩
    rw [ownSl,Bool.and_eq_true] at ho
    refine ⟨((3+k:Nat):Int),?_,by rw [show (((3+k:Nat):Int)-3).toNat=k by omega];simpa using ho.1⟩
    rw [bare,mem_without]
    exact ⟨(m1 _).2 ⟨by omega,ho.2⟩,by omega⟩
  ·exact slotsTo_nodup (fun s j k hj hk=>huniq l hm j k hj hk s) 40
 have hss:(slotsOf l c).Pairwise (·≤·):=slotsTo_sorted l c 40
 refine List.Perm.eq_of_pairwise (le:=(·≤·)) (fun a b _ _ h1 h2=>by omega) (sortI_sorted _) hss ((sortI_perm _).trans hperm)
theorem s_starts_2 (l:List Cls) (os sl:List (List Int)) {k:Nat} (hk:k < sl.length) (_hsl:sl.length≤1000) (x:Int × Int):V.Spec Tryz.prog 171 [initA x,.ep [.ep [clssA l,rows os,rows sl] 0] 0,.ep [V.int k] 0] [] (V.bool (iniBad sl[k] x)) []:=by
 have hc:=s_slices_Contains_Lint_int sl[k] x.1
 rw [iniBad]
 cases h1:sl[k].contains x.1
 ·rw [h1] at hc
  refine V.Spec.enter Tryz.tabOK Tryz.mixed Tryz.func171 rfl rfl rfl fun B hB=>?_
  refine go ?_
  (with_reducible refine TC.draw (id:=1) true 22 22 ?_<;>refine OD.st4 0 1 2 3 ?_<;>refine OD.st4 4 5 6 7 ?_<;>refine OD.st 8 ?_<;>refine OD.c1 9 hc Tryz.func30 ?_<;>refine OD.st2 10 11 ?_<;>refine OD.of 12 ?_<;>refine OD.of 13 ?_<;>refine OD.of 14 ?_<;>refine OD.st2 15 16 ?_<;>refine OD.of 17 ?_<;>refine OD.of 18 ?_<;>refine OD.of 19 ?_<;>refine OD.st2 20 21 ?_<;>refine OD.dn ?_)
  all_goals refine go ?_
  all_goals exact TX.rt1 [] (.ren rfl)
 ·rw [h1] at hc
  refine V.Spec.enter Tryz.tabOK Tryz.mixed Tryz.func171 rfl rfl rfl fun B hB=>?_
  by_cases h2:x.2 < -1000000000
  ·rw [decide_eq_true h2]
   refine go ?_
   (with_reducible refine TC.draw (id:=1) true 22 22 ?_<;>refine OD.st4 0 1 2 3 ?_<;>refine OD.st4 4 5 6 7 ?_<;>refine OD.st 8 ?_<;>refine OD.c1 9 hc Tryz.func30 ?_<;>refine OD.st4 10 11 12 13 ?_<;>refine OD.st2 14 15 ?_<;>refine OD.st 16 ?_<;>refine OD.sD 21 ?_ ?_<;>(intro hc;try (exfalso;omega))<;>(first|(with_reducible refine OD.st 17 ?_)|(with_reducible refine OD.of 17 ?_))<;>refine OD.of 18 ?_<;>refine OD.of 19 ?_<;>refine OD.st2 20 21 ?_<;>refine OD.dn ?_)
   all_goals refine go ?_
   all_goals exact TX.rt1 [] (.ren rfl)
  ·rw [decide_eq_false h2]
   refine go ?_
   (with_reducible refine TC.draw (id:=1) true 22 22 ?_<;>refine OD.st4 0 1 2 3 ?_<;>refine OD.st4 4 5 6 7 ?_<;>refine OD.st 8 ?_<;>refine OD.c1 9 hc Tryz.func30 ?_<;>refine OD.st4 10 11 12 13 ?_<;>refine OD.st2 14 15 ?_<;>refine OD.st 16 ?_<;>refine OD.sD 21 ?_ ?_<;>(intro hc;try (exfalso;omega))<;>(first|(with_reducible refine OD.st 17 ?_)|(with_reducible refine OD.of 17 ?_))<;>refine OD.st4 18 19 20 21 ?_<;>refine OD.dn ?_)
   all_goals refine go ?_
   all_goals refine TX.rt1 [] (.bool ?_)
   all_goals simp
theorem s_starts (l:List Cls) (hs:Short l) (os sl:List (List Int)) {k:Nat} (hk:k < sl.length) (hkl:k < l.length) (hsl:sl.length≤1000):V.Spec Tryz.prog 127 [.ep [clssA l,rows os,rows sl] 0,V.int k] [] (V.bool (decide ((clsAt l k).2.2.map (·.1)).Nodup&&!(clsAt l k).2.2.any (iniBad sl[k]))) []:=by
 have e:clsAt l k=l[k]:=by rw [clsAt,getD_lt hkl]
 have hb:=(hs.2 l[k] (List.getElem_mem _)).2.2
 rw [e]
 have h1:=s_each_NI l[k].2.2 (·.1) hb
 have h2:=s_turn_once (l[k].2.2.map (·.1)) (by rw [List.length_map];omega)
 have h3:=s_slices_ContainsFunc_Lapi_BindInit_api_BindInit l[k].2.2 (iniBad sl[k])
 generalize hie:l[k].2.2=is at *
 refine V.Spec.enter Tryz.tabOK Tryz.mixed Tryz.func127 rfl rfl rfl fun B hB=>?_
 repeat' (first|(with_reducible first|refine OL.st ?_|refine OL.box ?_|refine TC.region ?_|refine TC.seq ?_|refine OL.nil ?_|refine TX.thenN ?_)|((with_reducible refine TC.draw (id:=1) true 9 9 ?_<;>refine OD.st4 0 1 2 3 ?_<;>refine OD.st4 4 5 6 7 ?_<;>refine OD.st 8 ?_<;>refine OD.dn ?_))|fail)
 simp only [hie]
 skip
 refine OL.c h1 Tryz.func168 ?_ (hle:=by exact ⟨.ren rfl,LE.fun_ (first':=[]) (caps':=[]) Tryz.func169 rfl trivial trivial (fun x hx=>s_starts_1 x),trivial⟩)
 refine go ?_
 refine OL.c h2 Tryz.func121 ?_
 cases ho:decide (is.map (·.1)).Nodup
 ·refine go ?_
  exact TX.rt1 [] (.ren rfl)
 ·refine go ?_
  refine OL.frzA 0 ?_
  refine OL.frzA 1 ?_
  refine OL.c h3 Tryz.func170 ?_ (hle:=by exact ⟨.ren rfl,LE.fun_ (first':=[]) (caps':=[.ep [.ep [clssA l,rows os,rows sl] 0] 0,.ep [V.int k] 0]) Tryz.func171 rfl trivial ⟨.ren rfl,.ren rfl,trivial⟩ (fun x hx=>s_starts_2 l os sl hk hsl x),trivial⟩)
  refine go ?_
  exact TX.rt1 [] (.ren rfl)
end Go.Proofs
