/- Part 30 of what the claim is proved by: lemmas on the model and walks through functions of the program; no conditions. -/
import Derived.Test.YtmdpbfghjdljiaaGreatQ13
import Derived.Test.YtmdpbfghjdljiaaGreatQ17
import Derived.Test.YtmdpbfghjdljiaaGreatQ29
import Derived.Test.YtmdpbfghjdljiaaGreatQ20
import Derived.Test.YtmdpbfghjdljiaaGreatQ27
import Derived.Test.YtmdpbfghjdljiaaGreatQ19
namespace Go.Proofs
open Go Go.W Go.V
theorem pure_things (ts:List Thing):∀ x∈ts.map thingA,x.cells.all pureA=true:=fun x hx=>by
 obtain ⟨l,_,rfl⟩:=List.mem_map.1 hx
 rfl
theorem ren_thing (τ:Nat→Option Nat) (t:Thing):V.ren τ (thingA t)=thingA t:=rfl
theorem ren_set {τ:Nat→Option Nat} {ts:List Thing} {n:Nat} {e e':AV} (h:V.ren τ e=e'):((ts.map thingA).set n e).map (V.ren τ)=(ts.map thingA).set n e':=by
 rw [List.map_set,List.map_map,h]
 exact congrArg (fun l=>List.set l n e') (List.map_congr_left fun t _=>ren_thing τ t)
abbrev stepO (lz:Bool) (ss:List (List Cls)) (ts:List Thing) (s:Step):Eta:=
 if s.d=1 then [.cb Tc.turn_world [V.bool lz,.hs 3,.hs 2],.dead,.gs false Tc.api_TurnThing 3 none ((doT lz ss ts s).map thingA),.gs true Tc.Pturn_schema 1 none ((doS ss s).map schE)]
 else if s.d=2 then [.cb Tc.turn_world [V.bool lz,.hs 1,.hs 3],.gs true Tc.Pturn_schema 1 none ((doS ss s).map schE),.dead,.gs false Tc.api_TurnThing 3 none ((doT lz ss ts s).map thingA)]
 else worldO lz (doS ss s) (doT lz ss ts s)
set_option maxHeartbeats 2000000 in
theorem s_turn_doMake (lz:Bool) {ss:List (List Cls)} {ts:List Thing} (h:WOk ss ts) (s:Step) (hk:ShortC s.k) (hs:StOk ss ts s) (d1:s.d=1) :
  V.Spec Tryz.prog 146 [.bp 0 0,stepA s] (worldO lz ss ts) (valA (doR ss ts s)) (stepO lz ss ts s):=by
 obtain ⟨n1,n12,lg,lsh,_⟩:=h.last
 obtain ⟨l10,lf⟩:=goodB_fine lg
 obtain ⟨m1,m2,m3⟩:=hs.m d1
 have hw':=step_ok (lz:=lz) h hk hs
 have hmd:=s_turn_made lz h s hk m1
 have hrd:=s_turn_read (madeV (lastS ss) s.c s.k) (madeV_short lsh l10 hk)
 rw [readA,m3,if_pos rfl] at hrd
 have e1:doS ss s=ss++[madeV (lastS ss) s.c s.k]:=by rw [doS,if_pos d1]
 have hws:WOk (doS ss s) ts:=by
  have:=(step_ok (lz:=true) h hk hs)
  rwa [doT,if_pos d1,if_pos rfl] at this
 have hse:=s_turn_settle lz hws
 have hno:=s_turn_none
 rw [stepO,if_pos d1,doT,if_pos d1,doR,if_pos d1]
 have e:ss.map schE++[schE (madeV (lastS ss) s.c s.k)]=(doS ss s).map schE:=by rw [e1];exact map_snoc _ _ _
 generalize madeV (lastS ss) s.c s.k=mk at *
 generalize doS ss s=s2 at *
 cases lz
 ·refine V.Spec.enter Tryz.tabOK Tryz.mixed Tryz.func146 rfl rfl rfl fun B hB=>?_
  refine goW ?_
  refine OL.ch [0,1,2] hmd Tryz.func203 ?_
  refine goW ?_
  refine OL.c hrd Tryz.func92 ?_
  refine goW ?_
  refine OL.eqG 6 e ?_
  refine OL.frz 6 ?_
  refine OL.ch [0,6,2] hse Tryz.func87 ?_
  refine goW ?_
  refine OL.c hno Tryz.func144 ?_
  refine goW ?_
  exact TX.rtc [0,1,2,6] (.ren rfl)
 ·refine V.Spec.enter Tryz.tabOK Tryz.mixed Tryz.func146 rfl rfl rfl fun B hB=>?_
  refine goW ?_
  refine OL.ch [0,1,2] hmd Tryz.func203 ?_
  refine goW ?_
  refine OL.c hrd Tryz.func92 ?_
  refine goW ?_
  refine OL.eqG 6 e ?_
  refine OL.frz 6 ?_
  refine OL.c hno Tryz.func144 ?_
  refine goW ?_
  exact TX.rtc [0,1,2,6] (.ren rfl)
set_option maxHeartbeats 2000000 in
theorem s_turn_doNew (lz:Bool) {ss:List (List Cls)} {ts:List Thing} (h:WOk ss ts) (s:Step) (hs:StOk ss ts s) (d2:s.d=2) :
  V.Spec Tryz.prog 148 [.bp 0 0,stepA s] (worldO lz ss ts) (valA (doR ss ts s)) (stepO lz ss ts s):=by
 obtain ⟨n1,n12,lg,lsh,_⟩:=h.last
 obtain ⟨l10,lf⟩:=goodB_fine lg
 have h40:=h.n40
 obtain ⟨m1,m2⟩:=hs.n d2
 have hlw:=turn_last_w n1 n12
 have hle:=last_schE n1
 obtain ⟨c,hc⟩:∃ c:Nat,s.c=(c:Int):=⟨s.c.toNat,by omega⟩
 have hke:=s_turn_kept lf l10 (c:=c) (slots:=[]) (vals:=[]) (by omega) (by omega) (by simp)
 have e1:doS ss s=ss:=by rw [doS,if_neg (by omega)]
 have e2:newT ss s=(s.c,(ss.length:Int)-1,turnedV (lastS ss) c [] []):=by rw [newT,hc,Int.toNat_natCast]
 rw [stepO,if_neg (by omega),if_pos d2,doT,if_neg (by omega),if_pos d2,doR,if_neg (by omega),if_pos d2,e1,e2]
 rw [← hc] at hke
 generalize lastS ss=L at *
 generalize turnedV L c [] []=tv at *
 obtain ⟨t2,ht2⟩:∃ t2,t2=ts++[(s.c,(ss.length:Int)-1,tv)]:=⟨_,rfl⟩
 have hl2:t2.length=ts.length+1:=by rw [ht2];simp
 have e4:ts.map thingA++[thingA (s.c,(ss.length:Int)-1,tv)]=t2.map thingA:=by rw [ht2];exact map_snoc _ _ _
 rw [← ht2,show ((ts.length:Nat):Int)=(t2.length:Int)-1 by omega]
 refine V.Spec.enter Tryz.tabOK Tryz.mixed Tryz.func148 rfl rfl rfl fun B hB=>?_
 refine goW ?_
 (with_reducible refine TC.draw (id:=1) true 20 24 ?_<;>refine OD.stT 0 ?_<;>refine OD.st4 1 2 3 4 ?_<;>refine OD.st4 5 6 7 8 ?_<;>refine OD.st4 9 10 11 12 ?_<;>refine OD.st2 13 15 ?_<;>refine OD.st 16 ?_<;>refine OD.e1 14 (ss.length-1) hlw Tryz.func202 hle ?_<;>refine OD.c1 17 hke Tryz.func115 ?_<;>refine OD.s1 18 ?_ (h:=gvBuild)<;>refine OD.li 19 ?_<;>(refine OD.a1 20 ?_;refine OL.appO ?_;refine OL.nil ?_;refine TX.od ?_)<;>refine OD.st2 21 22 ?_<;>(refine OD.a1 23 ?_;refine OL.store ?_;refine OL.nil ?_;refine TX.od ?_)<;>refine OD.dn ?_)
 all_goals refine TX.eqG 6 e4 ?_
 all_goals refine goW ?_
 all_goals exact TX.rtc [0,1,2,6] (.ren rfl)
theorem touch_step (lz:Bool) {ss:List (List Cls)} {ts:List Thing} (h:WOk ss ts) (s:Step) (ht:0≤s.th∧s.th < (ts.length:Int)) :
  V.Spec Tryz.prog 116 [.bp 0 0,V.int s.th] (worldO lz ss ts) (.gp 2 3 s.th.toNat 0) (worldO lz ss (ts.set s.th.toNat (upT ss ts s))):=by
 have hn:s.th.toNat < ts.length:=by omega
 have hto:=s_turn_touch lz h.sb hn (h.tk _ (List.getElem_mem _))
 have hth:thAt ts s.th=ts[s.th.toNat]:=getD_lt hn
 rw [upT,hth]
 rwa [show ((s.th.toNat:Nat):Int)=s.th by omega] at hto
set_option maxHeartbeats 1000000 in
theorem s_turn_doTouch (lz:Bool) {ss:List (List Cls)} {ts:List Thing} (h:WOk ss ts) (s:Step) (hs:StOk ss ts s) (d6:s.d=6) :
  V.Spec Tryz.prog 153 [.bp 0 0,stepA s] (worldO lz ss ts) (valA (doR ss ts s)) (stepO lz ss ts s):=by
 have hto:=touch_step lz h s (hs.t (by omega))
 have e1:doS ss s=ss:=by rw [doS,if_neg (by omega)]
 rw [stepO,if_neg (by omega),if_neg (by omega),doT,if_neg (by omega),if_neg (by omega),doR,if_neg (by omega),if_neg (by omega),if_neg (by omega),if_neg (by omega),putT,if_neg (by omega),if_neg (by omega),e1]
 generalize ts.set s.th.toNat (upT ss ts s)=t1 at *
 refine V.Spec.enter Tryz.tabOK Tryz.mixed Tryz.func153 rfl rfl rfl fun B hB=>?_
 refine goW ?_
 refine OL.ch [0,1,2] hto Tryz.func116 ?_
 refine goW ?_
 exact TX.rtc [0,1,2] (.ren rfl)
theorem getset {l:List AV} {n:Nat} (h:n < l.length) (x:AV):(l.set n x)[n]?=some x:=by rw [List.getElem?_set_self h]
set_option maxHeartbeats 2000000 in
theorem s_turn_doTo (lz:Bool) {ss:List (List Cls)} {ts:List Thing} (h:WOk ss ts) (s:Step) (hs:StOk ss ts s) (d5:s.d=5) :
  V.Spec Tryz.prog 152 [.bp 0 0,stepA s] (worldO lz ss ts) (valA (doR ss ts s)) (stepO lz ss ts s):=by
 obtain ⟨n1,n12,lg,lsh,_⟩:=h.last
 obtain ⟨l10,lf⟩:=goodB_fine lg
 have ht:=hs.t (by omega)
 have hto:=touch_step lz h s ht
 have hul:=upT_len h ht
 have hlw:=turn_last_w n1 n12
 have hle:=last_schE n1
 obtain ⟨o1,o2⟩:=hs.o d5
 obtain ⟨c2,hc2⟩:∃ c2:Nat,s.c=(c2:Int):=⟨s.c.toNat,by omega⟩
 obtain ⟨c,hc,c3,cl⟩:=h.cls (thAt_mem ht)
 rw [← upT_fst ss ts s] at hc
 have e1:doS ss s=ss:=by rw [doS,if_neg (by omega)]
 have hn:s.th.toNat < ts.length:=by omega
 rw [stepO,if_neg (by omega),if_neg (by omega),doT,if_neg (by omega),if_neg (by omega),doR,if_neg (by omega),if_neg (by omega),if_neg (by omega),if_neg (by omega),putT,if_neg (by omega),if_pos d5,e1]
 generalize upT ss ts s=u at *
 rw [hc,Int.toNat_natCast] at hul
 rw [hc,hc2,Int.toNat_natCast,Int.toNat_natCast]
 have hha:=s_turn_has (lastS ss) (by omega) c3 cl
 have hke:=s_turn_kept lf l10 (c:=c2) (slots:=slotsOf (lastS ss) c) (vals:=u.2.2) (by omega) (by omega) (by omega)
 rw [← hc2] at hke ⊢
 rw [← hc] at hha
 obtain ⟨t1,ht1⟩:∃ t1,t1=ts.set s.th.toNat u:=⟨_,rfl⟩
 have hl1:t1.length=ts.length:=by rw [ht1];simp
 have hu:t1[s.th.toNat]'(by omega)=u:=by simp only [ht1];simp
 rw [← ht1] at hto
 generalize turnedV (lastS ss) c2 (slotsOf (lastS ss) c) u.2.2=tv at *
 have e:((t1.map thingA).set s.th.toNat (.st [V.int u.1,V.int u.2.1,.sl 2 none (tv.map valA)])).set s.th.toNat (.st [V.int s.c,V.int u.2.1,.sl 2 none (tv.map valA)])=(ts.set s.th.toNat (s.c,u.2.1,tv)).map thingA:=by
  rw [List.set_set,ht1,← List.map_set (f:=thingA) (a:=(s.c,u.2.1,tv)),List.set_set]
 have hg:(t1.map thingA)[s.th.toNat]?=some (thingA u):=by rw [List.getElem?_map,List.getElem?_eq_getElem (by omega),hu];rfl
 have hgl:s.th.toNat < (t1.map thingA).length:=by rw [List.length_map];omega
 generalize lastS ss=L at *
 refine V.Spec.enter Tryz.tabOK Tryz.mixed Tryz.func152 rfl rfl rfl fun B hB=>?_
 refine goW ?_
 refine OL.ch [0,1,2] hto Tryz.func116 ?_
 refine goW ?_
 refine TC.toG 2 ?_
 (with_reducible refine TC.draw (id:=2) true 19 20 ?_<;>refine OD.st4 0 1 3 4 ?_<;>refine OD.st4 5 7 8 9 ?_<;>refine OD.st2 12 13 ?_<;>refine OD.st 14 ?_<;>refine OD.n3 2 10 15 ?_ ?_ ?_<;>(first|refine NextBy.at 2 ?_<;>refine NextBy.e (ss.length-1) hlw Tryz.func202 hle ?_<;>refine OD.n3 6 10 15 ?_ ?_ ?_<;>(first|refine NextBy.at 6 ?_<;>refine NextBy.e (ss.length-1) hlw Tryz.func202 hle ?_<;>refine OD.n2 10 15 ?_ ?_<;>(first|refine NextBy.at 10 ?_<;>refine NextBy.s ?_ (h:=gvW hg)<;>refine OD.n2 11 15 ?_ ?_<;>(first|refine NextBy.at 11 ?_<;>refine NextBy.c hha Tryz.func69 ?_<;>refine OD.s1 15 ?_ (h:=gvW hg)<;>refine OD.c1 16 hke Tryz.func115 ?_<;>refine OD.st2 17 18 ?_<;>(refine OD.a1 19 ?_;refine OL.storeW (e':=.st [V.int u.1,V.int u.2.1,.sl 2 none (tv.map valA)]) ?_ (hk:=hg);refine OL.nil ?_;refine TX.od ?_)<;>refine OD.dn ?_|refine NextBy.at 15 ?_<;>refine NextBy.s ?_ (h:=gvW hg)<;>refine OD.c1 11 hha Tryz.func69 ?_<;>refine OD.c1 16 hke Tryz.func115 ?_<;>refine OD.st2 17 18 ?_<;>(refine OD.a1 19 ?_;refine OL.storeW (e':=.st [V.int u.1,V.int u.2.1,.sl 2 none (tv.map valA)]) ?_ (hk:=hg);refine OL.nil ?_;refine TX.od ?_)<;>refine OD.dn ?_)|refine NextBy.at 15 ?_<;>refine NextBy.s ?_ (h:=gvW hg)<;>refine OD.s1 10 ?_ (h:=gvW hg)<;>refine OD.c1 11 hha Tryz.func69 ?_<;>refine OD.c1 16 hke Tryz.func115 ?_<;>refine OD.st2 17 18 ?_<;>(refine OD.a1 19 ?_;refine OL.storeW (e':=.st [V.int u.1,V.int u.2.1,.sl 2 none (tv.map valA)]) ?_ (hk:=hg);refine OL.nil ?_;refine TX.od ?_)<;>refine OD.dn ?_)|refine NextBy.at 10 ?_<;>refine NextBy.s ?_ (h:=gvW hg)<;>refine OD.n2 6 15 ?_ ?_<;>(first|refine NextBy.at 6 ?_<;>refine NextBy.e (ss.length-1) hlw Tryz.func202 hle ?_<;>refine OD.n2 11 15 ?_ ?_<;>(first|refine NextBy.at 11 ?_<;>refine NextBy.c hha Tryz.func69 ?_<;>refine OD.s1 15 ?_ (h:=gvW hg)<;>refine OD.c1 16 hke Tryz.func115 ?_<;>refine OD.st2 17 18 ?_<;>(refine OD.a1 19 ?_;refine OL.storeW (e':=.st [V.int u.1,V.int u.2.1,.sl 2 none (tv.map valA)]) ?_ (hk:=hg);refine OL.nil ?_;refine TX.od ?_)<;>refine OD.dn ?_|refine NextBy.at 15 ?_<;>refine NextBy.s ?_ (h:=gvW hg)<;>refine OD.c1 11 hha Tryz.func69 ?_<;>refine OD.c1 16 hke Tryz.func115 ?_<;>refine OD.st2 17 18 ?_<;>(refine OD.a1 19 ?_;refine OL.storeW (e':=.st [V.int u.1,V.int u.2.1,.sl 2 none (tv.map valA)]) ?_ (hk:=hg);refine OL.nil ?_;refine TX.od ?_)<;>refine OD.dn ?_)|refine NextBy.at 15 ?_<;>refine NextBy.s ?_ (h:=gvW hg)<;>refine OD.e1 6 (ss.length-1) hlw Tryz.func202 hle ?_<;>refine OD.c1 11 hha Tryz.func69 ?_<;>refine OD.c1 16 hke Tryz.func115 ?_<;>refine OD.st2 17 18 ?_<;>(refine OD.a1 19 ?_;refine OL.storeW (e':=.st [V.int u.1,V.int u.2.1,.sl 2 none (tv.map valA)]) ?_ (hk:=hg);refine OL.nil ?_;refine TX.od ?_)<;>refine OD.dn ?_)|refine NextBy.at 15 ?_<;>refine NextBy.s ?_ (h:=gvW hg)<;>refine OD.n2 6 10 ?_ ?_<;>(first|refine NextBy.at 6 ?_<;>refine NextBy.e (ss.length-1) hlw Tryz.func202 hle ?_<;>refine OD.s1 10 ?_ (h:=gvW hg)<;>refine OD.c1 11 hha Tryz.func69 ?_<;>refine OD.c1 16 hke Tryz.func115 ?_<;>refine OD.st2 17 18 ?_<;>(refine OD.a1 19 ?_;refine OL.storeW (e':=.st [V.int u.1,V.int u.2.1,.sl 2 none (tv.map valA)]) ?_ (hk:=hg);refine OL.nil ?_;refine TX.od ?_)<;>refine OD.dn ?_|refine NextBy.at 10 ?_<;>refine NextBy.s ?_ (h:=gvW hg)<;>refine OD.e1 6 (ss.length-1) hlw Tryz.func202 hle ?_<;>refine OD.c1 11 hha Tryz.func69 ?_<;>refine OD.c1 16 hke Tryz.func115 ?_<;>refine OD.st2 17 18 ?_<;>(refine OD.a1 19 ?_;refine OL.storeW (e':=.st [V.int u.1,V.int u.2.1,.sl 2 none (tv.map valA)]) ?_ (hk:=hg);refine OL.nil ?_;refine TX.od ?_)<;>refine OD.dn ?_))|refine NextBy.at 10 ?_<;>refine NextBy.s ?_ (h:=gvW hg)<;>refine OD.n2 2 15 ?_ ?_<;>(first|refine NextBy.at 2 ?_<;>refine NextBy.e (ss.length-1) hlw Tryz.func202 hle ?_<;>refine OD.n2 6 15 ?_ ?_<;>(first|refine NextBy.at 6 ?_<;>refine NextBy.e (ss.length-1) hlw Tryz.func202 hle ?_<;>refine OD.n2 11 15 ?_ ?_<;>(first|refine NextBy.at 11 ?_<;>refine NextBy.c hha Tryz.func69 ?_<;>refine OD.s1 15 ?_ (h:=gvW hg)<;>refine OD.c1 16 hke Tryz.func115 ?_<;>refine OD.st2 17 18 ?_<;>(refine OD.a1 19 ?_;refine OL.storeW (e':=.st [V.int u.1,V.int u.2.1,.sl 2 none (tv.map valA)]) ?_ (hk:=hg);refine OL.nil ?_;refine TX.od ?_)<;>refine OD.dn ?_|refine NextBy.at 15 ?_<;>refine NextBy.s ?_ (h:=gvW hg)<;>refine OD.c1 11 hha Tryz.func69 ?_<;>refine OD.c1 16 hke Tryz.func115 ?_<;>refine OD.st2 17 18 ?_<;>(refine OD.a1 19 ?_;refine OL.storeW (e':=.st [V.int u.1,V.int u.2.1,.sl 2 none (tv.map valA)]) ?_ (hk:=hg);refine OL.nil ?_;refine TX.od ?_)<;>refine OD.dn ?_)|refine NextBy.at 15 ?_<;>refine NextBy.s ?_ (h:=gvW hg)<;>refine OD.e1 6 (ss.length-1) hlw Tryz.func202 hle ?_<;>refine OD.c1 11 hha Tryz.func69 ?_<;>refine OD.c1 16 hke Tryz.func115 ?_<;>refine OD.st2 17 18 ?_<;>(refine OD.a1 19 ?_;refine OL.storeW (e':=.st [V.int u.1,V.int u.2.1,.sl 2 none (tv.map valA)]) ?_ (hk:=hg);refine OL.nil ?_;refine TX.od ?_)<;>refine OD.dn ?_)|refine NextBy.at 15 ?_<;>refine NextBy.s ?_ (h:=gvW hg)<;>refine OD.e1 2 (ss.length-1) hlw Tryz.func202 hle ?_<;>refine OD.e1 6 (ss.length-1) hlw Tryz.func202 hle ?_<;>refine OD.c1 11 hha Tryz.func69 ?_<;>refine OD.c1 16 hke Tryz.func115 ?_<;>refine OD.st2 17 18 ?_<;>(refine OD.a1 19 ?_;refine OL.storeW (e':=.st [V.int u.1,V.int u.2.1,.sl 2 none (tv.map valA)]) ?_ (hk:=hg);refine OL.nil ?_;refine TX.od ?_)<;>refine OD.dn ?_)|refine NextBy.at 15 ?_<;>refine NextBy.s ?_ (h:=gvW hg)<;>refine OD.n2 2 10 ?_ ?_<;>(first|refine NextBy.at 2 ?_<;>refine NextBy.e (ss.length-1) hlw Tryz.func202 hle ?_<;>refine OD.n2 6 10 ?_ ?_<;>(first|refine NextBy.at 6 ?_<;>refine NextBy.e (ss.length-1) hlw Tryz.func202 hle ?_<;>refine OD.s1 10 ?_ (h:=gvW hg)<;>refine OD.c1 11 hha Tryz.func69 ?_<;>refine OD.c1 16 hke Tryz.func115 ?_<;>refine OD.st2 17 18 ?_<;>(refine OD.a1 19 ?_;refine OL.storeW (e':=.st [V.int u.1,V.int u.2.1,.sl 2 none (tv.map valA)]) ?_ (hk:=hg);refine OL.nil ?_;refine TX.od ?_)<;>refine OD.dn ?_|refine NextBy.at 10 ?_<;>refine NextBy.s ?_ (h:=gvW hg)<;>refine OD.e1 6 (ss.length-1) hlw Tryz.func202 hle ?_<;>refine OD.c1 11 hha Tryz.func69 ?_<;>refine OD.c1 16 hke Tryz.func115 ?_<;>refine OD.st2 17 18 ?_<;>(refine OD.a1 19 ?_;refine OL.storeW (e':=.st [V.int u.1,V.int u.2.1,.sl 2 none (tv.map valA)]) ?_ (hk:=hg);refine OL.nil ?_;refine TX.od ?_)<;>refine OD.dn ?_)|refine NextBy.at 10 ?_<;>refine NextBy.s ?_ (h:=gvW hg)<;>refine OD.e1 2 (ss.length-1) hlw Tryz.func202 hle ?_<;>refine OD.e1 6 (ss.length-1) hlw Tryz.func202 hle ?_<;>refine OD.c1 11 hha Tryz.func69 ?_<;>refine OD.c1 16 hke Tryz.func115 ?_<;>refine OD.st2 17 18 ?_<;>(refine OD.a1 19 ?_;refine OL.storeW (e':=.st [V.int u.1,V.int u.2.1,.sl 2 none (tv.map valA)]) ?_ (hk:=hg);refine OL.nil ?_;refine TX.od ?_)<;>refine OD.dn ?_)))
 all_goals refine goW ?_
 all_goals refine OL.storeW (e':=.st [V.int s.c,V.int u.2.1,.sl 2 none (tv.map valA)]) ?_ (hk:=getset hgl _)
 all_goals refine goW ?_
 all_goals refine TX.ofG 2 e (pure_things _) ?_
 all_goals exact TX.rtc [0,1,2] (.ren rfl)
abbrev slotO (lz:Bool) (ss:List (List Cls)) (ts:List Thing) (s:Step):Eta:=
 [.cb Tc.turn_world [V.bool lz,.hs 1,.hs 2],.gs true Tc.Pturn_schema 1 none (ss.map schE),.gw Tc.api_TurnThing 3 none (((ts.set s.th.toNat (upT ss ts s)).map thingA).set s.th.toNat (.st [V.int (upT ss ts s).1,V.int (upT ss ts s).2.1,.hs 3])),.gs false Tc.api_MeanVal 2 none ((upT ss ts s).2.2.map valA)]
theorem clone_vo (l:List (Int × Int)) (hb:l.length*16≤140737488355328):V.Spec Tryz.prog 59 [valsA l] [] (.hs 0) [.gs false Tc.api_MeanVal 2 none (l.map valA)]:=by
 refine V.Spec.enter Tryz.tabOK Tryz.mixed Tryz.func59 rfl rfl rfl fun B hB=>?_
 refine goW ?_
 refine OL.isNil (fun h=>?_) ?_
 ·refine goW ?_
  have e:[]=l.map valA:=h.symm
  refine TX.adp 2 Tc.api_MeanVal 2 ?_
  exact TX.rt1 [0] (.ren rfl)
 ·refine goW ?_
  exact TX.rt1 [1] (.ren rfl)
set_option maxHeartbeats 2000000 in
theorem s_turn_slot (lz:Bool) {ss:List (List Cls)} {ts:List Thing} (h:WOk ss ts) (s:Step) (hs:StOk ss ts s) (d:s.d=3∨s.d=4) :
  V.Spec Tryz.prog 204 [.bp 0 0,stepA s] (worldO lz ss ts) (.gp 3 2 (slotAt ss ts s).toNat 0) (slotO lz ss ts s):=by
 obtain ⟨n1,n12,lg,lsh,_⟩:=h.last
 obtain ⟨l10,lf⟩:=goodB_fine lg
 have ht:=hs.t (by omega)
 have hto:=touch_step lz h s ht
 have hul:=upT_len h ht
 have hux:=(upT_ok h ht).short h.sb
 have hlw:=turn_last_w n1 n12
 have hle:=last_schE n1
 have hg0:=hs.g d
 obtain ⟨c,hc,c3,cl⟩:=h.cls (thAt_mem ht)
 rw [hc,Int.toNat_natCast] at hg0
 rw [← upT_fst ss ts s] at hc
 have hn:s.th.toNat < ts.length:=by omega
 rw [slotO,slotAt]
 rw [hc,Int.toNat_natCast] at hul ⊢
 generalize upT ss ts s=u at *
 have hha:=s_turn_has (lastS ss) (by omega) c3 cl
 have hix:=s_slices_Index_Lint_int (slotsOf (lastS ss) c) s.sl
 have hpl:=placeN_lt (slotsOf (lastS ss) c) s.sl
 have hfp:=fidx_placeN s.sl (slotsOf (lastS ss) c) 0
 rw [Int.natCast_zero] at hfp
 rw [hfp] at hix
 rw [← hc] at hha ⊢
 obtain ⟨t1,ht1⟩:∃ t1,t1=ts.set s.th.toNat u:=⟨_,rfl⟩
 have hl1:t1.length=ts.length:=by rw [ht1];simp
 have hu:t1[s.th.toNat]'(by omega)=u:=by simp only [ht1];simp
 rw [← ht1] at hto ⊢
 have hcv:=clone_vo u.2.2 (by omega)
 have hg:(t1.map thingA)[s.th.toNat]?=some (thingA u):=by rw [List.getElem?_map,List.getElem?_eq_getElem (by omega),hu];rfl
 have hgl:s.th.toNat < (t1.map thingA).length:=by rw [List.length_map];omega
 have hgs:=getset hgl (.st [V.int u.1,V.int u.2.1,.hs 4])
 generalize lastS ss=L at *
 generalize placeN (slotsOf L c) s.sl 0=pl at *
 refine V.Spec.enter Tryz.tabOK Tryz.mixed Tryz.func204 rfl rfl rfl fun B hB=>?_
 refine goW ?_
 refine OL.ch [0,1,2] hto Tryz.func116 ?_
 refine goW ?_
 simp only [hu]
 refine OL.c hcv Tryz.func59 ?_
 refine goW ?_
 refine OL.toG 2 ?_
 refine OL.storeW (e':=.st [V.int u.1,V.int u.2.1,.hs 4]) ?_ (hk:=hg)
 refine goW ?_
 (with_reducible refine TC.draw (id:=3) true 16 16 ?_<;>refine OD.st4 0 1 2 4 ?_<;>refine OD.st4 6 7 8 11 ?_<;>refine OD.st 12 ?_<;>refine OD.n3 3 5 9 ?_ ?_ ?_<;>(first|refine NextBy.at 3 ?_<;>refine NextBy.s ?_ (h:=gvW hgs)<;>refine OD.n2 5 9 ?_ ?_<;>(first|refine NextBy.at 5 ?_<;>refine NextBy.e (ss.length-1) hlw Tryz.func202 hle ?_<;>refine OD.s1 9 ?_ (h:=gvW hgs)<;>refine OD.c1 10 hha Tryz.func69 ?_<;>refine OD.c1 13 hix Tryz.func78 ?_<;>refine OD.st2 14 15 ?_<;>refine OD.dn ?_|refine NextBy.at 9 ?_<;>refine NextBy.s ?_ (h:=gvW hgs)<;>refine OD.e1 5 (ss.length-1) hlw Tryz.func202 hle ?_<;>refine OD.c1 10 hha Tryz.func69 ?_<;>refine OD.c1 13 hix Tryz.func78 ?_<;>refine OD.st2 14 15 ?_<;>refine OD.dn ?_)|refine NextBy.at 5 ?_<;>refine NextBy.e (ss.length-1) hlw Tryz.func202 hle ?_<;>refine OD.n2 3 9 ?_ ?_<;>(first|refine NextBy.at 3 ?_<;>refine NextBy.s ?_ (h:=gvW hgs)<;>refine OD.s1 9 ?_ (h:=gvW hgs)<;>refine OD.c1 10 hha Tryz.func69 ?_<;>refine OD.c1 13 hix Tryz.func78 ?_<;>refine OD.st2 14 15 ?_<;>refine OD.dn ?_|refine NextBy.at 9 ?_<;>refine NextBy.s ?_ (h:=gvW hgs)<;>refine OD.n2 3 10 ?_ ?_<;>(first|refine NextBy.at 3 ?_<;>refine NextBy.s ?_ (h:=gvW hgs)<;>refine OD.c1 10 hha Tryz.func69 ?_<;>refine OD.c1 13 hix Tryz.func78 ?_<;>refine OD.st2 14 15 ?_<;>refine OD.dn ?_|refine NextBy.at 10 ?_<;>refine NextBy.c hha Tryz.func69 ?_<;>refine OD.n2 3 13 ?_ ?_<;>(first|refine NextBy.at 3 ?_<;>refine NextBy.s ?_ (h:=gvW hgs)<;>refine OD.c1 13 hix Tryz.func78 ?_<;>refine OD.st2 14 15 ?_<;>refine OD.dn ?_|refine NextBy.at 13 ?_<;>refine NextBy.c hix Tryz.func78 ?_<;>refine OD.s1 3 ?_ (h:=gvW hgs)<;>refine OD.st2 14 15 ?_<;>refine OD.dn ?_)))|refine NextBy.at 9 ?_<;>refine NextBy.s ?_ (h:=gvW hgs)<;>refine OD.n2 3 5 ?_ ?_<;>(first|refine NextBy.at 3 ?_<;>refine NextBy.s ?_ (h:=gvW hgs)<;>refine OD.e1 5 (ss.length-1) hlw Tryz.func202 hle ?_<;>refine OD.c1 10 hha Tryz.func69 ?_<;>refine OD.c1 13 hix Tryz.func78 ?_<;>refine OD.st2 14 15 ?_<;>refine OD.dn ?_|refine NextBy.at 5 ?_<;>refine NextBy.e (ss.length-1) hlw Tryz.func202 hle ?_<;>refine OD.n2 3 10 ?_ ?_<;>(first|refine NextBy.at 3 ?_<;>refine NextBy.s ?_ (h:=gvW hgs)<;>refine OD.c1 10 hha Tryz.func69 ?_<;>refine OD.c1 13 hix Tryz.func78 ?_<;>refine OD.st2 14 15 ?_<;>refine OD.dn ?_|refine NextBy.at 10 ?_<;>refine NextBy.c hha Tryz.func69 ?_<;>refine OD.n2 3 13 ?_ ?_<;>(first|refine NextBy.at 3 ?_<;>refine NextBy.s ?_ (h:=gvW hgs)<;>refine OD.c1 13 hix Tryz.func78 ?_<;>refine OD.st2 14 15 ?_<;>refine OD.dn ?_|refine NextBy.at 13 ?_<;>refine NextBy.c hix Tryz.func78 ?_<;>refine OD.s1 3 ?_ (h:=gvW hgs)<;>refine OD.st2 14 15 ?_<;>refine OD.dn ?_)))))
 all_goals refine goW ?_
 all_goals exact TX.rt1 [0,1,2,4] (.ren rfl) (ho:=by with_unfolding_all exact ⟨⟨_,rfl,OE.ren rfl⟩,⟨_,rfl,OE.ren rfl⟩,⟨_,rfl,OE.ren (congrArg (AO.gw Tc.api_TurnThing 3 none) (ren_set rfl))⟩,⟨_,rfl,OE.ren rfl⟩,trivial⟩)
set_option maxHeartbeats 2000000 in
theorem s_turn_doGet (lz:Bool) {ss:List (List Cls)} {ts:List Thing} (h:WOk ss ts) (s:Step) (hs:StOk ss ts s) (d3:s.d=3) :
  V.Spec Tryz.prog 150 [.bp 0 0,stepA s] (worldO lz ss ts) (valA (doR ss ts s)) (stepO lz ss ts s):=by
 have ht:=hs.t (by omega)
 have hsl:=s_turn_slot lz h s hs (.inl d3)
 have hul:=upT_len h ht
 have hg0:=hs.g (.inl d3)
 rw [← upT_fst ss ts s,← slotAt] at hg0
 have hpl:=placeN_lt (slotsOf (lastS ss) (upT ss ts s).1.toNat) s.sl
 rw [← slotAt] at hpl
 have e1:doS ss s=ss:=by rw [doS,if_neg (by omega)]
 have hn:s.th.toNat < ts.length:=by omega
 rw [stepO,if_neg (by omega),if_neg (by omega),doT,if_neg (by omega),if_neg (by omega),doR,if_neg (by omega),if_neg (by omega),if_pos d3,putT,if_neg (by omega),if_neg (by omega),e1]
 rw [slotO] at hsl
 generalize slotAt ss ts s=pl at *
 generalize upT ss ts s=u at *
 have hgd:u.2.2.getD pl.toNat (0,0)=u.2.2[pl.toNat]'(by omega):=getD_lt (by omega)
 rw [hgd]
 have hgl:s.th.toNat < ((ts.set s.th.toNat u).map thingA).length:=by simp;omega
 have hgs:=getset hgl (.st [V.int u.1,V.int u.2.1,.hs 5])
 have e:((((ts.set s.th.toNat u).map thingA).set s.th.toNat (.st [V.int u.1,V.int u.2.1,.hs 5])).set s.th.toNat (.st [V.int u.1,V.int u.2.1,.sl 2 none (u.2.2.map valA)]))=(ts.set s.th.toNat u).map thingA:=by
  rw [List.set_set,← List.map_set (f:=thingA) (a:=u),List.set_set]
 refine V.Spec.enter Tryz.tabOK Tryz.mixed Tryz.func150 rfl rfl rfl fun B hB=>?_
 refine goW ?_
 refine OL.ch [0,1,2] hsl Tryz.func204 ?_
 refine OL.eqW 2 (ren_set rfl) ?_
 refine goW ?_
 refine TX.viewEl (i:=2) (o:=2) (j:=5) _ hgs ?_
 refine TX.ofG 2 e (pure_things _) ?_
 exact TX.rtc [0,1,2] (.ren rfl)
set_option maxHeartbeats 2000000 in
theorem s_turn_doPut (lz:Bool) {ss:List (List Cls)} {ts:List Thing} (h:WOk ss ts) (s:Step) (hs:StOk ss ts s) (d4:s.d=4) :
  V.Spec Tryz.prog 151 [.bp 0 0,stepA s] (worldO lz ss ts) (valA (doR ss ts s)) (stepO lz ss ts s):=by
 have ht:=hs.t (by omega)
 have hsl:=s_turn_slot lz h s hs (.inr d4)
 have hul:=upT_len h ht
 have hg0:=hs.g (.inr d4)
 rw [← upT_fst ss ts s,← slotAt] at hg0
 have hpl:=placeN_lt (slotsOf (lastS ss) (upT ss ts s).1.toNat) s.sl
 rw [← slotAt] at hpl
 have e1:doS ss s=ss:=by rw [doS,if_neg (by omega)]
 have hn:s.th.toNat < ts.length:=by omega
 rw [stepO,if_neg (by omega),if_neg (by omega),doT,if_neg (by omega),if_neg (by omega),doR,if_neg (by omega),if_neg (by omega),if_neg (by omega),if_pos d4,putT,if_pos d4,e1]
 rw [slotO] at hsl
 generalize slotAt ss ts s=pl at *
 generalize upT ss ts s=u at *
 have hgl:s.th.toNat < ((ts.set s.th.toNat u).map thingA).length:=by simp;omega
 have hgs:=getset hgl (.st [V.int u.1,V.int u.2.1,.hs 5])
 have e:((((ts.set s.th.toNat u).map thingA).set s.th.toNat (.st [V.int u.1,V.int u.2.1,.hs 5])).set s.th.toNat (.st [V.int u.1,V.int u.2.1,.sl 2 none ((u.2.2.map valA).set pl.toNat (valA s.v))]))=(ts.set s.th.toNat (u.1,u.2.1,u.2.2.set pl.toNat s.v)).map thingA:=by
  rw [List.set_set,← List.map_set (f:=valA),← List.map_set (f:=thingA) (a:=(u.1,u.2.1,u.2.2.set pl.toNat s.v)),List.set_set]
 refine V.Spec.enter Tryz.tabOK Tryz.mixed Tryz.func151 rfl rfl rfl fun B hB=>?_
 refine goW ?_
 (with_reducible refine TC.draw (id:=1) false 7 7 ?_<;>refine OD.st2 0 3 ?_<;>refine OD.n2 1 4 ?_ ?_)<;>(first|(with_reducible refine NextBy.at 1 ?_<;>refine NextBy.s ?_<;>refine OD.n2 2 4 ?_ ?_)<;>(first|(with_reducible refine NextBy.at 2 ?_)<;>((with_reducible refine NextBy.a ?_);refine OL.ch [0,1,2] hsl Tryz.func204 ?_;refine OL.eqW 2 (ren_set rfl) ?_;refine OL.nil ?_;refine TX.od ?_)<;>(with_reducible refine OD.s1 4 ?_ (h:=gvM)<;>refine OD.st 5 ?_<;>(refine OD.a1 6 ?_;refine OL.storeEA ?_;refine OL.nil ?_;refine TX.od ?_)<;>refine OD.dn ?_)|(with_reducible refine NextBy.at 4 ?_<;>refine NextBy.s ?_ (h:=gvM))<;>((with_reducible refine OD.a1 2 ?_);refine OL.ch [0,1,2] hsl Tryz.func204 ?_;refine OL.eqW 2 (ren_set rfl) ?_;refine OL.nil ?_;refine TX.od ?_)<;>(with_reducible refine OD.st 5 ?_<;>(refine OD.a1 6 ?_;refine OL.storeEA ?_;refine OL.nil ?_;refine TX.od ?_)<;>refine OD.dn ?_))|(with_reducible refine NextBy.at 4 ?_<;>refine NextBy.s ?_ (h:=gvM)<;>refine OD.s1 1 ?_)<;>((with_reducible refine OD.a1 2 ?_);refine OL.ch [0,1,2] hsl Tryz.func204 ?_;refine OL.eqW 2 (ren_set rfl) ?_;refine OL.nil ?_;refine TX.od ?_)<;>(with_reducible refine OD.st 5 ?_<;>(refine OD.a1 6 ?_;refine OL.storeEA ?_;refine OL.nil ?_;refine TX.od ?_)<;>refine OD.dn ?_))
 all_goals refine goW ?_
 all_goals refine TX.viewEl (i:=2) (o:=2) (j:=5) _ hgs ?_
 all_goals refine TX.ofG 2 e (pure_things _) ?_
 all_goals exact TX.rtc [0,1,2] (.ren rfl)
end Go.Proofs
namespace Go.Proofs
open Go Go.W Go.V
abbrev deedA (fm fd:Nat):AV:=.st [.fn (.func fm) [] [],.fn (.func fd) [] []]
abbrev deedsE:List (Int × AV):=[(1,deedA 145 146),(2,deedA 147 148),(3,deedA 149 150),(4,deedA 149 151),(5,deedA 149 152),(6,deedA 149 153)]
theorem s_turn_deeds:V.Spec Tryz.prog 104 [] [] (.mp 0) [.mo deedsE]:=by
 refine V.Spec.enter Tryz.tabOK Tryz.mixed Tryz.func104 rfl rfl rfl fun B hB=>?_
 refine goW ?_
 refine OL.mapIns ?_ rfl
 refine goW ?_
 refine OL.mapIns ?_ rfl
 refine goW ?_
 refine OL.mapIns ?_ rfl
 refine goW ?_
 refine OL.mapIns ?_ rfl
 refine goW ?_
 refine OL.mapIns ?_ rfl
 refine goW ?_
 refine OL.mapIns ?_ rfl
 refine goW ?_
 exact TX.rt1 [0] (.ren rfl)
set_option maxHeartbeats 2000000 in
theorem step_core1 (lz : Bool) (ss2 : List (List Cls)) (ts2 : List Thing) {ss : List (List Cls)} {ts : List Thing} {s : Step} {fm fd : Nat} {gm gd : Func} {rv : Int × Int} (hv : afind s.d deedsE = some (deedA fm fd)) (hfm : Tryz.prog.funcs[fm]? = some gm) (hbm : (gm.body.isNone || gm.name == "runtime.NumGoroutine") = false) (hfd : Tryz.prog.funcs[fd]? = some gd) (hbd : (gd.body.isNone || gd.name == "runtime.NumGoroutine") = false)
  (hmay:V.Spec Tryz.prog fm [.bp 0 0,stepA s] (worldO lz ss ts) (V.int 0) (worldO lz ss ts)) (hdo:V.Spec Tryz.prog fd [.bp 0 0,stepA s] (worldO lz ss ts) (valA rv) ([.cb Tc.turn_world [V.bool lz,.hs 3,.hs 2],.dead,.gs false Tc.api_TurnThing 3 none (ts2.map thingA),.gs true Tc.Pturn_schema 1 none (ss2.map schE)])) :
  V.Spec Tryz.prog 62 [.bp 0 0,stepA s] (worldO lz ss ts) (.tp [valA rv,V.int 0]) ([.cb Tc.turn_world [V.bool lz,.hs 3,.hs 2],.dead,.gs false Tc.api_TurnThing 3 none (ts2.map thingA),.gs true Tc.Pturn_schema 1 none (ss2.map schE)]):=by
 have hde:=s_turn_deeds
 refine V.Spec.enter Tryz.tabOK Tryz.mixed Tryz.func62 rfl rfl rfl fun B hB=>?_
 refine goW ?_
 (with_reducible refine TC.draw (id:=1) true 8 10 ?_<;>refine OD.st2 1 2 ?_<;>refine OD.n2 0 7 ?_ ?_<;>(first|refine NextBy.at 0 ?_<;>refine NextBy.c hde Tryz.func104 ?_<;>refine OD.n2 3 7 ?_ ?_<;>(first|refine NextBy.at 3 ?_<;>refine NextBy.s ?_ (h:=gvLk (.inl ⟨rfl,hv⟩))<;>refine OD.st2 4 5 ?_<;>refine OD.stT 6 ?_<;>refine OD.al 7 ?_<;>(refine OD.a1 8 ?_;refine OL.storeAgg ?_;refine OL.nil ?_;refine TX.od ?_)<;>refine OD.st 9 ?_<;>refine OD.dn ?_|refine NextBy.at 7 ?_<;>refine NextBy.al ?_<;>refine OD.s1 3 ?_ (h:=gvLk (.inl ⟨rfl,hv⟩))<;>refine OD.st2 4 5 ?_<;>refine OD.stT 6 ?_<;>(refine OD.a1 8 ?_;refine OL.storeAgg ?_;refine OL.nil ?_;refine TX.od ?_)<;>refine OD.st 9 ?_<;>refine OD.dn ?_)|refine NextBy.at 7 ?_<;>refine NextBy.al ?_<;>refine OD.c1 0 hde Tryz.func104 ?_<;>refine OD.s1 3 ?_ (h:=gvLk (.inl ⟨rfl,hv⟩))<;>refine OD.st2 4 5 ?_<;>refine OD.stT 6 ?_<;>(refine OD.a1 8 ?_;refine OL.storeAgg ?_;refine OL.nil ?_;refine TX.od ?_)<;>refine OD.st 9 ?_<;>refine OD.dn ?_))
 all_goals refine goW ?_
 all_goals refine OL.chv [0,1,2] hmay hfm ?_ (hb:=hbm)
 all_goals refine goW ?_
 all_goals refine OL.chv [0,1,2] hdo hfd ?_ (hb:=hbd)
 all_goals refine goW ?_
 all_goals exact TX.rs2 [0,1,2,7] (.ren rfl) (.ren rfl)
set_option maxHeartbeats 2000000 in
theorem step_core2 (lz : Bool) (ss2 : List (List Cls)) (ts2 : List Thing) {ss : List (List Cls)} {ts : List Thing} {s : Step} {fm fd : Nat} {gm gd : Func} {rv : Int × Int} (hv : afind s.d deedsE = some (deedA fm fd)) (hfm : Tryz.prog.funcs[fm]? = some gm) (hbm : (gm.body.isNone || gm.name == "runtime.NumGoroutine") = false) (hfd : Tryz.prog.funcs[fd]? = some gd) (hbd : (gd.body.isNone || gd.name == "runtime.NumGoroutine") = false)
  (hmay:V.Spec Tryz.prog fm [.bp 0 0,stepA s] (worldO lz ss ts) (V.int 0) (worldO lz ss ts)) (hdo:V.Spec Tryz.prog fd [.bp 0 0,stepA s] (worldO lz ss ts) (valA rv) ([.cb Tc.turn_world [V.bool lz,.hs 1,.hs 3],.gs true Tc.Pturn_schema 1 none (ss2.map schE),.dead,.gs false Tc.api_TurnThing 3 none (ts2.map thingA)])) :
  V.Spec Tryz.prog 62 [.bp 0 0,stepA s] (worldO lz ss ts) (.tp [valA rv,V.int 0]) ([.cb Tc.turn_world [V.bool lz,.hs 1,.hs 3],.gs true Tc.Pturn_schema 1 none (ss2.map schE),.dead,.gs false Tc.api_TurnThing 3 none (ts2.map thingA)]):=by
 have hde:=s_turn_deeds
 refine V.Spec.enter Tryz.tabOK Tryz.mixed Tryz.func62 rfl rfl rfl fun B hB=>?_
 refine goW ?_
 (with_reducible refine TC.draw (id:=1) true 8 10 ?_<;>refine OD.st2 1 2 ?_<;>refine OD.n2 0 7 ?_ ?_<;>(first|refine NextBy.at 0 ?_<;>refine NextBy.c hde Tryz.func104 ?_<;>refine OD.n2 3 7 ?_ ?_<;>(first|refine NextBy.at 3 ?_<;>refine NextBy.s ?_ (h:=gvLk (.inl ⟨rfl,hv⟩))<;>refine OD.st2 4 5 ?_<;>refine OD.stT 6 ?_<;>refine OD.al 7 ?_<;>(refine OD.a1 8 ?_;refine OL.storeAgg ?_;refine OL.nil ?_;refine TX.od ?_)<;>refine OD.st 9 ?_<;>refine OD.dn ?_|refine NextBy.at 7 ?_<;>refine NextBy.al ?_<;>refine OD.s1 3 ?_ (h:=gvLk (.inl ⟨rfl,hv⟩))<;>refine OD.st2 4 5 ?_<;>refine OD.stT 6 ?_<;>(refine OD.a1 8 ?_;refine OL.storeAgg ?_;refine OL.nil ?_;refine TX.od ?_)<;>refine OD.st 9 ?_<;>refine OD.dn ?_)|refine NextBy.at 7 ?_<;>refine NextBy.al ?_<;>refine OD.c1 0 hde Tryz.func104 ?_<;>refine OD.s1 3 ?_ (h:=gvLk (.inl ⟨rfl,hv⟩))<;>refine OD.st2 4 5 ?_<;>refine OD.stT 6 ?_<;>(refine OD.a1 8 ?_;refine OL.storeAgg ?_;refine OL.nil ?_;refine TX.od ?_)<;>refine OD.st 9 ?_<;>refine OD.dn ?_))
 all_goals refine goW ?_
 all_goals refine OL.chv [0,1,2] hmay hfm ?_ (hb:=hbm)
 all_goals refine goW ?_
 all_goals refine OL.chv [0,1,2] hdo hfd ?_ (hb:=hbd)
 all_goals refine goW ?_
 all_goals exact TX.rs2 [0,1,2,7] (.ren rfl) (.ren rfl)
set_option maxHeartbeats 2000000 in
theorem step_core3 (lz : Bool) (ss2 : List (List Cls)) (ts2 : List Thing) {ss : List (List Cls)} {ts : List Thing} {s : Step} {fm fd : Nat} {gm gd : Func} {rv : Int × Int} (hv : afind s.d deedsE = some (deedA fm fd)) (hfm : Tryz.prog.funcs[fm]? = some gm) (hbm : (gm.body.isNone || gm.name == "runtime.NumGoroutine") = false) (hfd : Tryz.prog.funcs[fd]? = some gd) (hbd : (gd.body.isNone || gd.name == "runtime.NumGoroutine") = false)
  (hmay:V.Spec Tryz.prog fm [.bp 0 0,stepA s] (worldO lz ss ts) (V.int 0) (worldO lz ss ts)) (hdo:V.Spec Tryz.prog fd [.bp 0 0,stepA s] (worldO lz ss ts) (valA rv) (worldO lz ss2 ts2)) :
  V.Spec Tryz.prog 62 [.bp 0 0,stepA s] (worldO lz ss ts) (.tp [valA rv,V.int 0]) (worldO lz ss2 ts2):=by
 have hde:=s_turn_deeds
 refine V.Spec.enter Tryz.tabOK Tryz.mixed Tryz.func62 rfl rfl rfl fun B hB=>?_
 refine goW ?_
 (with_reducible refine TC.draw (id:=1) true 8 10 ?_<;>refine OD.st2 1 2 ?_<;>refine OD.n2 0 7 ?_ ?_<;>(first|refine NextBy.at 0 ?_<;>refine NextBy.c hde Tryz.func104 ?_<;>refine OD.n2 3 7 ?_ ?_<;>(first|refine NextBy.at 3 ?_<;>refine NextBy.s ?_ (h:=gvLk (.inl ⟨rfl,hv⟩))<;>refine OD.st2 4 5 ?_<;>refine OD.stT 6 ?_<;>refine OD.al 7 ?_<;>(refine OD.a1 8 ?_;refine OL.storeAgg ?_;refine OL.nil ?_;refine TX.od ?_)<;>refine OD.st 9 ?_<;>refine OD.dn ?_|refine NextBy.at 7 ?_<;>refine NextBy.al ?_<;>refine OD.s1 3 ?_ (h:=gvLk (.inl ⟨rfl,hv⟩))<;>refine OD.st2 4 5 ?_<;>refine OD.stT 6 ?_<;>(refine OD.a1 8 ?_;refine OL.storeAgg ?_;refine OL.nil ?_;refine TX.od ?_)<;>refine OD.st 9 ?_<;>refine OD.dn ?_)|refine NextBy.at 7 ?_<;>refine NextBy.al ?_<;>refine OD.c1 0 hde Tryz.func104 ?_<;>refine OD.s1 3 ?_ (h:=gvLk (.inl ⟨rfl,hv⟩))<;>refine OD.st2 4 5 ?_<;>refine OD.stT 6 ?_<;>(refine OD.a1 8 ?_;refine OL.storeAgg ?_;refine OL.nil ?_;refine TX.od ?_)<;>refine OD.st 9 ?_<;>refine OD.dn ?_))
 all_goals refine goW ?_
 all_goals refine OL.chv [0,1,2] hmay hfm ?_ (hb:=hbm)
 all_goals refine goW ?_
 all_goals refine OL.chv [0,1,2] hdo hfd ?_ (hb:=hbd)
 all_goals refine goW ?_
 all_goals exact TX.rs2 [0,1,2] (.ren rfl) (.ren rfl)
set_option maxHeartbeats 2000000 in
theorem step_core0 (lz : Bool) {ss : List (List Cls)} {ts : List Thing} {s : Step} {fm fd : Nat} {gm : Func} {er : Int} (he : er ≠ 0) (hv : afind s.d deedsE = some (deedA fm fd)) (hfm : Tryz.prog.funcs[fm]? = some gm) (hbm : (gm.body.isNone || gm.name == "runtime.NumGoroutine") = false)
  (hmay:V.Spec Tryz.prog fm [.bp 0 0,stepA s] (worldO lz ss ts) (V.int er) (worldO lz ss ts)) :
  V.Spec Tryz.prog 62 [.bp 0 0,stepA s] (worldO lz ss ts) (.tp [valA (0,0),V.int er]) (worldO lz ss ts):=by
 have hde:=s_turn_deeds
 refine V.Spec.enter Tryz.tabOK Tryz.mixed Tryz.func62 rfl rfl rfl fun B hB=>?_
 refine goW ?_
 (with_reducible refine TC.draw (id:=1) true 8 10 ?_<;>refine OD.st2 1 2 ?_<;>refine OD.n2 0 7 ?_ ?_<;>(first|refine NextBy.at 0 ?_<;>refine NextBy.c hde Tryz.func104 ?_<;>refine OD.n2 3 7 ?_ ?_<;>(first|refine NextBy.at 3 ?_<;>refine NextBy.s ?_ (h:=gvLk (.inl ⟨rfl,hv⟩))<;>refine OD.st2 4 5 ?_<;>refine OD.stT 6 ?_<;>refine OD.al 7 ?_<;>(refine OD.a1 8 ?_;refine OL.storeAgg ?_;refine OL.nil ?_;refine TX.od ?_)<;>refine OD.st 9 ?_<;>refine OD.dn ?_|refine NextBy.at 7 ?_<;>refine NextBy.al ?_<;>refine OD.s1 3 ?_ (h:=gvLk (.inl ⟨rfl,hv⟩))<;>refine OD.st2 4 5 ?_<;>refine OD.stT 6 ?_<;>(refine OD.a1 8 ?_;refine OL.storeAgg ?_;refine OL.nil ?_;refine TX.od ?_)<;>refine OD.st 9 ?_<;>refine OD.dn ?_)|refine NextBy.at 7 ?_<;>refine NextBy.al ?_<;>refine OD.c1 0 hde Tryz.func104 ?_<;>refine OD.s1 3 ?_ (h:=gvLk (.inl ⟨rfl,hv⟩))<;>refine OD.st2 4 5 ?_<;>refine OD.stT 6 ?_<;>(refine OD.a1 8 ?_;refine OL.storeAgg ?_;refine OL.nil ?_;refine TX.od ?_)<;>refine OD.st 9 ?_<;>refine OD.dn ?_))
 all_goals refine goW ?_
 all_goals refine OL.chv [0,1,2] hmay hfm ?_ (hb:=hbm)
 all_goals refine goW ?_
 all_goals exact TX.rs2 [0,1,2] (.ren rfl) (.ren rfl)
set_option maxHeartbeats 2000000 in
theorem step_coreN (lz:Bool) {ss:List (List Cls)} {ts:List Thing} {s:Step} (hv:afind s.d deedsE=none) :
  V.Spec Tryz.prog 62 [.bp 0 0,stepA s] (worldO lz ss ts) (.tp [valA (0,0),V.int 2]) (worldO lz ss ts):=by
 have hde:=s_turn_deeds
 have hz:∀ (te:TyE),Tryz.tab Tc.turn_deed=some te→∀ m w γ,Rep m w γ te.zero (.st [.raw .nilFunc,.raw .nilFunc]):=fun te h m w γ=>by
  cases h
  exact .st (vs:=[.nilFunc,.nilFunc]) rfl (by simp [Value.oneCell']) fun j v c a b=>by
   match j with
   | 0=>simp at a b;subst a b;exact .raw rfl
   | 1=>simp at a b;subst a b;exact .raw rfl
   | j+2=>simp at a
 refine V.Spec.enter Tryz.tabOK Tryz.mixed Tryz.func62 rfl rfl rfl fun B hB=>?_
 refine goW ?_
 (with_reducible refine TC.draw (id:=1) true 8 10 ?_<;>refine OD.st2 1 2 ?_<;>refine OD.n2 0 7 ?_ ?_<;>(first|refine NextBy.at 0 ?_<;>refine NextBy.c hde Tryz.func104 ?_<;>refine OD.n2 3 7 ?_ ?_<;>(first|refine NextBy.at 3 ?_<;>refine NextBy.s ?_ (h:=gvLk (v:=.st [.raw .nilFunc,.raw .nilFunc]) (.inr ⟨rfl,hv,hz _ rfl⟩))<;>refine OD.st2 4 5 ?_<;>refine OD.stT 6 ?_<;>refine OD.al 7 ?_<;>(refine OD.a1 8 ?_;refine OL.storeAgg ?_;refine OL.nil ?_;refine TX.od ?_)<;>refine OD.st 9 ?_<;>refine OD.dn ?_|refine NextBy.at 7 ?_<;>refine NextBy.al ?_<;>refine OD.s1 3 ?_ (h:=gvLk (v:=.st [.raw .nilFunc,.raw .nilFunc]) (.inr ⟨rfl,hv,hz _ rfl⟩))<;>refine OD.st2 4 5 ?_<;>refine OD.stT 6 ?_<;>(refine OD.a1 8 ?_;refine OL.storeAgg ?_;refine OL.nil ?_;refine TX.od ?_)<;>refine OD.st 9 ?_<;>refine OD.dn ?_)|refine NextBy.at 7 ?_<;>refine NextBy.al ?_<;>refine OD.c1 0 hde Tryz.func104 ?_<;>refine OD.s1 3 ?_ (h:=gvLk (v:=.st [.raw .nilFunc,.raw .nilFunc]) (.inr ⟨rfl,hv,hz _ rfl⟩))<;>refine OD.st2 4 5 ?_<;>refine OD.stT 6 ?_<;>(refine OD.a1 8 ?_;refine OL.storeAgg ?_;refine OL.nil ?_;refine TX.od ?_)<;>refine OD.st 9 ?_<;>refine OD.dn ?_))
 all_goals refine goW ?_
 all_goals exact TX.rs2 [0,1,2] (.ren rfl) (.ren rfl)
theorem turn_step_yes (lz:Bool) {ss:List (List Cls)} {ts:List Thing} (h:WOk ss ts) (s:Step) (hk:ShortC s.k) (h0:refusedE ss ts s=0) :
  V.Spec Tryz.prog 62 [.bp 0 0,stepA s] (worldO lz ss ts) (.tp [valA (doR ss ts s),V.int 0]) (stepO lz ss ts s):=by
 have hs:=refused_ok h0
 have hd:=hs.d
 by_cases d1:s.d=1
 ·have hm:=s_turn_mayMake lz h s hk d1
  have hdo:=s_turn_doMake lz h s hk hs d1
  rw [h0] at hm
  rw [stepO,if_pos d1] at hdo ⊢
  exact step_core1 lz _ _ (by rw [d1];rfl) Tryz.func145 rfl Tryz.func146 rfl hm hdo
 by_cases d2:s.d=2
 ·have hm:=s_turn_mayNew lz h s d2
  have hdo:=s_turn_doNew lz h s hs d2
  rw [h0] at hm
  rw [stepO,if_neg d1,if_pos d2] at hdo ⊢
  exact step_core2 lz _ _ (by rw [d2];rfl) Tryz.func147 rfl Tryz.func148 rfl hm hdo
 have hm:=s_turn_mayTouch lz h s (by omega)
 rw [h0] at hm
 by_cases d3:s.d=3
 ·have hdo:=s_turn_doGet lz h s hs d3
  rw [stepO,if_neg d1,if_neg d2] at hdo ⊢
  exact step_core3 lz _ _ (by rw [d3];rfl) Tryz.func149 rfl Tryz.func150 rfl hm hdo
 by_cases d4:s.d=4
 ·have hdo:=s_turn_doPut lz h s hs d4
  rw [stepO,if_neg d1,if_neg d2] at hdo ⊢
  exact step_core3 lz _ _ (by rw [d4];rfl) Tryz.func149 rfl Tryz.func151 rfl hm hdo
 by_cases d5:s.d=5
 ·have hdo:=s_turn_doTo lz h s hs d5
  rw [stepO,if_neg d1,if_neg d2] at hdo ⊢
  exact step_core3 lz _ _ (by rw [d5];rfl) Tryz.func149 rfl Tryz.func152 rfl hm hdo
 have d6:s.d=6:=by omega
 have hdo:=s_turn_doTouch lz h s hs d6
 rw [stepO,if_neg d1,if_neg d2] at hdo ⊢
 exact step_core3 lz _ _ (by rw [d6];rfl) Tryz.func149 rfl Tryz.func153 rfl hm hdo
theorem turn_step_no (lz:Bool) {ss:List (List Cls)} {ts:List Thing} (h:WOk ss ts) (s:Step) (hk:ShortC s.k) (h0:refusedE ss ts s≠0) :
  V.Spec Tryz.prog 62 [.bp 0 0,stepA s] (worldO lz ss ts) (.tp [valA (0,0),V.int (refusedE ss ts s)]) (worldO lz ss ts):=by
 by_cases d1:s.d=1
 ·exact step_core0 lz h0 (fd:=146) (by rw [d1];rfl) Tryz.func145 rfl (s_turn_mayMake lz h s hk d1)
 by_cases d2:s.d=2
 ·exact step_core0 lz h0 (fd:=148) (by rw [d2];rfl) Tryz.func147 rfl (s_turn_mayNew lz h s d2)
 by_cases d3:s.d=3
 ·exact step_core0 lz h0 (fd:=150) (by rw [d3];rfl) Tryz.func149 rfl (s_turn_mayTouch lz h s (by omega))
 by_cases d4:s.d=4
 ·exact step_core0 lz h0 (fd:=151) (by rw [d4];rfl) Tryz.func149 rfl (s_turn_mayTouch lz h s (by omega))
 by_cases d5:s.d=5
 ·exact step_core0 lz h0 (fd:=152) (by rw [d5];rfl) Tryz.func149 rfl (s_turn_mayTouch lz h s (by omega))
 by_cases d6:s.d=6
 ·exact step_core0 lz h0 (fd:=153) (by rw [d6];rfl) Tryz.func149 rfl (s_turn_mayTouch lz h s (by omega))
 have e:refusedE ss ts s=2:=by rw [refusedE,if_neg d1,if_neg d2,if_neg (by omega),if_neg d5,if_neg d6]
 rw [e]
 refine step_coreN lz ?_
 have hb:∀ n:Int,s.d≠n→(s.d==n)=false:=fun n hn=>by simpa using hn
 simp only [afind,hb 1 d1,hb 2 d2,hb 3 d3,hb 4 d4,hb 5 d5,hb 6 d6]
 rfl
end Go.Proofs
namespace Go.Proofs
open Go Go.W Go.V
end Go.Proofs
namespace Go.Proofs
open Go Go.W Go.V
theorem LE.wl0 {τ:Nat→Option Nat}:LE τ (.st [.raw (.bool false),.raw (.slice none 0 0),.raw (.slice none 0 0)]) (wldA (false,[],[])):=LE.st ⟨.ren rfl,.nil (by decide),.nil (by decide),trivial⟩
abbrev doA (r:Wld × (Int × Int) × Int):AV:=.tp [wldA r.1,valA r.2.1,V.int r.2.2]
abbrev playA (r:Wld × List (Int × Int) × List Int × Int):AV:=.tp [wldA r.1,valsA r.2.1,ints r.2.2.1,V.int r.2.2.2]
abbrev stepsA (l:List Step):AV:=.sl 9 none (l.map stepA)
end Go.Proofs
