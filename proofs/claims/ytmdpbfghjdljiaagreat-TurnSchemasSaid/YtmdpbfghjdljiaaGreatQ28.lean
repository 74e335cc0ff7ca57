/- Part 28 of what the claim is proved by: lemmas on the model and walks through functions of the program; no conditions. -/
import Derived.Test.YtmdpbfghjdljiaaGreatQ27
namespace Go.Proofs
open Go Go.W Go.V
def lsR:Option (List (List Int)) → AV
 | some _=>.tp [.hs 0,V.bool true]
 | none=>.tp [ints [],V.bool false]
def lsE:Option (List (List Int)) → V.Eta
 | some all=>[.gs false Tc.Lint 1 none (all.map ints)]
 | none=>[]
set_option maxHeartbeats 1000000 in
theorem s_ref03_lists (g ords:List (List Int)) (c:Int) (h0:0 ≤ c) (h1:c < 3 + (g.length:Int)) (hb:g.length ≤ 1000000)
  (hps:∀ p ∈ pOf g c,0 ≤ p ∧ p < ords.length) (hol:∀ o ∈ ords,o.length ≤ 1000000) (hpl:(pOf g c).length ≤ 1000000) :
  V.Spec Tryz.prog 155 [rows g,rows ords,V.int c] [] (lsR (listsOf ords (pOf g c))) (lsE (listsOf ords (pOf g c))):=by
 refine V.Spec.enter Tryz.tabOK Tryz.mixed Tryz.func155 rfl rfl rfl fun B hB=>?_
 repeat' (with_reducible first | refine OL.st ?_ | refine TC.region ?_ | refine TC.seq ?_ | refine OL.nil ?_ | refine TX.thenN ?_ | fail)
 refine OL.c (s_ref03_parents g c h0 h1 (by omega)) Tryz.func205 ?_
 repeat' (with_reducible first | refine OL.st ?_ | refine TC.region ?_ | refine TC.seq ?_ | refine OL.nil ?_ | refine TX.thenN ?_ | refine TC.block ?_ | fail)
 generalize hpe:pOf g c = ps at *
 refine TC.adp 8 Tc.Lint 1 ?_
 refine TC.lp (fun i:Nat=>[(1,rows ords),(8,.hs 0),(9,ints ps),(10,V.int i)]) (fun i=>[.gs false Tc.Lint 1 none (((ps.take i).map fun p=>bare (at_ ords p)).map ints)]) (fun i=>i ≤ ps.length ∧ (ps.take i).all (fun p=>!(at_ ords p).isEmpty) = true) (fun i=>ps.length - i) 0 [0] ⟨Nat.zero_le _,rfl⟩ ?_
 rintro i ⟨hi,hall⟩
 by_cases hlt:i < ps.length
 ·have hpi:=hps ps[i] (List.getElem_mem _)
  have hpt:ps[i].toNat < ords.length:=by omega
  have hat:at_ ords ps[i] = ords[ps[i].toNat]:=by rw [at_,getD_lt hpt]
  have hlo:=hol _ (List.getElem_mem hpt)
  repeat' (with_reducible first | refine OL.st ?_ | refine TC.region ?_ | refine TC.seq ?_ | refine OL.nil ?_ | refine TX.thenN ?_ | refine TC.block ?_ | refine TC.skip ?_ | refine TC.ifD ?_ ?_<;>(intro hc; try (exfalso; omega)) | refine TC.ret ?_ | refine TX.thenR ?_ | refine TX.blkR ?_ | fail)
  ·have he:at_ ords ps[i] = []:=by rw [hat]; exact List.eq_nil_of_length_eq_zero (by omega)
   have:listsOf ords ps = none:=by
    rw [listsOf,if_neg]
    intro h
    have:=List.all_eq_true.1 h ps[i] (List.getElem_mem _)
    rw [he] at this
    cases this
   rw [this]
   exact TX.rt2 [] (.nil (by decide)) (.ren rfl)
  ·have hne:(at_ ords ps[i]).isEmpty = false:=by
    rw [hat]
    cases hq:ords[ps[i].toNat] with
    | nil=>rw [hq] at hc; simp at hc
    | cons _ _=>rfl
   refine OL.c (s_ref03_without (ords[ps[i].toNat]) 0 (by omega)) Tryz.func206 ?_
   repeat' (with_reducible first | refine OL.st ?_ | refine OL.litV ?_ | refine OL.lit ?_ | refine OL.appO ?_ | refine TC.region ?_ | refine OL.nil ?_ | refine TX.thenN ?_ | refine TX.blkN ?_ | fail)
   have e:(((ps.take i).map fun p=>bare (at_ ords p)).map ints) ++ [ints (without ords[ps[i].toNat] 0)] = (((ps.take (i + 1)).map fun p=>bare (at_ ords p)).map ints):=by
    rw [take_succ hlt]; simp only [List.map_append,List.map_cons,List.map_nil,hat]; rfl
   refine TX.rd (i + 1) [3] ⟨by omega,?_⟩ (by omega)
   rw [take_succ hlt,List.all_append,hall]
   simp [hne]
 ·repeat' (with_reducible first | refine OL.st ?_ | refine OL.lit ?_ | refine OL.appO ?_ | refine TC.region ?_ | refine TC.seq ?_ | refine OL.nil ?_ | refine TX.thenN ?_ | refine TC.exit ?_ | refine TX.hit ?_ | refine TX.thenX ?_ | refine TC.ifD ?_ ?_<;>(intro hc; try (exfalso; omega)) | refine TC.ret ?_ | fail)
  rw [take_all (by omega)] at hall ⊢
  rw [listsOf,if_pos hall]
  exact TX.rt2 [2] (.ren rfl) (.ren rfl)
set_option maxHeartbeats 1000000 in
theorem s_ref03_OrdersOf (g:List (List Int)) (hf:fine g = true):V.Spec Tryz.prog 111 [rows g] [] (.hs 0) [.gs true Tc.Lint 1 none ((orders g).map ints)]:=by
 refine V.Spec.enter Tryz.tabOK Tryz.mixed Tryz.func111 rfl rfl rfl fun B hB=>?_
 have h16:=fine_len hf
 repeat' (with_reducible first | refine OL.st ?_ | refine OL.litV ?_ | refine OL.lit ?_ | refine TC.region ?_ | refine TC.seq ?_ | refine OL.nil ?_ | refine TX.thenN ?_ | refine TC.block ?_ | fail)
 refine TC.frz 1 ?_
 refine TC.lp (fun s:Nat × List (List Int)=>[(0,rows g),(3,.hs 0),(4,V.int s.1)]) (fun s=>[.gs true Tc.Lint 1 none (s.2.map ints)]) (fun s=>s.2.length = s.1 ∧ 0 < s.1 ∧ s.1 ≤ 3 + g.length ∧ orders g = ordersF s.2 ((parentsOf g).drop s.1) ∧ OrdOK s.2) (fun s=>3 + g.length - s.1) (1,[[0]]) [1] ⟨rfl,Nat.one_pos,Nat.le_add_right_of_le (by omega),rfl,OrdOK.start⟩ ?_
 rintro ⟨c,acc⟩ ⟨hal,hc0,hcl,hord,hok⟩
 simp only at hal hc0 hcl hord hok ⊢
 have hsm:=hok.small (by omega)
 by_cases hlt:c < 3 + g.length
 ·obtain ⟨hp1,hp2,hp3⟩:=fine_pOf hf (c:=(c:Int)) (by omega)
  rw [parentsOf_drop hlt,ordersF_cons] at hord
  have hok':=orderOf_ok (ps:=pOf g c) hok (fun p hp=>by have:=hp2 p hp; omega) (by omega)
  have hs:=s_ref03_lists g acc c (by omega) (by omega) (by omega) (fun p hp=>by have:=hp2 p hp; omega) (fun o ho=>by have:=hsm o ho; omega) (by omega)
  cases hls:listsOf acc (pOf g c) with
  | none =>
    have ho:orderOf acc (pOf g c) acc.length = []:=by rw [orderOf,hls]
    rw [ho] at hord hok'
    rw [hls] at hs
    simp only [lsR,lsE] at hs
    repeat' (with_reducible first | refine OL.st ?_ | refine TC.region ?_ | refine TC.seq ?_ | refine OL.nil ?_ | refine TX.thenN ?_ | refine TC.block ?_ | refine TC.skip ?_ | refine TC.ifD ?_ ?_<;>(intro hc; try (exfalso; omega)) | fail)
    refine OL.vwA 1 ?_
    refine OL.c hs Tryz.func155 ?_
    repeat' (with_reducible first | refine OL.st ?_ | refine OL.litN ?_ | refine OL.lit ?_ | refine OL.appO ?_ | refine TC.region ?_ | refine TC.seq ?_ | refine OL.nil ?_ | refine TX.thenN ?_ | refine TC.skip ?_ | refine TX.blkN ?_ | refine TC.ifF ?_ | fail)
    exact TX.rd (c + 1,acc ++ [[]]) [2] ⟨by simp [hal],by simp only; omega,by simp only; omega,hord,hok.snoc hok'⟩ (by simp only; omega)
  | some all =>
    obtain ⟨hb1,hb2,hb3⟩:=listsOf_bounds hls hok (by omega) (by omega) (fun p hp=>by have:=hp2 p hp; omega)
    rw [hls] at hs
    simp only [lsR,lsE] at hs
    have hml:=merge_length all
    have ho:orderOf acc (pOf g c) acc.length = if (merge all).2 then (acc.length:Int) :: ((merge all).1 ++ [0]) else []:=by rw [orderOf,hls]
    repeat' (with_reducible first | refine OL.st ?_ | refine TC.region ?_ | refine TC.seq ?_ | refine OL.nil ?_ | refine TX.thenN ?_ | refine TC.block ?_ | refine TC.skip ?_ | refine TC.ifD ?_ ?_<;>(intro hc; try (exfalso; omega)) | fail)
    refine OL.vwA 1 ?_
    refine OL.c hs Tryz.func155 ?_
    repeat' (with_reducible first | refine OL.st ?_ | refine TC.region ?_ | refine TC.seq ?_ | refine OL.nil ?_ | refine TX.thenN ?_ | refine TC.ifT ?_ | fail)
    refine OL.vwA 0 ?_
    refine OL.c (s_ref03_merge all (by omega) (by omega) hb3) Tryz.func156 ?_
    repeat' (with_reducible first | refine OL.st ?_ | refine TC.region ?_ | refine TC.seq ?_ | refine OL.nil ?_ | refine TX.thenN ?_ | fail)
    refine TC.ifB (fun hmb=>?_) (fun hmb=>?_)
    ·rw [hmb] at ho
     simp only [if_true] at ho
     rw [ho,hal] at hord hok'
     repeat' (with_reducible first | refine OL.st ?_ | refine OL.litV ?_ | refine OL.lit ?_ | refine OL.appO ?_ | refine TC.region ?_ | refine OL.nil ?_ | refine TX.thenN ?_ | refine TX.blkN ?_ | fail)
     exact TX.rd (c + 1,acc ++ [(c:Int) :: ((merge all).1 ++ [0])]) [8] ⟨by simp [hal],by simp only; omega,by simp only; omega,hord,hok.snoc (by rw [hal]; exact hok')⟩ (by simp only; omega)
    ·rw [hmb] at ho
     simp only [Bool.false_eq_true,if_false] at ho
     rw [ho] at hord hok'
     repeat' (with_reducible first | refine OL.st ?_ | refine OL.litN ?_ | refine OL.lit ?_ | refine OL.appO ?_ | refine TC.region ?_ | refine OL.nil ?_ | refine TX.thenN ?_ | refine TC.skip ?_ | refine TX.blkN ?_ | fail)
     exact TX.rd (c + 1,acc ++ [[]]) [4] ⟨by simp [hal],by simp only; omega,by simp only; omega,hord,hok.snoc hok'⟩ (by simp only; omega)
 ·repeat' (with_reducible first | refine OL.st ?_ | refine TC.region ?_ | refine TC.seq ?_ | refine OL.nil ?_ | refine TX.thenN ?_ | refine TC.exit ?_ | refine TX.hit ?_ | refine TX.thenX ?_ | refine TC.ifD ?_ ?_<;>(intro hc; try (exfalso; omega)) | refine TC.ret ?_ | fail)
  rw [hord,drop_nil (by rw [parentsOf_length]; omega)]
  exact TX.rt1 [0] (.ren rfl)
end Go.Proofs
