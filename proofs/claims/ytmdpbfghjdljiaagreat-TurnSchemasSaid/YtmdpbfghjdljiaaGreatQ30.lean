/- Part 30 of what the claim is proved by: lemmas on the model and walks through functions of the program; no conditions. -/
import Derived.Test.YtmdpbfghjdljiaaGreatQ29
import Derived.Test.YtmdpbfghjdljiaaGreatQ17
import Derived.Test.YtmdpbfghjdljiaaGreatQ19
import Derived.Test.YtmdpbfghjdljiaaGreatQ27
import Derived.Test.YtmdpbfghjdljiaaGreatQ14
import Derived.Test.YtmdpbfghjdljiaaGreatQ20
namespace Go.Proofs
open Go Go.W Go.V
theorem foldl_or_bit {α:Type} (f:α → Nat) (b:Nat):∀ (l:List α) (s:Nat),(l.foldl (fun s p=>s ||| f p) s).testBit b = (s.testBit b || l.any fun p=>(f p).testBit b)
 | [],s=>by simp
 | p :: r,s=>by rw [List.foldl_cons,foldl_or_bit f b r,Nat.testBit_or,List.any_cons,Bool.or_assoc]
theorem setWith_bit (x c b:Nat):(setWith x c).testBit b = (x.testBit b || decide (c = b)):=by
 rw [setWith,Nat.testBit_or,Nat.one_shiftLeft,Nat.testBit_two_pow]
theorem foldl_congr_mem {α β:Type} {f f':β → α → β}:∀ (l:List α) (s:β),(∀ a ∈ l,∀ s,f s a = f' s a) → l.foldl f s = l.foldl f' s
 | [],_,_=>rfl
 | a :: r,s,h=>by rw [List.foldl_cons,List.foldl_cons,h a (by simp),foldl_congr_mem r _ (fun b hb=>h b (by simp [hb]))]
theorem upOf_eq (us:List Nat) (ps:List Int) (c:Nat):upOf us ps c = ps.foldl (fun s p=>s ||| us.getD p.toNat 0) (setWith (setWith 0 c) 0):=by rw [upOf,upK,List.take_length]
theorem upsF_pre:∀ (r:List (List Int)) (us:List Nat) (i:Nat),i < us.length → (upsF us r)[i]? = us[i]?
 | [],_,_,_=>rfl
 | p :: r,us,i,h=>by rw [upsF,upsF_pre r _ i (by simp; omega),List.getElem?_append_left h]
theorem upsF_get:∀ (r:List (List Int)) (us:List Nat) (k:Nat) (ps:List Int),r[k]? = some ps → (∀ p ∈ ps,p.toNat < us.length + k) → (upsF us r)[us.length + k]? = some (upOf (upsF us r) ps (us.length + k))
 | [],us,k,ps,h,_=>by simp at h
 | q :: r,us,0,ps,h,hp=>by
   simp at h; subst h
   have e1:(us ++ [upOf us q us.length])[us.length]? = some (upOf us q us.length):=by simp
   rw [Nat.add_zero,upsF,upsF_pre r _ us.length (by simp),e1]
   congr 1
   rw [upOf_eq,upOf_eq]
   refine foldl_congr_mem _ _ fun p hpm s=>?_
   have hlt:p.toNat < us.length:=by have:=hp p hpm; omega
   rw [List.getD_eq_getElem?_getD,List.getD_eq_getElem?_getD,upsF_pre r _ p.toNat (by simp; omega),List.getElem?_append_left hlt]
 | q :: r,us,k + 1,ps,h,hp=>by
   have:=upsF_get r (us ++ [upOf us q us.length]) k ps (by simpa using h) (fun p hpm=>by have:=hp p hpm; simp; omega)
   simp only [List.length_append,List.length_cons,List.length_nil,Nat.zero_add] at this
   rw [show us.length + 1 + k = us.length + (k + 1) by omega] at this
   exact this
theorem ups_get {g:List (List Int)} (hf:fine g = true) {c:Nat} (hc:c < 3 + g.length):(ups g).getD c 0 = upOf (ups g) (pOf g c) c:=by
 have h:=upsF_get (parentsOf g) [] c (pOf g c) (parentsOf_get hc) (fun p hp=>by
  have:=(fine_pOf hf (c:=(c:Int)) (by omega)).2.1 p hp
  simp; omega)
 rw [List.length_nil,Nat.zero_add] at h
 rw [List.getD_eq_getElem?_getD,ups,h]; rfl
theorem upHas_step {g:List (List Int)} (hf:fine g = true) {a:Nat} (ha:a < 3 + g.length) {b:Int} (h0:0 ≤ b) (h1:b < 64):upHas g a b = (decide (b = a) || decide (b = 0) || (pOf g a).any fun p=>upHas g p b):=by
 have e:∀ x:Nat,hasB x b = x.testBit b.toNat:=fun x=>by simp [hasB,h0,h1]
 have h2:(pOf g a).any (fun p=>upHas g p b) = (pOf g a).any (fun p=>((ups g).getD p.toNat 0).testBit b.toNat):=by
  congr 1; funext p; rw [upHas,e]
 have d1:decide (b = (a:Int)) = decide (a = b.toNat):=by simp only [decide_eq_decide]; omega
 have d2:decide (b = 0) = decide (0 = b.toNat):=by simp only [decide_eq_decide]; omega
 rw [h2,upHas,e,Int.toNat_natCast,ups_get hf ha,upOf_eq,foldl_or_bit,setWith_bit,setWith_bit,Nat.zero_testBit,Bool.false_or,d1,d2]
theorem upHas_self {g:List (List Int)} (hf:fine g = true) {a:Nat} (ha:a < 3 + g.length):upHas g a a = true:=by
 have:=fine_len hf
 rw [upHas_step hf ha (by omega) (by omega)]; simp
theorem upHas_zero {g:List (List Int)} (hf:fine g = true) {a:Nat} (ha:a < 3 + g.length):upHas g a 0 = true:=by
 rw [upHas_step hf ha (by omega) (by omega)]; simp
theorem upHas_down {g:List (List Int)} (hf:fine g = true):∀ (n a:Nat),a < n → a < 3 + g.length → ∀ b:Int,0 ≤ b → b < 64 → upHas g a b = true → b = 0 ∨ b = a ∨ (3 ≤ b ∧ b < a):=by
 intro n
 induction n with
 | zero=>intro a h; omega
 | succ n ih =>
   intro a han ha b h0 h1 h
   rw [upHas_step hf ha h0 h1] at h
   simp only [Bool.or_eq_true,decide_eq_true_eq,List.any_eq_true] at h
   rcases h with (h | h) | ⟨p,hp,h⟩
   ·exact .inr (.inl h)
   ·exact .inl h
   ·have hpp:=(fine_pOf hf (c:=(a:Int)) (by omega)).2.1 p hp
    obtain ⟨q,rfl⟩:∃ q:Nat,p = (q:Int):=⟨p.toNat,by omega⟩
    rcases ih q (by omega) (by omega) b h0 h1 h with e | e | e
    ·exact .inl e
    ·right; right; omega
    ·right; right; omega
theorem upHas_le {g:List (List Int)} (hf:fine g = true) {a:Nat} (ha:a < 3 + g.length) {b:Int} (h0:0 ≤ b) (h1:b < 64) (h:upHas g a b = true):b = 0 ∨ b = a ∨ (3 ≤ b ∧ b < a):=upHas_down hf (a + 1) a (by omega) ha b h0 h1 h
/-! ### The reference's marks -/
def markPs (ab:List Bool) (ps:List Int):List Bool:=ps.foldl (fun ab p=>ab.set p.toNat true) ab
def markTo (g:List (List Int)) (b:Nat):Nat → List Bool → List Bool
 | 0,ab=>ab
 | c + 1,ab=>if b < c + 1 then markTo g b c (if ab.getD (c + 1) false then markPs ab (pOf g ((c + 1:Nat):Int)) else ab) else ab
theorem markPs_length:∀ (ps:List Int) (ab:List Bool),(markPs ab ps).length = ab.length
 | [],_=>rfl
 | p :: r,ab=>by rw [markPs,List.foldl_cons]; exact (markPs_length r _).trans (by simp)
theorem getD_set_true (ab:List Bool) (p x:Nat) (hp:p < ab.length):(ab.set p true).getD x false = (ab.getD x false || decide (x = p)):=by
 rw [List.getD_eq_getElem?_getD,List.getD_eq_getElem?_getD,List.getElem?_set]
 by_cases h:p = x
 ·subst h; simp [hp]
 ·have:¬ x = p:=fun e=>h e.symm
  simp [h,this]
theorem markPs_get:∀ (ps:List Int) (ab:List Bool) (x:Nat),(∀ p ∈ ps,0 ≤ p ∧ p.toNat < ab.length) → (markPs ab ps).getD x false = (ab.getD x false || ps.any fun p=>p == (x:Int))
 | [],ab,x,_=>by simp [markPs]
 | p :: r,ab,x,h=>by
   have hp:=h p (by simp)
   have:=markPs_get r (ab.set p.toNat true) x (fun q hq=>by simpa using h q (by simp [hq]))
   rw [markPs,List.foldl_cons]
   rw [markPs] at this
   rw [this,getD_set_true _ _ _ hp.2,List.any_cons,Bool.or_assoc]
   congr 2
   rw [Bool.eq_iff_iff]; simp; omega
theorem markTo_law {g:List (List Int)} (hf:fine g = true) {b:Nat} (hb:3 ≤ b):∀ (c:Nat) (ab:List Bool),b ≤ c → c < 3 + g.length → c < ab.length →
  ((markTo g b c ab).getD b false = true ↔ ∃ x:Nat,b ≤ x ∧ x ≤ c ∧ ab.getD x false = true ∧ upHas g x b = true):=by
 have h16:=fine_len hf
 intro c
 induction c with
 | zero=>intro ab h; omega
 | succ c ih =>
   intro ab hbc hc hl
   simp only [markTo]
   have hps:∀ p ∈ pOf g ((c + 1:Nat):Int),3 ≤ p ∧ p < ((c + 1:Nat):Int):=(fine_pOf hf (c:=((c + 1:Nat):Int)) (by omega)).2.1
   by_cases h:b < c + 1
   ·rw [if_pos h]
    by_cases hm:ab.getD (c + 1) false = true
    ·rw [if_pos hm,ih _ (by omega) (by omega) (by rw [markPs_length]; omega)]
     have hg:∀ x,(markPs ab (pOf g ((c + 1:Nat):Int))).getD x false = (ab.getD x false || (pOf g ((c + 1:Nat):Int)).any fun p=>p == (x:Int)):=fun x=>markPs_get _ _ _ fun p hp=>by have:=hps p hp; omega
     have hst:=upHas_step hf hc (b:=(b:Int)) (by omega) (by omega)
     constructor
     ·rintro ⟨x,h1,h2,h3,h4⟩
      rw [hg] at h3
      simp only [Bool.or_eq_true,List.any_eq_true,beq_iff_eq] at h3
      rcases h3 with h3 | ⟨p,hp,rfl⟩
      ·exact ⟨x,h1,by omega,h3,h4⟩
      ·refine ⟨c + 1,by omega,Nat.le_refl _,hm,?_⟩
       rw [hst]
       simp only [Bool.or_eq_true,List.any_eq_true]
       exact .inr ⟨_,hp,h4⟩
     ·rintro ⟨x,h1,h2,h3,h4⟩
      by_cases e:x = c + 1
      ·subst e
       rw [hst] at h4
       simp only [Bool.or_eq_true,decide_eq_true_eq,List.any_eq_true] at h4
       rcases h4 with (h4 | h4) | ⟨p,hp,h4⟩
       ·omega
       ·omega
       ·have hpp:=hps p hp
        obtain ⟨q,rfl⟩:∃ q:Nat,p = (q:Int):=⟨p.toNat,by omega⟩
        have:=upHas_le hf (a:=q) (by omega) (b:=(b:Int)) (by omega) (by omega) h4
        refine ⟨q,by omega,by omega,?_,h4⟩
        rw [hg]
        simp only [Bool.or_eq_true,List.any_eq_true,beq_iff_eq]
        exact .inr ⟨_,hp,rfl⟩
      ·exact ⟨x,h1,by omega,by rw [hg,h3]; rfl,h4⟩
    ·rw [if_neg hm,ih _ (by omega) (by omega) (by omega)]
     constructor
     ·rintro ⟨x,h1,h2,h3,h4⟩; exact ⟨x,h1,by omega,h3,h4⟩
     ·rintro ⟨x,h1,h2,h3,h4⟩
      have:x ≠ c + 1:=fun e=>by subst e; exact hm h3
      exact ⟨x,h1,by omega,h3,h4⟩
   ·rw [if_neg h]
    obtain rfl:b = c + 1:=by omega
    constructor
    ·intro h1; exact ⟨c + 1,Nat.le_refl _,Nat.le_refl _,h1,upHas_self hf hc⟩
    ·rintro ⟨x,h1,h2,h3,_⟩
     obtain rfl:x = c + 1:=by omega
     exact h3
def mark0 (a:Nat):List Bool:=(List.replicate 19 false).set a true
theorem below_law {g:List (List Int)} (hf:fine g = true) {a b:Nat} (ha:a < 3 + g.length) (hb:3 ≤ b) (hb6:b < 64) (hne:a ≠ b):(markTo g b a (mark0 a)).getD b false = upHas g a b:=by
 have h16:=fine_len hf
 have hm:∀ x:Nat,(mark0 a).getD x false = decide (x = a):=fun x=>by
  rw [mark0,getD_set_true _ _ _ (by simp; omega)]
  have:(List.replicate 19 false).getD x false = false:=by
   rw [List.getD_eq_getElem?_getD,List.getElem?_replicate]; split<;>rfl
  rw [this,Bool.false_or]
 by_cases hab:b ≤ a
 ·rw [Bool.eq_iff_iff,markTo_law hf hb a _ hab ha (by simp [mark0]; omega)]
  constructor
  ·rintro ⟨x,h1,h2,h3,h4⟩
   rw [hm] at h3
   have:x = a:=by simpa using h3
   subst this; exact h4
  ·intro h; exact ⟨a,hab,Nat.le_refl _,by rw [hm]; simp,h⟩
 ·have e:upHas g a b = false:=by
   cases h:upHas g a b with
   | false=>rfl
   | true=>have:=upHas_le hf ha (b:=(b:Int)) (by omega) (by omega) h; omega
  have hmt:markTo g b a (mark0 a) = mark0 a:=by
   cases a with
   | zero=>rfl
   | succ a=>rw [markTo,if_neg (by omega)]
  rw [e,hmt,hm]; simp; omega
theorem upHas_small {g:List (List Int)} (hf:fine g = true) {a b:Nat} (ha:a < 3 + g.length) (hb:b < 64) (hne:a ≠ b) (hb0:b ≠ 0) (h:a < 3 ∨ b < 3):upHas g a b = false:=by
 cases hq:upHas g a b with
 | false=>rfl
 | true=>have:=upHas_le hf ha (b:=(b:Int)) (by omega) (by omega) hq; omega
end Go.Proofs
namespace Go.Proofs
open Go Go.W Go.V
theorem markPs_succ (ab:List Bool) (ps:List Int) {i:Nat} (h:i < ps.length):markPs ab (ps.take (i + 1)) = (markPs ab (ps.take i)).set ps[i].toNat true:=by
 rw [markPs,take_succ h,List.foldl_append]; rfl
theorem s_ref03_BelowOf {g:List (List Int)} (hf:fine g = true) {a b:Nat} (ha:a < 3 + g.length) (hb:b < 3 + g.length):V.Spec Tryz.prog 81 [rows g,V.int a,V.int b] [] (V.bool (upHas g a b)) []:=by
 have h16:=fine_len hf
 refine V.Spec.enter Tryz.tabOK Tryz.mixed Tryz.func81 rfl rfl rfl fun B hB=>?_
 repeat' (with_reducible first | refine OL.st ?_ | refine OL.alloc ?_ | refine TC.region ?_ | refine TC.seq ?_ | refine OL.nil ?_ | refine TX.thenN ?_ | refine TC.skip ?_ | refine TC.ifT ?_ | refine OL.gOn ?_ | refine OL.gOff ?_ | refine TC.ifD ?_ ?_<;>(intro hc; try (exfalso; omega)) | refine OL.gD ?_ ?_<;>(intro hc; try (exfalso; omega)) | refine TC.ret ?_ | refine TX.thenR ?_ | fail)
 ·obtain rfl:a = b:=by omega
  rw [upHas_self hf ha]
  exact TX.rt1 [] (.ren rfl)
 ·obtain rfl:b = 0:=by omega
  have e:upHas g a ((0:Nat):Int) = true:=upHas_zero hf ha
  rw [e]
  exact TX.rt1 [] (.ren rfl)
 ·have e:upHas g a b = false:=upHas_small hf ha (by omega) (by omega) (by omega) (.inl (by omega))
  rw [e]
  exact TX.rt1 [] (.ren rfl)
 ·have e:upHas g a b = false:=upHas_small hf ha (by omega) (by omega) (by omega) (.inr (by omega))
  rw [e]
  exact TX.rt1 [] (.ren rfl)
 ·have hl0:(mark0 a).length = 19:=by simp [mark0]
  refine OL.eqη (η':=[.cb 174 ((List.replicate 19 false).map V.bool)]) rfl ?_
  refine OL.idxB (len:=19) a rfl (by omega) ?_
  refine OL.stB (n:=a) (ab:=List.replicate 19 false) (by simp; omega) ?_
  repeat' (with_reducible first | refine OL.st ?_ | refine TC.region ?_ | refine TC.seq ?_ | refine OL.nil ?_ | refine TX.thenN ?_ | refine TC.block ?_ | fail)
  refine TC.lp (fun s:Nat × List Bool=>[(0,rows g),(2,V.int b),(7,.bp 0 0),(8,V.int s.1)]) (fun s=>[.cb 174 (s.2.map V.bool)]) (fun s=>s.2.length = 19 ∧ s.1 < 3 + g.length ∧ markTo g b s.1 s.2 = markTo g b a (mark0 a)) (fun s=>s.1) (a,mark0 a) [0] ⟨hl0,ha,rfl⟩ ?_ (ho:=⟨⟨_,rfl,OE.bools rfl⟩,trivial⟩)
  rintro ⟨c,ab⟩ ⟨hl,hc,hinv⟩
  dsimp only at hl hc hinv ⊢
  repeat' (with_reducible first | refine OL.st ?_ | refine TC.region ?_ | refine TC.seq ?_ | refine OL.nil ?_ | refine TX.thenN ?_ | refine TC.block ?_ | refine TC.skip ?_ | refine TC.exit ?_ | refine TX.hit ?_ | refine TX.thenX ?_ | refine TC.ifD ?_ ?_<;>(intro hc; try (exfalso; omega)) | fail)
  ·obtain ⟨c,rfl⟩:∃ c',c = c' + 1:=⟨c - 1,by omega⟩
   rw [markTo,if_pos (by omega)] at hinv
   have hps:=fine_pOf hf (c:=((c + 1:Nat):Int)) (by omega)
   have hpg:∀ h:((c + 1:Nat) - 3:Int).toNat < g.length,g[((c + 1:Nat) - 3:Int).toNat]'h = pOf g ((c + 1:Nat):Int):=fun h=>by
    rw [pOf_ge (by omega),getD_lt h]
   generalize hpe:pOf g ((c + 1:Nat):Int) = ps at *
   refine TC.lp (fun i:Nat=>[(0,rows g),(2,V.int b),(7,.bp 0 0),(8,V.int ((c + 1:Nat):Int)),(9,V.int i)]) (fun i=>[.cb 174 ((markPs ab (ps.take i)).map V.bool)]) (fun i=>i ≤ ps.length ∧ (ab.getD (c + 1) false = false → i = 0)) (fun i=>ps.length - i) 0 [0] ⟨Nat.zero_le _,fun _=>rfl⟩ ?_ (ho:=⟨⟨_,rfl,OE.bools rfl⟩,trivial⟩)
   rintro i ⟨hi,hz⟩
   have hml:=markPs_length (ps.take i) ab
   have hmc:(markPs ab (ps.take i)).getD (c + 1) false = ab.getD (c + 1) false:=by
    rw [markPs_get _ _ _ fun p hp=>by have:=hps.2.1 p (List.mem_of_mem_take hp); omega]
    have:(ps.take i).any (fun p=>p == ((c + 1:Nat):Int)) = false:=by
     rw [List.any_eq_false]
     intro p hp
     have:=hps.2.1 p (List.mem_of_mem_take hp)
     simp; omega
    rw [this,Bool.or_false]
   repeat' (with_reducible first | refine OL.st ?_ | refine TC.region ?_ | refine TC.seq ?_ | fail)
   refine OL.idxB (len:=19) (c + 1) rfl (by omega) ?_
   refine OL.ldB (n:=c + 1) (ab:=markPs ab (ps.take i)) (by omega) ?_
   rw [hmc]
   cases hm:ab.getD (c + 1) false
   ·obtain rfl:i = 0:=hz hm
    rw [hm,if_neg (by decide)] at hinv
    repeat' (with_reducible first | refine OL.st ?_ | refine TC.region ?_ | refine OL.nil ?_ | refine TX.thenN ?_ | refine TX.blkN ?_ | refine TC.exit ?_ | refine TX.hit ?_ | refine TX.thenX ?_ | refine TC.ifF ?_ | refine OL.gOff ?_ | fail)
    exact TX.rd (c,ab) [0] ⟨hl,by dsimp only; omega,hinv⟩ (by dsimp only; omega) (ho:=⟨⟨_,rfl,OE.bools rfl⟩,trivial⟩)
   ·rw [hm,if_pos rfl] at hinv
    have hlt3:((c + 1:Nat) - 3:Int).toNat < g.length:=by omega
    have hpi:=hpg hlt3
    repeat' (with_reducible first | refine OL.st ?_ | refine TC.region ?_ | refine TC.seq ?_ | refine OL.nil ?_ | refine TX.thenN ?_ | refine TC.block ?_ | refine TC.skip ?_ | refine TX.blkN ?_ | refine TC.exit ?_ | refine TX.hit ?_ | refine TX.thenX ?_ | refine OL.gOn ?_ | refine TC.ifD ?_ ?_<;>(intro hc; try (exfalso; omega)) | fail)
    ·simp only [hpi] at hc ⊢
     have hpb:=hps.2.1 ps[i] (List.getElem_mem (by omega))
     refine OL.idxB (len:=19) (j:=ps[i]'(by omega)) (ps[i]'(by omega)).toNat (by omega) (by omega) ?_
     refine OL.stB (n:=(ps[i]'(by omega)).toNat) (ab:=markPs ab (ps.take i)) (by omega) ?_
     rw [← markPs_succ ab ps (by omega)]
     repeat' (with_reducible first | refine OL.st ?_ | refine TC.region ?_ | refine OL.nil ?_ | refine TX.thenN ?_ | refine TX.blkN ?_ | fail)
     exact TX.rd (i + 1) [0] ⟨by omega,fun h=>by first | cases h | (rw [hm] at h; cases h)⟩ (by omega) (ho:=⟨⟨_,rfl,OE.bools rfl⟩,trivial⟩)
    ·simp only [hpi] at hc
     exact TX.rd (c,markPs ab ps) [0] ⟨by dsimp only; rw [markPs_length]; exact hl,by dsimp only; omega,hinv⟩ (by dsimp only; omega) (ho:=⟨⟨_,rfl,OE.bools (by rw [take_all (by omega)])⟩,trivial⟩)
  ·have e:ab.getD b false = upHas g a b:=by
    rw [← below_law hf ha (by omega) (by omega) (by omega),← hinv]
    cases c with
    | zero=>rfl
    | succ c=>rw [markTo,if_neg (by omega)]
   refine OL.idxB (len:=19) b rfl (by omega) ?_
   refine OL.ldB (n:=b) (ab:=ab) (by omega) ?_
   rw [e]
   repeat' (with_reducible first | refine OL.st ?_ | refine OL.nil ?_ | refine TX.thenN ?_ | refine TC.ret ?_ | fail)
   exact TX.rt1 [] (.ren rfl)
end Go.Proofs
namespace Go.Proofs
open Go Go.W Go.V
def clsAt (l:List Cls) (k:Nat):Cls:=l.getD k ([],[],[])
def ownSl (l:List Cls) (c:Nat) (s:Int) (k:Nat):Bool:=(clsAt l k).2.1.contains s && upHas (graphOf l) c ((3 + k:Nat):Int)
def slotsOfN (l:List Cls) (c:Nat) (s:Int) (n:Nat):List Int:=(List.range n).flatMap fun k=>if ownSl l c s k then [s] else []
def slotsTo (l:List Cls) (c n:Nat):List Int:=(upto n).flatMap fun s=>slotsOfN l c s l.length
def slotsOf (l:List Cls) (c:Nat):List Int:=slotsTo l c 40
theorem slotsOfN_succ (l:List Cls) (c:Nat) (s:Int) (n:Nat):slotsOfN l c s (n + 1) = slotsOfN l c s n ++ (if ownSl l c s n then [s] else []):=by rw [slotsOfN,List.range_succ,List.flatMap_append,← slotsOfN]; simp
theorem slotsTo_succ (l:List Cls) (c n:Nat):slotsTo l c (n + 1) = slotsTo l c n ++ slotsOfN l c n l.length:=by rw [slotsTo,upto_succ,List.flatMap_append,← slotsTo]; simp
theorem slotsOfN_len (l:List Cls) (c:Nat) (s:Int):∀ n,(slotsOfN l c s n).length ≤ n
 | 0=>by simp [slotsOfN]
 | n + 1=>by
   rw [slotsOfN_succ,List.length_append]
   have:=slotsOfN_len l c s n
   split<;>simp<;>omega
theorem slotsTo_len (l:List Cls) (c:Nat):∀ n,(slotsTo l c n).length ≤ n * l.length
 | 0=>by simp [slotsTo,upto]
 | n + 1=>by
   rw [slotsTo_succ,List.length_append]
   have:=slotsTo_len l c n
   have:=slotsOfN_len l c n l.length
   have h9:(n + 1) * l.length = n * l.length + l.length:=Nat.succ_mul _ _
   omega
theorem mem_slotsTo {l:List Cls} {c n:Nat} {s:Int}:s ∈ slotsTo l c n ↔ (0 ≤ s ∧ s < (n:Int)) ∧ ∃ k,k < l.length ∧ ownSl l c s k = true:=by
 simp only [slotsTo,slotsOfN,upto,List.mem_flatMap,List.mem_map,List.mem_range]
 constructor
 ·rintro ⟨_,⟨q,hq,rfl⟩,k,hk,h⟩
  split at h
  ·rename_i ho
   simp only [List.mem_singleton] at h
   subst h
   exact ⟨by omega,k,hk,ho⟩
  ·simp at h
 ·rintro ⟨h1,k,hk,ho⟩
  exact ⟨s,⟨s.toNat,by omega,by omega⟩,k,hk,by rw [if_pos ho]; simp⟩
theorem s_ref17_SlotsOf {l:List Cls} (hf:fine (graphOf l) = true) {c:Nat} (hc:c < 3 + l.length):V.Spec Tryz.prog 31 [clssA l,V.int c] [] (ints (slotsOf l c)) []:=by
 have h16:=fine_len hf
 have hgl:(graphOf l).length = l.length:=by simp [graphOf]
 rw [hgl] at h16
 have hg:=s_ref17_Graph l (by omega)
 have hbe:=fun k (hk:k < l.length)=>s_ref03_BelowOf hf (a:=c) (b:=3 + k) (by omega) (by omega)
 have hhas:=fun k (hk:k < l.length) s=>s_ref03_Has l[k].2.1 s
 have hown:∀ s k (hk:k < l.length),ownSl l c s k = (l[k].2.1.contains s && upHas (graphOf l) c ((3 + k:Nat):Int)):=fun s k hk=>by rw [ownSl,clsAt,getD_lt hk]
 refine V.Spec.enter Tryz.tabOK Tryz.mixed Tryz.func31 rfl rfl rfl fun B hB=>?_
 refine go ?_
 refine OL.c hg Tryz.func79 ?_
 refine go ?_
 refine TC.adp 5 Tc.int 1 ?_
 generalize graphOf l = g at *
 refine TC.lp (fun s:Nat=>[(0,clssA l),(1,V.int c),(5,.hs 0),(6,rows g),(7,V.int s)]) (fun s=>[.gs false Tc.int 1 none ((slotsTo l c s).map V.int)]) (fun s=>s ≤ 40) (fun s=>40 - s) 0 [0] (Nat.zero_le _) ?_
 rintro s hs
 have htl:=slotsTo_len l c s
 by_cases hs40:s < 40
 ·have hsu:=slotsTo_succ l c s
  have h400:s * l.length ≤ 40 * 16:=Nat.mul_le_mul (by omega) h16
  generalize slotsTo l c s = pre at *
  refine go ?_
  refine TC.lp (fun k:Nat=>[(0,clssA l),(1,V.int c),(5,.hs 0),(6,rows g),(7,V.int s),(16,clssA l),(17,V.int l.length),(18,V.int k)]) (fun k=>[.gs false Tc.int 1 none ((pre ++ slotsOfN l c s k).map V.int)]) (fun k=>k ≤ l.length) (fun k=>l.length - k) 0 [0] (Nat.zero_le _) ?_ (ho:=⟨⟨_,rfl,OE.gsS (by simp [slotsOfN])⟩,trivial⟩)
  rintro k hk
  have hnl:=slotsOfN_len l c s k
  by_cases hkl:k < l.length
  ·have hsn:=slotsOfN_succ l c s k
   rw [hown s k hkl] at hsn
   have hh:=hhas k hkl s
   have hb:=hbe k hkl
   have hql:(pre ++ slotsOfN l c s k).length ≤ 1000:=by simp; omega
   have hsn2:pre ++ slotsOfN l c s (k + 1) = (pre ++ slotsOfN l c s k) ++ (if (l[k].2.1.contains (s:Int) && upHas g c ((3 + k:Nat):Int)) then [(s:Int)] else []):=by rw [hsn,List.append_assoc]
   generalize pre ++ slotsOfN l c s k = q at *
   have e3:((3 + k:Nat):Int) = 3 + (k:Int):=by omega
   rw [e3] at hb hsn2
   refine go ?_
   refine OL.c hh Tryz.func80 ?_
   cases h1:l[k].2.1.contains (s:Int)
   ·have e:q.map V.int = (pre ++ slotsOfN l c s (k + 1)).map V.int:=by rw [hsn2,h1]; simp
    refine go ?_
    exact TX.rd (k + 1) [0] (by omega) (by omega)
   ·refine go ?_
    refine OL.c hb Tryz.func81 ?_
    cases h2:upHas g c (3 + (k:Int))
    ·have e:q.map V.int = (pre ++ slotsOfN l c s (k + 1)).map V.int:=by rw [hsn2,h1,h2]; simp
     refine go ?_
     exact TX.rd (k + 1) [0] (by omega) (by omega)
    ·have e:q.map V.int ++ [V.int (s:Int)] = (pre ++ slotsOfN l c s (k + 1)).map V.int:=by rw [hsn2,h1,h2]; simp
     refine go ?_
     exact TX.rd (k + 1) [3] (by omega) (by omega)
  ·obtain rfl:k = l.length:=by omega
   rw [← hsu]
   refine go ?_
   exact TX.rd (s + 1) [0] (by omega) (by omega)
 ·obtain rfl:s = 40:=by omega
  refine go ?_
  refine TX.vw 4 ?_
  exact TX.rt1 [] (.ren rfl)
end Go.Proofs
namespace Go.Proofs
open Go Go.W Go.V
def initOf (l:List Cls) (s c:Int):Option Int:=if c < 3 then none else ((clsAt l (c - 3).toNat).2.2.find? fun p=>p.1 == s).map (·.2)
def beginO (l:List Cls) (o:List Int) (s:Int):Option Int:=o.findSome? (initOf l s)
theorem beginO_cons (l:List Cls) (c:Int) (r:List Int) (s:Int):beginO l (c :: r) s = match initOf l s c with | some n=>some n | none=>beginO l r s:=by
 rw [beginO,List.findSome?_cons]; cases initOf l s c<;>rfl
def optV:Option Int → Int × Int
 | some n=>(1,n)
 | none=>(2,0)
def beginV (l:List Cls) (c:Nat) (s:Int):Int × Int:=optV (beginO l (at_ (orders (graphOf l)) c) s)
def valB (v:Int × Int) (n:Int):Bool:=
 if v.1 = 1 then decide (-1000000000 ≤ v.2) && decide (v.2 ≤ 1000000000) else if v.1 = 2 then decide (v.2 = 0) else if v.1 = 3 then decide (0 ≤ v.2) && decide (v.2 < n) else false
end Go.Proofs
namespace Go.Proofs
open Go Go.W Go.V
theorem map_snoc {α β:Type} (f:α → β) (a:List α) (x:α):a.map f ++ [f x] = (a ++ [x]).map f:=by simp
def slotsOk:List Int → List Int → Bool
 | _,[]=>true
 | met,s :: r=>((decide (0 ≤ s) && decide (s < 40)) && !met.contains s) && slotsOk (met ++ [s]) r
def clsOk (g:List (List Int)):Nat → List Int → List Cls → Bool
 | _,_,[]=>true
 | k,met,x :: r=>(decide (0 < (at_ (orders g) ((3 + k:Nat):Int)).length) && decide (x.2.1.length ≤ 4)) && (slotsOk met x.2.1 && clsOk g (k + 1) (met ++ x.2.1) r)
def initsOk (has:List Int):List Int → List (Int × Int) → Bool
 | _,[]=>true
 | own,i :: r=>((has.contains i.1 && !own.contains i.1) && (decide (-1000000000 ≤ i.2) && decide (i.2 ≤ 1000000000))) && initsOk has (own ++ [i.1]) r
def iniAt (l:List Cls) (k:Nat):Bool:=initsOk (slotsOf l (3 + k)) [] (clsAt l k).2.2
def goodB (l:List Cls):Bool:=decide (l.length ≤ 10) && (fine (graphOf l) && (clsOk (graphOf l) 0 [] l && (List.range l.length).all (iniAt l)))
theorem all_false {p:Nat → Bool} {n k:Nat} (hk:k < n) (h:p k = false):(List.range n).all p = false:=by
 rw [List.all_eq_false]; exact ⟨k,List.mem_range.2 hk,by simp [h]⟩
theorem all_true {p:Nat → Bool} {n:Nat} (h:∀ k,k < n → p k = true):(List.range n).all p = true:=by
 rw [List.all_eq_true]; exact fun k hk=>h k (List.mem_range.1 hk)
def metOf (l:List Cls):List Int:=l.flatMap (·.2.1)
theorem metOf_succ (l:List Cls) {k:Nat} (h:k < l.length):metOf (l.take (k + 1)) = metOf (l.take k) ++ l[k].2.1:=by rw [metOf,take_succ h,List.flatMap_append,← metOf]; simp
set_option maxHeartbeats 2000000 in
theorem s_ref17_Good (l:List Cls) (hs:Short l):V.Spec Tryz.prog 35 [clssA l] [] (V.bool (goodB l)) []:=by
 have hg:=s_ref17_Graph l hs.1
 have hgo:=s_ref03_Good (graphOf l)
 have hgl:(graphOf l).length = l.length:=by simp [graphOf]
 rw [goodB]
 refine V.Spec.enter Tryz.tabOK Tryz.mixed Tryz.func35 rfl rfl rfl fun B hB=>?_
 refine go ?_
 refine OL.c hg Tryz.func79 ?_
 by_cases h10:l.length ≤ 10
 ·rw [decide_eq_true h10,Bool.true_and]
  refine go ?_
  refine OL.c hgo Tryz.func85 ?_
  cases hf:fine (graphOf l)
  ·refine go ?_
   exact TX.rt1 [] (.ren rfl)
  ·rw [Bool.true_and]
   have hlo:=fun (c:Nat) (hc:c < 3 + l.length)=>s_ref03_LinOf (graphOf l) c hf (by omega) (by omega)
   have hso:=fun k (hk:k < l.length)=>s_ref17_SlotsOf hf (c:=3 + k) (by omega)
   refine go ?_
   refine TC.adp 4 Tc.int 1 ?_
   refine TC.lp (fun k:Nat=>[(0,clssA l),(3,rows (graphOf l)),(4,.hs 0),(27,clssA l),(28,V.int l.length),(29,V.int k)]) (fun k=>[.gs false Tc.int 1 none ((metOf (l.take k)).map V.int)]) (fun k=>k ≤ l.length ∧ clsOk (graphOf l) 0 [] l = clsOk (graphOf l) k (metOf (l.take k)) (l.drop k) ∧ (metOf (l.take k)).length ≤ 4 * k) (fun k=>l.length - k) 0 [0] ⟨Nat.zero_le _,rfl,by simp [metOf]⟩ ?_
   rintro k ⟨hk,hinv,hml⟩
   by_cases hkl:k < l.length
   ·have hlk:=hlo (3 + k) (by omega)
    have hms:=metOf_succ l hkl
    have hsk:=(hs.2 l[k] (List.getElem_mem _)).2.1
    rw [drop_cons hkl,clsOk] at hinv
    have e3:((3 + k:Nat):Int) = 3 + (k:Int):=by omega
    rw [e3] at hlk hinv
    generalize metOf (l.take k) = met at *
    refine go ?_
    refine OL.c hlk Tryz.func82 ?_
    by_cases ho:0 < (at_ (orders (graphOf l)) (3 + (k:Int))).length
    ·rw [decide_eq_true ho] at hinv ⊢
     by_cases h4:l[k].2.1.length ≤ 4
     ·rw [decide_eq_true h4,Bool.true_and,Bool.true_and] at hinv
      refine go ?_
      refine TC.lp (fun j:Nat=>[(0,clssA l),(3,rows (graphOf l)),(4,.hs 0),(27,clssA l),(28,V.int l.length),(29,V.int k),(50,ints l[k].2.1),(51,V.int l[k].2.1.length),(52,V.int j)]) (fun j=>[.gs false Tc.int 1 none ((met ++ l[k].2.1.take j).map V.int)]) (fun j=>j ≤ l[k].2.1.length ∧ slotsOk met l[k].2.1 = slotsOk (met ++ l[k].2.1.take j) (l[k].2.1.drop j)) (fun j=>l[k].2.1.length - j) 0 [0] ⟨Nat.zero_le _,by simp⟩ ?_ (ho:=⟨⟨_,rfl,OE.gsS (by simp)⟩,trivial⟩)
      rintro j ⟨hj,hinv2⟩
      have hql:(met ++ l[k].2.1.take j).length ≤ 1000:=by simp; omega
      by_cases hjl:j < l[k].2.1.length
      ·rw [drop_cons hjl,slotsOk] at hinv2
       have e2:(met ++ l[k].2.1.take j) ++ [l[k].2.1[j]] = met ++ l[k].2.1.take (j + 1):=by rw [take_succ hjl,List.append_assoc]
       have e:(met ++ l[k].2.1.take j).map V.int ++ [V.int l[k].2.1[j]] = (met ++ l[k].2.1.take (j + 1)).map V.int:=by rw [← e2]; exact map_snoc _ _ _
       rw [e2] at hinv2
       have hha:=s_ref03_Has (met ++ l[k].2.1.take j) l[k].2.1[j]
       generalize met ++ l[k].2.1.take j = q at *
       by_cases h0:0 ≤ l[k].2.1[j] ∧ l[k].2.1[j] < 40
       ·rw [decide_eq_true h0.1,decide_eq_true h0.2,Bool.true_and,Bool.true_and] at hinv2
        refine go ?_
        refine OL.lend (Wk.view (t:=63) (by with_unfolding_all exact rfl) (by with_unfolding_all exact rfl)) hha Tryz.func80 ?_
        cases hc:q.contains l[k].2.1[j]
        ·rw [hc,Bool.not_false,Bool.true_and] at hinv2
         refine go ?_
         exact TX.rd (j + 1) [2] ⟨by omega,hinv2⟩ (by omega)
        ·rw [hc,Bool.not_true,Bool.false_and] at hinv2
         rw [hinv2,Bool.false_and] at hinv
         rw [hinv,Bool.false_and]
         refine go ?_
         exact TX.rt1 [] (.ren rfl)
       ·have hz:(decide (0 ≤ l[k].2.1[j]) && decide (l[k].2.1[j] < 40)) = false:=by
         rw [Bool.eq_false_iff]; simp only [ne_eq,Bool.and_eq_true,decide_eq_true_eq]; exact h0
        rw [hz,Bool.false_and,Bool.false_and] at hinv2
        rw [hinv2,Bool.false_and] at hinv
        rw [hinv,Bool.false_and]
        repeat' (with_reducible first | refine OL.st ?_ | refine TC.region ?_ | refine TC.seq ?_ | refine OL.nil ?_ | refine TX.thenN ?_ | refine TC.block ?_ | refine TC.skip ?_ | refine TC.ifT ?_ | refine OL.gOn ?_ | refine OL.gOff ?_ | refine TC.ifD ?_ ?_<;>(intro hc; try (exfalso; omega)) | refine OL.gD ?_ ?_<;>(intro hc; try (exfalso; omega)) | refine TC.ret ?_ | refine TX.thenR ?_ | refine TX.blkR ?_ | fail)
        all_goals exact TX.rt1 [] (.ren rfl)
      ·have ej:j = l[k].2.1.length:=by omega
       rw [drop_nil (by omega),slotsOk] at hinv2
       rw [hinv2,Bool.true_and] at hinv
       have e:(met ++ l[k].2.1.take j).map V.int = (metOf (l.take (k + 1))).map V.int:=by rw [hms,take_all (by omega)]
       generalize l[k].2.1.take j = tj at *
       refine go ?_
       exact TX.rd (k + 1) [0] ⟨by omega,by rw [hms]; exact hinv,by rw [hms]; simp; omega⟩ (by omega)
     ·rw [decide_eq_false h4] at hinv
      simp only [Bool.and_false,Bool.false_and] at hinv
      rw [hinv,Bool.false_and]
      refine go ?_
      exact TX.rt1 [] (.ren rfl)
    ·rw [decide_eq_false ho] at hinv ⊢
     simp only [Bool.false_and] at hinv
     rw [hinv,Bool.false_and]
     refine go ?_
     exact TX.rt1 [] (.ren rfl)
   ·rw [drop_nil (by omega),clsOk] at hinv
    rw [hinv,Bool.true_and]
    clear hlo hml hinv
    refine go ?_
    refine TC.lp (fun k:Nat=>[(0,clssA l),(73,clssA l),(74,V.int l.length),(75,V.int k)]) (fun _=>[]) (fun k=>k ≤ l.length ∧ ∀ i,i < k → iniAt l i = true) (fun k=>l.length - k) 0 [] ⟨Nat.zero_le _,fun i h=>by omega⟩ ?_
    rintro k ⟨hk,hpre⟩
    by_cases hkl:k < l.length
    ·have hsk:=(hs.2 l[k] (List.getElem_mem _)).2.2
     have hso:=hso k hkl
     have hia:iniAt l k = initsOk (slotsOf l (3 + k)) [] l[k].2.2:=by rw [iniAt,clsAt,getD_lt hkl]
     have hhas:=fun s=>s_ref03_Has (slotsOf l (3 + k)) s
     have e3:((3 + k:Nat):Int) = 3 + (k:Int):=by omega
     rw [e3] at hso
     generalize slotsOf l (3 + k) = has at *
     refine go ?_
     refine OL.c hso Tryz.func31 ?_
     refine go ?_
     refine TC.adp 14 Tc.int 1 ?_
     generalize hie:l[k].2.2 = is at *
     refine TC.lp (fun j:Nat=>[(0,clssA l),(13,ints has),(14,.hs 0),(73,clssA l),(74,V.int l.length),(75,V.int k),(85,initsA is),(86,V.int is.length),(87,V.int j)]) (fun j=>[.gs false Tc.int 1 none (((is.take j).map (·.1)).map V.int)]) (fun j=>j ≤ is.length ∧ iniAt l k = initsOk has ((is.take j).map (·.1)) (is.drop j)) (fun j=>is.length - j) 0 [1] ⟨Nat.zero_le _,hia⟩ ?_
     rintro j ⟨hj,hinv⟩
     have hql:((is.take j).map (·.1)).length = j:=by simp; omega
     by_cases hjl:j < is.length
     ·rw [drop_cons hjl,initsOk] at hinv
      have e2:((is.take j).map (·.1)) ++ [is[j].1] = (is.take (j + 1)).map (·.1):=by rw [take_succ hjl,List.map_append]; rfl
      rw [e2] at hinv
      have e:((is.take j).map (·.1)).map V.int ++ [V.int is[j].1] = ((is.take (j + 1)).map (·.1)).map V.int:=by rw [← e2]; exact map_snoc _ _ _
      have hh1:=hhas is[j].1
      have hh2:=s_ref03_Has ((is.take j).map (·.1)) is[j].1
      generalize (is.take j).map (·.1) = own at *
      cases c1:has.contains is[j].1
      ·rw [c1] at hinv hh1
       simp only [Bool.false_and] at hinv
       rw [all_false hkl hinv]
       refine go ?_
       refine OL.c hh1 Tryz.func80 ?_
       refine go ?_
       exact TX.rt1 [] (.ren rfl)
      ·rw [c1] at hinv hh1
       cases c2:own.contains is[j].1
       ·rw [c2] at hinv hh2
        by_cases c3:-1000000000 ≤ is[j].2 ∧ is[j].2 ≤ 1000000000
        ·rw [decide_eq_true c3.1,decide_eq_true c3.2] at hinv
         simp only [Bool.not_false,Bool.true_and,Bool.and_true] at hinv
         refine go ?_
         refine OL.c hh1 Tryz.func80 ?_
         refine go ?_
         refine OL.lend (Wk.view (t:=97) (by with_unfolding_all exact rfl) (by with_unfolding_all exact rfl)) hh2 Tryz.func80 ?_
         refine go ?_
         exact TX.rd (j + 1) [3] ⟨by omega,hinv⟩ (by omega)
        ·have hz:(decide (-1000000000 ≤ is[j].2) && decide (is[j].2 ≤ 1000000000)) = false:=by
          rw [Bool.eq_false_iff]; simp only [ne_eq,Bool.and_eq_true,decide_eq_true_eq]; exact c3
         rw [hz] at hinv
         simp only [Bool.and_false,Bool.false_and] at hinv
         rw [all_false hkl hinv]
         refine go ?_
         refine OL.c hh1 Tryz.func80 ?_
         refine go ?_
         refine OL.lend (Wk.view (t:=97) (by with_unfolding_all exact rfl) (by with_unfolding_all exact rfl)) hh2 Tryz.func80 ?_
         (refine goS ?_ ?_<;>intro hc<;>refine go ?_)
         all_goals exact TX.rt1 [] (.ren rfl)
       ·rw [c2] at hinv hh2
        simp only [Bool.not_true,Bool.and_false,Bool.false_and] at hinv
        rw [all_false hkl hinv]
        refine go ?_
        refine OL.c hh1 Tryz.func80 ?_
        refine go ?_
        refine OL.lend (Wk.view (t:=97) (by with_unfolding_all exact rfl) (by with_unfolding_all exact rfl)) hh2 Tryz.func80 ?_
        refine go ?_
        exact TX.rt1 [] (.ren rfl)
     ·rw [drop_nil (by omega),initsOk] at hinv
      generalize (is.take j).map (·.1) = own at *
      refine go ?_
      exact TX.rd (k + 1) [] ⟨by omega,fun i hi=>by
       by_cases e:i = k
       ·rw [e]; exact hinv
       ·exact hpre i (by omega)⟩ (by omega)
    ·rw [all_true (fun i hi=>hpre i (by omega))]
     refine go ?_
     exact TX.rt1 [] (.ren rfl)
 ·rw [decide_eq_false h10,Bool.false_and]
  refine go ?_
  exact TX.rt1 [] (.ren rfl)
end Go.Proofs
namespace Go.Proofs
open Go Go.W Go.V
def schAt (ss:List (List Cls)) (i:Nat):List Cls:=ss.getD i []
def schOk (ss:List (List Cls)) (i:Nat):Bool:=(decide (i = 0) || decide ((schAt ss (i - 1)).length ≤ (schAt ss i).length)) && goodB (schAt ss i)
def schemasB (ss:List (List Cls)):Bool:=(decide (1 ≤ ss.length) && decide (ss.length ≤ 12)) && (List.range ss.length).all (schOk ss)
def ownB (n:Nat) (c:Int):Bool:=decide (3 ≤ c) && decide (c < 3 + (n:Int))
def thingOk (lz:Bool) (ss:List (List Cls)) (n:Int) (x:Thing):Bool:=
 ((decide (0 ≤ x.2.1) && decide (x.2.1 < (ss.length:Int))) && (lz || decide (x.2.1 = (ss.length:Int) - 1))) &&
   (ownB (schAt ss x.2.1.toNat).length x.1 && (decide (x.2.2.length = (slotsOf (schAt ss x.2.1.toNat) x.1.toNat).length) && x.2.2.all (valB · n)))
def formedB (lz:Bool) (ss:List (List Cls)) (ts:List Thing):Bool:=schemasB ss && (decide (ts.length ≤ 40) && ts.all (thingOk lz ss ts.length))
theorem schemasB_len {ss:List (List Cls)} (h:schemasB ss = true):1 ≤ ss.length ∧ ss.length ≤ 12:=by
 simp only [schemasB,Bool.and_eq_true,decide_eq_true_eq] at h; exact h.1
theorem schemasB_good {ss:List (List Cls)} (h:schemasB ss = true) {i:Nat} (hi:i < ss.length):goodB (schAt ss i) = true:=by
 simp only [schemasB,Bool.and_eq_true,List.all_eq_true,List.mem_range] at h
 have:=h.2 i hi
 simp only [schOk,Bool.and_eq_true] at this
 exact this.2
theorem goodB_fine {l:List Cls} (h:goodB l = true):l.length ≤ 10 ∧ fine (graphOf l) = true:=by
 simp only [goodB,Bool.and_eq_true,decide_eq_true_eq] at h; exact ⟨h.1,h.2.1⟩
abbrev wlA (lz:Bool) (ss:List (List Cls)) (ts:List Thing):AV:=.st [V.bool lz,schsA ss,thingsA ts]
end Go.Proofs
namespace Go.Proofs
open Go Go.W Go.V
theorem placeN_spec (n:Int):∀ (l:List Int) (k:Int),placeN l n k = -1 ∨ (k ≤ placeN l n k ∧ placeN l n k < k + l.length) ∨ k < 0
 | [],_=>.inl rfl
 | x :: r,k=>by
   rw [placeN]
   split
   ·exact .inr (.inl ⟨by omega,by simp; omega⟩)
   ·rcases placeN_spec n r (k + 1) with h | h | h
    ·exact .inl h
    ·refine .inr (.inl ⟨by omega,?_⟩)
     simp; omega
    ·by_cases h0:k < 0
     ·exact .inr (.inr h0)
     ·omega
theorem placeN_lt (l:List Int) (n:Int):placeN l n 0 = -1 ∨ (0 ≤ placeN l n 0 ∧ placeN l n 0 < l.length):=by
 rcases placeN_spec n l 0 with h | h | h
 ·exact .inl h
 ·exact .inr (by omega)
 ·omega
def keptV (l:List Cls) (c:Nat) (slots:List Int) (vals:List (Int × Int)) (s:Int):Int × Int:=if 0 ≤ placeN slots s 0 then vals.getD (placeN slots s 0).toNat (0,0) else beginV l c s
def turnedV (l:List Cls) (c:Nat) (slots:List Int) (vals:List (Int × Int)):List (Int × Int):=(slotsOf l c).map (keptV l c slots vals)
theorem turnedV_length (l:List Cls) (c:Nat) (slots:List Int) (vals:List (Int × Int)):(turnedV l c slots vals).length = (slotsOf l c).length:=by rw [turnedV,List.length_map]
end Go.Proofs
