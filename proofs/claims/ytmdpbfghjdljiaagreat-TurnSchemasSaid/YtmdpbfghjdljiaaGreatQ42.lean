/- Part 42 of what the claim is proved by: lemmas on the model and walks through functions of the program; no conditions. -/
import Derived.Test.YtmdpbfghjdljiaaGreatQ41
import Derived.Test.YtmdpbfghjdljiaaGreatQ31
import Derived.Test.YtmdpbfghjdljiaaGreatQ30
import Derived.Test.YtmdpbfghjdljiaaGreatQ25
import Derived.Test.YtmdpbfghjdljiaaGreatQ19
namespace Go.Proofs
open Go Go.W Go.V
abbrev Fct.op:Fct → Int | .mk op _ _ _ _ _=>op
abbrev Fct.arg:Fct → Int | .mk _ a _ _ _ _=>a
abbrev Fct.path:Fct → List Int | .mk _ _ p _ _ _=>p
abbrev Fct.cls:Fct → Int | .mk _ _ _ c _ _=>c
abbrev Fct.n:Fct → Int | .mk _ _ _ _ n _=>n
abbrev Fct.kids:Fct → List Fct | .mk _ _ _ _ _ k=>k
mutual
def nodesF:Fct → Nat
 | .mk _ _ _ _ _ kids=>1 + nodesL kids
def nodesL:List Fct → Nat
 | []=>0
 | f :: r=>nodesF f + nodesL r
end
mutual
def depthF:Fct → Nat
 | .mk _ _ _ _ _ kids=>depthL kids + 1
def depthL:List Fct → Nat
 | []=>0
 | f :: r=>max (depthF f) (depthL r)
end
abbrev leafB (op:Int):Bool:=decide (op = 2) || (decide (op = 3) || decide (op = 4))
mutual
def speaksF:Fct → Int
 | .mk op arg _ _ _ kids=>max (if leafB op then arg + 1 else 0) (speaksL kids)
def speaksL:List Fct → Int
 | []=>0
 | f :: r=>max (speaksF f) (speaksL r)
end
def kidsN (op:Int):Nat:=if op = 5 then 1 else if op = 6 ∨ op = 7 then 2 else 0
def pathB (no:Nat) (l:List Int):Bool:=decide (l.length ≤ 2) && l.all fun s=>decide (0 ≤ s) && decide (s < (no:Int))
def headB (np no:Nat):Fct → Bool
 | .mk op arg path cls n kids=>(decide (1 ≤ op) && decide (op ≤ 7) && decide (kids.length = kidsN op)) &&
   (if leafB op then ((decide (0 ≤ arg) && decide (arg < 3)) && pathB no path) && (if op = 2 then decide (n = 0) && (decide (0 ≤ cls) && decide (cls < 3 + (np:Int))) else decide (cls = 0) && betweenV n)
    else (decide (arg = 0) && decide (path.length = 0)) && (decide (cls = 0) && decide (n = 0)))
mutual
def nodeOkB (np no:Nat):Fct → Bool
 | .mk op arg path cls n kids=>headB np no (.mk op arg path cls n kids) && nodesOkB np no kids
def nodesOkB (np no:Nat):List Fct → Bool
 | []=>true
 | f :: r=>nodeOkB np no f && nodesOkB np no r
end
def okF (np no:Nat) (left deep:Int) (f:Fct):Bool:=(decide ((nodesF f:Int) ≤ left) && decide ((depthF f:Int) ≤ deep)) && nodeOkB np no f
def okFs (np no:Nat) (left deep:Int) (l:List Fct):Bool:=(decide ((nodesL l:Int) ≤ left) && decide ((depthL l:Int) ≤ deep)) && nodesOkB np no l
theorem nodesF_pos (f:Fct):1 ≤ nodesF f:=by cases f; rw [nodesF]; omega
theorem depthF_pos (f:Fct):1 ≤ depthF f:=by cases f; rw [depthF]; omega
theorem nodesL_app (a b:List Fct):nodesL (a ++ b) = nodesL a + nodesL b:=by
 induction a with
 | nil=>simp [nodesL]
 | cons f r ih=>rw [List.cons_append,nodesL,nodesL,ih]; omega
theorem depthL_app (a b:List Fct):depthL (a ++ b) = max (depthL a) (depthL b):=by
 induction a with
 | nil=>simp [depthL]
 | cons f r ih=>rw [List.cons_append,depthL,depthL,ih]; omega
theorem speaksL_nonneg (a:List Fct):0 ≤ speaksL a:=by
 induction a with
 | nil=>simp [speaksL]
 | cons f r ih=>rw [speaksL]; omega
theorem speaksL_app (a b:List Fct):speaksL (a ++ b) = max (speaksL a) (speaksL b):=by
 induction a with
 | nil=>have:=speaksL_nonneg b; simp [speaksL]; omega
 | cons f r ih=>rw [List.cons_append,speaksL,speaksL,ih]; omega
theorem nodesOkB_app (np no:Nat) (a b:List Fct):nodesOkB np no (a ++ b) = (nodesOkB np no a && nodesOkB np no b):=by
 induction a with
 | nil=>simp [nodesOkB]
 | cons f r ih=>rw [List.cons_append,nodesOkB,nodesOkB,ih,Bool.and_assoc]
theorem nodesL_snoc (a:List Fct) (f:Fct):nodesL (a ++ [f]) = nodesL a + nodesF f:=by rw [nodesL_app,nodesL,nodesL]; omega
theorem depthL_snoc (a:List Fct) (f:Fct):depthL (a ++ [f]) = max (depthL a) (depthF f):=by rw [depthL_app,depthL,depthL]; omega
theorem speaksL_snoc (a:List Fct) (f:Fct):speaksL (a ++ [f]) = max (speaksL a) (speaksF f):=by
 rw [speaksL_app,speaksL,speaksL]
 have:=speaksL_nonneg a
 omega
theorem nodesOkB_snoc (np no:Nat) (a:List Fct) (f:Fct):nodesOkB np no (a ++ [f]) = (nodesOkB np no a && nodeOkB np no f):=by rw [nodesOkB_app,nodesOkB,nodesOkB,Bool.and_true]
theorem okFs_nil (np no:Nat) (left deep:Int) (h0:0 ≤ left) (h1:0 ≤ deep):okFs np no left deep [] = true:=by simp [okFs,nodesL,depthL,nodesOkB,h0,h1]
theorem okFs_snoc (np no:Nat) (left deep:Int) (a:List Fct) (f:Fct):okFs np no left deep (a ++ [f]) = (okFs np no left deep a && okF np no (left - nodesL a) deep f):=by
 rw [okFs,okFs,okF,nodesL_snoc,depthL_snoc,nodesOkB_snoc]
 rw [Bool.eq_iff_iff]
 simp only [Bool.and_eq_true,decide_eq_true_eq]
 have:=nodesF_pos f
 constructor
 ·rintro ⟨⟨h1,h2⟩,h3,h4⟩
  refine ⟨⟨⟨?_,?_⟩,h3⟩,⟨?_,?_⟩,h4⟩<;>omega
 ·rintro ⟨⟨⟨h1,h2⟩,h3⟩,⟨h4,h5⟩,h6⟩
  refine ⟨⟨?_,?_⟩,h3,h6⟩<;>omega
theorem okFs_take (np no:Nat) (left deep:Int) (l:List Fct) (k:Nat) (h:okFs np no left deep l = true):okFs np no left deep (l.take k) = true:=by
 have e:l = l.take k ++ l.drop k:=(List.take_append_drop k l).symm
 rw [okFs] at h ⊢
 rw [e,nodesL_app,depthL_app,nodesOkB_app] at h
 simp only [Bool.and_eq_true,decide_eq_true_eq] at h ⊢
 obtain ⟨⟨h1,h2⟩,h3,h4⟩:=h
 exact ⟨⟨by omega,by omega⟩,h3⟩
theorem okF_eq (np no:Nat) (left deep:Int) (f:Fct):okF np no left deep f = (headB np no f && (decide (1 ≤ left) && decide (1 ≤ deep)) && okFs np no (left - 1) (deep - 1) f.kids):=by
 obtain ⟨op,arg,path,cls,n,kids⟩:=f
 rw [okF,okFs,nodesF,depthF,nodeOkB,Bool.eq_iff_iff]
 simp only [Bool.and_eq_true,decide_eq_true_eq,Fct.kids]
 constructor
 ·rintro ⟨⟨h1,h2⟩,h3,h4⟩
  exact ⟨⟨h3,by omega,by omega⟩,⟨by omega,by omega⟩,h4⟩
 ·rintro ⟨⟨h3,h5,h6⟩,⟨h1,h2⟩,h4⟩
  exact ⟨⟨by omega,by omega⟩,h3,h4⟩
theorem nodeOkB_eq (np no:Nat) (f:Fct):nodeOkB np no f = (headB np no f && nodesOkB np no f.kids):=by cases f; rw [nodeOkB]
theorem nodesF_eq (f:Fct):nodesF f = 1 + nodesL f.kids:=by cases f; rw [nodesF]
theorem depthF_eq (f:Fct):depthF f = depthL f.kids + 1:=by cases f; rw [depthF]
theorem speaksF_eq (f:Fct):speaksF f = max (if leafB f.op then f.arg + 1 else 0) (speaksL f.kids):=by cases f; rw [speaksF]
theorem kid_nodes {f k:Fct} (h:k ∈ f.kids):nodesF k < nodesF f:=by
 rw [nodesF_eq f]
 have:∀ l:List Fct,k ∈ l → nodesF k ≤ nodesL l:=by
  intro l
  induction l with
  | nil=>simp
  | cons x r ih =>
    intro h
    rw [nodesL]
    rcases List.mem_cons.1 h with rfl | h
    ·omega
    ·have:=ih h; omega
 have:=this _ h
 omega
theorem depthL_mem {l:List Fct} {k:Fct} (h:k ∈ l):depthF k ≤ depthL l:=by
 induction l with
 | nil=>simp at h
 | cons x r ih =>
   rw [depthL]
   rcases List.mem_cons.1 h with rfl | h
   ·omega
   ·have:=ih h; omega
end Go.Proofs
namespace Go.Proofs
open Go Go.W Go.V
theorem upHas_rng {g:List (List Int)} {a b:Int} (h:upHas g a b = true):0 ≤ b ∧ b < 64:=by
 rw [upHas,hasB] at h
 simp only [Bool.and_eq_true,decide_eq_true_eq] at h
 exact h.1
theorem upHas_bd {g:List (List Int)} (hf:fine g = true) {a:Nat} (ha:a < 3 + g.length) {b:Int} (h:upHas g a b = true) (h3:3 ≤ b):b ≤ a:=by
 obtain ⟨h0,h1⟩:=upHas_rng h
 rcases upHas_down hf (a + 1) a (by omega) ha b h0 h1 h with h | h | h<;>omega
theorem upHas_up {g:List (List Int)} (hf:fine g = true):∀ (n a:Nat),a < n → a < 3 + g.length → ∀ c b:Int,3 ≤ c → upHas g a c = true → b ∈ pOf g c → upHas g a b = true:=by
 intro n
 induction n with
 | zero=>intro a h; omega
 | succ n ih =>
   intro a han ha c b hc3 hc hb
   obtain ⟨h0,h1⟩:=upHas_rng hc
   have hle:=upHas_bd hf ha hc hc3
   have hpb:=(fine_pOf hf (c:=c) (by omega)).2.1 b hb
   have h16:=fine_len hf
   rw [upHas_step hf ha (by omega) (by omega)] at hc ⊢
   simp only [Bool.or_eq_true,decide_eq_true_eq,List.any_eq_true] at hc ⊢
   rcases hc with (hc | hc) | ⟨p,hp,hc⟩
   ·subst hc
    refine .inr ⟨b,hb,?_⟩
    have:=upHas_self hf (a:=b.toNat) (by omega)
    rwa [show ((b.toNat:Nat):Int) = b by omega] at this
   ·omega
   ·have hpp:=(fine_pOf hf (c:=(a:Int)) (by omega)).2.1 p hp
    obtain ⟨q,rfl⟩:∃ q:Nat,p = q:=⟨p.toNat,by omega⟩
    exact .inr ⟨_,hp,ih q (by omega) (by omega) c b hc3 hc hb⟩
theorem upHas_last {g:List (List Int)} (hf:fine g = true):∀ (n a:Nat),a < n → a < 3 + g.length → ∀ b:Int,3 ≤ b → upHas g a b = true → b = a ∨ ∃ c:Nat,3 ≤ c ∧ c ≤ a ∧ upHas g a c = true ∧ b ∈ pOf g c:=by
 intro n
 induction n with
 | zero=>intro a h; omega
 | succ n ih =>
   intro a han ha b hb3 hb
   obtain ⟨h0,h1⟩:=upHas_rng hb
   have h16:=fine_len hf
   have hb':=hb
   rw [upHas_step hf ha (by omega) (by omega)] at hb
   simp only [Bool.or_eq_true,decide_eq_true_eq,List.any_eq_true] at hb
   rcases hb with (hb | hb) | ⟨p,hp,hb⟩
   ·exact .inl hb
   ·omega
   ·have hpp:=(fine_pOf hf (c:=(a:Int)) (by omega)).2.1 p hp
    obtain ⟨q,rfl⟩:∃ q:Nat,p = q:=⟨p.toNat,by omega⟩
    right
    rcases ih q (by omega) (by omega) b hb3 hb with rfl | ⟨c,c3,c1,c2,c4⟩
    ·exact ⟨a,by omega,Nat.le_refl _,upHas_self hf ha,hp⟩
    ·refine ⟨c,c3,by omega,?_,c4⟩
     rw [upHas_step hf ha (by omega) (by omega)]
     simp only [Bool.or_eq_true,decide_eq_true_eq,List.any_eq_true]
     exact .inr ⟨_,hp,c2⟩
/-! ## The slots stand one behind the other -/
def consB:Int → List Int → Bool
 | _,[]=>true
 | n,s :: r=>decide (s = n) && consB (n + 1) r
def slN:List Cls → Nat
 | []=>0
 | c :: r=>c.2.1.length + slN r
def clsB:Int → List Cls → Bool
 | _,[]=>true
 | n,c :: r=>(decide (c.2.1.length ≤ 4) && consB n c.2.1) && clsB (n + c.2.1.length) r
def ownF:Nat → List Cls → List Int
 | _,[]=>[]
 | k,c :: r=>List.replicate c.2.1.length ((k:Int) + 3) ++ ownF (k + 1) r
theorem consB_app:∀ (a b:List Int) (n:Int),consB n (a ++ b) = (consB n a && consB (n + a.length) b)
 | [],b,n=>by simp [consB]
 | s :: r,b,n=>by rw [List.cons_append,consB,consB,consB_app r b,Bool.and_assoc,show n + 1 + (r.length:Int) = n + ((s :: r).length:Int) by simp; omega]
theorem consB_get:∀ (l:List Int) (n:Int),consB n l = true → ∀ k (h:k < l.length),l[k] = n + k
 | s :: r,n,h,0,_=>by simp only [consB,Bool.and_eq_true,decide_eq_true_eq] at h; simp [h.1]
 | s :: r,n,h,k + 1,hk=>by
   simp only [consB,Bool.and_eq_true,decide_eq_true_eq] at h
   have:=consB_get r (n + 1) h.2 k (by simpa using hk)
   rw [List.getElem_cons_succ,this]; omega
theorem consB_mem {l:List Int} {n:Int} (h:consB n l = true) {s:Int}:s ∈ l ↔ n ≤ s ∧ s < n + l.length:=by
 constructor
 ·intro hs
  obtain ⟨k,hk,rfl⟩:=List.mem_iff_getElem.1 hs
  rw [consB_get l n h k hk]; omega
 ·rintro ⟨h1,h2⟩
  have hk:(s - n).toNat < l.length:=by omega
  have:=consB_get l n h (s - n).toNat hk
  exact List.mem_iff_getElem.2 ⟨_,hk,by rw [this]; omega⟩
theorem consB_nodup:∀ {l:List Int} {n:Int},consB n l = true → l.Nodup
 | [],_,_=>by simp
 | s :: r,n,h=>by
   have h':=h
   simp only [consB,Bool.and_eq_true,decide_eq_true_eq] at h
   rw [List.nodup_cons]
   refine ⟨fun hs=>?_,consB_nodup h.2⟩
   have:=(consB_mem h.2).1 hs
   omega
theorem slN_app:∀ (a b:List Cls),slN (a ++ b) = slN a + slN b
 | [],b=>by simp [slN]
 | c :: r,b=>by rw [List.cons_append,slN,slN,slN_app r b]; omega
theorem slN_succ (l:List Cls) {k:Nat} (h:k < l.length):slN (l.take (k + 1)) = slN (l.take k) + l[k].2.1.length:=by rw [take_succ h,slN_app,slN,slN]; rfl
theorem clsB_app:∀ (a b:List Cls) (n:Int),clsB n (a ++ b) = (clsB n a && clsB (n + slN a) b)
 | [],b,n=>by simp [clsB,slN]
 | c :: r,b,n=>by
   rw [List.cons_append,clsB,clsB,clsB_app r b,slN,show n + (c.2.1.length:Int) + (slN r:Int) = n + ((c.2.1.length + slN r:Nat):Int) by omega]
   simp only [Bool.and_assoc]
theorem clsB_at {l:List Cls} (h:clsB 0 l = true) {k:Nat} (hk:k < l.length):l[k].2.1.length ≤ 4 ∧ consB (slN (l.take k)) l[k].2.1 = true:=by
 have e:l = l.take k ++ l[k] :: l.drop (k + 1):=by rw [← drop_cons hk,List.take_append_drop]
 have h2:clsB 0 (l.take k ++ l[k] :: l.drop (k + 1)) = true:=by rw [← e]; exact h
 rw [clsB_app] at h2
 simp only [Bool.and_eq_true,clsB,decide_eq_true_eq,Int.zero_add] at h2
 exact h2.2.1
theorem clsB_len:∀ {l:List Cls} {n:Int},clsB n l = true → slN l ≤ 4 * l.length
 | [],_,_=>by simp [slN]
 | c :: r,n,h=>by
   simp only [clsB,Bool.and_eq_true,decide_eq_true_eq] at h
   have:=clsB_len h.2
   rw [slN]; simp; omega
theorem ownF_app:∀ (a b:List Cls) (k:Nat),ownF k (a ++ b) = ownF k a ++ ownF (k + a.length) b
 | [],b,k=>by simp [ownF]
 | c :: r,b,k=>by rw [List.cons_append,ownF,ownF,ownF_app r b,List.append_assoc,show k + 1 + r.length = k + (c :: r).length by simp; omega]
theorem ownF_succ (l:List Cls) {k:Nat} (h:k < l.length):ownF 0 (l.take (k + 1)) = ownF 0 (l.take k) ++ List.replicate l[k].2.1.length ((k:Int) + 3):=by
 rw [take_succ h,ownF_app,ownF,ownF,List.append_nil,List.length_take,Nat.min_eq_left (by omega),Nat.zero_add]
theorem ownF_len:∀ (l:List Cls) (k:Nat),(ownF k l).length = slN l
 | [],k=>rfl
 | c :: r,k=>by rw [ownF,slN,List.length_append,ownF_len r]; simp
theorem slN_take_le (l:List Cls) (k:Nat):slN (l.take k) ≤ slN l:=by
 have:slN l = slN (l.take k) + slN (l.drop k):=by rw [← slN_app,List.take_append_drop]
 omega
theorem ownF_get:∀ (l:List Cls) (q s:Nat),s < slN l → ∃ k,∃ (hk:k < l.length),slN (l.take k) ≤ s ∧ s < slN (l.take k) + l[k].2.1.length ∧ (ownF q l).getD s 0 = ((q + k:Nat):Int) + 3
 | [],q,s,h=>by simp [slN] at h
 | c :: r,q,s,h=>by
   by_cases hs:s < c.2.1.length
   ·refine ⟨0,by simp,by simp [slN],by simpa [slN] using hs,?_⟩
    rw [ownF,List.getD_eq_getElem?_getD,List.getElem?_append_left (by simpa using hs),List.getElem?_replicate,if_pos hs]; simp
   ·rw [slN] at h
    obtain ⟨k,hk,h1,h2,h3⟩:=ownF_get r (q + 1) (s - c.2.1.length) (by omega)
    refine ⟨k + 1,by simp; omega,?_,?_,?_⟩
    ·rw [List.take_succ_cons,slN]; omega
    ·rw [List.take_succ_cons,slN,List.getElem_cons_succ]; omega
    ·rw [ownF,List.getD_eq_getElem?_getD,List.getElem?_append_right (by simp; omega),← List.getD_eq_getElem?_getD,List.length_replicate,h3]; omega
theorem own_iff {l:List Cls} (h:clsB 0 l = true) {k:Nat} (hk:k < l.length) {s:Int}:s ∈ l[k].2.1 ↔ (0 ≤ s ∧ s < slN l) ∧ (ownF 0 l).getD s.toNat 0 = (k:Int) + 3:=by
 have hmono:∀ i j,i < j → j < l.length → slN (l.take i) + (l.getD i ([],[],[])).2.1.length ≤ slN (l.take j):=by
  intro i j hij hj
  have e1:l.take j = l.take (i + 1) ++ (l.drop (i + 1)).take (j - (i + 1)):=by
   rw [show j = (i + 1) + (j - (i + 1)) by omega,List.take_add]
   congr 2
   omega
  rw [e1,slN_app,slN_succ l (by omega),getD_lt (by omega)]
  omega
 have hc:=(clsB_at h hk).2
 have htot:=slN_succ l hk
 have hle:=slN_take_le l (k + 1)
 rw [consB_mem hc]
 constructor
 ·rintro ⟨h1,h2⟩
  refine ⟨⟨by omega,by omega⟩,?_⟩
  obtain ⟨j,hj,g1,g2,g3⟩:=ownF_get l 0 s.toNat (by omega)
  rw [g3]
  by_cases hjk:j = k
  ·omega
  ·rcases Nat.lt_or_gt_of_ne hjk with hlt | hlt
   ·have:=hmono j k hlt hk
    rw [getD_lt hj] at this
    omega
   ·have:=hmono k j hlt hj
    rw [getD_lt hk] at this
    omega
 ·rintro ⟨⟨h1,h2⟩,h3⟩
  obtain ⟨j,hj,g1,g2,g3⟩:=ownF_get l 0 s.toNat (by omega)
  rw [g3] at h3
  obtain rfl:j = k:=by omega
  omega
/-! ## The slots of a class -/
def hasTo (l:List Cls) (c:Int) (n:Nat):List Int:=((List.range n).filter fun s=>upHas (graphOf l) c ((ownF 0 l).getD s 0)).map fun (s:Nat)=>(s:Int)
def hasL (l:List Cls) (c:Int):List Int:=hasTo l c (slN l)
theorem mem_hasL {l:List Cls} {c s:Int}:s ∈ hasL l c ↔ (0 ≤ s ∧ s < slN l) ∧ upHas (graphOf l) c ((ownF 0 l).getD s.toNat 0) = true:=by
 simp only [hasL,hasTo,List.mem_map,List.mem_filter,List.mem_range]
 constructor
 ·rintro ⟨n,⟨h1,h2⟩,rfl⟩
  exact ⟨by omega,by simpa using h2⟩
 ·rintro ⟨h1,h2⟩
  exact ⟨s.toNat,⟨by omega,h2⟩,by omega⟩
theorem hasL_sorted (l:List Cls) (c:Int):(hasL l c).Pairwise (· < ·):=by
 rw [hasL,hasTo,List.pairwise_map]
 refine List.Pairwise.filter _ ?_
 exact List.Pairwise.imp (fun h=>by omega) (List.pairwise_lt_range (n:=slN l))
def hasRaw (l:List Cls) (c:Nat) (j:Nat):List Int:=(List.range j).flatMap fun k=>if upHas (graphOf l) c ((c - k:Nat):Int) then (l.getD (c - k - 3) ([],[],[])).2.1 else []
theorem hasRaw_succ (l:List Cls) (c j:Nat):hasRaw l c (j + 1) = hasRaw l c j ++ (if upHas (graphOf l) c ((c - j:Nat):Int) then (l.getD (c - j - 3) ([],[],[])).2.1 else []):=by
 rw [hasRaw,List.range_succ,List.flatMap_append,← hasRaw]; simp
theorem mem_hasRaw {l:List Cls} {c j:Nat} {s:Int}:s ∈ hasRaw l c j ↔ ∃ k,k < j ∧ upHas (graphOf l) c ((c - k:Nat):Int) = true ∧ s ∈ (l.getD (c - k - 3) ([],[],[])).2.1:=by
 simp only [hasRaw,List.mem_flatMap,List.mem_range]
 constructor
 ·rintro ⟨k,hk,h⟩
  split at h
  ·rename_i hu; exact ⟨k,hk,hu,h⟩
  ·simp at h
 ·rintro ⟨k,hk,hu,h⟩
  exact ⟨k,hk,by rw [if_pos hu]; exact h⟩
theorem hasRaw_nodup {l:List Cls} (h:clsB 0 l = true) {c:Nat} (hc:c < 3 + l.length):∀ j,j + 3 ≤ c + 1 → (hasRaw l c j).Nodup:=by
 intro j
 induction j with
 | zero=>intro _; simp [hasRaw]
 | succ j ih =>
   intro hj
   rw [hasRaw_succ,List.nodup_append]
   have hkl:c - j - 3 < l.length:=by omega
   refine ⟨ih (by omega),?_,?_⟩
   ·split
    ·rw [getD_lt hkl]
     exact consB_nodup (clsB_at h hkl).2
    ·simp
   ·intro a ha b hb hab
    subst hab
    obtain ⟨k,hk,_,h2⟩:=mem_hasRaw.1 ha
    split at hb
    ·rw [getD_lt hkl] at hb
     have hk2:c - k - 3 < l.length:=by omega
     rw [getD_lt hk2] at h2
     have e1:=((own_iff h hkl).1 hb).2
     have e2:=((own_iff h hk2).1 h2).2
     omega
    ·simp at hb
theorem hasRaw_len {l:List Cls} (h:clsB 0 l = true) {c:Nat} (hc:c < 3 + l.length):∀ j,j + 3 ≤ c + 1 → (hasRaw l c j).length ≤ 4 * j:=by
 intro j
 induction j with
 | zero=>intro _; simp [hasRaw]
 | succ j ih =>
   intro hj
   have:=ih (by omega)
   have hkl:c - j - 3 < l.length:=by omega
   have h4:=(clsB_at h hkl).1
   rw [hasRaw_succ,List.length_append]
   split
   ·rw [getD_lt hkl]; omega
   ·simp; omega
theorem sort_hasRaw {l:List Cls} (hf:fine (graphOf l) = true) (h:clsB 0 l = true) {c:Nat} (h3:3 ≤ c) (hc:c < 3 + l.length):sortI (hasRaw l c (c - 2)) = hasL l c:=by
 have hgl:(graphOf l).length = l.length:=by simp [graphOf]
 have hnd:=hasRaw_nodup h hc (c - 2) (by omega)
 have hs:=hasL_sorted l c
 have hnd2:(hasL l c).Nodup:=List.Pairwise.imp (fun h=>by omega) hs
 have hperm:(hasRaw l c (c - 2)).Perm (hasL l c):=by
  refine (List.perm_ext_iff_of_nodup hnd hnd2).2 fun s=>?_
  rw [mem_hasRaw,mem_hasL]
  constructor
  ·rintro ⟨k,hk,hu,hs⟩
   have hkl:c - k - 3 < l.length:=by omega
   rw [getD_lt hkl] at hs
   obtain ⟨g1,g2⟩:=(own_iff h hkl).1 hs
   refine ⟨g1,?_⟩
   rw [g2,show ((c - k - 3:Nat):Int) + 3 = ((c - k:Nat):Int) by omega]
   exact hu
  ·rintro ⟨⟨h0,h1⟩,hu⟩
   obtain ⟨k,hk,g1,g2,g3⟩:=ownF_get l 0 s.toNat (by omega)
   rw [Nat.zero_add] at g3
   rw [g3] at hu
   have hle:=upHas_bd hf (a:=c) (by omega) hu (by omega)
   have hkl:c - (c - 3 - k) - 3 = k:=by omega
   refine ⟨c - 3 - k,by omega,?_,?_⟩
   ·rw [show ((c - (c - 3 - k):Nat):Int) = (k:Int) + 3 by omega]; exact hu
   ·rw [hkl,getD_lt hk]
    exact (own_iff h hk).2 ⟨⟨h0,h1⟩,g3⟩
 refine List.Perm.eq_of_pairwise (le:=(· ≤ ·)) (fun a b _ _ h1 h2=>by omega) (sortI_sorted _) ?_ ((sortI_perm _).trans hperm)
 exact List.Pairwise.imp (fun h=>by omega) hs
end Go.Proofs
namespace Go.Proofs
open Go Go.W Go.V
def insK (L:List Int) (k:Int):List Int:=if L.contains k then L else L ++ [k]
theorem mem_insK {L:List Int} {k b:Int}:b ∈ insK L k ↔ b ∈ L ∨ b = k:=by
 unfold insK
 split
 ·rename_i h
  have h':k ∈ L:=by simpa using h
  constructor
  ·exact .inl
  ·rintro (h | rfl)
   ·exact h
   ·exact h'
 ·simp
def upKeys (g:List (List Int)) (c:Nat):Nat → List Int
 | 0=>[(c:Int)]
 | j + 1=>if (upKeys g c j).contains ((c - j:Nat):Int) then (pOf g ((c - j:Nat):Int)).foldl insK (upKeys g c j) else upKeys g c j
theorem mem_foldK {b:Int}:∀ (l L:List Int),b ∈ l.foldl insK L ↔ b ∈ L ∨ b ∈ l
 | [],L=>by simp
 | k :: r,L=>by rw [List.foldl_cons,mem_foldK r,mem_insK,List.mem_cons,or_assoc]
theorem mem_upKeys {g:List (List Int)} (hf:fine g = true) {c:Nat} (h3:3 ≤ c) (hc:c < 3 + g.length):∀ j,j ≤ c - 2 →
  (∀ b:Int,b ∈ upKeys g c j ↔ (b = c ∨ ∃ q:Nat,c - j < q ∧ q ≤ c ∧ upHas g c q = true ∧ b ∈ pOf g q)) ∧ (j ≤ c - 3 → (((c - j:Nat):Int) ∈ upKeys g c j ↔ upHas g c ((c - j:Nat):Int) = true)):=by
 intro j
 have key:(∀ b:Int,b ∈ upKeys g c j ↔ (b = c ∨ ∃ q:Nat,c - j < q ∧ q ≤ c ∧ upHas g c q = true ∧ b ∈ pOf g q)) → (j ≤ c - 3 → (((c - j:Nat):Int) ∈ upKeys g c j ↔ upHas g c ((c - j:Nat):Int) = true)):=by
  intro hk hj
  rw [hk]
  constructor
  ·rintro (h | ⟨q,q1,q2,q3,q4⟩)
   ·rw [h]; exact upHas_self hf hc
   ·exact upHas_up hf (c + 1) c (by omega) hc q _ (by omega) q3 q4
  ·intro h
   rcases upHas_last hf (c + 1) c (by omega) hc _ (by omega) h with h | ⟨q,q0,q1,q2,q4⟩
   ·exact .inl h
   ·refine .inr ⟨q,?_,q1,q2,q4⟩
    have:=(fine_pOf hf (c:=(q:Int)) (by omega)).2.1 _ q4
    omega
 induction j with
 | zero =>
   intro _
   refine ⟨?_,key ?_⟩ <;>
   ·intro b
    simp only [upKeys,List.mem_singleton]
    constructor
    ·exact .inl
    ·rintro (h | ⟨q,q1,q2,_⟩)
     ·exact h
     ·omega
 | succ j ih =>
   intro hj
   have key':(∀ b:Int,b ∈ upKeys g c j ↔ (b = c ∨ ∃ q:Nat,c - j < q ∧ q ≤ c ∧ upHas g c q = true ∧ b ∈ pOf g q)) → (j ≤ c - 3 → (((c - j:Nat):Int) ∈ upKeys g c j ↔ upHas g c ((c - j:Nat):Int) = true)):=by
    intro hk hj
    rw [hk]
    constructor
    ·rintro (h | ⟨q,q1,q2,q3,q4⟩)
     ·rw [h]; exact upHas_self hf hc
     ·exact upHas_up hf (c + 1) c (by omega) hc q _ (by omega) q3 q4
    ·intro h
     rcases upHas_last hf (c + 1) c (by omega) hc _ (by omega) h with h | ⟨q,q0,q1,q2,q4⟩
     ·exact .inl h
     ·refine .inr ⟨q,?_,q1,q2,q4⟩
      have:=(fine_pOf hf (c:=(q:Int)) (by omega)).2.1 _ q4
      omega
   obtain ⟨i1,i2⟩:=ih key' (by omega)
   have i2:=i2 (by omega)
   have main:∀ b:Int,b ∈ upKeys g c (j + 1) ↔ (b = c ∨ ∃ q:Nat,c - (j + 1) < q ∧ q ≤ c ∧ upHas g c q = true ∧ b ∈ pOf g q):=by
    intro b
    rw [upKeys]
    by_cases hu:upHas g c ((c - j:Nat):Int) = true
    ·rw [if_pos (by simpa using i2.2 hu),mem_foldK,i1]
     constructor
     ·rintro ((h | ⟨q,q1,q2,q3⟩) | h)
      ·exact .inl h
      ·exact .inr ⟨q,by omega,q2,q3⟩
      ·exact .inr ⟨c - j,by omega,by omega,hu,h⟩
     ·rintro (h | ⟨q,q1,q2,q3,q4⟩)
      ·exact .inl (.inl h)
      ·by_cases hq:q = c - j
       ·subst hq; exact .inr q4
       ·exact .inl (.inr ⟨q,by omega,q2,q3,q4⟩)
    ·rw [if_neg (by simpa using fun h=>hu (i2.1 h)),i1]
     constructor
     ·rintro (h | ⟨q,q1,q2,q3⟩)
      ·exact .inl h
      ·exact .inr ⟨q,by omega,q2,q3⟩
     ·rintro (h | ⟨q,q1,q2,q3,q4⟩)
      ·exact .inl h
      ·by_cases hq:q = c - j
       ·subst hq; exact absurd q3 hu
       ·exact .inr ⟨q,by omega,q2,q3,q4⟩
   exact ⟨main,key main⟩
theorem upKeys_has {g:List (List Int)} (hf:fine g = true) {c j:Nat} (h3:3 ≤ c) (hc:c < 3 + g.length) (hj:j ≤ c - 3):(upKeys g c j).contains ((c - j:Nat):Int) = upHas g c ((c - j:Nat):Int):=by
 rw [Bool.eq_iff_iff,List.contains_iff_mem]
 exact (mem_upKeys hf h3 hc j (by omega)).2 hj
/-! ## Which programs are formed -/
def clsInB (l:List Cls) (k:Nat):Bool:=decide (0 < (at_ (orders (graphOf l)) ((3 + k:Nat):Int)).length) && initsOk (hasL l ((3 + k:Nat):Int)) [] (clsAt l k).2.2
def classesB (p:Prg):Bool:=(decide (p.cls.length ≤ 10) && clsB 0 p.cls) && ((decide ((slN p.cls:Int) = p.slots) && fine (graphOf p.cls)) && (List.range p.cls.length).all (clsInB p.cls))
def nxtB (k:Int):Bool:=decide (k = 1) || decide (k = 4)
def mthB (p:Prg) (out:List Int) (x:Mth):Option (List Int):=
 if (decide (1 ≤ x.kind) && decide (x.kind ≤ 4)) && (decide (0 ≤ x.gen) && decide (x.gen < p.gens.length)) then
  if okF p.cls.length (slN p.cls) 24 12 x.fact && decide (speaksF x.fact ≤ p.gens.getD x.gen.toNat 0) then runB p (nxtB x.kind) out (belowL p x.node (p.gens.getD x.gen.toNat 0)) else none
 else none
def mthsB (p:Prg) (out:List Int) (l:List Mth):Option (List Int):=l.foldlM (mthB p) out
def lensB (p:Prg):Bool:=((decide (p.gens.length ≤ 8) && decide (p.mths.length ≤ 16)) && (decide (1 ≤ p.nodes.length) && decide (p.nodes.length ≤ 120))) && p.gens.all fun n=>decide (1 ≤ n) && decide (n ≤ 3)
def sizesV (p:Prg):Option (List Int):=
 if classesB p && lensB p then
  ((mthsB p (List.replicate p.nodes.length (-1)) p.mths).bind fun o=>runB p false o (belowL p p.main 0)).filter fun o=>!o.contains (-1)
 else none
def progB (p:Prg):Bool:=(sizesV p).isSome
theorem mthsB_snoc (p:Prg) (out:List Int) (l:List Mth) (x:Mth):mthsB p out (l ++ [x]) = (mthsB p out l).bind fun o=>mthB p o x:=by simp [mthsB,List.foldlM_append]
theorem mthsB_app (p:Prg) (out:List Int) (l r:List Mth):mthsB p out (l ++ r) = (mthsB p out l).bind fun o=>mthsB p o r:=by simp [mthsB,List.foldlM_append]
theorem stepB_ge {p:Prg} {next:Bool} {out o:List Int} {x:Pl} (h:stepB p next out x = some o) (h0:∀ y ∈ out,-1 ≤ y) (hx:0 ≤ x.2.1):∀ y ∈ o,-1 ≤ y:=by
 unfold stepB at h
 split at h
 ·split at h
  ·cases h
   intro y hy
   rcases List.mem_or_eq_of_mem_set hy with h | h
   ·exact h0 y h
   ·omega
  ·cases h
 ·cases h
theorem runB_ge {p:Prg} {next:Bool}:∀ {l:List Pl} {out o:List Int},runB p next out l = some o → (∀ y ∈ out,-1 ≤ y) → (∀ x ∈ l,0 ≤ x.2.1) → ∀ y ∈ o,-1 ≤ y
 | [],out,o,h,h0,_=>by simp [runB] at h; subst h; exact h0
 | x :: l,out,o,h,h0,hl=>by
   have e:=runB_app p next out [x] l
   rw [List.singleton_append,h] at e
   cases h1:runB p next out [x] with
   | none=>rw [h1] at e; cases e
   | some o1 =>
     rw [h1] at e
     have h2:stepB p next out x = some o1:=by simpa [runB] using h1
     exact runB_ge e.symm (stepB_ge h2 h0 (hl x (by simp))) (fun y hy=>hl y (by simp [hy]))
theorem visL_ge (nodes:List Nd):∀ (f:Nat) (n s d:Int),0 ≤ s → ∀ x ∈ visL nodes f n s d,0 ≤ x.2.1
 | 0,n,s,d,h,x,hx=>by simp [visL] at hx; subst hx; exact h
 | f + 1,n,s,d,h,x,hx=>by
   rw [visL] at hx
   rcases List.mem_cons.1 hx with rfl | hx
   ·exact h
   ·obtain ⟨q,_,hq⟩:=List.mem_flatMap.1 hx
    exact visL_ge nodes f _ _ _ (by split<;>omega) x hq
theorem mthB_len {p:Prg} {out o:List Int} {x:Mth} (h:mthB p out x = some o):o.length = out.length:=by
 unfold mthB at h
 split at h
 ·split at h
  ·exact runB_len h
  ·cases h
 ·cases h
theorem mthsB_len {p:Prg}:∀ {l:List Mth} {out o:List Int},mthsB p out l = some o → o.length = out.length
 | [],out,o,h=>by simp [mthsB] at h; rw [h]
 | x :: l,out,o,h=>by
   have e:=mthsB_app p out [x] l
   rw [List.singleton_append,h] at e
   cases h1:mthsB p out [x] with
   | none=>rw [h1] at e; cases e
   | some o1 =>
     rw [h1] at e
     have h2:mthB p out x = some o1:=by simpa [mthsB] using h1
     rw [mthsB_len e.symm,mthB_len h2]
theorem gens_pos {p:Prg} (h:lensB p = true) {k:Nat} (hk:k < p.gens.length):1 ≤ p.gens[k] ∧ p.gens[k] ≤ 3:=by
 simp only [lensB,Bool.and_eq_true,List.all_eq_true,decide_eq_true_eq] at h
 exact h.2 _ (List.getElem_mem hk)
theorem mthB_ge {p:Prg} (hl:lensB p = true) {out o:List Int} {x:Mth} (h:mthB p out x = some o) (h0:∀ y ∈ out,-1 ≤ y):∀ y ∈ o,-1 ≤ y:=by
 unfold mthB at h
 split at h
 ·rename_i hk
  simp only [Bool.and_eq_true,decide_eq_true_eq] at hk
  have hg:=gens_pos hl (k:=x.gen.toNat) (by omega)
  split at h
  ·refine runB_ge h h0 (visL_ge _ _ _ _ _ ?_)
   rw [getD_lt (by omega)]; omega
  ·cases h
 ·cases h
theorem mthsB_ge {p:Prg} (hl:lensB p = true):∀ {l:List Mth} {out o:List Int},mthsB p out l = some o → (∀ y ∈ out,-1 ≤ y) → ∀ y ∈ o,-1 ≤ y
 | [],out,o,h,h0=>by simp [mthsB] at h; subst h; exact h0
 | x :: l,out,o,h,h0=>by
   have e:=mthsB_app p out [x] l
   rw [List.singleton_append,h] at e
   cases h1:mthsB p out [x] with
   | none=>rw [h1] at e; cases e
   | some o1 =>
     rw [h1] at e
     have h2:mthB p out x = some o1:=by simpa [mthsB] using h1
     exact mthsB_ge hl e.symm (mthB_ge hl h2 h0)
theorem neg_iff {o:List Int} (h:∀ y ∈ o,-1 ≤ y):o.contains (-1) = o.any fun y=>decide (y < 0):=by
 rw [Bool.eq_iff_iff,List.contains_iff_mem,List.any_eq_true]
 constructor
 ·intro hm; exact ⟨-1,hm,by decide⟩
 ·rintro ⟨y,hy,hlt⟩
  have:=h y hy
  have:y = -1:=by simp at hlt; omega
  rwa [this] at hy
end Go.Proofs
namespace Go.Proofs
open Go Go.W Go.V
theorem s_ref05_in (n:Int):V.Spec Tryz.prog 186 [V.int n] [] (V.bool (betweenV n)) []:=by
 refine V.Spec.enter Tryz.tabOK Tryz.mixed Tryz.func186 rfl rfl rfl fun B hB=>?_
 (refine goSW ?_ ?_<;>intro hc<;>refine goW ?_)
 ·rw [show betweenV n = decide (n ≤ 1000000000) by simp [betweenV,hc]]
  exact TX.rt1 [] (.ren rfl)
 ·rw [show betweenV n = false by simp [betweenV,hc]]
  exact TX.rt1 [] (.ren rfl)
theorem s_ref05_Next (k:Int):V.Spec Tryz.prog 134 [V.int k] [] (V.bool (nxtB k)) []:=by
 refine V.Spec.enter Tryz.tabOK Tryz.mixed Tryz.func134 rfl rfl rfl fun B hB=>?_
 (refine goSW ?_ ?_<;>intro hc<;>refine goW ?_)
 all_goals
  refine TX.rt1 [] (LE.bool ?_)
  simp [nxtB, *]
set_option maxHeartbeats 2000000 in
theorem s_ref05_number (p:Prg) (x:Nd) (size:Int) (hc:p.cls.length < 1000000000):V.Spec Tryz.prog 192 [prgA p,ndA x,V.int size] [] (V.bool (numberV p x size)) []:=by
 obtain ⟨op,n,kids⟩:=x
 refine V.Spec.enter Tryz.tabOK Tryz.mixed Tryz.func192 rfl rfl rfl fun B hB=>?_
 repeat' (with_reducible first | refine OL.st ?_ | refine OL.box ?_ | refine TC.region ?_ | refine TC.seq ?_ | refine OL.nil ?_ | refine TX.thenN ?_ | refine TC.block ?_ | refine TC.skip ?_ | refine TX.blkN ?_ | refine OL.gOn ?_ | refine OL.gOff ?_ | refine TC.ifD ?_ ?_<;>(intro hc; try (exfalso; omega)) | refine OL.gD ?_ ?_<;>(intro hc; try (exfalso; omega)) | refine TC.ret ?_ | refine TX.thenR ?_ | refine TX.blkR ?_ | fail)
 ·refine OL.c (s_ref05_in n) Tryz.func186 ?_
  refine goW ?_
  refine TX.rt1 [] (LE.bool ?_)
  simp [numberV, *]
 all_goals
  refine TX.rt1 [] (LE.bool ?_)
  rw [Bool.eq_iff_iff]
  simp [numberV,mostV, *]
  try omega
def kidsRV (p:Prg) (x:Nd):Int:=if x.1 = 5 ∧ x.2.1 < 0 then -1 else (manyV p x).getD (-1)
set_option maxHeartbeats 2000000 in
theorem s_ref05_Kids (p:Prg) (x:Nd):V.Spec Tryz.prog 191 [prgA p,ndA x] [] (V.int (kidsRV p x)) []:=by
 obtain ⟨op,n,kids⟩:=x
 refine V.Spec.enter Tryz.tabOK Tryz.mixed Tryz.func191 rfl rfl rfl fun B hB=>?_
 repeat' (with_reducible first | refine OL.st ?_ | refine OL.box ?_ | refine TC.region ?_ | refine TC.seq ?_ | refine OL.nil ?_ | refine TX.thenN ?_ | refine TC.block ?_ | refine TC.skip ?_ | refine TX.blkN ?_ | refine TC.ifF ?_ | refine OL.gOn ?_ | refine OL.gOff ?_ | refine TC.ifD ?_ ?_<;>(intro hc; try (exfalso; omega)) | refine OL.gD ?_ ?_<;>(intro hc; try (exfalso; omega)) | refine TC.ret ?_ | refine TX.thenR ?_ | refine TX.blkR ?_ | fail)
 all_goals
  refine TX.rt1 [] (LE.int ?_)
  simp [kidsRV,manyV, *]
  try omega
theorem s_ref05_Graph (p:Prg) (hs:Short p.cls):V.Spec Tryz.prog 184 [prgA p] [] (rows (graphOf p.cls)) []:=by
 have hb:=hs.1
 refine V.Spec.enter Tryz.tabOK Tryz.mixed Tryz.func184 rfl rfl rfl fun B hB=>?_
 refine goW ?_
 refine TC.frzB 1 ?_
 refine TC.adp 3 Tc.Lint 1 ?_
 refine TC.lp (fun k:Nat=>[(1,.ep (prgC p) 0),(3,.hs 1),(4,V.int k)]) (fun k=>[.dead,.gs false Tc.Lint 1 none ((graphOf (p.cls.take k)).map ints)]) (fun k=>k ≤ p.cls.length) (fun k=>p.cls.length - k) 0 [0,1] (Nat.zero_le _) ?_
 rintro k hk
 by_cases hkl:k < p.cls.length
 ·have hlen:(graphOf (p.cls.take k)).length = k:=by simp; omega
  have e:(graphOf (p.cls.take k)).map ints ++ [ints p.cls[k].1] = (graphOf (p.cls.take (k + 1))).map ints:=by rw [graphOf,graphOf,take_succ hkl,List.map_append,List.map_append]; rfl
  have hc:=(hs.2 p.cls[k] (List.getElem_mem _)).1
  generalize graphOf (p.cls.take k) = gk at *
  refine goW ?_
  refine OL.app0 ?_
  refine OL.vw 19 ?_
  refine goW ?_
  exact TX.rd (k + 1) [0,5] (by omega) (by omega)
 ·rw [take_all (by omega)]
  refine goW ?_
  refine TX.vw 2 ?_
  exact TX.rt1 [] (.ren rfl)
end Go.Proofs
namespace Go.Proofs
open Go Go.W Go.V
abbrev fwC (g:List (List Int)) (ow:List Int):List AV:=[rows g,ints ow]
abbrev fwA (g:List (List Int)) (ow:List Int):AV:=.st (fwC g ow)
set_option maxHeartbeats 1000000 in
theorem s_ref05_WorldOf (p:Prg) (hs:Short p.cls) (hsl:slN p.cls ≤ 1000000):V.Spec Tryz.prog 130 [prgA p] [] (fwA (graphOf p.cls) (ownF 0 p.cls)) []:=by
 have hg:=s_ref05_Graph p hs
 have hb:=hs.1
 generalize graphOf p.cls = g at *
 refine V.Spec.enter Tryz.tabOK Tryz.mixed Tryz.func130 rfl rfl rfl fun B hB=>?_
 refine goW ?_
 refine OL.frzB 1 ?_
 refine OL.c hg Tryz.func184 ?_
 refine goW ?_
 refine TC.adpC 2 1 Tc.int 1 ?_
 refine TC.lp (fun k:Nat=>[(1,.ep (prgC p) 0),(2,.bp 1 0),(3,.bp 2 0),(4,V.int k)]) (fun k=>[.dead,.cb Tc.api_FactWorld [.raw (.slice none 0 0),.raw (.slice none 0 0)],.cb Tc.api_FactWorld [rows g,.hs 3],.gs false Tc.int 1 none ((ownF 0 (p.cls.take k)).map V.int)]) (fun k=>k ≤ p.cls.length) (fun k=>p.cls.length - k) 0 [0,1,2,3] (Nat.zero_le _) ?_
 rintro k hk
 by_cases hkl:k < p.cls.length
 ·have hos:=ownF_succ p.cls hkl
  have hsu:=slN_succ p.cls hkl
  have hle:=slN_take_le p.cls (k + 1)
  have hql:(ownF 0 (p.cls.take k)).length = slN (p.cls.take k):=ownF_len _ _
  generalize ownF 0 (p.cls.take k) = q at *
  refine goW ?_
  refine TC.lp (fun j:Nat=>[(1,.ep (prgC p) 0),(2,.bp 1 0),(3,.bp 2 0),(4,V.int k),(5,V.int j)]) (fun j=>[.dead,.cb Tc.api_FactWorld [.raw (.slice none 0 0),.raw (.slice none 0 0)],.cb Tc.api_FactWorld [rows g,.hs 3],.gs false Tc.int 1 none ((q ++ List.replicate j ((k:Int) + 3)).map V.int)]) (fun j=>j ≤ p.cls[k].2.1.length) (fun j=>p.cls[k].2.1.length - j) 0 [0,1,2,3] (Nat.zero_le _) ?_ (ho:=⟨⟨_,rfl,OE.ren rfl⟩,⟨_,rfl,OE.ren rfl⟩,⟨_,rfl,OE.ren rfl⟩,⟨_,rfl,OE.gsS (by simp)⟩,trivial⟩)
  rintro j hj
  by_cases hjl:j < p.cls[k].2.1.length
  ·have e:(q ++ List.replicate j ((k:Int) + 3)).map V.int ++ [V.int ((k:Int) + 3)] = (q ++ List.replicate (j + 1) ((k:Int) + 3)).map V.int:=by rw [List.replicate_succ']; simp
   have hq2:(q ++ List.replicate j ((k:Int) + 3)).length ≤ 2000000:=by simp; omega
   generalize q ++ List.replicate j ((k:Int) + 3) = q2 at *
   refine goW ?_
   exact TX.rd (j + 1) [0,1,2,5] (by omega) (by omega)
  ·obtain rfl:j = p.cls[k].2.1.length:=by omega
   have e5:=congrArg (List.map V.int) hos.symm
   refine goW ?_
   exact TX.rd (k + 1) [0,1,2,3] (by omega) (by omega)
 ·rw [take_all (by omega)]
  refine TC.vwC 2 1 ?_
  refine goW ?_
  exact TX.rtc [] (.ren rfl)
theorem s_bind_graph_1 (c:Cls) (hc:c.1.length * 8 ≤ 140737488355328):V.Spec Tryz.prog 236 [clsA c] [] (ints c.1) []:=by
 refine V.Spec.enter Tryz.tabOK Tryz.mixed Tryz.func236 rfl rfl rfl fun B hB=>?_
 refine goW ?_
 refine OL.c (clone_i c.1 hc) Tryz.func112 ?_
 refine goW ?_
 exact TX.rt1 [] (.ren rfl)
theorem clip_rows (g:List (List Int)):V.Spec Tryz.prog 253 [rows g] [] (rows g) []:=by
 refine V.Spec.enter Tryz.tabOK Tryz.mixed Tryz.func253 rfl rfl rfl fun B hB=>?_
 refine goW ?_
 refine OL.clip ?_
 refine goW ?_
 exact TX.rt1 [] (.ren rfl)
theorem clip_ints (l:List Int):V.Spec Tryz.prog 193 [ints l] [] (ints l) []:=by
 refine V.Spec.enter Tryz.tabOK Tryz.mixed Tryz.func193 rfl rfl rfl fun B hB=>?_
 refine goW ?_
 refine OL.clip ?_
 refine goW ?_
 exact TX.rt1 [] (.ren rfl)
theorem s_bind_each_CL (l:List Cls) (f:Cls → List Int) (hb:l.length * 72 ≤ 140737488355328):V.Spec Tryz.prog 235 [clssA l,funC Tryz.prog (· ∈ l) (fun c=>ints (f c))] [] (rows (l.map f)) []:=by
 refine V.Spec.enter Tryz.tabOK Tryz.mixed Tryz.func235 rfl rfl rfl fun B hB=>?_
 refine goW ?_
 refine TC.adp 5 Tc.Lint 1 ?_
 refine TC.lp (fun k:Nat=>[(1,funC Tryz.prog (· ∈ l) (fun c=>ints (f c))),(5,.hs 0),(8,clssA l),(9,V.int l.length),(10,V.int k)]) (fun k=>[.gs false Tc.Lint 1 none (((l.take k).map f).map ints)]) (fun k=>k ≤ l.length) (fun k=>l.length - k) 0 [0] (Nat.zero_le _) ?_
 rintro k hk
 by_cases hkl:k < l.length
 ·have hlen:((l.take k).map f).length = k:=by simp; omega
  have e:((l.take k).map f).map ints ++ [ints (f l[k])] = ((l.take (k + 1)).map f).map ints:=by rw [take_succ hkl,List.map_append,List.map_append]; rfl
  generalize (l.take k).map f = gk at *
  refine goW ?_
  refine OL.cf l[k] (List.getElem_mem _) ?_
  refine goW ?_
  exact TX.rd (k + 1) [3] (by omega) (by omega)
 ·rw [take_all (by omega)]
  refine goW ?_
  refine OL.vwA 0 ?_
  refine OL.c (clip_rows (l.map f)) Tryz.func253 ?_
  refine goW ?_
  exact TX.rt1 [] (.ren rfl)
theorem s_bind_graph (p:Prg) (hs:Short p.cls):V.Spec Tryz.prog 194 [prgA p] [] (rows (graphOf p.cls)) []:=by
 have he:=s_bind_each_CL p.cls (·.1) hs.1
 refine V.Spec.enter Tryz.tabOK Tryz.mixed Tryz.func194 rfl rfl rfl fun B hB=>?_
 refine goW ?_
 refine OL.c he Tryz.func235 ?_ (hle:=by with_unfolding_all exact ⟨.ren rfl,LE.fun0 Tryz.func236 (fun c hc=>s_bind_graph_1 c (hs.2 c hc).1),trivial⟩)
 refine goW ?_
 exact TX.rt1 [] (.ren rfl)
set_option maxHeartbeats 1000000 in
theorem s_bind_world (p:Prg) (hs:Short p.cls) (hsl:slN p.cls ≤ 1000000):V.Spec Tryz.prog 181 [prgA p] [] (fwA (graphOf p.cls) (ownF 0 p.cls)) []:=by
 have hg:=s_bind_graph p hs
 have hb:=hs.1
 generalize graphOf p.cls = g at *
 refine V.Spec.enter Tryz.tabOK Tryz.mixed Tryz.func181 rfl rfl rfl fun B hB=>?_
 refine goW ?_
 refine OL.frzB 1 ?_
 refine OL.c hg Tryz.func194 ?_
 refine goW ?_
 refine TC.adpC 2 1 Tc.int 1 ?_
 refine TC.lp (fun k:Nat=>[(2,.bp 1 0),(3,.bp 2 0),(10,clssA p.cls),(11,V.int p.cls.length),(12,V.int k)]) (fun k=>[.dead,.cb Tc.api_FactWorld [.raw (.slice none 0 0),.raw (.slice none 0 0)],.cb Tc.api_FactWorld [rows g,.hs 3],.gs false Tc.int 1 none ((ownF 0 (p.cls.take k)).map V.int)]) (fun k=>k ≤ p.cls.length) (fun k=>p.cls.length - k) 0 [0,1,2,3] (Nat.zero_le _) ?_
 rintro k hk
 by_cases hkl:k < p.cls.length
 ·have hos:=ownF_succ p.cls hkl
  have hsu:=slN_succ p.cls hkl
  have hle:=slN_take_le p.cls (k + 1)
  have hql:(ownF 0 (p.cls.take k)).length = slN (p.cls.take k):=ownF_len _ _
  generalize ownF 0 (p.cls.take k) = q at *
  refine goW ?_
  refine TC.lp (fun j:Nat=>[(2,.bp 1 0),(3,.bp 2 0),(4,V.int k),(10,clssA p.cls),(11,V.int p.cls.length),(12,V.int k),(19,V.int p.cls[k].2.1.length),(20,V.int j)]) (fun j=>[.dead,.cb Tc.api_FactWorld [.raw (.slice none 0 0),.raw (.slice none 0 0)],.cb Tc.api_FactWorld [rows g,.hs 3],.gs false Tc.int 1 none ((q ++ List.replicate j ((k:Int) + 3)).map V.int)]) (fun j=>j ≤ p.cls[k].2.1.length) (fun j=>p.cls[k].2.1.length - j) 0 [0,1,2,3] (Nat.zero_le _) ?_ (ho:=⟨⟨_,rfl,OE.ren rfl⟩,⟨_,rfl,OE.ren rfl⟩,⟨_,rfl,OE.ren rfl⟩,⟨_,rfl,OE.gsS (by simp)⟩,trivial⟩)
  rintro j hj
  by_cases hjl:j < p.cls[k].2.1.length
  ·have e:(q ++ List.replicate j ((k:Int) + 3)).map V.int ++ [V.int ((k:Int) + 3)] = (q ++ List.replicate (j + 1) ((k:Int) + 3)).map V.int:=by rw [List.replicate_succ']; simp
   have hq2:(q ++ List.replicate j ((k:Int) + 3)).length ≤ 2000000:=by simp; omega
   generalize q ++ List.replicate j ((k:Int) + 3) = q2 at *
   refine goW ?_
   exact TX.rd (j + 1) [0,1,2,5] (by omega) (by omega)
  ·obtain rfl:j = p.cls[k].2.1.length:=by omega
   have e5:=congrArg (List.map V.int) hos.symm
   refine goW ?_
   exact TX.rd (k + 1) [0,1,2,3] (by omega) (by omega)
 ·rw [take_all (by omega)]
  refine TC.vwC 2 1 ?_
  refine goW ?_
  exact TX.rtc [] (.ren rfl)
end Go.Proofs
