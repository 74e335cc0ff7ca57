/- Lemmas for the claim, part 22; no conditions. -/
import Derived.Test.YtdjhogobbbnddaaGreatQ21
namespace Go.Proofs
section
variable {sh:Int→Option Nat} {W:List Int} {st:List Nat}
theorem YdA:∀ (f i:Nat) (st:List Nat),startsF sh W f i=some st→W.length≤i+f→i≤W.length→i+(st.map fun x=>1+szW sh (wAt W x)).sum=W.length
 | 0,i,st,h,h1,h2=>by rw [startsF] at h;cases h;simp;omega
 | f+1,i,st,h,h1,h2=>by
   rw [startsF] at h;split at h
   ·rename_i hi
    split at h
    ·rename_i hd
     obtain ⟨r,hr,rfl⟩:=Option.map_eq_some_iff.1 h;have:=Yk5 hd
     have:=YdA f _ r hr (by omega) (by omega)
     simp only [List.map_cons,List.sum_cons];omega
    ·cases h
   ·cases h;simp;omega
theorem Yoz {f:Nat→Nat}:∀ {a b:List Nat},a.Nodup→(∀ x∈a,x∈b)→(a.map f).sum≤(b.map f).sum
 | [],_,_,_=>by simp
 | x::a,b,hn,hs=>by
   have hx:=hs x (List.mem_cons_self ..);have hp:=List.perm_cons_erase hx;rw [List.nodup_cons] at hn;have h1:=Yoz (f:=f) (a:=a) (b:=b.erase x) hn.2 (fun y hy=>(List.mem_erase_of_ne (fun e:y=x=>hn.1 (by rw [← e];exact hy))).2 (hs y (List.mem_cons_of_mem _ hy)));have h2:=(hp.map f).sum_nat;simp only [List.map_cons,List.sum_cons] at h2 ⊢;omega
theorem Ynj:∀ (n:Nat) (row:List Nat),endF sh W n row=n+(row.map fun x=>1+szW sh (wAt W x)).sum
 | _,[]=>by simp [endF]
 | n,r::rs=>by rw [endF,Ynj _ rs];simp only [List.map_cons,List.sum_cons];omega
theorem YmD (h:GH sh W st) {row:List Nat} (hr:RowOK W st row):endF sh W 1 row≤W.length:=by
 have h0:=Yah h.eq;have h1:=YdA _ _ _ h0.2.2.2 (by omega) (by omega);have h2:=Yoz (f:=fun x=>1+szW sh (wAt W x)) hr.nd (fun x hx=>(hr.re x hx).1);rw [Ynj];omega
theorem Ymv:∀ (n:Nat) (row:List Nat),∀ a∈adsF sh W n row,n≤a∧a < endF sh W n row
 | _,[],a,h=>by cases h
 | n,r::rs,a,h=>by
   rw [adsF] at h;rw [endF];have hg:=Yo1 (sh:=sh) (W:=W) (n+1+szW sh (wAt W r)) rs;rcases List.mem_cons.1 h with rfl|h
   ·omega
   ·have:=Ymv _ rs a h;omega
theorem YoY:∀ (n:Nat) (row:List Nat),(adsF sh W n row).Pairwise (· < ·)
 | _,[]=>.nil
 | n,r::rs=>.cons (fun a h=>by have:=Ymv _ rs a h;omega) (YoY _ rs)
theorem Ysm {row:List Nat} {x:Nat} (hx:x∈row):adW sh W row x∈adsF sh W 1 row:=by
 have hi:=List.idxOf_lt_length_of_mem hx;rw [adW];exact YhN (by rw [YgM];exact hi)
theorem Yvj (h:GH sh W st) {row:List Nat} (hr:RowOK W st row) {x:Nat} (hx:x∈row):1≤adW sh W row x∧adW sh W row x < W.length:=by
 have h1:=Ymv _ _ _ (Ysm (sh:=sh) (W:=W) hx);have h2:=YmD h hr;omega
theorem YmV (h:GH sh W st) (row:List Nat):∀ (n:Nat) (pre:List Nat),(∀ x∈pre,x∈st)→n+(pre.flatMap (rowW sh W row)).length=endF sh W n pre
 | _,[],_=>rfl
 | n,r::rs,hs=>by
   have h1:=YmV h row (n+1+szW sh (wAt W r)) rs (fun x hx=>hs x (List.mem_cons_of_mem _ hx));have h2:=h.slots_len (hs r (List.mem_cons_self ..));rw [endF,← h1,List.flatMap_cons,List.length_append,rowW,List.length_cons,List.length_map,h2];omega
end
end Go.Proofs
