/- Part 18 of what the claim is proved by: lemmas on the model and walks through functions of the program; no conditions. -/
import Derived.Test.YtmdpbfghjdljiaaGreatQ17
import Derived.Test.YtmdpbfghjdljiaaGreatQ16
namespace Go.W
def without (l:List Int) (n:Int):List Int:=l.filter fun c=>c != n
def total (all:List (List Int)):Nat:=(all.map List.length).sum
def free (all:List (List Int)) (c:Int):Bool:=all.all fun m=>!(m.drop 1).contains c
def anyNE (all:List (List Int)):Bool:=all.any fun l=>!l.isEmpty
def nextOf (all:List (List Int)):List (List Int)→Option Int
 | []=>none
 | []::r=>nextOf all r
 | (h::_)::r=>if free all h then some h else nextOf all r
def mergeF:Nat→List (List Int)→List Int→List Int × Bool
 | 0,all,out=>(out,!anyNE all)
 | n+1,all,out=>match nextOf all all with
   | none=>(out,!anyNE all)
   | some h=>mergeF n (all.map (without · h)) (out++[h])
def merge (all:List (List Int)):List Int × Bool:=mergeF (total all) all []
theorem total_cons (l:List Int) (all:List (List Int)):total (l::all)=l.length+total all:=by simp [total]
theorem without_length (l:List Int) (n:Int):(without l n).length≤l.length:=List.length_filter_le _ _
theorem total_without_le (all:List (List Int)) (h:Int):total (all.map (without · h))≤total all:=by
 induction all with
 | nil=>simp [total]
 | cons l r ih =>
   have:=without_length l h
   simp only [List.map_cons,total_cons]
   omega
theorem nextOf_mem (all:List (List Int)):∀ (r:List (List Int)) (h:Int),nextOf all r=some h→∃ t,(h::t)∈r∧free all h=true:=by
 intro r
 induction r with
 | nil=>intro h e;simp [nextOf] at e
 | cons l r ih =>
   intro h e
   cases l with
   | nil =>
     obtain ⟨t,h1,h2⟩:=ih h (by simpa [nextOf] using e)
     exact ⟨t,by simp [h1],h2⟩
   | cons x t =>
     simp only [nextOf] at e
     split at e
     ·rename_i hf
      cases e
      exact ⟨t,by simp,hf⟩
     ·obtain ⟨t',h1,h2⟩:=ih h e
      exact ⟨t',by simp [h1],h2⟩
theorem total_without_lt:∀ (all:List (List Int)) (h:Int) (t:List Int),(h::t)∈all→total (all.map (without · h)) < total all:=by
 intro all
 induction all with
 | nil=>intro h t hm;cases hm
 | cons l r ih =>
   intro h t hm
   simp only [List.map_cons,total_cons]
   rcases List.mem_cons.1 hm with e|hm
   ·subst e
    have h1:(without (h::t) h).length≤t.length:=by
     simp only [without,List.filter_cons,bne_self_eq_false,Bool.false_eq_true,if_false]
     exact List.length_filter_le _ _
    have h2:=total_without_le r h
    simp only [List.length_cons]
    omega
   ·have h1:=ih h t hm
    have h2:=without_length l h
    omega
theorem nextOf_none_of_empty (all:List (List Int)):∀ r:List (List Int),total r=0→nextOf all r=none:=by
 intro r
 induction r with
 | nil=>intro _;rfl
 | cons l r ih =>
   intro h
   rw [total_cons] at h
   cases l with
   | nil=>simpa [nextOf] using ih (by omega)
   | cons _ _=>simp at h
theorem mergeF_eq:∀ (n m:Nat) (all:List (List Int)) (out:List Int),total all≤n→total all≤m→mergeF n all out=mergeF m all out:=by
 have zero:∀ (m:Nat) (all:List (List Int)) (out:List Int),total all=0→mergeF m all out=(out,!anyNE all):=by
  intro m all out h
  cases m with
  | zero=>rfl
  | succ m=>simp [mergeF,nextOf_none_of_empty all all h]
 intro n
 induction n with
 | zero=>intro m all out h _;rw [zero 0 all out (by omega),zero m all out (by omega)]
 | succ n ih =>
   intro m all out h1 h2
   cases m with
   | zero=>rw [zero 0 all out (by omega),zero (n+1) all out (by omega)]
   | succ m =>
     simp only [mergeF]
     cases hn:nextOf all all with
     | none=>rfl
     | some x =>
       obtain ⟨t,hm,_⟩:=nextOf_mem all all x hn
       have:=total_without_lt all x t hm
       exact ih m _ _ (by omega) (by omega)
theorem nextOf_nil {all r:List (List Int)}:nextOf all ([]::r)=nextOf all r:=rfl
theorem nextOf_t {all r:List (List Int)} {h:Int} {t:List Int} (hf:free all h=true):nextOf all ((h::t)::r)=some h:=by simp [nextOf,hf]
theorem nextOf_f {all r:List (List Int)} {h:Int} {t:List Int} (hf:free all h=false):nextOf all ((h::t)::r)=nextOf all r:=by simp [nextOf,hf]
theorem nextOf_get_t {all r:List (List Int)} {l:List Int} (h0:0 < l.length) (hf:free all l[0]=true):nextOf all (l::r)=some l[0]:=by
 cases l with
 | nil=>simp at h0
 | cons x t=>exact nextOf_t hf
theorem nextOf_get_f {all r:List (List Int)} {l:List Int} (h0:0 < l.length) (hf:free all l[0]=false):nextOf all (l::r)=nextOf all r:=by
 cases l with
 | nil=>simp at h0
 | cons x t=>exact nextOf_f hf
theorem anyNE_snoc (all:List (List Int)) (l:List Int):anyNE (all++[l])=(anyNE all || !l.isEmpty):=by simp [anyNE]
theorem total_le {all:List (List Int)} {l:List Int} (h:l∈all):l.length≤total all:=by
 induction all with
 | nil=>cases h
 | cons x r ih =>
   rw [total_cons]
   rcases List.mem_cons.1 h with rfl|h
   ·omega
   ·have:=ih h;omega
theorem merge_next {all:List (List Int)} {out:List Int} {h:Int} (hn:nextOf all all=some h) :
  mergeF (total all) all out=mergeF (total (all.map (without · h))) (all.map (without · h)) (out++[h]):=by
 obtain ⟨t,hm,_⟩:=nextOf_mem all all h hn
 have:=total_without_lt all h t hm
 obtain ⟨k,hk⟩:∃ k,total all=k+1:=⟨total all-1,by omega⟩
 rw [hk]
 simp only [mergeF,hn]
 exact mergeF_eq _ _ _ _ (by omega) (Nat.le_refl _)
theorem merge_none {all:List (List Int)} {out:List Int} (hn:nextOf all all=none):mergeF (total all) all out=(out,!anyNE all):=by
 cases total all with
 | zero=>rfl
 | succ k=>simp [mergeF,hn]
/-! ### Nothing stands twice in a merge, and nothing but what stood in the lists -/
theorem mem_without {l:List Int} {n x:Int}:x∈without l n↔x∈l∧x≠n:=by simp [without,List.mem_filter]
theorem mergeF_nodup:∀ (n:Nat) (all:List (List Int)) (out:List Int),out.Nodup→(∀ x∈out,∀ m∈all,x ∉ m)→(mergeF n all out).1.Nodup:=by
 intro n
 induction n with
 | zero=>intro all out h _;exact h
 | succ n ih =>
   intro all out h1 h2
   simp only [mergeF]
   cases hn:nextOf all all with
   | none=>exact h1
   | some x =>
     obtain ⟨t,hm,_⟩:=nextOf_mem all all x hn
     refine ih _ _ ?_ ?_
     ·rw [List.nodup_append]
      refine ⟨h1,by simp,fun a ha b hb e=>?_⟩
      simp at hb
      subst hb e
      exact h2 _ ha _ hm (by simp)
     ·intro y hy m hm'
      obtain ⟨m0,hm0,rfl⟩:=List.mem_map.1 hm'
      rw [mem_without]
      rintro ⟨h3,h4⟩
      rcases List.mem_append.1 hy with h5|h5
      ·exact h2 y h5 m0 hm0 h3
      ·simp at h5;exact h4 h5
theorem mergeF_mem:∀ (n:Nat) (all:List (List Int)) (out:List Int) (x:Int),x∈(mergeF n all out).1→x∈out∨∃ m∈all,x∈m:=by
 intro n
 induction n with
 | zero=>intro all out x h;exact .inl h
 | succ n ih =>
   intro all out x h
   simp only [mergeF] at h
   cases hn:nextOf all all with
   | none=>rw [hn] at h;exact .inl h
   | some y =>
     rw [hn] at h
     obtain ⟨t,hm,_⟩:=nextOf_mem all all y hn
     rcases ih _ _ x h with h1|⟨m,hm1,hx⟩
     ·rcases List.mem_append.1 h1 with h2|h2
      ·exact .inl h2
      ·simp at h2;subst h2;exact .inr ⟨_,hm,by simp⟩
     ·obtain ⟨m0,hm0,rfl⟩:=List.mem_map.1 hm1
      exact .inr ⟨m0,hm0,(mem_without.1 hx).1⟩
theorem merge_nodup (all:List (List Int)):(merge all).1.Nodup:=mergeF_nodup _ _ _ (by simp) (by simp)
theorem merge_mem {all:List (List Int)} {x:Int} (h:x∈(merge all).1):∃ m∈all,x∈m:=(mergeF_mem _ _ _ x h).resolve_left (by simp)
theorem nodup_length:∀ (N:Nat) (l:List Int),l.Nodup→(∀ x∈l,0≤x∧x < N)→l.length≤N:=by
 intro N
 induction N with
 | zero =>
   intro l _ h
   cases l with
   | nil=>simp
   | cons x r=>have:=h x (by simp);omega
 | succ N ih =>
   intro l hn h
   have h1:=ih (l.erase (N:Int)) (hn.erase _) (fun x hx=>by
    have h2:=h x (List.mem_of_mem_erase hx)
    have h3:x≠(N:Int):=fun e=>by subst e;exact (List.Nodup.not_mem_erase hn) hx
    omega)
   by_cases hm:(N:Int)∈l
   ·rw [List.length_erase_of_mem hm] at h1;omega
   ·rw [List.erase_of_not_mem hm] at h1;omega
/-! ### Linear orders -/
def bare (l:List Int):List Int:=without l 0
def at_ (orders:List (List Int)) (p:Int):List Int:=orders.getD p.toNat []
def listsOf (orders:List (List Int)) (ps:List Int):Option (List (List Int)):=
 if ps.all (fun p=>!(at_ orders p).isEmpty) then some (ps.map (fun p=>bare (at_ orders p))++[ps]) else none
def orderOf (orders:List (List Int)) (ps:List Int) (c:Int):List Int:=
 match listsOf orders ps with
 | none=>[]
 | some all=>if (merge all).2 then c::((merge all).1++[0]) else []
def ordersF:List (List Int)→List (List Int)→List (List Int)
 | acc,[]=>acc
 | acc,ps::r=>ordersF (acc++[orderOf acc ps acc.length]) r
def parentsOf (g:List (List Int)):List (List Int):=[[],[],[]]++g
def orders (g:List (List Int)):List (List Int):=ordersF [[0]] ([[],[]]++g)
def OrdOK (acc:List (List Int)):Prop:=∀ (c:Nat) o,acc[c]?=some o→o.Nodup∧∀ x∈o,0≤x∧x≤(c:Int)
theorem OrdOK.len {acc} (h:OrdOK acc) {c:Nat} {o} (ho:acc[c]?=some o):o.length≤c+1:=by
 obtain ⟨h1,h2⟩:=h c o ho
 exact nodup_length (c+1) o h1 (fun x hx=>by have:=h2 x hx;omega)
theorem OrdOK.at {acc} (h:OrdOK acc) (p:Int):(at_ acc p).Nodup∧∀ x∈at_ acc p,0≤x∧x≤p.toNat:=by
 unfold at_
 rw [List.getD_eq_getElem?_getD]
 cases hq:acc[p.toNat]? with
 | none=>simp
 | some o=>simpa using h _ _ hq
theorem orderOf_ok {acc:List (List Int)} {ps:List Int} (h:OrdOK acc) (hps:∀ p∈ps,3≤p∧p < acc.length) (hpos:0 < acc.length) :
  (orderOf acc ps acc.length).Nodup∧∀ x∈orderOf acc ps acc.length,0≤x∧x≤(acc.length:Int):=by
 unfold orderOf
 cases hl:listsOf acc ps with
 | none=>simp
 | some all =>
   simp only []
   split
   ·unfold listsOf at hl
    split at hl
    ·cases hl
     have hm:∀ x∈(merge (ps.map (fun p=>bare (at_ acc p))++[ps])).1,1≤x∧x < acc.length:=by
      intro x hx
      obtain ⟨m,hm,hxm⟩:=merge_mem hx
      rcases List.mem_append.1 hm with h1|h1
      ·obtain ⟨p,hp,rfl⟩:=List.mem_map.1 h1
       obtain ⟨h2,h3⟩:=mem_without.1 hxm
       have h4:=(h.at p).2 x h2
       have h5:=hps p hp
       omega
      ·simp at h1
       subst h1
       have:=hps x hxm
       omega
     refine ⟨?_,?_⟩
     ·rw [List.nodup_cons]
      refine ⟨fun hc=>?_,?_⟩
      ·rcases List.mem_append.1 hc with h1|h1
       ·have:=hm _ h1;omega
       ·have h1:(acc.length:Int)=0:=by simpa using h1
        omega
      ·rw [List.nodup_append]
       refine ⟨merge_nodup _,by simp,fun a ha b hb e=>?_⟩
       have h6:=hm _ ha
       simp at hb
       omega
     ·intro x hx
      rcases List.mem_cons.1 hx with rfl|hx
      ·omega
      ·rcases List.mem_append.1 hx with h1|h1
       ·have:=hm _ h1;omega
       ·have h1:x=0:=by simpa using h1
        omega
    ·cases hl
   ·simp
theorem OrdOK.snoc {acc:List (List Int)} {o:List Int} (h:OrdOK acc) (ho:o.Nodup∧∀ x∈o,0≤x∧x≤(acc.length:Int)):OrdOK (acc++[o]):=by
 intro c o' hc
 rcases Nat.lt_or_ge c acc.length with h1|h1
 ·rw [List.getElem?_append_left h1] at hc;exact h c o' hc
 ·rw [List.getElem?_append_right h1] at hc
  have:c-acc.length=0:=by
   have:=(List.getElem?_eq_some_iff.1 hc).1
   simp at this;omega
  rw [this] at hc
  simp at hc
  subst hc
  rw [show c=acc.length by omega]
  exact ho
theorem OrdOK.start:OrdOK [[0]]:=by
 intro c o hc
 have:c=0:=by
  have:=(List.getElem?_eq_some_iff.1 hc).1
  simp at this;omega
 subst this
 simp at hc
 subst hc
 simp
/-! ### Formed graphs -/
theorem okRow_spec (i:Nat):∀ (l pre:List Int),okRow i pre l=true→(∀ p∈l,3≤p∧p < 3+i)∧l.Nodup∧∀ p∈l,p ∉ pre:=by
 intro l
 induction l with
 | nil=>intro pre _;simp
 | cons c r ih =>
   intro pre h
   simp only [okRow,Bool.and_eq_true,decide_eq_true_eq,Bool.not_eq_true'] at h
   obtain ⟨⟨⟨h1,h2⟩,h3⟩,h4⟩:=h
   obtain ⟨a1,a2,a3⟩:=ih _ h4
   have h3':c ∉ pre:=by simpa using h3
   refine ⟨fun p hp=>?_,?_,fun p hp=>?_⟩
   ·rcases List.mem_cons.1 hp with rfl|hp
    ·exact ⟨h1,h2⟩
    ·exact a1 p hp
   ·rw [List.nodup_cons]
    exact ⟨fun hc=>a3 c hc (by simp),a2⟩
   ·rcases List.mem_cons.1 hp with rfl|hp
    ·exact h3'
    ·exact fun hc=>a3 p hp (by simp [hc])
theorem okRows_spec:∀ (g:List (List Int)) (i:Nat),okRows i g=true→∀ (k:Nat) l,g[k]?=some l→l.length≤3∧okRow (i+k) [] l=true:=by
 intro g
 induction g with
 | nil=>intro i _ k l h;simp at h
 | cons x r ih =>
   intro i h k l hk
   simp only [okRows,Bool.and_eq_true,decide_eq_true_eq] at h
   cases k with
   | zero=>simp at hk;subst hk;exact ⟨h.1.1,by simpa using h.1.2⟩
   | succ k =>
     have:=ih (i+1) h.2 k l (by simpa using hk)
     rwa [show i+1+k=i+(k+1) by omega] at this
def pOf (g:List (List Int)) (c:Int):List Int:=if c < 3 then [] else g.getD (c-3).toNat []
theorem pOf_lt {g:List (List Int)} {c:Int} (h:c < 3):pOf g c=[]:=by simp [pOf,h]
theorem pOf_ge {g:List (List Int)} {c:Int} (h:3≤c):pOf g c=g.getD (c-3).toNat []:=by rw [pOf,if_neg (by omega)]
theorem fine_len {g:List (List Int)} (h:fine g=true):g.length≤16:=by
 simp only [fine,Bool.and_eq_true,decide_eq_true_eq] at h;exact h.1
theorem fine_pOf {g:List (List Int)} (h:fine g=true) {c:Int} (hc:c < 3+(g.length:Int)):(pOf g c).length≤3∧(∀ p∈pOf g c,3≤p∧p < c)∧(pOf g c).Nodup:=by
 by_cases h3:c < 3
 ·rw [pOf_lt h3];simp
 ·rw [pOf_ge (by omega)]
  simp only [fine,Bool.and_eq_true,decide_eq_true_eq] at h
  have hk:(c-3).toNat < g.length:=by omega
  obtain ⟨a1,a2⟩:=okRows_spec g 0 h.2 (c-3).toNat _ (List.getElem?_eq_getElem hk)
  obtain ⟨b1,b2,_⟩:=okRow_spec _ _ _ a2
  rw [getD_lt hk]
  refine ⟨a1,fun p hp=>?_,b2⟩
  have:=b1 p hp
  omega
theorem parentsOf_get {g:List (List Int)} {c:Nat} (hc:c < 3+g.length):(parentsOf g)[c]?=some (pOf g c):=by
 unfold parentsOf
 by_cases h3:c < 3
 ·rw [pOf_lt (by omega),List.getElem?_append_left (by simpa using h3)]
  match c,h3 with
  | 0,_=>rfl
  | 1,_=>rfl
  | 2,_=>rfl
 ·rw [pOf_ge (by omega),List.getElem?_append_right (by simp;omega)]
  simp only [List.length_cons,List.length_nil,Nat.zero_add,Nat.reduceAdd]
  rw [show ((c:Int)-3).toNat=c-3 by omega,getD_lt (by omega),List.getElem?_eq_getElem (by omega)]
theorem parentsOf_length (g:List (List Int)):(parentsOf g).length=3+g.length:=by simp [parentsOf];omega
theorem parentsOf_drop {g:List (List Int)} {c:Nat} (hc:c < 3+g.length):(parentsOf g).drop c=pOf g c::(parentsOf g).drop (c+1):=by
 have hl:c < (parentsOf g).length:=by rw [parentsOf_length];exact hc
 rw [drop_cons hl]
 have:=parentsOf_get hc
 rw [List.getElem?_eq_getElem hl] at this
 simp at this
 rw [this]
theorem ordersF_cons (acc:List (List Int)) (ps:List Int) (r:List (List Int)):ordersF acc (ps::r)=ordersF (acc++[orderOf acc ps acc.length]) r:=rfl
theorem orders_start (g:List (List Int)):orders g=ordersF [[0]] ((parentsOf g).drop 1):=rfl
theorem ordersF_ok (g:List (List Int)) (hf:fine g=true):∀ (n c:Nat) (acc:List (List Int)),n+c=3+g.length→acc.length=c→0 < c→OrdOK acc→OrdOK (ordersF acc ((parentsOf g).drop c))∧(ordersF acc ((parentsOf g).drop c)).length=3+g.length:=by
 intro n
 induction n with
 | zero =>
   intro c acc h1 h2 _ h3
   rw [drop_nil (by rw [parentsOf_length];omega)]
   exact ⟨h3,by simp [ordersF];omega⟩
 | succ n ih =>
   intro c acc h1 h2 h0 h3
   rw [parentsOf_drop (by omega),ordersF_cons]
   have hp:=(fine_pOf hf (c:=(c:Int)) (by omega)).2.1
   exact ih (c+1) _ (by omega) (by simp [h2]) (by omega) (h3.snoc (orderOf_ok h3 (by intro p hp';have:=hp p hp';omega) (by omega)))
theorem orders_ok {g:List (List Int)} (hf:fine g=true):OrdOK (orders g)∧(orders g).length=3+g.length:=by
 rw [orders_start]
 exact ordersF_ok g hf (2+g.length) 1 _ (by omega) rfl (by omega) OrdOK.start
theorem OrdOK.small {acc:List (List Int)} (h:OrdOK acc) (hl:acc.length≤1000):∀ o∈acc,o.length≤1000:=by
 intro o ho
 obtain ⟨i,hi,rfl⟩:=List.mem_iff_getElem.1 ho
 have:=h.len (List.getElem?_eq_getElem hi)
 omega
theorem listsOf_some {ords:List (List Int)} {ps:List Int} {all:List (List Int)} (h:listsOf ords ps=some all):all=ps.map (fun p=>bare (at_ ords p))++[ps]:=by
 unfold listsOf at h
 split at h
 ·cases h;rfl
 ·cases h
theorem at_mem {ords:List (List Int)} {p:Int}:at_ ords p=[]∨at_ ords p∈ords:=by
 unfold at_
 rw [List.getD_eq_getElem?_getD]
 cases hq:ords[p.toNat]? with
 | none=>exact .inl rfl
 | some o=>exact .inr (List.mem_of_getElem? hq)
theorem listsOf_bounds {ords:List (List Int)} {ps:List Int} {all:List (List Int)} (h:listsOf ords ps=some all) (hok:OrdOK ords) (hl:ords.length≤1000) (hp:ps.length≤3) (hpos:∀ p∈ps,0≤p) :
  total all≤3003∧all.length≤4∧∀ l∈all,∀ x∈l,0≤x:=by
 rw [listsOf_some h]
 have hs:=hok.small hl
 have hlen:∀ p,(bare (at_ ords p)).length≤1000:=fun p=>Nat.le_trans (without_length _ _) (by
  rcases at_mem (ords:=ords) (p:=p) with e|e
  ·rw [e];simp
  ·exact hs _ e)
 have htot:∀ ps:List Int,total (ps.map (fun p=>bare (at_ ords p)))≤1000*ps.length:=by
  intro ps
  induction ps with
  | nil=>simp [total]
  | cons p r ih =>
    have:=hlen p
    simp only [List.map_cons,total_cons,List.length_cons]
    omega
 refine ⟨?_,by simp;omega,fun l hl' x hx=>?_⟩
 ·have e:∀ (a:List (List Int)) (b:List Int),total (a++[b])=total a+b.length:=by intro a b;simp [total]
  rw [e]
  have:=htot ps
  omega
 ·rcases List.mem_append.1 hl' with h1|h1
  ·obtain ⟨p,_,rfl⟩:=List.mem_map.1 h1
   exact ((hok.at p).2 x (mem_without.1 hx).1).1
  ·simp at h1;subst h1;exact hpos x hx
theorem merge_length (all:List (List Int)):(merge all).1.length≤total all:=by
 have:∀ (n:Nat) (all:List (List Int)) (out:List Int),(mergeF n all out).1.length≤out.length+total all:=by
  intro n
  induction n with
  | zero=>intro all out;simp [mergeF]
  | succ n ih =>
    intro all out
    simp only [mergeF]
    cases hn:nextOf all all with
    | none=>simp
    | some x =>
      obtain ⟨t,hm,_⟩:=nextOf_mem all all x hn
      have h1:=total_without_lt all x t hm
      have h2:=ih (all.map (without · x)) (out++[x])
      simp only [List.length_append,List.length_singleton] at h2
      show (mergeF n _ _).1.length≤_
      omega
 simpa [merge] using this (total all) all []
end Go.W
namespace Go.V
open Go Go.W
section
variable {C:Cx} {ρ:Ro} {η:Eta} {X:Nat}
theorem gvBuild {M:Bool} {fs pls:List (Nat × Nat)} {te:TyE} {parts:List (Nat × Operand)} {us zs cs0 cs:List AV} (ht:C.tab X=some te:=by with_unfolding_all exact rfl) (hsh:te.sh=.strct fs:=by with_unfolding_all exact rfl)
  (hl:evs2 ρ (parts.map (·.2))=some us:=by with_unfolding_all exact rfl) (hz:rawL te.zero.cells.toList=some zs:=by with_unfolding_all exact rfl) (hp:placesL C.tab fs=some pls:=by with_unfolding_all exact rfl) (hf:fillA (fun i=>pls[i]?) zs ((parts.map (·.1)).zip us)=some cs0:=by with_unfolding_all exact rfl) (hc:cs0=cs:=by (try dsimp only [putA,AV.cells])<;>exact rfl):
  Gives C.P C.N C.D (.build X parts.toArray) ρ η (.st cs) M:=fun m w γ ρc a hE hR hH=>by
 subst hc
 obtain ⟨vs,g1,g2⟩:=hR.evs hl
 obtain ⟨dd,hu,hd'⟩:=(C.hT X te ht).sh
 rw [hsh] at hd'
 obtain ⟨fields,rfl,hfs⟩:=hd'
 obtain ⟨inf,i1,i2,i3,i4,i5⟩:=(C.hT X te ht).info
 have hul:us.length=parts.length:=by
  have:=g2.len
  have e2:=congrArg List.length (hE.evs g1)
  simp at e2
  omega
 have hp2:((parts.map (·.1)).zip us).map (·.2)=us:=by rw [List.map_snd_zip];simp;omega
 have hp1:((parts.map (·.1)).zip us).map (·.1)=parts.map (·.1):=by rw [List.map_fst_zip];simp;omega
 subst hfs
 have hpl:=placesL_run C.hT _ _ hp
 obtain ⟨os,o1,o2⟩:=fillA_run (γ:=γ) (m:=m) (w:=w) _ vs zs cs0 te.zero.cells.toList (rawL_rep hz) (by rw [hp2];exact g2) hf
 rw [hp1] at o1
 have hb:C.P.built X ((parts.map (·.1)).zip vs)=some os:=by
  unfold Program.built
  simp only [i1,hu,i4,hpl]
  simpa using o1
 refine ⟨.agg os,?_,fun {m' w'} _ _ _ _ _ _=>?_⟩
 ·have:Rep m w γ (.agg os.toList.toArray) (.st cs0):=.st o2.1 o2.2.1 o2.2.2
  simpa using this
 ·have he:((parts.map fun p=>(p.1,a.eval p.2)))=(parts.map (·.1)).zip vs:=by
   rw [← hE.evs g1]
   clear hp2 hp1 hf g1 g2 o1 hb hl hul
   induction parts with
   | nil=>rfl
   | cons p r ih=>simp [ih]
  rw [← he] at hb
  have hr:=run_build (P:=C.P) w' X (parts.map fun p=>(p.1,a.eval p.2)).toArray os hb
  simp only [execOp]
  have e2:(parts.toArray.map fun (x:Nat × Operand)=>(x.1,a.eval x.2))=(parts.map fun p=>(p.1,a.eval p.2)).toArray:=by simp
  rw [e2]
  simp [hr]
end
end Go.V
namespace Go.V
open Go Go.W
section
variable {C:Cx} {ops:Array Oper} {Q:Qt} {ρ ρ':Ro} {η η' η2:Eta} {rest:List Oper} {T d X:Nat} {pos:String} {af:Array Edge} {y:Operand}
end
end Go.V
namespace Go.V
open Go Go.W
section
variable {P:Program} (w:World)
structure EqD2 (P:Program) (t e e2:Nat) (k:IntKind):Prop where
 st:P.underlying t=some (.struct (P.fieldsOf t))
 held:P.stoodInHeld t=false
 fs : (P.fieldsOf t).toList.map (fun f => (f.name == "_", f.type, f.offset)) = [(false, e, 0), (false, e2, 1)]
 el:P.underlying e=some (.int k)
 el2:P.underlying e2=some (.int k)
 gd:P.eqGuardType P.depth t=false
theorem eqD2 {t e e2:Nat} {k:IntKind} (h:EqD2 P t e e2 k) (a b c d:Int):(Op.equalIn 10000 t (.agg #[.int k a,.int k b]) (.agg #[.int k c,.int k d])).run P w=.ok (a==c&&b==d) w:=by
 have hna:∀ w,(isAgg e).run P w=.ok false w:=fun w=>by simp [isAgg,run_underlying h.el]
 have hna2:∀ w,(isAgg e2).run P w=.ok false w:=fun w=>by simp [isAgg,run_underlying h.el2]
 rw [show (10000:Nat)=9999+1 from rfl,run_equalIn_struct w 9999 t _ _ h.st h.held]
 have hf:=h.fs
 generalize (P.fieldsOf t).toList=fs at hf
 have hi':∀ w,∀ x y:Int,(Op.equalIn 9999 e (.int k x) (.int k y)).run P w=.ok (x==y) w:=fun w x y=>run_equalIn_int w 9998 e k k x y h.el
 have hi2':∀ w,∀ x y:Int,(Op.equalIn 9999 e2 (.int k x) (.int k y)).run P w=.ok (x==y) w:=fun w x y=>run_equalIn_int w 9998 e2 k k x y h.el2
 obtain ⟨f0,f1,rfl⟩:∃ f0 f1,fs=[f0,f1]:=by
  have hl:fs.length=2:=by have:=congrArg List.length hf;simpa using this
  match fs,hl with
  | [f0,f1],_=>exact ⟨f0,f1,rfl⟩
 simp only [List.map_cons,List.map_nil,List.cons.injEq,Prod.mk.injEq,beq_eq_false_iff_ne,and_true] at hf
 obtain ⟨⟨n0,t0,o0⟩,n1,t1,o1⟩:=hf
 have p0:∀ w (a b:Int),(part e #[Value.int k a,.int k b] 0).run P w=.ok (.int k a) w:=fun w a b=>run_part1 w hna rfl
 have p1:∀ w (a b:Int),(part e2 #[Value.int k a,.int k b] 1).run P w=.ok (.int k b) w:=fun w a b=>run_part1 w hna2 rfl
 simp only [Op.eqFields,ne_eq,n0,n1,not_false_eq_true,if_true,Sem.run_bind,t0,t1,o0,o1,p0,Result.andThen_ok,hi']
 by_cases h1:a=c<;>by_cases h2:b=d<;>simp [h1,h2,p1,hi2']
end
section
variable {C:Cx} {ops:Array Oper} {Q:Qt} {ρ ρ':Ro} {η η' η2:Eta} {rest:List Oper} {T d X Y:Nat} {pos:String} {af:Array Edge} {op:Op} {x y z:Operand}
theorem OL.eqD2 {P:Program} {e e2:Nat} {k:IntKind} {a b a' b':Int} (h:EqD2 P X e e2 k) (kk:OL C ops Q rest ((d,bool (a==a'&&b==b'))::ρ) η) (hP:C.P=P:=by with_unfolding_all exact rfl)
  (hx:ev2 ρ x=some (.st [.raw (.int k a),.raw (.int k b)]):=by with_unfolding_all exact rfl) (hy:ev2 ρ y=some (.st [.raw (.int k a'),.raw (.int k b')]):=by with_unfolding_all exact rfl) (hd:Nat.blt d C.N=true:=by with_unfolding_all exact rfl) :
  OL C ops Q (⟨some d,.binOp .eql X x y Y,T,pos,af,none⟩::rest) ρ η:=by
 subst hP
 exact OL.give (give_eqn (ng:=false) (us:=[.int k a,.int k b]) (vs:=[.int k a',.int k b']) hx hy (fun w=>V.eqD2 w h a b a' b') h.gd) hd kk
theorem OL.neD2 {P:Program} {e e2:Nat} {k:IntKind} {a b a' b':Int} (h:EqD2 P X e e2 k) (kk:OL C ops Q rest ((d,bool (!(a==a'&&b==b')))::ρ) η) (hP:C.P=P:=by with_unfolding_all exact rfl)
  (hx:ev2 ρ x=some (.st [.raw (.int k a),.raw (.int k b)]):=by with_unfolding_all exact rfl) (hy:ev2 ρ y=some (.st [.raw (.int k a'),.raw (.int k b')]):=by with_unfolding_all exact rfl) (hd:Nat.blt d C.N=true:=by with_unfolding_all exact rfl) :
  OL C ops Q (⟨some d,.binOp .neq X x y Y,T,pos,af,none⟩::rest) ρ η:=by
 subst hP
 exact OL.give (give_eqn (ng:=true) (us:=[.int k a,.int k b]) (vs:=[.int k a',.int k b']) hx hy (fun w=>V.eqD2 w h a b a' b') h.gd) hd kk
end
end Go.V
