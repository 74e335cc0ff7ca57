/- Lemmas for the claim, part 4; no conditions. -/
import Derived.Test.YtdjhogobbbnddaaGreatQ3
import Derived.OrdersHeld
namespace Go.W
open Go
section
variable {P:Program} {ops:Array Oper} {Q:Exit→Act→World→Prop} {md:Region.Mode} {S:World→Prop} {fi:Nat}
def Yad (P:Program) (md:Region.Mode) (ops:Array Oper) (Q:Exit→Act→World→Prop) (S:World→Prop) (fi:Nat):Nat→Array Bool→Act→World→Prop
 | 0,listed,a,w=>Region.ready md ops listed=[]∧Q .normal a w
 | fuel+1,listed,a,w =>
   (Region.ready md ops listed=[]→Q .normal a w) ∧
   ∀ i∈Region.ready md ops listed,wpOp P ops Q i (fun a' w'=>(i=fi∨S w')∧Yad P md ops Q S fi fuel (listed.setIfInBounds i true) a' w') a w
def YeV (md:Region.Mode) (ops:Array Oper) (listed:Array Bool):Prop:=
 ∀ (j:Nat) oj,ops[j]?=some oj→listed.getD j true=true→∀ e∈oj.after,Region.binds md e=true→listed.getD e.on false=true
def YdF (md:Region.Mode) (ops:Array Oper) (i:Nat):Nat→Nat→Bool
 | 0,_=>false
 | n+1,j=>match ops[j]? with
   | some oj=>oj.after.any fun e=>Region.binds md e&&(e.on==i || YdF md ops i n e.on)
   | none=>false
theorem YkW {listed:Array Bool} (hc:YeV md ops listed) {i:Nat}:∀ n j,YdF md ops i n j=true→listed.getD j true=true→listed.getD i false=true:=by
 intro n;induction n with
 | zero=>intro j h;simp [YdF] at h
 | succ n ih =>
   intro j h hj;simp only [YdF] at h;split at h
   ·rename_i oj ho
    obtain ⟨e,he,hb⟩:=Array.any_eq_true'.1 h;simp only [Bool.and_eq_true,Bool.or_eq_true,beq_iff_eq] at hb;have h1:=hc j oj ho hj e he hb.1;rcases hb.2 with e1|e1
    ·rw [e1] at h1;exact h1
    ·refine ih e.on e1 ?_;rw [Array.getD_eq_getD_getElem?] at h1 ⊢
     cases hq:listed[e.on]? with
     | none=>rfl
     | some b=>rw [hq] at h1;simpa using h1
   ·cases h
theorem Yhx {listed:Array Bool} (hc:YeV md ops listed) {i n j:Nat} (h:YdF md ops i n j=true) (hr:j∈Region.ready md ops listed):listed.getD i false=true:=by
 obtain ⟨hju,oj,hoj,hall⟩:=mem_ready.1 hr
 cases n with
 | zero=>simp [YdF] at h
 | succ n =>
   simp only [YdF,hoj] at h;obtain ⟨e,he,hb⟩:=Array.any_eq_true'.1 h;simp only [Bool.and_eq_true,Bool.or_eq_true,beq_iff_eq] at hb;have h1:=hall e he hb.1;rcases hb.2 with e1|e1
   ·rw [e1] at h1;exact h1
   ·refine YkW hc n e.on e1 ?_;rw [Array.getD_eq_getD_getElem?] at h1 ⊢
    cases hq:listed[e.on]? with
    | none=>rfl
    | some b=>rw [hq] at h1;simpa using h1
theorem YeV.set {listed:Array Bool} (hc:YeV md ops listed) {i:Nat} (hr:i∈Region.ready md ops listed):YeV md ops (listed.setIfInBounds i true):=by
 obtain ⟨hiu,oi,hoi,hall⟩:=mem_ready.1 hr;have up:∀ k,listed.getD k false=true→(listed.setIfInBounds i true).getD k false=true:=by
  intro k hk;rw [Array.getD_eq_getD_getElem?] at hk ⊢;by_cases e:i=k
  ·subst e
   cases hq:listed[i]? with
   | none=>rw [hq] at hk;simp at hk
   | some b =>
     rcases Array.getElem?_eq_some_iff.1 hq with ⟨hlt,_⟩;simp [hlt]
  ·rw [Array.getElem?_setIfInBounds_ne e];exact hk
 intro j oj hoj hj e he hb;by_cases hji:i=j
 ·subst hji;rw [hoi] at hoj
  cases hoj
  exact up _ (hall e he hb)
 ·rw [getD_set_ne true hji] at hj;exact up _ (hc j oj hoj hj e he hb)
theorem Yly {i:Nat} {oi:Oper} {v:Value} (hi:ops[i]?=some oi) (hsel:∀ (j:Nat) (o:Oper) cs b,ops[j]?=some o→o.op≠.select cs b)
  (hQ:∀ c a w,Q (.panic c) (a.put oi.dst v) w→Q (.panic c) a w) (n:Nat) (hfi:fi < ops.size→fi≠i→YdF md ops i n fi=true) :
  ∀ (fuel:Nat) (listed:Array Bool) (a:Act) (w:World),YeV md ops listed →
   (∀ (j:Nat) oj,ops[j]?=some oj→j≠i→listed.getD j true=false→(∀ e∈oj.after,Region.binds md e=true→e.on≠i)→oi.apart ops oj=true) →
   i∈Region.ready md ops listed→YieldsIf P ops S oi v a→S w →
   Yad P md ops Q S fi fuel (listed.setIfInBounds i true) (a.put oi.dst v) w→Yad P md ops Q S fi (fuel+1) listed a w:=by
 intro fuel;induction fuel with
 | zero =>
   intro listed a w _ _ hr hy hS H;refine ⟨fun h=>(by rw [h] at hr;cases hr),fun j hj=>?_⟩;by_cases hji:j=i
   ·subst hji;exact hy.wpOp hi hS ⟨.inr hS,H⟩
   ·have:=ready_mono hj hji
    rw [H.1] at this
    cases this
 | succ fuel ih =>
   intro listed a w hcl hfree hr hy hS H;refine ⟨fun h=>(by rw [h] at hr;cases hr),fun j hj=>?_⟩;by_cases hji:j=i
   ·subst hji;exact hy.wpOp hi hS ⟨.inr hS,H⟩
   ·have h1:=H.2 j (ready_mono hj hji);obtain ⟨hjun,oj,hoj,hall⟩:=mem_ready.1 hj;have hnot:∀ e∈oj.after,Region.binds md e=true→e.on≠i:=fun e he hb heq=>by
     have h1:=hall e he hb;have h0:=(mem_ready.1 hr).1;rw [heq] at h1;rcases Nat.lt_or_ge i listed.size with h'|h'
     ·simp [h'] at h0 h1;rw [h0] at h1;cases h1
     ·simp [Array.getElem?_eq_none h'] at h1
    have hjfi:j≠fi:=fun e=>by
     subst e;have h0:=(mem_ready.1 hr).1;have h2:=Yhx hcl (hfi (Array.getElem?_eq_some_iff.1 hoj).1 hji) hj;rw [Array.getD_eq_getD_getElem?] at h0 h2
     cases hq:listed[i]? with
     | none=>rw [hq] at h2;simp at h2
     | some b=>rw [hq] at h0 h2;simp at h0 h2;rw [h0] at h2;cases h2
    have h2:=wpOp_putIf hoj (hfree j oj hoj hji hjun hnot) (fun cs b=>hsel i oi cs b hi) (fun cs b=>hsel j oj cs b hoj) hQ hy h1;have hfree':∀ (k:Nat) ok,ops[k]?=some ok→k≠i→(listed.setIfInBounds j true).getD k true=false →
      (∀ e∈ok.after,Region.binds md e=true→e.on≠i)→oi.apart ops ok=true:=fun k ok hk hki hun hno=>by
     refine hfree k ok hk hki ?_ hno;by_cases hjk:j=k
     ·subst hjk;exact hjun
     ·rw [getD_set_ne true hjk] at hun;exact hun
    refine wpOp_mono (fun a' w' h3=>?_) h2;have hS':S w':=h3.2.1.resolve_left hjfi;refine ⟨.inr hS',ih (listed.setIfInBounds j true) a' w' (hcl.set hj) hfree' (ready_mono hr (Ne.symm hji)) h3.1 hS' ?_⟩;rw [Array.setIfInBounds_comm _ _ hji];exact h3.2.2
def Yju (md:Region.Mode) (ops:Array Oper) (listed:Array Bool):Bool:=
 (List.range ops.size).all fun j=>match ops[j]? with
  | some oj=>!listed.getD j true || oj.after.all fun e=>!Region.binds md e || listed.getD e.on false
  | none=>true
theorem YbR {listed:Array Bool} (h:Yju md ops listed=true):YeV md ops listed:=by
 intro j oj hoj hj e he hb;have hlt:j < ops.size:=(Array.getElem?_eq_some_iff.1 hoj).1;have h1:=List.all_eq_true.1 h j (List.mem_range.2 hlt);simp only [hoj,hj,Bool.not_true,Bool.false_or] at h1;have h2:=Array.all_eq_true_iff_forall_mem.1 h1 e he;simpa [hb] using h2
def Yjt (ops:Array Oper):Bool:=ops.all fun o=>match o.op with
 | .defer _=>false
 | _=>true
theorem Ycu (h:Yjt ops=true) (j:Nat) (o:Oper) (ho:ops[j]?=some o):∀ c,o.op≠.defer c:=by
 obtain ⟨hlt,rfl⟩:=Array.getElem?_eq_some_iff.1 ho;have:=Array.all_eq_true.1 h j hlt
 intro c hc;rw [hc] at this
 cases this
def Yba (ops:Array Oper) (listed:Array Bool) (fi i:Nat):Bool:=
 Region.noSelect ops&&Region.free .any ops listed i&&(Region.ready .any ops listed).contains i&&Yju .any ops listed &&
  (ops.size≤fi || fi==i || YdF .any ops i ops.size fi)&&Yjt ops
variable {N:Nat} {D:List Deferred} {ρ:List (Nat × Value)} {a:Act} {w:World} {fuel i:Nat} {listed:Array Bool} {v:Value}
theorem take {oi:Oper} (hi:ops[i]?=some oi) (hb:Yba ops listed fi i=true) (hQ:∀ c a w,Q (.panic c) (a.put oi.dst v) w→Q (.panic c) a w) (hS:S w) (hy:YieldsIf P ops S oi v a)
  (k:Yad P .any ops Q S fi fuel (listed.setIfInBounds i true) (a.put oi.dst v) w):Yad P .any ops Q S fi (fuel+1) listed a w:=by
 simp only [Yba,Bool.and_eq_true,Bool.or_eq_true,decide_eq_true_eq,beq_iff_eq] at hb;obtain ⟨⟨⟨⟨⟨h1,h2⟩,h3⟩,h4⟩,h5⟩,_⟩:=hb;have hw:fi < ops.size→fi≠i→YdF .any ops i ops.size fi=true:=by
  intro hlt hne;rcases h5 with (h5|h5)|h5
  ·omega
  ·exact absurd h5 hne
  ·exact h5
 exact Yly hi (Region.noSelect_spec h1) hQ ops.size hw fuel listed a w (YbR h4) (Region.free_spec hi h2) (by simpa using h3) hy hS k
theorem only {l:List Oper} {oi:Oper} (hi:l[i]?=some oi) (hr:Region.ready .any l.toArray listed=[i])
  (k:OpK P l.toArray Q oi (fun a' w'=>(i=fi∨S w')∧Yad P .any l.toArray Q S fi fuel (listed.setIfInBounds i true) a' w') a w) :
  Yad P .any l.toArray Q S fi (fuel+1) listed a w:=by
 refine ⟨fun h=>(by rw [hr] at h;cases h),fun j hj=>?_⟩;rw [hr] at hj;obtain rfl:j=i:=by simpa using hj
 unfold wpOp;simp only [List.getElem?_toArray,hi];exact k.wp
theorem two {l:List Oper} {i j:Nat} {oi oj:Oper} (hi:l[i]?=some oi) (hj:l[j]?=some oj) (hr:Region.ready .any l.toArray listed=[i,j])
  (ki:OpK P l.toArray Q oi (fun a' w'=>(i=fi∨S w')∧Yad P .any l.toArray Q S fi fuel (listed.setIfInBounds i true) a' w') a w)
  (kj:OpK P l.toArray Q oj (fun a' w'=>(j=fi∨S w')∧Yad P .any l.toArray Q S fi fuel (listed.setIfInBounds j true) a' w') a w) :
  Yad P .any l.toArray Q S fi (fuel+1) listed a w:=by
 refine ⟨fun h=>(by rw [hr] at h;cases h),fun k hk=>?_⟩;rw [hr] at hk;unfold wpOp;rcases List.mem_cons.1 hk with rfl|hk
 ·simp only [List.getElem?_toArray,hi];exact ki.wp
 ·obtain rfl:k=j:=by simpa using hk
  simp only [List.getElem?_toArray,hj];exact kj.wp
theorem done (hr:Region.ready .any ops listed=[]) (h:Q .normal a w):∀ fuel,Yad P .any ops Q S fi fuel listed a w
 | 0=>⟨hr,h⟩
 | _+1=>⟨fun _=>h,by rw [hr];simp⟩
end
section
variable {P:Program} {ops:Array Oper} {Q:Exit→Act→World→Prop} {S:World→Prop} {fi:Nat}
variable {N:Nat} {D:List Deferred} {ρ:List (Nat × Value)} {a:Act} {w:World} {fuel i:Nat} {listed:Array Bool} {u v:Value}
variable {d T X Y:Nat} {pos:String} {af:Array Edge} {x y z:Operand} {g:Option (Nat × Bool)}
def GOn (ops:Array Oper) (ρ:List (Nat × Value)):Option (Nat × Bool)→Prop
 | none=>True
 | some (j,b)=>∃ oj dj,ops[j]?=some oj∧oj.dst=some dj∧look ρ dj=some (.bool b)
def Yww (ops:Array Oper) (ρ:List (Nat × Value)):Option (Nat × Bool)→Prop
 | none=>False
 | some (j,b)=>∃ oj dj,ops[j]?=some oj∧oj.dst=some dj∧look ρ dj=some (.bool (!b))
theorem GOn.wanted {o:Oper} (hE:Env N D a ρ) (h:GOn ops ρ o.guard):Region.wanted o (yielded ops a.tmps)=true:=by
 cases hg:o.guard with
 | none=>simp [Region.wanted,hg]
 | some p =>
   obtain ⟨j,b⟩:=p;rw [hg] at h;obtain ⟨oj,dj,h1,h2,h3⟩:=h;simp [Region.wanted,hg,yielded,h1,h2,hE.look _ _ h3]
theorem Yww.wanted {o:Oper} (hE:Env N D a ρ) (h:Yww ops ρ o.guard):Region.wanted o (yielded ops a.tmps)=false:=by
 cases hg:o.guard with
 | none=>rw [hg] at h;exact h.elim
 | some p =>
   obtain ⟨j,b⟩:=p;rw [hg] at h;obtain ⟨oj,dj,h1,h2,h3⟩:=h
   cases b<;>simp [Region.wanted,hg,yielded,h1,h2,hE.look _ _ h3]
theorem OpK.on {dst:Option Tmp} {op:Op} {g:Option (Nat × Bool)} {K:Act→World→Prop} (hE:Env N D a ρ) (h:GOn ops ρ g) (k:OpK P ops Q ⟨dst,op,T,pos,af,none⟩ K a w):OpK P ops Q ⟨dst,op,T,pos,af,g⟩ K a w:=by
 unfold OpK at *
 have h':GOn ops ρ (⟨dst,op,T,pos,af,g⟩:Oper).guard:=h;rw [if_pos (h'.wanted hE)];rw [if_pos (by simp [Region.wanted])] at k;exact k
def YaM (Q:Exit→Act→World→Prop):Prop:=∀ c (a:Act) w (d:Nat) v,Q (.panic c) (a.put (some d) v) w→Q (.panic c) a w
def Fut (m:Nat→Nat) (w:World):World→Prop:=fun w'=>∃ m',Keep m w m' w'
theorem Fut.ext {m:Nat→Nat} {w:World}:∀ w',Fut m w w'→∃ m',Ext m w m' w':=fun _ ⟨m',h⟩=>⟨m',h.ext⟩
end
end Go.W
