/- Part 7 of what the claim is proved by: lemmas on the model and walks through functions of the program; no conditions. -/
import Derived.Test.YtmdpbfghjdljiaaGreatQ6
namespace Go.V
open Go Go.W
/-! ## Types -/
inductive Sh where
 | plain
 | int (k:IntKind)
 | slice (e:Nat)
 | array (n e:Nat)
 | map (k e:Nat)
 | strct (fs:List (Nat × Nat))
 | ptr (e:Nat)
structure TyE where
 sh:Sh
 size:Nat
 bytes:Nat
 zero:Value
def ShOK (d:TypeDesc):Sh→Prop
 | .plain=>(∀ fs,d≠.struct fs)∧(∀ n e,d≠.array n e)
 | .int k=>d=.int k
 | .slice e=>d=.slice e
 | .array n e=>d=.array n e
 | .map k e=>d=.map k e
 | .ptr e=>d=.pointer e
 | .strct fs=>∃ fields,d=.struct fields∧fields.toList.map (fun f=>(f.offset,f.type))=fs
def Sh.agg:Sh→Bool
 | .array _ _=>true
 | .strct _=>true
 | _=>false
structure TyOK (P:Program) (t:Nat) (e:TyE):Prop where
 sh:∃ d,P.underlying t=some d∧ShOK d e.sh
 info:∃ i,P.info? t=some i∧i.size=e.size∧i.bytes=e.bytes∧i.zero=some e.zero∧e.zero.cells.size=e.size
abbrev Tab:=Nat→Option TyE
def TabOK (P:Program) (tab:Tab):Prop:=∀ t e,tab t=some e→TyOK P t e
theorem TyOK.nagg {P t e} (h:TyOK P t e) (ha:e.sh.agg=false) (w:World):(isAgg t).run P w=.ok false w:=by
 obtain ⟨d,hu,hd⟩:=h.sh
 cases hs:e.sh<;>rw [hs] at hd ha<;>simp only [ShOK] at hd<;>first|(simp [Sh.agg] at ha;done)|(subst hd;simp [isAgg,run_underlying hu];done)|skip
 cases d<;>simp [isAgg,run_underlying hu]<;>first|exact absurd rfl (hd.1 _)|exact absurd rfl (hd.2 _ _)
theorem TyOK.agg {P t e} (h:TyOK P t e) (ha:e.sh.agg=true) (w:World):(isAgg t).run P w=.ok true w:=by
 obtain ⟨d,hu,hd⟩:=h.sh
 cases hs:e.sh<;>rw [hs] at hd ha<;>simp only [ShOK] at hd<;>first|(simp [Sh.agg] at ha;done)|skip
 ·subst hd;simp [isAgg,run_underlying hu]
 ·obtain ⟨fs,rfl,_⟩:=hd;simp [isAgg,run_underlying hu]
def Gives (P:Program) (N:Nat) (D:List Deferred) (op:Op) (ρ:List (Nat × AV)) (η:List AO) (x:AV) (M:Bool:=true):Prop:=
 ∀ ⦃m w γ ρc a⦄,Env N D a ρc→RL m w γ ρc ρ→Heap m w γ η →
  ∃ v,Rep m w γ v x∧∀ {m' w'},(M=true→Keep m w m' w')→∀ (d:Nat) (T:Nat) (pos:String) (af:Array Edge) (g:Option (Nat × Bool)),(execOp a.eval ⟨some d,op,T,pos,af,g⟩).run P w'=.ok (.value v) w'
section
variable {P:Program} {tab:Tab} {N:Nat} {D:List Deferred} {ρ:List (Nat × AV)} {η:List AO} {x y z:Operand} {X Y:Nat} {M:Bool}
theorem give_move {u} (hx:ev2 ρ x=some u):Gives P N D (.move x) ρ η u M:=fun _ _ _ _ _ hE hR hH=>by
 obtain ⟨v,h1,h2⟩:=hR.ev hx
 exact ⟨v,h2,fun _ _ _ _ _ _=>by simp [execOp,hE.ev h1]⟩
theorem give_assign {u} (hx:ev2 ρ x=some u):Gives P N D (.assign x) ρ η u M:=fun _ _ _ _ _ hE hR hH=>by
 obtain ⟨v,h1,h2⟩:=hR.ev hx
 exact ⟨v,h2,fun _ _ _ _ _ _=>by simp [execOp,hE.ev h1]⟩
theorem Rep.raw_eq {m w γ v u} (h:Rep m w γ v (.raw u)):v=u:=by cases h;rfl
theorem RL.raw {m w γ ρc ρ} (hR:RL m w γ ρc ρ) {x:Operand} {u} (hx:ev2 ρ x=some (.raw u)):W.ev ρc x=some u:=by
 obtain ⟨v,h1,h2⟩:=hR.ev hx
 rw [h2.raw_eq] at h1;exact h1
theorem give_not {b Ty} (hx:ev2 ρ x=some (.raw (.bool b))):Gives P N D (.unOp .not Ty x) ρ η (.raw (.bool (!b))) M:=fun _ _ _ _ _ hE hR hH =>
 ⟨_,.raw rfl,fun _ _ _ _ _ _=>by simp [execOp,hE.ev (hR.raw hx),Op.unary]⟩
/-! ### Comparisons -/
def cmpI:BinOp→Int→Int→Option Bool
 | .eql,i,j=>some (decide (i=j))
 | .neq,i,j=>some (decide (i≠j))
 | .lss,i,j=>some (decide (i < j))
 | .leq,i,j=>some (decide (i≤j))
 | .gtr,i,j=>some (decide (j < i))
 | .geq,i,j=>some (decide (j≤i))
 | _,_,_=>none
def bin:BinOp→AV→AV→Option AV
 | op,.raw (.int .i64 i),.raw (.int .i64 j)=>(cmpI op i j).map fun b=>.raw (.bool b)
 | op,.raw (.int .u8 i),.raw (.int .u8 j)=>(cmpI op i j).map fun b=>.raw (.bool b)
 | op,.raw (.int .i32 i),.raw (.int .i32 j)=>(cmpI op i j).map fun b=>.raw (.bool b)
 | op,.raw (.int .u64 i),.raw (.int .u64 j)=>(cmpI op i j).map fun b=>.raw (.bool b)
 | _,_,_=>none
theorem run_cmp {op:BinOp} {k:IntKind} {i j:Int} {b:Bool} {X:Nat} (h:cmpI op i j=some b) (w:World):(binOp op X (.int k i) (.int k j)).run P w=.ok (.bool b) w:=by
 cases op<;>simp only [cmpI,Option.some.injEq,reduceCtorEq] at h<;>subst h<;>simp [binOp,Op.intCmp]
 all_goals (by_cases e:i=j<;>simp [e])
theorem give_cmp1 {op k} {i j:Int} {b} (hx:ev2 ρ x=some (.raw (.int k i))) (hy:ev2 ρ y=some (.raw (.int k j))) (hb:cmpI op i j=some b):Gives P N D (.binOp op X x y Y) ρ η (.raw (.bool b)) M:=fun _ _ _ _ _ hE hR hH =>
 ⟨_,.raw rfl,fun _ _ _ _ _ _=>by
  have hc:=run_cmp (P:=P) (X:=X) (k:=k) hb
  simp [execOp,hE.ev (hR.raw hx),hE.ev (hR.raw hy),hc]
  cases op<;>simp [eqGuard]⟩
theorem give_cmp {op u1 u2 u} (hx:ev2 ρ x=some u1) (hy:ev2 ρ y=some u2) (h:bin op u1 u2=some u):Gives P N D (.binOp op X x y Y) ρ η u M:=by
 unfold bin at h
 split at h
 all_goals first
  | (simp only [Option.map_eq_some_iff] at h;obtain ⟨b,hb,rfl⟩:=h;exact give_cmp1 hx hy hb)
  | cases h
/-! ### Arithmetic -/
variable {i j:Int}
theorem give_add (hx:ev2 ρ x=some (.raw (.int .i64 i))) (hy:ev2 ρ y=some (.raw (.int .i64 j))) (h0:-9223372036854775808≤i+j) (h1:i+j≤9223372036854775807) :
  Gives P N D (.binOp .add X x y Y) ρ η (.raw (.int .i64 (i+j))) M:=fun _ _ _ _ _ hE hR hH =>
 ⟨_,.raw rfl,fun _ _ _ _ _ _=>by simp [execOp,hE.ev (hR.raw hx),hE.ev (hR.raw hy),binOp,eqGuard,Op.intArith,i64_wrap h0 h1]⟩
theorem give_sub (hx:ev2 ρ x=some (.raw (.int .i64 i))) (hy:ev2 ρ y=some (.raw (.int .i64 j))) (h0:-9223372036854775808≤i-j) (h1:i-j≤9223372036854775807) :
  Gives P N D (.binOp .sub X x y Y) ρ η (.raw (.int .i64 (i-j))) M:=fun _ _ _ _ _ hE hR hH =>
 ⟨_,.raw rfl,fun _ _ _ _ _ _=>by simp [execOp,hE.ev (hR.raw hx),hE.ev (hR.raw hy),binOp,eqGuard,Op.intArith,i64_wrap h0 h1]⟩
theorem give_mul (hx:ev2 ρ x=some (.raw (.int .i64 i))) (hy:ev2 ρ y=some (.raw (.int .i64 j))) (h0:-9223372036854775808≤i*j) (h1:i*j≤9223372036854775807) :
  Gives P N D (.binOp .mul X x y Y) ρ η (.raw (.int .i64 (i*j))) M:=fun _ _ _ _ _ hE hR hH =>
 ⟨_,.raw rfl,fun _ _ _ _ _ _=>by simp [execOp,hE.ev (hR.raw hx),hE.ev (hR.raw hy),binOp,eqGuard,Op.intArith,i64_wrap h0 h1]⟩
theorem give_rem (hx:ev2 ρ x=some (.raw (.int .i64 i))) (hy:ev2 ρ y=some (.raw (.int .i64 j))) (h0:0≤i) (h1:0 < j) :
  Gives P N D (.binOp .rem X x y Y) ρ η (.raw (.int .i64 (i % j))) M:=fun _ _ _ _ _ hE hR hH =>
 ⟨_,.raw rfl,fun _ _ _ _ _ _=>by simp [execOp,hE.ev (hR.raw hx),hE.ev (hR.raw hy),binOp,eqGuard,Op.intDiv,show j≠0 by omega,Int.tmod_eq_emod_of_nonneg h0]⟩
/-! ### Lengths -/
theorem give_len_sl {sz nl xs e} (hT:TabOK P tab) (hs:(tab X).map (·.sh)=some (.slice e)) (hx:ev2 ρ x=some (.sl sz nl xs)):Gives P N D (.call ⟨.builtin .len,#[x],#[X]⟩) ρ η (.raw (.int .i64 xs.length)) M:=fun _ _ _ _ _ hE hR hH=>by
 obtain ⟨v,h1,h2⟩:=hR.ev hx
 obtain ⟨b,cap,rfl,_⟩:=h2.sl_shape
 cases ht:tab X with
 | none=>rw [ht] at hs;cases hs
 | some te =>
   rw [ht] at hs
   simp at hs
   obtain ⟨d,hu,hd⟩:=(hT X te ht).sh
   rw [hs] at hd
   obtain rfl:d=_:=hd
   exact ⟨_,.raw rfl,fun _ _ _ _ _ _=>by simp [execOp,resolve,invoke,builtin,hE.ev h1,Builtin.len_,run_underlying hu,goInt]⟩
theorem give_len_map {α:Type} {sz nl e} {f:α→AV} {l:List α} (hT:TabOK P tab) (hs:(tab X).map (·.sh)=some (.slice e)) (hx:ev2 ρ x=some (.sl sz nl (l.map f))):Gives P N D (.call ⟨.builtin .len,#[x],#[X]⟩) ρ η (.raw (.int .i64 l.length)) M:=by
 have:=give_len_sl (P:=P) (N:=N) (D:=D) (η:=η) (M:=M) hT hs hx
 rwa [List.length_map] at this
theorem Rep.hs_get {m w γ v i} (h:Rep m w γ v (.hs i)):γ[i]?=some v∧∃ a n c,v=.slice a n c:=by
 cases h with
 | hs h=>exact ⟨h,_,_,_,rfl⟩
theorem Heap.gs {m w γ η} (h:Heap m w γ η) {i:Nat} {fz T sz nl xs v} (hi:η[i]?=some (.gs fz T sz nl xs)) (hv:γ[i]?=some v) :
  ∃ m1,Own T sz (CK m w) m1 w v xs∧(fz=true→m1=m)∧(∀ b,some b≠ownB v→m1 b=m b)∧Ext m w m1 w:=by
 obtain ⟨h1,_⟩:=h.ok i v _ hv hi
 cases fz with
 | true=>exact ⟨m,Own.imp h1 (fun _ _ h=>h),fun _=>rfl,fun _ _=>rfl,.refl _ _⟩
 | false =>
   obtain ⟨m',a,b,c,d⟩:=OwnX.ext h1
   exact ⟨m',a,nofun,b,d⟩
theorem give_len_hs {k:Nat} {fz T sz nl xs e} (hT:TabOK P tab) (hs:(tab X).map (·.sh)=some (.slice e)) (hx:ev2 ρ x=some (.hs k)) (hk:η[k]?=some (.gs fz T sz nl xs)):Gives P N D (.call ⟨.builtin .len,#[x],#[X]⟩) ρ η (.raw (.int .i64 xs.length)) M:=fun _ _ _ _ _ hE hR hH=>by
 obtain ⟨v,h1,h2⟩:=hR.ev hx
 obtain ⟨m1,ho,_⟩:=hH.gs hk h2.hs_get.1
 obtain ⟨b,cap,rfl,_⟩:=ho.rs.shape
 cases ht:tab X with
 | none=>rw [ht] at hs;cases hs
 | some te =>
   rw [ht] at hs
   simp at hs
   obtain ⟨d,hu,hd⟩:=(hT X te ht).sh
   rw [hs] at hd
   obtain rfl:d=_:=hd
   exact ⟨_,.raw rfl,fun _ _ _ _ _ _=>by simp [execOp,resolve,invoke,builtin,hE.ev h1,Builtin.len_,run_underlying hu,goInt]⟩
theorem give_len_hs_map {α:Type} {k:Nat} {fz T sz nl e} {f:α→AV} {l:List α} (hT:TabOK P tab) (hs:(tab X).map (·.sh)=some (.slice e)) (hx:ev2 ρ x=some (.hs k)) (hk:η[k]?=some (.gs fz T sz nl (l.map f))):Gives P N D (.call ⟨.builtin .len,#[x],#[X]⟩) ρ η (.raw (.int .i64 l.length)) M:=by
 have:=give_len_hs (P:=P) (N:=N) (D:=D) (M:=M) hT hs hx hk
 rwa [List.length_map] at this
/-! ### Elements -/
theorem shOf {t:Nat} {s:Sh} (hT:TabOK P tab) (hs:(tab t).map (·.sh)=some s):∃ d,P.underlying t=some d∧ShOK d s:=by
 cases ht:tab t with
 | none=>rw [ht] at hs;cases hs
 | some te=>rw [ht] at hs;simp at hs;subst hs;exact (hT t te ht).sh
theorem sizeOf' {t n:Nat} (hT:TabOK P tab) (hs:(tab t).map (·.size)=some n):∃ i,P.info? t=some i∧i.size=n:=by
 cases ht:tab t with
 | none=>rw [ht] at hs;cases hs
 | some te=>rw [ht] at hs;simp at hs;subst hs;obtain ⟨i,a,b,_⟩:=(hT t te ht).info;exact ⟨i,a,b⟩
theorem give_idx {sz nl xs E} {n:Nat} {e} (hT:TabOK P tab) (hs:(tab X).map (·.sh)=some (.slice E)) (hz:(tab E).map (·.size)=some sz) (hx:ev2 ρ x=some (.sl sz nl xs)) (hy:ev2 ρ y=some (.raw (.int .i64 i))) (hi:i=(n:Nat)) (he:xs[n]?=some e) :
  Gives P N D (.indexAddr X x y) ρ η (.ep e.cells 0) M:=fun m w γ ρc a hE hR hH=>by
 obtain ⟨v,h1,h2⟩:=hR.ev hx
 obtain ⟨d,hu,hd⟩:=shOf hT hs
 obtain rfl:d=_:=hd
 obtain ⟨inf,i1,i2⟩:=sizeOf' hT hz
 obtain ⟨b,o,cap,rfl,cs,g1,g2,g3⟩:=h2.rs.1.index he
 subst hi
 have hlt:n < xs.length:=(List.getElem?_eq_some_iff.1 he).1
 refine ⟨.pointer (some ⟨b,o+n*sz+0,none⟩),.ep g2 g3.1 g3.2.1 g3.2.2,fun _ _ _ _ _ _=>?_⟩
 simp [execOp,hE.ev h1,hE.ev (hR.raw hy),Instr.indexAt,asIntOf,run_underlying hu,sizeOf,typeInfo,i1,i2,Addr_add_lit,hlt]
theorem map_get {α β:Type} {f:α→β} {l:List α} {n:Nat} (h:n < l.length):(l.map f)[n]?=some (f l[n]):=by simp [h]
theorem give_idx_hs {k:Nat} {fz T sz nl xs E} {n:Nat} {e} (hT:TabOK P tab) (hs:(tab X).map (·.sh)=some (.slice E)) (hz:(tab E).map (·.size)=some sz) (hx:ev2 ρ x=some (.hs k)) (hk:η[k]?=some (.gs fz T sz nl xs)) (hy:ev2 ρ y=some (.raw (.int .i64 i))) (hi:i=(n:Nat)) (he:xs[n]?=some e) :
  Gives P N D (.indexAddr X x y) ρ η (.gp k sz n 0) M:=fun m w γ ρc a hE hR hH=>by
 obtain ⟨v,h1,h2⟩:=hR.ev hx
 obtain ⟨d,hu,hd⟩:=shOf hT hs
 obtain rfl:d=_:=hd
 obtain ⟨inf,i1,i2⟩:=sizeOf' hT hz
 obtain ⟨hg,_⟩:=h2.hs_get
 obtain ⟨m1,ho,_⟩:=hH.gs hk hg
 subst hi
 have hlt:n < xs.length:=(List.getElem?_eq_some_iff.1 he).1
 rcases ho with ⟨_,rfl⟩|⟨_,_,_,rfl⟩|⟨g,cap,cur,rfl,_⟩
 ·simp at he
 ·simp at he
 refine ⟨.pointer (some ⟨g,n*sz+0,none⟩),.gp hg,fun _ _ _ _ _ _=>?_⟩
 simp [execOp,hE.ev h1,hE.ev (hR.raw hy),Instr.indexAt,asIntOf,run_underlying hu,sizeOf,typeInfo,i1,i2,Addr_add_lit,hlt]
def ptrAdd (k:Nat):AV→Option AV
 | .ep cs o=>some (.ep cs (o+k))
 | .bp i o=>some (.bp i (o+k))
 | .gp i sz n o=>some (.gp i sz n (o+k))
 | _=>none
theorem ptrAdd_rep {m w γ v u u' k} (h:Rep m w γ v u) (hk:ptrAdd k u=some u'):∃ b o,v=.pointer (some ⟨b,o,none⟩)∧Rep m w γ (.pointer (some ⟨b,o+k,none⟩)) u':=by
 cases h<;>simp only [ptrAdd,Option.some.injEq,reduceCtorEq] at hk
 case ep hc hl h1 hr=>subst hk;exact ⟨_,_,rfl,by rw [Nat.add_assoc];exact .ep hc hl h1 hr⟩
 case bp h=>subst hk;exact ⟨_,_,rfl,.bp h⟩
 case gp h=>subst hk;exact ⟨_,_,rfl,by rw [Nat.add_assoc];exact .gp h⟩
theorem give_idx_arr {n len E sz u u'} (hT:TabOK P tab) (hs:(tab X).map (·.sh)=some (.array len E)) (hz:(tab E).map (·.size)=some sz) (hx:ev2 ρ x=some u) (hy:ev2 ρ y=some (.raw (.int .i64 i))) (hi:i=(n:Nat)) (hn:n < len) (hu':ptrAdd (n*sz) u=some u') :
  Gives P N D (.indexAddr X x y) ρ η u' M:=fun _ _ _ _ _ hE hR hH=>by
 obtain ⟨v,h1,h2⟩:=hR.ev hx
 obtain ⟨d,hu,hd⟩:=shOf hT hs
 obtain rfl:d=_:=hd
 obtain ⟨inf,i1,i2⟩:=sizeOf' hT hz
 obtain ⟨b,o,rfl,h3⟩:=ptrAdd_rep h2 hu'
 subst hi
 exact ⟨_,h3,fun _ _ _ _ _ _=>by simp [execOp,hE.ev h1,hE.ev (hR.raw hy),Instr.indexAt,asIntOf,run_underlying hu,Instr.sureAddr,sizeOf,typeInfo,i1,i2,Addr_add_lit,hn]⟩
theorem give_field_addr {f:Nat} {fs:List (Nat × Nat)} {off F sz u u'} (hT:TabOK P tab) (hs:(tab X).map (·.sh)=some (.strct fs)) (hf:fs[f]?=some (off,F)) (hz:(tab F).map (·.size)=some (sz+1)) (hx:ev2 ρ x=some u) (hu':ptrAdd off u=some u') :
  Gives P N D (.fieldAddr X x f) ρ η u' M:=fun _ _ _ _ _ hE hR hH=>by
 obtain ⟨v,h1,h2⟩:=hR.ev hx
 obtain ⟨d,hu,fields,rfl,hfs⟩:=shOf hT hs
 obtain ⟨inf,i1,i2⟩:=sizeOf' hT hz
 obtain ⟨b,o,rfl,h3⟩:=ptrAdd_rep h2 hu'
 subst hfs
 have hq:∃ fd,fields[f]?=some fd∧fd.offset=off∧fd.type=F:=by
  simp only [List.getElem?_map,Array.getElem?_toList] at hf
  cases hq:fields[f]? with
  | none=>rw [hq] at hf;cases hf
  | some fd=>rw [hq] at hf;simp at hf;exact ⟨fd,rfl,hf.1,hf.2⟩
 obtain ⟨fd,hq,rfl,rfl⟩:=hq
 exact ⟨_,h3,fun _ _ _ _ _ _=>by simp [execOp,hE.ev h1,Instr.fieldAt,run_underlying hu,hq,Instr.sureAddr,fieldPlace,sizeOf,typeInfo,i1,i2,Addr_add_lit]⟩
theorem give_nilCheck {u u'} (hx:ev2 ρ x=some u) (hu':ptrAdd 0 u=some u'):Gives P N D (.nilCheck x) ρ η u M:=fun _ _ _ _ _ hE hR hH=>by
 obtain ⟨v,h1,h2⟩:=hR.ev hx
 obtain ⟨b,o,rfl,h3⟩:=ptrAdd_rep h2 hu'
 exact ⟨_,h2,fun _ _ _ _ _ _=>by simp [execOp,hE.ev h1]⟩
/-! ### Loads -/
def behind (η:List AO):AV→Option (List AV × Nat)
 | .ep cs o=>some (cs,o)
 | .bp i o=>match η[i]? with
   | some (.cb _ cs)=>some (cs,o)
   | _=>none
 | _=>none
theorem behind_rep {m w γ η v u} {cs:List AV} {o:Nat} (hH:Heap m w γ η) (h:Rep m w γ v u) (hb:behind η u=some (cs,o)) :
  ∃ b q vs,v=.pointer (some ⟨b,q+o,none⟩)∧CL γ m w vs cs∧∀ {m' w'},Keep m w m' w'→∀ (j:Nat) c,vs[j]?=some c→w'.cell? ⟨b,q+j,none⟩=some c:=by
 cases h<;>simp only [behind,Option.some.injEq,reduceCtorEq,Prod.mk.injEq] at hb
 case ep b q o' vs cs' hc hl h1 hr =>
  obtain ⟨rfl,rfl⟩:=hb
  exact ⟨b,q,vs,rfl,⟨hl,h1,fun j v c a a'=>(hr j v c a a').mono (.refl _ _) (fun _ _ h=>by simp at h)⟩,fun hk j c hj=>((hc.mono hk.ext) j c hj).2⟩
 case bp i o' b h =>
  split at hb
  ·rename_i T cs' he
   simp at hb
   obtain ⟨rfl,rfl⟩:=hb
   obtain ⟨b',vs,e,hB,hC⟩:=hH.ok i _ _ h he
   cases e
   exact ⟨b,0,vs,by simp,hC,fun hk j c hj=>by rw [Nat.zero_add];exact (hB.keep hk).cell hj⟩
  ·cases hb
theorem give_load {u} {cs:List AV} {o:Nat} {c} (hT:TabOK P tab) (hs:(tab X).map (·.sh.agg)=some false) (hx:ev2 ρ x=some u) (hb:behind η u=some (cs,o)) (hc:cs[o]?=some c):Gives P N D (.load X x) ρ η c:=fun _ _ _ _ _ hE hR hH=>by
 obtain ⟨v,h1,h2⟩:=hR.ev hx
 obtain ⟨b,q,vs,rfl,hC,hK⟩:=behind_rep hH h2 hb
 have hlt:o < vs.length:=by rw [hC.1];exact (List.getElem?_eq_some_iff.1 hc).1
 refine ⟨vs[o],hC.2.2 o _ _ (List.getElem?_eq_getElem hlt) hc,fun {m' w'} hk _ _ _ _ _=>?_⟩
 have hcell:=hK (hk rfl) o _ (List.getElem?_eq_getElem hlt)
 cases ht:tab X with
 | none=>rw [ht] at hs;cases hs
 | some te =>
   rw [ht] at hs
   simp at hs
   have hagg:=(hT X te ht).nagg hs
   simp [execOp,hE.ev h1,Instr.loadAt,Instr.sureAddr,loadVar,hagg,hcell]
theorem give_load_agg {u} {cs:List AV} {o n:Nat} (hT:TabOK P tab) (hs:(tab X).map (fun e=>(e.sh.agg,e.size))=some (true,n)) (hx:ev2 ρ x=some u) (hb:behind η u=some (cs,o)) (hn:(cs.drop o).length=n):Gives P N D (.load X x) ρ η (.st (cs.drop o)):=fun _ _ _ _ _ hE hR hH=>by
 obtain ⟨v,h1,h2⟩:=hR.ev hx
 obtain ⟨b,q,vs,rfl,hC,hK⟩:=behind_rep hH h2 hb
 have hlen:(vs.drop o).length=n:=by rw [← hn,List.length_drop,List.length_drop,hC.1]
 refine ⟨.agg (vs.drop o).toArray,.st (by rw [hlen,hn]) (fun c hc=>hC.2.1 c (List.mem_of_mem_drop hc)) (fun j v c a a'=>hC.2.2 (o+j) v c (by simpa using a) (by simpa using a')),fun {m' w'} hk _ _ _ _ _=>?_⟩
 cases ht:tab X with
 | none=>rw [ht] at hs;cases hs
 | some te =>
   rw [ht] at hs
   simp at hs
   have hagg:=(hT X te ht).agg hs.1
   obtain ⟨inf,i1,i2,_⟩:=(hT X te ht).info
   have hl:=run_loadCells_list (P:=P) w' ⟨b,q+o,none⟩ (vs.drop o) (fun j c hj=>by rw [Addr_add_lit,Nat.add_assoc];exact hK (hk rfl) (o+j) c (by simpa using hj))
   rw [hlen,← hs.2,← i2] at hl
   simp [execOp,hE.ev h1,Instr.loadAt,Instr.sureAddr,loadVar,hagg,sizeOf,typeInfo,i1,hl]
theorem gp_cells {m w γ η v} {i sz k o:Nat} {fz T nl} {xs:List AV} {e} (hH:Heap m w γ η) (h:Rep m w γ v (.gp i sz k o)) (hi:η[i]?=some (.gs fz T sz nl xs)) (he:xs[k]?=some e) :
  ∃ b vs,v=.pointer (some ⟨b,k*sz+o,none⟩)∧CL [] m w vs e.cells∧∀ {m' w'},Keep m w m' w'→∀ (j:Nat) c,vs[j]?=some c→w'.cell? ⟨b,k*sz+j,none⟩=some c:=by
 cases h with
 | gp h =>
   obtain ⟨m1,ho,_,_,hext⟩:=hH.gs hi h
   rcases ho with ⟨_,rfl⟩|⟨_,_,_,rfl⟩|⟨g,cap,cur,hv,h0,hg,h1,h2,h3,h4,h5⟩
   ·simp at he
   ·simp at he
   ·cases hv
    obtain ⟨cs,a1,a2,a3⟩:=h5 k e he
    refine ⟨_,cs,rfl,a3,fun {m' w'} hk j c hj=>?_⟩
    ·have hg':=hk.heap hg
     simp only [World.cell?,hg']
     simpa using a2 j c hj
end
end Go.V
namespace Go.V
def nthT:List (Option TyE)→Nat→Option TyE
 | [],_=>none
 | e::_,0=>e
 | _::r,t+1=>nthT r t
def AllOK (P:Program):Nat→List (Option TyE)→Prop
 | _,[]=>True
 | k,some e::r=>TyOK P k e∧AllOK P (k+1) r
 | k,none::r=>AllOK P (k+1) r
theorem AllOK.get {P:Program}:∀ {L:List (Option TyE)} {k:Nat},AllOK P k L→∀ t e,nthT L t=some e→TyOK P (k+t) e
 | [],_,_,t,e,h=>by simp [nthT] at h
 | some x::r,k,⟨h1,h2⟩,t,e,h=>by
   cases t with
   | zero=>simp [nthT] at h;subst h;exact h1
   | succ t=>have:=AllOK.get h2 t e (by simpa [nthT] using h);rwa [show k+(t+1)=k+1+t by omega]
 | none::r,k,h2,t,e,h=>by
   cases t with
   | zero=>simp [nthT] at h
   | succ t=>have:=AllOK.get (k:=k+1) h2 t e (by simpa [nthT] using h);rwa [show k+(t+1)=k+1+t by omega]
theorem allOK_tab {P:Program} {L:List (Option TyE)} (h:AllOK P 0 L):TabOK P (fun t=>nthT L t):=fun t e ht=>by
 have:=h.get t e ht
 rwa [Nat.zero_add] at this
end Go.V
