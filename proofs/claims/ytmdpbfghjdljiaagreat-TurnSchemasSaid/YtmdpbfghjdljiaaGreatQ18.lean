/- Part 18 of what the claim is proved by: lemmas on the model and walks through functions of the program; no conditions. -/
import Derived.Test.YtmdpbfghjdljiaaGreatQ17
namespace Go.V
open Go Go.W
section
variable {C:Cx} {ops:Array Oper} {Q:Qt} {ρ ρ':Ro} {η η' η2:Eta} {rest:List Oper} {T d X Y:Nat} {pos:String} {af:Array Edge} {op:Op} {x y z:Operand} {A K:Code} {e:Exit}
def rvG (tmps:Array Value) (rv:ResultVar):Sem Value:=match rv with
 | .tmp t=>pure (tmps.getD t undef)
 | .cell p t=>do loadVar t (← asAddr (tmps.getD p undef))
theorem results_eq (fn:Func) (tmps:Array Value):results fn tmps = (do
  let vs ← fn.results.mapM (rvG tmps)
  pure (if h:vs.size = 1 then vs[0] else .tuple vs)):=by
 unfold results
 congr 1
def RV (C:Cx) (ρ:Ro) (η:Eta):ResultVar → AV → Prop
 | .tmp t,u=>lk ρ t = some u
 | .cell t X,u=>∃ i E n cs,lk ρ t = some (.bp i 0) ∧ (C.tab X).map (fun e=>(e.sh.agg,e.size)) = some (true,n) ∧ η[i]? = some (.cb E cs) ∧ cs.length = n ∧ u = .st cs
theorem RV.run {rv:ResultVar} {u:AV} {m w γ ρc N D a} (h:RV C ρ η rv u) (hE:Env N D a ρc) (hR:RL m w γ ρc ρ) (hH:Heap m w γ η) :
  ∃ v,(rvG a.tmps rv).run C.P w = .ok v w ∧ Rep m w γ v u:=by
 cases rv with
 | tmp t =>
   obtain ⟨v,h1,h2⟩:=hR.look h
   have hg:=hE.get h1
   exact ⟨v,by simp only [rvG,hg]; rfl,h2⟩
 | cell t X =>
   obtain ⟨i,E,n,cs,hx,hs,hb,hl,rfl⟩:=h
   obtain ⟨v,h1,h2⟩:=hR.look hx
   cases h2 with
   | @bp _ _ _ b hb' =>
   obtain ⟨b',vs,e,hB,hC⟩:=hH.ok i _ _ hb' hb
   cases e
   cases ht:C.tab X with
   | none=>rw [ht] at hs; cases hs
   | some te =>
     rw [ht] at hs
     simp at hs
     obtain ⟨dd,hu,hd⟩:=(C.hT X te ht).sh
     obtain ⟨inf,i1,i2,_⟩:=(C.hT X te ht).info
     have hvl:vs.length = te.size:=by rw [hC.1,hl,hs.2]
     refine ⟨.agg vs.toArray,?_,.st hC.1 hC.2.1 hC.2.2⟩
     have hagg:=(C.hT X te ht).agg hs.1 w
     have hll:=run_loadCells_list (P:=C.P) w ⟨b,0,none⟩ vs (fun j c hj=>by rw [Addr_add_lit,Nat.zero_add]; exact hB.cell hj)
     have hl':(loadCells ⟨b,0,none⟩ te.size).run C.P w = .ok vs.toArray w:=by rw [← hvl]; simpa using hll
     have hg:=hE.get h1
     have hlv:(loadVar X ⟨b,0,none⟩).run C.P w = .ok (.agg vs.toArray) w:=by simp [loadVar,hagg,sizeOf,typeInfo,i1,i2,hl']
     simp only [rvG,hg]
     simp [asAddr,hlv]
theorem TX.res2 {fn:Func} {v1 v2:ResultVar} {u1 u2 r1 r2:AV} (σ:List Nat) (hD:C.D = []) (hres:fn.results = #[v1,v2]) (h1:RV C ρ η v1 u1) (h2:RV C ρ η v2 u2) (hn:nodB σ = true) (hp:preB C.n 0 σ = true) (ho:SubO (ts σ) η σ η') (hle1:LE (ts σ) u1 r1) (hle2:LE (ts σ) u2 r2) :
  TX C (bodyPost C.P fn (PostB C.B (.tp [r1,r2]) η')) .ret ρ η:=by
 rintro a w ⟨m,γ,ρc,hE,hR,hI⟩
 obtain ⟨w1,a1,b1⟩:=h1.run hE hR hI.heap
 obtain ⟨w2,a2,b2⟩:=h2.run hE hR hI.heap
 obtain ⟨γ',g1,g2⟩:=hI.sel C.hn hn hp ho
 rw [hD] at hE
 refine bodyPost_ret (v:=.tuple #[w1,w2]) ?_ hE.defers ⟨_,m,γ',rfl,g2,.tp (vs:=[w1,w2]) rfl fun j v c hv hc=>?_⟩
 ·rw [results_eq,hres]
  simp [a1,a2]
 match j with
 | 0=>simp at hv hc; subst hv hc; exact hle1 _ _ _ _ g1 _ b1
 | 1=>simp at hv hc; subst hv hc; exact hle2 _ _ _ _ g1 _ b2
 | j + 2=>simp at hv
theorem TX.res3 {fn:Func} {v1 v2 v3:ResultVar} {u1 u2 u3 r1 r2 r3:AV} (σ:List Nat) (hD:C.D = []) (hres:fn.results = #[v1,v2,v3]) (h1:RV C ρ η v1 u1) (h2:RV C ρ η v2 u2) (h3:RV C ρ η v3 u3) (hn:nodB σ = true) (hp:preB C.n 0 σ = true) (ho:SubO (ts σ) η σ η') (hle1:LE (ts σ) u1 r1) (hle2:LE (ts σ) u2 r2) (hle3:LE (ts σ) u3 r3) :
  TX C (bodyPost C.P fn (PostB C.B (.tp [r1,r2,r3]) η')) .ret ρ η:=by
 rintro a w ⟨m,γ,ρc,hE,hR,hI⟩
 obtain ⟨w1,a1,b1⟩:=h1.run hE hR hI.heap
 obtain ⟨w2,a2,b2⟩:=h2.run hE hR hI.heap
 obtain ⟨w3,a3,b3⟩:=h3.run hE hR hI.heap
 obtain ⟨γ',g1,g2⟩:=hI.sel C.hn hn hp ho
 rw [hD] at hE
 refine bodyPost_ret (v:=.tuple #[w1,w2,w3]) ?_ hE.defers ⟨_,m,γ',rfl,g2,.tp (vs:=[w1,w2,w3]) rfl fun j v c hv hc=>?_⟩
 ·rw [results_eq,hres]
  simp [a1,a2,a3]
 match j with
 | 0=>simp at hv hc; subst hv hc; exact hle1 _ _ _ _ g1 _ b1
 | 1=>simp at hv hc; subst hv hc; exact hle2 _ _ _ _ g1 _ b2
 | 2=>simp at hv hc; subst hv hc; exact hle3 _ _ _ _ g1 _ b3
 | j + 3=>simp at hv
theorem TX.res4 {fn:Func} {v1 v2 v3 v4:ResultVar} {u1 u2 u3 u4 r1 r2 r3 r4:AV} (σ:List Nat) (hD:C.D = []) (hres:fn.results = #[v1,v2,v3,v4]) (h1:RV C ρ η v1 u1) (h2:RV C ρ η v2 u2) (h3:RV C ρ η v3 u3) (h4:RV C ρ η v4 u4) (hn:nodB σ = true) (hp:preB C.n 0 σ = true) (ho:SubO (ts σ) η σ η') (hle1:LE (ts σ) u1 r1) (hle2:LE (ts σ) u2 r2) (hle3:LE (ts σ) u3 r3) (hle4:LE (ts σ) u4 r4) :
  TX C (bodyPost C.P fn (PostB C.B (.tp [r1,r2,r3,r4]) η')) .ret ρ η:=by
 rintro a w ⟨m,γ,ρc,hE,hR,hI⟩
 obtain ⟨w1,a1,b1⟩:=h1.run hE hR hI.heap
 obtain ⟨w2,a2,b2⟩:=h2.run hE hR hI.heap
 obtain ⟨w3,a3,b3⟩:=h3.run hE hR hI.heap
 obtain ⟨w4,a4,b4⟩:=h4.run hE hR hI.heap
 obtain ⟨γ',g1,g2⟩:=hI.sel C.hn hn hp ho
 rw [hD] at hE
 refine bodyPost_ret (v:=.tuple #[w1,w2,w3,w4]) ?_ hE.defers ⟨_,m,γ',rfl,g2,.tp (vs:=[w1,w2,w3,w4]) rfl fun j v c hv hc=>?_⟩
 ·rw [results_eq,hres]
  simp [a1,a2,a3,a4]
 match j with
 | 0=>simp at hv hc; subst hv hc; exact hle1 _ _ _ _ g1 _ b1
 | 1=>simp at hv hc; subst hv hc; exact hle2 _ _ _ _ g1 _ b2
 | 2=>simp at hv hc; subst hv hc; exact hle3 _ _ _ _ g1 _ b3
 | 3=>simp at hv hc; subst hv hc; exact hle4 _ _ _ _ g1 _ b4
 | j + 4=>simp at hv
theorem Wk.viewS {t i o:Nat} {fz E sz nl} {xs cs:List AV} (hx:lk ρ t = some (.st cs)) (hc:cs[o]? = some (.hs i)) (ho:η[i]? = some (.gs fz E sz nl xs)):Wk C ρ η ((t,.st (cs.set o (.sl sz none xs))) :: ρ) (η.set i (.gs true E sz nl xs)):=by
 rintro a w ⟨m,γ,ρc,hE,hR,hI⟩
 obtain ⟨v,hv,hok⟩:=hI.heap.get ho
 obtain ⟨m',h1,h2,h3⟩:=hI.freeze hv ho
 obtain ⟨u,g1,g2⟩:=hR.look hx
 have g3:=g2.mono h1 (.refl _)
 cases g2 with
 | @st _ vs _ hl k1 k2 =>
 refine ⟨m',γ,(t,.agg vs.toArray) :: ρc,⟨hE.size,hE.defers,fun s q hs=>?_⟩,⟨rfl,.st (by simpa using hl) k1 (fun j p c hp hcc=>?_),hR.mono h1 (.refl _)⟩,h3⟩
 ·simp only [W.look] at hs
  cases hb:Nat.beq t s with
  | true =>
    rw [hb] at hs
    simp at hs
    subst hs
    rw [← Nat.eq_of_beq_eq_true hb]
    exact hE.look _ _ g1
  | false=>rw [hb] at hs; exact hE.look _ _ (by simpa using hs)
 ·rw [List.getElem?_set] at hcc
  split at hcc
  ·rename_i e
   subst e
   split at hcc
   ·cases hcc
    have:=(k2 o p (.hs i) hp hc).hs_get.1
    rw [hv] at this; cases this
    exact Rep.of_rs h2.rs (NL.none _)
   ·cases hcc
  ·exact (k2 j p c hp hcc).mono h1 (.refl _)
theorem OL.vwS {i E sz:Nat} {fz nl} {xs cs us:List AV} (t o:Nat) (k:OL C ops Q rest ((t,.st us) :: ρ) η2) (hx:lk ρ t = some (.st cs):=by with_unfolding_all exact rfl) (hc:cs[o]? = some (.hs i):=by with_unfolding_all exact rfl) (ho:η[i]? = some (.gs fz E sz nl xs):=by with_unfolding_all exact rfl) (hu:cs.set o (.sl sz none xs) = us:=by (try dsimp only [List.set])<;>exact rfl) (hη:η.set i (.gs true E sz nl xs) = η2:=by (try dsimp only [List.set])<;>exact rfl):OL C ops Q rest ρ η:=OL.wk (Wk.viewS hx hc ho) (by rw [hu,hη]; exact k)
theorem give_load_mid {P:Program} {tab:Tab} {N:Nat} {D:List Deferred} {u} {cs us:List AV} {o n:Nat} (hT:TabOK P tab) (hs:(tab X).map (fun e=>(e.sh.agg,e.size)) = some (true,n)) (hx:ev2 ρ x = some u) (hb:behind η u = some (cs,o)) (hu:(cs.drop o).take n = us) (hn:us.length = n):Gives P N D (.load X x) ρ η (.st us):=fun _ _ _ _ _ hE hR hH=>by
 obtain ⟨v,h1,h2⟩:=hR.ev hx
 obtain ⟨b,q,vs,rfl,hC,hK⟩:=behind_rep hH h2 hb
 subst hu
 have hlen:((vs.drop o).take n).length = n:=by
  rw [List.length_take,List.length_drop] at hn ⊢
  rw [hC.1]; exact hn
 have hj:∀ (j:Nat) (l:List AV) (c:AV),((l.drop o).take n)[j]? = some c → l[o + j]? = some c:=fun j l c h=>by
  rw [List.getElem?_take] at h
  split at h
  ·simpa using h
  ·cases h
 have hj2:∀ (j:Nat) (c:Value),((vs.drop o).take n)[j]? = some c → vs[o + j]? = some c:=fun j c h=>by
  rw [List.getElem?_take] at h
  split at h
  ·simpa using h
  ·cases h
 refine ⟨.agg ((vs.drop o).take n).toArray,.st (by rw [hlen,hn]) (fun c hc=>hC.2.1 c (List.mem_of_mem_drop (List.mem_of_mem_take hc))) (fun j v c a a'=>hC.2.2 (o + j) v c (hj2 j v a) (hj j cs c a')),fun {m' w'} hk _ _ _ _ _=>?_⟩
 cases ht:tab X with
 | none=>rw [ht] at hs; cases hs
 | some te =>
   rw [ht] at hs
   simp at hs
   have hagg:=(hT X te ht).agg hs.1
   obtain ⟨inf,i1,i2,_⟩:=(hT X te ht).info
   have hl:=run_loadCells_list (P:=P) w' ⟨b,q + o,none⟩ ((vs.drop o).take n) (fun j c h=>by rw [Addr_add_lit,Nat.add_assoc]; exact hK (hk rfl) (o + j) c (hj2 j c h))
   rw [hlen] at hl
   have hq:inf.size = n:=i2.trans hs.2
   simp [execOp,hE.ev h1,Instr.loadAt,Instr.sureAddr,loadVar,hagg,sizeOf,typeInfo,i1,hq,hl]
theorem OL.ldM {u} {cs us:List AV} {o n:Nat} (kk:OL C ops Q rest ((d,.st us) :: ρ) η) (hs:(C.tab X).map (fun e=>(e.sh.agg,e.size)) = some (true,n):=by with_unfolding_all exact rfl) (hx:ev2 ρ x = some u:=by with_unfolding_all exact rfl) (hb:behind η u = some (cs,o):=by with_unfolding_all exact rfl) (hu:(cs.drop o).take n = us:=by with_unfolding_all exact rfl) (hn:us.length = n:=by with_unfolding_all exact rfl) (hd:Nat.blt d C.N = true:=by with_unfolding_all exact rfl) :
  OL C ops Q (⟨some d,.load X x,T,pos,af,none⟩ :: rest) ρ η:=OL.give (give_load_mid C.hT hs hx hb hu hn) hd kk
theorem gvM {M:Bool} {u} {cs us:List AV} {o n:Nat} (hM:M = true:=by rfl) (hs:(C.tab X).map (fun e=>(e.sh.agg,e.size)) = some (true,n):=by with_unfolding_all exact rfl) (hx:ev2 ρ x = some u:=by with_unfolding_all exact rfl) (hb:behind η u = some (cs,o):=by with_unfolding_all exact rfl) (hu:(cs.drop o).take n = us:=by with_unfolding_all exact rfl) (hn:us.length = n:=by with_unfolding_all exact rfl):Gives C.P C.N C.D (.load X x) ρ η (.st us) M:=by
 subst hM
 exact give_load_mid C.hT hs hx hb hu hn
end
end Go.V
namespace Go.V
open Go Go.W
theorem LEs.get {τ:Nat → Option Nat}:∀ {us as:List AV},LEs τ us as → us.length = as.length ∧ ∀ (j:Nat) x y,us[j]? = some x → as[j]? = some y → LE τ x y
 | [],[],_=>⟨rfl,by simp⟩
 | u :: us,a :: as,h=>by
   obtain ⟨h1,h2⟩:=LEs.get (us:=us) (as:=as) h.2
   refine ⟨by simp [h1],fun j x y hx hy=>?_⟩
   cases j with
   | zero=>simp at hx hy; subst hx hy; exact h.1
   | succ j=>exact h2 j x y (by simpa using hx) (by simpa using hy)
 | [],_ :: _,h=>h.elim
 | _ :: _,[],h=>h.elim
section
variable {C:Cx} {ops:Array Oper} {Q:Qt} {ρ:Ro} {η:Eta} {rest:List Oper} {A:Code} {e:Exit} {x y:AV}
theorem OL.kn (t:Nat) (h:LE (ts []) x y) (k:OL C ops Q rest ((t,y) :: ρ) η) (hx:lk ρ t = some x:=by with_unfolding_all exact rfl):OL C ops Q rest ρ η:=
 fun a w hA=>k a w (hA.know hx fun m w γ v hr=>h m w γ γ (fun i j h=>by cases h) v hr)
theorem TX.kn (t:Nat) (h:LE (ts []) x y) (k:TX C Q e ((t,y) :: ρ) η) (hx:lk ρ t = some x:=by with_unfolding_all exact rfl):TX C Q e ρ η:=
 fun a w hA=>k a w (hA.know hx fun m w γ v hr=>h m w γ γ (fun i j h=>by cases h) v hr)
end
end Go.V
namespace Go.V
open Go Go.W Go.RowKit
def isLD:Obj → Bool
 | .loop _=>true
 | .deferred _=>true
 | _=>false
def StepOK (B0:Nat) (m:Nat → Nat) (w:World) (m':Nat → Nat) (w':World):Prop:=
 ∃ row,w.grownBy w' row ∧ (∀ r,row = some r → B0 ≤ r ∧ ∃ o,w.heap[r]? = some o ∧ isLD o = true) ∧ ∀ b,b < w.heap.size → m' b = m b
def Stays {β:Type} (B0:Nat) (J:β → (Nat → Nat) → World → Prop):Prop:=∀ s m w m' w',J s m w → StepOK B0 m w m' w' → J s m' w'
theorem Stays.le {β:Type} {B0 B1:Nat} {J:β → (Nat → Nat) → World → Prop} (h:Stays B0 J) (hb:B0 ≤ B1):Stays B1 J:=fun s m w m' w' hj ⟨row,h1,h2,h3⟩ =>
 h s m w m' w' hj ⟨row,h1,fun r e=>⟨Nat.le_trans hb (h2 r e).1,(h2 r e).2⟩,h3⟩
theorem StepOK.keep {B0 m w m' w'} (h:Keep m w m' w'):StepOK B0 m w m' w':=⟨none,h.grown,nofun,h.lim⟩
theorem StepOK.put {B0 m} {w:World} {l:Nat} {o o':Obj} (hl:w.heap[l]? = some o) (ho:isLD o = true) (hB:B0 ≤ l):StepOK B0 m w m (w.putObj l o'):=
 ⟨some l,grownBy_putObj' w l o',fun r e=>by cases e; exact ⟨hB,o,hl,ho⟩,fun _ _=>rfl⟩
theorem LD_cell {w:World} {b i c} (h:w.cell? ⟨b,i,none⟩ = some c) {o:Obj} (ho:w.heap[b]? = some o):isLD o = false:=by
 unfold World.cell? at h
 rw [ho] at h
 cases o<;>simp_all [isLD]
theorem StepOK.ext {B0 m w m' w'} (h:StepOK B0 m w m' w'):Ext m w m' w':=by
 obtain ⟨row,hg,hr,hm⟩:=h
 refine ⟨hg.size,fun b hb=>by rw [hm b hb]; exact Nat.le_refl _,fun b i c _ hc=>?_⟩
 have hlt:=lt_of_cell hc
 have hne:some b ≠ row:=fun e=>by
  obtain ⟨_,o,ho,hl⟩:=hr b e.symm
  rw [LD_cell hc ho] at hl; cases hl
 rw [World.cell?_of_block (w:=w) (hg.block b hlt hne)]; exact hc
def KeepL (E:Nat → Prop) (w w':World):Prop:=∀ b o,¬ E b → w.heap[b]? = some o → isLD o = true → w'.heap[b]? = some o
theorem KeepL.refl (E w):KeepL E w w:=fun _ _ _ h _=>h
theorem KeepL.trans {E a b c} (h:KeepL E a b) (k:KeepL E b c):KeepL E a c:=fun x o he ho hl=>k x o he (h x o he ho hl) hl
theorem KeepL.mono {E E':Nat → Prop} {a b} (h:KeepL E a b) (he:∀ x,E x → E' x):KeepL E' a b:=fun x o hx ho hl=>h x o (fun e=>hx (he x e)) ho hl
theorem KeepL.keep {E m w m' w'} (h:Keep m w m' w'):KeepL E w w':=fun b o _ ho _=>by rw [h.block (Array.getElem?_eq_some_iff.1 ho).1]; exact ho
theorem KeepL.put {E:Nat → Prop} {w:World} {l:Nat} {o':Obj} (h:E l):KeepL E w (w.putObj l o'):=fun b o hb ho _=>(World.putObj_heap_other (fun e=>hb (by rw [e]; exact h))).trans ho
def YieldV (P:Program) (l:Nat) (E:Nat → Prop) (vs:List Value) (m:Nat → Nat) (W:World) (K1 K0:(Nat → Nat) → World → Prop):Prop:=
 YieldAt Fence.wide 0 P l vs.toArray W fun e W'=>∃ m',Ext m W m' W' ∧ ((e = .returned (.bool true) ∧ KeepL (fun _=>False) W W' ∧ K1 m' W') ∨ (e = .returned (.bool false) ∧ KeepL E W W' ∧ K0 m' W'))
def SeqV (P:Program) (gf:Nat) (lb:Array Value) {α:Type} (as:α → List AV) (L:List α) (m0:Nat → Nat) (w0:World):Prop:=
 ∀ (l:Nat) (E:Nat → Prop) (J Jx:List α → (Nat → Nat) → World → Prop) (m:Nat → Nat) (W:World),Ext m0 w0 m W → E l → (∀ b,E b → b < W.heap.size) → Stays W.heap.size J → Stays W.heap.size Jx →
  (∀ pre x m1 W1 vs,J pre m1 W1 → (∃ r,pre ++ x :: r = L) → VL m1 W1 [] vs (as x) → YieldV P l E vs m1 W1 (J (pre ++ [x])) (Jx (pre ++ [x]))) →
  J [] m W →
  Calls P gf (#[.func (.yield l) #[] #[]] ++ lb) W fun e W'=>∃ v m',e = .returned v ∧ Ext m W m' W' ∧ (J L m' W' ∨ ∃ pre,Jx pre m' W')
theorem SeqV.later {P:Program} {gf:Nat} {lb:Array Value} {α:Type} {as:α → List AV} {L:List α} {m0 w0 m w} (h:SeqV P gf lb as L m0 w0) (he:Ext m0 w0 m w):SeqV P gf lb as L m w:=
 fun l E J Jx m1 W h1=>h l E J Jx m1 W (he.trans h1)
def SeqMP (P:Program) {α:Type} (as:α → List AV) (L:List α):MP where
 R m w v := ∃ gf lb fn, v = .func (.func gf) #[] lb ∧ P.funcs[gf]? = some fn ∧ (fn.body.isNone || fn.name == "runtime.NumGoroutine") = false ∧ SeqV P gf lb as L m w
 mono:=fun he ⟨gf,lb,fn,h1,h2,h3,h4⟩=>⟨gf,lb,fn,h1,h2,h3,h4.later he⟩
 one:=fun ⟨gf,lb,fn,h1,_⟩=>by subst h1; rfl
/-! ## The statement -/
def bodyQ {α:Type} (E:Nat → Prop) (I Ix:List α → (Nat → Nat) → World → Prop) (xs:List α) (m:Nat → Nat) (W:World):Exit → Act → World → Prop
 | .normal,_,W'=>∃ m',Ext m W m' W' ∧ KeepL (fun _=>False) W W' ∧ I xs m' W'
 | .ret,_,W'=>∃ m',Ext m W m' W' ∧ KeepL E W W' ∧ Ix xs m' W'
 | _,_,_=>False
abbrev markD (D:Nat):Deferred:={ target:=.collected D,args:=#[] }
set_option maxHeartbeats 1000000 in
theorem rangeV {P:Program} {α:Type} {as:α → List AV} {L:List α} {g:Operand} {t d T rid k:Nat} {pos:String} {af:Array Edge} {body:Code} {Q:Exit → Act → World → Prop} {a:Act} {w:World} {m:Nat → Nat} {gf:Nat} {lb:Array Value} {fn:Func}
  (hg : a.eval g = .func (.func gf) #[] lb) (hf : P.funcs[gf]? = some fn) (hb : (fn.body.isNone || fn.name == "runtime.NumGoroutine") = false) (hseq : SeqV P gf lb as L m w)
  (E0:Nat → Prop) (hE0:∀ b,E0 b → b < w.heap.size) (I Ix:List α → (Nat → Nat) → World → Prop) (hI:Stays w.heap.size I) (hIx:Stays w.heap.size Ix) (h0:I [] m w)
  (has:∀ x,(as x).length = 1)
  (hround:∀ l pre x m1 W1 v,w.heap.size ≤ l → I pre m1 W1 → (∃ r,pre ++ x :: r = L) → VL m1 W1 [] [v] (as x) → Ext m w m1 W1 →
   body.wpIn (WF (some l)) 0 P (bodyQ E0 I Ix (pre ++ [x]) m1 W1) (({ tmps:=a.tmps.setIfInBounds t v,defers:=[] }:Act).put (some d) (({ tmps:=a.tmps.setIfInBounds t v,defers:=[] }:Act).eval (.tmp t))) W1)
  (hdone:∀ m' W',Ext m w m' W' → I L m' W' → W'.heap[w.heap.size]? = some (.deferred (some [])) → Q .normal { a with defers:=markD w.heap.size :: a.defers } W')
  (hstop:∀ pre m' W',Ext m w m' W' → Ix pre m' W' → W'.heap[w.heap.size]? = some (.deferred (some [])) → Q .ret { a with defers:=markD w.heap.size :: a.defers } W') :
  (Code.rangeFunc g #[t] (.region rid #[⟨some d,.assign (.tmp t),T,pos,af,none⟩] false) body).wpIn Fence.wide k P Q a w:=by
 have hb':=hb
 simp at hb'
 have hbn:fn.body ≠ none:=Option.isSome_iff_ne_none.1 hb'.1
 have eg:∀ args w,(callFunc gf args).run P w = .ok (.enter gf args) w:=fun args w=>by simp [callFunc,hf,hb'.2,hbn]
 refine wpIn_rangeFunc ?_
 intro fn' hfn'
 have hround':(Fence.wide).round = none:=rfl
 rw [hround']
 obtain ⟨rec,hrec⟩:∃ rec:LoopState → Option Code → Loop,rec = fun st pe=>{ state:=st,pending:=pe,fn:=fn',tmps:=a.tmps,params:=#[t],assign:=(.region rid #[⟨some d,.assign (.tmp t),T,pos,af,none⟩] false),body,defers:=w.heap.size }:=⟨_,rfl⟩
 obtain ⟨W1,hW1⟩:∃ W1,(w.alloc (.deferred (some []))).alloc (.loop (rec .ready none)) = W1:=⟨_,rfl⟩
 have hL1:W1.heap[w.heap.size + 1]? = some (.loop (rec .ready none)):=by
  rw [← hW1]; have:=World.alloc_heap_new (w.alloc (.deferred (some []))) (.loop (rec .ready none)); rwa [World.size_alloc] at this
 have hK1:W1.heap[w.heap.size]? = some (.deferred (some [])):=by
  rw [← hW1]; exact (Below.heap_alloc _ _ _ (by simp)).trans (World.alloc_heap_new w _)
 have hz1:W1.heap.size = w.heap.size + 2:=by rw [← hW1]; simp
 have hkp:Keep m w m W1:=by
  rw [← hW1]
  exact ⟨⟨rfl,rfl,rfl,by simp; omega,fun b hb _=>((World.grownBy_alloc _ _ none).block b (by simp; omega) (by simp)).trans ((World.grownBy_alloc w _ none).block b hb (by simp))⟩,fun _ _=>rfl⟩
 obtain ⟨mS,hmS⟩:∃ mS,mS = m:=⟨_,rfl⟩
 have hI1:I [] m W1:=hI _ _ _ _ _ h0 (.keep hkp)
 refine ⟨w.heap.size + 1,[markD w.heap.size],W1,{ target:=.fn (.func gf) lb,args:=#[.func (.yield (w.heap.size + 1)) #[] #[]] },W1,gf,
  #[.func (.yield (w.heap.size + 1)) #[] #[]] ++ lb,W1,?_,?_,?_,?_,fun h=>(by cases h),callsIn_wide.2 ?_⟩
 ·rw [← hW1,hrec]; exact run_enterLoop_outer _ _ _ _ _
 ·simp only [resolve,hg]
  simp [go_sem]
 ·intro f' hf'; trivial
 ·simp [invoke,go_sem,eg]
 ·refine (hseq (w.heap.size + 1) (fun b=>E0 b ∨ b = w.heap.size + 1)
   (fun pre m W=>I pre m W ∧ Ext mS w m W ∧ W.heap[w.heap.size + 1]? = some (.loop (rec .ready none)) ∧ W.heap[w.heap.size]? = some (.deferred (some [])))
   (fun pre m W=>Ix pre m W ∧ Ext mS w m W ∧ W.heap[w.heap.size + 1]? = some (.loop (rec .done (some .ret))) ∧ W.heap[w.heap.size]? = some (.deferred (some [])))
   m W1 hkp.ext (.inr rfl) (fun b hb=>hb.elim (fun h=>by have:=hE0 b h; omega) (fun h=>by omega)) ?_ ?_ ?_ ⟨hI1,hmS ▸ hkp.ext,hL1,hK1⟩).mono ?_
  ·rintro pre m1 W m2 W' ⟨h1,h2,h3,h4⟩ hs
   refine ⟨(hI.le (by omega)) _ _ _ _ _ h1 hs,h2.trans hs.ext,?_,?_⟩
   all_goals
    obtain ⟨row,hgr,hr,_⟩:=hs
    first
    | exact (hgr.block _ (Array.getElem?_eq_some_iff.1 h3).1 (fun e=>by have:=(hr _ e.symm).1; omega)).trans h3
    | exact (hgr.block _ (Array.getElem?_eq_some_iff.1 h4).1 (fun e=>by have:=(hr _ e.symm).1; omega)).trans h4
  ·rintro pre m1 W m2 W' ⟨h1,h2,h3,h4⟩ hs
   refine ⟨(hIx.le (by omega)) _ _ _ _ _ h1 hs,h2.trans hs.ext,?_,?_⟩
   all_goals
    obtain ⟨row,hgr,hr,_⟩:=hs
    first
    | exact (hgr.block _ (Array.getElem?_eq_some_iff.1 h3).1 (fun e=>by have:=(hr _ e.symm).1; omega)).trans h3
    | exact (hgr.block _ (Array.getElem?_eq_some_iff.1 h4).1 (fun e=>by have:=(hr _ e.symm).1; omega)).trans h4
  ·-- one round
   rintro pre x m1 W vs ⟨hi,he,hl,hk⟩ hpre hv
   have hlt:w.heap.size + 1 < W.heap.size:=(Array.getElem?_eq_some_iff.1 hl).1
   obtain ⟨v,rfl⟩:∃ v,vs = [v]:=by
    have:=hv.len
    rw [has] at this
    match vs,this with
    | [v],_=>exact ⟨v,rfl⟩
   have hy:=run_yield (P:=P) (args:=#[v]) hl (by rw [hrec]; rfl)
   rw [hrec] at hy
   dsimp only at hy
   have ez:Array.foldl (fun (tmps:Array Value) (x:Tmp × Value)=>match x with | (t,a)=>tmps.setIfInBounds t a) a.tmps ((#[t]:Array Tmp).zip #[v]) = a.tmps.setIfInBounds t v:=by simp
   rw [ez] at hy
   refine ⟨fn',_,_,body,hy,roundIn_of_wpIn hfn' ?_⟩
   refine wpIn_region_lit (l:=[⟨some d,.assign (.tmp t),T,pos,af,none⟩]) ?_
   refine Go.W.i_lcons (r:=some (w.heap.size + 1)) (Go.W.wl_value (v:=_) (w':=W) rfl (by simp [execOp]; rfl) ?_)
   refine ⟨_,run_beginRound hl (by rw [hrec]),?_⟩
   have hl2:(W.putObj (w.heap.size + 1) (.loop { rec .ready none with state:=.busy })).heap[w.heap.size + 1]? = some (.loop { rec .ready none with state:=.busy }):=World.putObj_heap_same hlt
   have hk2:(W.putObj (w.heap.size + 1) (.loop { rec .ready none with state:=.busy })).heap[w.heap.size]? = some (.deferred (some [])):=(World.putObj_heap_other (by omega)).trans hk
   have hs2:StepOK w.heap.size m1 W m1 (W.putObj (w.heap.size + 1) (.loop { rec .ready none with state:=.busy })):=.put hl rfl (by omega)
   have hkl2:∀ b o,b ≠ w.heap.size + 1 → W.heap[b]? = some o → (W.putObj (w.heap.size + 1) (.loop { rec .ready none with state:=.busy })).heap[b]? = some o:=fun b o hb ho=>(World.putObj_heap_other hb).trans ho
   generalize hW2:W.putObj (w.heap.size + 1) (.loop { rec .ready none with state:=.busy }) = W2 at *
   have hv2:VL m1 W2 [] [v] (as x):=hv.mono hs2.ext (.refl _)
   refine wpIn_mono (hround (w.heap.size + 1) pre x m1 W2 v (by omega) (hI _ _ _ _ _ hi hs2) hpre hv2 (hmS ▸ he.trans hs2.ext)) ?_
   rintro e a3 W3 hp
   cases e with
   | normal =>
     obtain ⟨m3,he3,hkl3,hi3⟩:=hp
     have hl3:=hkl3 _ _ (fun h=>h) hl2 rfl
     have hk3:=hkl3 _ _ (fun h=>h) hk2 rfl
     have hr:(Instr.endRound (w.heap.size + 1) none).run P W3 = .ok (.bool true) (W3.putObj (w.heap.size + 1) (.loop (rec .ready none))):=by
      have:=run_endRound (P:=P) none hl3
      rw [hrec] at this ⊢
      exact this
     have hs3:StepOK w.heap.size m3 W3 m3 (W3.putObj (w.heap.size + 1) (.loop (rec .ready none))):=.put hl3 rfl (by omega)
     refine ⟨_,_,hr,m3,?_,.inl ⟨rfl,?_,hI _ _ _ _ _ hi3 hs3,(he.trans hs2.ext).trans (he3.trans hs3.ext),World.putObj_heap_same (Array.getElem?_eq_some_iff.1 hl3).1,(World.putObj_heap_other (by omega)).trans hk3⟩⟩
     ·exact hs2.ext.trans (he3.trans hs3.ext)
     ·intro b o _ ho hld
      by_cases hb:b = w.heap.size + 1
      ·subst hb
       rw [hl] at ho
       cases ho
       exact World.putObj_heap_same (Array.getElem?_eq_some_iff.1 hl3).1
      ·exact (World.putObj_heap_other hb).trans (hkl3 _ _ (fun h=>h) (hkl2 b o hb ho) hld)
   | ret =>
     obtain ⟨m3,he3,hkl3,hi3⟩:=hp
     have hl3:=hkl3 _ _ (fun h=>by have:=hE0 _ h; omega) hl2 rfl
     have hk3:=hkl3 _ _ (fun h=>by have:=hE0 _ h; omega) hk2 rfl
     have hr:(Instr.endRound (w.heap.size + 1) (some .ret)).run P W3 = .ok (.bool false) (W3.putObj (w.heap.size + 1) (.loop (rec .done (some .ret)))):=by
      have:=run_endRound (P:=P) (some .ret) hl3
      rw [hrec] at this ⊢
      exact this
     have hs3:StepOK w.heap.size m3 W3 m3 (W3.putObj (w.heap.size + 1) (.loop (rec .done (some .ret)))):=.put hl3 rfl (by omega)
     refine ⟨_,_,hr,m3,?_,.inr ⟨rfl,?_,hIx _ _ _ _ _ hi3 hs3,(he.trans hs2.ext).trans (he3.trans hs3.ext),World.putObj_heap_same (Array.getElem?_eq_some_iff.1 hl3).1,(World.putObj_heap_other (by omega)).trans hk3⟩⟩
     ·exact hs2.ext.trans (he3.trans hs3.ext)
     ·intro b o hb ho hld
      have hb1:¬ E0 b:=fun h=>hb (.inl h)
      have hb2:b ≠ w.heap.size + 1:=fun h=>hb (.inr h)
      exact (World.putObj_heap_other hb2).trans (hkl3 _ _ hb1 (hkl2 b o hb2 ho) hld)
   | _=>exact hp.elim
  ·-- behind the iterator
   rintro e W2 ⟨v,m2,rfl,he2,(⟨hi,he,hl,hk⟩ | ⟨pre,hi,he,hl,hk⟩)⟩
   ·have hr:=run_endLoop (P:=P) hl (by rw [hrec]; simp)
    have hs3:StepOK w.heap.size m2 W2 m2 (W2.putObj (w.heap.size + 1) (.loop { rec .ready none with state:=.exhausted })):=.put hl rfl (by omega)
    refine ⟨none,_,by rw [hrec] at hr ⊢; exact hr,hdone m2 _ (hmS ▸ he.trans hs3.ext) (hI _ _ _ _ _ hi hs3) ((World.putObj_heap_other (by omega)).trans hk)⟩
   ·have hr:=run_endLoop (P:=P) hl (by rw [hrec]; simp)
    have hs3:StepOK w.heap.size m2 W2 m2 (W2.putObj (w.heap.size + 1) (.loop { rec .done (some .ret) with state:=.exhausted })):=.put hl rfl (by omega)
    refine ⟨some .ret,_,by rw [hrec] at hr ⊢; exact hr,wpIn_ret (hstop pre m2 _ (hmS ▸ he.trans hs3.ext) (hIx _ _ _ _ _ hi hs3) ((World.putObj_heap_other (by omega)).trans hk))⟩
end Go.V
namespace Go.V
open Go Go.W Go.RowKit
theorem ObjOK.notLD {m w γ v o b} (h:ObjOK m w γ v o) (hb:blk o v = some b) {ob:Obj} (ho:w.heap[b]? = some ob):isLD ob = false:=by
 cases o with
 | cb T cs =>
   obtain ⟨b',vs,rfl,hB,hC⟩:=h
   cases hb
   rw [hB.heap] at ho; cases ho; rfl
 | gs fz T sz nl xs =>
   obtain ⟨h1,h2⟩:=h
   have key:∀ {C:CRel AV} {m},W.Own T sz C m w v xs → isLD ob = false:=by
    intro C m h
    rcases h with ⟨rfl,_⟩ | ⟨_,_,rfl,_⟩ | ⟨g,cap,cur,rfl,h0,hg,_⟩
    ·cases hb
    ·cases hb
    ·obtain ⟨c,rfl⟩:∃ c,cap = c + 1:=⟨cap - 1,by omega⟩
     cases hb
     rw [hg] at ho; cases ho; rfl
   cases fz with
   | true=>exact key h1
   | false=>obtain ⟨m1,h1,_⟩:=h1; exact key h1
 | mo es =>
   obtain ⟨b',l,rfl,h0,hM,_⟩:=h
   cases hb
   obtain ⟨es',clock,hM1,hM2⟩:=hM
   rw [hM1] at ho; cases ho; rfl
 | gw T sz nl xs =>
   obtain ⟨⟨m1,h,_⟩,h2⟩:=h
   rcases h with ⟨rfl,_⟩ | ⟨_,_,rfl,_⟩ | ⟨g,cap,cur,rfl,h0,hg,_⟩
   ·cases hb
   ·cases hb
   ·obtain ⟨c,rfl⟩:∃ c,cap = c + 1:=⟨cap - 1,by omega⟩
    cases hb
    rw [hg] at ho; cases ho; rfl
 | dead=>cases hb
theorem StepOK.far {B0 m w m' w'} (h:StepOK B0 m w m' w'):∃ S:List Nat,Far S m w m' w' ∧ ∀ b ∈ S,B0 ≤ b ∧ ∃ o,w.heap[b]? = some o ∧ isLD o = true:=by
 have he:=h.ext
 obtain ⟨row,hg,hr,hm⟩:=h
 refine ⟨row.toList,⟨hg.os,hg.tape,hg.output,hg.size,fun b hb hn=>hg.block b hb (fun e=>hn (by rw [← e]; simp)),fun b hb _=>hm b hb,he⟩,fun b hb=>hr b (by simpa using hb)⟩
theorem In.step {B m w γ η m' w'} (h:In B m w γ η) (hs:StepOK B.w.heap.size m w m' w'):In B m' w' γ η:=by
 obtain ⟨S,hf,hS⟩:=hs.far
 have hoff:∀ (i:Nat) v o,γ[i]? = some v → η[i]? = some o → ∀ b,blk o v = some b → b ∉ S:=fun i v o hv ho b hb hm=>by
  obtain ⟨_,ob,h1,h2⟩:=hS b hm
  rw [(h.heap.ok i v o hv ho).notLD hb h1] at h2; cases h2
 exact ⟨⟨h.heap.len,fun i v o a b=>(h.heap.ok i v o a b).far hf (hoff i v o a b) (.refl _),h.heap.apart⟩,h.far.trans hf (fun b hb=>.inr (hS b hb).1),h.own,h.pre⟩
theorem In.comp {B B' m w γ η} (h:In B' m w γ η) (hf:Far B.S B.m B.w B'.m B'.w) (ho:∀ b ∈ B'.S,b ∈ B.S ∨ B.w.heap.size ≤ b) (hp:Pre B.γ B'.γ):In B m w γ η:=
 ⟨h.heap,hf.trans h.far ho,fun i v o b hv hq hb=>(h.own i v o b hv hq hb).elim (fun e=>ho b e) (fun e=>.inr (Nat.le_trans hf.size e)),hp.trans h.pre⟩
theorem In.rebase {B m w γ η} (h:In B m w γ η) {γ0:List Value} (hp:Pre γ0 γ):In ⟨m,w,blks γ η,γ0⟩ m w γ η:=
 ⟨h.heap,.refl _ _ _,fun i v o _b h1 h2 h3=>.inl (mem_blks.2 ⟨i,v,o,h1,h2,h3⟩),hp⟩
theorem blks_own {B m w γ η} (h:In B m w γ η):∀ b ∈ blks γ η,b ∈ B.S ∨ B.w.heap.size ≤ b:=fun b hb=>by
 obtain ⟨i,v,o,h1,h2,h3⟩:=mem_blks.1 hb
 exact h.own i v o b h1 h2 h3
theorem blks_notLD {B m w γ η} (h:In B m w γ η):∀ b ∈ blks γ η,∀ ob,w.heap[b]? = some ob → isLD ob = false:=fun b hb ob ho=>by
 obtain ⟨i,v,o,h1,h2,h3⟩:=mem_blks.1 hb
 exact (h.heap.ok i v o h1 h2).notLD h3 ho
structure Marked (B B':Base) (D:Nat):Prop where
 far:Far B.S B.m B.w B'.m B'.w
 own:∀ b ∈ B'.S,b ∈ B.S ∨ B.w.heap.size ≤ b
 pre:Pre B.γ B'.γ
 mark:B'.w.heap[D]? = some (.deferred (some []))
 off:D ∉ B'.S
 le:B.w.heap.size ≤ D
def RQ (C:Cx) (η':Eta):Qt
 | .normal,a,w=>A2 C.N C.D C.B a w [] η'
 | _,_,_=>False
section
variable {C:Cx} {Q:Qt} {ρ ρ':Ro} {η η':Eta}
theorem TX.rq (σ:List Nat) (ho:SubO (ts σ) η σ η') (hn:nodB σ = true:=by with_unfolding_all exact rfl) (hp:preB C.n 0 σ = true:=by with_unfolding_all exact rfl):TX C (RQ C η') .normal ρ η:=fun _ _ hA=>hA.sel C.hn hn hp ho trivial
theorem Env.setT {N D a ρ t} {v:Value} (h:Env N D a ρ) (ht:t < N):Env N [] { tmps:=a.tmps.setIfInBounds t v,defers:=[] } ((t,v) :: ρ):=by
 have h0:Env N [] { tmps:=a.tmps,defers:=[] } ρ:=⟨h.size,rfl,h.look⟩
 have:=h0.put v ht
 simpa [Act.put] using this
set_option maxHeartbeats 1000000 in
theorem TC.rfV {P:Program} {α:Type} {as:α → List AV} {L:List α} {g:Operand} {t d T rid:Nat} {pos:String} {af:Array Edge} {body:Code} (u:α → AV) (ρ0:Ro) (ηs:List α → Eta) (n0:Nat) (σ:List Nat)
  (hx:ev2 ρ g = some (.pr (SeqMP P as L))) (hP:C.P = P) (hr:C.r = none) (has:∀ x,as x = [u x]) (hn:nodB σ = true) (hp:preB C.n 0 σ = true) (ho:SubO (ts σ) η σ (ηs [])) (hρ:SubR (ts σ) ρ ρ0) (hself:SubR (ts (List.range n0)) ρ0 ρ0)
  (hnn:C.n ≤ n0) (hn0:n0 ≤ (ηs []).length) (ht:Nat.blt t C.N = true) (hd:Nat.blt d C.N = true)
  (hround:∀ pre x (Bx:Base) (hB:Bx.γ.length = n0) l,(∃ r,pre ++ x :: r = L) → TC ⟨C.P,C.tab,C.hT,C.hm,C.N,[],Bx,n0,hB,some (some l),0⟩ (RQ ⟨C.P,C.tab,C.hT,C.hm,C.N,[],Bx,n0,hB,some (some l),0⟩ (ηs (pre ++ [x]))) body ((d,u x) :: (t,u x) :: ρ0) (ηs pre))
  (hdone:∀ (B':Base) (hB':B'.γ.length = C.n) D,Marked C.B B' D → TX ⟨C.P,C.tab,C.hT,C.hm,C.N,markD D :: C.D,B',C.n,hB',none,0⟩ Q .normal ρ0 (ηs L)) :
  TC C Q (.rangeFunc g #[t] (.region rid #[⟨some d,.assign (.tmp t),T,pos,af,none⟩] false) body) ρ η:=by
 rintro a w ⟨m,γ,ρc,hE,hR,hI⟩
 rw [Cx.W_none hr]
 obtain ⟨v,hv1,hv2⟩:=hR.ev hx
 obtain ⟨γ',hsh,hI'⟩:=hI.sel C.hn hn hp ho
 obtain ⟨ρc',hR',hsub⟩:=SubR.rl hsh hR hρ
 have hE':=hE.sel hsub
 have hg0:=hE.ev hv1
 cases hv2 with
 | pr hseq =>
 obtain ⟨gf,lb,fn,rfl,hf,hb,hseq⟩:=hseq
 subst hP
 have hl':=hI'.heap.len
 have hsh0:Sh2 (ts (List.range n0)) γ' (γ'.take n0):=by
  intro i j hij w' hw'
  obtain ⟨k,h1,h2⟩:=idx_spec (List.range n0) i 0 j hij
  have hk:k < n0:=by have:=(List.getElem?_eq_some_iff.1 h2).1; simpa using this
  rw [List.getElem?_range hk] at h2
  cases h2
  rw [h1,Nat.zero_add,List.getElem?_take,if_pos hk]
  exact hw'
 obtain ⟨ρc0,hR0,hsub0⟩:=SubR.rl hsh0 hR' hself
 have hE0:=hE'.sel hsub0
 have hpre0:Pre (γ'.take n0) γ':=fun i v h=>by
  rw [List.getElem?_take] at h
  split at h
  ·exact h
  ·cases h
 have hlen0:(γ'.take n0).length = n0:=by simp; omega
 have hIb:=hI'.rebase hpre0
 refine wpIn_wide.1 (rangeV (k:=0) hg0 hf hb hseq (fun _=>False) (fun _ h=>h.elim) (fun pre m1 W1=>∃ γ1,In ⟨m,w,blks γ' (ηs []),γ'.take n0⟩ m1 W1 γ1 (ηs pre)) (fun _ _ _=>False) ?_ ?_ ⟨γ',hIb⟩ ?_ ?_ ?_ ?_)
 ·rintro pre m1 W1 m2 W2 ⟨γ1,h1⟩ hs
  exact ⟨γ1,h1.step hs⟩
 ·rintro _ _ _ _ _ h _; exact h
 ·intro x; rw [has]; rfl
 ·rintro l pre x m1 W1 v hl ⟨γ1,h1⟩ hpre hv he
  rw [has] at hv
  have hrep:Rep m1 W1 γ1 v (u x):=hv.1.mono (.refl _ _) (fun i v h=>by simp at h)
  have hIx:=h1.rebase h1.pre
  have hEr:Env C.N [] (({ tmps:=a.tmps.setIfInBounds t v,defers:=[] }:Act).put (some d) (({ tmps:=a.tmps.setIfInBounds t v,defers:=[] }:Act).eval (.tmp t))) ((d,v) :: (t,v) :: ρc0):=by
   have h2:=Env.setT (v:=v) hE0 (by simpa using ht)
   have h3:({ tmps:=a.tmps.setIfInBounds t v,defers:=[] }:Act).eval (.tmp t) = v:=h2.ev (x:=.tmp t) (by simp [W.ev,W.look])
   rw [h3]
   exact h2.put v (by simpa using hd)
  have hb:=hround pre x ⟨m1,W1,blks γ1 (ηs pre),γ'.take n0⟩ hlen0 l hpre _ _ ⟨m1,γ1,_,hEr,⟨rfl,hrep,rfl,hrep,hR0.mono he h1.pre⟩,hIx⟩
  rw [Cx.W_some rfl] at hb
  refine wpIn_mono hb fun e a' W' hq=>?_
  cases e with
  | normal =>
    obtain ⟨m3,γ3,_,_,_,h3⟩:=hq
    refine ⟨m3,h3.far.ext,fun b o _ hbo hld=>?_,γ3,h3.comp h1.far (blks_own h1) (.refl _)⟩
    have hn:b ∉ blks γ1 (ηs pre):=fun hm=>by rw [blks_notLD h1 b hm o hbo] at hld; cases hld
    rw [h3.far.block b (Array.getElem?_eq_some_iff.1 hbo).1 hn]; exact hbo
  | _=>exact hq.elim
 ·rintro m' W' he ⟨γL,hL⟩ hD
  have hpc:Pre C.B.γ (γ'.take n0):=fun i v h=>by
   have hi:=(List.getElem?_eq_some_iff.1 h).1
   rw [C.hn] at hi
   rw [List.getElem?_take,if_pos (by omega)]
   exact hI'.pre i v h
  have hIL:=hL.rebase (hpc.trans hL.pre)
  have hM:Marked C.B ⟨m',W',blks γL (ηs L),C.B.γ⟩ w.heap.size:=by
   refine ⟨hI'.far.trans hL.far (blks_own hI'),fun b hb=>?_,.refl _,hD,fun hm=>?_,hI'.far.size⟩
   ·rcases blks_own hL b hb with h | h
    ·exact blks_own hI' b h
    ·exact .inr (Nat.le_trans hI'.far.size h)
   ·have:=blks_notLD hL _ hm _ hD; cases this
  exact hdone ⟨m',W',blks γL (ηs L),C.B.γ⟩ C.hn _ hM _ _ ⟨m',γL,ρc0,⟨hE0.size,by show _ :: a.defers = _; rw [hE0.defers],hE0.look⟩,hR0.mono he hL.pre,hIL⟩
 ·rintro _ _ _ _ h; exact h.elim
/-! ## Entry and return of a function that holds such a loop -/
theorem Spec.enterM {P:Program} {f:Nat} {fn:Func} {c:Code} {as:List AV} {r:AV} {tab:Tab} {N:Nat} (hT:TabOK P tab) (hm:P.follows .mixedOrders = true) (hf:P.funcs[f]? = some fn) (hb:fn.body = some c) (hN:fn.ntmps = N) (ha:Nat.ble as.length N = true)
  (h:∀ B (hB:B.γ.length = η.length),TC ⟨P,tab,hT,hm,N,[],B,η.length,hB,none,0⟩ (bodyPostM Fence.wide 0 P fn (PostB B r η')) c (zip2 0 as) η):Spec P f as η r η':=by
 intro m w γ vs hH hV
 refine W.enterM (N:=N) 0 (W.zipA 0 vs) hf hb hN (by simp) (by have:=hV.len; simp at ha; simp; omega) fun a hE=>?_
 have:=h (baseOf m w γ η) hH.len a w ⟨m,γ,_,hE,hV.zip 0,hH,.refl _ _ _,fun i v o b h1 h2 h3=>.inl (mem_blks.2 ⟨i,v,o,h1,h2,h3⟩),.refl _⟩
 rwa [Cx.W_none rfl] at this
theorem TX.endM {fn:Func} {R k} (h:TX C (bodyPostM Fence.wide k C.P fn R) .ret ρ η):TX C (bodyPostM Fence.wide k C.P fn R) .normal ρ η:=fun a w hA=>h a w hA
end
end Go.V
