/- Part 20 of what the claim is proved by: lemmas on the model and walks through functions of the program; no conditions. -/
import Derived.Test.YtmdpbfghjdljiaaGreatQ17
namespace Go.V
open Go Go.W
section
variable {C:Cx} {ρ:Ro} {η:Eta} {X:Nat}
theorem gvBuild {M:Bool} {fs pls:List (Nat × Nat)} {te:TyE} {parts:List (Nat × Operand)} {us zs cs0 cs:List AV} (ht:C.tab X = some te:=by with_unfolding_all exact rfl) (hsh:te.sh = .strct fs:=by with_unfolding_all exact rfl)
  (hl:evs2 ρ (parts.map (·.2)) = some us:=by with_unfolding_all exact rfl) (hz:rawL te.zero.cells.toList = some zs:=by with_unfolding_all exact rfl) (hp:placesL C.tab fs = some pls:=by with_unfolding_all exact rfl) (hf:fillA (fun i=>pls[i]?) zs ((parts.map (·.1)).zip us) = some cs0:=by with_unfolding_all exact rfl) (hc:cs0 = cs:=by (try dsimp only [putA,AV.cells])<;>exact rfl):
  Gives C.P C.N C.D (.build X parts.toArray) ρ η (.st cs) M:=fun m w γ ρc a hE hR hH=>by
 subst hc
 obtain ⟨vs,g1,g2⟩:=hR.evs hl
 obtain ⟨dd,hu,hd'⟩:=(C.hT X te ht).sh
 rw [hsh] at hd'
 obtain ⟨fields,rfl,hfs⟩:=hd'
 obtain ⟨inf,i1,i2,i3,i4,i5⟩:=(C.hT X te ht).info
 have hul:us.length = parts.length:=by
  have:=g2.len
  have e2:=congrArg List.length (hE.evs g1)
  simp at e2
  omega
 have hp2:((parts.map (·.1)).zip us).map (·.2) = us:=by rw [List.map_snd_zip]; simp; omega
 have hp1:((parts.map (·.1)).zip us).map (·.1) = parts.map (·.1):=by rw [List.map_fst_zip]; simp; omega
 subst hfs
 have hpl:=placesL_run C.hT _ _ hp
 obtain ⟨os,o1,o2⟩:=fillA_run (γ:=γ) (m:=m) (w:=w) _ vs zs cs0 te.zero.cells.toList (rawL_rep hz) (by rw [hp2]; exact g2) hf
 rw [hp1] at o1
 have hb:C.P.built X ((parts.map (·.1)).zip vs) = some os:=by
  unfold Program.built
  simp only [i1,hu,i4,hpl]
  simpa using o1
 refine ⟨.agg os,?_,fun {m' w'} _ _ _ _ _ _=>?_⟩
 ·have:Rep m w γ (.agg os.toList.toArray) (.st cs0):=.st o2.1 o2.2.1 o2.2.2
  simpa using this
 ·have he:((parts.map fun p=>(p.1,a.eval p.2))) = (parts.map (·.1)).zip vs:=by
   rw [← hE.evs g1]
   clear hp2 hp1 hf g1 g2 o1 hb hl hul
   induction parts with
   | nil=>rfl
   | cons p r ih=>simp [ih]
  rw [← he] at hb
  have hr:=run_build (P:=C.P) w' X (parts.map fun p=>(p.1,a.eval p.2)).toArray os hb
  simp only [execOp]
  have e2:(parts.toArray.map fun (x:Nat × Operand)=>(x.1,a.eval x.2)) = (parts.map fun p=>(p.1,a.eval p.2)).toArray:=by simp
  rw [e2]
  simp [hr]
end
end Go.V
namespace Go.V
open Go Go.W
section
variable {C:Cx} {ops:Array Oper} {Q:Qt} {ρ ρ':Ro} {η η' η2:Eta} {rest:List Oper} {T d X:Nat} {pos:String} {af:Array Edge} {y:Operand}
theorem One.app0 {k E sz bt:Nat} {ny} {ys:List AV}
  (hs:(C.tab X).map (·.sh) = some (.slice E)) (hz:(C.tab E).map (fun e=>(e.size,e.bytes)) = some (sz + 1,bt)) (hy:ev2 ρ y = some (.sl (sz + 1) ny ys))
  (hk:η.length + 1 = k) (hη:η ++ [.dead,.gs false E (sz + 1) none ys] = η2) (hd:Nat.blt d C.N = true) (hlen:ys.length ≤ 9223372036854775807) (hb:ys.length * bt ≤ 140737488355328) :
  ∀ a w K,A2 C.N C.D C.B a w ρ η → (∀ a' w',A2 C.N C.D C.B a' w' ((d,.hs k) :: ρ) η2 → K a' w') → OpK C.P ops Q ⟨some d,.call ⟨.builtin .append,#[.const (.slice none 0 0),y],#[X,X]⟩,T,pos,af,none⟩ K a w:=by
 rintro a w K ⟨m,γ,ρc,hE,hR,hI⟩ kk
 obtain ⟨u,g3,g4⟩:=hR.ev hy
 obtain ⟨r1,r2,r3⟩:=g4.rs
 have hl:=hI.heap.len
 have hI1:In C.B m w (γ ++ [.slice none 0 0]) (η ++ [.gs false E (sz + 1) (some true) []]):=hI.new (.refl _ _) ⟨⟨m,.nil,fun _ _=>rfl,fun b hb=>by simp [ownB] at hb⟩,⟨fun _=>rfl,nofun⟩,by simp⟩ (fun b hb=>by simp [blk,ownB] at hb)
 cases ht:C.tab X with
 | none=>rw [ht] at hs; cases hs
 | some te =>
   rw [ht] at hs
   simp at hs
   cases hte:C.tab E with
   | none=>rw [hte] at hz; cases hz
   | some tE =>
     rw [hte] at hz
     simp at hz
     obtain ⟨v',m',w',hrun,hext,⟨q1,q2,q3,rfl⟩,_,hin⟩:=run_append2 (ty:=T) (i:=η.length) (xs:=[]) hI1 ((C.hT X te ht).re hs) (C.hT E tE hte) hz.1 (by omega) (by rw [← hl]; exact get_last) get_last r1 r3 (by rw [List.length_nil,Nat.zero_add]; exact hlen) (by rw [hz.2,List.length_nil,Nat.zero_add]; exact hb)
     have hin:=hin none (NL.none _)
     have es:(η ++ [AO.gs false E (sz + 1) (some true) []]).set η.length .dead ++ [AO.gs false E (sz + 1) none ([] ++ ys)] = η ++ [.dead,.gs false E (sz + 1) none ys]:=by
      rw [List.set_append_right _ _ (Nat.le_refl _),Nat.sub_self,List.append_assoc]; rfl
     rw [es] at hin
     subst hη hk
     have hg:((γ ++ [.slice none 0 0]) ++ [.slice q1 q2 q3])[η.length + 1]? = some (.slice q1 q2 q3):=by
      have:(γ ++ [Value.slice none 0 0]).length = η.length + 1:=by rw [List.length_append,hl]; rfl
      rw [← this]; exact get_last
     refine wl_value (v:=.slice q1 q2 q3) (w':=w') rfl ?_ (kk _ _ ⟨m',_,_,hE.put _ (by simpa using hd),⟨rfl,.hs hg,hR.mono hext ((Pre.app γ [.slice none 0 0]).trans (.app _ _))⟩,hin⟩)
     have hc:a.eval (.const (.slice none 0 0)) = .slice none 0 0:=rfl
     simp [execOp,resolve,invoke,builtin,hc,hE.ev g3,hrun]
theorem OL.app0 {k E sz bt:Nat} {ny} {ys:List AV} (kk:OL C ops Q rest ((d,.hs k) :: ρ) η2)
  (hs:(C.tab X).map (·.sh) = some (.slice E):=by with_unfolding_all exact rfl) (hz:(C.tab E).map (fun e=>(e.size,e.bytes)) = some (sz + 1,bt):=by with_unfolding_all exact rfl) (hy:ev2 ρ y = some (.sl (sz + 1) ny ys):=by with_unfolding_all exact rfl)
  (hk:η.length + 1 = k:=by (try dsimp only [List.length])<;>exact rfl) (hη:η ++ [.dead,.gs false E (sz + 1) none ys] = η2:=by (try dsimp only [List.cons_append,List.nil_append,List.append_eq])<;>exact rfl) (hd:Nat.blt d C.N = true:=by with_unfolding_all exact rfl)
  (hlen:ys.length ≤ 9223372036854775807:=by (try simp only [List.length_map]); omega) (hb:ys.length * bt ≤ 140737488355328:=by (try simp only [List.length_map]); omega) :
  OL C ops Q (⟨some d,.call ⟨.builtin .append,#[.const (.slice none 0 0),y],#[X,X]⟩,T,pos,af,none⟩ :: rest) ρ η:=
 fun a w hA=>Cx.lcons (One.app0 hs hz hy hk hη hd hlen hb a w _ hA fun a' w' hA'=>kk a' w' hA')
end
end Go.V
namespace Go.V
open Go Go.W
section
variable {P:Program} (w:World)
structure EqD2 (P:Program) (t e e2:Nat) (k:IntKind):Prop where
 st:P.underlying t = some (.struct (P.fieldsOf t))
 held:P.stoodInHeld t = false
 fs : (P.fieldsOf t).toList.map (fun f => (f.name == "_", f.type, f.offset)) = [(false, e, 0), (false, e2, 1)]
 el:P.underlying e = some (.int k)
 el2:P.underlying e2 = some (.int k)
 gd:P.eqGuardType P.depth t = false
theorem eqD2 {t e e2:Nat} {k:IntKind} (h:EqD2 P t e e2 k) (a b c d:Int):(Op.equalIn 10000 t (.agg #[.int k a,.int k b]) (.agg #[.int k c,.int k d])).run P w = .ok (a == c && b == d) w:=by
 have hna:∀ w,(isAgg e).run P w = .ok false w:=fun w=>by simp [isAgg,run_underlying h.el]
 have hna2:∀ w,(isAgg e2).run P w = .ok false w:=fun w=>by simp [isAgg,run_underlying h.el2]
 rw [show (10000:Nat) = 9999 + 1 from rfl,run_equalIn_struct w 9999 t _ _ h.st h.held]
 have hf:=h.fs
 generalize (P.fieldsOf t).toList = fs at hf
 have hi':∀ w,∀ x y:Int,(Op.equalIn 9999 e (.int k x) (.int k y)).run P w = .ok (x == y) w:=fun w x y=>run_equalIn_int w 9998 e k k x y h.el
 have hi2':∀ w,∀ x y:Int,(Op.equalIn 9999 e2 (.int k x) (.int k y)).run P w = .ok (x == y) w:=fun w x y=>run_equalIn_int w 9998 e2 k k x y h.el2
 obtain ⟨f0,f1,rfl⟩:∃ f0 f1,fs = [f0,f1]:=by
  have hl:fs.length = 2:=by have:=congrArg List.length hf; simpa using this
  match fs,hl with
  | [f0,f1],_=>exact ⟨f0,f1,rfl⟩
 simp only [List.map_cons,List.map_nil,List.cons.injEq,Prod.mk.injEq,beq_eq_false_iff_ne,and_true] at hf
 obtain ⟨⟨n0,t0,o0⟩,n1,t1,o1⟩:=hf
 have p0:∀ w (a b:Int),(part e #[Value.int k a,.int k b] 0).run P w = .ok (.int k a) w:=fun w a b=>run_part1 w hna rfl
 have p1:∀ w (a b:Int),(part e2 #[Value.int k a,.int k b] 1).run P w = .ok (.int k b) w:=fun w a b=>run_part1 w hna2 rfl
 simp only [Op.eqFields,ne_eq,n0,n1,not_false_eq_true,if_true,Sem.run_bind,t0,t1,o0,o1,p0,Result.andThen_ok,hi']
 by_cases h1:a = c<;>by_cases h2:b = d<;>simp [h1,h2,p1,hi2']
end
section
variable {C:Cx} {ops:Array Oper} {Q:Qt} {ρ ρ':Ro} {η η' η2:Eta} {rest:List Oper} {T d X Y:Nat} {pos:String} {af:Array Edge} {op:Op} {x y z:Operand}
theorem OL.eqD2 {P:Program} {e e2:Nat} {k:IntKind} {a b a' b':Int} (h:EqD2 P X e e2 k) (kk:OL C ops Q rest ((d,bool (a == a' && b == b')) :: ρ) η) (hP:C.P = P:=by with_unfolding_all exact rfl)
  (hx:ev2 ρ x = some (.st [.raw (.int k a),.raw (.int k b)]):=by with_unfolding_all exact rfl) (hy:ev2 ρ y = some (.st [.raw (.int k a'),.raw (.int k b')]):=by with_unfolding_all exact rfl) (hd:Nat.blt d C.N = true:=by with_unfolding_all exact rfl) :
  OL C ops Q (⟨some d,.binOp .eql X x y Y,T,pos,af,none⟩ :: rest) ρ η:=by
 subst hP
 exact OL.give (give_eqn (ng:=false) (us:=[.int k a,.int k b]) (vs:=[.int k a',.int k b']) hx hy (fun w=>V.eqD2 w h a b a' b') h.gd) hd kk
theorem OL.neD2 {P:Program} {e e2:Nat} {k:IntKind} {a b a' b':Int} (h:EqD2 P X e e2 k) (kk:OL C ops Q rest ((d,bool (!(a == a' && b == b'))) :: ρ) η) (hP:C.P = P:=by with_unfolding_all exact rfl)
  (hx:ev2 ρ x = some (.st [.raw (.int k a),.raw (.int k b)]):=by with_unfolding_all exact rfl) (hy:ev2 ρ y = some (.st [.raw (.int k a'),.raw (.int k b')]):=by with_unfolding_all exact rfl) (hd:Nat.blt d C.N = true:=by with_unfolding_all exact rfl) :
  OL C ops Q (⟨some d,.binOp .neq X x y Y,T,pos,af,none⟩ :: rest) ρ η:=by
 subst hP
 exact OL.give (give_eqn (ng:=true) (us:=[.int k a,.int k b]) (vs:=[.int k a',.int k b']) hx hy (fun w=>V.eqD2 w h a b a' b') h.gd) hd kk
end
end Go.V
