/- Part 15 of what the claim is proved by: lemmas on the model and walks through functions of the program; no conditions. -/
import Derived.Test.YtmdpbfghjdljiaaGreatQ14
namespace Go.V
open Go Go.W
section
variable {C:Cx} {ops:Array Oper} {Q:Qt} {ρ ρ':Ro} {η η' η2:Eta} {rest:List Oper} {T d X Y:Nat} {pos:String} {af:Array Edge} {op:Op} {x y z:Operand} {A K:Code} {e:Exit}
end
/-! ### A variable is read for good, wherever it is named -/
def sb0 (i:Nat) (cs:List AV):AV→AV
 | .bp j o=>bif Nat.beq j i then .ep cs o else .bp j o
 | x=>x
def sbp (i:Nat) (cs:List AV):AV→AV
 | .bp j o=>bif Nat.beq j i then .ep cs o else .bp j o
 | .fn f a c=>.fn f (a.map (sb0 i cs)) (c.map (sb0 i cs))
 | x=>x
def sbr (i:Nat) (cs:List AV):Ro→Ro
 | []=>[]
 | (t,x)::r=>(t,sbp i cs x)::sbr i cs r
theorem sb0_rep {m w m' γ i cs b} {vs:List Value} (he:Ext m w m' w) (hb:γ[i]?=some (.pointer (some ⟨b,0,none⟩))) (hc:CellsAt m' w ⟨b,0,none⟩ vs) (hC:CL [] m' w vs cs) {v x} (h:Rep m w γ v x):Rep m' w γ v (sb0 i cs x):=by
 cases x with
 | bp j o =>
   simp only [sb0]
   cases hq:Nat.beq j i with
   | false=>exact h.mono he (.refl _)
   | true =>
     have:=Nat.eq_of_beq_eq_true hq
     subst this
     cases h with
     | bp h' =>
       rw [hb] at h'
       cases h'
       have:=Rep.ep (γ:=γ) (o:=o) hc hC.1 hC.2.1 hC.2.2
       simpa using this
 | _=>exact h.mono he (.refl _)
theorem sbp_rep {m w m' γ i cs b} {vs:List Value} (he:Ext m w m' w) (hb:γ[i]?=some (.pointer (some ⟨b,0,none⟩))) (hc:CellsAt m' w ⟨b,0,none⟩ vs) (hC:CL [] m' w vs cs) {v x} (h:Rep m w γ v x):Rep m' w γ v (sbp i cs x):=by
 cases x with
 | bp j o=>exact sb0_rep he hb hc hC h
 | fn f a c =>
   cases h with
   | @fn _ _ v1 v2 _ _ l1 l2 q1 q2 =>
   refine .fn (by simpa using l1) (by simpa using l2) (fun j v x h1 h2=>?_) (fun j v x h1 h2=>?_)
   ·rw [List.getElem?_map] at h2
    cases hq:a[j]? with
    | none=>rw [hq] at h2;cases h2
    | some y=>rw [hq] at h2;cases h2;exact sb0_rep he hb hc hC (q1 j v y h1 hq)
   ·rw [List.getElem?_map] at h2
    cases hq:c[j]? with
    | none=>rw [hq] at h2;cases h2
    | some y=>rw [hq] at h2;cases h2;exact sb0_rep he hb hc hC (q2 j v y h1 hq)
 | _=>exact h.mono he (.refl _)
section
variable {C:Cx} {ops:Array Oper} {Q:Qt} {ρ ρ2:Ro} {η η2:Eta} {rest:List Oper} {A:Code} {e:Exit}
theorem Wk.frzA {i E:Nat} {cs:List AV} (ho:η[i]?=some (.cb E cs)) (hp:cs.all pureA=true):Wk C ρ η (sbr i cs ρ) (η.set i .dead):=by
 rintro a w ⟨m,γ,ρc,hE,hR,hI⟩
 obtain ⟨v,hv,hok⟩:=hI.heap.get ho
 obtain ⟨b,vs,rfl,hB,hC⟩:=hok
 obtain ⟨hx1,hcell⟩:=hB.freeze
 have hT:=hB.frz
 have hC':CL [] _ w vs cs:=⟨hC.1,hC.2.1,fun j v c h1 h2=>(pureA_rep (hC.2.2 j v c h1 h2) (List.all_eq_true.1 hp c (List.mem_of_getElem? h2))).mono hx1 (.refl _)⟩
 have hall:∀ (ρc:List (Nat × Value)) (ρ:Ro),RL m w γ ρc ρ→RL (mset m b vs.length) w γ ρc (sbr i cs ρ):=by
  intro ρc
  induction ρc with
  | nil=>intro ρ h;cases ρ with|nil=>trivial|cons _ _=>exact h.elim
  | cons p ρc ih =>
    intro ρ h
    cases ρ with
    | nil=>exact h.elim
    | cons q ρ=>exact ⟨h.1,sbp_rep hx1 hv hcell hC' h.2.1,ih ρ h.2.2⟩
 exact ⟨_,γ,ρc,hE,hall ρc ρ hR,hI.put (o':=.dead) hv ho hT trivial (.inr rfl)⟩
theorem OL.frzA {E:Nat} {cs:List AV} (i:Nat) (k:OL C ops Q rest ρ2 η2) (ho:η[i]?=some (.cb E cs):=by with_unfolding_all exact rfl) (hp:cs.all pureA=true:=by with_unfolding_all exact rfl) (hρ:sbr i cs ρ=ρ2:=by (try dsimp only [sbr,sbp,sb0,List.map,Nat.beq,Nat.add_zero,Nat.zero_add,Nat.reduceAdd,cond_true,cond_false])<;>exact rfl) (hη:η.set i .dead=η2:=by (try dsimp only [List.set])<;>exact rfl):OL C ops Q rest ρ η:=by
 subst hρ hη;exact OL.wk (Wk.frzA ho hp) k
theorem TC.frzA {E:Nat} {cs:List AV} (i:Nat) (k:TC C Q A ρ2 η2) (ho:η[i]?=some (.cb E cs):=by with_unfolding_all exact rfl) (hp:cs.all pureA=true:=by with_unfolding_all exact rfl) (hρ:sbr i cs ρ=ρ2:=by (try dsimp only [sbr,sbp,sb0,List.map,Nat.beq,Nat.add_zero,Nat.zero_add,Nat.reduceAdd,cond_true,cond_false])<;>exact rfl) (hη:η.set i .dead=η2:=by (try dsimp only [List.set])<;>exact rfl):TC C Q A ρ η:=by
 subst hρ hη;exact TC.wk (Wk.frzA ho hp) k
end
end Go.V
