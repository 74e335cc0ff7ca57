/- Part 1 of what the claim is proved by: lemmas on the model and walks through functions of the program; no conditions. -/
import Derived.Test.YthoblhbdeamjmaaV10
/- Level 2: arrays of bools in a variable, at places that the walk knows by a number. -/
namespace Go.V
open Go Go.W
theorem OE.bools {τ T} {ab ab' : List Bool} (h : ab = ab') : OE τ (.cb T (ab.map V.bool)) (.cb T (ab'.map V.bool)) := by
  subst h
  refine OE.ren ?_
  simp only [renO, List.map_map]
  congr 1
section
variable {C : Cx} {ops : Array Oper} {Q : Qt} {ρ : Ro} {η η2 : Eta} {rest : List Oper} {T d X : Nat} {pos : String} {af : Array Edge} {x y : Operand}
theorem OL.idxB {i len E : Nat} {j : Int} (n : Nat) (hj : j = (n : Nat)) (hn : n < len) (k : OL C ops Q rest ((d, .bp i n) :: ρ) η) (hs : (C.tab X).map (·.sh) = some (.array len E) := by with_unfolding_all exact rfl) (hz : (C.tab E).map (·.size) = some 1 := by with_unfolding_all exact rfl)
    (hx : ev2 ρ x = some (.bp i 0) := by with_unfolding_all exact rfl) (hy : ev2 ρ y = some (.raw (.int .i64 j)) := by with_unfolding_all exact rfl) (hd : Nat.blt d C.N = true := by with_unfolding_all exact rfl) : OL C ops Q (⟨some d, .indexAddr X x y, T, pos, af, none⟩ :: rest) ρ η :=
  OL.give (give_idx_arr C.hT hs hz hx hy hj hn (u' := .bp i n) (by simp [ptrAdd])) hd k
theorem OL.ldB {i E n : Nat} {ab : List Bool} (hn : n < ab.length) (k : OL C ops Q rest ((d, V.bool (ab.getD n false)) :: ρ) η) (hs : (C.tab X).map (·.sh.agg) = some false := by with_unfolding_all exact rfl)
    (hx : ev2 ρ x = some (.bp i n) := by with_unfolding_all exact rfl) (ho : η[i]? = some (.cb E (ab.map V.bool)) := by with_unfolding_all exact rfl) (hd : Nat.blt d C.N = true := by with_unfolding_all exact rfl) : OL C ops Q (⟨some d, .load X x, T, pos, af, none⟩ :: rest) ρ η :=
  OL.give (give_load (cs := ab.map V.bool) (o := n) C.hT hs hx (by simp only [behind, ho]) (by rw [List.getElem?_map, List.getElem?_eq_getElem hn, List.getD_eq_getElem?_getD, List.getElem?_eq_getElem hn]; rfl)) hd k
theorem OL.stB {i E n : Nat} {ab : List Bool} {t : Bool} (hn : n < ab.length) (k : OL C ops Q rest ρ η2) (hs : (C.tab X).map (fun e => (e.sh.agg, e.size)) = some (false, 1) := by with_unfolding_all exact rfl)
    (hx : ev2 ρ x = some (.bp i n) := by with_unfolding_all exact rfl) (hy : ev2 ρ y = some (.raw (.bool t)) := by with_unfolding_all exact rfl) (ho : η[i]? = some (.cb E (ab.map V.bool)) := by with_unfolding_all exact rfl) (hη : η.set i (.cb E ((ab.set n t).map V.bool)) = η2 := by (try dsimp only [List.set]) <;> exact rfl) : OL C ops Q (⟨none, .store X x y, T, pos, af, none⟩ :: rest) ρ η :=
  OL.store (cs := ab.map V.bool) (o := n) (u := .raw (.bool t)) (u0 := V.bool ab[n]) k hs hx hy rfl rfl ho (by rw [List.getElem?_map, List.getElem?_eq_getElem hn]; rfl) (by rw [← List.map_set]; exact hη)
theorem OL.eqBl {Y : Nat} {a b : Bool} (hu : C.P.underlying X = some .bool) (k : OL C ops Q rest ((d, V.bool (a == b)) :: ρ) η) (hx : ev2 ρ x = some (.raw (.bool a)) := by with_unfolding_all exact rfl) (hy : ev2 ρ y = some (.raw (.bool b)) := by with_unfolding_all exact rfl) (hd : Nat.blt d C.N = true := by with_unfolding_all exact rfl) : OL C ops Q (⟨some d, .binOp .eql X x y Y, T, pos, af, none⟩ :: rest) ρ η :=
  OL.give (fun m w γ ρc a' hE hR hH => ⟨_, .raw rfl, fun _ _ _ _ _ _ => by simp [execOp, hE.ev (hR.raw hx), hE.ev (hR.raw hy), eqGuard, run_eql_bool, hu]⟩) hd k
end
/-! ### An operation whose guard's own operation was not run -/
def GU (ops : Array Oper) (ρ : Ro) (g : Option (Nat × Bool)) : Prop := ∃ j b oj dj, g = some (j, b) ∧ ops[j]? = some oj ∧ oj.dst = some dj ∧ lk ρ dj = some (.tp [])
theorem GU.wanted {ops : Array Oper} {m w γ ρc ρ a N D} {o : Oper} (hE : Env N D a ρc) (hR : RL m w γ ρc ρ) (h : GU ops ρ o.guard) : Region.wanted o (yielded ops a.tmps) = false := by
  obtain ⟨j, b, oj, dj, hg, h1, h2, h3⟩ := h
  obtain ⟨v, g1, g2⟩ := hR.look h3
  cases g2 with
  | @tp _ vs _ hl hr =>
    obtain rfl : vs = [] := List.length_eq_zero_iff.1 hl
    simp [Region.wanted, hg, yielded, h1, h2, hE.look _ _ g1]
section
variable {C : Cx} {M : Bool} {fi fuel : Nat} {l : List Oper} {Q : Qt} {listed : Array Bool} {ρ : Ro} {η : Eta} {d T : Nat} {pos : String} {af : Array Edge} {op : Op} {g : Option (Nat × Bool)}
theorem OD.un (i : Nat) (k : OD C M fi l.toArray Q fuel (listed.setIfInBounds i true) ((d, .tp []) :: ρ) η) (hi : l.toArray[i]? = some ⟨some d, op, T, pos, af, g⟩ := by with_unfolding_all exact rfl) (hb : takeB l.toArray listed fi i = true := by kernel_rfl) (hQ : NoPan Q := by with_unfolding_all exact fun _ _ _ _ _ h => h)
    (hg : GU l.toArray ρ g := by with_unfolding_all exact ⟨_, _, _, _, rfl, rfl, rfl, rfl⟩) (hd : Nat.blt d C.N = true := by with_unfolding_all exact rfl) : OD C M fi l.toArray Q (fuel + 1) listed ρ η :=
  OD.take (ρ' := (d, .tp []) :: ρ) (η' := η) (v := fun _ _ => undef) hi hb hQ rfl (fun a w ⟨m, γ, ρc, hE, hR, hI⟩ => ⟨.inr ⟨GU.wanted (o := ⟨some d, op, T, pos, af, g⟩) hE hR hg, rfl⟩, ⟨m, γ, (d, undef) :: ρc, hE.put undef (by simpa using hd), ⟨rfl, .tp (vs := []) rfl (by simp), hR⟩, hI⟩⟩) k
end
end Go.V
