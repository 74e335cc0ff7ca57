/- Part 1 of what the claim is proved by: lemmas on the model and walks through functions of the program; no conditions. -/
import Derived.Test.YthoblhbdeamjmaaV8
import Derived.KernelRfl
/- Level 2: two pure operations that may come in either order. -/
namespace Go.V
open Go Go.W
theorem Wk.swap {C : Cx} {ρ : Ro} {η : Eta} {i j : Nat} {u v : AV} (hne : Nat.beq i j = false) : Wk C ((i, u) :: (j, v) :: ρ) η ((j, v) :: (i, u) :: ρ) η := by
  rintro a w ⟨m, γ, ρc, hE, hR, hI⟩
  match ρc, hR with
  | (i', u') :: (j', v') :: r, ⟨e1, h1, e2, h2, h3⟩ =>
    subst e1 e2
    refine ⟨m, γ, (j', v') :: (i', u') :: r, ⟨hE.size, hE.defers, fun t x hx => hE.look t x ?_⟩, ⟨rfl, h2, rfl, h1, h3⟩, hI⟩
    simp only [W.look] at hx ⊢
    cases h4 : Nat.beq i' t with
    | false => rw [h4] at hx; exact hx
    | true =>
      rw [h4] at hx
      have : Nat.beq j' t = false := by
        have := Nat.eq_of_beq_eq_true h4
        subst this
        cases h5 : Nat.beq j' i' with
        | false => rfl
        | true => rw [Nat.eq_of_beq_eq_true h5] at hne; simp at hne
      rw [this] at hx
      exact hx
section
variable {C : Cx} {Q : Qt} {ρ : Ro} {η : Eta} {Ti Tj di dj : Nat} {posi posj : String} {afi afj : Array Edge} {opi opj : Op} {vi vj : AV} {M : Bool} {fi fuel : Nat} {l : List Oper} {listed : Array Bool} {gi gj : Option (Nat × Bool)}
theorem OD.wk {ops : Array Oper} {ρ' : Ro} (h : Wk C ρ η ρ' η) (k : OD C M fi ops Q fuel listed ρ' η) : OD C M fi ops Q fuel listed ρ η := fun a w hA => k a w (h a w hA)
theorem OD.q2 (i j : Nat) (k : OD C M fi l.toArray Q fuel ((listed.setIfInBounds i true).setIfInBounds j true) ((dj, vj) :: (di, vi) :: ρ) η)
    (hi : l[i]? = some ⟨some di, opi, Ti, posi, afi, gi⟩ := by with_unfolding_all exact rfl) (hj : l[j]? = some ⟨some dj, opj, Tj, posj, afj, gj⟩ := by with_unfolding_all exact rfl)
    (hgi : GB l.toArray ρ gi true := by first | with_unfolding_all exact rfl | with_unfolding_all exact ⟨_, _, rfl, rfl, rfl⟩) (hgj : GB l.toArray ρ gj true := by first | with_unfolding_all exact rfl | with_unfolding_all exact ⟨_, _, rfl, rfl, rfl⟩)
    (hvi : Gives C.P C.N C.D opi ρ η vi := by exact gv) (hvj : Gives C.P C.N C.D opj ρ η vj := by exact gv)
    (hgi' : GB l.toArray ((dj, vj) :: ρ) gi true := by first | with_unfolding_all exact rfl | with_unfolding_all exact ⟨_, _, rfl, rfl, rfl⟩) (hgj' : GB l.toArray ((di, vi) :: ρ) gj true := by first | with_unfolding_all exact rfl | with_unfolding_all exact ⟨_, _, rfl, rfl, rfl⟩)
    (hvi' : Gives C.P C.N C.D opi ((dj, vj) :: ρ) η vi := by exact gv) (hvj' : Gives C.P C.N C.D opj ((di, vi) :: ρ) η vj := by exact gv)
    (hdi : Nat.blt di C.N = true := by with_unfolding_all exact rfl) (hdj : Nat.blt dj C.N = true := by with_unfolding_all exact rfl) (hne : Nat.beq di dj = false := by with_unfolding_all exact rfl) (hij : Nat.beq i j = false := by with_unfolding_all exact rfl)
    (hr : Region.ready .any l.toArray listed = [i, j] := by kernel_rfl) (hr1 : Region.ready .any l.toArray (listed.setIfInBounds i true) = [j] := by kernel_rfl) (hr2 : Region.ready .any l.toArray (listed.setIfInBounds j true) = [i] := by kernel_rfl) :
    OD C M fi l.toArray Q (fuel + 1 + 1) listed ρ η := by
  have hc : (listed.setIfInBounds i true).setIfInBounds j true = (listed.setIfInBounds j true).setIfInBounds i true := by
    refine Array.setIfInBounds_comm true true ?_
    intro e; subst e; simp at hij
  refine OD.n2 i j ?_ ?_ hr
  · exact NextBy.s (OD.n1 j (One.st hvj' hdj) k hj hgj' hr1) hi hgi hvi hdi
  · rw [hc] at k
    exact NextBy.s (OD.n1 i (One.st hvi' hdi) (OD.wk (Wk.swap hne) k) hi hgi' hr2) hj hgj hvj hdj
end
end Go.V
