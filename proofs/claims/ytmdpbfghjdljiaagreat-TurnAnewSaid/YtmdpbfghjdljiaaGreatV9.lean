/- Part 9 of what the claim is proved by: lemmas on the model and walks through functions of the program; no conditions. -/
import Derived.Test.YtmdpbfghjdljiaaGreatV8
import Derived.OrdersIn
import Derived.KernelRfl
namespace Go.V
open Go Go.W
def Cx.O (C : Cx) (ops : Array Oper) (Q : Qt) (i : Nat) (K : Act → World → Prop) : Act → World → Prop := match C.r with
  | none => wpOp C.P ops Q i K
  | some r => wpOpIn (WF r) C.k C.P ops Q i K
section
variable {C : Cx} {ops : Array Oper} {Q : Qt} {md : Region.Mode} {R : World → World → Prop} {S : World → Prop} {fi : Nat} {a : Act} {w : World} {K K' : Act → World → Prop} {i : Nat}
theorem Cx.O_none (h : C.r = none) : C.O = wpOp C.P := by funext ops Q i K; unfold Cx.O; rw [h]
theorem Cx.O_some {r} (h : C.r = some r) : C.O = wpOpIn (WF r) C.k C.P := by funext ops Q i K; unfold Cx.O; rw [h]
theorem Cx.O_mono (h : ∀ a w, K a w → K' a w) (hh : C.O ops Q i K a w) : C.O ops Q i K' a w := by
  cases hr : C.r with
  | none => rw [Cx.O_none hr] at hh ⊢; exact wpOp_mono h hh
  | some r => rw [Cx.O_some hr] at hh ⊢; exact wpOpIn_mono h hh
theorem Cx.O_yields {o : Oper} {v : Value} (hi : ops[i]? = some o) (hy : YieldsIf C.P ops S o v a) (hS : S w) (h : K (a.put o.dst v) w) : C.O ops Q i K a w := by
  cases hr : C.r with
  | none => rw [Cx.O_none hr]; exact hy.wpOp hi hS h
  | some r =>
    rw [Cx.O_some hr]
    unfold wpOpIn
    simp only [hi]
    rcases hy with ⟨hw, hv⟩ | ⟨hw, rfl⟩
    · simp only [hw, if_true]
      exact ⟨fun _ _ => trivial, by rw [Oper.semAt_plain _ _ _ (not_defer (hv w hS) (by simp)), hv w hS]; exact h⟩
    · simp only [hw, Bool.false_eq_true, if_false]; exact ⟨fun _ _ => trivial, h⟩
theorem Cx.O_put {j : Nat} {oi oj : Oper} {v : Value} (hj : ops[j]? = some oj) (hap : oi.apart ops oj = true)
    (hsi : ∀ cs b, oi.op ≠ .select cs b) (hsj : ∀ cs b, oj.op ≠ .select cs b) (hdj : ∀ c, oj.op ≠ .defer c)
    (hQ : ∀ c a w, Q (.panic c) (a.put oi.dst v) w → Q (.panic c) a w)
    (hy : YieldsIf C.P ops S oi v a) (h : C.O ops Q j K (a.put oi.dst v) w) :
    C.O ops Q j (fun a' w' => YieldsIf C.P ops S oi v a' ∧ K (a'.put oi.dst v) w') a w := by
  cases hr : C.r with
  | none => rw [Cx.O_none hr] at h ⊢; exact wpOp_putIf hj hap hsi hsj hQ hy h
  | some r =>
    rw [Cx.O_some hr] at h ⊢
    obtain ⟨h1, h2, h3⟩ := Oper.apart_spec hap
    have keep : ∀ (a : Act), YieldsIf C.P ops S oi v a → ∀ u, YieldsIf C.P ops S oi v (a.put oj.dst u) := fun a hy u =>
      hy.of_same (execOp_put oi hsi a oj.dst u h3) (wanted_put oi a oj.dst u h3)
    have keepD : ∀ d, YieldsIf C.P ops S oi v { a with defers := d :: a.defers } := fun d => hy.of_same rfl rfl
    unfold wpOpIn at *
    simp only [hj] at *
    rw [wanted_put oj a oi.dst v h1] at h
    split
    · rename_i hw
      simp only [hw, if_true] at h
      unfold Oper.wpIn at *
      refine ⟨fun _ _ => trivial, ?_⟩
      have h := h.2
      rw [Oper.semAt_plain _ _ _ hdj, execOp_put oj hsj a oi.dst v h1] at h
      rw [Oper.semAt_plain _ _ _ hdj]
      generalize (execOp a.eval oj).run C.P w = r at *
      cases r with
      | ok x w' =>
        cases x <;> simp only [Oper.uponIn] at h ⊢
        case value u => exact ⟨keep a hy u, by rw [← Act.put_comm a v u h2]; exact h⟩
        case skip => exact ⟨keep a hy _, by rw [← Act.put_comm a v undef h2]; exact h⟩
        case defer d =>
          refine ⟨keep _ (keepD d) _, ?_⟩
          rw [← Act.put_comm _ v undef h2, ← Act.put_defers]
          exact h
        case enter f args =>
          refine ⟨h.1, CallsIn.mono h.2 fun e w'' he => ?_⟩
          cases e with
          | returned u => exact ⟨keep a hy u, by rw [← Act.put_comm a v u h2]; exact he⟩
          | panicked c => exact hQ _ _ _ he
          | outgrown => exact he
        case row row args => exact ⟨h.1, RowsIn.mono h.2 fun u w'' he => ⟨keep a hy u, by rw [← Act.put_comm a v u h2]; exact he⟩⟩
        case round l f tmps assign body =>
          refine ⟨h.1, RoundIn.mono h.2 fun e w'' he => ?_⟩
          cases e with
          | returned u => exact ⟨keep a hy u, by rw [← Act.put_comm a v u h2]; exact he⟩
          | panicked c => exact hQ _ _ _ he
          | outgrown => exact he
      | halt x w' =>
        cases x <;> simp only [Oper.uponIn] at h ⊢
        case panic u => exact hQ _ _ _ h
    · rename_i hw
      simp only [hw] at h
      exact ⟨fun _ _ => trivial, keep a hy _, by rw [← Act.put_comm a v undef h2]; exact h.2⟩
def wpAnyR (C : Cx) (md : Region.Mode) (ops : Array Oper) (Q : Qt) (R : World → World → Prop) (fi : Nat) : Nat → Array Bool → Act → World → Prop
  | 0, listed, a, w => Region.ready md ops listed = [] ∧ Q .normal a w
  | fuel + 1, listed, a, w =>
    (Region.ready md ops listed = [] → Q .normal a w) ∧
    ∀ i ∈ Region.ready md ops listed, C.O ops Q i (fun a' w' => (fi ≤ i ∨ R w w') ∧ wpAnyR C md ops Q R fi fuel (listed.setIfInBounds i true) a' w') a w
theorem wpAny_of_R (hr : C.r = none) : ∀ (fuel : Nat) (listed : Array Bool) (a : Act) (w : World), wpAnyR C md ops Q R fi fuel listed a w → wpAny C.P md ops Q fuel listed a w
  | 0, _, _, _, h => h
  | fuel + 1, _, _, _, h => ⟨h.1, fun i hi => by
    have hh := h.2 i hi
    rw [Cx.O_none hr] at hh
    exact wpOp_mono (fun a' w' h' => wpAny_of_R hr fuel _ a' w' h'.2) hh⟩
theorem wpAnyIn_of_R {r} (hr : C.r = some r) : ∀ (fuel : Nat) (listed : Array Bool) (a : Act) (w : World), wpAnyR C md ops Q R fi fuel listed a w → wpAnyIn (WF r) C.k C.P md ops Q fuel listed a w
  | 0, _, _, _, h => h
  | fuel + 1, _, _, _, h => ⟨h.1, fun i hi => by
    have hh := h.2 i hi
    rw [Cx.O_some hr] at hh
    exact wpOpIn_mono (fun a' w' h' => wpAnyIn_of_R hr fuel _ a' w' h'.2) hh⟩
theorem YieldsIf.sub {P : Program} {S S' : World → Prop} {o : Oper} {v : Value} {a : Act} (h : YieldsIf P ops S o v a) (hs : ∀ w, S' w → S w) : YieldsIf P ops S' o v a :=
  h.imp (fun ⟨h1, h2⟩ => ⟨h1, fun w hw => h2 w (hs w hw)⟩) id
theorem wpAnyR_first (hrf : ∀ w, R w w) (htr : ∀ a b c, R a b → R b c → R a c) {i : Nat} {oi : Oper} {v : Value} (hi : ops[i]? = some oi) (hsel : ∀ (j : Nat) (o : Oper) cs b, ops[j]? = some o → o.op ≠ .select cs b)
    (hdf : ∀ (j : Nat) (o : Oper), ops[j]? = some o → ∀ c, o.op ≠ .defer c)
    (hQ : ∀ c a w, Q (.panic c) (a.put oi.dst v) w → Q (.panic c) a w) (n : Nat) :
    ∀ (fuel : Nat) (listed : Array Bool) (a : Act) (w : World), Closed md ops listed → (∀ j, fi ≤ j → j < ops.size → j ≠ i → listed.getD j true = true ∨ waits md ops i n j = true) →
      (∀ (j : Nat) oj, ops[j]? = some oj → j ≠ i → listed.getD j true = false → (∀ e ∈ oj.after, Region.binds md e = true → e.on ≠ i) → oi.apart ops oj = true) →
      i ∈ Region.ready md ops listed → YieldsIf C.P ops (R w) oi v a →
      wpAnyR C md ops Q R fi fuel (listed.setIfInBounds i true) (a.put oi.dst v) w → wpAnyR C md ops Q R fi (fuel + 1) listed a w := by
  intro fuel
  induction fuel with
  | zero =>
    intro listed a w _ _ _ hr hy H
    refine ⟨fun h => (by rw [h] at hr; cases hr), fun j hj => ?_⟩
    by_cases hji : j = i
    · subst hji; exact Cx.O_yields hi hy (hrf w) ⟨.inr (hrf w), H⟩
    · have := ready_mono hj hji
      rw [H.1] at this
      cases this
  | succ fuel ih =>
    intro listed a w hcl hfi hfree hr hy H
    refine ⟨fun h => (by rw [h] at hr; cases hr), fun j hj => ?_⟩
    by_cases hji : j = i
    · subst hji; exact Cx.O_yields hi hy (hrf w) ⟨.inr (hrf w), H⟩
    · have h1 := H.2 j (ready_mono hj hji)
      obtain ⟨hjun, oj, hoj, hall⟩ := mem_ready.1 hj
      have hnot : ∀ e ∈ oj.after, Region.binds md e = true → e.on ≠ i := fun e he hb heq => by
        have h1 := hall e he hb
        have h0 := (mem_ready.1 hr).1
        rw [heq] at h1
        rcases Nat.lt_or_ge i listed.size with h' | h'
        · simp [h'] at h0 h1; rw [h0] at h1; cases h1
        · simp [Array.getElem?_eq_none h'] at h1
      have hjfi : ¬ fi ≤ j := fun e => by
        have h0 := (mem_ready.1 hr).1
        rcases hfi j e (Array.getElem?_eq_some_iff.1 hoj).1 hji with h1 | h1
        · rw [h1] at hjun; cases hjun
        · have h2 := waits_ready hcl h1 hj
          rw [Array.getD_eq_getD_getElem?] at h0 h2
          cases hq : listed[i]? with
          | none => rw [hq] at h2; simp at h2
          | some b => rw [hq] at h0 h2; simp at h0 h2; rw [h0] at h2; cases h2
      have hfi' : ∀ k, fi ≤ k → k < ops.size → k ≠ i → (listed.setIfInBounds j true).getD k true = true ∨ waits md ops i n k = true := fun k h1 h2 h3 => by
        rcases hfi k h1 h2 h3 with h4 | h4
        · refine .inl ?_
          by_cases hjk : j = k
          · subst hjk; omega
          · rw [getD_set_ne true hjk]; exact h4
        · exact .inr h4
      have h2 := Cx.O_put hoj (hfree j oj hoj hji hjun hnot) (fun cs b => hsel i oi cs b hi) (fun cs b => hsel j oj cs b hoj) (hdf j oj hoj) hQ hy h1
      have hfree' : ∀ (k : Nat) ok, ops[k]? = some ok → k ≠ i → (listed.setIfInBounds j true).getD k true = false →
          (∀ e ∈ ok.after, Region.binds md e = true → e.on ≠ i) → oi.apart ops ok = true := fun k ok hk hki hun hno => by
        refine hfree k ok hk hki ?_ hno
        by_cases hjk : j = k
        · subst hjk; exact hjun
        · rw [getD_set_ne true hjk] at hun; exact hun
      refine Cx.O_mono (fun a' w' h3 => ?_) h2
      have hS' : R w w' := h3.2.1.resolve_left hjfi
      refine ⟨.inr hS', ih (listed.setIfInBounds j true) a' w' (hcl.set hj) hfi' hfree' (ready_mono hr (Ne.symm hji)) (YieldsIf.sub h3.1 fun w'' h => htr _ _ _ hS' h) ?_⟩
      rw [Array.setIfInBounds_comm _ _ hji]
      exact h3.2.2
end
def takeC (ops : Array Oper) (listed : Array Bool) (fi i : Nat) : Bool :=
  Region.noSelect ops && Region.free .any ops listed i && (Region.ready .any ops listed).contains i && closedB .any ops listed &&
    (ops.size ≤ fi || (List.range ops.size).all fun j => j < fi || j == i || listed.getD j true || waits .any ops i ops.size j) && noDefer ops
def RM (M : Bool) (w w' : World) : Prop := M = true → w.grownBy w' none
theorem RM.refl (M w) : RM M w w := fun _ => ⟨rfl, rfl, rfl, Nat.le_refl _, fun _ _ _ => rfl⟩
theorem RM.trans {M a b c} (h : RM M a b) (k : RM M b c) : RM M a c := fun e =>
  have h := h e; have k := k e
  ⟨k.os.trans h.os, k.tape.trans h.tape, k.output.trans h.output, Nat.le_trans h.size k.size, fun b hb hX => (k.block b (Nat.lt_of_lt_of_le hb h.size) hX).trans (h.block b hb hX)⟩
def OD (C : Cx) (M : Bool) (fi : Nat) (ops : Array Oper) (Q : Qt) (fuel : Nat) (listed : Array Bool) (ρ : Ro) (η : Eta) : Prop :=
  ∀ a w, A2 C.N C.D C.B a w ρ η → wpAnyR C .any ops Q (RM M) fi fuel listed a w
def GB (ops : Array Oper) (ρ : Ro) : Option (Nat × Bool) → Bool → Prop
  | none, t => t = true
  | some (j, b), t => ∃ oj dj, ops[j]? = some oj ∧ oj.dst = some dj ∧ lk ρ dj = some (.raw (.bool (bif t then b else !b)))
section
variable {C : Cx} {M : Bool} {fi fuel i n id : Nat} {l : List Oper} {ops : Array Oper} {Q : Qt} {listed : Array Bool} {ρ ρ' : Ro} {η η' : Eta} {d T : Nat} {pos : String} {af : Array Edge} {op : Op} {g : Option (Nat × Bool)} {u : AV}
theorem TC.draw (M : Bool) (fi n : Nat) (h : OD C M fi l.toArray Q n (Array.replicate n false) ρ η) (hn : Nat.beq l.length n = true := by with_unfolding_all exact rfl) : TC C Q (.region id l.toArray true) ρ η := by
  intro a w hA
  have hn : l.length = n := Nat.eq_of_beq_eq_true hn
  subst hn
  obtain ⟨m, γ, ρc, hE, hR, hI⟩ := hA
  have h := h a w.drew ⟨m, γ, ρc, hE, hR.mono (Keep.drew m w).ext (.refl _), hI.keep (.drew m w)⟩
  cases hr : C.r with
  | none => rw [Cx.W_none hr]; exact wp_region_any C.hm (wpAny_of_R hr _ _ _ _ h)
  | some r => rw [Cx.W_some hr]; exact wpIn_region_any C.hm (wpAnyIn_of_R hr _ _ _ _ h)
theorem GB.wanted {m w γ ρc ρ a N D} {o : Oper} (hE : Env N D a ρc) (hR : RL m w γ ρc ρ) {t} (h : GB ops ρ o.guard t) : Region.wanted o (yielded ops a.tmps) = t := by
  cases hg : o.guard with
  | none => rw [hg] at h; have h : t = true := h; subst h; simp [Region.wanted, hg]
  | some p =>
    obtain ⟨j, b⟩ := p
    rw [hg] at h
    obtain ⟨oj, dj, h1, h2, h3⟩ := h
    obtain ⟨v, g1, g2⟩ := hR.look h3
    rw [g2.raw_eq] at g1
    cases t <;> cases b <;> simp [Region.wanted, hg, yielded, h1, h2, hE.look _ _ g1]
theorem OD.take {oi : Oper} {v : Act → World → Value} (hi : ops[i]? = some oi) (hb : takeC ops listed fi i = true) (hQ : NoPan Q) (hd : oi.dst = some d)
    (hy : ∀ a w, A2 C.N C.D C.B a w ρ η → YieldsIf C.P ops (RM M w) oi (v a w) a ∧ A2 C.N C.D C.B (a.put (some d) (v a w)) w ρ' η')
    (k : OD C M fi ops Q fuel (listed.setIfInBounds i true) ρ' η') : OD C M fi ops Q (fuel + 1) listed ρ η := by
  intro a w hA
  simp only [takeC, Bool.and_eq_true, Bool.or_eq_true, decide_eq_true_eq, beq_iff_eq, List.all_eq_true, List.mem_range] at hb
  obtain ⟨⟨⟨⟨⟨h1, h2⟩, h3⟩, h4⟩, h5⟩, h6⟩ := hb
  have hw : ∀ j, fi ≤ j → j < ops.size → j ≠ i → listed.getD j true = true ∨ waits .any ops i ops.size j = true := by
    intro j a1 a2 a3
    rcases h5 with h5 | h5
    · omega
    · rcases h5 j a2 with ((h5 | h5) | h5) | h5
      · omega
      · exact absurd h5 a3
      · exact .inl h5
      · exact .inr h5
  obtain ⟨y1, y2⟩ := hy a w hA
  exact wpAnyR_first (fun w => RM.refl M w) (fun _ _ _ => RM.trans) hi (Region.noSelect_spec h1) (noDefer_spec h6) (by rw [hd]; exact fun c a w h => hQ c a w d _ h) ops.size fuel listed a w (closedB_spec h4) hw (Region.free_spec hi h2) (by simpa using h3) y1 (by rw [hd]; exact k _ _ y2)
theorem OD.give (hi : ops[i]? = some ⟨some d, op, T, pos, af, g⟩) (hb : takeC ops listed fi i = true) (hQ : NoPan Q) (hg : GB ops ρ g true) (h : Gives C.P C.N C.D op ρ η u M) (hd : Nat.blt d C.N = true)
    (k : OD C M fi ops Q fuel (listed.setIfInBounds i true) ((d, u) :: ρ) η) : OD C M fi ops Q (fuel + 1) listed ρ η := by
  have hex : ∀ a w, ∃ v, A2 C.N C.D C.B a w ρ η → YieldsIf C.P ops (RM M w) ⟨some d, op, T, pos, af, g⟩ v a ∧ A2 C.N C.D C.B (a.put (some d) v) w ((d, u) :: ρ) η := by
    intro a w
    by_cases hA : A2 C.N C.D C.B a w ρ η
    · obtain ⟨m, γ, ρc, hE, hR, hI⟩ := id hA
      obtain ⟨v, hv, hrun⟩ := h hE hR hI.heap
      exact ⟨v, fun _ => ⟨.inl ⟨GB.wanted (o := ⟨some d, op, T, pos, af, g⟩) hE hR hg, fun w' hw => hrun (m' := m) (fun e => ⟨hw e, fun _ _ => rfl⟩) d T pos af g⟩, m, γ, (d, v) :: ρc, hE.put v (by simpa using hd), ⟨rfl, hv, hR⟩, hI⟩⟩
    · exact ⟨undef, fun h => (hA h).elim⟩
  exact OD.take (v := fun a w => (hex a w).choose) hi hb hQ rfl (fun a w hA => (hex a w).choose_spec hA) k
theorem OD.off (hi : ops[i]? = some ⟨some d, op, T, pos, af, g⟩) (hb : takeC ops listed fi i = true) (hQ : NoPan Q) (hg : GB ops ρ g false) (hd : Nat.blt d C.N = true)
    (k : OD C M fi ops Q fuel (listed.setIfInBounds i true) ((d, .tp []) :: ρ) η) : OD C M fi ops Q (fuel + 1) listed ρ η :=
  OD.take (ρ' := (d, .tp []) :: ρ) (η' := η) (v := fun _ _ => undef) hi hb hQ rfl (fun a w ⟨m, γ, ρc, hE, hR, hI⟩ => ⟨.inr ⟨GB.wanted (o := ⟨some d, op, T, pos, af, g⟩) hE hR hg, rfl⟩, ⟨m, γ, (d, undef) :: ρc, hE.put undef (by simpa using hd), ⟨rfl, .tp (vs := []) rfl (by simp), hR⟩, hI⟩⟩) k
def QD (C : Cx) (M : Bool) (fi : Nat) (ops : Array Oper) (Q : Qt) (fuel : Nat) (listed : Array Bool) : Qt
  | .normal, a, w => wpAnyR C .any ops Q (RM M) fi fuel listed a w
  | e, a, w => Q e a w
theorem QD.wp {o : Oper} {K : Act → World → Prop} {a w} (h : o.wp C.P a w K (QD C M fi ops Q fuel listed)) : o.wp C.P a w K Q := by
  unfold Oper.wp at *
  generalize (execOp a.eval o).run C.P w = r at *
  cases r with
  | ok n w' => cases n <;> first | exact h | (exact Calls.mono h fun e w'' hh => by cases e <;> exact hh)
  | halt e w' => cases e <;> exact h
theorem QD.wpIn {o : Oper} {K : Act → World → Prop} {a w r n} (h : o.wpIn (WF r) n C.P a w K (QD C M fi ops Q fuel listed)) : o.wpIn (WF r) n C.P a w K Q := by
  unfold Oper.wpIn at *
  refine ⟨h.1, ?_⟩
  have h := h.2
  generalize (o.semAt (WF r).round a.eval).run C.P w = q at *
  cases q with
  | ok x w' =>
    cases x <;> simp only [Oper.uponIn] at h ⊢ <;> first
      | exact h
      | exact ⟨h.1, CallsIn.mono h.2 (fun e w'' he => by cases e <;> exact he)⟩
      | exact ⟨h.1, RoundIn.mono h.2 (fun e w'' he => by cases e <;> exact he)⟩
  | halt x w' => cases x <;> simp only [Oper.uponIn] at h ⊢ <;> exact h
theorem O_one {o : Oper} {o' : Oper} (hi : l[i]? = some o) (hg : GB l.toArray ρ o.guard true) (ho : o' = { o with guard := none }) (h : OneK C l.toArray Q o' ρ η ρ' η') {a w} (hA : A2 C.N C.D C.B a w ρ η)
    (k : OD C M fi l.toArray Q fuel listed ρ' η') : C.O l.toArray Q i (fun a' w' => (fi ≤ i ∨ RM M w w') ∧ wpAnyR C .any l.toArray Q (RM M) fi fuel listed a' w') a w := by
  obtain ⟨m, γ, ρc, hE, hR, hI⟩ := id hA
  have hw := GB.wanted (o := o) hE hR hg
  have h0 := h a w (fun a' w' => (fi ≤ i ∨ RM M w w') ∧ wpAnyR C .any l.toArray Q (RM M) fi fuel listed a' w') hA (fun a' w' hgr hA' => ⟨.inr fun _ => hgr, k a' w' hA'⟩)
  subst ho
  cases hr : C.r with
  | none =>
    rw [Cx.O_none hr]
    unfold wpOp
    simp only [List.getElem?_toArray, hi]
    have h1 := h0.wp (Q := Q)
    rw [if_pos (by simp [Region.wanted])] at h1
    rw [if_pos hw]
    exact h1
  | some r =>
    rw [Cx.O_some hr]
    unfold wpOpIn
    simp only [List.getElem?_toArray, hi]
    unfold OpK at h0
    rw [if_pos (by simp [Region.wanted])] at h0
    rw [if_pos hw]
    exact h0.wpIn
theorem O_any {o : Oper} {o' : Oper} (hi : l[i]? = some o) (hg : GB l.toArray ρ o.guard true) (ho : o' = { o with guard := none }) (hM : fi ≤ i ∨ M = false) (h : OL C l.toArray (QD C M fi l.toArray Q fuel listed) [o'] ρ η) {a w} (hA : A2 C.N C.D C.B a w ρ η) :
    C.O l.toArray Q i (fun a' w' => (fi ≤ i ∨ RM M w w') ∧ wpAnyR C .any l.toArray Q (RM M) fi fuel listed a' w') a w := by
  obtain ⟨m, γ, ρc, hE, hR, hI⟩ := id hA
  have hw := GB.wanted (o := o) hE hR hg
  have h1 := h a w hA
  have hM' : ∀ w', fi ≤ i ∨ RM M w w' := fun w' => hM.imp id (fun e h => by rw [e] at h; cases h)
  subst ho
  cases hr : C.r with
  | none =>
    rw [Cx.O_none hr]
    rw [Cx.L_none hr] at h1
    unfold wpOp
    simp only [List.getElem?_toArray, hi]
    unfold wpList at h1
    rw [if_pos (by simp [Region.wanted])] at h1
    rw [if_pos hw]
    rcases h1 with h2 | h2
    · exact .inl (Oper.wp_mono (Q := Q) (fun a' w' h => ⟨hM' w', h⟩) (QD.wp h2))
    · exact .inr h2
  | some r =>
    rw [Cx.O_some hr]
    rw [Cx.L_some hr] at h1
    unfold wpOpIn
    simp only [List.getElem?_toArray, hi]
    unfold wpListIn at h1
    rw [if_pos (by simp [Region.wanted])] at h1
    rw [if_pos hw]
    exact Oper.wpIn_mono (Q := Q) (fun a' w' h => ⟨hM' w', h⟩) (QD.wpIn h1)
theorem TX.od (h : OD C M fi ops Q fuel listed ρ η) : TX C (QD C M fi ops Q fuel listed) .normal ρ η := h
/-! ### The next one: just one may come, or one of two -/
def NextBy (C : Cx) (M : Bool) (fi : Nat) (l : List Oper) (Q : Qt) (fuel : Nat) (listed : Array Bool) (ρ : Ro) (η : Eta) (i : Nat) : Prop :=
  ∀ a w, A2 C.N C.D C.B a w ρ η → C.O l.toArray Q i (fun a' w' => (fi ≤ i ∨ RM M w w') ∧ wpAnyR C .any l.toArray Q (RM M) fi fuel (listed.setIfInBounds i true) a' w') a w
theorem OD.next1 (hr : Region.ready .any l.toArray listed = [i]) (h : NextBy C M fi l Q fuel listed ρ η i) : OD C M fi l.toArray Q (fuel + 1) listed ρ η := fun a w hA =>
  ⟨fun h => (by rw [hr] at h; cases h), fun j hj => by
    rw [hr] at hj
    obtain rfl : j = i := by simpa using hj
    exact h a w hA⟩
theorem OD.next2 {j : Nat} (hr : Region.ready .any l.toArray listed = [i, j]) (h : NextBy C M fi l Q fuel listed ρ η i) (h' : NextBy C M fi l Q fuel listed ρ η j) : OD C M fi l.toArray Q (fuel + 1) listed ρ η := fun a w hA =>
  ⟨fun h => (by rw [hr] at h; cases h), fun k hk => by
    rw [hr] at hk
    rcases List.mem_cons.1 hk with rfl | hk
    · exact h a w hA
    · obtain rfl : k = j := by simpa using hk
      exact h' a w hA⟩
theorem OD.next3 {j k : Nat} (hr : Region.ready .any l.toArray listed = [i, j, k]) (h : NextBy C M fi l Q fuel listed ρ η i) (h' : NextBy C M fi l Q fuel listed ρ η j) (h'' : NextBy C M fi l Q fuel listed ρ η k) : OD C M fi l.toArray Q (fuel + 1) listed ρ η := fun a w hA =>
  ⟨fun h => (by rw [hr] at h; cases h), fun q hq => by
    rw [hr] at hq
    rcases List.mem_cons.1 hq with rfl | hq
    · exact h a w hA
    · rcases List.mem_cons.1 hq with rfl | hq
      · exact h' a w hA
      · obtain rfl : q = k := by simpa using hq
        exact h'' a w hA⟩
theorem OD.done (hr : Region.ready .any ops listed = []) (h : TX C Q .normal ρ η) : OD C M fi ops Q fuel listed ρ η := fun a w hA => by
  cases fuel with
  | zero => exact ⟨hr, h a w hA⟩
  | succ n => exact ⟨fun _ => h a w hA, by rw [hr]; simp⟩
theorem NextBy.one {o o' : Oper} (h : OneK C l.toArray Q o' ρ η ρ' η') (k : OD C M fi l.toArray Q fuel (listed.setIfInBounds i true) ρ' η') (hi : l[i]? = some o) (hg : GB l.toArray ρ o.guard true) (ho : o' = { o with guard := none }) : NextBy C M fi l Q fuel listed ρ η i :=
  fun _ _ hA => O_one hi hg ho h hA k
theorem NextBy.any {o o' : Oper} (h : OL C l.toArray (QD C M fi l.toArray Q fuel (listed.setIfInBounds i true)) [o'] ρ η) (hM : fi ≤ i ∨ M = false) (hi : l[i]? = some o) (hg : GB l.toArray ρ o.guard true) (ho : o' = { o with guard := none }) : NextBy C M fi l Q fuel listed ρ η i :=
  fun _ _ hA => O_any hi hg ho hM h hA
theorem NextBy.off {o : Oper} (k : OD C M fi l.toArray Q fuel (listed.setIfInBounds i true) ((d, .tp []) :: ρ) η) (hi : l[i]? = some o) (hg : GB l.toArray ρ o.guard false) (hd : o.dst = some d) (hN : Nat.blt d C.N = true) : NextBy C M fi l Q fuel listed ρ η i := by
  intro a w hA
  obtain ⟨m, γ, ρc, hE, hR, hI⟩ := id hA
  have hw := GB.wanted (o := o) hE hR hg
  refine Cx.O_yields (S := fun _ => True) (v := undef) (by simpa using hi) (.inr ⟨hw, rfl⟩) trivial ⟨.inr (RM.refl M w), k _ _ ⟨m, γ, (d, undef) :: ρc, ?_, ⟨rfl, .tp (vs := []) rfl (by simp), hR⟩, hI⟩⟩
  rw [hd]
  exact hE.put undef (by simpa using hN)
theorem OD.split (t : Bool) (h1 : t = true → OD C M fi ops Q fuel listed ρ η) (h2 : t = false → OD C M fi ops Q fuel listed ρ η) : OD C M fi ops Q fuel listed ρ η := by
  cases t with
  | true => exact h1 rfl
  | false => exact h2 rfl
end
end Go.V
namespace Go.V
open Go Go.W
section
variable {C : Cx} {M : Bool} {fi fuel n id : Nat} {l : List Oper} {Q : Qt} {listed : Array Bool} {ρ ρ' : Ro} {η η' : Eta} {d T : Nat} {pos : String} {af : Array Edge} {op : Op} {g : Option (Nat × Bool)} {u : AV}
theorem OD.st (i : Nat) (k : OD C M fi l.toArray Q fuel (listed.setIfInBounds i true) ((d, u) :: ρ) η) (hi : l.toArray[i]? = some ⟨some d, op, T, pos, af, g⟩ := by with_unfolding_all exact rfl) (hb : takeC l.toArray listed fi i = true := by kernel_rfl) (hQ : NoPan Q := by with_unfolding_all exact fun _ _ _ _ _ h => h)
    (hg : GB l.toArray ρ g true := by first | with_unfolding_all exact rfl | with_unfolding_all exact ⟨_, _, rfl, rfl, rfl⟩) (h : Gives C.P C.N C.D op ρ η u M := by exact gv) (hd : Nat.blt d C.N = true := by with_unfolding_all exact rfl) : OD C M fi l.toArray Q (fuel + 1) listed ρ η :=
  OD.give hi hb hQ hg h hd k
theorem OD.of (i : Nat) (k : OD C M fi l.toArray Q fuel (listed.setIfInBounds i true) ((d, .tp []) :: ρ) η) (hi : l.toArray[i]? = some ⟨some d, op, T, pos, af, g⟩ := by with_unfolding_all exact rfl) (hb : takeC l.toArray listed fi i = true := by kernel_rfl) (hQ : NoPan Q := by with_unfolding_all exact fun _ _ _ _ _ h => h)
    (hg : GB l.toArray ρ g false := by with_unfolding_all exact ⟨_, _, rfl, rfl, rfl⟩) (hd : Nat.blt d C.N = true := by with_unfolding_all exact rfl) : OD C M fi l.toArray Q (fuel + 1) listed ρ η :=
  OD.off hi hb hQ hg hd k
theorem OD.sD (t : Nat) {p : Prop} [Decidable p] {ops : Array Oper} (h1 : p → OD C M fi ops Q fuel listed ((t, bool true) :: ρ) η) (h2 : ¬p → OD C M fi ops Q fuel listed ((t, bool false) :: ρ) η) (hl : lk ρ t = some (.raw (.bool (decide p))) := by with_unfolding_all exact rfl) : OD C M fi ops Q fuel listed ρ η := by
  intro a w hA
  by_cases h : p
  · exact h1 h a w (hA.know hl fun m w γ v hr => by simpa [h] using hr)
  · exact h2 h a w (hA.know hl fun m w γ v hr => by simpa [h] using hr)
theorem OD.sB (t : Nat) {b : Bool} {ops : Array Oper} (h1 : b = true → OD C M fi ops Q fuel listed ((t, bool true) :: ρ) η) (h2 : b = false → OD C M fi ops Q fuel listed ((t, bool false) :: ρ) η) (hl : lk ρ t = some (.raw (.bool b)) := by with_unfolding_all exact rfl) : OD C M fi ops Q fuel listed ρ η := by
  intro a w hA
  cases b with
  | true => exact h1 rfl a w (hA.know hl fun _ _ _ _ h => h)
  | false => exact h2 rfl a w (hA.know hl fun _ _ _ _ h => h)
theorem OD.n1 {dst : Option Tmp} (i : Nat) (h : OneK C l.toArray Q ⟨dst, op, T, pos, af, none⟩ ρ η ρ' η') (k : OD C M fi l.toArray Q fuel (listed.setIfInBounds i true) ρ' η') (hi : l[i]? = some ⟨dst, op, T, pos, af, g⟩ := by with_unfolding_all exact rfl) (hg : GB l.toArray ρ g true := by first | with_unfolding_all exact rfl | with_unfolding_all exact ⟨_, _, rfl, rfl, rfl⟩) (hr : Region.ready .any l.toArray listed = [i] := by kernel_rfl) : OD C M fi l.toArray Q (fuel + 1) listed ρ η :=
  OD.next1 hr (.one h k hi hg rfl)
theorem OD.a1 {dst : Option Tmp} (i : Nat) (k : OL C l.toArray (QD C M fi l.toArray Q fuel (listed.setIfInBounds i true)) [⟨dst, op, T, pos, af, none⟩] ρ η) (hi : l[i]? = some ⟨dst, op, T, pos, af, g⟩ := by with_unfolding_all exact rfl) (hg : GB l.toArray ρ g true := by first | with_unfolding_all exact rfl | with_unfolding_all exact ⟨_, _, rfl, rfl, rfl⟩) (hM : fi ≤ i ∨ M = false := by first | exact .inl (Nat.le_of_ble_eq_true rfl) | exact .inr rfl) (hr : Region.ready .any l.toArray listed = [i] := by kernel_rfl) : OD C M fi l.toArray Q (fuel + 1) listed ρ η :=
  OD.next1 hr (.any k hM hi hg rfl)
theorem OD.dn {ops : Array Oper} (h : TX C Q .normal ρ η) (hr : Region.ready .any ops listed = [] := by kernel_rfl) : OD C M fi ops Q fuel listed ρ η := OD.done hr h
theorem OD.n2 (i j : Nat) (h : NextBy C M fi l Q fuel listed ρ η i) (h' : NextBy C M fi l Q fuel listed ρ η j) (hr : Region.ready .any l.toArray listed = [i, j] := by kernel_rfl) : OD C M fi l.toArray Q (fuel + 1) listed ρ η := OD.next2 hr h h'
theorem OD.n3 (i j k : Nat) (h : NextBy C M fi l Q fuel listed ρ η i) (h' : NextBy C M fi l Q fuel listed ρ η j) (h'' : NextBy C M fi l Q fuel listed ρ η k) (hr : Region.ready .any l.toArray listed = [i, j, k] := by kernel_rfl) : OD C M fi l.toArray Q (fuel + 1) listed ρ η := OD.next3 hr h h' h''
theorem NextBy.o {dst : Option Tmp} {i : Nat} (h : OneK C l.toArray Q ⟨dst, op, T, pos, af, none⟩ ρ η ρ' η') (k : OD C M fi l.toArray Q fuel (listed.setIfInBounds i true) ρ' η') (hi : l[i]? = some ⟨dst, op, T, pos, af, g⟩ := by with_unfolding_all exact rfl) (hg : GB l.toArray ρ g true := by first | with_unfolding_all exact rfl | with_unfolding_all exact ⟨_, _, rfl, rfl, rfl⟩) : NextBy C M fi l Q fuel listed ρ η i := .one h k hi hg rfl
theorem NextBy.a {dst : Option Tmp} {i : Nat} (k : OL C l.toArray (QD C M fi l.toArray Q fuel (listed.setIfInBounds i true)) [⟨dst, op, T, pos, af, none⟩] ρ η) (hi : l[i]? = some ⟨dst, op, T, pos, af, g⟩ := by with_unfolding_all exact rfl) (hg : GB l.toArray ρ g true := by first | with_unfolding_all exact rfl | with_unfolding_all exact ⟨_, _, rfl, rfl, rfl⟩) (hM : fi ≤ i ∨ M = false := by first | exact .inl (Nat.le_of_ble_eq_true rfl) | exact .inr rfl) : NextBy C M fi l Q fuel listed ρ η i := .any k hM hi hg rfl
theorem NextBy.f {i : Nat} (k : OD C M fi l.toArray Q fuel (listed.setIfInBounds i true) ((d, .tp []) :: ρ) η) (hi : l[i]? = some ⟨some d, op, T, pos, af, g⟩ := by with_unfolding_all exact rfl) (hg : GB l.toArray ρ g false := by with_unfolding_all exact ⟨_, _, rfl, rfl, rfl⟩) (hN : Nat.blt d C.N = true := by with_unfolding_all exact rfl) : NextBy C M fi l Q fuel listed ρ η i := .off k hi hg rfl hN
theorem One.st {ops : Array Oper} (h : Gives C.P C.N C.D op ρ η u := by exact gv) (hd : Nat.blt d C.N = true := by with_unfolding_all exact rfl) : OneK C ops Q ⟨some d, op, T, pos, af, none⟩ ρ η ((d, u) :: ρ) η := by
  rintro a w Kc ⟨m, γ, ρc, hE, hR, hI⟩ k
  obtain ⟨v, hv, hrun⟩ := h hE hR hI.heap
  exact wl_value rfl (hrun (fun _ => .refl _ _) d T pos af none) (k _ _ (RM.refl true w rfl) ⟨m, γ, (d, v) :: ρc, hE.put v (by simpa using hd), ⟨rfl, hv, hR⟩, hI⟩)
theorem One.c {P : Program} {ops : Array Oper} {f : Nat} {fn : Func} {us as : List AV} {r r2} {η1' η2 : Eta} {n : Nat} {args : List Operand} {at_ : Array TypeId} (hs : Spec P f as [] r η1') (hf : P.funcs[f]? = some fn)
    (hP : C.P = P := by with_unfolding_all exact rfl) (hb : (fn.body.isNone || fn.name == "runtime.NumGoroutine") = false := by with_unfolding_all exact rfl) (hl : evs2 ρ args = some us := by with_unfolding_all exact rfl)
    (hle : LEs (ts []) us as := by repeat' (first | with_unfolding_all exact trivial | exact LE.ren (by with_unfolding_all exact rfl) | with_unfolding_all exact LE.sl | with_unfolding_all exact LE.nil (by decide) | with_unfolding_all refine And.intro ?_ ?_)) (hd : Nat.blt d C.N = true := by with_unfolding_all exact rfl)
    (hk : η.length = n := by (try dsimp only [List.length]) <;> exact rfl) (hr : ren (fun j => some (n + j)) r = r2 := by (try dsimp only [ren, ren0, ren1, ren2, List.map, Nat.add_zero, Nat.zero_add, Nat.reduceAdd]) <;> exact rfl)
    (hη : η ++ η1'.map (renO (fun j => some (n + j))) = η2 := by (try dsimp only [renO, ren, ren0, ren1, ren2, List.map, List.cons_append, List.nil_append, Nat.add_zero, Nat.zero_add, Nat.reduceAdd]) <;> exact rfl) :
    OneK C ops Q ⟨some d, .call ⟨.value (.func f), args.toArray, at_⟩, T, pos, af, none⟩ ρ η ((d, r2) :: ρ) η2 := by
  subst hk hP
  exact One.call hs hf hb hl hle hd (by rw [back_nil]; exact hr) (by rw [back_nil]; exact hη)
theorem OD.c1 {P : Program} {f : Nat} {fn : Func} {us as : List AV} {r r2} {η1' η2 : Eta} {q : Nat} {args : List Operand} {at_ : Array TypeId} (i : Nat) (hs : Spec P f as [] r η1') (hf : P.funcs[f]? = some fn) (k : OD C M fi l.toArray Q fuel (listed.setIfInBounds i true) ((d, r2) :: ρ) η2)
    (hi : l[i]? = some ⟨some d, .call ⟨.value (.func f), args.toArray, at_⟩, T, pos, af, g⟩ := by with_unfolding_all exact rfl) (hg : GB l.toArray ρ g true := by first | with_unfolding_all exact rfl | with_unfolding_all exact ⟨_, _, rfl, rfl, rfl⟩)
    (hP : C.P = P := by with_unfolding_all exact rfl) (hb : (fn.body.isNone || fn.name == "runtime.NumGoroutine") = false := by with_unfolding_all exact rfl) (hl : evs2 ρ args = some us := by with_unfolding_all exact rfl)
    (hle : LEs (ts []) us as := by repeat' (first | with_unfolding_all exact trivial | exact LE.ren (by with_unfolding_all exact rfl) | with_unfolding_all exact LE.sl | with_unfolding_all exact LE.nil (by decide) | with_unfolding_all refine And.intro ?_ ?_)) (hd : Nat.blt d C.N = true := by with_unfolding_all exact rfl)
    (hk : η.length = q := by (try dsimp only [List.length]) <;> exact rfl) (hr : ren (fun j => some (q + j)) r = r2 := by (try dsimp only [ren, ren0, ren1, ren2, List.map, Nat.add_zero, Nat.zero_add, Nat.reduceAdd]) <;> exact rfl)
    (hη : η ++ η1'.map (renO (fun j => some (q + j))) = η2 := by (try dsimp only [renO, ren, ren0, ren1, ren2, List.map, List.cons_append, List.nil_append, Nat.add_zero, Nat.zero_add, Nat.reduceAdd]) <;> exact rfl)
    (hrd : Region.ready .any l.toArray listed = [i] := by kernel_rfl) : OD C M fi l.toArray Q (fuel + 1) listed ρ η := OD.n1 i (One.c hs hf hP hb hl hle hd hk hr hη) k hi hg hrd
theorem NextBy.c {P : Program} {f : Nat} {fn : Func} {us as : List AV} {r r2} {η1' η2 : Eta} {q : Nat} {args : List Operand} {at_ : Array TypeId} {i : Nat} (hs : Spec P f as [] r η1') (hf : P.funcs[f]? = some fn) (k : OD C M fi l.toArray Q fuel (listed.setIfInBounds i true) ((d, r2) :: ρ) η2)
    (hi : l[i]? = some ⟨some d, .call ⟨.value (.func f), args.toArray, at_⟩, T, pos, af, g⟩ := by with_unfolding_all exact rfl) (hg : GB l.toArray ρ g true := by first | with_unfolding_all exact rfl | with_unfolding_all exact ⟨_, _, rfl, rfl, rfl⟩)
    (hP : C.P = P := by with_unfolding_all exact rfl) (hb : (fn.body.isNone || fn.name == "runtime.NumGoroutine") = false := by with_unfolding_all exact rfl) (hl : evs2 ρ args = some us := by with_unfolding_all exact rfl)
    (hle : LEs (ts []) us as := by repeat' (first | with_unfolding_all exact trivial | exact LE.ren (by with_unfolding_all exact rfl) | with_unfolding_all exact LE.sl | with_unfolding_all exact LE.nil (by decide) | with_unfolding_all refine And.intro ?_ ?_)) (hd : Nat.blt d C.N = true := by with_unfolding_all exact rfl)
    (hk : η.length = q := by (try dsimp only [List.length]) <;> exact rfl) (hr : ren (fun j => some (q + j)) r = r2 := by (try dsimp only [ren, ren0, ren1, ren2, List.map, Nat.add_zero, Nat.zero_add, Nat.reduceAdd]) <;> exact rfl)
    (hη : η ++ η1'.map (renO (fun j => some (q + j))) = η2 := by (try dsimp only [renO, ren, ren0, ren1, ren2, List.map, List.cons_append, List.nil_append, Nat.add_zero, Nat.zero_add, Nat.reduceAdd]) <;> exact rfl) : NextBy C M fi l Q fuel listed ρ η i := NextBy.o (One.c hs hf hP hb hl hle hd hk hr hη) k hi hg
theorem NextBy.s {i : Nat} (k : OD C M fi l.toArray Q fuel (listed.setIfInBounds i true) ((d, u) :: ρ) η) (hi : l[i]? = some ⟨some d, op, T, pos, af, g⟩ := by with_unfolding_all exact rfl) (hg : GB l.toArray ρ g true := by first | with_unfolding_all exact rfl | with_unfolding_all exact ⟨_, _, rfl, rfl, rfl⟩) (h : Gives C.P C.N C.D op ρ η u := by exact gv) (hd : Nat.blt d C.N = true := by with_unfolding_all exact rfl) : NextBy C M fi l Q fuel listed ρ η i := NextBy.o (One.st h hd) k hi hg
end
end Go.V
namespace Go.W
def fidx {α : Type} (p : α → Bool) : Nat → List α → Int
  | _, [] => -1
  | k, x :: r => if p x then (k : Int) else fidx p (k + 1) r
theorem fidx_nonneg {α : Type} (p : α → Bool) : ∀ (l : List α) (k : Nat), 0 ≤ fidx p k l ↔ l.any p = true
  | [], k => by simp [fidx]
  | x :: r, k => by
    by_cases h : p x = true
    · simp [fidx, h]
    · simp [fidx, h, fidx_nonneg p r (k + 1)]
theorem drop_cons {α : Type} {l : List α} {k : Nat} (h : k < l.length) : l.drop k = l[k] :: l.drop (k + 1) := List.drop_eq_getElem_cons h
theorem drop_nil {α : Type} {l : List α} {k : Nat} (h : l.length ≤ k) : l.drop k = [] := List.drop_of_length_le h
theorem take_succ {α : Type} {l : List α} {k : Nat} (h : k < l.length) : l.take (k + 1) = l.take k ++ [l[k]] := List.take_succ_eq_append_getElem h
theorem take_all {α : Type} {l : List α} {k : Nat} (h : l.length ≤ k) : l.take k = l := List.take_of_length_le h
theorem filter_take_t {α : Type} {l : List α} {k : Nat} {p : α → Bool} (h : k < l.length) (hp : p l[k] = true) : (l.take (k + 1)).filter p = (l.take k).filter p ++ [l[k]] := by
  rw [take_succ h, List.filter_append, List.filter_cons, if_pos hp, List.filter_nil]
theorem filter_take_f {α : Type} {l : List α} {k : Nat} {p : α → Bool} (h : k < l.length) (hp : p l[k] = false) : (l.take (k + 1)).filter p = (l.take k).filter p := by
  rw [take_succ h, List.filter_append, List.filter_cons, if_neg (by simp [hp]), List.filter_nil, List.append_nil]
theorem getD_lt {α : Type} {l : List α} {k : Nat} {d : α} (h : k < l.length) : l.getD k d = l[k] := by
  rw [List.getD_eq_getElem?_getD, List.getElem?_eq_getElem h]; rfl
theorem any_beq_contains (l : List Int) (n : Int) : (l.any fun x => n == x) = l.contains n := by
  rw [Bool.eq_iff_iff]
  simp [List.any_eq_true]
/-! ### Formed graphs -/
def okRow (i : Nat) : List Int → List Int → Bool
  | _, [] => true
  | pre, c :: r => (decide (3 ≤ c) && decide (c < 3 + i) && !pre.contains c) && okRow i (pre ++ [c]) r
def okRows : Nat → List (List Int) → Bool
  | _, [] => true
  | i, l :: r => (decide (l.length ≤ 3) && okRow i [] l) && okRows (i + 1) r
def fine (g : List (List Int)) : Bool := decide (g.length ≤ 16) && okRows 0 g
end Go.W
namespace Go.W
def without (l : List Int) (n : Int) : List Int := l.filter fun c => c != n
def total (all : List (List Int)) : Nat := (all.map List.length).sum
def free (all : List (List Int)) (c : Int) : Bool := all.all fun m => !(m.drop 1).contains c
def anyNE (all : List (List Int)) : Bool := all.any fun l => !l.isEmpty
def nextOf (all : List (List Int)) : List (List Int) → Option Int
  | [] => none
  | [] :: r => nextOf all r
  | (h :: _) :: r => if free all h then some h else nextOf all r
def mergeF : Nat → List (List Int) → List Int → List Int × Bool
  | 0, all, out => (out, !anyNE all)
  | n + 1, all, out => match nextOf all all with
    | none => (out, !anyNE all)
    | some h => mergeF n (all.map (without · h)) (out ++ [h])
def merge (all : List (List Int)) : List Int × Bool := mergeF (total all) all []
theorem total_cons (l : List Int) (all : List (List Int)) : total (l :: all) = l.length + total all := by simp [total]
theorem without_length (l : List Int) (n : Int) : (without l n).length ≤ l.length := List.length_filter_le _ _
theorem total_without_le (all : List (List Int)) (h : Int) : total (all.map (without · h)) ≤ total all := by
  induction all with
  | nil => simp [total]
  | cons l r ih =>
    have := without_length l h
    simp only [List.map_cons, total_cons]
    omega
theorem nextOf_mem (all : List (List Int)) : ∀ (r : List (List Int)) (h : Int), nextOf all r = some h → ∃ t, (h :: t) ∈ r ∧ free all h = true := by
  intro r
  induction r with
  | nil => intro h e; simp [nextOf] at e
  | cons l r ih =>
    intro h e
    cases l with
    | nil =>
      obtain ⟨t, h1, h2⟩ := ih h (by simpa [nextOf] using e)
      exact ⟨t, by simp [h1], h2⟩
    | cons x t =>
      simp only [nextOf] at e
      split at e
      · rename_i hf
        cases e
        exact ⟨t, by simp, hf⟩
      · obtain ⟨t', h1, h2⟩ := ih h e
        exact ⟨t', by simp [h1], h2⟩
theorem total_without_lt : ∀ (all : List (List Int)) (h : Int) (t : List Int), (h :: t) ∈ all → total (all.map (without · h)) < total all := by
  intro all
  induction all with
  | nil => intro h t hm; cases hm
  | cons l r ih =>
    intro h t hm
    simp only [List.map_cons, total_cons]
    rcases List.mem_cons.1 hm with e | hm
    · subst e
      have h1 : (without (h :: t) h).length ≤ t.length := by
        simp only [without, List.filter_cons, bne_self_eq_false, Bool.false_eq_true, if_false]
        exact List.length_filter_le _ _
      have h2 := total_without_le r h
      simp only [List.length_cons]
      omega
    · have h1 := ih h t hm
      have h2 := without_length l h
      omega
theorem nextOf_none_of_empty (all : List (List Int)) : ∀ r : List (List Int), total r = 0 → nextOf all r = none := by
  intro r
  induction r with
  | nil => intro _; rfl
  | cons l r ih =>
    intro h
    rw [total_cons] at h
    cases l with
    | nil => simpa [nextOf] using ih (by omega)
    | cons _ _ => simp at h
theorem mergeF_eq : ∀ (n m : Nat) (all : List (List Int)) (out : List Int), total all ≤ n → total all ≤ m → mergeF n all out = mergeF m all out := by
  have zero : ∀ (m : Nat) (all : List (List Int)) (out : List Int), total all = 0 → mergeF m all out = (out, !anyNE all) := by
    intro m all out h
    cases m with
    | zero => rfl
    | succ m => simp [mergeF, nextOf_none_of_empty all all h]
  intro n
  induction n with
  | zero => intro m all out h _; rw [zero 0 all out (by omega), zero m all out (by omega)]
  | succ n ih =>
    intro m all out h1 h2
    cases m with
    | zero => rw [zero 0 all out (by omega), zero (n + 1) all out (by omega)]
    | succ m =>
      simp only [mergeF]
      cases hn : nextOf all all with
      | none => rfl
      | some x =>
        obtain ⟨t, hm, _⟩ := nextOf_mem all all x hn
        have := total_without_lt all x t hm
        exact ih m _ _ (by omega) (by omega)
theorem nextOf_nil {all r : List (List Int)} : nextOf all ([] :: r) = nextOf all r := rfl
theorem nextOf_t {all r : List (List Int)} {h : Int} {t : List Int} (hf : free all h = true) : nextOf all ((h :: t) :: r) = some h := by simp [nextOf, hf]
theorem nextOf_f {all r : List (List Int)} {h : Int} {t : List Int} (hf : free all h = false) : nextOf all ((h :: t) :: r) = nextOf all r := by simp [nextOf, hf]
theorem nextOf_get_t {all r : List (List Int)} {l : List Int} (h0 : 0 < l.length) (hf : free all l[0] = true) : nextOf all (l :: r) = some l[0] := by
  cases l with
  | nil => simp at h0
  | cons x t => exact nextOf_t hf
theorem nextOf_get_f {all r : List (List Int)} {l : List Int} (h0 : 0 < l.length) (hf : free all l[0] = false) : nextOf all (l :: r) = nextOf all r := by
  cases l with
  | nil => simp at h0
  | cons x t => exact nextOf_f hf
theorem anyNE_snoc (all : List (List Int)) (l : List Int) : anyNE (all ++ [l]) = (anyNE all || !l.isEmpty) := by simp [anyNE]
theorem total_le {all : List (List Int)} {l : List Int} (h : l ∈ all) : l.length ≤ total all := by
  induction all with
  | nil => cases h
  | cons x r ih =>
    rw [total_cons]
    rcases List.mem_cons.1 h with rfl | h
    · omega
    · have := ih h; omega
theorem merge_next {all : List (List Int)} {out : List Int} {h : Int} (hn : nextOf all all = some h) :
    mergeF (total all) all out = mergeF (total (all.map (without · h))) (all.map (without · h)) (out ++ [h]) := by
  obtain ⟨t, hm, _⟩ := nextOf_mem all all h hn
  have := total_without_lt all h t hm
  obtain ⟨k, hk⟩ : ∃ k, total all = k + 1 := ⟨total all - 1, by omega⟩
  rw [hk]
  simp only [mergeF, hn]
  exact mergeF_eq _ _ _ _ (by omega) (Nat.le_refl _)
theorem merge_none {all : List (List Int)} {out : List Int} (hn : nextOf all all = none) : mergeF (total all) all out = (out, !anyNE all) := by
  cases total all with
  | zero => rfl
  | succ k => simp [mergeF, hn]
/-! ### Nothing stands twice in a merge, and nothing but what stood in the lists -/
theorem mem_without {l : List Int} {n x : Int} : x ∈ without l n ↔ x ∈ l ∧ x ≠ n := by simp [without, List.mem_filter]
theorem mergeF_nodup : ∀ (n : Nat) (all : List (List Int)) (out : List Int), out.Nodup → (∀ x ∈ out, ∀ m ∈ all, x ∉ m) → (mergeF n all out).1.Nodup := by
  intro n
  induction n with
  | zero => intro all out h _; exact h
  | succ n ih =>
    intro all out h1 h2
    simp only [mergeF]
    cases hn : nextOf all all with
    | none => exact h1
    | some x =>
      obtain ⟨t, hm, _⟩ := nextOf_mem all all x hn
      refine ih _ _ ?_ ?_
      · rw [List.nodup_append]
        refine ⟨h1, by simp, fun a ha b hb e => ?_⟩
        simp at hb
        subst hb e
        exact h2 _ ha _ hm (by simp)
      · intro y hy m hm'
        obtain ⟨m0, hm0, rfl⟩ := List.mem_map.1 hm'
        rw [mem_without]
        rintro ⟨h3, h4⟩
        rcases List.mem_append.1 hy with h5 | h5
        · exact h2 y h5 m0 hm0 h3
        · simp at h5; exact h4 h5
theorem mergeF_mem : ∀ (n : Nat) (all : List (List Int)) (out : List Int) (x : Int), x ∈ (mergeF n all out).1 → x ∈ out ∨ ∃ m ∈ all, x ∈ m := by
  intro n
  induction n with
  | zero => intro all out x h; exact .inl h
  | succ n ih =>
    intro all out x h
    simp only [mergeF] at h
    cases hn : nextOf all all with
    | none => rw [hn] at h; exact .inl h
    | some y =>
      rw [hn] at h
      obtain ⟨t, hm, _⟩ := nextOf_mem all all y hn
      rcases ih _ _ x h with h1 | ⟨m, hm1, hx⟩
      · rcases List.mem_append.1 h1 with h2 | h2
        · exact .inl h2
        · simp at h2; subst h2; exact .inr ⟨_, hm, by simp⟩
      · obtain ⟨m0, hm0, rfl⟩ := List.mem_map.1 hm1
        exact .inr ⟨m0, hm0, (mem_without.1 hx).1⟩
theorem merge_nodup (all : List (List Int)) : (merge all).1.Nodup := mergeF_nodup _ _ _ (by simp) (by simp)
theorem merge_mem {all : List (List Int)} {x : Int} (h : x ∈ (merge all).1) : ∃ m ∈ all, x ∈ m := (mergeF_mem _ _ _ x h).resolve_left (by simp)
theorem nodup_length : ∀ (N : Nat) (l : List Int), l.Nodup → (∀ x ∈ l, 0 ≤ x ∧ x < N) → l.length ≤ N := by
  intro N
  induction N with
  | zero =>
    intro l _ h
    cases l with
    | nil => simp
    | cons x r => have := h x (by simp); omega
  | succ N ih =>
    intro l hn h
    have h1 := ih (l.erase (N : Int)) (hn.erase _) (fun x hx => by
      have h2 := h x (List.mem_of_mem_erase hx)
      have h3 : x ≠ (N : Int) := fun e => by subst e; exact (List.Nodup.not_mem_erase hn) hx
      omega)
    by_cases hm : (N : Int) ∈ l
    · rw [List.length_erase_of_mem hm] at h1; omega
    · rw [List.erase_of_not_mem hm] at h1; omega
/-! ### Linear orders -/
def bare (l : List Int) : List Int := without l 0
def at_ (orders : List (List Int)) (p : Int) : List Int := orders.getD p.toNat []
def listsOf (orders : List (List Int)) (ps : List Int) : Option (List (List Int)) :=
  if ps.all (fun p => !(at_ orders p).isEmpty) then some (ps.map (fun p => bare (at_ orders p)) ++ [ps]) else none
def orderOf (orders : List (List Int)) (ps : List Int) (c : Int) : List Int :=
  match listsOf orders ps with
  | none => []
  | some all => if (merge all).2 then c :: ((merge all).1 ++ [0]) else []
def ordersF : List (List Int) → List (List Int) → List (List Int)
  | acc, [] => acc
  | acc, ps :: r => ordersF (acc ++ [orderOf acc ps acc.length]) r
def parentsOf (g : List (List Int)) : List (List Int) := [[], [], []] ++ g
def orders (g : List (List Int)) : List (List Int) := ordersF [[0]] ([[], []] ++ g)
def OrdOK (acc : List (List Int)) : Prop := ∀ (c : Nat) o, acc[c]? = some o → o.Nodup ∧ ∀ x ∈ o, 0 ≤ x ∧ x ≤ (c : Int)
theorem OrdOK.len {acc} (h : OrdOK acc) {c : Nat} {o} (ho : acc[c]? = some o) : o.length ≤ c + 1 := by
  obtain ⟨h1, h2⟩ := h c o ho
  exact nodup_length (c + 1) o h1 (fun x hx => by have := h2 x hx; omega)
theorem OrdOK.at {acc} (h : OrdOK acc) (p : Int) : (at_ acc p).Nodup ∧ ∀ x ∈ at_ acc p, 0 ≤ x ∧ x ≤ p.toNat := by
  unfold at_
  rw [List.getD_eq_getElem?_getD]
  cases hq : acc[p.toNat]? with
  | none => simp
  | some o => simpa using h _ _ hq
theorem orderOf_ok {acc : List (List Int)} {ps : List Int} (h : OrdOK acc) (hps : ∀ p ∈ ps, 3 ≤ p ∧ p < acc.length) (hpos : 0 < acc.length) :
    (orderOf acc ps acc.length).Nodup ∧ ∀ x ∈ orderOf acc ps acc.length, 0 ≤ x ∧ x ≤ (acc.length : Int) := by
  unfold orderOf
  cases hl : listsOf acc ps with
  | none => simp
  | some all =>
    simp only []
    split
    · unfold listsOf at hl
      split at hl
      · cases hl
        have hm : ∀ x ∈ (merge (ps.map (fun p => bare (at_ acc p)) ++ [ps])).1, 1 ≤ x ∧ x < acc.length := by
          intro x hx
          obtain ⟨m, hm, hxm⟩ := merge_mem hx
          rcases List.mem_append.1 hm with h1 | h1
          · obtain ⟨p, hp, rfl⟩ := List.mem_map.1 h1
            obtain ⟨h2, h3⟩ := mem_without.1 hxm
            have h4 := (h.at p).2 x h2
            have h5 := hps p hp
            omega
          · simp at h1
            subst h1
            have := hps x hxm
            omega
        refine ⟨?_, ?_⟩
        · rw [List.nodup_cons]
          refine ⟨fun hc => ?_, ?_⟩
          · rcases List.mem_append.1 hc with h1 | h1
            · have := hm _ h1; omega
            · have h1 : (acc.length : Int) = 0 := by simpa using h1
              omega
          · rw [List.nodup_append]
            refine ⟨merge_nodup _, by simp, fun a ha b hb e => ?_⟩
            have h6 := hm _ ha
            simp at hb
            omega
        · intro x hx
          rcases List.mem_cons.1 hx with rfl | hx
          · omega
          · rcases List.mem_append.1 hx with h1 | h1
            · have := hm _ h1; omega
            · have h1 : x = 0 := by simpa using h1
              omega
      · cases hl
    · simp
theorem OrdOK.snoc {acc : List (List Int)} {o : List Int} (h : OrdOK acc) (ho : o.Nodup ∧ ∀ x ∈ o, 0 ≤ x ∧ x ≤ (acc.length : Int)) : OrdOK (acc ++ [o]) := by
  intro c o' hc
  rcases Nat.lt_or_ge c acc.length with h1 | h1
  · rw [List.getElem?_append_left h1] at hc; exact h c o' hc
  · rw [List.getElem?_append_right h1] at hc
    have : c - acc.length = 0 := by
      have := (List.getElem?_eq_some_iff.1 hc).1
      simp at this; omega
    rw [this] at hc
    simp at hc
    subst hc
    rw [show c = acc.length by omega]
    exact ho
theorem OrdOK.start : OrdOK [[0]] := by
  intro c o hc
  have : c = 0 := by
    have := (List.getElem?_eq_some_iff.1 hc).1
    simp at this; omega
  subst this
  simp at hc
  subst hc
  simp
/-! ### Formed graphs -/
theorem okRow_spec (i : Nat) : ∀ (l pre : List Int), okRow i pre l = true → (∀ p ∈ l, 3 ≤ p ∧ p < 3 + i) ∧ l.Nodup ∧ ∀ p ∈ l, p ∉ pre := by
  intro l
  induction l with
  | nil => intro pre _; simp
  | cons c r ih =>
    intro pre h
    simp only [okRow, Bool.and_eq_true, decide_eq_true_eq, Bool.not_eq_true'] at h
    obtain ⟨⟨⟨h1, h2⟩, h3⟩, h4⟩ := h
    obtain ⟨a1, a2, a3⟩ := ih _ h4
    have h3' : c ∉ pre := by simpa using h3
    refine ⟨fun p hp => ?_, ?_, fun p hp => ?_⟩
    · rcases List.mem_cons.1 hp with rfl | hp
      · exact ⟨h1, h2⟩
      · exact a1 p hp
    · rw [List.nodup_cons]
      exact ⟨fun hc => a3 c hc (by simp), a2⟩
    · rcases List.mem_cons.1 hp with rfl | hp
      · exact h3'
      · exact fun hc => a3 p hp (by simp [hc])
theorem okRows_spec : ∀ (g : List (List Int)) (i : Nat), okRows i g = true → ∀ (k : Nat) l, g[k]? = some l → l.length ≤ 3 ∧ okRow (i + k) [] l = true := by
  intro g
  induction g with
  | nil => intro i _ k l h; simp at h
  | cons x r ih =>
    intro i h k l hk
    simp only [okRows, Bool.and_eq_true, decide_eq_true_eq] at h
    cases k with
    | zero => simp at hk; subst hk; exact ⟨h.1.1, by simpa using h.1.2⟩
    | succ k =>
      have := ih (i + 1) h.2 k l (by simpa using hk)
      rwa [show i + 1 + k = i + (k + 1) by omega] at this
def pOf (g : List (List Int)) (c : Int) : List Int := if c < 3 then [] else g.getD (c - 3).toNat []
theorem pOf_lt {g : List (List Int)} {c : Int} (h : c < 3) : pOf g c = [] := by simp [pOf, h]
theorem pOf_ge {g : List (List Int)} {c : Int} (h : 3 ≤ c) : pOf g c = g.getD (c - 3).toNat [] := by rw [pOf, if_neg (by omega)]
theorem fine_len {g : List (List Int)} (h : fine g = true) : g.length ≤ 16 := by
  simp only [fine, Bool.and_eq_true, decide_eq_true_eq] at h; exact h.1
theorem fine_pOf {g : List (List Int)} (h : fine g = true) {c : Int} (hc : c < 3 + (g.length : Int)) : (pOf g c).length ≤ 3 ∧ (∀ p ∈ pOf g c, 3 ≤ p ∧ p < c) ∧ (pOf g c).Nodup := by
  by_cases h3 : c < 3
  · rw [pOf_lt h3]; simp
  · rw [pOf_ge (by omega)]
    simp only [fine, Bool.and_eq_true, decide_eq_true_eq] at h
    have hk : (c - 3).toNat < g.length := by omega
    obtain ⟨a1, a2⟩ := okRows_spec g 0 h.2 (c - 3).toNat _ (List.getElem?_eq_getElem hk)
    obtain ⟨b1, b2, _⟩ := okRow_spec _ _ _ a2
    rw [getD_lt hk]
    refine ⟨a1, fun p hp => ?_, b2⟩
    have := b1 p hp
    omega
theorem parentsOf_get {g : List (List Int)} {c : Nat} (hc : c < 3 + g.length) : (parentsOf g)[c]? = some (pOf g c) := by
  unfold parentsOf
  by_cases h3 : c < 3
  · rw [pOf_lt (by omega), List.getElem?_append_left (by simpa using h3)]
    match c, h3 with
    | 0, _ => rfl
    | 1, _ => rfl
    | 2, _ => rfl
  · rw [pOf_ge (by omega), List.getElem?_append_right (by simp; omega)]
    simp only [List.length_cons, List.length_nil, Nat.zero_add, Nat.reduceAdd]
    rw [show ((c : Int) - 3).toNat = c - 3 by omega, getD_lt (by omega), List.getElem?_eq_getElem (by omega)]
theorem parentsOf_length (g : List (List Int)) : (parentsOf g).length = 3 + g.length := by simp [parentsOf]; omega
theorem parentsOf_drop {g : List (List Int)} {c : Nat} (hc : c < 3 + g.length) : (parentsOf g).drop c = pOf g c :: (parentsOf g).drop (c + 1) := by
  have hl : c < (parentsOf g).length := by rw [parentsOf_length]; exact hc
  rw [drop_cons hl]
  have := parentsOf_get hc
  rw [List.getElem?_eq_getElem hl] at this
  simp at this
  rw [this]
theorem ordersF_cons (acc : List (List Int)) (ps : List Int) (r : List (List Int)) : ordersF acc (ps :: r) = ordersF (acc ++ [orderOf acc ps acc.length]) r := rfl
theorem orders_start (g : List (List Int)) : orders g = ordersF [[0]] ((parentsOf g).drop 1) := rfl
theorem ordersF_ok (g : List (List Int)) (hf : fine g = true) : ∀ (n c : Nat) (acc : List (List Int)), n + c = 3 + g.length → acc.length = c → 0 < c → OrdOK acc → OrdOK (ordersF acc ((parentsOf g).drop c)) ∧ (ordersF acc ((parentsOf g).drop c)).length = 3 + g.length := by
  intro n
  induction n with
  | zero =>
    intro c acc h1 h2 _ h3
    rw [drop_nil (by rw [parentsOf_length]; omega)]
    exact ⟨h3, by simp [ordersF]; omega⟩
  | succ n ih =>
    intro c acc h1 h2 h0 h3
    rw [parentsOf_drop (by omega), ordersF_cons]
    have hp := (fine_pOf hf (c := (c : Int)) (by omega)).2.1
    exact ih (c + 1) _ (by omega) (by simp [h2]) (by omega) (h3.snoc (orderOf_ok h3 (by intro p hp'; have := hp p hp'; omega) (by omega)))
theorem orders_ok {g : List (List Int)} (hf : fine g = true) : OrdOK (orders g) ∧ (orders g).length = 3 + g.length := by
  rw [orders_start]
  exact ordersF_ok g hf (2 + g.length) 1 _ (by omega) rfl (by omega) OrdOK.start
theorem OrdOK.small {acc : List (List Int)} (h : OrdOK acc) (hl : acc.length ≤ 1000) : ∀ o ∈ acc, o.length ≤ 1000 := by
  intro o ho
  obtain ⟨i, hi, rfl⟩ := List.mem_iff_getElem.1 ho
  have := h.len (List.getElem?_eq_getElem hi)
  omega
theorem listsOf_some {ords : List (List Int)} {ps : List Int} {all : List (List Int)} (h : listsOf ords ps = some all) : all = ps.map (fun p => bare (at_ ords p)) ++ [ps] := by
  unfold listsOf at h
  split at h
  · cases h; rfl
  · cases h
theorem at_mem {ords : List (List Int)} {p : Int} : at_ ords p = [] ∨ at_ ords p ∈ ords := by
  unfold at_
  rw [List.getD_eq_getElem?_getD]
  cases hq : ords[p.toNat]? with
  | none => exact .inl rfl
  | some o => exact .inr (List.mem_of_getElem? hq)
theorem listsOf_bounds {ords : List (List Int)} {ps : List Int} {all : List (List Int)} (h : listsOf ords ps = some all) (hok : OrdOK ords) (hl : ords.length ≤ 1000) (hp : ps.length ≤ 3) (hpos : ∀ p ∈ ps, 0 ≤ p) :
    total all ≤ 3003 ∧ all.length ≤ 4 ∧ ∀ l ∈ all, ∀ x ∈ l, 0 ≤ x := by
  rw [listsOf_some h]
  have hs := hok.small hl
  have hlen : ∀ p, (bare (at_ ords p)).length ≤ 1000 := fun p => Nat.le_trans (without_length _ _) (by
    rcases at_mem (ords := ords) (p := p) with e | e
    · rw [e]; simp
    · exact hs _ e)
  have htot : ∀ ps : List Int, total (ps.map (fun p => bare (at_ ords p))) ≤ 1000 * ps.length := by
    intro ps
    induction ps with
    | nil => simp [total]
    | cons p r ih =>
      have := hlen p
      simp only [List.map_cons, total_cons, List.length_cons]
      omega
  refine ⟨?_, by simp; omega, fun l hl' x hx => ?_⟩
  · have e : ∀ (a : List (List Int)) (b : List Int), total (a ++ [b]) = total a + b.length := by intro a b; simp [total]
    rw [e]
    have := htot ps
    omega
  · rcases List.mem_append.1 hl' with h1 | h1
    · obtain ⟨p, _, rfl⟩ := List.mem_map.1 h1
      exact ((hok.at p).2 x (mem_without.1 hx).1).1
    · simp at h1; subst h1; exact hpos x hx
theorem merge_length (all : List (List Int)) : (merge all).1.length ≤ total all := by
  have : ∀ (n : Nat) (all : List (List Int)) (out : List Int), (mergeF n all out).1.length ≤ out.length + total all := by
    intro n
    induction n with
    | zero => intro all out; simp [mergeF]
    | succ n ih =>
      intro all out
      simp only [mergeF]
      cases hn : nextOf all all with
      | none => simp
      | some x =>
        obtain ⟨t, hm, _⟩ := nextOf_mem all all x hn
        have h1 := total_without_lt all x t hm
        have h2 := ih (all.map (without · x)) (out ++ [x])
        simp only [List.length_append, List.length_singleton] at h2
        show (mergeF n _ _).1.length ≤ _
        omega
  simpa [merge] using this (total all) all []
end Go.W
namespace Go.V
open Go Go.W
theorem Wk.swap {C : Cx} {ρ : Ro} {η : Eta} {i j : Nat} {u v : AV} (hne : Nat.beq i j = false) : Wk C ((i, u) :: (j, v) :: ρ) η ((j, v) :: (i, u) :: ρ) η := by
  rintro a w ⟨m, γ, ρc, hE, hR, hI⟩
  match ρc, hR with
  | (i', u') :: (j', v') :: r, ⟨e1, h1, e2, h2, h3⟩ =>
    subst e1 e2
    refine ⟨m, γ, (j', v') :: (i', u') :: r, ⟨hE.size, hE.defers, fun t x hx => hE.look t x ?_⟩, ⟨rfl, h2, rfl, h1, h3⟩, hI⟩
    simp only [W.look] at hx ⊢
    cases h4 : Nat.beq i' t with
    | false => rw [h4] at hx; exact hx
    | true =>
      rw [h4] at hx
      have : Nat.beq j' t = false := by
        have := Nat.eq_of_beq_eq_true h4
        subst this
        cases h5 : Nat.beq j' i' with
        | false => rfl
        | true => rw [Nat.eq_of_beq_eq_true h5] at hne; simp at hne
      rw [this] at hx
      exact hx
section
variable {C : Cx} {Q : Qt} {ρ : Ro} {η : Eta} {Ti Tj di dj : Nat} {posi posj : String} {afi afj : Array Edge} {opi opj : Op} {vi vj : AV} {M : Bool} {fi fuel : Nat} {l : List Oper} {listed : Array Bool} {gi gj : Option (Nat × Bool)}
theorem OD.wk {ops : Array Oper} {ρ' : Ro} (h : Wk C ρ η ρ' η) (k : OD C M fi ops Q fuel listed ρ' η) : OD C M fi ops Q fuel listed ρ η := fun a w hA => k a w (h a w hA)
theorem OD.q2 (i j : Nat) (k : OD C M fi l.toArray Q fuel ((listed.setIfInBounds i true).setIfInBounds j true) ((dj, vj) :: (di, vi) :: ρ) η)
    (hi : l[i]? = some ⟨some di, opi, Ti, posi, afi, gi⟩ := by with_unfolding_all exact rfl) (hj : l[j]? = some ⟨some dj, opj, Tj, posj, afj, gj⟩ := by with_unfolding_all exact rfl)
    (hgi : GB l.toArray ρ gi true := by first | with_unfolding_all exact rfl | with_unfolding_all exact ⟨_, _, rfl, rfl, rfl⟩) (hgj : GB l.toArray ρ gj true := by first | with_unfolding_all exact rfl | with_unfolding_all exact ⟨_, _, rfl, rfl, rfl⟩)
    (hvi : Gives C.P C.N C.D opi ρ η vi := by exact gv) (hvj : Gives C.P C.N C.D opj ρ η vj := by exact gv)
    (hgi' : GB l.toArray ((dj, vj) :: ρ) gi true := by first | with_unfolding_all exact rfl | with_unfolding_all exact ⟨_, _, rfl, rfl, rfl⟩) (hgj' : GB l.toArray ((di, vi) :: ρ) gj true := by first | with_unfolding_all exact rfl | with_unfolding_all exact ⟨_, _, rfl, rfl, rfl⟩)
    (hvi' : Gives C.P C.N C.D opi ((dj, vj) :: ρ) η vi := by exact gv) (hvj' : Gives C.P C.N C.D opj ((di, vi) :: ρ) η vj := by exact gv)
    (hdi : Nat.blt di C.N = true := by with_unfolding_all exact rfl) (hdj : Nat.blt dj C.N = true := by with_unfolding_all exact rfl) (hne : Nat.beq di dj = false := by with_unfolding_all exact rfl) (hij : Nat.beq i j = false := by with_unfolding_all exact rfl)
    (hr : Region.ready .any l.toArray listed = [i, j] := by kernel_rfl) (hr1 : Region.ready .any l.toArray (listed.setIfInBounds i true) = [j] := by kernel_rfl) (hr2 : Region.ready .any l.toArray (listed.setIfInBounds j true) = [i] := by kernel_rfl) :
    OD C M fi l.toArray Q (fuel + 1 + 1) listed ρ η := by
  have hc : (listed.setIfInBounds i true).setIfInBounds j true = (listed.setIfInBounds j true).setIfInBounds i true := by
    refine Array.setIfInBounds_comm true true ?_
    intro e; subst e; simp at hij
  refine OD.n2 i j ?_ ?_ hr
  · exact NextBy.s (OD.n1 j (One.st hvj' hdj) k hj hgj' hr1) hi hgi hvi hdi
  · rw [hc] at k
    exact NextBy.s (OD.n1 i (One.st hvi' hdi) (OD.wk (Wk.swap hne) k) hi hgi' hr2) hj hgj hvj hdj
end
end Go.V
namespace Go.V
open Go Go.W
def afind (k : Int) : List (Int × AV) → Option AV
  | [] => none
  | p :: r => if k == p.1 then some p.2 else afind k r
theorem afind_of (k : Int) {m w} : ∀ (l : List (Int × Value)) (es : List (Int × AV)), l.map (·.1) = es.map (·.1) → (∀ (j : Nat) p q, l[j]? = some p → es[j]? = some q → Rep m w [] p.2 q.2 ∧ okV p.2 q.2) →
    (mfind k l = none ∧ afind k es = none) ∨ ∃ v u, mfind k l = some v ∧ afind k es = some u ∧ Rep m w [] v u ∧ okV v u
  | [], [], _, _ => .inl ⟨rfl, rfl⟩
  | [], _ :: _, h, _ => by simp at h
  | _ :: _, [], h, _ => by simp at h
  | p :: l, q :: es, h, hr => by
    simp only [List.map_cons, List.cons.injEq] at h
    simp only [mfind, afind, h.1]
    cases hb : k == q.1 with
    | true => exact .inr ⟨p.2, q.2, by simp, by simp, hr 0 p q rfl rfl⟩
    | false => simpa using afind_of k l es h.2 (fun j a b h1 h2 => hr (j + 1) a b (by simpa using h1) (by simpa using h2))
/-! ## Structs that are laid -/
def putA : List AV → Nat → List AV → List AV
  | c :: cs, n + 1, us => c :: putA cs n us
  | _ :: cs, 0, u :: us => u :: putA cs 0 us
  | cs, 0, [] => cs
  | [], _, _ => []
theorem putA_len : ∀ (cs : List AV) (n : Nat) (us : List AV), (putA cs n us).length = cs.length
  | _ :: cs, n + 1, us => by simp [putA, putA_len cs n us]
  | _ :: cs, 0, u :: us => by simp [putA, putA_len cs 0 us]
  | _ :: _, 0, [] => by simp [putA]
  | [], 0, [] => by simp [putA]
  | [], 0, _ :: _ => by simp [putA]
  | [], _ + 1, _ => by simp [putA]
theorem putA_get : ∀ (cs : List AV) (n : Nat) (us : List AV), n + us.length ≤ cs.length → ∀ j : Nat, (putA cs n us)[j]? = if j < n then cs[j]? else if j < n + us.length then us[j - n]? else cs[j]?
  | c :: cs, n + 1, us, h, j => by
    cases j with
    | zero => simp [putA]
    | succ j =>
      simp only [putA, List.getElem?_cons_succ]
      rw [putA_get cs n us (by simp at h; omega) j]
      simp only [Nat.add_lt_add_iff_right, show j + 1 < n + 1 + us.length ↔ j < n + us.length by omega, show j + 1 - (n + 1) = j - n by omega]
  | c :: cs, 0, u :: us, h, j => by
    cases j with
    | zero => simp [putA]
    | succ j =>
      simp only [putA, List.getElem?_cons_succ]
      rw [putA_get cs 0 us (by simp at h; omega) j]
      simp
  | _ :: _, 0, [], _, j => by simp [putA]
  | [], 0, [], _, j => by simp [putA]
  | [], 0, _ :: _, h, j => by simp at h
  | [], _ + 1, _, h, j => by simp at h
def fillA (places : Nat → Option (Nat × Nat)) : List AV → List (Nat × AV) → Option (List AV)
  | cells, [] => some cells
  | cells, (i, u) :: rest => match places i with
    | none => none
    | some (off, size) => bif okc u && Nat.beq u.cells.length size && Nat.ble (off + size) cells.length then fillA places (putA cells off u.cells) rest else none
theorem fillA_run {γ m w} {places : Nat → Option (Nat × Nat)} : ∀ (parts : List (Nat × AV)) (vs : List Value) (cells out : List AV) (cs : List Value), CL γ m w cs cells → VL m w γ vs (parts.map (·.2)) → fillA places cells parts = some out →
    ∃ os, Instr.fill places cs.toArray ((parts.map (·.1)).zip vs) = some os ∧ CL γ m w os.toList out
  | [], [], cells, out, cs, hC, _, h => by simp [fillA] at h; subst h; exact ⟨cs.toArray, rfl, by simpa using hC⟩
  | [], _ :: _, _, _, _, _, h, _ => h.elim
  | _ :: _, [], _, _, _, _, h, _ => h.elim
  | (i, u) :: rest, v :: vs, cells, out, cs, hC, ⟨h1, h2⟩, h => by
    simp only [fillA] at h
    cases hp : places i with
    | none => rw [hp] at h; cases h
    | some p =>
      obtain ⟨off, size⟩ := p
      rw [hp] at h
      simp only at h
      cases hb : okc u && Nat.beq u.cells.length size && Nat.ble (off + size) cells.length with
      | false => rw [hb] at h; cases h
      | true =>
        rw [hb] at h
        simp only [Bool.and_eq_true, Nat.beq_eq, Nat.ble_eq] at hb
        obtain ⟨⟨hb1, hb2⟩, hb3⟩ := hb
        obtain ⟨ws, e, hW⟩ := h1.cellsOf (h1.one hb1)
        have hwl : ws.length = size := by rw [hW.1, hb2]
        have hul : u.cells.length = size := hb2
        have hwu : ws.length = u.cells.length := hW.1
        obtain ⟨s1, s2, s3⟩ := set_off off ws 0 cs.toArray (by simp [hC.1]; omega)
        have hC' : CL γ m w ((ws.zipIdx 0).foldl (fun (b : Array Value) (x : Value × Nat) => b.setIfInBounds (off + x.2) x.1) cs.toArray).toList (putA cells off u.cells) := by
          refine ⟨by rw [putA_len, ← hC.1]; simpa using s1, fun c hc => ?_, fun j a b ha hb => ?_⟩
          · obtain ⟨j, hj, rfl⟩ := List.mem_iff_getElem.1 hc
            have hg : ((ws.zipIdx 0).foldl (fun (b : Array Value) (x : Value × Nat) => b.setIfInBounds (off + x.2) x.1) cs.toArray)[j]? = some (((ws.zipIdx 0).foldl (fun (b : Array Value) (x : Value × Nat) => b.setIfInBounds (off + x.2) x.1) cs.toArray).toList[j]) := by
              rw [← Array.getElem?_toList, List.getElem?_eq_getElem hj]
            by_cases hin : off ≤ j ∧ j < off + ws.length
            · have := s3 (j - off) _ (List.getElem?_eq_getElem (by omega))
              rw [show off + 0 + (j - off) = j by omega, hg] at this
              rw [Option.some.inj this]
              exact hW.2.1 _ (List.getElem_mem _)
            · have := s2 j (by omega)
              rw [hg] at this
              exact hC.2.1 _ (List.mem_of_getElem? (by simpa using this.symm))
          · rw [putA_get _ _ _ (by rw [hb2]; exact hb3)] at hb
            rw [Array.getElem?_toList] at ha
            split at hb
            · rw [s2 j (by omega)] at ha
              exact hC.2.2 j a b (by simpa using ha) hb
            · split at hb
              · have hj : j - off < ws.length := by omega
                have := s3 (j - off) _ (List.getElem?_eq_getElem hj)
                rw [show off + 0 + (j - off) = j by omega, ha] at this
                rw [Option.some.inj this]
                exact hW.2.2 (j - off) _ b (List.getElem?_eq_getElem hj) hb
              · rw [s2 j (by omega)] at ha
                exact hC.2.2 j a b (by simpa using ha) hb
        obtain ⟨os, o1, o2⟩ := fillA_run rest vs (putA cells off u.cells) out _ hC' h2 h
        refine ⟨os, ?_, o2⟩
        simp only [List.map_cons, List.zip_cons_cons, Instr.fill, hp, e]
        rw [if_neg (by simp [hwl, hC.1]; omega)]
        rw [← o1]
        congr 1
        rw [show ws.toArray.zipIdx = (ws.zipIdx 0).toArray from by apply Array.ext'; simp]
        simp
def placesL (tab : Tab) : List (Nat × Nat) → Option (List (Nat × Nat))
  | [] => some []
  | (off, F) :: r => match tab F, placesL tab r with
    | some e, some l => some ((off, e.size) :: l)
    | _, _ => none
theorem placesL_run {P : Program} {tab : Tab} (hT : TabOK P tab) : ∀ (fields : List Field) (pls : List (Nat × Nat)), placesL tab (fields.map fun f => (f.offset, f.type)) = some pls → fields.mapM (fun f => (P.info? f.type).map fun i => (f.offset, i.size)) = some pls
  | [], pls, h => by simp [placesL] at h; subst h; rfl
  | f :: r, pls, h => by
    simp only [List.map_cons, placesL] at h
    split at h
    · rename_i e l h1 h2
      cases h
      obtain ⟨i, i1, i2, _⟩ := (hT _ _ h1).info
      have := placesL_run hT r l h2
      simp only [List.mapM_cons, i1, this, Option.map_some]
      simp [i2]
    · cases h
section
variable {C : Cx} {ops : Array Oper} {Q : Qt} {ρ ρ' : Ro} {η η' η2 : Eta} {rest : List Oper} {T d X Y E : Nat} {pos : String} {af : Array Edge} {op : Op} {x y z : Operand} {A K : Code} {e : Exit}
theorem map_of {X : Nat} {K E : Nat} (hs : (C.tab X).map (·.sh) = some (.map K E)) (hk : (C.tab K).map (·.sh) = some (.int .i64)) : C.P.underlying X = some (.map K E) ∧ C.P.underlying K = some (.int .i64) := by
  obtain ⟨d, h1, h2⟩ := shOf C.hT hs
  obtain ⟨d', h1', h2'⟩ := shOf C.hT hk
  obtain rfl : d = _ := h2
  obtain rfl : d' = _ := h2'
  exact ⟨h1, h1'⟩
theorem OL.lookup {i : Nat} {es : List (Int × AV)} {k : Int} {K : Nat} {te : TyE} {v : AV} (kk : OL C ops Q rest ((d, v) :: ρ) η) (hv : afind k es = some v ∨ (afind k es = none ∧ ∀ m w γ, Rep m w γ te.zero v)) (hs : (C.tab X).map (·.sh) = some (.map K E) := by with_unfolding_all exact rfl) (hkt : (C.tab K).map (·.sh) = some (.int .i64) := by with_unfolding_all exact rfl) (hE : C.tab E = some te := by with_unfolding_all exact rfl)
    (hx : ev2 ρ x = some (.mp i) := by with_unfolding_all exact rfl) (ho : η[i]? = some (.mo es) := by with_unfolding_all exact rfl) (hy : ev2 ρ y = some (.raw (.int .i64 k)) := by with_unfolding_all exact rfl) (hd : Nat.blt d C.N = true := by with_unfolding_all exact rfl) :
    OL C ops Q (⟨some d, .lookup X x y false, T, pos, af, none⟩ :: rest) ρ η := by
  rintro a w ⟨m, γ, ρc, hE', hR, hI⟩
  obtain ⟨u, g1, g2⟩ := hR.ev hx
  cases g2 with
  | @mp _ _ b hb =>
  obtain ⟨b', l, e, h0, hM, hkeys, hrep⟩ := hI.heap.ok i _ _ hb ho
  cases e
  obtain ⟨ut, uk⟩ := map_of hs hkt
  obtain ⟨inf, i1, i2, i3, i4, i5⟩ := (C.hT E te hE).info
  haveI : IntTy C.P K .i64 := ⟨uk⟩
  obtain ⟨es', clock, hb', hl⟩ := id hM
  have hck := run_checkInt (P := C.P) (Y := K) (w := w)
  rcases findNow_of k es'.toList l 0 hl with ⟨e1, e2⟩ | ⟨v', j, e1, e2⟩
  · rcases afind_of k l es hkeys hrep with ⟨_, a2⟩ | ⟨_, _, a1, _⟩
    · have hz : ∀ m w γ, Rep m w γ te.zero v := by
        rcases hv with h | h
        · rw [a2] at h; cases h
        · exact h.2
      refine Cx.lcons (wl_value (v := te.zero) rfl ?_ (kk _ _ ⟨m, γ, _, hE'.put _ (by simpa using hd), ⟨rfl, hz _ _ _, hR⟩, hI⟩))
      simp [execOp, hE'.ev g1, hE'.ev (hR.raw hy), Instr.lookup, run_underlying ut, MapKept.run_getObj_map hb', hck, Instr.findKey, run_underlying uk, e2, zeroValue, typeInfo, i1, i4]
    · rw [e1] at a1; cases a1
  · rcases afind_of k l es hkeys hrep with ⟨a1, _⟩ | ⟨v2, u2, a1, a2, a3, _⟩
    · rw [e1] at a1; cases a1
    · rw [e1] at a1; cases a1
      have hu : u2 = v := by
        rcases hv with h | h
        · rw [a2] at h; cases h; rfl
        · rw [a2] at h; cases h.1
      subst hu
      refine Cx.lcons (wl_value (v := v') rfl ?_ (kk _ _ ⟨m, γ, _, hE'.put _ (by simpa using hd), ⟨rfl, a3.mono (.refl _ _) (fun _ _ h => by simp at h), hR⟩, hI⟩))
      simp [execOp, hE'.ev g1, hE'.ev (hR.raw hy), Instr.lookup, run_underlying ut, MapKept.run_getObj_map hb', hck, Instr.findKey, run_underlying uk, e2]
theorem give_lookup2 {P : Program} {tab : Tab} {N : Nat} {D : List Deferred} {i : Nat} {es : List (Int × AV)} {k : Int} {K : Nat} {te : TyE} {v : AV} {found : Bool} (hT : TabOK P tab) (hv : (found = true ∧ afind k es = some v) ∨ (found = false ∧ afind k es = none ∧ ∀ m w γ, Rep m w γ te.zero v)) (hs : (tab X).map (·.sh) = some (.map K E)) (hkt : (tab K).map (·.sh) = some (.int .i64)) (hE : tab E = some te)
    (hx : ev2 ρ x = some (.mp i)) (ho : η[i]? = some (.mo es)) (hy : ev2 ρ y = some (.raw (.int .i64 k))) : Gives P N D (.lookup X x y true) ρ η (.tp [v, .raw (.bool found)]) := by
  intro m w γ ρc a hE' hR hH
  obtain ⟨u, g1, g2⟩ := hR.ev hx
  cases g2 with
  | @mp _ _ b hb =>
  obtain ⟨b', l, e, h0, hM, hkeys, hrep⟩ := hH.ok i _ _ hb ho
  cases e
  obtain ⟨d, ut, h2⟩ := shOf hT hs
  obtain ⟨d', uk, h2'⟩ := shOf hT hkt
  obtain rfl : d = _ := h2
  obtain rfl : d' = _ := h2'
  obtain ⟨inf, i1, i2, i3, i4, i5⟩ := (hT E te hE).info
  haveI : IntTy P K .i64 := ⟨uk⟩
  obtain ⟨es', clock, hb', hl⟩ := id hM
  have hlt : b < w.heap.size := (Array.getElem?_eq_some_iff.1 hb').1
  rcases findNow_of k es'.toList l 0 hl with ⟨e1, e2⟩ | ⟨v', j, e1, e2⟩
  · rcases afind_of k l es hkeys hrep with ⟨_, a2⟩ | ⟨_, _, a1, _⟩
    · have hz : found = false ∧ ∀ m w γ, Rep m w γ te.zero v := by
        rcases hv with h | h
        · rw [a2] at h; cases h.2
        · exact ⟨h.1, h.2.2⟩
      obtain ⟨rfl, hz⟩ := hz
      refine ⟨.tuple #[te.zero, .bool false], .tp (vs := [te.zero, .bool false]) rfl (fun j p c hp hc => ?_), fun {m' w'} hk _ _ _ _ _ => ?_⟩
      · match j with
        | 0 => simp at hp hc; subst hp hc; exact hz _ _ _
        | 1 => simp at hp hc; subst hp hc; exact .raw rfl
        | j + 2 => simp at hp
      · have hb2 : w'.heap[b]? = some (.map es' clock) := (hk rfl).heap hb'
        have hck := run_checkInt (P := P) (Y := K) (w := w')
        simp [execOp, hE'.ev g1, hE'.ev (hR.raw hy), Instr.lookup, run_underlying ut, MapKept.run_getObj_map hb2, hck, Instr.findKey, run_underlying uk, e2, zeroValue, typeInfo, i1, i4]
    · rw [e1] at a1; cases a1
  · rcases afind_of k l es hkeys hrep with ⟨a1, _⟩ | ⟨v2, u2, a1, a2, a3, _⟩
    · rw [e1] at a1; cases a1
    · rw [e1] at a1; cases a1
      have hu : found = true ∧ u2 = v := by
        rcases hv with h | h
        · rw [a2] at h; obtain ⟨h, q⟩ := h; cases q; exact ⟨h, rfl⟩
        · rw [a2] at h; cases h.2.1
      obtain ⟨rfl, rfl⟩ := hu
      refine ⟨.tuple #[v', .bool true], .tp (vs := [v', .bool true]) rfl (fun j p c hp hc => ?_), fun {m' w'} hk _ _ _ _ _ => ?_⟩
      · match j with
        | 0 => simp at hp hc; subst hp hc; exact a3.mono (.refl _ _) (fun _ _ h => by simp at h)
        | 1 => simp at hp hc; subst hp hc; exact .raw rfl
        | j + 2 => simp at hp
      · have hb2 : w'.heap[b]? = some (.map es' clock) := (hk rfl).heap hb'
        have hck := run_checkInt (P := P) (Y := K) (w := w')
        simp [execOp, hE'.ev g1, hE'.ev (hR.raw hy), Instr.lookup, run_underlying ut, MapKept.run_getObj_map hb2, hck, Instr.findKey, run_underlying uk, e2]
theorem OL.makeMap {k : Nat} (kk : OL C ops Q rest ((d, .mp k) :: ρ) η2) (hk : η.length = k := by (try dsimp only [List.length]) <;> exact rfl) (hη : η ++ [.mo []] = η2 := by (try dsimp only [List.cons_append, List.nil_append, List.append_eq]) <;> exact rfl) (hd : Nat.blt d C.N = true := by with_unfolding_all exact rfl) :
    OL C ops Q (⟨some d, .makeMap X none, T, pos, af, none⟩ :: rest) ρ η := by
  rintro a w ⟨m, γ, ρc, hE, hR, hI⟩
  have hK := Keep.alloc m w (.map #[] 0) 0
  have hl := hI.heap.len
  subst hη
  refine Cx.lcons (wl_value (v := .map (some w.heap.size)) (w' := w.alloc (.map #[] 0)) rfl ?_ (kk _ _ ⟨_, _, _, hE.put _ (by simpa using hd), ⟨rfl, .mp (by rw [← hk, ← hl]; exact get_last), hR.mono hK.ext (.app _ _)⟩,
    hI.new hK ⟨w.heap.size, [], rfl, by simp, ⟨#[], 0, heap_alloc_new w _, rfl⟩, rfl, by simp⟩ (fun b hb => by simp [blk] at hb; omega)⟩))
  simp [execOp, RowKit.run_makeMap]
theorem OL.mapNewC {i K : Nat} {es : List (Int × AV)} {k : Int} {u : AV} (kk : OL C ops Q rest ρ η2) (hop : op = .mapUpdate X x y z ∨ op = .insert X x y z) (hn : afind k es = none) (hs : (C.tab X).map (·.sh) = some (.map K E) := by with_unfolding_all exact rfl) (hkt : (C.tab K).map (·.sh) = some (.int .i64) := by with_unfolding_all exact rfl)
    (hx : ev2 ρ x = some (.mp i) := by with_unfolding_all exact rfl) (ho : η[i]? = some (.mo es) := by with_unfolding_all exact rfl) (hy : ev2 ρ y = some (.raw (.int .i64 k)) := by with_unfolding_all exact rfl) (hz : ev2 ρ z = some u := by with_unfolding_all exact rfl) (hu : (okc u && pureA u) = true := by with_unfolding_all exact rfl)
    (hη : η.set i (.mo (es ++ [(k, u)])) = η2 := by (try dsimp only [List.set]) <;> exact rfl) :
    OL C ops Q (⟨none, op, T, pos, af, none⟩ :: rest) ρ η := by
  rintro a w ⟨m, γ, ρc, hE', hR, hI⟩
  obtain ⟨u1, g1, g2⟩ := hR.ev hx
  obtain ⟨v, g3, g4⟩ := hR.ev hz
  simp only [Bool.and_eq_true] at hu
  have hone : okV v u := g4.one hu.1
  have hpure := pureA_rep g4 hu.2
  cases g2 with
  | @mp _ _ b hb =>
  obtain ⟨b', l, e, h0, hM, hkeys, hrep⟩ := hI.heap.ok i _ _ hb ho
  cases e
  obtain ⟨ut, uk⟩ := map_of hs hkt
  haveI : IntTy C.P K .i64 := ⟨uk⟩
  obtain ⟨es', clock, hb', hl⟩ := id hM
  have hck := run_checkInt (P := C.P) (Y := K) (w := w)
  have hlt : b < w.heap.size := (Array.getElem?_eq_some_iff.1 hb').1
  have hmn : mfind k l = none := by
    rcases afind_of k l es hkeys hrep with ⟨a1, _⟩ | ⟨_, _, _, a2, _⟩
    · exact a1
    · rw [hn] at a2; cases a2
  have hother : ∀ (o : Obj) (j : Nat), j ≠ b → (w.heap.setIfInBounds b o)[j]? = w.heap[j]? := fun o j hj => by rw [Array.getElem?_setIfInBounds_ne (by omega)]
  subst hη
  rcases findNow_of k es'.toList l 0 hl with ⟨e1, e2⟩ | ⟨v', j, e1, e2⟩
  · have hT : W.Touch (some b) m w m { w with heap := w.heap.setIfInBounds b (.map (es'.push ⟨.int .i64 k, v, clock⟩) (clock + 1)) } :=
      ⟨⟨rfl, rfl, rfl, by simp, fun i _ hi => hother _ i (by simpa using hi)⟩, fun _ _ _ => rfl, ⟨by simp, fun _ _ => Nat.le_refl _, fun i j c hj hc => by
        have hne : i ≠ b := fun e => by subst e; omega
        rw [World.cell?_of_block (w := w) (hother _ i hne)]; exact hc⟩⟩
    refine Cx.lcons (wl_skip (w' := { w with heap := w.heap.setIfInBounds b (.map (es'.push ⟨.int .i64 k, v, clock⟩) (clock + 1)) }) rfl ?_ (kk _ _ ⟨m, γ, ρc, by simpa [Act.put] using hE', hR.mono hT.ext (.refl _), hI.put (o' := .mo (es ++ [(k, u)])) hb ho hT ⟨b, l ++ [(k, v)], rfl, h0, ⟨es'.push ⟨.int .i64 k, v, clock⟩, clock + 1, by simp [hlt], by simp [hl]⟩, by simp [hkeys], fun j p q hp hq => ?_⟩ (.inl rfl)⟩))
    · rcases hop with rfl | rfl <;> simp [execOp, hE'.ev g1, hE'.ev (hR.raw hy), hE'.ev g3, Instr.mapUpdate, run_underlying ut, MapKept.run_getObj_map hb', hck, Instr.findKey, run_underlying uk, e2, MapKept.run_setObj_map _ hb']
    · have hll : l.length = es.length := by simpa using congrArg List.length hkeys
      rcases get_snoc hp with hp | ⟨e1, rfl⟩
      · rcases get_snoc hq with hq | ⟨e2, rfl⟩
        · exact ⟨(hrep j p q hp hq).1.mono hT.ext (.refl _), (hrep j p q hp hq).2⟩
        · have := (List.getElem?_eq_some_iff.1 hp).1; omega
      · rcases get_snoc hq with hq | ⟨_, rfl⟩
        · have := (List.getElem?_eq_some_iff.1 hq).1; omega
        · exact ⟨hpure.mono hT.ext (.refl _), hone⟩
  · rw [hmn] at e1; cases e1
theorem OL.mapNew {i K : Nat} {es : List (Int × AV)} {k : Int} {u : AV} (kk : OL C ops Q rest ρ η2) (hn : afind k es = none) (hs : (C.tab X).map (·.sh) = some (.map K E) := by with_unfolding_all exact rfl) (hkt : (C.tab K).map (·.sh) = some (.int .i64) := by with_unfolding_all exact rfl)
    (hx : ev2 ρ x = some (.mp i) := by with_unfolding_all exact rfl) (ho : η[i]? = some (.mo es) := by with_unfolding_all exact rfl) (hy : ev2 ρ y = some (.raw (.int .i64 k)) := by with_unfolding_all exact rfl) (hz : ev2 ρ z = some u := by with_unfolding_all exact rfl) (hu : (okc u && pureA u) = true := by with_unfolding_all exact rfl)
    (hη : η.set i (.mo (es ++ [(k, u)])) = η2 := by (try dsimp only [List.set]) <;> exact rfl) :
    OL C ops Q (⟨none, .mapUpdate X x y z, T, pos, af, none⟩ :: rest) ρ η := OL.mapNewC kk (.inl rfl) hn hs hkt hx ho hy hz hu hη
theorem OL.mapIns {i K : Nat} {es : List (Int × AV)} {k : Int} {u : AV} (kk : OL C ops Q rest ρ η2) (hn : afind k es = none) (hs : (C.tab X).map (·.sh) = some (.map K E) := by with_unfolding_all exact rfl) (hkt : (C.tab K).map (·.sh) = some (.int .i64) := by with_unfolding_all exact rfl)
    (hx : ev2 ρ x = some (.mp i) := by with_unfolding_all exact rfl) (ho : η[i]? = some (.mo es) := by with_unfolding_all exact rfl) (hy : ev2 ρ y = some (.raw (.int .i64 k)) := by with_unfolding_all exact rfl) (hz : ev2 ρ z = some u := by with_unfolding_all exact rfl) (hu : (okc u && pureA u) = true := by with_unfolding_all exact rfl)
    (hη : η.set i (.mo (es ++ [(k, u)])) = η2 := by (try dsimp only [List.set]) <;> exact rfl) :
    OL C ops Q (⟨none, .insert X x y z, T, pos, af, none⟩ :: rest) ρ η := OL.mapNewC kk (.inr rfl) hn hs hkt hx ho hy hz hu hη
theorem OL.build {fs pls : List (Nat × Nat)} {te : TyE} {parts : List (Nat × Operand)} {us zs cs0 cs : List AV} (kk : OL C ops Q rest ((d, .st cs) :: ρ) η) (ht : C.tab X = some te := by with_unfolding_all exact rfl) (hsh : te.sh = .strct fs := by with_unfolding_all exact rfl)
    (hl : evs2 ρ (parts.map (·.2)) = some us := by with_unfolding_all exact rfl) (hz : rawL te.zero.cells.toList = some zs := by with_unfolding_all exact rfl) (hp : placesL C.tab fs = some pls := by with_unfolding_all exact rfl) (hf : fillA (fun i => pls[i]?) zs ((parts.map (·.1)).zip us) = some cs0 := by with_unfolding_all exact rfl) (hc : cs0 = cs := by (try dsimp only [putA, AV.cells]) <;> exact rfl) (hd : Nat.blt d C.N = true := by with_unfolding_all exact rfl) :
    OL C ops Q (⟨some d, .build X parts.toArray, T, pos, af, none⟩ :: rest) ρ η := by
  subst hc
  refine OL.give (fun m w γ ρc a hE hR hH => ?_) hd kk
  obtain ⟨vs, g1, g2⟩ := hR.evs hl
  obtain ⟨dd, hu, hd'⟩ := (C.hT X te ht).sh
  rw [hsh] at hd'
  obtain ⟨fields, rfl, hfs⟩ := hd'
  obtain ⟨inf, i1, i2, i3, i4, i5⟩ := (C.hT X te ht).info
  have hul : us.length = parts.length := by
    have := g2.len
    have e2 := congrArg List.length (hE.evs g1)
    simp at e2
    omega
  have hp2 : ((parts.map (·.1)).zip us).map (·.2) = us := by rw [List.map_snd_zip]; simp; omega
  have hp1 : ((parts.map (·.1)).zip us).map (·.1) = parts.map (·.1) := by rw [List.map_fst_zip]; simp; omega
  subst hfs
  have hpl := placesL_run C.hT _ _ hp
  obtain ⟨os, o1, o2⟩ := fillA_run (γ := γ) (m := m) (w := w) _ vs zs cs0 te.zero.cells.toList (rawL_rep hz) (by rw [hp2]; exact g2) hf
  rw [hp1] at o1
  have hb : C.P.built X ((parts.map (·.1)).zip vs) = some os := by
    unfold Program.built
    simp only [i1, hu, i4, hpl]
    simpa using o1
  refine ⟨.agg os, ?_, fun {m' w'} _ _ _ _ _ _ => ?_⟩
  · have : Rep m w γ (.agg os.toList.toArray) (.st cs0) := .st o2.1 o2.2.1 o2.2.2
    simpa using this
  · have he : ((parts.map fun p => (p.1, a.eval p.2))) = (parts.map (·.1)).zip vs := by
      rw [← hE.evs g1]
      clear hp2 hp1 hf g1 g2 o1 hb hl hul
      induction parts with
      | nil => rfl
      | cons p r ih => simp [ih]
    rw [← he] at hb
    have hr := run_build (P := C.P) w' X (parts.map fun p => (p.1, a.eval p.2)).toArray os hb
    simp only [execOp]
    have e2 : (parts.toArray.map fun (x : Nat × Operand) => (x.1, a.eval x.2)) = (parts.map fun p => (p.1, a.eval p.2)).toArray := by simp
    rw [e2]
    simp [hr]
/-! ## Variables that are read for good from now on -/
theorem Wk.frzBox {t i E : Nat} {cs : List AV} (hx : lk ρ t = some (.bp i 0)) (ho : η[i]? = some (.cb E cs)) (hp : cs.all pureA = true) : Wk C ρ η ((t, .ep cs 0) :: ρ) (η.set i .dead) := by
  rintro a w ⟨m, γ, ρc, hE, hR, hI⟩
  obtain ⟨u, g1, g2⟩ := hR.look hx
  cases g2 with
  | @bp _ _ _ b hb =>
  obtain ⟨b', vs, e, hB, hC⟩ := hI.heap.ok i _ _ hb ho
  cases e
  obtain ⟨hx1, hcell⟩ := hB.freeze
  have hT := hB.frz
  refine ⟨_, γ, (t, .pointer (some ⟨b, 0, none⟩)) :: ρc, ⟨hE.size, hE.defers, fun s q hs => ?_⟩, ⟨rfl, ?_, hR.mono hx1 (.refl _)⟩, hI.put (o' := .dead) hb ho hT trivial (.inr rfl)⟩
  · simp only [W.look] at hs
    cases hb' : Nat.beq t s with
    | true =>
      rw [hb'] at hs
      simp at hs
      subst hs
      rw [← Nat.eq_of_beq_eq_true hb']
      exact hE.look _ _ g1
    | false => rw [hb'] at hs; exact hE.look _ _ (by simpa using hs)
  · have := Rep.ep (γ := γ) (o := 0) hcell hC.1 hC.2.1 (fun j v c h1 h2 => (pureA_rep (hC.2.2 j v c h1 h2) (List.all_eq_true.1 hp c (List.mem_of_getElem? h2))).mono hx1 (.refl _))
    simpa using this
theorem TC.frzB {i E : Nat} {cs : List AV} (t : Nat) (k : TC C Q A ((t, .ep cs 0) :: ρ) η2) (hx : lk ρ t = some (.bp i 0) := by with_unfolding_all exact rfl) (ho : η[i]? = some (.cb E cs) := by with_unfolding_all exact rfl) (hp : cs.all pureA = true := by with_unfolding_all exact rfl) (hη : η.set i .dead = η2 := by (try dsimp only [List.set]) <;> exact rfl) : TC C Q A ρ η := by
  subst hη; exact TC.wk (Wk.frzBox hx ho hp) k
theorem OL.frzB {i E : Nat} {cs : List AV} (t : Nat) (k : OL C ops Q rest ((t, .ep cs 0) :: ρ) η2) (hx : lk ρ t = some (.bp i 0) := by with_unfolding_all exact rfl) (ho : η[i]? = some (.cb E cs) := by with_unfolding_all exact rfl) (hp : cs.all pureA = true := by with_unfolding_all exact rfl) (hη : η.set i .dead = η2 := by (try dsimp only [List.set]) <;> exact rfl) : OL C ops Q rest ρ η := by
  subst hη; exact OL.wk (Wk.frzBox hx ho hp) k
theorem Wk.viewCell {i o k E E2 sz : Nat} {cs : List AV} {fz nl} {xs : List AV} (ho : η[i]? = some (.cb E cs)) (hc : cs[o]? = some (.hs k)) (hk : η[k]? = some (.gs fz E2 sz nl xs)) : Wk C ρ η ρ ((η.set k (.gs true E2 sz nl xs)).set i (.cb E (cs.set o (.sl sz none xs)))) := by
  rintro a w ⟨m, γ, ρc, hE, hR, hI⟩
  obtain ⟨v, hv, _⟩ := hI.heap.get hk
  obtain ⟨m', h1, h2, h3⟩ := hI.freeze hv hk
  have hne : k ≠ i := by intro e; subst e; rw [ho] at hk; cases hk
  have ho' : (η.set k (.gs true E2 sz nl xs))[i]? = some (.cb E cs) := by rw [List.getElem?_set_ne hne]; exact ho
  obtain ⟨u, hu, hok⟩ := h3.heap.get ho'
  obtain ⟨b, vs, rfl, hB, hC⟩ := hok
  refine ⟨m', γ, ρc, hE, hR.mono h1 (.refl _), h3.put (o' := .cb E (cs.set o (.sl sz none xs))) hu ho' ((Keep.refl m' w).touch _) ?_ (.inl rfl)⟩
  have hlt : o < vs.length := by rw [hC.1]; exact (List.getElem?_eq_some_iff.1 hc).1
  have hrep := hC.2.2 o _ _ (List.getElem?_eq_getElem hlt) hc
  have hvo : γ[k]? = some vs[o] := hrep.hs_get.1
  rw [hv] at hvo
  cases hvo
  refine ⟨b, vs, rfl, hB, by simpa using hC.1, hC.2.1, fun j v c hj hcj => ?_⟩
  rw [List.getElem?_set] at hcj
  split at hcj
  · rename_i e
    subst e
    split at hcj
    · cases hcj
      rw [List.getElem?_eq_getElem hlt] at hj
      cases hj
      exact Rep.of_rs h2.rs (NL.none _)
    · cases hcj
  · exact hC.2.2 j v c hj hcj
theorem TC.vwC {k E E2 sz : Nat} {cs : List AV} {fz nl} {xs : List AV} (i o : Nat) (kk : TC C Q A ρ η2) (ho : η[i]? = some (.cb E cs) := by with_unfolding_all exact rfl) (hc : cs[o]? = some (.hs k) := by with_unfolding_all exact rfl) (hk : η[k]? = some (.gs fz E2 sz nl xs) := by with_unfolding_all exact rfl) (hη : (η.set k (.gs true E2 sz nl xs)).set i (.cb E (cs.set o (.sl sz none xs))) = η2 := by (try dsimp only [List.set]) <;> exact rfl) : TC C Q A ρ η := by
  subst hη; exact TC.wk (Wk.viewCell ho hc hk) kk
end
end Go.V
namespace Go.V
open Go Go.W
section
variable {C : Cx} {ops : Array Oper} {Q : Qt} {ρ : Ro} {η : Eta} {rest : List Oper} {T d : Nat} {pos : String} {af : Array Edge} {x : Operand} {M : Bool} {fi fuel : Nat} {l : List Oper} {listed : Array Bool} {g : Option (Nat × Bool)}
theorem NextBy.at (i : Nat) (h : NextBy C M fi l Q fuel listed ρ η i) : NextBy C M fi l Q fuel listed ρ η i := h
theorem OD.s1 {op : Op} {u : AV} (i : Nat) (k : OD C M fi l.toArray Q fuel (listed.setIfInBounds i true) ((d, u) :: ρ) η) (hi : l[i]? = some ⟨some d, op, T, pos, af, g⟩ := by with_unfolding_all exact rfl) (hg : GB l.toArray ρ g true := by first | with_unfolding_all exact rfl | with_unfolding_all exact ⟨_, _, rfl, rfl, rfl⟩) (h : Gives C.P C.N C.D op ρ η u := by exact gv) (hd : Nat.blt d C.N = true := by with_unfolding_all exact rfl) (hrd : Region.ready .any l.toArray listed = [i] := by kernel_rfl) : OD C M fi l.toArray Q (fuel + 1) listed ρ η := OD.n1 i (One.st h hd) k hi hg hrd
theorem OL.ch {P : Program} {f : Nat} {fn : Func} {us as : List AV} {r r2} {η1 η1' η2 : Eta} {args : List Operand} {at_ : Array TypeId} (is : List Nat) (hs : Spec P f as η1 r η1') (hf : P.funcs[f]? = some fn) (k : OL C ops Q rest ((d, r2) :: ρ) η2)
    (hP : C.P = P := by with_unfolding_all exact rfl) (hb : (fn.body.isNone || fn.name == "runtime.NumGoroutine") = false := by with_unfolding_all exact rfl) (hl : evs2 ρ args = some us := by with_unfolding_all exact rfl)
    (hn : nodB is = true := by with_unfolding_all exact rfl)
    (ho : SubO (ts is) η is η1 := by repeat' (first | with_unfolding_all exact trivial | exact OE.ren (by with_unfolding_all exact rfl) | with_unfolding_all exact OE.gs | with_unfolding_all refine And.intro ⟨_, by with_unfolding_all exact rfl, ?_⟩ ?_))
    (hle : LEs (ts is) us as := by repeat' (first | with_unfolding_all exact trivial | exact LE.ren (by with_unfolding_all exact rfl) | with_unfolding_all exact LE.sl | with_unfolding_all exact LE.nil (by decide) | with_unfolding_all refine And.intro ?_ ?_)) (hd : Nat.blt d C.N = true := by with_unfolding_all exact rfl)
    (hr : ren (back is η.length) r = r2 := by (try simp only [ren, ren0, ren1, ren2, back, Nat.blt, Nat.ble, cond_true, cond_false, List.map, List.length, List.getElem?_cons_succ, List.getElem?_cons_zero, List.getElem?_nil, Nat.add_zero, Nat.zero_add, Nat.reduceAdd, Nat.reduceSub]) <;> exact rfl)
    (hη : upd is (η1'.map (renO (back is η.length))) η ++ (η1'.drop is.length).map (renO (back is η.length)) = η2 := by (try simp only [upd, renO, ren, ren0, ren1, ren2, back, Nat.blt, Nat.ble, cond_true, cond_false, List.set, List.drop, List.map, List.length, List.cons_append, List.nil_append, List.append_nil, List.getElem?_cons_succ, List.getElem?_cons_zero, List.getElem?_nil, Nat.add_zero, Nat.zero_add, Nat.reduceAdd, Nat.reduceSub]) <;> exact rfl) :
    OL C ops Q (⟨some d, .call ⟨.value (.func f), args.toArray, at_⟩, T, pos, af, none⟩ :: rest) ρ η := by
  subst hP
  exact OL.call is hs hf hb hl hn ho hle hd hr hη k
end
end Go.V
namespace Go.V
open Go Go.W
section
variable {C : Cx} {ops : Array Oper} {Q : Qt} {ρ ρ' : Ro} {η η' η2 : Eta} {rest : List Oper} {T d X Y : Nat} {pos : String} {af : Array Edge} {op : Op} {x y z : Operand} {A K : Code} {e : Exit}
theorem OL.make {E k l c : Nat} {i j : Int} {te : TyE} {zc : Value} {u u0 : AV} (kk : OL C ops Q rest ((d, .hs k) :: ρ) η2) (hu : ∀ m w γ, Rep m w γ zc u0)
    (hs : (C.tab X).map (·.sh) = some (.slice E) := by with_unfolding_all exact rfl) (hE : C.tab E = some te := by with_unfolding_all exact rfl) (hz : te.size = 1 := by with_unfolding_all exact rfl) (hzc : te.zero.cells = #[zc] := by with_unfolding_all exact rfl) (hone : zc.oneCell' = true := by with_unfolding_all exact rfl) (hul : u.cells = [u0] := by with_unfolding_all exact rfl)
    (hx : ev2 ρ x = some (.raw (.int .i64 i)) := by with_unfolding_all exact rfl) (hy : ev2 ρ y = some (.raw (.int .i64 j)) := by with_unfolding_all exact rfl)
    (hk : η.length = k := by (try dsimp only [List.length]) <;> exact rfl) (hi : i = (l : Int) := by first | rfl | omega) (hj : j = (c : Int) := by first | rfl | omega) (hη : η ++ [.gs false E 1 (some false) (List.replicate l u)] = η2 := by (try dsimp only [List.cons_append, List.nil_append, List.append_eq, List.replicate]) <;> exact rfl) (hd : Nat.blt d C.N = true := by with_unfolding_all exact rfl)
    (hlc : l ≤ c := by omega) (h0 : 0 < c := by omega) (hc : c ≤ 16777216 := by omega) (hbt : te.bytes * c ≤ 16777216 := by (first | omega | (simp only [TyE.bytes]; omega))) :
    OL C ops Q (⟨some d, .makeSlice X x y, T, pos, af, none⟩ :: rest) ρ η := by
  rintro a w ⟨m, γ, ρc, hE', hR, hI⟩
  obtain ⟨inf, i1, i2, i3, i4, i5⟩ := (C.hT E te hE).info
  obtain ⟨dd, hu', hd'⟩ := shOf C.hT hs
  obtain rfl : dd = _ := hd'
  haveI : SliceTy C.P X E := ⟨hu'⟩
  haveI : ElemTy C.P E 1 te.bytes te.zero := ⟨inf, i1, i2.trans hz, i3, i4, i5.trans hz, Nat.one_pos⟩
  subst hi hj hη
  have hK := Keep.alloc m w (.cells (List.replicate c zc).toArray E) 0
  have hKm : Ext m w (mset (mset m w.heap.size 0) w.heap.size l) (w.alloc (.cells (List.replicate c zc).toArray E)) := by
    have := Keep.alloc m w (.cells (List.replicate c zc).toArray E) l
    have e : mset (mset m w.heap.size 0) w.heap.size l = mset m w.heap.size l := by funext b; simp only [mset]; split <;> rfl
    rw [e]; exact this.ext
  have hl0 := hI.heap.len
  have hob : ownB (.slice (some ⟨w.heap.size, 0, none⟩) l c) = some w.heap.size := by
    obtain ⟨c', rfl⟩ : ∃ c', c = c' + 1 := ⟨c - 1, by omega⟩
    simp [ownB]
  have hown : W.Own E 1 (CK (mset m w.heap.size 0) (w.alloc (.cells (List.replicate c zc).toArray E))) (mset (mset m w.heap.size 0) w.heap.size l) (w.alloc (.cells (List.replicate c zc).toArray E)) (.slice (some ⟨w.heap.size, 0, none⟩) l c) (List.replicate l u) := by
    refine .inr (.inr ⟨w.heap.size, c, _, by simp, h0, heap_alloc_new w _, by simpa using hlc, by have : maxLen = 9223372036854775807 := rfl; omega, by simp, by simp, fun i x hx => ?_⟩)
    have hi : i < l := by
      have := (List.getElem?_eq_some_iff.1 hx).1
      simpa using this
    have : x = u := by
      rw [List.getElem?_replicate, if_pos hi] at hx
      cases hx; rfl
    subst this
    refine ⟨[zc], rfl, fun j v hj => ?_, by rw [hul]; rfl, by simpa using hone, fun j v c' h1 h2 => ?_⟩
    · cases j with
      | zero =>
        simp at hj
        subst hj
        have hic : i < c := by omega
        simp [hic]
      | succ j => simp at hj
    · rw [hul] at h2
      cases j with
      | zero => simp at h1 h2; subst h1 h2; exact hu _ _ _
      | succ j => simp at h1
  refine Cx.lcons (wl_value (v := .slice (some ⟨w.heap.size, 0, none⟩) l c) (w' := w.alloc (.cells (List.replicate c zc).toArray E)) rfl ?_ (kk _ _ ⟨_, _, _, hE'.put _ (by simpa using hd), ⟨rfl, .hs (by rw [← hk, ← hl0]; exact get_last), hR.mono hK.ext (.app _ _)⟩,
    hI.new hK ⟨⟨_, hown, fun b hb => mset_ne (fun e => hb (by rw [e, hob])), fun b hb => by rw [hob] at hb; cases hb; simp⟩, ⟨nofun, fun _ => by simp⟩, fun x hx => by rw [List.eq_of_mem_replicate hx, hul]; rfl⟩ (fun b hb => by simp only [blk] at hb; rw [hob] at hb; cases hb; exact Nat.le_refl _)⟩))
  exact run_make1 hE' (hR.raw hx) (hR.raw hy) hlc hzc hbt hc
theorem Wk.adoptCell {i o k T E sz : Nat} {cs : List AV} (ho : η[i]? = some (.cb T cs)) (hc : cs[o]? = some (.raw (.slice none 0 0))) (hk : η.length = k) : Wk C ρ η ρ (η.set i (.cb T (cs.set o (.hs k))) ++ [.gs false E sz (some true) []]) := by
  rintro a w ⟨m, γ, ρc, hE, hR, hI⟩
  have hl := hI.heap.len
  have hnew : In C.B m w (γ ++ [.slice none 0 0]) (η ++ [.gs false E sz (some true) []]) := hI.new (.refl _ _) ⟨⟨m, .nil, fun _ _ => rfl, fun b hb => by simp [ownB] at hb⟩, ⟨fun _ => rfl, nofun⟩, by simp⟩ (fun b hb => by simp [blk, ownB] at hb)
  have hilt : i < η.length := (List.getElem?_eq_some_iff.1 ho).1
  have ho' : (η ++ [.gs false E sz (some true) []])[i]? = some (.cb T cs) := by rw [List.getElem?_append_left hilt]; exact ho
  obtain ⟨u, hu, hok⟩ := hnew.heap.get ho'
  obtain ⟨b, vs, rfl, hB, hC⟩ := hok
  have hset : (η ++ [AO.gs false E sz (some true) []]).set i (.cb T (cs.set o (.hs k))) = η.set i (.cb T (cs.set o (.hs k))) ++ [.gs false E sz (some true) []] := by rw [List.set_append_left _ _ hilt]
  rw [← hset]
  refine ⟨m, γ ++ [.slice none 0 0], ρc, hE, hR.mono (.refl _ _) (.app _ _), hnew.put (o' := .cb T (cs.set o (.hs k))) hu ho' ((Keep.refl m w).touch _) ?_ (.inl rfl)⟩
  have hlt : o < vs.length := by rw [hC.1]; exact (List.getElem?_eq_some_iff.1 hc).1
  have hrep := hC.2.2 o _ _ (List.getElem?_eq_getElem hlt) hc
  have hvo : vs[o] = .slice none 0 0 := hrep.raw_eq
  refine ⟨b, vs, rfl, hB, by simpa using hC.1, hC.2.1, fun j v c hj hcj => ?_⟩
  rw [List.getElem?_set] at hcj
  split at hcj
  · rename_i e
    subst e
    split at hcj
    · cases hcj
      rw [List.getElem?_eq_getElem hlt] at hj
      cases hj
      rw [hvo]
      exact .hs (by rw [← hk, ← hl]; exact get_last)
    · cases hcj
  · exact hC.2.2 j v c hj hcj
theorem TC.adpC {k T : Nat} {cs : List AV} (i o E sz : Nat) (kk : TC C Q A ρ η2) (ho : η[i]? = some (.cb T cs) := by with_unfolding_all exact rfl) (hc : cs[o]? = some (.raw (.slice none 0 0)) := by with_unfolding_all exact rfl) (hk : η.length = k := by (try dsimp only [List.length]) <;> exact rfl) (hη : η.set i (.cb T (cs.set o (.hs k))) ++ [.gs false E sz (some true) []] = η2 := by (try dsimp only [List.set, List.cons_append, List.nil_append, List.append_eq]) <;> exact rfl) : TC C Q A ρ η := by
  subst hη; exact TC.wk (Wk.adoptCell ho hc hk) kk
theorem OL.buildA {n E sz : Nat} {te : TyE} {parts : List (Nat × Operand)} {us zs cs0 cs : List AV} (kk : OL C ops Q rest ((d, .st cs) :: ρ) η) (ht : C.tab X = some te := by with_unfolding_all exact rfl) (hsh : te.sh = .array n E := by with_unfolding_all exact rfl) (hsz : (C.tab E).map (·.size) = some sz := by with_unfolding_all exact rfl)
    (hl : evs2 ρ (parts.map (·.2)) = some us := by with_unfolding_all exact rfl) (hz : rawL te.zero.cells.toList = some zs := by with_unfolding_all exact rfl) (hf : fillA (fun i => some (i * sz, sz)) zs ((parts.map (·.1)).zip us) = some cs0 := by with_unfolding_all exact rfl) (hc : cs0 = cs := by (try dsimp only [putA, AV.cells]) <;> exact rfl) (hd : Nat.blt d C.N = true := by with_unfolding_all exact rfl) :
    OL C ops Q (⟨some d, .build X parts.toArray, T, pos, af, none⟩ :: rest) ρ η := by
  subst hc
  refine OL.give (fun m w γ ρc a hE hR hH => ?_) hd kk
  obtain ⟨vs, g1, g2⟩ := hR.evs hl
  obtain ⟨dd, hu, hd'⟩ := (C.hT X te ht).sh
  rw [hsh] at hd'
  obtain rfl : dd = _ := hd'
  obtain ⟨inf, i1, i2, i3, i4, i5⟩ := (C.hT X te ht).info
  obtain ⟨ie, j1, j2⟩ := sizeOf' C.hT hsz
  have hul : us.length = parts.length := by
    have := g2.len
    have e2 := congrArg List.length (hE.evs g1)
    simp at e2
    omega
  have hp2 : ((parts.map (·.1)).zip us).map (·.2) = us := by rw [List.map_snd_zip]; simp; omega
  have hp1 : ((parts.map (·.1)).zip us).map (·.1) = parts.map (·.1) := by rw [List.map_fst_zip]; simp; omega
  obtain ⟨os, o1, o2⟩ := fillA_run (γ := γ) (m := m) (w := w) _ vs zs cs0 te.zero.cells.toList (rawL_rep hz) (by rw [hp2]; exact g2) hf
  rw [hp1] at o1
  have hb : C.P.built X ((parts.map (·.1)).zip vs) = some os := by
    unfold Program.built
    simp only [i1, hu, i4, j1, j2]
    simpa using o1
  refine ⟨.agg os, ?_, fun {m' w'} _ _ _ _ _ _ => ?_⟩
  · have : Rep m w γ (.agg os.toList.toArray) (.st cs0) := .st o2.1 o2.2.1 o2.2.2
    simpa using this
  · have he : ((parts.map fun p => (p.1, a.eval p.2))) = (parts.map (·.1)).zip vs := by
      rw [← hE.evs g1]
      clear hp2 hp1 hf g1 g2 o1 hb hl hul
      induction parts with
      | nil => rfl
      | cons p r ih => simp [ih]
    rw [← he] at hb
    have hr := run_build (P := C.P) w' X (parts.map fun p => (p.1, a.eval p.2)).toArray os hb
    simp only [execOp]
    have e2 : (parts.toArray.map fun (x : Nat × Operand) => (x.1, a.eval x.2)) = (parts.map fun p => (p.1, a.eval p.2)).toArray := by simp
    rw [e2]
    simp [hr]
end
end Go.V
namespace Go.V
open Go Go.W
section
variable {C : Cx} {ops : Array Oper} {Q : Qt} {ρ ρ' : Ro} {η η' η2 : Eta} {rest : List Oper} {T d X Y : Nat} {pos : String} {af : Array Edge} {op : Op} {x y z : Operand} {A K : Code} {e : Exit}
theorem OL.isNil {sz E : Nat} {nl} {xs : List AV} (h1 : xs = [] → OL C ops Q rest ((d, .raw (.bool true)) :: ρ) η) (h2 : OL C ops Q rest ((d, .raw (.bool false)) :: ρ) η) (hs : (C.tab X).map (·.sh) = some (.slice E) := by with_unfolding_all exact rfl)
    (hx : ev2 ρ x = some (.sl sz nl xs) := by with_unfolding_all exact rfl) (hd : Nat.blt d C.N = true := by with_unfolding_all exact rfl) :
    OL C ops Q (⟨some d, .binOp .eql X x (.const (.slice none 0 0)) Y, T, pos, af, none⟩ :: rest) ρ η := by
  rintro a w ⟨m, γ, ρc, hE, hR, hI⟩
  obtain ⟨v, g1, g2⟩ := hR.ev hx
  obtain ⟨dd, hu, hd'⟩ := shOf C.hT hs
  obtain rfl : dd = _ := hd'
  rcases g2.rs.1 with ⟨rfl, rfl⟩ | ⟨b, o, cap, rfl, h3, _, _⟩ | ⟨aw, rfl, rfl⟩
  · refine Cx.lcons (wl_value (v := .bool true) rfl ?_ (h1 rfl _ _ ⟨m, γ, _, hE.put _ (by simpa using hd), ⟨rfl, .raw rfl, hR⟩, hI⟩))
    have he : a.eval (.const (.slice none 0 0)) = .slice none 0 0 := rfl
    simp [execOp, hE.ev g1, he, eqGuard, Lib.run_eql_slice_nil w X E none 0 0 0 0 hu]
  · refine Cx.lcons (wl_value (v := .bool false) rfl ?_ (h2 _ _ ⟨m, γ, _, hE.put _ (by simpa using hd), ⟨rfl, .raw rfl, hR⟩, hI⟩))
    have he : a.eval (.const (.slice none 0 0)) = .slice none 0 0 := rfl
    simp [execOp, hE.ev g1, he, eqGuard, Lib.run_eql_slice_nil w X E (some ⟨b, o, none⟩) xs.length cap 0 0 hu]
  · refine Cx.lcons (wl_value (v := .bool false) rfl ?_ (h2 _ _ ⟨m, γ, _, hE.put _ (by simpa using hd), ⟨rfl, .raw rfl, hR⟩, hI⟩))
    have he : a.eval (.const (.slice none 0 0)) = .slice none 0 0 := rfl
    simp [execOp, hE.ev g1, he, eqGuard, Lib.run_eql_slice_nil w X E (some aw) 0 0 0 0 hu]
theorem TX.adp {k : Nat} (t E sz : Nat) (kk : TX C Q e ((t, .hs k) :: ρ) η2) (hx : lk ρ t = some (.raw (.slice none 0 0)) := by with_unfolding_all exact rfl) (hk : η.length = k := by (try dsimp only [List.length]) <;> exact rfl) (hη : η ++ [.gs false E sz (some true) []] = η2 := by (try dsimp only [List.cons_append, List.nil_append, List.append_eq]) <;> exact rfl) : TX C Q e ρ η := by
  subst hη; exact TX.wk (Wk.adopt hx hk) kk
end
end Go.V
