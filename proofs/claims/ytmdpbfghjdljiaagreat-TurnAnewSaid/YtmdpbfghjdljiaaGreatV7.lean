/- Part 7 of what the claim is proved by: lemmas on the model and walks through functions of the program; no conditions. -/
import Derived.Test.YtmdpbfghjdljiaaGreatV6
import Derived.RangeFuncNested
import Derived.RangeFuncFrom
import Derived.RangeFuncCalls
import Derived.OwnWalkIn
import Derived.LoopNIn
import Derived.LoopIn
namespace Go.W
open Go
abbrev WF (r : Option Nat) : Fence := { Fence.wide with round := r }
section
variable {P : Program} {ops : Array Oper} {Q : Exit → Act → World → Prop} {Kc : Act → World → Prop} {w : World} {a : Act} {r : Option Nat} {n : Nat}
theorem not_defer {o : Oper} {nx : Next} {w' : World} (h : (execOp a.eval o).run P w = .ok nx w') (hn : ∀ d, nx ≠ .defer d) : ∀ c, o.op ≠ .defer c := by
  intro c hc
  simp only [execOp, hc, Sem.run_bind] at h
  cases hr : (resolve a.eval c o.type).run P w with
  | ok d w1 => rw [hr] at h; simp [Result.andThen] at h; exact hn d h.1.symm
  | halt e w1 => rw [hr] at h; simp [Result.andThen] at h
theorem Does.wpIn {o : Oper} {K : Act → World → Prop} (h : Does P o K a w) : o.wpIn (WF r) n P a w K Q := by
  refine ⟨fun _ _ => trivial, ?_⟩
  rcases h with ⟨v, w', h1, h2⟩ | ⟨w', h1, h2⟩ | ⟨f, args, h1, h2⟩
  · rw [Oper.semAt_plain _ _ _ (not_defer h1 (by simp)), h1]; exact h2
  · rw [Oper.semAt_plain _ _ _ (not_defer h1 (by simp)), h1]; exact h2
  · rw [Oper.semAt_plain _ _ _ (not_defer h1 (by simp)), h1, Oper.uponIn_enter]
    refine ⟨fun hd => (by cases hd), CallsIn.mono (show CallsIn (WF r) (n - 1) P f args w _ from (callsIn_wide (n := n - 1)).2 h2) (fun e w'' ⟨v, he, hk⟩ => ?_)⟩
    subst he
    exact hk
theorem OpK.wpIn {o : Oper} {rest : List Oper} (h : OpK P ops Q o (wpListIn (WF r) n P ops Q rest) a w) : wpListIn (WF r) n P ops Q (o :: rest) a w := by
  unfold OpK at h
  unfold wpListIn
  split
  · rename_i hw; rw [if_pos hw] at h; exact h.wpIn
  · rename_i hw; rw [if_neg hw] at h; exact ⟨fun _ _ => trivial, h⟩
/-! ### Control -/
variable {F : Fence} {A B : Code} {id id' : Nat} {lo : List Oper} {x : Operand} {N : Nat} {D : List Deferred} {ρ : List (Nat × Value)} {nx : Act → World → Prop}
theorem i_lcons {o : Oper} {rest : List Oper} (h : OpK P ops Q o (wpListIn (WF r) n P ops Q rest) a w) : wpListIn (WF r) n P ops Q (o :: rest) a w := h.wpIn
theorem i_fin (h : nx a w) : wpListIn F n P ops (Exit.then nx Q) [] a w := h
/-! ### A function that holds a range over a function -/
theorem enterM {f : FuncId} {fn : Func} {c : Code} {args : Array Value} {R : Ending → World → Prop} (k : Nat) (ρ : List (Nat × Value)) (hf : P.funcs[f]? = some fn) (hb : fn.body = some c) (hN : fn.ntmps = N)
    (hρ : zipA 0 args.toList = ρ) (ha : args.size ≤ N) (h : ∀ a, Env N [] a ρ → c.wp P (bodyPostM Fence.wide k P fn R) a w) : Calls P f args w R := by
  refine callsIn_wide.1 (callsIn_of_wp_marks (F := Fence.wide) (n := k) hf hb trivial (wpIn_wide.2 (h _ ⟨by simp [hN]; omega, rfl, ?_⟩)))
  intro t v ht
  subst hρ
  obtain ⟨_, h2⟩ := zipA_look args.toList 0 t v ht
  have h3 : args[t]? = some v := by simpa using h2
  have hlt : t < args.size := by
    rcases Array.getElem?_eq_some_iff.1 h3 with ⟨q, _⟩
    exact q
  simp only [Array.getElem?_append, hlt, if_true]
  exact h3
theorem i_yield {ly d T : Nat} {lst : List Operand} {vs : List Value} {at_ : Array TypeId} {pos : String} {af : Array Edge} {rest : List Oper} {K : Bool → World → Prop} (hF : ∀ f, F.fn f) (hdp : F.depth = none) (hE : Env N D a ρ) (hx : ev ρ x = some (.func (.yield ly) #[] #[])) (hl : evs ρ lst = some vs) (hd : d < N)
    (hY : YieldAt F (n - 1) P ly vs.toArray w fun e w'' => ∃ b, e = .returned (.bool b) ∧ K b w'')
    (k : ∀ b w'', K b w'' → ∀ a', Env N D a' ((d, .bool b) :: ρ) → wpListIn F n P ops Q rest a' w'') :
    wpListIn F n P ops Q (⟨some d, .call ⟨.value x, lst.toArray, at_⟩, T, pos, af, none⟩ :: rest) a w := by
  obtain ⟨fn, tmps, assign, body, hy, hR⟩ := hY
  unfold wpListIn
  rw [if_pos (by simp [Region.wanted])]
  refine ⟨fun f _ => hF f, ?_⟩
  rw [Oper.semAt_plain _ _ _ (by simp)]
  have hrun : (execOp a.eval ⟨some d, .call ⟨.value x, lst.toArray, at_⟩, T, pos, af, none⟩).run P w = .ok (.round ly fn tmps assign body) w := by
    simp [execOp, resolve, hE.ev hx, Deferred.ofValue, invoke, hE.evs hl, hy]
  rw [hrun, Oper.uponIn_round]
  refine ⟨fun h => (by rw [hdp] at h; cases h), hR.mono fun e w'' ⟨b, he, hk⟩ => ?_⟩
  subst he
  exact k b w'' hk _ (hE.put _ hd)
end
end Go.W
namespace Go.V
open Go Go.W
structure Cx where
  P : Program
  tab : Tab
  hT : TabOK P tab
  hm : P.follows .mixedOrders = true
  N : Nat
  D : List Deferred
  B : Base
  n : Nat
  hn : B.γ.length = n
  r : Option (Option Nat) := none
  k : Nat := 0
def Cx.L (C : Cx) (ops : Array Oper) (Q : Exit → Act → World → Prop) (l : List Oper) : Act → World → Prop := match C.r with
  | none => wpList C.P ops Q l
  | some r => wpListIn (WF r) C.k C.P ops Q l
def Cx.W (C : Cx) (c : Code) (Q : Exit → Act → World → Prop) : Act → World → Prop := match C.r with
  | none => c.wp C.P Q
  | some r => c.wpIn (WF r) C.k C.P Q
section
variable {C : Cx} {ops : Array Oper} {Q : Exit → Act → World → Prop} {a : Act} {w : World}
theorem Cx.L_none (h : C.r = none) : C.L = wpList C.P := by funext ops Q l; unfold Cx.L; rw [h]
theorem Cx.L_some {r} (h : C.r = some r) : C.L = wpListIn (WF r) C.k C.P := by funext ops Q l; unfold Cx.L; rw [h]
theorem Cx.W_none (h : C.r = none) : C.W = fun c Q => c.wp C.P Q := by funext c Q; unfold Cx.W; rw [h]
theorem Cx.W_some {r} (h : C.r = some r) : C.W = fun c Q => c.wpIn (WF r) C.k C.P Q := by funext c Q; unfold Cx.W; rw [h]
theorem Cx.lcons {o : Oper} {rest : List Oper} (h : OpK C.P ops Q o (C.L ops Q rest) a w) : C.L ops Q (o :: rest) a w := by
  cases hr : C.r with
  | none => rw [Cx.L_none hr] at h ⊢; exact W.lcons h
  | some r => rw [Cx.L_some hr] at h ⊢; exact W.i_lcons h
theorem Cx.nil (h : Q .normal a w) : C.L ops Q [] a w := by
  cases hr : C.r with
  | none => rw [Cx.L_none hr]; exact h
  | some r => rw [Cx.L_some hr]; exact h
variable {A K : Code} {id : Nat} {x : Operand}
theorem Cx.region {l : List Oper} (h : C.L l.toArray Q l a w) : C.W (.region id l.toArray false) Q a w := by
  cases hr : C.r with
  | none => rw [Cx.L_none hr] at h; rw [Cx.W_none hr]; exact wp_region_lit h
  | some r => rw [Cx.L_some hr] at h; rw [Cx.W_some hr]; exact wpIn_region_lit h
theorem Cx.seq (h : C.W A (Exit.then (C.W K Q) Q) a w) : C.W (A.seq K) Q a w := by
  cases hr : C.r with
  | none => rw [Cx.W_none hr] at h ⊢; exact wp_seq h
  | some r => rw [Cx.W_some hr] at h ⊢; exact wpIn_seq h
theorem Cx.skip (h : Q .normal a w) : C.W .skip Q a w := by
  cases hr : C.r with
  | none => rw [Cx.W_none hr]; exact wp_skip h
  | some r => rw [Cx.W_some hr]; exact wpIn_skip h
theorem Cx.exit (h : Q (.exit id) a w) : C.W (.exit id) Q a w := by
  cases hr : C.r with
  | none => rw [Cx.W_none hr]; exact wp_exit h
  | some r => rw [Cx.W_some hr]; exact wpIn_exit h
theorem Cx.ret (h : Q .ret a w) : C.W .ret Q a w := by
  cases hr : C.r with
  | none => rw [Cx.W_none hr]; exact wp_ret h
  | some r => rw [Cx.W_some hr]; exact wpIn_ret h
theorem Cx.label {n : Nat} (h : Q .normal a w) : C.W (.label n) Q a w := by
  cases hr : C.r with
  | none => rw [Cx.W_none hr]; exact wp_label h
  | some r => rw [Cx.W_some hr]; exact wpIn_label h
theorem Cx.block (h : C.W A (Exit.inBlock id Q) a w) : C.W (.block id A) Q a w := by
  cases hr : C.r with
  | none => rw [Cx.W_none hr] at h ⊢; exact wp_block h
  | some r => rw [Cx.W_some hr] at h ⊢; exact wpIn_block h
theorem Cx.cond {t : Bool} (he : a.eval x = .bool t) (h1 : t = true → C.W A Q a w) (h2 : t = false → C.W K Q a w) : C.W (.cond x A K) Q a w := by
  cases hr : C.r with
  | none => rw [Cx.W_none hr] at h1 h2 ⊢; exact wp_cond_split he h1 h2
  | some r =>
    rw [Cx.W_some hr] at h1 h2 ⊢
    cases t with
    | true => exact wpIn_cond_true he (h1 rfl)
    | false => exact wpIn_cond_false he (h2 rfl)
theorem Cx.mono {Q' : Exit → Act → World → Prop} (h : C.W A Q a w) (hq : ∀ e a w, Q e a w → Q' e a w) : C.W A Q' a w := by
  cases hr : C.r with
  | none => rw [Cx.W_none hr] at h ⊢; exact wp_mono h hq
  | some r => rw [Cx.W_some hr] at h ⊢; exact wpIn_mono h hq
theorem Cx.loop {S : Type} (I : S → Act → World → Prop) (μ : S → Nat) (s0 : S) (h0 : I s0 a w)
    (round : ∀ s a w, I s a w → C.W A (Exit.then (fun a' w' => ∃ s', I s' a' w' ∧ μ s' < μ s) Q) a w) : C.W (.loop A) Q a w := by
  cases hr : C.r with
  | none => rw [Cx.W_none hr] at round ⊢; exact W.loop I μ s0 h0 round
  | some r =>
    rw [Cx.W_some hr] at round ⊢
    have key : ∀ n s a w, μ s < n → I s a w → Code.roundsIn (WF r) C.k C.P A Q n a w := by
      intro n
      induction n with
      | zero => intro s a w h; omega
      | succ n ih =>
        intro s a w hn hI
        rw [roundsIn_succ]
        refine wpIn_mono (round s a w hI) fun e a' w' q => ?_
        cases e with
        | normal => obtain ⟨s', h1, h2⟩ := q; exact ih s' a' w' (by omega) h1
        | _ => exact q
    exact wpIn_loop_rounds _ (key (μ s0 + 1) s0 a w (by omega) h0)
end
abbrev Ro := List (Nat × AV)
abbrev Eta := List AO
abbrev Qt := Exit → Act → World → Prop
def OL (C : Cx) (ops : Array Oper) (Q : Qt) (l : List Oper) (ρ : Ro) (η : Eta) : Prop := ∀ a w, A2 C.N C.D C.B a w ρ η → C.L ops Q l a w
def TC (C : Cx) (Q : Qt) (c : Code) (ρ : Ro) (η : Eta) : Prop := ∀ a w, A2 C.N C.D C.B a w ρ η → C.W c Q a w
def TX (C : Cx) (Q : Qt) (e : Exit) (ρ : Ro) (η : Eta) : Prop := ∀ a w, A2 C.N C.D C.B a w ρ η → Q e a w
section
variable {C : Cx} {ops : Array Oper} {Q : Qt} {ρ ρ' : Ro} {η η' : Eta} {rest : List Oper} {T d : Nat} {pos : String} {af : Array Edge} {op : Op} {x : Operand}
def OneK (C : Cx) (ops : Array Oper) (Q : Qt) (o : Oper) (ρ : Ro) (η : Eta) (ρ' : Ro) (η' : Eta) : Prop :=
  ∀ a w K, A2 C.N C.D C.B a w ρ η → (∀ a' w', w.grownBy w' none → A2 C.N C.D C.B a' w' ρ' η' → K a' w') → OpK C.P ops Q o K a w
theorem OL.one {o : Oper} (h : OneK C ops Q o ρ η ρ' η') (k : OL C ops Q rest ρ' η') : OL C ops Q (o :: rest) ρ η := fun a w hA => Cx.lcons (h a w _ hA fun a' w' _ hA' => k a' w' hA')
/-! ## Operations that give -/
theorem OL.give {u} (h : Gives C.P C.N C.D op ρ η u true) (hd : Nat.blt d C.N = true) (k : OL C ops Q rest ((d, u) :: ρ) η) : OL C ops Q (⟨some d, op, T, pos, af, none⟩ :: rest) ρ η := by
  rintro a w ⟨m, γ, ρc, hE, hR, hI⟩
  obtain ⟨v, hv, hrun⟩ := h hE hR hI.heap
  exact Cx.lcons (wl_value rfl (hrun (fun _ => .refl _ _) d T pos af none) (k _ _ ⟨m, γ, (d, v) :: ρc, hE.put v (by simpa using hd), ⟨rfl, hv, hR⟩, hI⟩))
theorem OL.pick {y z : Operand} {t : Bool} {u v} (hx : ev2 ρ x = some (.raw (.bool t))) (hy : ev2 ρ y = some u) (hz : ev2 ρ z = some v) (hd : Nat.blt d C.N = true)
    (h1 : t = true → OL C ops Q rest ((d, u) :: ρ) η) (h2 : t = false → OL C ops Q rest ((d, v) :: ρ) η) : OL C ops Q (⟨some d, .pick x y z, T, pos, af, none⟩ :: rest) ρ η := by
  cases t with
  | true => exact OL.give (u := u) (fun m w γ ρc a hE hR hH => by
      obtain ⟨q, g1, g2⟩ := hR.ev hy
      exact ⟨q, g2, fun _ _ _ _ _ _ => by simp [execOp, hE.ev (hR.raw hx), hE.ev g1, asBool]⟩) hd (h1 rfl)
  | false => exact OL.give (u := v) (fun m w γ ρc a hE hR hH => by
      obtain ⟨q, g1, g2⟩ := hR.ev hz
      exact ⟨q, g2, fun _ _ _ _ _ _ => by simp [execOp, hE.ev (hR.raw hx), hE.ev g1, asBool]⟩) hd (h2 rfl)
/-! ### Guards -/
theorem OL.guard {dst : Option Tmp} {j dj : Nat} {b t : Bool} {oj : Oper} (hj : ops[j]? = some oj) (hd : oj.dst = some dj) (hl : lk ρ dj = some (.raw (.bool t)))
    (h1 : t = b → OL C ops Q (⟨dst, op, T, pos, af, none⟩ :: rest) ρ η) (h2 : t = !b → ∀ e, dst = some e → Nat.blt e C.N = true → OL C ops Q rest ((e, .tp []) :: ρ) η) (hN : ∃ e, dst = some e ∧ Nat.blt e C.N = true) :
    OL C ops Q (⟨dst, op, T, pos, af, some (j, b)⟩ :: rest) ρ η := by
  rintro a w ⟨m, γ, ρc, hE, hR, hI⟩
  obtain ⟨v, g1, g2⟩ := hR.look hl
  rw [g2.raw_eq] at g1
  by_cases hb : t = b
  · subst hb
    have k := h1 rfl a w ⟨m, γ, ρc, hE, hR, hI⟩
    have hy : yielded ops a.tmps j = some t := by simp [yielded, hj, hd, hE.look _ _ g1]
    have e1 : (Region.wanted ⟨dst, op, T, pos, af, some (j, t)⟩ (yielded ops a.tmps)) = true := by simp [Region.wanted, hy]
    have e2 : (Region.wanted ⟨dst, op, T, pos, af, none⟩ (yielded ops a.tmps)) = true := by simp [Region.wanted]
    cases hr : C.r with
    | none =>
      rw [Cx.L_none hr] at k ⊢
      unfold wpList at k ⊢
      rw [if_pos e2] at k
      rw [if_pos e1]
      exact k
    | some r =>
      rw [Cx.L_some hr] at k ⊢
      unfold wpListIn at k ⊢
      rw [if_pos e2] at k
      rw [if_pos e1]
      exact k
  · obtain ⟨e, rfl, he⟩ := hN
    have hb' : t = !b := by cases t <;> cases b <;> simp_all
    refine Cx.lcons (guard_off hE hj hd g1 hb' (by simpa using he) fun a' hE' => h2 hb' e rfl he a' w ⟨m, γ, _, hE', ⟨rfl, .tp (vs := []) rfl (by simp), hR⟩, hI⟩)
theorem OL.guard_un {j dj : Nat} {b : Bool} {oj : Oper} (hj : ops[j]? = some oj) (hd : oj.dst = some dj) (hl : lk ρ dj = some (.tp [])) (hN : Nat.blt d C.N = true)
    (k : OL C ops Q rest ((d, .tp []) :: ρ) η) : OL C ops Q (⟨some d, op, T, pos, af, some (j, b)⟩ :: rest) ρ η := by
  rintro a w ⟨m, γ, ρc, hE, hR, hI⟩
  obtain ⟨v, g1, g2⟩ := hR.look hl
  have : v = undef := by
    cases g2 with
    | tp hl hr =>
      simp at hl
      subst hl
      rfl
  subst this
  exact Cx.lcons (W.guard_un hE hj hd g1 (by simpa using hN) fun a' hE' => k a' w ⟨m, γ, _, hE', ⟨rfl, .tp (vs := []) rfl (by simp), hR⟩, hI⟩)
/-! ## Control -/
variable {A K : Code} {id id' : Nat} {l : List Oper} {e : Exit}
theorem OL.nil (h : TX C Q .normal ρ η) : OL C ops Q [] ρ η := fun a w hA => Cx.nil (h a w hA)
theorem TC.region (h : OL C l.toArray Q l ρ η) : TC C Q (.region id l.toArray false) ρ η := fun a w hA => Cx.region (h a w hA)
theorem TC.seq (h : TC C (Exit.then (C.W K Q) Q) A ρ η) : TC C Q (A.seq K) ρ η := fun a w hA => Cx.seq (h a w hA)
theorem TX.thenN (h : TC C Q K ρ η) : TX C (Exit.then (C.W K Q) Q) .normal ρ η := fun a w hA => h a w hA
theorem TX.thenX {nx} (h : TX C Q (.exit id) ρ η) : TX C (Exit.then nx Q) (.exit id) ρ η := fun a w hA => h a w hA
theorem TX.thenR {nx} (h : TX C Q .ret ρ η) : TX C (Exit.then nx Q) .ret ρ η := fun a w hA => h a w hA
theorem TX.blkN (h : TX C Q .normal ρ η) : TX C (Exit.inBlock id Q) .normal ρ η := fun a w hA => h a w hA
theorem TX.hit (h : TX C Q .normal ρ η) : TX C (Exit.inBlock id Q) (.exit id) ρ η := fun a w hA => by have := h a w hA; simpa [Exit.inBlock] using this
theorem TX.miss (h : TX C Q (.exit id') ρ η) (hne : Nat.beq id' id = false) : TX C (Exit.inBlock id Q) (.exit id') ρ η := fun a w hA => x_miss (h a w hA) (by intro e; subst e; simp at hne)
theorem TX.blkR (h : TX C Q .ret ρ η) : TX C (Exit.inBlock id Q) .ret ρ η := fun a w hA => h a w hA
theorem TX.ngN (h : TX C Q .normal ρ η) : TX C (Exit.noGoto Q) .normal ρ η := fun a w hA => h a w hA
theorem TX.ngX (h : TX C Q (.exit id) ρ η) : TX C (Exit.noGoto Q) (.exit id) ρ η := fun a w hA => h a w hA
theorem TX.ngR (h : TX C Q .ret ρ η) : TX C (Exit.noGoto Q) .ret ρ η := fun a w hA => h a w hA
theorem TC.skip (h : TX C Q .normal ρ η) : TC C Q .skip ρ η := fun a w hA => Cx.skip (h a w hA)
theorem TC.exit (h : TX C Q (.exit id) ρ η) : TC C Q (.exit id) ρ η := fun a w hA => Cx.exit (h a w hA)
theorem TC.ret (h : TX C Q .ret ρ η) : TC C Q .ret ρ η := fun a w hA => Cx.ret (h a w hA)
theorem TC.label {n : Nat} (h : TX C Q .normal ρ η) : TC C Q (.label n) ρ η := fun a w hA => Cx.label (h a w hA)
theorem TC.scope (h : TC C (Exit.noGoto Q) A ρ η) (hr : C.r = none := by with_unfolding_all exact rfl) : TC C Q (.scope A) ρ η := fun a w hA => by
  have := h a w hA
  rw [Cx.W_none hr] at this ⊢
  exact wp_scope_straight this
theorem TC.block (h : TC C (Exit.inBlock id Q) A ρ η) : TC C Q (.block id A) ρ η := fun a w hA => Cx.block (h a w hA)
theorem TC.cond {t : Bool} (hx : ev2 ρ x = some (.raw (.bool t))) (h1 : t = true → TC C Q A ρ η) (h2 : t = false → TC C Q K ρ η) : TC C Q (.cond x A K) ρ η := by
  rintro a w ⟨m, γ, ρc, hE, hR, hI⟩
  exact Cx.cond (hE.ev (hR.raw hx)) (fun h => h1 h a w ⟨m, γ, ρc, hE, hR, hI⟩) (fun h => h2 h a w ⟨m, γ, ρc, hE, hR, hI⟩)
theorem TC.condD {p : Prop} [Decidable p] (hx : ev2 ρ x = some (.raw (.bool (decide p)))) (h1 : p → TC C Q A ρ η) (h2 : ¬p → TC C Q K ρ η) : TC C Q (.cond x A K) ρ η :=
  TC.cond hx (fun h => h1 (of_decide_eq_true h)) (fun h => h2 (of_decide_eq_false h))
theorem TC.condT (hx : ev2 ρ x = some (.raw (.bool true))) (h1 : TC C Q A ρ η) : TC C Q (.cond x A K) ρ η := TC.cond hx (fun _ => h1) nofun
theorem TC.condF (hx : ev2 ρ x = some (.raw (.bool false))) (h2 : TC C Q K ρ η) : TC C Q (.cond x A K) ρ η := TC.cond hx nofun (fun _ => h2)
/-! ## Weakening -/
def idx : List Nat → Nat → Nat → Option Nat
  | [], _, _ => none
  | j :: r, i, k => bif Nat.beq j i then some k else idx r i (k + 1)
def ren0 (τ : Nat → Option Nat) : AV → AV
  | .bp i o => match τ i with | some j => .bp j o | none => .junk
  | .gp i sz k o => match τ i with | some j => .gp j sz k o | none => .junk
  | .hs i => match τ i with | some j => .hs j | none => .junk
  | .mp i => match τ i with | some j => .mp j | none => .junk
  | .st _ => .junk
  | .tp _ => .junk
  | .fn _ _ _ => .junk
  | .raw v => .raw v
  | .sl a b c => .sl a b c
  | .ep a b => .ep a b
  | .pr a => .pr a
  | .junk => .junk
def ren1 (τ : Nat → Option Nat) : AV → AV
  | .st cs => .st (cs.map (ren0 τ))
  | .tp cs => .tp (cs.map (ren0 τ))
  | .fn f a b => .fn f (a.map (ren0 τ)) (b.map (ren0 τ))
  | .raw v => .raw v
  | .sl a b c => .sl a b c
  | .ep a b => .ep a b
  | .pr a => .pr a
  | .junk => .junk
  | .bp i o => ren0 τ (.bp i o)
  | .gp i sz k o => ren0 τ (.gp i sz k o)
  | .hs i => ren0 τ (.hs i)
  | .mp i => ren0 τ (.mp i)
def ren2 (τ : Nat → Option Nat) : AV → AV
  | .st cs => .st (cs.map (ren1 τ))
  | .tp cs => .tp (cs.map (ren1 τ))
  | .fn f a b => .fn f (a.map (ren1 τ)) (b.map (ren1 τ))
  | .raw v => .raw v
  | .sl a b c => .sl a b c
  | .ep a b => .ep a b
  | .pr a => .pr a
  | .junk => .junk
  | .bp i o => ren0 τ (.bp i o)
  | .gp i sz k o => ren0 τ (.gp i sz k o)
  | .hs i => ren0 τ (.hs i)
  | .mp i => ren0 τ (.mp i)
def ren (τ : Nat → Option Nat) : AV → AV
  | .st cs => .st (cs.map (ren2 τ))
  | .tp cs => .tp (cs.map (ren2 τ))
  | .fn f a b => .fn f (a.map (ren2 τ)) (b.map (ren2 τ))
  | .raw v => .raw v
  | .sl a b c => .sl a b c
  | .ep a b => .ep a b
  | .pr a => .pr a
  | .junk => .junk
  | .bp i o => ren0 τ (.bp i o)
  | .gp i sz k o => ren0 τ (.gp i sz k o)
  | .hs i => ren0 τ (.hs i)
  | .mp i => ren0 τ (.mp i)
def Sh2 (τ : Nat → Option Nat) (γ γ' : List Value) : Prop := ∀ (i j : Nat), τ i = some j → ∀ v, γ[i]? = some v → γ'[j]? = some v
theorem ren0_rep {τ γ γ' m w v x} (h : Sh2 τ γ γ') (hr : Rep m w γ v x) : Rep m w γ' v (ren0 τ x) := by
  cases hr with
  | raw h => exact .raw h
  | nil h => exact .nil h
  | sl cv hn h1 h2 hc hr => exact .sl cv hn h1 h2 hc hr
  | sl0 h => exact .sl0 h
  | st => exact .junk
  | tp => exact .junk
  | ep hc hl h1 hr => exact .ep hc hl h1 hr
  | @bp _ i o b hb => simp only [ren0]; cases hq : τ i with
    | none => exact .junk
    | some j => exact .bp (h i j hq _ hb)
  | @gp _ i sz k o b n c hb => simp only [ren0]; cases hq : τ i with
    | none => exact .junk
    | some j => exact .gp (h i j hq _ hb)
  | @hs _ i a n c hb => simp only [ren0]; cases hq : τ i with
    | none => exact .junk
    | some j => exact .hs (h i j hq _ hb)
  | @mp _ i b hb => simp only [ren0]; cases hq : τ i with
    | none => exact .junk
    | some j => exact .mp (h i j hq _ hb)
  | fn => exact .junk
  | pr h => exact .pr h
  | junk => exact .junk
theorem renL_rep {m w γ γ'} {f : AV → AV} (hf : ∀ v x, Rep m w γ v x → Rep m w γ' v (f x)) {vs : List Value} {cs : List AV} (hr : ∀ (j : Nat) v c, vs[j]? = some v → cs[j]? = some c → Rep m w γ v c) :
    ∀ (j : Nat) v c, vs[j]? = some v → (cs.map f)[j]? = some c → Rep m w γ' v c := by
  intro j v c hv hc
  rw [List.getElem?_map] at hc
  cases hq : cs[j]? with
  | none => rw [hq] at hc; cases hc
  | some c' => rw [hq] at hc; cases hc; exact hf _ _ (hr j v c' hv hq)
theorem ren1_rep {τ γ γ' m w v x} (h : Sh2 τ γ γ') (hr : Rep m w γ v x) : Rep m w γ' v (ren1 τ x) := by
  cases x with
  | st cs => cases hr with | st hl h1 hr => exact .st (by simpa using hl) h1 (renL_rep (fun _ _ => ren0_rep h) hr)
  | tp cs => cases hr with | tp hl hr => exact .tp (by simpa using hl) (renL_rep (fun _ _ => ren0_rep h) hr)
  | fn f a b => cases hr with | fn l1 l2 h1 h2 => exact .fn (by simpa using l1) (by simpa using l2) (renL_rep (fun _ _ => ren0_rep h) h1) (renL_rep (fun _ _ => ren0_rep h) h2)
  | _ => exact ren0_rep h hr
theorem ren2_rep {τ γ γ' m w v x} (h : Sh2 τ γ γ') (hr : Rep m w γ v x) : Rep m w γ' v (ren2 τ x) := by
  cases x with
  | st cs => cases hr with | st hl h1 hr => exact .st (by simpa using hl) h1 (renL_rep (fun _ _ => ren1_rep h) hr)
  | tp cs => cases hr with | tp hl hr => exact .tp (by simpa using hl) (renL_rep (fun _ _ => ren1_rep h) hr)
  | fn f a b => cases hr with | fn l1 l2 h1 h2 => exact .fn (by simpa using l1) (by simpa using l2) (renL_rep (fun _ _ => ren1_rep h) h1) (renL_rep (fun _ _ => ren1_rep h) h2)
  | _ => exact ren0_rep h hr
theorem ren_rep {τ γ γ' m w v x} (h : Sh2 τ γ γ') (hr : Rep m w γ v x) : Rep m w γ' v (ren τ x) := by
  cases x with
  | st cs => cases hr with | st hl h1 hr => exact .st (by simpa using hl) h1 (renL_rep (fun _ _ => ren2_rep h) hr)
  | tp cs => cases hr with | tp hl hr => exact .tp (by simpa using hl) (renL_rep (fun _ _ => ren2_rep h) hr)
  | fn f a b => cases hr with | fn l1 l2 h1 h2 => exact .fn (by simpa using l1) (by simpa using l2) (renL_rep (fun _ _ => ren2_rep h) h1) (renL_rep (fun _ _ => ren2_rep h) h2)
  | _ => exact ren0_rep h hr
def LE (τ : Nat → Option Nat) (x y : AV) : Prop := ∀ m w γ γ', Sh2 τ γ γ' → ∀ v, Rep m w γ v x → Rep m w γ' v y
theorem LE.ren {τ x y} (h : V.ren τ x = y) : LE τ x y := fun _m _w _γ _γ' hs _v hr => h ▸ ren_rep hs hr
theorem LE.sl {τ sz nl xs} : LE τ (.sl sz nl xs) (.sl sz none xs) := fun m w γ γ' hs v hr => by
  obtain ⟨a, b, c⟩ := hr.rs
  exact (Rep.of_rs a (NL.none _))
theorem LE.nil {τ sz nl} (h : nl ≠ some false) : LE τ (.raw (.slice none 0 0)) (.sl sz nl []) := fun m w γ γ' hs v hr => by
  rw [hr.raw_eq]; exact .nil h
theorem LE.junk {τ x} : LE τ x .junk := fun _ _ _ _ _ _ _ => .junk
def renO (τ : Nat → Option Nat) : AO → AO
  | .cb T cs => .cb T (cs.map (ren τ))
  | .gs a b c d e => .gs a b c d e
  | .mo es => .mo es
  | .gw T sz nl xs => .gw T sz nl (xs.map (ren τ))
  | .dead => .dead
def OE (τ : Nat → Option Nat) (o o' : AO) : Prop := ∀ m w γ γ', Sh2 τ γ γ' → ∀ v, ObjOK m w γ v o → ObjOK m w γ' v o' ∧ (blk o' v = blk o v ∨ blk o' v = none)
theorem CL.ren {τ γ γ' m w vs cs} (hs : Sh2 τ γ γ') (h : CL γ m w vs cs) : CL γ' m w vs (cs.map (V.ren τ)) :=
  ⟨by simpa using h.1, h.2.1, renL_rep (fun _ _ => ren_rep hs) h.2.2⟩
theorem ren_cells (τ) (x : AV) : (V.ren τ x).cells.length = x.cells.length := by
  cases x <;> first
   | rfl
   | (simp only [V.ren, AV.cells, List.length_map]; done)
   | (unfold V.ren ren0; dsimp only; split <;> rfl)
theorem CL.renX {τ γ γ' m w vs} {x : AV} (hs : Sh2 τ γ γ') (h : CL γ m w vs x.cells) : CL γ' m w vs (V.ren τ x).cells := by
  refine ⟨by rw [ren_cells]; exact h.1, h.2.1, fun j v c hv hc => ?_⟩
  have key : ∀ {x : AV}, x.cells = [x] → (V.ren τ x).cells = [V.ren τ x] → CL γ m w vs x.cells → (V.ren τ x).cells[j]? = some c → Rep m w γ' v c := fun {x} e1 e2 h hc => by
    rw [e2] at hc
    cases j with
    | zero =>
      simp at hc; subst hc
      exact ren_rep hs (h.2.2 0 v x hv (by rw [e1]; rfl))
    | succ j => simp at hc
  cases x with
  | st cs =>
    simp only [V.ren, AV.cells, List.getElem?_map] at hc
    cases hq : cs[j]? with
    | none => rw [hq] at hc; cases hc
    | some c0 => rw [hq] at hc; cases hc; exact ren2_rep hs (h.2.2 j v c0 hv hq)
  | bp i o => exact key rfl (by unfold V.ren ren0; dsimp only; split <;> rfl) h hc
  | gp i sz k o => exact key rfl (by unfold V.ren ren0; dsimp only; split <;> rfl) h hc
  | hs i => exact key rfl (by unfold V.ren ren0; dsimp only; split <;> rfl) h hc
  | mp i => exact key rfl (by unfold V.ren ren0; dsimp only; split <;> rfl) h hc
  | _ => exact key rfl rfl h hc
theorem OE.ren {τ o o'} (h : renO τ o = o') : OE τ o o' := fun m w γ γ' hs v hr => by
  subst h
  cases o with
  | cb T cs =>
    obtain ⟨b, vs, rfl, hB, hC⟩ := hr
    exact ⟨⟨b, vs, rfl, hB, hC.ren hs⟩, .inl rfl⟩
  | gs fz T sz nl xs => exact ⟨hr, .inl rfl⟩
  | mo es => exact ⟨hr, .inl rfl⟩
  | gw T sz nl xs =>
    obtain ⟨⟨m', h1, h2, h3⟩, h4, h5⟩ := hr
    refine ⟨⟨⟨m', ?_, h2, h3⟩, h4, fun x hx => ?_⟩, .inl rfl⟩
    · rcases h1 with ⟨e1, rfl⟩ | ⟨b, o, e1, rfl⟩ | ⟨g, cap, cur, hv, h0, hg, k1, k2, k3, k4, k5⟩
      · exact .inl ⟨e1, rfl⟩
      · exact .inr (.inl ⟨b, o, e1, rfl⟩)
      · refine .inr (.inr ⟨g, cap, cur, by simpa using hv, h0, hg, by simpa using k1, k2, k3, by simpa using k4, fun i x hx => ?_⟩)
        rw [List.getElem?_map] at hx
        cases hq : xs[i]? with
        | none => rw [hq] at hx; cases hx
        | some y =>
          rw [hq] at hx; cases hx
          obtain ⟨cs, a, b, c⟩ := k5 i y hq
          exact ⟨cs, a, b, CL.renX hs c⟩
    · obtain ⟨y, hy, rfl⟩ := List.mem_map.1 hx
      rw [ren_cells]; exact h5 y hy
  | dead => exact ⟨trivial, .inl rfl⟩
theorem OE.gs {τ fz T sz nl xs} : OE τ (.gs fz T sz nl xs) (.gs fz T sz none xs) := fun _m _w _γ _γ' _hs _v hr => ⟨⟨hr.1, NL.none _, hr.2.2⟩, .inl rfl⟩
def SubR (τ : Nat → Option Nat) (ρ : Ro) : Ro → Prop
  | [] => True
  | (t, y) :: r => (∃ x, lk ρ t = some x ∧ LE τ x y) ∧ SubR τ ρ r
def SubO (τ : Nat → Option Nat) (η : Eta) : List Nat → Eta → Prop
  | [], [] => True
  | i :: s, o' :: r => (∃ o, η[i]? = some o ∧ OE τ o o') ∧ SubO τ η s r
  | _, _ => False
def nodB : List Nat → Bool
  | [] => true
  | i :: r => r.all (fun j => !Nat.beq i j) && nodB r
def preB : Nat → Nat → List Nat → Bool
  | 0, _, _ => true
  | n + 1, k, i :: r => Nat.beq i k && preB n (k + 1) r
  | _ + 1, _, [] => false
abbrev ts (σ : List Nat) : Nat → Option Nat := fun i => idx σ i 0
theorem idx_spec : ∀ (σ : List Nat) (i k j : Nat), idx σ i k = some j → ∃ n, j = k + n ∧ σ[n]? = some i
  | [], _, _, _, h => by simp [idx] at h
  | a :: r, i, k, j, h => by
    simp only [idx] at h
    cases hb : Nat.beq a i with
    | true => rw [hb] at h; simp at h; exact ⟨0, by omega, by simp [Nat.eq_of_beq_eq_true hb]⟩
    | false =>
      rw [hb] at h
      obtain ⟨n, h1, h2⟩ := idx_spec r i (k + 1) j (by simpa using h)
      exact ⟨n + 1, by omega, by simpa using h2⟩
theorem nodB_spec : ∀ {σ : List Nat}, nodB σ = true → ∀ (j k i : Nat), σ[j]? = some i → σ[k]? = some i → j = k
  | [], _, j, k, i, h, _ => by simp at h
  | a :: r, hn, j, k, i, h1, h2 => by
    simp only [nodB, Bool.and_eq_true, List.all_eq_true] at hn
    have hm : ∀ n : Nat, r[n]? = some a → False := fun n hn' => by
      have := hn.1 a (List.mem_of_getElem? hn')
      simp at this
    cases j with
    | zero =>
      cases k with
      | zero => rfl
      | succ k => simp at h1 h2; subst h1; exact (hm k h2).elim
    | succ j =>
      cases k with
      | zero => simp at h1 h2; subst h2; exact (hm j h1).elim
      | succ k => simp at h1 h2; rw [nodB_spec hn.2 j k i h1 h2]
theorem preB_spec : ∀ {n k : Nat} {σ : List Nat}, preB n k σ = true → ∀ i, i < n → σ[i]? = some (k + i)
  | 0, _, _, _, i, h => by omega
  | n + 1, k, [], h, _, _ => by simp [preB] at h
  | n + 1, k, a :: r, h, i, hi => by
    simp only [preB, Bool.and_eq_true] at h
    cases i with
    | zero => simp; exact Nat.eq_of_beq_eq_true h.1
    | succ i => have := preB_spec h.2 i (by omega); simp; rw [this]; congr 1; omega
theorem SubR.rl {τ m w γ γ' ρc ρ} (hs : Sh2 τ γ γ') (hR : RL m w γ ρc ρ) : ∀ {ρ' : Ro}, SubR τ ρ ρ' → ∃ ρc', RL m w γ' ρc' ρ' ∧ W.Sub ρc ρc'
  | [], _ => ⟨[], trivial, trivial⟩
  | (t, y) :: r, ⟨⟨x, h1, h2⟩, h3⟩ => by
    obtain ⟨v, g1, g2⟩ := hR.look h1
    obtain ⟨ρc', k1, k2⟩ := SubR.rl hs hR h3
    exact ⟨(t, v) :: ρc', ⟨rfl, h2 _ _ _ _ hs _ g2, k1⟩, g1, k2⟩
theorem SubO.get {τ η} : ∀ {s : List Nat} {η' : Eta}, SubO τ η s η' → ∀ (j : Nat) o', η'[j]? = some o' → ∃ i o, s[j]? = some i ∧ η[i]? = some o ∧ OE τ o o'
  | [], [], _, j, o', h => by simp at h
  | i :: s, o1 :: r, ⟨⟨o, h1, h2⟩, h3⟩, j, o', h => by
    cases j with
    | zero => simp at h; subst h; exact ⟨i, o, rfl, h1, h2⟩
    | succ j => simpa using SubO.get h3 j o' (by simpa using h)
  | [], _ :: _, h, _, _, _ => h.elim
  | _ :: _, [], h, _, _, _ => h.elim
theorem SubO.len {τ η} : ∀ {s : List Nat} {η' : Eta}, SubO τ η s η' → s.length = η'.length ∧ ∀ i ∈ s, i < η.length
  | [], [], _ => ⟨rfl, by simp⟩
  | i :: s, o1 :: r, ⟨⟨o, h1, _⟩, h3⟩ => by
    obtain ⟨a, b⟩ := SubO.len h3
    exact ⟨by simp [a], fun k hk => by
      rcases List.mem_cons.1 hk with rfl | hk
      · exact (List.getElem?_eq_some_iff.1 h1).1
      · exact b k hk⟩
  | [], _ :: _, h => h.elim
  | _ :: _, [], h => h.elim
theorem In.sel {B m w γ η η'} {σ : List Nat} {n : Nat} (hI : In B m w γ η) (hB : B.γ.length = n) (hn : nodB σ = true) (hp : preB n 0 σ = true) (ho : SubO (ts σ) η σ η') :
    ∃ γ', Sh2 (ts σ) γ γ' ∧ In B m w γ' η' := by
  obtain ⟨hl, hlt⟩ := ho.len
  have hgl := hI.heap.len
  have hγ : ∀ (j i : Nat), σ[j]? = some i → ∀ v, (σ.map fun i => γ.getD i undef)[j]? = some v → γ[i]? = some v := by
    intro j i hj v hv
    rw [List.getElem?_map, hj] at hv
    simp only [Option.map_some, Option.some.injEq] at hv
    have : i < γ.length := by rw [hgl]; exact hlt i (List.mem_of_getElem? hj)
    rw [← hv, List.getD_eq_getElem?_getD, List.getElem?_eq_getElem this]; rfl
  have hsh : Sh2 (ts σ) γ (σ.map fun i => γ.getD i undef) := by
    intro i j hij v hv
    obtain ⟨k, h1, h2⟩ := idx_spec σ i 0 j hij
    obtain rfl : j = k := by omega
    rw [List.getElem?_map, h2]
    simp [List.getD_eq_getElem?_getD, hv]
  have hget : ∀ (j : Nat) v o', (σ.map fun i => γ.getD i undef)[j]? = some v → η'[j]? = some o' → ∃ i o, σ[j]? = some i ∧ γ[i]? = some v ∧ η[i]? = some o ∧ OE (ts σ) o o' := by
    intro j v o' hv ho'
    obtain ⟨i, o, h1, h2, h3⟩ := ho.get j o' ho'
    exact ⟨i, o, h1, hγ j i h1 v hv, h2, h3⟩
  have hbk : ∀ {v o o' b}, OE (ts σ) o o' → ObjOK m w γ v o → blk o' v = some b → blk o v = some b := by
    intro v o o' b hoe hok hb
    rcases (hoe m w γ _ hsh v hok).2 with e | e
    · rw [← e]; exact hb
    · rw [e] at hb; cases hb
  refine ⟨_, hsh, ⟨by simp [hl], fun j v o' hv ho' => ?_, fun j k v v' o o' b hne hv ho1 hv' ho2 hb hb' => ?_⟩, hI.far, fun j v o' b hv ho' hb => ?_, fun i v hv => ?_⟩
  · obtain ⟨i, o, h1, h2, h3, h4⟩ := hget j v o' hv ho'
    exact (h4 m w γ _ hsh v (hI.heap.ok i v o h2 h3)).1
  · obtain ⟨i, oi, h1, h2, h3, h4⟩ := hget j v o hv ho1
    obtain ⟨i', oi', h1', h2', h3', h4'⟩ := hget k v' o' hv' ho2
    refine hI.heap.apart i i' v v' oi oi' b ?_ h2 h3 h2' h3' (hbk h4 (hI.heap.ok i v oi h2 h3) hb) (hbk h4' (hI.heap.ok i' v' oi' h2' h3') hb')
    intro e
    subst e
    exact hne (nodB_spec hn j k i h1 h1')
  · obtain ⟨i, o, h1, h2, h3, h4⟩ := hget j v o' hv ho'
    exact hI.own i v o b h2 h3 (hbk h4 (hI.heap.ok i v o h2 h3) hb)
  · have hi : i < n := by rw [← hB]; exact (List.getElem?_eq_some_iff.1 hv).1
    have h1 := preB_spec hp i hi
    rw [Nat.zero_add] at h1
    rw [List.getElem?_map, h1]
    simp [List.getD_eq_getElem?_getD, hI.pre i v hv]
theorem A2.sel {a w} {n : Nat} {σ : List Nat} {N D B} (hA : A2 N D B a w ρ η) (hB : B.γ.length = n) (hn : nodB σ = true) (hp : preB n 0 σ = true) (ho : SubO (ts σ) η σ η') (hr : SubR (ts σ) ρ ρ') : A2 N D B a w ρ' η' := by
  obtain ⟨m, γ, ρc, hE, hR, hI⟩ := hA
  obtain ⟨γ', h1, h2⟩ := hI.sel hB hn hp ho
  obtain ⟨ρc', h3, h4⟩ := SubR.rl h1 hR hr
  exact ⟨m, γ', ρc', hE.sel h4, h3, h2⟩
/-! ## Loops -/
def Next (C : Cx) {S : Type} (ρs : S → Ro) (ηs : S → Eta) (I : S → Prop) (μ : S → Nat) (s : S) : Act → World → Prop := fun a w => ∃ s', (I s' ∧ μ s' < μ s) ∧ A2 C.N C.D C.B a w (ρs s') (ηs s')
theorem TC.loop {S : Type} (ρs : S → Ro) (ηs : S → Eta) (I : S → Prop) (μ : S → Nat) (s0 : S) (σ : List Nat) (h0 : I s0) (hn : nodB σ = true) (hp : preB C.n 0 σ = true) (ho : SubO (ts σ) η σ (ηs s0)) (hr : SubR (ts σ) ρ (ρs s0))
    (round : ∀ s, I s → TC C (Exit.then (Next C ρs ηs I μ s) Q) A (ρs s) (ηs s)) : TC C Q (.loop A) ρ η := fun a w hA =>
  Cx.loop (fun s a w => I s ∧ A2 C.N C.D C.B a w (ρs s) (ηs s)) μ s0 ⟨h0, hA.sel C.hn hn hp ho hr⟩ fun s a w hI =>
    Cx.mono (round s hI.1 a w hI.2) fun e a' w' q => by
      cases e with
      | normal => obtain ⟨s', ⟨h1, h2⟩, h3⟩ := q; exact ⟨s', ⟨h1, h3⟩, h2⟩
      | _ => exact q
theorem TX.round {S : Type} {ρs : S → Ro} {ηs : S → Eta} {I : S → Prop} {μ : S → Nat} {s : S} (s' : S) (σ : List Nat) (hI : I s') (hμ : μ s' < μ s) (hn : nodB σ = true) (hp : preB C.n 0 σ = true) (ho : SubO (ts σ) η σ (ηs s')) (hr : SubR (ts σ) ρ (ρs s')) :
    TX C (Exit.then (Next C ρs ηs I μ s) Q) .normal ρ η := fun _ _ hA => ⟨s', ⟨hI, hμ⟩, hA.sel C.hn hn hp ho hr⟩
theorem OL.eqη (h : η = η') (k : OL C ops Q rest ρ η') : OL C ops Q rest ρ η := h ▸ k
theorem TC.eqη (h : η = η') (k : TC C Q A ρ η') : TC C Q A ρ η := h ▸ k
theorem TX.eqη (h : η = η') (k : TX C Q e ρ η') : TX C Q e ρ η := h ▸ k
theorem TC.sel (σ : List Nat) (hn : nodB σ = true) (hp : preB C.n 0 σ = true) (ho : SubO (ts σ) η σ η') (hr : SubR (ts σ) ρ ρ') (k : TC C Q A ρ' η') : TC C Q A ρ η := fun a w hA => k a w (hA.sel C.hn hn hp ho hr)
/-! ## Contracts -/
def VL (m : Nat → Nat) (w : World) (γ : List Value) : List Value → List AV → Prop
  | [], [] => True
  | v :: r, x :: s => Rep m w γ v x ∧ VL m w γ r s
  | _, _ => False
def blks : List Value → Eta → List Nat
  | v :: r, o :: s => (blk o v).toList ++ blks r s
  | _, _ => []
theorem mem_blks : ∀ {γ : List Value} {η : Eta} {b : Nat}, b ∈ blks γ η ↔ ∃ (i : Nat) (v : Value) (o : AO), γ[i]? = some v ∧ η[i]? = some o ∧ blk o v = some b
  | [], _, b => by simp [blks]
  | _ :: _, [], b => by simp [blks]
  | v :: r, o :: s, b => by
    simp only [blks, List.mem_append, Option.mem_toList, mem_blks (γ := r) (η := s)]
    constructor
    · rintro (h | ⟨i, v', o', h1, h2, h3⟩)
      · exact ⟨0, v, o, rfl, rfl, h⟩
      · exact ⟨i + 1, v', o', by simpa using h1, by simpa using h2, h3⟩
    · rintro ⟨i, v', o', h1, h2, h3⟩
      cases i with
      | zero => simp at h1 h2; subst h1 h2; exact .inl h3
      | succ i => exact .inr ⟨i, v', o', by simpa using h1, by simpa using h2, h3⟩
def PostB (B : Base) (r : AV) (η' : Eta) : Ending → World → Prop := fun e w' => ∃ v m' γ', e = .returned v ∧ In B m' w' γ' η' ∧ Rep m' w' γ' v r
def baseOf (m : Nat → Nat) (w : World) (γ : List Value) (η : Eta) : Base := ⟨m, w, blks γ η, γ⟩
def Spec (P : Program) (f : Nat) (as : List AV) (η : Eta) (r : AV) (η' : Eta) : Prop :=
  ∀ m w γ vs, Heap m w γ η → VL m w γ vs as → Calls P f vs.toArray w (PostB (baseOf m w γ η) r η')
def zip2 : Nat → List AV → Ro
  | _, [] => []
  | k, x :: r => (k, x) :: zip2 (k + 1) r
theorem VL.zip {m w γ} : ∀ {vs : List Value} {as : List AV} (k : Nat), VL m w γ vs as → RL m w γ (W.zipA k vs) (zip2 k as)
  | [], [], _, _ => trivial
  | _ :: _, _ :: _, k, ⟨h1, h2⟩ => ⟨rfl, h1, VL.zip (k + 1) h2⟩
  | [], _ :: _, _, h => h.elim
  | _ :: _, [], _, h => h.elim
theorem VL.len {m w γ} : ∀ {vs : List Value} {as : List AV}, VL m w γ vs as → vs.length = as.length
  | [], [], _ => rfl
  | _ :: _, _ :: _, ⟨_, h2⟩ => by simp [VL.len h2]
  | [], _ :: _, h => h.elim
  | _ :: _, [], h => h.elim
theorem Spec.enter {P : Program} {f : Nat} {fn : Func} {c : Code} {as : List AV} {r : AV} {tab : Tab} {N : Nat} (hT : TabOK P tab) (hm : P.follows .mixedOrders = true) (hf : P.funcs[f]? = some fn) (hb : fn.body = some c) (hN : fn.ntmps = N) (ha : Nat.ble as.length N = true)
    (h : ∀ B (hB : B.γ.length = η.length), TC ⟨P, tab, hT, hm, N, [], B, η.length, hB, none, 0⟩ (bodyPost P fn (PostB B r η')) c (zip2 0 as) η) : Spec P f as η r η' := by
  intro m w γ vs hH hV
  refine W.enter (N := N) (W.zipA 0 vs) hf hb hN (by simp) (by have := hV.len; simp at ha; simp; omega) fun a hE => ?_
  refine h (baseOf m w γ η) hH.len a w ⟨m, γ, _, hE, hV.zip 0, hH, .refl _ _ _, fun i v o b h1 h2 h3 => .inl (mem_blks.2 ⟨i, v, o, h1, h2, h3⟩), .refl _⟩
/-! ## Returns -/
theorem TX.ret1 {fn : Func} {t : Nat} {u r} (σ : List Nat) (hD : C.D = []) (hres : fn.results = #[.tmp t]) (hx : lk ρ t = some u) (hn : nodB σ = true) (hp : preB C.n 0 σ = true) (ho : SubO (ts σ) η σ η') (hle : LE (ts σ) u r) :
    TX C (bodyPost C.P fn (PostB C.B r η')) .ret ρ η := by
  rintro a w ⟨m, γ, ρc, hE, hR, hI⟩
  obtain ⟨v, h1, h2⟩ := hR.look hx
  obtain ⟨γ', g1, g2⟩ := hI.sel C.hn hn hp ho
  rw [hD] at hE
  exact W.ret1 hE hres h1 ⟨v, m, γ', rfl, g2, hle _ _ _ _ g1 _ h2⟩
theorem TX.ret2 {fn : Func} {t1 t2 : Nat} {u1 u2 r1 r2} (σ : List Nat) (hD : C.D = []) (hres : fn.results = #[.tmp t1, .tmp t2]) (hx1 : lk ρ t1 = some u1) (hx2 : lk ρ t2 = some u2) (hn : nodB σ = true) (hp : preB C.n 0 σ = true) (ho : SubO (ts σ) η σ η') (hle1 : LE (ts σ) u1 r1) (hle2 : LE (ts σ) u2 r2) :
    TX C (bodyPost C.P fn (PostB C.B (.tp [r1, r2]) η')) .ret ρ η := by
  rintro a w ⟨m, γ, ρc, hE, hR, hI⟩
  obtain ⟨v1, h1, h2⟩ := hR.look hx1
  obtain ⟨v2, k1, k2⟩ := hR.look hx2
  obtain ⟨γ', g1, g2⟩ := hI.sel C.hn hn hp ho
  rw [hD] at hE
  refine W.ret2 hE hres h1 k1 ⟨_, m, γ', rfl, g2, .tp (vs := [v1, v2]) rfl fun j v c hv hc => ?_⟩
  match j with
  | 0 => simp at hv hc; subst hv hc; exact hle1 _ _ _ _ g1 _ h2
  | 1 => simp at hv hc; subst hv hc; exact hle2 _ _ _ _ g1 _ k2
  | j + 2 => simp at hv
theorem TX.ret0 {fn : Func} (σ : List Nat) (hD : C.D = []) (hres : fn.results = #[]) (hn : nodB σ = true) (hp : preB C.n 0 σ = true) (ho : SubO (ts σ) η σ η') : TX C (bodyPost C.P fn (PostB C.B (.tp []) η')) .ret ρ η := by
  rintro a w ⟨m, γ, ρc, hE, hR, hI⟩
  obtain ⟨γ', g1, g2⟩ := hI.sel C.hn hn hp ho
  rw [hD] at hE
  exact W.ret0 hE hres ⟨_, m, γ', rfl, g2, .tp (vs := []) rfl (by simp)⟩
theorem TX.end_ {fn : Func} {R} (h : TX C (bodyPost C.P fn R) .ret ρ η) : TX C (bodyPost C.P fn R) .normal ρ η := fun a w hA => h a w hA
end
end Go.V
namespace Go.V
open Go Go.W
theorem Heap.sel {m w γ η η'} {σ : List Nat} (hH : Heap m w γ η) (hn : nodB σ = true) (ho : SubO (ts σ) η σ η') :
    Sh2 (ts σ) γ (σ.map fun i => γ.getD i undef) ∧ Heap m w (σ.map fun i => γ.getD i undef) η' ∧
      ∀ (j : Nat) v o' b, (σ.map fun i => γ.getD i undef)[j]? = some v → η'[j]? = some o' → blk o' v = some b → ∃ (i : Nat) (o : AO), σ[j]? = some i ∧ γ[i]? = some v ∧ η[i]? = some o ∧ blk o v = some b := by
  obtain ⟨hl, hlt⟩ := ho.len
  have hgl := hH.len
  have hγ : ∀ (j i : Nat), σ[j]? = some i → ∀ v, (σ.map fun i => γ.getD i undef)[j]? = some v → γ[i]? = some v := by
    intro j i hj v hv
    rw [List.getElem?_map, hj] at hv
    simp only [Option.map_some, Option.some.injEq] at hv
    have : i < γ.length := by rw [hgl]; exact hlt i (List.mem_of_getElem? hj)
    rw [← hv, List.getD_eq_getElem?_getD, List.getElem?_eq_getElem this]; rfl
  have hsh : Sh2 (ts σ) γ (σ.map fun i => γ.getD i undef) := by
    intro i j hij v hv
    obtain ⟨k, h1, h2⟩ := idx_spec σ i 0 j hij
    obtain rfl : j = k := by omega
    rw [List.getElem?_map, h2]
    simp [List.getD_eq_getElem?_getD, hv]
  have hget : ∀ (j : Nat) v o', (σ.map fun i => γ.getD i undef)[j]? = some v → η'[j]? = some o' → ∃ i o, σ[j]? = some i ∧ γ[i]? = some v ∧ η[i]? = some o ∧ OE (ts σ) o o' := by
    intro j v o' hv ho'
    obtain ⟨i, o, h1, h2, h3⟩ := ho.get j o' ho'
    exact ⟨i, o, h1, hγ j i h1 v hv, h2, h3⟩
  have hbk : ∀ {v o o' b}, OE (ts σ) o o' → ObjOK m w γ v o → blk o' v = some b → blk o v = some b := by
    intro v o o' b hoe hok hb
    rcases (hoe m w γ _ hsh v hok).2 with e | e
    · rw [← e]; exact hb
    · rw [e] at hb; cases hb
  refine ⟨hsh, ⟨by simp [hl], fun j v o' hv ho' => ?_, fun j k v v' o o' b hne hv ho1 hv' ho2 hb hb' => ?_⟩, fun j v o' b hv ho' hb => ?_⟩
  · obtain ⟨i, o, h1, h2, h3, h4⟩ := hget j v o' hv ho'
    exact (h4 m w γ _ hsh v (hH.ok i v o h2 h3)).1
  · obtain ⟨i, oi, h1, h2, h3, h4⟩ := hget j v o hv ho1
    obtain ⟨i', oi', h1', h2', h3', h4'⟩ := hget k v' o' hv' ho2
    refine hH.apart i i' v v' oi oi' b ?_ h2 h3 h2' h3' (hbk h4 (hH.ok i v oi h2 h3) hb) (hbk h4' (hH.ok i' v' oi' h2' h3') hb')
    intro e
    subst e
    exact hne (nodB_spec hn j k i h1 h1')
  · obtain ⟨i, o, h1, h2, h3, h4⟩ := hget j v o' hv ho'
    exact ⟨i, o, h1, h2, h3, hbk h4 (hH.ok i v o h2 h3) hb⟩
def upd : List Nat → Eta → Eta → Eta
  | i :: s, o :: r, η => upd s r (η.set i o)
  | _, _, η => η
theorem upd_len : ∀ (s : List Nat) (r η : Eta), (upd s r η).length = η.length
  | [], r, η => by simp [upd]
  | _ :: _, [], η => by simp [upd]
  | i :: s, o :: r, η => by simp [upd, upd_len s r]
theorem upd_out : ∀ (s : List Nat) (r η : Eta) (i : Nat), i ∉ s → (upd s r η)[i]? = η[i]?
  | [], r, η, i, _ => by simp [upd]
  | _ :: _, [], η, i, _ => by simp [upd]
  | k :: s, o :: r, η, i, h => by
    simp only [upd]
    rw [upd_out s r _ i (fun e => h (by simp [e])), List.getElem?_set_ne (fun e => h (by simp [e]))]
theorem upd_in : ∀ (s : List Nat) (r η : Eta), nodB s = true → (∀ i ∈ s, i < η.length) → ∀ (j i : Nat) o, s[j]? = some i → r[j]? = some o → (upd s r η)[i]? = some o
  | [], r, η, _, _, j, i, o, h, _ => by simp at h
  | _ :: _, [], η, _, _, j, i, o, _, h => by simp at h
  | k :: s, p :: r, η, hn, hlt, j, i, o, h1, h2 => by
    simp only [nodB, Bool.and_eq_true, List.all_eq_true] at hn
    simp only [upd]
    cases j with
    | zero =>
      simp at h1 h2
      subst h1 h2
      rw [upd_out _ _ _ _ (fun hm => by have := hn.1 k hm; simp at this), List.getElem?_set_self (hlt k (by simp))]
    | succ j => exact upd_in s r _ hn.2 (fun i hi => by simpa using hlt i (by simp [hi])) j i o (by simpa using h1) (by simpa using h2)
def back (is : List Nat) (k : Nat) : Nat → Option Nat := fun j => bif Nat.blt j is.length then is[j]? else some (k + (j - is.length))
theorem In.call {B m w γ η η1 η1' m' w' γ1'} {is : List Nat} (hI : In B m w γ η) (hn : nodB is = true) (ho : SubO (ts is) η is η1)
    (hC : In (baseOf m w (is.map fun i => γ.getD i undef) η1) m' w' γ1' η1') :
    ∃ γ2, Pre γ γ2 ∧ Sh2 (back is η.length) γ1' γ2 ∧ In B m' w' γ2 (upd is (η1'.map (renO (back is η.length))) η ++ (η1'.drop is.length).map (renO (back is η.length))) ∧ Ext m w m' w' := by
  obtain ⟨hsh, hH1, hbl⟩ := hI.heap.sel hn ho
  obtain ⟨hl1, hlt⟩ := ho.len
  have hgl := hI.heap.len
  have hl1' : γ1'.length = η1'.length := hC.heap.len
  have hpre : Pre (is.map fun i => γ.getD i undef) γ1' := hC.pre
  have hnle : is.length ≤ γ1'.length := by
    rcases Nat.lt_or_ge γ1'.length is.length with h | h
    · have hq := hpre γ1'.length (is.map fun i => γ.getD i undef)[γ1'.length]! (by rw [List.getElem?_eq_getElem (by simpa using h)]; simp [h])
      have := (List.getElem?_eq_some_iff.1 hq).1
      omega
    · exact h
  have hfar : Far (blks (is.map fun i => γ.getD i undef) η1) m w m' w' := hC.far
  have hbS : ∀ b ∈ blks (is.map fun i => γ.getD i undef) η1, ∃ (i : Nat) (v : Value) (o : AO), i ∈ is ∧ γ[i]? = some v ∧ η[i]? = some o ∧ blk o v = some b := by
    intro b hb
    obtain ⟨j, v, o', h1, h2, h3⟩ := mem_blks.1 hb
    obtain ⟨i, o, a1, a2, a3, a4⟩ := hbl j v o' b h1 h2 h3
    exact ⟨i, v, o, List.mem_of_getElem? a1, a2, a3, a4⟩
  have hγ2 : ∀ (j i : Nat), is[j]? = some i → γ1'[j]? = γ[i]? := by
    intro j i hj
    have hi : i < γ.length := by rw [hgl]; exact hlt i (List.mem_of_getElem? hj)
    rw [List.getElem?_eq_getElem hi]
    refine hpre j _ ?_
    rw [List.getElem?_map, hj]
    simp [List.getD_eq_getElem?_getD, List.getElem?_eq_getElem hi]
  have hshb : Sh2 (back is η.length) γ1' (γ ++ γ1'.drop is.length) := by
    intro j i hij v hv
    simp only [back] at hij
    cases hb : Nat.blt j is.length with
    | true =>
      rw [hb] at hij
      simp only [cond_true] at hij
      rw [hγ2 j i hij] at hv
      rw [List.getElem?_append_left (List.getElem?_eq_some_iff.1 hv).1]; exact hv
    | false =>
      rw [hb] at hij
      simp only [cond_false, Option.some.injEq] at hij
      have hge : is.length ≤ j := by
        rcases Nat.lt_or_ge j is.length with h | h
        · have : Nat.blt j is.length = true := by simpa using h
          rw [this] at hb; cases hb
        · exact h
      subst hij
      rw [List.getElem?_append_right (by omega), List.getElem?_drop, hgl]
      rw [show is.length + (η.length + (j - is.length) - η.length) = j by omega]; exact hv
  have hlen2 : (upd is (η1'.map (renO (back is η.length))) η).length = η.length := upd_len _ _ _
  have cases2 : ∀ (i : Nat) v o, (γ ++ γ1'.drop is.length)[i]? = some v → (upd is (η1'.map (renO (back is η.length))) η ++ (η1'.drop is.length).map (renO (back is η.length)))[i]? = some o →
      (∃ (j : Nat) (o1 : AO), (back is η.length) j = some i ∧ γ1'[j]? = some v ∧ η1'[j]? = some o1 ∧ o = renO (back is η.length) o1) ∨ (i ∉ is ∧ γ[i]? = some v ∧ η[i]? = some o) := by
    intro i v o hv ho2
    rcases Nat.lt_or_ge i η.length with hi | hi
    · rw [List.getElem?_append_left (by omega)] at hv
      rw [List.getElem?_append_left (by omega)] at ho2
      by_cases hm : i ∈ is
      · obtain ⟨j, hj, e⟩ := List.mem_iff_getElem.1 hm
        have hjs : is[j]? = some i := by rw [List.getElem?_eq_getElem hj, e]
        have hj1 : j < η1'.length := by omega
        left
        refine ⟨j, η1'[j], ?_, by rw [hγ2 j i hjs]; exact hv, List.getElem?_eq_getElem hj1, ?_⟩
        · simp only [back]
          rw [show Nat.blt j is.length = true by simpa using hj]; exact hjs
        · have := upd_in is (η1'.map (renO (back is η.length))) η hn hlt j i _ hjs (by rw [List.getElem?_map, List.getElem?_eq_getElem hj1]; rfl)
          rw [this] at ho2
          cases ho2; rfl
      · right
        rw [upd_out _ _ _ _ hm] at ho2
        exact ⟨hm, hv, ho2⟩
    · rw [List.getElem?_append_right (by omega), List.getElem?_drop] at hv
      rw [List.getElem?_append_right (by omega), List.getElem?_map, List.getElem?_drop, hlen2] at ho2
      cases hq : η1'[is.length + (i - η.length)]? with
      | none => rw [hq] at ho2; cases ho2
      | some o1 =>
        rw [hq] at ho2
        left
        refine ⟨is.length + (i - η.length), o1, ?_, by rw [← hgl]; exact hv, hq, by cases ho2; rfl⟩
        simp only [back]
        have : Nat.blt (is.length + (i - η.length)) is.length = false := by
          cases h : Nat.blt (is.length + (i - η.length)) is.length
          · rfl
          · simp at h; omega
        rw [this]
        simp; omega
  have blkren : ∀ {τ o v b}, blk (renO τ o) v = some b → blk o v = some b := by
    intro τ o v b h
    cases o <;> first | exact h | (cases v <;> first | exact h | (rename_i q; cases q <;> exact h))
  have hnew : ∀ (j : Nat) v o b, γ1'[j]? = some v → η1'[j]? = some o → blk o v = some b → (∃ (i : Nat) (v' : Value) (o' : AO), i ∈ is ∧ γ[i]? = some v' ∧ η[i]? = some o' ∧ blk o' v' = some b) ∨ w.heap.size ≤ b := by
    intro j v o b h1 h2 h3
    rcases hC.own j v o b h1 h2 h3 with h | h
    · exact .inl (hbS b h)
    · exact .inr h
  have inj : ∀ (j j' i i' : Nat), (back is η.length) j = some i → (back is η.length) j' = some i' → i ≠ i' → j ≠ j' := by
    intro j j' i i' h1 h2 hne e
    subst e
    rw [h1] at h2; cases h2; exact hne rfl
  refine ⟨γ ++ γ1'.drop is.length, .app _ _, hshb, ⟨⟨by simp [hlen2, hgl, hl1'], fun i v o hv ho2 => ?_, fun i i' v v' o o' b hne hv ho1 hv' ho2 hb hb' => ?_⟩, hI.far.trans hfar (fun b hb => ?_), fun i v o b hv ho2 hb => ?_, hI.pre.trans (.app _ _)⟩, hfar.ext⟩
  · rcases cases2 i v o hv ho2 with ⟨j, o1, h1, h2, h3, rfl⟩ | ⟨hm, h1, h2⟩
    · exact ((OE.ren rfl) m' w' γ1' _ hshb v (hC.heap.ok j v o1 h2 h3)).1
    · refine (hI.heap.ok i v o h1 h2).far hfar (fun b hb hmem => ?_) (.app _ _)
      obtain ⟨k, u, p, hk, a1, a2, a3⟩ := hbS b hmem
      exact hI.heap.apart i k v u o p b (fun e => hm (e ▸ hk)) h1 h2 a1 a2 hb a3
  · rcases cases2 i v o hv ho1 with ⟨j, o1, h1, h2, h3, rfl⟩ | ⟨hm, h1, h2⟩
    · rcases cases2 i' v' o' hv' ho2 with ⟨j', o1', h1', h2', h3', rfl⟩ | ⟨hm', h1', h2'⟩
      · exact hC.heap.apart j j' v v' o1 o1' b (inj j j' i i' h1 h1' hne) h2 h3 h2' h3' (blkren hb) (blkren hb')
      · rcases hnew j v o1 b h2 h3 (blkren hb) with ⟨k, u, p, hk, a1, a2, a3⟩ | hge
        · exact hI.heap.apart k i' u v' p o' b (fun e => hm' (e ▸ hk)) a1 a2 h1' h2' a3 hb'
        · have := (hI.heap.ok i' v' o' h1' h2').lt hb'; omega
    · rcases cases2 i' v' o' hv' ho2 with ⟨j', o1', h1', h2', h3', rfl⟩ | ⟨hm', h1', h2'⟩
      · rcases hnew j' v' o1' b h2' h3' (blkren hb') with ⟨k, u, p, hk, a1, a2, a3⟩ | hge
        · exact hI.heap.apart k i u v p o b (fun e => hm (e ▸ hk)) a1 a2 h1 h2 a3 hb
        · have := (hI.heap.ok i v o h1 h2).lt hb; omega
      · exact hI.heap.apart i i' v v' o o' b hne h1 h2 h1' h2' hb hb'
  · obtain ⟨k, u, p, _, a1, a2, a3⟩ := hbS b hb
    exact hI.own k u p b a1 a2 a3
  · rcases cases2 i v o hv ho2 with ⟨j, o1, h1, h2, h3, rfl⟩ | ⟨hm, h1, h2⟩
    · rcases hnew j v o1 b h2 h3 (blkren hb) with ⟨k, u, p, hk, a1, a2, a3⟩ | hge
      · exact hI.own k u p b a1 a2 a3
      · exact .inr (Nat.le_trans hI.far.size hge)
    · exact hI.own i v o b h1 h2 hb
def evs2 (ρ : Ro) : List Operand → Option (List AV)
  | [] => some []
  | x :: r => match ev2 ρ x, evs2 ρ r with
    | some v, some vs => some (v :: vs)
    | _, _ => none
theorem RL.evs {m w γ ρc ρ} (h : RL m w γ ρc ρ) : ∀ {l : List Operand} {us : List AV}, evs2 ρ l = some us → ∃ vs, W.evs ρc l = some vs ∧ VL m w γ vs us
  | [], us, hl => by simp [evs2] at hl; subst hl; exact ⟨[], rfl, trivial⟩
  | x :: r, us, hl => by
    simp only [evs2] at hl
    split at hl
    · rename_i v vs h1 h2
      simp at hl
      subst hl
      obtain ⟨q, a1, a2⟩ := h.ev h1
      obtain ⟨qs, b1, b2⟩ := RL.evs h h2
      exact ⟨q :: qs, by simp [W.evs, a1, b1], a2, b2⟩
    · cases hl
def LEs (τ : Nat → Option Nat) : List AV → List AV → Prop
  | [], [] => True
  | x :: r, y :: s => LE τ x y ∧ LEs τ r s
  | _, _ => False
theorem LEs.vl {τ m w γ γ'} (hs : Sh2 τ γ γ') : ∀ {us as : List AV} {vs : List Value}, LEs τ us as → VL m w γ vs us → VL m w γ' vs as
  | [], [], [], _, _ => trivial
  | _x :: _r, _y :: _s, _v :: _vs, ⟨h1, h2⟩, ⟨k1, k2⟩ => ⟨h1 _ _ _ _ hs _ k1, LEs.vl hs h2 k2⟩
  | [], _ :: _, _, h, _ => h.elim
  | _ :: _, [], _, h, _ => h.elim
  | [], [], _ :: _, _, h => h.elim
  | _ :: _, _ :: _, [], _, h => h.elim
theorem VL.app {m w γ} : ∀ {vs us : List Value} {as bs : List AV}, VL m w γ vs as → VL m w γ us bs → VL m w γ (vs ++ us) (as ++ bs)
  | [], _, [], _, _, h => h
  | _ :: _, _, _ :: _, _, ⟨a, b⟩, h => ⟨a, VL.app b h⟩
  | [], _, _ :: _, _, h, _ => h.elim
  | _ :: _, _, [], _, h, _ => h.elim
theorem VL.of {m w γ} : ∀ {vs : List Value} {as : List AV}, vs.length = as.length → (∀ (j : Nat) v c, vs[j]? = some v → as[j]? = some c → Rep m w γ v c) → VL m w γ vs as
  | [], [], _, _ => trivial
  | _ :: _, _ :: _, hl, h => ⟨h 0 _ _ rfl rfl, VL.of (by simpa using hl) fun j v c a b => h (j + 1) v c (by simpa using a) (by simpa using b)⟩
  | [], _ :: _, hl, _ => by simp at hl
  | _ :: _, [], hl, _ => by simp at hl
theorem VL.get {m w γ} : ∀ {vs : List Value} {as : List AV}, VL m w γ vs as → ∀ (j : Nat) v c, vs[j]? = some v → as[j]? = some c → Rep m w γ v c
  | [], [], _, j, v, c, h, _ => by simp at h
  | _ :: _, _ :: _, ⟨a, b⟩, j, v, c, h1, h2 => by
    cases j with
    | zero => simp at h1 h2; subst h1 h2; exact a
    | succ j => exact VL.get b j v c (by simpa using h1) (by simpa using h2)
  | [], _ :: _, h, _, _, _, _, _ => h.elim
  | _ :: _, [], h, _, _, _, _, _ => h.elim
theorem VL.mono {m w γ m' w' γ'} (he : Ext m w m' w') (hp : Pre γ γ') : ∀ {vs : List Value} {as : List AV}, VL m w γ vs as → VL m' w' γ' vs as
  | [], [], _ => trivial
  | _ :: _, _ :: _, ⟨a, b⟩ => ⟨a.mono he hp, VL.mono he hp b⟩
  | [], _ :: _, h => h.elim
  | _ :: _, [], h => h.elim
section
variable {C : Cx} {ops : Array Oper} {Q : Qt} {ρ : Ro} {η η1 η1' η2 : Eta} {rest : List Oper} {T d : Nat} {pos : String} {af : Array Edge} {x : Operand} {args : List Operand} {at_ : Array TypeId}
theorem OL.call {f : Nat} {fn : Func} {us as : List AV} {r r2} (is : List Nat) (hs : Spec C.P f as η1 r η1') (hf : C.P.funcs[f]? = some fn) (hb : (fn.body.isNone || fn.name == "runtime.NumGoroutine") = false) (hl : evs2 ρ args = some us)
    (hn : nodB is = true) (ho : SubO (ts is) η is η1) (hle : LEs (ts is) us as) (hd : Nat.blt d C.N = true) (hr : ren (back is η.length) r = r2) (hη : upd is (η1'.map (renO (back is η.length))) η ++ (η1'.drop is.length).map (renO (back is η.length)) = η2)
    (k : OL C ops Q rest ((d, r2) :: ρ) η2) : OL C ops Q (⟨some d, .call ⟨.value (.func f), args.toArray, at_⟩, T, pos, af, none⟩ :: rest) ρ η := by
  rintro a w ⟨m, γ, ρc, hE, hR, hI⟩
  obtain ⟨vs, h1, h2⟩ := hR.evs hl
  obtain ⟨hsh, hH1, _⟩ := hI.heap.sel hn ho
  have hc := hs m w _ vs hH1 (hle.vl hsh h2)
  simp at hb
  have hb' : fn.body ≠ none := Option.isSome_iff_ne_none.1 hb.1
  refine Cx.lcons (wl_call (f := f) (args := vs.toArray) rfl ?_ (hc.mono fun e w' ⟨v, m', γ1', he, hC, hv⟩ => ⟨v, he, ?_⟩))
  · have he : a.eval (.func f) = .func (.func f) #[] #[] := rfl
    simp [execOp, resolve, he, Deferred.ofValue, invoke, callFunc, hf, hb.2, hb', hE.evs h1]
  · obtain ⟨γ2, p1, p2, p3, p4⟩ := hI.call hn ho hC
    subst hr hη
    exact k _ _ ⟨m', γ2, _, hE.put v (by simpa using hd), ⟨rfl, ren_rep p2 hv, hR.mono p4 p1⟩, p3⟩
theorem One.call {f : Nat} {fn : Func} {us as : List AV} {r r2} (hs : Spec C.P f as [] r η1') (hf : C.P.funcs[f]? = some fn) (hb : (fn.body.isNone || fn.name == "runtime.NumGoroutine") = false) (hl : evs2 ρ args = some us)
    (hle : LEs (ts []) us as) (hd : Nat.blt d C.N = true) (hr : ren (back [] η.length) r = r2) (hη : η ++ η1'.map (renO (back [] η.length)) = η2) :
    OneK C ops Q ⟨some d, .call ⟨.value (.func f), args.toArray, at_⟩, T, pos, af, none⟩ ρ η ((d, r2) :: ρ) η2 := by
  rintro a w Kc ⟨m, γ, ρc, hE, hR, hI⟩ k
  obtain ⟨vs, h1, h2⟩ := hR.evs hl
  obtain ⟨hsh, hH1, _⟩ := hI.heap.sel (η' := []) (σ := []) rfl trivial
  have hc := hs m w _ vs hH1 (hle.vl hsh h2)
  simp at hb
  have hb' : fn.body ≠ none := Option.isSome_iff_ne_none.1 hb.1
  refine (wl_call (f := f) (args := vs.toArray) rfl ?_ (hc.mono fun e w' ⟨v, m', γ1', he, hC, hv⟩ => ⟨v, he, ?_⟩))
  · have he : a.eval (.func f) = .func (.func f) #[] #[] := rfl
    simp [execOp, resolve, he, Deferred.ofValue, invoke, callFunc, hf, hb.2, hb', hE.evs h1]
  · obtain ⟨γ2, p1, p2, p3, p4⟩ := hI.call (is := []) (η1 := []) rfl trivial hC
    subst hr hη
    have hfar : Far [] m w m' w' := hC.far
    exact k _ _ hfar.keep.grown ⟨m', γ2, _, hE.put v (by simpa using hd), ⟨rfl, ren_rep p2 hv, hR.mono p4 p1⟩, by simpa [upd] using p3⟩
theorem OL.callv {f : Nat} {fn : Func} {us as first caps : List AV} {r r2} (is : List Nat) (hx : ev2 ρ x = some (.fn (.func f) first caps)) (hs : Spec C.P f as η1 r η1') (hf : C.P.funcs[f]? = some fn) (hb : (fn.body.isNone || fn.name == "runtime.NumGoroutine") = false) (hl : evs2 ρ args = some us)
    (hn : nodB is = true) (ho : SubO (ts is) η is η1) (hle : LEs (ts is) (first ++ us ++ caps) as) (hd : Nat.blt d C.N = true) (hr : ren (back is η.length) r = r2) (hη : upd is (η1'.map (renO (back is η.length))) η ++ (η1'.drop is.length).map (renO (back is η.length)) = η2)
    (k : OL C ops Q rest ((d, r2) :: ρ) η2) : OL C ops Q (⟨some d, .call ⟨.value x, args.toArray, at_⟩, T, pos, af, none⟩ :: rest) ρ η := by
  rintro a w ⟨m, γ, ρc, hE, hR, hI⟩
  obtain ⟨vs, h1, h2⟩ := hR.evs hl
  obtain ⟨fv, g1, g2⟩ := hR.ev hx
  cases g2 with
  | @fn _ _ v1 v2 _ _ l1 l2 q1 q2 =>
  obtain ⟨hsh, hH1, _⟩ := hI.heap.sel hn ho
  have hc := hs m w _ (v1 ++ vs ++ v2) hH1 (hle.vl hsh ((VL.app (VL.of l1 q1) h2).app (VL.of l2 q2)))
  simp at hb
  have hb' : fn.body ≠ none := Option.isSome_iff_ne_none.1 hb.1
  refine Cx.lcons (wl_call (f := f) (args := (v1 ++ vs ++ v2).toArray) rfl ?_ (hc.mono fun e w' ⟨v, m', γ1', he, hC, hv⟩ => ⟨v, he, ?_⟩))
  · simp [execOp, resolve, hE.ev g1, Deferred.ofValue, invoke, callFunc, hf, hb.2, hb', hE.evs h1]
  · obtain ⟨γ2, p1, p2, p3, p4⟩ := hI.call hn ho hC
    subst hr hη
    exact k _ _ ⟨m', γ2, _, hE.put v (by simpa using hd), ⟨rfl, ren_rep p2 hv, hR.mono p4 p1⟩, p3⟩
/-! ### Functions that are known by what they do -/
def FunR2 (P : Program) {ι : Type} (dom : ι → Prop) (as : ι → List AV) (r : ι → AV) (e : ι → Eta) (m : Nat → Nat) (w : World) (fv : Value) : Prop :=
  ∃ f first caps fn, fv = .func (.func f) first caps ∧ P.funcs[f]? = some fn ∧ (fn.body.isNone || fn.name == "runtime.NumGoroutine") = false ∧
    ∀ m' w' vs x, Ext m w m' w' → VL m' w' [] vs (as x) → dom x → Calls P f (first ++ vs.toArray ++ caps) w' (PostB (baseOf m' w' [] []) (r x) (e x))
def FunMP (P : Program) {ι : Type} (dom : ι → Prop) (as : ι → List AV) (r : ι → AV) (e : ι → Eta) : MP where
  R := FunR2 P dom as r e
  mono := fun he ⟨f, first, caps, fn, h1, h2, h3, h4⟩ => ⟨f, first, caps, fn, h1, h2, h3, fun m' w' vs x he' => h4 m' w' vs x (he.trans he')⟩
  one := fun ⟨f, first, caps, fn, h1, _⟩ => by subst h1; rfl
theorem LE.fun_ {P : Program} {ι : Type} {f : Nat} {fn : Func} {first caps first' caps' : List AV} {dom : ι → Prop} {as r e} (hf : P.funcs[f]? = some fn) (hb : (fn.body.isNone || fn.name == "runtime.NumGoroutine") = false) (h1 : LEs (ts []) first first') (h2 : LEs (ts []) caps caps')
    (hs : ∀ x, dom x → Spec P f (first' ++ as x ++ caps') [] (r x) (e x)) : LE (ts []) (.fn (.func f) first caps) (.pr (FunMP P dom as r e)) := fun m w γ γ' hsh v hr => by
  cases hr with
  | @fn _ _ v1 v2 _ _ l1 l2 q1 q2 =>
  have e1 := h1.vl (γ' := []) (fun i j h => by cases h) (VL.of l1 q1)
  have e2 := h2.vl (γ' := []) (fun i j h => by cases h) (VL.of l2 q2)
  refine .pr ⟨f, v1.toArray, v2.toArray, fn, rfl, hf, hb, fun m' w' vs x he hV hd => ?_⟩
  have := hs x hd m' w' [] (v1 ++ vs ++ v2) ⟨rfl, fun i v o h => by simp at h, fun i j v v' o o' b _ h => by simp at h⟩ (((e1.mono he (.refl _)).app hV).app (e2.mono he (.refl _)))
  simpa using this
theorem One.callf {P : Program} {ι : Type} {us : List AV} {dom : ι → Prop} {as r e} {r2} {t : ι} (hP : C.P = P) (hx : ev2 ρ x = some (.pr (FunMP P dom as r e))) (hl : evs2 ρ args = some us) (hdom : dom t) (hle : LEs (ts []) us (as t)) (hd : Nat.blt d C.N = true)
    (hr : ren (back [] η.length) (r t) = r2) (hη : η ++ (e t).map (renO (back [] η.length)) = η2) : OneK C ops Q ⟨some d, .call ⟨.value x, args.toArray, at_⟩, T, pos, af, none⟩ ρ η ((d, r2) :: ρ) η2 := by
  rintro a w Kc ⟨m, γ, ρc, hE, hR, hI⟩ k
  subst hP
  obtain ⟨vs, h1, h2⟩ := hR.evs hl
  obtain ⟨fv, g1, g2⟩ := hR.ev hx
  cases g2 with
  | pr hpr =>
  obtain ⟨f, first, caps, fn, rfl, hf, hb, hs⟩ := hpr
  have hc := hs m w vs t (.refl _ _) (hle.vl (γ' := []) (fun i j h => by cases h) h2) hdom
  simp at hb
  have hb' : fn.body ≠ none := Option.isSome_iff_ne_none.1 hb.1
  refine (wl_call (f := f) (args := first ++ vs.toArray ++ caps) rfl ?_ (hc.mono fun e' w' ⟨v, m', γ1', he, hC, hv⟩ => ⟨v, he, ?_⟩))
  · simp [execOp, resolve, hE.ev g1, Deferred.ofValue, invoke, callFunc, hf, hb.2, hb', hE.evs h1]
  · obtain ⟨γ2, p1, p2, p3, p4⟩ := hI.call (is := []) (η1 := []) rfl trivial hC
    subst hr hη
    have hfar : Far [] m w m' w' := hC.far
    exact k _ _ hfar.keep.grown ⟨m', γ2, _, hE.put v (by simpa using hd), ⟨rfl, ren_rep p2 hv, hR.mono p4 p1⟩, by simpa [upd] using p3⟩
end
end Go.V
namespace Go.V
open Go Go.W
abbrev int (n : Int) : AV := .raw (.int .i64 n)
abbrev bool (b : Bool) : AV := .raw (.bool b)
abbrev ints (l : List Int) : AV := .sl 1 none (l.map int)
abbrev rows (g : List (List Int)) : AV := .sl 1 none (g.map ints)
section
variable {P : Program} {tab : Tab} {N : Nat} {D : List Deferred} {ρ : Ro} {η : Eta} {x y z : Operand} {X Y : Nat} {M : Bool}
theorem give_notD {p : Prop} [Decidable p] {Ty} (hx : ev2 ρ x = some (.raw (.bool (decide p)))) : Gives P N D (.unOp .not Ty x) ρ η (.raw (.bool (decide (¬p)))) M := by
  have := give_not (P := P) (N := N) (D := D) (η := η) (Ty := Ty) (M := M) hx
  rw [show (!decide p) = decide (¬p) by simp] at this
  exact this
theorem give_makeFunc {fn : Fn} {lf l : List Operand} {us vs : List AV} (hf : evs2 ρ lf = some us) (hl : evs2 ρ l = some vs) : Gives P N D (.makeFunc fn lf.toArray l.toArray) ρ η (.fn fn us vs) M := fun m w γ ρc a hE hR hH => by
  obtain ⟨v1, h1, h2⟩ := hR.evs hf
  obtain ⟨v2, g1, g2⟩ := hR.evs hl
  exact ⟨.func fn v1.toArray v2.toArray, .fn h2.len g2.len h2.get g2.get, fun _ _ _ _ _ _ => by simp [execOp, Instr.makeFunc, hE.evs h1, hE.evs g1]⟩
theorem give_extract {vs : List AV} {i : Nat} {u} (hx : ev2 ρ x = some (.tp vs)) (hi : vs[i]? = some u) : Gives P N D (.extract x i) ρ η u M := fun m w γ ρc a hE hR hH => by
  obtain ⟨v, h1, h2⟩ := hR.ev hx
  cases h2 with
  | @tp _ qs _ hl hr =>
  have hlt : i < qs.length := by rw [hl]; exact (List.getElem?_eq_some_iff.1 hi).1
  exact ⟨qs[i], hr i _ _ (List.getElem?_eq_getElem hlt) hi, fun _ _ _ _ _ _ => by simp [execOp, hE.ev h1, Instr.extract, List.getElem?_eq_getElem hlt]⟩
theorem run_slice_lh {α : Type} {sz : Nat} {Cr : CRel α} {m : Nat → Nat} {w1 : World} {xs : List α} {v : Value} {lo hi : Option Value} {l h e : Nat} {inf : TypeInfo} (hu : P.underlying X = some (.slice e)) (hi1 : P.info? e = some inf) (hi2 : inf.size = sz) (hr : RS sz Cr m w1 v xs)
    (hlo : (lo = none ∧ l = 0) ∨ lo = some (.int .i64 (l : Int))) (hhi : (hi = none ∧ h = xs.length) ∨ hi = some (.int .i64 (h : Int))) (hlh : l ≤ h) (hh : h ≤ xs.length) :
    ∃ v', RS sz Cr m w1 v' ((xs.take h).drop l) ∧ ∀ w, (Instr.slice X v lo hi none).run P w = .ok v' w := by
  rcases hr with ⟨rfl, rfl⟩ | ⟨b, o, cap, rfl, hc, hm, hel⟩ | ⟨aw, rfl, rfl⟩
  rotate_right
  · obtain rfl : h = 0 := by simpa using hh
    obtain rfl : l = 0 := by omega
    refine ⟨.slice (some aw) 0 0, .inr (.inr ⟨aw, rfl, rfl⟩), fun w => ?_⟩
    rcases hlo with ⟨rfl, _⟩ | rfl <;> rcases hhi with ⟨rfl, _⟩ | rfl <;> simp [Instr.slice, run_underlying hu, Instr.sliceBounds, Instr.sliceBound, asIntOf, sizeOf, typeInfo, hi1]
  · obtain rfl : h = 0 := by simpa using hh
    obtain rfl : l = 0 := by omega
    refine ⟨.slice none 0 0, .inl ⟨rfl, rfl⟩, fun w => ?_⟩
    rcases hlo with ⟨rfl, _⟩ | rfl <;> rcases hhi with ⟨rfl, _⟩ | rfl <;> simp [Instr.slice, run_underlying hu, Instr.sliceBounds, Instr.sliceBound, asIntOf, sizeOf, typeInfo, hi1]
  · refine ⟨.slice (some (if cap = l then ⟨b, o, none⟩ else (⟨b, o, none⟩ : Addr).add (l * sz))) (h - l) (cap - l), RS.sliced hc hm hel hlh hh, fun w => ?_⟩
    have hhc : h ≤ cap := by omega
    rcases hlo with ⟨rfl, rfl⟩ | rfl <;> rcases hhi with ⟨rfl, rfl⟩ | rfl <;> simp [Instr.slice, run_underlying hu, Instr.sliceBounds, Instr.sliceBound, asIntOf, sizeOf, typeInfo, hi1, hi2, hhc, hlh] <;> split <;> simp
def Bnd (ρ : Ro) (o : Option Operand) (df n : Nat) : Prop := (o = none ∧ n = df) ∨ ∃ x i, o = some x ∧ ev2 ρ x = some (.raw (.int .i64 i)) ∧ i = n
theorem give_slice {sz nl xs E} {lo hi : Option Operand} {l h : Nat} (hT : TabOK P tab) (hs : (tab X).map (·.sh) = some (.slice E)) (hz : (tab E).map (·.size) = some sz) (hx : ev2 ρ x = some (.sl sz nl xs)) (hlo : Bnd ρ lo 0 l) (hhi : Bnd ρ hi xs.length h) (hlh : l ≤ h) (hh : h ≤ xs.length) :
    Gives P N D (.slice X x lo hi none) ρ η (.sl sz none ((xs.take h).drop l)) M := fun m w γ ρc a hE hR hH => by
  obtain ⟨v, h1, h2⟩ := hR.ev hx
  obtain ⟨d, hu, hd⟩ := shOf hT hs
  obtain rfl : d = _ := hd
  obtain ⟨inf, i1, i2⟩ := sizeOf' hT hz
  have key : ∀ {o : Option Operand} {df n : Nat}, Bnd ρ o df n → (o.map a.eval = none ∧ n = df) ∨ o.map a.eval = some (.int .i64 (n : Int)) := by
    rintro o df n (⟨rfl, rfl⟩ | ⟨x, i, rfl, hx, rfl⟩)
    · exact .inl ⟨rfl, rfl⟩
    · exact .inr (by simp [hE.ev (hR.raw hx)])
  obtain ⟨v', g1, g2⟩ := run_slice_lh (lo := lo.map a.eval) (hi := hi.map a.eval) hu i1 i2 h2.rs.1 (key hlo) (key hhi) hlh hh
  refine ⟨v', Rep.of_rs g1 (NL.none _), fun _ _ _ _ _ _ => ?_⟩
  have := g2
  simp [execOp, hE.ev h1, Instr.sliceAt, run_underlying hu, g2]
theorem give_slice_h {α : Type} {f : α → AV} {sz nl E i} {xs : List α} {h : Nat} (hT : TabOK P tab) (hs : (tab X).map (·.sh) = some (.slice E)) (hz : (tab E).map (·.size) = some sz) (hx : ev2 ρ x = some (.sl sz nl (xs.map f))) (hy : ev2 ρ y = some (.raw (.int .i64 i))) (hi : i = (h : Nat)) (hh : h ≤ xs.length) :
    Gives P N D (.slice X x none (some y) none) ρ η (.sl sz none ((xs.take h).map f)) M := by
  have := give_slice (P := P) (N := N) (D := D) (η := η) (M := M) (hi := some y) (l := 0) hT hs hz hx (.inl ⟨rfl, rfl⟩) (.inr ⟨y, i, rfl, hy, hi⟩) (Nat.zero_le _) (by simpa using hh)
  rwa [List.drop_zero, ← List.map_take] at this
theorem give_slice_l {α : Type} {f : α → AV} {sz nl E i} {xs : List α} {l : Nat} (hT : TabOK P tab) (hs : (tab X).map (·.sh) = some (.slice E)) (hz : (tab E).map (·.size) = some sz) (hx : ev2 ρ x = some (.sl sz nl (xs.map f))) (hy : ev2 ρ y = some (.raw (.int .i64 i))) (hi : i = (l : Nat)) (hl : l ≤ xs.length) :
    Gives P N D (.slice X x (some y) none none) ρ η (.sl sz none ((xs.drop l).map f)) M := by
  have := give_slice (P := P) (N := N) (D := D) (η := η) (M := M) (lo := some y) hT hs hz hx (.inr ⟨y, i, rfl, hy, hi⟩) (.inl ⟨rfl, rfl⟩) (by simpa using hl) (Nat.le_refl _)
  rwa [List.take_length, ← List.map_drop] at this
theorem give_slice_2 {α : Type} {f : α → AV} {sz nl E i j} {xs : List α} {l h : Nat} (hT : TabOK P tab) (hs : (tab X).map (·.sh) = some (.slice E)) (hz : (tab E).map (·.size) = some sz) (hx : ev2 ρ x = some (.sl sz nl (xs.map f))) (hy : ev2 ρ y = some (.raw (.int .i64 i))) (hi : i = (l : Nat)) (hz' : ev2 ρ z = some (.raw (.int .i64 j))) (hj : j = (h : Nat)) (hlh : l ≤ h) (hh : h ≤ xs.length) :
    Gives P N D (.slice X x (some y) (some z) none) ρ η (.sl sz none (((xs.take h).drop l).map f)) M := by
  have := give_slice (P := P) (N := N) (D := D) (η := η) (M := M) (lo := some y) (hi := some z) hT hs hz hx (.inr ⟨y, i, rfl, hy, hi⟩) (.inr ⟨z, j, rfl, hz', hj⟩) hlh (by simpa using hh)
  rwa [← List.map_take, ← List.map_drop] at this
theorem give_pickT {u} (hx : ev2 ρ x = some (.raw (.bool true))) (hy : ev2 ρ y = some u) : Gives P N D (.pick x y z) ρ η u M := fun m w γ ρc a hE hR hH => by
  obtain ⟨q, g1, g2⟩ := hR.ev hy
  exact ⟨q, g2, fun _ _ _ _ _ _ => by simp [execOp, hE.ev (hR.raw hx), hE.ev g1, asBool]⟩
theorem give_pickF {u} (hx : ev2 ρ x = some (.raw (.bool false))) (hz : ev2 ρ z = some u) : Gives P N D (.pick x y z) ρ η u M := fun m w γ ρc a hE hR hH => by
  obtain ⟨q, g1, g2⟩ := hR.ev hz
  exact ⟨q, g2, fun _ _ _ _ _ _ => by simp [execOp, hE.ev (hR.raw hx), hE.ev g1, asBool]⟩
theorem give_field1 {f : Nat} {fs : List (Nat × Nat)} {off F cs c} (hT : TabOK P tab) (hs : (tab X).map (·.sh) = some (.strct fs)) (hf : fs[f]? = some (off, F)) (hF : (tab F).map (·.sh.agg) = some false) (hx : ev2 ρ x = some (.st cs)) (hc : cs[off]? = some c) : Gives P N D (.field X x f) ρ η c M := fun m w γ ρc a hE hR hH => by
  obtain ⟨v, h1, h2⟩ := hR.ev hx
  obtain ⟨d, hu, fields, rfl, hfs⟩ := shOf hT hs
  subst hfs
  have hq : ∃ fd, fields[f]? = some fd ∧ fd.offset = off ∧ fd.type = F := by
    simp only [List.getElem?_map, Array.getElem?_toList] at hf
    cases hq : fields[f]? with
    | none => rw [hq] at hf; cases hf
    | some fd => rw [hq] at hf; simp at hf; exact ⟨fd, rfl, hf.1, hf.2⟩
  obtain ⟨fd, hq, rfl, rfl⟩ := hq
  cases h2 with
  | @st _ vs _ hl h1' hr =>
  have hlt : fd.offset < vs.length := by rw [hl]; exact (List.getElem?_eq_some_iff.1 hc).1
  cases ht : tab fd.type with
  | none => rw [ht] at hF; cases hF
  | some te =>
    rw [ht] at hF
    simp at hF
    have hagg := (hT _ te ht).nagg hF
    exact ⟨vs[fd.offset], hr _ _ _ (List.getElem?_eq_getElem hlt) hc, fun {m' w'} _ _ _ _ _ _ => by simp [execOp, hE.ev h1, Instr.field, run_underlying hu, hq, part, asAgg, hagg w', List.getElem?_eq_getElem hlt]⟩
theorem give_load_gp {i sz k o : Nat} {fz E nl} {xs : List AV} {e c} (hT : TabOK P tab) (hs : (tab X).map (·.sh.agg) = some false) (hx : ev2 ρ x = some (.gp i sz k o)) (ho : η[i]? = some (.gs fz E sz nl xs)) (he : xs[k]? = some e) (hc : e.cells[o]? = some c) : Gives P N D (.load X x) ρ η c := fun m w γ ρc a hE hR hH => by
  obtain ⟨v, h1, h2⟩ := hR.ev hx
  obtain ⟨b, vs, rfl, hC, hK⟩ := gp_cells hH h2 ho he
  have hlt : o < vs.length := by rw [hC.1]; exact (List.getElem?_eq_some_iff.1 hc).1
  refine ⟨vs[o], (hC.2.2 o _ _ (List.getElem?_eq_getElem hlt) hc).mono (.refl _ _) (fun _ _ h => by simp at h), fun {m' w'} hk _ _ _ _ _ => ?_⟩
  have hcell := hK (hk rfl) o _ (List.getElem?_eq_getElem hlt)
  cases ht : tab X with
  | none => rw [ht] at hs; cases hs
  | some te =>
    rw [ht] at hs
    simp at hs
    have hagg := (hT X te ht).nagg hs
    simp [execOp, hE.ev h1, Instr.loadAt, Instr.sureAddr, loadVar, hagg, hcell]
theorem give_load_gp_agg {i sz k o n : Nat} {fz E nl} {xs : List AV} {e} (hT : TabOK P tab) (hs : (tab X).map (fun e => (e.sh.agg, e.size)) = some (true, n)) (hx : ev2 ρ x = some (.gp i sz k o)) (ho : η[i]? = some (.gs fz E sz nl xs)) (he : xs[k]? = some e) (hn : (e.cells.drop o).length = n) : Gives P N D (.load X x) ρ η (.st (e.cells.drop o)) := fun m w γ ρc a hE hR hH => by
  obtain ⟨v, h1, h2⟩ := hR.ev hx
  obtain ⟨b, vs, rfl, hC, hK⟩ := gp_cells hH h2 ho he
  have hlen : (vs.drop o).length = n := by rw [← hn, List.length_drop, List.length_drop, hC.1]
  refine ⟨.agg (vs.drop o).toArray, .st (by rw [hlen, hn]) (fun c hc => hC.2.1 c (List.mem_of_mem_drop hc)) (fun j v c a a' => (hC.2.2 (o + j) v c (by simpa using a) (by simpa using a')).mono (.refl _ _) (fun _ _ h => by simp at h)), fun {m' w'} hk _ _ _ _ _ => ?_⟩
  cases ht : tab X with
  | none => rw [ht] at hs; cases hs
  | some te =>
    rw [ht] at hs
    simp at hs
    have hagg := (hT X te ht).agg hs.1
    obtain ⟨inf, i1, i2, _⟩ := (hT X te ht).info
    have hl := run_loadCells_list (P := P) w' ⟨b, k * sz + o, none⟩ (vs.drop o) (fun j c hj => by rw [Addr_add_lit, Nat.add_assoc]; exact hK (hk rfl) (o + j) c (by simpa using hj))
    rw [hlen, ← hs.2, ← i2] at hl
    simp [execOp, hE.ev h1, Instr.loadAt, Instr.sureAddr, loadVar, hagg, sizeOf, typeInfo, i1, hl]
/-! ### Bits -/
theorem give_or64 {p q : Nat} (hx : ev2 ρ x = some (.raw (.int .u64 (p : Int)))) (hy : ev2 ρ y = some (.raw (.int .u64 (q : Int)))) (hp : p < 2 ^ 64) (hq : q < 2 ^ 64) : Gives P N D (.binOp .or X x y Y) ρ η (.raw (.int .u64 ((p ||| q : Nat) : Int))) M := fun _ _ _ _ _ hE hR _hH =>
  ⟨_, .raw rfl, fun _ _ _ _ _ _ => run_or64 hE (hR.raw hx) (hR.raw hy) hp hq⟩
theorem give_and64 {p q : Nat} (hx : ev2 ρ x = some (.raw (.int .u64 (p : Int)))) (hy : ev2 ρ y = some (.raw (.int .u64 (q : Int)))) (hp : p < 2 ^ 64) (hq : q < 2 ^ 64) : Gives P N D (.binOp .and X x y Y) ρ η (.raw (.int .u64 ((p &&& q : Nat) : Int))) M := fun _ _ _ _ _ hE hR hH =>
  ⟨_, .raw rfl, fun _ _ _ _ _ _ => by
    have hpq : p &&& q < 2 ^ 64 := Nat.lt_of_le_of_lt Nat.and_le_left hp
    have e1 := bv64 p hp
    have e2 := bv64 q hq
    have e3 : p % 2 ^ IntKind.u64.bits = p := Nat.mod_eq_of_lt hp
    have e4 : q % 2 ^ IntKind.u64.bits = q := Nat.mod_eq_of_lt hq
    have e5 := u64_wrap (Int.natCast_nonneg _) (lt64 hpq)
    simp only [execOp, hE.ev (hR.raw hx), hE.ev (hR.raw hy), binOp, eqGuard, Op.intBits]
    simp [e3, e4, e5]⟩
theorem give_shl1 {c : Int} (hy : ev2 ρ y = some (.raw (.int .i64 c))) (h0 : 0 ≤ c) (h1 : c < 64) : Gives P N D (.binOp .shl X (.const (.int .u64 1)) y Y) ρ η (.raw (.int .u64 ((1 <<< c.toNat : Nat) : Int))) M := fun _ _ _ _ _ hE hR _hH =>
  ⟨_, .raw rfl, fun _ _ _ _ _ _ => run_shl1 hE (hR.raw hy) h0 h1⟩
theorem give_shr64 {p : Nat} {c : Int} (hx : ev2 ρ x = some (.raw (.int .u64 (p : Int)))) (hy : ev2 ρ y = some (.raw (.int .i64 c))) (h0 : 0 ≤ c) (h1 : c < 64) : Gives P N D (.binOp .shr X x y Y) ρ η (.raw (.int .u64 ((p >>> c.toNat : Nat) : Int))) M := fun _ _ _ _ _ hE hR hH =>
  ⟨_, .raw rfl, fun _ _ _ _ _ _ => by
    have hm : min c.toNat 64 = c.toNat := by omega
    have hc : ¬ c < 0 := by omega
    have e : (p : Int).fdiv (2 ^ c.toNat) = ((p >>> c.toNat : Nat) : Int) := by
      rw [Nat.shiftRight_eq_div_pow, Int.fdiv_eq_ediv_of_nonneg _ (by exact Int.le_of_lt (Int.pow_pos (by omega)))]
      simp
    simp only [execOp, hE.ev (hR.raw hx), hE.ev (hR.raw hy), binOp, eqGuard, Op.shift]
    simp only [hc, if_false, IntKind.bits, hm, e]
    simp⟩
theorem bit_lt {c : Int} (h0 : 0 ≤ c) (h1 : c < 64) : 1 <<< c.toNat < 2 ^ 64 := by rw [Nat.one_shiftLeft]; exact Nat.pow_lt_pow_right (by omega) (by omega)
end
section
variable {C : Cx} {ops : Array Oper} {Q : Qt} {ρ : Ro} {η : Eta} {rest : List Oper} {T d : Nat} {pos : String} {af : Array Edge} {op : Op} {x : Operand} {A K : Code}
theorem gv {C : Cx} {op : Op} {ρ : Ro} {η : Eta} {u : AV} {M : Bool}
    (h : Gives C.P C.N C.D op ρ η u M := by
      first
      | with_reducible refine give_move (by with_unfolding_all exact rfl)
      | with_reducible refine give_assign (by with_unfolding_all exact rfl)
      | with_reducible refine give_cmp (by with_unfolding_all exact rfl) (by with_unfolding_all exact rfl) (by with_unfolding_all exact rfl)
      | with_reducible refine give_add (by with_unfolding_all exact rfl) (by with_unfolding_all exact rfl) (by omega) (by omega)
      | with_reducible refine give_sub (by with_unfolding_all exact rfl) (by with_unfolding_all exact rfl) (by omega) (by omega)
      | with_reducible refine give_mul (by with_unfolding_all exact rfl) (by with_unfolding_all exact rfl) (by omega) (by omega)
      | with_reducible refine give_rem (by with_unfolding_all exact rfl) (by with_unfolding_all exact rfl) (by omega) (by omega)
      | with_reducible refine give_notD (by with_unfolding_all exact rfl)
      | with_reducible refine give_not (by with_unfolding_all exact rfl)
      | with_reducible refine give_len_map (Cx.hT _) (by with_unfolding_all exact rfl) (by with_unfolding_all exact rfl)
      | with_reducible refine give_len_sl (Cx.hT _) (by with_unfolding_all exact rfl) (by with_unfolding_all exact rfl)
      | with_reducible refine give_len_hs_map (Cx.hT _) (by with_unfolding_all exact rfl) (by with_unfolding_all exact rfl) (by with_unfolding_all exact rfl)
      | with_reducible refine give_len_hs (Cx.hT _) (by with_unfolding_all exact rfl) (by with_unfolding_all exact rfl) (by with_unfolding_all exact rfl)
      | with_reducible refine give_idx (Cx.hT _) (by with_unfolding_all exact rfl) (by with_unfolding_all exact rfl) (by with_unfolding_all exact rfl) (by with_unfolding_all exact rfl) (by with_unfolding_all exact rfl) (by first | exact map_get (by omega) | with_unfolding_all exact rfl | exact List.getElem?_eq_getElem (by omega))
      | with_reducible refine give_idx (n := 0) (Cx.hT _) (by with_unfolding_all exact rfl) (by with_unfolding_all exact rfl) (by with_unfolding_all exact rfl) (by with_unfolding_all exact rfl) (by with_unfolding_all exact rfl) (by first | exact map_get (by omega) | with_unfolding_all exact rfl | exact List.getElem?_eq_getElem (by omega))
      | with_reducible refine give_idx (n := Int.toNat _) (Cx.hT _) (by with_unfolding_all exact rfl) (by with_unfolding_all exact rfl) (by with_unfolding_all exact rfl) (by with_unfolding_all exact rfl) (Int.toNat_of_nonneg (by omega)).symm (by first | exact map_get (by omega) | with_unfolding_all exact rfl | exact List.getElem?_eq_getElem (by omega))
      | with_reducible refine give_idx_hs (Cx.hT _) (by with_unfolding_all exact rfl) (by with_unfolding_all exact rfl) (by with_unfolding_all exact rfl) (by with_unfolding_all exact rfl) (by with_unfolding_all exact rfl) (by with_unfolding_all exact rfl) (by first | exact map_get (by omega) | with_unfolding_all exact rfl | exact List.getElem?_eq_getElem (by omega))
      | with_reducible refine give_idx_hs (n := Int.toNat _) (Cx.hT _) (by with_unfolding_all exact rfl) (by with_unfolding_all exact rfl) (by with_unfolding_all exact rfl) (by with_unfolding_all exact rfl) (by with_unfolding_all exact rfl) (Int.toNat_of_nonneg (by omega)).symm (by first | exact map_get (by omega) | with_unfolding_all exact rfl | exact List.getElem?_eq_getElem (by omega))
      | with_reducible refine give_idx_arr (n := 0) (Cx.hT _) (by with_unfolding_all exact rfl) (by with_unfolding_all exact rfl) (by with_unfolding_all exact rfl) (by with_unfolding_all exact rfl) (by with_unfolding_all exact rfl) (by decide) (by with_unfolding_all exact rfl)
      | with_reducible refine give_field_addr (Cx.hT _) (by with_unfolding_all exact rfl) (by with_unfolding_all exact rfl) (by with_unfolding_all exact rfl) (by with_unfolding_all exact rfl) (by with_unfolding_all exact rfl)
      | with_reducible refine give_nilCheck (by with_unfolding_all exact rfl) (by with_unfolding_all exact rfl)
      | with_reducible refine give_load (Cx.hT _) (by with_unfolding_all exact rfl) (by with_unfolding_all exact rfl) (by with_unfolding_all exact rfl) (by with_unfolding_all exact rfl)
      | with_reducible refine give_load_agg (Cx.hT _) (by with_unfolding_all exact rfl) (by with_unfolding_all exact rfl) (by with_unfolding_all exact rfl) (by with_unfolding_all exact rfl)
      | with_reducible refine give_pickT (by with_unfolding_all exact rfl) (by with_unfolding_all exact rfl)
      | with_reducible refine give_pickF (by with_unfolding_all exact rfl) (by with_unfolding_all exact rfl)
      | with_reducible refine give_slice_h (Cx.hT _) (by with_unfolding_all exact rfl) (by with_unfolding_all exact rfl) (by with_unfolding_all exact rfl) (by with_unfolding_all exact rfl) (by with_unfolding_all exact rfl) (by omega)
      | with_reducible refine give_slice_h (h := Int.toNat _) (Cx.hT _) (by with_unfolding_all exact rfl) (by with_unfolding_all exact rfl) (by with_unfolding_all exact rfl) (by with_unfolding_all exact rfl) (Int.toNat_of_nonneg (by omega)).symm (by omega)
      | with_reducible refine give_slice_l (Cx.hT _) (by with_unfolding_all exact rfl) (by with_unfolding_all exact rfl) (by with_unfolding_all exact rfl) (by with_unfolding_all exact rfl) (by with_unfolding_all exact rfl) (by omega)
      | with_reducible refine give_slice_l (l := 1) (Cx.hT _) (by with_unfolding_all exact rfl) (by with_unfolding_all exact rfl) (by with_unfolding_all exact rfl) (by with_unfolding_all exact rfl) (by with_unfolding_all exact rfl) (by omega)
      | with_reducible refine give_slice_l (l := Int.toNat _) (Cx.hT _) (by with_unfolding_all exact rfl) (by with_unfolding_all exact rfl) (by with_unfolding_all exact rfl) (by with_unfolding_all exact rfl) (Int.toNat_of_nonneg (by omega)).symm (by omega)
      | with_reducible refine give_field1 (Cx.hT _) (by with_unfolding_all exact rfl) (by with_unfolding_all exact rfl) (by with_unfolding_all exact rfl) (by with_unfolding_all exact rfl) (by with_unfolding_all exact rfl)
      | with_reducible refine give_load_gp (Cx.hT _) (by with_unfolding_all exact rfl) (by with_unfolding_all exact rfl) (by with_unfolding_all exact rfl) (by first | exact map_get (by omega) | with_unfolding_all exact rfl | exact List.getElem?_eq_getElem (by omega)) (by with_unfolding_all exact rfl)
      | with_reducible refine give_load_gp_agg (Cx.hT _) (by with_unfolding_all exact rfl) (by with_unfolding_all exact rfl) (by with_unfolding_all exact rfl) (by first | exact map_get (by omega) | with_unfolding_all exact rfl | exact List.getElem?_eq_getElem (by omega)) (by with_unfolding_all exact rfl)
      | with_reducible refine give_or64 (by with_unfolding_all exact rfl) (by with_unfolding_all exact rfl) (by first | assumption | decide | exact bit_lt (by omega) (by omega) | exact Nat.or_lt_two_pow (by assumption) (by assumption) | exact Nat.lt_of_le_of_lt (Nat.shiftRight_le _ _) (by assumption) | exact Nat.lt_of_le_of_lt Nat.and_le_left (by assumption)) (by first | assumption | decide | exact bit_lt (by omega) (by omega) | exact Nat.or_lt_two_pow (by assumption) (by assumption) | exact Nat.lt_of_le_of_lt (Nat.shiftRight_le _ _) (by assumption) | exact Nat.lt_of_le_of_lt Nat.and_le_left (by assumption))
      | with_reducible refine give_and64 (by with_unfolding_all exact rfl) (by with_unfolding_all exact rfl) (by first | assumption | decide | exact bit_lt (by omega) (by omega) | exact Nat.or_lt_two_pow (by assumption) (by assumption) | exact Nat.lt_of_le_of_lt (Nat.shiftRight_le _ _) (by assumption) | exact Nat.lt_of_le_of_lt Nat.and_le_left (by assumption)) (by first | assumption | decide | exact bit_lt (by omega) (by omega) | exact Nat.or_lt_two_pow (by assumption) (by assumption) | exact Nat.lt_of_le_of_lt (Nat.shiftRight_le _ _) (by assumption) | exact Nat.lt_of_le_of_lt Nat.and_le_left (by assumption))
      | with_reducible refine give_and64 (q := 1) (by with_unfolding_all exact rfl) (by with_unfolding_all exact rfl) (by first | assumption | decide | exact bit_lt (by omega) (by omega) | exact Nat.or_lt_two_pow (by assumption) (by assumption) | exact Nat.lt_of_le_of_lt (Nat.shiftRight_le _ _) (by assumption) | exact Nat.lt_of_le_of_lt Nat.and_le_left (by assumption)) (by first | assumption | decide | exact bit_lt (by omega) (by omega) | exact Nat.or_lt_two_pow (by assumption) (by assumption) | exact Nat.lt_of_le_of_lt (Nat.shiftRight_le _ _) (by assumption) | exact Nat.lt_of_le_of_lt Nat.and_le_left (by assumption))
      | with_reducible refine give_shl1 (by with_unfolding_all exact rfl) (by omega) (by omega)
      | with_reducible refine give_shr64 (by with_unfolding_all exact rfl) (by with_unfolding_all exact rfl) (by omega) (by omega)
      | with_reducible refine give_extract (by with_unfolding_all exact rfl) (by with_unfolding_all exact rfl)
      | with_reducible refine give_makeFunc (by with_unfolding_all exact rfl) (by with_unfolding_all exact rfl)) : Gives C.P C.N C.D op ρ η u M := h
theorem OL.st {u} (k : OL C ops Q rest ((d, u) :: ρ) η) (h : Gives C.P C.N C.D op ρ η u := by exact gv) (hd : Nat.blt d C.N = true := by with_unfolding_all exact rfl) : OL C ops Q (⟨some d, op, T, pos, af, none⟩ :: rest) ρ η := OL.give h hd k
/-! ### Guards -/
variable {j dj : Nat} {b : Bool} {oj : Oper}
theorem OL.gOn {dst : Option Tmp} (k : OL C ops Q (⟨dst, op, T, pos, af, none⟩ :: rest) ρ η) (hj : ops[j]? = some oj := by with_unfolding_all exact rfl) (hd : oj.dst = some dj := by with_unfolding_all exact rfl) (hl : lk ρ dj = some (.raw (.bool b)) := by with_unfolding_all exact rfl)
    (hN : ∃ e, dst = some e ∧ Nat.blt e C.N = true := by exact ⟨_, rfl, by with_unfolding_all exact rfl⟩) : OL C ops Q (⟨dst, op, T, pos, af, some (j, b)⟩ :: rest) ρ η :=
  OL.guard hj hd hl (fun _ => k) (fun h => by cases b <;> cases h) hN
theorem OL.gOff (k : OL C ops Q rest ((d, .tp []) :: ρ) η) (hj : ops[j]? = some oj := by with_unfolding_all exact rfl) (hd : oj.dst = some dj := by with_unfolding_all exact rfl) (hl : lk ρ dj = some (.raw (.bool (!b))) := by with_unfolding_all exact rfl)
    (hN : Nat.blt d C.N = true := by with_unfolding_all exact rfl) : OL C ops Q (⟨some d, op, T, pos, af, some (j, b)⟩ :: rest) ρ η :=
  OL.guard hj hd hl (fun h => by cases b <;> cases h) (fun _ e he _ => by cases he; exact k) ⟨_, rfl, hN⟩
theorem OL.gUn (k : OL C ops Q rest ((d, .tp []) :: ρ) η) (hj : ops[j]? = some oj := by with_unfolding_all exact rfl) (hd : oj.dst = some dj := by with_unfolding_all exact rfl) (hl : lk ρ dj = some (.tp []) := by with_unfolding_all exact rfl)
    (hN : Nat.blt d C.N = true := by with_unfolding_all exact rfl) : OL C ops Q (⟨some d, op, T, pos, af, some (j, b)⟩ :: rest) ρ η := OL.guard_un hj hd hl hN k
theorem A2.know {N D B a w} {t : Nat} {x y : AV} (hA : A2 N D B a w ρ η) (hl : lk ρ t = some x) (h : ∀ m w γ v, Rep m w γ v x → Rep m w γ v y) : A2 N D B a w ((t, y) :: ρ) η := by
  obtain ⟨m, γ, ρc, hE, hR, hI⟩ := hA
  obtain ⟨v, g1, g2⟩ := hR.look hl
  refine ⟨m, γ, (t, v) :: ρc, ⟨hE.size, hE.defers, fun s q hs => ?_⟩, ⟨rfl, h _ _ _ _ g2, hR⟩, hI⟩
  simp only [W.look] at hs
  cases hb : Nat.beq t s with
  | true =>
    rw [hb] at hs
    simp at hs
    subst hs
    rw [← Nat.eq_of_beq_eq_true hb]
    exact hE.look _ _ g1
  | false => rw [hb] at hs; exact hE.look _ _ (by simpa using hs)
theorem OL.gD {dst : Option Tmp} {p : Prop} [Decidable p] (h1 : p → OL C ops Q (⟨dst, op, T, pos, af, some (j, b)⟩ :: rest) ((dj, bool true) :: ρ) η) (h2 : ¬p → OL C ops Q (⟨dst, op, T, pos, af, some (j, b)⟩ :: rest) ((dj, bool false) :: ρ) η)
    (_hj : ops[j]? = some oj := by with_unfolding_all exact rfl) (_hd : oj.dst = some dj := by with_unfolding_all exact rfl) (hl : lk ρ dj = some (.raw (.bool (decide p))) := by with_unfolding_all exact rfl) : OL C ops Q (⟨dst, op, T, pos, af, some (j, b)⟩ :: rest) ρ η := by
  intro a w hA
  by_cases h : p
  · exact h1 h a w (hA.know hl fun m w γ v hr => by simpa [h] using hr)
  · exact h2 h a w (hA.know hl fun m w γ v hr => by simpa [h] using hr)
theorem OL.pkT {y z : Operand} {u} (k : OL C ops Q rest ((d, u) :: ρ) η) (hx : ev2 ρ x = some (.raw (.bool true)) := by with_unfolding_all exact rfl) (hy : ev2 ρ y = some u := by with_unfolding_all exact rfl) (hd : Nat.blt d C.N = true := by with_unfolding_all exact rfl) : OL C ops Q (⟨some d, .pick x y z, T, pos, af, none⟩ :: rest) ρ η :=
  OL.give (fun m w γ ρc a hE hR hH => by
      obtain ⟨q, g1, g2⟩ := hR.ev hy
      exact ⟨q, g2, fun _ _ _ _ _ _ => by simp [execOp, hE.ev (hR.raw hx), hE.ev g1, asBool]⟩) hd k
theorem OL.pkF {y z : Operand} {u} (k : OL C ops Q rest ((d, u) :: ρ) η) (hx : ev2 ρ x = some (.raw (.bool false)) := by with_unfolding_all exact rfl) (hz : ev2 ρ z = some u := by with_unfolding_all exact rfl) (hd : Nat.blt d C.N = true := by with_unfolding_all exact rfl) : OL C ops Q (⟨some d, .pick x y z, T, pos, af, none⟩ :: rest) ρ η :=
  OL.give (fun m w γ ρc a hE hR hH => by
      obtain ⟨q, g1, g2⟩ := hR.ev hz
      exact ⟨q, g2, fun _ _ _ _ _ _ => by simp [execOp, hE.ev (hR.raw hx), hE.ev g1, asBool]⟩) hd k
theorem OL.pkD {y z : Operand} {p : Prop} [Decidable p] {u v} (h1 : p → OL C ops Q rest ((d, u) :: ρ) η) (h2 : ¬p → OL C ops Q rest ((d, v) :: ρ) η) (hx : ev2 ρ x = some (.raw (.bool (decide p))) := by with_unfolding_all exact rfl) (hy : ev2 ρ y = some u := by with_unfolding_all exact rfl) (hz : ev2 ρ z = some v := by with_unfolding_all exact rfl) (hd : Nat.blt d C.N = true := by with_unfolding_all exact rfl) : OL C ops Q (⟨some d, .pick x y z, T, pos, af, none⟩ :: rest) ρ η :=
  OL.pick hx hy hz hd (fun h => h1 (of_decide_eq_true h)) (fun h => h2 (of_decide_eq_false h))
/-! ### Calls -/
variable {args : List Operand} {at_ : Array TypeId}
theorem back_nil (k : Nat) : back [] k = fun j => some (k + j) := by
  funext j
  simp only [back, List.length_nil]
  have : Nat.blt j 0 = false := by cases h : Nat.blt j 0 <;> simp_all
  rw [this]; simp
theorem OL.c {P : Program} {f : Nat} {fn : Func} {us as : List AV} {r r2} {η1' η2 : Eta} {n : Nat} (hs : Spec P f as [] r η1') (hf : P.funcs[f]? = some fn) (k : OL C ops Q rest ((d, r2) :: ρ) η2)
    (hP : C.P = P := by with_unfolding_all exact rfl) (hb : (fn.body.isNone || fn.name == "runtime.NumGoroutine") = false := by with_unfolding_all exact rfl) (hl : evs2 ρ args = some us := by with_unfolding_all exact rfl)
    (hle : LEs (ts []) us as := by repeat' (first | with_unfolding_all exact trivial | exact LE.ren (by with_unfolding_all exact rfl) | with_unfolding_all exact LE.sl | with_unfolding_all exact LE.nil (by decide) | with_unfolding_all refine And.intro ?_ ?_)) (hd : Nat.blt d C.N = true := by with_unfolding_all exact rfl)
    (hk : η.length = n := by (try dsimp only [List.length]) <;> exact rfl) (hr : ren (fun j => some (n + j)) r = r2 := by (try dsimp only [ren, ren0, ren1, ren2, List.map, Nat.add_zero, Nat.zero_add, Nat.reduceAdd]) <;> exact rfl)
    (hη : η ++ η1'.map (renO (fun j => some (n + j))) = η2 := by (try dsimp only [renO, ren, ren0, ren1, ren2, List.map, List.cons_append, List.nil_append, Nat.add_zero, Nat.zero_add, Nat.reduceAdd]) <;> exact rfl) :
    OL C ops Q (⟨some d, .call ⟨.value (.func f), args.toArray, at_⟩, T, pos, af, none⟩ :: rest) ρ η := by
  subst hk hP
  exact OL.one (One.call hs hf hb hl hle hd (by rw [back_nil]; exact hr) (by rw [back_nil]; exact hη)) k
theorem TC.ifD {p : Prop} [Decidable p] (h1 : p → TC C Q A ρ η) (h2 : ¬p → TC C Q K ρ η) (hx : ev2 ρ x = some (.raw (.bool (decide p))) := by with_unfolding_all exact rfl) : TC C Q (.cond x A K) ρ η := TC.condD hx h1 h2
theorem TC.ifT (h1 : TC C Q A ρ η) (hx : ev2 ρ x = some (.raw (.bool true)) := by with_unfolding_all exact rfl) : TC C Q (.cond x A K) ρ η := TC.condT hx h1
theorem TC.ifF (h2 : TC C Q K ρ η) (hx : ev2 ρ x = some (.raw (.bool false)) := by with_unfolding_all exact rfl) : TC C Q (.cond x A K) ρ η := TC.condF hx h2
theorem TC.ifB {t : Bool} (h1 : t = true → TC C Q A ρ η) (h2 : t = false → TC C Q K ρ η) (hx : ev2 ρ x = some (.raw (.bool t)) := by with_unfolding_all exact rfl) : TC C Q (.cond x A K) ρ η := TC.cond hx h1 h2
theorem OL.cf {P : Program} {ι : Type} {us : List AV} {dom : ι → Prop} {as r e} {r2} {η2 : Eta} {n : Nat} (t : ι) (hdom : dom t) (k : OL C ops Q rest ((d, r2) :: ρ) η2) (hx : ev2 ρ x = some (.pr (FunMP P dom as r e)) := by with_unfolding_all exact rfl)
    (hP : C.P = P := by with_unfolding_all exact rfl) (hl : evs2 ρ args = some us := by with_unfolding_all exact rfl)
    (hle : LEs (ts []) us (as t) := by repeat' (first | with_unfolding_all exact trivial | exact LE.ren (by with_unfolding_all exact rfl) | with_unfolding_all exact LE.sl | with_unfolding_all exact LE.nil (by decide) | with_unfolding_all refine And.intro ?_ ?_)) (hd : Nat.blt d C.N = true := by with_unfolding_all exact rfl)
    (hk : η.length = n := by (try dsimp only [List.length]) <;> exact rfl) (hr : ren (fun j => some (n + j)) (r t) = r2 := by (try dsimp only [ren, ren0, ren1, ren2, List.map, Nat.add_zero, Nat.zero_add, Nat.reduceAdd]) <;> exact rfl)
    (hη : η ++ (e t).map (renO (fun j => some (n + j))) = η2 := by (try dsimp only [renO, ren, ren0, ren1, ren2, List.map, List.cons_append, List.nil_append, Nat.add_zero, Nat.zero_add, Nat.reduceAdd]) <;> exact rfl) :
    OL C ops Q (⟨some d, .call ⟨.value x, args.toArray, at_⟩, T, pos, af, none⟩ :: rest) ρ η := by
  subst hk
  exact OL.one (One.callf hP hx hl hdom hle hd (by rw [back_nil]; exact hr) (by rw [back_nil]; exact hη)) k
theorem LE.fun0 {P : Program} {ι : Type} {f : Nat} {fn : Func} {dom : ι → Prop} {as r e} (hf : P.funcs[f]? = some fn) (hs : ∀ x, dom x → Spec P f (as x) [] (r x) (e x)) (hb : (fn.body.isNone || fn.name == "runtime.NumGoroutine") = false := by with_unfolding_all exact rfl) : LE (ts []) (.fn (.func f) [] []) (.pr (FunMP P dom as r e)) :=
  LE.fun_ (first' := []) (caps' := []) hf hb trivial trivial fun x hx => by simpa using hs x hx
abbrev predI (P : Program) (dom : Int → Prop) (p : Int → Bool) : AV := .pr (FunMP P dom (fun n => [int n]) (fun n => bool (p n)) (fun _ => []))
abbrev predE (P : Program) {α : Type} (f : α → AV) (dom : α → Prop) (p : α → Bool) : AV := .pr (FunMP P dom (fun n => [f n]) (fun n => bool (p n)) (fun _ => []))
abbrev u64 (x : Nat) : AV := .raw (.int .u64 (x : Int))
/-! ## Loops, returns -/
theorem LE.raw {τ} {v v' : Value} (h : v = v') : LE τ (.raw v) (.raw v') := fun _ _ _ _ _ u hr => by subst h; cases hr with | raw h => exact .raw h
theorem LE.bool {τ} {b b' : Bool} (h : b = b') : LE τ (bool b) (bool b') := .raw (by rw [h])
theorem LE.int {τ} {i j : Int} (h : i = j) : LE τ (int i) (int j) := .raw (by rw [h])
theorem LE.sl' {τ sz nl xs ys} (h : xs = ys) : LE τ (.sl sz nl xs) (.sl sz none ys) := h ▸ LE.sl
theorem LE.nil' {τ sz ys} (h : ys = []) : LE τ (.raw (.slice none 0 0)) (.sl sz none ys) := h ▸ LE.nil nofun
theorem OE.gsS {τ fz T sz nl xs ys} (h : xs = ys) : OE τ (.gs fz T sz nl xs) (.gs fz T sz none ys) := h ▸ OE.gs
theorem TC.lp {S : Type} (ρs : S → Ro) (ηs : S → Eta) (I : S → Prop) (μ : S → Nat) (s0 : S) (σ : List Nat) (h0 : I s0) (round : ∀ s, I s → TC C (Exit.then (V.Next C ρs ηs I μ s) Q) A (ρs s) (ηs s))
    (hn : nodB σ = true := by with_unfolding_all exact rfl) (hp : preB C.n 0 σ = true := by with_unfolding_all exact rfl)
    (ho : SubO (ts σ) η σ (ηs s0) := by repeat' (first | with_unfolding_all exact trivial | exact OE.ren (by with_unfolding_all exact rfl) | with_unfolding_all exact OE.gs | exact OE.gsS (by first | assumption | (simp only [V.ints, V.int, V.bool, List.map_append, List.map_cons, List.map_nil, List.cons_append, List.nil_append, List.append_assoc, Nat.zero_add]; done) | (simp only [List.map_append, List.map_cons, List.map_nil]; done) | (simp only [List.map_append, List.map_cons, List.map_nil]; rfl) | (rw [List.take_succ_eq_append_getElem (by omega)]; simp only [List.map_append, List.map_cons, List.map_nil]; done) | (rw [List.take_succ_eq_append_getElem (by omega)]; simp only [List.map_append, List.map_cons, List.map_nil]; rfl)) | with_unfolding_all refine And.intro ⟨_, by with_unfolding_all exact rfl, ?_⟩ ?_))
    (hr : SubR (ts σ) ρ (ρs s0) := by repeat' (first | with_unfolding_all exact trivial | exact LE.ren (by with_unfolding_all exact rfl) | with_unfolding_all exact LE.sl | with_unfolding_all exact LE.nil (by decide) | with_unfolding_all exact LE.junk | exact LE.bool (by first | assumption | (symm; assumption)) | exact LE.int (by first | assumption | omega) | with_unfolding_all refine And.intro ⟨_, by with_unfolding_all exact rfl, ?_⟩ ?_)) : TC C Q (.loop A) ρ η :=
  TC.loop ρs ηs I μ s0 σ h0 hn hp ho hr round
theorem TX.rd {S : Type} {ρs : S → Ro} {ηs : S → Eta} {I : S → Prop} {μ : S → Nat} {s : S} (s' : S) (σ : List Nat) (hI : I s') (hμ : μ s' < μ s)
    (hn : nodB σ = true := by with_unfolding_all exact rfl) (hp : preB C.n 0 σ = true := by with_unfolding_all exact rfl)
    (ho : SubO (ts σ) η σ (ηs s') := by repeat' (first | with_unfolding_all exact trivial | exact OE.ren (by with_unfolding_all exact rfl) | with_unfolding_all exact OE.gs | exact OE.gsS (by first | assumption | (simp only [V.ints, V.int, V.bool, List.map_append, List.map_cons, List.map_nil, List.cons_append, List.nil_append, List.append_assoc, Nat.zero_add]; done) | (simp only [List.map_append, List.map_cons, List.map_nil]; done) | (simp only [List.map_append, List.map_cons, List.map_nil]; rfl) | (rw [List.take_succ_eq_append_getElem (by omega)]; simp only [List.map_append, List.map_cons, List.map_nil]; done) | (rw [List.take_succ_eq_append_getElem (by omega)]; simp only [List.map_append, List.map_cons, List.map_nil]; rfl)) | with_unfolding_all refine And.intro ⟨_, by with_unfolding_all exact rfl, ?_⟩ ?_))
    (hr : SubR (ts σ) ρ (ρs s') := by repeat' (first | with_unfolding_all exact trivial | exact LE.ren (by with_unfolding_all exact rfl) | with_unfolding_all exact LE.sl | with_unfolding_all exact LE.nil (by decide) | with_unfolding_all exact LE.junk | exact LE.bool (by first | assumption | (symm; assumption)) | exact LE.int (by first | assumption | omega) | with_unfolding_all refine And.intro ⟨_, by with_unfolding_all exact rfl, ?_⟩ ?_)) : TX C (Exit.then (V.Next C ρs ηs I μ s) Q) .normal ρ η :=
  TX.round s' σ hI hμ hn hp ho hr
variable {η' : Eta} {fn : Func} {t t1 t2 t3 : Nat} {u u1 u2 u3 r r1 r2 r3 : AV}
theorem TX.rt1 (σ : List Nat) (hle : LE (ts σ) u r) (hD : C.D = [] := by with_unfolding_all exact rfl) (hres : fn.results = #[.tmp t] := by with_unfolding_all exact rfl) (hx : lk ρ t = some u := by with_unfolding_all exact rfl)
    (hn : nodB σ = true := by with_unfolding_all exact rfl) (hp : preB C.n 0 σ = true := by with_unfolding_all exact rfl)
    (ho : SubO (ts σ) η σ η' := by repeat' (first | with_unfolding_all exact trivial | exact OE.ren (by with_unfolding_all exact rfl) | with_unfolding_all exact OE.gs | exact OE.gsS (by first | assumption | (simp only [V.ints, V.int, V.bool, List.map_append, List.map_cons, List.map_nil, List.cons_append, List.nil_append, List.append_assoc, Nat.zero_add]; done) | (simp only [List.map_append, List.map_cons, List.map_nil]; done) | (simp only [List.map_append, List.map_cons, List.map_nil]; rfl) | (rw [List.take_succ_eq_append_getElem (by omega)]; simp only [List.map_append, List.map_cons, List.map_nil]; done) | (rw [List.take_succ_eq_append_getElem (by omega)]; simp only [List.map_append, List.map_cons, List.map_nil]; rfl)) | with_unfolding_all refine And.intro ⟨_, by with_unfolding_all exact rfl, ?_⟩ ?_)) :
    TX C (bodyPost C.P fn (PostB C.B r η')) .ret ρ η := TX.ret1 σ hD hres hx hn hp ho hle
theorem TX.rt2 (σ : List Nat) (hle1 : LE (ts σ) u1 r1) (hle2 : LE (ts σ) u2 r2) (hD : C.D = [] := by with_unfolding_all exact rfl) (hres : fn.results = #[.tmp t1, .tmp t2] := by with_unfolding_all exact rfl) (hx1 : lk ρ t1 = some u1 := by with_unfolding_all exact rfl) (hx2 : lk ρ t2 = some u2 := by with_unfolding_all exact rfl)
    (hn : nodB σ = true := by with_unfolding_all exact rfl) (hp : preB C.n 0 σ = true := by with_unfolding_all exact rfl)
    (ho : SubO (ts σ) η σ η' := by repeat' (first | with_unfolding_all exact trivial | exact OE.ren (by with_unfolding_all exact rfl) | with_unfolding_all exact OE.gs | exact OE.gsS (by first | assumption | (simp only [V.ints, V.int, V.bool, List.map_append, List.map_cons, List.map_nil, List.cons_append, List.nil_append, List.append_assoc, Nat.zero_add]; done) | (simp only [List.map_append, List.map_cons, List.map_nil]; done) | (simp only [List.map_append, List.map_cons, List.map_nil]; rfl) | (rw [List.take_succ_eq_append_getElem (by omega)]; simp only [List.map_append, List.map_cons, List.map_nil]; done) | (rw [List.take_succ_eq_append_getElem (by omega)]; simp only [List.map_append, List.map_cons, List.map_nil]; rfl)) | with_unfolding_all refine And.intro ⟨_, by with_unfolding_all exact rfl, ?_⟩ ?_)) :
    TX C (bodyPost C.P fn (PostB C.B (.tp [r1, r2]) η')) .ret ρ η := TX.ret2 σ hD hres hx1 hx2 hn hp ho hle1 hle2
theorem TX.rt0 (σ : List Nat) (hD : C.D = [] := by with_unfolding_all exact rfl) (hres : fn.results = #[] := by with_unfolding_all exact rfl)
    (hn : nodB σ = true := by with_unfolding_all exact rfl) (hp : preB C.n 0 σ = true := by with_unfolding_all exact rfl)
    (ho : SubO (ts σ) η σ η' := by repeat' (first | with_unfolding_all exact trivial | exact OE.ren (by with_unfolding_all exact rfl) | with_unfolding_all exact OE.gs | exact OE.gsS (by first | assumption | (simp only [V.ints, V.int, V.bool, List.map_append, List.map_cons, List.map_nil, List.cons_append, List.nil_append, List.append_assoc, Nat.zero_add]; done) | (simp only [List.map_append, List.map_cons, List.map_nil]; done) | (simp only [List.map_append, List.map_cons, List.map_nil]; rfl) | (rw [List.take_succ_eq_append_getElem (by omega)]; simp only [List.map_append, List.map_cons, List.map_nil]; done) | (rw [List.take_succ_eq_append_getElem (by omega)]; simp only [List.map_append, List.map_cons, List.map_nil]; rfl)) | with_unfolding_all refine And.intro ⟨_, by with_unfolding_all exact rfl, ?_⟩ ?_)) :
    TX C (bodyPost C.P fn (PostB C.B (.tp []) η')) .ret ρ η := TX.ret0 σ hD hres hn hp ho
theorem TX.rtc {X i E n : Nat} {cs : List AV} (σ : List Nat) (hle : LE (ts σ) (.st cs) r) (hD : C.D = [] := by with_unfolding_all exact rfl) (hres : fn.results = #[.cell t X] := by with_unfolding_all exact rfl) (hx : lk ρ t = some (.bp i 0) := by with_unfolding_all exact rfl) (hs : (C.tab X).map (fun e => (e.sh.agg, e.size)) = some (true, n) := by with_unfolding_all exact rfl)
    (hb : η[i]? = some (.cb E cs) := by with_unfolding_all exact rfl) (hl : cs.length = n := by with_unfolding_all exact rfl)
    (hn : nodB σ = true := by with_unfolding_all exact rfl) (hp : preB C.n 0 σ = true := by with_unfolding_all exact rfl)
    (ho : SubO (ts σ) η σ η' := by repeat' (first | with_unfolding_all exact trivial | exact OE.ren (by with_unfolding_all exact rfl) | with_unfolding_all exact OE.gs | with_unfolding_all refine And.intro ⟨_, by with_unfolding_all exact rfl, ?_⟩ ?_)) :
    TX C (bodyPost C.P fn (PostB C.B r η')) .ret ρ η := by
  rintro a w ⟨m, γ, ρc, hE, hR, hI⟩
  obtain ⟨v, h1, h2⟩ := hR.look hx
  obtain ⟨γ', g1, g2⟩ := hI.sel C.hn hn hp ho
  cases h2 with
  | @bp _ _ _ b hb' =>
  obtain ⟨b', vs, e, hB, hC⟩ := hI.heap.ok i _ _ hb' hb
  cases e
  rw [hD] at hE
  cases ht : C.tab X with
  | none => rw [ht] at hs; cases hs
  | some te =>
    rw [ht] at hs
    simp at hs
    obtain ⟨dd, hu, hd⟩ := (C.hT X te ht).sh
    obtain ⟨inf, i1, i2, _⟩ := (C.hT X te ht).info
    have hvl : vs.length = te.size := by rw [hC.1, hl, hs.2]
    refine bodyPost_ret (v := .agg vs.toArray) ?_ hE.defers ⟨_, m, γ', rfl, g2, hle _ _ _ _ g1 _ (.st hC.1 hC.2.1 hC.2.2)⟩
    have hagg := (C.hT X te ht).agg hs.1 w
    have hll := run_loadCells_list (P := C.P) w ⟨b, 0, none⟩ vs (fun j c hj => by rw [Addr_add_lit, Nat.zero_add]; exact hB.cell hj)
    have hl' : (loadCells ⟨b, 0, none⟩ te.size).run C.P w = .ok vs.toArray w := by rw [← hvl]; simpa using hll
    have hg := hE.get h1
    have hlv : (loadVar X ⟨b, 0, none⟩).run C.P w = .ok (.agg vs.toArray) w := by simp [loadVar, hagg, sizeOf, typeInfo, i1, i2, hl']
    simp only [results, hres]
    simp [asAddr]
    simp only [Array.getD_eq_getD_getElem?] at hg
    rw [hg]
    simp [hlv]
end
end Go.V
