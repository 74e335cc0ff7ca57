/- Part 4 of what the claim is proved by: lemmas on the model and walks through functions of the program; no conditions. -/
import Derived.Test.YthoblhbdeamjmaaV3
import Derived.OrdersHeld
/- The small laws of a walk of our own: a region whose order is drawn. What yields its value in every world that meets S may be taken first; 'fi' is an operation behind which S need not hold. -/
namespace Go.W
open Go
section
variable {P : Program} {ops : Array Oper} {Q : Exit → Act → World → Prop} {md : Region.Mode} {S : World → Prop} {fi : Nat}

def wpAnyL (P : Program) (md : Region.Mode) (ops : Array Oper) (Q : Exit → Act → World → Prop) (S : World → Prop) (fi : Nat) : Nat → Array Bool → Act → World → Prop
  | 0, listed, a, w => Region.ready md ops listed = [] ∧ Q .normal a w
  | fuel + 1, listed, a, w =>
    (Region.ready md ops listed = [] → Q .normal a w) ∧
    ∀ i ∈ Region.ready md ops listed, wpOp P ops Q i (fun a' w' => (i = fi ∨ S w') ∧ wpAnyL P md ops Q S fi fuel (listed.setIfInBounds i true) a' w') a w
theorem wpAny_of_L : ∀ (fuel : Nat) (listed : Array Bool) (a : Act) (w : World), wpAnyL P md ops Q S fi fuel listed a w → wpAny P md ops Q fuel listed a w
  | 0, _, _, _, h => h
  | fuel + 1, _, _, _, h => ⟨h.1, fun i hi => wpOp_mono (fun a' w' h' => wpAny_of_L fuel _ a' w' h'.2) (h.2 i hi)⟩

/-- Whoever is listed, those it waits for are listed. -/
def Closed (md : Region.Mode) (ops : Array Oper) (listed : Array Bool) : Prop :=
  ∀ (j : Nat) oj, ops[j]? = some oj → listed.getD j true = true → ∀ e ∈ oj.after, Region.binds md e = true → listed.getD e.on false = true
/-- j waits for i, by at most so many steps. -/
def waits (md : Region.Mode) (ops : Array Oper) (i : Nat) : Nat → Nat → Bool
  | 0, _ => false
  | n + 1, j => match ops[j]? with
    | some oj => oj.after.any fun e => Region.binds md e && (e.on == i || waits md ops i n e.on)
    | none => false
theorem waits_listed {listed : Array Bool} (hc : Closed md ops listed) {i : Nat} : ∀ n j, waits md ops i n j = true → listed.getD j true = true → listed.getD i false = true := by
  intro n
  induction n with
  | zero => intro j h; simp [waits] at h
  | succ n ih =>
    intro j h hj
    simp only [waits] at h
    split at h
    · rename_i oj ho
      obtain ⟨e, he, hb⟩ := Array.any_eq_true'.1 h
      simp only [Bool.and_eq_true, Bool.or_eq_true, beq_iff_eq] at hb
      have h1 := hc j oj ho hj e he hb.1
      rcases hb.2 with e1 | e1
      · rw [e1] at h1; exact h1
      · refine ih e.on e1 ?_
        rw [Array.getD_eq_getD_getElem?] at h1 ⊢
        cases hq : listed[e.on]? with
        | none => rfl
        | some b => rw [hq] at h1; simpa using h1
    · cases h
theorem waits_ready {listed : Array Bool} (hc : Closed md ops listed) {i n j : Nat} (h : waits md ops i n j = true) (hr : j ∈ Region.ready md ops listed) : listed.getD i false = true := by
  obtain ⟨hju, oj, hoj, hall⟩ := mem_ready.1 hr
  cases n with
  | zero => simp [waits] at h
  | succ n =>
    simp only [waits, hoj] at h
    obtain ⟨e, he, hb⟩ := Array.any_eq_true'.1 h
    simp only [Bool.and_eq_true, Bool.or_eq_true, beq_iff_eq] at hb
    have h1 := hall e he hb.1
    rcases hb.2 with e1 | e1
    · rw [e1] at h1; exact h1
    · refine waits_listed hc n e.on e1 ?_
      rw [Array.getD_eq_getD_getElem?] at h1 ⊢
      cases hq : listed[e.on]? with
      | none => rfl
      | some b => rw [hq] at h1; simpa using h1
theorem Closed.set {listed : Array Bool} (hc : Closed md ops listed) {i : Nat} (hr : i ∈ Region.ready md ops listed) : Closed md ops (listed.setIfInBounds i true) := by
  obtain ⟨hiu, oi, hoi, hall⟩ := mem_ready.1 hr
  have up : ∀ k, listed.getD k false = true → (listed.setIfInBounds i true).getD k false = true := by
    intro k hk
    rw [Array.getD_eq_getD_getElem?] at hk ⊢
    by_cases e : i = k
    · subst e
      cases hq : listed[i]? with
      | none => rw [hq] at hk; simp at hk
      | some b =>
        rcases Array.getElem?_eq_some_iff.1 hq with ⟨hlt, _⟩
        simp [hlt]
    · rw [Array.getElem?_setIfInBounds_ne e]; exact hk
  intro j oj hoj hj e he hb
  by_cases hji : i = j
  · subst hji
    rw [hoi] at hoj
    cases hoj
    exact up _ (hall e he hb)
  · rw [getD_set_ne true hji] at hj
    exact up _ (hc j oj hoj hj e he hb)

theorem wpAnyL_first {i : Nat} {oi : Oper} {v : Value} (hi : ops[i]? = some oi) (hsel : ∀ (j : Nat) (o : Oper) cs b, ops[j]? = some o → o.op ≠ .select cs b)
    (hQ : ∀ c a w, Q (.panic c) (a.put oi.dst v) w → Q (.panic c) a w) (n : Nat) (hfi : fi < ops.size → fi ≠ i → waits md ops i n fi = true) :
    ∀ (fuel : Nat) (listed : Array Bool) (a : Act) (w : World), Closed md ops listed →
      (∀ (j : Nat) oj, ops[j]? = some oj → j ≠ i → listed.getD j true = false → (∀ e ∈ oj.after, Region.binds md e = true → e.on ≠ i) → oi.apart ops oj = true) →
      i ∈ Region.ready md ops listed → YieldsIf P ops S oi v a → S w →
      wpAnyL P md ops Q S fi fuel (listed.setIfInBounds i true) (a.put oi.dst v) w → wpAnyL P md ops Q S fi (fuel + 1) listed a w := by
  intro fuel
  induction fuel with
  | zero =>
    intro listed a w _ _ hr hy hS H
    refine ⟨fun h => (by rw [h] at hr; cases hr), fun j hj => ?_⟩
    by_cases hji : j = i
    · subst hji; exact hy.wpOp hi hS ⟨.inr hS, H⟩
    · have := ready_mono hj hji
      rw [H.1] at this
      cases this
  | succ fuel ih =>
    intro listed a w hcl hfree hr hy hS H
    refine ⟨fun h => (by rw [h] at hr; cases hr), fun j hj => ?_⟩
    by_cases hji : j = i
    · subst hji; exact hy.wpOp hi hS ⟨.inr hS, H⟩
    · have h1 := H.2 j (ready_mono hj hji)
      obtain ⟨hjun, oj, hoj, hall⟩ := mem_ready.1 hj
      have hnot : ∀ e ∈ oj.after, Region.binds md e = true → e.on ≠ i := fun e he hb heq => by
        have h1 := hall e he hb
        have h0 := (mem_ready.1 hr).1
        rw [heq] at h1
        rcases Nat.lt_or_ge i listed.size with h' | h'
        · simp [h'] at h0 h1; rw [h0] at h1; cases h1
        · simp [Array.getElem?_eq_none h'] at h1
      have hjfi : j ≠ fi := fun e => by
        subst e
        have h0 := (mem_ready.1 hr).1
        have h2 := waits_ready hcl (hfi (Array.getElem?_eq_some_iff.1 hoj).1 hji) hj
        rw [Array.getD_eq_getD_getElem?] at h0 h2
        cases hq : listed[i]? with
        | none => rw [hq] at h2; simp at h2
        | some b => rw [hq] at h0 h2; simp at h0 h2; rw [h0] at h2; cases h2
      have h2 := wpOp_putIf hoj (hfree j oj hoj hji hjun hnot) (fun cs b => hsel i oi cs b hi) (fun cs b => hsel j oj cs b hoj) hQ hy h1
      have hfree' : ∀ (k : Nat) ok, ops[k]? = some ok → k ≠ i → (listed.setIfInBounds j true).getD k true = false →
          (∀ e ∈ ok.after, Region.binds md e = true → e.on ≠ i) → oi.apart ops ok = true := fun k ok hk hki hun hno => by
        refine hfree k ok hk hki ?_ hno
        by_cases hjk : j = k
        · subst hjk; exact hjun
        · rw [getD_set_ne true hjk] at hun; exact hun
      refine wpOp_mono (fun a' w' h3 => ?_) h2
      have hS' : S w' := h3.2.1.resolve_left hjfi
      refine ⟨.inr hS', ih (listed.setIfInBounds j true) a' w' (hcl.set hj) hfree' (ready_mono hr (Ne.symm hji)) h3.1 hS' ?_⟩
      rw [Array.setIfInBounds_comm _ _ hji]
      exact h3.2.2

def closedB (md : Region.Mode) (ops : Array Oper) (listed : Array Bool) : Bool :=
  (List.range ops.size).all fun j => match ops[j]? with
    | some oj => !listed.getD j true || oj.after.all fun e => !Region.binds md e || listed.getD e.on false
    | none => true
theorem closedB_spec {listed : Array Bool} (h : closedB md ops listed = true) : Closed md ops listed := by
  intro j oj hoj hj e he hb
  have hlt : j < ops.size := (Array.getElem?_eq_some_iff.1 hoj).1
  have h1 := List.all_eq_true.1 h j (List.mem_range.2 hlt)
  simp only [hoj, hj, Bool.not_true, Bool.false_or] at h1
  have h2 := Array.all_eq_true_iff_forall_mem.1 h1 e he
  simpa [hb] using h2
/-- What is asked of number i to be taken first, as one Bool. -/
def takeB (ops : Array Oper) (listed : Array Bool) (fi i : Nat) : Bool :=
  Region.noSelect ops && Region.free .any ops listed i && (Region.ready .any ops listed).contains i && closedB .any ops listed &&
    (ops.size ≤ fi || fi == i || waits .any ops i ops.size fi)
/-- A panic's ending does not look at the frame. -/
def NoLook (Q : Exit → Act → World → Prop) : Prop := ∀ c a a' w, Q (.panic c) a w → Q (.panic c) a' w

variable {N : Nat} {D : List Deferred} {ρ : List (Nat × Value)} {a : Act} {w : World} {fuel i : Nat} {listed : Array Bool} {v : Value}
theorem take {oi : Oper} (hi : ops[i]? = some oi) (hb : takeB ops listed fi i = true) (hQ : ∀ c a w, Q (.panic c) (a.put oi.dst v) w → Q (.panic c) a w) (hS : S w) (hy : YieldsIf P ops S oi v a)
    (k : wpAnyL P .any ops Q S fi fuel (listed.setIfInBounds i true) (a.put oi.dst v) w) : wpAnyL P .any ops Q S fi (fuel + 1) listed a w := by
  simp only [takeB, Bool.and_eq_true, Bool.or_eq_true, decide_eq_true_eq, beq_iff_eq] at hb
  obtain ⟨⟨⟨⟨h1, h2⟩, h3⟩, h4⟩, h5⟩ := hb
  have hw : fi < ops.size → fi ≠ i → waits .any ops i ops.size fi = true := by
    intro hlt hne
    rcases h5 with (h5 | h5) | h5
    · omega
    · exact absurd h5 hne
    · exact h5
  exact wpAnyL_first hi (Region.noSelect_spec h1) hQ ops.size hw fuel listed a w (closedB_spec h4) (Region.free_spec hi h2) (by simpa using h3) hy hS k
/-- Just number i can come up. -/
theorem only {l : List Oper} {oi : Oper} (hi : l[i]? = some oi) (hr : Region.ready .any l.toArray listed = [i])
    (k : OpK P l.toArray Q oi (fun a' w' => (i = fi ∨ S w') ∧ wpAnyL P .any l.toArray Q S fi fuel (listed.setIfInBounds i true) a' w') a w) :
    wpAnyL P .any l.toArray Q S fi (fuel + 1) listed a w := by
  refine ⟨fun h => (by rw [hr] at h; cases h), fun j hj => ?_⟩
  rw [hr] at hj
  obtain rfl : j = i := by simpa using hj
  unfold wpOp
  simp only [List.getElem?_toArray, hi]
  exact k.wp
/-- .. or one of two. -/
theorem two {l : List Oper} {i j : Nat} {oi oj : Oper} (hi : l[i]? = some oi) (hj : l[j]? = some oj) (hr : Region.ready .any l.toArray listed = [i, j])
    (ki : OpK P l.toArray Q oi (fun a' w' => (i = fi ∨ S w') ∧ wpAnyL P .any l.toArray Q S fi fuel (listed.setIfInBounds i true) a' w') a w)
    (kj : OpK P l.toArray Q oj (fun a' w' => (j = fi ∨ S w') ∧ wpAnyL P .any l.toArray Q S fi fuel (listed.setIfInBounds j true) a' w') a w) :
    wpAnyL P .any l.toArray Q S fi (fuel + 1) listed a w := by
  refine ⟨fun h => (by rw [hr] at h; cases h), fun k hk => ?_⟩
  rw [hr] at hk
  unfold wpOp
  rcases List.mem_cons.1 hk with rfl | hk
  · simp only [List.getElem?_toArray, hi]; exact ki.wp
  · obtain rfl : k = j := by simpa using hk
    simp only [List.getElem?_toArray, hj]; exact kj.wp
theorem done (hr : Region.ready .any ops listed = []) (h : Q .normal a w) : ∀ fuel, wpAnyL P .any ops Q S fi fuel listed a w
  | 0 => ⟨hr, h⟩
  | _ + 1 => ⟨fun _ => h, by rw [hr]; simp⟩
theorem region_d {id : Nat} {l : List Oper} (S : World → Prop) (fi n : Nat) (hm : P.follows .mixedOrders = true) (hn : l.length = n)
    (h : wpAnyL P .any l.toArray Q S fi n (Array.replicate n false) a w.drew) : (Code.region id l.toArray true).wp P Q a w := by
  subst hn
  exact wp_region_any hm (wpAny_of_L _ _ _ _ h)
end
end Go.W
/- The small laws of a walk of our own: operations that are taken first in a region whose order is drawn. -/
namespace Go.W
open Go
section
variable {P : Program} {ops : Array Oper} {Q : Exit → Act → World → Prop} {S : World → Prop} {fi : Nat}
variable {N : Nat} {D : List Deferred} {ρ : List (Nat × Value)} {a : Act} {w : World} {fuel i : Nat} {listed : Array Bool} {u v : Value}
variable {d T X Y : Nat} {pos : String} {af : Array Edge} {x y z : Operand} {g : Option (Nat × Bool)}

/-- The guard says yes. -/
def GOn (ops : Array Oper) (ρ : List (Nat × Value)) : Option (Nat × Bool) → Prop
  | none => True
  | some (j, b) => ∃ oj dj, ops[j]? = some oj ∧ oj.dst = some dj ∧ look ρ dj = some (.bool b)
def GOff (ops : Array Oper) (ρ : List (Nat × Value)) : Option (Nat × Bool) → Prop
  | none => False
  | some (j, b) => ∃ oj dj, ops[j]? = some oj ∧ oj.dst = some dj ∧ look ρ dj = some (.bool (!b))
theorem GOn.wanted {o : Oper} (hE : Env N D a ρ) (h : GOn ops ρ o.guard) : Region.wanted o (yielded ops a.tmps) = true := by
  cases hg : o.guard with
  | none => simp [Region.wanted, hg]
  | some p =>
    obtain ⟨j, b⟩ := p
    rw [hg] at h
    obtain ⟨oj, dj, h1, h2, h3⟩ := h
    simp [Region.wanted, hg, yielded, h1, h2, hE.look _ _ h3]
theorem GOff.wanted {o : Oper} (hE : Env N D a ρ) (h : GOff ops ρ o.guard) : Region.wanted o (yielded ops a.tmps) = false := by
  cases hg : o.guard with
  | none => rw [hg] at h; exact h.elim
  | some p =>
    obtain ⟨j, b⟩ := p
    rw [hg] at h
    obtain ⟨oj, dj, h1, h2, h3⟩ := h
    cases b <;> simp [Region.wanted, hg, yielded, h1, h2, hE.look _ _ h3]
/-- An operation under a guard that says yes, as if it had none. -/
theorem OpK.on {dst : Option Tmp} {op : Op} {g : Option (Nat × Bool)} {K : Act → World → Prop} (hE : Env N D a ρ) (h : GOn ops ρ g) (k : OpK P ops Q ⟨dst, op, T, pos, af, none⟩ K a w) : OpK P ops Q ⟨dst, op, T, pos, af, g⟩ K a w := by
  unfold OpK at *
  have h' : GOn ops ρ (⟨dst, op, T, pos, af, g⟩ : Oper).guard := h
  rw [if_pos (h'.wanted hE)]
  rw [if_pos (by simp [Region.wanted])] at k
  exact k

def NoPan (Q : Exit → Act → World → Prop) : Prop := ∀ c (a : Act) w (d : Nat) v, Q (.panic c) (a.put (some d) v) w → Q (.panic c) a w
theorem tk {oi : Oper} (hi : ops[i]? = some oi) (hb : takeB ops listed fi i = true) (hQ : NoPan Q) (hS : S w) (hE : Env N D a ρ) (hg : GOn ops ρ oi.guard) (ho : oi.dst = some d) (hd : d < N)
    (hrun : ∀ w, S w → (execOp a.eval oi).run P w = .ok (.value v) w)
    (k : ∀ a', Env N D a' ((d, v) :: ρ) → wpAnyL P .any ops Q S fi fuel (listed.setIfInBounds i true) a' w) : wpAnyL P .any ops Q S fi (fuel + 1) listed a w :=
  take hi hb (by rw [ho]; exact fun c a w h => hQ c a w d v h) hS (.inl ⟨hg.wanted hE, hrun⟩) (by rw [ho]; exact k _ (hE.put v hd))
theorem tk_off {oi : Oper} (hi : ops[i]? = some oi) (hb : takeB ops listed fi i = true) (hQ : NoPan Q) (hS : S w) (hE : Env N D a ρ) (hg : GOff ops ρ oi.guard) (ho : oi.dst = some d) (hd : d < N)
    (k : ∀ a', Env N D a' ((d, undef) :: ρ) → wpAnyL P .any ops Q S fi fuel (listed.setIfInBounds i true) a' w) : wpAnyL P .any ops Q S fi (fuel + 1) listed a w :=
  take hi hb (by rw [ho]; exact fun c a w h => hQ c a w d undef h) hS (.inr ⟨hg.wanted hE, rfl⟩) (by rw [ho]; exact k _ (hE.put undef hd))

theorem run_load1 [PlainTy P X] {p : Addr} (hE : Env N D a ρ) (hx : ev ρ x = some (.pointer (some p))) (hc : w.cell? p = some v) : (execOp a.eval ⟨some d, .load X x, T, pos, af, g⟩).run P w = .ok (.value v) w := by
  obtain ⟨dd, hu, h1, h2⟩ := PlainTy.plain (P := P) (T := X)
  have hagg : (isAgg X).run P w = .ok false w := by
    cases dd <;> simp [isAgg, run_underlying hu] <;> first | exact absurd rfl (h1 _) | exact absurd rfl (h2 _ _)
  simp [execOp, hE.ev hx, Instr.loadAt, Instr.sureAddr, loadVar, hagg, hc]
theorem tk_move  (hi : ops[i]? = some ⟨some d, .move x, T, pos, af, g⟩) (hb : takeB ops listed fi i = true) (hQ : NoPan Q) (hS : S w) (hE : Env N D a ρ) (hg : GOn ops ρ g) (hx : ev ρ x = some v) (hd : d < N)
    (k : ∀ a', Env N D a' ((d, v) :: ρ) → wpAnyL P .any ops Q S fi fuel (listed.setIfInBounds i true) a' w) : wpAnyL P .any ops Q S fi (fuel + 1) listed a w :=
  tk hi hb hQ hS hE hg rfl hd (fun w hw => by simp [execOp, hE.ev hx]) k
theorem tk_assign  (hi : ops[i]? = some ⟨some d, .assign x, T, pos, af, g⟩) (hb : takeB ops listed fi i = true) (hQ : NoPan Q) (hS : S w) (hE : Env N D a ρ) (hg : GOn ops ρ g) (hx : ev ρ x = some v) (hd : d < N)
    (k : ∀ a', Env N D a' ((d, v) :: ρ) → wpAnyL P .any ops Q S fi fuel (listed.setIfInBounds i true) a' w) : wpAnyL P .any ops Q S fi (fuel + 1) listed a w :=
  tk hi hb hQ hS hE hg rfl hd (fun w hw => by simp [execOp, hE.ev hx]) k
theorem tk_pick_t  (hi : ops[i]? = some ⟨some d, .pick x y z, T, pos, af, g⟩) (hb : takeB ops listed fi i = true) (hQ : NoPan Q) (hS : S w) (hE : Env N D a ρ) (hg : GOn ops ρ g) (hx : ev ρ x = some (.bool true)) (hy : ev ρ y = some u) (hd : d < N)
    (k : ∀ a', Env N D a' ((d, u) :: ρ) → wpAnyL P .any ops Q S fi fuel (listed.setIfInBounds i true) a' w) : wpAnyL P .any ops Q S fi (fuel + 1) listed a w :=
  tk hi hb hQ hS hE hg rfl hd (fun w hw => by simp [execOp, hE.ev hx, hE.ev hy, asBool]) k
theorem tk_pick_f  (hi : ops[i]? = some ⟨some d, .pick x y z, T, pos, af, g⟩) (hb : takeB ops listed fi i = true) (hQ : NoPan Q) (hS : S w) (hE : Env N D a ρ) (hg : GOn ops ρ g) (hx : ev ρ x = some (.bool false)) (hz : ev ρ z = some u) (hd : d < N)
    (k : ∀ a', Env N D a' ((d, u) :: ρ) → wpAnyL P .any ops Q S fi fuel (listed.setIfInBounds i true) a' w) : wpAnyL P .any ops Q S fi (fuel + 1) listed a w :=
  tk hi hb hQ hS hE hg rfl hd (fun w hw => by simp [execOp, hE.ev hx, hE.ev hz, asBool]) k
theorem tk_not {Ty : Nat} {b : Bool} (hi : ops[i]? = some ⟨some d, .unOp .not Ty x, T, pos, af, g⟩) (hb : takeB ops listed fi i = true) (hQ : NoPan Q) (hS : S w) (hE : Env N D a ρ) (hg : GOn ops ρ g) (hx : ev ρ x = some (.bool b)) (hd : d < N)
    (k : ∀ a', Env N D a' ((d, .bool (!b)) :: ρ) → wpAnyL P .any ops Q S fi fuel (listed.setIfInBounds i true) a' w) : wpAnyL P .any ops Q S fi (fuel + 1) listed a w :=
  tk hi hb hQ hS hE hg rfl hd (fun w hw => by simp [execOp, hE.ev hx, Op.unary]) k
theorem tk_add {p q : Int} (hi : ops[i]? = some ⟨some d, .binOp .add X x y Y, T, pos, af, g⟩) (hb : takeB ops listed fi i = true) (hQ : NoPan Q) (hS : S w) (hE : Env N D a ρ) (hg : GOn ops ρ g) (hx : ev ρ x = some (.int .i64 p)) (hy : ev ρ y = some (.int .i64 q)) (h0 : -9223372036854775808 ≤ p + q) (h1 : p + q ≤ 9223372036854775807) (hd : d < N)
    (k : ∀ a', Env N D a' ((d, .int .i64 (p + q)) :: ρ) → wpAnyL P .any ops Q S fi fuel (listed.setIfInBounds i true) a' w) : wpAnyL P .any ops Q S fi (fuel + 1) listed a w :=
  tk hi hb hQ hS hE hg rfl hd (fun w hw => by simp [execOp, hE.ev hx, hE.ev hy, binOp, eqGuard, Op.intArith, i64_wrap h0 h1]) k
theorem tk_sub {p q : Int} (hi : ops[i]? = some ⟨some d, .binOp .sub X x y Y, T, pos, af, g⟩) (hb : takeB ops listed fi i = true) (hQ : NoPan Q) (hS : S w) (hE : Env N D a ρ) (hg : GOn ops ρ g) (hx : ev ρ x = some (.int .i64 p)) (hy : ev ρ y = some (.int .i64 q)) (h0 : -9223372036854775808 ≤ p - q) (h1 : p - q ≤ 9223372036854775807) (hd : d < N)
    (k : ∀ a', Env N D a' ((d, .int .i64 (p - q)) :: ρ) → wpAnyL P .any ops Q S fi fuel (listed.setIfInBounds i true) a' w) : wpAnyL P .any ops Q S fi (fuel + 1) listed a w :=
  tk hi hb hQ hS hE hg rfl hd (fun w hw => by simp [execOp, hE.ev hx, hE.ev hy, binOp, eqGuard, Op.intArith, i64_wrap h0 h1]) k
theorem tk_mul {p q : Int} (hi : ops[i]? = some ⟨some d, .binOp .mul X x y Y, T, pos, af, g⟩) (hb : takeB ops listed fi i = true) (hQ : NoPan Q) (hS : S w) (hE : Env N D a ρ) (hg : GOn ops ρ g) (hx : ev ρ x = some (.int .i64 p)) (hy : ev ρ y = some (.int .i64 q)) (h0 : -9223372036854775808 ≤ p * q) (h1 : p * q ≤ 9223372036854775807) (hd : d < N)
    (k : ∀ a', Env N D a' ((d, .int .i64 (p * q)) :: ρ) → wpAnyL P .any ops Q S fi fuel (listed.setIfInBounds i true) a' w) : wpAnyL P .any ops Q S fi (fuel + 1) listed a w :=
  tk hi hb hQ hS hE hg rfl hd (fun w hw => by simp [execOp, hE.ev hx, hE.ev hy, binOp, eqGuard, Op.intArith, i64_wrap h0 h1]) k
theorem tk_rem {p q : Int} (hi : ops[i]? = some ⟨some d, .binOp .rem X x y Y, T, pos, af, g⟩) (hb : takeB ops listed fi i = true) (hQ : NoPan Q) (hS : S w) (hE : Env N D a ρ) (hg : GOn ops ρ g) (hx : ev ρ x = some (.int .i64 p)) (hy : ev ρ y = some (.int .i64 q)) (h0 : 0 ≤ p) (h1 : 0 < q) (hd : d < N)
    (k : ∀ a', Env N D a' ((d, .int .i64 (p % q)) :: ρ) → wpAnyL P .any ops Q S fi fuel (listed.setIfInBounds i true) a' w) : wpAnyL P .any ops Q S fi (fuel + 1) listed a w :=
  tk hi hb hQ hS hE hg rfl hd (fun w hw => by simp [execOp, hE.ev hx, hE.ev hy, binOp, eqGuard, Op.intDiv, show q ≠ 0 by omega, Int.tmod_eq_emod_of_nonneg h0]) k
theorem tk_lss {p q : Int} {kd : IntKind} (hi : ops[i]? = some ⟨some d, .binOp .lss X x y Y, T, pos, af, g⟩) (hb : takeB ops listed fi i = true) (hQ : NoPan Q) (hS : S w) (hE : Env N D a ρ) (hg : GOn ops ρ g) (hx : ev ρ x = some (.int kd p)) (hy : ev ρ y = some (.int kd q)) (hd : d < N)
    (kt : p < q → ∀ a', Env N D a' ((d, .bool true) :: ρ) → wpAnyL P .any ops Q S fi fuel (listed.setIfInBounds i true) a' w)
    (kf : q ≤ p → ∀ a', Env N D a' ((d, .bool false) :: ρ) → wpAnyL P .any ops Q S fi fuel (listed.setIfInBounds i true) a' w) : wpAnyL P .any ops Q S fi (fuel + 1) listed a w := by
  by_cases h : p < q
  · exact tk (v := .bool true) hi hb hQ hS hE hg rfl hd (fun w hw => by simp [execOp, hE.ev hx, hE.ev hy, binOp, eqGuard, Op.intCmp, h]) (kt h)
  · exact tk (v := .bool false) hi hb hQ hS hE hg rfl hd (fun w hw => by simp [execOp, hE.ev hx, hE.ev hy, binOp, eqGuard, Op.intCmp]; omega) (kf (by omega))
theorem tk_leq {p q : Int} {kd : IntKind} (hi : ops[i]? = some ⟨some d, .binOp .leq X x y Y, T, pos, af, g⟩) (hb : takeB ops listed fi i = true) (hQ : NoPan Q) (hS : S w) (hE : Env N D a ρ) (hg : GOn ops ρ g) (hx : ev ρ x = some (.int kd p)) (hy : ev ρ y = some (.int kd q)) (hd : d < N)
    (kt : p ≤ q → ∀ a', Env N D a' ((d, .bool true) :: ρ) → wpAnyL P .any ops Q S fi fuel (listed.setIfInBounds i true) a' w)
    (kf : q < p → ∀ a', Env N D a' ((d, .bool false) :: ρ) → wpAnyL P .any ops Q S fi fuel (listed.setIfInBounds i true) a' w) : wpAnyL P .any ops Q S fi (fuel + 1) listed a w := by
  by_cases h : p ≤ q
  · exact tk (v := .bool true) hi hb hQ hS hE hg rfl hd (fun w hw => by simp [execOp, hE.ev hx, hE.ev hy, binOp, eqGuard, Op.intCmp, h]) (kt h)
  · exact tk (v := .bool false) hi hb hQ hS hE hg rfl hd (fun w hw => by simp [execOp, hE.ev hx, hE.ev hy, binOp, eqGuard, Op.intCmp]; omega) (kf (by omega))
theorem tk_gtr {p q : Int} {kd : IntKind} (hi : ops[i]? = some ⟨some d, .binOp .gtr X x y Y, T, pos, af, g⟩) (hb : takeB ops listed fi i = true) (hQ : NoPan Q) (hS : S w) (hE : Env N D a ρ) (hg : GOn ops ρ g) (hx : ev ρ x = some (.int kd p)) (hy : ev ρ y = some (.int kd q)) (hd : d < N)
    (kt : q < p → ∀ a', Env N D a' ((d, .bool true) :: ρ) → wpAnyL P .any ops Q S fi fuel (listed.setIfInBounds i true) a' w)
    (kf : p ≤ q → ∀ a', Env N D a' ((d, .bool false) :: ρ) → wpAnyL P .any ops Q S fi fuel (listed.setIfInBounds i true) a' w) : wpAnyL P .any ops Q S fi (fuel + 1) listed a w := by
  by_cases h : q < p
  · exact tk (v := .bool true) hi hb hQ hS hE hg rfl hd (fun w hw => by simp [execOp, hE.ev hx, hE.ev hy, binOp, eqGuard, Op.intCmp, h]) (kt h)
  · exact tk (v := .bool false) hi hb hQ hS hE hg rfl hd (fun w hw => by simp [execOp, hE.ev hx, hE.ev hy, binOp, eqGuard, Op.intCmp]; omega) (kf (by omega))
theorem tk_geq {p q : Int} {kd : IntKind} (hi : ops[i]? = some ⟨some d, .binOp .geq X x y Y, T, pos, af, g⟩) (hb : takeB ops listed fi i = true) (hQ : NoPan Q) (hS : S w) (hE : Env N D a ρ) (hg : GOn ops ρ g) (hx : ev ρ x = some (.int kd p)) (hy : ev ρ y = some (.int kd q)) (hd : d < N)
    (kt : q ≤ p → ∀ a', Env N D a' ((d, .bool true) :: ρ) → wpAnyL P .any ops Q S fi fuel (listed.setIfInBounds i true) a' w)
    (kf : p < q → ∀ a', Env N D a' ((d, .bool false) :: ρ) → wpAnyL P .any ops Q S fi fuel (listed.setIfInBounds i true) a' w) : wpAnyL P .any ops Q S fi (fuel + 1) listed a w := by
  by_cases h : q ≤ p
  · exact tk (v := .bool true) hi hb hQ hS hE hg rfl hd (fun w hw => by simp [execOp, hE.ev hx, hE.ev hy, binOp, eqGuard, Op.intCmp, h]) (kt h)
  · exact tk (v := .bool false) hi hb hQ hS hE hg rfl hd (fun w hw => by simp [execOp, hE.ev hx, hE.ev hy, binOp, eqGuard, Op.intCmp]; omega) (kf (by omega))
theorem tk_eql {p q : Int} {kd : IntKind} (hi : ops[i]? = some ⟨some d, .binOp .eql X x y Y, T, pos, af, g⟩) (hb : takeB ops listed fi i = true) (hQ : NoPan Q) (hS : S w) (hE : Env N D a ρ) (hg : GOn ops ρ g) (hx : ev ρ x = some (.int kd p)) (hy : ev ρ y = some (.int kd q)) (hd : d < N)
    (kt : p = q → ∀ a', Env N D a' ((d, .bool true) :: ρ) → wpAnyL P .any ops Q S fi fuel (listed.setIfInBounds i true) a' w)
    (kf : p ≠ q → ∀ a', Env N D a' ((d, .bool false) :: ρ) → wpAnyL P .any ops Q S fi fuel (listed.setIfInBounds i true) a' w) : wpAnyL P .any ops Q S fi (fuel + 1) listed a w := by
  by_cases h : p = q
  · exact tk (v := .bool true) hi hb hQ hS hE hg rfl hd (fun w hw => by simp [execOp, hE.ev hx, hE.ev hy, binOp, eqGuard, Op.intCmp, h]) (kt h)
  · exact tk (v := .bool false) hi hb hQ hS hE hg rfl hd (fun w hw => by simp [execOp, hE.ev hx, hE.ev hy, binOp, eqGuard, Op.intCmp]; omega) (kf (by omega))
theorem tk_neq {p q : Int} {kd : IntKind} (hi : ops[i]? = some ⟨some d, .binOp .neq X x y Y, T, pos, af, g⟩) (hb : takeB ops listed fi i = true) (hQ : NoPan Q) (hS : S w) (hE : Env N D a ρ) (hg : GOn ops ρ g) (hx : ev ρ x = some (.int kd p)) (hy : ev ρ y = some (.int kd q)) (hd : d < N)
    (kt : p ≠ q → ∀ a', Env N D a' ((d, .bool true) :: ρ) → wpAnyL P .any ops Q S fi fuel (listed.setIfInBounds i true) a' w)
    (kf : p = q → ∀ a', Env N D a' ((d, .bool false) :: ρ) → wpAnyL P .any ops Q S fi fuel (listed.setIfInBounds i true) a' w) : wpAnyL P .any ops Q S fi (fuel + 1) listed a w := by
  by_cases h : p ≠ q
  · exact tk (v := .bool true) hi hb hQ hS hE hg rfl hd (fun w hw => by simp [execOp, hE.ev hx, hE.ev hy, binOp, eqGuard, Op.intCmp, h]) (kt h)
  · exact tk (v := .bool false) hi hb hQ hS hE hg rfl hd (fun w hw => by simp [execOp, hE.ev hx, hE.ev hy, binOp, eqGuard, Op.intCmp]; omega) (kf (by omega))
theorem tk_len [SliceTy P X Y] {b : Option Addr} {n c : Nat} (hi : ops[i]? = some ⟨some d, .call ⟨.builtin .len, #[x], #[X]⟩, T, pos, af, g⟩) (hb : takeB ops listed fi i = true) (hQ : NoPan Q) (hS : S w) (hE : Env N D a ρ) (hg : GOn ops ρ g) (hx : ev ρ x = some (.slice b n c)) (hd : d < N)
    (k : ∀ a', Env N D a' ((d, .int .i64 n) :: ρ) → wpAnyL P .any ops Q S fi fuel (listed.setIfInBounds i true) a' w) : wpAnyL P .any ops Q S fi (fuel + 1) listed a w :=
  tk hi hb hQ hS hE hg rfl hd (fun w hw => by have hu := SliceTy.slice (P := P) (T := X); simp [execOp, resolve, invoke, builtin, hE.ev hx, Builtin.len_, run_underlying hu, goInt]) k
theorem tk_nilCheck {p : Addr} (hi : ops[i]? = some ⟨some d, .nilCheck x, T, pos, af, g⟩) (hb : takeB ops listed fi i = true) (hQ : NoPan Q) (hS : S w) (hE : Env N D a ρ) (hg : GOn ops ρ g) (hx : ev ρ x = some (.pointer (some p))) (hd : d < N)
    (k : ∀ a', Env N D a' ((d, .pointer (some p)) :: ρ) → wpAnyL P .any ops Q S fi fuel (listed.setIfInBounds i true) a' w) : wpAnyL P .any ops Q S fi (fuel + 1) listed a w :=
  tk hi hb hQ hS hE hg rfl hd (fun w hw => by simp [execOp, hE.ev hx]) k
theorem tk_extract {vs : List Value} {j : Nat} (hi : ops[i]? = some ⟨some d, .extract x j, T, pos, af, g⟩) (hb : takeB ops listed fi i = true) (hQ : NoPan Q) (hS : S w) (hE : Env N D a ρ) (hg : GOn ops ρ g) (hx : ev ρ x = some (.tuple vs.toArray)) (hj : vs[j]? = some v) (hd : d < N)
    (k : ∀ a', Env N D a' ((d, v) :: ρ) → wpAnyL P .any ops Q S fi fuel (listed.setIfInBounds i true) a' w) : wpAnyL P .any ops Q S fi (fuel + 1) listed a w :=
  tk hi hb hQ hS hE hg rfl hd (fun w hw => by simp [execOp, hE.ev hx, Instr.extract, hj]) k
theorem tk_makeFunc {fn : Fn} {l : List Operand} {vs : List Value} (hi : ops[i]? = some ⟨some d, .makeFunc fn #[] l.toArray, T, pos, af, g⟩) (hb : takeB ops listed fi i = true) (hQ : NoPan Q) (hS : S w) (hE : Env N D a ρ) (hg : GOn ops ρ g) (hl : evs ρ l = some vs) (hd : d < N)
    (k : ∀ a', Env N D a' ((d, .func fn #[] vs.toArray) :: ρ) → wpAnyL P .any ops Q S fi fuel (listed.setIfInBounds i true) a' w) : wpAnyL P .any ops Q S fi (fuel + 1) listed a w :=
  tk hi hb hQ hS hE hg rfl hd (fun w hw => by simp [execOp, Instr.makeFunc, hE.evs hl]) k
theorem tk_load [PlainTy P X] {p : Addr} (hi : ops[i]? = some ⟨some d, .load X x, T, pos, af, g⟩) (hb : takeB ops listed fi i = true) (hQ : NoPan Q) (hS : S w) (hE : Env N D a ρ) (hg : GOn ops ρ g) (hx : ev ρ x = some (.pointer (some p))) (hc : ∀ w, S w → w.cell? p = some v) (hd : d < N)
    (k : ∀ a', Env N D a' ((d, v) :: ρ) → wpAnyL P .any ops Q S fi fuel (listed.setIfInBounds i true) a' w) : wpAnyL P .any ops Q S fi (fuel + 1) listed a w :=
  tk hi hb hQ hS hE hg rfl hd (fun w hw => by exact run_load1 hE hx (hc w hw)) k
theorem tk_fieldAddr {b o f off F : Nat} [FieldTy P X f off F] (hi : ops[i]? = some ⟨some d, .fieldAddr X x f, T, pos, af, g⟩) (hb : takeB ops listed fi i = true) (hQ : NoPan Q) (hS : S w) (hE : Env N D a ρ) (hg : GOn ops ρ g) (hx : ev ρ x = some (.pointer (some ⟨b, o, none⟩))) (hd : d < N)
    (k : ∀ a', Env N D a' ((d, .pointer (some ⟨b, o + off, none⟩)) :: ρ) → wpAnyL P .any ops Q S fi fuel (listed.setIfInBounds i true) a' w) : wpAnyL P .any ops Q S fi (fuel + 1) listed a w :=
  tk hi hb hQ hS hE hg rfl hd (fun w hw => by exact run_fieldAddr hE hx) k
theorem tk_len_rs {α : Type} {sz : Nat} {C : CRel α} {m : Nat → Nat} {w1 : World} {xs : List α} [SliceTy P X Y] (hi : ops[i]? = some ⟨some d, .call ⟨.builtin .len, #[x], #[X]⟩, T, pos, af, g⟩) (hb : takeB ops listed fi i = true) (hQ : NoPan Q) (hS : S w) (hE : Env N D a ρ) (hg : GOn ops ρ g) (hx : ev ρ x = some v) (hr : RS sz C m w1 v xs) (hd : d < N)
    (k : ∀ a', Env N D a' ((d, .int .i64 xs.length) :: ρ) → wpAnyL P .any ops Q S fi fuel (listed.setIfInBounds i true) a' w) : wpAnyL P .any ops Q S fi (fuel + 1) listed a w := by
  obtain ⟨b, cap, rfl, _⟩ := hr.shape
  exact tk_len hi hb hQ hS hE hg hx hd k
theorem tk_indexAddr {α : Type} {sz bt : Nat} {zv : Value} {C : CRel α} {m : Nat → Nat} {w1 : World} {xs : List α} {n : Nat} {e : α} {ix : Int} [SliceTy P X Y] [ElemTy P Y sz bt zv] (hi : ops[i]? = some ⟨some d, .indexAddr X x y, T, pos, af, g⟩) (hb : takeB ops listed fi i = true) (hQ : NoPan Q) (hS : S w) (hE : Env N D a ρ) (hg : GOn ops ρ g) (hx : ev ρ x = some v)
    (hr : RS sz C m w1 v xs) (hy : ev ρ y = some (.int .i64 ix)) (hd : d < N) (hix : ix = n) (he : xs[n]? = some e)
    (k : ∀ (p : Addr) (cs : List Value), cs.length = sz → CellsAt m w1 p cs → C m w1 cs e → p.spot = none → ∀ a', Env N D a' ((d, .pointer (some p)) :: ρ) → wpAnyL P .any ops Q S fi fuel (listed.setIfInBounds i true) a' w) : wpAnyL P .any ops Q S fi (fuel + 1) listed a w := by
  obtain ⟨b, o, cap, rfl, cs, h1, h2, h3⟩ := hr.index he
  obtain ⟨inf, hi1, hi2, _⟩ := ElemTy.elem (P := P) (E := Y)
  subst hix
  have hlt : n < xs.length := (List.getElem?_eq_some_iff.1 he).1
  refine tk (v := .pointer (some ⟨b, o + n * sz, none⟩)) hi hb hQ hS hE hg rfl hd (fun w hw => ?_) (k _ cs h1 h2 h3 rfl)
  have hu := SliceTy.slice (P := P) (T := X)
  simp [execOp, hE.ev hx, hE.ev hy, Instr.indexAt, asIntOf, run_underlying hu, sizeOf, typeInfo, hi1, hi2, Addr_add_lit, hlt]
/-- What was there, and could not be written, is there in all worlds that S lets by. -/
def Fut (m : Nat → Nat) (w : World) : World → Prop := fun w' => ∃ m', Keep m w m' w'
theorem Fut.start (m w) : Fut m w w := ⟨m, .refl m w⟩
theorem Fut.drew (m w) : Fut m w w.drew := ⟨m, .drew m w⟩
theorem tk_load1 {α : Type} {R : Rel α} {m : Nat → Nat} {w1 : World} {e : α} {cs : List Value} [PlainTy P X] {p : Addr} (hi : ops[i]? = some ⟨some d, .load X x, T, pos, af, g⟩) (hb : takeB ops listed fi i = true) (hQ : NoPan Q) (hS : S w) (hE : Env N D a ρ) (hg : GOn ops ρ g) (hF : ∀ w, S w → ∃ m', Ext m w1 m' w) (hx : ev ρ x = some (.pointer (some p))) (hs : p.spot = none) (hc : CellsAt m w1 p cs) (hr : one R m w1 cs e) (hd : d < N)
    (k : ∀ v, R m w1 v e → ∀ a', Env N D a' ((d, v) :: ρ) → wpAnyL P .any ops Q S fi fuel (listed.setIfInBounds i true) a' w) : wpAnyL P .any ops Q S fi (fuel + 1) listed a w := by
  obtain ⟨c, rfl, hr⟩ := hr
  exact tk_load hi hb hQ hS hE hg hx (fun w' hw => by
    obtain ⟨m', he⟩ := hF w' hw
    exact cell_of (hc.mono he) hs) hd (k c hr)
theorem tk_loadI {e : Int} {kd : IntKind} {m : Nat → Nat} {w1 : World} {cs : List Value} [PlainTy P X] {p : Addr} (hi : ops[i]? = some ⟨some d, .load X x, T, pos, af, g⟩) (hb : takeB ops listed fi i = true) (hQ : NoPan Q) (hS : S w) (hE : Env N D a ρ) (hg : GOn ops ρ g) (hF : ∀ w, S w → ∃ m', Ext m w1 m' w) (hx : ev ρ x = some (.pointer (some p))) (hs : p.spot = none) (hc : CellsAt m w1 p cs) (hr : one (RI kd) m w1 cs e) (hd : d < N)
    (k : ∀ a', Env N D a' ((d, .int kd e) :: ρ) → wpAnyL P .any ops Q S fi fuel (listed.setIfInBounds i true) a' w) : wpAnyL P .any ops Q S fi (fuel + 1) listed a w :=
  tk_load1 hi hb hQ hS hE hg hF hx hs hc hr hd fun v hv => by
    have hv : v = _ := hv
    subst hv
    exact k
theorem tk_loadB {e : Bool} {m : Nat → Nat} {w1 : World} {cs : List Value} [PlainTy P X] {p : Addr} (hi : ops[i]? = some ⟨some d, .load X x, T, pos, af, g⟩) (hb : takeB ops listed fi i = true) (hQ : NoPan Q) (hS : S w) (hE : Env N D a ρ) (hg : GOn ops ρ g) (hF : ∀ w, S w → ∃ m', Ext m w1 m' w) (hx : ev ρ x = some (.pointer (some p))) (hs : p.spot = none) (hc : CellsAt m w1 p cs) (hr : one (RB) m w1 cs e) (hd : d < N)
    (k : ∀ a', Env N D a' ((d, .bool e) :: ρ) → wpAnyL P .any ops Q S fi fuel (listed.setIfInBounds i true) a' w) : wpAnyL P .any ops Q S fi (fuel + 1) listed a w :=
  tk_load1 hi hb hQ hS hE hg hF hx hs hc hr hd fun v hv => by
    have hv : v = _ := hv
    subst hv
    exact k
theorem Fut.ext {m : Nat → Nat} {w : World} : ∀ w', Fut m w w' → ∃ m', Ext m w m' w' := fun _ ⟨m', h⟩ => ⟨m', h.ext⟩
end
end Go.W
