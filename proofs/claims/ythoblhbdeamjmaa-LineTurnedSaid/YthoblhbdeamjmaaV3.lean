/- Part 3 of what the claim is proved by: lemmas on the model and walks through functions of the program; no conditions. -/
import Derived.Test.YthoblhbdeamjmaaV2
import Derived.Lib.SliceRun
import Derived.Laws.Cover3
/- The small laws of a walk of our own: literals, variables in memory, closures. -/
namespace Go.W
open Go
section
variable {P : Program} {ops : Array Oper} {Q : Exit → Act → World → Prop} {Kc : Act → World → Prop} {w w' : World} {a : Act}
variable {N : Nat} {D : List Deferred} {ρ : List (Nat × Value)} {d T X Y : Nat} {pos : String} {af : Array Edge} {x y z : Operand} {u v : Value}

theorem cells_one {v : Value} (h : v.oneCell' = true) : v.cells = #[v] := by cases v <;> first | rfl | simp [Value.oneCell'] at h

/-! ### Slices that are written out -/
theorem fill_seq (sz1 : Nat → Option (Nat × Nat)) (h1 : ∀ i, sz1 i = some (i * 1, 1)) : ∀ (vs : List Value) (k : Nat) (cells : Array Value), (∀ v ∈ vs, v.oneCell' = true) → k + vs.length ≤ cells.size →
    ∃ out, Instr.fill sz1 cells ((List.range' k vs.length).zip vs) = some out ∧ out.size = cells.size ∧ (∀ j, j < k → out[j]? = cells[j]?) ∧ ∀ j v, vs[j]? = some v → out[k + j]? = some v := by
  intro vs
  induction vs with
  | nil => intro k cells _ _; exact ⟨cells, by simp [Instr.fill], rfl, fun _ _ => rfl, fun j v h => by simp at h⟩
  | cons u r ih =>
    intro k cells hone hk
    have hu : u.cells = #[u] := cells_one (hone u (by simp))
    simp only [List.length_cons] at hk
    obtain ⟨out, o1, o2, o3, o4⟩ := ih (k + 1) (cells.setIfInBounds k u) (fun v hv => hone v (by simp [hv])) (by simp; omega)
    refine ⟨out, ?_, by simpa using o2, fun j hj => ?_, fun j v hj => ?_⟩
    · simp only [List.length_cons, List.range'_succ, List.zip_cons_cons, Instr.fill, h1, hu]
      rw [if_neg (by simp; omega)]
      simpa using o1
    · rw [o3 j (by omega), Array.getElem?_setIfInBounds_ne (by omega)]
    · cases j with
      | zero =>
        simp at hj
        subst hj
        rw [Nat.add_zero, o3 k (by omega), Array.getElem?_setIfInBounds_self_of_lt (by omega)]
      | succ j =>
        have := o4 j v (by simpa using hj)
        rwa [show k + (j + 1) = k + 1 + j by omega]

def LRel {α : Type} (R : Value → α → Prop) : List Value → List α → Prop
  | [], [] => True
  | v :: vs, x :: xs => R v x ∧ LRel R vs xs
  | _, _ => False
theorem LRel.len {α : Type} {R : Value → α → Prop} : ∀ {vs : List Value} {xs : List α}, LRel R vs xs → vs.length = xs.length
  | [], [], _ => rfl
  | _ :: _, _ :: _, h => by simp [LRel.len h.2]
  | [], _ :: _, h => h.elim
  | _ :: _, [], h => h.elim
theorem LRel.get {α : Type} {R : Value → α → Prop} : ∀ {vs : List Value} {xs : List α}, LRel R vs xs → ∀ (i : Nat) x, xs[i]? = some x → ∃ v, vs[i]? = some v ∧ R v x
  | [], [], _, i, x, hx => by simp at hx
  | v :: _, y :: _, h, 0, x, hx => by simp at hx; subst hx; exact ⟨v, rfl, h.1⟩
  | _ :: _, _ :: _, h, i + 1, x, hx => by simpa using LRel.get h.2 i x (by simpa using hx)
  | [], _ :: _, h, _, _, _ => h.elim
  | _ :: _, [], h, _, _, _ => h.elim

theorem Own.fresh {α : Type} {R : Rel α} [Mono R] {m : Nat → Nat} {E : Nat} {cells : Array Value} {xs : List α} (hs : cells.size = xs.length) (h0 : 0 < xs.length) (hm : xs.length ≤ maxLen)
    (hR : ∀ (i : Nat) x, xs[i]? = some x → ∃ c, cells[i]? = some c ∧ R m w c x) :
    Own E 1 (one R) (mset m w.heap.size xs.length) (w.alloc (.cells cells E)) (.slice (some ⟨w.heap.size, 0, none⟩) xs.length xs.length) xs := by
  have hk := Keep.alloc m w (.cells cells E) xs.length
  refine .inr (.inr ⟨w.heap.size, xs.length, cells, rfl, h0, heap_alloc_new w _, Nat.le_refl _, hm, by simpa using hs, by simp, fun i x hx => ?_⟩)
  obtain ⟨c, h1, h2⟩ := hR i x hx
  refine ⟨[c], rfl, fun j c' hj => ?_, c, rfl, Mono.mono hk.ext h2⟩
  have : j = 0 := by
    have := (List.getElem?_eq_some_iff.1 hj).1
    simp at this; omega
  subst this
  simp at hj
  subst hj
  simpa using h1

/-- A slice literal of elements of one cell, all written out. -/
theorem op_lit {α : Type} {R : Rel α} [Mono R] [One R] {bt : Nat} {zv : Value} {m : Nat → Nat} {len : Nat} {parts : Array (Nat × Operand)} [SliceTy P X Y] [ElemTy P Y 1 bt zv] (vs : List Value) (xs : List α)
    (hE : Env N D a ρ) (hp1 : parts.toList.map (·.1) = List.range' 0 len) (hp2 : parts.toList.map (fun p => ev ρ p.2) = vs.map some) (hR : LRel (R m w) vs xs) (hd : d < N) (h0 : 0 < len) (hl : len ≤ 1000)
    (k : ∀ v' m' w', Keep m w m' w' → Own Y 1 (one R) m' w' v' xs → ownB v' = some w.heap.size → ∀ a', Env N D a' ((d, v') :: ρ) → Kc a' w') :
    OpK P ops Q ⟨some d, .buildSlice X len parts, T, pos, af, none⟩ Kc a w := by
  obtain ⟨inf, i1, i2, i3, i4, i5, i6⟩ := ElemTy.elem (P := P) (E := Y)
  have hu := SliceTy.slice (P := P) (T := X)
  have hlen : vs.length = len := by
    have e1 := congrArg List.length hp1
    have e2 := congrArg List.length hp2
    simp at e1 e2
    omega
  have hxl := hR.len
  have hone : ∀ v ∈ vs, v.oneCell' = true := by
    intro v hv
    obtain ⟨i, hi, e⟩ := List.mem_iff_getElem.1 hv
    obtain ⟨v', h1, h2⟩ := hR.get i _ (List.getElem?_eq_getElem (by omega))
    rw [List.getElem?_eq_getElem hi, e] at h1
    cases h1
    exact One.cell h2
  have hev : ∀ (l : List (Nat × Operand)) (vs : List Value), l.map (fun p => W.ev ρ p.2) = vs.map some → l.map (fun p => (p.1, a.eval p.2)) = (l.map (·.1)).zip vs := by
    intro l
    induction l with
    | nil => intro vs _; simp
    | cons p r ih =>
      intro vs h
      cases vs with
      | nil => simp at h
      | cons v vs =>
        simp only [List.map_cons, List.cons.injEq] at h
        simp only [List.map_cons, List.zip_cons_cons, ih vs h.2, hE.ev h.1]
  have hparts := hev parts.toList vs hp2
  rw [hp1] at hparts
  obtain ⟨out, f1, f2, _, f4⟩ := fill_seq (fun i => some (i * 1, 1)) (fun _ => rfl) vs 0 ((Array.range (len * 1)).map fun j => zv.cells[j % zv.cells.size]!) hone (by simp [hlen])
  rw [hlen] at f1
  have hos : out.size = xs.length := by rw [f2]; simp; omega
  refine wl_value (v := .slice (some ⟨w.heap.size, 0, none⟩) len len) (w' := w.alloc (.cells out Y)) rfl ?_
    (k _ _ _ (Keep.alloc m w _ xs.length) ?_ ?_ _ (hE.put _ hd))
  · have hp3 : (parts.map fun p => (p.1, a.eval p.2)).toList = (List.range' 0 len).zip vs := by simpa using hparts
    have hbig' : ¬ (16777216 < len) := by omega
    have hz' : len ≠ 0 := by omega
    simp only [execOp, Instr.buildSlice, Sem.run_bind, run_underlying hu, Result.andThen_ok, sizeOf, typeInfo, run_program, i1, i2, Sem.run_pure, zeroValue]
    have hp4 : (Array.map (fun x => (x.fst, a.eval x.snd)) parts).toList = (List.range' 0 len).zip vs := hp3
    rw [if_neg (by simpa using hbig'), if_neg (by simpa using hz')]
    simp only [Nat.mul_one, Sem.run_bind, run_program, Result.andThen_ok, i1, i4, Sem.run_pure]
    have e1 : Instr.fill (fun i => some (i, 1)) (Array.map (fun x => zv.cells[x % zv.cells.size]!) (Array.range len)) (Array.map (fun x => (x.fst, a.eval x.snd)) parts).toList = some out := by
      rw [hp4]
      simpa using f1
    rw [e1]
    rfl
  · have := Own.fresh (w := w) (m := m) (E := Y) (R := R) (cells := out) (xs := xs) hos (by omega) (by have : maxLen = 9223372036854775807 := rfl; omega) (fun i x hx => by
      obtain ⟨v', h1, h2⟩ := hR.get i x hx
      exact ⟨v', by simpa using f4 i v' h1, h2⟩)
    rw [show xs.length = len by omega] at this ⊢
    exact this
  · obtain ⟨c, rfl⟩ : ∃ c, len = c + 1 := ⟨len - 1, by omega⟩
    rfl

/-! ### Variables in memory -/
/-- Block b is a variable of the call's own, that may be written. -/
structure Box (m : Nat → Nat) (w : World) (b : Nat) (cs : List Value) (E : Nat) : Prop where
  heap : w.heap[b]? = some (.cells cs.toArray E (0, 0))
  lim : m b = 0
theorem Box.lt {m w b cs E} (h : Box m w b cs E) : b < w.heap.size := (Array.getElem?_eq_some_iff.1 h.heap).1
theorem Box.touch {m w b cs E Z m' w'} (h : Box m w b cs E) (ht : Touch Z m w m' w') (hb : some b ≠ Z) : Box m' w' b cs E :=
  ⟨ht.heap h.heap hb, by rw [ht.lim b h.lt hb]; exact h.lim⟩
theorem Box.keep {m w b cs E m' w'} (h : Box m w b cs E) (hk : Keep m w m' w') : Box m' w' b cs E := h.touch (hk.touch none) (by simp)
theorem Box.cell {m w b cs E} (h : Box m w b cs E) {o : Nat} {v : Value} (hv : cs[o]? = some v) : w.cell? ⟨b, o, none⟩ = some v := by
  simp only [World.cell?, h.heap]; simpa using hv
/-- From now on it is not written any more. -/
theorem Box.freeze {m w b cs E} (h : Box m w b cs E) : Ext m w (mset m b cs.length) w ∧ CellsAt (mset m b cs.length) w ⟨b, 0, none⟩ cs := by
  refine ⟨⟨Nat.le_refl _, fun k _ => ?_, fun _ _ _ _ hc => hc⟩, fun j c hj => ?_⟩
  · by_cases e : k = b
    · subst e; rw [h.lim]; exact Nat.zero_le _
    · rw [mset_ne e]; exact Nat.le_refl _
  · have hlt : j < cs.length := (List.getElem?_eq_some_iff.1 hj).1
    refine ⟨by simpa using hlt, ?_⟩
    simp only [Nat.zero_add]
    exact h.cell hj
/-- A change of the marks above the old memory is none for it. -/
theorem Keep.mark {m w m1 w1} (h : Keep m w m1 w1) {b n : Nat} (hb : w.heap.size ≤ b) : Keep m w (mset m1 b n) w1 :=
  ⟨h.grown, fun k hk => by rw [mset_ne (by omega)]; exact h.lim k hk⟩

theorem op_alloc {sz bt : Nat} {zv : Value} {zs : List Value} {m : Nat → Nat} [ElemTy P X sz bt zv] (hE : Env N D a ρ) (hd : d < N) (hz : zv.cells = zs.toArray)
    (k : ∀ b m' w', Keep m w m' w' → w.heap.size ≤ b → Box m' w' b zs X → ∀ a', Env N D a' ((d, .pointer (some ⟨b, 0, none⟩)) :: ρ) → Kc a' w') :
    OpK P ops Q ⟨some d, .alloc X, T, pos, af, none⟩ Kc a w := by
  obtain ⟨inf, i1, i2, i3, i4, i5, i6⟩ := ElemTy.elem (P := P) (E := X)
  refine wl_value (v := .pointer (some ⟨w.heap.size, 0, none⟩)) (w' := w.alloc (.cells zs.toArray X)) rfl ?_ (k w.heap.size (mset m w.heap.size 0) _ (Keep.alloc m w _ 0) (Nat.le_refl _) ⟨heap_alloc_new w _, by simp⟩ _ (hE.put _ hd))
  simp [execOp, Instr.alloc, zeroValue, typeInfo, i1, i4, newVar, newRow, hz]
theorem op_box {m : Nat → Nat} {vs : List Value} (hE : Env N D a ρ) (hx : ev ρ x = some v) (hd : d < N) (hv : v.cells = vs.toArray)
    (k : ∀ b m' w', Keep m w m' w' → w.heap.size ≤ b → Box m' w' b vs X → ∀ a', Env N D a' ((d, .pointer (some ⟨b, 0, none⟩)) :: ρ) → Kc a' w') :
    OpK P ops Q ⟨some d, .box X x, T, pos, af, none⟩ Kc a w := by
  refine wl_value (v := .pointer (some ⟨w.heap.size, 0, none⟩)) (w' := w.alloc (.cells vs.toArray X)) rfl ?_ (k w.heap.size (mset m w.heap.size 0) _ (Keep.alloc m w _ 0) (Nat.le_refl _) ⟨heap_alloc_new w _, by simp⟩ _ (hE.put _ hd))
  simp [execOp, Instr.box, hE.ev hx, newVar, newRow, hv]

theorem setCell_box {m : Nat → Nat} {b E o : Nat} {cs : List Value} (h : Box m w b cs E) (v : Value) :
    Touch (some b) m w m (w.setCell ⟨b, o, none⟩ v) ∧ Box m (w.setCell ⟨b, o, none⟩ v) b (cs.set o v) E := by
  have hs : (w.setCell ⟨b, o, none⟩ v).heap.size = w.heap.size := by simp [World.setCell]
  have hoth : ∀ k, k ≠ b → (w.setCell ⟨b, o, none⟩ v).heap[k]? = w.heap[k]? := fun k hk => by
    simp only [World.setCell, Array.getElem?_modify]
    rw [if_neg (by omega)]
  refine ⟨⟨⟨rfl, rfl, rfl, by omega, fun k _ hk => hoth k (by simpa using hk)⟩, fun _ _ _ => rfl, ⟨by omega, fun _ _ => Nat.le_refl _, fun k i c hi hc => ?_⟩⟩, ?_, h.lim⟩
  · have hne : k ≠ b := fun e => by subst e; rw [h.lim] at hi; omega
    rw [World.cell?_of_block (w := w) (hoth k hne)]; exact hc
  · simp only [World.setCell, Array.getElem?_modify, if_true, h.heap]
    simp
theorem op_store {m : Nat → Nat} {b E o : Nat} {cs : List Value} {u0 : Value} [PlainTy P X] {T1 : Nat} {zv1 : Value} [ElemTy P X 1 T1 zv1] (hE : Env N D a ρ) (hx : ev ρ x = some (.pointer (some ⟨b, o, none⟩))) (hy : ev ρ y = some v) (h1 : v.oneCell' = true)
    (hB : Box m w b cs E) (hold : cs[o]? = some u0)
    (k : ∀ w', Touch (some b) m w m w' → Box m w' b (cs.set o v) E → ∀ a', Env N D a' ρ → Kc a' w') :
    OpK P ops Q ⟨none, .store X x y, T, pos, af, none⟩ Kc a w := by
  obtain ⟨inf, i1, i2, i3, i4, i5, i6⟩ := ElemTy.elem (P := P) (E := X)
  obtain ⟨t1, t2⟩ := setCell_box (o := o) hB v
  refine wl_skip (w' := w.setCell ⟨b, o, none⟩ v) rfl ?_ (k _ t1 t2 _ (by simpa [Act.put] using hE))
  have hc := hB.cell hold
  have hf : w.frozen? ⟨b, o, none⟩ = false := by simp [World.frozen?, hB.heap]
  have hst : (store ⟨b, o, none⟩ v).run P w = .ok () (w.setCell ⟨b, o, none⟩ v) := by
    rw [run_store P w _ v .plain h1]; simp [hc, hf]
  have hadd : (⟨b, o, none⟩ : Addr).add 0 = ⟨b, o, none⟩ := rfl
  simp [execOp, hE.ev hx, hE.ev hy, Instr.storeAt, Instr.sureAddr, storeVar, sizeOf, typeInfo, i1, i2, cells_one h1, storeCells, hadd, hst]

theorem run_fieldAddr {b o f off F : Nat} {g : Option (Nat × Bool)} [FieldTy P X f off F] (hE : Env N D a ρ) (hx : ev ρ x = some (.pointer (some ⟨b, o, none⟩))) :
    (execOp a.eval ⟨some d, .fieldAddr X x f, T, pos, af, g⟩).run P w = .ok (.value (.pointer (some ⟨b, o + off, none⟩))) w := by
  have hf := FieldTy.field (P := P) (T := X) (f := f)
  split at hf
  · rename_i fs hu
    cases hq : fs[f]? with
    | none => rw [hq] at hf; simp at hf
    | some fd =>
      rw [hq] at hf
      simp at hf
      obtain ⟨rfl, rfl, hne⟩ := hf
      cases hi : P.info? fd.type with
      | none => rw [hi] at hne; simp at hne
      | some inf =>
        rw [hi] at hne
        simp at hne
        simp [execOp, hE.ev hx, Instr.fieldAt, run_underlying hu, hq, Instr.sureAddr, fieldPlace, sizeOf, typeInfo, hi, hne, Addr_add_lit]
  · cases hf
theorem op_fieldAddr {b o f off F : Nat} [FieldTy P X f off F] (hE : Env N D a ρ) (hx : ev ρ x = some (.pointer (some ⟨b, o, none⟩))) (hd : d < N)
    (k : ∀ a', Env N D a' ((d, .pointer (some ⟨b, o + off, none⟩)) :: ρ) → Kc a' w) :
    OpK P ops Q ⟨some d, .fieldAddr X x f, T, pos, af, none⟩ Kc a w :=
  wl_value rfl (run_fieldAddr hE hx) (k _ (hE.put _ hd))

theorem op_nilCheck {p : Addr} (hE : Env N D a ρ) (hx : ev ρ x = some (.pointer (some p))) (hd : d < N) (k : ∀ a', Env N D a' ((d, .pointer (some p)) :: ρ) → Kc a' w) :
    OpK P ops Q ⟨some d, .nilCheck x, T, pos, af, none⟩ Kc a w :=
  wl_value rfl (by simp [execOp, hE.ev hx]) (k _ (hE.put _ hd))
theorem op_extract {vs : List Value} {i : Nat} (hE : Env N D a ρ) (hx : ev ρ x = some (.tuple vs.toArray)) (hi : vs[i]? = some v) (hd : d < N) (k : ∀ a', Env N D a' ((d, v) :: ρ) → Kc a' w) :
    OpK P ops Q ⟨some d, .extract x i, T, pos, af, none⟩ Kc a w :=
  wl_value rfl (by simp [execOp, hE.ev hx, Instr.extract, hi]) (k _ (hE.put _ hd))

/-! ### Functions as values -/
def evs (ρ : List (Nat × Value)) : List Operand → Option (List Value)
  | [] => some []
  | x :: r => match ev ρ x, evs ρ r with
    | some v, some vs => some (v :: vs)
    | _, _ => none
theorem Env.evs (hE : Env N D a ρ) : ∀ {l : List Operand} {vs : List Value}, W.evs ρ l = some vs → l.map a.eval = vs
  | [], vs, h => by simp [W.evs] at h; simp [h]
  | x :: r, vs, h => by
    simp only [W.evs] at h
    split at h
    · rename_i v vs' h1 h2
      simp at h
      subst h
      simp [hE.ev h1, Env.evs hE h2]
    · cases h
theorem op_makeFunc {fn : Fn} {l : List Operand} {vs : List Value} (hE : Env N D a ρ) (hl : evs ρ l = some vs) (hd : d < N)
    (k : ∀ a', Env N D a' ((d, .func fn #[] vs.toArray) :: ρ) → Kc a' w) :
    OpK P ops Q ⟨some d, .makeFunc fn #[] l.toArray, T, pos, af, none⟩ Kc a w :=
  wl_value rfl (by simp [execOp, Instr.makeFunc, hE.evs hl]) (k _ (hE.put _ hd))

/-- The call of a function that the text names. -/
theorem op_callf {f : Nat} {l : List Operand} {vs : List Value} {m : Nat → Nat} {K : (Nat → Nat) → World → Value → Prop} {fn : Func} {at_ : Array TypeId} (hE : Env N D a ρ) (hl : evs ρ l = some vs)
    (hf : P.funcs[f]? = some fn) (hb : (fn.body.isNone || fn.name == "runtime.NumGoroutine") = false) (hc : Calls P f vs.toArray w (Pure m w K)) (hd : d < N)
    (k : ∀ v m' w', Keep m w m' w' → K m' w' v → ∀ a', Env N D a' ((d, v) :: ρ) → Kc a' w') :
    OpK P ops Q ⟨some d, .call ⟨.value (.func f), l.toArray, at_⟩, T, pos, af, none⟩ Kc a w := by
  simp at hb
  refine op_call (args := vs.toArray) hE hf (by simpa using hb.1) hb.2 ?_ hc hd k
  simp [hE.evs hl]
/-- .. of a function value. -/
theorem op_callv {f : Nat} {l : List Operand} {vs : List Value} {first caps : Array Value} {m : Nat → Nat} {K : (Nat → Nat) → World → Value → Prop} {fn : Func} {at_ : Array TypeId} (hE : Env N D a ρ) (hx : ev ρ x = some (.func (.func f) first caps)) (hl : evs ρ l = some vs)
    (hf : P.funcs[f]? = some fn) (hb : (fn.body.isNone || fn.name == "runtime.NumGoroutine") = false) (hc : Calls P f (first ++ vs.toArray ++ caps) w (Pure m w K)) (hd : d < N)
    (k : ∀ v m' w', Keep m w m' w' → K m' w' v → ∀ a', Env N D a' ((d, v) :: ρ) → Kc a' w') :
    OpK P ops Q ⟨some d, .call ⟨.value x, l.toArray, at_⟩, T, pos, af, none⟩ Kc a w := by
  simp at hb
  have hb' : fn.body ≠ none := Option.isSome_iff_ne_none.1 hb.1
  refine wl_call (f := f) (args := first ++ vs.toArray ++ caps) rfl ?_ (hc.mono fun e w'' ⟨v, m', he, hk, hK⟩ => ⟨v, he, k v m' w'' hk hK _ (hE.put _ hd)⟩)
  simp [execOp, resolve, hE.ev hx, Deferred.ofValue, invoke, callFunc, hf, hb.2, hb', hE.evs hl]

/-- A function value that takes one argument and, in all memory to come, hands back what p says. -/
def FunR (P : Program) {α β : Type} (R : Rel α) (S : Rel β) (dom : α → Prop) (m : Nat → Nat) (w : World) (fv : Value) (p : α → β) : Prop :=
  ∃ f first caps fn, fv = .func (.func f) first caps ∧ P.funcs[f]? = some fn ∧ (fn.body.isNone || fn.name == "runtime.NumGoroutine") = false ∧
    ∀ m' w' c x, Ext m w m' w' → R m' w' c x → dom x → Calls P f (first ++ #[c] ++ caps) w' (Pure m' w' fun m'' w'' r => S m'' w'' r (p x))
theorem FunR.mono {α β : Type} {R : Rel α} {S : Rel β} {dom : α → Prop} {m w m' w' fv} {p : α → β} (h : FunR P R S dom m w fv p) (he : Ext m w m' w') : FunR P R S dom m' w' fv p := by
  obtain ⟨f, first, caps, fn, h1, h2, h3, h4⟩ := h
  exact ⟨f, first, caps, fn, h1, h2, h3, fun m'' w'' c x he' hr hd => h4 m'' w'' c x (he.trans he') hr hd⟩

/-! ### The call's own slices, told from what was there when it began (B blocks) -/
structure Mine {α : Type} (B : Nat) (T : TypeId) (sz : Nat) (C : CRel α) (m : Nat → Nat) (w : World) (v : Value) (xs : List α) : Prop where
  own : Own T sz C m w v xs
  new : ∀ g, ownB v = some g → B ≤ g
theorem Mine.nil {α : Type} {B T sz : Nat} {C : CRel α} {m w} : Mine B T sz C m w (.slice none 0 0) ([] : List α) := ⟨.nil, fun g h => by simp [ownB] at h⟩
theorem Own.mine {α : Type} {B T sz : Nat} {C : CRel α} {m w v} {xs : List α} (h : Own T sz C m w v xs) (hb : ownB v = some B) : Mine B T sz C m w v xs := ⟨h, fun g hg => by rw [hb] at hg; cases hg; exact Nat.le_refl _⟩
theorem Mine.rs {α : Type} {B T sz : Nat} {C : CRel α} {m w v} {xs : List α} (h : Mine B T sz C m w v xs) : RS sz C m w v xs := h.own.rs
theorem Mine.keep {α : Type} {B T sz : Nat} {C : CRel α} [CMono C] {m w v} {xs : List α} {m' w'} (h : Mine B T sz C m w v xs) (hk : Keep m w m' w') : Mine B T sz C m' w' v xs := ⟨h.own.keep hk, h.new⟩
theorem Mine.touch {α : Type} {B T sz : Nat} {C : CRel α} [CMono C] {m w v} {xs : List α} {X m' w'} (h : Mine B T sz C m w v xs) (ht : Touch X m w m' w') (hX : ownB v = none ∨ ownB v ≠ X) : Mine B T sz C m' w' v xs := ⟨h.own.touch ht hX, h.new⟩
theorem Mine.le {α : Type} {B B' T sz : Nat} {C : CRel α} {m w v} {xs : List α} (h : Mine B T sz C m w v xs) (hB : B' ≤ B) : Mine B' T sz C m w v xs := ⟨h.own, fun g hg => Nat.le_trans hB (h.new g hg)⟩
theorem Keep.touched {m w m1 w1 m2 w2 X} (h : Keep m w m1 w1) (ht : Touch X m1 w1 m2 w2) (hX : ∀ g, X = some g → w.heap.size ≤ g) : Keep m w m2 w2 :=
  ⟨⟨ht.grown.os.trans h.grown.os, ht.grown.tape.trans h.grown.tape, ht.grown.output.trans h.grown.output, Nat.le_trans h.grown.size ht.grown.size,
    fun b hb _ => (ht.grown.block b (Nat.lt_of_lt_of_le hb h.grown.size) (fun e => by have := hX b e.symm; omega)).trans (h.block hb)⟩,
   fun b hb => (ht.lim b (Nat.lt_of_lt_of_le hb h.grown.size) (fun e => by have := hX b e.symm; omega)).trans (h.lim b hb)⟩

theorem op_appm {α : Type} {sz bt : Nat} {zv : Value} {C : CRel α} [CMono C] [COne C] {m m0 : Nat → Nat} {w0 : World} {xs ys : List α} [SliceTy P X Y] [ElemTy P Y sz bt zv]
    (hE : Env N D a ρ) (hx : ev ρ x = some v) (hK : Keep m0 w0 m w) (ho : Mine w0.heap.size Y sz C m w v xs) (hy : ev ρ y = some u) (hr : RS sz C m w u ys) (hd : d < N)
    (hlen : xs.length + ys.length ≤ 9223372036854775807) (hb : (xs.length + ys.length) * bt ≤ 140737488355328)
    (k : ∀ v' m' w', Keep m0 w0 m' w' → Mine w0.heap.size Y sz C m' w' v' (xs ++ ys) → Touch (ownB v) m w m' w' → (ownB v' = ownB v ∨ ∀ g, ownB v' = some g → w.heap.size ≤ g) → (v' = .slice none 0 0 ↔ v = .slice none 0 0 ∧ xs ++ ys = []) → ∀ a', Env N D a' ((d, v') :: ρ) → Kc a' w') :
    OpK P ops Q ⟨some d, .call ⟨.builtin .append, #[x, y], #[X, X]⟩, T, pos, af, none⟩ Kc a w :=
  op_append hE hx ho.own hy hr hd hlen hb fun v' m' w' ⟨t, o, f, hn⟩ => k v' m' w' (hK.touched t ho.new) ⟨o, fun g hg => by
    rcases f with e | f
    · exact ho.new g (e ▸ hg)
    · exact Nat.le_trans hK.grown.size (f g hg)⟩ t f hn

/-- Two slices of the call's own lie apart. -/
def Apart (v u : Value) : Prop := ownB u = none ∨ ownB v ≠ ownB u
theorem Mine.apart {α : Type} {B T sz : Nat} {C : CRel α} [CMono C] {m w v u u'} {xs : List α} {m' w'} (h : Mine B T sz C m w v xs) (hs : Apart v u) (ht : Touch (ownB u) m w m' w') (hob : ownB u' = ownB u ∨ ∀ g, ownB u' = some g → w.heap.size ≤ g) :
    Mine B T sz C m' w' v xs ∧ Apart v u' := by
  refine ⟨h.touch ht ?_, ?_⟩
  · rcases hs with e | e
    · rw [e]
      cases hv : ownB v with
      | none => exact .inl rfl
      | some g => exact .inr (by simp)
    · exact .inr e
  · rcases hob with e | e
    · unfold Apart; rw [e]; exact hs
    · cases hu : ownB u' with
      | none => exact .inl hu
      | some g =>
        refine .inr fun e' => ?_
        have := h.own.lt g (e'.trans hu)
        have := e g hu
        omega

theorem op_lit0 {α : Type} {sz bt : Nat} {zv : Value} {C : CRel α} {m : Nat → Nat} [SliceTy P X Y] [ElemTy P Y sz bt zv] (hE : Env N D a ρ) (hd : d < N)
    (k : ∀ v' m' w', Keep m w m' w' → (∀ B, Mine B Y sz C m' w' v' ([] : List α)) → (∃ p, v' = .slice (some p) 0 0) → ∀ a', Env N D a' ((d, v') :: ρ) → Kc a' w') :
    OpK P ops Q ⟨some d, .buildSlice X 0 #[], T, pos, af, none⟩ Kc a w := by
  obtain ⟨inf, i1, i2, i3, i4, i5, i6⟩ := ElemTy.elem (P := P) (E := Y)
  have hu := SliceTy.slice (P := P) (T := X)
  refine wl_value (v := .slice (some ⟨w.heap.size, 0, none⟩) 0 0) (w' := w.alloc (.cells #[] Y)) rfl ?_
    (k _ _ _ (Keep.alloc m w _ 0) (fun B => ⟨.inr (.inl ⟨_, _, rfl, rfl⟩), fun g h => by simp [ownB] at h⟩) ⟨_, rfl⟩ _ (hE.put _ hd))
  simp [execOp, Instr.buildSlice, run_underlying hu, sizeOf, typeInfo, i1, Instr.fill, newRow]
  rw [show Array.map (fun _ : Nat => (default : Value)) (Array.range 0) = #[] from by apply Array.ext'; simp]

theorem op_eqlnil [SliceTy P X Y] {Y' : Nat} {b : Option Addr} {n c : Nat} (hE : Env N D a ρ) (hx : ev ρ x = some (.slice b n c)) (hy : ev ρ y = some (.slice none 0 0)) (hd : d < N)
    (k : ∀ a', Env N D a' ((d, .bool b.isNone) :: ρ) → Kc a' w) :
    OpK P ops Q ⟨some d, .binOp .eql X x y Y', T, pos, af, none⟩ Kc a w := by
  have hu := SliceTy.slice (P := P) (T := X)
  refine wl_value (v := .bool b.isNone) rfl ?_ (k _ (hE.put _ hd))
  simp [execOp, hE.ev hx, hE.ev hy, eqGuard, Lib.run_eql_slice_nil w X Y b n c 0 0 hu]
theorem op_neqnil [SliceTy P X Y] {Y' : Nat} {b : Option Addr} {n c : Nat} (hE : Env N D a ρ) (hx : ev ρ x = some (.slice b n c)) (hy : ev ρ y = some (.slice none 0 0)) (hd : d < N)
    (k : ∀ a', Env N D a' ((d, .bool (!b.isNone)) :: ρ) → Kc a' w) :
    OpK P ops Q ⟨some d, .binOp .neq X x y Y', T, pos, af, none⟩ Kc a w := by
  have hu := SliceTy.slice (P := P) (T := X)
  refine wl_value (v := .bool (!b.isNone)) rfl ?_ (k _ (hE.put _ hd))
  simp [execOp, hE.ev hx, hE.ev hy, eqGuard, run_neq_slice_nil w X Y b n c hu]
end
end Go.W
