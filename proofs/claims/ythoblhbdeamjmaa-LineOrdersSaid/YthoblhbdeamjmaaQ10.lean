/- Part 10 of what the claim is proved by: lemmas on the model and walks through functions of the program; no conditions. -/
import Derived.Test.YthoblhbdeamjmaaQ9
import Derived.Laws.StructEq
import Derived.ChangeKeysEq
import Derived.Test.YthoblhbdeamjmaaQ8
import Derived.Lib.SliceRun
/- Level 2: arrays of one number, structs of two, held against each other. -/
namespace Go.V
open Go Go.W
section
variable {P : Program} (w : World)
theorem run_part1 {e : Nat} {xs : Array Value} {o : Nat} {v : Value} (h : ∀ w, (isAgg e).run P w = .ok false w) (hx : xs[o]? = some v) : (part e xs o).run P w = .ok v w := by
  simp [part, h, hx]
theorem eqA1 {t e : Nat} {k : IntKind} {i : TypeInfo} (ht : P.underlying t = some (.array 1 e)) (he : P.underlying e = some (.int k)) (hi : P.info? e = some i) (a b : Int) : (Op.equalIn 10000 t (.agg #[.int k a]) (.agg #[.int k b])).run P w = .ok (a == b) w := by
  have hna : ∀ w, (isAgg e).run P w = .ok false w := fun w => by simp [isAgg, run_underlying he]
  rw [show (10000 : Nat) = 9999 + 1 from rfl, run_equalIn_array w 9999 _ _ ht hi]
  have p0 : ∀ a : Int, (part e #[Value.int k a] 0).run P w = .ok (.int k a) w := fun a => run_part1 w hna rfl
  have hi' : ∀ x y : Int, (Op.equalIn 9999 e (.int k x) (.int k y)).run P w = .ok (x == y) w := fun x y => run_equalIn_int w 9998 e k k x y he
  simp only [List.range_succ, List.range_zero, List.nil_append, Op.eqItems, Sem.run_bind, Nat.zero_mul, p0, Result.andThen_ok, hi']
  by_cases h : a = b <;> simp [h]
structure EqS2 (P : Program) (t e : Nat) (k : IntKind) : Prop where
  st : P.underlying t = some (.struct (P.fieldsOf t))
  held : P.stoodInHeld t = false
  fs : (P.fieldsOf t).toList.map (fun f => (f.name == "_", f.type, f.offset)) = [(false, e, 0), (false, e, 1)]
  el : P.underlying e = some (.int k)
  gd : P.eqGuardType P.depth t = false
theorem eqS2 {t e : Nat} {k : IntKind} (h : EqS2 P t e k) (a b c d : Int) : (Op.equalIn 10000 t (.agg #[.int k a, .int k b]) (.agg #[.int k c, .int k d])).run P w = .ok (a == c && b == d) w := by
  have hna : ∀ w, (isAgg e).run P w = .ok false w := fun w => by simp [isAgg, run_underlying h.el]
  rw [show (10000 : Nat) = 9999 + 1 from rfl, run_equalIn_struct w 9999 t _ _ h.st h.held]
  have hf := h.fs
  generalize (P.fieldsOf t).toList = fs at hf
  have hi' : ∀ w, ∀ x y : Int, (Op.equalIn 9999 e (.int k x) (.int k y)).run P w = .ok (x == y) w := fun w x y => run_equalIn_int w 9998 e k k x y h.el
  obtain ⟨f0, f1, rfl⟩ : ∃ f0 f1, fs = [f0, f1] := by
    have hl : fs.length = 2 := by have := congrArg List.length hf; simpa using this
    match fs, hl with
    | [f0, f1], _ => exact ⟨f0, f1, rfl⟩
  simp only [List.map_cons, List.map_nil, List.cons.injEq, Prod.mk.injEq, beq_eq_false_iff_ne, and_true] at hf
  obtain ⟨⟨n0, t0, o0⟩, n1, t1, o1⟩ := hf
  have p0 : ∀ w (a b : Int), (part e #[Value.int k a, .int k b] 0).run P w = .ok (.int k a) w := fun w a b => run_part1 w hna rfl
  have p1 : ∀ w (a b : Int), (part e #[Value.int k a, .int k b] 1).run P w = .ok (.int k b) w := fun w a b => run_part1 w hna rfl
  simp only [Op.eqFields, ne_eq, n0, n1, not_false_eq_true, if_true, Sem.run_bind, t0, t1, o0, o1, p0, Result.andThen_ok, hi']
  by_cases h1 : a = c <;> by_cases h2 : b = d <;> simp [h1, h2, p1, hi']
end
section
variable {C : Cx} {ops : Array Oper} {Q : Qt} {ρ ρ' : Ro} {η η' η2 : Eta} {rest : List Oper} {T d X Y : Nat} {pos : String} {af : Array Edge} {op : Op} {x y z : Operand}
theorem raws_eq {m w γ v} {us : List Value} (h : Rep m w γ v (.st (us.map .raw))) : v = .agg us.toArray := by
  cases h with
  | @st _ vs _ hl h1 hr =>
  congr
  refine List.ext_getElem? fun j => ?_
  cases hv : vs[j]? with
  | none =>
    have : us[j]? = none := by
      rw [List.getElem?_eq_none_iff] at hv ⊢
      simp at hl; omega
    rw [this]
  | some q =>
    have hlt := (List.getElem?_eq_some_iff.1 hv).1
    have hu : us[j]? = some (us[j]'(by simp at hl; omega)) := List.getElem?_eq_getElem _
    rw [hu]
    have := (hr j q (.raw (us[j]'(by simp at hl; omega))) hv (by rw [List.getElem?_map, hu]; rfl)).raw_eq
    rw [this]
/-- Both hold numbers alone. -/
theorem give_eqn {us vs : List Value} {b : Bool} {ng : Bool} (hx : ev2 ρ x = some (.st (us.map .raw))) (hy : ev2 ρ y = some (.st (vs.map .raw))) (h : ∀ w, (Op.equalIn 10000 X (.agg us.toArray) (.agg vs.toArray)).run C.P w = .ok b w) (hg : C.P.eqGuardType C.P.depth X = false) {M} :
    Gives C.P C.N C.D (.binOp (bif ng then .neq else .eql) X x y Y) ρ η (.raw (.bool (bif ng then !b else b))) M := fun m w γ ρc a hE hR hH => by
  obtain ⟨v1, g1, g2⟩ := hR.ev hx
  obtain ⟨v2, g3, g4⟩ := hR.ev hy
  have e1 := raws_eq g2
  have e2 := raws_eq g4
  subst e1 e2
  refine ⟨_, .raw rfl, fun {m' w'} _ _ _ _ _ _ => ?_⟩
  cases ng <;> simp only [cond_true, cond_false] <;> simp [execOp, hE.ev g1, hE.ev g3, run_eqGuard_agg w' _ X x y us.toArray vs.toArray hg, run_eql_struct, run_neq_struct, h]
theorem OL.eqA1 {e : Nat} {k : IntKind} {a b : Int} (kk : OL C ops Q rest ((d, bool (a == b)) :: ρ) η) (hg : C.P.eqGuardType C.P.depth X = false) (hs : (C.tab X).map (·.sh) = some (.array 1 e) := by with_unfolding_all exact rfl) (he : (C.tab e).map (·.sh) = some (.int k) := by with_unfolding_all exact rfl)
    (hx : ev2 ρ x = some (.st [.raw (.int k a)]) := by with_unfolding_all exact rfl) (hy : ev2 ρ y = some (.st [.raw (.int k b)]) := by with_unfolding_all exact rfl) (hd : Nat.blt d C.N = true := by with_unfolding_all exact rfl) :
    OL C ops Q (⟨some d, .binOp .eql X x y Y, T, pos, af, none⟩ :: rest) ρ η := by
  obtain ⟨d1, hu, h1⟩ := shOf C.hT hs
  obtain rfl : d1 = _ := h1
  obtain ⟨d2, hu2, h2⟩ := shOf C.hT he
  obtain rfl : d2 = _ := h2
  cases ht : C.tab e with
  | none => rw [ht] at he; cases he
  | some te =>
    obtain ⟨i, hi, _⟩ := (C.hT e te ht).info
    exact OL.give (give_eqn (ng := false) (us := [.int k a]) (vs := [.int k b]) hx hy (fun w => V.eqA1 w hu hu2 hi a b) hg) hd kk
theorem OL.neA1 {e : Nat} {k : IntKind} {a b : Int} (kk : OL C ops Q rest ((d, bool (!(a == b))) :: ρ) η) (hg : C.P.eqGuardType C.P.depth X = false) (hs : (C.tab X).map (·.sh) = some (.array 1 e) := by with_unfolding_all exact rfl) (he : (C.tab e).map (·.sh) = some (.int k) := by with_unfolding_all exact rfl)
    (hx : ev2 ρ x = some (.st [.raw (.int k a)]) := by with_unfolding_all exact rfl) (hy : ev2 ρ y = some (.st [.raw (.int k b)]) := by with_unfolding_all exact rfl) (hd : Nat.blt d C.N = true := by with_unfolding_all exact rfl) :
    OL C ops Q (⟨some d, .binOp .neq X x y Y, T, pos, af, none⟩ :: rest) ρ η := by
  obtain ⟨d1, hu, h1⟩ := shOf C.hT hs
  obtain rfl : d1 = _ := h1
  obtain ⟨d2, hu2, h2⟩ := shOf C.hT he
  obtain rfl : d2 = _ := h2
  cases ht : C.tab e with
  | none => rw [ht] at he; cases he
  | some te =>
    obtain ⟨i, hi, _⟩ := (C.hT e te ht).info
    exact OL.give (give_eqn (ng := true) (us := [.int k a]) (vs := [.int k b]) hx hy (fun w => V.eqA1 w hu hu2 hi a b) hg) hd kk
theorem OL.eqS2 {P : Program} {e : Nat} {k : IntKind} {a b a' b' : Int} (h : EqS2 P X e k) (kk : OL C ops Q rest ((d, bool (a == a' && b == b')) :: ρ) η) (hP : C.P = P := by with_unfolding_all exact rfl)
    (hx : ev2 ρ x = some (.st [.raw (.int k a), .raw (.int k b)]) := by with_unfolding_all exact rfl) (hy : ev2 ρ y = some (.st [.raw (.int k a'), .raw (.int k b')]) := by with_unfolding_all exact rfl) (hd : Nat.blt d C.N = true := by with_unfolding_all exact rfl) :
    OL C ops Q (⟨some d, .binOp .eql X x y Y, T, pos, af, none⟩ :: rest) ρ η := by
  subst hP
  exact OL.give (give_eqn (ng := false) (us := [.int k a, .int k b]) (vs := [.int k a', .int k b']) hx hy (fun w => V.eqS2 w h a b a' b') h.gd) hd kk
end
end Go.V
/- Level 2: arrays of bools in a variable, at places that the walk knows by a number. -/
namespace Go.V
open Go Go.W
section
variable {C : Cx} {ops : Array Oper} {Q : Qt} {ρ : Ro} {η η2 : Eta} {rest : List Oper} {T d X : Nat} {pos : String} {af : Array Edge} {x y : Operand}
end
/-! ### An operation whose guard's own operation was not run -/
def GU (ops : Array Oper) (ρ : Ro) (g : Option (Nat × Bool)) : Prop := ∃ j b oj dj, g = some (j, b) ∧ ops[j]? = some oj ∧ oj.dst = some dj ∧ lk ρ dj = some (.tp [])
theorem GU.wanted {ops : Array Oper} {m w γ ρc ρ a N D} {o : Oper} (hE : Env N D a ρc) (hR : RL m w γ ρc ρ) (h : GU ops ρ o.guard) : Region.wanted o (yielded ops a.tmps) = false := by
  obtain ⟨j, b, oj, dj, hg, h1, h2, h3⟩ := h
  obtain ⟨v, g1, g2⟩ := hR.look h3
  cases g2 with
  | @tp _ vs _ hl hr =>
    obtain rfl : vs = [] := List.length_eq_zero_iff.1 hl
    simp [Region.wanted, hg, yielded, h1, h2, hE.look _ _ g1]
section
variable {C : Cx} {M : Bool} {fi fuel : Nat} {l : List Oper} {Q : Qt} {listed : Array Bool} {ρ : Ro} {η : Eta} {d T : Nat} {pos : String} {af : Array Edge} {op : Op} {g : Option (Nat × Bool)}
end
end Go.V
/- Level 2: a slice read for good, told by less, element by element. -/
namespace Go.V
open Go Go.W
theorem LEs.get {τ : Nat → Option Nat} : ∀ {us as : List AV}, LEs τ us as → us.length = as.length ∧ ∀ (j : Nat) x y, us[j]? = some x → as[j]? = some y → LE τ x y
  | [], [], _ => ⟨rfl, by simp⟩
  | u :: us, a :: as, h => by
    obtain ⟨h1, h2⟩ := LEs.get (us := us) (as := as) h.2
    refine ⟨by simp [h1], fun j x y hx hy => ?_⟩
    cases j with
    | zero => simp at hx hy; subst hx hy; exact h.1
    | succ j => exact h2 j x y (by simpa using hx) (by simpa using hy)
  | [], _ :: _, h => h.elim
  | _ :: _, [], h => h.elim
theorem cells_nst {x : AV} (h : isSt x = false) : x.cells = [x] := by cases x <;> first | rfl | simp [isSt] at h
theorem LE.sls {τ nl} {xs ys : List AV} (h : LEs (ts []) xs ys) (hx : xs.all (fun x => !isSt x) = true) (hy : ys.all (fun x => !isSt x) = true) : LE τ (.sl 1 nl xs) (.sl 1 none ys) := by
  intro m w γ γ' hs v hr
  obtain ⟨hl, hle⟩ := h.get
  have cx : ∀ (i : Nat) x, xs[i]? = some x → x.cells = [x] := fun i x hi => cells_nst (by have := List.all_eq_true.1 hx x (List.mem_of_getElem? hi); simpa using this)
  have cy : ∀ (i : Nat) y, ys[i]? = some y → y.cells = [y] := fun i y hi => cells_nst (by have := List.all_eq_true.1 hy y (List.mem_of_getElem? hi); simpa using this)
  cases hr with
  | nil h =>
    have : ys = [] := List.eq_nil_of_length_eq_zero (by simpa using hl.symm)
    subst this; exact .nil nofun
  | sl0 h =>
    have : ys = [] := List.eq_nil_of_length_eq_zero (by simpa using hl.symm)
    subst this; exact .sl0 nofun
  | sl cv hn h1 h2 hc hr =>
    rw [hl]
    have hxi : ∀ (i : Nat) y, ys[i]? = some y → ∃ x, xs[i]? = some x := fun i y hi => by
      have hlt := (List.getElem?_eq_some_iff.1 hi).1
      exact ⟨_, List.getElem?_eq_getElem (by omega)⟩
    refine .sl cv nofun (by omega) h2 (fun i y hi => ?_) (fun i y j c z hi hc1 hz => ?_)
    · obtain ⟨x, hx'⟩ := hxi i y hi
      obtain ⟨a, b, c, d⟩ := hc i x hx'
      exact ⟨a, by rw [cy i y hi]; rfl, c, d⟩
    · obtain ⟨x, hx'⟩ := hxi i y hi
      rw [cy i y hi] at hz
      have hj : j = 0 := by have := (List.getElem?_eq_some_iff.1 hz).1; simp at this; omega
      subst hj
      simp at hz
      subst hz
      exact hle i x _ hx' hi m w [] [] (fun i j h => by cases h) c (hr i x 0 c x hx' hc1 (by rw [cx i x hx']; rfl))
section
variable {C : Cx} {ops : Array Oper} {Q : Qt} {ρ : Ro} {η : Eta} {rest : List Oper} {A : Code} {e : Exit} {x y : AV}
theorem OL.kn (t : Nat) (h : LE (ts []) x y) (k : OL C ops Q rest ((t, y) :: ρ) η) (hx : lk ρ t = some x := by with_unfolding_all exact rfl) : OL C ops Q rest ρ η :=
  fun a w hA => k a w (hA.know hx fun m w γ v hr => h m w γ γ (fun i j h => by cases h) v hr)
theorem TX.kn (t : Nat) (h : LE (ts []) x y) (k : TX C Q e ((t, y) :: ρ) η) (hx : lk ρ t = some x := by with_unfolding_all exact rfl) : TX C Q e ρ η :=
  fun a w hA => k a w (hA.know hx fun m w γ v hr => h m w γ γ (fun i j h => by cases h) v hr)
end
end Go.V
/- Level 2: a range over a function: what an iterator promises, and the statement's law. -/
namespace Go.V
open Go Go.W Go.RowKit
def isLD : Obj → Bool
  | .loop _ => true
  | .deferred _ => true
  | _ => false
/-- A step that leaves all that was, but for a record of a loop over a function from block B0 on. -/
def StepOK (B0 : Nat) (m : Nat → Nat) (w : World) (m' : Nat → Nat) (w' : World) : Prop :=
  ∃ row, w.grownBy w' row ∧ (∀ r, row = some r → B0 ≤ r ∧ ∃ o, w.heap[r]? = some o ∧ isLD o = true) ∧ ∀ b, b < w.heap.size → m' b = m b
def Stays {β : Type} (B0 : Nat) (J : β → (Nat → Nat) → World → Prop) : Prop := ∀ s m w m' w', J s m w → StepOK B0 m w m' w' → J s m' w'
theorem Stays.le {β : Type} {B0 B1 : Nat} {J : β → (Nat → Nat) → World → Prop} (h : Stays B0 J) (hb : B0 ≤ B1) : Stays B1 J := fun s m w m' w' hj ⟨row, h1, h2, h3⟩ =>
  h s m w m' w' hj ⟨row, h1, fun r e => ⟨Nat.le_trans hb (h2 r e).1, (h2 r e).2⟩, h3⟩
theorem StepOK.keep {B0 m w m' w'} (h : Keep m w m' w') : StepOK B0 m w m' w' := ⟨none, h.grown, nofun, h.lim⟩
theorem StepOK.put {B0 m} {w : World} {l : Nat} {o o' : Obj} (hl : w.heap[l]? = some o) (ho : isLD o = true) (hB : B0 ≤ l) : StepOK B0 m w m (w.putObj l o') :=
  ⟨some l, grownBy_putObj' w l o', fun r e => by cases e; exact ⟨hB, o, hl, ho⟩, fun _ _ => rfl⟩
theorem LD_cell {w : World} {b i c} (h : w.cell? ⟨b, i, none⟩ = some c) {o : Obj} (ho : w.heap[b]? = some o) : isLD o = false := by
  unfold World.cell? at h
  rw [ho] at h
  cases o <;> simp_all [isLD]
theorem StepOK.ext {B0 m w m' w'} (h : StepOK B0 m w m' w') : Ext m w m' w' := by
  obtain ⟨row, hg, hr, hm⟩ := h
  refine ⟨hg.size, fun b hb => by rw [hm b hb]; exact Nat.le_refl _, fun b i c _ hc => ?_⟩
  have hlt := lt_of_cell hc
  have hne : some b ≠ row := fun e => by
    obtain ⟨_, o, ho, hl⟩ := hr b e.symm
    rw [LD_cell hc ho] at hl; cases hl
  rw [World.cell?_of_block (w := w) (hg.block b hlt hne)]; exact hc
/-- The records of loops lie as they lay, but for some. -/
def KeepL (E : Nat → Prop) (w w' : World) : Prop := ∀ b o, ¬ E b → w.heap[b]? = some o → isLD o = true → w'.heap[b]? = some o
theorem KeepL.refl (E w) : KeepL E w w := fun _ _ _ h _ => h
theorem KeepL.trans {E a b c} (h : KeepL E a b) (k : KeepL E b c) : KeepL E a c := fun x o he ho hl => k x o he (h x o he ho hl) hl
theorem KeepL.mono {E E' : Nat → Prop} {a b} (h : KeepL E a b) (he : ∀ x, E x → E' x) : KeepL E' a b := fun x o hx ho hl => h x o (fun e => hx (he x e)) ho hl
theorem KeepL.keep {E m w m' w'} (h : Keep m w m' w') : KeepL E w w' := fun b o _ ho _ => by rw [h.block (Array.getElem?_eq_some_iff.1 ho).1]; exact ho
theorem KeepL.put {E : Nat → Prop} {w : World} {l : Nat} {o' : Obj} (h : E l) : KeepL E w (w.putObj l o') := fun b o hb ho _ => (World.putObj_heap_other (fun e => hb (by rw [e]; exact h))).trans ho

/-- A call of yield: what is read for good stays; where it goes on, so do all records. -/
def YieldV (P : Program) (l : Nat) (E : Nat → Prop) (vs : List Value) (m : Nat → Nat) (W : World) (K1 K0 : (Nat → Nat) → World → Prop) : Prop :=
  YieldAt Fence.wide 0 P l vs.toArray W fun e W' => ∃ m', Ext m W m' W' ∧ ((e = .returned (.bool true) ∧ KeepL (fun _ => False) W W' ∧ K1 m' W') ∨ (e = .returned (.bool false) ∧ KeepL E W W' ∧ K0 m' W'))
/-- An iterator gives the elements of L, one after the other, to whatever round. -/
def SeqV (P : Program) (gf : Nat) (lb : Array Value) {α : Type} (as : α → List AV) (L : List α) (m0 : Nat → Nat) (w0 : World) : Prop :=
  ∀ (l : Nat) (E : Nat → Prop) (J Jx : List α → (Nat → Nat) → World → Prop) (m : Nat → Nat) (W : World), Ext m0 w0 m W → E l → (∀ b, E b → b < W.heap.size) → Stays W.heap.size J → Stays W.heap.size Jx →
    (∀ pre x m1 W1 vs, J pre m1 W1 → (∃ r, pre ++ x :: r = L) → VL m1 W1 [] vs (as x) → YieldV P l E vs m1 W1 (J (pre ++ [x])) (Jx (pre ++ [x]))) →
    J [] m W →
    Calls P gf (#[.func (.yield l) #[] #[]] ++ lb) W fun e W' => ∃ v m', e = .returned v ∧ Ext m W m' W' ∧ (J L m' W' ∨ ∃ pre, Jx pre m' W')
theorem SeqV.later {P : Program} {gf : Nat} {lb : Array Value} {α : Type} {as : α → List AV} {L : List α} {m0 w0 m w} (h : SeqV P gf lb as L m0 w0) (he : Ext m0 w0 m w) : SeqV P gf lb as L m w :=
  fun l E J Jx m1 W h1 => h l E J Jx m1 W (he.trans h1)
def SeqMP (P : Program) {α : Type} (as : α → List AV) (L : List α) : MP where
  R m w v := ∃ gf lb fn, v = .func (.func gf) #[] lb ∧ P.funcs[gf]? = some fn ∧ (fn.body.isNone || fn.name == "runtime.NumGoroutine") = false ∧ SeqV P gf lb as L m w
  mono := fun he ⟨gf, lb, fn, h1, h2, h3, h4⟩ => ⟨gf, lb, fn, h1, h2, h3, h4.later he⟩
  one := fun ⟨gf, lb, fn, h1, _⟩ => by subst h1; rfl

/-! ## The statement -/
def bodyQ {α : Type} (E : Nat → Prop) (I Ix : List α → (Nat → Nat) → World → Prop) (xs : List α) (m : Nat → Nat) (W : World) : Exit → Act → World → Prop
  | .normal, _, W' => ∃ m', Ext m W m' W' ∧ KeepL (fun _ => False) W W' ∧ I xs m' W'
  | .ret, _, W' => ∃ m', Ext m W m' W' ∧ KeepL E W W' ∧ Ix xs m' W'
  | _, _, _ => False
abbrev markD (D : Nat) : Deferred := { target := .collected D, args := #[] }
set_option maxHeartbeats 1000000 in
theorem rangeV {P : Program} {α : Type} {as : α → List AV} {L : List α} {g : Operand} {t d T rid k : Nat} {pos : String} {af : Array Edge} {body : Code} {Q : Exit → Act → World → Prop} {a : Act} {w : World} {m : Nat → Nat} {gf : Nat} {lb : Array Value} {fn : Func}
    (hg : a.eval g = .func (.func gf) #[] lb) (hf : P.funcs[gf]? = some fn) (hb : (fn.body.isNone || fn.name == "runtime.NumGoroutine") = false) (hseq : SeqV P gf lb as L m w)
    (E0 : Nat → Prop) (hE0 : ∀ b, E0 b → b < w.heap.size) (I Ix : List α → (Nat → Nat) → World → Prop) (hI : Stays w.heap.size I) (hIx : Stays w.heap.size Ix) (h0 : I [] m w)
    (has : ∀ x, (as x).length = 1)
    (hround : ∀ l pre x m1 W1 v, w.heap.size ≤ l → I pre m1 W1 → (∃ r, pre ++ x :: r = L) → VL m1 W1 [] [v] (as x) → Ext m w m1 W1 →
      body.wpIn (WF (some l)) 0 P (bodyQ E0 I Ix (pre ++ [x]) m1 W1) (({ tmps := a.tmps.setIfInBounds t v, defers := [] } : Act).put (some d) (({ tmps := a.tmps.setIfInBounds t v, defers := [] } : Act).eval (.tmp t))) W1)
    (hdone : ∀ m' W', Ext m w m' W' → I L m' W' → W'.heap[w.heap.size]? = some (.deferred (some [])) → Q .normal { a with defers := markD w.heap.size :: a.defers } W')
    (hstop : ∀ pre m' W', Ext m w m' W' → Ix pre m' W' → W'.heap[w.heap.size]? = some (.deferred (some [])) → Q .ret { a with defers := markD w.heap.size :: a.defers } W') :
    (Code.rangeFunc g #[t] (.region rid #[⟨some d, .assign (.tmp t), T, pos, af, none⟩] false) body).wpIn Fence.wide k P Q a w := by
  have hb' := hb
  simp at hb'
  have hbn : fn.body ≠ none := Option.isSome_iff_ne_none.1 hb'.1
  have eg : ∀ args w, (callFunc gf args).run P w = .ok (.enter gf args) w := fun args w => by simp [callFunc, hf, hb'.2, hbn]
  refine wpIn_rangeFunc ?_
  intro fn' hfn'
  have hround' : (Fence.wide).round = none := rfl
  rw [hround']
  obtain ⟨rec, hrec⟩ : ∃ rec : LoopState → Option Code → Loop, rec = fun st pe => { state := st, pending := pe, fn := fn', tmps := a.tmps, params := #[t], assign := (.region rid #[⟨some d, .assign (.tmp t), T, pos, af, none⟩] false), body, defers := w.heap.size } := ⟨_, rfl⟩
  obtain ⟨W1, hW1⟩ : ∃ W1, (w.alloc (.deferred (some []))).alloc (.loop (rec .ready none)) = W1 := ⟨_, rfl⟩
  have hL1 : W1.heap[w.heap.size + 1]? = some (.loop (rec .ready none)) := by
    rw [← hW1]; have := World.alloc_heap_new (w.alloc (.deferred (some []))) (.loop (rec .ready none)); rwa [World.size_alloc] at this
  have hK1 : W1.heap[w.heap.size]? = some (.deferred (some [])) := by
    rw [← hW1]; exact (Below.heap_alloc _ _ _ (by simp)).trans (World.alloc_heap_new w _)
  have hz1 : W1.heap.size = w.heap.size + 2 := by rw [← hW1]; simp
  have hkp : Keep m w m W1 := by
    rw [← hW1]
    exact ⟨⟨rfl, rfl, rfl, by simp; omega, fun b hb _ => ((World.grownBy_alloc _ _ none).block b (by simp; omega) (by simp)).trans ((World.grownBy_alloc w _ none).block b hb (by simp))⟩, fun _ _ => rfl⟩
  obtain ⟨mS, hmS⟩ : ∃ mS, mS = m := ⟨_, rfl⟩
  have hI1 : I [] m W1 := hI _ _ _ _ _ h0 (.keep hkp)
  refine ⟨w.heap.size + 1, [markD w.heap.size], W1, { target := .fn (.func gf) lb, args := #[.func (.yield (w.heap.size + 1)) #[] #[]] }, W1, gf,
    #[.func (.yield (w.heap.size + 1)) #[] #[]] ++ lb, W1, ?_, ?_, ?_, ?_, fun h => (by cases h), callsIn_wide.2 ?_⟩
  · rw [← hW1, hrec]; exact run_enterLoop_outer _ _ _ _ _
  · simp only [resolve, hg]
    simp [go_sem]
  · intro f' hf'; trivial
  · simp [invoke, go_sem, eg]
  · refine (hseq (w.heap.size + 1) (fun b => E0 b ∨ b = w.heap.size + 1)
      (fun pre m W => I pre m W ∧ Ext mS w m W ∧ W.heap[w.heap.size + 1]? = some (.loop (rec .ready none)) ∧ W.heap[w.heap.size]? = some (.deferred (some [])))
      (fun pre m W => Ix pre m W ∧ Ext mS w m W ∧ W.heap[w.heap.size + 1]? = some (.loop (rec .done (some .ret))) ∧ W.heap[w.heap.size]? = some (.deferred (some [])))
      m W1 hkp.ext (.inr rfl) (fun b hb => hb.elim (fun h => by have := hE0 b h; omega) (fun h => by omega)) ?_ ?_ ?_ ⟨hI1, hmS ▸ hkp.ext, hL1, hK1⟩).mono ?_
    · rintro pre m1 W m2 W' ⟨h1, h2, h3, h4⟩ hs
      refine ⟨(hI.le (by omega)) _ _ _ _ _ h1 hs, h2.trans hs.ext, ?_, ?_⟩
      all_goals
        obtain ⟨row, hgr, hr, _⟩ := hs
        first
        | exact (hgr.block _ (Array.getElem?_eq_some_iff.1 h3).1 (fun e => by have := (hr _ e.symm).1; omega)).trans h3
        | exact (hgr.block _ (Array.getElem?_eq_some_iff.1 h4).1 (fun e => by have := (hr _ e.symm).1; omega)).trans h4
    · rintro pre m1 W m2 W' ⟨h1, h2, h3, h4⟩ hs
      refine ⟨(hIx.le (by omega)) _ _ _ _ _ h1 hs, h2.trans hs.ext, ?_, ?_⟩
      all_goals
        obtain ⟨row, hgr, hr, _⟩ := hs
        first
        | exact (hgr.block _ (Array.getElem?_eq_some_iff.1 h3).1 (fun e => by have := (hr _ e.symm).1; omega)).trans h3
        | exact (hgr.block _ (Array.getElem?_eq_some_iff.1 h4).1 (fun e => by have := (hr _ e.symm).1; omega)).trans h4
    · -- one round
      rintro pre x m1 W vs ⟨hi, he, hl, hk⟩ hpre hv
      have hlt : w.heap.size + 1 < W.heap.size := (Array.getElem?_eq_some_iff.1 hl).1
      obtain ⟨v, rfl⟩ : ∃ v, vs = [v] := by
        have := hv.len
        rw [has] at this
        match vs, this with
        | [v], _ => exact ⟨v, rfl⟩
      have hy := run_yield (P := P) (args := #[v]) hl (by rw [hrec]; rfl)
      rw [hrec] at hy
      dsimp only at hy
      have ez : Array.foldl (fun (tmps : Array Value) (x : Tmp × Value) => match x with | (t, a) => tmps.setIfInBounds t a) a.tmps ((#[t] : Array Tmp).zip #[v]) = a.tmps.setIfInBounds t v := by simp
      rw [ez] at hy
      refine ⟨fn', _, _, body, hy, roundIn_of_wpIn hfn' ?_⟩
      refine wpIn_region_lit (l := [⟨some d, .assign (.tmp t), T, pos, af, none⟩]) ?_
      refine Go.W.i_lcons (r := some (w.heap.size + 1)) (Go.W.wl_value (v := _) (w' := W) rfl (by simp [execOp]; rfl) ?_)
      refine ⟨_, run_beginRound hl (by rw [hrec]), ?_⟩
      have hl2 : (W.putObj (w.heap.size + 1) (.loop { rec .ready none with state := .busy })).heap[w.heap.size + 1]? = some (.loop { rec .ready none with state := .busy }) := World.putObj_heap_same hlt
      have hk2 : (W.putObj (w.heap.size + 1) (.loop { rec .ready none with state := .busy })).heap[w.heap.size]? = some (.deferred (some [])) := (World.putObj_heap_other (by omega)).trans hk
      have hs2 : StepOK w.heap.size m1 W m1 (W.putObj (w.heap.size + 1) (.loop { rec .ready none with state := .busy })) := .put hl rfl (by omega)
      have hkl2 : ∀ b o, b ≠ w.heap.size + 1 → W.heap[b]? = some o → (W.putObj (w.heap.size + 1) (.loop { rec .ready none with state := .busy })).heap[b]? = some o := fun b o hb ho => (World.putObj_heap_other hb).trans ho
      generalize hW2 : W.putObj (w.heap.size + 1) (.loop { rec .ready none with state := .busy }) = W2 at *
      have hv2 : VL m1 W2 [] [v] (as x) := hv.mono hs2.ext (.refl _)
      refine wpIn_mono (hround (w.heap.size + 1) pre x m1 W2 v (by omega) (hI _ _ _ _ _ hi hs2) hpre hv2 (hmS ▸ he.trans hs2.ext)) ?_
      rintro e a3 W3 hp
      cases e with
      | normal =>
        obtain ⟨m3, he3, hkl3, hi3⟩ := hp
        have hl3 := hkl3 _ _ (fun h => h) hl2 rfl
        have hk3 := hkl3 _ _ (fun h => h) hk2 rfl
        have hr : (Instr.endRound (w.heap.size + 1) none).run P W3 = .ok (.bool true) (W3.putObj (w.heap.size + 1) (.loop (rec .ready none))) := by
          have := run_endRound (P := P) none hl3
          rw [hrec] at this ⊢
          exact this
        have hs3 : StepOK w.heap.size m3 W3 m3 (W3.putObj (w.heap.size + 1) (.loop (rec .ready none))) := .put hl3 rfl (by omega)
        refine ⟨_, _, hr, m3, ?_, .inl ⟨rfl, ?_, hI _ _ _ _ _ hi3 hs3, (he.trans hs2.ext).trans (he3.trans hs3.ext), World.putObj_heap_same (Array.getElem?_eq_some_iff.1 hl3).1, (World.putObj_heap_other (by omega)).trans hk3⟩⟩
        · exact hs2.ext.trans (he3.trans hs3.ext)
        · intro b o _ ho hld
          by_cases hb : b = w.heap.size + 1
          · subst hb
            rw [hl] at ho
            cases ho
            exact World.putObj_heap_same (Array.getElem?_eq_some_iff.1 hl3).1
          · exact (World.putObj_heap_other hb).trans (hkl3 _ _ (fun h => h) (hkl2 b o hb ho) hld)
      | ret =>
        obtain ⟨m3, he3, hkl3, hi3⟩ := hp
        have hl3 := hkl3 _ _ (fun h => by have := hE0 _ h; omega) hl2 rfl
        have hk3 := hkl3 _ _ (fun h => by have := hE0 _ h; omega) hk2 rfl
        have hr : (Instr.endRound (w.heap.size + 1) (some .ret)).run P W3 = .ok (.bool false) (W3.putObj (w.heap.size + 1) (.loop (rec .done (some .ret)))) := by
          have := run_endRound (P := P) (some .ret) hl3
          rw [hrec] at this ⊢
          exact this
        have hs3 : StepOK w.heap.size m3 W3 m3 (W3.putObj (w.heap.size + 1) (.loop (rec .done (some .ret)))) := .put hl3 rfl (by omega)
        refine ⟨_, _, hr, m3, ?_, .inr ⟨rfl, ?_, hIx _ _ _ _ _ hi3 hs3, (he.trans hs2.ext).trans (he3.trans hs3.ext), World.putObj_heap_same (Array.getElem?_eq_some_iff.1 hl3).1, (World.putObj_heap_other (by omega)).trans hk3⟩⟩
        · exact hs2.ext.trans (he3.trans hs3.ext)
        · intro b o hb ho hld
          have hb1 : ¬ E0 b := fun h => hb (.inl h)
          have hb2 : b ≠ w.heap.size + 1 := fun h => hb (.inr h)
          exact (World.putObj_heap_other hb2).trans (hkl3 _ _ hb1 (hkl2 b o hb2 ho) hld)
      | _ => exact hp.elim
    · -- behind the iterator
      rintro e W2 ⟨v, m2, rfl, he2, (⟨hi, he, hl, hk⟩ | ⟨pre, hi, he, hl, hk⟩)⟩
      · have hr := run_endLoop (P := P) hl (by rw [hrec]; simp)
        have hs3 : StepOK w.heap.size m2 W2 m2 (W2.putObj (w.heap.size + 1) (.loop { rec .ready none with state := .exhausted })) := .put hl rfl (by omega)
        refine ⟨none, _, by rw [hrec] at hr ⊢; exact hr, hdone m2 _ (hmS ▸ he.trans hs3.ext) (hI _ _ _ _ _ hi hs3) ((World.putObj_heap_other (by omega)).trans hk)⟩
      · have hr := run_endLoop (P := P) hl (by rw [hrec]; simp)
        have hs3 : StepOK w.heap.size m2 W2 m2 (W2.putObj (w.heap.size + 1) (.loop { rec .done (some .ret) with state := .exhausted })) := .put hl rfl (by omega)
        refine ⟨some .ret, _, by rw [hrec] at hr ⊢; exact hr, wpIn_ret (hstop pre m2 _ (hmS ▸ he.trans hs3.ext) (hIx _ _ _ _ _ hi hs3) ((World.putObj_heap_other (by omega)).trans hk))⟩
end Go.V
/- Level 2: a range over a function, in a walk. -/
namespace Go.V
open Go Go.W Go.RowKit
theorem ObjOK.notLD {m w γ v o b} (h : ObjOK m w γ v o) (hb : blk o v = some b) {ob : Obj} (ho : w.heap[b]? = some ob) : isLD ob = false := by
  cases o with
  | cb T cs =>
    obtain ⟨b', vs, rfl, hB, hC⟩ := h
    cases hb
    rw [hB.heap] at ho; cases ho; rfl
  | gs fz T sz nl xs =>
    obtain ⟨h1, h2⟩ := h
    have key : ∀ {C : CRel AV} {m}, W.Own T sz C m w v xs → isLD ob = false := by
      intro C m h
      rcases h with ⟨rfl, _⟩ | ⟨_, _, rfl, _⟩ | ⟨g, cap, cur, rfl, h0, hg, _⟩
      · cases hb
      · cases hb
      · obtain ⟨c, rfl⟩ : ∃ c, cap = c + 1 := ⟨cap - 1, by omega⟩
        cases hb
        rw [hg] at ho; cases ho; rfl
    cases fz with
    | true => exact key h1
    | false => obtain ⟨m1, h1, _⟩ := h1; exact key h1
  | mo es =>
    obtain ⟨b', l, rfl, h0, hM, _⟩ := h
    cases hb
    obtain ⟨es', clock, hM1, hM2⟩ := hM
    rw [hM1] at ho; cases ho; rfl
  | gw T sz nl xs =>
    obtain ⟨⟨m1, h, _⟩, h2⟩ := h
    rcases h with ⟨rfl, _⟩ | ⟨_, _, rfl, _⟩ | ⟨g, cap, cur, rfl, h0, hg, _⟩
    · cases hb
    · cases hb
    · obtain ⟨c, rfl⟩ : ∃ c, cap = c + 1 := ⟨cap - 1, by omega⟩
      cases hb
      rw [hg] at ho; cases ho; rfl
  | dead => cases hb
theorem StepOK.far {B0 m w m' w'} (h : StepOK B0 m w m' w') : ∃ S : List Nat, Far S m w m' w' ∧ ∀ b ∈ S, B0 ≤ b ∧ ∃ o, w.heap[b]? = some o ∧ isLD o = true := by
  have he := h.ext
  obtain ⟨row, hg, hr, hm⟩ := h
  refine ⟨row.toList, ⟨hg.os, hg.tape, hg.output, hg.size, fun b hb hn => hg.block b hb (fun e => hn (by rw [← e]; simp)), fun b hb _ => hm b hb, he⟩, fun b hb => hr b (by simpa using hb)⟩
theorem In.step {B m w γ η m' w'} (h : In B m w γ η) (hs : StepOK B.w.heap.size m w m' w') : In B m' w' γ η := by
  obtain ⟨S, hf, hS⟩ := hs.far
  have hoff : ∀ (i : Nat) v o, γ[i]? = some v → η[i]? = some o → ∀ b, blk o v = some b → b ∉ S := fun i v o hv ho b hb hm => by
    obtain ⟨_, ob, h1, h2⟩ := hS b hm
    rw [(h.heap.ok i v o hv ho).notLD hb h1] at h2; cases h2
  exact ⟨⟨h.heap.len, fun i v o a b => (h.heap.ok i v o a b).far hf (hoff i v o a b) (.refl _), h.heap.apart⟩, h.far.trans hf (fun b hb => .inr (hS b hb).1), h.own, h.pre⟩
/-- What was done since a later time, told since an earlier one. -/
theorem In.comp {B B' m w γ η} (h : In B' m w γ η) (hf : Far B.S B.m B.w B'.m B'.w) (ho : ∀ b ∈ B'.S, b ∈ B.S ∨ B.w.heap.size ≤ b) (hp : Pre B.γ B'.γ) : In B m w γ η :=
  ⟨h.heap, hf.trans h.far ho, fun i v o b hv hq hb => (h.own i v o b hv hq hb).elim (fun e => ho b e) (fun e => .inr (Nat.le_trans hf.size e)), hp.trans h.pre⟩
theorem In.rebase {B m w γ η} (h : In B m w γ η) {γ0 : List Value} (hp : Pre γ0 γ) : In ⟨m, w, blks γ η, γ0⟩ m w γ η :=
  ⟨h.heap, .refl _ _ _, fun i v o _b h1 h2 h3 => .inl (mem_blks.2 ⟨i, v, o, h1, h2, h3⟩), hp⟩
theorem blks_own {B m w γ η} (h : In B m w γ η) : ∀ b ∈ blks γ η, b ∈ B.S ∨ B.w.heap.size ≤ b := fun b hb => by
  obtain ⟨i, v, o, h1, h2, h3⟩ := mem_blks.1 hb
  exact h.own i v o b h1 h2 h3
theorem blks_notLD {B m w γ η} (h : In B m w γ η) : ∀ b ∈ blks γ η, ∀ ob, w.heap[b]? = some ob → isLD ob = false := fun b hb ob ho => by
  obtain ⟨i, v, o, h1, h2, h3⟩ := mem_blks.1 hb
  exact (h.heap.ok i v o h1 h2).notLD h3 ho
/-- The mark of a loop over a function that the activation holds. -/
structure Marked (B B' : Base) (D : Nat) : Prop where
  far : Far B.S B.m B.w B'.m B'.w
  own : ∀ b ∈ B'.S, b ∈ B.S ∨ B.w.heap.size ≤ b
  pre : Pre B.γ B'.γ
  mark : B'.w.heap[D]? = some (.deferred (some []))
  off : D ∉ B'.S
  le : B.w.heap.size ≤ D
def RQ (C : Cx) (η' : Eta) : Qt
  | .normal, a, w => A2 C.N C.D C.B a w [] η'
  | _, _, _ => False
section
variable {C : Cx} {Q : Qt} {ρ ρ' : Ro} {η η' : Eta}
theorem TX.rq (σ : List Nat) (ho : SubO (ts σ) η σ η') (hn : nodB σ = true := by with_unfolding_all exact rfl) (hp : preB C.n 0 σ = true := by with_unfolding_all exact rfl) : TX C (RQ C η') .normal ρ η := fun _ _ hA => hA.sel C.hn hn hp ho trivial
theorem Env.setT {N D a ρ t} {v : Value} (h : Env N D a ρ) (ht : t < N) : Env N [] { tmps := a.tmps.setIfInBounds t v, defers := [] } ((t, v) :: ρ) := by
  have h0 : Env N [] { tmps := a.tmps, defers := [] } ρ := ⟨h.size, rfl, h.look⟩
  have := h0.put v ht
  simpa [Act.put] using this
set_option maxHeartbeats 1000000 in
theorem TC.rfV {P : Program} {α : Type} {as : α → List AV} {L : List α} {g : Operand} {t d T rid : Nat} {pos : String} {af : Array Edge} {body : Code} (u : α → AV) (ρ0 : Ro) (ηs : List α → Eta) (n0 : Nat) (σ : List Nat)
    (hx : ev2 ρ g = some (.pr (SeqMP P as L))) (hP : C.P = P) (hr : C.r = none) (has : ∀ x, as x = [u x]) (hn : nodB σ = true) (hp : preB C.n 0 σ = true) (ho : SubO (ts σ) η σ (ηs [])) (hρ : SubR (ts σ) ρ ρ0) (hself : SubR (ts (List.range n0)) ρ0 ρ0)
    (hnn : C.n ≤ n0) (hn0 : n0 ≤ (ηs []).length) (ht : Nat.blt t C.N = true) (hd : Nat.blt d C.N = true)
    (hround : ∀ pre x (Bx : Base) (hB : Bx.γ.length = n0) l, (∃ r, pre ++ x :: r = L) → TC ⟨C.P, C.tab, C.hT, C.hm, C.N, [], Bx, n0, hB, some (some l), 0⟩ (RQ ⟨C.P, C.tab, C.hT, C.hm, C.N, [], Bx, n0, hB, some (some l), 0⟩ (ηs (pre ++ [x]))) body ((d, u x) :: (t, u x) :: ρ0) (ηs pre))
    (hdone : ∀ (B' : Base) (hB' : B'.γ.length = C.n) D, Marked C.B B' D → TX ⟨C.P, C.tab, C.hT, C.hm, C.N, markD D :: C.D, B', C.n, hB', none, 0⟩ Q .normal ρ0 (ηs L)) :
    TC C Q (.rangeFunc g #[t] (.region rid #[⟨some d, .assign (.tmp t), T, pos, af, none⟩] false) body) ρ η := by
  rintro a w ⟨m, γ, ρc, hE, hR, hI⟩
  rw [Cx.W_none hr]
  obtain ⟨v, hv1, hv2⟩ := hR.ev hx
  obtain ⟨γ', hsh, hI'⟩ := hI.sel C.hn hn hp ho
  obtain ⟨ρc', hR', hsub⟩ := SubR.rl hsh hR hρ
  have hE' := hE.sel hsub
  have hg0 := hE.ev hv1
  cases hv2 with
  | pr hseq =>
  obtain ⟨gf, lb, fn, rfl, hf, hb, hseq⟩ := hseq
  subst hP
  have hl' := hI'.heap.len
  have hsh0 : Sh2 (ts (List.range n0)) γ' (γ'.take n0) := by
    intro i j hij w' hw'
    obtain ⟨k, h1, h2⟩ := idx_spec (List.range n0) i 0 j hij
    have hk : k < n0 := by have := (List.getElem?_eq_some_iff.1 h2).1; simpa using this
    rw [List.getElem?_range hk] at h2
    cases h2
    rw [h1, Nat.zero_add, List.getElem?_take, if_pos hk]
    exact hw'
  obtain ⟨ρc0, hR0, hsub0⟩ := SubR.rl hsh0 hR' hself
  have hE0 := hE'.sel hsub0
  have hpre0 : Pre (γ'.take n0) γ' := fun i v h => by
    rw [List.getElem?_take] at h
    split at h
    · exact h
    · cases h
  have hlen0 : (γ'.take n0).length = n0 := by simp; omega
  have hIb := hI'.rebase hpre0
  refine wpIn_wide.1 (rangeV (k := 0) hg0 hf hb hseq (fun _ => False) (fun _ h => h.elim) (fun pre m1 W1 => ∃ γ1, In ⟨m, w, blks γ' (ηs []), γ'.take n0⟩ m1 W1 γ1 (ηs pre)) (fun _ _ _ => False) ?_ ?_ ⟨γ', hIb⟩ ?_ ?_ ?_ ?_)
  · rintro pre m1 W1 m2 W2 ⟨γ1, h1⟩ hs
    exact ⟨γ1, h1.step hs⟩
  · rintro _ _ _ _ _ h _; exact h
  · intro x; rw [has]; rfl
  · rintro l pre x m1 W1 v hl ⟨γ1, h1⟩ hpre hv he
    rw [has] at hv
    have hrep : Rep m1 W1 γ1 v (u x) := hv.1.mono (.refl _ _) (fun i v h => by simp at h)
    have hIx := h1.rebase h1.pre
    have hEr : Env C.N [] (({ tmps := a.tmps.setIfInBounds t v, defers := [] } : Act).put (some d) (({ tmps := a.tmps.setIfInBounds t v, defers := [] } : Act).eval (.tmp t))) ((d, v) :: (t, v) :: ρc0) := by
      have h2 := Env.setT (v := v) hE0 (by simpa using ht)
      have h3 : ({ tmps := a.tmps.setIfInBounds t v, defers := [] } : Act).eval (.tmp t) = v := h2.ev (x := .tmp t) (by simp [W.ev, W.look])
      rw [h3]
      exact h2.put v (by simpa using hd)
    have hb := hround pre x ⟨m1, W1, blks γ1 (ηs pre), γ'.take n0⟩ hlen0 l hpre _ _ ⟨m1, γ1, _, hEr, ⟨rfl, hrep, rfl, hrep, hR0.mono he h1.pre⟩, hIx⟩
    rw [Cx.W_some rfl] at hb
    refine wpIn_mono hb fun e a' W' hq => ?_
    cases e with
    | normal =>
      obtain ⟨m3, γ3, _, _, _, h3⟩ := hq
      refine ⟨m3, h3.far.ext, fun b o _ hbo hld => ?_, γ3, h3.comp h1.far (blks_own h1) (.refl _)⟩
      have hn : b ∉ blks γ1 (ηs pre) := fun hm => by rw [blks_notLD h1 b hm o hbo] at hld; cases hld
      rw [h3.far.block b (Array.getElem?_eq_some_iff.1 hbo).1 hn]; exact hbo
    | _ => exact hq.elim
  · rintro m' W' he ⟨γL, hL⟩ hD
    have hpc : Pre C.B.γ (γ'.take n0) := fun i v h => by
      have hi := (List.getElem?_eq_some_iff.1 h).1
      rw [C.hn] at hi
      rw [List.getElem?_take, if_pos (by omega)]
      exact hI'.pre i v h
    have hIL := hL.rebase (hpc.trans hL.pre)
    have hM : Marked C.B ⟨m', W', blks γL (ηs L), C.B.γ⟩ w.heap.size := by
      refine ⟨hI'.far.trans hL.far (blks_own hI'), fun b hb => ?_, .refl _, hD, fun hm => ?_, hI'.far.size⟩
      · rcases blks_own hL b hb with h | h
        · exact blks_own hI' b h
        · exact .inr (Nat.le_trans hI'.far.size h)
      · have := blks_notLD hL _ hm _ hD; cases this
    exact hdone ⟨m', W', blks γL (ηs L), C.B.γ⟩ C.hn _ hM _ _ ⟨m', γL, ρc0, ⟨hE0.size, by show _ :: a.defers = _; rw [hE0.defers], hE0.look⟩, hR0.mono he hL.pre, hIL⟩
  · rintro _ _ _ _ h; exact h.elim
/-! ## Entry and return of a function that holds such a loop -/
theorem Spec.enterM {P : Program} {f : Nat} {fn : Func} {c : Code} {as : List AV} {r : AV} {tab : Tab} {N : Nat} (hT : TabOK P tab) (hm : P.follows .mixedOrders = true) (hf : P.funcs[f]? = some fn) (hb : fn.body = some c) (hN : fn.ntmps = N) (ha : Nat.ble as.length N = true)
    (h : ∀ B (hB : B.γ.length = η.length), TC ⟨P, tab, hT, hm, N, [], B, η.length, hB, none, 0⟩ (bodyPostM Fence.wide 0 P fn (PostB B r η')) c (zip2 0 as) η) : Spec P f as η r η' := by
  intro m w γ vs hH hV
  refine W.enterM (N := N) 0 (W.zipA 0 vs) hf hb hN (by simp) (by have := hV.len; simp at ha; simp; omega) fun a hE => ?_
  have := h (baseOf m w γ η) hH.len a w ⟨m, γ, _, hE, hV.zip 0, hH, .refl _ _ _, fun i v o b h1 h2 h3 => .inl (mem_blks.2 ⟨i, v, o, h1, h2, h3⟩), .refl _⟩
  rwa [Cx.W_none rfl] at this
theorem TX.endM {fn : Func} {R k} (h : TX C (bodyPostM Fence.wide k C.P fn R) .ret ρ η) : TX C (bodyPostM Fence.wide k C.P fn R) .normal ρ η := fun a w hA => h a w hA
theorem TX.rtN2 {fn : Func} {k t1 t2 : Nat} {u1 u2 r1 r2 : AV} {P : Program} (σ : List Nat) (hle1 : LE (ts σ) u1 r1) (hle2 : LE (ts σ) u2 r2) (hD : C.D = [] := by with_unfolding_all exact rfl) (hres : fn.results = #[.tmp t1, .tmp t2] := by with_unfolding_all exact rfl) (hx1 : lk ρ t1 = some u1 := by with_unfolding_all exact rfl) (hx2 : lk ρ t2 = some u2 := by with_unfolding_all exact rfl)
    (hn : nodB σ = true := by with_unfolding_all exact rfl) (hp : preB C.n 0 σ = true := by with_unfolding_all exact rfl) (ho : SubO (ts σ) η σ η' := by repeat' (first | with_unfolding_all exact trivial | with_unfolding_all refine And.intro ?_ ?_)) : TX C (bodyPostM Fence.wide k P fn (PostB C.B (.tp [r1, r2]) η')) .ret ρ η := by
  rintro a w ⟨m, γ, ρc, hE, hR, hI⟩
  obtain ⟨v1, h1, h2⟩ := hR.look hx1
  obtain ⟨v2, k1, k2⟩ := hR.look hx2
  obtain ⟨γ', g1, g2⟩ := hI.sel C.hn hn hp ho
  rw [hD] at hE
  refine W.retN2 hE hres h1 k1 ⟨_, m, γ', rfl, g2, .tp (vs := [v1, v2]) rfl fun j v c hv hc => ?_⟩
  match j with
  | 0 => simp at hv hc; subst hv hc; exact hle1 _ _ _ _ g1 _ h2
  | 1 => simp at hv hc; subst hv hc; exact hle2 _ _ _ _ g1 _ k2
  | j + 2 => simp at hv
theorem TX.rtM2 {fn : Func} {k t1 t2 D : Nat} {u1 u2 r1 r2 : AV} {P : Program} {B : Base} (hM : Marked B C.B D) (hBn : B.γ.length = C.n) (σ : List Nat) (hle1 : LE (ts σ) u1 r1) (hle2 : LE (ts σ) u2 r2) (hD : C.D = [markD D] := by with_unfolding_all exact rfl) (hres : fn.results = #[.tmp t1, .tmp t2] := by with_unfolding_all exact rfl) (hx1 : lk ρ t1 = some u1 := by with_unfolding_all exact rfl) (hx2 : lk ρ t2 = some u2 := by with_unfolding_all exact rfl)
    (hn : nodB σ = true := by with_unfolding_all exact rfl) (hp : preB C.n 0 σ = true := by with_unfolding_all exact rfl) (ho : SubO (ts σ) η σ η' := by repeat' (first | with_unfolding_all exact trivial | with_unfolding_all refine And.intro ?_ ?_)) : TX C (bodyPostM Fence.wide k P fn (PostB B (.tp [r1, r2]) η')) .ret ρ η := by
  rintro a w ⟨m, γ, ρc, hE, hR, hI⟩
  obtain ⟨v1, h1, h2⟩ := hR.look hx1
  obtain ⟨v2, k1, k2⟩ := hR.look hx2
  have hDw : w.heap[D]? = some (.deferred (some [])) := by
    rw [hI.far.block D (Array.getElem?_eq_some_iff.1 hM.mark).1 hM.off]; exact hM.mark
  have hI0 : In B m w γ η := hI.comp hM.far hM.own hM.pre
  obtain ⟨γ', g1, g2⟩ := hI0.sel hBn hn hp ho
  have hs : StepOK B.w.heap.size m w m (w.putObj D (.deferred none)) := .put hDw rfl hM.le
  rw [hD] at hE
  refine W.retM2 hE hres h1 k1 hDw ⟨_, m, γ', rfl, g2.step hs, .tp (vs := [v1, v2]) rfl fun j v c hv hc => ?_⟩
  match j with
  | 0 => simp at hv hc; subst hv hc; exact (hle1 _ _ _ _ g1 _ h2).mono hs.ext (.refl _)
  | 1 => simp at hv hc; subst hv hc; exact (hle2 _ _ _ _ g1 _ k2).mono hs.ext (.refl _)
  | j + 2 => simp at hv
end
end Go.V
/- Level 2: the inside of an iterator: calls of yield, ranges over a function in it, its end. -/
namespace Go.V
open Go Go.W Go.RowKit
/-- What an iterator is called with: to whom it yields. -/
structure It (P : Program) {α : Type} (as : α → List AV) (L : List α) where
  l : Nat
  E : Nat → Prop
  J : List α → (Nat → Nat) → World → Prop
  Jx : List α → (Nat → Nat) → World → Prop
  m : Nat → Nat
  W : World
  hl : E l
  hE : ∀ b, E b → b < W.heap.size
  sJ : Stays W.heap.size J
  sJx : Stays W.heap.size Jx
  hy : ∀ pre x m1 W1 vs, J pre m1 W1 → (∃ r, pre ++ x :: r = L) → VL m1 W1 [] vs (as x) → YieldV P l E vs m1 W1 (J (pre ++ [x])) (Jx (pre ++ [x]))
section
variable {P : Program} {α : Type} {as : α → List AV} {L : List α}
/-- Where an iterator stands: K holds of what the round keeps; ds: the marks of its own loops. -/
structure At (I : It P as L) (K : (Nat → Nat) → World → Prop) (ds : List Nat) (B : Base) : Prop where
  ext : Ext I.m I.W B.m B.w
  noS : B.S = []
  noγ : B.γ = []
  stays : ∀ m w m' w', K m w → StepOK I.W.heap.size m w m' w' → K m' w'
  holds : K B.m B.w
  marks : ∀ d ∈ ds, I.W.heap.size ≤ d ∧ B.w.heap[d]? = some (.deferred (some []))
  nodup : ds.Nodup
theorem At.keep {I : It P as L} {K ds B m w} (h : At I K ds B) (hk : Keep B.m B.w m w) : At I K ds ⟨m, w, [], []⟩ :=
  ⟨h.ext.trans hk.ext, rfl, rfl, h.stays, h.stays _ _ _ _ h.holds (.keep hk), fun d hd => ⟨(h.marks d hd).1, hk.heap (h.marks d hd).2⟩, h.nodup⟩
theorem In.keep0 {B m w γ η} (h : In B m w γ η) (hS : B.S = []) : Keep B.m B.w m w := (hS ▸ h.far).keep
def isDead : AO → Bool
  | .dead => true
  | _ => false
theorem In.deadB {B m w γ η m' w'} (h : In B m w γ η) (hη : η.all isDead = true) : In ⟨m', w', [], []⟩ m' w' γ η := by
  have hd : ∀ (i : Nat) o, η[i]? = some o → o = .dead := fun i o ho => by
    have := List.all_eq_true.1 hη o (List.mem_of_getElem? ho)
    cases o <;> first | rfl | cases this
  have nb : ∀ {i : Nat} {v o b}, η[i]? = some o → blk o v = some b → False := fun {i v o b} ho hb => by
    rw [hd i o ho] at hb; cases v <;> cases hb
  exact ⟨⟨h.heap.len, fun i v o _ ho => by rw [hd i o ho]; trivial, fun i j v v' o o' b _ _ ho _ _ hb => (nb ho hb).elim⟩, .refl _ _ _, fun i v o b _ ho hb => (nb ho hb).elim, fun i v hv => by simp at hv⟩
end
/-- The same walk from a later time. -/
abbrev Cx.at (C : Cx) (B : Base) (hB : B.γ.length = C.n) : Cx := ⟨C.P, C.tab, C.hT, C.hm, C.N, C.D, B, C.n, hB, C.r, C.k⟩
section
variable {C : Cx} {ops : Array Oper} {Q : Qt} {ρ ρ' : Ro} {η η' : Eta} {rest : List Oper} {T d : Nat} {pos : String} {af : Array Edge} {x : Operand} {args : List Operand} {at_ : Array TypeId}
variable {P : Program} {α : Type} {as : α → List AV} {L : List α}
/-- A call of yield. -/
theorem OL.yield {I : It P as L} {pre : List α} {y : α} {ds : List Nat} {us : List AV} {r : Option Nat} (hA : At I (I.J pre) ds C.B) (hpre : ∃ r, pre ++ y :: r = L)
    (k1 : ∀ B (hB : B.γ.length = C.n), At I (I.J (pre ++ [y])) ds B → Ext C.B.m C.B.w B.m B.w → KeepL (fun _ => False) C.B.w B.w → OL (C.at B hB) ops Q rest ((d, V.bool true) :: ρ) η)
    (k0 : ∀ B (hB : B.γ.length = C.n), At I (I.Jx (pre ++ [y])) ds B → Ext C.B.m C.B.w B.m B.w → KeepL I.E C.B.w B.w → OL (C.at B hB) ops Q rest ((d, V.bool false) :: ρ) η)
    (hP : C.P = P := by with_unfolding_all exact rfl) (hn : C.n = 0 := by with_unfolding_all exact rfl) (hr : C.r = some r := by with_unfolding_all exact rfl) (hk : C.k = 0 := by with_unfolding_all exact rfl)
    (hx : ev2 ρ x = some (.raw (.func (.yield I.l) #[] #[])) := by with_unfolding_all exact rfl) (hl : evs2 ρ args = some us := by with_unfolding_all exact rfl)
    (hle : LEs (ts []) us (as y) := by repeat' (first | with_unfolding_all exact trivial | exact LE.ren (by with_unfolding_all exact rfl) | with_unfolding_all exact LE.sl | with_unfolding_all exact LE.nil (by decide) | with_unfolding_all refine And.intro ?_ ?_))
    (hd : Nat.blt d C.N = true := by with_unfolding_all exact rfl) (hη : η.all isDead = true := by with_unfolding_all exact rfl) :
    OL C ops Q (⟨some d, .call ⟨.value x, args.toArray, at_⟩, T, pos, af, none⟩ :: rest) ρ η := by
  rintro a w ⟨m, γ, ρc, hE, hR, hI⟩
  subst hP
  have hK := hI.keep0 hA.noS
  have hA' := hA.keep hK
  obtain ⟨vs, h1, h2⟩ := hR.evs hl
  have hvl : VL m w [] vs (as y) := hle.vl (γ' := []) (fun i j h => by cases h) h2
  have hY := I.hy pre y m w vs hA'.holds hpre hvl
  rw [Cx.L_some hr, hk]
  refine W.i_yield (F := WF r) (n := 0) (fun _ => trivial) rfl hE (hR.raw hx) h1 (by simpa using hd)
    (K := fun b w'' => ∃ m', Ext m w m' w'' ∧ ((b = true ∧ KeepL (fun _ => False) w w'' ∧ I.J (pre ++ [y]) m' w'') ∨ (b = false ∧ KeepL I.E w w'' ∧ I.Jx (pre ++ [y]) m' w''))) ?_ ?_
  · obtain ⟨fn', tmps, assign, body, q1, q2⟩ := hY
    refine ⟨fn', tmps, assign, body, q1, RoundIn.mono (show RoundIn (WF r) 0 C.P I.l fn' tmps assign body w _ from q2) fun e w'' ⟨m', he, hc⟩ => ?_⟩
    rcases hc with ⟨rfl, h1, h2⟩ | ⟨rfl, h1, h2⟩
    · exact ⟨true, rfl, m', he, .inl ⟨rfl, h1, h2⟩⟩
    · exact ⟨false, rfl, m', he, .inr ⟨rfl, h1, h2⟩⟩
  · rintro b w'' ⟨m', he, hc⟩ a' hE'
    have hB0 : ([] : List Value).length = C.n := by rw [hn]; rfl
    have key : ∀ (E : Nat → Prop) (K : (Nat → Nat) → World → Prop), (∀ b, E b → b < I.W.heap.size) → (∀ m w m' w', K m w → StepOK I.W.heap.size m w m' w' → K m' w') → KeepL E w w'' → K m' w'' → At I K ds ⟨m', w'', [], []⟩ := fun E K hE hs hkl hK =>
      ⟨hA'.ext.trans he, rfl, rfl, hs, hK, fun d hd => ⟨(hA'.marks d hd).1, hkl d _ (fun h => by have := hE d h; have := (hA'.marks d hd).1; omega) (hA'.marks d hd).2 rfl⟩, hA'.nodup⟩
    rcases hc with ⟨rfl, h3, h4⟩ | ⟨rfl, h3, h4⟩
    · have := k1 ⟨m', w'', [], []⟩ hB0 (key _ _ (fun _ h => h.elim) (fun m w m' w' => I.sJ _ m w m' w') h3 h4) (hK.ext.trans he) ((KeepL.keep hK).trans h3) a' w'' ⟨m', γ, _, hE', ⟨rfl, .raw rfl, hR.mono he (.refl _)⟩, hI.deadB hη⟩
      rwa [Cx.L_some (C := C.at ⟨m', w'', [], []⟩ hB0) hr, show (C.at ⟨m', w'', [], []⟩ hB0).k = 0 from hk] at this
    · have := k0 ⟨m', w'', [], []⟩ hB0 (key _ _ I.hE (fun m w m' w' => I.sJx _ m w m' w') h3 h4) (hK.ext.trans he) ((KeepL.keep hK).trans h3) a' w'' ⟨m', γ, _, hE', ⟨rfl, .raw rfl, hR.mono he (.refl _)⟩, hI.deadB hη⟩
      rwa [Cx.L_some (C := C.at ⟨m', w'', [], []⟩ hB0) hr, show (C.at ⟨m', w'', [], []⟩ hB0).k = 0 from hk] at this
/-- The way out of an iterator. -/
def ItEnd (I : It P as L) : Ending → World → Prop := fun e W' => ∃ v m', e = .returned v ∧ Ext I.m I.W m' W' ∧ (I.J L m' W' ∨ ∃ pre, I.Jx pre m' W')
theorem leaves_marks {F : Fence} {k : Nat} {fn : Func} {tmps : Array Value} {R : Ending → World → Prop} (hres : fn.results = #[]) : ∀ (ds : List Nat) (w : World), ds.Nodup → (∀ d ∈ ds, w.heap[d]? = some (.deferred (some []))) →
    R (.returned (.tuple #[])) (ds.foldl (fun w d => w.putObj d (.deferred none)) w) → LeavesInM F k P fn tmps R (ds.map markD) .returning w
  | [], w, _, _, h => ⟨_, results_none hres _ P _, h⟩
  | d :: ds, w, hn, hm, h => by
    refine ⟨by simp, .inl ⟨d, _, rfl, run_takeDeferred (hm d (by simp)), leaves_marks hres ds _ (List.nodup_cons.1 hn).2 (fun d' hd' => ?_) h⟩⟩
    have hne : d' ≠ d := fun e => (List.nodup_cons.1 hn).1 (e ▸ hd')
    exact (World.putObj_heap_other hne).trans (hm d' (by simp [hd']))
theorem StepOK.trans {B0 m w m1 w1 m2 w2} (K : (Nat → Nat) → World → Prop) (hs : ∀ m w m' w', K m w → StepOK B0 m w m' w' → K m' w') (h : K m w) (h1 : StepOK B0 m w m1 w1) (h2 : StepOK B0 m1 w1 m2 w2) : K m2 w2 := hs _ _ _ _ (hs _ _ _ _ h h1) h2
theorem marks_stays {B0 : Nat} {m : Nat → Nat} (K : (Nat → Nat) → World → Prop) (hs : ∀ m w m' w', K m w → StepOK B0 m w m' w' → K m' w') : ∀ (ds : List Nat) (w : World), ds.Nodup → (∀ d ∈ ds, B0 ≤ d ∧ w.heap[d]? = some (.deferred (some []))) → K m w →
    K m (ds.foldl (fun w d => w.putObj d (.deferred none)) w) ∧ Ext m w m (ds.foldl (fun w d => w.putObj d (.deferred none)) w)
  | [], w, _, _, h => ⟨h, .refl _ _⟩
  | d :: ds, w, hn, hm, h => by
    have h1 : StepOK B0 m w m (w.putObj d (.deferred none)) := .put (hm d (by simp)).2 rfl (hm d (by simp)).1
    obtain ⟨a, b⟩ := marks_stays K hs ds _ (List.nodup_cons.1 hn).2 (fun d' hd' => ⟨(hm d' (by simp [hd'])).1, (World.putObj_heap_other (show d' ≠ d from fun e => (List.nodup_cons.1 hn).1 (e ▸ hd'))).trans (hm d' (by simp [hd'])).2⟩) (hs _ _ _ _ h h1)
    exact ⟨a, h1.ext.trans b⟩
theorem TX.rtIt {I : It P as L} {K} {ds : List Nat} {fn : Func} {k : Nat} (hA : At I K ds C.B) (hK : ∀ m w, K m w → I.J L m w ∨ ∃ pre, I.Jx pre m w) (_hP : C.P = P := by with_unfolding_all exact rfl) (hD : C.D = ds.map markD := by with_unfolding_all exact rfl) (hres : fn.results = #[] := by with_unfolding_all exact rfl) :
    TX C (bodyPostM Fence.wide k P fn (ItEnd I)) .ret ρ η := by
  rintro a w ⟨m, γ, ρc, hE, hR, hI⟩
  have hA' := hA.keep (hI.keep0 hA.noS)
  show LeavesInM Fence.wide k P fn a.tmps _ a.defers .returning w
  rw [hE.defers, hD]
  obtain ⟨h1, h2⟩ := marks_stays K hA'.stays ds w hA'.nodup hA'.marks hA'.holds
  exact leaves_marks hres ds w hA'.nodup (fun d hd => (hA'.marks d hd).2) ⟨_, m, rfl, hA'.ext.trans h2, hK _ _ h1⟩
/-- An iterator's contract out of its body. -/
theorem SeqV.enter {f : Nat} {fn : Func} {c : Code} {caps : List AV} {tab : Tab} {N : Nat} {m0 : Nat → Nat} {w0 : World} {vs : List Value} (hv : VL m0 w0 [] vs caps) (hT : TabOK P tab) (hm : P.follows .mixedOrders = true) (hf : P.funcs[f]? = some fn) (hb : fn.body = some c) (hN : fn.ntmps = N) (ha : Nat.ble (caps.length + 1) N = true)
    (h : ∀ (I : It P as L) (B : Base) (hB : B.γ.length = 0), At I (I.J []) [] B → TC ⟨P, tab, hT, hm, N, [], B, 0, hB, some none, 0⟩ (bodyPostM Fence.wide 0 P fn (ItEnd I)) c ((0, .raw (.func (.yield I.l) #[] #[])) :: zip2 1 caps) []) : SeqV P f vs.toArray as L m0 w0 := by
  intro l E J Jx m W he hEl hElt sJ sJx hy hJ
  have hl := hv.len
  have ez : (#[Value.func (.yield l) #[] #[]] ++ vs.toArray : Array Value).toList = Value.func (.yield l) #[] #[] :: vs := by simp
  refine Go.W.enterM (N := N) 0 ((0, .func (.yield l) #[] #[]) :: Go.W.zipA 1 vs) hf hb hN (by rw [ez]; rfl) (by simp at ha ⊢; omega) fun a hE => ?_
  have hb' := h ⟨l, E, J, Jx, m, W, hEl, hElt, sJ, sJx, hy⟩ ⟨m, W, [], []⟩ rfl ⟨.refl _ _, rfl, rfl, fun m w m' w' => sJ _ m w m' w', hJ, by simp, List.nodup_nil⟩ a W
    ⟨m, [], _, hE, ⟨rfl, .raw rfl, (hv.mono he (.refl _)).zip 1⟩, ⟨rfl, by simp, by simp⟩, .refl _ _ _, fun i v o b h => by simp at h, .refl _⟩
  rw [Cx.W_some rfl] at hb'
  exact wpIn_wide.1 hb'
/-! ## A range over a function in an iterator -/
def RQI (I : It P as L) (ds : List Nat) (B0 : Base) (K Kx : (Nat → Nat) → World → Prop) : Qt
  | .normal, _, w => ∃ B, At I K ds B ∧ Ext B0.m B0.w B.m B.w ∧ KeepL (fun _ => False) B0.w B.w ∧ ∃ m, Keep B.m B.w m w
  | .ret, _, w => ∃ B, At I Kx ds B ∧ Ext B0.m B0.w B.m B.w ∧ KeepL I.E B0.w B.w ∧ ∃ m, Keep B.m B.w m w
  | _, _, _ => False
theorem TX.rqiN {I : It P as L} {ds B0 K Kx} (hA : At I K ds C.B) (he : Ext B0.m B0.w C.B.m C.B.w) (hk : KeepL (fun _ => False) B0.w C.B.w) : TX C (RQI I ds B0 K Kx) .normal ρ η := by
  rintro a w ⟨m, γ, ρc, hE, hR, hI⟩
  exact ⟨C.B, hA, he, hk, m, hI.keep0 hA.noS⟩
theorem TX.rqiR {I : It P as L} {ds B0 K Kx} (hA : At I Kx ds C.B) (he : Ext B0.m B0.w C.B.m C.B.w) (hk : KeepL I.E B0.w C.B.w) : TX C (RQI I ds B0 K Kx) .ret ρ η := by
  rintro a w ⟨m, γ, ρc, hE, hR, hI⟩
  exact ⟨C.B, hA, he, hk, m, hI.keep0 hA.noS⟩
set_option maxHeartbeats 1000000 in
theorem TC.rfI {β : Type} {bs : β → List AV} {M : List β} {I : It P as L} {pre : List α} {ds : List Nat} {g : Operand} {t d T rid : Nat} {pos : String} {af : Array Edge} {body : Code} (u : β → AV) (f : List β → List α) (hf0 : f [] = []) (hA : At I (I.J pre) ds C.B)
    (hround : ∀ pre' x (B : Base) (hB : B.γ.length = C.n) l, At I (I.J (pre ++ f pre')) ds B → (∃ r, pre' ++ x :: r = M) → TC ⟨C.P, C.tab, C.hT, C.hm, C.N, [], B, C.n, hB, some (some l), 0⟩ (RQI I ds B (I.J (pre ++ f (pre' ++ [x]))) (fun m w => ∃ p, I.Jx p m w)) body ((d, u x) :: (t, u x) :: ρ) η)
    (hdone : ∀ (B : Base) (hB : B.γ.length = C.n) D, At I (I.J (pre ++ f M)) (D :: ds) B → TX ⟨C.P, C.tab, C.hT, C.hm, C.N, markD D :: C.D, B, C.n, hB, C.r, C.k⟩ Q .normal ρ η)
    (hstop : ∀ (B : Base) (hB : B.γ.length = C.n) D, At I (fun m w => ∃ p, I.Jx p m w) (D :: ds) B → TX ⟨C.P, C.tab, C.hT, C.hm, C.N, markD D :: C.D, B, C.n, hB, C.r, C.k⟩ Q .ret ρ η)
    (hx : ev2 ρ g = some (.pr (SeqMP P bs M)) := by with_unfolding_all exact rfl) (hP : C.P = P := by with_unfolding_all exact rfl) (hn : C.n = 0 := by with_unfolding_all exact rfl) (hr : C.r = some none := by with_unfolding_all exact rfl) (hbs : ∀ x, bs x = [u x] := by with_unfolding_all exact fun _ => rfl)
    (ht : Nat.blt t C.N = true := by with_unfolding_all exact rfl) (hd : Nat.blt d C.N = true := by with_unfolding_all exact rfl) (hη : η.all isDead = true := by with_unfolding_all exact rfl) :
    TC C Q (.rangeFunc g #[t] (.region rid #[⟨some d, .assign (.tmp t), T, pos, af, none⟩] false) body) ρ η := by
  rintro a w ⟨m, γ, ρc, hE, hR, hI⟩
  rw [Cx.W_some hr]
  have hK := hI.keep0 hA.noS
  have hA' := hA.keep hK
  have hB0 : ([] : List Value).length = C.n := by rw [hn]; rfl
  obtain ⟨v, hv1, hv2⟩ := hR.ev hx
  have hg0 := hE.ev hv1
  cases hv2 with
  | pr hseq =>
  obtain ⟨gf, lb, fn, rfl, hf, hb, hseq⟩ := hseq
  subst hP
  have hmk : ∀ {m w m' w'}, StepOK (w.heap.size) m w m' w' → True := fun _ => trivial
  refine rangeV (k := C.k) hg0 hf hb hseq I.E (fun b h => Nat.lt_of_lt_of_le (I.hE b h) hA'.ext.size)
    (fun pre' m1 W1 => Ext m w m1 W1 ∧ I.J (pre ++ f pre') m1 W1 ∧ ∀ d ∈ ds, W1.heap[d]? = some (.deferred (some [])))
    (fun _ m1 W1 => Ext m w m1 W1 ∧ (∃ p, I.Jx p m1 W1) ∧ ∀ d ∈ ds, W1.heap[d]? = some (.deferred (some []))) ?_ ?_ ⟨.refl _ _, by rw [hf0, List.append_nil]; exact hA'.holds, fun d hd => (hA'.marks d hd).2⟩ ?_ ?_ ?_ ?_
  · rintro pre' m1 W1 m2 W2 ⟨e1, j1, k1⟩ hs
    refine ⟨e1.trans hs.ext, I.sJ.le hA'.ext.size _ _ _ _ _ j1 hs, fun d hd => ?_⟩
    have hlt : d < w.heap.size := (Array.getElem?_eq_some_iff.1 (hA'.marks d hd).2).1
    obtain ⟨row, hgr, hrow, _⟩ := hs
    exact (hgr.block d (Array.getElem?_eq_some_iff.1 (k1 d hd)).1 (fun e => by have := (hrow _ e.symm).1; omega)).trans (k1 d hd)
  · rintro pre' m1 W1 m2 W2 ⟨e1, ⟨p, j1⟩, k1⟩ hs
    refine ⟨e1.trans hs.ext, ⟨p, I.sJx.le hA'.ext.size _ _ _ _ _ j1 hs⟩, fun d hd => ?_⟩
    have hlt : d < w.heap.size := (Array.getElem?_eq_some_iff.1 (hA'.marks d hd).2).1
    obtain ⟨row, hgr, hrow, _⟩ := hs
    exact (hgr.block d (Array.getElem?_eq_some_iff.1 (k1 d hd)).1 (fun e => by have := (hrow _ e.symm).1; omega)).trans (k1 d hd)
  · intro x; rw [hbs]; rfl
  · rintro l pre' x m1 W1 v hl ⟨e1, j1, k1⟩ hpre hv he
    rw [hbs] at hv
    have hrep : Rep m1 W1 γ v (u x) := hv.1.mono (.refl _ _) (fun i v h => by simp at h)
    have hEr : Env C.N [] (({ tmps := a.tmps.setIfInBounds t v, defers := [] } : Act).put (some d) (({ tmps := a.tmps.setIfInBounds t v, defers := [] } : Act).eval (.tmp t))) ((d, v) :: (t, v) :: ρc) := by
      have h2 := Env.setT (v := v) hE (by simpa using ht)
      have h3 : ({ tmps := a.tmps.setIfInBounds t v, defers := [] } : Act).eval (.tmp t) = v := h2.ev (x := .tmp t) (by simp [W.ev, W.look])
      rw [h3]
      exact h2.put v (by simpa using hd)
    have hAr : At I (I.J (pre ++ f pre')) ds ⟨m1, W1, [], []⟩ := ⟨hA'.ext.trans e1, rfl, rfl, fun m w m' w' => I.sJ _ m w m' w', j1, fun d hd => ⟨(hA'.marks d hd).1, k1 d hd⟩, hA'.nodup⟩
    have hb := hround pre' x ⟨m1, W1, [], []⟩ hB0 l hAr hpre _ _ ⟨m1, γ, _, hEr, ⟨rfl, hrep, rfl, hrep, hR.mono he (.refl _)⟩, hI.deadB hη⟩
    rw [Cx.W_some rfl] at hb
    refine wpIn_mono hb fun e a' W' hq => ?_
    cases e with
    | normal =>
      obtain ⟨B, q1, q2, q3, m3, q4⟩ := hq
      have q1' := q1.keep q4
      exact ⟨m3, q2.trans q4.ext, q3.trans (.keep q4), e1.trans (q2.trans q4.ext), q1'.holds, fun d hd => (q1'.marks d hd).2⟩
    | ret =>
      obtain ⟨B, q1, q2, q3, m3, q4⟩ := hq
      have q1' := q1.keep q4
      exact ⟨m3, q2.trans q4.ext, q3.trans (.keep q4), e1.trans (q2.trans q4.ext), q1'.holds, fun d hd => (q1'.marks d hd).2⟩
    | _ => exact hq.elim
  · rintro m' W' he ⟨e1, j1, k1⟩ hD
    have hnd : (w.heap.size :: ds).Nodup := List.nodup_cons.2 ⟨fun h => by have := (Array.getElem?_eq_some_iff.1 (hA'.marks _ h).2).1; exact Nat.lt_irrefl _ this, hA'.nodup⟩
    refine hdone ⟨m', W', [], []⟩ hB0 w.heap.size ⟨hA'.ext.trans e1, rfl, rfl, fun m w m' w' => I.sJ _ m w m' w', j1, fun d hd => ?_, hnd⟩ _ _ ⟨m', γ, ρc, ⟨hE.size, by show _ :: a.defers = _; rw [hE.defers], hE.look⟩, hR.mono he (.refl _), hI.deadB hη⟩
    rcases List.mem_cons.1 hd with rfl | hd
    · exact ⟨hA'.ext.size, hD⟩
    · exact ⟨(hA'.marks d hd).1, k1 d hd⟩
  · rintro _ m' W' he ⟨e1, j1, k1⟩ hD
    have hnd : (w.heap.size :: ds).Nodup := List.nodup_cons.2 ⟨fun h => by have := (Array.getElem?_eq_some_iff.1 (hA'.marks _ h).2).1; exact Nat.lt_irrefl _ this, hA'.nodup⟩
    refine hstop ⟨m', W', [], []⟩ hB0 w.heap.size ⟨hA'.ext.trans e1, rfl, rfl, fun m w m' w' ⟨p, h⟩ hs => ⟨p, I.sJx _ m w m' w' h hs⟩, j1, fun d hd => ?_, hnd⟩ _ _ ⟨m', γ, ρc, ⟨hE.size, by show _ :: a.defers = _; rw [hE.defers], hE.look⟩, hR.mono he (.refl _), hI.deadB hη⟩
    rcases List.mem_cons.1 hd with rfl | hd
    · exact ⟨hA'.ext.size, hD⟩
    · exact ⟨(hA'.marks d hd).1, k1 d hd⟩
theorem TX.thenW {C' : Cx} {A : Code} {Q2 : Qt} (k : TC C Q A ρ η) (h : C'.W = C.W := by with_unfolding_all exact rfl) : TX C (Exit.then (C'.W A Q) Q2) .normal ρ η := fun a w hA => by
  show C'.W A Q a w
  rw [h]; exact k a w hA
/-! ## A loop whose rounds begin at later times -/
def NextC {S : Type} (Cs : S → Cx) (ρs : S → Ro) (ηs : S → Eta) (I : S → Prop) (μ : S → Nat) (s : S) : Act → World → Prop := fun a w => ∃ s', (I s' ∧ μ s' < μ s) ∧ A2 (Cs s').N (Cs s').D (Cs s').B a w (ρs s') (ηs s')
theorem TC.loopC {A : Code} {S : Type} (Cs : S → Cx) (ρs : S → Ro) (ηs : S → Eta) (I : S → Prop) (μ : S → Nat) (s0 : S) (h0 : I s0) (hs : A2 C.N C.D C.B = A2 (Cs s0).N (Cs s0).D (Cs s0).B) (hw : ∀ s, I s → (Cs s).W = C.W) (σ : List Nat) (hn : nodB σ = true) (hp : preB C.n 0 σ = true) (ho : SubO (ts σ) η σ (ηs s0)) (hr : SubR (ts σ) ρ (ρs s0))
    (round : ∀ s, I s → TC (Cs s) (Exit.then (NextC Cs ρs ηs I μ s) Q) A (ρs s) (ηs s)) : TC C Q (.loop A) ρ η := fun a w hA =>
  Cx.loop (fun s a w => I s ∧ A2 (Cs s).N (Cs s).D (Cs s).B a w (ρs s) (ηs s)) μ s0 ⟨h0, hs ▸ hA.sel C.hn hn hp ho hr⟩ fun s a w hI => by
    have := round s hI.1 a w hI.2
    rw [hw s hI.1] at this
    refine Cx.mono this fun e a' w' q => ?_
    cases e with
    | normal => obtain ⟨s', ⟨h1, h2⟩, h3⟩ := q; exact ⟨s', ⟨h1, h3⟩, h2⟩
    | _ => exact q
theorem TX.rdC {S : Type} {Cs : S → Cx} {ρs : S → Ro} {ηs : S → Eta} {I : S → Prop} {μ : S → Nat} {s : S} (s' : S) (σ : List Nat) (hI : I s') (hμ : μ s' < μ s) (hs : A2 C.N C.D C.B = A2 (Cs s').N (Cs s').D (Cs s').B := by with_unfolding_all exact rfl)
    (hn : nodB σ = true := by with_unfolding_all exact rfl) (hp : preB C.n 0 σ = true := by with_unfolding_all exact rfl)
    (ho : SubO (ts σ) η σ (ηs s') := by repeat' (first | with_unfolding_all exact trivial | exact OE.ren (by with_unfolding_all exact rfl) | with_unfolding_all exact OE.gs | with_unfolding_all refine And.intro ⟨_, by with_unfolding_all exact rfl, ?_⟩ ?_))
    (hr : SubR (ts σ) ρ (ρs s') := by repeat' (first | with_unfolding_all exact trivial | exact LE.ren (by with_unfolding_all exact rfl) | with_unfolding_all exact LE.sl | with_unfolding_all exact LE.nil (by decide) | exact LE.bool (by first | assumption | (symm; assumption)) | exact LE.int (by first | assumption | omega) | with_unfolding_all refine And.intro ⟨_, by with_unfolding_all exact rfl, ?_⟩ ?_)) :
    TX C (Exit.then (NextC Cs ρs ηs I μ s) Q) .normal ρ η := fun _ _ hA => ⟨s', ⟨hI, hμ⟩, hs ▸ hA.sel C.hn hn hp ho hr⟩
end
end Go.V
/- Plain laws on numberings; no program in sight. -/
namespace Go.W
/-- In whose branches a class lies. -/
def stemOf (pss : List (List Int)) (a : Nat) : Int := (pss.getD a []).headD 0
/-- A class, and all that is in its branches (n: how deep at most). -/
def treeF (pss : List (List Int)) : Nat → Int → List Int
  | 0, c => [c]
  | n + 1, c => c :: ((List.range pss.length).drop 1).flatMap fun a => if stemOf pss a = c then treeF pss n (a : Int) else []
def numbering (g : List (List Int)) : List Int := treeF (parentsOf g) (3 + g.length) 0
theorem stem_lt {g : List (List Int)} (hf : fine g = true) {a : Nat} (h1 : 1 ≤ a) (ha : a < 3 + g.length) : 0 ≤ stemOf (parentsOf g) a ∧ stemOf (parentsOf g) a < a := by
  have hl : a < (parentsOf g).length := by rw [parentsOf_length]; exact ha
  have hg := parentsOf_get ha
  rw [List.getElem?_eq_getElem hl] at hg
  simp only [Option.some.injEq] at hg
  obtain ⟨_, hp, _⟩ := fine_pOf hf (c := (a : Int)) (by omega)
  rw [stemOf, getD_lt hl, hg]
  cases h : pOf g (a : Int) with
  | nil => simp; omega
  | cons p r =>
    have := hp p (by rw [h]; simp)
    simp only [List.headD_cons]
    omega
end Go.W
/- Level 2: what the call's own is lent for the time of one call, read only. -/
namespace Go.V
open Go Go.W
section
variable {C : Cx} {ops : Array Oper} {Q : Qt} {ρ ρ1 : Ro} {η η1 η2 : Eta} {rest : List Oper} {T d : Nat} {pos : String} {af : Array Edge} {x : Operand}
theorem Wk.trans {ρ2 : Ro} (h : Wk C ρ η ρ1 η1) (k : Wk C ρ1 η1 ρ2 η2) : Wk C ρ η ρ2 η2 := fun a w hA => k a w (h a w hA)
theorem Wk.refl : Wk C ρ η ρ η := fun _ _ h => h
/-- What does not tell of memory. -/
def quietB : AV → Bool
  | .raw _ => true
  | .tp vs => vs.all fun | .raw _ => true | _ => false
  | _ => false
theorem quiet_rep {m w γ v x} (h : quietB x = true) (hr : Rep m w γ v x) (m' w' γ') : Rep m' w' γ' v x := by
  cases hr with
  | raw h' => exact .raw h'
  | tp hl hr =>
    refine .tp hl fun j v c a b => ?_
    have hc := List.all_eq_true.1 (show List.all _ _ = true from h) c (List.mem_of_getElem? b)
    have hrr := hr j v c a b
    cases hrr with
    | raw h' => exact .raw h'
    | _ => simp at hc
  | _ => cases h
theorem OL.lend {P : Program} {f : Nat} {fn : Func} {us as : List AV} {r : AV} {args : List Operand} {at_ : Array TypeId} (hwk : Wk C ρ η ρ1 η1) (hs : Spec P f as [] r []) (hf : P.funcs[f]? = some fn) (k : OL C ops Q rest ((d, r) :: ρ) η)
    (hP : C.P = P := by with_unfolding_all exact rfl) (hb : (fn.body.isNone || fn.name == "runtime.NumGoroutine") = false := by with_unfolding_all exact rfl) (hl : evs2 ρ1 args = some us := by with_unfolding_all exact rfl)
    (hle : LEs (ts []) us as := by repeat' (first | with_unfolding_all exact trivial | exact LE.ren (by with_unfolding_all exact rfl) | with_unfolding_all exact LE.sl | with_unfolding_all exact LE.nil (by decide) | with_unfolding_all refine And.intro ?_ ?_)) (hd : Nat.blt d C.N = true := by with_unfolding_all exact rfl) (hq : quietB r = true := by with_unfolding_all exact rfl) :
    OL C ops Q (⟨some d, .call ⟨.value (.func f), args.toArray, at_⟩, T, pos, af, none⟩ :: rest) ρ η := by
  subst hP
  rintro a w hA
  obtain ⟨m1, γ1, ρc1, hE1, hR1, hI1⟩ := hwk a w hA
  obtain ⟨m, γ, ρc, hE, hR, hI⟩ := hA
  obtain ⟨vs, h1, h2⟩ := hR1.evs hl
  obtain ⟨hsh, hH1, _⟩ := hI1.heap.sel (η' := []) (σ := []) rfl trivial
  have hc := hs m1 w _ vs hH1 (hle.vl hsh h2)
  simp at hb
  have hb' : fn.body ≠ none := Option.isSome_iff_ne_none.1 hb.1
  refine Cx.lcons (wl_call (f := f) (args := vs.toArray) rfl ?_ (hc.mono fun e w' ⟨v, m', γ1', he, hC, hv⟩ => ⟨v, he, ?_⟩))
  · have he : a.eval (.func f) = .func (.func f) #[] #[] := rfl
    simp [execOp, resolve, he, Deferred.ofValue, invoke, callFunc, hf, hb.2, hb', hE1.evs h1]
  · have hfar : Far [] m1 w m' w' := hC.far
    have hk : Keep m w (fun b => if b < w.heap.size then m b else m' b) w' := ⟨hfar.keep.grown, fun b hb => if_pos hb⟩
    have hext := hk.ext
    exact k _ _ ⟨_, γ, _, hE.put v (by simpa using hd), ⟨rfl, quiet_rep hq hv _ _ _, hR.mono hext (.refl _)⟩, hI.keep hk⟩
end
end Go.V
/- Level 2: a function value that has a variable with a slice of the call's own is lent for the time of one call. -/
namespace Go.V
open Go Go.W
section
variable {C : Cx} {ρ : Ro} {η η2 : Eta} {ops : Array Oper} {Q : Qt} {rest : List Oper} {T d X : Nat} {pos : String} {af : Array Edge} {x y : Operand}
theorem OL.make0 {E k : Nat} {i j : Int} {te : TyE} {zc : Value} (kk : OL C ops Q rest ((d, .hs k) :: ρ) η2)
    (hs : (C.tab X).map (·.sh) = some (.slice E) := by with_unfolding_all exact rfl) (hE : C.tab E = some te := by with_unfolding_all exact rfl) (hz : te.size = 1 := by with_unfolding_all exact rfl) (hzc : te.zero.cells = #[zc] := by with_unfolding_all exact rfl)
    (hx : ev2 ρ x = some (.raw (.int .i64 i)) := by with_unfolding_all exact rfl) (hy : ev2 ρ y = some (.raw (.int .i64 j)) := by with_unfolding_all exact rfl)
    (hk : η.length = k := by (try dsimp only [List.length]) <;> exact rfl) (hi : i = 0 := by first | rfl | omega) (hj : j = 0 := by first | rfl | omega) (hη : η ++ [.gs false E 1 (some false) []] = η2 := by (try dsimp only [List.cons_append, List.nil_append, List.append_eq]) <;> exact rfl) (hd : Nat.blt d C.N = true := by with_unfolding_all exact rfl) :
    OL C ops Q (⟨some d, .makeSlice X x y, T, pos, af, none⟩ :: rest) ρ η := by
  rintro a w ⟨m, γ, ρc, hE', hR, hI⟩
  obtain ⟨inf, i1, i2, i3, i4, i5⟩ := (C.hT E te hE).info
  obtain ⟨dd, hu', hd'⟩ := shOf C.hT hs
  obtain rfl : dd = _ := hd'
  haveI : SliceTy C.P X E := ⟨hu'⟩
  haveI : ElemTy C.P E 1 te.bytes te.zero := ⟨inf, i1, i2.trans hz, i3, i4, i5.trans hz, Nat.one_pos⟩
  subst hi hj hη
  have hK := Keep.alloc m w (.cells (List.replicate 0 zc).toArray E) 0
  have hl0 := hI.heap.len
  have hob : ownB (.slice (some ⟨w.heap.size, 0, none⟩) 0 0) = none := rfl
  refine Cx.lcons (wl_value (v := .slice (some ⟨w.heap.size, 0, none⟩) 0 0) (w' := w.alloc (.cells (List.replicate 0 zc).toArray E)) rfl ?_ (kk _ _ ⟨_, _, _, hE'.put _ (by simpa using hd), ⟨rfl, .hs (by rw [← hk, ← hl0]; exact get_last), hR.mono hK.ext (.app _ _)⟩,
    hI.new hK ⟨⟨_, .inr (.inl ⟨_, _, rfl, rfl⟩), fun _ _ => rfl, fun b hb => by rw [hob] at hb; cases hb⟩, ⟨nofun, fun _ => by simp⟩, by simp⟩ (fun b hb => by simp only [blk] at hb; rw [hob] at hb; cases hb)⟩))
  exact run_make1 (l := 0) (c := 0) hE' (hR.raw hx) (hR.raw hy) (Nat.le_refl _) hzc (by omega) (by omega)
theorem OL.mk {E k l : Nat} {i j : Int} {te : TyE} {zc : Value} {u u0 : AV} (kk : OL C ops Q rest ((d, .hs k) :: ρ) η2) (hu : ∀ m w γ, Rep m w γ zc u0)
    (hs : (C.tab X).map (·.sh) = some (.slice E) := by with_unfolding_all exact rfl) (hE : C.tab E = some te := by with_unfolding_all exact rfl) (hz : te.size = 1 := by with_unfolding_all exact rfl) (hzc : te.zero.cells = #[zc] := by with_unfolding_all exact rfl) (hone : zc.oneCell' = true := by with_unfolding_all exact rfl) (hul : u.cells = [u0] := by with_unfolding_all exact rfl)
    (hx : ev2 ρ x = some (.raw (.int .i64 i)) := by with_unfolding_all exact rfl) (hy : ev2 ρ y = some (.raw (.int .i64 j)) := by with_unfolding_all exact rfl)
    (hk : η.length = k := by (try dsimp only [List.length]) <;> exact rfl) (hi : i = (l : Int) := by first | rfl | omega) (hj : j = (l : Int) := by first | rfl | omega) (hη : η ++ [.gs false E 1 (some false) (List.replicate l u)] = η2 := by (try dsimp only [List.cons_append, List.nil_append, List.append_eq, List.replicate]) <;> exact rfl) (hd : Nat.blt d C.N = true := by with_unfolding_all exact rfl)
    (hc : l ≤ 16777216 := by omega) (hbt : te.bytes * l ≤ 16777216 := by (first | omega | (simp only [TyE.bytes]; omega))) :
    OL C ops Q (⟨some d, .makeSlice X x y, T, pos, af, none⟩ :: rest) ρ η := by
  by_cases h0 : l = 0
  · subst h0
    exact OL.make0 kk hs hE hz hzc hx hy hk hi hj hη hd
  · exact OL.make kk hu hs hE hz hzc hone hul hx hy hk hi hj hη hd (Nat.le_refl _) (by omega) hc hbt
end
end Go.V
/- Level 2: slices of the call's own whose elements may name its objects. -/
namespace Go.V
open Go Go.W
theorem In.elemG {B m w γ} {η : Eta} {i k o T sz : Nat} {nl} {xs : List AV} {g n c : Nat} {vs : List Value} {us : List AV} {e e' : AV} (hI : In B m w γ η) (hv : γ[i]? = some (.slice (some ⟨g, 0, none⟩) n c)) (ho : η[i]? = some (.gw T sz nl xs)) (hk : xs[k]? = some e) (hC : CL γ m w vs us) (hou : o + us.length ≤ sz) (he : e'.cells = putA e.cells o us) :
    ∃ cur : List Value, w.heap[g]? = some (.cells cur.toArray T (0, 0)) ∧ k * sz + o + vs.length ≤ cur.length ∧ Ext m w m (w.setRow g (cur.take (k * sz + o) ++ vs ++ cur.drop (k * sz + o + vs.length)).toArray) ∧
      In B m (w.setRow g (cur.take (k * sz + o) ++ vs ++ cur.drop (k * sz + o + vs.length)).toArray) γ (η.set i (.gw T sz nl (xs.set k e'))) := by
  have hok := hI.heap.ok i _ _ hv ho
  obtain ⟨hown, hnl, hlen⟩ := hok
  obtain ⟨m', hown, hm1, hm2⟩ := hown
  rcases hown with ⟨_, rfl⟩ | ⟨_, _, _, rfl⟩ | ⟨g', cap, cur, hve, h0, hg, h1, h2, h3, h4, h5⟩
  · simp at hk
  · simp at hk
  · cases hve
    have hob : ownB (.slice (some ⟨g, 0, none⟩) xs.length c) = some g := by
      obtain ⟨c', rfl⟩ : ∃ c', c = c' + 1 := ⟨c - 1, by omega⟩
      simp [ownB]
    have hB : Box m w g cur.toList T := ⟨by simpa using hg, hm2 g hob⟩
    have hkl : k < xs.length := (List.getElem?_eq_some_iff.1 hk).1
    have hkc : (k + 1) * sz ≤ c * sz := Nat.mul_le_mul_right sz (by omega)
    have hks : (k + 1) * sz = k * sz + sz := Nat.succ_mul k sz
    have hvl := hC.1
    have hbd : k * sz + o + vs.length ≤ cur.toList.length := by simp; omega
    obtain ⟨t1, t2⟩ := setRow_box (vs := cur.toList.take (k * sz + o) ++ vs ++ cur.toList.drop (k * sz + o + vs.length)) hB
    have hsl := splice_len cur.toList vs (k * sz + o) hbd
    have hsg := splice_get cur.toList vs (k * sz + o) hbd
    refine ⟨cur.toList, by simpa using hg, hbd, t1.ext, hI.put (o' := .gw T sz nl (xs.set k e')) hv ho (by simp only [blk]; rw [hob]; exact t1) ⟨?_, hnl, ?_⟩ (.inl rfl)⟩
    · refine ⟨m', .inr (.inr ⟨g, c, _, by simp, h0, t2.heap, by simpa using h1, h2, by rw [List.size_toArray, hsl]; simpa using h3, by simpa using h4, fun i' x hx => ?_⟩), hm1, hm2⟩
      rw [List.getElem?_set] at hx
      split at hx
      · rename_i hik
        subst hik
        cases hx
        obtain ⟨cs, a1, a2, a3⟩ := h5 k e hk
        have hcb : o + vs.length ≤ cs.length := by omega
        have hcl := splice_len cs vs o hcb
        have hcg := splice_get cs vs o hcb
        have hec : e.cells.length = cs.length := a3.1.symm
        have hul : us.length = vs.length := hvl.symm
        refine ⟨cs.take o ++ vs ++ cs.drop (o + vs.length), by rw [hcl, a1], fun j cc hj => ?_, ?_, fun q hq => ?_, fun j v cc hj hcc => ?_⟩
        · rw [hcg] at hj
          simp only [List.getElem?_toArray]
          rw [hsg]
          split at hj
          · rw [if_pos (by omega), Array.getElem?_toList]; exact a2 j cc hj
          · rename_i hn
            split at hj
            · rw [if_neg (by omega), if_pos (by omega), show k * sz + j - (k * sz + o) = j - o by omega]; exact hj
            · rw [if_neg (by omega), if_neg (by omega), Array.getElem?_toList]; exact a2 j cc hj
        · rw [hcl, he, putA_len, hec]
        · rcases List.mem_append.1 hq with hq | hq
          · rcases List.mem_append.1 hq with hq | hq
            · exact a3.2.1 q (List.mem_of_mem_take hq)
            · exact hC.2.1 q hq
          · exact a3.2.1 q (List.mem_of_mem_drop hq)
        · rw [he, putA_get _ _ _ (by omega)] at hcc
          rw [hcg] at hj
          rw [hul] at hcc
          split at hj
          · rename_i hn
            rw [if_pos hn] at hcc
            exact (a3.2.2 j v cc hj hcc).mono t1.ext (.refl _)
          · rename_i hn
            rw [if_neg hn] at hcc
            split at hj
            · rename_i hn2
              rw [if_pos hn2] at hcc
              exact (hC.2.2 (j - o) v cc hj hcc).mono t1.ext (.refl _)
            · rename_i hn2
              rw [if_neg hn2] at hcc
              exact (a3.2.2 j v cc hj hcc).mono t1.ext (.refl _)
      · rename_i hik
        obtain ⟨cs, a1, a2, a3⟩ := h5 i' x hx
        refine ⟨cs, a1, fun j cc hj => ?_, CL.mono t1.ext (.refl _) a3⟩
        have hjs : j < sz := by rw [← a1]; exact (List.getElem?_eq_some_iff.1 hj).1
        simp only [List.getElem?_toArray]
        rw [hsg]
        have hne : i' * sz + j < k * sz + o ∨ k * sz + o + vs.length ≤ i' * sz + j := by
          rcases Nat.lt_or_gt_of_ne hik with h | h
          · right
            have := Nat.mul_le_mul_right sz (show k + 1 ≤ i' by omega)
            omega
          · left
            have := Nat.mul_le_mul_right sz (show i' + 1 ≤ k by omega)
            have h9 : (i' + 1) * sz = i' * sz + sz := Nat.succ_mul i' sz
            omega
        rcases hne with h | h
        · rw [if_pos h, Array.getElem?_toList]; exact a2 j cc hj
        · rw [if_neg (by omega), if_neg (by omega), Array.getElem?_toList]; exact a2 j cc hj
    · intro x hx
      rcases List.mem_or_eq_of_mem_set hx with h | h
      · exact hlen x h
      · rw [h, he, putA_len]; exact hlen e (List.mem_of_getElem? hk)
/-- Its elements, read. -/
theorem gwp_cells {m w γ η v} {i sz k o : Nat} {T nl} {xs : List AV} {e} (hH : Heap m w γ η) (h : Rep m w γ v (.gp i sz k o)) (hi : η[i]? = some (.gw T sz nl xs)) (he : xs[k]? = some e) :
    ∃ b vs, v = .pointer (some ⟨b, k * sz + o, none⟩) ∧ CL γ m w vs e.cells ∧ ∀ {m' w'}, Keep m w m' w' → ∀ (j : Nat) c, vs[j]? = some c → w'.cell? ⟨b, k * sz + j, none⟩ = some c := by
  cases h with
  | gp h =>
    obtain ⟨⟨m1, ho, _, _⟩, _⟩ := hH.ok i _ _ h hi
    rcases ho with ⟨_, rfl⟩ | ⟨_, _, _, rfl⟩ | ⟨g, cap, cur, hv, h0, hg, h1, h2, h3, h4, h5⟩
    · simp at he
    · simp at he
    · cases hv
      obtain ⟨cs, a1, a2, a3⟩ := h5 k e he
      refine ⟨_, cs, rfl, a3, fun {m' w'} hk j c hj => ?_⟩
      · have hg' := hk.heap hg
        simp only [World.cell?, hg']
        simpa using a2 j c hj
section
variable {P : Program} {tab : Tab} {N : Nat} {D : List Deferred} {ρ : Ro} {η : Eta} {X : Nat} {x y : Operand} {M : Bool}
theorem give_load_gw {i sz k o : Nat} {T nl} {xs : List AV} {e c : AV} (hT : TabOK P tab) (hs : (tab X).map (·.sh.agg) = some false) (hx : ev2 ρ x = some (.gp i sz k o)) (hi : η[i]? = some (.gw T sz nl xs)) (he : xs[k]? = some e) (hc : e.cells[o]? = some c) : Gives P N D (.load X x) ρ η c := fun _ _ _ _ _ hE hR hH => by
  obtain ⟨v, h1, h2⟩ := hR.ev hx
  obtain ⟨b, vs, rfl, hC, hK⟩ := gwp_cells hH h2 hi he
  have hlt : o < vs.length := by rw [hC.1]; exact (List.getElem?_eq_some_iff.1 hc).1
  refine ⟨vs[o], hC.2.2 o _ _ (List.getElem?_eq_getElem hlt) hc, fun {m' w'} hk _ _ _ _ _ => ?_⟩
  have hcell := hK (hk rfl) o _ (List.getElem?_eq_getElem hlt)
  cases ht : tab X with
  | none => rw [ht] at hs; cases hs
  | some te =>
    rw [ht] at hs
    simp at hs
    have hagg := (hT X te ht).nagg hs
    simp [execOp, hE.ev h1, Instr.loadAt, Instr.sureAddr, loadVar, hagg, hcell]
theorem give_len_gw {k : Nat} {T sz nl xs e} (hT : TabOK P tab) (hs : (tab X).map (·.sh) = some (.slice e)) (hx : ev2 ρ x = some (.hs k)) (hk : η[k]? = some (.gw T sz nl xs)) : Gives P N D (.call ⟨.builtin .len, #[x], #[X]⟩) ρ η (.raw (.int .i64 xs.length)) M := fun _ _ _ _ _ hE hR hH => by
  obtain ⟨v, h1, h2⟩ := hR.ev hx
  obtain ⟨⟨m1, ho, _⟩, _⟩ := hH.ok k _ _ h2.hs_get.1 hk
  obtain ⟨b, cap, rfl, _⟩ := ho.rs.shape
  obtain ⟨d, hu, hd⟩ := shOf hT hs
  obtain rfl : d = _ := hd
  exact ⟨_, .raw rfl, fun _ _ _ _ _ _ => by simp [execOp, resolve, invoke, builtin, hE.ev h1, Builtin.len_, run_underlying hu, goInt]⟩
theorem give_idx_gw {i : Int} {k : Nat} {T sz nl xs E} {n : Nat} {e} (hT : TabOK P tab) (hs : (tab X).map (·.sh) = some (.slice E)) (hz : (tab E).map (·.size) = some sz) (hx : ev2 ρ x = some (.hs k)) (hk : η[k]? = some (.gw T sz nl xs)) (hy : ev2 ρ y = some (.raw (.int .i64 i))) (hi : i = (n : Nat)) (he : xs[n]? = some e) :
    Gives P N D (.indexAddr X x y) ρ η (.gp k sz n 0) M := fun m w γ ρc a hE hR hH => by
  obtain ⟨v, h1, h2⟩ := hR.ev hx
  obtain ⟨d, hu, hd⟩ := shOf hT hs
  obtain rfl : d = _ := hd
  obtain ⟨inf, i1, i2⟩ := sizeOf' hT hz
  obtain ⟨hg, _⟩ := h2.hs_get
  obtain ⟨⟨m1, ho, _⟩, _⟩ := hH.ok k _ _ hg hk
  subst hi
  have hlt : n < xs.length := (List.getElem?_eq_some_iff.1 he).1
  rcases ho with ⟨_, rfl⟩ | ⟨_, _, _, rfl⟩ | ⟨g, cap, cur, rfl, _⟩
  · simp at he
  · simp at he
  refine ⟨.pointer (some ⟨g, n * sz + 0, none⟩), .gp hg, fun _ _ _ _ _ _ => ?_⟩
  simp [execOp, hE.ev h1, hE.ev (hR.raw hy), Instr.indexAt, asIntOf, run_underlying hu, sizeOf, typeInfo, i1, i2, Addr_add_lit, hlt]
end
section
variable {C : Cx} {ops : Array Oper} {Q : Qt} {ρ ρ' : Ro} {η η' η2 : Eta} {rest : List Oper} {T d X Y : Nat} {pos : String} {af : Array Edge} {op : Op} {x y z : Operand} {A K : Code} {e : Exit}
/-- A slice of the call's own may name its objects from now on; and no more. -/
theorem Wk.toG {i E sz : Nat} {nl} {xs : List AV} (ho : η[i]? = some (.gs false E sz nl xs)) : Wk C ρ η ρ (η.set i (.gw E sz nl xs)) := by
  rintro a w ⟨m, γ, ρc, hE, hR, hI⟩
  obtain ⟨v, hv, h1, h2, h3⟩ := hI.heap.get ho
  exact ⟨m, γ, ρc, hE, hR, hI.put (o' := .gw E sz nl xs) hv ho ((Keep.refl m w).touch _) ⟨OwnX.toG γ (by simpa using h1), h2, h3⟩ (.inl rfl)⟩
theorem Wk.ofG {i E sz : Nat} {nl} {xs : List AV} (ho : η[i]? = some (.gw E sz nl xs)) (hp : ∀ x ∈ xs, x.cells.all pureA = true) : Wk C ρ η ρ (η.set i (.gs false E sz nl xs)) := by
  rintro a w ⟨m, γ, ρc, hE, hR, hI⟩
  obtain ⟨v, hv, ⟨m', h1, q1, q2⟩, h2, h3⟩ := hI.heap.get ho
  refine ⟨m, γ, ρc, hE, hR, hI.put (o' := .gs false E sz nl xs) hv ho ((Keep.refl m w).touch _) ⟨?_, h2, h3⟩ (.inl rfl)⟩
  simp only [Bool.false_eq_true, if_false]
  refine ⟨m', ?_, q1, q2⟩
  rcases h1 with ⟨e1, rfl⟩ | ⟨b, o, e1, rfl⟩ | ⟨g, cap, cur, hv, h0, hg, k1, k2, k3, k4, k5⟩
  · exact .inl ⟨e1, rfl⟩
  · exact .inr (.inl ⟨b, o, e1, rfl⟩)
  · refine .inr (.inr ⟨g, cap, cur, hv, h0, hg, k1, k2, k3, k4, fun i x hx => ?_⟩)
    obtain ⟨cs, a, b, c⟩ := k5 i x hx
    exact ⟨cs, a, b, c.1, c.2.1, fun j v c' a1 a2 => pureA_rep (c.2.2 j v c' a1 a2) (List.all_eq_true.1 (hp x (List.mem_of_getElem? hx)) c' (List.mem_of_getElem? a2))⟩
/-- A write to an element, by any value of one cell. -/
theorem OL.storeW {i k o E sz : Nat} {nl} {xs : List AV} {e e' u : AV} (kk : OL C ops Q rest ρ η2) (hs : (C.tab X).map (fun e => (e.sh.agg, e.size)) = some (false, 1) := by with_unfolding_all exact rfl) (hx : ev2 ρ x = some (.gp i sz k o) := by with_unfolding_all exact rfl) (hy : ev2 ρ y = some u := by with_unfolding_all exact rfl) (hu : okc u = true := by with_unfolding_all exact rfl) (hu1 : u.cells = [u] := by with_unfolding_all exact rfl)
    (ho : η[i]? = some (.gw E sz nl xs) := by with_unfolding_all exact rfl) (hk : xs[k]? = some e := by first | exact map_get (by omega) | exact List.getElem?_eq_getElem (by omega)) (he : e'.cells = putA e.cells o [u] := by with_unfolding_all exact rfl) (hou : o + 1 ≤ sz := by with_unfolding_all decide) (hη : η.set i (.gw E sz nl (xs.set k e')) = η2 := by (try dsimp only [List.set]) <;> exact rfl) :
    OL C ops Q (⟨none, .store X x y, T, pos, af, none⟩ :: rest) ρ η := by
  rintro a w ⟨m, γ, ρc, hE, hR, hI⟩
  obtain ⟨v1, g1, g2⟩ := hR.ev hx
  cases g2 with
  | @gp _ _ _ _ _ b n c hb =>
  obtain ⟨v0, g3, g4⟩ := hR.ev hy
  have h1 : v0.oneCell' = true := by
    rcases g4.one hu with h | ⟨cs, h⟩
    · exact h
    · subst h
      simp only [AV.cells] at hu1
      cases hu1
  have hC : CL γ m w [v0] [u] := by
    refine ⟨rfl, by simpa using h1, fun j u' c hu' hc => ?_⟩
    have : j = 0 := by
      have := (List.getElem?_eq_some_iff.1 hu').1
      simp at this; omega
    subst this
    simp at hu' hc
    subst hu' hc
    exact g4
  obtain ⟨cur, hg, hbd, hext, hI'⟩ := hI.elemG (o := o) (e' := e') hb ho hk hC hou he
  subst hη
  cases ht : C.tab X with
  | none => rw [ht] at hs; cases hs
  | some te =>
    rw [ht] at hs
    simp at hs
    obtain ⟨inf, i1, i2, i3, i4, i5⟩ := (C.hT X te ht).info
    have hst := run_storeCells_at C.P b (k * sz + o) E [v0] 0 cur.toArray w hg (by simpa using hbd) (by simpa using h1)
    simp only [Nat.add_zero] at hst
    refine Cx.lcons (wl_skip (w' := w.setRow b (cur.take (k * sz + o) ++ [v0] ++ cur.drop (k * sz + o + [v0].length)).toArray) rfl ?_ (kk _ _ ⟨m, γ, ρc, by simpa [Act.put] using hE, hR.mono hext (.refl _), hI'⟩))
    have hq : inf.size = 1 := by omega
    have hcl := cells_one h1
    simp [execOp, hE.ev g1, hE.ev g3, Instr.storeAt, Instr.sureAddr, storeVar, sizeOf, typeInfo, i1, hq, hcl]
    simp at hst
    rw [hst]
    simp [Result.andThen]
end
end Go.V
/- Level 2: a slice of the call's own is cut to its first elements; its tail is cleared. -/
namespace Go.V
open Go Go.W
section
variable {C : Cx} {ops : Array Oper} {Q : Qt} {ρ ρ' : Ro} {η η' η2 : Eta} {rest : List Oper} {T T2 d X : Nat} {pos pos2 : String} {af af2 : Array Edge} {x y : Operand}
theorem OL.cut {i k E sz n : Nat} {nl} {xs : List AV} (kk : OL C ops Q rest ((d, .hs k) :: ρ) η2) (hs : (C.tab X).map (·.sh) = some (.slice E) := by with_unfolding_all exact rfl) (hz : (C.tab E).map (·.size) = some sz := by with_unfolding_all exact rfl)
    (hx : ev2 ρ x = some (.hs i) := by with_unfolding_all exact rfl) (hy : ev2 ρ y = some (.raw (.int .i64 n)) := by with_unfolding_all exact rfl) (ho : η[i]? = some (.gs false E sz nl xs) := by with_unfolding_all exact rfl) (hk : η.length = k := by (try dsimp only [List.length]) <;> exact rfl)
    (hη : η.set i .dead ++ [.gs false E sz none (xs.take n)] = η2 := by (try dsimp only [List.set, List.cons_append, List.nil_append, List.append_eq]) <;> exact rfl) (hn : n ≤ xs.length := by first | omega | (simp only [List.length_map]; omega)) (hd : Nat.blt d C.N = true := by with_unfolding_all exact rfl) :
    OL C ops Q (⟨some d, .slice X x none (some y) none, T, pos, af, none⟩ :: rest) ρ η := by
  rintro a w ⟨m, γ, ρc, hE, hR, hI⟩
  obtain ⟨v, g1, g2⟩ := hR.ev hx
  obtain ⟨hg, _⟩ := g2.hs_get
  have g3 := hR.raw hy
  obtain ⟨dd, hu, hd'⟩ := shOf C.hT hs
  obtain rfl : dd = _ := hd'
  obtain ⟨inf, i1, i2⟩ := sizeOf' C.hT hz
  have hl := hI.heap.len
  obtain ⟨⟨m', hown, hm1, hm2⟩, _, hcl⟩ := hI.heap.ok i _ _ hg ho
  subst hk hη
  rcases hown with ⟨rfl, rfl⟩ | ⟨b, o, rfl, rfl⟩ | ⟨g, cap, cur, rfl, h0, hgc, h1, h2, h3, h4, h5⟩
  · obtain rfl : n = 0 := by simpa using hn
    refine Cx.lcons (wl_value (v := .slice none 0 0) (w' := w) rfl ?_ (kk _ _ ⟨m, γ ++ [.slice none 0 0], _, hE.put _ (by simpa using hd), ⟨rfl, .hs (by rw [← hl]; exact get_last), hR.mono (.refl _ _) (.app _ _)⟩,
      hI.over (v' := .slice none 0 0) (o' := .gs false E sz none (List.take 0 [])) hg ho ((Keep.refl m w).touch _) ⟨⟨m, .inl ⟨rfl, by simp⟩, fun _ _ => rfl, fun b hb => by simp [ownB] at hb⟩, NL.none _, by simp⟩ (fun b hb => by simp [blk, ownB] at hb)⟩))
    simp [execOp, hE.ev g1, hE.ev g3, Instr.sliceAt, Instr.slice, run_underlying hu, Instr.sliceBounds, Instr.sliceBound, asIntOf, sizeOf, typeInfo, i1]
  · obtain rfl : n = 0 := by simpa using hn
    refine Cx.lcons (wl_value (v := .slice (some ⟨b, o, none⟩) 0 0) (w' := w) rfl ?_ (kk _ _ ⟨m, γ ++ [.slice (some ⟨b, o, none⟩) 0 0], _, hE.put _ (by simpa using hd), ⟨rfl, .hs (by rw [← hl]; exact get_last), hR.mono (.refl _ _) (.app _ _)⟩,
      hI.over (v' := .slice (some ⟨b, o, none⟩) 0 0) (o' := .gs false E sz none (List.take 0 [])) hg ho ((Keep.refl m w).touch _) ⟨⟨m, .inr (.inl ⟨b, o, rfl, by simp⟩), fun _ _ => rfl, fun b hb => by simp [ownB] at hb⟩, NL.none _, by simp⟩ (fun b hb => by simp [blk, ownB] at hb)⟩))
    simp [execOp, hE.ev g1, hE.ev g3, Instr.sliceAt, Instr.slice, run_underlying hu, Instr.sliceBounds, Instr.sliceBound, asIntOf, sizeOf, typeInfo, i1]
  · have hob : ∀ q, ownB (.slice (some ⟨g, 0, none⟩) q cap) = some g := fun q => by
      obtain ⟨c', rfl⟩ : ∃ c', cap = c' + 1 := ⟨cap - 1, by omega⟩
      simp [ownB]
    have hnl : (xs.take n).length = n := by simp; omega
    refine Cx.lcons (wl_value (v := .slice (some ⟨g, 0, none⟩) n cap) (w' := w) rfl ?_ (kk _ _ ⟨m, γ ++ [.slice (some ⟨g, 0, none⟩) n cap], _, hE.put _ (by simpa using hd), ⟨rfl, .hs (by rw [← hl]; exact get_last), hR.mono (.refl _ _) (.app _ _)⟩,
      hI.over (v' := .slice (some ⟨g, 0, none⟩) n cap) (o' := .gs false E sz none (xs.take n)) hg ho ((Keep.refl m w).touch _) ⟨⟨mset m' g (n * sz), .inr (.inr ⟨g, cap, cur, by rw [hnl], h0, hgc, by omega, h2, h3, by rw [hnl]; simp, fun j e he => ?_⟩), fun b hb => ?_, fun b hb => ?_⟩, NL.none _, fun e he => hcl e (List.mem_of_mem_take he)⟩ (fun b hb => ?_)⟩))
    · have hcap : n ≤ cap := by omega
      have hc0 : ¬ cap = 0 := by omega
      have hml : maxLen = 9223372036854775807 := rfl
      simp [execOp, hE.ev g1, hE.ev g3, Instr.sliceAt, Instr.slice, run_underlying hu, Instr.sliceBounds, Instr.sliceBound, asIntOf, sizeOf, typeInfo, i1, i2, hcap, hc0, Addr_add_lit]
    · rw [List.getElem?_take] at he
      split at he
      · exact h5 j e he
      · cases he
    · rw [hob] at hb
      rw [mset_ne (fun e => hb (by rw [e]))]
      exact hm1 b (by rw [hob]; exact hb)
    · rw [hob] at hb; cases hb
      exact hm2 g (hob _)
    · simp only [blk] at hb ⊢
      rw [hob] at hb ⊢
      exact .inl hb
/-- The tail is cleared. -/
theorem OL.clearT {i E n : Nat} {nl} {xs : List AV} {te : TyE} {zc : Value} {u u0 : AV} (kk : OL C ops Q rest ((d, .junk) :: ρ) η2) (hu0 : ∀ m w γ, Rep m w γ zc u0) (hs : (C.tab X).map (·.sh) = some (.slice E) := by with_unfolding_all exact rfl) (hE : C.tab E = some te := by with_unfolding_all exact rfl) (hz : te.size = 1 := by with_unfolding_all exact rfl) (hzc : te.zero.cells = #[zc] := by with_unfolding_all exact rfl) (hone : zc.oneCell' = true := by with_unfolding_all exact rfl) (hul : u.cells = [u0] := by with_unfolding_all exact rfl)
    (hx : ev2 ρ x = some (.hs i) := by with_unfolding_all exact rfl) (hy : ev2 ρ y = some (.raw (.int .i64 n)) := by with_unfolding_all exact rfl) (ho : η[i]? = some (.gs false E 1 nl xs) := by with_unfolding_all exact rfl)
    (hη : η.set i (.gs false E 1 none (xs.take n ++ List.replicate (xs.length - n) u)) = η2 := by (try dsimp only [List.set]) <;> exact rfl) (hn : n ≤ xs.length := by first | omega | (simp only [List.length_map]; omega)) (hd : Nat.blt d C.N = true := by with_unfolding_all exact rfl) :
    OL C ops Q (⟨some d, .slice X x (some y) none none, T, pos, af, none⟩ :: ⟨none, .call ⟨.builtin .clear, #[.tmp d], #[X]⟩, T2, pos2, af2, none⟩ :: rest) ρ η := by
  rintro a w ⟨m, γ, ρc, hEv, hR, hI⟩
  obtain ⟨v, g1, g2⟩ := hR.ev hx
  obtain ⟨hg, _⟩ := g2.hs_get
  have g3 := hR.raw hy
  obtain ⟨dd, hu, hd'⟩ := shOf C.hT hs
  obtain rfl : dd = _ := hd'
  obtain ⟨inf, i1, i2, i3, i4, i5⟩ := (C.hT E te hE).info
  have i2' : inf.size = 1 := i2.trans hz
  obtain ⟨⟨m', hown, hm1, hm2⟩, _, hcl⟩ := hI.heap.ok i _ _ hg ho
  subst hη
  rcases hown with ⟨rfl, rfl⟩ | ⟨b, o, rfl, rfl⟩ | ⟨g, cap, cur, rfl, h0, hgc, h1, h2, h3, h4, h5⟩
  · obtain rfl : n = 0 := by simpa using hn
    refine Cx.lcons (wl_value (v := .slice none 0 0) (w' := w) rfl ?_ ?_)
    · simp [execOp, hEv.ev g1, hEv.ev g3, Instr.sliceAt, Instr.slice, run_underlying hu, Instr.sliceBounds, Instr.sliceBound, asIntOf, sizeOf, typeInfo, i1]
    · have hE2 := hEv.put (.slice none 0 0) (by simpa using hd)
      refine Cx.lcons (wl_value (v := .tuple #[]) (w' := w) rfl ?_ (kk _ _ ⟨m, γ, _, hE2, ⟨rfl, .junk, hR⟩, hI.put (o' := .gs false E 1 none (List.take 0 [] ++ List.replicate (([] : List AV).length - 0) u)) hg ho ((Keep.refl m w).touch _) ⟨⟨m, .inl ⟨rfl, by simp⟩, fun _ _ => rfl, fun b hb => by simp [ownB] at hb⟩, NL.none _, by simp⟩ (.inl rfl)⟩))
      have hev : Act.eval _ (.tmp d) = _ := hE2.ev (x := .tmp d) (v := .slice none 0 0) (by simp [W.ev, W.look])
      simp [execOp, resolve, invoke, builtin, hev, Builtin.clear_, run_underlying hu]
  · obtain rfl : n = 0 := by simpa using hn
    refine Cx.lcons (wl_value (v := .slice (some ⟨b, o, none⟩) 0 0) (w' := w) rfl ?_ ?_)
    · simp [execOp, hEv.ev g1, hEv.ev g3, Instr.sliceAt, Instr.slice, run_underlying hu, Instr.sliceBounds, Instr.sliceBound, asIntOf, sizeOf, typeInfo, i1]
    · have hE2 := hEv.put (.slice (some ⟨b, o, none⟩) 0 0) (by simpa using hd)
      refine Cx.lcons (wl_value (v := .tuple #[]) (w' := w) rfl ?_ (kk _ _ ⟨m, γ, _, hE2, ⟨rfl, .junk, hR⟩, hI.put (o' := .gs false E 1 none (List.take 0 [] ++ List.replicate (([] : List AV).length - 0) u)) hg ho ((Keep.refl m w).touch _) ⟨⟨m, .inr (.inl ⟨b, o, rfl, by simp⟩), fun _ _ => rfl, fun b hb => by simp [ownB] at hb⟩, NL.none _, by simp⟩ (.inl rfl)⟩))
      have hev : Act.eval _ (.tmp d) = _ := hE2.ev (x := .tmp d) (v := .slice (some ⟨b, o, none⟩) 0 0) (by simp [W.ev, W.look])
      simp [execOp, resolve, invoke, builtin, hev, Builtin.clear_, run_underlying hu]
  · have hob : ownB (.slice (some ⟨g, 0, none⟩) xs.length cap) = some g := by
      obtain ⟨c', rfl⟩ : ∃ c', cap = c' + 1 := ⟨cap - 1, by omega⟩
      simp [ownB]
    have hcap : n ≤ cap := by omega
    have hml : maxLen = 9223372036854775807 := rfl
    have hB : Box m w g cur.toList E := ⟨by simpa using hgc, hm2 g hob⟩
    have hsz : cur.toList.length = cap := by simpa using h3
    obtain ⟨sv, hsv⟩ : ∃ sv, sv = Value.slice (some (if cap = n then ⟨g, 0, none⟩ else (⟨g, 0, none⟩ : Addr).add (n * 1))) (xs.length - n) (cap - n) := ⟨_, rfl⟩
    refine Cx.lcons (wl_value (v := sv) (w' := w) rfl ?_ ?_)
    · subst hsv
      simp [execOp, hEv.ev g1, hEv.ev g3, Instr.sliceAt, Instr.slice, run_underlying hu, Instr.sliceBounds, Instr.sliceBound, asIntOf, sizeOf, typeInfo, i1, i2', hcap, hn, h1]
      split <;> simp
    · have hE2 := hEv.put sv (by simpa using hd)
      have hev : Act.eval _ (.tmp d) = _ := hE2.ev (x := .tmp d) (v := sv) (by simp [W.ev, W.look])
      obtain ⟨t1, t2⟩ := setRow_box (vs := cur.toList.take n ++ List.replicate (xs.length - n) zc ++ cur.toList.drop (n + (List.replicate (xs.length - n) zc).length)) hB
      have hbd : n + (List.replicate (xs.length - n) zc).length ≤ cur.toList.length := by simp; omega
      have hsl := splice_len cur.toList (List.replicate (xs.length - n) zc) n hbd
      have hsg := splice_get cur.toList (List.replicate (xs.length - n) zc) n hbd
      refine Cx.lcons (wl_value (v := .tuple #[]) (w' := w.setRow g (cur.toList.take n ++ List.replicate (xs.length - n) zc ++ cur.toList.drop (n + (List.replicate (xs.length - n) zc).length)).toArray) rfl ?_ (kk _ _ ⟨m, γ, _, hE2, ⟨rfl, .junk, hR.mono t1.ext (.refl _)⟩,
        hI.put (o' := .gs false E 1 none (xs.take n ++ List.replicate (xs.length - n) u)) hg ho (by simp only [blk]; rw [hob]; exact t1) ⟨⟨m', .inr (.inr ⟨g, cap, _, by simp; omega, h0, t2.heap, by simp; omega, h2, by rw [List.size_toArray, hsl]; simpa using h3, by rw [h4]; simp; omega, fun j e he => ?_⟩), fun b hb => hm1 b hb, hm2⟩, NL.none _, fun e he => ?_⟩ (.inl rfl)⟩))
      · have hst := run_storeCells_at C.P g n E (List.replicate (xs.length - n) zc) 0 cur w hgc (by simpa using hbd) (fun q hq => by rw [List.eq_of_mem_replicate hq]; exact hone)
        simp only [Nat.add_zero] at hst
        have hzcl : (Builtin.zeroCells te.zero.cells (xs.length - n)).toList = List.replicate (xs.length - n) zc := by
          rw [hzc]
          simp [Builtin.zeroCells]
          apply List.ext_getElem
          · simp
          · intro q h1 h2; simp [Nat.mod_one]
        by_cases hq : xs.length - n = 0
        · rw [hq] at hsv ⊢
          simp only [List.replicate_zero, List.append_nil, List.length_nil, Nat.add_zero, List.take_append_drop, Array.toArray_toList]
          rw [setRow_self w g cur E (0, 0) hgc]
          generalize (if cap = n then (⟨g, 0, none⟩ : Addr) else (⟨g, 0, none⟩ : Addr).add (n * 1)) = ad at hsv
          subst hsv
          simp [execOp, resolve, invoke, builtin, hev, Builtin.clear_, run_underlying hu]
        · have hne : ¬ cap = n := by omega
          rw [if_neg hne, Addr_add_lit, Nat.zero_add, Nat.mul_one] at hsv
          obtain ⟨q, hq2⟩ : ∃ q, xs.length - n = q + 1 := ⟨xs.length - n - 1, by omega⟩
          have hzr : ∀ w, (zeroValue E).run C.P w = .ok te.zero w := fun w => by simp [zeroValue, typeInfo, i1, i4]
          subst hsv
          rw [hq2] at hst hzcl hev ⊢
          simp [execOp, resolve, invoke, builtin, hev, Builtin.clear_, run_underlying hu, hzr, hzcl, hst]
      · rw [List.getElem?_append] at he
        simp only [List.getElem?_toArray]
        split at he
        · rename_i hj
          simp at hj
          rw [List.getElem?_take, if_pos (by omega)] at he
          obtain ⟨cs, a1, a2, a3⟩ := h5 j e he
          refine ⟨cs, a1, fun q c hc => ?_, CL.mono t1.ext (.refl _) a3⟩
          have hq0 : q < cs.length := (List.getElem?_eq_some_iff.1 hc).1
          rw [hsg, if_pos (by omega), Array.getElem?_toList]
          exact a2 q c hc
        · rename_i hj
          simp at hj
          rw [List.getElem?_replicate] at he
          split at he
          · rename_i hj2
            simp at hj2
            cases he
            refine ⟨[zc], rfl, fun q c hc => ?_, ?_⟩
            · cases q with
              | zero =>
                simp at hc; subst hc
                rw [hsg, if_neg (by omega), if_pos (by simp; omega), List.getElem?_replicate, if_pos (by omega)]
              | succ q => simp at hc
            · refine ⟨by rw [hul]; rfl, by simpa using hone, fun q c c' h1 h2 => ?_⟩
              rw [hul] at h2
              cases q with
              | zero => simp at h1 h2; subst h1 h2; exact hu0 _ _ _
              | succ q => simp at h1
          · cases he
      · rcases List.mem_append.1 he with he | he
        · exact hcl e (List.mem_of_mem_take he)
        · rw [List.eq_of_mem_replicate he, hul]; rfl
end
end Go.V
/- Level 2: own slices that lie in an own slice; an own slice in a new place; rows that are written. -/
namespace Go.V
open Go Go.W
/-- A function value, where objects are handed beside it. -/
theorem LE.funT {τ : Nat → Option Nat} {P : Program} {ι : Type} {f : Nat} {fn : Func} {first caps first' caps' : List AV} {dom : ι → Prop} {as r e} (hf : P.funcs[f]? = some fn) (hb : (fn.body.isNone || fn.name == "runtime.NumGoroutine") = false) (h1 : LEs (ts []) first first') (h2 : LEs (ts []) caps caps')
    (hs : ∀ x, dom x → Spec P f (first' ++ as x ++ caps') [] (r x) (e x)) : LE τ (.fn (.func f) first caps) (.pr (FunMP P dom as r e)) := fun _m _w _γ _γ' _hsh _v hr => by
  have := LE.fun_ (P := P) (dom := dom) (as := as) (r := r) (e := e) hf hb h1 h2 hs
  exact Rep.mono (.refl _ _) (fun i v h => by simp at h) (this _ _ _ [] (fun i j h => by cases h) _ hr)
section
variable {C : Cx} {ops : Array Oper} {Q : Qt} {ρ ρ' : Ro} {η η' η2 : Eta} {rest : List Oper} {T d X Y : Nat} {pos : String} {af : Array Edge} {op : Op} {x y z : Operand} {A K : Code} {e : Exit}
/-- A slot's slice becomes an object of its own. -/
theorem Wk.mv {t i k : Nat} {fz E sz nl} {xs : List AV} (hx : lk ρ t = some (.hs i)) (ho : η[i]? = some (.gs fz E sz nl xs)) (hk : η.length = k) : Wk C ρ η ((t, .hs k) :: ρ) (η.set i .dead ++ [.gs fz E sz nl xs]) := by
  rintro a w ⟨m, γ, ρc, hE, hR, hI⟩
  obtain ⟨u, g1, g2⟩ := hR.look hx
  have hg := g2.hs_get
  obtain ⟨hv, aa, n, c, rfl⟩ := hg
  have hok := hI.heap.ok i _ _ hv ho
  have hl := hI.heap.len
  subst hk
  refine ⟨m, γ ++ [.slice aa n c], (t, .slice aa n c) :: ρc, ⟨hE.size, hE.defers, fun s q hs => ?_⟩, ⟨rfl, .hs (by rw [← hl]; exact get_last), hR.mono (.refl _ _) (.app _ _)⟩, hI.over (v' := .slice aa n c) (o' := .gs fz E sz nl xs) hv ho ((Keep.refl m w).touch _) hok (fun b hb => .inl hb)⟩
  simp only [W.look] at hs
  cases hb : Nat.beq t s with
  | true =>
    rw [hb] at hs
    simp at hs
    subst hs
    rw [← Nat.eq_of_beq_eq_true hb]
    exact hE.look _ _ g1
  | false => rw [hb] at hs; exact hE.look _ _ (by simpa using hs)
theorem TX.mv {i k E sz : Nat} {fz nl} {xs : List AV} (t : Nat) (kk : TX C Q e ((t, .hs k) :: ρ) η2) (hx : lk ρ t = some (.hs i) := by with_unfolding_all exact rfl) (ho : η[i]? = some (.gs fz E sz nl xs) := by with_unfolding_all exact rfl) (hk : η.length = k := by (try dsimp only [List.length]) <;> exact rfl) (hη : η.set i .dead ++ [.gs fz E sz nl xs] = η2 := by (try dsimp only [List.set, List.cons_append, List.nil_append, List.append_eq]) <;> exact rfl) : TX C Q e ρ η := TX.wk (Wk.mv hx ho hk) (hη ▸ kk)
/-- A slice of the call's own that is an element is read for good. -/
theorem Wk.viewEl1 {i j E sz E2 sz2 : Nat} {nl} {fz nl2} {xs ys : List AV} (n : Nat) (ho : η[i]? = some (.gw E sz nl xs) := by with_unfolding_all exact rfl) (hn : xs[n]? = some (.hs j) := by with_unfolding_all exact rfl) (hj : η[j]? = some (.gs fz E2 sz2 nl2 ys) := by with_unfolding_all exact rfl) : Wk C ρ η ρ ((η.set j (.gs true E2 sz2 nl2 ys)).set i (.gw E sz nl (xs.set n (.sl sz2 none ys)))) := by
  rintro a w ⟨m, γ, ρc, hE, hR, hI⟩
  obtain ⟨u, hu, _⟩ := hI.heap.get hj
  obtain ⟨m', h1, h2, h3⟩ := hI.freeze hu hj
  have hne : j ≠ i := fun e => by subst e; rw [ho] at hj; cases hj
  have ho' : (η.set j (.gs true E2 sz2 nl2 ys))[i]? = some (.gw E sz nl xs) := by rw [List.getElem?_set_ne hne]; exact ho
  obtain ⟨v, hv, ⟨m1, q1, q2, q3⟩, q4, q5⟩ := h3.heap.get ho'
  refine ⟨m', γ, ρc, hE, hR.mono h1 (.refl _), h3.put (o' := .gw E sz nl (xs.set n (.sl sz2 none ys))) hv ho' ((Keep.refl m' w).touch _) ⟨⟨m1, ?_, q2, q3⟩, q4, fun x hx => ?_⟩ (.inl rfl)⟩
  · rcases q1 with ⟨e1, rfl⟩ | ⟨b, o, e1, rfl⟩ | ⟨g, cap, cur, hv, h0, hg, k1, k2, k3, k4, k5⟩
    · simp at hn
    · simp at hn
    · refine .inr (.inr ⟨g, cap, cur, by simpa using hv, h0, hg, by simpa using k1, k2, k3, by simpa using k4, fun i' x hx => ?_⟩)
      rw [List.getElem?_set] at hx
      split at hx
      · rename_i e
        subst e
        split at hx
        · cases hx
          obtain ⟨vs, a, b, c⟩ := k5 n _ hn
          refine ⟨vs, a, b, by rw [c.1]; simp [AV.cells], c.2.1, fun q v c' a1 a2 => ?_⟩
          have hq : q = 0 := by
            have := (List.getElem?_eq_some_iff.1 a2).1
            simp [AV.cells] at this; omega
          subst hq
          simp [AV.cells] at a2
          subst a2
          have := c.2.2 0 v (.hs j) a1 rfl
          have hvu : v = u := by
            have := this.hs_get.1
            rw [hu] at this; cases this; rfl
          subst hvu
          exact Rep.of_rs h2.rs (NL.none _)
        · cases hx
      · exact k5 i' x hx
  · rcases List.mem_or_eq_of_mem_set hx with h | h
    · exact q5 x h
    · rw [h]
      have := q5 _ (List.mem_of_getElem? hn)
      simpa [AV.cells] using this
theorem Wk.gwN {i E sz : Nat} {nl} {xs : List AV} (ho : η[i]? = some (.gw E sz nl xs) := by with_unfolding_all exact rfl) : Wk C ρ η ρ (η.set i (.gw E sz none xs)) := by
  rintro a w ⟨m, γ, ρc, hE, hR, hI⟩
  obtain ⟨v, hv, h1, h2, h3⟩ := hI.heap.get ho
  exact ⟨m, γ, ρc, hE, hR, hI.put (o' := .gw E sz none xs) hv ho ((Keep.refl m w).touch _) ⟨h1, NL.none _, h3⟩ (.inl rfl)⟩
theorem TC.gwN {E sz : Nat} {nl} {xs : List AV} (i : Nat) (kk : TC C Q A ρ η2) (ho : η[i]? = some (.gw E sz nl xs) := by with_unfolding_all exact rfl) (hη : η.set i (.gw E sz none xs) = η2 := by (try dsimp only [List.set]) <;> exact rfl) : TC C Q A ρ η := TC.wk (Wk.gwN ho) (hη ▸ kk)
/-- A row is written into an own slice of rows. -/
theorem OL.stR {i k E : Nat} {rs : List (List Int)} {l : List Int} {nl : Option Bool} (hk : k < rs.length) (kk : OL C ops Q rest ρ η2) (hs : (C.tab X).map (fun e => (e.sh.agg, e.size)) = some (false, 1) := by with_unfolding_all exact rfl)
    (hx : ev2 ρ x = some (.gp i 1 k 0) := by with_unfolding_all exact rfl) (hy : ev2 ρ y = some (ints l) := by with_unfolding_all exact rfl) (ho : η[i]? = some (.gs false E 1 nl (rs.map ints)) := by with_unfolding_all exact rfl) (hη : η.set i (.gs false E 1 nl ((rs.set k l).map ints)) = η2 := by (try dsimp only [List.set]) <;> exact rfl) : OL C ops Q (⟨none, .store X x y, T, pos, af, none⟩ :: rest) ρ η := by
  have hi : i < η.length := (List.getElem?_eq_some_iff.1 ho).1
  refine OL.wk (Wk.toG ho) (OL.storeW (k := k) (e := ints rs[k]) (e' := ints l) ?_ hs hx hy rfl rfl (by rw [List.getElem?_set_self hi]) (map_get hk) rfl (by decide) rfl)
  refine OL.wk (Wk.ofG (i := i) (nl := nl) (E := E) (sz := 1) (xs := (rs.set k l).map ints) (by rw [List.set_set, List.getElem?_set_self hi, List.map_set]) (fun x hx => ?_)) ?_
  · obtain ⟨y, _, rfl⟩ := List.mem_map.1 hx
    rfl
  · rw [List.set_set, List.set_set, hη]; exact kk
/-- Reading a slice of the call's own whose elements may name objects. -/
theorem OL.lenW {i E sz : Nat} {nl} {xs : List AV} {F : Nat} (k : OL C ops Q rest ((d, .raw (.int .i64 xs.length)) :: ρ) η) (hs : (C.tab X).map (·.sh) = some (.slice F) := by with_unfolding_all exact rfl) (hx : ev2 ρ x = some (.hs i) := by with_unfolding_all exact rfl) (ho : η[i]? = some (.gw E sz nl xs) := by with_unfolding_all exact rfl) (hd : Nat.blt d C.N = true := by with_unfolding_all exact rfl) :
    OL C ops Q (⟨some d, .call ⟨.builtin .len, #[x], #[X]⟩, T, pos, af, none⟩ :: rest) ρ η := OL.give (give_len_gw C.hT hs hx ho) hd k
theorem OL.idxW {j : Int} {i n E sz F : Nat} {nl} {xs : List AV} {e : AV} (k : OL C ops Q rest ((d, .gp i sz n 0) :: ρ) η) (hs : (C.tab X).map (·.sh) = some (.slice E) := by with_unfolding_all exact rfl) (hz : (C.tab E).map (·.size) = some sz := by with_unfolding_all exact rfl) (hx : ev2 ρ x = some (.hs i) := by with_unfolding_all exact rfl) (ho : η[i]? = some (.gw F sz nl xs) := by with_unfolding_all exact rfl)
    (hy : ev2 ρ y = some (.raw (.int .i64 j)) := by with_unfolding_all exact rfl) (hj : j = (n : Nat) := by with_unfolding_all exact rfl) (he : xs[n]? = some e := by first | with_unfolding_all exact rfl | exact map_get (by omega) | exact List.getElem?_eq_getElem (by omega)) (hd : Nat.blt d C.N = true := by with_unfolding_all exact rfl) :
    OL C ops Q (⟨some d, .indexAddr X x y, T, pos, af, none⟩ :: rest) ρ η := OL.give (give_idx_gw C.hT hs hz hx ho hy hj he) hd k
theorem OL.ldW {i k o E sz : Nat} {nl} {xs : List AV} {e c : AV} (kk : OL C ops Q rest ((d, c) :: ρ) η) (hs : (C.tab X).map (·.sh.agg) = some false := by with_unfolding_all exact rfl) (hx : ev2 ρ x = some (.gp i sz k o) := by with_unfolding_all exact rfl) (ho : η[i]? = some (.gw E sz nl xs) := by with_unfolding_all exact rfl)
    (he : xs[k]? = some e := by first | with_unfolding_all exact rfl | exact map_get (by omega) | exact List.getElem?_eq_getElem (by omega)) (hc : e.cells[o]? = some c := by with_unfolding_all exact rfl) (hd : Nat.blt d C.N = true := by with_unfolding_all exact rfl) :
    OL C ops Q (⟨some d, .load X x, T, pos, af, none⟩ :: rest) ρ η := OL.give (give_load_gw C.hT hs hx ho he hc) hd kk
theorem OL.storeW1 {i k E : Nat} {nl} {xs : List AV} {e u : AV} (kk : OL C ops Q rest ρ η2) (hs : (C.tab X).map (fun e => (e.sh.agg, e.size)) = some (false, 1) := by with_unfolding_all exact rfl) (hx : ev2 ρ x = some (.gp i 1 k 0) := by with_unfolding_all exact rfl) (hy : ev2 ρ y = some u := by with_unfolding_all exact rfl) (hu : okc u = true := by with_unfolding_all exact rfl) (hu1 : u.cells = [u] := by with_unfolding_all exact rfl)
    (ho : η[i]? = some (.gw E 1 nl xs) := by with_unfolding_all exact rfl) (hk : xs[k]? = some e := by first | with_unfolding_all exact rfl | exact map_get (by omega) | exact List.getElem?_eq_getElem (by omega)) (he : e.cells = [e] := by with_unfolding_all exact rfl) (hη : η.set i (.gw E 1 nl (xs.set k u)) = η2 := by (try dsimp only [List.set]) <;> exact rfl) :
    OL C ops Q (⟨none, .store X x y, T, pos, af, none⟩ :: rest) ρ η := OL.storeW (e' := u) kk hs hx hy hu hu1 ho hk (by rw [hu1, he]; rfl) (by decide) hη
end
end Go.V
/- Level 2: slices of the call's own whose elements name objects: written out, appended to. -/
namespace Go.V
open Go Go.W
/-- A slice that is written out, whose elements may name objects. -/
def litOkW (sz : Nat) : List AV → Bool
  | [] => true
  | u :: r => (okc u && Nat.beq u.cells.length sz) && litOkW sz r
theorem litOkW_spec {sz : Nat} : ∀ {us : List AV}, litOkW sz us = true → ∀ u ∈ us, okc u = true ∧ u.cells.length = sz
  | [], _, u, h => by simp at h
  | v :: r, h, u, hu => by
    simp only [litOkW, Bool.and_eq_true] at h
    rcases List.mem_cons.1 hu with rfl | hu
    · exact ⟨h.1.1, Nat.eq_of_beq_eq_true h.1.2⟩
    · exact litOkW_spec h.2 u hu
section
variable {C : Cx} {ops : Array Oper} {Q : Qt} {ρ ρ' : Ro} {η η' η2 : Eta} {rest : List Oper} {T d X Y : Nat} {pos : String} {af : Array Edge} {op : Op} {x y z : Operand} {A K : Code} {e : Exit}
theorem One.litW {len sz E k : Nat} {parts : Array (Nat × Operand)} {us : List AV} 
    (hs : (C.tab X).map (·.sh) = some (.slice E)) (hz : (C.tab E).map (·.size) = some (sz + 1))
    (hp1 : parts.toList.map (·.1) = List.range' 0 (len + 1)) (hp2 : evs2 ρ (parts.toList.map (·.2)) = some us) (hu : litOkW (sz + 1) us = true) (hl : Nat.ble ((len + 1) * (sz + 1)) 16000 = true)
    (hk : η.length = k) (hη : η ++ [.gw E (sz + 1) (some false) us] = η2) (hd : Nat.blt d C.N = true) :
    OneK C ops Q ⟨some d, .buildSlice X (len + 1) parts, T, pos, af, none⟩ ρ η ((d, .hs k) :: ρ) η2 := by
  rintro a w Kc ⟨m, γ, ρc, hE, hR, hI⟩ kk
  obtain ⟨vs, g1, g2⟩ := hR.evs hp2
  have hus := litOkW_spec hu
  have hcs := g2.cells (sz := sz + 1) (fun u h => ⟨(hus u h).1, (hus u h).2⟩)
  have hvl := g2.len
  have hlen : vs.length = len + 1 := by
    have e1 := congrArg List.length hp1
    have e2 := congrArg List.length (hE.evs g1)
    simp at e1 e2
    omega
  cases ht : C.tab X with
  | none => rw [ht] at hs; cases hs
  | some te =>
  rw [ht] at hs
  simp at hs
  cases hte : C.tab E with
  | none => rw [hte] at hz; cases hz
  | some tE =>
  rw [hte] at hz
  simp at hz
  obtain ⟨dd, hu', hd'⟩ := ((C.hT X te ht).re hs).sh
  obtain rfl : dd = _ := hd'
  obtain ⟨inf, i1, i2, i3, i4, i5⟩ := (C.hT E tE hte).info
  obtain ⟨out, f1, f2, _, f4⟩ := fill_rows (sz + 1) vs 0 ((Array.range ((len + 1) * (sz + 1))).map fun j => tE.zero.cells[j % tE.zero.cells.size]!) hcs (by simp [hlen])
  rw [hlen] at f1
  have hl' : (len + 1) * (sz + 1) ≤ 16000 := by simpa using hl
  have hlen2 : len + 1 ≤ 16000 := Nat.le_trans (Nat.le_mul_of_pos_right _ (by omega)) hl'
  have hos : out.size = (len + 1) * (sz + 1) := by rw [f2]; simp
  have hparts : (parts.toList.map fun p => (p.1, a.eval p.2)) = (List.range' 0 (len + 1)).zip vs := by
    rw [← hp1, ← hE.evs g1]
    generalize parts.toList = l
    induction l with
    | nil => rfl
    | cons p r ih => simp [ih]
  have hK := Keep.alloc m w (.cells out E) 0
  have hKm : Ext m w (mset (mset m w.heap.size 0) w.heap.size ((len + 1) * (sz + 1))) (w.alloc (.cells out E)) := by
    have := Keep.alloc m w (.cells out E) ((len + 1) * (sz + 1))
    have e : mset (mset m w.heap.size 0) w.heap.size ((len + 1) * (sz + 1)) = mset m w.heap.size ((len + 1) * (sz + 1)) := by funext b; simp only [mset]; split <;> rfl
    rw [e]; exact this.ext
  have hl0 := hI.heap.len
  have hul : us.length = len + 1 := by omega
  have hown : W.Own E (sz + 1) (CKG (γ ++ [.slice (some ⟨w.heap.size, 0, none⟩) (len + 1) (len + 1)]) (mset m w.heap.size 0) (w.alloc (.cells out E))) (mset (mset m w.heap.size 0) w.heap.size ((len + 1) * (sz + 1))) (w.alloc (.cells out E)) (.slice (some ⟨w.heap.size, 0, none⟩) (len + 1) (len + 1)) us := by
    refine .inr (.inr ⟨w.heap.size, len + 1, out, by rw [hul], by omega, heap_alloc_new w _, by omega, by have : maxLen = 9223372036854775807 := rfl; omega, hos, by rw [hul]; simp, fun i x hx => ?_⟩)
    have hi : i < vs.length := by rw [hvl]; exact (List.getElem?_eq_some_iff.1 hx).1
    have hr := g2.get i _ x (List.getElem?_eq_getElem hi) hx
    obtain ⟨hx1, hx2⟩ := hus x (List.mem_of_getElem? hx)
    obtain ⟨cs, e, hC⟩ := hr.cellsOf (hr.one hx1)
    refine ⟨cs, by rw [hC.1, hx2], fun j c hj => ?_, hC.mono hK.ext (.app _ _)⟩
    have := f4 i _ j c (List.getElem?_eq_getElem hi) (by rw [e]; simpa using hj)
    rwa [Nat.zero_add] at this
  subst hη
  refine (wl_value (v := .slice (some ⟨w.heap.size, 0, none⟩) (len + 1) (len + 1)) (w' := w.alloc (.cells out E)) rfl ?_ (kk _ _ (World.grownBy_alloc w _ none) ⟨_, _, _, hE.put _ (by simpa using hd), ⟨rfl, .hs (by rw [← hk, ← hl0]; exact get_last), hR.mono hK.ext (.app _ _)⟩,
    hI.new hK ⟨⟨_, hown, fun b hb => mset_ne (fun e => hb (by rw [e]; rfl)), fun b hb => by simp [ownB] at hb; subst hb; simp⟩, ⟨nofun, fun _ => by simp⟩, fun x hx => (hus x hx).2⟩ (fun b hb => by simp [blk, ownB] at hb; omega)⟩))
  have hp4 : (Array.map (fun x => (x.fst, a.eval x.snd)) parts).toList = (List.range' 0 (len + 1)).zip vs := by simpa using hparts
  have hbig' : ¬ (16777216 < (len + 1) * (sz + 1)) := by omega
  have hz' : (len + 1) * (sz + 1) ≠ 0 := by simp
  have i2' : inf.size = sz + 1 := i2.trans hz
  simp only [execOp, Instr.buildSlice, Sem.run_bind, run_underlying hu', Result.andThen_ok, sizeOf, typeInfo, run_program, i1, i2', Sem.run_pure, zeroValue]
  rw [if_neg (by simpa using hbig'), if_neg (by simp)]
  simp only [Sem.run_bind, run_program, Result.andThen_ok, i1, i4, Sem.run_pure]
  have e1 : Instr.fill (fun i => some (i * (sz + 1), sz + 1)) (Array.map (fun x => tE.zero.cells[x % tE.zero.cells.size]!) (Array.range ((len + 1) * (sz + 1)))) (Array.map (fun x => (x.fst, a.eval x.snd)) parts).toList = some out := by
    rw [hp4]; exact f1
  rw [e1]
  rfl
theorem OL.litW {len sz E k : Nat} {parts : Array (Nat × Operand)} {us : List AV} (kk : OL C ops Q rest ((d, .hs k) :: ρ) η2)
    (hs : (C.tab X).map (·.sh) = some (.slice E) := by with_unfolding_all exact rfl) (hz : (C.tab E).map (·.size) = some (sz + 1) := by with_unfolding_all exact rfl)
    (hp1 : parts.toList.map (·.1) = List.range' 0 (len + 1) := by with_unfolding_all exact rfl) (hp2 : evs2 ρ (parts.toList.map (·.2)) = some us := by with_unfolding_all exact rfl) (hu : litOkW (sz + 1) us = true := by with_unfolding_all exact rfl) (hl : Nat.ble ((len + 1) * (sz + 1)) 16000 = true := by with_unfolding_all exact rfl)
    (hk : η.length = k := by (try dsimp only [List.length]) <;> exact rfl) (hη : η ++ [.gw E (sz + 1) (some false) us] = η2 := by (try dsimp only [List.cons_append, List.nil_append, List.append_eq]) <;> exact rfl) (hd : Nat.blt d C.N = true := by with_unfolding_all exact rfl) :
    OL C ops Q (⟨some d, .buildSlice X (len + 1) parts, T, pos, af, none⟩ :: rest) ρ η := OL.one (One.litW hs hz hp1 hp2 hu hl hk hη hd) kk
theorem run_appendW {w : World} {P : Program} {ty : Nat} {sz : Nat} {m : Nat → Nat} {E nl nl2} {xs ys : List AV} {v u : Value} {te : TyE} {B γ} {η : Eta} {i j : Nat} (hI : In B m w γ η) (hT : TyOK P X ⟨.slice E, te.size, te.bytes, te.zero⟩) {tE : TyE} (hE : TyOK P E tE) (hsz : tE.size = sz) (h0 : 0 < sz)
    (hv : γ[i]? = some v) (ho : η[i]? = some (.gw E sz nl xs)) (hu' : γ[j]? = some u) (hou : η[j]? = some (.gw E sz nl2 ys)) (hij : i ≠ j) (hlen : xs.length + ys.length ≤ 9223372036854775807) (hb : (xs.length + ys.length) * tE.bytes ≤ 140737488355328) :
    ∃ v' m' w', (Builtin.append_ #[X, X] ty #[v, u]).run P w = .ok v' w' ∧ Ext m w m' w' ∧ (∃ a n c, v' = .slice a n c) ∧ In B m' w' (γ ++ [v']) (((η.set j .dead).set i .dead) ++ [.gw E sz none (xs ++ ys)]) := by
  obtain ⟨⟨mv, o1, o2, o3⟩, _, hxc⟩ := hI.heap.ok i v _ hv ho
  obtain ⟨⟨mu, q1, q2, q3⟩, _, hyc⟩ := hI.heap.ok j u _ hu' hou
  have hap : ∀ b, ownB v = some b → ownB u ≠ some b := fun b hb => hI.heap.apart i j v u _ _ b hij hv ho hu' hou hb
  obtain ⟨inf, i1, i2, i3, i4, i5⟩ := hE.info
  obtain ⟨d, hu, hd⟩ := hT.sh
  obtain rfl : d = _ := hd
  have p1 : W.Own E sz (CKG γ m w) (fun b => if some b = ownB v then mv b else if some b = ownB u then mu b else m b) w v xs := Own.mark o1 (fun b hb => by simp only [hb, if_true]) (fun _ _ h => h)
  have p2 : W.Own E sz (CKG γ m w) (fun b => if some b = ownB v then mv b else if some b = ownB u then mu b else m b) w u ys := Own.mark q1 (fun b hb => by
    have : ¬ some b = ownB v := fun e => hap b e.symm hb
    simp only [if_neg this, hb, if_true]) (fun _ _ h => h)
  obtain ⟨v', m2, w', hrun, hA⟩ := run_append (P := P) (ty := ty) hu i1 (i2.trans hsz) i3 i4 (i5.trans hsz) h0 p1 p2.rs hlen hb
  obtain ⟨hT1, hO, hob, hnil⟩ := hA
  have hsh : ∃ a n c, v' = .slice a n c := by
    obtain ⟨b, cap, e, _⟩ := hO.rs.shape
    exact ⟨_, _, _, e⟩
  have hcells : ∀ x ∈ xs ++ ys, x.cells.length = sz := fun x hx => by
    rcases List.mem_append.1 hx with h | h
    · exact hxc x h
    · exact hyc x h
  have hblk : ∀ b, ownB v' = some b → ownB v = some b ∨ w.heap.size ≤ b := fun b hb => by
    rcases hob with e | e
    · exact .inl (e ▸ hb)
    · exact .inr (e b hb)
  have hT3 : W.Touch (ownB v) m w (fun b => if some b = ownB v' then 0 else if b < w.heap.size ∧ some b ≠ ownB v then m b else m2 b) w' := by
    refine ⟨hT1.grown, fun b hb hX => ?_, hT1.grown.size, fun b hb => ?_, fun b k c hk hc => ?_⟩
    · split
      · rename_i e
        rcases hblk b e.symm with h | h
        · exact (hX h.symm).elim
        · omega
      · rw [if_pos ⟨hb, hX⟩]
    · split
      · rename_i e
        rcases hblk b e.symm with h | h
        · rw [o3 b h]; exact Nat.le_refl _
        · omega
      · by_cases hX : some b = ownB v
        · rw [o3 b hX.symm]; exact Nat.zero_le _
        · rw [if_pos ⟨hb, hX⟩]; exact Nat.le_refl _
    · have hne' : some b ≠ ownB v := fun e => by rw [o3 b e.symm] at hk; omega
      rw [World.cell?_of_block (w := w) (hT1.grown.block b (lt_of_cell hc) hne')]; exact hc
  have hin := hI.over (v' := v') (o' := .gw E sz none (xs ++ ys)) hv ho hT3 ⟨⟨fun b => if some b = ownB v' then m2 b else (fun b => if some b = ownB v' then 0 else if b < w.heap.size ∧ some b ≠ ownB v then m b else m2 b) b, Own.mark (Own.imp hO (C' := CKG (γ ++ [v']) (fun b => if some b = ownB v' then 0 else if b < w.heap.size ∧ some b ≠ ownB v then m b else m2 b) w') (fun cs x hc => CL.mono hT3.ext (.app _ _) (show CL γ m w cs x.cells from hc))) (fun b hb => by simp only [hb, if_true]) (fun _ _ h => h), fun b hb => by simp only [if_neg hb], fun b hb => by simp only [hb, if_true]⟩, NL.none _, hcells⟩ hblk
  refine ⟨v', _, w', hrun, hT3.ext, hsh, ?_⟩
  · have hjl : j < η.length := (List.getElem?_eq_some_iff.1 hou).1
    have hjl' : j < γ.length := (List.getElem?_eq_some_iff.1 hu').1
    have h3 := hin.put (o' := .dead) (i := j) (v := u) (o := .gw E sz nl2 ys) (by rw [List.getElem?_append_left hjl']; exact hu') (by rw [List.getElem?_append_left (by simpa using hjl), List.getElem?_set_ne hij]; exact hou) ((Keep.refl _ w').touch _) trivial (.inr (by cases u <;> rfl))
    rw [List.set_append_left _ _ (by simpa using hjl), List.set_comm _ _ hij] at h3
    exact h3
theorem OL.appW {i j k E sz bt : Nat} {nl ny} {xs ys : List AV} (kk : OL C ops Q rest ((d, .hs k) :: ρ) η2)
    (hs : (C.tab X).map (·.sh) = some (.slice E) := by with_unfolding_all exact rfl) (hz : (C.tab E).map (fun e => (e.size, e.bytes)) = some (sz + 1, bt) := by with_unfolding_all exact rfl)
    (hx : ev2 ρ x = some (.hs i) := by with_unfolding_all exact rfl) (ho : η[i]? = some (.gw E (sz + 1) nl xs) := by with_unfolding_all exact rfl) (hy : ev2 ρ y = some (.hs j) := by with_unfolding_all exact rfl) (hoy : η[j]? = some (.gw E (sz + 1) ny ys) := by with_unfolding_all exact rfl) (hij : Nat.beq i j = false := by with_unfolding_all exact rfl)
    (hk : η.length = k := by (try dsimp only [List.length]) <;> exact rfl) (hη : (η.set j .dead).set i .dead ++ [.gw E (sz + 1) none (xs ++ ys)] = η2 := by (try dsimp only [List.set, List.cons_append, List.nil_append, List.append_eq]) <;> exact rfl) (hd : Nat.blt d C.N = true := by with_unfolding_all exact rfl)
    (hlen : xs.length + ys.length ≤ 9223372036854775807 := by (try simp only [List.length_append, List.length_map, List.length_cons, List.length_nil, List.length_take, List.length_drop]); omega) (hb : (xs.length + ys.length) * bt ≤ 140737488355328 := by (try simp only [List.length_append, List.length_map, List.length_cons, List.length_nil, List.length_take, List.length_drop]); omega) :
    OL C ops Q (⟨some d, .call ⟨.builtin .append, #[x, y], #[X, X]⟩, T, pos, af, none⟩ :: rest) ρ η := by
  rintro a w ⟨m, γ, ρc, hE, hR, hI⟩
  obtain ⟨v, g1, g2⟩ := hR.ev hx
  obtain ⟨u, g3, g4⟩ := hR.ev hy
  have hne : i ≠ j := by intro e; subst e; simp at hij
  cases ht : C.tab X with
  | none => rw [ht] at hs; cases hs
  | some te =>
    rw [ht] at hs
    simp at hs
    cases hte : C.tab E with
    | none => rw [hte] at hz; cases hz
    | some tE =>
      rw [hte] at hz
      simp at hz
      obtain ⟨v', m', w', hrun, hext, ⟨q1, q2, q3, rfl⟩, hin⟩ := run_appendW (ty := T) hI ((C.hT X te ht).re hs) (C.hT E tE hte) hz.1 (by omega) g2.hs_get.1 ho g4.hs_get.1 hoy hne hlen (by rw [hz.2]; exact hb)
      subst hη
      have hl := hI.heap.len
      refine Cx.lcons (wl_value (v := .slice q1 q2 q3) (w' := w') rfl ?_ (kk _ _ ⟨m', _, _, hE.put _ (by simpa using hd), ⟨rfl, .hs (by rw [← hk, ← hl]; exact get_last), hR.mono hext (.app _ _)⟩, hin⟩))
      simp [execOp, resolve, invoke, builtin, hE.ev g1, hE.ev g3, hrun]
end
end Go.V
