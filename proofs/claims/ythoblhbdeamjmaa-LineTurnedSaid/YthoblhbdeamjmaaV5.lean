/- Part 5 of what the claim is proved by: lemmas on the model and walks through functions of the program; no conditions. -/
import Derived.Test.YthoblhbdeamjmaaV4
import Derived.Laws.Cells
/- The small laws of a walk of our own: arrays and structs in memory, bits, slice expressions, results in memory. -/
namespace Go.W
open Go
section
variable {P : Program} {ops : Array Oper} {Q : Exit → Act → World → Prop} {Kc : Act → World → Prop} {w w' : World} {a : Act}
variable {N : Nat} {D : List Deferred} {ρ : List (Nat × Value)} {d T X Y : Nat} {pos : String} {af : Array Edge} {x y z : Operand} {u v : Value} {g : Option (Nat × Bool)}

/-! ### Arrays and structs behind a pointer -/
theorem run_indexArr {b o n sz bt k : Nat} {zv : Value} {i : Int} [ArrTy P X n Y] [ElemTy P Y sz bt zv] (hE : Env N D a ρ) (hx : ev ρ x = some (.pointer (some ⟨b, o, none⟩))) (hy : ev ρ y = some (.int .i64 i)) (hi : i = k) (hk : k < n) :
    (execOp a.eval ⟨some d, .indexAddr X x y, T, pos, af, g⟩).run P w = .ok (.value (.pointer (some ⟨b, o + k * sz, none⟩))) w := by
  obtain ⟨inf, i1, i2, _⟩ := ElemTy.elem (P := P) (E := Y)
  have hu := ArrTy.arr (P := P) (T := X)
  subst hi
  simp [execOp, hE.ev hx, hE.ev hy, Instr.indexAt, asIntOf, run_underlying hu, Instr.sureAddr, sizeOf, typeInfo, i1, i2, Addr_add_lit, hk]
theorem op_indexArr0 {b o n sz bt : Nat} {zv : Value} [ArrTy P X n Y] [ElemTy P Y sz bt zv] (hE : Env N D a ρ) (hx : ev ρ x = some (.pointer (some ⟨b, o, none⟩))) (hy : ev ρ y = some (.int .i64 0)) (hd : d < N) (hk : 0 < n)
    (kk : ∀ a', Env N D a' ((d, .pointer (some ⟨b, o, none⟩)) :: ρ) → Kc a' w) :
    OpK P ops Q ⟨some d, .indexAddr X x y, T, pos, af, none⟩ Kc a w := by
  have h := run_indexArr (P := P) (X := X) (Y := Y) (n := n) (k := 0) (d := d) (T := T) (pos := pos) (af := af) (g := none) (w := w) hE hx hy rfl hk
  simp only [Nat.zero_mul, Nat.add_zero] at h
  exact wl_value rfl h (kk _ (hE.put _ hd))
theorem op_indexArr {b o n sz bt k : Nat} {zv : Value} {i : Int} [ArrTy P X n Y] [ElemTy P Y sz bt zv] (hE : Env N D a ρ) (hx : ev ρ x = some (.pointer (some ⟨b, o, none⟩))) (hy : ev ρ y = some (.int .i64 i)) (hd : d < N) (hi : i = k) (hk : k < n)
    (kk : ∀ a', Env N D a' ((d, .pointer (some ⟨b, o + k * sz, none⟩)) :: ρ) → Kc a' w) :
    OpK P ops Q ⟨some d, .indexAddr X x y, T, pos, af, none⟩ Kc a w :=
  wl_value rfl (run_indexArr hE hx hy hi hk) (kk _ (hE.put _ hd))

theorem run_loadAgg {b o n : Nat} {cs : List Value} [AggTy P X n] (hE : Env N D a ρ) (hx : ev ρ x = some (.pointer (some ⟨b, o, none⟩))) (hn : cs.length = n) (hc : ∀ j c, cs[j]? = some c → w.cell? ⟨b, o + j, none⟩ = some c) :
    (execOp a.eval ⟨some d, .load X x, T, pos, af, g⟩).run P w = .ok (.value (.agg cs.toArray)) w := by
  obtain ⟨dd, inf, hu, hd, hi, hs⟩ := AggTy.agg (P := P) (T := X)
  have hagg : (isAgg X).run P w = .ok true w := by
    rcases hd with ⟨fs, rfl⟩ | ⟨k, e, rfl⟩ <;> simp [isAgg, run_underlying hu]
  have hl := run_loadCells_list (P := P) w ⟨b, o, none⟩ cs (fun j c hj => by rw [Addr_add_lit]; exact hc j c hj)
  rw [hn] at hl
  simp [execOp, hE.ev hx, Instr.loadAt, Instr.sureAddr, loadVar, hagg, sizeOf, typeInfo, hi, hs, hl]
theorem op_loadAgg {b o n : Nat} {cs : List Value} [AggTy P X n] (hE : Env N D a ρ) (hx : ev ρ x = some (.pointer (some ⟨b, o, none⟩))) (hn : cs.length = n) (hc : ∀ j c, cs[j]? = some c → w.cell? ⟨b, o + j, none⟩ = some c) (hd : d < N)
    (k : ∀ a', Env N D a' ((d, .agg cs.toArray) :: ρ) → Kc a' w) :
    OpK P ops Q ⟨some d, .load X x, T, pos, af, none⟩ Kc a w :=
  wl_value rfl (run_loadAgg hE hx hn hc) (k _ (hE.put _ hd))
/-- .. of a variable of the call's own, whole. -/
theorem op_loadBox {m : Nat → Nat} {b n E : Nat} {cs : List Value} [AggTy P X n] (hE : Env N D a ρ) (hx : ev ρ x = some (.pointer (some ⟨b, 0, none⟩))) (hB : Box m w b cs E) (hn : cs.length = n) (hd : d < N)
    (k : ∀ a', Env N D a' ((d, .agg cs.toArray) :: ρ) → Kc a' w) :
    OpK P ops Q ⟨some d, .load X x, T, pos, af, none⟩ Kc a w :=
  op_loadAgg (cs := cs) hE hx hn (fun j c hj => by rw [Nat.zero_add]; exact hB.cell hj) hd k
/-- .. of one cell of it. -/
theorem op_loadCell {m : Nat → Nat} {b o E : Nat} {cs : List Value} [PlainTy P X] (hE : Env N D a ρ) (hx : ev ρ x = some (.pointer (some ⟨b, o, none⟩))) (hB : Box m w b cs E) (hv : cs[o]? = some v) (hd : d < N)
    (k : ∀ a', Env N D a' ((d, v) :: ρ) → Kc a' w) :
    OpK P ops Q ⟨some d, .load X x, T, pos, af, none⟩ Kc a w := op_load hE hx (hB.cell hv) hd k
/-- .. of one cell that is never written again. -/
theorem op_loadC {m : Nat → Nat} {b o j : Nat} {cs : List Value} [PlainTy P X] (hE : Env N D a ρ) (hx : ev ρ x = some (.pointer (some ⟨b, o, none⟩))) {q : Nat} (hc : CellsAt m w ⟨b, q, none⟩ cs) (ho : o = q + j) (hv : cs[j]? = some v) (hd : d < N)
    (k : ∀ a', Env N D a' ((d, v) :: ρ) → Kc a' w) :
    OpK P ops Q ⟨some d, .load X x, T, pos, af, none⟩ Kc a w := by
  subst ho
  exact op_load hE hx (hc j v hv).2 hd k

theorem setRow_box {m : Nat → Nat} {b E : Nat} {cs vs : List Value} (h : Box m w b cs E) :
    Touch (some b) m w m (w.setRow b vs.toArray) ∧ Box m (w.setRow b vs.toArray) b vs E := by
  have hoth : ∀ k, k ≠ b → (w.setRow b vs.toArray).heap[k]? = w.heap[k]? := fun k hk => setRow_other w b k _ hk
  have hs : (w.setRow b vs.toArray).heap.size = w.heap.size := by simp
  refine ⟨⟨⟨rfl, rfl, rfl, by omega, fun k _ hk => hoth k (by simpa using hk)⟩, fun _ _ _ => rfl, ⟨by omega, fun _ _ => Nat.le_refl _, fun k i c hi hc => ?_⟩⟩, setRow_heap w b cs.toArray vs.toArray E _ h.heap, h.lim⟩
  have hne : k ≠ b := fun e => by subst e; rw [h.lim] at hi; omega
  rw [World.cell?_of_block (w := w) (hoth k hne)]; exact hc
/-- A store of a whole struct or array into a variable of the call's own. -/
theorem op_storeAgg {m : Nat → Nat} {b n E : Nat} {cs vs : List Value} [AggTy P X n] (hE : Env N D a ρ) (hx : ev ρ x = some (.pointer (some ⟨b, 0, none⟩))) (hy : ev ρ y = some (.agg vs.toArray)) (h1 : ∀ v ∈ vs, v.oneCell' = true)
    (hB : Box m w b cs E) (hn : cs.length = n) (hv : vs.length = n)
    (k : ∀ w', Touch (some b) m w m w' → Box m w' b vs E → ∀ a', Env N D a' ρ → Kc a' w') :
    OpK P ops Q ⟨none, .store X x y, T, pos, af, none⟩ Kc a w := by
  obtain ⟨dd, inf, hu, hd, hi, hs⟩ := AggTy.agg (P := P) (T := X)
  obtain ⟨t1, t2⟩ := setRow_box (vs := vs) hB
  refine wl_skip (w' := w.setRow b vs.toArray) rfl ?_ (k _ t1 t2 _ (by simpa [Act.put] using hE))
  have hst := run_storeCells_at P b 0 E vs 0 cs.toArray w hB.heap (by simp; omega) h1
  have e : (cs.toArray.toList.take (0 + 0) ++ vs ++ cs.toArray.toList.drop (0 + 0 + vs.length)).toArray = vs.toArray := by
    apply Array.ext'
    simp
    omega
  rw [e] at hst
  simp [execOp, hE.ev hx, hE.ev hy, Instr.storeAt, Instr.sureAddr, storeVar, sizeOf, typeInfo, hi, hs, Value.cells, hv, hst]

/-! ### Results in memory -/
theorem ret_agg {fn : Func} {R : Ending → World → Prop} {t n : Nat} {m : Nat → Nat} {b E : Nat} {cs : List Value} [AggTy P X n] (hE : Env N [] a ρ) (hr : fn.results = #[.cell t X]) (h : look ρ t = some (.pointer (some ⟨b, 0, none⟩))) (hB : Box m w b cs E) (hn : cs.length = n)
    (hR : R (.returned (.agg cs.toArray)) w) : bodyPost P fn R .ret a w := by
  refine bodyPost_ret (v := .agg cs.toArray) ?_ hE.defers hR
  obtain ⟨dd, inf, hu, hd, hi, hs⟩ := AggTy.agg (P := P) (T := X)
  have hagg : (isAgg X).run P w = .ok true w := by
    rcases hd with ⟨fs, rfl⟩ | ⟨k, e, rfl⟩ <;> simp [isAgg, run_underlying hu]
  have hl := run_loadCells_list (P := P) w ⟨b, 0, none⟩ cs (fun j c hj => by rw [Addr_add_lit, Nat.zero_add]; exact hB.cell hj)
  have hl' : (loadCells ⟨b, 0, none⟩ n).run P w = .ok cs.toArray w := by simpa [hn] using hl
  have hg := hE.get h
  have hlv : (loadVar X ⟨b, 0, none⟩).run P w = .ok (.agg cs.toArray) w := by simp [loadVar, hagg, sizeOf, typeInfo, hi, hs, hl']
  simp only [results, hr]
  simp [asAddr]
  simp only [Array.getD_eq_getD_getElem?] at hg
  rw [hg]
  simp [hlv]

/-! ### Bits -/
theorem u64_wrap {i : Int} (h0 : 0 ≤ i) (h1 : i ≤ 18446744073709551615) : IntKind.u64.wrap i = i := by
  simp [IntKind.wrap, IntKind.signed, IntKind.bits]
  omega
theorem bv64 (x : Nat) (hx : x < 2 ^ 64) : (BitVec.ofInt IntKind.u64.bits (x : Int)).toNat = x := by
  simp [IntKind.bits]
  omega
theorem lt64 {x : Nat} (h : x < 2 ^ 64) : (x : Int) ≤ 18446744073709551615 := by
  have : (2:Nat) ^ 64 = 18446744073709551616 := by decide
  omega
theorem run_or64 {p q : Nat} (hE : Env N D a ρ) (hx : ev ρ x = some (.int .u64 (p : Int))) (hy : ev ρ y = some (.int .u64 (q : Int))) (hp : p < 2 ^ 64) (hq : q < 2 ^ 64) :
    (execOp a.eval ⟨some d, .binOp .or X x y Y, T, pos, af, g⟩).run P w = .ok (.value (.int .u64 ((p ||| q : Nat) : Int))) w := by
  have hpq : p ||| q < 2 ^ 64 := Nat.or_lt_two_pow hp hq
  have e3 : p % 2 ^ IntKind.u64.bits = p := Nat.mod_eq_of_lt hp
  have e4 : q % 2 ^ IntKind.u64.bits = q := Nat.mod_eq_of_lt hq
  have e5 := u64_wrap (Int.natCast_nonneg _) (lt64 hpq)
  simp only [execOp, hE.ev hx, hE.ev hy, binOp, eqGuard, Op.intBits]
  simp [e3, e4, e5]
theorem op_or64 {p q : Nat} (hE : Env N D a ρ) (hx : ev ρ x = some (.int .u64 (p : Int))) (hy : ev ρ y = some (.int .u64 (q : Int))) (hd : d < N) (hp : p < 2 ^ 64) (hq : q < 2 ^ 64)
    (k : p ||| q < 2 ^ 64 → ∀ a', Env N D a' ((d, .int .u64 ((p ||| q : Nat) : Int)) :: ρ) → Kc a' w) :
    OpK P ops Q ⟨some d, .binOp .or X x y Y, T, pos, af, none⟩ Kc a w := by
  have hpq : p ||| q < 2 ^ 64 := Nat.or_lt_two_pow hp hq
  refine wl_value (v := .int .u64 ((p ||| q : Nat) : Int)) rfl ?_ (k hpq _ (hE.put _ hd))
  have e1 := bv64 p hp
  have e2 := bv64 q hq
  have e3 : p % 2 ^ IntKind.u64.bits = p := Nat.mod_eq_of_lt hp
  have e4 : q % 2 ^ IntKind.u64.bits = q := Nat.mod_eq_of_lt hq
  have e5 := u64_wrap (Int.natCast_nonneg _) (lt64 hpq)
  simp only [execOp, hE.ev hx, hE.ev hy, binOp, eqGuard, Op.intBits]
  simp [e3, e4, e5]
theorem op_and64 {p q : Nat} (hE : Env N D a ρ) (hx : ev ρ x = some (.int .u64 (p : Int))) (hy : ev ρ y = some (.int .u64 (q : Int))) (hd : d < N) (hp : p < 2 ^ 64) (hq : q < 2 ^ 64)
    (k : p &&& q < 2 ^ 64 → ∀ a', Env N D a' ((d, .int .u64 ((p &&& q : Nat) : Int)) :: ρ) → Kc a' w) :
    OpK P ops Q ⟨some d, .binOp .and X x y Y, T, pos, af, none⟩ Kc a w := by
  have hpq : p &&& q < 2 ^ 64 := Nat.lt_of_le_of_lt Nat.and_le_left hp
  refine wl_value (v := .int .u64 ((p &&& q : Nat) : Int)) rfl ?_ (k hpq _ (hE.put _ hd))
  have e1 := bv64 p hp
  have e2 := bv64 q hq
  have e3 : p % 2 ^ IntKind.u64.bits = p := Nat.mod_eq_of_lt hp
  have e4 : q % 2 ^ IntKind.u64.bits = q := Nat.mod_eq_of_lt hq
  have e5 := u64_wrap (Int.natCast_nonneg _) (lt64 hpq)
  simp only [execOp, hE.ev hx, hE.ev hy, binOp, eqGuard, Op.intBits]
  simp [e3, e4, e5]
theorem run_shl1 {c : Int} (hE : Env N D a ρ) (hy : ev ρ y = some (.int .i64 c)) (h0 : 0 ≤ c) (h1 : c < 64) :
    (execOp a.eval ⟨some d, .binOp .shl X (.const (.int .u64 1)) y Y, T, pos, af, g⟩).run P w = .ok (.value (.int .u64 ((1 <<< c.toNat : Nat) : Int))) w := by
  have hlt : 1 <<< c.toNat < 2 ^ 64 := by rw [Nat.one_shiftLeft]; exact Nat.pow_lt_pow_right (by omega) (by omega)
  have hm : min c.toNat 64 = c.toNat := by omega
  have hc : ¬ c < 0 := by omega
  have e : (1 * 2 ^ c.toNat : Int) = ((1 <<< c.toNat : Nat) : Int) := by rw [Nat.one_shiftLeft]; simp
  have ha : a.eval (.const (.int .u64 1)) = .int .u64 1 := rfl
  simp only [execOp, ha, hE.ev hy, binOp, eqGuard, Op.shift]
  simp only [hc, if_false, IntKind.bits, hm, e]
  have e5 := u64_wrap (Int.natCast_nonneg _) (lt64 hlt)
  generalize (1 <<< c.toNat : Nat) = q at *
  simp [e5]
theorem op_shl1 {c : Int} (hE : Env N D a ρ) (hy : ev ρ y = some (.int .i64 c)) (hd : d < N) (h0 : 0 ≤ c) (h1 : c < 64)
    (k : 1 <<< c.toNat < 2 ^ 64 → ∀ a', Env N D a' ((d, .int .u64 ((1 <<< c.toNat : Nat) : Int)) :: ρ) → Kc a' w) :
    OpK P ops Q ⟨some d, .binOp .shl X (.const (.int .u64 1)) y Y, T, pos, af, none⟩ Kc a w :=
  wl_value rfl (run_shl1 hE hy h0 h1) (k (by rw [Nat.one_shiftLeft]; exact Nat.pow_lt_pow_right (by omega) (by omega)) _ (hE.put _ hd))
theorem op_shr64 {p : Nat} {c : Int} (hE : Env N D a ρ) (hx : ev ρ x = some (.int .u64 (p : Int))) (hy : ev ρ y = some (.int .i64 c)) (hd : d < N) (h0 : 0 ≤ c) (h1 : c < 64)
    (k : ∀ a', Env N D a' ((d, .int .u64 ((p >>> c.toNat : Nat) : Int)) :: ρ) → Kc a' w) :
    OpK P ops Q ⟨some d, .binOp .shr X x y Y, T, pos, af, none⟩ Kc a w := by
  refine wl_value (v := .int .u64 ((p >>> c.toNat : Nat) : Int)) rfl ?_ (k _ (hE.put _ hd))
  have hm : min c.toNat 64 = c.toNat := by omega
  have hc : ¬ c < 0 := by omega
  have e : (p : Int).fdiv (2 ^ c.toNat) = ((p >>> c.toNat : Nat) : Int) := by
    rw [Nat.shiftRight_eq_div_pow, Int.fdiv_eq_ediv_of_nonneg _ (by exact Int.le_of_lt (Int.pow_pos (by omega)))]
    simp
  simp only [execOp, hE.ev hx, hE.ev hy, binOp, eqGuard, Op.shift]
  simp only [hc, if_false, IntKind.bits, hm, e]
  simp

/-! ### Slice expressions -/
theorem RS.sliced {α : Type} {sz : Nat} {C : CRel α} {m : Nat → Nat} {xs : List α} {b o cap l h : Nat} (hcap : xs.length ≤ cap) (hm : cap ≤ maxLen)
    (hel : ∀ i x, xs[i]? = some x → ∃ cs, cs.length = sz ∧ CellsAt m w ⟨b, o + i * sz, none⟩ cs ∧ C m w cs x) (hl : l ≤ h) (hh : h ≤ xs.length) :
    RS sz C m w (.slice (some (if cap = l then ⟨b, o, none⟩ else (⟨b, o, none⟩ : Addr).add (l * sz))) (h - l) (cap - l)) ((xs.take h).drop l) := by
  have hlen : ((xs.take h).drop l).length = h - l := by simp; omega
  by_cases e : cap = l
  · rw [if_pos e]
    refine .inr (.inl ⟨b, o, cap - l, by rw [hlen], by rw [hlen]; omega, by omega, fun i x hx => ?_⟩)
    have := (List.getElem?_eq_some_iff.1 hx).1
    omega
  · rw [if_neg e, Addr_add_lit]
    refine .inr (.inl ⟨b, o + l * sz, cap - l, by rw [hlen], by rw [hlen]; omega, by omega, fun i x hx => ?_⟩)
    have hi : i < h - l := by rw [← hlen]; exact (List.getElem?_eq_some_iff.1 hx).1
    rw [List.getElem?_drop, List.getElem?_take, if_pos (by omega)] at hx
    obtain ⟨cs, a1, a2, a3⟩ := hel (l + i) x hx
    refine ⟨cs, a1, ?_, a3⟩
    rw [show o + l * sz + i * sz = o + (l + i) * sz by rw [Nat.add_mul]; omega]
    exact a2
theorem run_slice_h {α : Type} {sz bt : Nat} {zv : Value} {C : CRel α} {m : Nat → Nat} {xs : List α} {i : Int} {h : Nat} {w1 : World} [SliceTy P X Y] [ElemTy P Y sz bt zv] (hE : Env N D a ρ) (hx : ev ρ x = some v) (hr : RS sz C m w1 v xs) (hy : ev ρ y = some (.int .i64 i)) (hi : i = h) (hh : h ≤ xs.length) :
    ∃ v', RS sz C m w1 v' (xs.take h) ∧ ∀ w, (execOp a.eval ⟨some d, .slice X x none (some y) none, T, pos, af, g⟩).run P w = .ok (.value v') w := by
  obtain ⟨inf, i1, i2, _⟩ := ElemTy.elem (P := P) (E := Y)
  have hu := SliceTy.slice (P := P) (T := X)
  subst hi
  rcases hr with ⟨rfl, rfl⟩ | ⟨b, o, cap, rfl, hc, hm, hel⟩ | ⟨aw, rfl, rfl⟩
  rotate_right
  · obtain rfl : h = 0 := by simpa using hh
    refine ⟨.slice (some aw) 0 0, .inr (.inr ⟨aw, rfl, rfl⟩), fun w => ?_⟩
    simp [execOp, hE.ev hx, hE.ev hy, Instr.sliceAt, Instr.slice, run_underlying hu, Instr.sliceBounds, Instr.sliceBound, asIntOf, sizeOf, typeInfo, i1]
  · obtain rfl : h = 0 := by simpa using hh
    refine ⟨.slice none 0 0, .inl ⟨rfl, rfl⟩, fun w => ?_⟩
    simp [execOp, hE.ev hx, hE.ev hy, Instr.sliceAt, Instr.slice, run_underlying hu, Instr.sliceBounds, Instr.sliceBound, asIntOf, sizeOf, typeInfo, i1]
  · refine ⟨.slice (some (if cap = 0 then ⟨b, o, none⟩ else (⟨b, o, none⟩ : Addr).add (0 * sz))) (h - 0) (cap - 0), by simpa using RS.sliced (l := 0) hc hm hel (by omega) hh, fun w => ?_⟩
    have hhc' : h ≤ cap := by omega
    simp [execOp, hE.ev hx, hE.ev hy, Instr.sliceAt, Instr.slice, run_underlying hu, Instr.sliceBounds, Instr.sliceBound, asIntOf, sizeOf, typeInfo, i1, hhc']
    split <;> simp
theorem run_slice_l {α : Type} {sz bt : Nat} {zv : Value} {C : CRel α} {m : Nat → Nat} {xs : List α} {i : Int} {l : Nat} {w1 : World} [SliceTy P X Y] [ElemTy P Y sz bt zv] (hE : Env N D a ρ) (hx : ev ρ x = some v) (hr : RS sz C m w1 v xs) (hy : ev ρ y = some (.int .i64 i)) (hi : i = l) (hh : l ≤ xs.length) :
    ∃ v', RS sz C m w1 v' (xs.drop l) ∧ ∀ w, (execOp a.eval ⟨some d, .slice X x (some y) none none, T, pos, af, g⟩).run P w = .ok (.value v') w := by
  obtain ⟨inf, i1, i2, _⟩ := ElemTy.elem (P := P) (E := Y)
  have hu := SliceTy.slice (P := P) (T := X)
  subst hi
  rcases hr with ⟨rfl, rfl⟩ | ⟨b, o, cap, rfl, hc, hm, hel⟩ | ⟨aw, rfl, rfl⟩
  rotate_right
  · obtain rfl : l = 0 := by simpa using hh
    refine ⟨.slice (some aw) 0 0, .inr (.inr ⟨aw, rfl, rfl⟩), fun w => ?_⟩
    simp [execOp, hE.ev hx, hE.ev hy, Instr.sliceAt, Instr.slice, run_underlying hu, Instr.sliceBounds, Instr.sliceBound, asIntOf, sizeOf, typeInfo, i1]
  · obtain rfl : l = 0 := by simpa using hh
    refine ⟨.slice none 0 0, .inl ⟨rfl, rfl⟩, fun w => ?_⟩
    simp [execOp, hE.ev hx, hE.ev hy, Instr.sliceAt, Instr.slice, run_underlying hu, Instr.sliceBounds, Instr.sliceBound, asIntOf, sizeOf, typeInfo, i1]
  · have hs := RS.sliced (l := l) (h := xs.length) (w := w1) hc hm hel hh (Nat.le_refl _)
    rw [List.take_of_length_le (Nat.le_refl _)] at hs
    refine ⟨.slice (some (if cap = l then ⟨b, o, none⟩ else (⟨b, o, none⟩ : Addr).add (l * sz))) (xs.length - l) (cap - l), hs, fun w => ?_⟩
    simp [execOp, hE.ev hx, hE.ev hy, Instr.sliceAt, Instr.slice, run_underlying hu, Instr.sliceBounds, Instr.sliceBound, asIntOf, sizeOf, typeInfo, i1, i2, hh]
    split <;> simp
theorem op_slice_h {α : Type} {sz bt : Nat} {zv : Value} {C : CRel α} {m : Nat → Nat} {xs : List α} {i : Int} {h : Nat} [SliceTy P X Y] [ElemTy P Y sz bt zv] (hE : Env N D a ρ) (hx : ev ρ x = some v) (hr : RS sz C m w v xs) (hy : ev ρ y = some (.int .i64 i)) (hd : d < N) (hi : i = h) (hh : h ≤ xs.length)
    (k : ∀ v', RS sz C m w v' (xs.take h) → ∀ a', Env N D a' ((d, v') :: ρ) → Kc a' w) :
    OpK P ops Q ⟨some d, .slice X x none (some y) none, T, pos, af, none⟩ Kc a w := by
  obtain ⟨v', h1, h2⟩ := run_slice_h (P := P) (X := X) (Y := Y) (T := T) (d := d) (pos := pos) (af := af) (g := none) hE hx hr hy hi hh
  exact wl_value (v := v') rfl (h2 w) (k _ h1 _ (hE.put _ hd))
theorem op_slice_l {α : Type} {sz bt : Nat} {zv : Value} {C : CRel α} {m : Nat → Nat} {xs : List α} {i : Int} {l : Nat} [SliceTy P X Y] [ElemTy P Y sz bt zv] (hE : Env N D a ρ) (hx : ev ρ x = some v) (hr : RS sz C m w v xs) (hy : ev ρ y = some (.int .i64 i)) (hd : d < N) (hi : i = l) (hh : l ≤ xs.length)
    (k : ∀ v', RS sz C m w v' (xs.drop l) → ∀ a', Env N D a' ((d, v') :: ρ) → Kc a' w) :
    OpK P ops Q ⟨some d, .slice X x (some y) none none, T, pos, af, none⟩ Kc a w := by
  obtain ⟨v', h1, h2⟩ := run_slice_l (P := P) (X := X) (Y := Y) (T := T) (d := d) (pos := pos) (af := af) (g := none) hE hx hr hy hi hh
  exact wl_value (v := v') rfl (h2 w) (k _ h1 _ (hE.put _ hd))
/-! ### .. taken first -/
variable {S : World → Prop} {fi fuel i : Nat} {listed : Array Bool}
theorem tk_indexArr {b o n sz bt k : Nat} {zv : Value} {ix : Int} [ArrTy P X n Y] [ElemTy P Y sz bt zv] (hi : ops[i]? = some ⟨some d, .indexAddr X x y, T, pos, af, g⟩) (hb : takeB ops listed fi i = true) (hQ : NoPan Q) (hS : S w) (hE : Env N D a ρ) (hg : GOn ops ρ g) (hx : ev ρ x = some (.pointer (some ⟨b, o, none⟩))) (hy : ev ρ y = some (.int .i64 ix)) (hix : ix = k) (hk : k < n) (hd : d < N)
    (kk : ∀ a', Env N D a' ((d, .pointer (some ⟨b, o + k * sz, none⟩)) :: ρ) → wpAnyL P .any ops Q S fi fuel (listed.setIfInBounds i true) a' w) : wpAnyL P .any ops Q S fi (fuel + 1) listed a w :=
  tk hi hb hQ hS hE hg rfl hd (fun w hw => by exact run_indexArr hE hx hy hix hk) kk
theorem tk_indexArr0 {b o n sz bt : Nat} {zv : Value} [ArrTy P X n Y] [ElemTy P Y sz bt zv] (hi : ops[i]? = some ⟨some d, .indexAddr X x y, T, pos, af, g⟩) (hb : takeB ops listed fi i = true) (hQ : NoPan Q) (hS : S w) (hE : Env N D a ρ) (hg : GOn ops ρ g)
    (hx : ev ρ x = some (.pointer (some ⟨b, o, none⟩))) (hy : ev ρ y = some (.int .i64 0)) (hk : 0 < n) (hd : d < N)
    (kk : ∀ a', Env N D a' ((d, .pointer (some ⟨b, o, none⟩)) :: ρ) → wpAnyL P .any ops Q S fi fuel (listed.setIfInBounds i true) a' w) : wpAnyL P .any ops Q S fi (fuel + 1) listed a w :=
  tk hi hb hQ hS hE hg rfl hd (fun w hw => by
    have h := run_indexArr (P := P) (X := X) (Y := Y) (n := n) (k := 0) (d := d) (T := T) (pos := pos) (af := af) (g := g) (w := w) hE hx hy rfl hk
    simpa only [Nat.zero_mul, Nat.add_zero] using h) kk
theorem tk_shl1 {c : Int} (hi : ops[i]? = some ⟨some d, .binOp .shl X (.const (.int .u64 1)) y Y, T, pos, af, g⟩) (hb : takeB ops listed fi i = true) (hQ : NoPan Q) (hS : S w) (hE : Env N D a ρ) (hg : GOn ops ρ g) (hy : ev ρ y = some (.int .i64 c)) (h0 : 0 ≤ c) (h1 : c < 64) (hd : d < N)
    (k : 1 <<< c.toNat < 2 ^ 64 → ∀ a', Env N D a' ((d, .int .u64 ((1 <<< c.toNat : Nat) : Int)) :: ρ) → wpAnyL P .any ops Q S fi fuel (listed.setIfInBounds i true) a' w) : wpAnyL P .any ops Q S fi (fuel + 1) listed a w :=
  tk hi hb hQ hS hE hg rfl hd (fun w hw => by exact run_shl1 hE hy h0 h1) (k (by rw [Nat.one_shiftLeft]; exact Nat.pow_lt_pow_right (by omega) (by omega)))
theorem tk_or64 {p q : Nat} (hi : ops[i]? = some ⟨some d, .binOp .or X x y Y, T, pos, af, g⟩) (hb : takeB ops listed fi i = true) (hQ : NoPan Q) (hS : S w) (hE : Env N D a ρ) (hg : GOn ops ρ g) (hx : ev ρ x = some (.int .u64 (p : Int))) (hy : ev ρ y = some (.int .u64 (q : Int))) (hp : p < 2 ^ 64) (hq : q < 2 ^ 64) (hd : d < N)
    (k : p ||| q < 2 ^ 64 → ∀ a', Env N D a' ((d, .int .u64 ((p ||| q : Nat) : Int)) :: ρ) → wpAnyL P .any ops Q S fi fuel (listed.setIfInBounds i true) a' w) : wpAnyL P .any ops Q S fi (fuel + 1) listed a w :=
  tk hi hb hQ hS hE hg rfl hd (fun w hw => by exact run_or64 hE hx hy hp hq) (k (Nat.or_lt_two_pow hp hq))
theorem tk_loadCell [PlainTy P X] {m : Nat → Nat} {w1 : World} {b o E : Nat} {cs : List Value} (hi : ops[i]? = some ⟨some d, .load X x, T, pos, af, g⟩) (hb : takeB ops listed fi i = true) (hQ : NoPan Q) (hS : S w) (hE : Env N D a ρ) (hg : GOn ops ρ g) (hF : ∀ w, S w → Fut m w1 w) (hx : ev ρ x = some (.pointer (some ⟨b, o, none⟩))) (hB : Box m w1 b cs E) (hv : cs[o]? = some v) (hd : d < N)
    (k : ∀ a', Env N D a' ((d, v) :: ρ) → wpAnyL P .any ops Q S fi fuel (listed.setIfInBounds i true) a' w) : wpAnyL P .any ops Q S fi (fuel + 1) listed a w :=
  tk hi hb hQ hS hE hg rfl hd (fun w hw => by exact run_load1 hE hx ((hB.keep (hF w hw).choose_spec).cell hv)) k
theorem tk_loadBox {n : Nat} [AggTy P X n] {m : Nat → Nat} {w1 : World} {b E : Nat} {cs : List Value} (hi : ops[i]? = some ⟨some d, .load X x, T, pos, af, g⟩) (hb : takeB ops listed fi i = true) (hQ : NoPan Q) (hS : S w) (hE : Env N D a ρ) (hg : GOn ops ρ g) (hF : ∀ w, S w → Fut m w1 w) (hx : ev ρ x = some (.pointer (some ⟨b, 0, none⟩))) (hB : Box m w1 b cs E) (hn : cs.length = n) (hd : d < N)
    (k : ∀ a', Env N D a' ((d, .agg cs.toArray) :: ρ) → wpAnyL P .any ops Q S fi fuel (listed.setIfInBounds i true) a' w) : wpAnyL P .any ops Q S fi (fuel + 1) listed a w :=
  tk hi hb hQ hS hE hg rfl hd (fun w hw => by exact run_loadAgg hE hx hn (fun j c hj => by rw [Nat.zero_add]; exact (hB.keep (hF w hw).choose_spec).cell hj)) k
theorem tk_loadC [PlainTy P X] {m : Nat → Nat} {w1 : World} {b o j q : Nat} {cs : List Value} (hi : ops[i]? = some ⟨some d, .load X x, T, pos, af, g⟩) (hb : takeB ops listed fi i = true) (hQ : NoPan Q) (hS : S w) (hE : Env N D a ρ) (hg : GOn ops ρ g) (hF : ∀ w, S w → Fut m w1 w) (hx : ev ρ x = some (.pointer (some ⟨b, o, none⟩))) (hc : CellsAt m w1 ⟨b, q, none⟩ cs) (ho : o = q + j) (hv : cs[j]? = some v) (hd : d < N)
    (k : ∀ a', Env N D a' ((d, v) :: ρ) → wpAnyL P .any ops Q S fi fuel (listed.setIfInBounds i true) a' w) : wpAnyL P .any ops Q S fi (fuel + 1) listed a w :=
  tk hi hb hQ hS hE hg rfl hd (fun w hw => by subst ho; exact run_load1 hE hx ((hc.mono (hF w hw).choose_spec.ext) j v hv).2) k
theorem tk_slice_h {α : Type} {sz bt : Nat} {zv : Value} {C : CRel α} {m : Nat → Nat} {xs : List α} {ix : Int} {h : Nat} {w1 : World} [SliceTy P X Y] [ElemTy P Y sz bt zv] (hi : ops[i]? = some ⟨some d, .slice X x none (some y) none, T, pos, af, g⟩) (hb : takeB ops listed fi i = true) (hQ : NoPan Q) (hS : S w) (hE : Env N D a ρ) (hg : GOn ops ρ g)
    (hx : ev ρ x = some v) (hr : RS sz C m w1 v xs) (hy : ev ρ y = some (.int .i64 ix)) (hd : d < N) (hix : ix = h) (hh : h ≤ xs.length)
    (k : ∀ v', RS sz C m w1 v' (xs.take h) → ∀ a', Env N D a' ((d, v') :: ρ) → wpAnyL P .any ops Q S fi fuel (listed.setIfInBounds i true) a' w) : wpAnyL P .any ops Q S fi (fuel + 1) listed a w := by
  obtain ⟨v', h1, h2⟩ := run_slice_h (P := P) (X := X) (Y := Y) (T := T) (d := d) (pos := pos) (af := af) (g := g) hE hx hr hy hix hh
  exact tk hi hb hQ hS hE hg rfl hd (fun w hw => h2 w) (k v' h1)
theorem tk_slice_l {α : Type} {sz bt : Nat} {zv : Value} {C : CRel α} {m : Nat → Nat} {xs : List α} {ix : Int} {l : Nat} {w1 : World} [SliceTy P X Y] [ElemTy P Y sz bt zv] (hi : ops[i]? = some ⟨some d, .slice X x (some y) none none, T, pos, af, g⟩) (hb : takeB ops listed fi i = true) (hQ : NoPan Q) (hS : S w) (hE : Env N D a ρ) (hg : GOn ops ρ g)
    (hx : ev ρ x = some v) (hr : RS sz C m w1 v xs) (hy : ev ρ y = some (.int .i64 ix)) (hd : d < N) (hix : ix = l) (hh : l ≤ xs.length)
    (k : ∀ v', RS sz C m w1 v' (xs.drop l) → ∀ a', Env N D a' ((d, v') :: ρ) → wpAnyL P .any ops Q S fi fuel (listed.setIfInBounds i true) a' w) : wpAnyL P .any ops Q S fi (fuel + 1) listed a w := by
  obtain ⟨v', h1, h2⟩ := run_slice_l (P := P) (X := X) (Y := Y) (T := T) (d := d) (pos := pos) (af := af) (g := g) hE hx hr hy hix hh
  exact tk hi hb hQ hS hE hg rfl hd (fun w hw => h2 w) (k v' h1)
end
end Go.W
