/- Part 15 of what the claim is proved by: lemmas on the model and walks through functions of the program; no conditions. -/
import Derived.Test.YtmdpbfghjdljiaaGreatV14
import Derived.SizedLaws
namespace Go.V
open Go Go.W Go.ChangeShapes Go.WideShapes Go.ChangeAt Go.RowKit Go.Deep
theorem and_tt {a b : Bool} (h : a = true) (k : b = true) : (a && b) = true := by rw [h, k]; rfl
section
variable {H : Type} {enc : TypeId × Value → H} {P : Program} {w : World} {held : Bool}
def Light (P : Program) (t : TypeId) (d : DataW H) : Prop := ∀ q ∈ d.weights P t, q ≤ reachBytes
def Rs (enc : TypeId × Value → H) (P : Program) (w : World) (held : Bool) (e sz : Nat) {α : Type} (f : α → AV) (ok : α → Prop) : Prop :=
  ∀ n cs y, DataW.trod enc P w 0 (fun _ => true) held n e cs = some y → Light P e y.1 → ∃ x : α, CL [] (mAll w) w cs (f x).cells ∧ cs.length = sz ∧ ok x
theorem Rs.int {e : Nat} {k : IntKind} (he : P.underlying e = some (.int k)) : Rs enc P w held e 1 (fun n : Int => .raw (.int k n)) (fun _ => True) := by
  intro n cs y h _
  obtain ⟨i, rfl, rfl, _⟩ := DataW.trod_int he h
  exact ⟨i, CL.one rfl (.raw rfl), rfl, trivial⟩
theorem Rs.bool {e : Nat} (he : P.underlying e = some .bool) : Rs enc P w held e 1 (fun b : Bool => .raw (.bool b)) (fun _ => True) := by
  intro n cs y h _
  obtain ⟨i, rfl, rfl⟩ := DataW.trod_bool he h
  exact ⟨i, CL.one rfl (.raw rfl), rfl, trivial⟩
theorem mem_all {e : TypeId} {d : DataW H} {q : Nat} : ∀ {l : List (DataW H)}, d ∈ l → q ∈ d.weights P e → q ∈ DataW.weightsAll P e l
  | x :: l, h, hq => by
    rw [DataW.weightsAll, List.mem_append]
    rcases List.mem_cons.1 h with rfl | h
    · exact .inl hq
    · exact .inr (mem_all h hq)
theorem mem_each {t : TypeId} {d : DataW H} {q : Nat} : ∀ {ts : List TypeId} {l : List (DataW H)} {i : Nat}, ts[i]? = some t → l[i]? = some d → q ∈ d.weights P t → q ∈ DataW.weightsEach P ts l
  | u :: ts, x :: l, i, h, h', hq => by
    rw [DataW.weightsEach, List.mem_append]
    cases i with
    | zero => simp at h h'; subst h h'; exact .inl hq
    | succ i => exact .inr (mem_each (by simpa using h) (by simpa using h') hq)
  | [], _, i, h, _, _ => by simp at h
  | _ :: _, [], i, _, h, _ => by simp at h
theorem Rs.slice {t e sz B : Nat} {α : Type} {f : α → AV} {ok : α → Prop} (ht : P.underlying t = some (.slice e)) (hc : P.cellsOf e = sz) (hB : P.bytesOf e = B) (hsz : 0 < sz) (h : Rs enc P w held e sz f ok) :
    Rs enc P w held t 1 (fun l : List α => .sl sz none (l.map f)) (fun l => l.length * B ≤ reachBytes ∧ ∀ x ∈ l, ok x) := by
  intro n cs y hy hlight
  rcases open_slice ht hy with ⟨rfl, rfl⟩ | ⟨a, len, cap, m, n', D, Pl, rfl, _, hl, hm, hmm, rfl, hx⟩
  · exact ⟨[], CL.one rfl (.nil nofun), rfl, by simp⟩
  · have hlm : len ≤ m := by rw [hmm]; split <;> omega
    have hwt : ∀ q, q ∈ ((((List.range len).map D).length + ((List.range (m - len)).map fun j => D (len + j)).length) * P.bytesOf e :: (DataW.weightsAll P e ((List.range len).map D) ++ DataW.weightsAll P e ((List.range (m - len)).map fun j => D (len + j)))) → q ≤ reachBytes := fun q hq => hlight q (by
      show q ∈ DataW.weights P t (.slice _ _)
      rw [DataW.weights, ht]
      exact hq)
    have hD : ∀ i, i < len → Light P e (D i) := fun i hi q hq => hwt q (by
      refine List.mem_cons_of_mem _ (List.mem_append_left _ (mem_all (d := D i) (List.mem_map.2 ⟨i, List.mem_range.2 hi, rfl⟩) hq))
      )
    have hlen : len * B ≤ reachBytes := by
      have := hwt _ (List.mem_cons_self ..)
      rw [hB] at this
      simp only [List.length_map, List.length_range] at this
      exact Nat.le_trans (Nat.mul_le_mul_right B (by omega)) this
    have each : ∀ i, i < len → ∃ q : α × List Value, CL [] (mAll w) w q.2 (f q.1).cells ∧ q.2.length = sz ∧ ok q.1 ∧ CellsAt (mAll w) w ⟨a.block, a.off + i * sz, none⟩ q.2 ∧ (i = 0 → a.spot = none) := by
      intro i hi
      obtain ⟨cs', h1, h2⟩ := hx i (by omega)
      obtain ⟨x, g1, g2, g3⟩ := h n' cs' _ h2 (hD i hi)
      rw [hc] at h1
      obtain ⟨k1, k2, k3⟩ := cells_all h1
      rw [Addr.add_block, Addr.add_off] at k2
      refine ⟨(x, cs'), g1, g2, g3, k2, fun e => ?_⟩
      subst e
      have := k3 hsz
      simpa [Addr.add] using this
    by_cases hl0 : len = 0
    · subst hl0
      refine ⟨[], CL.one rfl ?_, rfl, by simp⟩
      simp only [if_true] at hmm
      subst hmm
      obtain ⟨b, o, s⟩ := a
      by_cases hc0 : m = 0
      · subst hc0; exact .sl0 nofun
      · obtain ⟨cs', h1, _⟩ := hx 0 (by omega)
        rw [hc] at h1
        have h2 := (cells_all h1).2.2 hsz
        obtain rfl : s = none := by simpa [Addr.add] using h2
        exact Rep.sl (xs := []) (fun _ => []) nofun (Nat.zero_le _) hm (by simp) (by simp)
    obtain ⟨q0, _⟩ := each 0 (by omega)
    haveI : Inhabited (α × List Value) := ⟨q0⟩
    obtain ⟨q, hq⟩ := choose_lt each
    have key : ∀ (i : Nat) x, ((List.range len).map fun i => (q i).1)[i]? = some x → i < len ∧ x = (q i).1 := by
      intro i x hx
      rw [List.getElem?_map] at hx
      have hi : i < len := by
        cases hr : (List.range len)[i]? with
        | none => rw [hr] at hx; simp at hx
        | some z => have := (List.getElem?_eq_some_iff.1 hr).1; simpa using this
      rw [List.getElem?_range hi] at hx
      simp at hx
      exact ⟨hi, hx.symm⟩
    refine ⟨(List.range len).map fun i => (q i).1, CL.one rfl ?_, rfl, by simpa using hlen, fun x hx => ?_⟩
    · obtain ⟨b, o, s⟩ := a
      have hlen : (((List.range len).map fun i => (q i).1).map f).length = len := by simp
      have hx2 : ∀ (i : Nat) x, (((List.range len).map fun i => (q i).1).map f)[i]? = some x → i < len ∧ x = f (q i).1 := by
        intro i x hx
        rw [List.getElem?_map] at hx
        cases hr : ((List.range len).map fun i => (q i).1)[i]? with
        | none => rw [hr] at hx; simp at hx
        | some z => rw [hr] at hx; simp at hx; obtain ⟨h1, rfl⟩ := key i z hr; exact ⟨h1, hx.symm⟩
      have hs : s = none := (hq 0 (by omega)).2.2.2.2 rfl
      subst hs
      have hfin := Rep.sl (m := mAll w) (w := w) (γ := []) (sz := sz) (nl := none) (xs := ((List.range len).map fun i => (q i).1).map f) (b := b) (o := o) (cap := cap) (fun i => (q i).2) nofun (by rw [hlen]; exact hl) hm (fun i x hx => ?_) (fun i x j c y hx hj hy => ?_)
      · rw [hlen] at hfin; exact hfin
      · obtain ⟨hi, rfl⟩ := hx2 i x hx
        obtain ⟨c1, c2, c3, c4, _⟩ := hq i hi
        exact ⟨c2, by rw [← c1.1, c2], c4, c1.2.1⟩
      · obtain ⟨hi, rfl⟩ := hx2 i x hx
        exact (hq i hi).1.2.2 j c y hj hy
    · obtain ⟨i, hi, rfl⟩ := List.mem_map.1 hx
      exact (hq i (List.mem_range.1 hi)).2.2.1
/-! ### Structs, field by field -/
def RsS (enc : TypeId × Value → H) (P : Program) (w : World) (held : Bool) (fs : List Field) (o sz : Nat) {α : Type} (g : α → List AV) (ok : α → Prop) : Prop :=
  ∀ (m : Nat) (cs : List Value) (xs : List (DataW H × List MemPlace)), (∀ (i : Nat) f, fs[i]? = some f → DataW.trod enc P w 0 (fun _ => true) held m f.type ((cs.drop f.offset).take (P.cellsOf f.type)) = xs[i]?) → xs.length = fs.length →
    (∀ (i : Nat) f x, fs[i]? = some f → xs[i]? = some x → Light P f.type x.1) → ∃ x : α, CL [] (mAll w) w ((cs.drop o).take sz) (g x) ∧ ((cs.drop o).take sz).length = sz ∧ ok x
theorem RsS.nil {o : Nat} : RsS enc P w held [] o 0 (fun _ : Unit => []) (fun _ => True) := fun _ _ _ _ _ _ => ⟨(), ⟨rfl, by simp, by simp⟩, rfl, trivial⟩
theorem CL.app {γ m} {w : World} {vs us : List Value} {cs ds : List AV} (h : CL γ m w vs cs) (k : CL γ m w us ds) : CL γ m w (vs ++ us) (cs ++ ds) := by
  refine ⟨by rw [List.length_append, List.length_append, h.1, k.1], fun c hc => (List.mem_append.1 hc).elim (h.2.1 c) (k.2.1 c), fun j v c hv hc => ?_⟩
  by_cases hj : j < vs.length
  · rw [List.getElem?_append_left hj] at hv
    rw [List.getElem?_append_left (by rw [← h.1]; exact hj)] at hc
    exact h.2.2 j v c hv hc
  · rw [List.getElem?_append_right (by omega)] at hv
    rw [List.getElem?_append_right (by rw [← h.1]; omega), ← h.1] at hc
    exact k.2.2 _ v c hv hc
theorem RsS.cons {fs : List Field} {f : Field} {o s1 s2 : Nat} {α β : Type} {f1 : α → AV} {g : β → List AV} {ok1 : α → Prop} {ok2 : β → Prop} (hf : Rs enc P w held f.type s1 f1 ok1) (h : RsS enc P w held fs (o + s1) s2 g ok2) (ho : f.offset = o) (hc : P.cellsOf f.type = s1) :
    RsS enc P w held (f :: fs) o (s1 + s2) (fun x : α × β => (f1 x.1).cells ++ g x.2) (fun x => ok1 x.1 ∧ ok2 x.2) := by
  intro m cs xs hx hl hlt
  match xs, hl with
  | y :: ys, hl =>
    have h0 := hx 0 f rfl
    simp only [List.getElem?_cons_zero] at h0
    rw [ho, hc] at h0
    obtain ⟨x, a1, a2, a3⟩ := hf m _ y h0 (hlt 0 f y rfl rfl)
    obtain ⟨x2, b1, b2, b3⟩ := h m cs ys (fun i f hi => by have := hx (i + 1) f (by simpa using hi); simpa using this) (by simpa using hl) (fun i f x hi hj => hlt (i + 1) f x (by simpa using hi) (by simpa using hj))
    have e : (cs.drop o).take (s1 + s2) = (cs.drop o).take s1 ++ (cs.drop (o + s1)).take s2 := by rw [List.take_add, List.drop_drop]
    exact ⟨(x, x2), by rw [e]; exact a1.app b1, by rw [e, List.length_append, a2, b2], a3, b3⟩
theorem Rs.struct {t sz : Nat} {fs : Array Field} {α : Type} {g : α → List AV} {ok : α → Prop} (ht : P.underlying t = some (.struct fs)) (hc : P.cellsOf t = sz) (h : RsS enc P w held fs.toList 0 sz g ok) : Rs enc P w held t sz (fun x => .st (g x)) ok := by
  intro n cs y hy hlight
  obtain ⟨xs, m, hm, rfl, hcl, hxl, hf⟩ := DataW.trod_struct ht hy
  rw [hc] at hcl
  obtain ⟨x, h1, h2, h3⟩ := h m cs xs (fun i f hi => hf i f (by simpa using hi)) (by simpa using hxl) (fun i f x hi hxi q hq => hlight q (by
    show q ∈ DataW.weights P t (.agg _)
    rw [DataW.weights, ht]
    exact mem_each (i := i) (by rw [List.getElem?_map, hi]; rfl) (by rw [List.getElem?_map, hxi]; rfl) hq))
  rw [List.drop_zero, List.take_of_length_le (by omega)] at h1
  exact ⟨x, h1, hcl, h3⟩
theorem Rs.map {e sz : Nat} {α β : Type} {f : α → AV} {f' : β → AV} {ok : α → Prop} {ok' : β → Prop} (h : Rs enc P w held e sz f ok) (φ : α → β) (hf : ∀ x, (f' (φ x)).cells = (f x).cells) (hok : ∀ x, ok x → ok' (φ x)) : Rs enc P w held e sz f' ok' := fun n cs y hy hl => by
  obtain ⟨x, h1, h2, h3⟩ := h n cs y hy hl
  exact ⟨φ x, by rw [hf]; exact h1, h2, hok x h3⟩
theorem Rs.arg1 {t : Nat} {α : Type} {f : α → AV} {ok : α → Prop} {v : Value} {d : DataW H} {p : List MemPlace} (h : Rs enc P w held t 1 f ok) (hv : v.oneCell' = true) (hf : ∀ x, (f x).cells = [f x]) (ht : DataW.Trod enc P w 0 (fun _ => true) held t v d p) (hl : Light P t d) : ∃ x : α, Rep (mAll w) w [] v (f x) ∧ ok x := by
  obtain ⟨fuel, hy⟩ := ht
  rw [cells_one hv] at hy
  obtain ⟨x, h1, _, h3⟩ := h _ _ _ hy hl
  rw [hf] at h1
  exact ⟨x, h1.2.2 0 v (f x) rfl rfl, h3⟩
theorem Rs.argS {t sz : Nat} {α : Type} {g : α → List AV} {ok : α → Prop} {vs : Array Value} {d : DataW H} {p : List MemPlace} (h : Rs enc P w held t sz (fun x => .st (g x)) ok) (ht : DataW.Trod enc P w 0 (fun _ => true) held t (.agg vs) d p) (hl : Light P t d) : ∃ x : α, Rep (mAll w) w [] (.agg vs) (.st (g x)) ∧ ok x := by
  obtain ⟨fuel, hy⟩ := ht
  obtain ⟨x, h1, _, h3⟩ := h _ _ _ hy hl
  refine ⟨x, ?_, h3⟩
  have hcells : Value.cells (.agg vs) = vs := rfl
  rw [hcells] at h1
  obtain ⟨a, b, c⟩ := h1
  exact .st a b c
end
end Go.V
