/- Part 1 of what the claim is proved by: lemmas on the model and walks through functions of the program; no conditions. -/
import Derived.Test.YthoblhbdeamjmaaB1
import Derived.Test.YthoblhbdeamjmaaW2
/- Graphs that are formed, and graphs with one more class: plain laws, rules for min and conversions. -/
namespace Go.V
open Go Go.W
section
variable {C : Cx} {ops : Array Oper} {Q : Qt} {ρ : Ro} {η η2 : Eta} {rest : List Oper} {T d X Y : Nat} {pos : String} {af : Array Edge} {x y : Operand} {at_ : Array TypeId}
theorem OL.min2 {i j : Int} (k : OL C ops Q rest ((d, V.int (if j < i then j else i)) :: ρ) η) (hx : ev2 ρ x = some (.raw (.int .i64 i)) := by with_unfolding_all exact rfl) (hy : ev2 ρ y = some (.raw (.int .i64 j)) := by with_unfolding_all exact rfl) (hd : Nat.blt d C.N = true := by with_unfolding_all exact rfl) : OL C ops Q (⟨some d, .call ⟨.builtin .min, #[x, y], at_⟩, T, pos, af, none⟩ :: rest) ρ η :=
  OL.give (fun m w γ ρc a hE hR hH => ⟨_, .raw rfl, fun _ _ _ _ _ _ => by simp [execOp, resolve, invoke, builtin, hE.ev (hR.raw hx), hE.ev (hR.raw hy), run_min_int2]⟩) hd k
theorem OL.conv {k : IntKind} {n : Int} (h1 : C.P.underlying X = some (.int k)) (h2 : C.P.underlying Y = some (.int .i64)) (h0 : -9223372036854775808 ≤ n) (h6 : n ≤ 9223372036854775807) (kk : OL C ops Q rest ((d, V.int n) :: ρ) η) (hx : ev2 ρ x = some (.raw (.int k n)) := by with_unfolding_all exact rfl) (hd : Nat.blt d C.N = true := by with_unfolding_all exact rfl) : OL C ops Q (⟨some d, .convert X Y x, T, pos, af, none⟩ :: rest) ρ η :=
  OL.give (fun m w γ ρc a hE hR hH => ⟨_, .raw rfl, fun _ _ _ _ _ _ => by
    have hk : C.P.intKind Y = .i64 := by simp [Program.intKind, h2]
    have := run_convert_int (P := C.P) (w := ‹World›) X Y k n (by rw [h1]; rfl) (by rw [hk]; exact h2)
    rw [hk, i64_wrap h0 h6] at this
    simp [execOp, hE.ev (hR.raw hx), this]⟩) hd kk
theorem OL.neBl {Z : Nat} {a b : Bool} (hu : C.P.underlying X = some .bool) (k : OL C ops Q rest ((d, V.bool (!(a == b))) :: ρ) η) (hx : ev2 ρ x = some (.raw (.bool a)) := by with_unfolding_all exact rfl) (hy : ev2 ρ y = some (.raw (.bool b)) := by with_unfolding_all exact rfl) (hd : Nat.blt d C.N = true := by with_unfolding_all exact rfl) : OL C ops Q (⟨some d, .binOp .neq X x y Z, T, pos, af, none⟩ :: rest) ρ η :=
  OL.give (fun m w γ ρc a' hE hR hH => ⟨_, .raw rfl, fun _ _ _ _ _ _ => by simp [execOp, hE.ev (hR.raw hx), hE.ev (hR.raw hy), eqGuard, run_neq_bool, hu]⟩) hd k
end
end Go.V
namespace Go.Proofs
open Go Go.W Go.V
abbrev u8A (n : Int) : AV := .raw (.int .u8 n)
abbrev u8s (l : List Int) : AV := .sl 1 none (l.map u8A)
theorem s_law03_formed (g : List (List Int)) : V.Spec Try.prog Fc.law03_formed [rows g] [] (V.bool (fine g)) [] := by
  refine V.Spec.enter Try.tabOK Try.mixed Fn.law03_formed rfl rfl rfl fun B hB => ?_
  refine TC.bl 0 fun hlen => ?_
  repeat' (first
   | (with_reducible refine OL.st ?_)
   | (with_reducible refine TC.region ?_)
   | (with_reducible refine TC.seq ?_)
   | (with_reducible refine OL.nil ?_)
   | (with_reducible refine TX.thenN ?_)
   | (with_reducible refine TC.block ?_)
   | (with_reducible refine TC.skip ?_)
   | (with_reducible refine TC.ifD ?_ ?_ <;> (intro hc; try (exfalso; omega)))
   | (with_reducible refine TC.ret ?_)
   | (with_reducible refine TX.thenR ?_)
   | fail)
  · refine TX.rt1 [] (.bool ?_)
    have : decide (g.length ≤ 16) = false := by simp; omega
    simp [fine, this]
  have hfine : fine g = okRows 0 g := by
    have : decide (g.length ≤ 16) = true := by simp; omega
    simp [fine, this]
  have h16 : g.length ≤ 16 := by omega
  refine TC.lp (fun i : Nat => [(10, rows g), (11, V.int g.length), (12, V.int i)]) (fun _ => []) (fun i => i ≤ g.length ∧ okRows 0 g = okRows i (g.drop i)) (fun i => g.length - i) 0 [] ⟨Nat.zero_le _, rfl⟩ ?_
  rintro i ⟨hi, hinv⟩
  repeat' (first
   | (with_reducible refine OL.st ?_)
   | (with_reducible refine TC.region ?_)
   | (with_reducible refine TC.seq ?_)
   | (with_reducible refine OL.nil ?_)
   | (with_reducible refine TX.thenN ?_)
   | (with_reducible refine TC.block ?_)
   | (with_reducible refine TC.skip ?_)
   | (with_reducible refine TC.exit ?_)
   | (with_reducible refine TX.hit ?_)
   | (with_reducible refine TX.thenX ?_)
   | (with_reducible refine TC.ifD ?_ ?_ <;> (intro hc; try (exfalso; omega)))
   | (with_reducible refine TC.ret ?_)
   | (with_reducible refine TX.thenR ?_)
   | (with_reducible refine TX.blkR ?_)
   | fail)
  · refine TX.rt1 [] (.bool ?_)
    rw [hfine, hinv, drop_cons (by omega)]
    have : decide (g[i].length ≤ 3) = false := by simp; omega
    simp [okRows, this]
  · have hr3 : g[i].length ≤ 3 := by omega
    have hst : okRows i (g.drop i) = (okRow i [] g[i] && okRows (i + 1) (g.drop (i + 1))) := by
      rw [drop_cons (by omega)]
      have : decide (g[i].length ≤ 3) = true := by simp; omega
      simp [okRows, this]
    generalize g[i] = r at *
    refine TC.lp (fun k : Nat => [(3, V.int i), (4, ints r), (20, ints r), (21, V.int r.length), (22, V.int k), (10, rows g), (11, V.int g.length), (12, V.int i)]) (fun _ => []) (fun k => k ≤ r.length ∧ okRow i [] r = okRow i (r.take k) (r.drop k)) (fun k => r.length - k) 0 [] ⟨Nat.zero_le _, rfl⟩ ?_
    rintro k ⟨hk, hki⟩
    have hfail : okRow i (r.take k) (r.drop k) = false → fine g = false := fun hb => by rw [hfine, hinv, hst, hki.trans hb]; rfl
    repeat' (first
     | (with_reducible refine OL.st ?_)
     | (with_reducible refine TC.region ?_)
     | (with_reducible refine TC.seq ?_)
     | (with_reducible refine OL.nil ?_)
     | (with_reducible refine TX.thenN ?_)
     | (with_reducible refine TC.block ?_)
     | (with_reducible refine TC.skip ?_)
     | (with_reducible refine TX.blkN ?_)
     | (with_reducible refine TC.exit ?_)
     | (with_reducible refine TX.hit ?_)
     | (with_reducible refine TX.thenX ?_)
     | (with_reducible refine TC.ifT ?_)
     | (with_reducible refine OL.gOn ?_)
     | (with_reducible refine OL.gOff ?_)
     | (with_reducible refine TC.ifD ?_ ?_ <;> (intro hc; try (exfalso; omega)))
     | (with_reducible refine OL.gD ?_ ?_ <;> (intro hc; try (exfalso; omega)))
     | (with_reducible refine TC.ret ?_)
     | (with_reducible refine TX.thenR ?_)
     | (with_reducible refine TX.blkR ?_)
     | fail)
    · refine TX.rt1 [] (.bool ?_)
      rw [hfail]
      rw [drop_cons (by omega)]
      have : decide (3 ≤ r[k]) = false := by simp; omega
      simp [okRow, this]
    · refine TX.rt1 [] (.bool ?_)
      rw [hfail]
      rw [drop_cons (by omega)]
      have : decide (r[k] < 3 + (i : Int)) = false := by simp; omega
      simp [okRow, this]
    · refine OL.c (s_slices_Contains_Lint_int (r.take k) r[k]) Fn.slices_Contains_Lint_int ?_
      have e1 : decide (3 ≤ r[k]) = true := by simp; omega
      have e2 : decide (r[k] < 3 + (i : Int)) = true := by simp; omega
      repeat' (first
       | (with_reducible refine OL.st ?_)
       | (with_reducible refine OL.nil ?_)
       | (with_reducible refine TX.thenN ?_)
       | fail)
      refine TC.ifB (fun hct => ?_) (fun hct => ?_)
      · repeat' (first
         | (with_reducible refine OL.st ?_)
         | (with_reducible refine TC.region ?_)
         | (with_reducible refine TC.seq ?_)
         | (with_reducible refine OL.nil ?_)
         | (with_reducible refine TX.thenN ?_)
         | (with_reducible refine TC.ret ?_)
         | (with_reducible refine TX.thenR ?_)
         | (with_reducible refine TX.blkR ?_)
         | fail)
        refine TX.rt1 [] (.bool ?_)
        rw [hfail]
        rw [drop_cons (by omega), okRow, hct]
        simp
      · repeat' (first
         | (with_reducible refine OL.st ?_)
         | (with_reducible refine TC.region ?_)
         | (with_reducible refine OL.nil ?_)
         | (with_reducible refine TX.thenN ?_)
         | (with_reducible refine TC.skip ?_)
         | (with_reducible refine TX.blkN ?_)
         | fail)
        refine TX.rd (k + 1) [] ⟨by omega, ?_⟩ (by omega)
        rw [hki, drop_cons (by omega), take_succ (by omega)]
        rw [okRow, e1, e2, hct]
        rfl
    · refine TX.rd (i + 1) [] ⟨by omega, ?_⟩ (by omega)
      rw [hinv, hst, hki, drop_nil (by omega)]
      rfl
  · refine TX.rt1 [] (.bool ?_)
    rw [hfine, hinv, drop_nil (by omega)]
    rfl
end Go.Proofs
/- Plain laws: a graph with one more class. -/
namespace Go.Proofs
open Go Go.W Go.V
theorem okRows_append : ∀ (g r : List (List Int)) (i : Nat), okRows i (g ++ r) = (okRows i g && okRows (i + g.length) r)
  | [], r, i => by simp [okRows]
  | l :: g, r, i => by
    rw [List.cons_append, okRows, okRows, okRows_append g r (i + 1), Bool.and_assoc]
    simp only [List.length_cons]
    rw [show i + 1 + g.length = i + (g.length + 1) by omega]
    simp only [Bool.and_assoc]
theorem okRow_of (i : Nat) : ∀ (l pre : List Int), l.Nodup → (∀ c ∈ l, (3 ≤ c ∧ c < 3 + (i : Int)) ∧ c ∉ pre) → okRow i pre l = true
  | [], _, _, _ => rfl
  | c :: r, pre, hn, h => by
    obtain ⟨hc, hn'⟩ := List.nodup_cons.1 hn
    obtain ⟨⟨h1, h2⟩, h3⟩ := h c (by simp)
    have h4 : pre.contains c = false := by
      cases hq : pre.contains c with
      | false => rfl
      | true => exact absurd (List.contains_iff_mem.1 hq) h3
    rw [okRow, h4, decide_eq_true h1, decide_eq_true h2, okRow_of i r (pre ++ [c]) hn' fun x hx => ⟨(h x (by simp [hx])).1, fun hm => ?_⟩]
    · rfl
    · rcases List.mem_append.1 hm with hm | hm
      · exact (h x (by simp [hx])).2 hm
      · simp at hm; subst hm; exact hc hx
theorem fine_ext {g : List (List Int)} {m : List Int} (hf : fine g = true) (hl : g.length < 16) (hm : m.length ≤ 3) (hn : m.Nodup) (hr : ∀ c ∈ m, 3 ≤ c ∧ c < 3 + (g.length : Int)) : fine (g ++ [m]) = true := by
  simp only [fine, Bool.and_eq_true, decide_eq_true_eq] at hf ⊢
  refine ⟨by simp; omega, ?_⟩
  rw [okRows_append, hf.2, okRows, okRows, Nat.zero_add, decide_eq_true hm, okRow_of g.length m [] hn fun c hc => ⟨hr c hc, by simp⟩]; rfl
theorem ordersF_ext (m : List Int) : ∀ (r acc : List (List Int)), ordersF acc (r ++ [m]) = ordersF acc r ++ [orderOf (ordersF acc r) m (ordersF acc r).length]
  | [], acc => rfl
  | ps :: r, acc => by rw [List.cons_append, ordersF, ordersF, ordersF_ext m r]
theorem orders_ext (g : List (List Int)) (m : List Int) : orders (g ++ [m]) = orders g ++ [orderOf (orders g) m (orders g).length] := by
  rw [orders, ← List.append_assoc, ordersF_ext]; rfl
theorem upsF_ext (m : List Int) : ∀ (r : List (List Int)) (us : List Nat), upsF us (r ++ [m]) = upsF us r ++ [upOf (upsF us r) m (upsF us r).length]
  | [], us => rfl
  | p :: r, us => by rw [List.cons_append, upsF, upsF, upsF_ext m r]
theorem upHas_ext {g : List (List Int)} (m : List Int) {a : Int} (ha : 0 ≤ a ∧ a < 3 + (g.length : Int)) (b : Int) : upHas (g ++ [m]) a b = upHas g a b := by
  have e : parentsOf (g ++ [m]) = parentsOf g ++ [m] := by simp [parentsOf]
  have hl := ups_length g
  have : (ups (g ++ [m])).getD a.toNat 0 = (ups g).getD a.toNat 0 := by
    rw [ups, e, upsF_ext, List.getD_eq_getElem?_getD, List.getElem?_append_left (by rw [ups] at hl; omega), ← List.getD_eq_getElem?_getD]; rfl
  rw [upHas, upHas, this]
theorem lin_ext {g : List (List Int)} {m : List Int} (hf : fine g = true) (hfh : fine (g ++ [m]) = true) {a : Int} (ha : 0 ≤ a ∧ a < 3 + (g.length : Int)) : linL (g ++ [m]) a = linL g a ∧ linE (g ++ [m]) a = linE g a := by
  have hol := (orders_ok hf).2
  have h1 : okc g a = true := by rw [okc, hf, decide_eq_true ha.1, decide_eq_true ha.2]; rfl
  have h2 : okc (g ++ [m]) a = true := by rw [okc, hfh, decide_eq_true ha.1, decide_eq_true (show a < 3 + ((g ++ [m]).length : Int) by simp; omega)]; rfl
  have h3 : at_ (orders (g ++ [m])) a = at_ (orders g) a := by
    rw [at_, at_, orders_ext, List.getD_eq_getElem?_getD, List.getElem?_append_left (by omega), ← List.getD_eq_getElem?_getD]
  rw [linL, linL, linE, linE, h1, h2, h3]; exact ⟨rfl, rfl⟩
theorem oks_pair {g : List (List Int)} (hf : fine g = true) {a b : Int} (ha : 0 ≤ a ∧ a < 3 + (g.length : Int)) (hb : 0 ≤ b ∧ b < 3 + (g.length : Int)) : oks g [a, b] = true := by
  simp [oks, hf, ha.1, ha.2, hb.1, hb.2]
theorem bel_ext {g : List (List Int)} {m : List Int} (hf : fine g = true) (hfh : fine (g ++ [m]) = true) {a b : Int} (ha : 0 ≤ a ∧ a < 3 + (g.length : Int)) (hb : 0 ≤ b ∧ b < 3 + (g.length : Int)) :
    oks (g ++ [m]) [a, b] = true ∧ belR (g ++ [m]) a b = belR g a b := by
  have h1 := oks_pair hf ha hb
  have h2 : oks (g ++ [m]) [a, b] = true := oks_pair hfh ⟨ha.1, by simp; omega⟩ ⟨hb.1, by simp; omega⟩
  refine ⟨h2, ?_⟩
  rw [belR, belR, h1, h2, upHas_ext m ha]
theorem least_ext {g : List (List Int)} {m : List Int} (hf : fine g = true) (hfh : fine (g ++ [m]) = true) {l : List Int} (h0 : l ≠ []) (hl : ∀ c ∈ l, 0 ≤ c ∧ c < 3 + (g.length : Int)) (h16 : l.length ≤ 16) :
    asks g l = true ∧ asks (g ++ [m]) l = true ∧ leastR (g ++ [m]) l = leastR g l := by
  have h1 : asks g l = true := by
    rw [asks_eq hf, decide_eq_true h16, Bool.true_and, List.all_eq_true]
    intro c hc; have := hl c hc; simp [isClass, this.1, this.2]
  have h2 : asks (g ++ [m]) l = true := by
    rw [asks_eq hfh, decide_eq_true h16, Bool.true_and, List.all_eq_true]
    intro c hc; have := hl c hc
    rw [isClass, decide_eq_true this.1, decide_eq_true (show c < 3 + ((g ++ [m]).length : Int) by simp; omega)]; rfl
  refine ⟨h1, h2, ?_⟩
  have h17 := fine_len hf
  have hup : ∀ c ∈ l, ∀ b, upHas (g ++ [m]) c b = upHas g c b := fun c hc b => upHas_ext m (hl c hc) b
  have hp : ∀ b, (l.all fun c => upHas (g ++ [m]) c b) = l.all fun c => upHas g c b := fun b => by
    rw [Bool.eq_iff_iff, List.all_eq_true, List.all_eq_true]
    exact ⟨fun h c hc => by rw [← hup c hc b]; exact h c hc, fun h c hc => by rw [hup c hc b]; exact h c hc⟩
  have hnew : (l.all fun c => upHas g c ((3 + g.length : Nat) : Int)) = false := by
    obtain ⟨c, hc⟩ := List.exists_mem_of_ne_nil l h0
    have hcr := hl c hc
    rw [List.all_eq_false]
    refine ⟨c, hc, fun h => ?_⟩
    obtain ⟨k, rfl⟩ := Int.eq_ofNat_of_zero_le hcr.1
    have := upHas_le hf (a := k) (by omega) (b := ((3 + g.length : Nat) : Int)) (by omega) (by omega) h
    omega
  have hcom : comR (g ++ [m]) l = comR g l := by
    rw [comR, comR, clsL, clsL, show 3 + (g ++ [m]).length = (3 + g.length) + 1 by simp; omega, upto_filter_succ, hp, hnew]
    simp only [Bool.false_eq_true, if_false, List.append_nil]
    exact List.filter_congr fun b _ => hp b
  rw [leastR, leastR, h1, h2, lstR, lstR, hcom]
  simp only [if_true]
  obtain ⟨_, _, hcm⟩ := comR_spec g l
  refine List.filter_congr fun c _ => ?_
  rw [Bool.eq_iff_iff, List.all_eq_true, List.all_eq_true]
  have hl : ∀ d ∈ comR g l, lstP (g ++ [m]) c d = lstP g c d := fun d hd => by rw [lstP, lstP, upHas_ext m (hcm d hd)]
  exact ⟨fun h d hd => by rw [← hl d hd]; exact h d hd, fun h d hd => by rw [hl d hd]; exact h d hd⟩
end Go.Proofs
/- LineMore. -/
namespace Go.Proofs
open Go Go.W Go.V
theorem s_slices_Clone_LLint_Lint (l : List (List Int)) (hb : l.length ≤ 1000000000) : V.Spec Try.prog Fc.slices_Clone_LLint_Lint [rows l] [] (.hs 0) [.gs false Tc.Lint 1 none (l.map ints)] := by
  refine V.Spec.enter Try.tabOK Try.mixed Fn.slices_Clone_LLint_Lint rfl rfl rfl fun B hB => ?_
  repeat' (first
   | (with_reducible refine OL.st ?_)
   | (with_reducible refine TC.region ?_)
   | (with_reducible refine TC.seq ?_)
   | (with_reducible refine OL.nil ?_)
   | (with_reducible refine TX.thenN ?_)
   | fail)
  refine OL.isNil (fun h => ?_) ?_
  · repeat' (first
     | (with_reducible refine OL.st ?_)
     | (with_reducible refine TC.region ?_)
     | (with_reducible refine TC.seq ?_)
     | (with_reducible refine OL.nil ?_)
     | (with_reducible refine TX.thenN ?_)
     | (with_reducible refine TC.ifT ?_)
     | (with_reducible refine TC.ret ?_)
     | (with_reducible refine TX.thenR ?_)
     | fail)
    have e : [] = l.map ints := h.symm
    refine TX.adp 2 Tc.Lint 1 ?_
    exact TX.rt1 [0] (.ren rfl)
  · repeat' (first
     | (with_reducible refine OL.st ?_)
     | (with_reducible refine OL.lit0 ?_)
     | (with_reducible refine OL.app ?_)
     | (with_reducible refine TC.region ?_)
     | (with_reducible refine TC.seq ?_)
     | (with_reducible refine OL.nil ?_)
     | (with_reducible refine TX.thenN ?_)
     | (with_reducible refine TC.skip ?_)
     | (with_reducible refine TC.ifF ?_)
     | (with_reducible refine TC.ret ?_)
     | fail)
    exact TX.rt1 [1] (.ren rfl)
theorem u8_bound {n : Int} (h : (Lit.int .u8 n).wf = true) : 0 ≤ n ∧ n ≤ 255 := by
  simp only [Lit.wf, Bool.and_eq_true, decide_eq_true_eq] at h
  exact h
theorem ob_false {g : List (List Int)} (h : fine g = true) (hl : g.length ≠ 16) : g.length < 16 := by have := fine_len h; omega
set_option maxHeartbeats 4000000 in
theorem s_law03_LineMore (g : List (List Int)) (ps ls : List Int) (kp : ∀ x ∈ ps, (Lit.int .u8 x).wf = true) (kl : ∀ x ∈ ls, (Lit.int .u8 x).wf = true) : V.Spec Try.prog Fc.law03_LineMore [rows g, u8s ps, u8s ls] [] (V.bool true) [] := by
  refine V.Spec.enter Try.tabOK Try.mixed Fn.law03_LineMore rfl rfl rfl fun B hB => ?_
  refine TC.bl 1 fun hpl => TC.bl 2 fun hll => ?_
  repeat' (first
   | (with_reducible refine OL.st ?_)
   | (with_reducible refine TC.region ?_)
   | (with_reducible refine TC.seq ?_)
   | (with_reducible refine OL.nil ?_)
   | (with_reducible refine TX.thenN ?_)
   | fail)
  refine OL.c (s_law03_wide g) Fn.law03_wide ?_
  cases hw : wideR g
  · repeat' (first | (with_reducible refine OL.st ?_) | (with_reducible refine OL.gOn ?_) | fail)
    refine OL.c (s_law03_formed g) Fn.law03_formed ?_
    cases hf : fine g
    · repeat' (first
       | (with_reducible refine OL.st ?_)
       | (with_reducible refine TC.region ?_)
       | (with_reducible refine TC.seq ?_)
       | (with_reducible refine OL.nil ?_)
       | (with_reducible refine TX.thenN ?_)
       | (with_reducible refine TC.ifT ?_)
       | (with_reducible refine OL.gOn ?_)
       | (with_reducible refine OL.gOff ?_)
       | fail)
      refine OL.c s_law03_works Fn.law03_works ?_
      repeat' (first
       | (with_reducible refine OL.st ?_)
       | (with_reducible refine OL.nil ?_)
       | (with_reducible refine TX.thenN ?_)
       | (with_reducible refine TC.ret ?_)
       | (with_reducible refine TX.thenR ?_)
       | fail)
      exact TX.rt1 [] (.ren rfl)
    · have h16 := fine_len hf
      repeat' (first
       | (with_reducible refine OL.st ?_)
       | (with_reducible refine TC.region ?_)
       | (with_reducible refine TC.seq ?_)
       | (with_reducible refine OL.nil ?_)
       | (with_reducible refine TX.thenN ?_)
       | (with_reducible refine TC.skip ?_)
       | (with_reducible refine TC.ifT ?_)
       | (with_reducible refine OL.gOn ?_)
       | (with_reducible refine OL.gOff ?_)
       | (with_reducible refine TC.ifD ?_ ?_ <;> (intro hc; try (exfalso; omega)))
       | (with_reducible refine OL.gD ?_ ?_ <;> (intro hc; try (exfalso; omega)))
       | fail)
      · refine OL.c s_law03_works Fn.law03_works ?_
        repeat' (first
         | (with_reducible refine OL.st ?_)
         | (with_reducible refine OL.nil ?_)
         | (with_reducible refine TX.thenN ?_)
         | (with_reducible refine TC.ret ?_)
         | (with_reducible refine TX.thenR ?_)
         | fail)
        exact TX.rt1 [] (.ren rfl)
      · refine OL.c s_law03_works Fn.law03_works ?_
        repeat' (first
         | (with_reducible refine OL.st ?_)
         | (with_reducible refine OL.nil ?_)
         | (with_reducible refine TX.thenN ?_)
         | (with_reducible refine TC.ret ?_)
         | (with_reducible refine TX.thenR ?_)
         | fail)
        exact TX.rt1 [] (.ren rfl)
      · refine OL.min2 ?_
        obtain ⟨h, hh, hle, h3⟩ : ∃ h : Nat, (if (3 : Int) < (ps.length : Int) then (3 : Int) else (ps.length : Int)) = (h : Nat) ∧ h ≤ ps.length ∧ h ≤ 3 := by
          by_cases hc : 3 < ps.length
          · exact ⟨3, by rw [if_pos (by omega)]; rfl, by omega, Nat.le_refl _⟩
          · exact ⟨ps.length, by rw [if_neg (by omega)], Nat.le_refl _, by omega⟩
        rw [hh]
        have htl : (ps.take h).length = h := by simp; omega
        repeat' (first
         | (with_reducible refine OL.st ?_)
         | (with_reducible refine OL.nil ?_)
         | (with_reducible refine TX.thenN ?_)
         | (with_reducible refine TC.block ?_)
         | fail)
        refine TC.adp 7 Tc.int 1 ?_
        refine TC.frz 0 ?_
        refine TC.lp (fun s : Nat × List Int => [(0, rows g), (2, u8s ls), (7, .hs 0), (50, u8s (ps.take h)), (51, V.int h), (52, V.int s.1)]) (fun s => [.gs true Tc.int 1 none (s.2.map V.int)])
          (fun s => s.1 ≤ h ∧ s.2.length ≤ s.1 ∧ s.2.Nodup ∧ ∀ x ∈ s.2, 3 ≤ x ∧ x < 3 + (g.length : Int)) (fun s => h - s.1) (0, []) [0] ⟨Nat.zero_le _, Nat.le_refl _, List.nodup_nil, by simp⟩ ?_
        rintro ⟨i, m⟩ ⟨hi, hml, hmn, hmr⟩
        dsimp only at hi hml hmn hmr ⊢
        by_cases hih : i < h
        · have hpb := u8_bound (kp _ (List.mem_of_mem_take (List.getElem_mem (l := ps.take h) (n := i) (by omega))))
          generalize hpe : (ps.take h)[i]'(by omega) = p at hpb
          repeat' (first
           | (with_reducible refine OL.st ?_)
           | (with_reducible refine TC.region ?_)
           | (with_reducible refine TC.seq ?_)
           | (with_reducible refine OL.nil ?_)
           | (with_reducible refine TX.thenN ?_)
           | (with_reducible refine TC.block ?_)
           | (with_reducible refine TC.skip ?_)
           | (with_reducible refine TX.blkN ?_)
           | (with_reducible refine TC.ifF ?_)
           | (with_reducible refine OL.gOn ?_)
           | (with_reducible refine OL.gOff ?_)
           | (with_reducible refine TC.ifD ?_ ?_ <;> (intro hc; try (exfalso; omega)))
           | (with_reducible refine OL.gD ?_ ?_ <;> (intro hc; try (exfalso; omega)))
           | fail)
          · simp only [hpe]
            have hm0 : 0 ≤ p % (g.length : Int) := Int.emod_nonneg _ (by omega)
            have hm1 : p % (g.length : Int) < (g.length : Int) := Int.emod_lt_of_pos _ (by omega)
            refine OL.conv (n := p) Try.underlying5 Try.underlying3 (by omega) (by omega) ?_
            repeat' (first | (with_reducible refine OL.st ?_) | (with_reducible refine OL.gOn ?_) | fail)
            refine OL.vwA 0 ?_
            refine OL.c (s_slices_Contains_Lint_int m (3 + p % (g.length : Int))) Fn.slices_Contains_Lint_int ?_
            cases hct : m.contains (3 + p % (g.length : Int))
            · repeat' (first
               | (with_reducible refine OL.st ?_)
               | (with_reducible refine TC.region ?_)
               | (with_reducible refine OL.nil ?_)
               | (with_reducible refine TX.thenN ?_)
               | (with_reducible refine TC.ifT ?_)
               | (with_reducible refine OL.gOn ?_)
               | fail)
              refine OL.conv (n := p) Try.underlying5 Try.underlying3 (by omega) (by omega) ?_
              have e : m.map V.int ++ [V.int (3 + p % (g.length : Int))] = (m ++ [3 + p % (g.length : Int)]).map V.int := by simp
              have hnm : 3 + p % (g.length : Int) ∉ m := fun hm => by rw [List.contains_iff_mem.2 hm] at hct; cases hct
              repeat' (first
               | (with_reducible refine OL.st ?_)
               | (with_reducible refine OL.lit ?_)
               | (with_reducible refine OL.appO ?_)
               | (with_reducible refine TC.region ?_)
               | (with_reducible refine OL.nil ?_)
               | (with_reducible refine TX.thenN ?_)
               | (with_reducible refine TX.blkN ?_)
               | fail)
              refine TX.rd (i + 1, m ++ [3 + p % (g.length : Int)]) [2] ⟨by dsimp only; omega, by simp; omega, List.nodup_append.2 ⟨hmn, by simp, fun a ha b hb e => by simp at hb; subst e hb; exact hnm ha⟩, fun x hx => ?_⟩ (by dsimp only; omega)
              rcases List.mem_append.1 hx with hx | hx
              · exact hmr x hx
              · simp at hx; omega
            · repeat' (first
               | (with_reducible refine OL.st ?_)
               | (with_reducible refine TC.region ?_)
               | (with_reducible refine OL.nil ?_)
               | (with_reducible refine TX.thenN ?_)
               | (with_reducible refine TC.skip ?_)
               | (with_reducible refine TX.blkN ?_)
               | (with_reducible refine TC.ifF ?_)
               | (with_reducible refine OL.gOn ?_)
               | fail)
              exact TX.rd (i + 1, m) [0] ⟨by dsimp only; omega, by dsimp only; omega, hmn, hmr⟩ (by dsimp only; omega)
          · exact TX.rd (i + 1, m) [0] ⟨by dsimp only; omega, by dsimp only; omega, hmn, hmr⟩ (by dsimp only; omega)
        · have hfh := fine_ext hf (ob_false hf (by omega)) (by omega) hmn hmr
          repeat' (first
           | (with_reducible refine OL.st ?_)
           | (with_reducible refine TC.region ?_)
           | (with_reducible refine TC.seq ?_)
           | (with_reducible refine OL.nil ?_)
           | (with_reducible refine TX.thenN ?_)
           | (with_reducible refine TC.exit ?_)
           | (with_reducible refine TX.hit ?_)
           | (with_reducible refine TX.thenX ?_)
           | (with_reducible refine TC.ifD ?_ ?_ <;> (intro hc; try (exfalso; omega)))
           | fail)
          refine OL.c (s_slices_Clone_LLint_Lint g (by omega)) Fn.slices_Clone_LLint_Lint ?_
          repeat' (first
           | (with_reducible refine OL.st ?_)
           | (with_reducible refine OL.litV ?_)
           | (with_reducible refine OL.lit ?_)
           | (with_reducible refine OL.appO ?_)
           | (with_reducible refine TC.region ?_)
           | (with_reducible refine TC.seq ?_)
           | (with_reducible refine OL.nil ?_)
           | (with_reducible refine TX.thenN ?_)
           | (with_reducible refine TC.block ?_)
           | fail)
          refine TC.vw 10 ?_
          have eh : g.map ints ++ [ints m] = (g ++ [m]).map ints := by simp
          rw [eh]
          refine TC.lp (fun a : Nat => [(0, rows g), (2, u8s ls), (10, rows (g ++ [m])), (87, V.int (3 + (g.length : Int))), (88, V.int a)]) (fun _ => []) (fun a => a ≤ 3 + g.length) (fun a => 3 + g.length - a) 0 [] (Nat.zero_le _) ?_
          rintro a ha
          repeat' (first
           | (with_reducible refine OL.st ?_)
           | (with_reducible refine TC.region ?_)
           | (with_reducible refine TC.seq ?_)
           | (with_reducible refine OL.nil ?_)
           | (with_reducible refine TX.thenN ?_)
           | (with_reducible refine TC.block ?_)
           | (with_reducible refine TC.skip ?_)
           | (with_reducible refine TC.exit ?_)
           | (with_reducible refine TX.hit ?_)
           | (with_reducible refine TX.thenX ?_)
           | (with_reducible refine TC.ifD ?_ ?_ <;> (intro hc; try (exfalso; omega)))
           | fail)
          · obtain ⟨e1, e2⟩ := lin_ext hf hfh (a := a) (by omega)
            have hl2 := s_line_Lin (g ++ [m]) a
            rw [e1, e2] at hl2
            refine OL.c (s_line_Lin g a) Fn.line_Lin ?_
            repeat' (first
             | (with_reducible refine OL.st ?_)
             | (with_reducible refine TC.region ?_)
             | (with_reducible refine TC.seq ?_)
             | (with_reducible refine OL.nil ?_)
             | (with_reducible refine TX.thenN ?_)
             | fail)
            refine OL.c hl2 Fn.line_Lin ?_
            repeat' (first
             | (with_reducible refine OL.st ?_)
             | (with_reducible refine TC.region ?_)
             | (with_reducible refine TC.seq ?_)
             | (with_reducible refine OL.nil ?_)
             | (with_reducible refine TX.thenN ?_)
             | (with_reducible refine OL.gOn ?_)
             | (with_reducible refine OL.gD ?_ ?_ <;> (intro hc; try (exfalso; omega)))
             | fail)
            refine OL.c (same_e (linL g a)) Fn.slices_Equal_Lint_int ?_
            repeat' (first
             | (with_reducible refine OL.st ?_)
             | (with_reducible refine TC.region ?_)
             | (with_reducible refine TC.seq ?_)
             | (with_reducible refine OL.nil ?_)
             | (with_reducible refine TX.thenN ?_)
             | (with_reducible refine TC.block ?_)
             | (with_reducible refine TC.skip ?_)
             | (with_reducible refine TC.ifF ?_)
             | (with_reducible refine OL.gOn ?_)
             | fail)
            refine TC.lp (fun b : Nat => [(0, rows g), (2, u8s ls), (10, rows (g ++ [m])), (11, V.int a), (87, V.int (3 + (g.length : Int))), (88, V.int a), (114, V.int (3 + (g.length : Int))), (115, V.int b)]) (fun _ => []) (fun b => b ≤ 3 + g.length) (fun b => 3 + g.length - b) 0 [] (Nat.zero_le _) ?_
            rintro b hb
            repeat' (first
             | (with_reducible refine OL.st ?_)
             | (with_reducible refine TC.region ?_)
             | (with_reducible refine TC.seq ?_)
             | (with_reducible refine OL.nil ?_)
             | (with_reducible refine TX.thenN ?_)
             | (with_reducible refine TC.block ?_)
             | (with_reducible refine TC.skip ?_)
             | (with_reducible refine TX.blkN ?_)
             | (with_reducible refine TC.exit ?_)
             | (with_reducible refine TX.hit ?_)
             | (with_reducible refine TX.thenX ?_)
             | (with_reducible refine TC.ifD ?_ ?_ <;> (intro hc; try (exfalso; omega)))
             | fail)
            · have h1 := s_line_Below g a b
              have h2 := s_line_Below (g ++ [m]) a b
              obtain ⟨o2, b2⟩ := bel_ext hf hfh (a := a) (b := b) (by omega) (by omega)
              rw [oks_pair hf (a := a) (b := b) (by omega) (by omega), show okE true = 0 from rfl] at h1
              rw [o2, b2, show okE true = 0 from rfl] at h2
              refine OL.c h1 Fn.line_Below ?_
              repeat' (first
               | (with_reducible refine OL.st ?_)
               | (with_reducible refine TC.region ?_)
               | (with_reducible refine TC.seq ?_)
               | (with_reducible refine OL.nil ?_)
               | (with_reducible refine TX.thenN ?_)
               | fail)
              refine OL.c h2 Fn.line_Below ?_
              repeat' (first
               | (with_reducible refine OL.st ?_)
               | (with_reducible refine TC.region ?_)
               | (with_reducible refine TC.seq ?_)
               | (with_reducible refine OL.nil ?_)
               | (with_reducible refine TX.thenN ?_)
               | fail)
              refine OL.neBl Try.underlying4 ?_
              rw [beq_self_eq_true]
              repeat' (first
               | (with_reducible refine OL.st ?_)
               | (with_reducible refine TC.region ?_)
               | (with_reducible refine OL.nil ?_)
               | (with_reducible refine TX.thenN ?_)
               | (with_reducible refine TC.skip ?_)
               | (with_reducible refine TX.blkN ?_)
               | (with_reducible refine TC.ifF ?_)
               | (with_reducible refine OL.gOn ?_)
               | fail)
              exact TX.rd (b + 1) [] (by omega) (by omega)
            · exact TX.rd (a + 1) [] (by omega) (by omega)
          · refine TC.adp 21 Tc.int 1 ?_
            refine TC.lp (fun i : Nat => [(0, rows g), (10, rows (g ++ [m])), (21, .hs 0), (145, u8s ls), (146, V.int ls.length), (147, V.int i)]) (fun i => [.gs false Tc.int 1 none (((ls.take i).map fun p => p % (3 + (g.length : Int))).map V.int)]) (fun i => i ≤ ls.length) (fun i => ls.length - i) 0 [0] (Nat.zero_le _) ?_
            rintro k hk
            have hkl : ((ls.take k).map fun p => p % (3 + (g.length : Int))).length = k := by simp; omega
            repeat' (first
             | (with_reducible refine OL.st ?_)
             | (with_reducible refine TC.region ?_)
             | (with_reducible refine TC.seq ?_)
             | (with_reducible refine OL.nil ?_)
             | (with_reducible refine TX.thenN ?_)
             | (with_reducible refine TC.block ?_)
             | (with_reducible refine TC.skip ?_)
             | (with_reducible refine TC.exit ?_)
             | (with_reducible refine TX.hit ?_)
             | (with_reducible refine TX.thenX ?_)
             | (with_reducible refine TC.ifD ?_ ?_ <;> (intro hc; try (exfalso; omega)))
             | fail)
            · have hpb := u8_bound (kl _ (List.getElem_mem (l := ls) (n := k) (by omega)))
              have e : ((ls.take k).map fun p => p % (3 + (g.length : Int))).map V.int ++ [V.int ((ls[k]'(by omega)) % (3 + (g.length : Int)))] = ((ls.take (k + 1)).map fun p => p % (3 + (g.length : Int))).map V.int := by
                rw [take_succ (by omega), List.map_append, List.map_append]; rfl
              refine OL.conv (n := ls[k]'(by omega)) Try.underlying5 Try.underlying3 (by omega) (by omega) ?_
              repeat' (first
               | (with_reducible refine OL.st ?_)
               | (with_reducible refine OL.lit ?_)
               | (with_reducible refine OL.appO ?_)
               | (with_reducible refine TC.region ?_)
               | (with_reducible refine OL.nil ?_)
               | (with_reducible refine TX.thenN ?_)
               | (with_reducible refine TX.blkN ?_)
               | fail)
              exact TX.rd (k + 1) [2] (by omega) (by omega)
            · refine OL.c s_law03_works Fn.law03_works ?_
              repeat' (first
               | (with_reducible refine OL.st ?_)
               | (with_reducible refine OL.nil ?_)
               | (with_reducible refine TX.thenN ?_)
               | (with_reducible refine TC.ret ?_)
               | (with_reducible refine TX.thenR ?_)
               | fail)
              exact TX.rt1 [] (.ren rfl)
            · have ek : ls.take k = ls := take_all (by omega)
              rw [ek] at hkl hc ⊢
              have hne : (ls.map fun p => p % (3 + (g.length : Int))) ≠ [] := fun e => hc (by rw [e]; rfl)
              have hcl : ∀ c ∈ ls.map fun p => p % (3 + (g.length : Int)), 0 ≤ c ∧ c < 3 + (g.length : Int) := fun c hc => by
                obtain ⟨p, _, rfl⟩ := List.mem_map.1 hc
                exact ⟨Int.emod_nonneg _ (by omega), Int.emod_lt_of_pos _ (by omega)⟩
              obtain ⟨a1, a2, a3⟩ := least_ext hf hfh hne hcl (by omega)
              generalize (ls.map fun p => p % (3 + (g.length : Int))) = so at *
              have h1 := s_line_Least g so
              have h2 := s_line_Least (g ++ [m]) so
              rw [leastL_eq, leastE_eq, a1, show okE true = 0 from rfl] at h1
              rw [leastL_eq, leastE_eq, a2, a3, show okE true = 0 from rfl] at h2
              refine OL.vwA 1 ?_
              refine OL.c h1 Fn.line_Least ?_
              repeat' (first
               | (with_reducible refine OL.st ?_)
               | (with_reducible refine TC.region ?_)
               | (with_reducible refine TC.seq ?_)
               | (with_reducible refine OL.nil ?_)
               | (with_reducible refine TX.thenN ?_)
               | fail)
              refine OL.vwA 1 ?_
              refine OL.c h2 Fn.line_Least ?_
              repeat' (first
               | (with_reducible refine OL.st ?_)
               | (with_reducible refine TC.region ?_)
               | (with_reducible refine TC.seq ?_)
               | (with_reducible refine OL.nil ?_)
               | (with_reducible refine TX.thenN ?_)
               | (with_reducible refine OL.gOn ?_)
               | fail)
              refine OL.c (same_e (leastR g so)) Fn.slices_Equal_Lint_int ?_
              repeat' (first | (with_reducible refine OL.st ?_) | (with_reducible refine OL.gOn ?_) | fail)
              refine OL.c s_law03_works Fn.law03_works ?_
              repeat' (first
               | (with_reducible refine OL.st ?_)
               | (with_reducible refine OL.nil ?_)
               | (with_reducible refine TX.thenN ?_)
               | (with_reducible refine TC.ret ?_)
               | fail)
              exact TX.rt1 [] (.ren rfl)
  · repeat' (first
     | (with_reducible refine OL.st ?_)
     | (with_reducible refine TC.region ?_)
     | (with_reducible refine TC.seq ?_)
     | (with_reducible refine OL.nil ?_)
     | (with_reducible refine TX.thenN ?_)
     | (with_reducible refine TC.ifT ?_)
     | (with_reducible refine OL.gOff ?_)
     | fail)
    refine OL.c s_law03_works Fn.law03_works ?_
    repeat' (first
     | (with_reducible refine OL.st ?_)
     | (with_reducible refine OL.nil ?_)
     | (with_reducible refine TX.thenN ?_)
     | (with_reducible refine TC.ret ?_)
     | (with_reducible refine TX.thenR ?_)
     | fail)
    exact TX.rt1 [] (.ren rfl)
end Go.Proofs
