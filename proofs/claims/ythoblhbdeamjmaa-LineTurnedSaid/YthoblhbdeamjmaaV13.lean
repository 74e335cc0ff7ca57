/- Part 13 of what the claim is proved by: lemmas on the model and walks through functions of the program; no conditions. -/
import Derived.Test.YthoblhbdeamjmaaV12
import Derived.Test.YthoblhbdeamjmaaV9
import Derived.Test.YthoblhbdeamjmaaV10
/- line's tree. -/
namespace Go.V
open Go Go.W
theorem LE.seq {τ} {P : Program} {f : Nat} {fn : Func} {caps : List AV} {α : Type} {ar : α → List AV} {L : List α} (hf : P.funcs[f]? = some fn) (hs : ∀ m w vs, VL m w [] vs caps → SeqV P f vs.toArray ar L m w) (hc : caps.all pureA = true := by with_unfolding_all exact rfl)
    (hb : (fn.body.isNone || fn.name == "runtime.NumGoroutine") = false := by with_unfolding_all exact rfl) : LE τ (.fn (.func f) [] caps) (.pr (SeqMP P ar L)) := by
  intro m w γ γ' _ v hr
  cases hr with
  | @fn _ _ fv cv _ _ l1 l2 h1 h2 =>
    obtain rfl : fv = [] := List.length_eq_zero_iff.1 l1
    exact .pr ⟨f, cv.toArray, fn, rfl, hf, hb, hs m w cv (VL.of l2 fun j v c a b => pureA_rep (h2 j v c a b) (List.all_eq_true.1 hc c (List.mem_of_getElem? b)))⟩
section
variable {C : Cx} {Q : Qt} {ρ ρ2 : Ro} {η η2 : Eta} {e : Exit}
theorem TX.frzA {E : Nat} {cs : List AV} (i : Nat) (k : TX C Q e ρ2 η2) (ho : η[i]? = some (.cb E cs) := by with_unfolding_all exact rfl) (hp : cs.all pureA = true := by with_unfolding_all exact rfl) (hρ : sbr i cs ρ = ρ2 := by (try dsimp only [sbr, sbp, sb0, List.map, Nat.beq, Nat.add_zero, Nat.zero_add, Nat.reduceAdd, cond_true, cond_false]) <;> exact rfl) (hη : η.set i .dead = η2 := by (try dsimp only [List.set]) <;> exact rfl) : TX C Q e ρ η := by
  subst hρ hη; exact TX.wk (Wk.frzA ho hp) k
end
theorem At.mono {P : Program} {α : Type} {ar : α → List AV} {L : List α} {I : It P ar L} {K K' : (Nat → Nat) → World → Prop} {ds B} (h : At I K ds B) (hk : ∀ m w, K m w → K' m w) (hs : ∀ m w m' w', K' m w → StepOK I.W.heap.size m w m' w' → K' m' w') : At I K' ds B :=
  ⟨h.ext, h.noS, h.noγ, hs, hk _ _ h.holds, h.marks, h.nodup⟩
end Go.V
namespace Go.Proofs
open Go Go.W Go.V
abbrev oneI : Int → List AV := fun x => [V.int x]
abbrev treeC (pss : List (List Int)) (us : List Nat) (c : Int) : List AV := [.ep [V.int c] 0, .ep [graphP pss us] 0]
theorem s_line_graph_tree (pss : List (List Int)) (us : List Nat) (c : Int) (L : List Int) (hs : ∀ m w vs, VL m w [] vs (treeC pss us c) → SeqV Try.prog Fc.line_graph_tree_1 vs.toArray oneI L m w) : V.Spec Try.prog Fc.line_graph_tree [graphP pss us, V.int c] [] (.pr (SeqMP Try.prog oneI L)) [] := by
  refine V.Spec.enter Try.tabOK Try.mixed Fn.line_graph_tree rfl rfl rfl fun B hB => ?_
  repeat' (first
   | (with_reducible refine OL.st ?_)
   | (with_reducible refine OL.box ?_)
   | (with_reducible refine TC.region ?_)
   | (with_reducible refine TC.seq ?_)
   | (with_reducible refine OL.nil ?_)
   | (with_reducible refine TX.thenN ?_)
   | (with_reducible refine TC.ret ?_)
   | fail)
  refine TX.frzA 0 ?_
  refine TX.frzA 1 ?_
  exact TX.rt1 [] (LE.seq Fn.line_graph_tree_1 hs)
def segT (pss : List (List Int)) (Br : Nat → List Int) (c : Int) (N : Nat) : List Int := ((List.range N).drop 1).flatMap fun a => if stemOf pss a = c then Br a else []
theorem segT_succ (pss : List (List Int)) (Br : Nat → List Int) (c : Int) {a : Nat} (h : 1 ≤ a) : segT pss Br c (a + 1) = segT pss Br c a ++ (if stemOf pss a = c then Br a else []) := by
  unfold segT
  rw [List.range_succ, List.drop_append_of_le_length (by simp; omega), List.flatMap_append]; simp
theorem segT_split (pss : List (List Int)) (Br : Nat → List Int) (c : Int) {a : Nat} (h : 1 ≤ a) : ∀ N : Nat, a < N → ∃ r, segT pss Br c N = segT pss Br c a ++ ((if stemOf pss a = c then Br a else []) ++ r)
  | 0, hN => by omega
  | N + 1, hN => by
    rw [segT_succ pss Br c (show 1 ≤ N by omega)]
    by_cases e : a = N
    · subst e; exact ⟨[], by simp⟩
    · obtain ⟨r, hr⟩ := segT_split pss Br c h N (by omega)
      exact ⟨r ++ (if stemOf pss N = c then Br N else []), by rw [hr]; simp only [List.append_assoc]⟩
structure TrS where
  a : Nat
  ds : List Nat
  B : Base
  hB : B.γ.length = 0
theorem s_line_graph_tree_1 (pss : List (List Int)) (us : List Nat) (hn : pss.length ≤ 1000) (hn1 : 1 ≤ pss.length) (c : Int) (Br : Nat → List Int)
    (hBr : ∀ a : Nat, 1 ≤ a → a < pss.length → stemOf pss a = c → V.Spec Try.prog Fc.line_graph_tree [graphP pss us, V.int a] [] (.pr (SeqMP Try.prog oneI (Br a))) []) (m : Nat → Nat) (w : World) (vs : List Value) (hv : VL m w [] vs (treeC pss us c)) :
    SeqV Try.prog Fc.line_graph_tree_1 vs.toArray oneI (c :: segT pss Br c pss.length) m w := by
  refine SeqV.enter hv Try.tabOK Try.mixed Fn.line_graph_tree_1 rfl rfl rfl fun I B hB hA => ?_
  repeat' (first
   | (with_reducible refine OL.st ?_)
   | (with_reducible refine OL.box ?_)
   | (with_reducible refine TC.region ?_)
   | (with_reducible refine TC.seq ?_)
   | (with_reducible refine OL.nil ?_)
   | (with_reducible refine TX.thenN ?_)
   | fail)
  refine OL.frzA 0 ?_
  refine OL.yield (pre := []) (y := c) hA ⟨_, rfl⟩ (fun B1 hB1 hA1 _ _ => ?_) (fun B1 hB1 hA1 _ _ => ?_)
  rotate_left
  · repeat' (first
     | (with_reducible refine OL.st ?_)
     | (with_reducible refine OL.nil ?_)
     | (with_reducible refine TC.ifT ?_)
     | (with_reducible refine TC.ret ?_)
     | (with_reducible refine TX.thenR ?_)
     | (with_reducible refine TX.thenW ?_)
     | fail)
    exact TX.rtIt (ds := []) hA1 (fun m w h => .inr ⟨[c], h⟩)
  repeat' (first
   | (with_reducible refine OL.st ?_)
   | (with_reducible refine TC.region ?_)
   | (with_reducible refine TC.seq ?_)
   | (with_reducible refine OL.nil ?_)
   | (with_reducible refine TX.thenN ?_)
   | (with_reducible refine TC.block ?_)
   | (with_reducible refine TC.skip ?_)
   | (with_reducible refine TC.ifF ?_)
   | (with_reducible refine TX.thenW ?_)
   | fail)
  refine TC.loopC (S := TrS) (fun s => ⟨Try.prog, Try.tab, Try.tabOK, Try.mixed, 45, s.ds.map markD, s.B, 0, s.hB, some none, 0⟩) (fun s => [(1, .ep [V.int c] 0), (2, .ep [graphP pss us] 0), (3, .ep [.raw (.func (.yield I.l) #[] #[])] 0), (4, V.int s.a)]) (fun _ => [.dead])
    (fun s => (1 ≤ s.a ∧ s.a ≤ pss.length) ∧ At I (I.J (c :: segT pss Br c s.a)) s.ds s.B) (fun s => pss.length - s.a) ⟨1, [], B1, hB1⟩ ⟨⟨Nat.le_refl _, hn1⟩, hA1⟩ rfl (fun _ _ => rfl) [0] rfl rfl ?_ ?_ ?_
  · with_unfolding_all exact ⟨⟨_, rfl, OE.ren rfl⟩, trivial⟩
  · repeat' (first | with_unfolding_all exact trivial | exact LE.ren (by with_unfolding_all exact rfl) | with_unfolding_all refine And.intro ⟨_, by with_unfolding_all exact rfl, ?_⟩ ?_)
  rintro ⟨a, ds, B2, hB2⟩ ⟨⟨ha1, han⟩, hA2⟩
  dsimp only at ha1 han hA2 ⊢
  have hst : ∀ (h : a < pss.length) (h0 : 0 < pss[a].length), stemOf pss a = pss[a][0] := fun h h0 => by
    rw [stemOf, getD_lt h, List.headD_eq_head?_getD, List.head?_eq_getElem?, List.getElem?_eq_getElem h0]; rfl
  have hst0 : ∀ (h : a < pss.length), pss[a].length = 0 → stemOf pss a = 0 := fun h h0 => by
    rw [stemOf, getD_lt h, List.length_eq_zero_iff.1 h0]; rfl
  have hskip : stemOf pss a ≠ c → segT pss Br c (a + 1) = segT pss Br c a := fun h => by rw [segT_succ _ _ _ ha1, if_neg h, List.append_nil]
  have htake : stemOf pss a = c → c :: segT pss Br c (a + 1) = (c :: segT pss Br c a) ++ Br a := fun h => by rw [segT_succ _ _ _ ha1, if_pos h]; rfl
  have hpre : ∀ (h : a < pss.length), stemOf pss a = c → ∀ pre' x, (∃ r, pre' ++ x :: r = Br a) → ∃ r, ((c :: segT pss Br c a) ++ pre') ++ x :: r = c :: segT pss Br c pss.length := fun h hc pre' x ⟨r, hr⟩ => by
    obtain ⟨r2, hr2⟩ := segT_split pss Br c ha1 pss.length h
    rw [if_pos hc, ← hr] at hr2
    exact ⟨r ++ r2, by rw [hr2]; simp⟩
  repeat' (first
   | (with_reducible refine OL.st ?_)
   | (with_reducible refine TC.region ?_)
   | (with_reducible refine TC.seq ?_)
   | (with_reducible refine OL.nil ?_)
   | (with_reducible refine TX.thenN ?_)
   | (with_reducible refine TC.block ?_)
   | (with_reducible refine TC.skip ?_)
   | (with_reducible refine TC.exit ?_)
   | (with_reducible refine TX.hit ?_)
   | (with_reducible refine TX.thenX ?_)
   | (with_reducible refine TC.ifD ?_ ?_ <;> (intro hc; try (exfalso; omega)))
   | fail)
  · have h0 : 0 < pss[a].length := by omega
    have e := hskip (by rw [hst (by omega) h0]; assumption)
    exact TX.rdC ⟨a + 1, ds, B2, hB2⟩ [0] ⟨⟨by dsimp only; omega, by dsimp only; omega⟩, by dsimp only; rw [e]; exact hA2⟩ (by dsimp only; omega)
  rotate_left
  · have e := hskip (by rw [hst0 (by omega) (by omega)]; assumption)
    exact TX.rdC ⟨a + 1, ds, B2, hB2⟩ [0] ⟨⟨by dsimp only; omega, by dsimp only; omega⟩, by dsimp only; rw [e]; exact hA2⟩ (by dsimp only; omega)
  rotate_left
  · obtain rfl : a = pss.length := by omega
    refine TX.endM ?_
    exact TX.rtIt (ds := ds) hA2 (fun m w h => .inl h)
  all_goals
    have hs : stemOf pss a = c := by
      first
      | (rw [hst (by omega) (by omega)]; omega)
      | (rw [hst0 (by omega) (by omega)]; omega)
    refine OL.c (hBr a ha1 (by omega) hs) Fn.line_graph_tree ?_
    repeat' (first
     | (with_reducible refine OL.nil ?_)
     | (with_reducible refine TX.thenN ?_)
     | (with_reducible refine TC.block ?_)
     | fail)
    refine TC.rfI (u := V.int) (pre := c :: segT pss Br c a) id rfl hA2 (fun pre' x B3 hB3 l hA3 hx => ?_) (fun B3 hB3 D hA3 => ?_) (fun B3 hB3 D hA3 => ?_)
    · repeat' (first
       | (with_reducible refine OL.st ?_)
       | (with_reducible refine TC.region ?_)
       | (with_reducible refine TC.seq ?_)
       | (with_reducible refine TC.block ?_)
       | fail)
      refine OL.yield (pre := (c :: segT pss Br c a) ++ pre') (y := x) hA3 (hpre (by omega) hs pre' x hx) (fun B4 hB4 hA4 he4 hk4 => ?_) (fun B4 hB4 hA4 he4 hk4 => ?_)
      · repeat' (first
         | (with_reducible refine OL.st ?_)
         | (with_reducible refine OL.nil ?_)
         | (with_reducible refine TC.skip ?_)
         | (with_reducible refine TX.blkN ?_)
         | (with_reducible refine TC.ifF ?_)
         | (with_reducible refine TX.thenW ?_)
         | fail)
        exact TX.rqiN (by simpa using hA4) he4 hk4
      · repeat' (first
         | (with_reducible refine OL.st ?_)
         | (with_reducible refine OL.nil ?_)
         | (with_reducible refine TC.ifT ?_)
         | (with_reducible refine TC.ret ?_)
         | (with_reducible refine TX.blkR ?_)
         | (with_reducible refine TX.thenW ?_)
         | fail)
        exact TX.rqiR (hA4.mono (fun m w h => ⟨_, h⟩) (fun m w m' w' ⟨p, h⟩ hs => ⟨p, I.sJx p m w m' w' h hs⟩)) he4 hk4
    · repeat' (first
       | (with_reducible refine OL.st ?_)
       | (with_reducible refine TC.region ?_)
       | (with_reducible refine OL.nil ?_)
       | (with_reducible refine TX.blkN ?_)
       | (with_reducible refine TX.thenW ?_)
       | fail)
      exact TX.rdC ⟨a + 1, D :: ds, B3, hB3⟩ [0] ⟨⟨by dsimp only; omega, by dsimp only; omega⟩, by dsimp only; rw [htake hs]; exact hA3⟩ (by dsimp only; omega)
    · repeat' (first | (with_reducible refine TX.thenR ?_) | (with_reducible refine TX.blkR ?_) | fail)
      exact TX.rtIt (ds := D :: ds) hA3 (fun m w h => .inr h)
end Go.Proofs
/- line's Number. -/
namespace Go.Proofs
open Go Go.W Go.V
theorem s_tree {g : List (List Int)} (hf : fine g = true) : ∀ (n c : Nat), 3 + g.length ≤ c + n + 1 → c < 3 + g.length → V.Spec Try.prog Fc.line_graph_tree [graphP (parentsOf g) (ups g), V.int c] [] (.pr (SeqMP Try.prog oneI (treeF (parentsOf g) n c))) [] := by
  have h16 := fine_len hf
  have hpl := parentsOf_length g
  intro n
  induction n with
  | zero =>
    intro c h1 h2
    have e : treeF (parentsOf g) 0 (c : Int) = (c : Int) :: segT (parentsOf g) (fun _ => []) c (parentsOf g).length := by simp [treeF, segT]
    rw [e]
    refine s_line_graph_tree _ _ _ _ (s_line_graph_tree_1 _ _ (by omega) (by omega) c _ fun a ha hl hst => ?_)
    have := stem_lt hf ha (by omega)
    omega
  | succ n ih =>
    intro c h1 h2
    refine s_line_graph_tree _ _ _ _ (s_line_graph_tree_1 _ _ (by omega) (by omega) c (fun a => treeF (parentsOf g) n a) fun a ha hl hst => ?_)
    have := stem_lt hf ha (by omega)
    exact ih a (by omega) (by omega)
theorem segT_nil (pss : List (List Int)) (Br : Nat → List Int) (c N : Nat) (hst : ∀ a : Nat, 1 ≤ a → a < N → stemOf pss a < a) : ∀ k, k ≤ c + 1 → k ≤ N → segT pss Br c k = []
  | 0, _, _ => rfl
  | 1, _, _ => rfl
  | k + 2, h, hN => by
    have := hst (k + 1) (by omega) (by omega)
    rw [segT_succ pss Br c (show 1 ≤ k + 1 by omega), segT_nil pss Br c N hst (k + 1) (by omega) (by omega), if_neg (by omega)]; rfl
theorem segT_len (pss : List (List Int)) (Br : Nat → List Int) (c N : Nat) (hst : ∀ a : Nat, 1 ≤ a → a < N → stemOf pss a < a) (hB : ∀ a, c < a → a < N → (Br a).length ≤ 2 ^ (N - 1 - a)) (hc : c < N) : ∀ d, c + 1 + d ≤ N → (segT pss Br c (c + 1 + d)).length + 2 ^ (N - (c + 1 + d)) ≤ 2 ^ (N - 1 - c)
  | 0, h => by
    rw [segT_nil pss Br c N hst _ (by omega) h, show N - (c + 1 + 0) = N - 1 - c by omega]; simp
  | d + 1, h => by
    have ih := segT_len pss Br c N hst hB hc d (by omega)
    have e : N - (c + 1 + d) = (N - (c + 1 + (d + 1))) + 1 := by omega
    rw [e, Nat.pow_succ] at ih
    rw [show c + 1 + (d + 1) = (c + 1 + d) + 1 by omega, segT_succ pss Br c (show 1 ≤ c + 1 + d by omega), List.length_append, show N - (c + 1 + d + 1) = N - (c + 1 + (d + 1)) by omega]
    split
    · have := hB (c + 1 + d) (by omega) (by omega)
      rw [show N - 1 - (c + 1 + d) = N - (c + 1 + (d + 1)) by omega] at this
      omega
    · simp; omega
theorem treeF_len (pss : List (List Int)) (hst : ∀ a : Nat, 1 ≤ a → a < pss.length → stemOf pss a < a) : ∀ (n c : Nat), c < pss.length → (treeF pss n c).length ≤ 2 ^ (pss.length - 1 - c)
  | 0, c, _ => by
    have := Nat.one_le_two_pow (n := pss.length - 1 - c)
    simpa [treeF] using this
  | n + 1, c, hc => by
    have h := segT_len pss (fun a => treeF pss n a) c pss.length hst (fun a _ ha => treeF_len pss hst n a ha) hc (pss.length - (c + 1)) (by omega)
    rw [show c + 1 + (pss.length - (c + 1)) = pss.length by omega, Nat.sub_self] at h
    show (segT pss (fun a => treeF pss n a) c pss.length).length + 1 ≤ _
    omega
def numL (g : List (List Int)) : List Int := if fine g then numbering g else []
theorem numL_len (g : List (List Int)) : (numL g).length ≤ 262144 := by
  unfold numL
  split
  · rename_i hf
    have h16 := fine_len hf
    have hpl := parentsOf_length g
    have := treeF_len (parentsOf g) (fun a h1 h2 => (stem_lt hf h1 (by omega)).2) (3 + g.length) 0 (by omega)
    exact Nat.le_trans this (show _ ≤ 2 ^ 18 from Nat.pow_le_pow_right (by decide) (by omega))
  · simp
def numE (g : List (List Int)) : Int := if fine g then 0 else 2
set_option maxHeartbeats 1000000 in
theorem s_line_Number (g : List (List Int)) : V.Spec Try.prog Fc.line_Number [rows g] [] (.tp [ints (numL g), V.int (numE g)]) [] := by
  have ho := s_line_open g []
  rw [openR, openE] at ho
  have hoks : oks g [] = fine g := by simp [oks]
  rw [hoks] at ho
  refine Spec.enterM Try.tabOK Try.mixed Fn.line_Number rfl rfl rfl fun B hB => ?_
  repeat' (first
   | (with_reducible refine OL.st ?_)
   | (with_reducible refine TC.region ?_)
   | (with_reducible refine TC.seq ?_)
   | (with_reducible refine OL.nil ?_)
   | (with_reducible refine TX.thenN ?_)
   | fail)
  cases hf : fine g
  · rw [hf] at ho
    simp only [Bool.false_eq_true, if_false] at ho
    refine OL.c ho Fn.line_open ?_
    repeat' (first
     | (with_reducible refine OL.st ?_)
     | (with_reducible refine TC.region ?_)
     | (with_reducible refine TC.seq ?_)
     | (with_reducible refine OL.nil ?_)
     | (with_reducible refine TX.thenN ?_)
     | (with_reducible refine TC.ifT ?_)
     | (with_reducible refine TC.ret ?_)
     | (with_reducible refine TX.thenR ?_)
     | fail)
    have e1 : numL g = [] := by rw [numL, hf]; rfl
    have e2 : numE g = 2 := by rw [numE, hf]; rfl
    rw [e1, e2]
    exact TX.rtN2 [] (.nil (by decide)) (.ren rfl)
  · rw [hf] at ho
    simp only [if_true] at ho
    have hpl := parentsOf_length g
    have ht := s_tree hf (3 + g.length) 0 (by omega) (by omega)
    have e : treeF (parentsOf g) (3 + g.length) ((0 : Nat) : Int) = numL g := by rw [numL, hf]; rfl
    rw [e] at ht
    refine OL.c ho Fn.line_open ?_
    with_reducible refine OL.st ?_
    with_reducible refine OL.st ?_
    refine OL.frzJ 11 ?_
    repeat' (first
     | (with_reducible refine OL.st ?_)
     | (with_reducible refine OL.alloc ?_)
     | (with_reducible refine TC.region ?_)
     | (with_reducible refine TC.seq ?_)
     | (with_reducible refine OL.nil ?_)
     | (with_reducible refine TX.thenN ?_)
     | (with_reducible refine TC.skip ?_)
     | (with_reducible refine TC.ifF ?_)
     | fail)
    refine OL.c ht Fn.line_graph_tree ?_
    repeat' (first
     | (with_reducible refine OL.nil ?_)
     | (with_reducible refine TX.thenN ?_)
     | (with_reducible refine TC.block ?_)
     | fail)
    refine TC.adpC 2 0 Tc.int 1 ?_
    refine TC.rfV (u := V.int) [(6, .bp 0 0)] (fun pre => [.cb Tc.Lint [.hs 1], .gs false Tc.int 1 none (pre.map V.int)]) 1 [2, 3] rfl rfl rfl (fun _ => rfl) rfl rfl ?_ ?_ ?_ (Nat.zero_le _) (by simp) rfl rfl (fun pre x Bx hBx l hx => ?_) (fun B3 hB3 D hM => ?_)
    · with_unfolding_all exact ⟨⟨_, rfl, OE.ren rfl⟩, ⟨_, rfl, OE.gs⟩, trivial⟩
    · with_unfolding_all exact ⟨⟨_, rfl, LE.ren rfl⟩, trivial⟩
    · with_unfolding_all exact ⟨⟨_, rfl, LE.ren rfl⟩, trivial⟩
    · have hpl : pre.length ≤ 262144 := by
        obtain ⟨r, hr⟩ := hx
        have := numL_len g
        rw [← hr] at this
        simp at this; omega
      have e : pre.map V.int ++ [V.int x] = (pre ++ [x]).map V.int := by simp
      dsimp only
      repeat' (first
       | (with_reducible refine OL.st ?_)
       | (with_reducible refine OL.store ?_)
       | (with_reducible refine OL.lit ?_)
       | (with_reducible refine OL.appO ?_)
       | (with_reducible refine TC.region ?_)
       | (with_reducible refine OL.nil ?_)
       | (with_reducible refine TC.block ?_)
       | (with_reducible refine TX.blkN ?_)
       | fail)
      exact TX.rq [0, 3] (by repeat' (first | with_unfolding_all exact trivial | exact OE.gsS e | exact OE.ren (by with_unfolding_all exact rfl) | with_unfolding_all refine And.intro ⟨_, by with_unfolding_all exact rfl, ?_⟩ ?_))
    · have : numE g = 0 := by rw [numE, hf]; rfl
      rw [this]
      repeat' (first
       | (with_reducible refine OL.st ?_)
       | (with_reducible refine TC.region ?_)
       | (with_reducible refine TC.seq ?_)
       | (with_reducible refine OL.nil ?_)
       | (with_reducible refine TX.thenN ?_)
       | (with_reducible refine TX.blkN ?_)
       | (with_reducible refine TC.ret ?_)
       | (with_reducible refine TX.thenW ?_)
       | fail)
      refine TX.vw 2 ?_
      exact TX.rtM2 hM hB [] (.ren rfl) (.ren rfl)
end Go.Proofs
/- The laws' works. -/
namespace Go.Proofs
open Go Go.W Go.V
theorem eqS70 : EqS2 Try.prog 70 3 .i64 := ⟨by kernel_rfl, by kernel_rfl, by kernel_rfl, Try.underlying3, by kernel_rfl⟩
theorem v_lin1 : (linL small 6, linE small 6) = ([6, 4, 5, 3, 0], 0) := by decide +kernel
theorem v_lin2 : (linL twice 7, linE twice 7) = ([7, 5, 4, 3, 0], 0) := by decide +kernel
theorem v_lin3 : (linL twice 8, linE twice 8) = ([], 7) := by decide +kernel
theorem v_con1 : conflR twice = (8, [4, 5], 0) := by decide +kernel
theorem v_con2 : conflR small = (0, [], 5) := by decide +kernel
theorem v_least : (leastL twice [6, 7], leastE twice [6, 7]) = ([4, 5], 0) := by decide +kernel
theorem v_num : (numL small, numE small) = ([0, 1, 2, 3, 4, 6, 5], 0) := by decide +kernel
theorem v_spans : ((spansL small [0, 1, 2, 3, 4, 5, 6]).length, (spansL small [0, 1, 2, 3, 4, 5, 6]).getD 4 [], spansE small [0, 1, 2, 3, 4, 5, 6]) = (7, [(4, 4), (6, 6)], 0) := by decide +kernel
theorem same_t (l : List Int) : V.Spec Try.prog Fc.ref03_Same [ints l, ints l] [] (V.bool true) [] := by
  have := s_ref03_Same l l
  rwa [beq_self_eq_true] at this
set_option maxHeartbeats 2000000 in
theorem s_law03_works : V.Spec Try.prog Fc.law03_works [] [] (V.bool true) [] := by
  refine V.Spec.enter Try.tabOK Try.mixed Fn.law03_works rfl rfl rfl fun B hB => ?_
  have h1 := s_line_Lin small 6
  have h2 := s_line_Lin twice 7
  have h3 := s_line_Lin twice 8
  have h4 := s_line_Conflict twice
  have h5 := s_line_Conflict small
  have h6 := s_line_Least twice [6, 7]
  have h7 := s_line_Number small
  have h8 := s_line_Spans small [0, 1, 2, 3, 4, 5, 6] (by decide)
  rw [(Prod.mk.inj v_lin1).1, (Prod.mk.inj v_lin1).2] at h1
  rw [(Prod.mk.inj v_lin2).1, (Prod.mk.inj v_lin2).2] at h2
  rw [(Prod.mk.inj v_lin3).1, (Prod.mk.inj v_lin3).2] at h3
  rw [v_con1] at h4
  rw [v_con2] at h5
  rw [(Prod.mk.inj v_least).1, (Prod.mk.inj v_least).2] at h6
  rw [(Prod.mk.inj v_num).1, (Prod.mk.inj v_num).2] at h7
  obtain ⟨hl, hr⟩ := Prod.mk.inj v_spans
  obtain ⟨h4', he⟩ := Prod.mk.inj hr
  rw [he] at h8
  generalize spansL small [0, 1, 2, 3, 4, 5, 6] = S at *
  have hS : S[4]'(by omega) = [(4, 4), (6, 6)] := by rw [← h4', getD_lt]
  have hS2 : (S[Int.toNat 4]'(by show 4 < S.length; omega)).length = 2 := by show (S[4]'(by omega)).length = 2; rw [hS]; rfl
  repeat' (first
   | (with_reducible refine OL.st ?_)
   | (with_reducible refine TC.region ?_)
   | (with_reducible refine TC.seq ?_)
   | (with_reducible refine OL.nil ?_)
   | (with_reducible refine TX.thenN ?_)
   | fail)
  refine OL.c s_law03_Small Fn.law03_Small ?_
  refine OL.c s_law03_Twice Fn.law03_Twice ?_
  refine OL.vw 18 ?_
  refine OL.kn (x := .sl 1 none [.raw (.slice none 0 0), ints [3], ints [3], ints [4, 5]]) (y := rows small) 18 (LE.sls ⟨.nil (by decide), .ren rfl, .ren rfl, .ren rfl, trivial⟩ rfl rfl) ?_
  repeat' (first
   | (with_reducible refine OL.st ?_)
   | (with_reducible refine TC.region ?_)
   | (with_reducible refine TC.seq ?_)
   | (with_reducible refine OL.nil ?_)
   | (with_reducible refine TX.thenN ?_)
   | fail)
  refine OL.c h1 Fn.line_Lin ?_
  repeat' (first
   | (with_reducible refine OL.st ?_)
   | (with_reducible refine TC.region ?_)
   | (with_reducible refine TC.seq ?_)
   | (with_reducible refine OL.nil ?_)
   | (with_reducible refine TX.thenN ?_)
   | fail)
  refine OL.c h2 Fn.line_Lin ?_
  repeat' (first
   | (with_reducible refine OL.st ?_)
   | (with_reducible refine TC.region ?_)
   | (with_reducible refine TC.seq ?_)
   | (with_reducible refine OL.nil ?_)
   | (with_reducible refine TX.thenN ?_)
   | fail)
  refine OL.c h3 Fn.line_Lin ?_
  repeat' (first
   | (with_reducible refine OL.st ?_)
   | (with_reducible refine TC.region ?_)
   | (with_reducible refine TC.seq ?_)
   | (with_reducible refine OL.nil ?_)
   | (with_reducible refine TX.thenN ?_)
   | fail)
  refine OL.c h4 Fn.line_Conflict ?_
  repeat' (first
   | (with_reducible refine OL.st ?_)
   | (with_reducible refine TC.region ?_)
   | (with_reducible refine TC.seq ?_)
   | (with_reducible refine OL.nil ?_)
   | (with_reducible refine TX.thenN ?_)
   | fail)
  refine OL.c h5 Fn.line_Conflict ?_
  repeat' (first
   | (with_reducible refine OL.st ?_)
   | (with_reducible refine OL.lit ?_)
   | (with_reducible refine TC.region ?_)
   | (with_reducible refine TC.seq ?_)
   | (with_reducible refine OL.nil ?_)
   | (with_reducible refine TX.thenN ?_)
   | (with_reducible refine OL.gOn ?_)
   | fail)
  refine OL.vwA 1 ?_
  refine OL.c (same_t [6, 4, 5, 3, 0]) Fn.ref03_Same ?_
  repeat' (first
   | (with_reducible refine OL.st ?_)
   | (with_reducible refine OL.lit ?_)
   | (with_reducible refine OL.gOn ?_)
   | fail)
  refine OL.vwA 1 ?_
  refine OL.c (same_t [7, 5, 4, 3, 0]) Fn.ref03_Same ?_
  repeat' (first
   | (with_reducible refine OL.st ?_)
   | (with_reducible refine OL.lit ?_)
   | (with_reducible refine OL.gOn ?_)
   | fail)
  refine OL.vwA 1 ?_
  refine OL.c (same_t [4, 5]) Fn.ref03_Same ?_
  repeat' (first
   | (with_reducible refine OL.st ?_)
   | (with_reducible refine OL.lit ?_)
   | (with_reducible refine TC.region ?_)
   | (with_reducible refine TC.seq ?_)
   | (with_reducible refine OL.nil ?_)
   | (with_reducible refine TX.thenN ?_)
   | (with_reducible refine TC.skip ?_)
   | (with_reducible refine TC.ifF ?_)
   | (with_reducible refine OL.gOn ?_)
   | fail)
  refine OL.vwA 1 ?_
  refine OL.c h6 Fn.line_Least ?_
  repeat' (first
   | (with_reducible refine OL.st ?_)
   | (with_reducible refine TC.region ?_)
   | (with_reducible refine TC.seq ?_)
   | (with_reducible refine OL.nil ?_)
   | (with_reducible refine TX.thenN ?_)
   | fail)
  refine OL.c h7 Fn.line_Number ?_
  repeat' (first
   | (with_reducible refine OL.st ?_)
   | (with_reducible refine OL.lit ?_)
   | (with_reducible refine TC.region ?_)
   | (with_reducible refine TC.seq ?_)
   | (with_reducible refine OL.nil ?_)
   | (with_reducible refine TX.thenN ?_)
   | fail)
  refine OL.vwA 1 ?_
  refine OL.c h8 Fn.line_Spans ?_
  repeat' (first
   | (with_reducible refine OL.st ?_)
   | (with_reducible refine OL.lit ?_)
   | (with_reducible refine TC.region ?_)
   | (with_reducible refine TC.seq ?_)
   | (with_reducible refine OL.nil ?_)
   | (with_reducible refine TX.thenN ?_)
   | (with_reducible refine OL.gOn ?_)
   | fail)
  refine OL.vwA 1 ?_
  refine OL.c (same_t [4, 5]) Fn.ref03_Same ?_
  repeat' (first
   | (with_reducible refine OL.st ?_)
   | (with_reducible refine OL.lit ?_)
   | (with_reducible refine OL.gOn ?_)
   | fail)
  refine OL.vwA 1 ?_
  refine OL.c (same_t [0, 1, 2, 3, 4, 6, 5]) Fn.ref03_Same ?_
  repeat' (first
   | (with_reducible refine OL.st ?_)
   | (with_reducible refine OL.build ?_)
   | (with_reducible refine OL.gOn ?_)
   | (with_reducible refine OL.gD ?_ ?_ <;> (intro hc; try (exfalso; omega)))
   | fail)
  refine OL.eqS2 eqS70 ?_
  repeat' (first
   | (with_reducible refine OL.st ?_)
   | (with_reducible refine OL.nil ?_)
   | (with_reducible refine TX.thenN ?_)
   | (with_reducible refine TC.ret ?_)
   | fail)
  refine TX.rt1 [] (.bool ?_)
  have e : S[Int.toNat 4]'(by show 4 < S.length; omega) = [(4, 4), (6, 6)] := hS
  simp only [e]
  rfl
end Go.Proofs
/- LineLins. -/
namespace Go.Proofs
open Go Go.W Go.V
theorem s_law03_LineLins (g : List (List Int)) (c : Int) : V.Spec Try.prog Fc.law03_LineLins [rows g, V.int c] [] (V.bool true) [] := by
  refine V.Spec.enter Try.tabOK Try.mixed Fn.law03_LineLins rfl rfl rfl fun B hB => ?_
  repeat' (first
   | (with_reducible refine OL.st ?_)
   | (with_reducible refine TC.region ?_)
   | (with_reducible refine TC.seq ?_)
   | (with_reducible refine OL.nil ?_)
   | (with_reducible refine TX.thenN ?_)
   | fail)
  refine OL.c (s_law03_wide g) Fn.law03_wide ?_
  cases hw : wideR g
  · repeat' (first
     | (with_reducible refine OL.st ?_)
     | (with_reducible refine TC.region ?_)
     | (with_reducible refine TC.seq ?_)
     | (with_reducible refine OL.nil ?_)
     | (with_reducible refine TX.thenN ?_)
     | (with_reducible refine TC.skip ?_)
     | (with_reducible refine TC.ifF ?_)
     | fail)
    refine OL.c (s_line_Lin g c) Fn.line_Lin ?_
    repeat' (first
     | (with_reducible refine OL.st ?_)
     | (with_reducible refine TC.region ?_)
     | (with_reducible refine TC.seq ?_)
     | (with_reducible refine OL.nil ?_)
     | (with_reducible refine TX.thenN ?_)
     | fail)
    refine OL.c (s_ref03_Lin g c) Fn.ref03_Lin ?_
    repeat' (first
     | (with_reducible refine OL.st ?_)
     | (with_reducible refine TC.region ?_)
     | (with_reducible refine TC.seq ?_)
     | (with_reducible refine OL.nil ?_)
     | (with_reducible refine TX.thenN ?_)
     | fail)
    refine OL.c (same_t (linL g c)) Fn.ref03_Same ?_
    repeat' (first
     | (with_reducible refine OL.st ?_)
     | (with_reducible refine OL.gOn ?_)
     | (with_reducible refine OL.gD ?_ ?_ <;> (intro hc; try (exfalso; omega)))
     | fail)
    refine OL.c s_law03_works Fn.law03_works ?_
    repeat' (first
     | (with_reducible refine OL.st ?_)
     | (with_reducible refine OL.nil ?_)
     | (with_reducible refine TX.thenN ?_)
     | (with_reducible refine TC.ret ?_)
     | fail)
    exact TX.rt1 [] (.ren rfl)
  · repeat' (first
     | (with_reducible refine TC.region ?_)
     | (with_reducible refine TC.seq ?_)
     | (with_reducible refine OL.nil ?_)
     | (with_reducible refine TX.thenN ?_)
     | (with_reducible refine TC.ifT ?_)
     | fail)
    refine OL.c s_law03_works Fn.law03_works ?_
    repeat' (first
     | (with_reducible refine OL.st ?_)
     | (with_reducible refine OL.nil ?_)
     | (with_reducible refine TX.thenN ?_)
     | (with_reducible refine TC.ret ?_)
     | (with_reducible refine TX.thenR ?_)
     | fail)
    exact TX.rt1 [] (.ren rfl)
end Go.Proofs
