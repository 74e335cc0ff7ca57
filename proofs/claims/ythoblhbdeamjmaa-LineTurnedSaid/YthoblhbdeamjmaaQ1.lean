/- Part 1 of what the claim is proved by: lemmas on the model and walks through functions of the program; no conditions. -/
import Derived.Test.YthoblhbdeamjmaaW1
import Derived.Test.YthoblhbdeamjmaaV8
/- Level 2: what the call's own is lent for the time of one call, read only. -/
namespace Go.V
open Go Go.W
/-- A variable that is read for good, where a function value has it. -/
def subB (i : Nat) (cs : List AV) : AV → AV
  | .bp j o => bif Nat.beq j i then .ep cs o else .bp j o
  | x => x
theorem subB_rep {m w γ v x} {i b : Nat} {cs : List AV} (hb : γ[i]? = some (.pointer (some ⟨b, 0, none⟩))) (he : ∀ o, Rep m w γ (.pointer (some ⟨b, o, none⟩)) (.ep cs o)) (h : Rep m w γ v x) : Rep m w γ v (subB i cs x) := by
  cases h with
  | @bp _ j o b' hb' =>
    simp only [subB]
    cases hq : Nat.beq j i with
    | true =>
      have := Nat.eq_of_beq_eq_true hq
      subst this
      rw [hb] at hb'; cases hb'
      exact he o
    | false => exact .bp hb'
  | raw h => exact .raw h
  | nil h => exact .nil h
  | sl cv hn h1 h2 hc hr => exact .sl cv hn h1 h2 hc hr
  | sl0 h => exact .sl0 h
  | st hl h1 hr => exact .st hl h1 hr
  | tp hl hr => exact .tp hl hr
  | ep hc hl h1 hr => exact .ep hc hl h1 hr
  | gp h => exact .gp h
  | hs h => exact .hs h
  | mp h => exact .mp h
  | fn l1 l2 h1 h2 => exact .fn l1 l2 h1 h2
  | pr h => exact .pr h
  | junk => exact .junk
section
variable {C : Cx} {ops : Array Oper} {Q : Qt} {ρ ρ1 : Ro} {η η1 η2 : Eta} {rest : List Oper} {T d : Nat} {pos : String} {af : Array Edge} {x : Operand}
theorem Wk.trans {ρ2 : Ro} (h : Wk C ρ η ρ1 η1) (k : Wk C ρ1 η1 ρ2 η2) : Wk C ρ η ρ2 η2 := fun a w hA => k a w (h a w hA)
theorem Wk.refl : Wk C ρ η ρ η := fun _ _ h => h
theorem Wk.frzFn {s i E : Nat} {f : Fn} {first caps cs : List AV} (hx : lk ρ s = some (.fn f first caps)) (ho : η[i]? = some (.cb E cs)) (hp : cs.all pureA = true) : Wk C ρ η ((s, .fn f (first.map (subB i cs)) (caps.map (subB i cs))) :: ρ) (η.set i .dead) := by
  rintro a w ⟨m, γ, ρc, hE, hR, hI⟩
  obtain ⟨u, g1, g2⟩ := hR.look hx
  obtain ⟨pv, hb, hok⟩ := hI.heap.get ho
  obtain ⟨b, vs, rfl, hB, hC⟩ := hok
  obtain ⟨hx1, hcell⟩ := hB.freeze
  have hT := hB.frz
  have he : ∀ o, Rep (mset m b vs.length) w γ (.pointer (some ⟨b, o, none⟩)) (.ep cs o) := fun o => by
    have := Rep.ep (γ := γ) (o := o) hcell hC.1 hC.2.1 (fun j v c h1 h2 => (pureA_rep (hC.2.2 j v c h1 h2) (List.all_eq_true.1 hp c (List.mem_of_getElem? h2))).mono hx1 (.refl _))
    simpa using this
  have g3 := g2.mono hx1 (.refl _)
  cases g3 with
  | @fn _ _ v1 v2 _ _ l1 l2 q1 q2 =>
  refine ⟨_, γ, (s, .func f v1.toArray v2.toArray) :: ρc, ⟨hE.size, hE.defers, fun s' q hs => ?_⟩, ⟨rfl, ?_, hR.mono hx1 (.refl _)⟩, hI.put (o' := .dead) hb ho hT trivial (.inr rfl)⟩
  · simp only [W.look] at hs
    cases hb' : Nat.beq s s' with
    | true =>
      rw [hb'] at hs
      simp at hs
      subst hs
      rw [← Nat.eq_of_beq_eq_true hb']
      exact hE.look _ _ g1
    | false => rw [hb'] at hs; exact hE.look _ _ (by simpa using hs)
  · have key : ∀ {vs' : List Value} {cs' : List AV}, (∀ (j : Nat) v c, vs'[j]? = some v → cs'[j]? = some c → Rep (mset m b vs.length) w γ v c) → ∀ (j : Nat) v c, vs'[j]? = some v → (cs'.map (subB i cs))[j]? = some c → Rep (mset m b vs.length) w γ v c := fun {vs' cs'} hq j v c hv hc => by
      rw [List.getElem?_map] at hc
      cases hcc : cs'[j]? with
      | none => rw [hcc] at hc; cases hc
      | some c0 => rw [hcc] at hc; cases hc; exact subB_rep hb he (hq j v c0 hv hcc)
    exact .fn (by simpa using l1) (by simpa using l2) (key q1) (key q2)
/-- What does not tell of memory. -/
def quietB : AV → Bool
  | .raw _ => true
  | .tp vs => vs.all fun | .raw _ => true | _ => false
  | _ => false
theorem quiet_rep {m w γ v x} (h : quietB x = true) (hr : Rep m w γ v x) (m' w' γ') : Rep m' w' γ' v x := by
  cases hr with
  | raw h' => exact .raw h'
  | tp hl hr =>
    refine .tp hl fun j v c a b => ?_
    have hc := List.all_eq_true.1 (show List.all _ _ = true from h) c (List.mem_of_getElem? b)
    have hrr := hr j v c a b
    cases hrr with
    | raw h' => exact .raw h'
    | _ => simp at hc
  | _ => cases h
theorem OL.lend {P : Program} {f : Nat} {fn : Func} {us as : List AV} {r : AV} {args : List Operand} {at_ : Array TypeId} (hwk : Wk C ρ η ρ1 η1) (hs : Spec P f as [] r []) (hf : P.funcs[f]? = some fn) (k : OL C ops Q rest ((d, r) :: ρ) η)
    (hP : C.P = P := by with_unfolding_all exact rfl) (hb : (fn.body.isNone || fn.name == "runtime.NumGoroutine") = false := by with_unfolding_all exact rfl) (hl : evs2 ρ1 args = some us := by with_unfolding_all exact rfl)
    (hle : LEs (ts []) us as := by repeat' (first | with_unfolding_all exact trivial | exact LE.ren (by with_unfolding_all exact rfl) | with_unfolding_all exact LE.sl | with_unfolding_all exact LE.nil (by decide) | with_unfolding_all refine And.intro ?_ ?_)) (hd : Nat.blt d C.N = true := by with_unfolding_all exact rfl) (hq : quietB r = true := by with_unfolding_all exact rfl) :
    OL C ops Q (⟨some d, .call ⟨.value (.func f), args.toArray, at_⟩, T, pos, af, none⟩ :: rest) ρ η := by
  subst hP
  rintro a w hA
  obtain ⟨m1, γ1, ρc1, hE1, hR1, hI1⟩ := hwk a w hA
  obtain ⟨m, γ, ρc, hE, hR, hI⟩ := hA
  obtain ⟨vs, h1, h2⟩ := hR1.evs hl
  obtain ⟨hsh, hH1, _⟩ := hI1.heap.sel (η' := []) (σ := []) rfl trivial
  have hc := hs m1 w _ vs hH1 (hle.vl hsh h2)
  simp at hb
  have hb' : fn.body ≠ none := Option.isSome_iff_ne_none.1 hb.1
  refine Cx.lcons (wl_call (f := f) (args := vs.toArray) rfl ?_ (hc.mono fun e w' ⟨v, m', γ1', he, hC, hv⟩ => ⟨v, he, ?_⟩))
  · have he : a.eval (.func f) = .func (.func f) #[] #[] := rfl
    simp [execOp, resolve, he, Deferred.ofValue, invoke, callFunc, hf, hb.2, hb', hE1.evs h1]
  · have hfar : Far [] m1 w m' w' := hC.far
    have hk : Keep m w (fun b => if b < w.heap.size then m b else m' b) w' := ⟨hfar.keep.grown, fun b hb => if_pos hb⟩
    have hext := hk.ext
    exact k _ _ ⟨_, γ, _, hE.put v (by simpa using hd), ⟨rfl, quiet_rep hq hv _ _ _, hR.mono hext (.refl _)⟩, hI.keep hk⟩
end
end Go.V
/- Level 2: a function value that has a variable with a slice of the call's own is lent for the time of one call. -/
namespace Go.V
open Go Go.W
section
variable {C : Cx} {ρ : Ro} {η η2 : Eta} {ops : Array Oper} {Q : Qt} {rest : List Oper} {T d X : Nat} {pos : String} {af : Array Edge} {x y : Operand}
theorem OL.make0 {E k : Nat} {i j : Int} {te : TyE} {zc : Value} (kk : OL C ops Q rest ((d, .hs k) :: ρ) η2)
    (hs : (C.tab X).map (·.sh) = some (.slice E) := by with_unfolding_all exact rfl) (hE : C.tab E = some te := by with_unfolding_all exact rfl) (hz : te.size = 1 := by with_unfolding_all exact rfl) (hzc : te.zero.cells = #[zc] := by with_unfolding_all exact rfl)
    (hx : ev2 ρ x = some (.raw (.int .i64 i)) := by with_unfolding_all exact rfl) (hy : ev2 ρ y = some (.raw (.int .i64 j)) := by with_unfolding_all exact rfl)
    (hk : η.length = k := by (try dsimp only [List.length]) <;> exact rfl) (hi : i = 0 := by first | rfl | omega) (hj : j = 0 := by first | rfl | omega) (hη : η ++ [.gs false E 1 (some false) []] = η2 := by (try dsimp only [List.cons_append, List.nil_append, List.append_eq]) <;> exact rfl) (hd : Nat.blt d C.N = true := by with_unfolding_all exact rfl) :
    OL C ops Q (⟨some d, .makeSlice X x y, T, pos, af, none⟩ :: rest) ρ η := by
  rintro a w ⟨m, γ, ρc, hE', hR, hI⟩
  obtain ⟨inf, i1, i2, i3, i4, i5⟩ := (C.hT E te hE).info
  obtain ⟨dd, hu', hd'⟩ := shOf C.hT hs
  obtain rfl : dd = _ := hd'
  haveI : SliceTy C.P X E := ⟨hu'⟩
  haveI : ElemTy C.P E 1 te.bytes te.zero := ⟨inf, i1, i2.trans hz, i3, i4, i5.trans hz, Nat.one_pos⟩
  subst hi hj hη
  have hK := Keep.alloc m w (.cells (List.replicate 0 zc).toArray E) 0
  have hl0 := hI.heap.len
  have hob : ownB (.slice (some ⟨w.heap.size, 0, none⟩) 0 0) = none := rfl
  refine Cx.lcons (wl_value (v := .slice (some ⟨w.heap.size, 0, none⟩) 0 0) (w' := w.alloc (.cells (List.replicate 0 zc).toArray E)) rfl ?_ (kk _ _ ⟨_, _, _, hE'.put _ (by simpa using hd), ⟨rfl, .hs (by rw [← hk, ← hl0]; exact get_last), hR.mono hK.ext (.app _ _)⟩,
    hI.new hK ⟨⟨_, .inr (.inl ⟨_, _, rfl, rfl⟩), fun _ _ => rfl, fun b hb => by rw [hob] at hb; cases hb⟩, ⟨nofun, fun _ => by simp⟩, by simp⟩ (fun b hb => by simp only [blk] at hb; rw [hob] at hb; cases hb)⟩))
  exact run_make1 (l := 0) (c := 0) hE' (hR.raw hx) (hR.raw hy) (Nat.le_refl _) hzc (by omega) (by omega)
theorem OL.mk {E k l : Nat} {i j : Int} {te : TyE} {zc : Value} {u u0 : AV} (kk : OL C ops Q rest ((d, .hs k) :: ρ) η2) (hu : ∀ m w γ, Rep m w γ zc u0)
    (hs : (C.tab X).map (·.sh) = some (.slice E) := by with_unfolding_all exact rfl) (hE : C.tab E = some te := by with_unfolding_all exact rfl) (hz : te.size = 1 := by with_unfolding_all exact rfl) (hzc : te.zero.cells = #[zc] := by with_unfolding_all exact rfl) (hone : zc.oneCell' = true := by with_unfolding_all exact rfl) (hul : u.cells = [u0] := by with_unfolding_all exact rfl)
    (hx : ev2 ρ x = some (.raw (.int .i64 i)) := by with_unfolding_all exact rfl) (hy : ev2 ρ y = some (.raw (.int .i64 j)) := by with_unfolding_all exact rfl)
    (hk : η.length = k := by (try dsimp only [List.length]) <;> exact rfl) (hi : i = (l : Int) := by first | rfl | omega) (hj : j = (l : Int) := by first | rfl | omega) (hη : η ++ [.gs false E 1 (some false) (List.replicate l u)] = η2 := by (try dsimp only [List.cons_append, List.nil_append, List.append_eq, List.replicate]) <;> exact rfl) (hd : Nat.blt d C.N = true := by with_unfolding_all exact rfl)
    (hc : l ≤ 16777216 := by omega) (hbt : te.bytes * l ≤ 16777216 := by (first | omega | (simp only [TyE.bytes]; omega))) :
    OL C ops Q (⟨some d, .makeSlice X x y, T, pos, af, none⟩ :: rest) ρ η := by
  by_cases h0 : l = 0
  · subst h0
    exact OL.make0 kk hs hE hz hzc hx hy hk hi hj hη hd
  · exact OL.make kk hu hs hE hz hzc hone hul hx hy hk hi hj hη hd (Nat.le_refl _) (by omega) hc hbt
theorem Wk.lendF {s i k E E2 sz : Nat} {f : Fn} {xs : List AV} {fz : Bool} {nl : Option Bool} (hx : lk ρ s = some (.fn f [] [.bp i 0]) := by with_unfolding_all exact rfl) (ho : η[i]? = some (.cb E [.hs k]) := by with_unfolding_all exact rfl) (hk : η[k]? = some (.gs fz E2 sz nl xs) := by with_unfolding_all exact rfl) :
    Wk C ρ η ((s, .fn f [] [.ep [.sl sz none xs] 0]) :: ρ) (((η.set k (.gs true E2 sz nl xs)).set i (.cb E [.sl sz none xs])).set i .dead) := by
  have h1 := Wk.viewCell (C := C) (ρ := ρ) (o := 0) ho rfl hk
  have hi : i < η.length := (List.getElem?_eq_some_iff.1 ho).1
  have h2 := Wk.frzFn (C := C) (ρ := ρ) (η := (η.set k (.gs true E2 sz nl xs)).set i (.cb E [.sl sz none xs])) (i := i) (E := E) (cs := [.sl sz none xs]) hx (by rw [List.getElem?_set_self (by simpa using hi)]) rfl
  have e : List.map (subB i [AV.sl sz none xs]) [AV.bp i 0] = [.ep [.sl sz none xs] 0] := by simp [subB]
  rw [e] at h2
  exact h1.trans h2
end
end Go.V
