/- Part 12 of what the claim is proved by: lemmas on the model and walks through functions of the program; no conditions. -/
import Derived.Test.YtmdpbfghjdljiaaGreatV11
import Derived.Sort.Grow
import Derived.Test.YtmdpbfghjdljiaaGreatV9
import Derived.Test.YtmdpbfghjdljiaaGreatV10
namespace Go.V
open Go Go.W Go.Sort
theorem row_world {w w' : World} {g T : Nat} {cur : Array Value} {q : Nat} {os : Array Obj} {zs : List Int} (hg : w.heap[g]? = some (.cells cur T (0, 0))) (hz : zs.length ≤ cur.size) (e : w' = grow (putRow (Value.int .i64) (Sort.ahead w q) g 0 zs.toArray) os) :
    w.grownBy w' (some g) ∧ ∃ cur' : Array Value, w'.heap[g]? = some (.cells cur' T (0, 0)) ∧ cur'.size = cur.size ∧ ∀ j (h : j < zs.length), cur'[j]? = some (.int .i64 zs[j]) := by
  have hlt : g < w.heap.size := (Array.getElem?_eq_some_iff.1 hg).1
  have hsz : (putRow (Value.int .i64) (Sort.ahead w q) g 0 zs.toArray).heap.size = w.heap.size := by rw [size_putRow]; rfl
  have hh : ∀ b, b < w.heap.size → w'.heap[b]? = (putRow (Value.int .i64) (Sort.ahead w q) g 0 zs.toArray).heap[b]? := fun b hb => by
    rw [e]
    simp only [grow]
    rw [Array.getElem?_append_left (by rw [hsz]; exact hb)]
  have hother : ∀ b, b ≠ g → (putRow (Value.int .i64) (Sort.ahead w q) g 0 zs.toArray).heap[b]? = w.heap[b]? := fun b hb => by
    simp only [putRow, mapBlock]
    rw [Array.getElem?_modify, if_neg (fun h => hb h.symm)]; rfl
  refine ⟨⟨by rw [e]; rfl, by rw [e]; rfl, by rw [e]; rfl, by rw [e, size_grow, hsz]; omega, fun b hb hne => ?_⟩, putCells (Value.int .i64) 0 zs.toArray cur, ?_, ?_, fun j h => ?_⟩
  · rw [hh b hb, hother b (fun h => hne (by rw [h]))]
  · rw [hh g hlt]
    simp only [putRow, mapBlock]
    rw [Array.getElem?_modify, if_pos rfl]
    show Option.map _ w.heap[g]? = _
    rw [hg]; rfl
  · simp [putCells]
  · simp only [putCells, Array.getElem?_mapIdx]
    rw [Array.getElem?_eq_getElem (by omega)]
    simp [h]
theorem row_touch {m : Nat → Nat} {w w' : World} {g : Nat} (hm : m g = 0) (h : w.grownBy w' (some g)) : W.Touch (some g) m w m w' := by
  refine ⟨h, fun _ _ _ => rfl, h.size, fun _ _ => Nat.le_refl _, fun b i c hi hc => ?_⟩
  have hne : b ≠ g := fun e => by subst e; rw [hm] at hi; omega
  rw [World.cell?_of_block (w := w) (h.block b (lt_of_cell hc) (by simpa using hne))]; exact hc
theorem own_holds {m : Nat → Nat} {w : World} {g T : Nat} {cur : Array Value} {l : List Int} (hg : w.heap[g]? = some (.cells cur T (0, 0))) (h5 : ∀ i x, (l.map int)[i]? = some x → ∃ cs, cs.length = 1 ∧ (∀ j c, cs[j]? = some c → cur[i * 1 + j]? = some c) ∧ CK m w m w cs x) : Holds (Value.int .i64) w g 0 l.toArray := by
  intro j hj
  have hj' : j < l.length := by simpa using hj
  obtain ⟨cs, a1, a2, a3⟩ := h5 j (int l[j]) (by simp [hj'])
  have : cs = [.int .i64 l[j]] := by
    match cs, a1 with
    | [c], _ =>
      have := a3.2.2 0 c (int l[j]) rfl rfl
      rw [this.raw_eq]
  subst this
  have h6 := a2 0 _ rfl
  refine ⟨?_, ?_⟩
  · simp only [World.cell?, hg]
    simp only [Nat.zero_add, Nat.mul_one, Nat.add_zero] at h6 ⊢
    rw [h6]
    simp [hj']
  · simp [World.frozen?, hg]
theorem spec_inplace {P : Program} {f T : Nat} {nl : Option Bool} {l l' : List Int} (hp : l'.length = l.length)
    (h1 : ∀ (g cap : Nat) (w : World), Holds (Value.int .i64) w g 0 l.toArray → g < w.heap.size → Calls P f #[.slice (some ⟨g, 0, none⟩) l.length cap] w fun e w' => e = .returned (.tuple #[]) ∧ ∃ n os, w' = grow (putRow (Value.int .i64) (Sort.ahead w n) g 0 l'.toArray) os)
    (h2 : l = [] → ∀ p cap w, Calls P f #[.slice p 0 cap] w fun e w' => e = .returned (.tuple #[]) ∧ w' = w) : Spec P f [.hs 0] [.gs false T 1 nl (l.map int)] (.tp []) [.gs false T 1 none (l'.map int)] := by
  intro m w γ vs hH hV
  match vs, hV with
  | [v], ⟨hv0, _⟩ =>
  have hv := hv0.hs_get.1
  have hI : In (baseOf m w γ [.gs false T 1 nl (l.map int)]) m w γ [.gs false T 1 nl (l.map int)] := ⟨hH, .refl _ _ _, fun i v o b h1 h2 h3 => .inl (mem_blks.2 ⟨i, v, o, h1, h2, h3⟩), .refl _⟩
  obtain ⟨⟨m', hown, hm1, hm2⟩, hnl, hcl⟩ := hH.ok 0 _ _ hv rfl
  have triv : ∀ {v}, l = [] → γ[0]? = some v → (∃ p cap, v = .slice p 0 cap) → (∃ m', W.Own T 1 (CK m w) m' w v ([] : List AV) ∧ (∀ b, some b ≠ ownB v → m' b = m b) ∧ ∀ b, ownB v = some b → m b = 0) → Calls P f #[v] w (PostB (baseOf m w γ [.gs false T 1 nl (l.map int)]) (.tp []) [.gs false T 1 none (l'.map int)]) := fun {v} hl hv ⟨p, cap, e⟩ hO => by
    have hl' : l' = [] := List.eq_nil_of_length_eq_zero (by rw [hp, hl]; rfl)
    rw [e]
    refine (h2 hl p cap w).mono fun e' w' ⟨he, hw⟩ => ?_
    subst hw
    refine ⟨_, m, γ, he, ?_, .tp (vs := []) rfl (by simp)⟩
    have := hI.put (i := 0) (o' := .gs false T 1 none (l'.map int)) hv rfl ((Keep.refl m w').touch _) ⟨by subst hl'; exact hO, NL.none _, by subst hl'; simp⟩ (.inl rfl)
    exact this
  rcases hown with ⟨rfl, e⟩ | ⟨b, o, rfl, e⟩ | ⟨g, cap, cur, rfl, h0, hg, k1, k2, k3, k4, k5⟩
  · have hl : l = [] := by simpa using e
    exact triv hl hv ⟨_, _, rfl⟩ ⟨m', .inl ⟨rfl, rfl⟩, hm1, hm2⟩
  · have hl : l = [] := by simpa using e
    exact triv hl hv ⟨_, _, rfl⟩ ⟨m', .inr (.inl ⟨b, o, rfl, rfl⟩), hm1, hm2⟩
  · simp only [List.length_map] at k1 k4 hv ⊢
    have hob : ownB (.slice (some ⟨g, 0, none⟩) l.length cap) = some g := by
      obtain ⟨c', rfl⟩ : ∃ c', cap = c' + 1 := ⟨cap - 1, by omega⟩
      simp [ownB]
    have hmg := hm2 g (by simpa using hob)
    have hlt : g < w.heap.size := (Array.getElem?_eq_some_iff.1 hg).1
    refine (h1 g cap w (own_holds hg k5) hlt).mono fun e w' ⟨he, n, os, hw⟩ => ?_
    obtain ⟨r1, cur', r2, r3, r4⟩ := row_world hg (by omega) hw
    have ht := row_touch (m := m) hmg r1
    refine ⟨_, m, γ, he, ?_, .tp (vs := []) rfl (by simp)⟩
    have := hI.put (i := 0) (o' := .gs false T 1 none (l'.map int)) hv rfl (by rw [show blk (.gs false T 1 nl (l.map int)) (.slice (some ⟨g, 0, none⟩) l.length cap) = some g from hob]; exact ht) ⟨⟨m', .inr (.inr ⟨g, cap, cur', by simp [hp], h0, r2, by simpa [hp] using k1, k2, by rw [r3]; exact k3, by simpa [hp] using k4, fun i x hx => ?_⟩), ?_, ?_⟩, NL.none _, by simp [AV.cells]⟩ (.inl rfl)
    · exact this
    · rw [List.getElem?_map] at hx
      cases hq : l'[i]? with
      | none => rw [hq] at hx; cases hx
      | some y =>
        rw [hq] at hx; cases hx
        obtain ⟨hlt, rfl⟩ := List.getElem?_eq_some_iff.1 hq
        refine ⟨[.int .i64 l'[i]], rfl, fun j c hc => ?_, rfl, by simp [Value.oneCell'], fun j v c a b => ?_⟩
        · match j with
          | 0 => simp at hc; subst hc; simpa using r4 i hlt
          | j + 1 => simp at hc
        · match j with
          | 0 => simp [AV.cells] at a b; subst a b; exact .raw rfl
          | j + 1 => simp at a
    · intro b hb
      exact hm1 b (by simpa using hb)
    · intro b hb
      exact hm2 b (by simpa using hb)
end Go.V
namespace Go.V
open Go Go.W
section
variable {C : Cx} {ops : Array Oper} {Q : Qt} {ρ ρ' : Ro} {η η' η2 : Eta} {rest : List Oper} {T d X Y : Nat} {pos : String} {af : Array Edge} {op : Op} {x y z : Operand} {A K : Code} {e : Exit}
def rvG (tmps : Array Value) (rv : ResultVar) : Sem Value := match rv with
  | .tmp t => pure (tmps.getD t undef)
  | .cell p t => do loadVar t (← asAddr (tmps.getD p undef))
theorem results_eq (fn : Func) (tmps : Array Value) : results fn tmps = (do
    let vs ← fn.results.mapM (rvG tmps)
    pure (if h : vs.size = 1 then vs[0] else .tuple vs)) := by
  unfold results
  congr 1
def RV (C : Cx) (ρ : Ro) (η : Eta) : ResultVar → AV → Prop
  | .tmp t, u => lk ρ t = some u
  | .cell t X, u => ∃ i E n cs, lk ρ t = some (.bp i 0) ∧ (C.tab X).map (fun e => (e.sh.agg, e.size)) = some (true, n) ∧ η[i]? = some (.cb E cs) ∧ cs.length = n ∧ u = .st cs
theorem RV.run {rv : ResultVar} {u : AV} {m w γ ρc N D a} (h : RV C ρ η rv u) (hE : Env N D a ρc) (hR : RL m w γ ρc ρ) (hH : Heap m w γ η) :
    ∃ v, (rvG a.tmps rv).run C.P w = .ok v w ∧ Rep m w γ v u := by
  cases rv with
  | tmp t =>
    obtain ⟨v, h1, h2⟩ := hR.look h
    have hg := hE.get h1
    exact ⟨v, by simp only [rvG, hg]; rfl, h2⟩
  | cell t X =>
    obtain ⟨i, E, n, cs, hx, hs, hb, hl, rfl⟩ := h
    obtain ⟨v, h1, h2⟩ := hR.look hx
    cases h2 with
    | @bp _ _ _ b hb' =>
    obtain ⟨b', vs, e, hB, hC⟩ := hH.ok i _ _ hb' hb
    cases e
    cases ht : C.tab X with
    | none => rw [ht] at hs; cases hs
    | some te =>
      rw [ht] at hs
      simp at hs
      obtain ⟨dd, hu, hd⟩ := (C.hT X te ht).sh
      obtain ⟨inf, i1, i2, _⟩ := (C.hT X te ht).info
      have hvl : vs.length = te.size := by rw [hC.1, hl, hs.2]
      refine ⟨.agg vs.toArray, ?_, .st hC.1 hC.2.1 hC.2.2⟩
      have hagg := (C.hT X te ht).agg hs.1 w
      have hll := run_loadCells_list (P := C.P) w ⟨b, 0, none⟩ vs (fun j c hj => by rw [Addr_add_lit, Nat.zero_add]; exact hB.cell hj)
      have hl' : (loadCells ⟨b, 0, none⟩ te.size).run C.P w = .ok vs.toArray w := by rw [← hvl]; simpa using hll
      have hg := hE.get h1
      have hlv : (loadVar X ⟨b, 0, none⟩).run C.P w = .ok (.agg vs.toArray) w := by simp [loadVar, hagg, sizeOf, typeInfo, i1, i2, hl']
      simp only [rvG, hg]
      simp [asAddr, hlv]
theorem TX.res2 {fn : Func} {v1 v2 : ResultVar} {u1 u2 r1 r2 : AV} (σ : List Nat) (hD : C.D = []) (hres : fn.results = #[v1, v2]) (h1 : RV C ρ η v1 u1) (h2 : RV C ρ η v2 u2) (hn : nodB σ = true) (hp : preB C.n 0 σ = true) (ho : SubO (ts σ) η σ η') (hle1 : LE (ts σ) u1 r1) (hle2 : LE (ts σ) u2 r2) :
    TX C (bodyPost C.P fn (PostB C.B (.tp [r1, r2]) η')) .ret ρ η := by
  rintro a w ⟨m, γ, ρc, hE, hR, hI⟩
  obtain ⟨w1, a1, b1⟩ := h1.run hE hR hI.heap
  obtain ⟨w2, a2, b2⟩ := h2.run hE hR hI.heap
  obtain ⟨γ', g1, g2⟩ := hI.sel C.hn hn hp ho
  rw [hD] at hE
  refine bodyPost_ret (v := .tuple #[w1, w2]) ?_ hE.defers ⟨_, m, γ', rfl, g2, .tp (vs := [w1, w2]) rfl fun j v c hv hc => ?_⟩
  · rw [results_eq, hres]
    simp [a1, a2]
  match j with
  | 0 => simp at hv hc; subst hv hc; exact hle1 _ _ _ _ g1 _ b1
  | 1 => simp at hv hc; subst hv hc; exact hle2 _ _ _ _ g1 _ b2
  | j + 2 => simp at hv
theorem TX.res3 {fn : Func} {v1 v2 v3 : ResultVar} {u1 u2 u3 r1 r2 r3 : AV} (σ : List Nat) (hD : C.D = []) (hres : fn.results = #[v1, v2, v3]) (h1 : RV C ρ η v1 u1) (h2 : RV C ρ η v2 u2) (h3 : RV C ρ η v3 u3) (hn : nodB σ = true) (hp : preB C.n 0 σ = true) (ho : SubO (ts σ) η σ η') (hle1 : LE (ts σ) u1 r1) (hle2 : LE (ts σ) u2 r2) (hle3 : LE (ts σ) u3 r3) :
    TX C (bodyPost C.P fn (PostB C.B (.tp [r1, r2, r3]) η')) .ret ρ η := by
  rintro a w ⟨m, γ, ρc, hE, hR, hI⟩
  obtain ⟨w1, a1, b1⟩ := h1.run hE hR hI.heap
  obtain ⟨w2, a2, b2⟩ := h2.run hE hR hI.heap
  obtain ⟨w3, a3, b3⟩ := h3.run hE hR hI.heap
  obtain ⟨γ', g1, g2⟩ := hI.sel C.hn hn hp ho
  rw [hD] at hE
  refine bodyPost_ret (v := .tuple #[w1, w2, w3]) ?_ hE.defers ⟨_, m, γ', rfl, g2, .tp (vs := [w1, w2, w3]) rfl fun j v c hv hc => ?_⟩
  · rw [results_eq, hres]
    simp [a1, a2, a3]
  match j with
  | 0 => simp at hv hc; subst hv hc; exact hle1 _ _ _ _ g1 _ b1
  | 1 => simp at hv hc; subst hv hc; exact hle2 _ _ _ _ g1 _ b2
  | 2 => simp at hv hc; subst hv hc; exact hle3 _ _ _ _ g1 _ b3
  | j + 3 => simp at hv
theorem TX.res4 {fn : Func} {v1 v2 v3 v4 : ResultVar} {u1 u2 u3 u4 r1 r2 r3 r4 : AV} (σ : List Nat) (hD : C.D = []) (hres : fn.results = #[v1, v2, v3, v4]) (h1 : RV C ρ η v1 u1) (h2 : RV C ρ η v2 u2) (h3 : RV C ρ η v3 u3) (h4 : RV C ρ η v4 u4) (hn : nodB σ = true) (hp : preB C.n 0 σ = true) (ho : SubO (ts σ) η σ η') (hle1 : LE (ts σ) u1 r1) (hle2 : LE (ts σ) u2 r2) (hle3 : LE (ts σ) u3 r3) (hle4 : LE (ts σ) u4 r4) :
    TX C (bodyPost C.P fn (PostB C.B (.tp [r1, r2, r3, r4]) η')) .ret ρ η := by
  rintro a w ⟨m, γ, ρc, hE, hR, hI⟩
  obtain ⟨w1, a1, b1⟩ := h1.run hE hR hI.heap
  obtain ⟨w2, a2, b2⟩ := h2.run hE hR hI.heap
  obtain ⟨w3, a3, b3⟩ := h3.run hE hR hI.heap
  obtain ⟨w4, a4, b4⟩ := h4.run hE hR hI.heap
  obtain ⟨γ', g1, g2⟩ := hI.sel C.hn hn hp ho
  rw [hD] at hE
  refine bodyPost_ret (v := .tuple #[w1, w2, w3, w4]) ?_ hE.defers ⟨_, m, γ', rfl, g2, .tp (vs := [w1, w2, w3, w4]) rfl fun j v c hv hc => ?_⟩
  · rw [results_eq, hres]
    simp [a1, a2, a3, a4]
  match j with
  | 0 => simp at hv hc; subst hv hc; exact hle1 _ _ _ _ g1 _ b1
  | 1 => simp at hv hc; subst hv hc; exact hle2 _ _ _ _ g1 _ b2
  | 2 => simp at hv hc; subst hv hc; exact hle3 _ _ _ _ g1 _ b3
  | 3 => simp at hv hc; subst hv hc; exact hle4 _ _ _ _ g1 _ b4
  | j + 4 => simp at hv
theorem Wk.viewS {t i o : Nat} {fz E sz nl} {xs cs : List AV} (hx : lk ρ t = some (.st cs)) (hc : cs[o]? = some (.hs i)) (ho : η[i]? = some (.gs fz E sz nl xs)) : Wk C ρ η ((t, .st (cs.set o (.sl sz none xs))) :: ρ) (η.set i (.gs true E sz nl xs)) := by
  rintro a w ⟨m, γ, ρc, hE, hR, hI⟩
  obtain ⟨v, hv, hok⟩ := hI.heap.get ho
  obtain ⟨m', h1, h2, h3⟩ := hI.freeze hv ho
  obtain ⟨u, g1, g2⟩ := hR.look hx
  have g3 := g2.mono h1 (.refl _)
  cases g2 with
  | @st _ vs _ hl k1 k2 =>
  refine ⟨m', γ, (t, .agg vs.toArray) :: ρc, ⟨hE.size, hE.defers, fun s q hs => ?_⟩, ⟨rfl, .st (by simpa using hl) k1 (fun j p c hp hcc => ?_), hR.mono h1 (.refl _)⟩, h3⟩
  · simp only [W.look] at hs
    cases hb : Nat.beq t s with
    | true =>
      rw [hb] at hs
      simp at hs
      subst hs
      rw [← Nat.eq_of_beq_eq_true hb]
      exact hE.look _ _ g1
    | false => rw [hb] at hs; exact hE.look _ _ (by simpa using hs)
  · rw [List.getElem?_set] at hcc
    split at hcc
    · rename_i e
      subst e
      split at hcc
      · cases hcc
        have := (k2 o p (.hs i) hp hc).hs_get.1
        rw [hv] at this; cases this
        exact Rep.of_rs h2.rs (NL.none _)
      · cases hcc
    · exact (k2 j p c hp hcc).mono h1 (.refl _)
theorem OL.vwS {i E sz : Nat} {fz nl} {xs cs us : List AV} (t o : Nat) (k : OL C ops Q rest ((t, .st us) :: ρ) η2) (hx : lk ρ t = some (.st cs) := by with_unfolding_all exact rfl) (hc : cs[o]? = some (.hs i) := by with_unfolding_all exact rfl) (ho : η[i]? = some (.gs fz E sz nl xs) := by with_unfolding_all exact rfl) (hu : cs.set o (.sl sz none xs) = us := by (try dsimp only [List.set]) <;> exact rfl) (hη : η.set i (.gs true E sz nl xs) = η2 := by (try dsimp only [List.set]) <;> exact rfl) : OL C ops Q rest ρ η := OL.wk (Wk.viewS hx hc ho) (by rw [hu, hη]; exact k)
theorem give_load_mid {P : Program} {tab : Tab} {N : Nat} {D : List Deferred} {u} {cs us : List AV} {o n : Nat} (hT : TabOK P tab) (hs : (tab X).map (fun e => (e.sh.agg, e.size)) = some (true, n)) (hx : ev2 ρ x = some u) (hb : behind η u = some (cs, o)) (hu : (cs.drop o).take n = us) (hn : us.length = n) : Gives P N D (.load X x) ρ η (.st us) := fun _ _ _ _ _ hE hR hH => by
  obtain ⟨v, h1, h2⟩ := hR.ev hx
  obtain ⟨b, q, vs, rfl, hC, hK⟩ := behind_rep hH h2 hb
  subst hu
  have hlen : ((vs.drop o).take n).length = n := by
    rw [List.length_take, List.length_drop] at hn ⊢
    rw [hC.1]; exact hn
  have hj : ∀ (j : Nat) (l : List AV) (c : AV), ((l.drop o).take n)[j]? = some c → l[o + j]? = some c := fun j l c h => by
    rw [List.getElem?_take] at h
    split at h
    · simpa using h
    · cases h
  have hj2 : ∀ (j : Nat) (c : Value), ((vs.drop o).take n)[j]? = some c → vs[o + j]? = some c := fun j c h => by
    rw [List.getElem?_take] at h
    split at h
    · simpa using h
    · cases h
  refine ⟨.agg ((vs.drop o).take n).toArray, .st (by rw [hlen, hn]) (fun c hc => hC.2.1 c (List.mem_of_mem_drop (List.mem_of_mem_take hc))) (fun j v c a a' => hC.2.2 (o + j) v c (hj2 j v a) (hj j cs c a')), fun {m' w'} hk _ _ _ _ _ => ?_⟩
  cases ht : tab X with
  | none => rw [ht] at hs; cases hs
  | some te =>
    rw [ht] at hs
    simp at hs
    have hagg := (hT X te ht).agg hs.1
    obtain ⟨inf, i1, i2, _⟩ := (hT X te ht).info
    have hl := run_loadCells_list (P := P) w' ⟨b, q + o, none⟩ ((vs.drop o).take n) (fun j c h => by rw [Addr_add_lit, Nat.add_assoc]; exact hK (hk rfl) (o + j) c (hj2 j c h))
    rw [hlen] at hl
    have hq : inf.size = n := i2.trans hs.2
    simp [execOp, hE.ev h1, Instr.loadAt, Instr.sureAddr, loadVar, hagg, sizeOf, typeInfo, i1, hq, hl]
theorem OL.ldM {u} {cs us : List AV} {o n : Nat} (kk : OL C ops Q rest ((d, .st us) :: ρ) η) (hs : (C.tab X).map (fun e => (e.sh.agg, e.size)) = some (true, n) := by with_unfolding_all exact rfl) (hx : ev2 ρ x = some u := by with_unfolding_all exact rfl) (hb : behind η u = some (cs, o) := by with_unfolding_all exact rfl) (hu : (cs.drop o).take n = us := by with_unfolding_all exact rfl) (hn : us.length = n := by with_unfolding_all exact rfl) (hd : Nat.blt d C.N = true := by with_unfolding_all exact rfl) :
    OL C ops Q (⟨some d, .load X x, T, pos, af, none⟩ :: rest) ρ η := OL.give (give_load_mid C.hT hs hx hb hu hn) hd kk
theorem gvM {M : Bool} {u} {cs us : List AV} {o n : Nat} (hM : M = true := by rfl) (hs : (C.tab X).map (fun e => (e.sh.agg, e.size)) = some (true, n) := by with_unfolding_all exact rfl) (hx : ev2 ρ x = some u := by with_unfolding_all exact rfl) (hb : behind η u = some (cs, o) := by with_unfolding_all exact rfl) (hu : (cs.drop o).take n = us := by with_unfolding_all exact rfl) (hn : us.length = n := by with_unfolding_all exact rfl) : Gives C.P C.N C.D (.load X x) ρ η (.st us) M := by
  subst hM
  exact give_load_mid C.hT hs hx hb hu hn
end
end Go.V
namespace Go.V
open Go Go.W
theorem LEs.get {τ : Nat → Option Nat} : ∀ {us as : List AV}, LEs τ us as → us.length = as.length ∧ ∀ (j : Nat) x y, us[j]? = some x → as[j]? = some y → LE τ x y
  | [], [], _ => ⟨rfl, by simp⟩
  | u :: us, a :: as, h => by
    obtain ⟨h1, h2⟩ := LEs.get (us := us) (as := as) h.2
    refine ⟨by simp [h1], fun j x y hx hy => ?_⟩
    cases j with
    | zero => simp at hx hy; subst hx hy; exact h.1
    | succ j => exact h2 j x y (by simpa using hx) (by simpa using hy)
  | [], _ :: _, h => h.elim
  | _ :: _, [], h => h.elim
section
variable {C : Cx} {ops : Array Oper} {Q : Qt} {ρ : Ro} {η : Eta} {rest : List Oper} {A : Code} {e : Exit} {x y : AV}
theorem OL.kn (t : Nat) (h : LE (ts []) x y) (k : OL C ops Q rest ((t, y) :: ρ) η) (hx : lk ρ t = some x := by with_unfolding_all exact rfl) : OL C ops Q rest ρ η :=
  fun a w hA => k a w (hA.know hx fun m w γ v hr => h m w γ γ (fun i j h => by cases h) v hr)
theorem TX.kn (t : Nat) (h : LE (ts []) x y) (k : TX C Q e ((t, y) :: ρ) η) (hx : lk ρ t = some x := by with_unfolding_all exact rfl) : TX C Q e ρ η :=
  fun a w hA => k a w (hA.know hx fun m w γ v hr => h m w γ γ (fun i j h => by cases h) v hr)
end
end Go.V
namespace Go.V
open Go Go.W Go.RowKit
def isLD : Obj → Bool
  | .loop _ => true
  | .deferred _ => true
  | _ => false
def StepOK (B0 : Nat) (m : Nat → Nat) (w : World) (m' : Nat → Nat) (w' : World) : Prop :=
  ∃ row, w.grownBy w' row ∧ (∀ r, row = some r → B0 ≤ r ∧ ∃ o, w.heap[r]? = some o ∧ isLD o = true) ∧ ∀ b, b < w.heap.size → m' b = m b
def Stays {β : Type} (B0 : Nat) (J : β → (Nat → Nat) → World → Prop) : Prop := ∀ s m w m' w', J s m w → StepOK B0 m w m' w' → J s m' w'
theorem Stays.le {β : Type} {B0 B1 : Nat} {J : β → (Nat → Nat) → World → Prop} (h : Stays B0 J) (hb : B0 ≤ B1) : Stays B1 J := fun s m w m' w' hj ⟨row, h1, h2, h3⟩ =>
  h s m w m' w' hj ⟨row, h1, fun r e => ⟨Nat.le_trans hb (h2 r e).1, (h2 r e).2⟩, h3⟩
theorem StepOK.keep {B0 m w m' w'} (h : Keep m w m' w') : StepOK B0 m w m' w' := ⟨none, h.grown, nofun, h.lim⟩
theorem StepOK.put {B0 m} {w : World} {l : Nat} {o o' : Obj} (hl : w.heap[l]? = some o) (ho : isLD o = true) (hB : B0 ≤ l) : StepOK B0 m w m (w.putObj l o') :=
  ⟨some l, grownBy_putObj' w l o', fun r e => by cases e; exact ⟨hB, o, hl, ho⟩, fun _ _ => rfl⟩
theorem LD_cell {w : World} {b i c} (h : w.cell? ⟨b, i, none⟩ = some c) {o : Obj} (ho : w.heap[b]? = some o) : isLD o = false := by
  unfold World.cell? at h
  rw [ho] at h
  cases o <;> simp_all [isLD]
theorem StepOK.ext {B0 m w m' w'} (h : StepOK B0 m w m' w') : Ext m w m' w' := by
  obtain ⟨row, hg, hr, hm⟩ := h
  refine ⟨hg.size, fun b hb => by rw [hm b hb]; exact Nat.le_refl _, fun b i c _ hc => ?_⟩
  have hlt := lt_of_cell hc
  have hne : some b ≠ row := fun e => by
    obtain ⟨_, o, ho, hl⟩ := hr b e.symm
    rw [LD_cell hc ho] at hl; cases hl
  rw [World.cell?_of_block (w := w) (hg.block b hlt hne)]; exact hc
def KeepL (E : Nat → Prop) (w w' : World) : Prop := ∀ b o, ¬ E b → w.heap[b]? = some o → isLD o = true → w'.heap[b]? = some o
theorem KeepL.refl (E w) : KeepL E w w := fun _ _ _ h _ => h
theorem KeepL.trans {E a b c} (h : KeepL E a b) (k : KeepL E b c) : KeepL E a c := fun x o he ho hl => k x o he (h x o he ho hl) hl
theorem KeepL.mono {E E' : Nat → Prop} {a b} (h : KeepL E a b) (he : ∀ x, E x → E' x) : KeepL E' a b := fun x o hx ho hl => h x o (fun e => hx (he x e)) ho hl
theorem KeepL.keep {E m w m' w'} (h : Keep m w m' w') : KeepL E w w' := fun b o _ ho _ => by rw [h.block (Array.getElem?_eq_some_iff.1 ho).1]; exact ho
theorem KeepL.put {E : Nat → Prop} {w : World} {l : Nat} {o' : Obj} (h : E l) : KeepL E w (w.putObj l o') := fun b o hb ho _ => (World.putObj_heap_other (fun e => hb (by rw [e]; exact h))).trans ho
def YieldV (P : Program) (l : Nat) (E : Nat → Prop) (vs : List Value) (m : Nat → Nat) (W : World) (K1 K0 : (Nat → Nat) → World → Prop) : Prop :=
  YieldAt Fence.wide 0 P l vs.toArray W fun e W' => ∃ m', Ext m W m' W' ∧ ((e = .returned (.bool true) ∧ KeepL (fun _ => False) W W' ∧ K1 m' W') ∨ (e = .returned (.bool false) ∧ KeepL E W W' ∧ K0 m' W'))
def SeqV (P : Program) (gf : Nat) (lb : Array Value) {α : Type} (as : α → List AV) (L : List α) (m0 : Nat → Nat) (w0 : World) : Prop :=
  ∀ (l : Nat) (E : Nat → Prop) (J Jx : List α → (Nat → Nat) → World → Prop) (m : Nat → Nat) (W : World), Ext m0 w0 m W → E l → (∀ b, E b → b < W.heap.size) → Stays W.heap.size J → Stays W.heap.size Jx →
    (∀ pre x m1 W1 vs, J pre m1 W1 → (∃ r, pre ++ x :: r = L) → VL m1 W1 [] vs (as x) → YieldV P l E vs m1 W1 (J (pre ++ [x])) (Jx (pre ++ [x]))) →
    J [] m W →
    Calls P gf (#[.func (.yield l) #[] #[]] ++ lb) W fun e W' => ∃ v m', e = .returned v ∧ Ext m W m' W' ∧ (J L m' W' ∨ ∃ pre, Jx pre m' W')
theorem SeqV.later {P : Program} {gf : Nat} {lb : Array Value} {α : Type} {as : α → List AV} {L : List α} {m0 w0 m w} (h : SeqV P gf lb as L m0 w0) (he : Ext m0 w0 m w) : SeqV P gf lb as L m w :=
  fun l E J Jx m1 W h1 => h l E J Jx m1 W (he.trans h1)
def SeqMP (P : Program) {α : Type} (as : α → List AV) (L : List α) : MP where
  R m w v := ∃ gf lb fn, v = .func (.func gf) #[] lb ∧ P.funcs[gf]? = some fn ∧ (fn.body.isNone || fn.name == "runtime.NumGoroutine") = false ∧ SeqV P gf lb as L m w
  mono := fun he ⟨gf, lb, fn, h1, h2, h3, h4⟩ => ⟨gf, lb, fn, h1, h2, h3, h4.later he⟩
  one := fun ⟨gf, lb, fn, h1, _⟩ => by subst h1; rfl
/-! ## The statement -/
def bodyQ {α : Type} (E : Nat → Prop) (I Ix : List α → (Nat → Nat) → World → Prop) (xs : List α) (m : Nat → Nat) (W : World) : Exit → Act → World → Prop
  | .normal, _, W' => ∃ m', Ext m W m' W' ∧ KeepL (fun _ => False) W W' ∧ I xs m' W'
  | .ret, _, W' => ∃ m', Ext m W m' W' ∧ KeepL E W W' ∧ Ix xs m' W'
  | _, _, _ => False
abbrev markD (D : Nat) : Deferred := { target := .collected D, args := #[] }
set_option maxHeartbeats 1000000 in
theorem rangeV {P : Program} {α : Type} {as : α → List AV} {L : List α} {g : Operand} {t d T rid k : Nat} {pos : String} {af : Array Edge} {body : Code} {Q : Exit → Act → World → Prop} {a : Act} {w : World} {m : Nat → Nat} {gf : Nat} {lb : Array Value} {fn : Func}
    (hg : a.eval g = .func (.func gf) #[] lb) (hf : P.funcs[gf]? = some fn) (hb : (fn.body.isNone || fn.name == "runtime.NumGoroutine") = false) (hseq : SeqV P gf lb as L m w)
    (E0 : Nat → Prop) (hE0 : ∀ b, E0 b → b < w.heap.size) (I Ix : List α → (Nat → Nat) → World → Prop) (hI : Stays w.heap.size I) (hIx : Stays w.heap.size Ix) (h0 : I [] m w)
    (has : ∀ x, (as x).length = 1)
    (hround : ∀ l pre x m1 W1 v, w.heap.size ≤ l → I pre m1 W1 → (∃ r, pre ++ x :: r = L) → VL m1 W1 [] [v] (as x) → Ext m w m1 W1 →
      body.wpIn (WF (some l)) 0 P (bodyQ E0 I Ix (pre ++ [x]) m1 W1) (({ tmps := a.tmps.setIfInBounds t v, defers := [] } : Act).put (some d) (({ tmps := a.tmps.setIfInBounds t v, defers := [] } : Act).eval (.tmp t))) W1)
    (hdone : ∀ m' W', Ext m w m' W' → I L m' W' → W'.heap[w.heap.size]? = some (.deferred (some [])) → Q .normal { a with defers := markD w.heap.size :: a.defers } W')
    (hstop : ∀ pre m' W', Ext m w m' W' → Ix pre m' W' → W'.heap[w.heap.size]? = some (.deferred (some [])) → Q .ret { a with defers := markD w.heap.size :: a.defers } W') :
    (Code.rangeFunc g #[t] (.region rid #[⟨some d, .assign (.tmp t), T, pos, af, none⟩] false) body).wpIn Fence.wide k P Q a w := by
  have hb' := hb
  simp at hb'
  have hbn : fn.body ≠ none := Option.isSome_iff_ne_none.1 hb'.1
  have eg : ∀ args w, (callFunc gf args).run P w = .ok (.enter gf args) w := fun args w => by simp [callFunc, hf, hb'.2, hbn]
  refine wpIn_rangeFunc ?_
  intro fn' hfn'
  have hround' : (Fence.wide).round = none := rfl
  rw [hround']
  obtain ⟨rec, hrec⟩ : ∃ rec : LoopState → Option Code → Loop, rec = fun st pe => { state := st, pending := pe, fn := fn', tmps := a.tmps, params := #[t], assign := (.region rid #[⟨some d, .assign (.tmp t), T, pos, af, none⟩] false), body, defers := w.heap.size } := ⟨_, rfl⟩
  obtain ⟨W1, hW1⟩ : ∃ W1, (w.alloc (.deferred (some []))).alloc (.loop (rec .ready none)) = W1 := ⟨_, rfl⟩
  have hL1 : W1.heap[w.heap.size + 1]? = some (.loop (rec .ready none)) := by
    rw [← hW1]; have := World.alloc_heap_new (w.alloc (.deferred (some []))) (.loop (rec .ready none)); rwa [World.size_alloc] at this
  have hK1 : W1.heap[w.heap.size]? = some (.deferred (some [])) := by
    rw [← hW1]; exact (Below.heap_alloc _ _ _ (by simp)).trans (World.alloc_heap_new w _)
  have hz1 : W1.heap.size = w.heap.size + 2 := by rw [← hW1]; simp
  have hkp : Keep m w m W1 := by
    rw [← hW1]
    exact ⟨⟨rfl, rfl, rfl, by simp; omega, fun b hb _ => ((World.grownBy_alloc _ _ none).block b (by simp; omega) (by simp)).trans ((World.grownBy_alloc w _ none).block b hb (by simp))⟩, fun _ _ => rfl⟩
  obtain ⟨mS, hmS⟩ : ∃ mS, mS = m := ⟨_, rfl⟩
  have hI1 : I [] m W1 := hI _ _ _ _ _ h0 (.keep hkp)
  refine ⟨w.heap.size + 1, [markD w.heap.size], W1, { target := .fn (.func gf) lb, args := #[.func (.yield (w.heap.size + 1)) #[] #[]] }, W1, gf,
    #[.func (.yield (w.heap.size + 1)) #[] #[]] ++ lb, W1, ?_, ?_, ?_, ?_, fun h => (by cases h), callsIn_wide.2 ?_⟩
  · rw [← hW1, hrec]; exact run_enterLoop_outer _ _ _ _ _
  · simp only [resolve, hg]
    simp [go_sem]
  · intro f' hf'; trivial
  · simp [invoke, go_sem, eg]
  · refine (hseq (w.heap.size + 1) (fun b => E0 b ∨ b = w.heap.size + 1)
      (fun pre m W => I pre m W ∧ Ext mS w m W ∧ W.heap[w.heap.size + 1]? = some (.loop (rec .ready none)) ∧ W.heap[w.heap.size]? = some (.deferred (some [])))
      (fun pre m W => Ix pre m W ∧ Ext mS w m W ∧ W.heap[w.heap.size + 1]? = some (.loop (rec .done (some .ret))) ∧ W.heap[w.heap.size]? = some (.deferred (some [])))
      m W1 hkp.ext (.inr rfl) (fun b hb => hb.elim (fun h => by have := hE0 b h; omega) (fun h => by omega)) ?_ ?_ ?_ ⟨hI1, hmS ▸ hkp.ext, hL1, hK1⟩).mono ?_
    · rintro pre m1 W m2 W' ⟨h1, h2, h3, h4⟩ hs
      refine ⟨(hI.le (by omega)) _ _ _ _ _ h1 hs, h2.trans hs.ext, ?_, ?_⟩
      all_goals
        obtain ⟨row, hgr, hr, _⟩ := hs
        first
        | exact (hgr.block _ (Array.getElem?_eq_some_iff.1 h3).1 (fun e => by have := (hr _ e.symm).1; omega)).trans h3
        | exact (hgr.block _ (Array.getElem?_eq_some_iff.1 h4).1 (fun e => by have := (hr _ e.symm).1; omega)).trans h4
    · rintro pre m1 W m2 W' ⟨h1, h2, h3, h4⟩ hs
      refine ⟨(hIx.le (by omega)) _ _ _ _ _ h1 hs, h2.trans hs.ext, ?_, ?_⟩
      all_goals
        obtain ⟨row, hgr, hr, _⟩ := hs
        first
        | exact (hgr.block _ (Array.getElem?_eq_some_iff.1 h3).1 (fun e => by have := (hr _ e.symm).1; omega)).trans h3
        | exact (hgr.block _ (Array.getElem?_eq_some_iff.1 h4).1 (fun e => by have := (hr _ e.symm).1; omega)).trans h4
    · -- one round
      rintro pre x m1 W vs ⟨hi, he, hl, hk⟩ hpre hv
      have hlt : w.heap.size + 1 < W.heap.size := (Array.getElem?_eq_some_iff.1 hl).1
      obtain ⟨v, rfl⟩ : ∃ v, vs = [v] := by
        have := hv.len
        rw [has] at this
        match vs, this with
        | [v], _ => exact ⟨v, rfl⟩
      have hy := run_yield (P := P) (args := #[v]) hl (by rw [hrec]; rfl)
      rw [hrec] at hy
      dsimp only at hy
      have ez : Array.foldl (fun (tmps : Array Value) (x : Tmp × Value) => match x with | (t, a) => tmps.setIfInBounds t a) a.tmps ((#[t] : Array Tmp).zip #[v]) = a.tmps.setIfInBounds t v := by simp
      rw [ez] at hy
      refine ⟨fn', _, _, body, hy, roundIn_of_wpIn hfn' ?_⟩
      refine wpIn_region_lit (l := [⟨some d, .assign (.tmp t), T, pos, af, none⟩]) ?_
      refine Go.W.i_lcons (r := some (w.heap.size + 1)) (Go.W.wl_value (v := _) (w' := W) rfl (by simp [execOp]; rfl) ?_)
      refine ⟨_, run_beginRound hl (by rw [hrec]), ?_⟩
      have hl2 : (W.putObj (w.heap.size + 1) (.loop { rec .ready none with state := .busy })).heap[w.heap.size + 1]? = some (.loop { rec .ready none with state := .busy }) := World.putObj_heap_same hlt
      have hk2 : (W.putObj (w.heap.size + 1) (.loop { rec .ready none with state := .busy })).heap[w.heap.size]? = some (.deferred (some [])) := (World.putObj_heap_other (by omega)).trans hk
      have hs2 : StepOK w.heap.size m1 W m1 (W.putObj (w.heap.size + 1) (.loop { rec .ready none with state := .busy })) := .put hl rfl (by omega)
      have hkl2 : ∀ b o, b ≠ w.heap.size + 1 → W.heap[b]? = some o → (W.putObj (w.heap.size + 1) (.loop { rec .ready none with state := .busy })).heap[b]? = some o := fun b o hb ho => (World.putObj_heap_other hb).trans ho
      generalize hW2 : W.putObj (w.heap.size + 1) (.loop { rec .ready none with state := .busy }) = W2 at *
      have hv2 : VL m1 W2 [] [v] (as x) := hv.mono hs2.ext (.refl _)
      refine wpIn_mono (hround (w.heap.size + 1) pre x m1 W2 v (by omega) (hI _ _ _ _ _ hi hs2) hpre hv2 (hmS ▸ he.trans hs2.ext)) ?_
      rintro e a3 W3 hp
      cases e with
      | normal =>
        obtain ⟨m3, he3, hkl3, hi3⟩ := hp
        have hl3 := hkl3 _ _ (fun h => h) hl2 rfl
        have hk3 := hkl3 _ _ (fun h => h) hk2 rfl
        have hr : (Instr.endRound (w.heap.size + 1) none).run P W3 = .ok (.bool true) (W3.putObj (w.heap.size + 1) (.loop (rec .ready none))) := by
          have := run_endRound (P := P) none hl3
          rw [hrec] at this ⊢
          exact this
        have hs3 : StepOK w.heap.size m3 W3 m3 (W3.putObj (w.heap.size + 1) (.loop (rec .ready none))) := .put hl3 rfl (by omega)
        refine ⟨_, _, hr, m3, ?_, .inl ⟨rfl, ?_, hI _ _ _ _ _ hi3 hs3, (he.trans hs2.ext).trans (he3.trans hs3.ext), World.putObj_heap_same (Array.getElem?_eq_some_iff.1 hl3).1, (World.putObj_heap_other (by omega)).trans hk3⟩⟩
        · exact hs2.ext.trans (he3.trans hs3.ext)
        · intro b o _ ho hld
          by_cases hb : b = w.heap.size + 1
          · subst hb
            rw [hl] at ho
            cases ho
            exact World.putObj_heap_same (Array.getElem?_eq_some_iff.1 hl3).1
          · exact (World.putObj_heap_other hb).trans (hkl3 _ _ (fun h => h) (hkl2 b o hb ho) hld)
      | ret =>
        obtain ⟨m3, he3, hkl3, hi3⟩ := hp
        have hl3 := hkl3 _ _ (fun h => by have := hE0 _ h; omega) hl2 rfl
        have hk3 := hkl3 _ _ (fun h => by have := hE0 _ h; omega) hk2 rfl
        have hr : (Instr.endRound (w.heap.size + 1) (some .ret)).run P W3 = .ok (.bool false) (W3.putObj (w.heap.size + 1) (.loop (rec .done (some .ret)))) := by
          have := run_endRound (P := P) (some .ret) hl3
          rw [hrec] at this ⊢
          exact this
        have hs3 : StepOK w.heap.size m3 W3 m3 (W3.putObj (w.heap.size + 1) (.loop (rec .done (some .ret)))) := .put hl3 rfl (by omega)
        refine ⟨_, _, hr, m3, ?_, .inr ⟨rfl, ?_, hIx _ _ _ _ _ hi3 hs3, (he.trans hs2.ext).trans (he3.trans hs3.ext), World.putObj_heap_same (Array.getElem?_eq_some_iff.1 hl3).1, (World.putObj_heap_other (by omega)).trans hk3⟩⟩
        · exact hs2.ext.trans (he3.trans hs3.ext)
        · intro b o hb ho hld
          have hb1 : ¬ E0 b := fun h => hb (.inl h)
          have hb2 : b ≠ w.heap.size + 1 := fun h => hb (.inr h)
          exact (World.putObj_heap_other hb2).trans (hkl3 _ _ hb1 (hkl2 b o hb2 ho) hld)
      | _ => exact hp.elim
    · -- behind the iterator
      rintro e W2 ⟨v, m2, rfl, he2, (⟨hi, he, hl, hk⟩ | ⟨pre, hi, he, hl, hk⟩)⟩
      · have hr := run_endLoop (P := P) hl (by rw [hrec]; simp)
        have hs3 : StepOK w.heap.size m2 W2 m2 (W2.putObj (w.heap.size + 1) (.loop { rec .ready none with state := .exhausted })) := .put hl rfl (by omega)
        refine ⟨none, _, by rw [hrec] at hr ⊢; exact hr, hdone m2 _ (hmS ▸ he.trans hs3.ext) (hI _ _ _ _ _ hi hs3) ((World.putObj_heap_other (by omega)).trans hk)⟩
      · have hr := run_endLoop (P := P) hl (by rw [hrec]; simp)
        have hs3 : StepOK w.heap.size m2 W2 m2 (W2.putObj (w.heap.size + 1) (.loop { rec .done (some .ret) with state := .exhausted })) := .put hl rfl (by omega)
        refine ⟨some .ret, _, by rw [hrec] at hr ⊢; exact hr, wpIn_ret (hstop pre m2 _ (hmS ▸ he.trans hs3.ext) (hIx _ _ _ _ _ hi hs3) ((World.putObj_heap_other (by omega)).trans hk))⟩
end Go.V
namespace Go.V
open Go Go.W Go.RowKit
theorem ObjOK.notLD {m w γ v o b} (h : ObjOK m w γ v o) (hb : blk o v = some b) {ob : Obj} (ho : w.heap[b]? = some ob) : isLD ob = false := by
  cases o with
  | cb T cs =>
    obtain ⟨b', vs, rfl, hB, hC⟩ := h
    cases hb
    rw [hB.heap] at ho; cases ho; rfl
  | gs fz T sz nl xs =>
    obtain ⟨h1, h2⟩ := h
    have key : ∀ {C : CRel AV} {m}, W.Own T sz C m w v xs → isLD ob = false := by
      intro C m h
      rcases h with ⟨rfl, _⟩ | ⟨_, _, rfl, _⟩ | ⟨g, cap, cur, rfl, h0, hg, _⟩
      · cases hb
      · cases hb
      · obtain ⟨c, rfl⟩ : ∃ c, cap = c + 1 := ⟨cap - 1, by omega⟩
        cases hb
        rw [hg] at ho; cases ho; rfl
    cases fz with
    | true => exact key h1
    | false => obtain ⟨m1, h1, _⟩ := h1; exact key h1
  | mo es =>
    obtain ⟨b', l, rfl, h0, hM, _⟩ := h
    cases hb
    obtain ⟨es', clock, hM1, hM2⟩ := hM
    rw [hM1] at ho; cases ho; rfl
  | gw T sz nl xs =>
    obtain ⟨⟨m1, h, _⟩, h2⟩ := h
    rcases h with ⟨rfl, _⟩ | ⟨_, _, rfl, _⟩ | ⟨g, cap, cur, rfl, h0, hg, _⟩
    · cases hb
    · cases hb
    · obtain ⟨c, rfl⟩ : ∃ c, cap = c + 1 := ⟨cap - 1, by omega⟩
      cases hb
      rw [hg] at ho; cases ho; rfl
  | dead => cases hb
theorem StepOK.far {B0 m w m' w'} (h : StepOK B0 m w m' w') : ∃ S : List Nat, Far S m w m' w' ∧ ∀ b ∈ S, B0 ≤ b ∧ ∃ o, w.heap[b]? = some o ∧ isLD o = true := by
  have he := h.ext
  obtain ⟨row, hg, hr, hm⟩ := h
  refine ⟨row.toList, ⟨hg.os, hg.tape, hg.output, hg.size, fun b hb hn => hg.block b hb (fun e => hn (by rw [← e]; simp)), fun b hb _ => hm b hb, he⟩, fun b hb => hr b (by simpa using hb)⟩
theorem In.step {B m w γ η m' w'} (h : In B m w γ η) (hs : StepOK B.w.heap.size m w m' w') : In B m' w' γ η := by
  obtain ⟨S, hf, hS⟩ := hs.far
  have hoff : ∀ (i : Nat) v o, γ[i]? = some v → η[i]? = some o → ∀ b, blk o v = some b → b ∉ S := fun i v o hv ho b hb hm => by
    obtain ⟨_, ob, h1, h2⟩ := hS b hm
    rw [(h.heap.ok i v o hv ho).notLD hb h1] at h2; cases h2
  exact ⟨⟨h.heap.len, fun i v o a b => (h.heap.ok i v o a b).far hf (hoff i v o a b) (.refl _), h.heap.apart⟩, h.far.trans hf (fun b hb => .inr (hS b hb).1), h.own, h.pre⟩
theorem In.comp {B B' m w γ η} (h : In B' m w γ η) (hf : Far B.S B.m B.w B'.m B'.w) (ho : ∀ b ∈ B'.S, b ∈ B.S ∨ B.w.heap.size ≤ b) (hp : Pre B.γ B'.γ) : In B m w γ η :=
  ⟨h.heap, hf.trans h.far ho, fun i v o b hv hq hb => (h.own i v o b hv hq hb).elim (fun e => ho b e) (fun e => .inr (Nat.le_trans hf.size e)), hp.trans h.pre⟩
theorem In.rebase {B m w γ η} (h : In B m w γ η) {γ0 : List Value} (hp : Pre γ0 γ) : In ⟨m, w, blks γ η, γ0⟩ m w γ η :=
  ⟨h.heap, .refl _ _ _, fun i v o _b h1 h2 h3 => .inl (mem_blks.2 ⟨i, v, o, h1, h2, h3⟩), hp⟩
theorem blks_own {B m w γ η} (h : In B m w γ η) : ∀ b ∈ blks γ η, b ∈ B.S ∨ B.w.heap.size ≤ b := fun b hb => by
  obtain ⟨i, v, o, h1, h2, h3⟩ := mem_blks.1 hb
  exact h.own i v o b h1 h2 h3
theorem blks_notLD {B m w γ η} (h : In B m w γ η) : ∀ b ∈ blks γ η, ∀ ob, w.heap[b]? = some ob → isLD ob = false := fun b hb ob ho => by
  obtain ⟨i, v, o, h1, h2, h3⟩ := mem_blks.1 hb
  exact (h.heap.ok i v o h1 h2).notLD h3 ho
structure Marked (B B' : Base) (D : Nat) : Prop where
  far : Far B.S B.m B.w B'.m B'.w
  own : ∀ b ∈ B'.S, b ∈ B.S ∨ B.w.heap.size ≤ b
  pre : Pre B.γ B'.γ
  mark : B'.w.heap[D]? = some (.deferred (some []))
  off : D ∉ B'.S
  le : B.w.heap.size ≤ D
def RQ (C : Cx) (η' : Eta) : Qt
  | .normal, a, w => A2 C.N C.D C.B a w [] η'
  | _, _, _ => False
section
variable {C : Cx} {Q : Qt} {ρ ρ' : Ro} {η η' : Eta}
theorem TX.rq (σ : List Nat) (ho : SubO (ts σ) η σ η') (hn : nodB σ = true := by with_unfolding_all exact rfl) (hp : preB C.n 0 σ = true := by with_unfolding_all exact rfl) : TX C (RQ C η') .normal ρ η := fun _ _ hA => hA.sel C.hn hn hp ho trivial
theorem Env.setT {N D a ρ t} {v : Value} (h : Env N D a ρ) (ht : t < N) : Env N [] { tmps := a.tmps.setIfInBounds t v, defers := [] } ((t, v) :: ρ) := by
  have h0 : Env N [] { tmps := a.tmps, defers := [] } ρ := ⟨h.size, rfl, h.look⟩
  have := h0.put v ht
  simpa [Act.put] using this
set_option maxHeartbeats 1000000 in
theorem TC.rfV {P : Program} {α : Type} {as : α → List AV} {L : List α} {g : Operand} {t d T rid : Nat} {pos : String} {af : Array Edge} {body : Code} (u : α → AV) (ρ0 : Ro) (ηs : List α → Eta) (n0 : Nat) (σ : List Nat)
    (hx : ev2 ρ g = some (.pr (SeqMP P as L))) (hP : C.P = P) (hr : C.r = none) (has : ∀ x, as x = [u x]) (hn : nodB σ = true) (hp : preB C.n 0 σ = true) (ho : SubO (ts σ) η σ (ηs [])) (hρ : SubR (ts σ) ρ ρ0) (hself : SubR (ts (List.range n0)) ρ0 ρ0)
    (hnn : C.n ≤ n0) (hn0 : n0 ≤ (ηs []).length) (ht : Nat.blt t C.N = true) (hd : Nat.blt d C.N = true)
    (hround : ∀ pre x (Bx : Base) (hB : Bx.γ.length = n0) l, (∃ r, pre ++ x :: r = L) → TC ⟨C.P, C.tab, C.hT, C.hm, C.N, [], Bx, n0, hB, some (some l), 0⟩ (RQ ⟨C.P, C.tab, C.hT, C.hm, C.N, [], Bx, n0, hB, some (some l), 0⟩ (ηs (pre ++ [x]))) body ((d, u x) :: (t, u x) :: ρ0) (ηs pre))
    (hdone : ∀ (B' : Base) (hB' : B'.γ.length = C.n) D, Marked C.B B' D → TX ⟨C.P, C.tab, C.hT, C.hm, C.N, markD D :: C.D, B', C.n, hB', none, 0⟩ Q .normal ρ0 (ηs L)) :
    TC C Q (.rangeFunc g #[t] (.region rid #[⟨some d, .assign (.tmp t), T, pos, af, none⟩] false) body) ρ η := by
  rintro a w ⟨m, γ, ρc, hE, hR, hI⟩
  rw [Cx.W_none hr]
  obtain ⟨v, hv1, hv2⟩ := hR.ev hx
  obtain ⟨γ', hsh, hI'⟩ := hI.sel C.hn hn hp ho
  obtain ⟨ρc', hR', hsub⟩ := SubR.rl hsh hR hρ
  have hE' := hE.sel hsub
  have hg0 := hE.ev hv1
  cases hv2 with
  | pr hseq =>
  obtain ⟨gf, lb, fn, rfl, hf, hb, hseq⟩ := hseq
  subst hP
  have hl' := hI'.heap.len
  have hsh0 : Sh2 (ts (List.range n0)) γ' (γ'.take n0) := by
    intro i j hij w' hw'
    obtain ⟨k, h1, h2⟩ := idx_spec (List.range n0) i 0 j hij
    have hk : k < n0 := by have := (List.getElem?_eq_some_iff.1 h2).1; simpa using this
    rw [List.getElem?_range hk] at h2
    cases h2
    rw [h1, Nat.zero_add, List.getElem?_take, if_pos hk]
    exact hw'
  obtain ⟨ρc0, hR0, hsub0⟩ := SubR.rl hsh0 hR' hself
  have hE0 := hE'.sel hsub0
  have hpre0 : Pre (γ'.take n0) γ' := fun i v h => by
    rw [List.getElem?_take] at h
    split at h
    · exact h
    · cases h
  have hlen0 : (γ'.take n0).length = n0 := by simp; omega
  have hIb := hI'.rebase hpre0
  refine wpIn_wide.1 (rangeV (k := 0) hg0 hf hb hseq (fun _ => False) (fun _ h => h.elim) (fun pre m1 W1 => ∃ γ1, In ⟨m, w, blks γ' (ηs []), γ'.take n0⟩ m1 W1 γ1 (ηs pre)) (fun _ _ _ => False) ?_ ?_ ⟨γ', hIb⟩ ?_ ?_ ?_ ?_)
  · rintro pre m1 W1 m2 W2 ⟨γ1, h1⟩ hs
    exact ⟨γ1, h1.step hs⟩
  · rintro _ _ _ _ _ h _; exact h
  · intro x; rw [has]; rfl
  · rintro l pre x m1 W1 v hl ⟨γ1, h1⟩ hpre hv he
    rw [has] at hv
    have hrep : Rep m1 W1 γ1 v (u x) := hv.1.mono (.refl _ _) (fun i v h => by simp at h)
    have hIx := h1.rebase h1.pre
    have hEr : Env C.N [] (({ tmps := a.tmps.setIfInBounds t v, defers := [] } : Act).put (some d) (({ tmps := a.tmps.setIfInBounds t v, defers := [] } : Act).eval (.tmp t))) ((d, v) :: (t, v) :: ρc0) := by
      have h2 := Env.setT (v := v) hE0 (by simpa using ht)
      have h3 : ({ tmps := a.tmps.setIfInBounds t v, defers := [] } : Act).eval (.tmp t) = v := h2.ev (x := .tmp t) (by simp [W.ev, W.look])
      rw [h3]
      exact h2.put v (by simpa using hd)
    have hb := hround pre x ⟨m1, W1, blks γ1 (ηs pre), γ'.take n0⟩ hlen0 l hpre _ _ ⟨m1, γ1, _, hEr, ⟨rfl, hrep, rfl, hrep, hR0.mono he h1.pre⟩, hIx⟩
    rw [Cx.W_some rfl] at hb
    refine wpIn_mono hb fun e a' W' hq => ?_
    cases e with
    | normal =>
      obtain ⟨m3, γ3, _, _, _, h3⟩ := hq
      refine ⟨m3, h3.far.ext, fun b o _ hbo hld => ?_, γ3, h3.comp h1.far (blks_own h1) (.refl _)⟩
      have hn : b ∉ blks γ1 (ηs pre) := fun hm => by rw [blks_notLD h1 b hm o hbo] at hld; cases hld
      rw [h3.far.block b (Array.getElem?_eq_some_iff.1 hbo).1 hn]; exact hbo
    | _ => exact hq.elim
  · rintro m' W' he ⟨γL, hL⟩ hD
    have hpc : Pre C.B.γ (γ'.take n0) := fun i v h => by
      have hi := (List.getElem?_eq_some_iff.1 h).1
      rw [C.hn] at hi
      rw [List.getElem?_take, if_pos (by omega)]
      exact hI'.pre i v h
    have hIL := hL.rebase (hpc.trans hL.pre)
    have hM : Marked C.B ⟨m', W', blks γL (ηs L), C.B.γ⟩ w.heap.size := by
      refine ⟨hI'.far.trans hL.far (blks_own hI'), fun b hb => ?_, .refl _, hD, fun hm => ?_, hI'.far.size⟩
      · rcases blks_own hL b hb with h | h
        · exact blks_own hI' b h
        · exact .inr (Nat.le_trans hI'.far.size h)
      · have := blks_notLD hL _ hm _ hD; cases this
    exact hdone ⟨m', W', blks γL (ηs L), C.B.γ⟩ C.hn _ hM _ _ ⟨m', γL, ρc0, ⟨hE0.size, by show _ :: a.defers = _; rw [hE0.defers], hE0.look⟩, hR0.mono he hL.pre, hIL⟩
  · rintro _ _ _ _ h; exact h.elim
/-! ## Entry and return of a function that holds such a loop -/
theorem Spec.enterM {P : Program} {f : Nat} {fn : Func} {c : Code} {as : List AV} {r : AV} {tab : Tab} {N : Nat} (hT : TabOK P tab) (hm : P.follows .mixedOrders = true) (hf : P.funcs[f]? = some fn) (hb : fn.body = some c) (hN : fn.ntmps = N) (ha : Nat.ble as.length N = true)
    (h : ∀ B (hB : B.γ.length = η.length), TC ⟨P, tab, hT, hm, N, [], B, η.length, hB, none, 0⟩ (bodyPostM Fence.wide 0 P fn (PostB B r η')) c (zip2 0 as) η) : Spec P f as η r η' := by
  intro m w γ vs hH hV
  refine W.enterM (N := N) 0 (W.zipA 0 vs) hf hb hN (by simp) (by have := hV.len; simp at ha; simp; omega) fun a hE => ?_
  have := h (baseOf m w γ η) hH.len a w ⟨m, γ, _, hE, hV.zip 0, hH, .refl _ _ _, fun i v o b h1 h2 h3 => .inl (mem_blks.2 ⟨i, v, o, h1, h2, h3⟩), .refl _⟩
  rwa [Cx.W_none rfl] at this
theorem TX.endM {fn : Func} {R k} (h : TX C (bodyPostM Fence.wide k C.P fn R) .ret ρ η) : TX C (bodyPostM Fence.wide k C.P fn R) .normal ρ η := fun a w hA => h a w hA
end
end Go.V
namespace Go.V
open Go Go.W Go.RowKit
structure It (P : Program) {α : Type} (as : α → List AV) (L : List α) where
  l : Nat
  E : Nat → Prop
  J : List α → (Nat → Nat) → World → Prop
  Jx : List α → (Nat → Nat) → World → Prop
  m : Nat → Nat
  W : World
  hl : E l
  hE : ∀ b, E b → b < W.heap.size
  sJ : Stays W.heap.size J
  sJx : Stays W.heap.size Jx
  hy : ∀ pre x m1 W1 vs, J pre m1 W1 → (∃ r, pre ++ x :: r = L) → VL m1 W1 [] vs (as x) → YieldV P l E vs m1 W1 (J (pre ++ [x])) (Jx (pre ++ [x]))
section
variable {P : Program} {α : Type} {as : α → List AV} {L : List α}
structure At (I : It P as L) (K : (Nat → Nat) → World → Prop) (ds : List Nat) (B : Base) : Prop where
  ext : Ext I.m I.W B.m B.w
  noS : B.S = []
  noγ : B.γ = []
  stays : ∀ m w m' w', K m w → StepOK I.W.heap.size m w m' w' → K m' w'
  holds : K B.m B.w
  marks : ∀ d ∈ ds, I.W.heap.size ≤ d ∧ B.w.heap[d]? = some (.deferred (some []))
  nodup : ds.Nodup
theorem At.keep {I : It P as L} {K ds B m w} (h : At I K ds B) (hk : Keep B.m B.w m w) : At I K ds ⟨m, w, [], []⟩ :=
  ⟨h.ext.trans hk.ext, rfl, rfl, h.stays, h.stays _ _ _ _ h.holds (.keep hk), fun d hd => ⟨(h.marks d hd).1, hk.heap (h.marks d hd).2⟩, h.nodup⟩
theorem In.keep0 {B m w γ η} (h : In B m w γ η) (hS : B.S = []) : Keep B.m B.w m w := (hS ▸ h.far).keep
def isDead : AO → Bool
  | .dead => true
  | _ => false
theorem In.deadB {B m w γ η m' w'} (h : In B m w γ η) (hη : η.all isDead = true) : In ⟨m', w', [], []⟩ m' w' γ η := by
  have hd : ∀ (i : Nat) o, η[i]? = some o → o = .dead := fun i o ho => by
    have := List.all_eq_true.1 hη o (List.mem_of_getElem? ho)
    cases o <;> first | rfl | cases this
  have nb : ∀ {i : Nat} {v o b}, η[i]? = some o → blk o v = some b → False := fun {i v o b} ho hb => by
    rw [hd i o ho] at hb; cases v <;> cases hb
  exact ⟨⟨h.heap.len, fun i v o _ ho => by rw [hd i o ho]; trivial, fun i j v v' o o' b _ _ ho _ _ hb => (nb ho hb).elim⟩, .refl _ _ _, fun i v o b _ ho hb => (nb ho hb).elim, fun i v hv => by simp at hv⟩
end
abbrev Cx.at (C : Cx) (B : Base) (hB : B.γ.length = C.n) : Cx := ⟨C.P, C.tab, C.hT, C.hm, C.N, C.D, B, C.n, hB, C.r, C.k⟩
section
variable {C : Cx} {ops : Array Oper} {Q : Qt} {ρ ρ' : Ro} {η η' : Eta} {rest : List Oper} {T d : Nat} {pos : String} {af : Array Edge} {x : Operand} {args : List Operand} {at_ : Array TypeId}
variable {P : Program} {α : Type} {as : α → List AV} {L : List α}
theorem OL.yield {I : It P as L} {pre : List α} {y : α} {ds : List Nat} {us : List AV} {r : Option Nat} (hA : At I (I.J pre) ds C.B) (hpre : ∃ r, pre ++ y :: r = L)
    (k1 : ∀ B (hB : B.γ.length = C.n), At I (I.J (pre ++ [y])) ds B → Ext C.B.m C.B.w B.m B.w → KeepL (fun _ => False) C.B.w B.w → OL (C.at B hB) ops Q rest ((d, V.bool true) :: ρ) η)
    (k0 : ∀ B (hB : B.γ.length = C.n), At I (I.Jx (pre ++ [y])) ds B → Ext C.B.m C.B.w B.m B.w → KeepL I.E C.B.w B.w → OL (C.at B hB) ops Q rest ((d, V.bool false) :: ρ) η)
    (hP : C.P = P := by with_unfolding_all exact rfl) (hn : C.n = 0 := by with_unfolding_all exact rfl) (hr : C.r = some r := by with_unfolding_all exact rfl) (hk : C.k = 0 := by with_unfolding_all exact rfl)
    (hx : ev2 ρ x = some (.raw (.func (.yield I.l) #[] #[])) := by with_unfolding_all exact rfl) (hl : evs2 ρ args = some us := by with_unfolding_all exact rfl)
    (hle : LEs (ts []) us (as y) := by repeat' (first | with_unfolding_all exact trivial | exact LE.ren (by with_unfolding_all exact rfl) | with_unfolding_all exact LE.sl | with_unfolding_all exact LE.nil (by decide) | with_unfolding_all refine And.intro ?_ ?_))
    (hd : Nat.blt d C.N = true := by with_unfolding_all exact rfl) (hη : η.all isDead = true := by with_unfolding_all exact rfl) :
    OL C ops Q (⟨some d, .call ⟨.value x, args.toArray, at_⟩, T, pos, af, none⟩ :: rest) ρ η := by
  rintro a w ⟨m, γ, ρc, hE, hR, hI⟩
  subst hP
  have hK := hI.keep0 hA.noS
  have hA' := hA.keep hK
  obtain ⟨vs, h1, h2⟩ := hR.evs hl
  have hvl : VL m w [] vs (as y) := hle.vl (γ' := []) (fun i j h => by cases h) h2
  have hY := I.hy pre y m w vs hA'.holds hpre hvl
  rw [Cx.L_some hr, hk]
  refine W.i_yield (F := WF r) (n := 0) (fun _ => trivial) rfl hE (hR.raw hx) h1 (by simpa using hd)
    (K := fun b w'' => ∃ m', Ext m w m' w'' ∧ ((b = true ∧ KeepL (fun _ => False) w w'' ∧ I.J (pre ++ [y]) m' w'') ∨ (b = false ∧ KeepL I.E w w'' ∧ I.Jx (pre ++ [y]) m' w''))) ?_ ?_
  · obtain ⟨fn', tmps, assign, body, q1, q2⟩ := hY
    refine ⟨fn', tmps, assign, body, q1, RoundIn.mono (show RoundIn (WF r) 0 C.P I.l fn' tmps assign body w _ from q2) fun e w'' ⟨m', he, hc⟩ => ?_⟩
    rcases hc with ⟨rfl, h1, h2⟩ | ⟨rfl, h1, h2⟩
    · exact ⟨true, rfl, m', he, .inl ⟨rfl, h1, h2⟩⟩
    · exact ⟨false, rfl, m', he, .inr ⟨rfl, h1, h2⟩⟩
  · rintro b w'' ⟨m', he, hc⟩ a' hE'
    have hB0 : ([] : List Value).length = C.n := by rw [hn]; rfl
    have key : ∀ (E : Nat → Prop) (K : (Nat → Nat) → World → Prop), (∀ b, E b → b < I.W.heap.size) → (∀ m w m' w', K m w → StepOK I.W.heap.size m w m' w' → K m' w') → KeepL E w w'' → K m' w'' → At I K ds ⟨m', w'', [], []⟩ := fun E K hE hs hkl hK =>
      ⟨hA'.ext.trans he, rfl, rfl, hs, hK, fun d hd => ⟨(hA'.marks d hd).1, hkl d _ (fun h => by have := hE d h; have := (hA'.marks d hd).1; omega) (hA'.marks d hd).2 rfl⟩, hA'.nodup⟩
    rcases hc with ⟨rfl, h3, h4⟩ | ⟨rfl, h3, h4⟩
    · have := k1 ⟨m', w'', [], []⟩ hB0 (key _ _ (fun _ h => h.elim) (fun m w m' w' => I.sJ _ m w m' w') h3 h4) (hK.ext.trans he) ((KeepL.keep hK).trans h3) a' w'' ⟨m', γ, _, hE', ⟨rfl, .raw rfl, hR.mono he (.refl _)⟩, hI.deadB hη⟩
      rwa [Cx.L_some (C := C.at ⟨m', w'', [], []⟩ hB0) hr, show (C.at ⟨m', w'', [], []⟩ hB0).k = 0 from hk] at this
    · have := k0 ⟨m', w'', [], []⟩ hB0 (key _ _ I.hE (fun m w m' w' => I.sJx _ m w m' w') h3 h4) (hK.ext.trans he) ((KeepL.keep hK).trans h3) a' w'' ⟨m', γ, _, hE', ⟨rfl, .raw rfl, hR.mono he (.refl _)⟩, hI.deadB hη⟩
      rwa [Cx.L_some (C := C.at ⟨m', w'', [], []⟩ hB0) hr, show (C.at ⟨m', w'', [], []⟩ hB0).k = 0 from hk] at this
def ItEnd (I : It P as L) : Ending → World → Prop := fun e W' => ∃ v m', e = .returned v ∧ Ext I.m I.W m' W' ∧ (I.J L m' W' ∨ ∃ pre, I.Jx pre m' W')
theorem leaves_marks {F : Fence} {k : Nat} {fn : Func} {tmps : Array Value} {R : Ending → World → Prop} (hres : fn.results = #[]) : ∀ (ds : List Nat) (w : World), ds.Nodup → (∀ d ∈ ds, w.heap[d]? = some (.deferred (some []))) →
    R (.returned (.tuple #[])) (ds.foldl (fun w d => w.putObj d (.deferred none)) w) → LeavesInM F k P fn tmps R (ds.map markD) .returning w
  | [], w, _, _, h => ⟨_, results_none hres _ P _, h⟩
  | d :: ds, w, hn, hm, h => by
    refine ⟨by simp, .inl ⟨d, _, rfl, run_takeDeferred (hm d (by simp)), leaves_marks hres ds _ (List.nodup_cons.1 hn).2 (fun d' hd' => ?_) h⟩⟩
    have hne : d' ≠ d := fun e => (List.nodup_cons.1 hn).1 (e ▸ hd')
    exact (World.putObj_heap_other hne).trans (hm d' (by simp [hd']))
theorem StepOK.trans {B0 m w m1 w1 m2 w2} (K : (Nat → Nat) → World → Prop) (hs : ∀ m w m' w', K m w → StepOK B0 m w m' w' → K m' w') (h : K m w) (h1 : StepOK B0 m w m1 w1) (h2 : StepOK B0 m1 w1 m2 w2) : K m2 w2 := hs _ _ _ _ (hs _ _ _ _ h h1) h2
theorem marks_stays {B0 : Nat} {m : Nat → Nat} (K : (Nat → Nat) → World → Prop) (hs : ∀ m w m' w', K m w → StepOK B0 m w m' w' → K m' w') : ∀ (ds : List Nat) (w : World), ds.Nodup → (∀ d ∈ ds, B0 ≤ d ∧ w.heap[d]? = some (.deferred (some []))) → K m w →
    K m (ds.foldl (fun w d => w.putObj d (.deferred none)) w) ∧ Ext m w m (ds.foldl (fun w d => w.putObj d (.deferred none)) w)
  | [], w, _, _, h => ⟨h, .refl _ _⟩
  | d :: ds, w, hn, hm, h => by
    have h1 : StepOK B0 m w m (w.putObj d (.deferred none)) := .put (hm d (by simp)).2 rfl (hm d (by simp)).1
    obtain ⟨a, b⟩ := marks_stays K hs ds _ (List.nodup_cons.1 hn).2 (fun d' hd' => ⟨(hm d' (by simp [hd'])).1, (World.putObj_heap_other (show d' ≠ d from fun e => (List.nodup_cons.1 hn).1 (e ▸ hd'))).trans (hm d' (by simp [hd'])).2⟩) (hs _ _ _ _ h h1)
    exact ⟨a, h1.ext.trans b⟩
theorem TX.rtIt {I : It P as L} {K} {ds : List Nat} {fn : Func} {k : Nat} (hA : At I K ds C.B) (hK : ∀ m w, K m w → I.J L m w ∨ ∃ pre, I.Jx pre m w) (_hP : C.P = P := by with_unfolding_all exact rfl) (hD : C.D = ds.map markD := by with_unfolding_all exact rfl) (hres : fn.results = #[] := by with_unfolding_all exact rfl) :
    TX C (bodyPostM Fence.wide k P fn (ItEnd I)) .ret ρ η := by
  rintro a w ⟨m, γ, ρc, hE, hR, hI⟩
  have hA' := hA.keep (hI.keep0 hA.noS)
  show LeavesInM Fence.wide k P fn a.tmps _ a.defers .returning w
  rw [hE.defers, hD]
  obtain ⟨h1, h2⟩ := marks_stays K hA'.stays ds w hA'.nodup hA'.marks hA'.holds
  exact leaves_marks hres ds w hA'.nodup (fun d hd => (hA'.marks d hd).2) ⟨_, m, rfl, hA'.ext.trans h2, hK _ _ h1⟩
theorem SeqV.enter {f : Nat} {fn : Func} {c : Code} {caps : List AV} {tab : Tab} {N : Nat} {m0 : Nat → Nat} {w0 : World} {vs : List Value} (hv : VL m0 w0 [] vs caps) (hT : TabOK P tab) (hm : P.follows .mixedOrders = true) (hf : P.funcs[f]? = some fn) (hb : fn.body = some c) (hN : fn.ntmps = N) (ha : Nat.ble (caps.length + 1) N = true)
    (h : ∀ (I : It P as L) (B : Base) (hB : B.γ.length = 0), At I (I.J []) [] B → TC ⟨P, tab, hT, hm, N, [], B, 0, hB, some none, 0⟩ (bodyPostM Fence.wide 0 P fn (ItEnd I)) c ((0, .raw (.func (.yield I.l) #[] #[])) :: zip2 1 caps) []) : SeqV P f vs.toArray as L m0 w0 := by
  intro l E J Jx m W he hEl hElt sJ sJx hy hJ
  have hl := hv.len
  have ez : (#[Value.func (.yield l) #[] #[]] ++ vs.toArray : Array Value).toList = Value.func (.yield l) #[] #[] :: vs := by simp
  refine Go.W.enterM (N := N) 0 ((0, .func (.yield l) #[] #[]) :: Go.W.zipA 1 vs) hf hb hN (by rw [ez]; rfl) (by simp at ha ⊢; omega) fun a hE => ?_
  have hb' := h ⟨l, E, J, Jx, m, W, hEl, hElt, sJ, sJx, hy⟩ ⟨m, W, [], []⟩ rfl ⟨.refl _ _, rfl, rfl, fun m w m' w' => sJ _ m w m' w', hJ, by simp, List.nodup_nil⟩ a W
    ⟨m, [], _, hE, ⟨rfl, .raw rfl, (hv.mono he (.refl _)).zip 1⟩, ⟨rfl, by simp, by simp⟩, .refl _ _ _, fun i v o b h => by simp at h, .refl _⟩
  rw [Cx.W_some rfl] at hb'
  exact wpIn_wide.1 hb'
/-! ## A range over a function in an iterator -/
theorem TX.thenW {C' : Cx} {A : Code} {Q2 : Qt} (k : TC C Q A ρ η) (h : C'.W = C.W := by with_unfolding_all exact rfl) : TX C (Exit.then (C'.W A Q) Q2) .normal ρ η := fun a w hA => by
  show C'.W A Q a w
  rw [h]; exact k a w hA
/-! ## A loop whose rounds begin at later times -/
def NextC {S : Type} (Cs : S → Cx) (ρs : S → Ro) (ηs : S → Eta) (I : S → Prop) (μ : S → Nat) (s : S) : Act → World → Prop := fun a w => ∃ s', (I s' ∧ μ s' < μ s) ∧ A2 (Cs s').N (Cs s').D (Cs s').B a w (ρs s') (ηs s')
theorem TC.loopC {A : Code} {S : Type} (Cs : S → Cx) (ρs : S → Ro) (ηs : S → Eta) (I : S → Prop) (μ : S → Nat) (s0 : S) (h0 : I s0) (hs : A2 C.N C.D C.B = A2 (Cs s0).N (Cs s0).D (Cs s0).B) (hw : ∀ s, I s → (Cs s).W = C.W) (σ : List Nat) (hn : nodB σ = true) (hp : preB C.n 0 σ = true) (ho : SubO (ts σ) η σ (ηs s0)) (hr : SubR (ts σ) ρ (ρs s0))
    (round : ∀ s, I s → TC (Cs s) (Exit.then (NextC Cs ρs ηs I μ s) Q) A (ρs s) (ηs s)) : TC C Q (.loop A) ρ η := fun a w hA =>
  Cx.loop (fun s a w => I s ∧ A2 (Cs s).N (Cs s).D (Cs s).B a w (ρs s) (ηs s)) μ s0 ⟨h0, hs ▸ hA.sel C.hn hn hp ho hr⟩ fun s a w hI => by
    have := round s hI.1 a w hI.2
    rw [hw s hI.1] at this
    refine Cx.mono this fun e a' w' q => ?_
    cases e with
    | normal => obtain ⟨s', ⟨h1, h2⟩, h3⟩ := q; exact ⟨s', ⟨h1, h3⟩, h2⟩
    | _ => exact q
theorem TX.rdC {S : Type} {Cs : S → Cx} {ρs : S → Ro} {ηs : S → Eta} {I : S → Prop} {μ : S → Nat} {s : S} (s' : S) (σ : List Nat) (hI : I s') (hμ : μ s' < μ s) (hs : A2 C.N C.D C.B = A2 (Cs s').N (Cs s').D (Cs s').B := by with_unfolding_all exact rfl)
    (hn : nodB σ = true := by with_unfolding_all exact rfl) (hp : preB C.n 0 σ = true := by with_unfolding_all exact rfl)
    (ho : SubO (ts σ) η σ (ηs s') := by repeat' (first | with_unfolding_all exact trivial | exact OE.ren (by with_unfolding_all exact rfl) | with_unfolding_all exact OE.gs | with_unfolding_all refine And.intro ⟨_, by with_unfolding_all exact rfl, ?_⟩ ?_))
    (hr : SubR (ts σ) ρ (ρs s') := by repeat' (first | with_unfolding_all exact trivial | exact LE.ren (by with_unfolding_all exact rfl) | with_unfolding_all exact LE.sl | with_unfolding_all exact LE.nil (by decide) | exact LE.bool (by first | assumption | (symm; assumption)) | exact LE.int (by first | assumption | omega) | with_unfolding_all refine And.intro ⟨_, by with_unfolding_all exact rfl, ?_⟩ ?_)) :
    TX C (Exit.then (NextC Cs ρs ηs I μ s) Q) .normal ρ η := fun _ _ hA => ⟨s', ⟨hI, hμ⟩, hs ▸ hA.sel C.hn hn hp ho hr⟩
end
end Go.V
namespace Go.V
open Go Go.W Go.RowKit
section
variable {C : Cx} {Q : Qt} {ρ ρ' : Ro} {η η' : Eta}
theorem TX.rsM {fn : Func} {k D : Nat} {rv : ResultVar} {u r : AV} {B : Base} (hM : Marked B C.B D) (hBn : B.γ.length = C.n) (σ : List Nat) (hle : LE (ts σ) u r) (hD : C.D = [markD D] := by with_unfolding_all exact rfl) (hres : fn.results = #[rv] := by with_unfolding_all exact rfl) (hx : RV C ρ η rv u := by with_unfolding_all exact rfl)
    (hn : nodB σ = true := by with_unfolding_all exact rfl) (hp : preB C.n 0 σ = true := by with_unfolding_all exact rfl) (ho : SubO (ts σ) η σ η' := by repeat' (first | with_unfolding_all exact trivial | exact OE.ren (by with_unfolding_all exact rfl) | with_unfolding_all exact OE.gs | with_unfolding_all refine And.intro ⟨_, by with_unfolding_all exact rfl, ?_⟩ ?_)) : TX C (bodyPostM Fence.wide k C.P fn (PostB B r η')) .ret ρ η := by
  rintro a w ⟨m, γ, ρc, hE, hR, hI⟩
  have hDw : w.heap[D]? = some (.deferred (some [])) := by
    rw [hI.far.block D (Array.getElem?_eq_some_iff.1 hM.mark).1 hM.off]; exact hM.mark
  have hI0 : In B m w γ η := hI.comp hM.far hM.own hM.pre
  have hs : StepOK B.w.heap.size m w m (w.putObj D (.deferred none)) := .put hDw rfl hM.le
  have hI1 := hI0.step hs
  obtain ⟨v, a1, b1⟩ := hx.run hE (hR.mono hs.ext (.refl _)) hI1.heap
  obtain ⟨γ', g1, g2⟩ := hI1.sel hBn hn hp ho
  rw [hD] at hE
  show LeavesInM Fence.wide k C.P fn a.tmps _ a.defers .returning w
  rw [hE.defers]
  refine ⟨by simp, .inl ⟨D, _, rfl, run_takeDeferred hDw, v, ?_, ⟨v, m, γ', rfl, g2, hle _ _ _ _ g1 _ b1⟩⟩⟩
  rw [results_eq, hres]
  simp [a1]
end
theorem spec_cutplace {P : Program} {f T : Nat} {nl : Option Bool} {l l' l2 : List Int} (hp : l2.length = l.length) (hpre : ∃ r, l2 = l' ++ r)
    (h1 : ∀ (g cap : Nat) (w : World), Sort.Holds (Value.int .i64) w g 0 l.toArray → l.length ≤ cap → Calls P f #[.slice (some ⟨g, 0, none⟩) l.length cap] w fun e w' => e = .returned (.slice (some ⟨g, 0, none⟩) l'.length cap) ∧ ∃ n os, w' = Sort.grow (Sort.putRow (Value.int .i64) (Sort.ahead w n) g 0 l2.toArray) os)
    (h2 : l = [] → ∀ p cap w, Calls P f #[.slice p 0 cap] w fun e w' => e = .returned (.slice p 0 cap) ∧ w' = w) : Spec P f [.hs 0] [.gs false T 1 nl (l.map int)] (.hs 1) [.dead, .gs false T 1 none (l'.map int)] := by
  intro m w γ vs hH hV
  match vs, hV with
  | [v], ⟨hv0, _⟩ =>
  have hv := hv0.hs_get.1
  have hγ : γ = [v] := by
    have := hH.len
    match γ, this with
    | [x], _ => simp at hv; rw [hv]
  obtain ⟨r, hr⟩ := hpre
  have hI : In (baseOf m w γ [.gs false T 1 nl (l.map int)]) m w γ [.gs false T 1 nl (l.map int)] := ⟨hH, .refl _ _ _, fun i v o b h1 h2 h3 => .inl (mem_blks.2 ⟨i, v, o, h1, h2, h3⟩), .refl _⟩
  obtain ⟨⟨m', hown, hm1, hm2⟩, hnl, hcl⟩ := hH.ok 0 _ _ hv rfl
  have triv : ∀ {v}, l = [] → γ = [v] → (∃ p cap, v = .slice p 0 cap) → (∃ m', W.Own T 1 (CK m w) m' w v ([] : List AV) ∧ (∀ b, some b ≠ ownB v → m' b = m b) ∧ ∀ b, ownB v = some b → m b = 0) → Calls P f #[v] w (PostB (baseOf m w γ [.gs false T 1 nl (l.map int)]) (.hs 1) [.dead, .gs false T 1 none (l'.map int)]) := fun {v} hl hγ ⟨p, cap, e⟩ hO => by
    have hl2 : l2 = [] := List.eq_nil_of_length_eq_zero (by rw [hp, hl]; rfl)
    have hl' : l' = [] := by rw [hl2] at hr; exact (List.append_eq_nil_iff.1 hr.symm).1
    rw [e]
    refine (h2 hl p cap w).mono fun e' w' ⟨he, hw⟩ => ?_
    subst hw
    have hv : γ[0]? = some v := by rw [hγ]; rfl
    refine ⟨_, m, γ ++ [v], he, ?_, by rw [hγ, e]; exact .hs rfl⟩
    exact hI.over (i := 0) (v' := v) (o' := .gs false T 1 none (l'.map int)) hv rfl ((Keep.refl m w').touch _) ⟨by subst hl'; exact hO, NL.none _, by subst hl'; simp⟩ (fun b hb => .inl hb)
  rcases hown with ⟨rfl, e⟩ | ⟨b, o, rfl, e⟩ | ⟨g, cap, cur, rfl, h0, hg, k1, k2, k3, k4, k5⟩
  · have hl : l = [] := by simpa using e
    exact triv hl hγ ⟨_, _, rfl⟩ ⟨m', .inl ⟨rfl, rfl⟩, hm1, hm2⟩
  · have hl : l = [] := by simpa using e
    exact triv hl hγ ⟨_, _, rfl⟩ ⟨m', .inr (.inl ⟨b, o, rfl, rfl⟩), hm1, hm2⟩
  · simp only [List.length_map] at k1 k4 hv hγ ⊢
    have hob : ∀ q, ownB (.slice (some ⟨g, 0, none⟩) q cap) = some g := fun q => by
      obtain ⟨c', rfl⟩ : ∃ c', cap = c' + 1 := ⟨cap - 1, by omega⟩
      simp [ownB]
    have hmg := hm2 g (by simpa using hob l.length)
    have hll : l'.length ≤ l.length := by rw [← hp, hr]; simp
    refine (h1 g cap w (own_holds hg k5) k1).mono fun e w' ⟨he, n, os, hw⟩ => ?_
    obtain ⟨r1, cur', r2, r3, r4⟩ := row_world hg (by omega) hw
    have ht := row_touch (m := m) hmg r1
    refine ⟨_, m, γ ++ [.slice (some ⟨g, 0, none⟩) l'.length cap], he, ?_, by rw [hγ]; exact .hs rfl⟩
    have := hI.over (i := 0) (v' := .slice (some ⟨g, 0, none⟩) l'.length cap) (o' := .gs false T 1 none (l'.map int)) hv rfl (by rw [show blk (.gs false T 1 nl (l.map int)) (.slice (some ⟨g, 0, none⟩) l.length cap) = some g from hob _]; exact ht) ⟨⟨mset m' g l'.length, .inr (.inr ⟨g, cap, cur', by simp, h0, r2, by simp; omega, k2, by rw [r3]; exact k3, by simp, fun i x hx => ?_⟩), ?_, ?_⟩, NL.none _, by simp [AV.cells]⟩ (fun b hb => .inl (by simp only [blk] at hb ⊢; rw [hob] at hb ⊢; exact hb))
    · exact this
    · rw [List.getElem?_map] at hx
      cases hq : l'[i]? with
      | none => rw [hq] at hx; cases hx
      | some y =>
        rw [hq] at hx; cases hx
        obtain ⟨hlt, rfl⟩ := List.getElem?_eq_some_iff.1 hq
        have h4 := r4 i (by omega)
        have e4 : l2[i]'(by omega) = l'[i] := by simp only [hr]; rw [List.getElem_append_left hlt]
        rw [e4] at h4
        refine ⟨[.int .i64 l'[i]], rfl, fun j c hc => ?_, rfl, by simp [Value.oneCell'], fun j v c a b => ?_⟩
        · match j with
          | 0 => simp at hc; subst hc; simpa using h4
          | j + 1 => simp at hc
        · match j with
          | 0 => simp [AV.cells] at a b; subst a b; exact .raw rfl
          | j + 1 => simp at a
    · intro b hb
      rw [hob] at hb
      rw [mset_ne (fun e => hb (by rw [e]))]
      exact hm1 b (by simpa [hob] using hb)
    · intro b hb
      rw [hob] at hb; cases hb
      exact hmg
end Go.V
namespace Go.W
end Go.W
namespace Go.V
open Go Go.W
def NoInt (m m1 : Nat → Nat) (w : World) : Prop := ∀ b i k n, m1 b ≠ m b → i < m1 b → w.cell? ⟨b, i, none⟩ ≠ some (.int k n)
theorem NoInt.trans {m m1 m2 w} (h : NoInt m m1 w) (k : NoInt m1 m2 w) : NoInt m m2 w := fun b i kk n hne hi => by
  by_cases e : m2 b = m1 b
  · exact h b i kk n (by rw [← e]; exact hne) (by omega)
  · exact k b i kk n e hi
def noInt : AV → Bool
  | .raw (.int _ _) => false
  | .raw _ => true
  | .sl .. => true
  | .st _ => true
  | .tp _ => true
  | .ep .. => true
  | .bp .. => true
  | .gp .. => true
  | .hs _ => true
  | .mp _ => true
  | .fn .. => true
  | _ => false
theorem noInt_rep {m w γ v x} (h : Rep m w γ v x) (hx : noInt x = true) (k n) : v ≠ .int k n := by
  rintro rfl
  cases h <;> simp_all [noInt]
def WkI (C : Cx) (ρ : Ro) (η : Eta) (ρ' : Ro) (η' : Eta) : Prop := ∀ a w m γ ρc, Env C.N C.D a ρc → RL m w γ ρc ρ → In C.B m w γ η → ∃ m1 ρc1, Env C.N C.D a ρc1 ∧ RL m1 w γ ρc1 ρ' ∧ In C.B m1 w γ η' ∧ NoInt m m1 w
theorem In.freezeI {B m w γ η} {i : Nat} {fz T sz nl} {xs : List AV} {v} (h : In B m w γ η) (hv : γ[i]? = some v) (ho : η[i]? = some (.gs fz T sz nl xs)) (hx : ∀ x ∈ xs, x.cells.all noInt = true) :
    ∃ m', Ext m w m' w ∧ W.Own T sz CA m' w v xs ∧ In B m' w γ (η.set i (.gs true T sz nl xs)) ∧ NoInt m m' w := by
  obtain ⟨h1, h2, h3⟩ := h.heap.ok i v _ hv ho
  cases fz with
  | true => exact ⟨m, .refl _ _, h1, h.put (o' := .gs true T sz nl xs) hv ho ((Keep.refl m w).touch _) ⟨h1, h2, h3⟩ (.inl rfl), fun b i k n hne => (hne rfl).elim⟩
  | false =>
    obtain ⟨m', a, b, c, d⟩ := OwnX.ext h1
    have a' : W.Own T sz CA m' w v xs := Own.imp a (fun cs x hc => CMono.mono (R := CA) d hc)
    refine ⟨m', d, a', h.put (o' := .gs true T sz nl xs) hv ho ⟨⟨rfl, rfl, rfl, Nat.le_refl _, fun _ _ _ => rfl⟩, fun b' _ hb => b b' hb, d⟩ ⟨a', h2, h3⟩ (.inl rfl), fun b' i k n hne hi hc => ?_⟩
    have hown : ownB v = some b' := by
      by_cases e : some b' = ownB v
      · exact e.symm
      · exact (hne (b b' e)).elim
    rcases a' with ⟨rfl, _⟩ | ⟨_, _, rfl, _⟩ | ⟨g, cap, cur, rfl, h0, hg, q1, q2, q3, q4, q5⟩
    · cases hown
    · cases hown
    · obtain ⟨c', rfl⟩ : ∃ c, cap = c + 1 := ⟨cap - 1, by omega⟩
      cases hown
      rw [q4] at hi
      have hsz : 0 < sz := by
        rcases Nat.eq_zero_or_pos sz with e | e
        · rw [e, Nat.mul_zero] at hi; omega
        · exact e
      have hdv : i / sz < xs.length := (Nat.div_lt_iff_lt_mul hsz).2 hi
      obtain ⟨cs, r1, r2, r3⟩ := q5 (i / sz) _ (List.getElem?_eq_getElem hdv)
      have hmod : i % sz < cs.length := by rw [r1]; exact Nat.mod_lt _ hsz
      have hcell := r2 (i % sz) _ (List.getElem?_eq_getElem hmod)
      rw [show i / sz * sz + i % sz = i from by rw [Nat.mul_comm]; exact Nat.div_add_mod i sz] at hcell
      simp only [World.cell?, hg] at hc
      rw [hcell] at hc
      have hlen : i % sz < (xs[i / sz]).cells.length := by rw [← r3.1]; exact hmod
      have hr := r3.2.2 (i % sz) _ _ (List.getElem?_eq_getElem hmod) (List.getElem?_eq_getElem hlen)
      exact noInt_rep hr (List.all_eq_true.1 (hx _ (List.getElem_mem hdv)) _ (List.getElem_mem hlen)) k n (by simpa using hc)
section
variable {C : Cx} {ops : Array Oper} {Q : Qt} {ρ ρ1 ρ2 : Ro} {η η1 η2 : Eta} {rest : List Oper} {T d : Nat} {pos : String} {af : Array Edge} {x : Operand}
theorem WkI.trans (h : WkI C ρ η ρ1 η1) (k : WkI C ρ1 η1 ρ2 η2) : WkI C ρ η ρ2 η2 := fun a w m γ ρc h1 h2 h3 => by
  obtain ⟨m1, ρc1, a1, a2, a3, a4⟩ := h a w m γ ρc h1 h2 h3
  obtain ⟨m2, ρc2, b1, b2, b3, b4⟩ := k a w m1 γ ρc1 a1 a2 a3
  exact ⟨m2, ρc2, b1, b2, b3, a4.trans b4⟩
theorem WkI.viewCell {i o k E E2 sz : Nat} {cs : List AV} {fz nl} {xs : List AV} (ho : η[i]? = some (.cb E cs)) (hc : cs[o]? = some (.hs k)) (hk : η[k]? = some (.gs fz E2 sz nl xs)) (hx : ∀ x ∈ xs, x.cells.all noInt = true) :
    WkI C ρ η ρ ((η.set k (.gs true E2 sz nl xs)).set i (.cb E (cs.set o (.sl sz none xs)))) := by
  intro a w m γ ρc hE hR hI
  obtain ⟨v, hv, _⟩ := hI.heap.get hk
  obtain ⟨m', h1, h2, h3, h4⟩ := hI.freezeI hv hk hx
  have hne : k ≠ i := by intro e; subst e; rw [ho] at hk; cases hk
  have ho' : (η.set k (.gs true E2 sz nl xs))[i]? = some (.cb E cs) := by rw [List.getElem?_set_ne hne]; exact ho
  obtain ⟨u, hu, hok⟩ := h3.heap.get ho'
  obtain ⟨b, vs, rfl, hB, hC⟩ := hok
  refine ⟨m', ρc, hE, hR.mono h1 (.refl _), h3.put (o' := .cb E (cs.set o (.sl sz none xs))) hu ho' ((Keep.refl m' w).touch _) ?_ (.inl rfl), h4⟩
  have hlt : o < vs.length := by rw [hC.1]; exact (List.getElem?_eq_some_iff.1 hc).1
  have hrep := hC.2.2 o _ _ (List.getElem?_eq_getElem hlt) hc
  have hvo : γ[k]? = some vs[o] := hrep.hs_get.1
  rw [hv] at hvo
  cases hvo
  refine ⟨b, vs, rfl, hB, by simpa using hC.1, hC.2.1, fun j v c hj hcj => ?_⟩
  rw [List.getElem?_set] at hcj
  split at hcj
  · rename_i e
    subst e
    split at hcj
    · cases hcj
      rw [List.getElem?_eq_getElem hlt] at hj
      cases hj
      exact Rep.of_rs h2.rs (NL.none _)
    · cases hcj
  · exact hC.2.2 j v c hj hcj
theorem WkI.frzBox {t i E : Nat} {cs : List AV} (hx : lk ρ t = some (.bp i 0)) (ho : η[i]? = some (.cb E cs)) (hi : cs.all noInt = true) : WkI C ρ η ((t, .ep (cs.map pj) 0) :: ρ) (η.set i .dead) := by
  intro a w m γ ρc hE hR hI
  obtain ⟨u, g1, g2⟩ := hR.look hx
  cases g2 with
  | @bp _ _ _ b hb =>
  obtain ⟨b', vs, e, hB, hC⟩ := hI.heap.ok i _ _ hb ho
  cases e
  obtain ⟨hx1, hcell⟩ := hB.freeze
  have hT := hB.frz
  refine ⟨_, (t, .pointer (some ⟨b, 0, none⟩)) :: ρc, ⟨hE.size, hE.defers, fun s q hs => ?_⟩, ⟨rfl, ?_, hR.mono hx1 (.refl _)⟩, hI.put (o' := .dead) hb ho hT trivial (.inr rfl), fun b' j k n hne hj hc => ?_⟩
  · simp only [W.look] at hs
    cases hb' : Nat.beq t s with
    | true =>
      rw [hb'] at hs
      simp at hs
      subst hs
      rw [← Nat.eq_of_beq_eq_true hb']
      exact hE.look _ _ g1
    | false => rw [hb'] at hs; exact hE.look _ _ (by simpa using hs)
  · have := Rep.ep (γ := γ) (o := 0) (cs := cs.map pj) hcell (by rw [List.length_map]; exact hC.1) hC.2.1 (fun j v c h1 h2 => by
      rw [List.getElem?_map] at h2
      cases hc : cs[j]? with
      | none => rw [hc] at h2; cases h2
      | some c0 =>
        rw [hc] at h2
        simp only [Option.map_some, Option.some.injEq] at h2
        subst h2
        unfold pj
        cases hp : pureA c0 with
        | true => exact (pureA_rep (hC.2.2 j v c0 h1 hc) hp).mono hx1 (.refl _)
        | false => exact .junk)
    simpa using this
  · have hbb : b' = b := by
      by_cases e : b' = b
      · exact e
      · exact (hne (mset_ne e)).elim
    subst hbb
    rw [mset_same] at hj
    have hcl := hcell j _ (List.getElem?_eq_getElem hj)
    simp only [Nat.zero_add] at hcl
    rw [hcl.2] at hc
    have hlen : j < cs.length := by rw [← hC.1]; exact hj
    exact noInt_rep (hC.2.2 j _ _ (List.getElem?_eq_getElem hj) (List.getElem?_eq_getElem hlen)) (List.all_eq_true.1 hi _ (List.getElem_mem hlen)) k n (by simpa using hc)
def Rel0 : AV → Prop
  | .raw _ => True
  | .sl _ _ xs => ∀ x ∈ xs, (∃ k n ys, x.cells = .raw (.int k n) :: ys) ∧ ∀ y ∈ x.cells, ∃ v, y = .raw v
  | _ => False
def RelP : AV → Prop
  | .st vs => ∀ x ∈ vs, Rel0 x
  | x => Rel0 x
theorem Rel0.rep {m' mm : Nat → Nat} {w' γ γ' v x} (hx : Rel0 x) (hm : ∀ b i k n, w'.cell? ⟨b, i, none⟩ = some (.int k n) → i < m' b → mm b = m' b) (h : Rep m' w' γ v x) : Rep mm w' γ' v x := by
  cases h with
  | raw h => exact .raw h
  | nil h => exact .nil h
  | sl0 h => exact .sl0 h
  | @sl _ sz nl xs b o cap cv hn h1 h2 hc hr =>
    refine .sl cv hn h1 h2 (fun i x hi => ?_) (fun i x j c y hi hj hy => ?_)
    · obtain ⟨a1, a2, a3, a4⟩ := hc i x hi
      refine ⟨a1, a2, ?_, a4⟩
      obtain ⟨⟨k, n, ys, e⟩, _⟩ := hx x (List.mem_of_getElem? hi)
      have hpos : 0 < (cv i).length := by rw [a1, ← a2, e]; simp
      have h0 := hr i x 0 _ (.raw (.int k n)) hi (List.getElem?_eq_getElem hpos) (by rw [e]; rfl)
      have hcl := a3 0 _ (List.getElem?_eq_getElem hpos)
      cases hcv : (cv i)[0] with
      | _ => ?_
      all_goals (rw [hcv] at h0)
      all_goals first
        | (cases h0; done)
        | (have e2 := hm b (o + i * sz) _ _ (by have := hcl.2; rw [hcv] at this; simpa using this) (by simpa using hcl.1)
           intro j c hj
           obtain ⟨b1, b2⟩ := a3 j c hj
           exact ⟨by dsimp only at b1 ⊢; rw [e2]; exact b1, b2⟩)
    · obtain ⟨_, h4⟩ := hx x (List.mem_of_getElem? hi)
      obtain ⟨u, rfl⟩ := h4 y (List.mem_of_getElem? hy)
      have := hr i x j c _ hi hj hy
      cases this with
      | raw h => exact .raw h
  | _ => cases hx
theorem RelP.rep {m' mm : Nat → Nat} {w' γ γ' v x} (hx : RelP x) (hm : ∀ b i k n, w'.cell? ⟨b, i, none⟩ = some (.int k n) → i < m' b → mm b = m' b) (h : Rep m' w' γ v x) : Rep mm w' γ' v x := by
  cases x with
  | st cs =>
    cases h with
    | st hl h1 hr => exact .st hl h1 fun j v c a b => Rel0.rep (hx c (List.mem_of_getElem? b)) hm (hr j v c a b)
  | _ => exact Rel0.rep hx hm h
theorem OL.lendI {P : Program} {f : Nat} {fn : Func} {us as : List AV} {r : AV} {args : List Operand} {at_ : Array TypeId} (hwk : WkI C ρ η ρ1 η1) (hs : Spec P f as [] r []) (hf : P.funcs[f]? = some fn) (hq : RelP r) (k : OL C ops Q rest ((d, r) :: ρ) η)
    (hP : C.P = P := by with_unfolding_all exact rfl) (hb : (fn.body.isNone || fn.name == "runtime.NumGoroutine") = false := by with_unfolding_all exact rfl) (hl : evs2 ρ1 args = some us := by with_unfolding_all exact rfl)
    (hle : LEs (ts []) us as := by repeat' (first | with_unfolding_all exact trivial | exact LE.ren (by with_unfolding_all exact rfl) | with_unfolding_all exact LE.sl | with_unfolding_all exact LE.nil (by decide) | with_unfolding_all refine And.intro ?_ ?_)) (hd : Nat.blt d C.N = true := by with_unfolding_all exact rfl) :
    OL C ops Q (⟨some d, .call ⟨.value (.func f), args.toArray, at_⟩, T, pos, af, none⟩ :: rest) ρ η := by
  subst hP
  rintro a w ⟨m, γ, ρc, hE, hR, hI⟩
  obtain ⟨m1, ρc1, hE1, hR1, hI1, hno⟩ := hwk a w m γ ρc hE hR hI
  obtain ⟨vs, h1, h2⟩ := hR1.evs hl
  obtain ⟨hsh, hH1, _⟩ := hI1.heap.sel (η' := []) (σ := []) rfl trivial
  have hc := hs m1 w _ vs hH1 (hle.vl hsh h2)
  simp at hb
  have hb' : fn.body ≠ none := Option.isSome_iff_ne_none.1 hb.1
  refine Cx.lcons (wl_call (f := f) (args := vs.toArray) rfl ?_ (hc.mono fun e w' ⟨v, m', γ1', he, hC, hv⟩ => ⟨v, he, ?_⟩))
  · have he : a.eval (.func f) = .func (.func f) #[] #[] := rfl
    simp [execOp, resolve, he, Deferred.ofValue, invoke, callFunc, hf, hb.2, hb', hE1.evs h1]
  · have hfar : Far [] m1 w m' w' := hC.far
    have hk : Keep m w (fun b => if b < w.heap.size then m b else m' b) w' := ⟨hfar.keep.grown, fun b hb => if_pos hb⟩
    have hext := hk.ext
    refine k _ _ ⟨_, γ, _, hE.put v (by simpa using hd), ⟨rfl, hq.rep (fun b i kk n hcell hi => ?_) hv, hR.mono hext (.refl _)⟩, hI.keep hk⟩
    by_cases hlt : b < w.heap.size
    · rw [if_pos hlt]
      have hmb : m' b = m1 b := hfar.lim b hlt (by simp)
      have hcw : w.cell? ⟨b, i, none⟩ = some (.int kk n) := by rw [← World.cell?_of_block (w := w) (hfar.block b hlt (by simp))]; exact hcell
      rw [hmb]
      by_cases e : m1 b = m b
      · exact e.symm
      · exact (hno b i kk n e (by rw [← hmb]; exact hi) hcw).elim
    · rw [if_neg hlt]
end
end Go.V
namespace Go.V
open Go Go.W
section
variable {C : Cx} {ops : Array Oper} {Q : Qt} {ρ ρ' : Ro} {η η' η2 : Eta} {rest : List Oper} {T d X Y : Nat} {pos : String} {af : Array Edge} {op : Op} {x y z : Operand} {A K : Code} {e : Exit}
theorem TX.rs2 {fn : Func} {v1 v2 : ResultVar} {u1 u2 r1 r2 : AV} (σ : List Nat) (hle1 : LE (ts σ) u1 r1) (hle2 : LE (ts σ) u2 r2) (hD : C.D = [] := by with_unfolding_all exact rfl) (hres : fn.results = #[v1, v2] := by with_unfolding_all exact rfl)
    (h1 : RV C ρ η v1 u1 := by first | with_unfolding_all exact rfl | with_unfolding_all exact ⟨_, _, _, _, rfl, rfl, rfl, rfl, rfl⟩) (h2 : RV C ρ η v2 u2 := by first | with_unfolding_all exact rfl | with_unfolding_all exact ⟨_, _, _, _, rfl, rfl, rfl, rfl, rfl⟩)
    (hn : nodB σ = true := by with_unfolding_all exact rfl) (hp : preB C.n 0 σ = true := by with_unfolding_all exact rfl) (ho : SubO (ts σ) η σ η' := by repeat' (first | with_unfolding_all exact trivial | exact OE.ren (by with_unfolding_all exact rfl) | with_unfolding_all exact OE.gs | with_unfolding_all refine And.intro ⟨_, by with_unfolding_all exact rfl, ?_⟩ ?_)) :
    TX C (bodyPost C.P fn (PostB C.B (.tp [r1, r2]) η')) .ret ρ η := TX.res2 σ hD hres h1 h2 hn hp ho hle1 hle2
theorem TX.rs3 {fn : Func} {v1 v2 v3 : ResultVar} {u1 u2 u3 r1 r2 r3 : AV} (σ : List Nat) (hle1 : LE (ts σ) u1 r1) (hle2 : LE (ts σ) u2 r2) (hle3 : LE (ts σ) u3 r3) (hD : C.D = [] := by with_unfolding_all exact rfl) (hres : fn.results = #[v1, v2, v3] := by with_unfolding_all exact rfl)
    (h1 : RV C ρ η v1 u1 := by first | with_unfolding_all exact rfl | with_unfolding_all exact ⟨_, _, _, _, rfl, rfl, rfl, rfl, rfl⟩) (h2 : RV C ρ η v2 u2 := by first | with_unfolding_all exact rfl | with_unfolding_all exact ⟨_, _, _, _, rfl, rfl, rfl, rfl, rfl⟩) (h3 : RV C ρ η v3 u3 := by first | with_unfolding_all exact rfl | with_unfolding_all exact ⟨_, _, _, _, rfl, rfl, rfl, rfl, rfl⟩)
    (hn : nodB σ = true := by with_unfolding_all exact rfl) (hp : preB C.n 0 σ = true := by with_unfolding_all exact rfl) (ho : SubO (ts σ) η σ η' := by repeat' (first | with_unfolding_all exact trivial | exact OE.ren (by with_unfolding_all exact rfl) | with_unfolding_all exact OE.gs | with_unfolding_all refine And.intro ⟨_, by with_unfolding_all exact rfl, ?_⟩ ?_)) :
    TX C (bodyPost C.P fn (PostB C.B (.tp [r1, r2, r3]) η')) .ret ρ η := TX.res3 σ hD hres h1 h2 h3 hn hp ho hle1 hle2 hle3
theorem TX.rs4 {fn : Func} {v1 v2 v3 v4 : ResultVar} {u1 u2 u3 u4 r1 r2 r3 r4 : AV} (σ : List Nat) (hle1 : LE (ts σ) u1 r1) (hle2 : LE (ts σ) u2 r2) (hle3 : LE (ts σ) u3 r3) (hle4 : LE (ts σ) u4 r4) (hD : C.D = [] := by with_unfolding_all exact rfl) (hres : fn.results = #[v1, v2, v3, v4] := by with_unfolding_all exact rfl)
    (h1 : RV C ρ η v1 u1 := by first | with_unfolding_all exact rfl | with_unfolding_all exact ⟨_, _, _, _, rfl, rfl, rfl, rfl, rfl⟩) (h2 : RV C ρ η v2 u2 := by first | with_unfolding_all exact rfl | with_unfolding_all exact ⟨_, _, _, _, rfl, rfl, rfl, rfl, rfl⟩) (h3 : RV C ρ η v3 u3 := by first | with_unfolding_all exact rfl | with_unfolding_all exact ⟨_, _, _, _, rfl, rfl, rfl, rfl, rfl⟩) (h4 : RV C ρ η v4 u4 := by first | with_unfolding_all exact rfl | with_unfolding_all exact ⟨_, _, _, _, rfl, rfl, rfl, rfl, rfl⟩)
    (hn : nodB σ = true := by with_unfolding_all exact rfl) (hp : preB C.n 0 σ = true := by with_unfolding_all exact rfl) (ho : SubO (ts σ) η σ η' := by repeat' (first | with_unfolding_all exact trivial | exact OE.ren (by with_unfolding_all exact rfl) | with_unfolding_all exact OE.gs | with_unfolding_all refine And.intro ⟨_, by with_unfolding_all exact rfl, ?_⟩ ?_)) :
    TX C (bodyPost C.P fn (PostB C.B (.tp [r1, r2, r3, r4]) η')) .ret ρ η := TX.res4 σ hD hres h1 h2 h3 h4 hn hp ho hle1 hle2 hle3 hle4
theorem LE.st {τ : Nat → Option Nat} {xs ys : List AV} (h : LEs τ xs ys) : LE τ (.st xs) (.st ys) := fun m w γ γ' hs v hr => by
  cases hr with
  | @st _ vs _ hl h1 hr =>
  have hv : VL m w γ vs xs := VL.of hl hr
  have hv' := h.vl hs hv
  exact .st hv'.len h1 hv'.get
theorem OL.vwC {k E E2 sz : Nat} {cs : List AV} {fz nl} {xs : List AV} (i o : Nat) (kk : OL C ops Q rest ρ η2) (ho : η[i]? = some (.cb E cs) := by with_unfolding_all exact rfl) (hc : cs[o]? = some (.hs k) := by with_unfolding_all exact rfl) (hk : η[k]? = some (.gs fz E2 sz nl xs) := by with_unfolding_all exact rfl)
    (hη : (η.set k (.gs true E2 sz nl xs)).set i (.cb E (cs.set o (.sl sz none xs))) = η2 := by (try dsimp only [List.set]) <;> exact rfl) : OL C ops Q rest ρ η := OL.wk (Wk.viewCell ho hc hk) (hη ▸ kk)
theorem TX.vwC {k E E2 sz : Nat} {cs : List AV} {fz nl} {xs : List AV} (i o : Nat) (kk : TX C Q e ρ η2) (ho : η[i]? = some (.cb E cs) := by with_unfolding_all exact rfl) (hc : cs[o]? = some (.hs k) := by with_unfolding_all exact rfl) (hk : η[k]? = some (.gs fz E2 sz nl xs) := by with_unfolding_all exact rfl)
    (hη : (η.set k (.gs true E2 sz nl xs)).set i (.cb E (cs.set o (.sl sz none xs))) = η2 := by (try dsimp only [List.set]) <;> exact rfl) : TX C Q e ρ η := TX.wk (Wk.viewCell ho hc hk) (hη ▸ kk)
theorem Wk.eqG {i : Nat} {fz E sz nl} {xs ys : List AV} (h : xs = ys) (ho : η[i]? = some (.gs fz E sz nl xs)) : Wk C ρ η ρ (η.set i (.gs fz E sz nl ys)) := by
  subst h
  have : η.set i (.gs fz E sz nl xs) = η := by
    refine List.ext_getElem? fun j => ?_
    rw [List.getElem?_set]
    split
    · rename_i e; subst e
      split
      · exact ho.symm
      · rename_i hn; rw [List.getElem?_eq_none (by omega)]
    · rfl
  rw [this]
  exact Wk.refl
theorem OL.eqG {fz E sz nl} {xs ys : List AV} (i : Nat) (h : xs = ys) (kk : OL C ops Q rest ρ η2) (ho : η[i]? = some (.gs fz E sz nl xs) := by with_unfolding_all exact rfl) (hη : η.set i (.gs fz E sz nl ys) = η2 := by (try dsimp only [List.set]) <;> exact rfl) : OL C ops Q rest ρ η := OL.wk (Wk.eqG h ho) (hη ▸ kk)
theorem TC.eqG {fz E sz nl} {xs ys : List AV} (i : Nat) (h : xs = ys) (kk : TC C Q A ρ η2) (ho : η[i]? = some (.gs fz E sz nl xs) := by with_unfolding_all exact rfl) (hη : η.set i (.gs fz E sz nl ys) = η2 := by (try dsimp only [List.set]) <;> exact rfl) : TC C Q A ρ η := TC.wk (Wk.eqG h ho) (hη ▸ kk)
theorem TX.eqG {fz E sz nl} {xs ys : List AV} (i : Nat) (h : xs = ys) (kk : TX C Q e ρ η2) (ho : η[i]? = some (.gs fz E sz nl xs) := by with_unfolding_all exact rfl) (hη : η.set i (.gs fz E sz nl ys) = η2 := by (try dsimp only [List.set]) <;> exact rfl) : TX C Q e ρ η := TX.wk (Wk.eqG h ho) (hη ▸ kk)
section
variable {M : Bool} {fi fuel : Nat} {l : List Oper} {listed : Array Bool} {g : Option (Nat × Bool)}
theorem OD.al {cs : List AV} {k : Nat} (i : Nat) (kk : OD C M fi l.toArray Q fuel (listed.setIfInBounds i true) ((d, .bp k 0) :: ρ) η2) (hi : l[i]? = some ⟨some d, .alloc X, T, pos, af, g⟩ := by with_unfolding_all exact rfl) (hg : GB l.toArray ρ g true := by first | with_unfolding_all exact rfl | with_unfolding_all exact ⟨_, _, rfl, rfl, rfl⟩)
    (hz : (C.tab X).bind (fun e => rawL e.zero.cells.toList) = some cs := by with_unfolding_all exact rfl) (hk : η.length = k := by (try dsimp only [List.length]) <;> exact rfl) (hη : η ++ [.cb X cs] = η2 := by (try dsimp only [List.cons_append, List.nil_append, List.append_eq]) <;> exact rfl) (hd : Nat.blt d C.N = true := by with_unfolding_all exact rfl) (hrd : Region.ready .any l.toArray listed = [i] := by kernel_rfl) : OD C M fi l.toArray Q (fuel + 1) listed ρ η := OD.n1 i (One.alloc hz hk hη hd) kk hi hg hrd
theorem NextBy.al {cs : List AV} {k i : Nat} (kk : OD C M fi l.toArray Q fuel (listed.setIfInBounds i true) ((d, .bp k 0) :: ρ) η2) (hi : l[i]? = some ⟨some d, .alloc X, T, pos, af, g⟩ := by with_unfolding_all exact rfl) (hg : GB l.toArray ρ g true := by first | with_unfolding_all exact rfl | with_unfolding_all exact ⟨_, _, rfl, rfl, rfl⟩)
    (hz : (C.tab X).bind (fun e => rawL e.zero.cells.toList) = some cs := by with_unfolding_all exact rfl) (hk : η.length = k := by (try dsimp only [List.length]) <;> exact rfl) (hη : η ++ [.cb X cs] = η2 := by (try dsimp only [List.cons_append, List.nil_append, List.append_eq]) <;> exact rfl) (hd : Nat.blt d C.N = true := by with_unfolding_all exact rfl) : NextBy C M fi l Q fuel listed ρ η i := NextBy.o (One.alloc hz hk hη hd) kk hi hg
end
/-! ### A call of yield among operations in any order -/
theorem wpAnyR_at {md : Region.Mode} {R : World → World → Prop} {fi : Nat} {B : Base} {hB : B.γ.length = C.n} : ∀ (fuel : Nat) (listed : Array Bool) (a : Act) (w : World), wpAnyR (C.at B hB) md ops Q R fi fuel listed a w → wpAnyR C md ops Q R fi fuel listed a w
  | 0, _, _, _, h => h
  | fuel + 1, _, _, _, h => ⟨h.1, fun i hi => Cx.O_mono (C := C) (fun a' w' h' => ⟨h'.1, wpAnyR_at fuel _ a' w' h'.2⟩) (h.2 i hi)⟩
theorem TX.odAt {M : Bool} {fi fuel : Nat} {listed : Array Bool} {B : Base} {hB : B.γ.length = C.n} (h : OD (C.at B hB) M fi ops Q fuel listed ρ η) : TX (C.at B hB) (QD C M fi ops Q fuel listed) .normal ρ η := fun a w hA => wpAnyR_at fuel listed a w (h a w hA)
end
end Go.V
namespace Go.V
open Go Go.W
theorem Rep.raws {m w γ v nl xs} (h : Rep m w γ v (.sl 1 nl xs)) : ∃ qs : List Value, qs.length = xs.length ∧ (∀ γ', Rep m w γ' v (.sl 1 none (qs.map .raw))) ∧ ∀ (i : Nat) q x, qs[i]? = some q → xs[i]? = some x → x.cells = [x] → Rep m w [] q x := by
  cases h with
  | nil h => exact ⟨[], rfl, fun _ => .nil nofun, by simp⟩
  | sl0 h => exact ⟨[], rfl, fun _ => .sl0 nofun, by simp⟩
  | @sl _ _ _ _ b o cap cv hn h1 h2 hc hr =>
    have hex : ∀ i : Nat, ∃ q, i < xs.length → cv i = [q] := fun i => by
      by_cases hi : i < xs.length
      · obtain ⟨a1, _⟩ := hc i _ (List.getElem?_eq_getElem hi)
        match hcv : cv i, a1 with
        | [q], _ => exact ⟨q, fun _ => rfl⟩
      · exact ⟨undef, fun h => (hi h).elim⟩
    obtain ⟨qf, hqf⟩ : ∃ qf : Nat → Value, ∀ i, i < xs.length → cv i = [qf i] := ⟨fun i => (hex i).choose, fun i => (hex i).choose_spec⟩
    refine ⟨(List.range xs.length).map qf, by simp, fun γ' => ?_, fun i q x hq hx hx1 => ?_⟩
    · have hl : (((List.range xs.length).map qf).map AV.raw).length = xs.length := by simp
      have key := Rep.sl (m := m) (w := w) (γ := γ') (sz := 1) (nl := none) (xs := ((List.range xs.length).map qf).map AV.raw) (b := b) (o := o) (cap := cap) cv nofun (by rw [hl]; exact h1) h2 (fun i x hx => ?_) (fun i x j c y hx hj hy => ?_)
      · rw [hl] at key; exact key
      all_goals
        have hi : i < xs.length := by have := (List.getElem?_eq_some_iff.1 hx).1; rwa [hl] at this
        obtain ⟨a1, a2, a3, a4⟩ := hc i _ (List.getElem?_eq_getElem hi)
        simp only [List.map_map, List.getElem?_map, List.getElem?_range hi, Option.map_some, Option.some.injEq, Function.comp_apply] at hx
        subst hx
      · exact ⟨a1, rfl, a3, a4⟩
      · rw [hqf i hi] at hj a4
        match j, hj, hy with
        | 0, hj, hy =>
          simp at hj
          simp [AV.cells] at hy
          subst hj hy
          exact .raw (a4 _ (by simp))
        | j + 1, hj, _ => simp at hj
    · have hi : i < xs.length := (List.getElem?_eq_some_iff.1 hx).1
      simp only [List.getElem?_map, List.getElem?_range hi, Option.map_some, Option.some.injEq] at hq
      subst hq
      exact hr i x 0 _ _ hx (by rw [hqf i hi]; rfl) (by rw [hx1]; rfl)
section
variable {C : Cx} {ops : Array Oper} {Q : Qt} {ρ : Ro} {η : Eta} {T d : Nat} {pos : String} {af : Array Edge} {x : Operand} {args : List Operand} {at_ : Array TypeId}
theorem One.lendV {f : Nat} {fn : Func} {u : AV} (hf : C.P.funcs[f]? = some fn) (hb : (fn.body.isNone || fn.name == "runtime.NumGoroutine") = false) (hd : Nat.blt d C.N = true)
    (h : ∀ m w γ ρc, RL m w γ ρc ρ → In C.B m w γ η → ∃ m1 vs as q, W.evs ρc args = some vs ∧ VL m1 w [] vs as ∧ Spec C.P f as [] (.raw q) [] ∧ Rep m w γ q u) :
    OneK C ops Q ⟨some d, .call ⟨.value (.func f), args.toArray, at_⟩, T, pos, af, none⟩ ρ η ((d, u) :: ρ) η := by
  rintro a w K ⟨m, γ, ρc, hE, hR, hI⟩ k
  obtain ⟨m1, vs, as, q, h1, h2, hs, hq⟩ := h m w γ ρc hR hI
  have hc := hs m1 w [] vs ⟨rfl, fun i v o hv => by simp at hv, fun i j v v' o o' b _ hv => by simp at hv⟩ h2
  simp at hb
  have hb' : fn.body ≠ none := Option.isSome_iff_ne_none.1 hb.1
  refine wl_call (f := f) (args := vs.toArray) rfl ?_ (hc.mono fun e w' ⟨v, m', γ1', he, hC, hv⟩ => ⟨q, by rw [he, hv.raw_eq], ?_⟩)
  · have he : a.eval (.func f) = .func (.func f) #[] #[] := rfl
    simp [execOp, resolve, he, Deferred.ofValue, invoke, callFunc, hf, hb.2, hb', hE.evs h1]
  · have hfar : Far [] m1 w m' w' := hC.far
    have hk : Keep m w (fun b => if b < w.heap.size then m b else m' b) w' := ⟨hfar.keep.grown, fun b hb => if_pos hb⟩
    exact k _ _ hk.grown ⟨_, γ, _, hE.put q (by simpa using hd), ⟨rfl, hq.mono hk.ext (.refl _), hR.mono hk.ext (.refl _)⟩, hI.keep hk⟩
theorem One.elem {P : Program} {f : Nat} {fn : Func} {i j E E2 : Nat} {nl : Option Bool} {c0 c2 u : AV} {xs : List AV} (n : Nat) (hs : ∀ (qs : List Value) q, qs.length = xs.length → qs[n]? = some q → Spec P f [.ep [.junk, .sl 1 none (qs.map .raw), .junk] 0] [] (.raw q) []) (hf : P.funcs[f]? = some fn) (hn : xs[n]? = some u)
    (hu : u.cells = [u] := by with_unfolding_all exact rfl) (hP : C.P = P := by with_unfolding_all exact rfl) (hx : ev2 ρ x = some (.bp i 0) := by with_unfolding_all exact rfl) (ho : η[i]? = some (.cb E [c0, .hs j, c2]) := by with_unfolding_all exact rfl) (hj : η[j]? = some (.gs true E2 1 nl xs) := by with_unfolding_all exact rfl)
    (hb : (fn.body.isNone || fn.name == "runtime.NumGoroutine") = false := by with_unfolding_all exact rfl) (hd : Nat.blt d C.N = true := by with_unfolding_all exact rfl) :
    OneK C ops Q ⟨some d, .call ⟨.value (.func f), #[x], at_⟩, T, pos, af, none⟩ ρ η ((d, u) :: ρ) η := by
  subst hP
  refine One.lendV (args := [x]) hf hb hd fun m w γ ρc hR hI => ?_
  obtain ⟨v1, g1, g2⟩ := hR.ev hx
  cases g2 with
  | @bp _ _ _ b hbp =>
  obtain ⟨b', vs, e, hB, hC⟩ := hI.heap.ok i _ _ hbp ho
  cases e
  obtain ⟨hx1, hcell⟩ := hB.freeze
  have hvl : vs.length = 3 := hC.1
  have h1 := hC.2.2 1 (vs[1]'(by omega)) (.hs j) (List.getElem?_eq_getElem (by omega)) rfl
  have hγj := h1.hs_get.1
  obtain ⟨o1, o2, o3⟩ := hI.heap.ok j _ _ hγj hj
  have hrep : Rep m w γ (vs[1]'(by omega)) (.sl 1 none xs) := Rep.of_rs (Own.rs o1) (NL.none _)
  obtain ⟨qs, q1, q2, q3⟩ := hrep.raws
  have hnl : n < xs.length := (List.getElem?_eq_some_iff.1 hn).1
  have hqn : qs[n]? = some (qs[n]'(by omega)) := List.getElem?_eq_getElem (by omega)
  refine ⟨mset m b vs.length, [.pointer (some ⟨b, 0, none⟩)], [.ep [.junk, .sl 1 none (qs.map .raw), .junk] 0], _, by simp [W.evs, g1], ⟨?_, trivial⟩, hs qs _ q1 hqn, (q3 n _ u hqn hn hu).mono (.refl _ _) (fun i v h => by simp at h)⟩
  have := Rep.ep (γ := []) (o := 0) (cs := [.junk, .sl 1 none (qs.map .raw), .junk]) hcell (by rw [hvl]; rfl) hC.2.1 (fun k v c a1 a2 => by
    match k, a2 with
    | 0, a2 => simp at a2; subst a2; exact .junk
    | 1, a2 =>
      simp at a2; subst a2
      rw [List.getElem?_eq_getElem (by omega)] at a1
      cases a1
      exact (q2 []).mono hx1 (.refl _)
    | 2, a2 => simp at a2; subst a2; exact .junk
    | k + 3, a2 => simp at a2)
  simpa using this
variable {rest : List Oper} {M : Bool} {fi fuel : Nat} {l : List Oper} {listed : Array Bool} {g : Option (Nat × Bool)}
variable {P : Program} {f : Nat} {fn : Func} {j E E2 : Nat} {nl : Option Bool} {c0 c2 u : AV} {xs : List AV}
theorem OL.elem {i : Nat} (n : Nat) (hs : ∀ (qs : List Value) q, qs.length = xs.length → qs[n]? = some q → Spec P f [.ep [.junk, .sl 1 none (qs.map .raw), .junk] 0] [] (.raw q) []) (hf : P.funcs[f]? = some fn) (hn : xs[n]? = some u) (k : OL C ops Q rest ((d, u) :: ρ) η)
    (hu : u.cells = [u] := by with_unfolding_all exact rfl) (hP : C.P = P := by with_unfolding_all exact rfl) (hx : ev2 ρ x = some (.bp i 0) := by with_unfolding_all exact rfl) (ho : η[i]? = some (.cb E [c0, .hs j, c2]) := by with_unfolding_all exact rfl) (hj : η[j]? = some (.gs true E2 1 nl xs) := by with_unfolding_all exact rfl)
    (hb : (fn.body.isNone || fn.name == "runtime.NumGoroutine") = false := by with_unfolding_all exact rfl) (hd : Nat.blt d C.N = true := by with_unfolding_all exact rfl) :
    OL C ops Q (⟨some d, .call ⟨.value (.func f), #[x], at_⟩, T, pos, af, none⟩ :: rest) ρ η := OL.one (One.elem n hs hf hn hu hP hx ho hj hb hd) k
theorem OD.e1 {q : Nat} (i n : Nat) (hs : ∀ (qs : List Value) q, qs.length = xs.length → qs[n]? = some q → Spec P f [.ep [.junk, .sl 1 none (qs.map .raw), .junk] 0] [] (.raw q) []) (hf : P.funcs[f]? = some fn) (hn : xs[n]? = some u) (k : OD C M fi l.toArray Q fuel (listed.setIfInBounds i true) ((d, u) :: ρ) η)
    (hi : l[i]? = some ⟨some d, .call ⟨.value (.func f), #[x], at_⟩, T, pos, af, g⟩ := by with_unfolding_all exact rfl) (hg : GB l.toArray ρ g true := by first | with_unfolding_all exact rfl | with_unfolding_all exact ⟨_, _, rfl, rfl, rfl⟩)
    (hu : u.cells = [u] := by with_unfolding_all exact rfl) (hP : C.P = P := by with_unfolding_all exact rfl) (hx : ev2 ρ x = some (.bp q 0) := by with_unfolding_all exact rfl) (ho : η[q]? = some (.cb E [c0, .hs j, c2]) := by with_unfolding_all exact rfl) (hj : η[j]? = some (.gs true E2 1 nl xs) := by with_unfolding_all exact rfl)
    (hb : (fn.body.isNone || fn.name == "runtime.NumGoroutine") = false := by with_unfolding_all exact rfl) (hd : Nat.blt d C.N = true := by with_unfolding_all exact rfl) (hrd : Region.ready .any l.toArray listed = [i] := by kernel_rfl) :
    OD C M fi l.toArray Q (fuel + 1) listed ρ η := OD.n1 i (One.elem n hs hf hn hu hP hx ho hj hb hd) k hi hg hrd
theorem NextBy.e {q i : Nat} (n : Nat) (hs : ∀ (qs : List Value) q, qs.length = xs.length → qs[n]? = some q → Spec P f [.ep [.junk, .sl 1 none (qs.map .raw), .junk] 0] [] (.raw q) []) (hf : P.funcs[f]? = some fn) (hn : xs[n]? = some u) (k : OD C M fi l.toArray Q fuel (listed.setIfInBounds i true) ((d, u) :: ρ) η)
    (hi : l[i]? = some ⟨some d, .call ⟨.value (.func f), #[x], at_⟩, T, pos, af, g⟩ := by with_unfolding_all exact rfl) (hg : GB l.toArray ρ g true := by first | with_unfolding_all exact rfl | with_unfolding_all exact ⟨_, _, rfl, rfl, rfl⟩)
    (hu : u.cells = [u] := by with_unfolding_all exact rfl) (hP : C.P = P := by with_unfolding_all exact rfl) (hx : ev2 ρ x = some (.bp q 0) := by with_unfolding_all exact rfl) (ho : η[q]? = some (.cb E [c0, .hs j, c2]) := by with_unfolding_all exact rfl) (hj : η[j]? = some (.gs true E2 1 nl xs) := by with_unfolding_all exact rfl)
    (hb : (fn.body.isNone || fn.name == "runtime.NumGoroutine") = false := by with_unfolding_all exact rfl) (hd : Nat.blt d C.N = true := by with_unfolding_all exact rfl) :
    NextBy C M fi l Q fuel listed ρ η i := NextBy.o (One.elem n hs hf hn hu hP hx ho hj hb hd) k hi hg
end
end Go.V
