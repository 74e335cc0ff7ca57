/- Part 19 of what the claim is proved by: lemmas on the model and walks through functions of the program; no conditions. -/
import Derived.Shelf.Sort.Plain
import Derived.Shelf.Slices.CompactI
import Derived.Shelf.Slices.In.SortNone
import Derived.Shelf.Spec.SlicesGrow
import Derived.Test.YtmdpbfghjdljiaaGreatProg
import Derived.Test.YtmdpbfghjdljiaaGreatV17
import Derived.Test.YtmdpbfghjdljiaaGreatV10
import Derived.Test.YtmdpbfghjdljiaaGreatV12
import Derived.Test.YtmdpbfghjdljiaaGreatV16
import Derived.Test.YtmdpbfghjdljiaaGreatV11
import Derived.Test.YtmdpbfghjdljiaaGreatV9
import Derived.Test.YtmdpbfghjdljiaaGreatV18
namespace Go.Proofs
open Go.Shelf
def Tryz.lays189_ren : Go.Shelf.Ren := ⟨fun | 189 => 126 | 125 => 167 | 257 => 166 | 128 => 222 | 129 => 223 | 294 => 213 | 295 => 214 | 296 => 215 | 297 => 216 | 298 => 217 | 299 => 218 | 216 => 219 | 300 => 220 | 301 => 221 | 328 => 242 | 329 => 243 | 330 => 244 | 331 => 245 | 332 => 246 | 215 => 247 | 343 => 257 | n => n, fun | 28 => 36 | 3 => 3 | 46 => 237 | 0 => 0 | 51 => 294 | 53 => 279 | 4 => 4 | 183 => 287 | 182 => 286 | 131 => 270 | 5 => 5 | 9 => 9 | 218 => 310 | 222 => 314 | 228 => 325 | 229 => 326 | n => n, fun | n => n⟩
theorem Tryz.lays189 : Go.Proofs.Lays.n189 Tryz.prog Tryz.lays189_ren := {
  mixed := by kernel_rfl
  f125 := Tryz.func167.trans (congrArg some (by kernel_rfl))
  f128 := Tryz.func222.trans (congrArg some (by kernel_rfl))
  f129 := Tryz.func223.trans (congrArg some (by kernel_rfl))
  f189 := Tryz.func126.trans (congrArg some (by kernel_rfl))
  f215 := Tryz.func247.trans (congrArg some (by kernel_rfl))
  f216 := Tryz.func219.trans (congrArg some (by kernel_rfl))
  f257 := Tryz.func166.trans (congrArg some (by kernel_rfl))
  f294 := Tryz.func213.trans (congrArg some (by kernel_rfl))
  f295 := Tryz.func214.trans (congrArg some (by kernel_rfl))
  f296 := Tryz.func215.trans (congrArg some (by kernel_rfl))
  f297 := Tryz.func216.trans (congrArg some (by kernel_rfl))
  f298 := Tryz.func217.trans (congrArg some (by kernel_rfl))
  f299 := Tryz.func218.trans (congrArg some (by kernel_rfl))
  f300 := Tryz.func220.trans (congrArg some (by kernel_rfl))
  f301 := Tryz.func221.trans (congrArg some (by kernel_rfl))
  f328 := Tryz.func242.trans (congrArg some (by kernel_rfl))
  f329 := Tryz.func243.trans (congrArg some (by kernel_rfl))
  f330 := Tryz.func244.trans (congrArg some (by kernel_rfl))
  f331 := Tryz.func245.trans (congrArg some (by kernel_rfl))
  f332 := Tryz.func246.trans (congrArg some (by kernel_rfl))
  f343 := Tryz.func257.trans (congrArg some (by kernel_rfl))
  t0 := Tryz.underlying0
  a0 := Tryz.isAgg0
  z0 := Tryz.sizeOf0
  v0 := Tryz.zeroValue0
  t3 := Tryz.underlying3
  a3 := Tryz.isAgg3
  z3 := Tryz.sizeOf3
  v3 := Tryz.zeroValue3
  t4 := Tryz.underlying4
  a4 := Tryz.isAgg4
  z4 := Tryz.sizeOf4
  v4 := Tryz.zeroValue4
  t5 := Tryz.underlying5
  a5 := Tryz.isAgg5
  z5 := Tryz.sizeOf5
  v5 := Tryz.zeroValue5
  t9 := Tryz.underlying9
  a9 := Tryz.isAgg9
  z9 := Tryz.sizeOf9
  v9 := Tryz.zeroValue9
  t28 := Tryz.underlying36
  a28 := Tryz.isAgg36
  z28 := Tryz.sizeOf36
  v28 := Tryz.zeroValue36
  t46 := Tryz.underlying237
  a46 := Tryz.isAgg237
  z46 := Tryz.sizeOf237
  v46 := Tryz.zeroValue237
  t51 := Tryz.underlying294
  a51 := Tryz.isAgg294
  z51 := Tryz.sizeOf294
  v51 := Tryz.zeroValue294
  t53 := Tryz.underlying279
  a53 := Tryz.isAgg279
  z53 := Tryz.sizeOf279
  v53 := Tryz.zeroValue279
  t131 := Tryz.underlying270
  a131 := Tryz.isAgg270
  z131 := Tryz.sizeOf270
  v131 := Tryz.zeroValue270
  t182 := Tryz.underlying286
  a182 := Tryz.isAgg286
  z182 := Tryz.sizeOf286
  v182 := Tryz.zeroValue286
  t183 := Tryz.underlying287
  a183 := Tryz.isAgg287
  z183 := Tryz.sizeOf287
  v183 := Tryz.zeroValue287
  t218 := Tryz.underlying310
  a218 := Tryz.isAgg310
  z218 := Tryz.sizeOf310
  v218 := Tryz.zeroValue310
  t222 := Tryz.underlying314
  a222 := Tryz.isAgg314
  z222 := Tryz.sizeOf314
  v222 := Tryz.zeroValue314
  t228 := Tryz.underlying325
  a228 := Tryz.isAgg325
  z228 := Tryz.sizeOf325
  v228 := Tryz.zeroValue325
  t229 := Tryz.underlying326
  a229 := Tryz.isAgg326
  z229 := Tryz.sizeOf326
  v229 := Tryz.zeroValue326 }
open Go.Sort Go.RowKit in
theorem Tryz.slices_Sort_int (blk off cap : Nat) (zs : List Int) (w : World) (hH : Holds (Value.int .i64) w blk off zs.toArray) (hblk : blk < w.heap.size) (hsz : zs.length < 4611686018427387904) :
    Calls Tryz.prog 126 #[.slice (some ⟨blk, off, none⟩) zs.length cap] w fun e w' =>
      e = .returned (.tuple #[]) ∧ ∃ n os, w' = grow (putRow (Value.int .i64) (Sort.ahead w n) blk off (zs.mergeSort fun x y => decide (x ≤ y)).toArray) os := Any.slices_Sort_int Tryz.lays189 blk off cap zs w hH hblk hsz
def Tryz.laysNm220_ren : Go.Shelf.Ren := ⟨fun | 20 => 164 | n => n, fun | 22 => 36 | 3 => 3 | 4 => 4 | 0 => 0 | n => n, fun | n => n⟩
theorem Tryz.laysNm220 : Go.Proofs.Lays2.n20 Tryz.prog Tryz.laysNm220_ren := {
  mixed := by kernel_rfl
  f20 := Tryz.func164.trans (congrArg some (by kernel_rfl))
  t0 := Tryz.underlying0
  a0 := Tryz.isAgg0
  z0 := Tryz.sizeOf0
  v0 := Tryz.zeroValue0
  t3 := Tryz.underlying3
  a3 := Tryz.isAgg3
  z3 := Tryz.sizeOf3
  v3 := Tryz.zeroValue3
  t4 := Tryz.underlying4
  a4 := Tryz.isAgg4
  z4 := Tryz.sizeOf4
  v4 := Tryz.zeroValue4
  t22 := Tryz.underlying36
  a22 := Tryz.isAgg36
  z22 := Tryz.sizeOf36
  v22 := Tryz.zeroValue36
  i3 := by kernel_rfl }
open Go.RowKit Go.Lib Go.Sort in
theorem Tryz.slices_Compact_int (blk off cap : Nat) (zs : List Int) (w : World) (hH : Holds (Value.int .i64) w blk off zs.toArray) (hsz : zs.length ≤ 9223372036854775807) (hcap : zs.length ≤ cap) :
    Calls Tryz.prog 164 #[.slice (some ⟨blk, off, none⟩) zs.length cap] w fun e w' => e = .returned (.slice (some ⟨blk, off, none⟩) (Lib.compact zs).length cap) ∧ ∃ q, w' = putRow (Value.int .i64) (Sort.ahead w q) blk off (Lib.compact zs ++ List.replicate (zs.length - (Lib.compact zs).length) 0).toArray := Any.slices_Compact_int Tryz.laysNm220 blk off cap zs w hH hsz hcap
open Go.RowKit Go.Lib Go.Sort in
theorem Tryz.slices_Compact_int_empty (a : Option Addr) (cap : Nat) (w : World) :
    Calls Tryz.prog 164 #[.slice a 0 cap] w fun e w' => e = .returned (.slice a 0 cap) ∧ w' = w := Any.slices_Compact_int_empty Tryz.laysNm220 a cap w
open Go.RowKit Go.Sort in
theorem Tryz.slices_Sort_int_none (p : Option Addr) (cap : Nat) (w : World) :
    Calls Tryz.prog 126 #[.slice p 0 cap] w fun e w' => e = .returned (.tuple #[]) ∧ w' = w := Any.slices_Sort_int_none Tryz.lays189 p cap w
def Tryz.growI_ren : Go.Shelf.Ren := ⟨fun | 4 => 165 | n => n, fun | 22 => 36 | 25 => 3 | 3 => 3 | 4 => 4 | 9 => 9 | 20 => 20 | 0 => 0 | n => n, fun | n => n⟩
theorem Tryz.growI : Go.Proofs.Lays8.n4 Tryz.prog Tryz.growI_ren := {
  mixed := by kernel_rfl
  f4 := ⟨Tryz.f165.name, by decide, Tryz.func165.trans (congrArg some (by kernel_rfl))⟩
  t0 := Tryz.underlying0
  a0 := Tryz.isAgg0
  z0 := Tryz.sizeOf0
  v0 := Tryz.zeroValue0
  t3 := Tryz.underlying3
  a3 := Tryz.isAgg3
  z3 := Tryz.sizeOf3
  v3 := Tryz.zeroValue3
  t4 := Tryz.underlying4
  a4 := Tryz.isAgg4
  z4 := Tryz.sizeOf4
  v4 := Tryz.zeroValue4
  t9 := Tryz.underlying9
  a9 := Tryz.isAgg9
  z9 := Tryz.sizeOf9
  v9 := Tryz.zeroValue9
  t20 := Tryz.underlying20
  a20 := Tryz.isAgg20
  z20 := Tryz.sizeOf20
  v20 := Tryz.zeroValue20
  t22 := Tryz.underlying36
  a22 := Tryz.isAgg36
  z22 := Tryz.sizeOf36
  v22 := Tryz.zeroValue36 }
end Go.Proofs
namespace Go.V
open Go Go.W
theorem LE.seq {τ} {P : Program} {f : Nat} {fn : Func} {caps : List AV} {α : Type} {ar : α → List AV} {L : List α} (hf : P.funcs[f]? = some fn) (hs : ∀ m w vs, VL m w [] vs caps → SeqV P f vs.toArray ar L m w) (hc : caps.all pureA = true := by with_unfolding_all exact rfl)
    (hb : (fn.body.isNone || fn.name == "runtime.NumGoroutine") = false := by with_unfolding_all exact rfl) : LE τ (.fn (.func f) [] caps) (.pr (SeqMP P ar L)) := by
  intro m w γ γ' _ v hr
  cases hr with
  | @fn _ _ fv cv _ _ l1 l2 h1 h2 =>
    obtain rfl : fv = [] := List.length_eq_zero_iff.1 l1
    exact .pr ⟨f, cv.toArray, fn, rfl, hf, hb, hs m w cv (VL.of l2 fun j v c a b => pureA_rep (h2 j v c a b) (List.all_eq_true.1 hc c (List.mem_of_getElem? b)))⟩
section
variable {C : Cx} {Q : Qt} {ρ ρ2 : Ro} {η η2 : Eta} {e : Exit}
theorem TX.frzA {E : Nat} {cs : List AV} (i : Nat) (k : TX C Q e ρ2 η2) (ho : η[i]? = some (.cb E cs) := by with_unfolding_all exact rfl) (hp : cs.all pureA = true := by with_unfolding_all exact rfl) (hρ : sbr i cs ρ = ρ2 := by (try dsimp only [sbr, sbp, sb0, List.map, Nat.beq, Nat.add_zero, Nat.zero_add, Nat.reduceAdd, cond_true, cond_false]) <;> exact rfl) (hη : η.set i .dead = η2 := by (try dsimp only [List.set]) <;> exact rfl) : TX C Q e ρ η := by
  subst hρ hη; exact TX.wk (Wk.frzA ho hp) k
end
theorem At.mono {P : Program} {α : Type} {ar : α → List AV} {L : List α} {I : It P ar L} {K K' : (Nat → Nat) → World → Prop} {ds B} (h : At I K ds B) (hk : ∀ m w, K m w → K' m w) (hs : ∀ m w m' w', K' m w → StepOK I.W.heap.size m w m' w' → K' m' w') : At I K' ds B :=
  ⟨h.ext, h.noS, h.noγ, hs, hk _ _ h.holds, h.marks, h.nodup⟩
end Go.V
namespace Go.Proofs
open Go Go.W Go.V
end Go.Proofs
namespace Go.Proofs
open Go Go.W Go.V
def sortI (l : List Int) : List Int := l.mergeSort fun x y => decide (x ≤ y)
theorem sortI_perm (l : List Int) : (sortI l).Perm l := List.mergeSort_perm l _
theorem sortI_len (l : List Int) : (sortI l).length = l.length := (sortI_perm l).length_eq
theorem sortI_sorted (l : List Int) : (sortI l).Pairwise (· ≤ ·) := by
  have := List.pairwise_mergeSort (le := fun x y : Int => decide (x ≤ y)) (fun a b c h1 h2 => by simp at h1 h2 ⊢; omega) (fun a b => by simp; omega) l
  exact this.imp (fun h => by simpa using h)
theorem s_slices_Sort (l : List Int) (hl : l.length * 8 ≤ 140737488355328) : V.Spec Tryz.prog Fc.slices_Sort_Lint_int [.hs 0] [.gs false Tc.int 1 none (l.map V.int)] (.tp []) [.gs false Tc.int 1 none ((sortI l).map V.int)] :=
  spec_inplace (sortI_len l) (fun g cap w hH hb => Tryz.slices_Sort_int g 0 cap l w hH hb (by omega)) (fun hl p cap w => by subst hl; exact Tryz.slices_Sort_int_none p cap w)
theorem s_slices_Compact (l : List Int) (hl : l.length * 8 ≤ 140737488355328) : V.Spec Tryz.prog Fc.slices_Compact_Lint_int [.hs 0] [.gs false Tc.int 1 none (l.map V.int)] (.hs 1) [.dead, .gs false Tc.int 1 none ((Lib.compact l).map V.int)] := by
  have hc : (Lib.compact l).length ≤ l.length := by
    rw [Lib.compact, Lib.compactUpTo, List.length_map]
    have := List.length_filter_le (Lib.keeps l.toArray) (List.range l.length)
    simpa using this
  exact spec_cutplace (l2 := Lib.compact l ++ List.replicate (l.length - (Lib.compact l).length) 0) (by simp; omega) ⟨_, rfl⟩ (fun g cap w hH hcap => (Tryz.slices_Compact_int g 0 cap l w hH (by omega) hcap).mono fun e w' ⟨h1, q, h2⟩ => ⟨h1, q, #[], by rw [Sort.grow_empty]; exact h2⟩) (fun hl p cap w => by subst hl; exact Tryz.slices_Compact_int_empty p cap w)
theorem compact_nodup {s : List Int} (hs : s.Pairwise (· ≤ ·)) : (Lib.compact s).length = s.length ↔ s.Nodup := by
  constructor
  · intro h
    have hall : ∀ j, j < s.length → Lib.keeps s.toArray j = true := by
      rw [Lib.compact, Lib.compactUpTo, List.length_map] at h
      have h2 : ((List.range s.length).filter (Lib.keeps s.toArray)).length = (List.range s.length).length := by simpa using h
      rw [List.length_filter_eq_length_iff] at h2
      exact fun j hj => h2 j (List.mem_range.2 hj)
    have hne : ∀ j (h0 : 0 < j) (hj : j < s.length), s[j] ≠ s[j - 1] := fun j h0 hj e => by
      have := hall j hj
      rw [Lib.keeps_neg h0 (by simp [hj, show j - 1 < s.length by omega, e])] at this
      cases this
    rw [List.Nodup, List.pairwise_iff_getElem]
    intro i j hi hj hij
    have h1 := hne j (by omega) hj
    have h2 : s[j - 1] ≤ s[j] := List.pairwise_iff_getElem.1 hs (j - 1) j (by omega) hj (by omega)
    have h3 : s[i] ≤ s[j - 1] := by
      by_cases e : i = j - 1
      · subst e; exact Int.le_refl _
      · exact List.pairwise_iff_getElem.1 hs i (j - 1) hi (by omega) (by omega)
    omega
  · intro h
    rw [Lib.compact_all]
    intro j hj
    by_cases h0 : j = 0
    · subst h0; exact Lib.keeps_lt_one _ 0 (by omega)
    · refine Lib.keeps_pos ?_
      have : s[j] ≠ s[j - 1] := fun e => by
        have := (List.getElem_inj h).1 e
        omega
      simpa [hj, show j - 1 < s.length by omega] using this
structure VaS where
  k : Nat
  B : Base
  hB : B.γ.length = 0
abbrev oneJ : Int → List AV := fun x => [V.int x]
theorem s_slices_Values_1 (l : List Int) (hl : l.length * 8 ≤ 140737488355328) (m : Nat → Nat) (w : World) (vs : List Value) (hv : VL m w [] vs [.ep [ints l] 0]) : SeqV Tryz.prog Fc.slices_Values_Lint_int_1 vs.toArray oneJ l m w := by
  refine SeqV.enter hv Tryz.tabOK Tryz.mixed Fn.slices_Values_Lint_int_1 rfl rfl rfl fun I B hB hA => ?_
  repeat' (with_reducible first | refine OL.st ?_ | refine TC.region ?_ | refine TC.seq ?_ | refine OL.nil ?_ | refine TX.thenN ?_ | refine TC.block ?_ | fail)
  refine TC.loopC (S := VaS) (fun s => ⟨Tryz.prog, Tryz.tab, Tryz.tabOK, Tryz.mixed, 16, [], s.B, 0, s.hB, some none, 0⟩) (fun s => [(0, .raw (.func (.yield I.l) #[] #[])), (5, ints l), (6, V.int l.length), (7, V.int s.k)]) (fun _ => [])
    (fun s => s.k ≤ l.length ∧ At I (I.J (l.take s.k)) [] s.B) (fun s => l.length - s.k) ⟨0, B, hB⟩ ⟨Nat.zero_le _, hA⟩ rfl (fun _ _ => rfl) [] rfl rfl ?_ ?_ ?_
  · with_unfolding_all exact trivial
  · repeat' (first | with_unfolding_all exact trivial | exact LE.ren (by with_unfolding_all exact rfl) | with_unfolding_all refine And.intro ⟨_, by with_unfolding_all exact rfl, ?_⟩ ?_)
  rintro ⟨k, B2, hB2⟩ ⟨hk, hA2⟩
  dsimp only at hk hA2 ⊢
  by_cases hkl : k < l.length
  · have hts := take_succ hkl
    have hpre : ∃ r, l.take k ++ l[k] :: r = l := ⟨l.drop (k + 1), by rw [← drop_cons hkl, List.take_append_drop]⟩
    repeat' (with_reducible first | refine OL.st ?_ | refine TC.region ?_ | refine TC.seq ?_ | refine OL.nil ?_ | refine TX.thenN ?_ | refine TC.block ?_ | refine TC.skip ?_ | refine TC.ifD ?_ ?_ <;> (intro hc; try (exfalso; omega)) | fail)
    refine OL.yield (pre := l.take k) (y := l[k]) hA2 hpre (fun B1 hB1 hA1 _ _ => ?_) (fun B1 hB1 hA1 _ _ => ?_)
    · repeat' (with_reducible first | refine OL.st ?_ | refine TC.region ?_ | refine OL.nil ?_ | refine TC.skip ?_ | refine TX.blkN ?_ | refine TC.ifF ?_ | refine TX.thenW ?_ | fail)
      exact TX.rdC ⟨k + 1, B1, hB1⟩ [] ⟨by dsimp only; omega, by dsimp only; rw [hts]; exact hA1⟩ (by dsimp only; omega)
    · repeat' (with_reducible first | refine OL.st ?_ | refine OL.nil ?_ | refine TC.ifT ?_ | refine TC.ret ?_ | refine TX.thenR ?_ | refine TX.blkR ?_ | refine TX.thenW ?_ | fail)
      exact TX.rtIt (ds := []) hA1 (fun m w h => .inr ⟨_, h⟩)
  · rw [take_all (by omega)] at hA2
    repeat' (with_reducible first | refine OL.st ?_ | refine TC.region ?_ | refine TC.seq ?_ | refine OL.nil ?_ | refine TX.thenN ?_ | refine TC.exit ?_ | refine TX.hit ?_ | refine TX.thenX ?_ | refine TC.ifD ?_ ?_ <;> (intro hc; try (exfalso; omega)) | fail)
    refine TX.endM ?_
    exact TX.rtIt (ds := []) hA2 (fun m w h => .inl h)
theorem s_slices_Values (l : List Int) (hl : l.length * 8 ≤ 140737488355328) : V.Spec Tryz.prog Fc.slices_Values_Lint_int [ints l] [] (.pr (SeqMP Tryz.prog oneJ l)) [] := by
  refine V.Spec.enter Tryz.tabOK Tryz.mixed Fn.slices_Values_Lint_int rfl rfl rfl fun B hB => ?_
  repeat' (with_reducible first | refine OL.st ?_ | refine OL.box ?_ | refine TC.region ?_ | refine TC.seq ?_ | refine OL.nil ?_ | refine TX.thenN ?_ | refine TC.ret ?_ | fail)
  refine TX.frzA 0 ?_
  exact TX.rt1 [] (LE.seq Fn.slices_Values_Lint_int_1 (s_slices_Values_1 l hl))
set_option maxHeartbeats 1000000 in
theorem s_slices_AppendSeq (L : List Int) (hL : L.length * 8 ≤ 140737488355328) : V.Spec Tryz.prog Fc.slices_AppendSeq_Lint_int [.raw (.slice none 0 0), .pr (SeqMP Tryz.prog oneJ L)] [] (.hs 0) [.gs false Tc.int 1 none (L.map V.int)] := by
  refine Spec.enterM Tryz.tabOK Tryz.mixed Fn.slices_AppendSeq_Lint_int rfl rfl rfl fun B hB => ?_
  repeat' (with_reducible first | refine OL.st ?_ | refine OL.box ?_ | refine TC.region ?_ | refine TC.seq ?_ | refine OL.nil ?_ | refine TX.thenN ?_ | refine TC.block ?_ | fail)
  refine TC.adpC 0 0 Tc.int 1 ?_
  refine TC.rfV (u := V.int) [(2, .bp 0 0)] (fun pre => [.cb Tc.Lint [.hs 1], .gs false Tc.int 1 none (pre.map V.int)]) 1 [0, 1] rfl rfl rfl (fun _ => rfl) rfl rfl ?_ ?_ ?_ (Nat.zero_le _) (by simp) rfl rfl (fun pre x Bx hBx l hx => ?_) (fun B3 hB3 D hM => ?_)
  · with_unfolding_all exact ⟨⟨_, rfl, OE.ren rfl⟩, ⟨_, rfl, OE.gs⟩, trivial⟩
  · with_unfolding_all exact ⟨⟨_, rfl, LE.ren rfl⟩, trivial⟩
  · with_unfolding_all exact ⟨⟨_, rfl, LE.ren rfl⟩, trivial⟩
  · have hpl : (pre.length + 1) * 8 ≤ 140737488355328 := by
      obtain ⟨r, hr⟩ := hx
      rw [← hr] at hL
      simp at hL; omega
    have e : pre.map V.int ++ [V.int x] = (pre ++ [x]).map V.int := by simp
    dsimp only
    repeat' (with_reducible first | refine OL.st ?_ | refine OL.store ?_ | refine OL.lit ?_ | refine OL.appO ?_ | refine TC.region ?_ | refine OL.nil ?_ | refine TC.block ?_ | refine TX.blkN ?_ | fail)
    exact TX.rq [0, 3] (by repeat' (first | with_unfolding_all exact trivial | exact OE.gsS e | exact OE.ren (by with_unfolding_all exact rfl) | with_unfolding_all refine And.intro ⟨_, by with_unfolding_all exact rfl, ?_⟩ ?_))
  · repeat' (with_reducible first | refine OL.st ?_ | refine TC.region ?_ | refine TC.seq ?_ | refine OL.nil ?_ | refine TX.thenN ?_ | refine TX.blkN ?_ | refine TC.ret ?_ | refine TX.thenW ?_ | fail)
    exact TX.rsM hM hB [1] (.ren rfl)
theorem s_slices_Collect (L : List Int) (hL : L.length * 8 ≤ 140737488355328) : V.Spec Tryz.prog Fc.slices_Collect_int [.pr (SeqMP Tryz.prog oneJ L)] [] (.hs 0) [.gs false Tc.int 1 none (L.map V.int)] := by
  have h := s_slices_AppendSeq L hL
  refine V.Spec.enter Tryz.tabOK Tryz.mixed Fn.slices_Collect_int rfl rfl rfl fun B hB => ?_
  repeat' (with_reducible first | refine OL.st ?_ | refine TC.region ?_ | refine TC.seq ?_ | refine OL.nil ?_ | refine TX.thenN ?_ | fail)
  refine OL.c h Fn.slices_AppendSeq_Lint_int ?_
  repeat' (with_reducible first | refine OL.st ?_ | refine OL.nil ?_ | refine TX.thenN ?_ | refine TC.ret ?_ | fail)
  exact TX.rt1 [0] (.ren rfl)
theorem s_slices_Sorted (L : List Int) (hL : L.length * 8 ≤ 140737488355328) : V.Spec Tryz.prog Fc.slices_Sorted_int [.pr (SeqMP Tryz.prog oneJ L)] [] (.hs 0) [.gs false Tc.int 1 none ((sortI L).map V.int)] := by
  have h := s_slices_Collect L hL
  have h2 := s_slices_Sort L hL
  refine V.Spec.enter Tryz.tabOK Tryz.mixed Fn.slices_Sorted_int rfl rfl rfl fun B hB => ?_
  repeat' (with_reducible first | refine OL.st ?_ | refine TC.region ?_ | refine TC.seq ?_ | refine OL.nil ?_ | refine TX.thenN ?_ | fail)
  refine OL.c h Fn.slices_Collect_int ?_
  repeat' (with_reducible first | refine OL.st ?_ | refine TC.region ?_ | refine TC.seq ?_ | refine OL.nil ?_ | refine TX.thenN ?_ | fail)
  refine OL.ch [0] h2 Fn.slices_Sort_Lint_int ?_
  repeat' (with_reducible first | refine OL.st ?_ | refine TC.region ?_ | refine TC.seq ?_ | refine OL.nil ?_ | refine TX.thenN ?_ | refine TC.ret ?_ | fail)
  exact TX.rt1 [0] (.ren rfl)
theorem clone_own (l : List Int) (hb : l.length * 8 ≤ 140737488355328) : V.Spec Tryz.prog Fc.slices_Clone_Lint_int [ints l] [] (.hs 0) [.gs false Tc.int 1 none (l.map V.int)] := by
  refine V.Spec.enter Tryz.tabOK Tryz.mixed Fn.slices_Clone_Lint_int rfl rfl rfl fun B hB => ?_
  repeat' (with_reducible first | refine OL.st ?_ | refine TC.region ?_ | refine TC.seq ?_ | refine OL.nil ?_ | refine TX.thenN ?_ | fail)
  refine OL.isNil (fun h => ?_) ?_
  · repeat' (with_reducible first | refine OL.st ?_ | refine TC.region ?_ | refine TC.seq ?_ | refine OL.nil ?_ | refine TX.thenN ?_ | refine TC.ifT ?_ | refine TC.ret ?_ | refine TX.thenR ?_ | fail)
    have e : [] = l.map V.int := h.symm
    refine TX.adp 2 Tc.int 1 ?_
    exact TX.rt1 [0] (.ren rfl)
  · repeat' (with_reducible first | refine OL.st ?_ | refine OL.lit0 ?_ | refine OL.app ?_ | refine TC.region ?_ | refine TC.seq ?_ | refine OL.nil ?_ | refine TX.thenN ?_ | refine TC.skip ?_ | refine TC.ifF ?_ | refine TC.ret ?_ | fail)
    exact TX.rt1 [1] (.ren rfl)
theorem s_turn_once (l : List Int) (hl : l.length * 8 ≤ 140737488355328) : V.Spec Tryz.prog Fc.turn_once [ints l] [] (V.bool (decide l.Nodup)) [] := by
  have h1 := s_slices_Values l hl
  have h2 := s_slices_Sorted l hl
  have hsl := sortI_len l
  have h3 := clone_own (sortI l) (by omega)
  have h4 := s_slices_Compact (sortI l) (by omega)
  have h5 := compact_nodup (sortI_sorted l)
  rw [(sortI_perm l).nodup_iff] at h5
  generalize sortI l = s at *
  generalize Lib.compact s = c at *
  refine V.Spec.enter Tryz.tabOK Tryz.mixed Fn.turn_once rfl rfl rfl fun B hB => ?_
  repeat' (with_reducible first | refine OL.st ?_ | refine TC.region ?_ | refine TC.seq ?_ | refine OL.nil ?_ | refine TX.thenN ?_ | fail)
  refine OL.c h1 Fn.slices_Values_Lint_int ?_
  skip
  refine OL.c h2 Fn.slices_Sorted_int ?_
  repeat' (with_reducible first | refine OL.st ?_ | refine TC.region ?_ | refine TC.seq ?_ | refine OL.nil ?_ | refine TX.thenN ?_ | fail)
  refine OL.vw 6 ?_
  refine OL.c h3 Fn.slices_Clone_Lint_int ?_
  skip
  refine OL.ch [1] h4 Fn.slices_Compact_Lint_int ?_
  repeat' (with_reducible first | refine OL.st ?_ | refine OL.nil ?_ | refine TX.thenN ?_ | refine TC.ret ?_ | fail)
  refine TX.rt1 [] (.bool ?_)
  rw [decide_eq_decide, ← h5]
  omega
end Go.Proofs
namespace Go.Proofs
open Go Go.W Go.V
end Go.Proofs
namespace Go.Proofs
open Go Go.W Go.V
end Go.Proofs
namespace Go.Proofs
open Go Go.W Go.V
/-! ### The reference -/
/-! ### The program -/
theorem s_line_Check (g : List (List Int)) : V.Spec Tryz.prog Fc.line_Check [rows g] [] (V.int (if fine g then 0 else 2)) [] := by
  refine V.Spec.enter Tryz.tabOK Tryz.mixed Fn.line_Check rfl rfl rfl fun B hB => ?_
  repeat' (with_reducible first | refine OL.st ?_ | refine TC.region ?_ | refine TC.seq ?_ | refine OL.nil ?_ | refine TX.thenN ?_ | fail)
  refine OL.c (s_line_fine g) Fn.line_fine ?_
  cases hf : fine g
  all_goals repeat' (with_reducible first | refine OL.st ?_ | refine TC.region ?_ | refine TC.seq ?_ | refine OL.nil ?_ | refine TX.thenN ?_ | refine TC.skip ?_ | refine TC.ifT ?_ | refine TC.ifF ?_ | refine TC.ret ?_ | refine TX.thenR ?_ | fail)
  all_goals exact TX.rt1 [] (.ren rfl)
end Go.Proofs
namespace Go.Proofs
open Go Go.W Go.V
/-! ### Where a number stands -/
/-! ### The search for rings -/
def nextB (rel : Int → Int → Bool) (b : List Int) (c : Int) : Bool := b.length == 0 || (!b.contains c && rel (lastI b) c)
def Chain (rel : Int → Int → Bool) (l : List Int) : Prop := l.Nodup ∧ ∀ (i : Nat) (h : i + 1 < l.length), rel l[i] l[i + 1] = true
theorem Chain.nil (rel) : Chain rel [] := ⟨List.nodup_nil, fun i h => by simp at h⟩
theorem lastI_get {b : List Int} (h : 0 < b.length) : lastI b = b[b.length - 1] := by rw [lastI, getD_lt (by omega)]
theorem Chain.snoc {rel} {b : List Int} {c : Int} (h : Chain rel b) (hn : nextB rel b c = true) : Chain rel (b ++ [c]) := by
  simp only [nextB, Bool.or_eq_true, beq_iff_eq, Bool.and_eq_true, Bool.not_eq_true', List.length_eq_zero_iff] at hn
  rcases hn with rfl | ⟨h1, h2⟩
  · exact ⟨by simp, fun i h => by simp at h⟩
  · have hc : c ∉ b := by
      intro hm; rw [← List.contains_iff_mem] at hm; rw [hm] at h1; cases h1
    refine ⟨List.nodup_append.2 ⟨h.1, by simp, fun a ha b' hb' e => ?_⟩, fun i hi => ?_⟩
    · simp at hb'; subst e hb'; exact hc ha
    · simp at hi
      by_cases e : i + 1 < b.length
      · rw [List.getElem_append_left (by omega), List.getElem_append_left e]; exact h.2 i e
      · have e1 : i = b.length - 1 := by omega
        rw [List.getElem_append_left (by omega), List.getElem_append_right (by omega)]
        rw [lastI_get (by omega)] at h2
        simpa [e1] using h2
end Go.Proofs
namespace Go.Proofs
open Go Go.W Go.V
/-! ### One class ahead of another one -/
/-! ### Merges -/
theorem without_not {l : List Int} {n : Int} (h : n ∉ l) : without l n = l := by
  rw [without, List.filter_eq_self]
  intro x hx; rw [bne_iff_ne]; intro e; subst e; exact h hx
theorem anyNE_false {all : List (List Int)} : anyNE all = false ↔ ∀ m ∈ all, m = [] := by
  rw [anyNE, List.any_eq_false]
  constructor
  · intro h m hm; have := h m hm; simpa using this
  · intro h m hm; rw [h m hm]; simp
theorem free_cons {all : List (List Int)} {h : Int} (hf : free all h = true) {m : List Int} (hm : m ∈ all) (hh : h ∈ m) : ∃ t, m = h :: t ∧ h ∉ t := by
  rw [free, List.all_eq_true] at hf
  have := hf m hm
  match m, hh with
  | x :: t, hh =>
    have h1 : h ∉ t := by simpa using this
    have : h = x := by rcases List.mem_cons.1 hh with e | e; exact e; exact absurd e h1
    subst this
    exact ⟨t, rfl, h1⟩
theorem mergeF_sub : ∀ (n : Nat) (all : List (List Int)) (out : List Int), total all ≤ n → (mergeF n all out).2 = true → ∃ e, (mergeF n all out).1 = out ++ e ∧ e.Nodup ∧ (∀ m ∈ all, m.Sublist e) ∧ ∀ x ∈ e, ∃ m ∈ all, x ∈ m
  | 0, all, out, hn, h => by
    rw [mergeF] at h ⊢
    have h0 : anyNE all = false := by simpa using h
    exact ⟨[], by simp, by simp, fun m hm => by rw [anyNE_false.1 h0 m hm]; exact List.Sublist.refl _, by simp⟩
  | n + 1, all, out, hn, h => by
    rw [mergeF] at h ⊢
    cases hx : nextOf all all with
    | none =>
      rw [hx] at h
      have h0 : anyNE all = false := by simpa using h
      exact ⟨[], by simp, by simp, fun m hm => by rw [anyNE_false.1 h0 m hm]; exact List.Sublist.refl _, by simp⟩
    | some x =>
      rw [hx] at h
      obtain ⟨t, ht, hf⟩ := nextOf_mem all all x hx
      have hlt := total_without_lt all x t ht
      dsimp only at h ⊢
      obtain ⟨e, e1, e2, e3, e4⟩ := mergeF_sub n _ _ (by omega) h
      have hxe : x ∉ e := fun hx => by
        obtain ⟨m, hm, hxm⟩ := e4 x hx
        obtain ⟨l, _, rfl⟩ := List.mem_map.1 hm
        exact (mem_without.1 hxm).2 rfl
      refine ⟨x :: e, by rw [e1]; simp, List.nodup_cons.2 ⟨hxe, e2⟩, fun m hm => ?_, fun y hy => ?_⟩
      · have hs := e3 _ (List.mem_map_of_mem (f := (without · x)) hm)
        by_cases hxm : x ∈ m
        · obtain ⟨r, rfl, hr⟩ := free_cons hf hm hxm
          have : without (x :: r) x = r := by
            rw [show without (x :: r) x = without r x by simp [without]]; exact without_not hr
          rw [this] at hs
          exact hs.cons_cons _
        · rw [without_not hxm] at hs
          exact hs.cons _
      · rcases List.mem_cons.1 hy with rfl | hy
        · exact ⟨_, ht, by simp⟩
        · obtain ⟨m, hm, hxm⟩ := e4 y hy
          obtain ⟨l, hl, rfl⟩ := List.mem_map.1 hm
          exact ⟨l, hl, (mem_without.1 hxm).1⟩
theorem merge_keeps {all : List (List Int)} (h : (merge all).2 = true) : (merge all).1.Nodup ∧ (∀ m ∈ all, m.Sublist (merge all).1) ∧ ∀ x, x ∈ (merge all).1 ↔ ∃ m ∈ all, x ∈ m := by
  obtain ⟨e, e1, e2, e3, e4⟩ := mergeF_sub (total all) all [] (Nat.le_refl _) h
  rw [List.nil_append] at e1
  rw [merge, e1]
  exact ⟨e2, e3, fun x => ⟨e4 x, fun ⟨m, hm, hx⟩ => (e3 m hm).subset hx⟩⟩
theorem Chain.cons {rel} {b : List Int} {c : Int} (h : Chain rel b) (hc : c ∉ b) (h0 : 0 < b.length) (hr : rel c (b[0]'h0) = true) : Chain rel (c :: b) := by
  refine ⟨List.nodup_cons.2 ⟨hc, h.1⟩, fun i hi => ?_⟩
  cases i with
  | zero => exact hr
  | succ i => exact h.2 i (by simpa using hi)
theorem Chain.take {rel} {b : List Int} (h : Chain rel b) (k : Nat) : Chain rel (b.take k) := by
  refine ⟨(List.take_sublist k b).nodup h.1, fun i hi => ?_⟩
  simp only [List.getElem_take]
  exact h.2 i (by simp at hi; omega)
/-! ### Linear orders -/
theorem ordersF_app : ∀ (a b acc : List (List Int)), ordersF acc (a ++ b) = ordersF (ordersF acc a) b
  | [], b, acc => rfl
  | p :: a, b, acc => by rw [List.cons_append, ordersF_cons, ordersF_cons, ordersF_app a b]
theorem ordersF_pre : ∀ (r acc : List (List Int)), ∃ t, ordersF acc r = acc ++ t ∧ t.length = r.length
  | [], acc => ⟨[], by simp [ordersF], rfl⟩
  | p :: r, acc => by
    obtain ⟨t, h1, h2⟩ := ordersF_pre r (acc ++ [orderOf acc p acc.length])
    exact ⟨orderOf acc p acc.length :: t, by rw [ordersF_cons, h1]; simp, by simp [h2]⟩
theorem at_app {acc t : List (List Int)} {p : Int} (h : p.toNat < acc.length) : at_ (acc ++ t) p = at_ acc p := by
  rw [at_, at_, List.getD_eq_getElem?_getD, List.getD_eq_getElem?_getD, List.getElem?_append_left h]
theorem listsOf_congr {a b : List (List Int)} {ps : List Int} (h : ∀ p ∈ ps, at_ a p = at_ b p) : listsOf a ps = listsOf b ps := by
  have h1 : (ps.all fun p => !(at_ a p).isEmpty) = ps.all fun p => !(at_ b p).isEmpty := by
    rw [Bool.eq_iff_iff, List.all_eq_true, List.all_eq_true]
    exact ⟨fun q p hp => by rw [← h p hp]; exact q p hp, fun q p hp => by rw [h p hp]; exact q p hp⟩
  have h2 : ps.map (fun p => bare (at_ a p)) = ps.map fun p => bare (at_ b p) := List.map_congr_left fun p hp => by rw [h p hp]
  rw [listsOf, listsOf, h1, h2]
theorem at_orders {g : List (List Int)} (hf : fine g = true) {c : Nat} (h1 : 1 ≤ c) (hc : c < 3 + g.length) : at_ (orders g) c = orderOf (orders g) (pOf g c) c := by
  have hd := parentsOf_drop hc
  have hpl := parentsOf_length g
  have hsp : (parentsOf g).drop 1 = ((parentsOf g).drop 1).take (c - 1) ++ (pOf g c :: (parentsOf g).drop (c + 1)) := by
    rw [← hd]
    have := (List.take_append_drop (c - 1) ((parentsOf g).drop 1)).symm
    rw [List.drop_drop, show 1 + (c - 1) = c by omega] at this
    exact this
  obtain ⟨t, e, hlen⟩ := ordersF_pre (((parentsOf g).drop 1).take (c - 1)) [[0]]
  have hl : (ordersF [[0]] (((parentsOf g).drop 1).take (c - 1))).length = c := by
    rw [e]; simp [hlen]; omega
  generalize hA : ordersF [[0]] (((parentsOf g).drop 1).take (c - 1)) = A at *
  have ho : orders g = ordersF (A ++ [orderOf A (pOf g c) c]) ((parentsOf g).drop (c + 1)) := by
    rw [orders_start, hsp, ordersF_app]
    rw [hA, ordersF_cons, hl]
  obtain ⟨u, e2, _⟩ := ordersF_pre ((parentsOf g).drop (c + 1)) (A ++ [orderOf A (pOf g c) c])
  rw [e2] at ho
  have hp := (fine_pOf hf (c := (c : Int)) (by omega)).2.1
  have hcg : listsOf A (pOf g c) = listsOf (orders g) (pOf g c) := listsOf_congr fun p hpm => by
    have := hp p hpm
    rw [ho, List.append_assoc, at_app (by omega)]
  have hoo : orderOf (orders g) (pOf g c) c = orderOf A (pOf g c) c := by rw [orderOf, orderOf, hcg]
  rw [hoo, ho, at_app (by simp; omega), at_, Int.toNat_natCast, List.getD_eq_getElem?_getD, ← hl]
  simp
end Go.Proofs
namespace Go.Proofs
open Go Go.W Go.V
theorem at_zero (g : List (List Int)) : at_ (orders g) 0 = [0] := by
  obtain ⟨t, e, _⟩ := ordersF_pre ((parentsOf g).drop 1) [[0]]
  rw [orders_start, e]; rfl
theorem ord_cons {g : List (List Int)} (hf : fine g = true) {c : Nat} (h1 : 1 ≤ c) (hc : c < 3 + g.length) (hne : at_ (orders g) c ≠ []) : ∃ all, listsOf (orders g) (pOf g c) = some all ∧ (merge all).2 = true ∧ at_ (orders g) c = (c : Int) :: ((merge all).1 ++ [0]) := by
  rw [at_orders hf h1 hc, orderOf] at hne
  rw [at_orders hf h1 hc, orderOf]
  cases hl : listsOf (orders g) (pOf g c) with
  | none => rw [hl] at hne; exact absurd rfl hne
  | some all =>
    rw [hl] at hne
    dsimp only at hne ⊢
    cases hm : (merge all).2 with
    | false => rw [hm] at hne; simp at hne
    | true => exact ⟨all, rfl, hm, by simp⟩
theorem listsOf_has {ords : List (List Int)} {ps : List Int} {all : List (List Int)} (h : listsOf ords ps = some all) : ∀ p ∈ ps, at_ ords p ≠ [] := by
  rw [listsOf] at h
  split at h
  · rename_i h1
    intro p hp
    have := List.all_eq_true.1 h1 p hp
    simpa using this
  · cases h
theorem ord_bare {g : List (List Int)} (hf : fine g = true) {c : Nat} (h1 : 1 ≤ c) (hc : c < 3 + g.length) (hne : at_ (orders g) c ≠ []) : at_ (orders g) c = bare (at_ (orders g) c) ++ [0] := by
  obtain ⟨all, _, _, e⟩ := ord_cons hf h1 hc hne
  have hn := ((orders_ok hf).1.at c).1
  rw [e] at hn ⊢
  rw [← List.cons_append] at hn ⊢
  have h0 : (0 : Int) ∉ (c : Int) :: (merge all).1 := fun h => by
    rw [List.nodup_append] at hn
    exact hn.2.2 0 h 0 (by simp) rfl
  rw [bare, show without ((c : Int) :: (merge all).1 ++ [0]) 0 = (c : Int) :: (merge all).1 by
    have := without_not h0
    rw [without] at this ⊢
    rw [List.filter_append, this]; simp]
theorem ord_main {g : List (List Int)} (hf : fine g = true) : ∀ (n c : Nat), c < n → c < 3 + g.length → at_ (orders g) c ≠ [] →
    (∀ x : Int, x ∈ at_ (orders g) c ↔ (0 ≤ x ∧ x < 3 + (g.length : Int)) ∧ upHas g c x = true) ∧
    (∀ a : Int, (0 ≤ a ∧ a < 3 + (g.length : Int)) → upHas g c a = true → at_ (orders g) a ≠ [] ∧ (at_ (orders g) a).Sublist (at_ (orders g) c)) ∧ (pOf g c).Sublist (at_ (orders g) c) := by
  have h16 := fine_len hf
  intro n
  induction n with
  | zero => intro c h; omega
  | succ n ih =>
    intro c hcn hc hne
    by_cases h0 : c = 0
    · subst h0
      have hz := at_zero g
      have hle : ∀ x : Int, (0 ≤ x ∧ x < 3 + (g.length : Int)) → upHas g (0 : Nat) x = true → x = 0 := fun x hx h => by
        have := upHas_le hf hc (b := x) (by omega) (by omega) h; omega
      refine ⟨fun x => ?_, fun a ha h => ?_, ?_⟩
      · rw [show ((0 : Nat) : Int) = 0 from rfl, hz, List.mem_singleton]
        constructor
        · rintro rfl; exact ⟨by omega, upHas_zero hf (a := 0) (by omega)⟩
        · rintro ⟨h1, h2⟩; exact hle x h1 h2
      · rw [hle a ha h]
        rw [show ((0 : Nat) : Int) = 0 from rfl] at hne ⊢
        exact ⟨hne, List.Sublist.refl _⟩
      · rw [pOf_lt (by omega)]; exact List.nil_sublist _
    · have h1 : 1 ≤ c := by omega
      obtain ⟨all, hl, hm, e⟩ := ord_cons hf h1 hc hne
      have hps := fine_pOf hf (c := (c : Int)) (by omega)
      obtain ⟨k1, k2, k3⟩ := merge_keeps hm
      have hall := listsOf_some hl
      have hhas := listsOf_has hl
      have hpar : ∀ p ∈ pOf g c, (∀ x : Int, x ∈ at_ (orders g) p ↔ (0 ≤ x ∧ x < 3 + (g.length : Int)) ∧ upHas g p x = true) ∧
          (∀ a : Int, (0 ≤ a ∧ a < 3 + (g.length : Int)) → upHas g p a = true → at_ (orders g) a ≠ [] ∧ (at_ (orders g) a).Sublist (at_ (orders g) p)) ∧ at_ (orders g) p = bare (at_ (orders g) p) ++ [0] := fun p hp => by
        have hb := hps.2.1 p hp
        obtain ⟨q, rfl⟩ : ∃ q : Nat, p = (q : Int) := ⟨p.toNat, by omega⟩
        obtain ⟨a1, a2, _⟩ := ih q (by omega) (by omega) (hhas _ hp)
        exact ⟨a1, a2, ord_bare hf (by omega) (by omega) (hhas _ hp)⟩
      have hsubp : ∀ p ∈ pOf g c, (at_ (orders g) p).Sublist (at_ (orders g) c) := fun p hp => by
        have := k2 (bare (at_ (orders g) p)) (by rw [hall]; exact List.mem_append_left _ (List.mem_map_of_mem (f := fun p => bare (at_ (orders g) p)) hp))
        rw [(hpar p hp).2.2, e]
        exact (this.append_right [0]).cons _
      refine ⟨fun x => ?_, fun a ha h => ?_, ?_⟩
      · rw [e, List.mem_cons, List.mem_append, List.mem_singleton, k3]
        constructor
        · intro h
          have hx : x = (c : Int) ∨ x = 0 ∨ ∃ p ∈ pOf g c, (0 ≤ x ∧ x < 3 + (g.length : Int)) ∧ upHas g p x = true := by
            rcases h with h | ⟨m, hm, hx⟩ | h
            · exact .inl h
            · right; right
              rw [hall, List.mem_append, List.mem_map, List.mem_singleton] at hm
              rcases hm with ⟨p, hp, rfl⟩ | rfl
              · exact ⟨p, hp, ((hpar p hp).1 x).1 (mem_without.1 hx).1⟩
              · have := hps.2.1 x hx
                obtain ⟨q, rfl⟩ : ∃ q : Nat, x = (q : Int) := ⟨x.toNat, by omega⟩
                exact ⟨_, hx, by omega, upHas_self hf (by omega)⟩
            · exact .inr (.inl h)
          have hxr : 0 ≤ x ∧ x < 3 + (g.length : Int) := by
            rcases hx with h | h | ⟨_, _, h, _⟩ <;> omega
          refine ⟨hxr, ?_⟩
          rw [upHas_step hf hc (by omega) (by omega)]
          simp only [Bool.or_eq_true, decide_eq_true_eq, List.any_eq_true]
          rcases hx with h | h | ⟨p, hp, _, h⟩
          · exact .inl (.inl h)
          · exact .inl (.inr h)
          · exact .inr ⟨p, hp, h⟩
        · rintro ⟨hxr, h⟩
          rw [upHas_step hf hc (by omega) (by omega)] at h
          simp only [Bool.or_eq_true, decide_eq_true_eq, List.any_eq_true] at h
          rcases h with (h | h) | ⟨p, hp, h⟩
          · exact .inl h
          · exact .inr (.inr h)
          · by_cases hx0 : x = 0
            · exact .inr (.inr hx0)
            · exact .inr (.inl ⟨bare (at_ (orders g) p), by rw [hall]; exact List.mem_append_left _ (List.mem_map_of_mem (f := fun p => bare (at_ (orders g) p)) hp), mem_without.2 ⟨((hpar p hp).1 x).2 ⟨hxr, h⟩, hx0⟩⟩)
      · rw [upHas_step hf hc (by omega) (by omega)] at h
        simp only [Bool.or_eq_true, decide_eq_true_eq, List.any_eq_true] at h
        rcases h with (h | h) | ⟨p, hp, h⟩
        · subst h; exact ⟨hne, List.Sublist.refl _⟩
        · subst h
          rw [at_zero, e]
          exact ⟨by simp, ((List.sublist_append_right _ _).cons _)⟩
        · obtain ⟨h2, h3⟩ := (hpar p hp).2.1 a ha h
          exact ⟨h2, h3.trans (hsubp p hp)⟩
      · rw [e]
        have := k2 (pOf g c) (by rw [hall]; simp)
        exact ((this.trans (List.sublist_append_left _ _)).cons _)
/-! ### Within -/
end Go.Proofs
namespace Go.Proofs
open Go Go.W Go.V
def ordsOf (l : List Cls) : List (List Int) := (List.range l.length).map fun k => bare (at_ (orders (graphOf l)) ((3 + k : Nat) : Int))
def slsOf (l : List Cls) : List (List Int) := (List.range l.length).map fun k => slotsOf l (3 + k)
abbrev schE (l : List Cls) : AV := .ep [clssA l, rows (ordsOf l), rows (slsOf l)] 0
theorem ordsOf_length (l : List Cls) : (ordsOf l).length = l.length := by simp [ordsOf]
theorem slsOf_length (l : List Cls) : (slsOf l).length = l.length := by simp [slsOf]
theorem ordsOf_get {l : List Cls} {k : Nat} (h : k < (ordsOf l).length) : (ordsOf l)[k] = bare (at_ (orders (graphOf l)) ((3 + k : Nat) : Int)) := by simp [ordsOf]
theorem slsOf_get {l : List Cls} {k : Nat} (h : k < (slsOf l).length) : (slsOf l)[k] = slotsOf l (3 + k) := by simp [slsOf]
theorem s_turn_class (l : List Cls) (c : Int) (hl : l.length ≤ 1000000000) : V.Spec Tryz.prog Fc.turn_schema_class [schE l, V.int c] [] (V.bool (ownB l.length c)) [] := by
  rw [ownB]
  refine V.Spec.enter Tryz.tabOK Tryz.mixed Fn.turn_schema_class rfl rfl rfl fun B hB => ?_
  repeat' (with_reducible first | refine OL.st ?_ | refine TC.region ?_ | refine TC.seq ?_ | refine OL.nil ?_ | refine TX.thenN ?_ | refine OL.gOn ?_ | refine OL.gOff ?_ | refine OL.gD ?_ ?_ <;> (intro hc; try (exfalso; omega)) | refine TC.ret ?_ | fail)
  all_goals refine TX.rt1 [] (.bool ?_)
  · have : 3 ≤ c := by omega
    simp [this]
  · have : ¬ 3 ≤ c := by omega
    simp [this]
theorem s_turn_has (l : List Cls) (hb : l.length ≤ 1000000000) {c : Nat} (h3 : 3 ≤ c) (hc : c < 3 + l.length) : V.Spec Tryz.prog Fc.turn_schema_has [schE l, V.int c] [] (ints (slotsOf l c)) [] := by
  have hl := slsOf_length l
  have e : (slsOf l)[((c : Int) - 3).toNat]'(by omega) = slotsOf l c := by rw [slsOf_get]; congr 1; omega
  refine V.Spec.enter Tryz.tabOK Tryz.mixed Fn.turn_schema_has rfl rfl rfl fun B hB => ?_
  repeat' (with_reducible first | refine OL.st ?_ | refine TC.region ?_ | refine TC.seq ?_ | refine OL.nil ?_ | refine TX.thenN ?_ | refine TC.ret ?_ | fail)
  rw [e]
  exact TX.rt1 [] (.ren rfl)
theorem bare_three {l : List Cls} (hf : fine (graphOf l) = true) {c : Nat} (h3 : 3 ≤ c) (hc : c < 3 + l.length) : ∀ x ∈ bare (at_ (orders (graphOf l)) c), 3 ≤ x ∧ x < 3 + (l.length : Int) := by
  intro x hx
  have hgl : (graphOf l).length = l.length := by simp [graphOf]
  have h16 := fine_len hf
  by_cases hne : at_ (orders (graphOf l)) c = []
  · rw [hne] at hx; simp [bare, without] at hx
  · obtain ⟨m1, _, _⟩ := ord_main hf (c + 1) c (by omega) (by omega) hne
    rw [bare, mem_without] at hx
    obtain ⟨h1, h2⟩ := (m1 x).1 hx.1
    have := upHas_le hf (a := c) (by omega) (b := x) (by omega) (by omega) h2
    omega
theorem beginO_bare {l : List Cls} (o : List Int) (s : Int) : beginO l (bare o) s = beginO l o s := by
  induction o with
  | nil => rfl
  | cons x r ih =>
    rw [beginO_cons]
    by_cases h : x = 0
    · subst h
      have : initOf l s 0 = none := by rw [initOf, if_pos (by decide)]
      rw [this, ← ih]
      simp [bare, without]
    · have : bare (x :: r) = x :: bare r := by simp [bare, without, h]
      rw [this, beginO_cons, ih]
theorem s_begin_1 (i : Int × Int) (s : Int) : V.Spec Tryz.prog Fc.turn_schema_begin_1 [initA i, .ep [V.int s] 0] [] (V.bool (i.1 == s)) [] := by
  refine V.Spec.enter Tryz.tabOK Tryz.mixed Fn.turn_schema_begin_1 rfl rfl rfl fun B hB => ?_
  repeat' (with_reducible first | refine OL.st ?_ | refine OL.box ?_ | refine TC.region ?_ | refine TC.seq ?_ | refine OL.nil ?_ | refine TX.thenN ?_ | refine TC.ret ?_ | fail)
  all_goals refine TX.rt1 [] (.bool ?_)
  all_goals rw [Bool.eq_iff_iff, decide_eq_true_eq, beq_iff_eq]
theorem s_slices_IndexFunc_Lapi_BindInit_api_BindInit (l : List (Int × Int)) (p : Int × Int → Bool) : V.Spec Tryz.prog Fc.slices_IndexFunc_Lapi_BindInit_api_BindInit [.sl 2 none (l.map initA), predE Tryz.prog initA (· ∈ l) p] [] (V.int (fidx p 0 l)) [] := by
  refine V.Spec.enter Tryz.tabOK Tryz.mixed Fn.slices_IndexFunc_Lapi_BindInit_api_BindInit rfl rfl rfl fun B hB => ?_
  refine TC.bl 0 fun hl => ?_
  repeat' (with_reducible first | refine OL.st ?_ | refine TC.region ?_ | refine TC.seq ?_ | refine OL.nil ?_ | refine TX.thenN ?_ | refine TC.block ?_ | fail)
  refine TC.lp (fun k : Nat => [(0, .sl 2 none (l.map initA)), (1, predE Tryz.prog initA (· ∈ l) p), (7, V.int l.length), (8, V.int k)]) (fun _ => []) (fun k => k ≤ l.length ∧ fidx p 0 l = fidx p k (l.drop k)) (fun k => l.length - k) 0 [] ⟨Nat.zero_le _, rfl⟩ ?_
  rintro k ⟨hk, hinv⟩
  repeat' (with_reducible first | refine OL.st ?_ | refine TC.region ?_ | refine TC.seq ?_ | refine OL.nil ?_ | refine TX.thenN ?_ | refine TC.block ?_ | refine TC.skip ?_ | refine TC.exit ?_ | refine TX.hit ?_ | refine TX.thenX ?_ | refine TC.ifD ?_ ?_ <;> (intro hc; try (exfalso; omega)) | refine TC.ret ?_ | fail)
  · refine OL.cf l[k] (List.getElem_mem _) ?_
    repeat' (first | (with_reducible refine OL.nil ?_) | (with_reducible refine TX.thenN ?_) | fail)
    refine TC.ifB (fun hp => ?_) (fun hp => ?_)
    · repeat' (with_reducible first | refine OL.st ?_ | refine TC.region ?_ | refine TC.seq ?_ | refine OL.nil ?_ | refine TX.thenN ?_ | refine TC.ret ?_ | refine TX.thenR ?_ | refine TX.blkR ?_ | fail)
      refine TX.rt1 [] (.int ?_)
      rw [hinv, drop_cons (by omega)]
      simp [fidx, hp]
    · repeat' (with_reducible first | refine OL.st ?_ | refine TC.region ?_ | refine OL.nil ?_ | refine TX.thenN ?_ | refine TC.skip ?_ | refine TX.blkN ?_ | fail)
      refine TX.rd (k + 1) [] ⟨by omega, ?_⟩ (by omega)
      rw [hinv, drop_cons (by omega)]
      simp [fidx, hp]
  · refine TX.rt1 [] (.int ?_)
    rw [hinv, drop_nil (by omega)]
    rfl
theorem s_slices_ContainsFunc_Lapi_BindInit_api_BindInit (l : List (Int × Int)) (p : Int × Int → Bool) : V.Spec Tryz.prog Fc.slices_ContainsFunc_Lapi_BindInit_api_BindInit [.sl 2 none (l.map initA), predE Tryz.prog initA (· ∈ l) p] [] (V.bool (l.any p)) [] := by
  refine V.Spec.enter Tryz.tabOK Tryz.mixed Fn.slices_ContainsFunc_Lapi_BindInit_api_BindInit rfl rfl rfl fun B hB => ?_
  repeat' (with_reducible first | refine OL.st ?_ | refine TC.region ?_ | refine TC.seq ?_ | refine OL.nil ?_ | refine TX.thenN ?_ | fail)
  refine OL.c (s_slices_IndexFunc_Lapi_BindInit_api_BindInit l p) Fn.slices_IndexFunc_Lapi_BindInit_api_BindInit ?_
  repeat' (with_reducible first | refine OL.st ?_ | refine OL.nil ?_ | refine TX.thenN ?_ | refine TC.ret ?_ | fail)
  refine TX.rt1 [] (.bool ?_)
  cases h : l.any p
  · rw [decide_eq_false]; intro h'; rw [(fidx_nonneg _ _ _).1 h'] at h; cases h
  · exact decide_eq_true ((fidx_nonneg _ _ _).2 h)
theorem s_slices_IndexFunc_Lapi_MeanVal_api_MeanVal (l : List (Int × Int)) (p : Int × Int → Bool) : V.Spec Tryz.prog Fc.slices_IndexFunc_Lapi_MeanVal_api_MeanVal [.sl 2 none (l.map valA), predE Tryz.prog valA (· ∈ l) p] [] (V.int (fidx p 0 l)) [] := by
  refine V.Spec.enter Tryz.tabOK Tryz.mixed Fn.slices_IndexFunc_Lapi_MeanVal_api_MeanVal rfl rfl rfl fun B hB => ?_
  refine TC.bl 0 fun hl => ?_
  repeat' (with_reducible first | refine OL.st ?_ | refine TC.region ?_ | refine TC.seq ?_ | refine OL.nil ?_ | refine TX.thenN ?_ | refine TC.block ?_ | fail)
  refine TC.lp (fun k : Nat => [(0, .sl 2 none (l.map valA)), (1, predE Tryz.prog valA (· ∈ l) p), (7, V.int l.length), (8, V.int k)]) (fun _ => []) (fun k => k ≤ l.length ∧ fidx p 0 l = fidx p k (l.drop k)) (fun k => l.length - k) 0 [] ⟨Nat.zero_le _, rfl⟩ ?_
  rintro k ⟨hk, hinv⟩
  repeat' (with_reducible first | refine OL.st ?_ | refine TC.region ?_ | refine TC.seq ?_ | refine OL.nil ?_ | refine TX.thenN ?_ | refine TC.block ?_ | refine TC.skip ?_ | refine TC.exit ?_ | refine TX.hit ?_ | refine TX.thenX ?_ | refine TC.ifD ?_ ?_ <;> (intro hc; try (exfalso; omega)) | refine TC.ret ?_ | fail)
  · refine OL.cf l[k] (List.getElem_mem _) ?_
    repeat' (first | (with_reducible refine OL.nil ?_) | (with_reducible refine TX.thenN ?_) | fail)
    refine TC.ifB (fun hp => ?_) (fun hp => ?_)
    · repeat' (with_reducible first | refine OL.st ?_ | refine TC.region ?_ | refine TC.seq ?_ | refine OL.nil ?_ | refine TX.thenN ?_ | refine TC.ret ?_ | refine TX.thenR ?_ | refine TX.blkR ?_ | fail)
      refine TX.rt1 [] (.int ?_)
      rw [hinv, drop_cons (by omega)]
      simp [fidx, hp]
    · repeat' (with_reducible first | refine OL.st ?_ | refine TC.region ?_ | refine OL.nil ?_ | refine TX.thenN ?_ | refine TC.skip ?_ | refine TX.blkN ?_ | fail)
      refine TX.rd (k + 1) [] ⟨by omega, ?_⟩ (by omega)
      rw [hinv, drop_cons (by omega)]
      simp [fidx, hp]
  · refine TX.rt1 [] (.int ?_)
    rw [hinv, drop_nil (by omega)]
    rfl
theorem s_slices_ContainsFunc_Lapi_MeanVal_api_MeanVal (l : List (Int × Int)) (p : Int × Int → Bool) : V.Spec Tryz.prog Fc.slices_ContainsFunc_Lapi_MeanVal_api_MeanVal [.sl 2 none (l.map valA), predE Tryz.prog valA (· ∈ l) p] [] (V.bool (l.any p)) [] := by
  refine V.Spec.enter Tryz.tabOK Tryz.mixed Fn.slices_ContainsFunc_Lapi_MeanVal_api_MeanVal rfl rfl rfl fun B hB => ?_
  repeat' (with_reducible first | refine OL.st ?_ | refine TC.region ?_ | refine TC.seq ?_ | refine OL.nil ?_ | refine TX.thenN ?_ | fail)
  refine OL.c (s_slices_IndexFunc_Lapi_MeanVal_api_MeanVal l p) Fn.slices_IndexFunc_Lapi_MeanVal_api_MeanVal ?_
  repeat' (with_reducible first | refine OL.st ?_ | refine OL.nil ?_ | refine TX.thenN ?_ | refine TC.ret ?_ | fail)
  refine TX.rt1 [] (.bool ?_)
  cases h : l.any p
  · rw [decide_eq_false]; intro h'; rw [(fidx_nonneg _ _ _).1 h'] at h; cases h
  · exact decide_eq_true ((fidx_nonneg _ _ _).2 h)
theorem fidx_find (l : List (Int × Int)) (s : Int) : (fidx (fun p : Int × Int => p.1 == s) 0 l < 0 ∧ l.find? (fun p => p.1 == s) = none) ∨ ∃ i : Nat, i < l.length ∧ fidx (fun p : Int × Int => p.1 == s) 0 l = i ∧ l.find? (fun p => p.1 == s) = some (l.getD i (0, 0)) := by
  have key : ∀ (l : List (Int × Int)) (k : Nat), (fidx (fun p : Int × Int => p.1 == s) k l = -1 ∧ l.find? (fun p => p.1 == s) = none) ∨ ∃ i : Nat, i < l.length ∧ fidx (fun p : Int × Int => p.1 == s) k l = (k : Int) + i ∧ l.find? (fun p => p.1 == s) = some (l.getD i (0, 0)) := by
    intro l
    induction l with
    | nil => intro k; exact .inl ⟨rfl, rfl⟩
    | cons x r ih =>
      intro k
      rw [fidx, List.find?_cons]
      cases hp : x.1 == s with
      | true => exact .inr ⟨0, by simp, by simp, by simp⟩
      | false =>
        rcases ih (k + 1) with ⟨h1, h2⟩ | ⟨i, h1, h2, h3⟩
        · exact .inl ⟨by simpa using h1, by simpa using h2⟩
        · refine .inr ⟨i + 1, by simpa using h1, by simp only [Bool.false_eq_true, if_false]; rw [h2]; push_cast; omega, by simpa using h3⟩
  rcases key l 0 with ⟨h1, h2⟩ | ⟨i, h1, h2, h3⟩
  · exact .inl ⟨by omega, h2⟩
  · exact .inr ⟨i, h1, by omega, h3⟩
theorem s_turn_begin {l : List Cls} (hf : fine (graphOf l) = true) {c : Nat} (h3 : 3 ≤ c) (hc : c < 3 + l.length) (s : Int) : V.Spec Tryz.prog Fc.turn_schema_begin [schE l, V.int c, V.int s] [] (valA (beginV l c s)) [] := by
  have h16 := fine_len hf
  rw [show (graphOf l).length = l.length by simp [graphOf]] at h16
  have hl := ordsOf_length l
  have e : (ordsOf l)[((c : Int) - 3).toNat]'(by omega) = bare (at_ (orders (graphOf l)) c) := by rw [ordsOf_get]; congr 3; omega
  have hb3 := bare_three hf h3 hc
  have hbv : beginV l c s = optV (beginO l (bare (at_ (orders (graphOf l)) c)) s) := by rw [beginO_bare]; rfl
  rw [hbv]
  generalize bare (at_ (orders (graphOf l)) c) = o at *
  refine V.Spec.enter Tryz.tabOK Tryz.mixed Fn.turn_schema_begin rfl rfl rfl fun B hB => ?_
  repeat' (with_reducible first | refine OL.st ?_ | refine OL.box ?_ | refine OL.alloc ?_ | refine TC.region ?_ | refine TC.seq ?_ | refine OL.nil ?_ | refine TX.thenN ?_ | refine TC.block ?_ | fail)
  rw [e]
  refine TC.bl 18 fun hol => ?_
  refine TC.frzA 0 ?_
  refine TC.lp (fun k : Nat => [(0, schE l), (5, .ep [V.int s] 0), (6, .bp 0 0), (18, ints o), (19, V.int o.length), (20, V.int k)]) (fun _ => [.cb Tc.api_MeanVal [.raw (.int .i64 0), .raw (.int .i64 0)]]) (fun k => k ≤ o.length ∧ beginO l o s = beginO l (o.drop k) s) (fun k => o.length - k) 0 [1] ⟨Nat.zero_le _, rfl⟩ ?_
  rintro k ⟨hk, hinv⟩
  by_cases hkl : k < o.length
  · have hb := hb3 o[k] (List.getElem_mem _)
    have hci : clsAt l (o[k] - 3).toNat = l[(o[k] - 3).toNat]'(by omega) := by rw [clsAt, getD_lt]
    rw [drop_cons hkl, beginO_cons, initOf, if_neg (by omega), hci] at hinv
    have hif := s_slices_IndexFunc_Lapi_BindInit_api_BindInit (l[(o[k] - 3).toNat]'(by omega)).2.2 (fun p => p.1 == s)
    have hff := fidx_find (l[(o[k] - 3).toNat]'(by omega)).2.2 s
    generalize hie : (l[(o[k] - 3).toNat]'(by omega)).2.2 = is at *
    rcases hff with ⟨f1, f2⟩ | ⟨i, f1, f2, f3⟩
    · rw [f2] at hinv
      generalize fidx (fun p : Int × Int => p.1 == s) 0 is = fi at *
      repeat' (with_reducible first | refine OL.st ?_ | refine TC.region ?_ | refine TC.seq ?_ | refine OL.nil ?_ | refine TX.thenN ?_ | refine TC.block ?_ | refine TC.skip ?_ | refine TC.ifD ?_ ?_ <;> (intro hc; try (exfalso; omega)) | fail)
      simp only [hie]
      refine OL.c hif Fn.slices_IndexFunc_Lapi_BindInit_api_BindInit ?_ (hle := by exact ⟨.ren rfl, LE.fun_ (first' := []) (caps' := [.ep [V.int s] 0]) Fn.turn_schema_begin_1 rfl trivial ⟨.ren rfl, trivial⟩ (fun x hx => s_begin_1 x s), trivial⟩)
      repeat' (with_reducible first | refine OL.st ?_ | refine TC.region ?_ | refine TC.seq ?_ | refine OL.nil ?_ | refine TX.thenN ?_ | refine TC.skip ?_ | refine TX.blkN ?_ | refine TC.ifD ?_ ?_ <;> (intro hc; try (exfalso; omega)) | fail)
      exact TX.rd (k + 1) [0] ⟨by omega, hinv⟩ (by omega)
    · rw [f3, getD_lt f1] at hinv
      rw [f2] at hif
      have e : beginO l o s = some is[i].2 := hinv
      rw [e]
      repeat' (with_reducible first | refine OL.st ?_ | refine TC.region ?_ | refine TC.seq ?_ | refine OL.nil ?_ | refine TX.thenN ?_ | refine TC.block ?_ | refine TC.skip ?_ | refine TC.ifD ?_ ?_ <;> (intro hc; try (exfalso; omega)) | fail)
      simp only [hie]
      refine OL.c hif Fn.slices_IndexFunc_Lapi_BindInit_api_BindInit ?_ (hle := by exact ⟨.ren rfl, LE.fun_ (first' := []) (caps' := [.ep [V.int s] 0]) Fn.turn_schema_begin_1 rfl trivial ⟨.ren rfl, trivial⟩ (fun x hx => s_begin_1 x s), trivial⟩)
      repeat' (with_reducible first | refine OL.st ?_ | refine OL.storeAgg ?_ | refine OL.build ?_ | refine TC.region ?_ | refine TC.seq ?_ | refine OL.nil ?_ | refine TX.thenN ?_ | refine TC.ifT ?_ | refine TC.ret ?_ | refine TX.thenR ?_ | refine TX.blkR ?_ | fail)
      exact TX.rtc [] (.ren rfl)
  · rw [drop_nil (by omega)] at hinv
    have e : beginO l o s = none := hinv
    rw [e]
    repeat' (with_reducible first | refine OL.st ?_ | refine OL.storeAgg ?_ | refine OL.build ?_ | refine TC.region ?_ | refine TC.seq ?_ | refine OL.nil ?_ | refine TX.thenN ?_ | refine TC.exit ?_ | refine TX.hit ?_ | refine TX.thenX ?_ | refine TC.ifD ?_ ?_ <;> (intro hc; try (exfalso; omega)) | refine TC.ret ?_ | fail)
    exact TX.rtc [] (.ren rfl)
abbrev funI (P : Program) (dom : Int → Prop) (r : Int → AV) : AV := .pr (FunMP P dom (fun c => [V.int c]) r (fun _ => []))
theorem s_each_int_Lint (l : List Int) (f : Int → List Int) (hb : l.length ≤ 1000000000) : V.Spec Tryz.prog Fc.turn_each_int_Lint [ints l, funI Tryz.prog (· ∈ l) (fun c => ints (f c))] [] (.sl 1 none ((l.map f).map ints)) [] := by
  refine V.Spec.enter Tryz.tabOK Tryz.mixed Fn.turn_each_int_Lint rfl rfl rfl fun B hB => ?_
  repeat' (with_reducible first | refine OL.st ?_ | refine TC.region ?_ | refine TC.seq ?_ | refine OL.nil ?_ | refine TX.thenN ?_ | refine TC.block ?_ | fail)
  refine TC.adp 5 Tc.Lint 1 ?_
  refine TC.lp (fun k : Nat => [(1, funI Tryz.prog (· ∈ l) (fun c => ints (f c))), (5, .hs 0), (8, ints l), (9, V.int l.length), (10, V.int k)]) (fun k => [.gs false Tc.Lint 1 none (((l.take k).map f).map ints)]) (fun k => k ≤ l.length) (fun k => l.length - k) 0 [0] (Nat.zero_le _) ?_
  rintro k hk
  by_cases hkl : k < l.length
  · have hlen : ((l.take k).map f).length = k := by simp; omega
    have e : ((l.take k).map f).map ints ++ [ints (f l[k])] = ((l.take (k + 1)).map f).map ints := by rw [take_succ hkl, List.map_append, List.map_append]; rfl
    generalize (l.take k).map f = gk at *
    repeat' (with_reducible first | refine OL.st ?_ | refine TC.region ?_ | refine TC.seq ?_ | refine OL.nil ?_ | refine TX.thenN ?_ | refine TC.block ?_ | refine TC.skip ?_ | refine TC.ifD ?_ ?_ <;> (intro hc; try (exfalso; omega)) | fail)
    refine OL.cf l[k] (List.getElem_mem _) ?_
    repeat' (with_reducible first | refine OL.st ?_ | refine OL.lit ?_ | refine OL.appO ?_ | refine TC.region ?_ | refine OL.nil ?_ | refine TX.thenN ?_ | refine TX.blkN ?_ | fail)
    exact TX.rd (k + 1) [2] (by omega) (by omega)
  · rw [take_all (by omega)]
    repeat' (with_reducible first | refine OL.st ?_ | refine TC.region ?_ | refine TC.seq ?_ | refine OL.nil ?_ | refine TX.thenN ?_ | refine TC.exit ?_ | refine TX.hit ?_ | refine TX.thenX ?_ | refine TC.ifD ?_ ?_ <;> (intro hc; try (exfalso; omega)) | refine TC.ret ?_ | fail)
    refine TX.vw 4 ?_
    exact TX.rt1 [] (.ren rfl)
theorem s_each_int_api_MeanVal (l : List Int) (f : Int → Int × Int) (hb : l.length ≤ 1000000000) : V.Spec Tryz.prog Fc.turn_each_int_api_MeanVal [ints l, funI Tryz.prog (· ∈ l) (fun c => valA (f c))] [] (.sl 2 none ((l.map f).map valA)) [] := by
  refine V.Spec.enter Tryz.tabOK Tryz.mixed Fn.turn_each_int_api_MeanVal rfl rfl rfl fun B hB => ?_
  repeat' (with_reducible first | refine OL.st ?_ | refine TC.region ?_ | refine TC.seq ?_ | refine OL.nil ?_ | refine TX.thenN ?_ | refine TC.block ?_ | fail)
  refine TC.adp 5 Tc.api_MeanVal 2 ?_
  refine TC.lp (fun k : Nat => [(1, funI Tryz.prog (· ∈ l) (fun c => valA (f c))), (5, .hs 0), (8, ints l), (9, V.int l.length), (10, V.int k)]) (fun k => [.gs false Tc.api_MeanVal 2 none (((l.take k).map f).map valA)]) (fun k => k ≤ l.length) (fun k => l.length - k) 0 [0] (Nat.zero_le _) ?_
  rintro k hk
  by_cases hkl : k < l.length
  · have hlen : ((l.take k).map f).length = k := by simp; omega
    have e : ((l.take k).map f).map valA ++ [valA (f l[k])] = ((l.take (k + 1)).map f).map valA := by rw [take_succ hkl, List.map_append, List.map_append]; rfl
    generalize (l.take k).map f = gk at *
    repeat' (with_reducible first | refine OL.st ?_ | refine TC.region ?_ | refine TC.seq ?_ | refine OL.nil ?_ | refine TX.thenN ?_ | refine TC.block ?_ | refine TC.skip ?_ | refine TC.ifD ?_ ?_ <;> (intro hc; try (exfalso; omega)) | fail)
    refine OL.cf l[k] (List.getElem_mem _) ?_
    repeat' (with_reducible first | refine OL.st ?_ | refine OL.lit ?_ | refine OL.appO ?_ | refine TC.region ?_ | refine OL.nil ?_ | refine TX.thenN ?_ | refine TX.blkN ?_ | fail)
    exact TX.rd (k + 1) [2] (by omega) (by omega)
  · rw [take_all (by omega)]
    repeat' (with_reducible first | refine OL.st ?_ | refine TC.region ?_ | refine TC.seq ?_ | refine OL.nil ?_ | refine TX.thenN ?_ | refine TC.exit ?_ | refine TX.hit ?_ | refine TX.thenX ?_ | refine TC.ifD ?_ ?_ <;> (intro hc; try (exfalso; omega)) | refine TC.ret ?_ | fail)
    refine TX.vw 4 ?_
    exact TX.rt1 [] (.ren rfl)
theorem s_each_NI (l : List (Int × Int)) (f : Int × Int → Int) (hb : l.length * 16 ≤ 140737488355328) : V.Spec Tryz.prog Fc.turn_each_api_BindInit_int [initsA l, .pr (FunMP Tryz.prog (· ∈ l) (fun c => [initA c]) (fun c => V.int (f c)) (fun _ => []))] [] (ints (l.map f)) [] := by
  refine V.Spec.enter Tryz.tabOK Tryz.mixed Fn.turn_each_api_BindInit_int rfl rfl rfl fun B hB => ?_
  repeat' (with_reducible first | refine OL.st ?_ | refine TC.region ?_ | refine TC.seq ?_ | refine OL.nil ?_ | refine TX.thenN ?_ | refine TC.block ?_ | fail)
  refine TC.adp 5 Tc.int 1 ?_
  refine TC.lp (fun k : Nat => [(1, .pr (FunMP Tryz.prog (· ∈ l) (fun c => [initA c]) (fun c => V.int (f c)) (fun _ => []))), (5, .hs 0), (8, initsA l), (9, V.int l.length), (10, V.int k)]) (fun k => [.gs false Tc.int 1 none (((l.take k).map f).map V.int)]) (fun k => k ≤ l.length) (fun k => l.length - k) 0 [0] (Nat.zero_le _) ?_
  rintro k hk
  by_cases hkl : k < l.length
  · have hlen : ((l.take k).map f).length = k := by simp; omega
    have e : ((l.take k).map f).map V.int ++ [V.int (f l[k])] = ((l.take (k + 1)).map f).map V.int := by rw [take_succ hkl, List.map_append, List.map_append]; rfl
    generalize (l.take k).map f = gk at *
    repeat' (with_reducible first | refine OL.st ?_ | refine OL.alloc ?_ | refine OL.storeAgg ?_ | refine TC.region ?_ | refine TC.seq ?_ | refine OL.nil ?_ | refine TX.thenN ?_ | refine TC.block ?_ | refine TC.skip ?_ | refine TC.ifD ?_ ?_ <;> (intro hc; try (exfalso; omega)) | fail)
    refine OL.cf l[k] (List.getElem_mem _) ?_
    repeat' (with_reducible first | refine OL.st ?_ | refine OL.lit ?_ | refine OL.appO ?_ | refine TC.region ?_ | refine OL.nil ?_ | refine TX.thenN ?_ | refine TX.blkN ?_ | fail)
    exact TX.rd (k + 1) [3] (by omega) (by omega)
  · rw [take_all (by omega)]
    repeat' (with_reducible first | refine OL.st ?_ | refine TC.region ?_ | refine TC.seq ?_ | refine OL.nil ?_ | refine TX.thenN ?_ | refine TC.exit ?_ | refine TX.hit ?_ | refine TX.thenX ?_ | refine TC.ifD ?_ ?_ <;> (intro hc; try (exfalso; omega)) | refine TC.ret ?_ | fail)
    refine TX.vw 4 ?_
    exact TX.rt1 [] (.ren rfl)
theorem fidx_placeN (n : Int) : ∀ (l : List Int) (k : Nat), fidx (fun x => n == x) k l = placeN l n k
  | [], k => rfl
  | x :: r, k => by
    rw [fidx, placeN]
    by_cases h : x = n
    · subst h; simp
    · have : (n == x) = false := by rw [beq_eq_false_iff_ne]; exact fun e => h e.symm
      rw [this, if_neg h]
      have := fidx_placeN n r (k + 1)
      simpa using this
theorem s_kept_1 {l : List Cls} (hf : fine (graphOf l) = true) {c : Nat} (h3 : 3 ≤ c) (hc : c < 3 + l.length) {slots : List Int} {vals : List (Int × Int)} (hsv : slots.length ≤ vals.length) (s : Int) :
    V.Spec Tryz.prog Fc.turn_schema_kept_1 [V.int s, .ep [ints slots] 0, .ep [valsA vals] 0, .ep [schE l] 0, .ep [V.int c] 0] [] (valA (keptV l c slots vals s)) [] := by
  have hix := s_slices_Index_Lint_int slots s
  have hbe := s_turn_begin hf h3 hc s
  have hpl := placeN_lt slots s
  have hfp := fidx_placeN s slots 0
  rw [Int.natCast_zero] at hfp
  rw [hfp] at hix
  rw [keptV]
  generalize placeN slots s 0 = p at *
  refine V.Spec.enter Tryz.tabOK Tryz.mixed Fn.turn_schema_kept_1 rfl rfl rfl fun B hB => ?_
  by_cases h0 : 0 ≤ p
  · rw [if_pos h0, getD_lt (by omega)]
    repeat' (with_reducible first | refine OL.st ?_ | refine OL.alloc ?_ | refine TC.region ?_ | refine TC.seq ?_ | refine OL.nil ?_ | refine TX.thenN ?_ | fail)
    refine OL.c hix Fn.slices_Index_Lint_int ?_
    repeat' (with_reducible first | refine OL.st ?_ | refine OL.storeAgg ?_ | refine TC.region ?_ | refine TC.seq ?_ | refine OL.nil ?_ | refine TX.thenN ?_ | refine TC.ifD ?_ ?_ <;> (intro hc; try (exfalso; omega)) | refine TC.ret ?_ | refine TX.thenR ?_ | fail)
    exact TX.rtc [] (.ren rfl)
  · rw [if_neg h0]
    repeat' (with_reducible first | refine OL.st ?_ | refine OL.alloc ?_ | refine TC.region ?_ | refine TC.seq ?_ | refine OL.nil ?_ | refine TX.thenN ?_ | fail)
    refine OL.c hix Fn.slices_Index_Lint_int ?_
    repeat' (with_reducible first | refine OL.st ?_ | refine TC.region ?_ | refine TC.seq ?_ | refine OL.nil ?_ | refine TX.thenN ?_ | refine TC.skip ?_ | refine TC.ifD ?_ ?_ <;> (intro hc; try (exfalso; omega)) | fail)
    refine OL.c hbe Fn.turn_schema_begin ?_
    repeat' (with_reducible first | refine OL.storeAgg ?_ | refine OL.nil ?_ | refine TX.thenN ?_ | refine TC.ret ?_ | fail)
    exact TX.rtc [] (.ren rfl)
theorem s_turn_kept {l : List Cls} (hf : fine (graphOf l) = true) (hl : l.length ≤ 10) {c : Nat} (h3 : 3 ≤ c) (hc : c < 3 + l.length) {slots : List Int} {vals : List (Int × Int)} (hsv : slots.length ≤ vals.length) :
    V.Spec Tryz.prog Fc.turn_schema_kept [schE l, V.int c, ints slots, valsA vals] [] (valsA (turnedV l c slots vals)) [] := by
  have hha := s_turn_has l (by omega) h3 hc
  have hsl : (slotsOf l c).length ≤ 400 := Nat.le_trans (slotsTo_len l c 40) (by omega)
  have hea := s_each_int_api_MeanVal (slotsOf l c) (keptV l c slots vals) (by omega)
  rw [← turnedV] at hea
  refine V.Spec.enter Tryz.tabOK Tryz.mixed Fn.turn_schema_kept rfl rfl rfl fun B hB => ?_
  repeat' (with_reducible first | refine OL.st ?_ | refine OL.box ?_ | refine TC.region ?_ | refine TC.seq ?_ | refine OL.nil ?_ | refine TX.thenN ?_ | fail)
  refine OL.frzA 0 ?_
  refine OL.frzA 1 ?_
  refine OL.frzA 2 ?_
  refine OL.frzA 3 ?_
  refine OL.c hha Fn.turn_schema_has ?_
  repeat' (first | (with_reducible refine OL.st ?_) | fail)
  refine OL.c hea Fn.turn_each_int_api_MeanVal ?_ (hle := by exact ⟨.ren rfl, LE.fun_ (first' := []) (caps' := [.ep [ints slots] 0, .ep [valsA vals] 0, .ep [schE l] 0, .ep [V.int c] 0]) Fn.turn_schema_kept_1 rfl trivial ⟨.ren rfl, .ren rfl, .ren rfl, .ren rfl, trivial⟩ (fun x hx => s_kept_1 hf h3 hc hsv x), trivial⟩)
  repeat' (with_reducible first | refine OL.st ?_ | refine OL.nil ?_ | refine TX.thenN ?_ | refine TC.ret ?_ | fail)
  exact TX.rt1 [] (.ren rfl)
end Go.Proofs
namespace Go.Proofs
open Go Go.W Go.V
theorem s_slices_Grow (n : Nat) (hn : n * 8 ≤ 140737488355328) : V.Spec Tryz.prog Fc.slices_Grow_Lint_int [.raw (.slice none 0 0), V.int n] [] (.hs 0) [.gs false Tc.int 1 none []] := by
  intro m w γ vs hH hV
  match vs, hV with
  | [v, u], ⟨h1, h2, _⟩ =>
  obtain rfl := h1.raw_eq
  obtain rfl := h2.raw_eq
  have hγ : γ = [] := List.eq_nil_of_length_eq_zero hH.len
  have hI : In (baseOf m w γ []) m w γ [] := ⟨hH, .refl _ _ _, fun i v o b h1 h2 h3 => by simp at h2, .refl _⟩
  by_cases h0 : n = 0
  · subst h0
    refine (Any8.slices_Grow_room Tryz.growI none 0 0 0 w (by omega) (by omega) (by omega) (by omega)).mono fun e w' ⟨he, hw⟩ => ?_
    subst hw
    exact ⟨_, m, γ ++ [.slice none 0 0], he, hI.new (v := .slice none 0 0) (o := .gs false Tc.int 1 none []) (Keep.refl m w') ⟨⟨m, .inl ⟨rfl, rfl⟩, fun _ _ => rfl, fun b hb => by simp [W.ownB] at hb⟩, NL.none _, by simp⟩ (fun b hb => by simp [blk, W.ownB] at hb), .hs (by simp [hγ])⟩
  · obtain ⟨inf, i1, i2, i3, i4, i5⟩ := (Tryz.tabOK 3 _ rfl).info
    have hsz : inf.size = 1 := i2.trans rfl
    have hby : inf.bytes = 8 := i3.trans rfl
    refine (Any8.slices_Grow_grow Tryz.growI inf _ i1 i4 (by omega) none 0 0 n [] w (by omega) (by omega) (by rw [hby]; omega) (by omega) (by simp) (fun _ => rfl) (fun a h => by cases h)).mono fun e w' ⟨he, hw⟩ => ?_
    have hk : Keep m w (mset m w.heap.size 0) w' := by
      subst hw
      rw [Sort.alloc_eq_grow]
      refine ⟨⟨rfl, rfl, rfl, by rw [Sort.size_grow]; show w.heap.size ≤ w.heap.size + _; omega, fun b hb _ => ?_⟩, fun b hb => mset_ne (by omega)⟩
      show (w.heap ++ _)[b]? = _
      rw [Array.getElem?_append_left hb]
    have hge := grownCap_ge w (0 + n) 0 3
    have hle := grownCap_le_maxLen w (0 + n) 0 3 (by have : maxLen = 9223372036854775807 := rfl; omega)
    have hren : Tryz.growI_ren.t 25 = 3 := rfl
    rw [hren] at he hw
    generalize grownCap w (0 + n) 0 3 = cap at *
    obtain ⟨cur, hheap, hcs⟩ : ∃ cur : Array Value, w'.heap[w.heap.size]? = some (.cells cur 3 (0, 0)) ∧ cur.size = cap := by
      subst hw
      rw [Sort.alloc_eq_grow]
      refine ⟨_, by show (w.heap ++ #[_])[w.heap.size]? = _; rw [Array.getElem?_append_right (Nat.le_refl _), Nat.sub_self]; rfl, ?_⟩
      have hz : ∀ k, (Builtin.zeroCells (Value.int .i64 0).cells k).size = k := fun k => by simp [Builtin.zeroCells, Value.cells]
      show ((#[] : Array Value) ++ Builtin.zeroCells (Value.int .i64 0).cells _ ++ Builtin.zeroCells (Value.int .i64 0).cells _).size = _
      rw [Array.size_append, Array.size_append, hz, hz]
      simp; omega
    refine ⟨_, mset m w.heap.size 0, γ ++ [.slice (some ⟨w.heap.size, 0, none⟩) 0 cap], he, hI.new (v := .slice (some ⟨w.heap.size, 0, none⟩) 0 cap) (o := .gs false Tc.int 1 none []) hk ⟨⟨mset m w.heap.size 0, .inr (.inr ⟨_, cap, _, rfl, by omega, hheap, by simp, hle, by rw [hcs]; omega, by simp, by simp⟩), fun _ _ => rfl, fun b hb => ?_⟩, NL.none _, by simp⟩ (fun b hb => ?_), .hs (by simp [hγ])⟩
    · obtain ⟨c', rfl⟩ : ∃ c', cap = c' + 1 := ⟨cap - 1, by omega⟩
      simp [W.ownB] at hb
      subst hb
      simp
    · obtain ⟨c', rfl⟩ : ∃ c', cap = c' + 1 := ⟨cap - 1, by omega⟩
      simp [blk, W.ownB] at hb
      omega
theorem s_slices_Concat (ls : List (List Int)) (hl : ∀ k, (ls.take k).flatten.length ≤ 1000000) (hll : ls.length ≤ 1000000) : V.Spec Tryz.prog Fc.slices_Concat_Lint_int [rows ls] [] (.hs 0) [.gs false Tc.int 1 none (ls.flatten.map V.int)] := by
  have hall := hl ls.length
  rw [List.take_length] at hall
  have hg := s_slices_Grow ls.flatten.length (by omega)
  refine V.Spec.enter Tryz.tabOK Tryz.mixed Fn.slices_Concat_Lint_int rfl rfl rfl fun B hB => ?_
  repeat' (with_reducible first | refine OL.st ?_ | refine TC.region ?_ | refine TC.seq ?_ | refine OL.nil ?_ | refine TX.thenN ?_ | refine TC.block ?_ | fail)
  refine TC.lp (fun k : Nat => [(0, rows ls), (3, V.int (ls.take k).flatten.length), (9, rows ls), (10, V.int ls.length), (11, V.int k)]) (fun _ => []) (fun k => k ≤ ls.length) (fun k => ls.length - k) 0 [] (Nat.zero_le _) ?_
  rintro k hk
  have h1 := hl k
  by_cases hkl : k < ls.length
  · have h2 := hl (k + 1)
    have e : (((ls.take k).flatten.length : Nat) : Int) + (ls[k].length : Nat) = ((ls.take (k + 1)).flatten.length : Nat) := by rw [take_succ hkl, List.flatten_append, List.length_append]; simp
    generalize (ls.take k).flatten.length = q at *
    repeat' (with_reducible first | refine OL.st ?_ | refine TC.region ?_ | refine TC.seq ?_ | refine OL.nil ?_ | refine TX.thenN ?_ | refine TC.block ?_ | refine TC.skip ?_ | refine TX.blkN ?_ | refine TC.ifF ?_ | refine TC.ifD ?_ ?_ <;> (intro hc; try (exfalso; omega)) | fail)
    exact TX.rd (k + 1) [] (by omega) (by omega)
  · rw [take_all (by omega)]
    repeat' (with_reducible first | refine OL.st ?_ | refine TC.region ?_ | refine TC.seq ?_ | refine OL.nil ?_ | refine TX.thenN ?_ | refine TC.exit ?_ | refine TX.hit ?_ | refine TX.thenX ?_ | refine TC.ifD ?_ ?_ <;> (intro hc; try (exfalso; omega)) | fail)
    refine OL.c hg Fn.slices_Grow_Lint_int ?_
    repeat' (with_reducible first | refine OL.st ?_ | refine TC.region ?_ | refine TC.seq ?_ | refine OL.nil ?_ | refine TX.thenN ?_ | refine TC.block ?_ | fail)
    refine TC.lp (fun k : Nat => [(6, .hs 0), (25, rows ls), (26, V.int ls.length), (27, V.int k)]) (fun k => [.gs false Tc.int 1 none ((ls.take k).flatten.map V.int)]) (fun k => k ≤ ls.length) (fun k => ls.length - k) 0 [0] (Nat.zero_le _) ?_
    rintro k hk
    have h1 := hl k
    by_cases hkl : k < ls.length
    · have h2 := hl (k + 1)
      have e2 : (ls.take (k + 1)).flatten = (ls.take k).flatten ++ ls[k] := by rw [take_succ hkl, List.flatten_append]; simp
      have e : (ls.take k).flatten.map V.int ++ ls[k].map V.int = (ls.take (k + 1)).flatten.map V.int := by rw [e2, List.map_append]
      rw [e2, List.length_append] at h2
      generalize (ls.take k).flatten = q at *
      repeat' (with_reducible first | refine OL.st ?_ | refine OL.app ?_ | refine TC.region ?_ | refine TC.seq ?_ | refine OL.nil ?_ | refine TX.thenN ?_ | refine TC.block ?_ | refine TC.skip ?_ | refine TX.blkN ?_ | refine TC.ifD ?_ ?_ <;> (intro hc; try (exfalso; omega)) | fail)
      exact TX.rd (k + 1) [1] (by omega) (by omega)
    · rw [take_all (by omega)]
      repeat' (with_reducible first | refine OL.st ?_ | refine TC.region ?_ | refine TC.seq ?_ | refine OL.nil ?_ | refine TX.thenN ?_ | refine TC.exit ?_ | refine TX.hit ?_ | refine TX.thenX ?_ | refine TC.ifD ?_ ?_ <;> (intro hc; try (exfalso; omega)) | refine TC.ret ?_ | fail)
      exact TX.rt1 [0] (.ren rfl)
def slotR (n : Int) : Bool := decide (0 ≤ n) && decide (n < 40)
theorem s_read_2 (n : Int) : V.Spec Tryz.prog Fc.turn_read_2 [V.int n] [] (V.bool (!slotR n)) [] := by
  rw [slotR]
  refine V.Spec.enter Tryz.tabOK Tryz.mixed Fn.turn_read_2 rfl rfl rfl fun B hB => ?_
  repeat' (with_reducible first | refine OL.st ?_ | refine TC.region ?_ | refine TC.seq ?_ | refine OL.nil ?_ | refine TX.thenN ?_ | refine OL.gOn ?_ | refine OL.gOff ?_ | refine OL.gD ?_ ?_ <;> (intro hc; try (exfalso; omega)) | refine TC.ret ?_ | fail)
  all_goals refine TX.rt1 [] (.bool ?_)
  · have : ¬ 0 ≤ n := by omega
    simp [this]
  · have : 0 ≤ n := by omega
    rw [decide_eq_true this, Bool.true_and, ← decide_not, decide_eq_decide]; omega
theorem s_read_3 (l : List Cls) (hl : l.length ≤ 1000) {c : Int} (hc : 3 ≤ c ∧ c < 3 + (l.length : Int)) : V.Spec Tryz.prog Fc.turn_read_3 [V.int c, .ep [clssA l] 0] [] (ints (clsAt l (c - 3).toNat).2.1) [] := by
  have e : clsAt l (c - 3).toNat = l[(c - 3).toNat]'(by omega) := by rw [clsAt, getD_lt]
  rw [e]
  refine V.Spec.enter Tryz.tabOK Tryz.mixed Fn.turn_read_3 rfl rfl rfl fun B hB => ?_
  repeat' (with_reducible first | refine OL.st ?_ | refine TC.region ?_ | refine TC.seq ?_ | refine OL.nil ?_ | refine TX.thenN ?_ | refine TC.ret ?_ | fail)
  exact TX.rt1 [] (.ren rfl)
theorem s_starts_1 (i : Int × Int) : V.Spec Tryz.prog Fc.turn_schema_starts_1 [initA i] [] (V.int i.1) [] := by
  refine V.Spec.enter Tryz.tabOK Tryz.mixed Fn.turn_schema_starts_1 rfl rfl rfl fun B hB => ?_
  repeat' (with_reducible first | refine OL.st ?_ | refine OL.box ?_ | refine TC.region ?_ | refine TC.seq ?_ | refine OL.nil ?_ | refine TX.thenN ?_ | refine TC.ret ?_ | fail)
  exact TX.rt1 [] (.ren rfl)
end Go.Proofs
namespace Go.Proofs
open Go Go.W Go.V
theorem slotR_iff (s : Int) : slotR s = true ↔ 0 ≤ s ∧ s < 40 := by rw [slotR, Bool.and_eq_true, decide_eq_true_eq, decide_eq_true_eq]
theorem slotsOk_iff : ∀ (ss met : List Int), slotsOk met ss = true ↔ (∀ s ∈ ss, slotR s = true) ∧ ss.Nodup ∧ ∀ s ∈ ss, s ∉ met
  | [], met => by simp [slotsOk]
  | s :: r, met => by
    rw [slotsOk, ← slotR, Bool.and_eq_true, Bool.and_eq_true, slotsOk_iff r]
    simp only [Bool.not_eq_true', List.contains_eq_mem, decide_eq_false_iff_not, List.mem_cons, List.nodup_cons, List.mem_append, List.not_mem_nil, or_false, forall_eq_or_imp]
    constructor
    · rintro ⟨⟨h1, h2⟩, h3, h4, h5⟩
      exact ⟨⟨h1, h3⟩, ⟨fun h => (h5 s h) (.inr rfl), h4⟩, h2, fun x hx h => h5 x hx (.inl h)⟩
    · rintro ⟨⟨h1, h2⟩, ⟨h3, h4⟩, h5, h6⟩
      refine ⟨⟨h1, h5⟩, h2, h4, fun x hx h => ?_⟩
      rcases h with h | h
      · exact h6 x hx h
      · subst h; exact h3 hx
def clsP (g : List (List Int)) (l : List Cls) (k : Nat) : Prop := ∀ j (h : j < l.length), 0 < (at_ (orders g) ((3 + (k + j) : Nat) : Int)).length ∧ l[j].2.1.length ≤ 4
theorem clsP_cons {g : List (List Int)} {x : Cls} {r : List Cls} {k : Nat} : clsP g (x :: r) k ↔ (0 < (at_ (orders g) ((3 + k : Nat) : Int)).length ∧ x.2.1.length ≤ 4) ∧ clsP g r (k + 1) := by
  constructor
  · intro h
    refine ⟨h 0 (by simp), fun j hj => ?_⟩
    have := h (j + 1) (by simpa using hj)
    rw [show 3 + (k + 1 + j) = 3 + (k + (j + 1)) by omega]
    simpa using this
  · rintro ⟨h1, h2⟩ j hj
    match j with
    | 0 => simpa using h1
    | j + 1 =>
      have := h2 j (by simpa using hj)
      rw [show 3 + (k + 1 + j) = 3 + (k + (j + 1)) by omega] at this
      simpa using this
theorem clsOk_iff (g : List (List Int)) : ∀ (l : List Cls) (k : Nat) (met : List Int), clsOk g k met l = true ↔ clsP g l k ∧ (metOf l).Nodup ∧ ∀ s ∈ metOf l, slotR s = true ∧ s ∉ met
  | [], k, met => by simp [clsOk, clsP, metOf]
  | x :: r, k, met => by
    have hm : metOf (x :: r) = x.2.1 ++ metOf r := by simp [metOf]
    rw [clsOk, Bool.and_eq_true, Bool.and_eq_true, Bool.and_eq_true, decide_eq_true_eq, decide_eq_true_eq, slotsOk_iff, clsOk_iff g r, clsP_cons, hm, List.nodup_append]
    constructor
    · rintro ⟨h1, ⟨h2, h3, h4⟩, h5, h6, h7⟩
      refine ⟨⟨h1, h5⟩, ⟨h3, h6, fun a ha b hb e => ?_⟩, fun s hs => ?_⟩
      · subst e; exact (h7 a hb).2 (List.mem_append_right _ ha)
      · rcases List.mem_append.1 hs with h | h
        · exact ⟨h2 s h, h4 s h⟩
        · exact ⟨(h7 s h).1, fun hm => (h7 s h).2 (List.mem_append_left _ hm)⟩
    · rintro ⟨⟨h1, h5⟩, ⟨h3, h6, h8⟩, h7⟩
      refine ⟨h1, ⟨fun s hs => (h7 s (List.mem_append_left _ hs)).1, h3, fun s hs => (h7 s (List.mem_append_left _ hs)).2⟩, h5, h6, fun s hs => ⟨(h7 s (List.mem_append_right _ hs)).1, fun hm => ?_⟩⟩
      rcases List.mem_append.1 hm with h | h
      · exact (h7 s (List.mem_append_right _ hs)).2 h
      · exact h8 s h s hs rfl
def iniBad (has : List Int) (x : Int × Int) : Bool := !has.contains x.1 || (decide (x.2 < -1000000000) || decide (1000000000 < x.2))
theorem initsOk_iff (has : List Int) : ∀ (is : List (Int × Int)) (own : List Int), initsOk has own is = true ↔ ((is.map (·.1)).Nodup ∧ is.any (iniBad has) = false) ∧ ∀ x ∈ is, x.1 ∉ own
  | [], own => by simp [initsOk]
  | x :: r, own => by
    rw [initsOk, Bool.and_eq_true, Bool.and_eq_true, Bool.and_eq_true, Bool.and_eq_true, decide_eq_true_eq, decide_eq_true_eq, initsOk_iff has r, List.any_cons, Bool.or_eq_false_iff]
    simp only [iniBad, Bool.or_eq_false_iff, Bool.not_eq_true', Bool.not_eq_false', decide_eq_false_iff_not, List.contains_eq_mem, decide_eq_true_eq, List.map_cons, List.nodup_cons, List.mem_cons, forall_eq_or_imp, List.mem_append, List.not_mem_nil, or_false, List.mem_map]
    constructor
    · rintro ⟨⟨⟨h1, h2⟩, h3, h4⟩, ⟨h5, h6⟩, h7⟩
      exact ⟨⟨⟨fun ⟨a, ha, e⟩ => h7 a ha (.inr e), h5⟩, ⟨h1, by omega, by omega⟩, h6⟩, h2, fun a ha h => h7 a ha (.inl h)⟩
    · rintro ⟨⟨⟨h1, h5⟩, ⟨h2, h3, h4⟩, h6⟩, h7, h8⟩
      refine ⟨⟨⟨h2, h7⟩, by omega, by omega⟩, ⟨h5, h6⟩, fun a ha h => ?_⟩
      rcases h with h | h
      · exact h8 a ha h
      · exact h1 ⟨a, ha, h⟩
theorem iniAt_eq (l : List Cls) (k : Nat) : iniAt l k = (decide ((clsAt l k).2.2.map (·.1)).Nodup && !(clsAt l k).2.2.any (iniBad (slotsOf l (3 + k)))) := by
  rw [Bool.eq_iff_iff, iniAt, initsOk_iff, Bool.and_eq_true, decide_eq_true_eq, Bool.not_eq_true']
  simp
theorem slotsOfN_eq {l : List Cls} {c : Nat} {s : Int} : ∀ {n : Nat} {x : Int}, x ∈ slotsOfN l c s n → x = s := fun {n x} h => by
  rw [slotsOfN, List.mem_flatMap] at h
  obtain ⟨k, _, h⟩ := h
  split at h
  · simpa using h
  · simp at h
theorem slotsTo_sorted (l : List Cls) (c : Nat) : ∀ n, (slotsTo l c n).Pairwise (· ≤ ·)
  | 0 => by simp [slotsTo, upto]
  | n + 1 => by
    rw [slotsTo_succ, List.pairwise_append]
    refine ⟨slotsTo_sorted l c n, ?_, fun a ha b hb => ?_⟩
    · rw [List.pairwise_iff_getElem]
      intro i j hi hj _
      rw [slotsOfN_eq (List.getElem_mem hi), slotsOfN_eq (List.getElem_mem hj)]; omega
    · have := (mem_slotsTo.1 ha).1
      rw [slotsOfN_eq hb]; omega
theorem slotsTo_nodup {l : List Cls} {c : Nat} (hu : ∀ s j k, j < l.length → k < l.length → s ∈ (clsAt l j).2.1 → s ∈ (clsAt l k).2.1 → j = k) : ∀ n, (slotsTo l c n).Nodup
  | 0 => by simp [slotsTo, upto]
  | n + 1 => by
    have key : ∀ (s : Int) (m : Nat), m ≤ l.length → (slotsOfN l c s m = [] ∧ ∀ k, k < m → ownSl l c s k = false) ∨ (slotsOfN l c s m = [s] ∧ ∃ k, k < m ∧ ownSl l c s k = true) := by
      intro s m
      induction m with
      | zero => intro _; exact .inl ⟨by simp [slotsOfN], fun k h => by omega⟩
      | succ m ih =>
        intro hm
        rw [slotsOfN_succ]
        cases ho : ownSl l c s m with
        | false =>
          rcases ih (by omega) with ⟨h1, h2⟩ | ⟨h1, k, h2, h3⟩
          · refine .inl ⟨by rw [h1]; simp, fun k hk => ?_⟩
            by_cases e : k = m
            · rw [e]; exact ho
            · exact h2 k (by omega)
          · exact .inr ⟨by rw [h1]; simp, k, by omega, h3⟩
        | true =>
          rcases ih (by omega) with ⟨h1, h2⟩ | ⟨h1, k, h2, h3⟩
          · exact .inr ⟨by rw [h1]; simp, m, by omega, ho⟩
          · rw [ownSl, Bool.and_eq_true] at ho h3
            have := hu s m k (by omega) (by omega) (by simpa using ho.1) (by simpa using h3.1)
            omega
    rw [slotsTo_succ, List.nodup_append]
    refine ⟨slotsTo_nodup hu n, ?_, fun a ha b hb e => ?_⟩
    · rcases key n l.length (Nat.le_refl _) with ⟨h, _⟩ | ⟨h, _⟩ <;> rw [h] <;> simp
    · have h1 := (mem_slotsTo.1 ha).1
      have h2 := slotsOfN_eq hb
      omega
theorem slots_sorted {l : List Cls} (hf : fine (graphOf l) = true) (hm : (metOf l).Nodup) (hr : ∀ s ∈ metOf l, slotR s = true) {c : Nat} (h3 : 3 ≤ c) (hc : c < 3 + l.length) (hne : at_ (orders (graphOf l)) c ≠ []) :
    sortI ((bare (at_ (orders (graphOf l)) c)).flatMap fun x => (clsAt l (x - 3).toNat).2.1) = slotsOf l c := by
  have hgl : (graphOf l).length = l.length := by simp [graphOf]
  have h16 := fine_len hf
  obtain ⟨m1, _, _⟩ := ord_main hf (c + 1) c (by omega) (by omega) hne
  have hnd := ((orders_ok hf).1.at c).1
  have hb3 := bare_three hf h3 hc
  have hin : ∀ k, k < l.length → ∀ s ∈ (clsAt l k).2.1, s ∈ metOf l := fun k hk s hs => by
    rw [metOf, List.mem_flatMap]
    exact ⟨clsAt l k, by rw [clsAt, getD_lt hk]; exact List.getElem_mem _, hs⟩
  have huniq : ∀ (l : List Cls), (metOf l).Nodup → ∀ j k, j < l.length → k < l.length → ∀ s, s ∈ (clsAt l j).2.1 → s ∈ (clsAt l k).2.1 → j = k := by
    intro l
    induction l with
    | nil => intro _ j k hj; simp at hj
    | cons x r ih =>
      intro hm j k hj hk s h1 h2
      have hmm : metOf (x :: r) = x.2.1 ++ metOf r := by simp [metOf]
      rw [hmm, List.nodup_append] at hm
      have hin : ∀ k, k < r.length → ∀ s ∈ (clsAt r k).2.1, s ∈ metOf r := fun k hk s hs => by
        rw [metOf, List.mem_flatMap]
        exact ⟨clsAt r k, by rw [clsAt, getD_lt hk]; exact List.getElem_mem _, hs⟩
      match j, k with
      | 0, 0 => rfl
      | 0, k + 1 => exact absurd rfl (hm.2.2 s (by simpa [clsAt] using h1) s (hin k (by simpa using hk) s (by simpa [clsAt] using h2)))
      | j + 1, 0 => exact absurd rfl (hm.2.2 s (by simpa [clsAt] using h2) s (hin j (by simpa using hj) s (by simpa [clsAt] using h1)))
      | j + 1, k + 1 => rw [ih hm.2.1 j k (by simpa using hj) (by simpa using hk) s (by simpa [clsAt] using h1) (by simpa [clsAt] using h2)]
  have hsub : ∀ k, k < l.length → (clsAt l k).2.1.Nodup := fun k hk => by
    rw [metOf, List.flatMap_def] at hm
    have := List.pairwise_flatten.1 hm
    exact this.1 _ (List.mem_map_of_mem (f := fun c : Cls => c.2.1) (by rw [clsAt, getD_lt hk]; exact List.getElem_mem _))
  have hbn : (bare (at_ (orders (graphOf l)) c)).Nodup := List.filter_sublist.nodup hnd
  have hfn : ((bare (at_ (orders (graphOf l)) c)).flatMap fun x => (clsAt l (x - 3).toNat).2.1).Nodup := by
    rw [List.Nodup, List.flatMap_def, List.pairwise_flatten]
    refine ⟨fun a ha => ?_, ?_⟩
    · obtain ⟨x, hx, rfl⟩ := List.mem_map.1 ha
      exact hsub _ (by have := hb3 x hx; omega)
    · rw [List.pairwise_map]
      refine List.Pairwise.imp_of_mem (R := fun a b => a ≠ b) (fun {a b} ha hb hab s hs t ht e => ?_) hbn
      subst e
      have h1 := hb3 a ha
      have h2 := hb3 b hb
      have := huniq l hm _ _ (by omega) (by omega) s hs ht
      exact hab (by omega)
  have hperm : ((bare (at_ (orders (graphOf l)) c)).flatMap fun x => (clsAt l (x - 3).toNat).2.1).Perm (slotsOf l c) := by
    rw [List.perm_ext_iff_of_nodup hfn]
    · intro s
      rw [slotsOf, mem_slotsTo, List.mem_flatMap]
      constructor
      · rintro ⟨x, hx, hs⟩
        have h1 := hb3 x hx
        have h2 := (slotR_iff s).1 (hr s (hin _ (by omega) s hs))
        rw [bare, mem_without] at hx
        refine ⟨by omega, (x - 3).toNat, by omega, ?_⟩
        rw [ownSl, Bool.and_eq_true]
        refine ⟨by simpa using hs, ?_⟩
        rw [show ((3 + (x - 3).toNat : Nat) : Int) = x by omega]
        exact ((m1 x).1 hx.1).2
      · rintro ⟨h1, k, hk, ho⟩
        rw [ownSl, Bool.and_eq_true] at ho
        refine ⟨((3 + k : Nat) : Int), ?_, by rw [show (((3 + k : Nat) : Int) - 3).toNat = k by omega]; simpa using ho.1⟩
        rw [bare, mem_without]
        exact ⟨(m1 _).2 ⟨by omega, ho.2⟩, by omega⟩
    · exact slotsTo_nodup (fun s j k hj hk => huniq l hm j k hj hk s) 40
  have hss : (slotsOf l c).Pairwise (· ≤ ·) := slotsTo_sorted l c 40
  refine List.Perm.eq_of_pairwise (le := (· ≤ ·)) (fun a b _ _ h1 h2 => by omega) (sortI_sorted _) hss ((sortI_perm _).trans hperm)
theorem s_starts_2 (l : List Cls) (os sl : List (List Int)) {k : Nat} (hk : k < sl.length) (_hsl : sl.length ≤ 1000) (x : Int × Int) : V.Spec Tryz.prog Fc.turn_schema_starts_2 [initA x, .ep [.ep [clssA l, rows os, rows sl] 0] 0, .ep [V.int k] 0] [] (V.bool (iniBad sl[k] x)) [] := by
  have hc := s_slices_Contains_Lint_int sl[k] x.1
  rw [iniBad]
  cases h1 : sl[k].contains x.1
  · rw [h1] at hc
    refine V.Spec.enter Tryz.tabOK Tryz.mixed Fn.turn_schema_starts_2 rfl rfl rfl fun B hB => ?_
    repeat' (with_reducible first | refine OL.st ?_ | refine OL.box ?_ | refine TC.region ?_ | refine TC.seq ?_ | refine OL.nil ?_ | refine TX.thenN ?_ | fail)
    (with_reducible refine TC.draw (id := 1) true 22 22 ?_ <;> refine OD.st 0 ?_ <;> refine OD.st 1 ?_ <;> refine OD.st 2 ?_ <;> refine OD.st 3 ?_ <;> refine OD.st 4 ?_ <;> refine OD.st 5 ?_ <;> refine OD.st 6 ?_ <;> refine OD.st 7 ?_ <;> refine OD.st 8 ?_ <;> refine OD.c1 9 hc Fn.slices_Contains_Lint_int ?_ <;> refine OD.st 10 ?_ <;> refine OD.st 11 ?_ <;> refine OD.of 12 ?_ <;> refine OD.of 13 ?_ <;> refine OD.of 14 ?_ <;> refine OD.st 15 ?_ <;> refine OD.st 16 ?_ <;> refine OD.of 17 ?_ <;> refine OD.of 18 ?_ <;> refine OD.of 19 ?_ <;> refine OD.st 20 ?_ <;> refine OD.st 21 ?_ <;> refine OD.dn ?_)
    all_goals repeat' (first | (with_reducible refine TX.thenN ?_) | (with_reducible refine TC.ret ?_) | fail)
    all_goals exact TX.rt1 [] (.ren rfl)
  · rw [h1] at hc
    refine V.Spec.enter Tryz.tabOK Tryz.mixed Fn.turn_schema_starts_2 rfl rfl rfl fun B hB => ?_
    by_cases h2 : x.2 < -1000000000
    · rw [decide_eq_true h2]
      repeat' (with_reducible first | refine OL.st ?_ | refine OL.box ?_ | refine TC.region ?_ | refine TC.seq ?_ | refine OL.nil ?_ | refine TX.thenN ?_ | fail)
      (with_reducible refine TC.draw (id := 1) true 22 22 ?_ <;> refine OD.st 0 ?_ <;> refine OD.st 1 ?_ <;> refine OD.st 2 ?_ <;> refine OD.st 3 ?_ <;> refine OD.st 4 ?_ <;> refine OD.st 5 ?_ <;> refine OD.st 6 ?_ <;> refine OD.st 7 ?_ <;> refine OD.st 8 ?_ <;> refine OD.c1 9 hc Fn.slices_Contains_Lint_int ?_ <;> refine OD.st 10 ?_ <;> refine OD.st 11 ?_ <;> refine OD.st 12 ?_ <;> refine OD.st 13 ?_ <;> refine OD.st 14 ?_ <;> refine OD.st 15 ?_ <;> refine OD.st 16 ?_ <;> refine OD.sD 21 ?_ ?_ <;> (intro hc; try (exfalso; omega)) <;> (first | (with_reducible refine OD.st 17 ?_) | (with_reducible refine OD.of 17 ?_)) <;> refine OD.of 18 ?_ <;> refine OD.of 19 ?_ <;> refine OD.st 20 ?_ <;> refine OD.st 21 ?_ <;> refine OD.dn ?_)
      all_goals repeat' (first | (with_reducible refine TX.thenN ?_) | (with_reducible refine TC.ret ?_) | fail)
      all_goals exact TX.rt1 [] (.ren rfl)
    · rw [decide_eq_false h2]
      repeat' (with_reducible first | refine OL.st ?_ | refine OL.box ?_ | refine TC.region ?_ | refine TC.seq ?_ | refine OL.nil ?_ | refine TX.thenN ?_ | fail)
      (with_reducible refine TC.draw (id := 1) true 22 22 ?_ <;> refine OD.st 0 ?_ <;> refine OD.st 1 ?_ <;> refine OD.st 2 ?_ <;> refine OD.st 3 ?_ <;> refine OD.st 4 ?_ <;> refine OD.st 5 ?_ <;> refine OD.st 6 ?_ <;> refine OD.st 7 ?_ <;> refine OD.st 8 ?_ <;> refine OD.c1 9 hc Fn.slices_Contains_Lint_int ?_ <;> refine OD.st 10 ?_ <;> refine OD.st 11 ?_ <;> refine OD.st 12 ?_ <;> refine OD.st 13 ?_ <;> refine OD.st 14 ?_ <;> refine OD.st 15 ?_ <;> refine OD.st 16 ?_ <;> refine OD.sD 21 ?_ ?_ <;> (intro hc; try (exfalso; omega)) <;> (first | (with_reducible refine OD.st 17 ?_) | (with_reducible refine OD.of 17 ?_)) <;> refine OD.st 18 ?_ <;> refine OD.st 19 ?_ <;> refine OD.st 20 ?_ <;> refine OD.st 21 ?_ <;> refine OD.dn ?_)
      all_goals repeat' (first | (with_reducible refine TX.thenN ?_) | (with_reducible refine TC.ret ?_) | fail)
      all_goals refine TX.rt1 [] (.bool ?_)
      all_goals simp
theorem s_starts (l : List Cls) (hs : Short l) (os sl : List (List Int)) {k : Nat} (hk : k < sl.length) (hkl : k < l.length) (hsl : sl.length ≤ 1000) : V.Spec Tryz.prog Fc.turn_schema_starts [.ep [clssA l, rows os, rows sl] 0, V.int k] [] (V.bool (decide ((clsAt l k).2.2.map (·.1)).Nodup && !(clsAt l k).2.2.any (iniBad sl[k]))) [] := by
  have e : clsAt l k = l[k] := by rw [clsAt, getD_lt hkl]
  have hb := (hs.2 l[k] (List.getElem_mem _)).2.2
  rw [e]
  have h1 := s_each_NI l[k].2.2 (·.1) hb
  have h2 := s_turn_once (l[k].2.2.map (·.1)) (by rw [List.length_map]; omega)
  have h3 := s_slices_ContainsFunc_Lapi_BindInit_api_BindInit l[k].2.2 (iniBad sl[k])
  generalize hie : l[k].2.2 = is at *
  refine V.Spec.enter Tryz.tabOK Tryz.mixed Fn.turn_schema_starts rfl rfl rfl fun B hB => ?_
  repeat' (first | (with_reducible first | refine OL.st ?_ | refine OL.box ?_ | refine TC.region ?_ | refine TC.seq ?_ | refine OL.nil ?_ | refine TX.thenN ?_) | ((with_reducible refine TC.draw (id := 1) true 9 9 ?_) <;> (with_reducible refine OD.st 0 ?_) <;> (with_reducible refine OD.st 1 ?_) <;> (with_reducible refine OD.st 2 ?_) <;> (with_reducible refine OD.st 3 ?_) <;> (with_reducible refine OD.st 4 ?_) <;> (with_reducible refine OD.st 5 ?_) <;> (with_reducible refine OD.st 6 ?_) <;> (with_reducible refine OD.st 7 ?_) <;> (with_reducible refine OD.st 8 ?_) <;> (with_reducible refine OD.dn ?_)) | fail)
  simp only [hie]
  skip
  refine OL.c h1 Fn.turn_each_api_BindInit_int ?_ (hle := by exact ⟨.ren rfl, LE.fun_ (first' := []) (caps' := []) Fn.turn_schema_starts_1 rfl trivial trivial (fun x hx => s_starts_1 x), trivial⟩)
  skip
  refine OL.c h2 Fn.turn_once ?_
  cases ho : decide (is.map (·.1)).Nodup
  · repeat' (with_reducible first | refine OL.st ?_ | refine OL.nil ?_ | refine TX.thenN ?_ | refine OL.gOff ?_ | refine TC.ret ?_ | fail)
    exact TX.rt1 [] (.ren rfl)
  · repeat' (first | (with_reducible refine OL.st ?_) | (with_reducible refine OL.gOn ?_) | fail)
    refine OL.frzA 0 ?_
    refine OL.frzA 1 ?_
    refine OL.c h3 Fn.slices_ContainsFunc_Lapi_BindInit_api_BindInit ?_ (hle := by exact ⟨.ren rfl, LE.fun_ (first' := []) (caps' := [.ep [.ep [clssA l, rows os, rows sl] 0] 0, .ep [V.int k] 0]) Fn.turn_schema_starts_2 rfl trivial ⟨.ren rfl, .ren rfl, trivial⟩ (fun x hx => s_starts_2 l os sl hk hsl x), trivial⟩)
    repeat' (with_reducible first | refine OL.st ?_ | refine OL.nil ?_ | refine TX.thenN ?_ | refine OL.gOn ?_ | refine TC.ret ?_ | fail)
    exact TX.rt1 [] (.ren rfl)
end Go.Proofs
