/- Lemmas for the claim; no conditions. -/
import Derived.Test.YtdjhogobbbnddaaGreatC23
import Derived.Test.YtdjhogobbbnddaaGreatC19
import Derived.Test.YtdjhogobbbnddaaGreatC18
import Derived.Test.YtdjhogobbbnddaaGreatC28
namespace Go.V
open Go Go.W
section
variable {C:Cx} {ops:Array Oper} {Q:Qt} {ρ ρ':Ro} {η η' η2:Eta} {rest:List Oper} {T d X Y E:Nat} {pos:String} {af:Array Edge} {x y z:Operand}
theorem OL.rebase (k:∀ (B':Base) (hB':B'.γ.length=η.length),(∀ m w γ η',In B' m w γ η'→In C.B m w γ η')→(∀ (i:Nat) o,η[i]?=some o→∃ v,B'.γ[i]?=some v∧YcR B'.m B'.w B'.γ v o) →
  OL ⟨C.P,C.tab,C.hT,C.hm,C.N,C.D,B',η.length,hB',C.r,C.k⟩ ops Q rest ρ η):OL C ops Q rest ρ η:=by
 rintro a w ⟨m,γ,ρc,hE,hR,hI⟩;have h:=k ⟨m,w,Ybl γ η,γ⟩ hI.heap.len (fun m' w' γ' η' h=>h.comp hI.far (Yaq hI) hI.pre) (fun i o ho=>hI.heap.get ho) a w ⟨m,γ,ρc,hE,hR,hI.rebase (.refl _)⟩;exact h
theorem Zb6 {p q:Int} (r:Int) (k:OL C ops Q rest ((d,.raw (.int .u64 r))::ρ) η) (hx:ev2 ρ x=some (.raw (.int .u64 p)):=by with_unfolding_all exact rfl) (hy:ev2 ρ y=some (.raw (.int .u64 q)):=by with_unfolding_all exact rfl) (hd:Nat.blt d C.N=true:=by with_unfolding_all exact rfl) (hr:p+q=r:=by omega) (h0:0≤r:=by omega) (h1:r≤18446744073709551615:=by omega) :
  OL C ops Q (⟨some d,.binOp .add X x y Y,T,pos,af,none⟩::rest) ρ η:=by
 subst hr;exact ZaG (Yo8 hx hy h0 h1) hd k
theorem ZbZ {p q:Int} (r:Int) (k:OL C ops Q rest ((d,.raw (.int .u64 r))::ρ) η) (hx:ev2 ρ x=some (.raw (.int .u64 p)):=by with_unfolding_all exact rfl) (hy:ev2 ρ y=some (.raw (.int .u64 q)):=by with_unfolding_all exact rfl) (hd:Nat.blt d C.N=true:=by with_unfolding_all exact rfl) (hr:p*q=r:=by omega) (h0:0≤r:=by omega) (h1:r≤18446744073709551615:=by omega) :
  OL C ops Q (⟨some d,.binOp .mul X x y Y,T,pos,af,none⟩::rest) ρ η:=by
 subst hr;exact ZaG (YoL hx hy h0 h1) hd k
theorem Zdr (p q r:Nat) (hr:p &&& q=r) (k:OL C ops Q rest ((d,.raw (.int .u64 (r:Int)))::ρ) η) (hx:ev2 ρ x=some (.raw (.int .u64 (p:Int))):=by with_unfolding_all exact rfl) (hy:ev2 ρ y=some (.raw (.int .u64 (q:Int))):=by with_unfolding_all exact rfl) (hd:Nat.blt d C.N=true:=by with_unfolding_all exact rfl) (h0:p < 2 ^ 64:=by omega) (h1:q < 2 ^ 64:=by omega) :
  OL C ops Q (⟨some d,.binOp .and X x y Y,T,pos,af,none⟩::rest) ρ η:=by
 subst hr;exact ZaG (Yf2 hx hy h0 h1) hd k
theorem Zb0 (p r:Nat) (c:Int) (hr:p >>> c.toNat=r) (k:OL C ops Q rest ((d,.raw (.int .u64 (r:Int)))::ρ) η) (hx:ev2 ρ x=some (.raw (.int .u64 (p:Int))):=by with_unfolding_all exact rfl) (hy:ev2 ρ y=some (.raw (.int .u64 c)):=by with_unfolding_all exact rfl) (hd:Nat.blt d C.N=true:=by with_unfolding_all exact rfl) (h0:0≤c:=by omega) (h1:c < 64:=by omega) :
  OL C ops Q (⟨some d,.binOp .shr X x y Y,T,pos,af,none⟩::rest) ρ η:=by
 subst hr;exact ZaG (Yph hx hy h0 h1) hd k
theorem ZcL {i:Int} (k:OL C ops Q rest ((d,.raw (.int .u64 i))::ρ) η) (h1:(C.tab X).map (·.sh)=some (.int .i64):=by with_unfolding_all exact rfl) (h2:(C.tab Y).map (·.sh)=some (.int .u64):=by with_unfolding_all exact rfl) (hx:ev2 ρ x=some (.raw (.int .i64 i)):=by with_unfolding_all exact rfl) (hd:Nat.blt d C.N=true:=by with_unfolding_all exact rfl) (h0:0≤i:=by omega) (h3:i≤9223372036854775807:=by omega) :
  OL C ops Q (⟨some d,.convert X Y x,T,pos,af,none⟩::rest) ρ η:=ZaG (YnO C.hT h1 h2 hx h0 h3) hd k
theorem Zds {i:Int} (k:OL C ops Q rest ((d,V.int i)::ρ) η) (h1:(C.tab X).map (·.sh)=some (.int .u64):=by with_unfolding_all exact rfl) (h2:(C.tab Y).map (·.sh)=some (.int .i64):=by with_unfolding_all exact rfl) (hx:ev2 ρ x=some (.raw (.int .u64 i)):=by with_unfolding_all exact rfl) (hd:Nat.blt d C.N=true:=by with_unfolding_all exact rfl) (h0:0≤i:=by omega) (h3:i≤9223372036854775807:=by omega) :
  OL C ops Q (⟨some d,.convert X Y x,T,pos,af,none⟩::rest) ρ η:=ZaG (YnP C.hT h1 h2 hx h0 h3) hd k
end
end Go.V
namespace Go.Proofs
open Go Go.W Go.V
theorem YsF (n:Nat) (hn:n < 4294967296):V.Spec Tryz.prog 210 [V.u64 1,V.u64 n] [] (.tp [V.u64 0,V.u64 n]) []:=by
 have hand:n &&& 4294967295=n:=by
  have:=Nat.and_two_pow_sub_one_eq_mod n 32
  rw [show (2 ^ 32-1:Nat)=4294967295 from rfl] at this;rw [this,Nat.mod_eq_of_lt (by omega)]
 have h0a:(0 &&& 4294967295:Nat)=0:=rfl;have h1a:(1 &&& 4294967295:Nat)=1:=rfl;have hshr:n >>> ((32:Int).toNat)=0:=by
  rw [show ((32:Int).toNat)=32 from rfl,Nat.shiftRight_eq_div_pow];exact Nat.div_eq_of_lt (by omega)
 refine Se Tryz.func210 rfl rfl rfl fun B hB=>?_;refine goW ?_;refine Zb0 1 0 32 (by decide) ?_;refine goW ?_;refine Zdr n 4294967295 n hand ?_;refine goW ?_;refine Zb0 n 0 32 hshr ?_;refine goW ?_;refine ZbZ (p:=1) (n:Int) ?_;refine goW ?_;refine ZbZ 0 ?_;refine goW ?_;refine Zb0 n 0 32 hshr ?_;refine goW ?_;refine Zb6 (p:=0) (q:=0) 0 ?_;refine goW ?_;refine Zb0 0 0 32 (by decide) ?_;refine goW ?_;refine ZbZ 0 ?_;refine goW ?_;refine Zb6 (p:=0) (q:=0) 0 ?_;refine goW ?_;refine ZbZ 0 ?_;refine goW ?_;refine Zb6 (p:=0) (q:=0) 0 ?_;refine goW ?_;refine Zb0 0 0 32 (by decide) ?_;refine goW ?_;refine Zb6 (p:=0) (q:=0) 0 ?_;refine goW ?_;refine ZbZ (n:Int) ?_;refine goW ?_;exact ZaA [] (.ren rfl) (.ren rfl)
theorem YvW (n:Nat) (hn:n < 4294967296):V.Spec Tryz.prog 191 [V.u64 1,V.u64 n] [] (.tp [V.u64 0,V.u64 n]) []:=by
 have h:=YsF n hn;refine Se Tryz.func191 rfl rfl rfl fun B hB=>?_;refine goW ?_;refine OL.c h Tryz.func210 ?_;refine goW ?_;exact ZaA [] (.ren rfl) (.ren rfl)
set_option maxHeartbeats 2000000 in
theorem Yrd (n:Nat) (h1:1≤n) (hn:n≤1000):V.Spec Tryz.prog 164 [ints [-1],V.int n] [] (.hs 0) [.gs false 3 1 none ((List.replicate n (-1)).map V.int)]:=by
 have hm:=YvW n (by omega);have h11:([-1]:List Int).length=1:=rfl;refine Se Tryz.func164 rfl rfl rfl fun B hB=>?_;refine goW ?_;refine ZcL ?_;refine goW ?_;refine ZcL ?_;refine OL.c hm Tryz.func191 ?_;refine goW ?_;refine Zds ?_;refine Zb1 (l:=n) (c:=n) (i:=(n:Int)) (j:=(n:Int)) (u:=V.int 0) (u0:=V.int 0) ?_ (fun m w γ=>.raw rfl) (hi:=rfl) (hj:=rfl);have hr0:(List.replicate n (V.int 0)).length=n:=by simp
 obtain ⟨xs0,hxs0⟩:∃ xs0,xs0=List.replicate n (V.int 0):=⟨_,rfl⟩;rw [← hxs0] at hr0 ⊢;refine goW ?_;refine OL.rebase fun B' hB' hu hobj=>?_;obtain ⟨v,hv,hok⟩:=hobj 0 _ rfl;obtain ⟨g,cap,rfl,hcap⟩:=Yhn hok (by omega);clear hok hobj;rw [hr0] at hv hcap;refine Za5 (ZbR (t:=31) (by with_unfolding_all exact rfl) hv) ?_;refine ZcK 1 ?_;obtain ⟨xs1,hxs1⟩:∃ xs1,xs1=xs0.take 0++(([-1]:List Int).take 1).map V.int++xs0.drop (0+1):=⟨_,rfl⟩;have hl1:xs1.length=n:=by rw [hxs1];simp;omega
 have ht1:xs1.take 1=List.replicate 1 (V.int (-1)):=by rw [hxs1];simp
 rw [← hxs1];refine YaF ?_;refine Zat (fun s:Nat × List AV=>[(7,.hs 0),(8,V.int s.1)]) (fun s=>[.gs false 3 1 (some false) s.2]) (fun s=>(1≤s.1∧s.1≤n)∧s.2.length=n∧s.2.take s.1=List.replicate s.1 (V.int (-1))) (fun s=>n-s.1) (1,xs1) [0] ⟨⟨Nat.le_refl _,h1⟩,hl1,ht1⟩ ?_;rintro ⟨k,xs⟩ ⟨⟨hk1,hkn⟩,hxl,hxt⟩;dsimp only at hk1 hkn hxl hxt ⊢;by_cases hlt:k < n
 ·refine YaF ?_;refine Zbd (ZbR (t:=7) (by with_unfolding_all exact rfl) hv) ?_;(refine Zal (id:=9) true 7 10 ?_<;>refine Zao 0 ?_<;>refine Zae 1 2 ?_<;>refine OD.st 3 ?_ (h:=(Ypl (l:=k)))<;>refine Zae 4 5 ?_<;>refine OD.st 6 ?_ (h:=(Yvi (h:=k)))<;>(refine Zac 7 ?_;refine Zdq (min k (n-k)) ?_;refine OL.nil ?_;refine Zab ?_)<;>refine Zae 8 9 ?_<;>refine Zaa ?_)
  all_goals refine YaF ?_
  all_goals refine Zbo (Zdp (t:=7) (by with_unfolding_all exact rfl) hv) ?_
  all_goals
   have e3:xs.take (min k (n-k))=List.replicate (min k (n-k)) (V.int (-1)):=by
    have e4:=congrArg (List.take (min k (n-k))) hxt;rw [List.take_take,List.take_replicate,Nat.min_eq_left (Nat.min_le_left _ _)] at e4;exact e4
   have e5:xs.take (0+k)++(xs.drop 0).take (min k (n-k))=List.replicate (k+min k (n-k)) (V.int (-1)):=by
    rw [Nat.zero_add,List.drop_zero,hxt,e3,List.replicate_append_replicate]
   obtain ⟨ys,hys⟩:∃ ys,ys=xs.take (0+k)++(xs.drop 0).take (min k (n-k))++xs.drop (0+k+min k (n-k)):=⟨_,rfl⟩;have hyl:ys.length=n:=by rw [hys,e5];simp;omega
   have hyt:ys.take (k+min k (n-k))=List.replicate (k+min k (n-k)) (V.int (-1)):=by
    rw [hys,e5];exact List.take_left' (by simp)
   rw [← hys];exact Zan (k+min k (n-k),ys) [0] ⟨⟨by dsimp only;omega,by dsimp only;omega⟩,hyl,hyt⟩ (by dsimp only;omega) (ho:=⟨⟨_,rfl,OE.ren rfl⟩,trivial⟩) (hr:=⟨⟨_,rfl,LE.ren rfl⟩,⟨_,rfl,LE.int (by omega)⟩,trivial⟩)
 ·obtain rfl:k=n:=by omega
  rw [← hxl,List.take_length] at hxt;refine YaF ?_;refine Za0 hu ?_;refine Zad [0] (.ren rfl) (ho:=⟨⟨_,rfl,OE.gsS (by rw [List.map_replicate,← hxl];exact hxt)⟩,trivial⟩)
end Go.Proofs
