/- Lemmas for the claim, part 5; no conditions. -/
import Derived.Test.YtdjhogobbbnddaaGreatQ4
import Derived.Laws.Cells
namespace Go.W
open Go
section
variable {P:Program} {ops:Array Oper} {Q:Exit→Act→World→Prop} {Kc:Act→World→Prop} {w w':World} {a:Act}
variable {N:Nat} {D:List Deferred} {ρ:List (Nat × Value)} {d T X Y:Nat} {pos:String} {af:Array Edge} {x y z:Operand} {u v:Value} {g:Option (Nat × Bool)}
/-! ### Arrays and structs YaJ a pointer -/
theorem Yci {m:Nat→Nat} {b E:Nat} {cs vs:List Value} (h:Box m w b cs E) :
  Touch (some b) m w m (w.setRow b vs.toArray)∧Box m (w.setRow b vs.toArray) b vs E:=by
 have hoth:∀ k,k≠b→(w.setRow b vs.toArray).heap[k]?=w.heap[k]?:=fun k hk=>setRow_other w b k _ hk
 have hs:(w.setRow b vs.toArray).heap.size=w.heap.size:=by simp
 refine ⟨⟨⟨rfl,rfl,rfl,by omega,fun k _ hk=>hoth k (by simpa using hk)⟩,fun _ _ _=>rfl,⟨by omega,fun _ _=>Nat.le_refl _,fun k i c hi hc=>?_⟩⟩,setRow_heap w b cs.toArray vs.toArray E _ h.heap,h.lim⟩;have hne:k≠b:=fun e=>by subst e;rw [h.lim] at hi;omega
 rw [World.cell?_of_block (w:=w) (hoth k hne)];exact hc
/-! ### Results in memory -/
/-! ### Bits -/
theorem YcX {i:Int} (h0:0≤i) (h1:i≤18446744073709551615):IntKind.u64.wrap i=i:=by
 simp [IntKind.wrap,IntKind.signed,IntKind.bits];omega
theorem YtP (x:Nat) (hx:x < 2 ^ 64):(BitVec.ofInt IntKind.u64.bits (x:Int)).toNat=x:=by
 simp [IntKind.bits];omega
theorem Yt9 {x:Nat} (h:x < 2 ^ 64):(x:Int)≤18446744073709551615:=by
 have:(2:Nat) ^ 64=18446744073709551616:=by decide
 omega
theorem YmQ {p q:Nat} (hE:Env N D a ρ) (hx:ev ρ x=some (.int .u64 (p:Int))) (hy:ev ρ y=some (.int .u64 (q:Int))) (hp:p < 2 ^ 64) (hq:q < 2 ^ 64) :
  (execOp a.eval ⟨some d,.binOp .or X x y Y,T,pos,af,g⟩).run P w=.ok (.value (.int .u64 ((p ||| q:Nat):Int))) w:=by
 have hpq:p ||| q < 2 ^ 64:=Nat.or_lt_two_pow hp hq;have e3:p % 2 ^ IntKind.u64.bits=p:=Nat.mod_eq_of_lt hp;have e4:q % 2 ^ IntKind.u64.bits=q:=Nat.mod_eq_of_lt hq;have e5:=YcX (Int.natCast_nonneg _) (Yt9 hpq);simp only [execOp,hE.ev hx,hE.ev hy,binOp,eqGuard,Op.intBits];simp [e3,e4,e5]
theorem Yjx {c:Int} (hE:Env N D a ρ) (hy:ev ρ y=some (.int .i64 c)) (h0:0≤c) (h1:c < 64) :
  (execOp a.eval ⟨some d,.binOp .shl X (.const (.int .u64 1)) y Y,T,pos,af,g⟩).run P w=.ok (.value (.int .u64 ((1 <<< c.toNat:Nat):Int))) w:=by
 have hlt:1 <<< c.toNat < 2 ^ 64:=by rw [Nat.one_shiftLeft];exact Nat.pow_lt_pow_right (by omega) (by omega)
 have hm:min c.toNat 64=c.toNat:=by omega
 have hc:¬ c < 0:=by omega
 have e:(1*2 ^ c.toNat:Int)=((1 <<< c.toNat:Nat):Int):=by rw [Nat.one_shiftLeft];simp
 have ha:a.eval (.const (.int .u64 1))=.int .u64 1:=rfl;simp only [execOp,ha,hE.ev hy,binOp,eqGuard,Op.shift];simp only [hc,if_false,IntKind.bits,hm,e];have e5:=YcX (Int.natCast_nonneg _) (Yt9 hlt);generalize (1 <<< c.toNat:Nat)=q at *
 simp [e5]
/-! ### Slice expressions -/
theorem RS.sliced {α:Type} {sz:Nat} {C:Ycl α} {m:Nat→Nat} {xs:List α} {b o cap l h:Nat} (hcap:xs.length≤cap) (hm:cap≤maxLen)
  (hel:∀ i x,xs[i]?=some x→∃ cs,cs.length=sz∧YaA m w ⟨b,o+i*sz,none⟩ cs∧C m w cs x) (hl:l≤h) (hh:h≤xs.length) :
  RS sz C m w (.slice (some (if cap=l then ⟨b,o,none⟩ else (⟨b,o,none⟩:Addr).add (l*sz))) (h-l) (cap-l)) ((xs.take h).drop l):=by
 have hlen:((xs.take h).drop l).length=h-l:=by simp;omega
 by_cases e:cap=l
 ·rw [if_pos e];refine .inr (.inl ⟨b,o,cap-l,by rw [hlen],by rw [hlen];omega,by omega,fun i x hx=>?_⟩);have:=(List.getElem?_eq_some_iff.1 hx).1
  omega
 ·rw [if_neg e,Yak];refine .inr (.inl ⟨b,o+l*sz,cap-l,by rw [hlen],by rw [hlen];omega,by omega,fun i x hx=>?_⟩);have hi:i < h-l:=by rw [← hlen];exact (List.getElem?_eq_some_iff.1 hx).1
  rw [List.getElem?_drop,List.getElem?_take,if_pos (by omega)] at hx;obtain ⟨cs,a1,a2,a3⟩:=hel (l+i) x hx;refine ⟨cs,a1,?_,a3⟩;rw [show o+l*sz+i*sz=o+(l+i)*sz by rw [Nat.add_mul];omega];exact a2
/-! ### .. taken first -/
variable {S:World→Prop} {fi fuel i:Nat} {listed:Array Bool}
end
end Go.W
