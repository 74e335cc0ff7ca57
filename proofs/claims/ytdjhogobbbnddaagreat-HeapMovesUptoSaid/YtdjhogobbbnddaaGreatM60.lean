/- Lemmas for the claim, part 60; no conditions. -/
import Derived.Test.YtdjhogobbbnddaaGreatM0
import Derived.Test.YtdjhogobbbnddaaGreatQ22
import Derived.Test.YtdjhogobbbnddaaGreatQ23
import Derived.Test.YtdjhogobbbnddaaGreatQ19
import Derived.Test.YtdjhogobbbnddaaGreatQ18
import Derived.Test.YtdjhogobbbnddaaGreatM52
namespace Go.Proofs
theorem Yy1 {α β:Type} {f g:α→List β}:∀ {l:List α},(∀ x∈l,f x=g x)→l.flatMap f=l.flatMap g
 | [],_=>rfl
 | x::l,h=>by rw [List.flatMap_cons,List.flatMap_cons,h x (List.mem_cons_self ..),Yy1 fun y hy=>h y (List.mem_cons_of_mem _ hy)]
section
variable {sh:Int→Option Nat} {G H:List Int} {sg sk:List Nat}
theorem YyY:∀ (n:Nat) (row:List (Nat × Nat)),(∀ x∈row,wAt G x.1=wAt H x.2)→adsF sh G n (row.map (·.1))=adsF sh H n (row.map (·.2))
 | _,[],_=>rfl
 | n,x::row,h=>by
   rw [List.map_cons,List.map_cons,adsF,adsF,h x (List.mem_cons_self ..),YyY _ row fun y hy=>h y (List.mem_cons_of_mem _ hy)]
theorem Bis.new1 {a b:List Int} {row:List (Nat × Nat)} (h:Bis sh G H a b row) {w v:Int} (hc:Cor G H row w v):YqK sh G (row.map (·.1)) w=YqK sh H (row.map (·.2)) v:=by
 rcases hc with ⟨z1,z2,e⟩|⟨z1,z2,hm⟩
 ·rw [YqK,YqK,if_pos z1,if_pos z2,e]
 ·rw [YqK,YqK,if_neg z1,if_neg z2,adW,adW,YyY 1 row h.hd,Yq7 h.ok.n1 h.ok.n2 hm]
theorem Bis.col {a b:List Int} {row:List (Nat × Nat)} (h:Bis sh G H a b row) (h1:row.map (·.1)=YjF sh G a) (h2:row.map (·.2)=YjF sh H b):Yt8 sh G a=Yt8 sh H b∧YuJ sh G a=YuJ sh H b:=by
 rw [Yt8,Yt8,YuJ,YuJ,← h1,← h2];refine ⟨?_,Yh1.map h.rt fun w v _ _ hc=>h.new1 hc⟩;rw [List.flatMap_map,List.flatMap_map];congr 1;refine Yy1 fun x hx=>?_;rw [rowW,rowW,h.hd x hx,Yh1.map (h.sl x hx) fun w v _ _ hc=>h.new1 hc]
theorem YAt (hG:GH sh G sg) (hH:GH sh H sk) (R1 R2:List Nat):∀ (ra rb:List Nat),(∀ x∈ra,x∈sg)→(∀ x∈rb,x∈sk)→ra.flatMap (rowW sh G R1)=rb.flatMap (rowW sh H R2) →
  ra.length=rb.length∧∀ x∈ra.zip rb,wAt G x.1=wAt H x.2∧(slotsW sh G x.1).map (YqK sh G R1)=(slotsW sh H x.2).map (YqK sh H R2)
 | [],[],_,_,_=>⟨rfl,by simp⟩
 | [],y::rb,_,_,h=>by simp [rowW] at h
 | x::ra,[],_,_,h=>by simp [rowW] at h
 | x::ra,y::rb,h1,h2,h=>by
   rw [List.flatMap_cons,List.flatMap_cons,rowW,rowW,List.cons_append,List.cons_append,List.cons.injEq] at h;have l1:=hG.slots_len (h1 x (List.mem_cons_self ..));have l2:=hH.slots_len (h2 y (List.mem_cons_self ..));have hl:((slotsW sh G x).map (YqK sh G R1)).length=((slotsW sh H y).map (YqK sh H R2)).length:=by rw [List.length_map,List.length_map,l1,l2,h.1]
   obtain ⟨e1,e2⟩:=List.append_inj h.2 hl;obtain ⟨i1,i2⟩:=YAt hG hH R1 R2 ra rb (fun z hz=>h1 z (List.mem_cons_of_mem _ hz)) (fun z hz=>h2 z (List.mem_cons_of_mem _ hz)) e2;refine ⟨by simp [i1],fun z hz=>?_⟩;rw [List.zip_cons_cons] at hz;rcases List.mem_cons.1 hz with rfl|hz
   ·exact ⟨h.1,e1⟩
   ·exact i2 z hz
theorem YAQ {L:List Nat} (h:L.Pairwise (· < ·)) {i j:Nat} (hi:i < L.length) (hj:j < L.length) (e:L.getD i 0=L.getD j 0):i=j:=by
 rw [List.getD_eq_getElem?_getD,List.getD_eq_getElem?_getD,List.getElem?_eq_getElem hi,List.getElem?_eq_getElem hj] at e;simp only [Option.getD_some] at e;rw [List.pairwise_iff_getElem] at h;rcases Nat.lt_trichotomy i j with q|q|q
 ·have:=h i j hi hj q;omega
 ·exact q
 ·have:=h j i hj hi q;omega
theorem YA7 {a b:List Nat} {x y:Nat} (hx:x∈a) (hy:y∈b) (e:a.idxOf x=b.idxOf y):(x,y)∈a.zip b:=by
 have h1:=List.idxOf_lt_length_of_mem hx;have h2:=List.idxOf_lt_length_of_mem hy;refine List.mem_iff_getElem.2 ⟨a.idxOf x,by rw [List.length_zip];omega,?_⟩;rw [List.getElem_zip];refine Prod.ext (List.getElem_idxOf h1) ?_;simp only [e];exact List.getElem_idxOf h2
theorem YzU {row:List Nat} {x:Nat} (hx:x∈row):1≤adW sh G row x:=(Ymv _ _ _ (Ysm (sh:=sh) (W:=G) hx)).1
theorem Bis.of_col (hG:GH sh G sg) (hH:GH sh H sk) {a b:List Int} (ha:∀ w∈a,okW sg w=true) (hb:∀ v∈b,okW sk v=true) (e1:Yt8 sh G a=Yt8 sh H b) (e2:YuJ sh G a=YuJ sh H b):Bis sh G H a b ((YjF sh G a).zip (YjF sh H b)):=by
 have m1:=YpA hG ha;have m2:=YpA hH hb;rw [Yt8,Yt8,List.cons.injEq] at e1;rw [YuJ,YuJ] at e2;generalize YjF sh G a=ra at *
 generalize YjF sh H b=rb at *
 obtain ⟨hl,hz⟩:=YAt hG hH ra rb ra rb (fun x hx=>(m1.ok.re x hx).1) (fun x hx=>(m2.ok.re x hx).1) e1.2;have z1:(ra.zip rb).map (·.1)=ra:=List.map_fst_zip (by omega);have z2:(ra.zip rb).map (·.2)=rb:=List.map_snd_zip (by omega);have hads:adsF sh G 1 ra=adsF sh H 1 rb:=by
  have:=YyY (sh:=sh) 1 (ra.zip rb) fun x hx=>(hz x hx).1
  rwa [z1,z2] at this
 have key:∀ w v,okW sg w=true→okW sk v=true→(Yax G w≠0→Yax G w∈ra)→(Yax H v≠0→Yax H v∈rb)→YqK sh G ra w=YqK sh H rb v→Cor G H (ra.zip rb) w v:=by
  intro w v hw hv k1 k2 e;unfold YqK at e;by_cases z1:Yax G w=0
  ·have p1:=(hG.obj_iff hw).1 z1;rw [if_pos z1] at e;by_cases z2:Yax H v=0
   ·rw [if_pos z2] at e;exact .inl ⟨z1,z2,e⟩
   ·rw [if_neg z2] at e;have:=YzU (sh:=sh) (G:=H) (k2 z2)
    omega
  ·rw [if_neg z1] at e;have q1:=YzU (sh:=sh) (G:=G) (k1 z1);by_cases z2:Yax H v=0
   ·have p2:=(hH.obj_iff hv).1 z2;rw [if_pos z2] at e;omega
   ·rw [if_neg z2] at e;refine .inr ⟨z1,z2,YA7 (k1 z1) (k2 z2) ?_⟩;have e':adW sh G ra (Yax G w)=adW sh H rb (Yax H v):=by omega
    rw [adW,adW,hads] at e';have i1:=List.idxOf_lt_length_of_mem (k1 z1);have i2:=List.idxOf_lt_length_of_mem (k2 z2);exact YAQ (YoY (sh:=sh) (W:=H) 1 rb) (by rw [YgM];omega) (by rw [YgM];omega) e'
 have mz:∀ x∈ra.zip rb,x.1∈ra∧x.2∈rb:=fun x hx=>by
  have:=List.of_mem_zip (a:=x.1) (b:=x.2) hx
  exact this
 refine ⟨⟨by rw [z1];exact m1.ok.nd,by rw [z2];exact m2.ok.nd⟩,fun x hx=>(hz x hx).1,fun x hx=>Yh1.of (hz x hx).2 fun w v hw hv e=>?_,Yh1.of e2 fun w v hw hv e=>key w v (ha w hw) (hb v hv) (m1.root w hw) (m2.root v hv) e⟩;obtain ⟨x1,x2⟩:=mz x hx;exact key w v (YbW hG (m1.ok.re _ x1).1 w hw) (YbW hH (m2.ok.re _ x2).1 v hv) (m1.next _ x1 w hw) (m2.next _ x2 v hv) e
theorem YAa (hG:GH sh G sg) (hH:GH sh H sk) {a b:List Int} (ha:∀ w∈a,okW sg w=true) (hb:∀ v∈b,okW sk v=true):(Yt8 sh G a=Yt8 sh H b∧YuJ sh G a=YuJ sh H b)↔YdM sh G H a b=true:=by
 constructor
 ·rintro ⟨e1,e2⟩;exact Yot (Bis.of_col hG hH ha hb e1 e2)
 ·intro h;obtain ⟨row,hB,h1,h2⟩:=Yrg hG hH ha hb h;exact hB.col h1 h2
end
section
variable {sh:Int→Option Nat} {W:List Int} {st:List Nat}
theorem YAr {L l:List Int} {x:Int} {n:Nat} (h:L.drop n=x::l):wAt L n=x∧L.drop (n+1)=l∧n < L.length:=by
 have hn:n < L.length:=by
  rcases Nat.lt_or_ge n L.length with q|q
  ·exact q
  ·rw [List.drop_eq_nil_iff.2 q] at h;cases h
 rw [List.drop_eq_getElem_cons hn,List.cons.injEq] at h;exact ⟨by rw [wAt,List.getD_eq_getElem?_getD,List.getElem?_eq_getElem hn,Option.getD_some,h.1],h.2,hn⟩
abbrev YyD (sh:Int→Option Nat) (W:List Int) (R row:List Nat):List Int:=0::row.flatMap (rowW sh W R)
theorem YAj (h:GH sh W st) (R:List Nat) {pre suf:List Nat} (hs:∀ x∈pre,x∈st):(YyD sh W R (pre++suf)).drop (endF sh W 1 pre)=suf.flatMap (rowW sh W R):=by
 have hl:=YmV h R 1 pre hs;have e:YyD sh W R (pre++suf)=(0::pre.flatMap (rowW sh W R))++suf.flatMap (rowW sh W R):=by rw [YyD,List.flatMap_append];rfl
 rw [e,List.drop_append_of_le_length (by simp only [List.length_cons];omega),List.drop_eq_nil_iff.2 (by simp only [List.length_cons];omega),List.nil_append]
theorem Yy2 (h:GH sh W st) (R:List Nat) {row:List Nat} (hs:∀ x∈row,x∈st):(YyD sh W R row).length=endF sh W 1 row:=by
 have:=YmV h R 1 row hs
 simp only [YyD,List.length_cons];omega
theorem Yzs (h:GH sh W st) (R:List Nat) {pre suf:List Nat} {x:Nat} (hs:∀ y∈pre++x::suf,Re W st y) :
  wAt (YyD sh W R (pre++x::suf)) (endF sh W 1 pre)=wAt W x∧slotsW sh (YyD sh W R (pre++x::suf)) (endF sh W 1 pre)=(slotsW sh W x).map (YqK sh W R)∧endF sh W 1 pre+szW sh (wAt W x) < (YyD sh W R (pre++x::suf)).length∧hdB sh (YyD sh W R (pre++x::suf)) (endF sh W 1 pre)=true:=by
 have hx:=hs x (by simp);have hd:=YAj h R (pre:=pre) (suf:=x::suf) (fun y hy=>(hs y (by simp [hy])).1);have hl:=Yy2 h R (row:=pre++x::suf) (fun y hy=>(hs y hy).1);rw [List.flatMap_cons,rowW,List.cons_append] at hd;obtain ⟨e1,e2,e3⟩:=YAr hd;have hsl:=h.slots_len hx.1;have hend:endF sh W 1 pre+szW sh (wAt W x) < (YyD sh W R (pre++x::suf)).length:=by
  rw [hl,Yno,endF];have:=Yo1 (sh:=sh) (W:=W) (endF sh W 1 pre+1+szW sh (wAt W x)) suf
  omega
 refine ⟨e1,?_,hend,?_⟩
 ·rw [slotsW,e1,e2,List.take_append_of_le_length (by rw [List.length_map,hsl];exact Nat.le_refl _),List.take_of_length_le (by rw [List.length_map,hsl];exact Nat.le_refl _)]
 ·obtain ⟨k1,n,k2,k3⟩:=Ybd.1 (h.hd hx.1).2.2;rw [Ybd,e1];refine ⟨k1,n,k2,?_⟩;rw [szW,k2] at hend;exact hend
theorem YyO (h:GH sh W st) (R:List Nat) {row:List Nat} (hs:∀ y∈row,Re W st y):∀ (f:Nat) (pre suf:List Nat),row=pre++suf→(YyD sh W R row).length≤endF sh W 1 pre+f→startsF sh (YyD sh W R row) f (endF sh W 1 pre)=some (adsF sh W (endF sh W 1 pre) suf)
 | 0,pre,[],e,hf=>rfl
 | 0,pre,x::suf,e,hf=>by
   subst e;have:=(Yzs h R hs).2.2.1
   omega
 | f+1,pre,[],e,hf=>by
   subst e;have hl:=Yy2 h R (row:=pre++[]) (fun y hy=>(hs y hy).1);rw [List.append_nil] at hl;rw [startsF,if_neg (by rw [List.append_nil,hl];omega)];rfl
 | f+1,pre,x::suf,e,hf=>by
   have hat:=Yzs h R (pre:=pre) (suf:=suf) (x:=x) (by rw [← e];exact hs);rw [← e] at hat;have ih:=YyO h R hs f (pre++[x]) suf (by rw [e];simp) (by rw [Yno,endF,endF];omega);rw [Yno,endF,endF] at ih;rw [startsF,if_pos (by omega),if_pos hat.2.2.2,hat.1,ih,adsF];rfl
theorem YAM {row:List Nat} {x:Nat} (h:x∈row) (hn:row.Nodup):∃ pre suf,row=pre++x::suf∧row.idxOf x=pre.length:=by
 obtain ⟨pre,suf,e⟩:=List.append_of_mem h;refine ⟨pre,suf,e,?_⟩;subst e;rw [List.nodup_append] at hn;rw [List.idxOf_append,if_neg (fun hm=>hn.2.2 x hm x (by simp) rfl)];simp
theorem YBd {row pre suf:List Nat} {x:Nat} (e:row=pre++x::suf) (hi:row.idxOf x=pre.length):adW sh W row x=endF sh W 1 pre:=by
 rw [adW,hi,e,Ynh,List.getD_eq_getElem?_getD,List.getElem?_append_right (by rw [YgM];exact Nat.le_refl _),YgM,Nat.sub_self,adsF];rfl
theorem YAo (h:GH sh W st) {row:List Nat} (hr:RowOK W st row) {x:Nat} (hx:x∈row) :
  wAt (YyD sh W row row) (adW sh W row x)=wAt W x∧slotsW sh (YyD sh W row row) (adW sh W row x)=(slotsW sh W x).map (YqK sh W row):=by
 obtain ⟨pre,suf,e,hi⟩:=YAM hx hr.nd;rw [YBd e hi];have:=Yzs h row (pre:=pre) (suf:=suf) (x:=x) (by rw [← e];exact hr.re)
 rw [← e] at this;exact ⟨this.1,this.2.1⟩
theorem YAF (h:GH sh W st) {row:List Nat} {w:Int} (hw:okW st w=true) (hm:Yax W w≠0→Yax W w∈row):okW (adsF sh W 1 row) (YqK sh W row w)=true:=by
 unfold YqK;by_cases z:Yax W w=0
 ·rw [if_pos z];have p:=(h.obj_iff hw).1 z;unfold okW at hw ⊢;rcases p with p|p
  ·rw [if_pos p] at hw ⊢;exact hw
  ·subst p;rfl
 ·rw [if_neg z];have ha:=Ysm (sh:=sh) (W:=W) (hm z);have hp:=YzU (sh:=sh) (G:=W) (hm z);unfold okW;rw [if_neg (by omega)];have e:(2*(adW sh W row (Yax W w):Int) / 2).toNat=adW sh W row (Yax W w):=by omega
  rw [e];simp only [Bool.or_eq_true,Bool.and_eq_true,decide_eq_true_eq,List.contains_iff_mem];exact .inr ⟨by omega,ha⟩
theorem YA2 {row:List Nat} (hn:row.Nodup):∀ n∈adsF sh W 1 row,∃ x∈row,adW sh W row x=n:=fun n hn'=>by
 obtain ⟨k,hk,e⟩:=List.mem_iff_getElem.1 hn';have hk':k < row.length:=by rwa [YgM] at hk
 refine ⟨row[k],List.getElem_mem _,?_⟩;rw [adW,hn.idxOf_getElem,List.getD_eq_getElem?_getD,List.getElem?_eq_getElem hk];exact e
theorem Yz0 {R:Int→Int→Prop} {f:Int→Int}:∀ {l:List Int},(∀ w∈l,R w (f w))→Yh1 R l (l.map f)
 | [],_=>trivial
 | w::_,h=>⟨h w (List.mem_cons_self ..),Yz0 fun v hv=>h v (List.mem_cons_of_mem _ hv)⟩
section
variable {ws:List Int} (h:GH sh W st) (hw:∀ w∈ws,okW st w=true)
include h hw
theorem YAH:(Yt8 sh W ws).length≤W.length:=by
 have m:=YpA h hw;have:=Yy2 h (YjF sh W ws) (row:=YjF sh W ws) (fun x hx=>(m.ok.re x hx).1)
 rw [Yt8,this];exact YmD h m.ok
theorem YAz:starts sh (Yt8 sh W ws)=some (adsF sh W 1 (YjF sh W ws)):=by
 have m:=YpA h hw;have hl:=YAH h hw;have h0:=Yah h.eq;have:=YyO h (YjF sh W ws) m.ok.re (Yt8 sh W ws).length [] (YjF sh W ws) rfl (by have e:(YyD sh W (YjF sh W ws) (YjF sh W ws)).length=(Yt8 sh W ws).length:=rfl;omega)
 rw [endF] at this;rw [starts,if_neg (by rw [not_or,not_or];exact ⟨by rw [Yt8];simp,by omega,by rw [Yt8];simp [wAt]⟩)];exact this
theorem YAD:GH sh (Yt8 sh W ws) (adsF sh W 1 (YjF sh W ws)):=by
 have m:=YpA h hw;refine ⟨YAz h hw,fun n hn=>?_⟩;obtain ⟨x,hx,rfl⟩:=YA2 m.ok.nd n hn;obtain ⟨e1,e2⟩:=YAo h m.ok hx;have hx':=m.ok.re x hx;show YkL sh (YyD sh W (YjF sh W ws) (YjF sh W ws)) _ _=true;rw [YkL,e1,e2,hx'.2];simp only [decide_true,Bool.true_or,Bool.true_and,List.all_eq_true];intro v hv;obtain ⟨w,hw',rfl⟩:=List.mem_map.1 hv;exact YAF h (YbW h hx'.1 w hw') (m.next x hx w hw')
theorem YAd:∀ v∈YuJ sh W ws,okW (adsF sh W 1 (YjF sh W ws)) v=true:=by
 have m:=YpA h hw;intro v hv;obtain ⟨w,hw',rfl⟩:=List.mem_map.1 hv;exact YAF h (hw w hw') (m.root w hw')
theorem YAc:∀ n∈adsF sh W 1 (YjF sh W ws),wAt (Yt8 sh W ws) n / 64=0∧wAt (Yt8 sh W ws) n < 64:=by
 have m:=YpA h hw;intro n hn;obtain ⟨x,hx,rfl⟩:=YA2 m.ok.nd n hn;obtain ⟨e1,_⟩:=YAo h m.ok hx;have hx':=m.ok.re x hx;rw [Yt8,e1];have h1:=h.nonneg hx'.1;have h2:=hx'.2;exact ⟨h2,by omega⟩
theorem YA3:Bis sh W (Yt8 sh W ws) ws (YuJ sh W ws) ((YjF sh W ws).zip (adsF sh W 1 (YjF sh W ws))):=by
 have m:=YpA h hw;have hC:=YAD h hw;have hnf:=YAc h hw;have hl:=YgM (sh:=sh) (W:=W) 1 (YjF sh W ws);have z1:((YjF sh W ws).zip (adsF sh W 1 (YjF sh W ws))).map (·.1)=YjF sh W ws:=List.map_fst_zip (by omega);have z2:((YjF sh W ws).zip (adsF sh W 1 (YjF sh W ws))).map (·.2)=adsF sh W 1 (YjF sh W ws):=List.map_snd_zip (by omega);have mz:∀ x∈(YjF sh W ws).zip (adsF sh W 1 (YjF sh W ws)),x.1∈YjF sh W ws∧x.2=adW sh W (YjF sh W ws) x.1:=fun x hx=>by
  obtain ⟨k,hk,rfl⟩:=List.mem_iff_getElem.1 hx;rw [List.length_zip] at hk;rw [List.getElem_zip];refine ⟨List.getElem_mem _,?_⟩;simp only;rw [adW,m.ok.nd.idxOf_getElem,List.getD_eq_getElem?_getD,List.getElem?_eq_getElem (by omega)];rfl
 have zm:∀ x∈YjF sh W ws,(x,adW sh W (YjF sh W ws) x)∈(YjF sh W ws).zip (adsF sh W 1 (YjF sh W ws)):=fun x hx=>by
  have hi:=List.idxOf_lt_length_of_mem hx;refine List.mem_iff_getElem.2 ⟨(YjF sh W ws).idxOf x,by rw [List.length_zip];omega,?_⟩;rw [List.getElem_zip];refine Prod.ext (List.getElem_idxOf hi) ?_;simp only [adW];rw [List.getD_eq_getElem?_getD,List.getElem?_eq_getElem (by omega)];rfl
 have key:∀ w,okW st w=true→(Yax W w≠0→Yax W w∈YjF sh W ws)→Cor W (Yt8 sh W ws) ((YjF sh W ws).zip (adsF sh W 1 (YjF sh W ws))) w (YqK sh W (YjF sh W ws) w):=fun w hw' hm=>by
  unfold YqK;by_cases z:Yax W w=0
  ·rw [if_pos z];exact .inl ⟨z,Ycp ((h.obj_iff hw').1 z),rfl⟩
  ·rw [if_neg z];have hp:=YzU (sh:=sh) (G:=W) (hm z);have hf:=(hnf _ (Ysm (sh:=sh) (W:=W) (hm z))).1;have e:Yax (Yt8 sh W ws) (2*(adW sh W (YjF sh W ws) (Yax W w):Int))=adW sh W (YjF sh W ws) (Yax W w):=by
    rw [Yax,if_neg (by omega),show (2*(adW sh W (YjF sh W ws) (Yax W w):Int) / 2).toNat=adW sh W (YjF sh W ws) (Yax W w) by omega,YhA hf]
   exact .inr ⟨z,by rw [e];omega,by rw [e];exact zm _ (hm z)⟩
 refine ⟨⟨by rw [z1];exact m.ok.nd,by rw [z2];exact (YoY (sh:=sh) (W:=W) 1 (YjF sh W ws)).imp fun q e=>by omega⟩,fun x hx=>?_,fun x hx=>?_,?_⟩
 ·obtain ⟨a1,a2⟩:=mz x hx;rw [a2];exact (YAo h m.ok a1).1.symm
 ·obtain ⟨a1,a2⟩:=mz x hx;rw [a2,Yt8,(YAo h m.ok a1).2];exact Yz0 fun w hw'=>key w (YbW h (m.ok.re _ a1).1 w hw') (m.next _ a1 w hw')
 ·exact Yz0 fun w hw'=>key w (hw w hw') (m.root w hw')
theorem YAI:YdM sh W (Yt8 sh W ws) ws (YuJ sh W ws)=true∧Yt8 sh (Yt8 sh W ws) (YuJ sh W ws)=Yt8 sh W ws∧YuJ sh (Yt8 sh W ws) (YuJ sh W ws)=YuJ sh W ws∧(YjF sh (Yt8 sh W ws) (YuJ sh W ws)).length=(YjF sh W ws).length:=by
 have hp:=Yot (YA3 h hw);have hC:=YAD h hw;obtain ⟨e1,e2⟩:=(YAa h hC hw (YAd h hw)).2 hp;obtain ⟨row,_,r1,r2⟩:=Yrg h hC hw (YAd h hw) hp;exact ⟨hp,e1.symm,e2.symm,by rw [← r1,← r2,List.length_map,List.length_map]⟩
end
end
open Go Go.W Go.V
section
variable (p:Prg) (hs:Ya9 p.cls) (hpk:∀ x∈p.nodes,x.2.2.length*8≤140737488355328)
include hs hpk
theorem YyE (W:List Int) (hW:∀ x∈W,YbC x) (hWl:W.length*8≤140737488355328) (ws:List Int) (hws:∀ w∈ws,YbC w) (hwl:ws.length*8≤140737488355328) :
  V.Spec Tryz.prog 22 [Ya0 p,Yaw W,ints ws] [] (.tp [Yaw (Yye p W ws).1,ints (Yye p W ws).2.1,V.int (Yye p W ws).2.2]) []:=by
 unfold Yye
 cases h:Ybt p W&&ws.all (okW (Yee p W)) with
 | true=>rw [if_pos rfl];exact YfT p hs hpk W hW hWl ws hws hwl h
 | false=>rw [if_neg (by decide)];exact (Yob p hs hpk W hW hWl ws hws hwl h).drop Yna
end
section
variable (p:Prg) (hs:Ya9 p.cls) (hcb:Yag p=true)
include hs hcb
set_option maxHeartbeats 4000000 in
theorem Yzr (W:List Int) (hW:∀ x∈W,YbC x) {st:List Nat} (hG:GH (shp p.cls) W st) (ws:List Int) (hwi:∀ w∈ws,YbC w) (hwk:∀ w∈ws,okW st w=true) (hwl:ws.length≤1048576) :
  V.Spec Tryz.prog 29 [Ya0 p,Yaw W,ints ws] [] (V.int ((YjF (shp p.cls) W ws).length:Nat)) []:=by
 obtain ⟨hsl,hpl,hf⟩:=YbO hcb;have hWl6:=(Yah hG.eq).2.1;have hW1:=(Yah hG.eq).1;have hmn:=YoZ W.length;refine Se Tryz.func29 rfl rfl rfl fun B hB=>?_;repeat' (first|(with_reducible refine TC.seq ?_)|(with_reducible refine TC.region ?_))
 with_reducible refine OL.box ?_
 with_reducible refine OL.box ?_
 refine Zag 3 ?_;refine Zag 4 ?_;refine goW ?_;refine Zb1 (l:=W.length) (c:=W.length) (i:=(W.length:Int)) (j:=(W.length:Int)) (u:=V.bool false) (u0:=V.bool false) ?_ (fun m w γ=>.raw rfl) (hi:=rfl) (hj:=rfl);rw [show List.replicate W.length (V.bool false)=(marks W.length []).map V.bool by rw [hmn,List.map_replicate]];refine goW ?_;refine Zat (fun s:Nat × List Int × List Nat=>[(3,.ep (YbB p) 0),(4,.ep [ints W] 0),(7,.hs 2),(8,.hs 4),(9,V.int (s.2.2.length:Nat)),(10,V.int s.1)]) (fun s=>[.dead,.dead,.gs false 4 1 none (((marks W.length s.2.2).map V.bool)),.dead,.gs false 3 1 none (s.2.1.map V.int)]) (fun s=>s.1≤s.2.1.length∧Todo (shp p.cls) W st ws s.1 s.2.1 s.2.2∧(∀ w∈s.2.1,YbC w)∧s.2.1.length≤ws.length+600*s.2.2.length) (fun s=>(W.length-s.2.2.length)*601+(s.2.1.length-s.1)) (0,ws,[]) [0,1,2,3,4] ⟨Nat.zero_le _,ZcM hwk,hwi,by simp⟩ ?_;rintro ⟨i,todo,out⟩ ⟨hi,ht,hti,htl⟩;dsimp only at *
 have hol:=ht.ok.len hG;have hml:=Ye0 W.length out;by_cases hil:i < todo.length;rotate_left
 ·rw [ht.done hG (by omega)];refine goW ?_;exact Zad [] (.ren rfl)
 ·obtain ⟨st1,st2⟩:=ht.step hG hil;have hwj:=hti _ (List.getElem_mem hil);have hwo:=ht.okw _ (List.getElem_mem hil);generalize hte:todo[i]=w at *
  by_cases hz:Yax W w=0
  ·have ht':=st1 (.inl hz);have hp:=(hG.obj_iff hwo).1 hz;have hpt:w.tmod 2≠0∨w=0:=hp.imp_left fun h h2=>h (YcG.1 h2)
   refine goW ?_;rw [hte];refine Zbq (r:=w.tmod 2) rfl ?_;by_cases ho:w.tmod 2≠0
   ·refine goW ?_;exact Zan (i+1,todo,out) [0,1,2,3,4] ⟨by dsimp only;omega,ht',hti,htl⟩ (by dsimp only;omega)
   ·have hw0:w=0:=hpt.resolve_left ho;refine goW ?_;exact Zan (i+1,todo,out) [0,1,2,3,4] ⟨by dsimp only;omega,ht',hti,htl⟩ (by dsimp only;omega)
  ·have hn:¬ (w % 2≠0∨w=0):=fun h=>hz (Ycp h)
   have ho:w.tmod 2=0:=YcG.2 (by omega);have hwz:w≠0:=fun h=>hn (.inr h)
   have hw1:=hwj.2;obtain ⟨hw0,hxm⟩:0 < w∧(w / 2).toNat∈st:=by
    rcases YlJ hwo with h|⟨_,h3,h4⟩
    ·exact (hn h).elim
    ·exact ⟨h3,h4⟩
   have hobe:Yax W w=real W (w / 2).toNat:=by rw [Yax,if_neg hn]
   have hrr:=Yrz W hW st hG _ hxm;rw [← hobe,show (((w / 2).toNat:Nat):Int)=w / 2 by omega] at hrr;have hre:=hG.re_obj hwo hz;have hxl:=(hG.hd hre.1).2.1;by_cases hm:Yax W w∈out
   ·have ht':=st1 (.inr hm);have hmg:∀ h:Yax W w < (marks W.length out).length,(marks W.length out)[Yax W w]=true:=fun h=>by rw [YkX];simpa using hm
    generalize Yax W w=x at *
    refine goW ?_;(refine Zal (id:=8) true 8 8 ?_<;>refine OD.st 0 ?_<;>refine OD.st 1 ?_<;>refine OD.st 2 ?_<;>refine OD.st 3 ?_<;>refine OD.st 4 ?_ (h:=(by with_unfolding_all exact gv))<;>refine ZaL 42 (LE.int hte) ?_<;>refine OD.st 5 ?_ (h:=Yzo)<;>refine Zah 6 hrr Tryz.func30 ?_<;>refine OD.st 7 ?_<;>refine Zaa ?_)
    refine goW ?_;rw [hmg];refine goW ?_;exact Zan (i+1,todo,out) [0,1,2,3,4] ⟨by dsimp only;omega,ht',hti,htl⟩ (by dsimp only;omega)
   ·have ht':=st2 (not_or.2 ⟨hz,hm⟩);have hol':=ht'.ok.len hG;have hmg:∀ h:Yax W w < (marks W.length out).length,(marks W.length out)[Yax W w]=false:=fun h=>by rw [YkX];simpa using hm
    have hms:=YoP (pre:=out) hxl;have hsn:=hG.slots_len hre.1;have hsi:∀ v∈slotsW (shp p.cls) W (Yax W w),YbC v:=fun v hv=>hW v (List.mem_of_mem_drop (List.mem_of_mem_take hv))
    have hse:slotsW (shp p.cls) W (Yax W w)=(W.take (Yax W w+1+szW (shp p.cls) (wAt W (Yax W w)))).drop (Yax W w+1):=by rw [slotsW,List.drop_take];congr 1;omega
    obtain ⟨hx1,_,hxd⟩:=hG.hd hre.1;obtain ⟨hxw0,n,hsh,hxn⟩:=Ybd.1 hxd;have hwx:wAt W (Yax W w)=W[Yax W w]:=by rw [wAt,List.getD_eq_getElem?_getD,List.getElem?_eq_getElem hxl];rfl
    have hmd:W[Yax W w] % 64=W[Yax W w]:=by rw [← hwx];exact hG.cls hre.1 hre.2
    have hszw:szW (shp p.cls) (wAt W (Yax W w))=n:=by rw [szW,hsh];rfl
    rw [hszw] at hsn hse;rw [hwx] at hxw0 hsh;rw [hmd] at hsh;obtain ⟨c,hc,hc3,hccl,hn2⟩:=YcS hsh;have hsz:=YdI p hs hf (by omega) hc3 (by omega);rw [Ya4 hcb,← hn2,← hc] at hsz;generalize hss:slotsW (shp p.cls) W (Yax W w)=ss at *
    generalize Yax W w=x at *
    have e2:todo.map V.int++((W.take (x+1+n)).drop (x+1)).map V.int=(todo++ss).map V.int:=by rw [List.map_append,hse]
    refine goW ?_;(refine Zal (id:=8) true 8 8 ?_<;>refine OD.st 0 ?_<;>refine OD.st 1 ?_<;>refine OD.st 2 ?_<;>refine OD.st 3 ?_<;>refine OD.st 4 ?_ (h:=(by with_unfolding_all exact gv))<;>refine ZaL 42 (LE.int hte) ?_<;>refine OD.st 5 ?_ (h:=Yzo)<;>refine Zah 6 hrr Tryz.func30 ?_<;>refine OD.st 7 ?_<;>refine Zaa ?_)
    refine goW ?_;rw [hmg];refine goW ?_;refine ZbX (ab:=marks W.length out) (k:=x) (by omega) ?_;rw [hms];refine goW ?_;(refine Zal (id:=12) true 15 17 ?_<;>refine OD.st 0 ?_<;>refine OD.st 1 ?_<;>refine OD.st 2 ?_<;>refine OD.st 3 ?_<;>refine OD.st 4 ?_<;>refine OD.st 5 ?_<;>refine OD.st 6 ?_<;>refine OD.st 7 ?_<;>refine OD.st 8 ?_<;>refine OD.st 9 ?_<;>refine OD.st 10 ?_<;>refine OD.st 11 ?_<;>refine Zah 12 hsz Tryz.func28 ?_<;>refine OD.st 13 ?_<;>refine OD.st 14 ?_ (h:=Ywz (h:=x+1+n) (l:=x+1))<;>(refine Zac 15 ?_;refine OL.app ?_;refine OL.nil ?_;refine Zab ?_)<;>refine OD.st 16 ?_<;>refine Zaa ?_)
    refine Zap ?_;refine goW ?_;rw [e2,show ((out.length:Nat):Int)+1=(((out++[x]).length:Nat):Int) by simp];exact Zan (i+1,todo++ss,out++[x]) [0,1,2,3,5] ⟨by simp;omega,ht',fun v hv=>(List.mem_append.1 hv).elim (hti v) (hsi v),by simp;omega⟩ (by simp;omega)
end
section
variable {sh:Int→Option Nat} {W:List Int} {st:List Nat} (h:GH sh W st) (hW:∀ x∈W,YbC x) {ws:List Int} (hw:∀ w∈ws,okW st w=true) (hwi:∀ w∈ws,YbC w)
include h hW hw
theorem YAA {w:Int} (hm:Yax W w≠0→Yax W w∈YjF sh W ws) (hi:YbC w):YbC (YqK sh W (YjF sh W ws) w):=by
 have _:=hW;have m:=YpA h hw;unfold YqK;split
 ·exact hi
 ·rename_i z
  have:=Yvj h m.ok (hm z)
  have h6:=(Yah h.eq).2.1;exact ⟨by omega,by omega⟩
theorem YA5:∀ x∈Yt8 sh W ws,YbC x:=by
 have m:=YpA h hw;intro x hx;rw [Yt8] at hx;rcases List.mem_cons.1 hx with rfl|hx
 ·exact ⟨by decide,by decide⟩
 obtain ⟨y,hy,hx⟩:=List.mem_flatMap.1 hx;have hyl:=(h.hd (m.ok.re y hy).1).2.1;rw [rowW] at hx;rcases List.mem_cons.1 hx with rfl|hx
 ·rw [wAt,List.getD_eq_getElem?_getD,List.getElem?_eq_getElem hyl];exact hW _ (List.getElem_mem hyl)
 ·obtain ⟨w,hw',rfl⟩:=List.mem_map.1 hx;exact YAA h hW hw (m.next y hy w hw') (hW w (List.mem_of_mem_drop (List.mem_of_mem_take hw')))
include hwi
theorem YAU:∀ x∈YuJ sh W ws,YbC x:=by
 have m:=YpA h hw;intro x hx;obtain ⟨w,hw',rfl⟩:=List.mem_map.1 hx;exact YAA h hW hw (m.root w hw') (hwi w hw')
end
section
variable (p:Prg) (hs:Ya9 p.cls) (hpk:∀ x∈p.nodes,x.2.2.length*8≤140737488355328) (W:List Int) (hW:∀ x∈W,YbC x) (hWl:W.length*8≤140737488355328) (ws:List Int) (hwi:∀ w∈ws,YbC w) (hwl:ws.length≤1048576)
include hs hpk hW hWl hwi hwl
set_option maxHeartbeats 8000000 in
theorem YyW:V.Spec Tryz.prog 7 [Ya0 p,Yaw W,ints ws] [] (V.bool true) []:=by
 have hkn:=Ye2;have h1:=Ylk p hs hpk W hW hWl
 cases hg:Ybt p W with
 | false =>
   rw [hg] at h1;refine Se Tryz.func7 rfl rfl rfl fun B hB=>?_;repeat' (first|(with_reducible refine TC.seq ?_)|(with_reducible refine TC.region ?_))
   with_reducible refine OL.box ?_
   with_reducible refine OL.box ?_
   refine Zag 3 ?_;refine Zag 4 ?_;refine goW ?_;refine OL.c h1 Tryz.func26 ?_;refine goW ?_;refine OL.c hkn Tryz.func17 ?_;refine goW ?_;exact Zad [] (.ren rfl)
 | true =>
   rw [hg] at h1;obtain ⟨hp,_,st,hst,hG⟩:=Ybe hg;have hcb:=YaC hp;obtain ⟨hsl,hpl,hf⟩:=YbO hcb;have hse:Yee p W=st:=YcP hst;have h2:=Yqe p hs hcb W hW hWl ws hwi (by omega);rw [hse] at h2
   cases hv:ws.all (okW st) with
   | false =>
     rw [hv] at h2;refine Se Tryz.func7 rfl rfl rfl fun B hB=>?_;repeat' (first|(with_reducible refine TC.seq ?_)|(with_reducible refine TC.region ?_))
     with_reducible refine OL.box ?_
     with_reducible refine OL.box ?_
     refine Zag 3 ?_;refine Zag 4 ?_;refine goW ?_;refine OL.c h1 Tryz.func26 ?_;refine goW ?_;refine OL.c h2 Tryz.func27 ?_;refine goW ?_;refine OL.c hkn Tryz.func17 ?_;refine goW ?_;exact Zad [] (.ren rfl)
   | true =>
     rw [hv] at h2;have hwk:∀ w∈ws,okW st w=true:=fun w hw=>List.all_eq_true.1 hv w hw
     have hm:=YpA hG hwk;have hC:=YAD hG hwk;have hcl:=YAH hG hwk;have hci:=YA5 hG hW hwk;have hri:=YAU hG hW hwk hwi;have hrk:=YAd hG hwk;have hrl:(YuJ (shp p.cls) W ws).length=ws.length:=by rw [YuJ,List.length_map]
     have hnf:=YAc hG hwk;have hag:=YAI hG hwk;have h6:=(Yah hG.eq).2.1;have hgc:Ybt p (Yt8 (shp p.cls) W ws)=true:=by rw [Ybt,hp,Ypx.2 ⟨_,hC⟩];rfl
     have hsc:=YcP hC.eq;have h3:=YyE p hs hpk W hW hWl ws hwi (by omega);have h4:=Ylk p hs hpk (Yt8 (shp p.cls) W ws) hci (by omega);have h5:=Yqe p hs hcb (Yt8 (shp p.cls) W ws) hci (by omega) (YuJ (shp p.cls) W ws) hri (by omega);have h7:=YkN p hs hpk W (Yt8 (shp p.cls) W ws) hW hci hWl (by omega) ws (YuJ (shp p.cls) W ws) hwi hri (by omega) (by omega);have h8:=YyE p hs hpk (Yt8 (shp p.cls) W ws) hci (by omega) (YuJ (shp p.cls) W ws) hri (by omega);have h9:=Yzr p hs hcb (Yt8 (shp p.cls) W ws) hci hC (YuJ (shp p.cls) W ws) hri hrk (by omega);have hra:(YuJ (shp p.cls) W ws).all (okW (adsF (shp p.cls) W 1 (YjF (shp p.cls) W ws)))=true:=List.all_eq_true.2 hrk;rw [hgc] at h4;rw [hsc,hra] at h5;have e3:Yye p W ws=(Yt8 (shp p.cls) W ws,YuJ (shp p.cls) W ws,0):=by unfold Yye;rw [hg,hse,hv];rfl
     have e7:Ynm p W (Yt8 (shp p.cls) W ws) ws (YuJ (shp p.cls) W ws)=(true,0):=by unfold Ynm;rw [hg,hgc,hse,hsc,hv,hra,hag.1];rfl
     have e8:Yye p (Yt8 (shp p.cls) W ws) (YuJ (shp p.cls) W ws)=(Yt8 (shp p.cls) W ws,YuJ (shp p.cls) W ws,0):=by unfold Yye;rw [hgc,hsc,hra,hag.2.1,hag.2.2.1];rfl
     rw [e3] at h3;rw [e7] at h7;rw [e8] at h8;rw [hag.2.2.2,← YgM (sh:=shp p.cls) (W:=W) 1] at h9;have hsw:=YxN (Yt8 (shp p.cls) W ws);have hsi:=Ytp (YuJ (shp p.cls) W ws);have hst2:=(Yah hC.eq).2.2.2;have hC1:=(Yah hC.eq).1;have hhd:=fun x hx=>hC.hd (x:=x) hx
     have hcs:=fun x hx h0=>hC.cls (x:=x) hx h0
     generalize adsF (shp p.cls) W 1 (YjF (shp p.cls) W ws)=ads at *
     generalize YuJ (shp p.cls) W ws=cr at *
     generalize Yt8 (shp p.cls) W ws=cw at *
     clear e3 e7 e8 hag hm hra hgc;refine Se Tryz.func7 rfl rfl rfl fun B hB=>?_;repeat' (first|(with_reducible refine TC.seq ?_)|(with_reducible refine TC.region ?_))
     with_reducible refine OL.box ?_
     with_reducible refine OL.box ?_
     refine Zag 3 ?_;refine Zag 4 ?_;refine goW ?_;refine OL.c h1 Tryz.func26 ?_;refine goW ?_;refine OL.c h2 Tryz.func27 ?_;refine goW ?_;refine OL.c h3 Tryz.func22 ?_;refine goW ?_;refine OL.c h4 Tryz.func26 ?_;refine goW ?_;refine OL.c h5 Tryz.func27 ?_;refine goW ?_;refine OL.c h7 Tryz.func24 ?_;refine goW ?_;refine OL.c h8 Tryz.func22 ?_;refine goW ?_;refine OL.c hsw Tryz.func15 ?_;refine goW ?_;refine OL.c hsi Tryz.func16 ?_;refine goW ?_;refine Zat (fun s:Nat × List Nat=>[(3,.ep (YbB p) 0),(7,.bp 2 0),(8,ints cr),(15,V.int (s.2.length:Nat)),(16,V.int s.1)]) (fun _=>[.dead,.dead,.cb 30 [ints cw],.cb 30 [ints cw]]) (fun s=>1≤s.1∧∃ r,startsF (shp p.cls) cw cw.length s.1=some r∧s.2++r=ads) (fun s=>cw.length-s.1) (1,[]) [0,1,2,3] ⟨Nat.le_refl _,ads,hst2,rfl⟩ ?_;rintro ⟨i,pre⟩ ⟨hi1,r,hr,hpr⟩;dsimp only at hi1 hr hpr ⊢;rw [YcU] at hr;by_cases hil:i < cw.length
     ·rw [if_pos hil] at hr;by_cases hd:hdB (shp p.cls) cw i=true;rotate_left
      ·rw [if_neg hd] at hr;cases hr
      ·rw [if_pos hd] at hr;obtain ⟨r',hr',rfl⟩:=Option.map_eq_some_iff.1 hr;have hia:i∈ads:=by rw [← hpr];simp
       have hni:=hnf i hia;have hci':=hcs i hia hni.1;obtain ⟨hw0,n,hsh,hn⟩:=Ybd.1 hd;have hszw:szW (shp p.cls) (wAt cw i)=n:=by rw [szW,hsh];rfl
       rw [hszw] at hr';have hwi':wAt cw i=cw[i]:=by rw [wAt,List.getD_eq_getElem?_getD,List.getElem?_eq_getElem hil];rfl
       rw [hci'] at hsh;rw [hwi'] at hsh hni hw0;obtain ⟨c,hc,hc3,hccl,hn2⟩:=YcS hsh;have hsz:=YdI p hs hf (by omega) hc3 (by omega);rw [Ya4 hcb,← hn2,← hc] at hsz;have hl6:=hni.2;have hpl':pre.length≤600:=by
        have:=YmN hC.eq
        rw [← hpr,List.length_append] at this;omega
       have ea:(i:Int)+(1+(n:Int))=((i+1+n:Nat):Int):=by omega
       have eb:((pre.length:Nat):Int)+1=((pre++[i]).length:Nat):=by simp
       refine goW ?_;(refine Zal (id:=13) true 10 10 ?_<;>refine Zaf 0 1 2 3 ?_<;>refine Zae 4 5 ?_<;>refine OD.st 6 ?_<;>refine Zah 7 hsz Tryz.func28 ?_<;>refine Zae 8 9 ?_<;>refine Zaa ?_)
       refine goW ?_;rw [ea,eb];exact Zan (i+1+n,pre++[i]) [0,1,2,3] ⟨by dsimp only;omega,r',hr',by simp [← hpr]⟩ (by dsimp only;omega)
     ·rw [if_neg hil] at hr
      cases hr
      rw [List.append_nil] at hpr;subst hpr;refine goW ?_;refine OL.c h9 Tryz.func29 ?_;refine goW ?_;refine OL.c hkn Tryz.func17 ?_;refine goW ?_;exact Zad [] (.ren rfl)
end
end Go.Proofs
