/- Part 3: functions on the way, plain laws. Conditions: as said. -/
import Derived.Test.YtfbeblgnjeokaaaGreatK1
import Derived.Test.YtfbeblgnjeokaaaGreatK2
set_option maxRecDepth 100000
set_option maxHeartbeats 16000000
set_option linter.unusedVariables false
set_option linter.unusedSimpArgs false
open Bool renaming and_eq_true → cm9, not_eq_true' → co9, or_eq_true → cr2
open List renaming all_eq_true → cn8, eq_nil_of_length_eq_zero → co7, getD_eq_getElem?_getD → cn2, getElem?_eq_none → cp0, length_nil → co1, mem_range → cq6, range → co4
open Nat renaming lt_or_ge → cp1

namespace Go.Proofs.YtfbeblgnjeokaaaGreat
theorem bt5{f:Nat->List Bool}{n:Nat}{i:Int}(h:i.toNat<n):rowAt ((co4 n).map f) i=f i.toNat:=by simp[rowAt,h]
theorem bt4{m:List (List Bool)}{i:Int}(h:m.length<=i.toNat):rowAt m i=[]:=by simp[rowAt,h]
noncomputable def Z0(c:d9)(i:Nat):List Bool:=open Classical in if ∀p,ab3 c p->(rowAt p i).length≠0 then(co4 14).map fun k=>decide (∀p,ab3 c p->(rowAt p i).getD k false=true)else []
noncomputable def aK5(c:d9):List (List Bool):=(co4 c.list.length).map (Z0 c)
theorem aT6(c:d9)(i:Nat):(Z0 c i).length=0\/(Z0 c i).length=14:=by
 unfold Z0;split<;>simp
theorem av3{c:d9}{i:Nat}:(Z0 c i).length≠0↔∀p,ab3 c p->(rowAt p i).length≠0:=by
 unfold Z0;split
 ·rename_i h;simp only[List.length_map,List.length_range,ne_eq,Nat.reduceEqDiff,not_false_eq_true,true_iff];exact h
 rename_i h;simp only[co1,ne_eq,not_true_eq_false,false_iff];exact h
theorem a65{c:d9}{i:Nat}{p:List (List Bool)}(hp:ab3 c p):rle (Z0 c i) (rowAt p i):=by
 intro k hk
 unfold Z0 at hk
 split at hk
 ·rcases cp1 k 14 with h1|h1
  ·simp[cn2,h1]at hk
   exact hk p hp
  simp[cn2,h1]at hk
 simp at hk
theorem bF1{c:d9}{i:Nat}{t:List Bool}(ht:t.length=14)(h0:∀p,ab3 c p->(rowAt p i).length≠0)(h:∀p,ab3 c p->rle t (rowAt p i)):rle t (Z0 c i):=by
 intro k hk
 have h1:k<14:=by
  rcases cp1 k 14 with h1|h1
  ·exact h1
  rw[cn2,cp0 al]at hk;simp at hk
 unfold Z0
 rw[if_pos h0]
 simp[cn2,h1]
 intro p hp
 have:=h p hp k hk
 rwa[cn2]at this
theorem bF0{c:d9}(hc:x5 c=true):∃m,M7 c m:=by
 have hn:=(n9 hc).2.1
 have hlen:(aK5 c).length=c.list.length:=by simp[aK5]
 have hat:∀i:Nat,i<c.list.length->rowAt (aK5 c) i=Z0 c i:=fun i hi=>by
  have:=bt5 (f:=Z0 c) (n:=c.list.length) (i:=(i:Int)) al
  simpa[aK5]using this
 have hoff:∀i:Nat,c.list.length<=i->rowAt (aK5 c) i=[]:=fun i hi=>bt4 (by rw[hlen];omega)
 refine⟨aK5 c,⟨hlen,?_,?_,?_⟩,?_⟩
 ·rw[cn8]
  intro r hr
  simp only[aK5,List.mem_map,cq6]at hr
  obtain⟨i,_,rfl⟩:=hr
  simp only[D7,cr2,decide_eq_true_eq]
  exact aT6 c i
 ·have:=hat 0 al
  rw[show((0:Nat):Int)=0 from rfl]at this
  rw[this,av3]
  exact fun p hp=>hp.2.2.1
 ·intro i hi
  rw[hlen]at hi
  unfold K4
  rw[hat i hi]
  rcases Nat.eq_zero_or_pos (Z0 c i).length with h0|h0
  ·rw[decide_eq_true h0];rfl
  rw[decide_eq_false al,Bool.false_or,cn8]
  intro t ht
  have ho:=aT3 hc al ht
  have h14:(Z0 c i).length=14:=by have:=aT6 c i;omega
  have key:∀p,ab3 c p->L9 (s8 c (J3 c i) (Z0 c i)) (rowAt p t)=true:=by
   intro p hp
   have h1:=hp.2.2.2 i (by rw[hp.1];exact hi)
   have hne:(rowAt p i).length≠0:=av3.1 al p hp
   have h2:(rowAt p i).length=14:=by have:=A7 hp.2.1 i;omega
   unfold K4 at h1
   rw[decide_eq_false hne,Bool.false_or,cn8]at h1
   have h3:=(K3 _ _).1 (h1 t ht)
   exact(K3 _ _).2 ⟨h3.1,(aC9 al (a65 hp)).trans h3.2⟩
  obtain⟨y,rfl⟩:=Int.eq_ofNat_of_zero_le ho.1
  rw[hat y al]
  refine(K3 _ _).2 ⟨Nat.pos_of_ne_zero (av3.2 fun p hp=>?_),bF1 (by rw[Q2];exact h14) (fun p hp=>?_) fun p hp=>?_⟩
  ·have:=((K3 _ _).1 (key p hp)).1;omega
  ·have:=((K3 _ _).1 (key p hp)).1;omega
  exact((K3 _ _).1 (key p hp)).2
 intro p hp i
 rcases cp1 i c.list.length with hi|hi
 ·rw[hat i hi]
  rcases Nat.eq_zero_or_pos (Z0 c i).length with h0|h0
  ·exact .inl h0
  exact .inr ⟨av3.1 al p hp,a65 hp⟩
 rw[hoff i hi];exact .inl rfl
theorem bt9{c:d9}{x:d7}{t u:List Bool}(h:rle t u)(hu:G4 c x u=0):G4 c x t=0:=by
 have hb:=ba9 h
 have nb:∀k,bAt u k=false->bAt t k=false:=fun k hk=>by
  cases e:bAt t k
  ·rfl
  rw[hb k e]at hk;cases hk
 unfold G4 at hu ⊢
 split
 ·rename_i h3
  rw[if_pos h3]at hu
  cases e:bAt t x.b
  ·rfl
  rw[hb _ e]at hu;exact hu
 rename_i h3
 rw[if_neg h3]at hu
 split
 ·rename_i h4
  rw[if_pos h4]at hu
  cases e:bAt t x.c
  ·rfl
  rw[hb _ e]at hu;exact hu
 rename_i h4
 rw[if_neg h4]at hu
 split
 ·rename_i h5
  rw[if_pos h5]at hu
  cases e:bAt u x.b
  ·rw[nb _ e]
   rw[e]at hu
   cases e2:bAt t x.c
   ·rfl
   rw[hb _ e2]at hu;exact hu
  rw[e]at hu;simp at hu
 rename_i h5
 rw[if_neg h5]at hu
 split
 ·rename_i h9
  rw[if_pos h9]at hu
  cases e:bAt t x.a
  ·rfl
  rw[hb _ e]at hu;exact hu
 rfl
theorem aO6{c:d9}{m:List (List Bool)}:C4 c m m.length=false↔∀i:Nat,i<m.length->(rowAt m i).length=0\/G4 c (J3 c i) (rowAt m i)=0:=by
 unfold C4
 rw[Bool.eq_false_iff,ne_eq,List.any_eq_true]
 constructor
 ·intro h i hi
  rcases Nat.eq_zero_or_pos (rowAt m i).length with h0|h0
  ·exact .inl h0
  right
  by_cases e:G4 c (J3 c i) (rowAt m i)=0
  ·exact e
  exact absurd ⟨i,cq6.2 hi,by unfold badAt;rw[decide_eq_true h0,decide_eq_true e];rfl⟩ h
 rintro h ⟨i,hi,hb⟩
 simp only[badAt,cm9,decide_eq_true_eq]at hb
 rcases h i (cq6.1 hi)with h1|h1
 ·omega
 exact hb.2 h1
theorem bh5{c:d9}{m:List (List Bool)}:(F5 c m).1=0↔C4 c m m.length=false:=by
 have h:=aC0 c m
 constructor
 ·intro e
  rw[decide_eq_true e]at h
  simpa using h.symm
 intro e
 rw[e]at h
 simpa using h
theorem aU3{c:d9}{t:List (List Bool)}(h:as7 c t=true):x5 c=true/\ab3 c t/\C4 c t t.length=false:=by
 unfold as7 bV5 at h
 simp only[cm9,decide_eq_true_eq,co9]at h
 obtain⟨⟨⟨⟨⟨h1,h2⟩,h3⟩,h4⟩,h5⟩,h6⟩:=h
 refine⟨h1,⟨h2,h4,al,fun i hi=>?_⟩,h5⟩
 unfold I5 at h6
 exact cn8.1 h6 i (cq6.2 hi)
theorem bv6{c:d9}{t m:List (List Bool)}(h:as7 c t=true)(hm:M7 c m):(F5 c m).1=0/\mle m t:=by
 obtain⟨_,h2,h3⟩:=aU3 h
 have hl:=hm.2 t h2
 refine⟨bh5.2 (aO6.2 fun i hi=>?_),hl⟩
 rcases hl i with h0|⟨h0,h1⟩
 ·exact .inl h0
 rcases aO6.1 h3 i (by rw[h2.1, <-hm.1.1];exact hi)with h4|h4
 ·omega
 exact .inr (bt9 h1 h4)
theorem b33{c:d9}{t m:List (List Bool)}(h:mle m t){i k:Nat}(hk:(rowAt m i).getD k false=true):(rowAt t i).length≠0/\(rowAt t i).getD k false=true:=by
 rcases h i with h0|⟨h0,h1⟩
 ·rw[co7 h0]at hk;simp at hk
 exact⟨h0,h1 k hk⟩
end Go.Proofs.YtfbeblgnjeokaaaGreat

namespace Go.Proofs.YtfbeblgnjeokaaaGreat
open Go Go.RowKit Go.ChangeShapes Go.WideShapes Go.Deep
section
variable{H:Type}{enc:TypeId×Value->H}{W:World}
theorem aQ4{fuel:Nat}{t:TypeId}{v:Value}{x:DataW H×List MemPlace}(ht:Tryz.prog.underlying t=some (.slice 5))
  (h:DataW.trod enc Tryz.prog W 0 (fun _=>true) true fuel t [v]=some x):∃l:List UInt8,I6 W v l.length 1 (l.map fun b=>Value.int .u8 (b.toNat:Int)):=by
 obtain⟨n,m,C,hr,hC,hx⟩:=a51 ht (sz:=1) aj al h
 obtain⟨g,hg⟩:=choose_lt (α:=UInt8) (n:=n) (p:=fun i b=>C i=[.int .u8 (b.toNat:Int)]) (fun i hi=>by
  obtain⟨y,hy⟩:=hx i hi
  obtain⟨z,hz,_,hw⟩:=DataW.trod_int Tryz.underlying5 hy
  simp only[Lit.wf,cm9,decide_eq_true_eq]at hw
  have h0:(0:Int)<=z:=hw.1
  have h1:z<=255:=hw.2
  refine⟨UInt8.ofNat z.toNat,?_⟩
  rw[hz]
  have e:(UInt8.ofNat z.toNat).toNat=z.toNat:=by
   rw[UInt8.toNat_ofNat'];omega
  rw[e,Int.toNat_of_nonneg h0])
 refine⟨(co4 n).map g,?_⟩
 rw[List.length_map,List.length_range, <-aK7 n C (fun b=>Value.int .u8 (b.toNat:Int)) g hg]
 exact hr
end
end Go.Proofs.YtfbeblgnjeokaaaGreat
