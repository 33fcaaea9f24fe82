/- Part 2: functions on the way, plain laws. Conditions: as said. -/
import Derived.Test.YtfbeblgnjeokaaaGreatRows
import Derived.OpenShut
import Derived.ChangeOld
import Derived.Deep.Slices
import Derived.Lib.SmallJoins
import Derived.Deep.QuietTactic
import Derived.BigQuiet
import Derived.StillTailTactics
import Derived.Deep.RegionHeld3
import Derived.WalkSpells
import Derived.Lib.SliceRun
import Derived.Deep.DeepCutAuto
import Derived.Test.YtfbeblgnjeokaaaGreatK1
set_option maxRecDepth 100000
set_option maxHeartbeats 16000000
set_option linter.unusedVariables false
set_option linter.unusedSimpArgs false
open Array renaming replicate → cx4
open Bool renaming and_eq_true → cv4, eq_iff_iff → cz0, not_eq_false' → cy2, or_eq_true → cz9
open List renaming all_eq_true → cw3, eq_nil_of_length_eq_zero → cw9, getD_eq_getElem?_getD → cv8, getElem?_append_left → cw8, getElem?_append_right → cy7, getElem?_cons_succ → cw0, getElem?_cons_zero → cv5, getElem?_eq_getElem → cv6, getElem?_eq_none → cy1, getElem?_eq_some_iff → cw5, getElem?_replicate → cz3, getElem_mem → cx9, length_append → cv9, length_cons → cw2, length_nil → cw6, length_replicate → cx5, length_set → cy3, map_cons → cy8, mem_append → cx6, mem_cons → cz2, mem_of_getElem? → cy6, mem_range → cz5, mem_singleton → cy5, range → cx0, replicate → cv3, set_cons_succ → cx1, set_cons_zero → cx3, take_of_length_le → cw7
open Nat renaming le_refl → cv7, le_trans → cx8, lt_of_lt_of_le → cz7, lt_or_ge → cx7, mul_le_mul_right → cz8, succ_mul → cz1, zero_add → cA0, zero_le → cy4

namespace Go.Proofs.YtfbeblgnjeokaaaGreat
open Go Go.RowKit Go.ChangeShapes Go.WideShapes Go.Deep
theorem own:ownKnob Tryz.prog.godebug=none:=aj
theorem bZ5:laidOutB Tryz.prog=true:=aj
section
variable{H:Type}{enc:TypeId×Value->H}{W:World}
theorem bR1{C:Nat->List Value}{sz:Nat}(hC:∀i,(C i).length=sz):∀(n i j:Nat),i<n->j<sz->((cx0 n).flatMap C)[i*sz+j]? =(C i)[j]? :=by
 intro n
 induction n with
 |zero=>intro i j h;omega
 | succ n ih =>
  intro i j h hj
  have hlen:((cx0 n).flatMap C).length=n*sz:=by
   clear ih h
   induction n with
   |zero=>simp
   |succ n ih2=>rw[List.range_succ,List.flatMap_append,cv9,ih2];simp[hC,cz1]
  rw[List.range_succ,List.flatMap_append]
  by_cases hin:i<n
  ·rw[cw8 (by rw[hlen];have:=cz8 sz (Nat.succ_le_of_lt hin);rw[cz1]at this;omega)]
   exact ih i j hin hj
  obtain rfl:i=n:=al
  rw[cy7 al,hlen]
  simp
theorem bf7{C:Nat->List Value}{sz:Nat}(hC:∀i,(C i).length=sz)(n:Nat):((cx0 n).flatMap C).length=n*sz:=by
 induction n with
 |zero=>simp
 |succ n ih2=>rw[List.range_succ,List.flatMap_append,cv9,ih2];simp[hC,cz1]
theorem bb7{t e:TypeId}{fuel:Nat}{v:Value}{x:DataW H×List MemPlace}{sz:Nat}(ht:Tryz.prog.underlying t=some (.slice e))(hc:Tryz.prog.cellsOf e=sz)(hsz:0<sz)
  (h:DataW.trod enc Tryz.prog W 0 (fun _=>true) true fuel t [v]=some x):
  ∃(n m:Nat) (C:Nat->List Value),H7 W v n sz ((cx0 n).flatMap C)/\(∀i,(C i).length=sz)/\∀i,i<n->∃y,DataW.trod enc Tryz.prog W 0 (fun _=>true) true m e (C i)=some y:=by
 rcases open_slice ht h with⟨hcs,_⟩|⟨a,len,cap,m,k,D,Pl,hcs,_,hl,hm,hmm,_,hx⟩
 ·cases hcs
  exact⟨0,0,fun _=>cv3 sz undef,H7.nil _ _,an,fun i hi=>by omega⟩
 cases hcs
 rw[hc]at hx
 have hmc:len<=m:=by rw[hmm];simp;omega
 obtain⟨C,hC⟩:=choose_lt (α:=List Value) (n:=len) (p:=fun i cs=>cs.length=sz/\(∀j,j<sz->W.cell? (a.add (i*sz+j))=cs[j]?)/\∃y,DataW.trod enc Tryz.prog W 0 (fun _=>true) true k e cs=some y) (fun i hi=>by
  obtain⟨cs',h1,h2⟩:=hx i al
  obtain⟨_,hlen,hcell⟩:=World.cells?_some h1
  exact⟨cs',hlen,fun j hj=>by rw[<-add_add];exact hcell j hj,_,h2⟩)
 let C':Nat->List Value:=fun i=>if i<len then C i else cv3 sz undef
 have hC':∀i,(C' i).length=sz:=fun i=>by
  by_cases hi:i<len
  ·simp only[C',if_pos hi];exact(hC i hi).1
  simp[C',if_neg hi]
 refine⟨len,k,C',⟨bf7 hC' len,some a,cap,rfl,hl,hm,fun hn=>?_⟩,hC',fun i hi=>?_⟩
 ·obtain⟨b,off,spot⟩:=a
  have h00:=(hC 0 hn).2.1 0 hsz
  have hlen0:=(hC 0 hn).1
  rw[cv6 al]at h00
  have hs:spot=none:=by
   simpa[Addr.add]using World.cell?_spot h00
  subst hs
  have hb:b<W.heap.size:=by simpa[Addr.add]using World.block_lt_of_cell? W _ h00
  refine⟨b,off,rfl,hb,fun j u hj=>?_⟩
  have hjl:j<len*sz:=by have:=(cw5.1 hj).1;rw[bf7 hC']at this;exact this
  have hi:j/sz<len:=Nat.div_lt_of_lt_mul (by rw[Nat.mul_comm];exact hjl)
  have hr:j%sz<sz:=Nat.mod_lt _ hsz
  have hjj:j/sz*sz+j%sz=j:=Nat.div_add_mod' j sz
  have hg:=bR1 hC' len (j/sz) (j%sz) hi hr
  rw[hjj,hj]at hg
  have hcc:=(hC _ hi).2.1 _ hr
  simp only[C',if_pos hi]at hg
  rw[hjj, <-hg]at hcc
  have hadd:(⟨b,off,none⟩:Addr).add j=⟨b,off+j,none⟩:=by unfold Addr.add;split<;>simp_all
  rw[hadd]at hcc
  exact hcc
 obtain⟨y,hy⟩:=(hC i hi).2.2
 exact⟨y,by simp only[C',if_pos hi];exact hy⟩
theorem aO7{α:Type}(n:Nat)(C:Nat->List Value)(f:α->Value)(g:Nat->α)(h:∀i,i<n->C i=[f (g i)]):(cx0 n).flatMap C=((cx0 n).map g).map f:=by
 rw[List.map_map,List.flatMap_def]
 rw[List.map_congr_left (g:=fun i=>[f (g i)]) (fun i hi=>h i (by simpa using hi))]
 induction n with
 |zero=>simp
 |succ n ih=>
  rw[List.range_succ,List.map_append,List.flatten_append,List.map_append,ih (fun i hi=>h i al)]
  simp
end
end Go.Proofs.YtfbeblgnjeokaaaGreat

namespace Go.Proofs.YtfbeblgnjeokaaaGreat
open Go Go.RowKit
abbrev bools(l:List Bool):List Value:=l.map Value.bool
theorem x5(l:List Bool)(k:Nat)(h:k<l.length):(bools l)[k]? =some (.bool l[k]):=by simp[bools,h]
theorem aQ2:(Tryz.prog.info? 4).map (fun i=>(i.zero,i.size,i.bytes))=some (some (.bool false),1,1):=aj
theorem bQ1:(Tryz.prog.info? 63).map (fun i=>(i.zero,i.size,i.bytes))=some (some (.slice none 0 0),1,24):=aj
def R2(w:World)(v:Value)(m:List (List Bool)):Prop:=
 ∃vs:List Value,H7 w v m.length 1 vs/\∀(i:Nat) (u:Value) (r:List Bool),vs[i]? =some u->m[i]? =some r->H7 w u r.length 1 (bools r)
def Z4(w:World)(lo hi:Nat)(v:Value)(m:List (List Bool)):Prop:=
 ∃vs:List Value,A9 w lo hi 63 1 v m.length vs/\(∀(i:Nat) (u:Value) (r:List Bool),vs[i]? =some u->m[i]? =some r->A9 w lo hi 4 1 u r.length (bools r))/\
  (∀(i j:Nat) (u u':Value),i<j->vs[i]? =some u->vs[j]? =some u'->Y4 u u')/\∀(i:Nat) (u:Value),vs[i]? =some u->Y4 u v
theorem R2.below{w w':World}{v:Value}{m:List (List Bool)}(h:R2 w v m)(hb:Below w.heap.size w w'):R2 w' v m:=by
 obtain⟨vs,h1,h2⟩:=h
 exact⟨vs,h1.below hb,fun i u r a b=>(h2 i u r a b).below hb⟩
theorem Z4.row{w:World}{lo hi:Nat}{v:Value}{m:List (List Bool)}(h:Z4 w lo hi v m):R2 w v m:=by
 obtain⟨vs,h1,h2,_⟩:=h
 exact⟨vs,h1.row,fun i u r a b=>(h2 i u r a b).row⟩
theorem Z4.keep{w w':World}{lo hi B:Nat}{v:Value}{m:List (List Bool)}(h:Z4 w lo hi v m)(hb:Below B w w')(hB:hi<=B):Z4 w' lo hi v m:=by
 obtain⟨vs,h1,h2,hd⟩:=h
 exact⟨vs,h1.keep hb hB,fun i u r a b=>(h2 i u r a b).keep hb hB,hd⟩
theorem Z4.out{w w':World}{lo hi lo' hi':Nat}{v:Value}{m:List (List Bool)}(h:Z4 w lo hi v m)(hb:Out lo' hi' w w')(hB:hi<=lo'\/hi'<=lo):Z4 w' lo hi v m:=by
 obtain⟨vs,h1,h2,hd⟩:=h
 exact⟨vs,h1.out hb hB,fun i u r a b=>(h2 i u r a b).out hb hB,hd⟩
theorem Z4.wide{w:World}{lo hi lo' hi':Nat}{v:Value}{m:List (List Bool)}(h:Z4 w lo hi v m)(g1:lo'<=lo)(g2:hi<=hi'):Z4 w lo' hi' v m:=by
 obtain⟨vs,h1,h2,hd⟩:=h
 exact⟨vs,h1.wide g1 g2,fun i u r a b=>(h2 i u r a b).wide g1 g2,hd⟩
theorem R2.open{w:World}{v:Value}{m:List (List Bool)}(h:R2 w v m):∃a cap,v=.slice a m.length cap/\m.length<=9223372036854775807/\
  ∀i (hi:i<m.length),∃b off a' c',a=some ⟨b,off,none⟩/\b<w.heap.size/\w.cell? ⟨b,off+i,none⟩=some (.slice a' m[i].length c')/\H7 w (.slice a' m[i].length c') m[i].length 1 (bools m[i]):=by
 obtain⟨vs,h1,h2⟩:=h
 obtain⟨a,cap,hv,hc,hm,hm2,hcell⟩:=h1.open1
 refine⟨a,cap,hv,hm,fun i hi=>?_⟩
 obtain⟨b,off,ha,hb,hx⟩:=hcell i hi
 have hl:i<vs.length:=by rw[h1.1];omega
 rw[cv6 hl]at hx
 have hr:=h2 i _ _ (cv6 hl) (cv6 hi)
 obtain⟨a',c',hs⟩:=hr.form
 rw[hs]at hx hr
 exact⟨b,off,a',c',ha,hb,hx,hr⟩
end Go.Proofs.YtfbeblgnjeokaaaGreat

namespace Go.Proofs.YtfbeblgnjeokaaaGreat
open Go Go.RowKit Go.ChangeShapes Go.WideShapes Go.Deep
section
variable{H:Type}{enc:TypeId×Value->H}{W:World}
end
end Go.Proofs.YtfbeblgnjeokaaaGreat

namespace Go.Proofs.YtfbeblgnjeokaaaGreat
def scB(l:Int):Bool:=i7 l&&decide (l=1\/l=3)
def bAt(t:List Bool)(k:Int):Bool:=t.getD k.toNat false
def X3(t:List Int)(k:Int):Int:=t.getD k.toNat 0
def J0(c:c8)(x:d8)(t:List Bool):Option Bool:=
 if x.op=1\/x.op=11 then some false
 else if x.op=2 then some (scB (X3 c.vars x.b))
 else if x.op=4 then some (scB (X3 c.arrays x.b)||bAt t x.c)
 else if x.op=6 then some (bAt t x.c||bAt t x.d)
 else if x.op=7 then some (bAt t x.b||bAt t x.c||bAt t x.d)
 else none
def s8(c:c8)(x:d8)(t:List Bool):List Bool:=match J0 c x t with|some b=>t.set x.a.toNat b|none=>t
theorem ad3(c:c8)(x:d8)(t:List Bool):(s8 c x t).length=t.length:=by unfold s8;split<;>simp
def F4(c:c8)(x:d8)(t:List Bool):Int:=
 if x.op=3 then(if bAt t x.b&& !scB (X3 c.vars x.a)then 1 else 0)
 else if x.op=4 then(if bAt t x.c then 4 else 0)
 else if x.op=5 then(if bAt t x.b then 4 else if bAt t x.c&& !scB (X3 c.arrays x.a)then 1 else 0)
 else if x.op=9\/x.op=10 then(if bAt t x.a then 3 else 0)
 else 0
def R8(t row:List Bool):Bool:=decide (0<row.length)&&(cx0 t.length).all fun k=> !(t.getD k false&& !row.getD k false)
theorem ai6{c:c8}{x:d8}(h:A8 c x=true):
  (x.op=1->0<=x.a/\x.a<14)/\(x.op=11->0<=x.a/\x.a<14)/\
  (x.op=2->(0<=x.a/\x.a<14)/\0<=x.b/\x.b<c.vars.length)/\
  (x.op=3->(0<=x.a/\x.a<c.vars.length)/\0<=x.b/\x.b<14)/\
  (x.op=4->(0<=x.a/\x.a<14)/\(0<=x.b/\x.b<c.arrays.length)/\0<=x.c/\x.c<14)/\
  (x.op=5->(0<=x.a/\x.a<c.arrays.length)/\(0<=x.b/\x.b<14)/\0<=x.c/\x.c<14)/\
  (x.op=6->(0<=x.a/\x.a<14)/\(0<=x.c/\x.c<14)/\0<=x.d/\x.d<14)/\
  (x.op=7->(0<=x.a/\x.a<14)/\(0<=x.b/\x.b<14)/\(0<=x.c/\x.c<14)/\0<=x.d/\x.d<14)/\
  (x.op=9->0<=x.a/\x.a<14)/\(x.op=10->0<=x.a/\x.a<14):=by
 unfold A8 at h
 simp only[cv4,decide_eq_true_eq]at h
 obtain⟨_,⟨⟨ha,hb⟩,hc⟩,hd⟩:=h
 refine⟨fun e=>?_,fun e=>?_,fun e=>?_,fun e=>?_,fun e=>?_,fun e=>?_,fun e=>?_,fun e=>?_,fun e=>?_,fun e=>?_⟩
 all_goals
  rw[e]at ha hb hc hd
  simp[m7,G0,Q6]at ha hb hc hd
  omega
def as1(r:List Bool):Bool:=decide (r.length=0)||decide (r.length=14)
def N1(t row:List Bool)(k:Nat):Bool:=(cx0 k).all fun j=> !(t.getD j false&& !row.getD j false)
theorem a80(t row:List Bool)(k:Nat):N1 t row (k+1)=(N1 t row k&& !(t.getD k false&& !row.getD k false)):=by
 unfold N1;rw[List.range_succ,List.all_append];simp
def rowAt(m:List (List Bool))(i:Int):List Bool:=m.getD i.toNat []
theorem R4{m:List (List Bool)}{i:Nat}(h:i<m.length):rowAt m i=m[i]:=by simp[rowAt,h]
def t7(c:c8)(i:Nat):d8:=c.list.getD i ⟨0,0,0,0,0⟩
theorem t3{c:c8}{i:Nat}(h:i<c.list.length):t7 c i=c.list[i]:=by simp[t7,h]
def badAt(c:c8)(m:List (List Bool))(i:Nat):Bool:=decide (0<(rowAt m i).length)&&decide (F4 c (t7 c i) (rowAt m i)≠0)
def H3(c:c8)(m:List (List Bool)):Int×Int:=match(cx0 m.length).find? (badAt c m)with|some i=>(F4 c (t7 c i) (rowAt m i),(i:Int))|none=>(0,-1)
def K3(c:c8)(m:List (List Bool))(k:Nat):Bool:=(cx0 k).any (badAt c m)
theorem aG1(c:c8)(m:List (List Bool))(k:Nat):K3 c m (k+1)=(K3 c m k||badAt c m k):=by
 unfold K3;rw[List.range_succ,List.any_append];simp
theorem an6{c:c8}{m:List (List Bool)}(h:K3 c m m.length=false):H3 c m=(0,-1):=by
 unfold H3
 have:(cx0 m.length).find? (badAt c m)=none:=by
  rw[List.find?_eq_none]
  intro x hx hb
  have:=List.any_eq_false.1 h x hx
  exact this hb
 rw[this]
theorem aF5{c:c8}{m:List (List Bool)}{k:Nat}(hk:k<m.length)(h:K3 c m k=false)(hb:badAt c m k=true):H3 c m=(F4 c (t7 c k) (rowAt m k),(k:Int)):=by
 unfold H3
 have:(cx0 m.length).find? (badAt c m)=some k:=by
  rw[List.find?_range_eq_some]
  refine⟨hb,cz5.2 hk,fun j hj=>?_⟩
  have:=List.any_eq_false.1 h j (cz5.2 hj)
  simpa using this
 rw[this]
theorem bf9(c:c8)(m:List (List Bool)):decide ((H3 c m).1=0)= !K3 c m m.length:=by
 cases hb:K3 c m m.length
 ·rw[an6 hb];rfl
 unfold H3
 split
 ·rename_i i hi
  rw[List.find?_range_eq_some]at hi
  have:=hi.1
  simp only[badAt,cv4,decide_eq_true_eq]at this
  simp[this.2]
 rename_i hi
 rw[List.find?_eq_none]at hi
 obtain⟨x,hx,hy⟩:=List.any_eq_true.1 hb
 exact absurd hy (hi x hx)
def T4(c:c8)(m:List (List Bool))(i:Nat):Bool:=decide ((rowAt m i).length=0)||(nx c i).all fun t=>R8 (s8 c (t7 c i) (rowAt m i)) (rowAt m t)
theorem I7{m:List (List Bool)}(h:m.all as1=true)(i:Int):(rowAt m i).length=0\/(rowAt m i).length=14:=by
 unfold rowAt
 rcases cx7 i.toNat m.length with h1|h1
 ·have:=cw3.1 h _ (cx9 h1)
  simp only[as1,cz9,decide_eq_true_eq]at this
  simpa[h1]using this
 left;simp[h1]
def rle(t u:List Bool):Prop:=∀k:Nat,t.getD k false=true->u.getD k false=true
theorem rle.refl(t:List Bool):rle t t:=fun _ h=>h
theorem rle.trans{a b c:List Bool}(h:rle a b)(g:rle b c):rle a c:=fun k x=>g k (h k x)
theorem rle.antisymm{a b:List Bool}(hl:a.length=b.length)(h:rle a b)(g:rle b a):a=b:=by
 apply List.ext_getElem hl
 intro i h1 h2
 have e1:=h i
 have e2:=g i
 simp only[cv8,cv6 h1,cv6 h2,Option.getD_some]at e1 e2
 cases ha:a[i]<;>cases hb:b[i]<;>simp_all
theorem bg8(t row:List Bool):N1 t row t.length=true↔rle t row:=by
 unfold N1 rle
 rw[cw3]
 constructor
 ·intro h k hk
  rcases cx7 k t.length with h1|h1
  ·have:=h k (cz5.2 h1)
   rw[hk]at this
   simpa using this
  simp[h1]at hk
 intro h k _
 cases hk:t.getD k false
 ·rfl
 rw[h k hk];rfl
theorem E9(t row:List Bool):R8 t row=true↔0<row.length/\rle t row:=by
 have:R8 t row=(decide (0<row.length)&&N1 t row t.length):=rfl
 rw[this,cv4,decide_eq_true_eq,bg8]
theorem aR1(t:List Bool)(a k:Nat)(b:Bool):(t.set a b).getD k false=if k=a/\a<t.length then b else t.getD k false:=by
 simp only[cv8,List.getElem?_set]
 by_cases h:a=k
 ·subst h
  by_cases h2:a<t.length
  ·simp[h2]
  simp[h2]
 rw[if_neg h,if_neg (fun x=>h x.1.symm)]
theorem bi5{t u:List Bool}(h:rle t u)(k:Int):bAt t k=true->bAt u k=true:=h k.toNat
theorem aV6{c:c8}{x:d8}{t u:List Bool}(h:rle t u):(J0 c x t=none/\J0 c x u=none)\/∃p q,J0 c x t=some p/\J0 c x u=some q/\(p=true->q=true):=by
 have hb:=bi5 h
 unfold J0
 by_cases h1:x.op=1\/x.op=11
 ·rw[if_pos h1,if_pos h1];exact .inr ⟨_,_,rfl,rfl,id⟩
 rw[if_neg h1,if_neg h1]
 by_cases h2:x.op=2
 ·rw[if_pos h2,if_pos h2];exact .inr ⟨_,_,rfl,rfl,id⟩
 rw[if_neg h2,if_neg h2]
 by_cases h4:x.op=4
 ·rw[if_pos h4,if_pos h4];refine .inr ⟨_,_,rfl,rfl,fun g=>?_⟩
  simp only[cz9]at g ⊢
  rcases g with g|g
  ·exact .inl g
  exact .inr (hb _ g)
 rw[if_neg h4,if_neg h4]
 by_cases h6:x.op=6
 ·rw[if_pos h6,if_pos h6];refine .inr ⟨_,_,rfl,rfl,fun g=>?_⟩
  simp only[cz9]at g ⊢
  rcases g with g|g
  ·exact .inl (hb _ g)
  exact .inr (hb _ g)
 rw[if_neg h6,if_neg h6]
 by_cases h7:x.op=7
 ·rw[if_pos h7,if_pos h7];refine .inr ⟨_,_,rfl,rfl,fun g=>?_⟩
  simp only[cz9]at g ⊢
  rcases g with(g|g)|g
  ·exact .inl (.inl (hb _ g))
  ·exact .inl (.inr (hb _ g))
  exact .inr (hb _ g)
 rw[if_neg h7,if_neg h7]
 exact .inl ⟨rfl,rfl⟩
theorem aG3{c:c8}{x:d8}{t u:List Bool}(hl:t.length=u.length)(h:rle t u):rle (s8 c x t) (s8 c x u):=by
 unfold s8
 rcases aV6 (c:=c) (x:=x) h with⟨e1,e2⟩|⟨p,q,e1,e2,hpq⟩
 ·rw[e1,e2];exact h
 rw[e1,e2]
 intro k
 rw[aR1,aR1,hl]
 split
 ·exact hpq
 exact h k
def mle(m p:List (List Bool)):Prop:=∀i:Nat,(rowAt m i).length=0\/((rowAt p i).length≠0/\rle (rowAt m i) (rowAt p i))
def T1(c:c8)(m:List (List Bool)):Prop:=m.length=c.list.length/\m.all as1=true/\(rowAt m 0).length≠0/\∀i:Nat,i<m.length->T4 c m i=true
def K2(c:c8)(m:List (List Bool)):Prop:=T1 c m/\∀p,T1 c p->mle m p
theorem a60{c:c8}{m p:List (List Bool)}(h:K2 c m)(g:K2 c p):m=p:=by
 have h1:=h.2 p g.1
 have h2:=g.2 m h.1
 have hl:m.length=p.length:=h.1.1.trans g.1.1.symm
 apply List.ext_getElem hl
 intro i hi hj
 have e1:=h1 i
 have e2:=h2 i
 have o1:=I7 h.1.2.1 i
 have o2:=I7 g.1.2.1 i
 rw[R4 hi]at e1 e2 o1
 rw[R4 hj]at e1 e2 o2
 have el:m[i].length=p[i].length:=al
 rcases Nat.eq_zero_or_pos m[i].length with h0|h0
 ·have e3:p[i].length=0:=al
  rw[cw9 h0,cw9 e3]
 rcases e1 with e1|e1
 ·omega
 rcases e2 with e2|e2
 ·omega
 exact rle.antisymm el e1.2 e2.2
structure Low(c:c8)(m:List (List Bool)):Prop where
 len:m.length=c.list.length
 ok:m.all as1=true
 first:(rowAt m 0).length≠0
 low:∀p,T1 c p->mle m p
theorem Low.least{c:c8}{m:List (List Bool)}(h:Low c m)(hc:∀i:Nat,i<m.length->T4 c m i=true):K2 c m:=⟨⟨h.len,h.ok,h.first,hc⟩,h.low⟩
theorem C7{m:List (List Bool)}{y:Nat}(r:List Bool)(i:Int)(hy:y<m.length):rowAt (m.set y r) i=if i.toNat=y then r else rowAt m i:=by
 unfold rowAt
 simp only[cv8,List.getElem?_set]
 by_cases h:y=i.toNat
 ·rw[if_pos h,if_pos h.symm];subst h;simp[hy]
 rw[if_neg h,if_neg (Ne.symm h)]
theorem Low.start{c:c8}(hn:1<=c.list.length):Low c ((cv3 c.list.length ([]:List Bool)).set 0 (cv3 14 false)):=by
 have hl:0<(cv3 c.list.length ([]:List Bool)).length:=by rw[cx5];omega
 refine⟨an,?_,?_,fun p hp i=>?_⟩
 ·rw[cw3]
  intro r hr
  rcases List.mem_or_eq_of_mem_set hr with h|h
  ·rw[(List.mem_replicate.1 h).2];rfl
  rw[h];rfl
 ·rw[C7 _ _ hl];simp
 rw[C7 _ _ hl]
 by_cases hi:i=0
 ·subst hi
  right
  refine⟨hp.2.2.1,fun k hk=>?_⟩
  exfalso
  rw[if_pos an]at hk
  simp only[cv8,cz3]at hk
  split at hk<;>simp at hk
 left
 rw[if_neg (by simpa using hi)]
 unfold rowAt
 simp only[cv8,cz3]
 split<;>simp
theorem Low.set{c:c8}{m:List (List Bool)}(h:Low c m){y:Nat}(hy:y<m.length){r:List Bool}(hr:r.length=14)(hp:∀p,T1 c p->(rowAt p y).length≠0/\rle r (rowAt p y)):Low c (m.set y r):=by
 refine⟨by simpa using h.len,?_,?_,fun p g i=>?_⟩
 ·rw[cw3]
  intro r' hr'
  rcases List.mem_or_eq_of_mem_set hr' with h'|h'
  ·exact cw3.1 h.ok _ h'
  rw[h'];simp[as1,hr]
 ·rw[C7 _ _ hy]
  split
  ·omega
  exact h.first
 rw[C7 _ _ hy]
 split
 ·rename_i e
  have e:i=y:=by simpa using e
  subst e
  exact .inr (hp p g)
 exact h.low p g i
theorem Low.after{c:c8}{m:List (List Bool)}(h:Low c m){i:Nat}(hi:i<m.length)(h14:(rowAt m i).length=14):∀p,T1 c p->∀t∈nx c i,(rowAt p t).length≠0/\rle (s8 c (t7 c i) (rowAt m i)) (rowAt p t):=by
 intro p hp t ht
 have hpi:i<p.length:=by rw[hp.1, <-h.len];exact hi
 rcases h.low p hp i with h0|⟨hn,hr⟩
 ·omega
 have hc:=hp.2.2.2 i hpi
 unfold T4 at hc
 rw[cz9,decide_eq_true_eq]at hc
 rcases hc with hc|hc
 ·exact absurd hc hn
 have:=cw3.1 hc t ht
 rw[E9]at this
 have h2:=I7 hp.2.1 i
 exact⟨al,(aG3 al hr).trans this.2⟩
theorem bE4{c:c8}{m:List (List Bool)}{y j:Nat}(hy:y<m.length)(hne:j≠y){r:List Bool}(hr:r.length=14)(hle:rle (rowAt m y) r)(h:T4 c m j=true):T4 c (m.set y r) j=true:=by
 unfold T4 at h ⊢
 have ej:rowAt (m.set y r) j=rowAt m j:=by rw[C7 _ _ hy,if_neg (by simpa using hne)]
 rw[ej]
 rw[cz9,decide_eq_true_eq]at h ⊢
 rcases h with h|h
 ·exact .inl h
 right
 rw[cw3]at h ⊢
 intro t ht
 have:=h t ht
 rw[E9]at this ⊢
 rw[C7 _ _ hy]
 split
 ·rename_i e
  refine⟨al,this.2.trans ?_⟩
  rw[show rowAt m t=rowAt m y by unfold rowAt;rw[e];simp]
  exact hle
 exact this
theorem bS4{m:List (List Bool)}{y:Nat}(hy:y<m.length){r t:List Bool}{z:Int}(hr:r.length=14)(hle:rle (rowAt m y) r)(h:R8 t (rowAt m z)=true):R8 t (rowAt (m.set y r) z)=true:=by
 rw[E9]at h ⊢
 rw[C7 _ _ hy]
 split
 ·rename_i e
  refine⟨al,h.2.trans ?_⟩
  rw[show rowAt m z=rowAt m y by unfold rowAt;rw[e];simp]
  exact hle
 exact h
def t2(row t:List Bool)(k:Nat):List Bool:=(cx0 row.length).map fun j=>row.getD j false||(decide (j<k)&&t.getD j false)
def R7(row t:List Bool):List Bool:=if row.length=0 then t else t2 row t t.length
theorem O9(row t:List Bool)(k:Nat):(t2 row t k).length=row.length:=by simp[t2]
theorem aU5(row t:List Bool):t2 row t 0=row:=by
 apply List.ext_getElem (O9 _ _ _)
 intro i h1 h2
 simp[t2,h2]
theorem X2(row t:List Bool)(k j:Nat)(hj:j<row.length):(t2 row t k).getD j false=(row.getD j false||(decide (j<k)&&t.getD j false)):=by
 simp[t2,hj]
theorem aU6{row t:List Bool}{k:Nat}(h:(t.getD k false&& !row.getD k false)=false):t2 row t (k+1)=t2 row t k:=by
 unfold t2
 apply List.map_congr_left
 intro j _
 by_cases hj:j=k
 ·subst hj
  cases h1:t.getD j false<;>cases h2:row.getD j false<;>simp_all
 have:decide (j<k+1)=decide (j<k):=by rw[decide_eq_decide];omega
 rw[this]
theorem a63{row t:List Bool}{k:Nat}(_hk:k<row.length)(h1:t.getD k false=true):t2 row t (k+1)=(t2 row t k).set k true:=by
 apply List.ext_getElem (by simp[O9])
 intro i g1 g2
 have hi:i<row.length:=by simpa[O9]using g1
 rw[List.getElem_set]
 split
 ·rename_i e
  subst e
  simp only[t2,List.getElem_map,List.getElem_range]
  rw[h1];simp
 rename_i e
 simp only[t2,List.getElem_map,List.getElem_range]
 have:decide (i<k+1)=decide (i<k):=by rw[decide_eq_decide];omega
 rw[this]
theorem ag8{row t:List Bool}(hr:row.length=0\/row.length=14)(ht:t.length=14):(R7 row t).length=14:=by
 unfold R7
 split
 ·exact ht
 rw[O9];omega
theorem aQ0{row t:List Bool}(_hr:row.length=0\/row.length=14):rle row (R7 row t):=by
 intro k hk
 unfold R7
 split
 ·rename_i h0
  rw[cw9 h0]at hk
  simp at hk
 rcases cx7 k row.length with h1|h1
 ·rw[X2 _ _ _ _ h1,hk];rfl
 simp[h1]at hk
theorem aF2{row t:List Bool}(hr:row.length=0\/row.length=14)(ht:t.length=14):rle t (R7 row t):=by
 intro k hk
 unfold R7
 split
 ·exact hk
 rcases cx7 k t.length with h1|h1
 ·rw[X2 _ _ _ _ al,hk,decide_eq_true h1];simp
 simp[h1]at hk
theorem be1{row t u:List Bool}(h1:rle row u)(h2:rle t u):rle (R7 row t) u:=by
 intro k hk
 unfold R7 at hk
 split at hk
 ·exact h2 k hk
 rcases cx7 k row.length with h|h
 ·rw[X2 _ _ _ _ h]at hk
  rw[cz9,cv4]at hk
  rcases hk with hk|hk
  ·exact h1 k hk
  exact h2 k hk.2
 have:(t2 row t t.length).length<=k:=by rw[O9];exact h
 simp[this]at hk
def at9(r:List Bool):Nat:=if r.length=0 then 15 else r.count false
def pot(m:List (List Bool)):Nat:=(m.map at9).sum
theorem aI5:∀(m:List (List Bool)) (y:Nat) (r:List Bool) (hy:y<m.length),pot (m.set y r)+at9 m[y]=pot m+at9 r
 |[],y,_,hy=>by simp at hy
 |a::m,0,r,_=>by simp[pot];omega
 |a::m,y+1,r,hy=>by
  have:=aI5 m y r (by simpa using hy)
  simp[pot]at this ⊢
  omega
theorem count_le{a b:List Bool}(hl:a.length=b.length)(h:rle a b):b.count false<=a.count false:=by
 induction a generalizing b with
 |nil=>cases b<;>simp_all
 | cons x a ih =>
  cases b with
  |nil=>simp at hl
  |cons y b=>
   have h1:=ih (b:=b) (by simpa using hl) (fun k hk=>by have:=h (k+1);simp at this hk ⊢;exact this hk)
   have h0:=h 0
   simp at h0
   cases x<;>cases y<;>simp_all<;>omega
theorem bS5{a b:List Bool}(hl:a.length=b.length)(h:rle a b)(hn:¬rle b a):b.count false<a.count false:=by
 induction a generalizing b with
 |nil=>cases b<;>simp_all[rle]
 | cons x a ih =>
  cases b with
  |nil=>simp at hl
  | cons y b =>
   have hs:rle a b:=fun k hk=>by have:=h (k+1);simp at this hk ⊢;exact this hk
   have hc:=count_le (by simpa using hl) hs
   have h0:=h 0
   simp at h0
   by_cases hr:rle b a
   ·have:¬(y=true->x=true):=fun g=>hn (fun k=>by
     cases k with
     |zero=>simpa using g
     |succ k=>simpa using hr k)
    cases x<;>cases y<;>simp_all<;>omega
   have h1:=ih (b:=b) (by simpa using hl) hs hr
   cases x<;>cases y<;>simp_all<;>omega
theorem bB7{row t:List Bool}(hr:row.length=0\/row.length=14)(ht:t.length=14)(h:R8 t row=false):at9 (R7 row t)<at9 row:=by
 unfold at9
 rw[if_neg (by rw[ag8 hr ht];omega)]
 by_cases h0:row.length=0
 ·rw[if_pos h0]
  have:=List.count_le_length (a:=false) (l:=R7 row t)
  rw[ag8 hr ht]at this
  omega
 rw[if_neg h0]
 refine bS5 (by rw[ag8 hr ht];omega) (aQ0 hr) fun g=>?_
 rw[Bool.eq_false_iff]at h
 exact h ((E9 _ _).2 ⟨al,(aF2 hr ht).trans g⟩)
theorem b89(m:List (List Bool))(h:m.all as1=true):pot m<=15*m.length:=by
 induction m with
 |nil=>simp[pot]
 | cons r m ih =>
  simp only[List.all_cons,cv4]at h
  have h1:=ih h.2
  have h2:at9 r<=15:=by
   unfold at9
   split
   ·omega
   have:=List.count_le_length (a:=false) (l:=r)
   have:=h.1
   simp only[as1,cz9,decide_eq_true_eq]at this
   omega
  simp only[pot,cy8,List.sum_cons,cw2]at h1 ⊢
  omega
end Go.Proofs.YtfbeblgnjeokaaaGreat

namespace Go.Proofs.YtfbeblgnjeokaaaGreat
open Go Go.RowKit
theorem Code.rowOf{w:World}{lo hi:Nat}{v1 v2 v3:Value}{c:c8}(h:C6 w lo hi (.agg #[v1,v2,v3]) c):∃a1 k1 a2 k2 a3 k3,v1=.slice a1 c.vars.length k1/\v2=.slice a2 c.arrays.length k2/\v3=.slice a3 c.list.length k3:=by
 obtain⟨u1,u2,u3,he,h1,h2,h3,-⟩:=h
 simp only[Value.agg.injEq,Array.mk.injEq,List.cons.injEq,and_true]at he
 obtain⟨rfl,rfl,rfl⟩:=he
 obtain⟨a1,k1,e1⟩:=h1.form
 obtain⟨a2,k2,e2⟩:=h2.form
 obtain⟨a3,k3,e3⟩:=h3.form
 exact⟨a1,k1,a2,k2,a3,k3,e1,e2,e3⟩
theorem O1{B:Nat}{w w1 w2:World}(k:Below w1.heap.size w1 w2)(h:Below B w w1)(hB:B<=w.heap.size):Below B w w2:=
 h.trans (k.mono (cx8 hB h.size))
theorem bT2{w:World}{b:Nat}{x y z:Value}(L:A1 w b [x,y,z]):∀W',Below w.heap.size w W'->W'.cell? ⟨b,0,none⟩=some x/\W'.cell? ⟨b,1,none⟩=some y/\W'.cell? ⟨b,2,none⟩=some z:=by
 intro W' hb
 have L':=L.below hb L.lt
 exact⟨by simpa using L'.cell 0,by simpa using L'.cell 1,by simpa using L'.cell 2⟩
def E0(w:World)(lo hi g:Nat)(m:List (List Bool)):Prop:=
 Z4 w lo hi (.slice (some ⟨g,0,none⟩) m.length m.length) m/\∀i:Nat,i<m.length->(rowAt m i).length=0->w.cell? ⟨g,i,none⟩=some (.slice none 0 0)
theorem E0.wide{w:World}{lo hi lo' hi' g:Nat}{m:List (List Bool)}(h:E0 w lo hi g m)(h1:lo'<=lo)(h2:hi<=hi'):E0 w lo' hi' g m:=⟨h.1.wide h1 h2,h.2⟩
theorem E0.lt{w:World}{lo hi g:Nat}{m:List (List Bool)}(h:E0 w lo hi g m):lo<=g/\g<hi/\g<w.heap.size:=by
 obtain⟨vs,h1,_⟩:=h.1
 exact h1.lt g rfl
theorem E0.keep{w w':World}{lo hi B g:Nat}{m:List (List Bool)}(h:E0 w lo hi g m)(hb:Below B w w')(hB:hi<=B):E0 w' lo hi g m:=by
 have hl:=h.lt
 exact⟨h.1.keep hb hB,fun i hi h0=>(hb.cell (p:=⟨g,i,none⟩) (by show g<B;omega)).trans (h.2 i hi h0)⟩
theorem E0.at{w:World}{lo hi g:Nat}{m:List (List Bool)}(h:E0 w lo hi g m){i:Nat}(hi':i<m.length):
  w.frozen? ⟨g,i,none⟩=false/\∃u,w.cell? ⟨g,i,none⟩=some u/\A9 w lo hi 4 1 u (rowAt m i).length (bools (rowAt m i))/\u.ownBlock≠some g:=by
 obtain⟨vs,h1,h2,h3,h4⟩:=h.1
 have hl:i<vs.length:=by have:=h1.1.1;omega
 obtain⟨g',cap,hv,-,-,-,hf,u0,hc⟩:=h1.at hl
 cases hv
 obtain⟨g',cap,hv,-,-,-,-,-,-,hcc⟩:=h1.open al
 cases hv
 have hu:=cv6 hl
 refine⟨hf,vs[i],hcc i _ hu,?_,fun e=>h4 i _ hu g e rfl⟩
 have:=h2 i _ _ hu (cv6 hi')
 rw[R4 hi']
 exact this
theorem E0.at14{w:World}{lo hi g:Nat}{m:List (List Bool)}(h:E0 w lo hi g m){i:Nat}(hi':i<m.length)(h14:(rowAt m i).length=14):
  ∃gy cy,w.cell? ⟨g,i,none⟩=some (.slice (some ⟨gy,0,none⟩) 14 cy)/\lo<=gy/\gy<hi/\gy<w.heap.size/\gy≠g/\14<=cy/\cy<=9223372036854775807/\(∀o,w.frozen? ⟨gy,o,none⟩=false)/\(∀k:Nat,k<14->w.cell? ⟨gy,k,none⟩=some (.bool ((rowAt m i).getD k false)))/\
  H7 w (.slice (some ⟨gy,0,none⟩) 14 cy) 14 1 (bools (rowAt m i)):=by
 obtain⟨-,u,hc,ho,hn⟩:=h.at hi'
 rw[h14]at ho
 obtain⟨gy,cy,rfl,g1,g2,g3,g4,g5,g6,g7⟩:=ho.open al
 refine⟨gy,cy,hc,g1,g2,g3,fun e=>hn (by rw[e];rfl),g4,g5,g6,fun k hk=>?_,ho.row⟩
 rw[g7 k _ (x5 _ k al)]
 simp[show k<(rowAt m i).length by omega]
theorem b09{vs:List Value}{y:Nat}{u:Value}(hd:∀(i j:Nat) (a b:Value),i<j->vs[i]? =some a->vs[j]? =some b->Y4 a b)(hu:∀i a,vs[i]? =some a->i≠y->Y4 a u):
  ∀(i j:Nat) (a b:Value),i<j->(vs.set y u)[i]? =some a->(vs.set y u)[j]? =some b->Y4 a b:=by
 intro i j a b hij ha hb
 rw[List.getElem?_set]at ha hb
 by_cases h1:y=i
 ·rw[if_pos h1]at ha
  have h2:¬y=j:=al
  rw[if_neg h2]at hb
  split at ha
  ·cases ha
   exact(hu j b hb al).symm
  cases ha
 rw[if_neg h1]at ha
 by_cases h2:y=j
 ·rw[if_pos h2]at hb
  split at hb
  ·cases hb
   exact hu i a ha al
  cases hb
 rw[if_neg h2]at hb
 exact hd i j a b hij ha hb
theorem N8(w:World)(b j:Nat)(u:Value)(k:Nat)(h:k≠b):(w.setCell ⟨b,j,none⟩ u).heap[k]? =w.heap[k]? :=Below.heap_setCell _ _ _ _ h
theorem E0.setRow{w:World}{lo hi lo' hi' g:Nat}{m:List (List Bool)}(h:E0 w lo hi g m){y:Nat}(hy:y<m.length){u:Value}{r:List Bool}(hr:r.length=14)(hu:A9 w lo' hi' 4 1 u 14 (bools r))(h1:hi<=lo')(h2:lo'<=hi'):
  E0 (w.setCell ⟨g,y,none⟩ u) lo hi' g (m.set y r):=by
 have hgl:=h.lt
 obtain⟨⟨vs,k1,k2,k3,k4⟩,hnil⟩:=h
 have hvl:vs.length=m.length:=by have:=k1.1.1;omega
 have hug:∀g',u.ownBlock=some g'->g'≠g:=fun g' e=>by have:=hu.lt g' e;omega
 refine⟨⟨vs.set y u,?_,?_,?_,?_⟩,?_⟩
 ·rw[cy3]
  exact(k1.setCell al u).wide (cv7 _) al
 ·intro i a r' ha hr'
  rw[List.getElem?_set]at ha hr'
  split at ha
  ·rename_i e
   rw[if_pos e]at hr'
   rw[if_pos hy]at hr'
   cases hr'
   split at ha
   ·cases ha
    rw[hr]
    exact(hu.same fun g' e=>N8 _ _ _ _ _ (hug g' e)).wide al (cv7 _)
   cases ha
  rename_i e
  rw[if_neg e]at hr'
  exact((k2 i a r' ha hr').same fun g' e=>N8 _ _ _ _ _ fun e'=>k4 i a ha g' e (by rw[e'];rfl)).wide (cv7 _) al
 ·refine b09 k3 fun i a ha _=>?_
  have hi:i<m.length:=by have:=(cw5.1 ha).1;omega
  exact aj0 (k2 i a _ ha (cv6 hi)) hu al
 ·intro i a ha
  rw[List.getElem?_set]at ha
  split at ha
  ·split at ha
   ·cases ha
    exact fun g' e e'=>hug g' e (by cases e';rfl)
   cases ha
  have:=k4 i a ha
  rw[cy3]
  exact this
 intro i hi h0
 rw[cy3]at hi
 rw[C7 _ _ hy]at h0
 split at h0
 ·omega
 rename_i e
 rw[World.cell?_setCell_other _ _ _ _ (by intro e';cases e';exact e an)]
 exact hnil i hi h0
theorem E0.setBit{w:World}{lo hi g:Nat}{m:List (List Bool)}(h:E0 w lo hi g m){y:Nat}(hy:y<m.length){gy cy:Nat}(hc:w.cell? ⟨g,y,none⟩=some (.slice (some ⟨gy,0,none⟩) 14 cy))(h14:(rowAt m y).length=14){k:Nat}(hk:k<14)(b:Bool):
  E0 (w.setCell ⟨gy,k,none⟩ (.bool b)) lo hi g (m.set y ((rowAt m y).set k b)):=by
 have hgl:=h.lt
 obtain⟨⟨vs,k1,k2,k3,k4⟩,hnil⟩:=h
 have hvl:vs.length=m.length:=by have:=k1.1.1;omega
 have hyv:y<vs.length:=al
 obtain⟨g',cap,hv,-,-,-,-,-,-,hcc⟩:=k1.open al
 cases hv
 have hvy:vs[y]? =some (.slice (some ⟨gy,0,none⟩) 14 cy):=by
  have:=hcc y _ (cv6 hyv)
  rw[hc]at this
  rw[cv6 hyv, <-Option.some.inj this]
 have hgy:gy≠g:=fun e=>k4 y _ hvy gy rfl (by rw[e];rfl)
 have hgr:rowAt m y=m[y]:=R4 hy
 refine⟨⟨vs,?_,?_,k3,?_⟩,?_⟩
 ·rw[cy3]
  exact k1.same fun g' e=>N8 _ _ _ _ _ (by cases e;exact fun e=>hgy e.symm)
 ·intro i a r' ha hr'
  rw[List.getElem?_set]at hr'
  by_cases e:y=i
  ·subst e
   rw[if_pos rfl,if_pos hy]at hr'
   cases hr'
   rw[hvy]at ha
   cases ha
   have ho:=k2 y _ _ hvy (cv6 hy)
   rw[<-hgr,h14]at ho
   rw[cy3,h14]
   have:=ho.setCell (j:=k) ah (.bool b)
   rw[show bools ((rowAt m y).set k b)=(bools (rowAt m y)).set k (.bool b) by simp[bools,List.map_set]]
   exact this
  rw[if_neg e]at hr'
  refine(k2 i a r' ha hr').same fun g' e'=>N8 _ _ _ _ _ fun e2=>?_
  subst e2
  rcases cx7 y i with hlt|hge
  ·exact k3 y i _ _ hlt hvy ha g' rfl e'
  exact k3 i y _ _ al ha hvy g' e' rfl
 ·intro i a ha
  rw[cy3]
  exact k4 i a ha
 intro i hi h0
 rw[cy3]at hi
 rw[C7 _ _ hy]at h0
 split at h0
 ·rw[cy3]at h0;omega
 rw[World.cell?_setCell_other _ _ _ _ (by intro e';cases e';exact hgy rfl)]
 exact hnil i hi h0
def ab3(w:World)(g:Nat)(m:List (List Bool))(b:Nat):Prop:=b=g\/∃(i:Nat) (u:Value),i<m.length/\w.cell? ⟨g,i,none⟩=some u/\u.ownBlock=some b
theorem E0.blk{w:World}{lo hi g:Nat}{m:List (List Bool)}(h:E0 w lo hi g m){b:Nat}(hb:ab3 w g m b):lo<=b/\b<hi/\b<w.heap.size:=by
 rcases hb with rfl|⟨i,u,hi',hc,hu⟩
 ·exact h.lt
 obtain⟨-,u',hc',ho,-⟩:=h.at hi'
 rw[hc]at hc'
 cases hc'
 exact ho.lt b hu
theorem a01{w w':World}{b:Nat}(h:w'.heap[b]? =w.heap[b]?)(o:Nat):w'.cell? ⟨b,o,none⟩=w.cell? ⟨b,o,none⟩:=by simp[World.cell?,h]
theorem E0.same{w w':World}{lo hi g:Nat}{m:List (List Bool)}(h:E0 w lo hi g m)(hs:∀b,ab3 w g m b->w'.heap[b]? =w.heap[b]?):E0 w' lo hi g m/\∀b,ab3 w' g m b->ab3 w g m b:=by
 have hg:=hs g (.inl rfl)
 obtain⟨⟨vs,k1,k2,k3,k4⟩,hnil⟩:=h
 have hvl:vs.length=m.length:=by have:=k1.1.1;omega
 have hrow:∀(i:Nat) (u:Value),vs[i]? =some u->i<m.length/\w.cell? ⟨g,i,none⟩=some u:=by
  intro i u hu
  have hi':=(cw5.1 hu).1
  obtain⟨g',cap,hv,-,-,-,-,-,-,hcc⟩:=k1.open al
  cases hv
  exact⟨al,hcc i u hu⟩
 refine⟨⟨⟨vs,k1.same fun g' e=>by cases e;exact hg,fun i u r hu hr=>(k2 i u r hu hr).same fun b e=>hs b (.inr ⟨i,u,(hrow i u hu).1,(hrow i u hu).2,e⟩),k3,k4⟩,fun i hi' h0=>(a01 hg i).trans (hnil i hi' h0)⟩,?_⟩
 rintro b (rfl|⟨i,u,h1,h2,h3⟩)
 ·exact .inl rfl
 exact .inr ⟨i,u,h1,(a01 hg i).symm.trans h2,h3⟩
theorem E0.next{w w':World}{lo hi g:Nat}{m:List (List Bool)}(h:E0 w lo hi g m)(hb:Below w.heap.size w w'):E0 w' lo hi g m/\∀b,ab3 w' g m b->ab3 w g m b:=
 h.same fun b hb'=>hb.block b (h.blk hb').2.2
theorem E0.grown{w w':World}{lo hi g:Nat}{m:List (List Bool)}{row:Option Nat}(h:E0 w lo hi g m)(hg:w.grownBy w' row)(hne:∀b,row=some b->¬ab3 w g m b):E0 w' lo hi g m/\∀b,ab3 w' g m b->ab3 w g m b:=
 h.same fun b hb'=>hg.block b (h.blk hb').2.2 fun he=>hne b he.symm hb'
theorem E0.setRow_blk{w:World}{lo hi g:Nat}{m:List (List Bool)}(h:E0 w lo hi g m){y:Nat}(hy:y<m.length)(u:Value)(r:List Bool){b:Nat}(hb:ab3 (w.setCell ⟨g,y,none⟩ u) g (m.set y r) b):ab3 w g m b\/u.ownBlock=some b:=by
 rcases hb with rfl|⟨i,u',h1,h2,h3⟩
 ·exact .inl (.inl rfl)
 rw[cy3]at h1
 by_cases e:i=y
 ·subst e
  obtain⟨hf,u0,hc,-,-⟩:=h.at hy
  rw[World.cell?_setCell_same _ _ _ hc]at h2
  cases h2
  exact .inr h3
 rw[World.cell?_setCell_other _ _ _ _ (by intro e';cases e';exact e rfl)]at h2
 exact .inl (.inr ⟨i,u',h1,h2,h3⟩)
theorem E0.setBit_blk{w:World}{g gy k y b':Nat}{m:List (List Bool)}{r:List Bool}{u:Value}(hne:gy≠g)(hb:ab3 (w.setCell ⟨gy,k,none⟩ u) g (m.set y r) b'):ab3 w g m b':=by
 rcases hb with rfl|⟨i,u',h1,h2,h3⟩
 ·exact .inl rfl
 rw[cy3]at h1
 rw[World.cell?_setCell_other _ _ _ _ (by intro e';cases e';exact hne rfl)]at h2
 exact .inr ⟨i,u',h1,h2,h3⟩
def H8(w:World)(g:Nat)(m:List (List Bool))(v:Value):Prop:=∀b,v.ownBlock=some b->¬ab3 w g m b
theorem H8.next{w w':World}{lo hi g:Nat}{m:List (List Bool)}{v:Value}(h:H8 w g m v)(hS:E0 w lo hi g m)(hb:Below w.heap.size w w'):H8 w' g m v:=fun b hv hm=>h b hv ((hS.next hb).2 b hm)
theorem H8.setRow{w:World}{lo hi g y:Nat}{m:List (List Bool)}{v u:Value}{r:List Bool}(h:H8 w g m v)(hS:E0 w lo hi g m)(hy:y<m.length)(hu:∀b,v.ownBlock=some b->u.ownBlock≠some b):H8 (w.setCell ⟨g,y,none⟩ u) g (m.set y r) v:=by
 intro b hv hm
 rcases hS.setRow_blk hy _ _ hm with h1|h1
 ·exact h b hv h1
 exact hu b hv h1
theorem H8.setBit{w:World}{g gy k y:Nat}{m:List (List Bool)}{v u:Value}{r:List Bool}(h:H8 w g m v)(hne:gy≠g):H8 (w.setCell ⟨gy,k,none⟩ u) g (m.set y r) v:=fun b hv hm=>h b hv (E0.setBit_blk hne hm)
theorem ab6{w:World}{lo hi g b j:Nat}{m:List (List Bool)}{e:TypeId}{sz:Nat}{v u:Value}{n:Nat}{xs:List Value}(h:A9 w lo hi e sz v n xs)(ha:H8 w g m v)(hb:ab3 w g m b):A9 (w.setCell ⟨b,j,none⟩ u) lo hi e sz v n xs:=
 h.same fun g' e=>N8 _ _ _ _ _ fun e'=>ha g' e (e'▸hb)
theorem R2.unique{w:World}{v:Value}{m p:List (List Bool)}(h:R2 w v m)(g:R2 w v p):m=p:=by
 obtain⟨a,cap,rfl,-,h2⟩:=h.open
 obtain⟨a',cap',hv,-,g2⟩:=g.open
 simp only[Value.slice.injEq]at hv
 obtain⟨rfl,hl,rfl⟩:=hv
 have hl:m.length=p.length:=al
 apply List.ext_getElem hl
 intro i hi hj
 obtain⟨b,off,a1,c1,e1,-,x1,r1⟩:=h2 i hi
 obtain⟨b',off',a2,c2,e2,-,x2,r2⟩:=g2 i hj
 rw[e1]at e2
 cases e2
 rw[x1]at x2
 have x2:=Option.some.inj x2
 simp only[Value.slice.injEq]at x2
 obtain⟨rfl,hlr,rfl⟩:=x2
 have hlr:m[i].length=p[i].length:=al
 obtain⟨a3,k3,hv3,-,-,-,f3⟩:=r1.open1
 obtain⟨a4,k4,hv4,-,-,-,f4⟩:=r2.open1
 cases hv3
 simp only[Value.slice.injEq]at hv4
 obtain⟨rfl,-,-⟩:=hv4
 apply List.ext_getElem hlr
 intro j g1 g2
 obtain⟨b3,o3,e3,-,y3⟩:=f3 j g1
 obtain⟨b4,o4,e4,-,y4⟩:=f4 j g2
 rw[e3]at e4
 cases e4
 rw[x5 _ _ g1]at y3
 rw[x5 _ _ g2]at y4
 rw[y3]at y4
 have:=Option.some.inj y4
 cases hb1:m[i][j]<;>cases hb2:p[i][j]<;>simp_all
noncomputable def aF1(w:World)(v:Value):Nat:=open Classical in if h:∃m,R2 w v m then pot h.choose else 0
theorem bL6{w:World}{v:Value}{m:List (List Bool)}(h:R2 w v m):aF1 w v=pot m:=by
 unfold aF1
 have hx:∃m,R2 w v m:=⟨m,h⟩
 rw[dif_pos hx]
 rw[R2.unique hx.choose_spec h]
theorem E0.pot{w:World}{lo hi g:Nat}{m:List (List Bool)}(h:E0 w lo hi g m):aF1 w (.slice (some ⟨g,0,none⟩) m.length m.length)=pot m:=bL6 h.1.row
theorem ar0{l:List Bool}:∀u∈bools l,u.oneCell'=true:=by
 intro u hu
 obtain⟨x,_,rfl⟩:=List.mem_map.1 hu
 rfl
theorem bq1(v:Value)(t:List Bool)(w:World)(h:H7 w v t.length 1 (bools t))(hb:t.length<=100000000000000):
  Calls Tryz.prog 112 #[v] w fun e w'=>∃u,e=.returned u/\A9 w' w.heap.size w'.heap.size 4 1 u t.length (bools t)/\Below w.heap.size w w':=by
 obtain⟨a,cap,rfl,hc1,hc2,hc3,-⟩:=h.open
 have hnil:=fun w=>Lib.run_eql_slice_nil (P:=Tryz.prog) w 63 4 a t.length cap 0 0 Tryz.underlying63
 rcases a with _|a
 ·have hn:t.length=0:=by
   rcases Nat.eq_zero_or_pos t.length with h0|h0
   ·exact h0
   obtain⟨_,a,c,he,_,_,hx⟩:=h
   cases he
   obtain⟨_,_,he,_⟩:=hx h0
   cases he
  have ht:t=[]:=cw9 hn
  subst ht
  simp only[cw6,Option.isNone_none]at hnil
  go_enter Tryz.func112,Tryz.ntmps112
  go_wp2_with fail
  go_ret
  exact⟨_,rfl,⟨World.ownsRow_nil _ _ _ _,fun g hg=>by cases hg⟩,Below.refl _ _⟩
 go_enter Tryz.func112,Tryz.ntmps112
 simp only[Option.isNone_some]at hnil
 have ba:=(Below.refl w.heap.size w).alloc (cv7 _) (.cells #[] 4)
 go_wp2_with (at_builtin;refine D2 rfl _ _ rfl Tryz.underlying63 aQ2 rfl al rfl (x8 w #[] 0 1 _ rfl rfl al).1 rfl (h.below ba) ar0 al al an ?_;rintro a4 q4 w4 o4 b4- -)
 go_ret
 refine⟨_,rfl,A9.mk' (by simpa using o4),ba.trans b4⟩
theorem am3(n:Nat)(v:Value):(F0 [v] n).toArray=cx4 n v:=by rw[J4];simp
theorem aZ3(W:World)(n:Nat)(hn:1<=n)(hm:n<=9223372036854775807):
  let W2:=(W.alloc (.cells (cx4 n (.slice none 0 0)) 63)).alloc (.cells (cx4 14 (.bool false)) 4)
  W2.frozen? ⟨W.heap.size,0,none⟩=false/\(∃u,W2.cell? ⟨W.heap.size,0,none⟩=some u)/\
  E0 (W2.setCell ⟨W.heap.size,0,none⟩ (.slice (some ⟨W.heap.size+1,0,none⟩) 14 14)) W.heap.size (W.heap.size+1+1) W.heap.size ((cv3 n ([]:List Bool)).set 0 (cv3 14 false)):=by
 intro W2
 have h0:=ax3 W [.slice none 0 0] n 1 63 rfl hm
 rw[am3,J4]at h0
 have k0:Below (W.heap.size+1) (W.alloc (.cells (cx4 n (.slice none 0 0)) 63)) W2:=by
  have:=(Below.refl (W.heap.size+1) (W.alloc (.cells (cx4 n (.slice none 0 0)) 63))).alloc an (.cells (cx4 14 (.bool false)) 4)
  exact this
 have h1:=h0.keep k0 (cv7 _)
 have hS:E0 W2 W.heap.size (W.heap.size+1) W.heap.size (cv3 n ([]:List Bool)):=by
  refine⟨⟨cv3 n (.slice none 0 0),by rw[cx5];exact h1,fun i u r hu hr=>?_,fun i j a b _ ha _=>?_,fun i u hu=>?_⟩,fun i hi _=>?_⟩
  ·rw[cz3]at hu hr
   split at hu
   ·rename_i hi
    rw[if_pos hi]at hr
    cases hu;cases hr
    exact⟨World.ownsRow_nil _ _ _ _,fun g hg=>by cases hg⟩
   cases hu
  ·rw[cz3]at ha
   split at ha
   ·cases ha;intro g hg;cases hg
   cases ha
  ·rw[cz3]at hu
   split at hu
   ·cases hu;intro g hg;cases hg
   cases hu
  rw[cx5]at hi
  obtain⟨g,cap,hv,-,-,-,-,-,-,hcc⟩:=h1.open al
  cases hv
  exact hcc i _ (by rw[cz3,if_pos hi])
 have hr:A9 W2 (W.heap.size+1) (W.heap.size+1+1) 4 1 (.slice (some ⟨W.heap.size+1,0,none⟩) 14 14) 14 (bools (cv3 14 false)):=by
  have:=x8 (W.alloc (.cells (cx4 n (.slice none 0 0)) 63)) (g:=W.heap.size+1) (cx4 14 (.bool false)) 14 1 4 an an al
  rw[show(cx4 14 (Value.bool false)).toList=bools (cv3 14 false) by simp[bools]]at this
  simpa using this
 have hl:0<(cv3 n ([]:List Bool)).length:=by rw[cx5];omega
 obtain⟨hf,u,hc,-⟩:=hS.at hl
 exact⟨hf,⟨u,hc⟩,(hS.setRow hl an hr (cv7 _) al)⟩
theorem bD4{w:World}{lo g y:Nat}{m:List (List Bool)}(h:E0 w lo w.heap.size g m)(hy:y<m.length):
  (w.alloc (.cells (cx4 14 (.bool false)) 4)).frozen? ⟨g,y,none⟩=false/\(∃u,(w.alloc (.cells (cx4 14 (.bool false)) 4)).cell? ⟨g,y,none⟩=some u)/\
  E0 ((w.setCell ⟨g,y,none⟩ (.slice (some ⟨w.heap.size,0,none⟩) 14 14)).alloc (.cells (cx4 14 (.bool false)) 4)) lo (w.heap.size+1) g (m.set y (cv3 14 false))/\
  ∀v:Value,H8 w g m v->(∀b,v.ownBlock=some b->b<w.heap.size)->H8 ((w.setCell ⟨g,y,none⟩ (.slice (some ⟨w.heap.size,0,none⟩) 14 14)).alloc (.cells (cx4 14 (.bool false)) 4)) g (m.set y (cv3 14 false)) v:=by
 have hlt:=h.lt
 have ba:Below w.heap.size w (w.alloc (.cells (cx4 14 (.bool false)) 4)):=by go_grown
 have h1:=(h.next ba).1
 have hr:=x8 w (g:=w.heap.size) (cx4 14 (.bool false)) 14 1 4 rfl an al
 rw[show(cx4 14 (Value.bool false)).toList=bools (cv3 14 false) by simp[bools]]at hr
 have h2:=h1.setRow hy an hr (cv7 _) al
 have e:=World.setCell_alloc_past (w:=w) (.cells (cx4 14 (.bool false)) 4) g y (.slice (some ⟨w.heap.size,0,none⟩) 14 14) hlt.2.2
 rw[e]at h2
 obtain⟨f,u,cu,-⟩:=h1.at hy
 refine⟨f,⟨u,cu⟩,h2,fun v hv hb=>?_⟩
 have h3:=(hv.next h ba).setRow (u:=.slice (some ⟨w.heap.size,0,none⟩) 14 14) (r:=cv3 14 false) h1 hy (fun b e1 e2=>by have:=hb b e1;cases e2;exact absurd this (Nat.lt_irrefl _))
 rw[e]at h3
 exact h3
theorem ba6(v u:Value)(row t:List Bool)(w:World)(h1:H7 w v row.length 1 (bools row))(h2:H7 w u 14 1 (bools t))(ht:t.length=14)(hr:row.length=0\/row.length=14):
  Calls Tryz.prog 81 #[v,u] w fun e w'=>∃z,e=.returned (.tuple #[z,.bool (!R8 t row)])/\A9 w' w.heap.size w'.heap.size 4 1 z 14 (bools (R7 row t))/\Below w.heap.size w w':=by
 obtain⟨a1,c1,rfl,-,hm1,-,hc1⟩:=h1.open1
 obtain⟨a2,c2,rfl,-,hm2,-,hc2⟩:=h2.open1
 have hfc:Hid (R8 t row=(decide (0<row.length)&&N1 t row t.length)):=rfl
 by_cases h0:row.length=0
 ·have q0:((row.length:Int)==0)=true:=by simp[h0]
  have HJ:=show Hid (R7 row t=t)from by simp[Hid,R7,h0]
  have HC:=show Hid (R8 t row=false)from by unfold Hid;rw[hfc.out];simp[h0]
  clear hc1 hc2 hfc
  go_enter Tryz.func81,Tryz.ntmps81
  go_wp2_with (at_builtin;refine D2 rfl _ _ rfl Tryz.underlying63 aQ2 rfl al rfl (x8 w #[] 0 1 _ an rfl al).1 rfl (h2.below (by go_grown)) ar0 al al an ?_;rintro a4 q4 w1 o4 b4- -)
  go_ret2
  have e:(#[]:Array Value).toList++bools t=bools t:=an
  rw[cA0]at o4
  refine⟨_,by rw[HC.out];rfl,?_,?_⟩
  ·rw[HJ.out];exact A9.mk' (by simpa using o4)
  exact((Below.refl w.heap.size w).alloc (cv7 _) _).trans (by simpa using b4)
 have q0:((row.length:Int)==0)=false:=by simp;intro e;rw[e]at h0;exact h0 rfl
 have h14:row.length=14:=al
 have hr1:H7 w (.slice a1 row.length c1) 14 1 (bools row):=by rw[h14]at h1 ⊢;exact h1
 have hl14:row.length<=14:=al
 have HC:=show Hid (R8 t row=N1 t row 14)from by unfold Hid;rw[hfc.out,decide_eq_true al,ht];rfl
 have HJ:=show Hid (R7 row t=t2 row t 14)from by unfold Hid R7;rw[if_neg h0,ht]
 have HT:=show Hid _ from ht
 have HR:=show Hid _ from h14
 clear hfc hr ht h0 h14 h1 hc1
 go_enter Tryz.func81,Tryz.ntmps81
 go_wp2_with (at_builtin;refine D2 rfl _ _ rfl Tryz.underlying63 aQ2 rfl al rfl (x8 w #[] 0 1 _ an rfl al).1 rfl (hr1.below (by go_grown)) ar0 al al an ?_;rintro a4 q4 w1 o4 b4- -)
 have o1:A9 w1 w.heap.size w1.heap.size 4 1 (.slice a4 14 q4) 14 (bools row):=A9.mk' (by simpa using o4)
 have b1:Below w.heap.size w w1:=((Below.refl w.heap.size w).alloc (cv7 _) _).trans (by simpa using b4)
 clear o4 b4
 obtain⟨g,cap,hv,g1,g2,g3,g4,g5,g6,g7⟩:=o1.open al
 cases hv
 clear g7
 go_loopw [7,8] (fun b i wr=>∃k:Nat,k<=14/\i=.int .i64 k/\b=.bool (!N1 t row k)/\A9 wr w.heap.size w1.heap.size 4 1 (.slice (some ⟨g,0,none⟩) 14 q4) 14 (bools (t2 row t k))/\Below w.heap.size w wr/\w1.heap.size<=wr.heap.size) (fun _ i _=>14-(intOf i).toNat)
 case atStart=>exact⟨0,cy4 _,rfl,rfl,by rw[aU5];exact o1,b1,cv7 _⟩
 case round=>
  obtain⟨k,hk,rfl,rfl,ho,hb,hsz⟩:=hrel
  have HS:=show Hid _ from a80 t row k
  clear o1 b1 g4
  by_cases hlt:k<14
  ·obtain⟨b2,o2,rfl,hb2,hy⟩:=hc2 k hlt
   rw[x5 _ _ (by rw[HT.out];exact hlt), <-(z6 hb).1 _ _ hb2]at hy
   clear hc2
   have hjl:(t2 row t k).length=14:=by rw[O9,HR.out]
   obtain⟨g',cap',hv,-,-,g3',-,-,gf,gc⟩:=ho.open al
   cases hv
   have hx:=gc k _ (x5 _ k al)
   have hxe:(t2 row t k)[k]=row.getD k false:=by
    have:=X2 row t k k (by rw[HR.out];exact hlt)
    rw[decide_eq_false (Nat.lt_irrefl _)]at this
    simpa[hjl,hlt]using this
   have hye:t[k]'(by rw[HT.out];exact hlt)=t.getD k false:=by have:=HT.out;simp[this,hlt]
   rw[hxe]at hx
   rw[hye]at hy
   have hfk:=gf k
   have HP:=show Hid (t.getD k false=true->t2 row t (k+1)=(t2 row t k).set k true)from fun h=>a63 (by rw[HR.out];exact hlt) h
   have HK:=show Hid ((t.getD k false&& !row.getD k false)=false->t2 row t (k+1)=t2 row t k)from fun h=>aU6 h
   clear hxe hye gc gf
   cases ht:t.getD k false
   ·have HN:=show Hid (t2 row t (k+1)=t2 row t k)from HK.out (by rw[ht];rfl)
    have HN2:=show Hid (N1 t row (k+1)=N1 t row k)from by unfold Hid;rw[HS.out,ht];simp
    rw[ht]at hy
    clear ht
    go_wp2_with fail
    exact⟨⟨k+1,al,by go_num,by rw[HN2.out],by rw[HN.out];exact ho,hb,hsz⟩,by simp[intOf];omega⟩
   cases hw:row.getD k false
   ·have HN:=show Hid (t2 row t (k+1)=(t2 row t k).set k true)from HP.out ht
    have HN2:=show Hid (N1 t row (k+1)=false)from by unfold Hid;rw[HS.out,ht,hw];simp
    rw[ht]at hy;rw[hw]at hx
    clear ht hw
    go_wp2_with fail
    refine⟨⟨k+1,al,by go_num,by rw[HN2.out];rfl,?_,hb.setCell (p:=⟨g,k,none⟩) g1 _,by simpa[World.setCell]using hsz⟩,by simp[intOf];omega⟩
    rw[HN.out,show bools ((t2 row t k).set k true)=(bools (t2 row t k)).set k (.bool true) by simp[bools,List.map_set]]
    exact ho.setCell (by simp[bools];omega) _
   have HN:=show Hid (t2 row t (k+1)=t2 row t k)from HK.out (by rw[hw];simp)
   have HN2:=show Hid (N1 t row (k+1)=N1 t row k)from by unfold Hid;rw[HS.out,hw];simp
   rw[ht]at hy;rw[hw]at hx
   clear ht hw
   go_wp2_with fail
   exact⟨⟨k+1,al,by go_num,by rw[HN2.out],by rw[HN.out];exact ho,hb,hsz⟩,by simp[intOf];omega⟩
  have e:k=14:=al
  subst e
  clear hc2
  go_wp2_with fail
  go_ret2
  exact⟨_,by rw[HC.out];rfl,by rw[HJ.out];exact ho.wide (cv7 _) hsz,hb⟩
end Go.Proofs.YtfbeblgnjeokaaaGreat

namespace Go.Proofs.YtfbeblgnjeokaaaGreat
structure aV7(c:c8)(m:List (List Bool))(qs:List Int)(k:Nat):Prop where
 low:Low c m
 q:∀x∈qs,0<=x/\x<c.list.length/\(rowAt m x).length=14
 pend:∀i:Nat,i<c.list.length->T4 c m i=true\/∃p,k<=p/\qs[p]? =some (i:Int)
 cnt:qs.length+pot m<=15*c.list.length+1
structure aH8(c:c8)(m:List (List Bool))(qs:List Int)(k a:Nat)(t:List Bool)(ns:List Int)(j:Nat):Prop where
 low:Low c m
 q:∀x∈qs,0<=x/\x<c.list.length/\(rowAt m x).length=14
 pend:∀i:Nat,i<c.list.length->i≠a->T4 c m i=true\/∃p,k+1<=p/\qs[p]? =some (i:Int)
 self:(∃p,k+1<=p/\qs[p]? =some (a:Int))\/(∀y∈ns.take j,R8 t (rowAt m y)=true)/\s8 c (t7 c a) (rowAt m a)=t
 cnt:qs.length+pot m<=15*c.list.length+1
 bnd:∀p,T1 c p->∀y∈ns,(rowAt p y).length≠0/\rle t (rowAt p y)
 tl:t.length=14
theorem aV7.start{c:c8}(hn:1<=c.list.length):aV7 c ((cv3 c.list.length ([]:List Bool)).set 0 (cv3 14 false)) [0] 0:=by
 have hl:0<(cv3 c.list.length ([]:List Bool)).length:=by rw[cx5];omega
 have h0:=Low.start hn
 refine⟨h0,?_,fun i hi=>?_,?_⟩
 ·intro x hx
  rw[cy5.1 hx]
  refine⟨Int.le_refl _,al,?_⟩
  rw[C7 _ _ hl];simp
 ·by_cases e:i=0
  ·subst e;exact .inr ⟨0,cv7 _,rfl⟩
  left
  unfold T4
  rw[cz9,decide_eq_true_eq]
  left
  rw[C7 _ _ hl,if_neg (by simpa using e)]
  unfold rowAt
  simp only[cv8,cz3]
  split<;>simp
 have:=b89 _ h0.ok
 simp only[cy3,cx5]at this
 simp only[List.length_singleton]
 omega
theorem aV7.enter{c:c8}{m:List (List Bool)}{qs:List Int}{k a:Nat}(h:aV7 c m qs k)(ha:qs[k]? =some (a:Int)):
  (rowAt m a).length=14/\a<c.list.length/\aH8 c m qs k a (s8 c (t7 c a) (rowAt m a)) (nx c a) 0:=by
 have hm:=h.q a (cy6 ha)
 have hl:a<m.length:=by rw[h.low.len];omega
 refine⟨hm.2.2,al,h.low,h.q,fun i hi hne=>?_,.inr ⟨an,rfl⟩,h.cnt,?_,by rw[ad3];exact hm.2.2⟩
 ·rcases h.pend i hi with g|⟨p,g1,g2⟩
  ·exact .inl g
  refine .inr ⟨p,?_,g2⟩
  rcases cx7 k p with g3|g3
  ·exact g3
  have:p=k:=al
  subst this
  rw[ha]at g2
  have:=Option.some.inj g2
  omega
 exact fun p hp y hy=>h.low.after hl hm.2.2 p hp y hy
theorem aH8.keep{c:c8}{m:List (List Bool)}{qs:List Int}{k a:Nat}{t:List Bool}{ns:List Int}{j:Nat}(h:aH8 c m qs k a t ns j)(hj:j<ns.length)(hc:R8 t (rowAt m ns[j])=true):aH8 c m qs k a t ns (j+1):=by
 refine⟨h.low,h.q,h.pend,?_,h.cnt,h.bnd,h.tl⟩
 rcases h.self with g|⟨g1,g2⟩
 ·exact .inl g
 refine .inr ⟨fun y hy=>?_,g2⟩
 rw[D6 _ _ hj,cx6,cy5]at hy
 rcases hy with hy|hy
 ·exact g1 y hy
 rw[hy];exact hc
theorem aH8.push{c:c8}{m:List (List Bool)}{qs:List Int}{k a:Nat}{t:List Bool}{ns:List Int}{j:Nat}(h:aH8 c m qs k a t ns j)(hj:j<ns.length){y:Nat}(hy:ns[j]=(y:Int))(hyl:y<c.list.length)(hk:k<qs.length)
  (hc:R8 t (rowAt m y)=false):aH8 c (m.set y (R7 (rowAt m y) t)) (qs++[(y:Int)]) k a t ns (j+1):=by
 have hl:y<m.length:=by rw[h.low.len];exact hyl
 have hr:=I7 h.low.ok y
 have h14:=ag8 hr h.tl
 have hle:=aQ0 (t:=t) hr
 have hmem:(y:Int)∈ns:=by rw[<-hy];exact cx9 hj
 have hpl:∀i:Nat,(∃p,k+1<=p/\qs[p]? =some (i:Int))->∃p,k+1<=p/\(qs++[(y:Int)])[p]? =some (i:Int):=by
  rintro i ⟨p,h1,h2⟩
  exact⟨p,h1,by rw[cw8 (cw5.1 h2).1];exact h2⟩
 have hpy:∃p,k+1<=p/\(qs++[(y:Int)])[p]? =some (y:Int):=⟨qs.length,hk,an⟩
 refine⟨?_,?_,?_,?_,?_,h.bnd,h.tl⟩
 ·refine h.low.set hl h14 fun p hp=>?_
  have h1:=h.bnd p hp y hmem
  refine⟨h1.1,be1 ?_ h1.2⟩
  rcases h.low.low p hp y with h2|h2
  ·intro z hz
   rw[cw9 h2]at hz
   simp at hz
  exact h2.2
 ·intro x hx
  rw[C7 _ _ hl]
  rw[cx6,cy5]at hx
  rcases hx with hx|hx
  ·have:=h.q x hx
   refine⟨this.1,this.2.1,?_⟩
   split
   ·exact h14
   exact this.2.2
  subst hx
  refine⟨al,al,?_⟩
  rw[if_pos an]
  exact h14
 ·intro i hi hne
  by_cases e:i=y
  ·subst e;exact .inr hpy
  rcases h.pend i hi hne with g|g
  ·exact .inl (bE4 hl e h14 hle g)
  exact .inr (hpl i g)
 ·by_cases e:a=y
  ·subst e;exact .inl hpy
  rcases h.self with g|⟨g1,g2⟩
  ·exact .inl (hpl a g)
  refine .inr ⟨fun z hz=>?_,?_⟩
  ·rw[D6 _ _ hj,cx6,cy5]at hz
   rcases hz with hz|hz
   ·exact bS4 hl h14 hle (g1 z hz)
   rw[hz,hy,E9,C7 _ _ hl,if_pos an]
   exact⟨al,aF2 hr h.tl⟩
  rw[C7 _ _ hl,if_neg (by simpa using e)]
  exact g2
 have h1:=aI5 m y (R7 (rowAt m y) t) hl
 have h2:=bB7 hr h.tl hc
 rw[<-R4 hl]at h1
 have:=h.cnt
 rw[cv9,List.length_singleton]
 omega
theorem aH8.done{c:c8}{m:List (List Bool)}{qs:List Int}{k a:Nat}{t:List Bool}{j:Nat}(h:aH8 c m qs k a t (nx c a) j)(hj:(nx c a).length<=j):aV7 c m qs (k+1):=by
 refine⟨h.low,h.q,fun i hi=>?_,h.cnt⟩
 by_cases e:i=a
 ·subst e
  rcases h.self with g|⟨g1,g2⟩
  ·exact .inr g
  left
  rw[cw7 hj]at g1
  unfold T4
  rw[cz9]
  right
  rw[cw3,g2]
  exact g1
 exact h.pend i hi e
theorem aV7.done{c:c8}{m:List (List Bool)}{qs:List Int}(h:aV7 c m qs qs.length):K2 c m:=by
 refine h.low.least fun i hi=>?_
 rcases h.pend i (by rw[<-h.low.len];exact hi)with g|⟨p,g1,g2⟩
 ·exact g
 have:=(cw5.1 g2).1
 omega
end Go.Proofs.YtfbeblgnjeokaaaGreat

namespace Go.Proofs.YtfbeblgnjeokaaaGreat
open Go Go.RowKit
theorem aP7{l:Int}(h:i7 l=true):l=0\/l=1\/l=2\/l=3:=by
 simp[i7]at h;omega
theorem D4(l:Int)(w:World):Calls Tryz.prog 113 #[.int .i64 l] w fun e w'=>e=.returned (.bool (scB l))/\w=w':=by
 cases h:i7 l
 ·have HT:=show Hid (scB l=false)from by unfold Hid scB;rw[h];rfl
  go_enter Tryz.func113,Tryz.ntmps113
  go_wp2_with fail
  refine(Z2 l _).mono ?_
  rintro e w1 ⟨rfl,rfl⟩
  rw[h]
  clear h
  go_wp2_with fail
  go_ret
  exact⟨m5 HT.out.symm,rfl⟩
 rcases aP7 h with rfl|rfl|rfl|rfl
 all_goals
  clear h
  go_enter Tryz.func113,Tryz.ntmps113
  go_wp2_with fail
  refine(Z2 _ _).mono ?_
  rintro e w1 ⟨rfl,rfl⟩
  rw[show i7 _=true from rfl]
  go_wp2_with fail
  go_ret
  exact⟨by simp[go_sem,scB,i7];decide,rfl⟩
theorem D3(l:Int)(w:World):Calls Tryz.prog 82 #[.int .i64 l] w fun e w'=>e=.returned (.bool (scB l))/\w=w':=by
 cases h:i7 l
 ·have HT:=show Hid (scB l=false)from by unfold Hid scB;rw[h];rfl
  go_enter Tryz.func82,Tryz.ntmps82
  go_wp2_with fail
  refine(K7 l _).mono ?_
  rintro e w1 ⟨rfl,rfl⟩
  rw[h]
  clear h
  go_wp2_with fail
  go_ret
  exact⟨m5 HT.out.symm,rfl⟩
 rcases aP7 h with rfl|rfl|rfl|rfl
 all_goals
  clear h
  go_enter Tryz.func82,Tryz.ntmps82
  go_wp2_with fail
  refine(K7 _ _).mono ?_
  rintro e w1 ⟨rfl,rfl⟩
  rw[show i7 _=true from rfl]
  go_wp2_with fail
  go_ret
  exact⟨by simp[go_sem,scB,i7];decide,rfl⟩
theorem H7.bools14{w:World}{v:Value}{t:List Bool}(h:H7 w v 14 1 (bools t)):t.length=14/\∃b off cap,v=.slice (some ⟨b,off,none⟩) 14 cap/\14<=cap/\cap<=9223372036854775807/\b<w.heap.size/\∀k:Nat,k<14->w.cell? ⟨b,off+k,none⟩=some (.bool (bAt t k)):=by
 have hl:t.length=14:=by have:=h.1;simpa[bools]using this
 obtain⟨a,cap,rfl,h1,-,h2,h3⟩:=h.open1
 obtain⟨b,off,rfl,hb,-⟩:=h3 0 al
 refine⟨hl,b,off,cap,rfl,h1,h2,hb,fun k hk=>?_⟩
 obtain⟨b',off',he,-,hc⟩:=h3 k hk
 cases he
 rw[hc]
 simp[bools,bAt,show k<t.length by omega]
theorem H7.intsAt{w:World}{v:Value}{l:List Int}(h:H7 w v l.length 1 (ints l))(hn:0<l.length):∃b off cap,v=.slice (some ⟨b,off,none⟩) l.length cap/\l.length<=cap/\cap<=9223372036854775807/\l.length<=9223372036854775807/\b<w.heap.size/\∀k:Nat,k<l.length->w.cell? ⟨b,off+k,none⟩=some (.int .i64 (X3 l k)):=by
 obtain⟨a,cap,rfl,h1,h4,h2,h3⟩:=h.open1
 obtain⟨b,off,rfl,hb,-⟩:=h3 0 hn
 refine⟨b,off,cap,rfl,h1,h2,h4,hb,fun k hk=>?_⟩
 obtain⟨b',off',he,-,hc⟩:=h3 k hk
 cases he
 rw[hc]
 simp[ints,X3,hk]
theorem bl3(v u:Value)(c:c8)(x:d8)(t:List Bool)(w:World)(h:t5 w v c)(hx:A8 c x=true)(ht:H7 w u 14 1 (bools t)):
  Calls Tryz.prog 36 #[v,x.v,u] w fun e w'=>e=.returned (.int .i64 (F4 c x t))/\Below w.heap.size w w':=by
 obtain⟨v1,v2,v3,rfl,h1,h2,h3⟩:=h
 have hf:=ai6 hx
 obtain⟨o,a,b,d,g⟩:=x
 simp only at hf
 obtain⟨W,hW⟩:∃W,W=((w.alloc (.cells #[v1,v2,v3] 26)).alloc (.cells #[.int .i64 o,.int .i64 a,.int .i64 b,.int .i64 d,.int .i64 g] 76)):=⟨_,rfl⟩
 have B0:Below w.heap.size w W:=by rw[hW];go_grown
 obtain⟨htl,tb,tq,tc,rfl,htc,htm,htb,htx⟩:=ht.bools14
 clear ht hx
 have hOF:Hid (F4 c ⟨o,a,b,d,g⟩ t=if o=3 then(if bAt t b&& !scB (X3 c.vars a)then 1 else 0)else if o=4 then(if bAt t d then 4 else 0)
   else if o=5 then(if bAt t b then 4 else if bAt t d&& !scB (X3 c.arrays a)then 1 else 0)else if o=9\/o=10 then(if bAt t a then 3 else 0)else 0):=rfl
 have tx:∀k:Nat,k<14->W.cell? ⟨tb,tq+k,none⟩=some (.bool (bAt t k)):=fun k hk=>by rw[(z6 B0).1 _ _ htb];exact htx k hk
 clear htx
 by_cases o3:o=3
 ·subst o3
  obtain⟨⟨f1,f2⟩,f3,f4⟩:=hf.2.2.2.1 rfl
  clear hf
  obtain⟨b',rfl⟩:∃n:Nat,b=n:=⟨b.toNat,al⟩
  obtain⟨a',rfl⟩:∃n:Nat,a=n:=⟨a.toNat,al⟩
  obtain⟨vb,vo,vc,rfl,hvc,hvm,hvn,hvb,hvx⟩:=h1.intsAt al
  have y1:=tx b' al
  have y2:=hvx a' al
  rw[<-(z6 B0).1 _ _ hvb]at y2
  rw[hW]at y1 y2
  have hR:Hid (F4 c ⟨3,a',b',d,g⟩ t=if bAt t b'&& !scB (X3 c.vars a')then 1 else 0):=by unfold Hid;rw[hOF.out];simp
  clear hOF tx hvx h1 h2 h3
  cases hb:bAt t b'
  all_goals
   rw[hb]at y1
   have HB:=show Hid _ from hb
   clear hb
   go_enter Tryz.func36,Tryz.ntmps36
   go_wp2_with fail
  ·go_ret
   exact⟨D5 (by rw[hR.out,HB.out];rfl),by go_grown⟩
  refine(D3 _ _).mono ?_
  rintro e w1 ⟨rfl,rfl⟩
  cases hs:scB (X3 c.vars a')
  all_goals
   have HS:=show Hid _ from hs
   clear hs
   go_wp2_with fail
   go_ret
   exact⟨D5 (by rw[hR.out,HB.out,HS.out];rfl),by go_grown⟩
 by_cases o4:o=4
 ·subst o4
  have hff:=(hf.2.2.2.2.1 rfl).2.2
  obtain⟨k',hk'⟩:∃n:Nat,d=n:=⟨d.toNat,al⟩
  subst hk'
  have hk14:k'<14:=al
  have y1:=tx k' hk14
  rw[hW]at y1
  have hR:Hid (F4 c ⟨4,a,b,k',g⟩ t=if bAt t k' then 4 else 0):=by unfold Hid;rw[hOF.out];simp
  clear hOF tx h1 h2 h3 hf hff
  cases hb:bAt t k'
  all_goals
   rw[hb]at y1
   have HB:=show Hid _ from hb
   clear hb
   go_enter Tryz.func36,Tryz.ntmps36
   go_wp2_with fail
   go_ret
   exact⟨D5 (by rw[hR.out,HB.out];rfl),by go_grown⟩
 by_cases o5:o=5
 ·subst o5
  obtain⟨⟨f1,f2⟩,⟨f3,f4⟩,f5,f6⟩:=hf.2.2.2.2.2.1 rfl
  clear hf
  obtain⟨b',rfl⟩:∃n:Nat,b=n:=⟨b.toNat,al⟩
  obtain⟨a',rfl⟩:∃n:Nat,a=n:=⟨a.toNat,al⟩
  obtain⟨d',rfl⟩:∃n:Nat,d=n:=⟨d.toNat,al⟩
  obtain⟨vb,vo,vc,rfl,hvc,hvm,hvn,hvb,hvx⟩:=h2.intsAt al
  have y1:=tx b' al
  have y3:=tx d' al
  have y2:=hvx a' al
  rw[<-(z6 B0).1 _ _ hvb]at y2
  rw[hW]at y1 y2 y3
  have hR:Hid (F4 c ⟨5,a',b',d',g⟩ t=if bAt t b' then 4 else if bAt t d'&& !scB (X3 c.arrays a')then 1 else 0):=by unfold Hid;rw[hOF.out];simp
  clear hOF tx hvx h1 h2 h3
  cases hb:bAt t b'
  all_goals
   rw[hb]at y1
   have HB:=show Hid _ from hb
   clear hb
  ·cases hd:bAt t d'
   all_goals
    rw[hd]at y3
    have HD:=show Hid _ from hd
    clear hd
    go_enter Tryz.func36,Tryz.ntmps36
    go_wp2_with fail
   ·go_ret
    exact⟨D5 (by rw[hR.out,HB.out,HD.out];rfl),by go_grown⟩
   refine(D3 _ _).mono ?_
   rintro e w1 ⟨rfl,rfl⟩
   cases hs:scB (X3 c.arrays a')
   all_goals
    have HS:=show Hid _ from hs
    clear hs
    go_wp2_with fail
    go_ret
    exact⟨D5 (by rw[hR.out,HB.out,HD.out,HS.out];rfl),by go_grown⟩
  go_enter Tryz.func36,Tryz.ntmps36
  go_wp2_with fail
  go_ret
  exact⟨D5 (by rw[hR.out,HB.out];rfl),by go_grown⟩
 by_cases o9:o=9
 ·subst o9
  have hff:=hf.2.2.2.2.2.2.2.2.1 rfl
  obtain⟨k',hk'⟩:∃n:Nat,a=n:=⟨a.toNat,al⟩
  subst hk'
  have hk14:k'<14:=al
  have y1:=tx k' hk14
  rw[hW]at y1
  have hR:Hid (F4 c ⟨9,k',b,d,g⟩ t=if bAt t k' then 3 else 0):=by unfold Hid;rw[hOF.out];simp
  clear hOF tx h1 h2 h3 hf hff
  cases hb:bAt t k'
  all_goals
   rw[hb]at y1
   have HB:=show Hid _ from hb
   clear hb
   go_enter Tryz.func36,Tryz.ntmps36
   go_wp2_with fail
   go_ret
   exact⟨D5 (by rw[hR.out,HB.out];rfl),by go_grown⟩
 by_cases o10:o=10
 ·subst o10
  have hff:=hf.2.2.2.2.2.2.2.2.2 rfl
  obtain⟨k',hk'⟩:∃n:Nat,a=n:=⟨a.toNat,al⟩
  subst hk'
  have hk14:k'<14:=al
  have y1:=tx k' hk14
  rw[hW]at y1
  have hR:Hid (F4 c ⟨10,k',b,d,g⟩ t=if bAt t k' then 3 else 0):=by unfold Hid;rw[hOF.out];simp
  clear hOF tx h1 h2 h3 hf hff
  cases hb:bAt t k'
  all_goals
   rw[hb]at y1
   have HB:=show Hid _ from hb
   clear hb
   go_enter Tryz.func36,Tryz.ntmps36
   go_wp2_with fail
   go_ret
   exact⟨D5 (by rw[hR.out,HB.out];rfl),by go_grown⟩
 have hR:Hid (F4 c ⟨o,a,b,d,g⟩ t=0):=by unfold Hid;rw[hOF.out];simp[o3,o4,o5,o9,o10]
 clear hOF tx h1 h2 h3 hf
 have p3:(o==3)=false:=by simp[o3]
 have p4:(o==4)=false:=by simp[o4]
 have p5:(o==5)=false:=by simp[o5]
 have p9:(o==9)=false:=by simp[o9]
 have p10:(o==10)=false:=by simp[o10]
 clear o3 o4 o5 o9 o10
 go_enter Tryz.func36,Tryz.ntmps36
 go_wp2_with fail
 go_ret
 exact⟨D5 hR.out.symm,by go_grown⟩
theorem bp0(v u:Value)(c:c8)(x:d8)(t:List Bool)(w:World)(h:t5 w v c)(hx:A8 c x=true)(ht:H7 w u 14 1 (bools t)):
  Calls Tryz.prog 78 #[v,x.v,u] w fun e w'=>e=.returned (.int .i64 (F4 c x t))/\Below w.heap.size w w':=by
 obtain⟨v1,v2,v3,rfl,h1,h2,h3⟩:=h
 have hf:=ai6 hx
 obtain⟨o,a,b,d,g⟩:=x
 simp only at hf
 obtain⟨W,hW⟩:∃W,W=((w.alloc (.cells #[v1,v2,v3] 26)).alloc (.cells #[.int .i64 o,.int .i64 a,.int .i64 b,.int .i64 d,.int .i64 g] 76)):=⟨_,rfl⟩
 have B0:Below w.heap.size w W:=by rw[hW];go_grown
 obtain⟨htl,tb,tq,tc,rfl,htc,htm,htb,htx⟩:=ht.bools14
 clear ht hx
 have hOF:Hid (F4 c ⟨o,a,b,d,g⟩ t=if o=3 then(if bAt t b&& !scB (X3 c.vars a)then 1 else 0)else if o=4 then(if bAt t d then 4 else 0)
   else if o=5 then(if bAt t b then 4 else if bAt t d&& !scB (X3 c.arrays a)then 1 else 0)else if o=9\/o=10 then(if bAt t a then 3 else 0)else 0):=rfl
 have tx:∀k:Nat,k<14->W.cell? ⟨tb,tq+k,none⟩=some (.bool (bAt t k)):=fun k hk=>by rw[(z6 B0).1 _ _ htb];exact htx k hk
 clear htx
 by_cases o3:o=3
 ·subst o3
  obtain⟨⟨f1,f2⟩,f3,f4⟩:=hf.2.2.2.1 rfl
  clear hf
  obtain⟨b',rfl⟩:∃n:Nat,b=n:=⟨b.toNat,al⟩
  obtain⟨a',rfl⟩:∃n:Nat,a=n:=⟨a.toNat,al⟩
  obtain⟨vb,vo,vc,rfl,hvc,hvm,hvn,hvb,hvx⟩:=h1.intsAt al
  have y1:=tx b' al
  have y2:=hvx a' al
  rw[<-(z6 B0).1 _ _ hvb]at y2
  rw[hW]at y1 y2
  have hR:Hid (F4 c ⟨3,a',b',d,g⟩ t=if bAt t b'&& !scB (X3 c.vars a')then 1 else 0):=by unfold Hid;rw[hOF.out];simp
  clear hOF tx hvx h1 h2 h3
  cases hb:bAt t b'
  all_goals
   rw[hb]at y1
   have HB:=show Hid _ from hb
   clear hb
   go_enter Tryz.func78,Tryz.ntmps78
   go_wp2_with fail
  ·go_ret
   exact⟨D5 (by rw[hR.out,HB.out];rfl),by go_grown⟩
  refine(D4 _ _).mono ?_
  rintro e w1 ⟨rfl,rfl⟩
  cases hs:scB (X3 c.vars a')
  all_goals
   have HS:=show Hid _ from hs
   clear hs
   go_wp2_with fail
   go_ret
   exact⟨D5 (by rw[hR.out,HB.out,HS.out];rfl),by go_grown⟩
 by_cases o4:o=4
 ·subst o4
  have hff:=(hf.2.2.2.2.1 rfl).2.2
  obtain⟨k',hk'⟩:∃n:Nat,d=n:=⟨d.toNat,al⟩
  subst hk'
  have hk14:k'<14:=al
  have y1:=tx k' hk14
  rw[hW]at y1
  have hR:Hid (F4 c ⟨4,a,b,k',g⟩ t=if bAt t k' then 4 else 0):=by unfold Hid;rw[hOF.out];simp
  clear hOF tx h1 h2 h3 hf hff
  cases hb:bAt t k'
  all_goals
   rw[hb]at y1
   have HB:=show Hid _ from hb
   clear hb
   go_enter Tryz.func78,Tryz.ntmps78
   go_wp2_with fail
   go_ret
   exact⟨D5 (by rw[hR.out,HB.out];rfl),by go_grown⟩
 by_cases o5:o=5
 ·subst o5
  obtain⟨⟨f1,f2⟩,⟨f3,f4⟩,f5,f6⟩:=hf.2.2.2.2.2.1 rfl
  clear hf
  obtain⟨b',rfl⟩:∃n:Nat,b=n:=⟨b.toNat,al⟩
  obtain⟨a',rfl⟩:∃n:Nat,a=n:=⟨a.toNat,al⟩
  obtain⟨d',rfl⟩:∃n:Nat,d=n:=⟨d.toNat,al⟩
  obtain⟨vb,vo,vc,rfl,hvc,hvm,hvn,hvb,hvx⟩:=h2.intsAt al
  have y1:=tx b' al
  have y3:=tx d' al
  have y2:=hvx a' al
  rw[<-(z6 B0).1 _ _ hvb]at y2
  rw[hW]at y1 y2 y3
  have hR:Hid (F4 c ⟨5,a',b',d',g⟩ t=if bAt t b' then 4 else if bAt t d'&& !scB (X3 c.arrays a')then 1 else 0):=by unfold Hid;rw[hOF.out];simp
  clear hOF tx hvx h1 h2 h3
  cases hb:bAt t b'
  all_goals
   rw[hb]at y1
   have HB:=show Hid _ from hb
   clear hb
  ·cases hd:bAt t d'
   all_goals
    rw[hd]at y3
    have HD:=show Hid _ from hd
    clear hd
    go_enter Tryz.func78,Tryz.ntmps78
    go_wp2_with fail
   ·go_ret
    exact⟨D5 (by rw[hR.out,HB.out,HD.out];rfl),by go_grown⟩
   refine(D4 _ _).mono ?_
   rintro e w1 ⟨rfl,rfl⟩
   cases hs:scB (X3 c.arrays a')
   all_goals
    have HS:=show Hid _ from hs
    clear hs
    go_wp2_with fail
    go_ret
    exact⟨D5 (by rw[hR.out,HB.out,HD.out,HS.out];rfl),by go_grown⟩
  go_enter Tryz.func78,Tryz.ntmps78
  go_wp2_with fail
  go_ret
  exact⟨D5 (by rw[hR.out,HB.out];rfl),by go_grown⟩
 by_cases o9:o=9
 ·subst o9
  have hff:=hf.2.2.2.2.2.2.2.2.1 rfl
  obtain⟨k',hk'⟩:∃n:Nat,a=n:=⟨a.toNat,al⟩
  subst hk'
  have hk14:k'<14:=al
  have y1:=tx k' hk14
  rw[hW]at y1
  have hR:Hid (F4 c ⟨9,k',b,d,g⟩ t=if bAt t k' then 3 else 0):=by unfold Hid;rw[hOF.out];simp
  clear hOF tx h1 h2 h3 hf hff
  cases hb:bAt t k'
  all_goals
   rw[hb]at y1
   have HB:=show Hid _ from hb
   clear hb
   go_enter Tryz.func78,Tryz.ntmps78
   go_wp2_with fail
   go_ret
   exact⟨D5 (by rw[hR.out,HB.out];rfl),by go_grown⟩
 by_cases o10:o=10
 ·subst o10
  have hff:=hf.2.2.2.2.2.2.2.2.2 rfl
  obtain⟨k',hk'⟩:∃n:Nat,a=n:=⟨a.toNat,al⟩
  subst hk'
  have hk14:k'<14:=al
  have y1:=tx k' hk14
  rw[hW]at y1
  have hR:Hid (F4 c ⟨10,k',b,d,g⟩ t=if bAt t k' then 3 else 0):=by unfold Hid;rw[hOF.out];simp
  clear hOF tx h1 h2 h3 hf hff
  cases hb:bAt t k'
  all_goals
   rw[hb]at y1
   have HB:=show Hid _ from hb
   clear hb
   go_enter Tryz.func78,Tryz.ntmps78
   go_wp2_with fail
   go_ret
   exact⟨D5 (by rw[hR.out,HB.out];rfl),by go_grown⟩
 have hR:Hid (F4 c ⟨o,a,b,d,g⟩ t=0):=by unfold Hid;rw[hOF.out];simp[o3,o4,o5,o9,o10]
 clear hOF tx h1 h2 h3 hf
 have p3:(o==3)=false:=by simp[o3]
 have p4:(o==4)=false:=by simp[o4]
 have p5:(o==5)=false:=by simp[o5]
 have p9:(o==9)=false:=by simp[o9]
 have p10:(o==10)=false:=by simp[o10]
 clear o3 o4 o5 o9 o10
 go_enter Tryz.func78,Tryz.ntmps78
 go_wp2_with fail
 go_ret
 exact⟨D5 hR.out.symm,by go_grown⟩
theorem C9{c:c8}{x:d8}{t:List Bool}{b:Bool}(h:J0 c x t=some b):s8 c x t=t.set x.a.toNat b:=by simp[s8,h]
theorem aG2{c:c8}{x:d8}{t:List Bool}(h:J0 c x t=none):s8 c x t=t:=by simp[s8,h]
theorem y8{w:World}{lo hi:Nat}{g k a:Nat}{t:List Bool}(h:A9 w lo hi 4 1 (.slice (some ⟨g,0,none⟩) 14 k) 14 (bools t))(ha:a<14)(b:Bool):
  A9 (w.setCell ⟨g,a,none⟩ (.bool b)) lo hi 4 1 (.slice (some ⟨g,0,none⟩) 14 k) 14 (bools (t.set a b)):=by
 have hl:(bools t).length=14:=by have:=h.1.1;simpa using this
 have:=h.setCell (j:=a) al (.bool b)
 rwa[show(bools t).set a (.bool b)=bools (t.set a b) by simp[bools]]at this
theorem aG9(v u:Value)(c:c8)(x:d8)(t:List Bool)(w:World)(h:t5 w v c)(hx:A8 c x=true)(ht:H7 w u 14 1 (bools t)):
  Calls Tryz.prog 62 #[v,x.v,u] w fun e w'=>∃r,e=.returned r/\A9 w' w.heap.size w'.heap.size 4 1 r 14 (bools (s8 c x t))/\Below w.heap.size w w':=by
 obtain⟨v1,v2,v3,rfl,h1,h2,h3⟩:=h
 have hf:=ai6 hx
 obtain⟨o,a,b,d,g⟩:=x
 simp only at hf
 obtain⟨W,hW⟩:∃W,W=((w.alloc (.cells #[v1,v2,v3] 26)).alloc (.cells #[.int .i64 o,.int .i64 a,.int .i64 b,.int .i64 d,.int .i64 g] 76)):=⟨_,rfl⟩
 have B0:Below w.heap.size w W:=by rw[hW];go_grown
 have sW:W.heap.size=w.heap.size+1+1:=by rw[hW];simp
 have L1:A1 W w.heap.size [v1,v2,v3]:=by rw[hW];exact(A1.new w [v1,v2,v3] _).alloc _
 have L2:A1 W (w.heap.size+1) [.int .i64 o,.int .i64 a,.int .i64 b,.int .i64 d,.int .i64 g]:=by rw[hW];exact A1.new' (w.alloc _) [.int .i64 o,.int .i64 a,.int .i64 b,.int .i64 d,.int .i64 g] _ an
 obtain⟨htl,tb,tof,tc,rfl,htc,htm,htb,htx⟩:=ht.bools14
 have hOF:Hid (J0 c ⟨o,a,b,d,g⟩ t=if o=1\/o=11 then some false else if o=2 then some (scB (X3 c.vars b))else if o=4 then some (scB (X3 c.arrays b)||bAt t d)
   else if o=6 then some (bAt t d||bAt t g)else if o=7 then some (bAt t b||bAt t d||bAt t g)else none):=rfl
 go_enter Tryz.func62,Tryz.ntmps62
 go_wp2_with fail
 rw[<-hW]
 clear hW
 refine(bq1 _ t _ (by rw[htl];exact ht.below B0) al).mono ?_
 rintro e w1 ⟨u1,rfl,o1r,b1⟩
 rw[htl]at o1r
 replace L1:=L1.below b1 L1.lt
 replace L2:=L2.below b1 L2.lt
 have B1:=B0.trans (b1.mono B0.size)
 obtain⟨gr,kr,hvr,hg1,-,hg3,-,-,hgf,hgc⟩:=o1r.open al
 cases hvr
 rw[sW]at o1r hg1
 have s1:=B1.size
 have tx:∀k:Nat,k<14->w1.cell? ⟨tb,tof+k,none⟩=some (.bool (bAt t k)):=fun k hk=>by rw[(z6 B1).1 _ _ htb];exact htx k hk
 clear htx ht
 have x0:=L2.cell 0
 simp only[cv5]at x0
 by_cases o1:o=1
 ·subst o1
  have hff:=hf.1 rfl
  obtain⟨a',ha'⟩:∃n:Nat,a=n:=⟨a.toNat,al⟩
  subst ha'
  have ha14:a'<14:=al
  have hR:Hid (s8 c ⟨1,a',b,d,g⟩ t=t.set a' false):=by unfold Hid;rw[C9 (b:=false) (by rw[hOF.out];simp)];simp
  have x1:=L2.cell 1
  simp only[cv5,cw0]at x1
  have hf0:=hgf a'
  obtain⟨u0,hc0⟩:∃u0,w1.cell? ⟨gr,a',none⟩=some u0:=⟨_,hgc a' _ (x5 t a' al)⟩
  clear hff hOF tx hf
  go_wp2_with fail
  go_ret
  rw[hR.out]
  exact⟨_,rfl,y8 (o1r.wide al an) ha14 _,B1.setCell (p:=⟨gr,a',none⟩) (by show _<=gr;omega) _⟩
 by_cases o11:o=11
 ·subst o11
  have hff:=hf.2.1 rfl
  obtain⟨a',ha'⟩:∃n:Nat,a=n:=⟨a.toNat,al⟩
  subst ha'
  have ha14:a'<14:=al
  have hR:Hid (s8 c ⟨11,a',b,d,g⟩ t=t.set a' false):=by unfold Hid;rw[C9 (b:=false) (by rw[hOF.out];simp)];simp
  have x1:=L2.cell 1
  simp only[cv5,cw0]at x1
  have hf0:=hgf a'
  obtain⟨u0,hc0⟩:∃u0,w1.cell? ⟨gr,a',none⟩=some u0:=⟨_,hgc a' _ (x5 t a' al)⟩
  clear hff hOF tx hf
  go_wp2_with fail
  go_ret
  rw[hR.out]
  exact⟨_,rfl,y8 (o1r.wide al an) ha14 _,B1.setCell (p:=⟨gr,a',none⟩) (by show _<=gr;omega) _⟩
 have q1:(o==1)=false:=by simp[o1]
 have q11:(o==11)=false:=by simp[o11]
 by_cases o2:o=2
 ·subst o2
  have hff:=hf.2.2.1 rfl
  clear hf
  obtain⟨a',ha'⟩:∃n:Nat,a=n:=⟨a.toNat,al⟩
  subst ha'
  obtain⟨b',hb'⟩:∃n:Nat,b=n:=⟨b.toNat,al⟩
  subst hb'
  obtain⟨vb,vo,vc,rfl,hvc,hvm,hvn,hvb,hvx⟩:=h1.intsAt al
  have y2:=hvx b' al
  have hR:Hid (s8 c ⟨2,a',b',d,g⟩ t=t.set a' (scB (X3 c.vars b'))):=by unfold Hid;rw[C9 (b:=scB (X3 c.vars b')) (by rw[hOF.out];simp)];simp
  have ha14:a'<14:=al
  have ha14i:(a':Int)<14:=al
  have hf0:=hgf a'
  obtain⟨u0,hc0⟩:∃u0,w1.cell? ⟨gr,a',none⟩=some u0:=⟨_,hgc a' _ (x5 t a' al)⟩
  have hb14:b'<c.vars.length:=al
  have hb14i:(b':Int)<(c.vars.length:Int):=al
  clear hff hOF tx
  cases hv0:scB (X3 c.vars b')
  ·have HV0:=show Hid _ from hv0
   clear hv0
   have ya:=L2.cell 1
   have yb:=L2.cell 2
   have yv:=L1.cell 0
   simp only[cv5,cw0]at yv ya yb
   have yw:w1.cell? ⟨vb,vo+b',none⟩=some (.int .i64 (X3 c.vars b')):=by rw[(z6 B1).1 _ _ hvb];exact y2
   have zya:=fun X=>c7 ya X
   have zyb:=fun X=>c7 yb X
   have zyv:=fun X=>c7 yv X
   have zyw:=fun X=>c7 yw X
   have zhc0:=fun X=>c7 hc0 X
   have zf:=fun X=>k6 hg3 hf0 X
   have HC:Hid (∀X,Calls Tryz.prog 113 #[.int .i64 (X3 c.vars b')] (w1.ext X) fun e w''=>e=.returned (.bool false)/\∃Y,w''=w1.ext Y):=fun X=>(D4 _ _).mono fun e w' ⟨e1,e2⟩=>⟨by rw[e1,HV0.out],X,e2.symm⟩
   clear ya yb yv yw hc0 h1 h2 h3 y2 hvx hgc hgf
   have x0:=L2.cell 0
   simp only[cv5]at x0
   go_wp2_with fail
   refine j6 11 _ rfl aj aj ?_
   simp only[cx1,cx3,G8]
   repeat(any_goals (first|go_big_quiet_step ((go_at_call 113;exact HC.out _))|quiet_step ((go_at_call 113;exact HC.out _))))
   refine wpQuiet_nil ?_
   rintro _ ⟨X,rfl⟩
   go_wp2_with fail
   go_ret
   rw[hR.out,HV0.out]
   exact⟨_,rfl,y8 (w:=w1.ext X) ((o1r.keep (i6 w1 X) (cv7 _)).wide al ag) ha14 _,(B1.trans ((i6 w1 X).mono s1)).setCell (p:=⟨gr,a',none⟩) (by show _<=gr;omega) _⟩
  have HV0:=show Hid _ from hv0
  clear hv0
  have ya:=L2.cell 1
  have yb:=L2.cell 2
  have yv:=L1.cell 0
  simp only[cv5,cw0]at yv ya yb
  have yw:w1.cell? ⟨vb,vo+b',none⟩=some (.int .i64 (X3 c.vars b')):=by rw[(z6 B1).1 _ _ hvb];exact y2
  have zya:=fun X=>c7 ya X
  have zyb:=fun X=>c7 yb X
  have zyv:=fun X=>c7 yv X
  have zyw:=fun X=>c7 yw X
  have zhc0:=fun X=>c7 hc0 X
  have zf:=fun X=>k6 hg3 hf0 X
  have HC:Hid (∀X,Calls Tryz.prog 113 #[.int .i64 (X3 c.vars b')] (w1.ext X) fun e w''=>e=.returned (.bool true)/\∃Y,w''=w1.ext Y):=fun X=>(D4 _ _).mono fun e w' ⟨e1,e2⟩=>⟨by rw[e1,HV0.out],X,e2.symm⟩
  clear ya yb yv yw hc0 h1 h2 h3 y2 hvx hgc hgf
  have x0:=L2.cell 0
  simp only[cv5]at x0
  go_wp2_with fail
  refine j6 11 _ rfl aj aj ?_
  simp only[cx1,cx3,G8]
  repeat(any_goals (first|go_big_quiet_step ((go_at_call 113;exact HC.out _))|quiet_step ((go_at_call 113;exact HC.out _))))
  refine wpQuiet_nil ?_
  rintro _ ⟨X,rfl⟩
  go_wp2_with fail
  go_ret
  rw[hR.out,HV0.out]
  exact⟨_,rfl,y8 (w:=w1.ext X) ((o1r.keep (i6 w1 X) (cv7 _)).wide al ag) ha14 _,(B1.trans ((i6 w1 X).mono s1)).setCell (p:=⟨gr,a',none⟩) (by show _<=gr;omega) _⟩
 have q2:(o==2)=false:=by simp[o2]
 by_cases o4:o=4
 ·subst o4
  have hff:=hf.2.2.2.2.1 rfl
  clear hf
  obtain⟨a',ha'⟩:∃n:Nat,a=n:=⟨a.toNat,al⟩
  subst ha'
  obtain⟨b',hb'⟩:∃n:Nat,b=n:=⟨b.toNat,al⟩
  subst hb'
  obtain⟨d',hd'⟩:∃n:Nat,d=n:=⟨d.toNat,al⟩
  subst hd'
  obtain⟨vb,vo,vc,rfl,hvc,hvm,hvn,hvb,hvx⟩:=h2.intsAt al
  have y2:=hvx b' al
  have hR:Hid (s8 c ⟨4,a',b',d',g⟩ t=t.set a' (scB (X3 c.arrays b')||bAt t d')):=by unfold Hid;rw[C9 (b:=scB (X3 c.arrays b')||bAt t d') (by rw[hOF.out];simp)];simp
  have ha14:a'<14:=al
  have ha14i:(a':Int)<14:=al
  have rd:=tx d' al
  have hrd14:d'<14:=al
  have hrd14i:(d':Int)<14:=al
  have hf0:=hgf a'
  obtain⟨u0,hc0⟩:∃u0,w1.cell? ⟨gr,a',none⟩=some u0:=⟨_,hgc a' _ (x5 t a' al)⟩
  have hb14:b'<c.arrays.length:=al
  have hb14i:(b':Int)<(c.arrays.length:Int):=al
  clear hff hOF tx
  cases hv0:scB (X3 c.arrays b')
  ·have HV0:=show Hid _ from hv0
   clear hv0
   cases hv1:bAt t d'
   ·have HV1:=show Hid _ from hv1
    rw[hv1]at rd
    clear hv1
    have ya:=L2.cell 1
    have yb:=L2.cell 2
    have yd:=L2.cell 3
    have yv:=L1.cell 1
    simp only[cv5,cw0]at yv ya yb yd
    have yw:w1.cell? ⟨vb,vo+b',none⟩=some (.int .i64 (X3 c.arrays b')):=by rw[(z6 B1).1 _ _ hvb];exact y2
    have zya:=fun X=>c7 ya X
    have zyb:=fun X=>c7 yb X
    have zyd:=fun X=>c7 yd X
    have zyv:=fun X=>c7 yv X
    have zyw:=fun X=>c7 yw X
    have zrd:=fun X=>c7 rd X
    have zhc0:=fun X=>c7 hc0 X
    have zf:=fun X=>k6 hg3 hf0 X
    have HC:Hid (∀X,Calls Tryz.prog 113 #[.int .i64 (X3 c.arrays b')] (w1.ext X) fun e w''=>e=.returned (.bool false)/\∃Y,w''=w1.ext Y):=fun X=>(D4 _ _).mono fun e w' ⟨e1,e2⟩=>⟨by rw[e1,HV0.out],X,e2.symm⟩
    clear ya yb yd yv yw rd hc0 h1 h2 h3 y2 hvx hgc hgf
    have x0:=L2.cell 0
    simp only[cv5]at x0
    go_wp2_with fail
    refine j6 18 _ rfl aj aj ?_
    simp only[cx1,cx3,G8]
    repeat(any_goals (first|go_big_quiet_step ((go_at_call 113;exact HC.out _))|quiet_step ((go_at_call 113;exact HC.out _))))
    refine wpQuiet_nil ?_
    rintro _ ⟨X,rfl⟩
    go_wp2_with fail
    go_ret
    rw[hR.out,HV0.out,HV1.out]
    exact⟨_,rfl,y8 (w:=w1.ext X) ((o1r.keep (i6 w1 X) (cv7 _)).wide al ag) ha14 _,(B1.trans ((i6 w1 X).mono s1)).setCell (p:=⟨gr,a',none⟩) (by show _<=gr;omega) _⟩
   have HV1:=show Hid _ from hv1
   rw[hv1]at rd
   clear hv1
   have ya:=L2.cell 1
   have yb:=L2.cell 2
   have yd:=L2.cell 3
   have yv:=L1.cell 1
   simp only[cv5,cw0]at yv ya yb yd
   have yw:w1.cell? ⟨vb,vo+b',none⟩=some (.int .i64 (X3 c.arrays b')):=by rw[(z6 B1).1 _ _ hvb];exact y2
   have zya:=fun X=>c7 ya X
   have zyb:=fun X=>c7 yb X
   have zyd:=fun X=>c7 yd X
   have zyv:=fun X=>c7 yv X
   have zyw:=fun X=>c7 yw X
   have zrd:=fun X=>c7 rd X
   have zhc0:=fun X=>c7 hc0 X
   have zf:=fun X=>k6 hg3 hf0 X
   have HC:Hid (∀X,Calls Tryz.prog 113 #[.int .i64 (X3 c.arrays b')] (w1.ext X) fun e w''=>e=.returned (.bool false)/\∃Y,w''=w1.ext Y):=fun X=>(D4 _ _).mono fun e w' ⟨e1,e2⟩=>⟨by rw[e1,HV0.out],X,e2.symm⟩
   clear ya yb yd yv yw rd hc0 h1 h2 h3 y2 hvx hgc hgf
   have x0:=L2.cell 0
   simp only[cv5]at x0
   go_wp2_with fail
   refine j6 18 _ rfl aj aj ?_
   simp only[cx1,cx3,G8]
   repeat(any_goals (first|go_big_quiet_step ((go_at_call 113;exact HC.out _))|quiet_step ((go_at_call 113;exact HC.out _))))
   refine wpQuiet_nil ?_
   rintro _ ⟨X,rfl⟩
   go_wp2_with fail
   go_ret
   rw[hR.out,HV0.out,HV1.out]
   exact⟨_,rfl,y8 (w:=w1.ext X) ((o1r.keep (i6 w1 X) (cv7 _)).wide al ag) ha14 _,(B1.trans ((i6 w1 X).mono s1)).setCell (p:=⟨gr,a',none⟩) (by show _<=gr;omega) _⟩
  have HV0:=show Hid _ from hv0
  clear hv0
  have ya:=L2.cell 1
  have yb:=L2.cell 2
  have yd:=L2.cell 3
  have yv:=L1.cell 1
  simp only[cv5,cw0]at yv ya yb yd
  have yw:w1.cell? ⟨vb,vo+b',none⟩=some (.int .i64 (X3 c.arrays b')):=by rw[(z6 B1).1 _ _ hvb];exact y2
  have zya:=fun X=>c7 ya X
  have zyb:=fun X=>c7 yb X
  have zyd:=fun X=>c7 yd X
  have zyv:=fun X=>c7 yv X
  have zyw:=fun X=>c7 yw X
  have zhc0:=fun X=>c7 hc0 X
  have zf:=fun X=>k6 hg3 hf0 X
  have HC:Hid (∀X,Calls Tryz.prog 113 #[.int .i64 (X3 c.arrays b')] (w1.ext X) fun e w''=>e=.returned (.bool true)/\∃Y,w''=w1.ext Y):=fun X=>(D4 _ _).mono fun e w' ⟨e1,e2⟩=>⟨by rw[e1,HV0.out],X,e2.symm⟩
  clear ya yb yd yv yw hc0 h1 h2 h3 y2 hvx hgc hgf
  have x0:=L2.cell 0
  simp only[cv5]at x0
  go_wp2_with fail
  refine j6 18 _ rfl aj aj ?_
  simp only[cx1,cx3,G8]
  repeat(any_goals (first|go_big_quiet_step ((go_at_call 113;exact HC.out _))|quiet_step ((go_at_call 113;exact HC.out _))))
  refine wpQuiet_nil ?_
  rintro _ ⟨X,rfl⟩
  go_wp2_with fail
  go_ret
  rw[hR.out,HV0.out]
  exact⟨_,rfl,y8 (w:=w1.ext X) ((o1r.keep (i6 w1 X) (cv7 _)).wide al ag) ha14 _,(B1.trans ((i6 w1 X).mono s1)).setCell (p:=⟨gr,a',none⟩) (by show _<=gr;omega) _⟩
 have q4:(o==4)=false:=by simp[o4]
 by_cases o6:o=6
 ·subst o6
  have hff:=hf.2.2.2.2.2.2.1 rfl
  clear hf
  obtain⟨a',ha'⟩:∃n:Nat,a=n:=⟨a.toNat,al⟩
  subst ha'
  obtain⟨d',hd'⟩:∃n:Nat,d=n:=⟨d.toNat,al⟩
  subst hd'
  obtain⟨g',hg'⟩:∃n:Nat,g=n:=⟨g.toNat,al⟩
  subst hg'
  have hR:Hid (s8 c ⟨6,a',b,d',g'⟩ t=t.set a' (bAt t d'||bAt t g')):=by unfold Hid;rw[C9 (b:=bAt t d'||bAt t g') (by rw[hOF.out];simp)];simp
  have ha14:a'<14:=al
  have ha14i:(a':Int)<14:=al
  have rd:=tx d' al
  have hrd14:d'<14:=al
  have hrd14i:(d':Int)<14:=al
  have rg:=tx g' al
  have hrg14:g'<14:=al
  have hrg14i:(g':Int)<14:=al
  have hf0:=hgf a'
  obtain⟨u0,hc0⟩:∃u0,w1.cell? ⟨gr,a',none⟩=some u0:=⟨_,hgc a' _ (x5 t a' al)⟩
  clear hff hOF tx
  cases hv0:bAt t d'
  ·have HV0:=show Hid _ from hv0
   rw[hv0]at rd
   clear hv0
   cases hv1:bAt t g'
   ·have HV1:=show Hid _ from hv1
    rw[hv1]at rg
    clear hv1
    have ya:=L2.cell 1
    have yd:=L2.cell 3
    have yg:=L2.cell 4
    simp only[cv5,cw0]at ya yd yg
    have zya:=fun X=>c7 ya X
    have zyd:=fun X=>c7 yd X
    have zyg:=fun X=>c7 yg X
    have zrd:=fun X=>c7 rd X
    have zrg:=fun X=>c7 rg X
    have zhc0:=fun X=>c7 hc0 X
    have zf:=fun X=>k6 hg3 hf0 X
    clear ya yd yg rd rg hc0 h1 h2 h3 hgc hgf
    have x0:=L2.cell 0
    simp only[cv5]at x0
    go_wp2_with fail
    refine j6 16 _ rfl aj aj ?_
    simp only[cx1,cx3,G8]
    repeat(any_goals (first|go_big_quiet_step ((fail))|quiet_step ((fail))))
    refine wpQuiet_nil ?_
    rintro _ ⟨X,rfl⟩
    go_wp2_with fail
    go_ret
    rw[hR.out,HV0.out,HV1.out]
    exact⟨_,rfl,y8 (w:=w1.ext X) ((o1r.keep (i6 w1 X) (cv7 _)).wide al ag) ha14 _,(B1.trans ((i6 w1 X).mono s1)).setCell (p:=⟨gr,a',none⟩) (by show _<=gr;omega) _⟩
   have HV1:=show Hid _ from hv1
   rw[hv1]at rg
   clear hv1
   have ya:=L2.cell 1
   have yd:=L2.cell 3
   have yg:=L2.cell 4
   simp only[cv5,cw0]at ya yd yg
   have zya:=fun X=>c7 ya X
   have zyd:=fun X=>c7 yd X
   have zyg:=fun X=>c7 yg X
   have zrd:=fun X=>c7 rd X
   have zrg:=fun X=>c7 rg X
   have zhc0:=fun X=>c7 hc0 X
   have zf:=fun X=>k6 hg3 hf0 X
   clear ya yd yg rd rg hc0 h1 h2 h3 hgc hgf
   have x0:=L2.cell 0
   simp only[cv5]at x0
   go_wp2_with fail
   refine j6 16 _ rfl aj aj ?_
   simp only[cx1,cx3,G8]
   repeat(any_goals (first|go_big_quiet_step ((fail))|quiet_step ((fail))))
   refine wpQuiet_nil ?_
   rintro _ ⟨X,rfl⟩
   go_wp2_with fail
   go_ret
   rw[hR.out,HV0.out,HV1.out]
   exact⟨_,rfl,y8 (w:=w1.ext X) ((o1r.keep (i6 w1 X) (cv7 _)).wide al ag) ha14 _,(B1.trans ((i6 w1 X).mono s1)).setCell (p:=⟨gr,a',none⟩) (by show _<=gr;omega) _⟩
  have HV0:=show Hid _ from hv0
  rw[hv0]at rd
  clear hv0
  have ya:=L2.cell 1
  have yd:=L2.cell 3
  have yg:=L2.cell 4
  simp only[cv5,cw0]at ya yd yg
  have zya:=fun X=>c7 ya X
  have zyd:=fun X=>c7 yd X
  have zyg:=fun X=>c7 yg X
  have zrd:=fun X=>c7 rd X
  have zhc0:=fun X=>c7 hc0 X
  have zf:=fun X=>k6 hg3 hf0 X
  clear ya yd yg rd hc0 h1 h2 h3 hgc hgf
  have x0:=L2.cell 0
  simp only[cv5]at x0
  go_wp2_with fail
  refine j6 16 _ rfl aj aj ?_
  simp only[cx1,cx3,G8]
  repeat(any_goals (first|go_big_quiet_step ((fail))|quiet_step ((fail))))
  refine wpQuiet_nil ?_
  rintro _ ⟨X,rfl⟩
  go_wp2_with fail
  go_ret
  rw[hR.out,HV0.out]
  exact⟨_,rfl,y8 (w:=w1.ext X) ((o1r.keep (i6 w1 X) (cv7 _)).wide al ag) ha14 _,(B1.trans ((i6 w1 X).mono s1)).setCell (p:=⟨gr,a',none⟩) (by show _<=gr;omega) _⟩
 have q6:(o==6)=false:=by simp[o6]
 by_cases o7:o=7
 ·subst o7
  have hff:=hf.2.2.2.2.2.2.2.1 rfl
  clear hf
  obtain⟨a',ha'⟩:∃n:Nat,a=n:=⟨a.toNat,al⟩
  subst ha'
  obtain⟨b',hb'⟩:∃n:Nat,b=n:=⟨b.toNat,al⟩
  subst hb'
  obtain⟨d',hd'⟩:∃n:Nat,d=n:=⟨d.toNat,al⟩
  subst hd'
  obtain⟨g',hg'⟩:∃n:Nat,g=n:=⟨g.toNat,al⟩
  subst hg'
  have hR:Hid (s8 c ⟨7,a',b',d',g'⟩ t=t.set a' (bAt t b'||bAt t d'||bAt t g')):=by unfold Hid;rw[C9 (b:=bAt t b'||bAt t d'||bAt t g') (by rw[hOF.out];simp)];simp
  have ha14:a'<14:=al
  have ha14i:(a':Int)<14:=al
  have rb:=tx b' al
  have hrb14:b'<14:=al
  have hrb14i:(b':Int)<14:=al
  have rd:=tx d' al
  have hrd14:d'<14:=al
  have hrd14i:(d':Int)<14:=al
  have rg:=tx g' al
  have hrg14:g'<14:=al
  have hrg14i:(g':Int)<14:=al
  have hf0:=hgf a'
  obtain⟨u0,hc0⟩:∃u0,w1.cell? ⟨gr,a',none⟩=some u0:=⟨_,hgc a' _ (x5 t a' al)⟩
  clear hff hOF tx
  cases hv0:bAt t b'
  ·have HV0:=show Hid _ from hv0
   rw[hv0]at rb
   clear hv0
   cases hv1:bAt t d'
   ·have HV1:=show Hid _ from hv1
    rw[hv1]at rd
    clear hv1
    cases hv2:bAt t g'
    ·have HV2:=show Hid _ from hv2
     rw[hv2]at rg
     clear hv2
     have ya:=L2.cell 1
     have yb:=L2.cell 2
     have yd:=L2.cell 3
     have yg:=L2.cell 4
     simp only[cv5,cw0]at ya yb yd yg
     have zya:=fun X=>c7 ya X
     have zyb:=fun X=>c7 yb X
     have zyd:=fun X=>c7 yd X
     have zyg:=fun X=>c7 yg X
     have zrb:=fun X=>c7 rb X
     have zrd:=fun X=>c7 rd X
     have zrg:=fun X=>c7 rg X
     have zhc0:=fun X=>c7 hc0 X
     have zf:=fun X=>k6 hg3 hf0 X
     clear ya yb yd yg rb rd rg hc0 h1 h2 h3 hgc hgf
     have x0:=L2.cell 0
     simp only[cv5]at x0
     go_wp2_with fail
     refine j6 23 _ rfl aj aj ?_
     simp only[cx1,cx3,G8]
     repeat(any_goals (first|go_big_quiet_step ((fail))|quiet_step ((fail))))
     refine wpQuiet_nil ?_
     rintro _ ⟨X,rfl⟩
     go_wp2_with fail
     go_ret
     rw[hR.out,HV0.out,HV1.out,HV2.out]
     exact⟨_,rfl,y8 (w:=w1.ext X) ((o1r.keep (i6 w1 X) (cv7 _)).wide al ag) ha14 _,(B1.trans ((i6 w1 X).mono s1)).setCell (p:=⟨gr,a',none⟩) (by show _<=gr;omega) _⟩
    have HV2:=show Hid _ from hv2
    rw[hv2]at rg
    clear hv2
    have ya:=L2.cell 1
    have yb:=L2.cell 2
    have yd:=L2.cell 3
    have yg:=L2.cell 4
    simp only[cv5,cw0]at ya yb yd yg
    have zya:=fun X=>c7 ya X
    have zyb:=fun X=>c7 yb X
    have zyd:=fun X=>c7 yd X
    have zyg:=fun X=>c7 yg X
    have zrb:=fun X=>c7 rb X
    have zrd:=fun X=>c7 rd X
    have zrg:=fun X=>c7 rg X
    have zhc0:=fun X=>c7 hc0 X
    have zf:=fun X=>k6 hg3 hf0 X
    clear ya yb yd yg rb rd rg hc0 h1 h2 h3 hgc hgf
    have x0:=L2.cell 0
    simp only[cv5]at x0
    go_wp2_with fail
    refine j6 23 _ rfl aj aj ?_
    simp only[cx1,cx3,G8]
    repeat(any_goals (first|go_big_quiet_step ((fail))|quiet_step ((fail))))
    refine wpQuiet_nil ?_
    rintro _ ⟨X,rfl⟩
    go_wp2_with fail
    go_ret
    rw[hR.out,HV0.out,HV1.out,HV2.out]
    exact⟨_,rfl,y8 (w:=w1.ext X) ((o1r.keep (i6 w1 X) (cv7 _)).wide al ag) ha14 _,(B1.trans ((i6 w1 X).mono s1)).setCell (p:=⟨gr,a',none⟩) (by show _<=gr;omega) _⟩
   have HV1:=show Hid _ from hv1
   rw[hv1]at rd
   clear hv1
   have ya:=L2.cell 1
   have yb:=L2.cell 2
   have yd:=L2.cell 3
   have yg:=L2.cell 4
   simp only[cv5,cw0]at ya yb yd yg
   have zya:=fun X=>c7 ya X
   have zyb:=fun X=>c7 yb X
   have zyd:=fun X=>c7 yd X
   have zyg:=fun X=>c7 yg X
   have zrb:=fun X=>c7 rb X
   have zrd:=fun X=>c7 rd X
   have zhc0:=fun X=>c7 hc0 X
   have zf:=fun X=>k6 hg3 hf0 X
   clear ya yb yd yg rb rd hc0 h1 h2 h3 hgc hgf
   have x0:=L2.cell 0
   simp only[cv5]at x0
   go_wp2_with fail
   refine j6 23 _ rfl aj aj ?_
   simp only[cx1,cx3,G8]
   repeat(any_goals (first|go_big_quiet_step ((fail))|quiet_step ((fail))))
   refine wpQuiet_nil ?_
   rintro _ ⟨X,rfl⟩
   go_wp2_with fail
   go_ret
   rw[hR.out,HV0.out,HV1.out]
   exact⟨_,rfl,y8 (w:=w1.ext X) ((o1r.keep (i6 w1 X) (cv7 _)).wide al ag) ha14 _,(B1.trans ((i6 w1 X).mono s1)).setCell (p:=⟨gr,a',none⟩) (by show _<=gr;omega) _⟩
  have HV0:=show Hid _ from hv0
  rw[hv0]at rb
  clear hv0
  have ya:=L2.cell 1
  have yb:=L2.cell 2
  have yd:=L2.cell 3
  have yg:=L2.cell 4
  simp only[cv5,cw0]at ya yb yd yg
  have zya:=fun X=>c7 ya X
  have zyb:=fun X=>c7 yb X
  have zyd:=fun X=>c7 yd X
  have zyg:=fun X=>c7 yg X
  have zrb:=fun X=>c7 rb X
  have zhc0:=fun X=>c7 hc0 X
  have zf:=fun X=>k6 hg3 hf0 X
  clear ya yb yd yg rb hc0 h1 h2 h3 hgc hgf
  have x0:=L2.cell 0
  simp only[cv5]at x0
  go_wp2_with fail
  refine j6 23 _ rfl aj aj ?_
  simp only[cx1,cx3,G8]
  repeat(any_goals (first|go_big_quiet_step ((fail))|quiet_step ((fail))))
  refine wpQuiet_nil ?_
  rintro _ ⟨X,rfl⟩
  go_wp2_with fail
  go_ret
  rw[hR.out,HV0.out]
  exact⟨_,rfl,y8 (w:=w1.ext X) ((o1r.keep (i6 w1 X) (cv7 _)).wide al ag) ha14 _,(B1.trans ((i6 w1 X).mono s1)).setCell (p:=⟨gr,a',none⟩) (by show _<=gr;omega) _⟩
 have q7:(o==7)=false:=by simp[o7]
 have hR:Hid (s8 c ⟨o,a,b,d,g⟩ t=t):=by unfold Hid;rw[aG2 (by rw[hOF.out];simp[o1,o11,o2,o4,o6,o7])]
 clear hOF tx hf o11 o2 o4 o6 o7
 go_wp2_with fail
 go_ret
 rw[hR.out]
 exact⟨_,rfl,o1r.wide al (cv7 _),B1⟩
theorem a32(v u:Value)(c:c8)(x:d8)(t:List Bool)(w:World)(h:t5 w v c)(hx:A8 c x=true)(ht:H7 w u 14 1 (bools t)):
  Calls Tryz.prog 65 #[v,x.v,u] w fun e w'=>∃r,e=.returned r/\A9 w' w.heap.size w'.heap.size 4 1 r 14 (bools (s8 c x t))/\Below w.heap.size w w':=by
 obtain⟨v1,v2,v3,rfl,h1,h2,h3⟩:=h
 have hf:=ai6 hx
 obtain⟨o,a,b,d,g⟩:=x
 simp only at hf
 obtain⟨W,hW⟩:∃W,W=((w.alloc (.cells #[v1,v2,v3] 26)).alloc (.cells #[.int .i64 o,.int .i64 a,.int .i64 b,.int .i64 d,.int .i64 g] 76)):=⟨_,rfl⟩
 have B0:Below w.heap.size w W:=by rw[hW];go_grown
 have sW:W.heap.size=w.heap.size+1+1:=by rw[hW];simp
 have L1:A1 W w.heap.size [v1,v2,v3]:=by rw[hW];exact(A1.new w [v1,v2,v3] _).alloc _
 have L2:A1 W (w.heap.size+1) [.int .i64 o,.int .i64 a,.int .i64 b,.int .i64 d,.int .i64 g]:=by rw[hW];exact A1.new' (w.alloc _) [.int .i64 o,.int .i64 a,.int .i64 b,.int .i64 d,.int .i64 g] _ an
 obtain⟨htl,tb,tof,tc,rfl,htc,htm,htb,htx⟩:=ht.bools14
 have hOF:Hid (J0 c ⟨o,a,b,d,g⟩ t=if o=1\/o=11 then some false else if o=2 then some (scB (X3 c.vars b))else if o=4 then some (scB (X3 c.arrays b)||bAt t d)
   else if o=6 then some (bAt t d||bAt t g)else if o=7 then some (bAt t b||bAt t d||bAt t g)else none):=rfl
 go_enter Tryz.func65,Tryz.ntmps65
 go_upto_region 2 with(at_builtin;refine D2 rfl _ _ rfl Tryz.underlying63 aQ2 rfl al rfl (x8 _ #[] 0 1 _ an rfl al).1 rfl (ht.below (by go_grown)) ar0 al al an ?_;rintro a4 q4 w1 o4 b4- -)
 trace_state
 have o1r:A9 w1 W.heap.size w1.heap.size 4 1 (.slice a4 14 q4) 14 (bools t):=A9.mk' (by simpa[sW]using o4)
 have b1:Below W.heap.size W w1:=by
  rw[<-hW]at b4
  exact((Below.refl W.heap.size W).alloc (cv7 _) _).trans (by simpa[sW]using b4)
 clear hW o4 b4
 replace L1:=L1.below b1 L1.lt
 replace L2:=L2.below b1 L2.lt
 have B1:=B0.trans (b1.mono B0.size)
 obtain⟨gr,kr,hvr,hg1,-,hg3,-,-,hgf,hgc⟩:=o1r.open al
 cases hvr
 rw[sW]at o1r hg1
 have s1:=B1.size
 have tx:∀k:Nat,k<14->w1.cell? ⟨tb,tof+k,none⟩=some (.bool (bAt t k)):=fun k hk=>by rw[(z6 B1).1 _ _ htb];exact htx k hk
 clear htx ht
 have x0:=L2.cell 0
 simp only[cv5]at x0
 by_cases o1:o=1
 ·subst o1
  have hff:=hf.1 rfl
  obtain⟨a',ha'⟩:∃n:Nat,a=n:=⟨a.toNat,al⟩
  subst ha'
  have ha14:a'<14:=al
  have hR:Hid (s8 c ⟨1,a',b,d,g⟩ t=t.set a' false):=by unfold Hid;rw[C9 (b:=false) (by rw[hOF.out];simp)];simp
  have x1:=L2.cell 1
  simp only[cv5,cw0]at x1
  have hf0:=hgf a'
  obtain⟨u0,hc0⟩:∃u0,w1.cell? ⟨gr,a',none⟩=some u0:=⟨_,hgc a' _ (x5 t a' al)⟩
  clear hff hOF tx hf
  go_wp2_with fail
  go_ret
  rw[hR.out]
  exact⟨_,rfl,y8 (o1r.wide al an) ha14 _,B1.setCell (p:=⟨gr,a',none⟩) (by show _<=gr;omega) _⟩
 by_cases o11:o=11
 ·subst o11
  have hff:=hf.2.1 rfl
  obtain⟨a',ha'⟩:∃n:Nat,a=n:=⟨a.toNat,al⟩
  subst ha'
  have ha14:a'<14:=al
  have hR:Hid (s8 c ⟨11,a',b,d,g⟩ t=t.set a' false):=by unfold Hid;rw[C9 (b:=false) (by rw[hOF.out];simp)];simp
  have x1:=L2.cell 1
  simp only[cv5,cw0]at x1
  have hf0:=hgf a'
  obtain⟨u0,hc0⟩:∃u0,w1.cell? ⟨gr,a',none⟩=some u0:=⟨_,hgc a' _ (x5 t a' al)⟩
  clear hff hOF tx hf
  go_wp2_with fail
  go_ret
  rw[hR.out]
  exact⟨_,rfl,y8 (o1r.wide al an) ha14 _,B1.setCell (p:=⟨gr,a',none⟩) (by show _<=gr;omega) _⟩
 have q1:(o==1)=false:=by simp[o1]
 have q11:(o==11)=false:=by simp[o11]
 by_cases o2:o=2
 ·subst o2
  have hff:=hf.2.2.1 rfl
  clear hf
  obtain⟨a',ha'⟩:∃n:Nat,a=n:=⟨a.toNat,al⟩
  subst ha'
  obtain⟨b',hb'⟩:∃n:Nat,b=n:=⟨b.toNat,al⟩
  subst hb'
  obtain⟨vb,vo,vc,rfl,hvc,hvm,hvn,hvb,hvx⟩:=h1.intsAt al
  have y2:=hvx b' al
  have hR:Hid (s8 c ⟨2,a',b',d,g⟩ t=t.set a' (scB (X3 c.vars b'))):=by unfold Hid;rw[C9 (b:=scB (X3 c.vars b')) (by rw[hOF.out];simp)];simp
  have ha14:a'<14:=al
  have ha14i:(a':Int)<14:=al
  have hf0:=hgf a'
  obtain⟨u0,hc0⟩:∃u0,w1.cell? ⟨gr,a',none⟩=some u0:=⟨_,hgc a' _ (x5 t a' al)⟩
  have hb14:b'<c.vars.length:=al
  have hb14i:(b':Int)<(c.vars.length:Int):=al
  clear hff hOF tx
  cases hv0:scB (X3 c.vars b')
  ·have HV0:=show Hid _ from hv0
   clear hv0
   have ya:=L2.cell 1
   have yb:=L2.cell 2
   have yv:=L1.cell 0
   simp only[cv5,cw0]at yv ya yb
   have yw:w1.cell? ⟨vb,vo+b',none⟩=some (.int .i64 (X3 c.vars b')):=by rw[(z6 B1).1 _ _ hvb];exact y2
   have zya:=fun X=>c7 ya X
   have zyb:=fun X=>c7 yb X
   have zyv:=fun X=>c7 yv X
   have zyw:=fun X=>c7 yw X
   have zhc0:=fun X=>c7 hc0 X
   have zf:=fun X=>k6 hg3 hf0 X
   have HC:Hid (∀X,Calls Tryz.prog 82 #[.int .i64 (X3 c.vars b')] (w1.ext X) fun e w''=>e=.returned (.bool false)/\∃Y,w''=w1.ext Y):=fun X=>(D3 _ _).mono fun e w' ⟨e1,e2⟩=>⟨by rw[e1,HV0.out],X,e2.symm⟩
   clear ya yb yv yw hc0 h1 h2 h3 y2 hvx hgc hgf
   have x0:=L2.cell 0
   simp only[cv5]at x0
   go_wp2_with fail
   refine j6 11 _ rfl aj aj ?_
   simp only[cx1,cx3,G8]
   repeat(any_goals (first|go_big_quiet_step ((go_at_call 82;exact HC.out _))|quiet_step ((go_at_call 82;exact HC.out _))))
   refine wpQuiet_nil ?_
   rintro _ ⟨X,rfl⟩
   go_wp2_with fail
   go_ret
   rw[hR.out,HV0.out]
   exact⟨_,rfl,y8 (w:=w1.ext X) ((o1r.keep (i6 w1 X) (cv7 _)).wide al ag) ha14 _,(B1.trans ((i6 w1 X).mono s1)).setCell (p:=⟨gr,a',none⟩) (by show _<=gr;omega) _⟩
  have HV0:=show Hid _ from hv0
  clear hv0
  have ya:=L2.cell 1
  have yb:=L2.cell 2
  have yv:=L1.cell 0
  simp only[cv5,cw0]at yv ya yb
  have yw:w1.cell? ⟨vb,vo+b',none⟩=some (.int .i64 (X3 c.vars b')):=by rw[(z6 B1).1 _ _ hvb];exact y2
  have zya:=fun X=>c7 ya X
  have zyb:=fun X=>c7 yb X
  have zyv:=fun X=>c7 yv X
  have zyw:=fun X=>c7 yw X
  have zhc0:=fun X=>c7 hc0 X
  have zf:=fun X=>k6 hg3 hf0 X
  have HC:Hid (∀X,Calls Tryz.prog 82 #[.int .i64 (X3 c.vars b')] (w1.ext X) fun e w''=>e=.returned (.bool true)/\∃Y,w''=w1.ext Y):=fun X=>(D3 _ _).mono fun e w' ⟨e1,e2⟩=>⟨by rw[e1,HV0.out],X,e2.symm⟩
  clear ya yb yv yw hc0 h1 h2 h3 y2 hvx hgc hgf
  have x0:=L2.cell 0
  simp only[cv5]at x0
  go_wp2_with fail
  refine j6 11 _ rfl aj aj ?_
  simp only[cx1,cx3,G8]
  repeat(any_goals (first|go_big_quiet_step ((go_at_call 82;exact HC.out _))|quiet_step ((go_at_call 82;exact HC.out _))))
  refine wpQuiet_nil ?_
  rintro _ ⟨X,rfl⟩
  go_wp2_with fail
  go_ret
  rw[hR.out,HV0.out]
  exact⟨_,rfl,y8 (w:=w1.ext X) ((o1r.keep (i6 w1 X) (cv7 _)).wide al ag) ha14 _,(B1.trans ((i6 w1 X).mono s1)).setCell (p:=⟨gr,a',none⟩) (by show _<=gr;omega) _⟩
 have q2:(o==2)=false:=by simp[o2]
 by_cases o4:o=4
 ·subst o4
  have hff:=hf.2.2.2.2.1 rfl
  clear hf
  obtain⟨a',ha'⟩:∃n:Nat,a=n:=⟨a.toNat,al⟩
  subst ha'
  obtain⟨b',hb'⟩:∃n:Nat,b=n:=⟨b.toNat,al⟩
  subst hb'
  obtain⟨d',hd'⟩:∃n:Nat,d=n:=⟨d.toNat,al⟩
  subst hd'
  obtain⟨vb,vo,vc,rfl,hvc,hvm,hvn,hvb,hvx⟩:=h2.intsAt al
  have y2:=hvx b' al
  have hR:Hid (s8 c ⟨4,a',b',d',g⟩ t=t.set a' (scB (X3 c.arrays b')||bAt t d')):=by unfold Hid;rw[C9 (b:=scB (X3 c.arrays b')||bAt t d') (by rw[hOF.out];simp)];simp
  have ha14:a'<14:=al
  have ha14i:(a':Int)<14:=al
  have rd:=tx d' al
  have hrd14:d'<14:=al
  have hrd14i:(d':Int)<14:=al
  have hf0:=hgf a'
  obtain⟨u0,hc0⟩:∃u0,w1.cell? ⟨gr,a',none⟩=some u0:=⟨_,hgc a' _ (x5 t a' al)⟩
  have hb14:b'<c.arrays.length:=al
  have hb14i:(b':Int)<(c.arrays.length:Int):=al
  clear hff hOF tx
  cases hv0:scB (X3 c.arrays b')
  ·have HV0:=show Hid _ from hv0
   clear hv0
   cases hv1:bAt t d'
   ·have HV1:=show Hid _ from hv1
    rw[hv1]at rd
    clear hv1
    have ya:=L2.cell 1
    have yb:=L2.cell 2
    have yd:=L2.cell 3
    have yv:=L1.cell 1
    simp only[cv5,cw0]at yv ya yb yd
    have yw:w1.cell? ⟨vb,vo+b',none⟩=some (.int .i64 (X3 c.arrays b')):=by rw[(z6 B1).1 _ _ hvb];exact y2
    have zya:=fun X=>c7 ya X
    have zyb:=fun X=>c7 yb X
    have zyd:=fun X=>c7 yd X
    have zyv:=fun X=>c7 yv X
    have zyw:=fun X=>c7 yw X
    have zrd:=fun X=>c7 rd X
    have zhc0:=fun X=>c7 hc0 X
    have zf:=fun X=>k6 hg3 hf0 X
    have HC:Hid (∀X,Calls Tryz.prog 82 #[.int .i64 (X3 c.arrays b')] (w1.ext X) fun e w''=>e=.returned (.bool false)/\∃Y,w''=w1.ext Y):=fun X=>(D3 _ _).mono fun e w' ⟨e1,e2⟩=>⟨by rw[e1,HV0.out],X,e2.symm⟩
    clear ya yb yd yv yw rd hc0 h1 h2 h3 y2 hvx hgc hgf
    have x0:=L2.cell 0
    simp only[cv5]at x0
    go_wp2_with fail
    refine j6 18 _ rfl aj aj ?_
    simp only[cx1,cx3,G8]
    repeat(any_goals (first|go_big_quiet_step ((go_at_call 82;exact HC.out _))|quiet_step ((go_at_call 82;exact HC.out _))))
    refine wpQuiet_nil ?_
    rintro _ ⟨X,rfl⟩
    go_wp2_with fail
    go_ret
    rw[hR.out,HV0.out,HV1.out]
    exact⟨_,rfl,y8 (w:=w1.ext X) ((o1r.keep (i6 w1 X) (cv7 _)).wide al ag) ha14 _,(B1.trans ((i6 w1 X).mono s1)).setCell (p:=⟨gr,a',none⟩) (by show _<=gr;omega) _⟩
   have HV1:=show Hid _ from hv1
   rw[hv1]at rd
   clear hv1
   have ya:=L2.cell 1
   have yb:=L2.cell 2
   have yd:=L2.cell 3
   have yv:=L1.cell 1
   simp only[cv5,cw0]at yv ya yb yd
   have yw:w1.cell? ⟨vb,vo+b',none⟩=some (.int .i64 (X3 c.arrays b')):=by rw[(z6 B1).1 _ _ hvb];exact y2
   have zya:=fun X=>c7 ya X
   have zyb:=fun X=>c7 yb X
   have zyd:=fun X=>c7 yd X
   have zyv:=fun X=>c7 yv X
   have zyw:=fun X=>c7 yw X
   have zrd:=fun X=>c7 rd X
   have zhc0:=fun X=>c7 hc0 X
   have zf:=fun X=>k6 hg3 hf0 X
   have HC:Hid (∀X,Calls Tryz.prog 82 #[.int .i64 (X3 c.arrays b')] (w1.ext X) fun e w''=>e=.returned (.bool false)/\∃Y,w''=w1.ext Y):=fun X=>(D3 _ _).mono fun e w' ⟨e1,e2⟩=>⟨by rw[e1,HV0.out],X,e2.symm⟩
   clear ya yb yd yv yw rd hc0 h1 h2 h3 y2 hvx hgc hgf
   have x0:=L2.cell 0
   simp only[cv5]at x0
   go_wp2_with fail
   refine j6 18 _ rfl aj aj ?_
   simp only[cx1,cx3,G8]
   repeat(any_goals (first|go_big_quiet_step ((go_at_call 82;exact HC.out _))|quiet_step ((go_at_call 82;exact HC.out _))))
   refine wpQuiet_nil ?_
   rintro _ ⟨X,rfl⟩
   go_wp2_with fail
   go_ret
   rw[hR.out,HV0.out,HV1.out]
   exact⟨_,rfl,y8 (w:=w1.ext X) ((o1r.keep (i6 w1 X) (cv7 _)).wide al ag) ha14 _,(B1.trans ((i6 w1 X).mono s1)).setCell (p:=⟨gr,a',none⟩) (by show _<=gr;omega) _⟩
  have HV0:=show Hid _ from hv0
  clear hv0
  have ya:=L2.cell 1
  have yb:=L2.cell 2
  have yd:=L2.cell 3
  have yv:=L1.cell 1
  simp only[cv5,cw0]at yv ya yb yd
  have yw:w1.cell? ⟨vb,vo+b',none⟩=some (.int .i64 (X3 c.arrays b')):=by rw[(z6 B1).1 _ _ hvb];exact y2
  have zya:=fun X=>c7 ya X
  have zyb:=fun X=>c7 yb X
  have zyd:=fun X=>c7 yd X
  have zyv:=fun X=>c7 yv X
  have zyw:=fun X=>c7 yw X
  have zhc0:=fun X=>c7 hc0 X
  have zf:=fun X=>k6 hg3 hf0 X
  have HC:Hid (∀X,Calls Tryz.prog 82 #[.int .i64 (X3 c.arrays b')] (w1.ext X) fun e w''=>e=.returned (.bool true)/\∃Y,w''=w1.ext Y):=fun X=>(D3 _ _).mono fun e w' ⟨e1,e2⟩=>⟨by rw[e1,HV0.out],X,e2.symm⟩
  clear ya yb yd yv yw hc0 h1 h2 h3 y2 hvx hgc hgf
  have x0:=L2.cell 0
  simp only[cv5]at x0
  go_wp2_with fail
  refine j6 18 _ rfl aj aj ?_
  simp only[cx1,cx3,G8]
  repeat(any_goals (first|go_big_quiet_step ((go_at_call 82;exact HC.out _))|quiet_step ((go_at_call 82;exact HC.out _))))
  refine wpQuiet_nil ?_
  rintro _ ⟨X,rfl⟩
  go_wp2_with fail
  go_ret
  rw[hR.out,HV0.out]
  exact⟨_,rfl,y8 (w:=w1.ext X) ((o1r.keep (i6 w1 X) (cv7 _)).wide al ag) ha14 _,(B1.trans ((i6 w1 X).mono s1)).setCell (p:=⟨gr,a',none⟩) (by show _<=gr;omega) _⟩
 have q4:(o==4)=false:=by simp[o4]
 by_cases o6:o=6
 ·subst o6
  have hff:=hf.2.2.2.2.2.2.1 rfl
  clear hf
  obtain⟨a',ha'⟩:∃n:Nat,a=n:=⟨a.toNat,al⟩
  subst ha'
  obtain⟨d',hd'⟩:∃n:Nat,d=n:=⟨d.toNat,al⟩
  subst hd'
  obtain⟨g',hg'⟩:∃n:Nat,g=n:=⟨g.toNat,al⟩
  subst hg'
  have hR:Hid (s8 c ⟨6,a',b,d',g'⟩ t=t.set a' (bAt t d'||bAt t g')):=by unfold Hid;rw[C9 (b:=bAt t d'||bAt t g') (by rw[hOF.out];simp)];simp
  have ha14:a'<14:=al
  have ha14i:(a':Int)<14:=al
  have rd:=tx d' al
  have hrd14:d'<14:=al
  have hrd14i:(d':Int)<14:=al
  have rg:=tx g' al
  have hrg14:g'<14:=al
  have hrg14i:(g':Int)<14:=al
  have hf0:=hgf a'
  obtain⟨u0,hc0⟩:∃u0,w1.cell? ⟨gr,a',none⟩=some u0:=⟨_,hgc a' _ (x5 t a' al)⟩
  clear hff hOF tx
  cases hv0:bAt t d'
  ·have HV0:=show Hid _ from hv0
   rw[hv0]at rd
   clear hv0
   cases hv1:bAt t g'
   ·have HV1:=show Hid _ from hv1
    rw[hv1]at rg
    clear hv1
    have ya:=L2.cell 1
    have yd:=L2.cell 3
    have yg:=L2.cell 4
    simp only[cv5,cw0]at ya yd yg
    have zya:=fun X=>c7 ya X
    have zyd:=fun X=>c7 yd X
    have zyg:=fun X=>c7 yg X
    have zrd:=fun X=>c7 rd X
    have zrg:=fun X=>c7 rg X
    have zhc0:=fun X=>c7 hc0 X
    have zf:=fun X=>k6 hg3 hf0 X
    clear ya yd yg rd rg hc0 h1 h2 h3 hgc hgf
    have x0:=L2.cell 0
    simp only[cv5]at x0
    go_wp2_with fail
    refine j6 16 _ rfl aj aj ?_
    simp only[cx1,cx3,G8]
    repeat(any_goals (first|go_big_quiet_step ((fail))|quiet_step ((fail))))
    refine wpQuiet_nil ?_
    rintro _ ⟨X,rfl⟩
    go_wp2_with fail
    go_ret
    rw[hR.out,HV0.out,HV1.out]
    exact⟨_,rfl,y8 (w:=w1.ext X) ((o1r.keep (i6 w1 X) (cv7 _)).wide al ag) ha14 _,(B1.trans ((i6 w1 X).mono s1)).setCell (p:=⟨gr,a',none⟩) (by show _<=gr;omega) _⟩
   have HV1:=show Hid _ from hv1
   rw[hv1]at rg
   clear hv1
   have ya:=L2.cell 1
   have yd:=L2.cell 3
   have yg:=L2.cell 4
   simp only[cv5,cw0]at ya yd yg
   have zya:=fun X=>c7 ya X
   have zyd:=fun X=>c7 yd X
   have zyg:=fun X=>c7 yg X
   have zrd:=fun X=>c7 rd X
   have zrg:=fun X=>c7 rg X
   have zhc0:=fun X=>c7 hc0 X
   have zf:=fun X=>k6 hg3 hf0 X
   clear ya yd yg rd rg hc0 h1 h2 h3 hgc hgf
   have x0:=L2.cell 0
   simp only[cv5]at x0
   go_wp2_with fail
   refine j6 16 _ rfl aj aj ?_
   simp only[cx1,cx3,G8]
   repeat(any_goals (first|go_big_quiet_step ((fail))|quiet_step ((fail))))
   refine wpQuiet_nil ?_
   rintro _ ⟨X,rfl⟩
   go_wp2_with fail
   go_ret
   rw[hR.out,HV0.out,HV1.out]
   exact⟨_,rfl,y8 (w:=w1.ext X) ((o1r.keep (i6 w1 X) (cv7 _)).wide al ag) ha14 _,(B1.trans ((i6 w1 X).mono s1)).setCell (p:=⟨gr,a',none⟩) (by show _<=gr;omega) _⟩
  have HV0:=show Hid _ from hv0
  rw[hv0]at rd
  clear hv0
  have ya:=L2.cell 1
  have yd:=L2.cell 3
  have yg:=L2.cell 4
  simp only[cv5,cw0]at ya yd yg
  have zya:=fun X=>c7 ya X
  have zyd:=fun X=>c7 yd X
  have zyg:=fun X=>c7 yg X
  have zrd:=fun X=>c7 rd X
  have zhc0:=fun X=>c7 hc0 X
  have zf:=fun X=>k6 hg3 hf0 X
  clear ya yd yg rd hc0 h1 h2 h3 hgc hgf
  have x0:=L2.cell 0
  simp only[cv5]at x0
  go_wp2_with fail
  refine j6 16 _ rfl aj aj ?_
  simp only[cx1,cx3,G8]
  repeat(any_goals (first|go_big_quiet_step ((fail))|quiet_step ((fail))))
  refine wpQuiet_nil ?_
  rintro _ ⟨X,rfl⟩
  go_wp2_with fail
  go_ret
  rw[hR.out,HV0.out]
  exact⟨_,rfl,y8 (w:=w1.ext X) ((o1r.keep (i6 w1 X) (cv7 _)).wide al ag) ha14 _,(B1.trans ((i6 w1 X).mono s1)).setCell (p:=⟨gr,a',none⟩) (by show _<=gr;omega) _⟩
 have q6:(o==6)=false:=by simp[o6]
 by_cases o7:o=7
 ·subst o7
  have hff:=hf.2.2.2.2.2.2.2.1 rfl
  clear hf
  obtain⟨a',ha'⟩:∃n:Nat,a=n:=⟨a.toNat,al⟩
  subst ha'
  obtain⟨b',hb'⟩:∃n:Nat,b=n:=⟨b.toNat,al⟩
  subst hb'
  obtain⟨d',hd'⟩:∃n:Nat,d=n:=⟨d.toNat,al⟩
  subst hd'
  obtain⟨g',hg'⟩:∃n:Nat,g=n:=⟨g.toNat,al⟩
  subst hg'
  have hR:Hid (s8 c ⟨7,a',b',d',g'⟩ t=t.set a' (bAt t b'||bAt t d'||bAt t g')):=by unfold Hid;rw[C9 (b:=bAt t b'||bAt t d'||bAt t g') (by rw[hOF.out];simp)];simp
  have ha14:a'<14:=al
  have ha14i:(a':Int)<14:=al
  have rb:=tx b' al
  have hrb14:b'<14:=al
  have hrb14i:(b':Int)<14:=al
  have rd:=tx d' al
  have hrd14:d'<14:=al
  have hrd14i:(d':Int)<14:=al
  have rg:=tx g' al
  have hrg14:g'<14:=al
  have hrg14i:(g':Int)<14:=al
  have hf0:=hgf a'
  obtain⟨u0,hc0⟩:∃u0,w1.cell? ⟨gr,a',none⟩=some u0:=⟨_,hgc a' _ (x5 t a' al)⟩
  clear hff hOF tx
  cases hv0:bAt t b'
  ·have HV0:=show Hid _ from hv0
   rw[hv0]at rb
   clear hv0
   cases hv1:bAt t d'
   ·have HV1:=show Hid _ from hv1
    rw[hv1]at rd
    clear hv1
    cases hv2:bAt t g'
    ·have HV2:=show Hid _ from hv2
     rw[hv2]at rg
     clear hv2
     have ya:=L2.cell 1
     have yb:=L2.cell 2
     have yd:=L2.cell 3
     have yg:=L2.cell 4
     simp only[cv5,cw0]at ya yb yd yg
     have zya:=fun X=>c7 ya X
     have zyb:=fun X=>c7 yb X
     have zyd:=fun X=>c7 yd X
     have zyg:=fun X=>c7 yg X
     have zrb:=fun X=>c7 rb X
     have zrd:=fun X=>c7 rd X
     have zrg:=fun X=>c7 rg X
     have zhc0:=fun X=>c7 hc0 X
     have zf:=fun X=>k6 hg3 hf0 X
     clear ya yb yd yg rb rd rg hc0 h1 h2 h3 hgc hgf
     have x0:=L2.cell 0
     simp only[cv5]at x0
     go_wp2_with fail
     refine j6 23 _ rfl aj aj ?_
     simp only[cx1,cx3,G8]
     repeat(any_goals (first|go_big_quiet_step ((fail))|quiet_step ((fail))))
     refine wpQuiet_nil ?_
     rintro _ ⟨X,rfl⟩
     go_wp2_with fail
     go_ret
     rw[hR.out,HV0.out,HV1.out,HV2.out]
     exact⟨_,rfl,y8 (w:=w1.ext X) ((o1r.keep (i6 w1 X) (cv7 _)).wide al ag) ha14 _,(B1.trans ((i6 w1 X).mono s1)).setCell (p:=⟨gr,a',none⟩) (by show _<=gr;omega) _⟩
    have HV2:=show Hid _ from hv2
    rw[hv2]at rg
    clear hv2
    have ya:=L2.cell 1
    have yb:=L2.cell 2
    have yd:=L2.cell 3
    have yg:=L2.cell 4
    simp only[cv5,cw0]at ya yb yd yg
    have zya:=fun X=>c7 ya X
    have zyb:=fun X=>c7 yb X
    have zyd:=fun X=>c7 yd X
    have zyg:=fun X=>c7 yg X
    have zrb:=fun X=>c7 rb X
    have zrd:=fun X=>c7 rd X
    have zrg:=fun X=>c7 rg X
    have zhc0:=fun X=>c7 hc0 X
    have zf:=fun X=>k6 hg3 hf0 X
    clear ya yb yd yg rb rd rg hc0 h1 h2 h3 hgc hgf
    have x0:=L2.cell 0
    simp only[cv5]at x0
    go_wp2_with fail
    refine j6 23 _ rfl aj aj ?_
    simp only[cx1,cx3,G8]
    repeat(any_goals (first|go_big_quiet_step ((fail))|quiet_step ((fail))))
    refine wpQuiet_nil ?_
    rintro _ ⟨X,rfl⟩
    go_wp2_with fail
    go_ret
    rw[hR.out,HV0.out,HV1.out,HV2.out]
    exact⟨_,rfl,y8 (w:=w1.ext X) ((o1r.keep (i6 w1 X) (cv7 _)).wide al ag) ha14 _,(B1.trans ((i6 w1 X).mono s1)).setCell (p:=⟨gr,a',none⟩) (by show _<=gr;omega) _⟩
   have HV1:=show Hid _ from hv1
   rw[hv1]at rd
   clear hv1
   have ya:=L2.cell 1
   have yb:=L2.cell 2
   have yd:=L2.cell 3
   have yg:=L2.cell 4
   simp only[cv5,cw0]at ya yb yd yg
   have zya:=fun X=>c7 ya X
   have zyb:=fun X=>c7 yb X
   have zyd:=fun X=>c7 yd X
   have zyg:=fun X=>c7 yg X
   have zrb:=fun X=>c7 rb X
   have zrd:=fun X=>c7 rd X
   have zhc0:=fun X=>c7 hc0 X
   have zf:=fun X=>k6 hg3 hf0 X
   clear ya yb yd yg rb rd hc0 h1 h2 h3 hgc hgf
   have x0:=L2.cell 0
   simp only[cv5]at x0
   go_wp2_with fail
   refine j6 23 _ rfl aj aj ?_
   simp only[cx1,cx3,G8]
   repeat(any_goals (first|go_big_quiet_step ((fail))|quiet_step ((fail))))
   refine wpQuiet_nil ?_
   rintro _ ⟨X,rfl⟩
   go_wp2_with fail
   go_ret
   rw[hR.out,HV0.out,HV1.out]
   exact⟨_,rfl,y8 (w:=w1.ext X) ((o1r.keep (i6 w1 X) (cv7 _)).wide al ag) ha14 _,(B1.trans ((i6 w1 X).mono s1)).setCell (p:=⟨gr,a',none⟩) (by show _<=gr;omega) _⟩
  have HV0:=show Hid _ from hv0
  rw[hv0]at rb
  clear hv0
  have ya:=L2.cell 1
  have yb:=L2.cell 2
  have yd:=L2.cell 3
  have yg:=L2.cell 4
  simp only[cv5,cw0]at ya yb yd yg
  have zya:=fun X=>c7 ya X
  have zyb:=fun X=>c7 yb X
  have zyd:=fun X=>c7 yd X
  have zyg:=fun X=>c7 yg X
  have zrb:=fun X=>c7 rb X
  have zhc0:=fun X=>c7 hc0 X
  have zf:=fun X=>k6 hg3 hf0 X
  clear ya yb yd yg rb hc0 h1 h2 h3 hgc hgf
  have x0:=L2.cell 0
  simp only[cv5]at x0
  go_wp2_with fail
  refine j6 23 _ rfl aj aj ?_
  simp only[cx1,cx3,G8]
  repeat(any_goals (first|go_big_quiet_step ((fail))|quiet_step ((fail))))
  refine wpQuiet_nil ?_
  rintro _ ⟨X,rfl⟩
  go_wp2_with fail
  go_ret
  rw[hR.out,HV0.out]
  exact⟨_,rfl,y8 (w:=w1.ext X) ((o1r.keep (i6 w1 X) (cv7 _)).wide al ag) ha14 _,(B1.trans ((i6 w1 X).mono s1)).setCell (p:=⟨gr,a',none⟩) (by show _<=gr;omega) _⟩
 have q7:(o==7)=false:=by simp[o7]
 have hR:Hid (s8 c ⟨o,a,b,d,g⟩ t=t):=by unfold Hid;rw[aG2 (by rw[hOF.out];simp[o1,o11,o2,o4,o6,o7])]
 clear hOF tx hf o11 o2 o4 o6 o7
 go_wp2_with fail
 go_ret
 rw[hR.out]
 exact⟨_,rfl,o1r.wide al (cv7 _),B1⟩
theorem aY0{w:World}{v:Value}{m:List (List Bool)}(h:R2 w v m):∃a cap,v=.slice a m.length cap/\m.length<=9223372036854775807/\
  ∀i,i<m.length->∃b off a' c',a=some ⟨b,off,none⟩/\b<w.heap.size/\w.cell? ⟨b,off+i,none⟩=some (.slice a' (rowAt m i).length c')/\H7 w (.slice a' (rowAt m i).length c') (rowAt m i).length 1 (bools (rowAt m i)):=by
 obtain⟨a,cap,h1,h2,h3⟩:=h.open
 refine⟨a,cap,h1,h2,fun i hi=>?_⟩
 rw[R4 hi]
 exact h3 i hi
theorem aH1(v u:Value)(c:c8)(m:List (List Bool))(w:World)(hc:j7 c=true)(h:t5 w v c)(hm:R2 w u m)(hl:m.length=c.list.length)(hr:m.all as1=true):
  Calls Tryz.prog 32 #[v,u] w fun e w'=>e=.returned (.tuple #[.int .i64 (H3 c m).1,.int .i64 (H3 c m).2])/\Below w.heap.size w w':=by
 have hrow:=h
 obtain⟨v1,v2,v3,rfl,h1,h2,h3⟩:=h
 obtain⟨W,hW⟩:∃W,W=w.alloc (.cells #[v1,v2,v3] 26):=⟨_,rfl⟩
 have B0:Below w.heap.size w W:=by rw[hW];go_grown
 have L1:A1 W w.heap.size [v1,v2,v3]:=by rw[hW];exact(A1.new w [v1,v2,v3] _)
 obtain⟨a3,k3,rfl,hk3,hm3,-,hc3⟩:=h3.ins
 obtain⟨am,km,rfl,hmm,hmc⟩:=aY0 hm
 have hn4:=(k8 hc).2.2.1
 go_enter Tryz.func32,Tryz.ntmps32
 go_wp2_with fail
 rw[<-hW]
 clear hW
 go_loopw [6,7,8,11] (fun _ _ _ i wr=>∃k:Nat,k<=m.length/\i=.int .i64 k/\K3 c m k=false/\Below W.heap.size W wr) (fun _ _ _ i _=>m.length-(intOf i).toNat)
 case atStart=>exact⟨0,cy4 _,rfl,rfl,Below.refl _ _⟩
 case round=>
  obtain⟨k,hk,rfl,ha,hb⟩:=hrel
  have HA:=show Hid _ from ha
  clear ha
  replace L1:=L1.below hb L1.lt
  have BW:=B0.trans (hb.mono B0.size)
  by_cases hlt:k<m.length
  ·have hltc:k<c.list.length:=al
   obtain⟨b,off,rfl,hb3,i0,i1,i2,i3,i4⟩:=hc3 k hltc
   obtain⟨bm,om,a',c',rfl,hbm,xm,hrm⟩:=hmc k hlt
   have hx:=(k8 hc).2.2.2.1 k hltc
   have HB:Hid (badAt c m k=(decide (0<(rowAt m k).length)&&decide (F4 c (t7 c k) (rowAt m k)≠0))):=rfl
   rw[t3 hltc]at HB
   have HF:=show Hid (K3 c m k=false->badAt c m k=true->H3 c m=(F4 c (t7 c k) (rowAt m k),(k:Int)))from fun g1 g2=>aF5 hlt g1 g2
   rw[t3 hltc]at HF
   have HS:=show Hid _ from aG1 c m k
   have hlr:=I7 hr k
   rw[<-(z6 BW).1 _ _ hb3]at i0 i1 i2 i3 i4
   rw[<-(z6 BW).1 _ _ hbm]at xm
   replace hrm:=hrm.below BW
   generalize rowAt m k=r at*
   generalize c.list[k]=x at*
   clear hc3 hmc hr
   have x0:=L1.cell 0
   have x1:=L1.cell 1
   have x2:=L1.cell 2
   simp only[cv5,cw0]at x0 x1 x2
   by_cases h0:r.length=0
   ·have q0:((r.length:Int)==0)=true:=by simp[h0]
    have HN:=show Hid (K3 c m (k+1)=false)from by unfold Hid;rw[HS.out,HA.out,HB.out];simp[h0]
    clear HF HB hlr h0
    go_wp2_with fail
    exact⟨⟨k+1,al,by go_num,HN.out,hb⟩,by simp[intOf];omega⟩
   have h14:r.length=14:=al
   have q0:((r.length:Int)==0)=false:=by rw[h14];rfl
   have hrr:H7 wr (.slice a' r.length c') 14 1 (bools r):=by rw[h14]at hrm ⊢;exact hrm
   have z0:=fun X=>c7 x0 X
   have z1:=fun X=>c7 x1 X
   have z2:=fun X=>c7 x2 X
   have j0:=fun X=>c7 i0 X
   have j1:=fun X=>c7 i1 X
   have j2:=fun X=>c7 i2 X
   have j3:=fun X=>c7 i3 X
   have j4:=fun X=>c7 i4 X
   have hl14:(r.length:Int)<=14:=al
   have HC:Hid (∀X,Calls Tryz.prog 78 #[.agg #[v1,v2,.slice (some ⟨b,off,none⟩) c.list.length k3],x.v,.slice a' r.length c'] (wr.ext X) fun e w''=>e=.returned (.int .i64 (F4 c x r))/\∃Y,w''=wr.ext Y):=
    fun X=>Calls.ext_of' (bp0 _ _ c x r _ ((hrow.below BW).below (i6 _ X)) hx (hrr.below (i6 _ X)))
   by_cases ho:F4 c x r=0
   ·have qo:(F4 c x r !=0)=false:=by simp[ho]
    have HN:=show Hid (K3 c m (k+1)=false)from by unfold Hid;rw[HS.out,HA.out,HB.out];simp[ho]
    clear HF HB hlr h0 ho hrr hrm h14 x0 x1 x2 i0 i1 i2 i3 i4
    go_wp2_with fail
    refine C3 aj aj ?_
    repeat(any_goals (first|go_big_quiet_step ((go_at_call 78;exact HC.out _))|quiet_step ((go_at_call 78;exact HC.out _))))
    refine wpQuiet_nil ?_
    rintro _ ⟨X,rfl⟩
    have hbX:=hb.trans ((i6 wr X).mono hb.size)
    go_wp2_with fail
    exact⟨⟨k+1,al,by go_num,HN.out,hbX⟩,by simp[intOf];omega⟩
   have qo:(F4 c x r !=0)=true:=by simp[ho]
   have HN:=show Hid (H3 c m=(F4 c x r,(k:Int)))from HF.out HA.out (by rw[HB.out];simp[ho];omega)
   clear HF HB hlr h0 ho hrr hrm h14 x0 x1 x2 i0 i1 i2 i3 i4
   go_wp2_with fail
   refine C3 aj aj ?_
   repeat(any_goals (first|go_big_quiet_step ((go_at_call 78;exact HC.out _))|quiet_step ((go_at_call 78;exact HC.out _))))
   refine wpQuiet_nil ?_
   rintro _ ⟨X,rfl⟩
   have hbX:=hb.trans ((i6 wr X).mono hb.size)
   go_wp2_with fail
   go_ret2
   exact⟨by rw[HN.out];rfl,B0.trans (hbX.mono B0.size)⟩
  have e:k=m.length:=al
  subst e
  have HN:=show Hid _ from an6 HA.out
  clear hc3 hmc
  go_wp2_with fail
  go_ret2
  exact⟨by rw[HN.out];rfl,BW⟩
theorem ba7(v:Value)(c:c8)(i:Nat)(w:World)(h:t5 w v c)(hi:i<c.list.length):
  Calls Tryz.prog 66 #[v,.int .i64 i] w fun e w'=>∃u,e=.returned u/\A9 w' w.heap.size w'.heap.size 3 1 u (D0 c.list[i] i).length (ints (D0 c.list[i] i))/\Below w.heap.size w w':=by
 obtain⟨v1,v2,v3,rfl,h1,h2,h3⟩:=h
 obtain⟨a3,k3,rfl,hk3,hm3,-,hc3⟩:=h3.ins
 obtain⟨W,hW⟩:∃W,W=w.alloc (.cells #[v1,v2,.slice a3 c.list.length k3] 26):=⟨_,rfl⟩
 have B0:Below w.heap.size w W:=by rw[hW];go_grown
 have s0:=B0.size
 have L1:A1 W w.heap.size [v1,v2,.slice a3 c.list.length k3]:=by rw[hW];exact(A1.new w [v1,v2,.slice a3 c.list.length k3] _)
 obtain⟨b,off,rfl,hb3,i0,i1,i2,i3,i4⟩:=hc3 i hi
 rw[<-(z6 B0).1 _ _ hb3]at i0 i1 i2 i3 i4
 have x2:=L1.cell 2
 simp at x2
 generalize c.list[i]=x at*
 rw[hW]at x2 i0 i1 i2 i3 i4
 clear hc3 h3 h1 h2
 by_cases h13:x.op=13
 ·have q13:(x.op==13)=true:=by simp[h13]
  have HN:=show Hid (D0 x i=[])from by simp[Hid,D0,h13]
  clear h13
  go_enter Tryz.func66,Tryz.ntmps66
  go_wp2_with fail
  go_ret
  rw[HN.out]
  exact⟨_,rfl,(x8 _ #[] 0 1 _ an rfl al).wide ah an,by go_grown⟩
 have q13:(x.op==13)=false:=by simp[h13]
 by_cases h8:x.op=8
 ·have q8:(x.op==8)=true:=by simp[h8]
  have HN:=show Hid (D0 x i=[x.a])from by simp[Hid,D0,h8]
  clear h13 h8
  go_enter Tryz.func66,Tryz.ntmps66
  go_wp2_with fail
  go_ret
  rw[HN.out]
  exact⟨_,rfl,(x8 _ #[_] 1 1 _ an rfl al).wide ah an,by go_grown⟩
 have q8:(x.op==8)=false:=by simp[h8]
 by_cases h9:x.op=9\/x.op=10
 ·have HN:=show Hid (D0 x i=[(i:Int)+1,x.b])from by simp[Hid,D0,h13,h8,h9]
  have h9':(x.op==9)=true\/((x.op==9)=false/\(x.op==10)=true):=by
   rcases h9 with h9|h9
   ·left;simp[h9]
   right;simp[h9]
  clear h13 h8 h9
  rcases h9' with q9|⟨q9,q10⟩
  all_goals
   go_enter Tryz.func66,Tryz.ntmps66
   go_wp2_with fail
   go_ret
   rw[HN.out]
   exact⟨_,rfl,((x8 _ #[.int .i64 ((i:Int)+1),.int .i64 x.b] 2 1 _ an rfl al)).wide ah an,by go_grown⟩
 have q9:(x.op==9)=false:=ah
 have q10:(x.op==10)=false:=ah
 have HN:=show Hid (D0 x i=[(i:Int)+1])from by simp[Hid,D0,h13,h8,h9]
 clear h13 h8 h9
 go_enter Tryz.func66,Tryz.ntmps66
 go_wp2_with fail
 go_ret
 rw[HN.out]
 exact⟨_,rfl,(x8 _ #[_] 1 1 _ an rfl al).wide ah an,by go_grown⟩
theorem bA9(v:Value)(c:c8)(t:Int)(w:World)(h:t5 w v c)(h0:0<=t)(h1:t<c.list.length):
  Calls Tryz.prog 66 #[v,.int .i64 t] w fun e w'=>∃u,e=.returned u/\A9 w' w.heap.size w'.heap.size 3 1 u (nx c t).length (ints (nx c t))/\Below w.heap.size w w':=by
 obtain⟨i,rfl⟩:∃i:Nat,t=i:=⟨t.toNat,al⟩
 have hi:i<c.list.length:=al
 have e:nx c i=D0 c.list[i] i:=aY7 (t:=(i:Int)) hi
 rw[e]
 exact ba7 v c i w h hi
theorem ae6(x:d8)(w:World):
  Calls Tryz.prog 95 #[x.v] w fun e w'=>e=.returned (.int .i64 (l0 x))/\Below w.heap.size w w':=by
 obtain⟨x0,x1,x2,x3,x4⟩:=x
 by_cases h8:x0=8
 ·have HN:=show Hid (l0 ⟨x0,x1,x2,x3,x4⟩=x1)from by simp[Hid,l0,h8]
  have q8:(x0==8)=true:=by simp[h8]
  clear h8
  go_enter Tryz.func95,Tryz.ntmps95
  go_wp2_with fail
  go_ret
  exact⟨D5 HN.out.symm,by go_grown⟩
 have q8:(x0==8)=false:=by simp[h8]
 by_cases h9:x0=9\/x0=10
 ·have HN:=show Hid (l0 ⟨x0,x1,x2,x3,x4⟩=x2)from by simp[Hid,l0,h8,h9]
  have h9':(x0==9)=true\/((x0==9)=false/\(x0==10)=true):=by
   rcases h9 with h9|h9
   ·left;simp[h9]
   right;simp[h9]
  clear h8 h9
  rcases h9' with q9|⟨q9,q10⟩
  all_goals
   go_enter Tryz.func95,Tryz.ntmps95
   go_wp2_with fail
   go_ret
   exact⟨D5 HN.out.symm,by go_grown⟩
 have HN:=show Hid (l0 ⟨x0,x1,x2,x3,x4⟩= -1)from by simp[Hid,l0,h8,h9]
 have q9:(x0==9)=false:=ah
 have q10:(x0==10)=false:=ah
 clear h8 h9
 go_enter Tryz.func95,Tryz.ntmps95
 go_wp2_with fail
 go_ret
 exact⟨D5 HN.out.symm,by go_grown⟩
theorem aj8(v:Value)(c:c8)(i:Nat)(w:World)(h:t5 w v c)(hi:i<c.list.length):
    Calls Tryz.prog 63 #[v,.int .i64 i] w fun e w'=>∃u,e=.returned u/\A9 w' w.heap.size w'.heap.size 3 1 u (ag6 c.list[i] i).length (ints (ag6 c.list[i] i))/\Below w.heap.size w w':=by
  obtain⟨v1,v2,v3,rfl,h1,h2,h3⟩:=h
  obtain⟨a3,k3,rfl,hk3,hm3,-,hc3⟩:=h3.ins
  obtain⟨W,hW⟩:∃W,W=(w.alloc (.cells #[v1,v2,.slice a3 c.list.length k3] 26)):=⟨_,rfl⟩
  have B0:Below w.heap.size w W:=by rw[hW];go_grown
  have L1:A1 W w.heap.size [v1,v2,.slice a3 c.list.length k3]:=by rw[hW];exact(A1.new w [v1,v2,.slice a3 c.list.length k3] _)
  have sW:W.heap.size=w.heap.size+1:=by rw[hW];simp
  obtain⟨b,off,rfl,hb3,i0,i1,i2,i3,i4⟩:=hc3 i hi
  rw[<-(z6 B0).1 _ _ hb3]at i0 i1 i2 i3 i4
  have x2:=L1.cell 2
  simp at x2
  generalize c.list[i]=x at*
  clear hc3 h3 h1 h2
  go_enter Tryz.func63,Tryz.ntmps63
  rw[hW]at x2 i0 i1 i2 i3 i4
  go_wp2_with fail
  rw[<-hW]
  clear x2 i0 i1 i2 i3 i4 hW
  have s0:=B0.size
  have L2:=A1.new W [.int .i64 x.op,.int .i64 x.a,.int .i64 x.b,.int .i64 x.c,.int .i64 x.d] 76
  have B1:Below w.heap.size w (W.alloc (.cells #[.int .i64 x.op,.int .i64 x.a,.int .i64 x.b,.int .i64 x.c,.int .i64 x.d] 76)):=B0.trans (Below.mono (by go_grown:Below W.heap.size W _) s0)
  generalize W.alloc (.cells #[.int .i64 x.op,.int .i64 x.a,.int .i64 x.b,.int .i64 x.c,.int .i64 x.d] 76)=W1 at*
  rw[sW]at L2
  clear B0 s0 sW
  have s1:=B1.size
  refine(ae6 x _).mono ?_
  rintro e w1 ⟨rfl,b1⟩
  replace L2:=L2.below b1 L2.lt
  have B2:=B1.trans (b1.mono s1)
  have s2:=B2.size
  have HN:Hid (ag6 x i=(if 0<=l0 x then [l0 x]else [])++(if x.op≠8/\x.op≠13 then [(i:Int)+1]else [])):=rfl
  generalize l0 x=tg at*
  have c0:=L2.cell 0
  simp only[cv5]at c0
  by_cases ht:0<=tg
  · have HT:=show Hid _ from ht
    go_wp2_with (first|(at_builtin;refine D2 rfl _ _ rfl Tryz.underlying23 aQ1 rfl al rfl (World.ownsRow_nil _ w1.heap.size _ _) rfl (ax0 w1 (.int .i64 tg) _ rfl) (fun u hu=>by simp at hu;subst hu;rfl) al al an ?_;rintro a1 q1 w2 o2 b2- -;have b2':=((Below.refl w1.heap.size w1).alloc (cv7 _) _).trans b2;replace L2:=L2.below b2' L2.lt;have B3:=B2.trans (b2'.mono s2);have s3:=b2'.size;have d0:=L2.cell 0;simp only[cv5]at d0;clear b2)|(at_builtin;refine D2 rfl _ _ rfl Tryz.underlying23 aQ1 rfl al rfl (o2.alloc _) rfl (ax0 w2 (.int .i64 ((i:Int)+1)) _ rfl) (fun u hu=>by simp at hu;subst hu;rfl) al al ah ?_;rintro a2 q2 w3 o3 b3- -;have b3':=((Below.refl w1.heap.size w2).alloc s3 _).trans b3;have B4:=B3.trans (Below.mono (b3':Below w1.heap.size w2 w3) s2)))
    all_goals go_ret
    all_goals simp only[bne_iff_ne,ne_eq,bne_eq_false_iff_eq]at*
    all_goals first
      | (have e : ag6 x i = [tg, (i : Int) + 1] := by
           rw[HN.out,if_pos HT.out];clear HN HT;simp;omega
         rw[e];exact⟨_,rfl,A9.mk' (G4 o3 s2),B4⟩)
      | (have e : ag6 x i = [tg] := by
           rw[HN.out,if_pos HT.out];clear HN HT;simp;omega
         rw[e];exact⟨_,rfl,A9.mk' (G4 o2 s2),B3⟩)
  have HT:=show Hid (¬0<=tg)from ht
  go_wp2_with ((at_builtin;refine D2 rfl _ _ rfl Tryz.underlying23 aQ1 rfl al rfl (World.ownsRow_nil _ w1.heap.size _ _) rfl (ax0 w1 (.int .i64 ((i:Int)+1)) _ rfl) (fun u hu=>by simp at hu;subst hu;rfl) al al an ?_;rintro a1 q1 w2 o2 b2- -;have b2':=((Below.refl w1.heap.size w1).alloc (cv7 _) _).trans b2;have B3:=B2.trans (b2'.mono s2)))
  all_goals go_ret
  all_goals simp only[bne_iff_ne,ne_eq,bne_eq_false_iff_eq]at*
  all_goals first
    | (have e : ag6 x i = [(i : Int) + 1] := by
         rw[HN.out,if_neg (by have:=HT.out;omega)];clear HN HT;simp;omega
       rw[e];exact⟨_,rfl,A9.mk' (G4 o2 s2),B3⟩)
    | (have e : ag6 x i = [] := by
         rw[HN.out,if_neg (by have:=HT.out;omega)];clear HN HT;simp;omega
       rw[e];exact⟨_,rfl,⟨World.ownsRow_nil _ _ _ _,fun g hg=>by cases hg⟩,B2⟩)
theorem bf1(v:Value)(c:c8)(i:Nat)(w:World)(h:t5 w v c)(hi:i<c.list.length):
  Calls Tryz.prog 63 #[v,.int .i64 i] w fun e w'=>∃u,e=.returned u/\H7 w' u (ag6 c.list[i] i).length 1 (ints (ag6 c.list[i] i))/\Below w.heap.size w w':=
 (aj8 v c i w h hi).mono fun _ _ ⟨u,h1,h2,h3⟩=>⟨u,h1,h2.row,h3⟩
theorem aC3(v:Value)(c:c8)(hc:j7 c=true)(t:Int)(w:World)(h:t5 w v c)(h0:0<=t)(h1:t<c.list.length):
  Calls Tryz.prog 63 #[v,.int .i64 t] w fun e w'=>∃u ns,e=.returned u/\ns.length<=2/\(∀x,x∈ns↔x∈nx c t)/\A9 w' w.heap.size w'.heap.size 3 1 u ns.length (ints ns)/\Below w.heap.size w w':=by
 obtain⟨i,rfl⟩:∃i:Nat,t=i:=⟨t.toNat,al⟩
 have hi:i<c.list.length:=al
 have e:nx c i=D0 c.list[i] i:=aY7 (t:=(i:Int)) hi
 rw[e]
 refine(aj8 v c i w h hi).mono fun _ _ ⟨u,h1,h2,h3⟩=>⟨u,_,h1,aY9 _ _,fun x=>aY8 ((k8 hc).2.2.2.1 i hi) _ _,h2,h3⟩
theorem a70(v:Value)(c:c8)(hc:j7 c=true)(t:Int)(w:World)(h:t5 w v c)(h0:0<=t)(h1:t<c.list.length):
  Calls Tryz.prog 63 #[v,.int .i64 t] w fun e w'=>∃u ns,e=.returned u/\ns.length<=2/\(∀x,x∈ns↔x∈nx c t)/\H7 w' u ns.length 1 (ints ns)/\Below w.heap.size w w':=by
 obtain⟨i,rfl⟩:∃i:Nat,t=i:=⟨t.toNat,al⟩
 have hi:i<c.list.length:=al
 have e:nx c i=D0 c.list[i] i:=aY7 (t:=(i:Int)) hi
 rw[e]
 refine(bf1 v c i w h hi).mono fun e w' ⟨u,h1,h2,h3⟩=>⟨u,_,h1,aY9 _ _,fun x=>aY8 ((k8 hc).2.2.2.1 i hi) _ _,h2,h3⟩
theorem a35(v:Value)(c:c8)(x:d8)(w:World)(h:t5 w v c):
  Calls Tryz.prog 80 #[v,x.v] w fun e w'=>e=.returned (.bool (A8 c x))/\Below w.heap.size w w':=by
 obtain⟨v1,v2,v3,rfl,h1,h2,h3⟩:=h
 have HT:Hid (A8 c x=(decide (1<=x.op)&&decide (x.op<=13)&&am5 c (m7 x.op) [x.a,x.b,x.c,x.d] 4)):=by
  unfold Hid A8;rw[bn2]
 by_cases hop:1<=x.op/\x.op<=13
 ·obtain⟨hop1,hop2⟩:=hop
  have hR:Hid (A8 c x=am5 c (m7 x.op) [x.a,x.b,x.c,x.d] 4):=by
   unfold Hid;rw[HT.out,decide_eq_true hop1,decide_eq_true hop2];rfl
  clear HT
  obtain⟨W,hW⟩:∃W,W=((w.alloc (.cells #[v1,v2,v3] 26)).alloc (.cells #[.int .i64 x.op,.int .i64 x.a,.int .i64 x.b,.int .i64 x.c,.int .i64 x.d] 76)):=⟨_,rfl⟩
  have B0:Below w.heap.size w W:=by rw[hW];go_grown
  have L1:A1 W w.heap.size [v1,v2,v3]:=by rw[hW];exact(A1.new w [v1,v2,v3] _).alloc _
  have L2:A1 W (w.heap.size+1) [.int .i64 x.op,.int .i64 x.a,.int .i64 x.b,.int .i64 x.c,.int .i64 x.d]:=by rw[hW];exact A1.new' (w.alloc _) [.int .i64 x.op,.int .i64 x.a,.int .i64 x.b,.int .i64 x.c,.int .i64 x.d] _ an
  go_enter Tryz.func80,Tryz.ntmps80
  go_wp2_with fail
  rw[<-hW]
  clear hW
  refine(ar9 x.op W hop1 hop2).mono ?_
  rintro e w1 ⟨rfl,b1⟩
  replace L1:=L1.below b1 L1.lt
  replace L2:=L2.below b1 L2.lt
  have y0:=L2.cell 0
  have y1:=L2.cell 1
  have y2:=L2.cell 2
  have y3:=L2.cell 3
  have y4:=L2.cell 4
  simp at y0 y1 y2 y3 y4
  go_wp2_with fail
  refine(a34 x _).mono ?_
  rintro e w2 ⟨u,rfl,o2,b2⟩
  replace L1:=L1.below b2 L1.lt
  have B2:=(B0.trans (b1.mono B0.size)).trans (b2.mono (by have:=B0.size;have:=b1.size;omega))
  obtain⟨g,cap,rfl,-,-,hg,-,-,-,hp⟩:=o2.open al
  have hkl:=au8 x.op
  obtain⟨kinds,hkinds⟩:∃kinds,kinds=m7 x.op:=⟨_,rfl⟩
  obtain⟨parts,hparts⟩:∃parts,parts=[x.a,x.b,x.c,x.d]:=⟨_,rfl⟩
  rw[<-hkinds]at hkl ⊢
  rw[<-hkinds]at hR
  rw[<-hparts]at hR hp
  have hpl:parts.length=4:=by rw[hparts];rfl
  clear hkinds hparts y0 y1 y2 y3 y4 L2 o2
  have HPL:=show Hid _ from hpl
  clear hpl
  go_wp2_with fail
  go_loopw [7] (fun i wr=>∃k:Nat,k<=4/\i=.int .i64 k/\am5 c kinds parts k=true/\Below w2.heap.size w2 wr) (fun i _=>4-(intOf i).toNat)
  case atStart=>exact⟨0,al,rfl,rfl,Below.refl _ _⟩
  case round=>
   obtain⟨k,hk,rfl,ha,hb⟩:=hrel
   have HA:=show Hid _ from ha
   clear ha
   replace L1:=L1.below hb L1.lt
   by_cases hlt:k<4
   ·have x0:=L1.cell 0
    have x1:=L1.cell 1
    have x2:=L1.cell 2
    simp only[cv5,cw0]at x0 x1 x2
    have z0:=fun X=>c7 x0 X
    have z1:=fun X=>c7 x1 X
    have z2:=fun X=>c7 x2 X
    have hpk:k<parts.length:=by rw[HPL.out];exact hlt
    have p0:wr.cell? ⟨g,k,none⟩=some (.int .i64 parts[k]):=by
     rw[(z6 hb).1 _ _ hg];exact hp k _ (by simp[hpk])
    have pX:=fun X=>c7 p0 X
    have HS:=show Hid _ from aN8 c kinds parts k
    have hgd:parts.getD k 0=parts[k]:=by simp[hpk]
    have HG:=show Hid _ from hgd
    have BW:=B2.trans (hb.mono B2.size)
    clear x0 x1 x2 p0 hp hgd
    by_cases hkk:k<kinds.length
    ·have hpo:G0 c kinds k parts[k]=Q6 c kinds[k] parts[k]:=by simp[G0,hkk]
     have HPO:=show Hid _ from hpo
     clear hpo
     have hd1:decide (kinds.length<=k)=false:=ah
     have hd2:decide ((kinds.length:Int)<=(k:Int))=false:=ah
     cases hr:Q6 c kinds[k] parts[k]
     all_goals
      have HR:=show Hid _ from hr
      clear hr
      have HC:Hid (∀X,Calls Tryz.prog 123 #[.agg #[v1,v2,v3],.int .u8 kinds[k].toNat,.int .i64 parts[k]] (wr.ext X) fun e w''=>e=.returned (.bool _)/\∃Y,w''=wr.ext Y):=
       fun X=>Calls.ext_of' ((a33 v1 v2 v3 c kinds[k] parts[k] _ ((h1.below BW).below (i6 _ X)) ((h2.below BW).below (i6 _ X)) ((h3.below BW).below (i6 _ X))).mono fun e w' h=>by rw[HR.out]at h;exact h)
      go_wp2_with fail
      refine C3 aj aj ?_
      repeat(any_goals (first|go_big_quiet_step ((go_at_call 123;exact HC.out _))|quiet_step ((go_at_call 123;exact HC.out _))))
      refine wpQuiet_nil ?_
      rintro w' ⟨X,rfl⟩
      have hbX:=hb.trans ((i6 wr X).mono hb.size)
      go_wp2_with fail
     ·go_ret
      exact⟨m5 (by rw[hR.out,aN9 4 hlt (by rw[HG.out,HPO.out,HR.out])]),B2.trans (hbX.mono B2.size)⟩
     exact⟨⟨k+1,al,by go_num,by rw[HS.out,HA.out,HG.out,HPO.out,HR.out];rfl,hbX⟩,by simp[intOf];omega⟩
    have hpo:G0 c kinds k parts[k]=decide (parts[k]=0):=by simp[G0,hkk]
    have HPO:=show Hid _ from hpo
    clear hpo
    have hd1:decide (kinds.length<=k)=true:=ah
    have hd2:decide ((kinds.length:Int)<=(k:Int))=true:=ah
    have hd3:decide (k<kinds.length)=false:=ah
    have hd4:decide ((k:Int)<(kinds.length:Int))=false:=ah
    by_cases hz:parts[k]=0
    ·have hz1:(parts[k] !=0)=false:=by simp[hz]
     have HZ:=show Hid _ from hz
     clear hz
     go_wp2_with fail
     refine C3 aj aj ?_
     repeat(any_goals (first|go_big_quiet_step (fail)|quiet_step (fail)))
     refine wpQuiet_nil ?_
     rintro w' ⟨X,rfl⟩
     have hbX:=hb.trans ((i6 wr X).mono hb.size)
     go_wp2_with fail
     exact⟨⟨k+1,al,by go_num,by rw[HS.out,HA.out,HG.out,HPO.out,HZ.out];rfl,hbX⟩,by simp[intOf];omega⟩
    have hz1:(parts[k] !=0)=true:=by simp[hz]
    have HZ:=show Hid (¬parts[k]=0)from hz
    clear hz
    go_wp2_with fail
    refine C3 aj aj ?_
    repeat(any_goals (first|go_big_quiet_step (fail)|quiet_step (fail)))
    refine wpQuiet_nil ?_
    rintro w' ⟨X,rfl⟩
    have hbX:=hb.trans ((i6 wr X).mono hb.size)
    go_wp2_with fail
    go_ret
    exact⟨m5 (by rw[hR.out,aN9 4 hlt (by rw[HG.out,HPO.out,decide_eq_false HZ.out])]),B2.trans (hbX.mono B2.size)⟩
   go_wp2_with fail
   go_ret
   obtain rfl:k=4:=al
   exact⟨m5 (by rw[hR.out,HA.out]),B2.trans (hb.mono B2.size)⟩
 have hR:Hid (A8 c x=false):=by
  unfold Hid;rw[HT.out]
  rcases Classical.not_and_iff_not_or_not.1 hop with h|h
  ·rw[decide_eq_false h];rfl
  rw[decide_eq_false h];simp
 clear HT h1 h2 h3
 have hcase:x.op<1\/(¬x.op<1/\13<x.op):=al
 clear hop
 rcases hcase with hop|⟨hop,hop2⟩
 all_goals
  go_enter Tryz.func80,Tryz.ntmps80
  go_wp2_with fail
  go_ret
  exact⟨m5 hR.out.symm,by go_grown⟩
theorem aM9(v:Value)(c:c8)(w:World)(h:t5 w v c):
  Calls Tryz.prog 34 #[v] w fun e w'=>e=.returned (.bool (j7 c))/\Below w.heap.size w w':=by
 have hrow:=h
 obtain⟨v1,v2,v3,rfl,h1,h2,h3⟩:=h
 have HT:Hid (j7 c=(G2 c.vars c.arrays&&decide (1<=c.list.length)&&decide (c.list.length<=400)&&c.list.all (A8 c)&&ac8 c)):=rfl
 obtain⟨W,hW⟩:∃W,W=w.alloc (.cells #[v1,v2,v3] 26):=⟨_,rfl⟩
 have B0:Below w.heap.size w W:=by rw[hW];go_grown
 have L1:A1 W w.heap.size [v1,v2,v3]:=by rw[hW];exact(A1.new w [v1,v2,v3] _)
 obtain⟨a3,k3,rfl,hk3,hm3,-,hc3⟩:=h3.ins
 go_enter Tryz.func34,Tryz.ntmps34
 go_wp2_with fail
 rw[<-hW]
 clear hW
 refine(a36 _ _ _ _ _ _ _ _ (h1.below B0) (h2.below B0)).mono ?_
 rintro e w1 ⟨rfl,b1⟩
 replace L1:=L1.below b1 L1.lt
 have B1:=B0.trans (b1.mono B0.size)
 go_wp2_with fail
 refine(aw4 _ _ _ c.vars c.arrays _ (h1.below B1) (h2.below B1)).mono ?_
 rintro e w2 ⟨rfl,b2⟩
 replace L1:=L1.below b2 L1.lt
 have B2:=B1.trans (b2.mono B1.size)
 cases hh:G2 c.vars c.arrays
 ·have HH:=show Hid _ from hh
  clear hh hc3
  go_wp2_with fail
  go_ret
  exact⟨m5 (by rw[HT.out,HH.out];rfl),B2⟩
 have HH:=show Hid _ from hh
 clear hh
 by_cases hn:1<=c.list.length/\c.list.length<=400
 ·obtain⟨hn1,hn2⟩:=hn
  have x0:=L1.cell 0
  have x1:=L1.cell 1
  have x2:=L1.cell 2
  simp at x0 x1 x2
  go_wp2_with fail
  go_loopw [4] (fun i wr=>∃k:Nat,k<=c.list.length/\i=.int .i64 k/\(c.list.take k).all (A8 c)=true/\Below w2.heap.size w2 wr) (fun i _=>c.list.length-(intOf i).toNat)
  case atStart=>exact⟨0,al,rfl,rfl,Below.refl _ _⟩
  case round=>
   obtain⟨k,hk,rfl,ha,hb⟩:=hrel
   have HA:=show Hid _ from ha
   clear ha x0 x1 x2
   replace L1:=L1.below hb L1.lt
   have BW:=B2.trans (hb.mono B2.size)
   by_cases hlt:k<c.list.length
   ·obtain⟨b,off,rfl,hb3,i0,i1,i2,i3,i4⟩:=hc3 k hlt
    rw[<-(z6 BW).1 _ _ hb3]at i0 i1 i2 i3 i4
    have x0:=L1.cell 0
    have x1:=L1.cell 1
    have x2:=L1.cell 2
    simp only[cv5,cw0]at x0 x1 x2
    have z0:=fun X=>c7 x0 X
    have z1:=fun X=>c7 x1 X
    have z2:=fun X=>c7 x2 X
    have j0:=fun X=>c7 i0 X
    have j1:=fun X=>c7 i1 X
    have j2:=fun X=>c7 i2 X
    have j3:=fun X=>c7 i3 X
    have j4:=fun X=>c7 i4 X
    have HS:=show Hid _ from X4 (A8 c) c.list k hlt
    clear x0 x1 x2 i0 i1 i2 i3 i4 hc3
    cases hi:A8 c c.list[k]
    all_goals
     have HI:=show Hid _ from hi
     clear hi
     have HC:Hid (∀X,Calls Tryz.prog 80 #[.agg #[v1,v2,.slice (some ⟨b,off,none⟩) c.list.length k3],c.list[k].v] (wr.ext X) fun e w''=>e=.returned (.bool _)/\∃Y,w''=wr.ext Y):=
      fun X=>Calls.ext_of' ((a35 _ c c.list[k] _ ((hrow.below BW).below (i6 _ X))).mono fun e w' h=>by rw[HI.out]at h;exact h)
     go_wp2_with fail
     refine C3 aj aj ?_
     repeat(any_goals (first|go_big_quiet_step ((go_at_call 80;exact HC.out _))|quiet_step ((go_at_call 80;exact HC.out _))))
     refine wpQuiet_nil ?_
     rintro _ ⟨X,rfl⟩
     have hbX:=hb.trans ((i6 wr X).mono hb.size)
     go_wp2_with fail
    ·go_ret
     exact⟨m5 (by rw[HT.out,ax8 hlt HI.out];simp),B2.trans (hbX.mono B2.size)⟩
    exact⟨⟨k+1,al,by go_num,by rw[HS.out,HA.out,HI.out];rfl,hbX⟩,by simp[intOf];omega⟩
   have hl:c.list.length-1<c.list.length:=al
   obtain⟨b,off,rfl,hb3,i0,i1,i2,i3,i4⟩:=hc3 _ hl
   rw[<-(z6 BW).1 _ _ hb3]at i0
   have x2:=L1.cell 2
   simp only[cv5,cw0]at x2
   have ec:((c.list.length:Int)-1)=((c.list.length-1:Nat):Int):=al
   have EC:=show Hid _ from ec
   have HL:Hid (ac8 c=(decide (c.list[c.list.length-1].op=13)||decide (c.list[c.list.length-1].op=8))):=by
    unfold Hid ac8
    rw[List.getLast?_eq_getElem?,cv6 hl]
   clear hc3 ec i1 i2 i3 i4
   have HA':=show Hid (c.list.all (A8 c)=true)from by have:=HA.out;rwa[cw7 al]at this
   have hF:Hid (j7 c=(decide (c.list[c.list.length-1].op=13)||decide (c.list[c.list.length-1].op=8))):=by
    unfold Hid;rw[HT.out,HH.out,HA'.out,HL.out,decide_eq_true hn1,decide_eq_true hn2];rfl
   go_wp2_with fail
   all_goals go_ret
   all_goals exact⟨m5 (by rw[hF.out,cz0];simp_all),BW⟩
 have hF:Hid (j7 c=false):=by
  unfold Hid;rw[HT.out]
  rcases Classical.not_and_iff_not_or_not.1 hn with h|h
  ·rw[decide_eq_false h];simp
  rw[decide_eq_false h];simp
 have hcase:c.list.length<1\/(¬c.list.length<1/\400<c.list.length):=al
 clear hn hc3 HT
 rcases hcase with hn|⟨hn,hn2⟩
 all_goals
  go_wp2_with fail
  go_ret
  exact⟨m5 hF.out.symm,B2⟩
theorem bz0{w:World}{b b' o b2 o2:Nat}{x y z i0 i1 i2 i3 i4 u:Value}(L:A1 w b [x,y,z])(hb':b'<w.heap.size)(h0:w.cell? ⟨b',o,none⟩=some i0)(h1:w.cell? ⟨b',o+1,none⟩=some i1)(h2:w.cell? ⟨b',o+2,none⟩=some i2)(h3:w.cell? ⟨b',o+3,none⟩=some i3)(h4:w.cell? ⟨b',o+4,none⟩=some i4)
  (hb2:b2<w.heap.size) (hu:w.cell? ⟨b2,o2,none⟩=some u):∀W',Below w.heap.size w W'->Below w.heap.size w W'/\(W'.cell? ⟨b,0,none⟩=some x/\W'.cell? ⟨b,1,none⟩=some y/\W'.cell? ⟨b,2,none⟩=some z)/\
  (W'.cell? ⟨b',o,none⟩=some i0/\W'.cell? ⟨b',o+1,none⟩=some i1/\W'.cell? ⟨b',o+2,none⟩=some i2/\W'.cell? ⟨b',o+3,none⟩=some i3/\W'.cell? ⟨b',o+4,none⟩=some i4)/\W'.cell? ⟨b2,o2,none⟩=some u:=by
 intro W' hb
 have e:=(z6 hb).1
 exact⟨hb,bT2 L W' hb,⟨(e _ _ hb').trans h0,(e _ _ hb').trans h1,(e _ _ hb').trans h2,(e _ _ hb').trans h3,(e _ _ hb').trans h4⟩,(e _ _ hb2).trans hu⟩
theorem a31(v:Value)(c:c8)(hc:j7 c=true)(w:World)(h:t5 w v c):
  Calls Tryz.prog 35 #[v] w fun e w'=>∃g m,e=.returned (.slice (some ⟨g,0,none⟩) m.length m.length)/\K2 c m/\E0 w' w.heap.size w'.heap.size g m/\Below w.heap.size w w':=by
 have hrow:=h
 obtain⟨v1,v2,v3,rfl,h1,h2,h3⟩:=h
 obtain⟨a3,k3,rfl,-,hm3,-,hc3⟩:=h3.ins
 obtain⟨W,hW⟩:∃W,W=(w.alloc (.cells #[v1,v2,.slice a3 c.list.length k3] 26)):=⟨_,rfl⟩
 have B0:Below w.heap.size w W:=by rw[hW];go_grown
 have sW:W.heap.size=w.heap.size+1:=by rw[hW];simp
 have L1:A1 W w.heap.size [v1,v2,.slice a3 c.list.length k3]:=by rw[hW];exact(A1.new w [v1,v2,.slice a3 c.list.length k3] _)
 obtain⟨-,hn1,hn2,-,-⟩:=k8 hc
 have hmk:=ac5 (P:=Tryz.prog) (t:=57) Tryz.underlying57 bQ1 rfl al c.list.length al hm3
 have hmk2:∀w,(Instr.makeSlice 63 (.int .i64 14) (.int .i64 14)).run Tryz.prog w=_:=ac5 (P:=Tryz.prog) (t:=63) Tryz.underlying63 aQ2 rfl al 14 al al
 rw[show(Value.slice none 0 0).cells.toList=[Value.slice none 0 0]from rfl,am3]at hmk
 rw[show(Value.bool false).cells.toList=[Value.bool false]from rfl,am3]at hmk2
 obtain⟨f0,⟨u0,p0⟩,hS⟩:=aZ3 W c.list.length hn1 hm3
 rw[sW]at f0 p0 hS
 have x2:=L1.cell 2
 simp at x2
 generalize cx4 14 (Value.bool false)=z14 at*
 generalize cx4 c.list.length (Value.slice none 0 0)=zn at*
 rw[hW]at x2 f0 p0
 go_enter Tryz.func35,Tryz.ntmps35
 go_wp2_with fail
 rw[<-hW]
 rw[World.setCell_alloc_past _ _ _ _ (by simp[sW]),World.setCell_alloc_at _ _ _ _ _ sW.symm]at hS
 clear x2 hmk hmk2 f0 p0 hW
 obtain⟨W2,hW2⟩:∃W2,W2=(W.alloc (.cells (zn.setIfInBounds 0 (.slice (some ⟨w.heap.size+1+1,0,none⟩) 14 14)) 63)).alloc (.cells z14 4):=⟨_,rfl⟩
 rw[<-hW2]at hS ⊢
 have B2:Below w.heap.size w W2:=by rw[hW2];exact B0.trans (Below.mono (by go_grown:Below W.heap.size W _) B0.size)
 have s2:W2.heap.size=w.heap.size+1+1+1:=by rw[hW2];simp[sW]
 replace L1:A1 W2 w.heap.size [v1,v2,.slice a3 c.list.length k3]:=by rw[hW2];exact(L1.alloc _).alloc _
 clear hW2 B0 sW
 have hq:=x8 W2 #[.int .i64 0] 1 1 3 s2.symm rfl al
 rw[s2]at hq
 have bq:Below W2.heap.size W2 (W2.alloc (.cells #[.int .i64 0] 3)):=by go_grown
 have B3:=B2.trans (bq.mono B2.size)
 obtain⟨hS3,hS3b⟩:=hS.next bq
 replace L1:=L1.below bq L1.lt
 have s3:(W2.alloc (.cells #[.int .i64 0] 3)).heap.size=w.heap.size+1+1+1+1:=by simp[s2]
 have hqd:∀b,(Value.slice (some ⟨w.heap.size+1+1+1,0,none⟩) 1 1).ownBlock=some b->¬ab3 (W2.alloc (.cells #[.int .i64 0] 3)) (w.heap.size+1) ((cv3 c.list.length ([]:List Bool)).set 0 (cv3 14 false)) b:=by
  intro b hb hm
  cases hb
  have:=(hS3.blk hm).2.1
  dsimp only at this
  omega
 generalize W2.alloc (.cells #[.int .i64 0] 3)=W3 at*
 clear hS B2 s2 bq hS3b
 have HI:=show Hid _ from hc3
 clear hc3
 obtain⟨G,hG⟩:∃G,G=w.heap.size+1:=⟨_,rfl⟩
 rw[<-hG]at hS3 hqd hq s3 ⊢
 have HG:=show Hid _ from hG
 clear hG
 have hst:=aV7.start hn1
 go_loopw [4,5,6,7,8,9,10,11] (fun q i _ _ _ _ _ _ wr=>∃(m:List (List Bool)) (qs:List Int) (k:Nat) (a:Option Addr) (cq:Nat),i=.int .i64 k/\q=.slice a qs.length cq/\k<=qs.length/\wr.ownsRow (G+1) 3 1 q qs.length (ints qs)/\
   E0 wr G wr.heap.size G m/\(∀b,q.ownBlock=some b->¬ab3 wr G m b)/\aV7 c m qs k/\A1 wr w.heap.size [v1,v2,.slice a3 c.list.length k3]/\Below w.heap.size w wr)
  (fun _ i _ _ _ _ _ _ _=>15*c.list.length+1-(intOf i).toNat)
 case atStart=>exact⟨_,[0],0,_,_,rfl,rfl,an,G4 hq.1 al,hS3.wide (cv7 _) al,hqd,hst,L1,B3⟩
 case round=>
  obtain⟨m,qs,k,a,cq,rfl,rfl,hk,hq,hS,hqd,hi,hL,hb⟩:=hrel
  have hqn:qs.length<=15*c.list.length+1:=by have:=hi.cnt;omega
  have hml:m.length=c.list.length:=hi.low.len
  have HI':=show Hid _ from hi
  have HQD:=show Hid _ from hqd
  clear hi hqd hst hS3 B3 L1
  by_cases hlt:k<qs.length
  ·obtain⟨gq,hgq,p0⟩:∃gq,a=some ⟨gq,0,none⟩/\wr.cell? ⟨gq,k,none⟩=some (.int .i64 qs[k]):=by
    have hoq:A9 wr (G+1) wr.heap.size 3 1 (.slice a qs.length cq) qs.length (ints qs):=A9.mk' hq
    obtain⟨g,cap',hv,-,-,-,-,-,-,hcc⟩:=hoq.open al
    cases hv
    exact⟨g,rfl,hcc k _ (by simp[ints,hlt])⟩
   subst hgq
   have hgqb:gq<wr.heap.size:=World.block_lt_of_cell? wr ⟨gq,k,none⟩ p0
   obtain⟨ht0,ht1,-⟩:=HI'.out.q qs[k] (cx9 hlt)
   obtain⟨x,hx⟩:∃x:Nat,qs[k]=x:=⟨qs[k].toNat,al⟩
   rw[hx]at p0 ht0 ht1
   obtain⟨h14,hxl,hJ⟩:=HI'.out.enter (a:=x) (by rw[cv6 hlt,hx])
   have hxm:x<m.length:=al
   obtain⟨gy,cy,xm,-,-,hgy,-,-,-,-,-,hrr⟩:=hS.at14 hxm h14
   obtain⟨b,off,rfl,hb3,i0,i1,i2,i3,i4⟩:=HI.out x hxl
   have hins:=(k8 hc).2.2.2.1 x hxl
   rw[t3 hxl]at hJ
   rw[<-(z6 hb).1 _ _ hb3]at i0 i1 i2 i3 i4
   have hcx:=bz0 hL (cz7 hb3 hb.size) i0 i1 i2 i3 i4 hS.lt.2.2 xm
   have HCELLS:=show Hid _ from hcx
   have HJ:=show Hid _ from hJ
   have HFL:=show Hid ((s8 c c.list[x] (rowAt m x)).length=14)from by unfold Hid;rw[ad3,h14]
   have hb0:=(Below.refl wr.heap.size wr).drew
   obtain⟨z,hz⟩:∃z,z=c.list[x]:=⟨_,rfl⟩
   rw[<-hz]at i0 i1 i2 i3 i4 HCELLS HJ HFL hins
   clear hcx hJ h14 hx hz
   have hxi:(x:Int)<c.list.length:=al
   go_wp2_with fail
   go_region_held3 (fun W'=>Below wr.heap.size wr W'/\(W'.cell? ⟨w.heap.size,0,none⟩=some v1/\W'.cell? ⟨w.heap.size,1,none⟩=some v2/\W'.cell? ⟨w.heap.size,2,none⟩=some (.slice (some ⟨b,off,none⟩) c.list.length k3))/\
     (W'.cell? ⟨b,off+x*5,none⟩=some (.int .i64 z.op)/\W'.cell? ⟨b,off+x*5+1,none⟩=some (.int .i64 z.a)/\W'.cell? ⟨b,off+x*5+2,none⟩=some (.int .i64 z.b)/\W'.cell? ⟨b,off+x*5+3,none⟩=some (.int .i64 z.c)/\W'.cell? ⟨b,off+x*5+4,none⟩=some (.int .i64 z.d))/\
     W'.cell? ⟨G,x,none⟩=some (.slice (some ⟨gy,0,none⟩) 14 cy))
    (exact HCELLS.out _ ai)
    (first|(go_at_call 65;refine(a32 _ _ c z (rowAt m x) _ (hrow.below (O1 ai hb (cv7 _))) hins (hrr.below ai)).mono ?_;rintro e w7 ⟨u3,rfl,o3,b7⟩;have q7:=O1 b7 hb0 (cv7 _);obtain⟨a9,c9,rfl⟩:=o3.form))
   obtain⟨F,hF⟩:∃F,F=s8 c z (rowAt m x):=⟨_,rfl⟩
   rw[<-hF]at HJ HFL o3
   have hb7:=hb.trans (q7.mono hb.size)
   have hq7:=E7 hq q7 (cv7 _)
   obtain⟨hS7,hS7b⟩:=hS.next q7
   have hL7:=hL.below q7 hL.lt
   have o7:A9 w7 wr.heap.size w7.heap.size 4 1 (.slice a9 14 c9) 14 (bools F):=o3
   have q7s:=q7.size
   have hSlt:=hS.lt.2.2
   have y0:=hL7.cell 0
   have y1:=hL7.cell 1
   have y2:=hL7.cell 2
   simp only[cv5,cw0]at y0 y1 y2
   clear o3 b7 i0 i1 i2 i3 i4 xm p0 hrr hF hL hq
   go_wp2_with fail
   refine(bA9 _ c x _ (hrow.below hb7) al al).mono ?_
   rintro e w8 ⟨u8,rfl,o8,b8⟩
   obtain⟨a10,c10,rfl⟩:=o8.form
   have hb8:=hb7.trans (b8.mono hb7.size)
   have hq8:=E7 hq7 b8 (cv7 _)
   obtain⟨hS8,hS8b⟩:=hS7.next b8
   have hL8:=hL7.below b8 hL7.lt
   have t8:A9 w8 wr.heap.size w8.heap.size 4 1 (.slice a9 14 c9) 14 (bools F):=(o7.keep b8 (cv7 _)).wide (cv7 _) b8.size
   have n8:A9 w8 wr.heap.size w8.heap.size 3 1 (.slice a10 (nx c x).length c10) (nx c x).length (ints (nx c x)):=o8.wide q7s (cv7 _)
   have hsz8:wr.heap.size<=w8.heap.size:=cx8 q7s b8.size
   have hQD8:∀b,(Value.slice (some ⟨gq,0,none⟩) qs.length cq).ownBlock=some b->¬ab3 w8 G m b:=fun b hb hm=>HQD.out b hb (hS7b b (hS8b b hm))
   have hD1:Y4 (Value.slice (some ⟨gq,0,none⟩) qs.length cq) (Value.slice a10 (nx c x).length c10):=by
    intro g hg hg'
    cases hg
    have h1:=(n8.lt _ hg').1
    exact absurd hgqb (Nat.not_lt.2 h1)
   have hD2:Y4 (Value.slice (some ⟨gq,0,none⟩) qs.length cq) (Value.slice a9 14 c9):=by
    intro g hg hg'
    cases hg
    have h1:=(t8.lt _ hg').1
    exact absurd hgqb (Nat.not_lt.2 h1)
   have hnx:∀y∈nx c x,0<=y/\y<c.list.length:=fun y hy=>as2 hc al hy
   obtain⟨ns,hns⟩:∃ns,ns=nx c x:=⟨_,rfl⟩
   rw[<-hns]at hnx n8 HJ hD1 ⊢
   have HNS:=show Hid _ from hns
   have HNX:=show Hid _ from hnx
   have hnl:=n8.row.len
   have hGw:G+1<=wr.heap.size:=hSlt
   have n8':=n8.wide hGw (cv7 _)
   have t8':=t8.wide hGw (cv7 _)
   clear n8 t8 hns hnx o7 o8 b8 q7 HCELLS hS hS7 hS7b hS8b hL7 hq7 hb7 y0 y1 y2 hb0 HQD hb
   go_wp2_with fail
   go_loopw [4,9,10,11] (fun q i _ _ wi=>∃(m':List (List Bool)) (qs':List Int) (j:Nat) (a:Option Addr) (cq:Nat),i=.int .i64 j/\q=.slice a qs'.length cq/\j<=ns.length/\wi.ownsRow (G+1) 3 1 q qs'.length (ints qs')/\
     E0 wi G wi.heap.size G m'/\(∀b,q.ownBlock=some b->¬ab3 wi G m' b)/\aH8 c m' qs' k x F ns j/\k<qs'.length/\
     A9 wi (G+1) w8.heap.size 3 1 (.slice a10 ns.length c10) ns.length (ints ns)/\Y4 q (.slice a10 ns.length c10)/\A9 wi (G+1) w8.heap.size 4 1 (.slice a9 14 c9) 14 (bools F)/\Y4 q (.slice a9 14 c9)/\
     A1 wi w.heap.size [v1,v2,.slice (some ⟨b,off,none⟩) c.list.length k3]/\Below w.heap.size w wi/\w8.heap.size<=wi.heap.size)
    (fun _ i _ _ _=>ns.length-(intOf i).toNat)
   case atStart=>exact⟨m,qs,0,_,_,rfl,rfl,cy4 _,hq8,hS8.wide (cv7 _) hsz8,hQD8,HJ.out,hlt,n8',hD1,t8',hD2,hL8,hb8,cv7 _⟩
   case round=>
    obtain⟨m',qs',j,a',cq',rfl,rfl,hj,hq,hS,hqd,hi,hkq,hn,hd1,ht,hd2,hL,hb,hs8⟩:=hrel
    have hqn':qs'.length<=15*c.list.length+1:=by have:=hi.cnt;omega
    have hml':m'.length=c.list.length:=hi.low.len
    have HI2:=show Hid _ from hi
    have HQD:=show Hid _ from hqd
    have HD1:=show Hid _ from hd1
    have HD2:=show Hid _ from hd2
    clear hi hqd hd1 hd2 hq8 hS8 hQD8 n8' hD1 t8' hD2 hL8 hb8 HJ
    by_cases hjl:j<ns.length
    ·obtain⟨y0,y1⟩:=HNX.out ns[j] (cx9 hjl)
     obtain⟨y,hy⟩:∃y:Nat,ns[j]=y:=⟨ns[j].toNat,al⟩
     obtain⟨gu,hgu,pu⟩:∃gu,a10=some ⟨gu,0,none⟩/\wr.cell? ⟨gu,j,none⟩=some (.int .i64 ns[j]):=by
      obtain⟨g,cap',hv,-,-,-,-,-,-,hcc⟩:=hn.open al
      cases hv
      exact⟨g,rfl,hcc j _ (by simp[ints,hjl])⟩
     subst hgu
     rw[hy]at pu y0 y1
     have hyl:y<c.list.length:=al
     have hyli:(y:Int)<c.list.length:=al
     have hym:y<m'.length:=al
     obtain⟨-,u,hcy,hou,-⟩:=hS.at hym
     have hro:=I7 HI2.out.low.ok y
     obtain⟨au,cu,rfl⟩:=hou.form
     have hgu1:G+1<=gu/\gu<wr.heap.size:=⟨(hn.lt _ rfl).1,(hn.lt _ rfl).2.2⟩
     have HKEEP:=show Hid (R8 F (rowAt m' y)=true->aH8 c m' qs' k x F ns (j+1))from fun g=>HI2.out.keep hjl (by rw[hy];exact g)
     have HPUSH:=show Hid (R8 F (rowAt m' y)=false->aH8 c (m'.set y (R7 (rowAt m' y) F)) (qs'++[(y:Int)]) k x F ns (j+1))from fun g=>HI2.out.push hjl hy hyl hkq g
     have hjl14:=ag8 (t:=F) hro HFL.out
     clear hy
     go_wp2_with fail
     refine(ba6 _ _ (rowAt m' y) F _ hou.row ht.row HFL.out hro).mono ?_
     rintro e w9 ⟨zr,rfl,o9,b9⟩
     obtain⟨az,cz,rfl⟩:=o9.form
     have hq9:=E7 hq b9 (cv7 _)
     obtain⟨hS9,hS9b⟩:=hS.next b9
     have hn9:=hn.keep b9 hs8
     have ht9:=ht.keep b9 hs8
     have hL9:=hL.below b9 hL.lt
     have hb9:=hb.trans (b9.mono hb.size)
     have s9:=b9.size
     have pu9:w9.cell? ⟨gu,j,none⟩=some (.int .i64 y):=((z6 b9).1 _ _ hgu1.2).trans pu
     obtain⟨f9,u9,cy9,-,-⟩:=hS9.at hym
     have py:(w9.setCell ⟨G,y,none⟩ (.slice az 14 cz)).cell? ⟨gu,j,none⟩=some (.int .i64 y):=by
      rw[World.cell?_setCell_other _ _ _ _ (by intro h;cases h;omega)]
      exact pu9
     have hQ9:∀b,(Value.slice a' qs'.length cq').ownBlock=some b->¬ab3 w9 G m' b:=fun b hb hm=>HQD.out b hb (hS9b b hm)
     have hQlt:∀b,(Value.slice a' qs'.length cq').ownBlock=some b->G+1<=b/\b<wr.heap.size:=fun b hb=>hq.lt b hb
     cases hcv:R8 F (rowAt m' y)
     ·have HJ':=show Hid _ from HPUSH.out hcv
      clear hcv HKEEP HPUSH
      have hqx:=((A9.mk' hq9).other (b:=G) al y (.slice az 14 cz)).1
      have hnx':=hn9.other (b:=G) al y (.slice az 14 cz)
      have htx:=ht9.other (b:=G) al y (.slice az 14 cz)
      have hSx:=hS9.setRow hym hjl14 o9 (cv7 _) s9
      have hSxb:∀b,(Value.slice a' qs'.length cq').ownBlock=some b->¬ab3 (w9.setCell ⟨G,y,none⟩ (.slice az 14 cz)) G (m'.set y (R7 (rowAt m' y) F)) b:=by
       intro b hb hm
       rcases hS9.setRow_blk hym _ _ hm with h1|h1
       ·exact hQ9 b hb h1
       have h2:=(o9.lt _ h1).1
       have h3:=(hQlt b hb).2
       omega
      have hLx:=hL9.other (p:=⟨G,y,none⟩) (by show w.heap.size≠G;have:=HG.out;omega) (.slice az 14 cz)
      have hbx:Below w.heap.size w (w9.setCell ⟨G,y,none⟩ (.slice az 14 cz)):=hb9.setCell (p:=⟨G,y,none⟩) (by show w.heap.size<=G;have:=HG.out;omega) _
      have s9x:(w9.setCell ⟨G,y,none⟩ (.slice az 14 cz)).heap.size=w9.heap.size:=an
      go_wp2_with (at_builtin;refine D2 rfl _ _ rfl Tryz.underlying23 aQ1 rfl al rfl (hqx.alloc _) rfl (ax0 _ (.int .i64 y) _ an) (fun u hu=>by simp at hu;subst hu;rfl) al al ah ?_;rintro a4 q4 w4 o4 b4 g4 h4)
      clear py pu pu9 cy9 hcy f9 hL hL9 hn hn9 ht ht9 hq hq9 hS hS9 hS9b hQ9
      generalize w9.setCell ⟨G,y,none⟩ (.slice az 14 cz)=W4 at*
      have ba:Below W4.heap.size W4 (W4.alloc (.cells #[.int .i64 y] 3)):=(Below.refl W4.heap.size W4).alloc (cv7 _) _
      have b5:Below (G+1) W4 w4:=(ba.mono al).trans b4
      obtain⟨hS5,hS5b⟩:=hSx.next ba
      have hQ5:∀b,(Value.slice a' qs'.length cq').ownBlock=some b->¬ab3 (W4.alloc (.cells #[.int .i64 y] 3)) G (m'.set y (R7 (rowAt m' y) F)) b:=fun b hb hm=>hSxb b hb (hS5b b hm)
      obtain⟨hS6,hS6b⟩:=hS5.grown g4 hQ5
      have g4s:=g4.size
      have s5:(W4.alloc (.cells #[.int .i64 y] 3)).heap.size=W4.heap.size+1:=an
      refine⟨⟨_,qs'++[(y:Int)],j+1,a4,q4,by go_num,an,al,by simpa[ints]using o4,hS6.wide (cv7 _) al,?_,HJ'.out,ah,?_,?_,?_,?_,hLx.below b5 (by have:=HG.out;omega),hbx.trans (b5.mono (by have:=HG.out;omega)),al⟩,by simp[intOf];omega⟩
      ·intro b hb hm
       rcases h4 b hb with h1|h1
       ·exact hQ5 b h1 (hS6b b hm)
       have:=(hS5.blk (hS6b b hm)).2.2
       omega
      ·exact A9.grown ⟨hnx'.1.alloc _,hnx'.2⟩ g4 fun g h1 h2=>HD1.out g h2 h1
      ·intro g h1 h2
       rcases h4 g h1 with h1|h1
       ·exact HD1.out g h1 h2
       have:=hnx'.2 g h2
       omega
      ·exact A9.grown ⟨htx.1.alloc _,htx.2⟩ g4 fun g h1 h2=>HD2.out g h2 h1
      intro g h1 h2
      rcases h4 g h1 with h1|h1
      ·exact HD2.out g h1 h2
      have:=htx.2 g h2
      omega
     have HJ':=show Hid _ from HKEEP.out hcv
     clear hcv HKEEP HPUSH
     go_wp2_with fail
     exact⟨⟨m',qs',j+1,_,_,by go_num,rfl,al,hq9,hS9.wide (cv7 _) s9,hQ9,HJ'.out,hkq,hn9,HD1.out,ht9,HD2.out,hL9,hb9,cx8 hs8 s9⟩,by simp[intOf];omega⟩
    have hjn:j=ns.length:=al
    have HW:=show Hid (aV7 c m' qs' (k+1))from by
     have h1:=HI2.out
     rw[HNS.out]at h1
     exact h1.done (by rw[<-HNS.out];omega)
    subst hjn
    go_wp2_with fail
    exact⟨⟨m',qs',k+1,_,_,by go_num,rfl,al,hq,hS,HQD.out,HW.out,hL,hb⟩,by simp[intOf];omega⟩
  have hkn:k=qs.length:=al
  subst hkn
  go_wp2_with fail
  go_ret
  exact⟨G,m,by rw[hml];rfl,HI'.out.done,hS.wide (by have:=HG.out;omega) (cv7 _),hb⟩
end Go.Proofs.YtfbeblgnjeokaaaGreat

namespace Go.Proofs.YtfbeblgnjeokaaaGreat
structure aH7(c:c8)(m:List (List Bool))(p0:Nat)(ch:Bool)(i:Nat):Prop where
 low:Low c m
 cov:ch=false->∀j:Nat,j<i->T4 c m j=true
 le:pot m<=p0
 lt:ch=true->pot m<p0
structure KInv(c:c8)(m:List (List Bool))(p0:Nat)(ch:Bool)(i:Nat)(t:List Bool)(ns:List Int)(j:Nat):Prop where
 low:Low c m
 cov:ch=false->(∀j:Nat,j<i->T4 c m j=true)/\s8 c (t7 c i) (rowAt m i)=t/\∀y∈ns.take j,R8 t (rowAt m y)=true
 le:pot m<=p0
 lt:ch=true->pot m<p0
 bnd:∀p,T1 c p->∀y∈ns,(rowAt p y).length≠0/\rle t (rowAt p y)
 tl:t.length=14
structure az5(c:c8)(m:List (List Bool))(p0:Nat)(ch:Bool)(i:Nat)(t:List Bool)(ns:List Int)(j y q:Nat):Prop extends KInv c m p0 ch i t ns j where
 row:(rowAt m y).length=14
 bits:ch=false->∀k:Nat,k<q->t.getD k false=true->(rowAt m y).getD k false=true
theorem aH7.start{c:c8}{m:List (List Bool)}(h:Low c m):aH7 c m (pot m) false 0:=⟨h,fun _ j hj=>by omega,cv7 _,fun h=>by cases h⟩
theorem aH7.done{c:c8}{m:List (List Bool)}{p0 i:Nat}(h:aH7 c m p0 false i)(hi:m.length<=i):K2 c m:=h.low.least fun j hj=>h.cov rfl j al
theorem aH7.skip{c:c8}{m:List (List Bool)}{p0 i:Nat}{ch:Bool}(h:aH7 c m p0 ch i)(h0:(rowAt m i).length=0):aH7 c m p0 ch (i+1):=by
 refine⟨h.low,fun g j hj=>?_,h.le,h.lt⟩
 rcases cx7 j i with h1|h1
 ·exact h.cov g j h1
 obtain rfl:j=i:=al
 unfold T4
 rw[h0];rfl
theorem aH7.enter{c:c8}{m:List (List Bool)}{p0 i:Nat}{ch:Bool}(h:aH7 c m p0 ch i)(hi:i<m.length)(h14:(rowAt m i).length=14){ns:List Int}(hns:∀y,y∈ns↔y∈nx c i):KInv c m p0 ch i (s8 c (t7 c i) (rowAt m i)) ns 0:=
 ⟨h.low,fun g=>⟨h.cov g,rfl,an⟩,h.le,h.lt,fun p hp y hy=>h.low.after hi h14 p hp y ((hns y).1 hy),by rw[ad3];exact h14⟩
theorem KInv.done{c:c8}{m:List (List Bool)}{p0 i j:Nat}{ch:Bool}{t:List Bool}{ns:List Int}(h:KInv c m p0 ch i t ns j)(hj:ns.length<=j)(hns:∀y,y∈ns↔y∈nx c i):aH7 c m p0 ch (i+1):=by
 refine⟨h.low,fun g k hk=>?_,h.le,h.lt⟩
 obtain⟨g1,g2,g3⟩:=h.cov g
 rcases cx7 k i with h1|h1
 ·exact g1 k h1
 obtain rfl:k=i:=al
 rw[cw7 hj]at g3
 unfold T4
 rw[cz9]
 right
 rw[cw3,g2]
 exact fun y hy=>g3 y ((hns y).2 hy)
theorem KInv.bits{c:c8}{m:List (List Bool)}{p0 i j y:Nat}{ch:Bool}{t:List Bool}{ns:List Int}(h:KInv c m p0 ch i t ns j)(h14:(rowAt m y).length=14):az5 c m p0 ch i t ns j y 0:=
 ⟨h,h14,fun _ k hk=>by omega⟩
theorem KInv.fresh{c:c8}{m:List (List Bool)}{p0 i j y:Nat}{ch:Bool}{t:List Bool}{ns:List Int}(h:KInv c m p0 ch i t ns j)(hj:j<ns.length)(hy:ns[j]=(y:Int))(hym:y<m.length)(h0:(rowAt m y).length=0):
  az5 c (m.set y (cv3 14 false)) p0 true i t ns j y 0:=by
 have hf:∀k:Nat,(cv3 14 false).getD k false=false:=by
  intro k
  simp only[cv8,cz3]
  split<;>rfl
 have hp:=aI5 m y (cv3 14 false) hym
 rw[<-R4 hym]at hp
 have e1:at9 (rowAt m y)=15:=by unfold at9;rw[if_pos h0]
 have e2:at9 (cv3 14 false)=14:=by rfl
 rw[e1,e2]at hp
 have hle:=h.le
 refine⟨⟨?_,(fun g=>by cases g),al,fun _=>by omega,h.bnd,h.tl⟩,?_,(fun g=>by cases g)⟩
 ·refine h.low.set hym an fun p hpp=>⟨(h.bnd p hpp y (by rw[<-hy];exact cx9 hj)).1,fun k hk=>?_⟩
  rw[hf k]at hk
  cases hk
 rw[C7 _ _ hym,if_pos an];simp
theorem az5.keep{c:c8}{m:List (List Bool)}{p0 i j y q:Nat}{ch:Bool}{t:List Bool}{ns:List Int}(h:az5 c m p0 ch i t ns j y q)(hq:t.getD q false=true->(rowAt m y).getD q false=true):az5 c m p0 ch i t ns j y (q+1):=by
 refine⟨h.toKInv,h.row,fun g k hk ht=>?_⟩
 rcases cx7 k q with h1|h1
 ·exact h.bits g k h1 ht
 obtain rfl:k=q:=al
 exact hq ht
theorem az5.put{c:c8}{m:List (List Bool)}{p0 i j y q:Nat}{ch:Bool}{t:List Bool}{ns:List Int}(h:az5 c m p0 ch i t ns j y q)(hj:j<ns.length)(hy:ns[j]=(y:Int))(hym:y<m.length)(hq:q<14)(h1:t.getD q false=true)(h0:(rowAt m y).getD q false=false):
  az5 c (m.set y ((rowAt m y).set q true)) p0 true i t ns j y (q+1):=by
 have hl:=h.row
 have hp:=aI5 m y ((rowAt m y).set q true) hym
 rw[<-R4 hym]at hp
 have hb:(rowAt m y)[q]? =some false:=by
  rw[cv8]at h0
  rw[cv6 al]at h0 ⊢
  simpa using h0
 have e1:at9 (rowAt m y)=(rowAt m y).count false:=by unfold at9;rw[if_neg al]
 have e2:at9 ((rowAt m y).set q true)=((rowAt m y).set q true).count false:=by unfold at9;rw[if_neg (by rw[cy3];omega)]
 have e3:=V6 hb
 rw[e1,e2]at hp
 have hle:=h.le
 refine⟨⟨?_,(fun g=>by cases g),al,fun _=>by omega,h.bnd,h.tl⟩,?_,(fun g=>by cases g)⟩
 ·refine h.low.set hym (by rw[cy3];exact hl) fun p hpp=>?_
  have hb:=h.bnd p hpp y (by rw[<-hy];exact cx9 hj)
  refine⟨hb.1,fun k hk=>?_⟩
  rw[aR1]at hk
  split at hk
  ·rename_i e
   rw[e.1]
   exact hb.2 q h1
  rcases h.low.low p hpp y with h2|h2
  ·omega
  exact h2.2 k hk
 rw[C7 _ _ hym,if_pos an,cy3];exact hl
theorem az5.done{c:c8}{m:List (List Bool)}{p0 i j y q:Nat}{ch:Bool}{t:List Bool}{ns:List Int}(h:az5 c m p0 ch i t ns j y q)(hj:j<ns.length)(hy:ns[j]=(y:Int))(hq:14<=q):KInv c m p0 ch i t ns (j+1):=by
 refine⟨h.low,fun g=>?_,h.le,h.lt,h.bnd,h.tl⟩
 obtain⟨g1,g2,g3⟩:=h.cov g
 refine⟨g1,g2,fun z hz=>?_⟩
 rw[D6 _ _ hj,cx6,cy5]at hz
 rcases hz with hz|hz
 ·exact g3 z hz
 rw[hz,hy,E9]
 refine⟨by have:=h.row;omega,fun k hk=>?_⟩
 rcases cx7 k 14 with h1|h1
 ·exact h.bits g k al hk
 have:=h.tl
 simp[show t.length<=k by omega]at hk
end Go.Proofs.YtfbeblgnjeokaaaGreat

namespace Go.Proofs.YtfbeblgnjeokaaaGreat
open Go Go.RowKit
theorem aQ5(p:d8->Bool)(f:FuncId)(q:Value)(v:Value)(xs:List d8)(w:World)(h:V9 w v xs)(he:∀args w,(callFunc f args).run Tryz.prog w=.ok (.enter f args) w)
  (hf:∀x w',Below w.heap.size w w'->Calls Tryz.prog f #[x.v,q] w' fun e w''=>e=.returned (.bool (p x))/\Below w'.heap.size w' w''):
  Calls Tryz.prog 116 #[v,.func (.func f) #[] #[q]] w fun e w'=>∃r:Int,e=.returned (.int .i64 r)/\decide (0<=r)=xs.any p/\Below w.heap.size w w':=by
 obtain⟨a1,c1,rfl,-,hm1,-,hc1⟩:=h.ins
 have HF:=show Hid _ from hf
 clear h hf
 go_enter Tryz.func116,Tryz.ntmps116
 go_wp2_with fail
 go_loopw [5,8] (fun _ i wr=>∃k:Nat,k<=xs.length/\i=.int .i64 k/\(xs.take k).any p=false/\Below w.heap.size w wr) (fun _ i _=>xs.length-(intOf i).toNat)
 case atStart=>exact⟨0,cy4 _,rfl,rfl,Below.refl _ _⟩
 case round=>
  obtain⟨k,hk,rfl,ha,hb⟩:=hrel
  have HA:=show Hid _ from ha
  clear ha
  by_cases hlt:k<xs.length
  ·obtain⟨b1,o1,rfl,hb1,i0,i1,i2,i3,i4⟩:=hc1 k hlt
   rw[<-(z6 hb).1 _ _ hb1]at i0 i1 i2 i3 i4
   clear hc1
   cases hp:p xs[k]
   all_goals
    have HP:=show Hid _ from hp
    clear hp
    go_wp2_with fail
    refine(HF.out xs[k] _ hb).mono ?_
    rintro e w1 ⟨rfl,hb2⟩
    rw[HP.out]
    go_wp2_with fail
   ·go_roundw
    case rel=>exact⟨k+1,al,by go_num,by rw[n6 _ _ hlt,List.any_append,HA.out];simp[HP.out],hb.trans (hb2.mono hb.size)⟩
    case measure=>simp[intOf];omega
   go_ret
   exact⟨_,rfl,by rw[decide_eq_true al];symm;rw[List.any_eq_true];exact⟨_,cx9 hlt,HP.out⟩,hb.trans (hb2.mono hb.size)⟩
  go_wp2_with fail
  go_ret
  refine⟨_,rfl,?_,hb⟩
  have:=HA.out
  rw[cw7 al]at this
  rw[this];rfl
theorem ay9(p:d8->Bool)(f:FuncId)(q:Value)(v:Value)(xs:List d8)(w:World)(h:V9 w v xs)(he:∀args w,(callFunc f args).run Tryz.prog w=.ok (.enter f args) w)
  (hf:∀x w',Below w.heap.size w w'->Calls Tryz.prog f #[x.v,q] w' fun e w''=>e=.returned (.bool (p x))/\Below w'.heap.size w' w''):
  Calls Tryz.prog 75 #[v,.func (.func f) #[] #[q]] w fun e w'=>e=.returned (.bool (xs.any p))/\Below w.heap.size w w':=by
 obtain⟨a1,c1,rfl,-⟩:=h.open
 have HF:=show Hid _ from hf
 have HE:=show Hid _ from he
 clear hf he
 go_enter Tryz.func75,Tryz.ntmps75
 go_wp2_with fail
 refine(aQ5 p f q _ xs _ h HE.out HF.out).mono ?_
 rintro e w1 ⟨r,rfl,hr,hb⟩
 have HR:=show Hid _ from hr
 clear hr
 go_wp2_with fail
 go_ret
 exact⟨m5 HR.out,hb⟩
theorem bo9(op:Int)(w:World):
  Calls Tryz.prog 117 #[.int .i64 op] w fun e w'=>e=.returned (.string ⟨(Q9 op).toArray⟩)/\Below w.heap.size w w':=by
 by_cases h:1<=op/\op<=13
 ·obtain⟨h1,h2⟩:=h
  have h:op=1\/op=2\/op=3\/op=4\/op=5\/op=6\/op=7\/op=8\/op=9\/op=10\/op=11\/op=12\/op=13:=al
  clear h1 h2
  rcases h with rfl|rfl|rfl|rfl|rfl|rfl|rfl|rfl|rfl|rfl|rfl|rfl|rfl
  all_goals
   go_enter Tryz.func117,Tryz.ntmps117
   go_wp2_with fail
   refine(G7 _ 1 13 _).mono ?_
   rintro e w1 ⟨rfl,rfl⟩
   go_wp2_with fail
   go_ret
   exact⟨by simp[Q9],by go_grown⟩
 have hF:Hid (Q9 op=[]):=aX2 h
 have hb:(decide ((1:Int)<=op)&&decide (op<=13))=false:=by
  rw[Bool.eq_false_iff];simp only[ne_eq,cv4,decide_eq_true_eq];exact h
 have HB:=show Hid _ from hb
 clear h hb
 go_enter Tryz.func117,Tryz.ntmps117
 go_wp2_with fail
 refine(G7 _ 1 13 _).mono ?_
 rintro e w1 ⟨rfl,rfl⟩
 rw[HB.out]
 go_wp2_with fail
 go_ret
 exact⟨by rw[hF.out];rfl,Below.refl _ _⟩
theorem bf2(x:d8)(w:World):
  Calls Tryz.prog 118 #[x.v] w fun e w'=>∃u,e=.returned u/\A9 w' w.heap.size w'.heap.size 3 1 u 4 (ints [x.a,x.b,x.c,x.d])/\Below w.heap.size w w':=by
 obtain⟨x0,x1,x2,x3,x4⟩:=x
 go_enter Tryz.func118,Tryz.ntmps118
 go_wp2_with fail
 go_ret
 refine⟨_,rfl,(x8 _ #[.int .i64 x1,.int .i64 x2,.int .i64 x3,.int .i64 x4] 4 1 _ an rfl al).wide an an,by go_grown⟩
theorem a71(v1 v2 v3:Value)(c:c8)(kd:UInt8)(n:Int)(w:World)(h1:H7 w v1 c.vars.length 1 (ints c.vars))(h2:H7 w v2 c.arrays.length 1 (ints c.arrays))(h3:V9 w v3 c.list):
  Calls Tryz.prog 119 #[.agg #[v1,v2,v3],.int .u8 kd.toNat,.int .i64 n] w fun e w'=>e=.returned (.bool (N7 c kd n))/\Below w.heap.size w w':=by
 obtain⟨a1,k1,rfl,-,q1,-,-⟩:=h1.open1
 obtain⟨a2,k2,rfl,-,q2,-,-⟩:=h2.open1
 obtain⟨a3,k3,rfl,-,q3,-,-⟩:=h3.open
 have hk:kd.toNat<256:=kd.toNat_lt
 have HK:Hid (∀m:UInt8,(kd=m)=((kd.toNat:Int)=(m.toNat:Int))):=fun m=>by
  rw[eq_iff_iff]
  constructor
  ·rintro rfl;rfl
  intro h;exact UInt8.toNat_inj.1 al
 clear h1 h2 h3
 obtain⟨z,hz⟩:∃z,z=kd.toNat:=⟨_,rfl⟩
 rw[<-hz]at hk ⊢
 have HZ:=show Hid _ from hz
 clear hz
 go_enter Tryz.func119,Tryz.ntmps119
 go_wp2_with (go_at_call 74;refine(G7 _ _ _ _).mono ?_;rintro e w1 ⟨rfl,rfl⟩)
 all_goals go_ret
 all_goals refine⟨m5 ?_,by go_grown⟩
 all_goals unfold N7
 all_goals simp only[HK.out, <-HZ.out,show(UInt8.toNat 114)=114 from rfl,show(UInt8.toNat 110)=110 from rfl,show(UInt8.toNat 118)=118 from rfl,show(UInt8.toNat 97)=97 from rfl,show(UInt8.toNat 111)=111 from rfl,show(UInt8.toNat 105)=105 from rfl]
 all_goals clear HK HZ hk q1 q2 q3
 all_goals simp_all
 all_goals (rw[cz0];simp)
theorem a69(v:Value)(c:c8)(x:d8)(w:World)(h:t5 w v c):
  Calls Tryz.prog 77 #[v,x.v] w fun e w'=>e=.returned (.bool (A8 c x))/\Below w.heap.size w w':=by
 obtain⟨v1,v2,v3,rfl,h1,h2,h3⟩:=h
 obtain⟨W,hW⟩:∃W,W=((w.alloc (.cells #[v1,v2,v3] 26)).alloc (.cells #[.int .i64 x.op,.int .i64 x.a,.int .i64 x.b,.int .i64 x.c,.int .i64 x.d] 76)):=⟨_,rfl⟩
 have B0:Below w.heap.size w W:=by rw[hW];go_grown
 have L1:A1 W w.heap.size [v1,v2,v3]:=by rw[hW];exact(A1.new w [v1,v2,v3] _).alloc _
 have L2:A1 W (w.heap.size+1) [.int .i64 x.op,.int .i64 x.a,.int .i64 x.b,.int .i64 x.c,.int .i64 x.d]:=by rw[hW];exact A1.new' (w.alloc _) [.int .i64 x.op,.int .i64 x.a,.int .i64 x.b,.int .i64 x.c,.int .i64 x.d] _ an
 go_enter Tryz.func77,Tryz.ntmps77
 go_wp2_with fail
 rw[<-hW]
 clear hW
 refine(bo9 x.op W).mono ?_
 rintro e w1 ⟨rfl,b1⟩
 replace L1:=L1.below b1 L1.lt
 replace L2:=L2.below b1 L2.lt
 have y0:=L2.cell 0
 have y1:=L2.cell 1
 have y2:=L2.cell 2
 have y3:=L2.cell 3
 have y4:=L2.cell 4
 simp at y0 y1 y2 y3 y4
 go_wp2_with fail
 refine(bf2 x _).mono ?_
 rintro e w2 ⟨u,rfl,o2,b2⟩
 replace L1:=L1.below b2 L1.lt
 have B2:=(B0.trans (b1.mono B0.size)).trans (b2.mono (by have:=B0.size;have:=b1.size;omega))
 obtain⟨g,cap,rfl,-,-,hg,-,-,-,hp⟩:=o2.open al
 clear y0 y1 y2 y3 y4 L2 o2
 by_cases hop:1<=x.op/\x.op<=13
 ·have hR:Hid (A8 c x=aO0 c (Q9 x.op) [x.a,x.b,x.c,x.d] 4):=bo8 c x hop
  have hkl:=bW3 hop
  obtain⟨kinds,hkinds⟩:∃kinds,kinds=Q9 x.op:=⟨_,rfl⟩
  obtain⟨parts,hparts⟩:∃parts,parts=[x.a,x.b,x.c,x.d]:=⟨_,rfl⟩
  rw[<-hkinds]at hkl ⊢
  rw[<-hkinds]at hR
  rw[<-hparts]at hR hp
  have hpl:parts.length=4:=by rw[hparts];rfl
  clear hkinds hparts hop
  have HPL:=show Hid _ from hpl
  clear hpl
  have hne:kinds.isEmpty=false:=by
   rw[List.isEmpty_eq_false_iff];intro h;rw[h]at hkl;simp at hkl
  go_wp2_with fail
  go_loopw [14] (fun i wr=>∃k:Nat,k<=4/\i=.int .i64 k/\aO0 c kinds parts k=true/\Below w2.heap.size w2 wr) (fun i _=>4-(intOf i).toNat)
  case atStart=>exact⟨0,al,rfl,rfl,Below.refl _ _⟩
  case round=>
   obtain⟨k,hk,rfl,ha,hb⟩:=hrel
   have HA:=show Hid _ from ha
   clear ha
   replace L1:=L1.below hb L1.lt
   by_cases hlt:k<4
   ·have x0:=L1.cell 0
    have x1:=L1.cell 1
    have x2:=L1.cell 2
    simp only[cv5,cw0]at x0 x1 x2
    have z0:=fun X=>c7 x0 X
    have z1:=fun X=>c7 x1 X
    have z2:=fun X=>c7 x2 X
    have hpk:k<parts.length:=by rw[HPL.out];exact hlt
    have p0:wr.cell? ⟨g,k,none⟩=some (.int .i64 parts[k]):=by
     rw[(z6 hb).1 _ _ hg];exact hp k _ (by simp[hpk])
    have hkk:k<kinds.length:=by rw[hkl];exact hlt
    have HS:=show Hid _ from aY4 c kinds parts k
    have HG:=show Hid (parts.getD k 0=parts[k])from by simp[Hid,hpk]
    have HKD:=show Hid (kinds.getD k 0=kinds[k])from by simp[Hid,hkk]
    have BW:=B2.trans (hb.mono B2.size)
    clear x0 x1 x2 hp
    cases hr:N7 c kinds[k] parts[k]
    all_goals
     have HR:=show Hid _ from hr
     clear hr
     have HC:Hid (∀X,Calls Tryz.prog 119 #[.agg #[v1,v2,v3],.int .u8 kinds[k].toNat,.int .i64 parts[k]] (wr.ext X) fun e w''=>e=.returned (.bool _)/\∃Y,w''=wr.ext Y):=
      fun X=>Calls.ext_of' ((a71 v1 v2 v3 c kinds[k] parts[k] _ ((h1.below BW).below (i6 _ X)) ((h2.below BW).below (i6 _ X)) ((h3.below BW).below (i6 _ X))).mono fun e w' h=>by rw[HR.out]at h;exact h)
     go_wp2_with fail
     refine C3 aj aj ?_
     repeat(any_goals (first|go_big_quiet_step ((go_at_call 119;exact HC.out _))|quiet_step ((go_at_call 119;exact HC.out _))))
     refine wpQuiet_nil ?_
     rintro _ ⟨X,rfl⟩
     have hbX:=hb.trans ((i6 wr X).mono hb.size)
     go_wp2_with fail
    ·go_ret
     exact⟨m5 (by rw[hR.out,bC1 4 hlt (by rw[HG.out,HKD.out,HR.out])]),B2.trans (hbX.mono B2.size)⟩
    exact⟨⟨k+1,al,by go_num,by rw[HS.out,HA.out,HG.out,HKD.out,HR.out];rfl,hbX⟩,by simp[intOf];omega⟩
   go_wp2_with fail
   go_ret
   obtain rfl:k=4:=al
   exact⟨m5 (by rw[hR.out,HA.out]),B2.trans (hb.mono B2.size)⟩
 have hR:Hid (A8 c x=false):=by
  unfold Hid A8
  rcases Classical.not_and_iff_not_or_not.1 hop with h|h
  ·rw[decide_eq_false h];rfl
  rw[decide_eq_false h];simp
 rw[aX2 hop]
 have p0:=hp 0 (.int .i64 x.a) an
 clear hop hp h1 h2 h3
 go_wp2_with fail
 go_loopw [14] (fun i wr=>i=.int .i64 0/\w2=wr) (fun i _=>0)
 case atStart=>exact⟨rfl,rfl⟩
 case round=>
  obtain⟨rfl,rfl⟩:=hrel
  go_wp2_with fail
  refine C3 aj aj ?_
  repeat(any_goals (first|go_big_quiet_step ((fail))|quiet_step ((fail))))
  refine wpQuiet_nil ?_
  rintro _ ⟨X,rfl⟩
  have hbX:=B2.trans ((i6 w2 X).mono B2.size)
  go_wp2_with fail
  go_ret
  exact⟨m5 hR.out.symm,hbX⟩
theorem aH3(v:Value)(c:c8)(x:d8)(b:Nat)(v1 v2 v3:Value)(w:World)(hv:v=.agg #[v1,v2,v3])(h:t5 w v c)(hb:A1 w b [v1,v2,v3]):
  Calls Tryz.prog 76 #[x.v,.pointer (some ⟨b,0,none⟩)] w fun e w'=>e=.returned (.bool (!A8 c x))/\Below w.heap.size w w':=by
 subst hv
 obtain⟨W,hW⟩:∃W,W=(w.alloc (.cells #[.int .i64 x.op,.int .i64 x.a,.int .i64 x.b,.int .i64 x.c,.int .i64 x.d] 76)):=⟨_,rfl⟩
 have B0:Below w.heap.size w W:=by rw[hW];go_grown
 have L1:A1 W b [v1,v2,v3]:=hb.below B0 hb.lt
 have L2:A1 W w.heap.size [.int .i64 x.op,.int .i64 x.a,.int .i64 x.b,.int .i64 x.c,.int .i64 x.d]:=by rw[hW];exact A1.new w [.int .i64 x.op,.int .i64 x.a,.int .i64 x.b,.int .i64 x.c,.int .i64 x.d] _
 have x0:=L1.cell 0
 have x1:=L1.cell 1
 have x2:=L1.cell 2
 have y0:=L2.cell 0
 have y1:=L2.cell 1
 have y2:=L2.cell 2
 have y3:=L2.cell 3
 have y4:=L2.cell 4
 simp at x0 x1 x2 y0 y1 y2 y3 y4
 rw[hW]at x0 x1 x2 y0 y1 y2 y3 y4
 go_enter Tryz.func76,Tryz.ntmps76
 go_wp2_with fail
 rw[<-hW]
 refine(a69 _ c x _ (h.below B0)).mono ?_
 rintro e w1 ⟨rfl,b1⟩
 clear x0 x1 x2 y0 y1 y2 y3 y4 hW
 go_wp2_with fail
 go_ret
 exact⟨rfl,B0.trans (b1.mono B0.size)⟩
theorem bs3(xs:List d8)(c:c8):(xs.any fun l=> !A8 c l)= !xs.all (A8 c):=by
 induction xs with
 |nil=>rfl
 |cons x r ih=>simp only[List.any_cons,List.all_cons,ih];cases A8 c x<;>simp
theorem an5(v:Value)(c:c8)(w:World)(h:t5 w v c):
  Calls Tryz.prog 31 #[v] w fun e w'=>e=.returned (.bool (j7 c))/\Below w.heap.size w w':=by
 have hrow:=h
 obtain⟨v1,v2,v3,rfl,h1,h2,h3⟩:=h
 have HT:Hid (j7 c=(G2 c.vars c.arrays&&decide (1<=c.list.length)&&decide (c.list.length<=400)&&c.list.all (A8 c)&&ac8 c)):=rfl
 obtain⟨W,hW⟩:∃W,W=w.alloc (.cells #[v1,v2,v3] 26):=⟨_,rfl⟩
 have B0:Below w.heap.size w W:=by rw[hW];go_grown
 have L1:A1 W w.heap.size [v1,v2,v3]:=by rw[hW];exact(A1.new w [v1,v2,v3] _)
 have hmf:∀fn first cap w,(Instr.makeFunc fn first cap).run Tryz.prog w=.ok (.func fn first cap) w:=fun _ _ _ _=>rfl
 obtain⟨a3,k3,rfl,hk3,hm3,-,hc3⟩:=h3.ins
 have x0:=L1.cell 0
 have x1:=L1.cell 1
 have x2:=L1.cell 2
 simp at x0 x1 x2
 rw[hW]at x0 x1 x2
 go_enter Tryz.func31,Tryz.ntmps31
 go_wp2_with fail
 rw[<-hW]at x0 x1 x2 ⊢
 clear hW
 refine(aV0 _ _ c.vars c.arrays _ (h1.below B0) (h2.below B0)).mono ?_
 rintro e w1 ⟨rfl,rfl⟩
 cases hh:G2 c.vars c.arrays
 ·have HH:=show Hid _ from hh
  clear hh hc3
  go_wp2_with fail
  go_ret
  exact⟨m5 (by rw[HT.out,HH.out];rfl),B0⟩
 have HH:=show Hid _ from hh
 clear hh
 go_wp2_with fail
 refine(G7 _ 1 400 _).mono ?_
 rintro e w1 ⟨rfl,rfl⟩
 by_cases hn:(1:Int)<=(c.list.length:Int)/\(c.list.length:Int)<=400
 ·have hn':(decide ((1:Int)<=(c.list.length:Int))&&decide ((c.list.length:Int)<=400))=true:=by simpa using hn
  have HN:=show Hid _ from hn
  rw[hn']
  clear hn hn'
  go_wp2_with fail
  refine(ay9 (fun l=> !A8 c l) 76 _ _ c.list _ (h3.below B0) (aC5 Tryz.func76 aj rfl) (fun x w' hb=>aH3 _ c x _ _ _ _ w' rfl ((hrow.below B0).below hb) (L1.below hb L1.lt))).mono ?_
  rintro e w1 ⟨rfl,b1⟩
  rw[bs3]
  have BW:=B0.trans (b1.mono B0.size)
  replace L1:=L1.below b1 L1.lt
  clear x0 x1 x2
  cases ha:c.list.all (A8 c)
  ·have HA:=show Hid _ from ha
   clear ha hc3
   go_wp2_with fail
   go_ret
   exact⟨m5 (by rw[HT.out,HA.out];simp),BW⟩
  have HA:=show Hid _ from ha
  clear ha
  have hl:c.list.length-1<c.list.length:=by have:=HN.out;omega
  obtain⟨b,off,rfl,hb3,i0,i1,i2,i3,i4⟩:=hc3 _ hl
  rw[<-(z6 BW).1 _ _ hb3]at i0
  have x2:=L1.cell 2
  simp only[cv5,cw0]at x2
  have hn1:1<=c.list.length:=al
  have hn2:c.list.length<=400:=by have:=HN.out;omega
  have HL:Hid (ac8 c=(decide (c.list[c.list.length-1].op=13)||decide (c.list[c.list.length-1].op=8))):=by
   unfold Hid ac8
   rw[List.getLast?_eq_getElem?,cv6 hl]
  clear hc3 i1 i2 i3 i4
  have hF:Hid (j7 c=(decide (c.list[c.list.length-1].op=13)||decide (c.list[c.list.length-1].op=8))):=by
   unfold Hid;rw[HT.out,HH.out,HA.out,HL.out,decide_eq_true hn1,decide_eq_true hn2];rfl
  go_wp2_with fail
  all_goals go_ret
  all_goals exact⟨m5 (by rw[hF.out,cz0];simp_all),BW⟩
 have hn':(decide ((1:Int)<=(c.list.length:Int))&&decide ((c.list.length:Int)<=400))=false:=by
  rw[Bool.eq_false_iff];simp only[ne_eq,cv4,decide_eq_true_eq];exact hn
 have hF:Hid (j7 c=false):=by
  unfold Hid;rw[HT.out]
  rcases Classical.not_and_iff_not_or_not.1 hn with h|h
  ·rw[decide_eq_false (show ¬1<=c.list.length by omega)];simp
  rw[decide_eq_false (show ¬c.list.length<=400 by omega)];simp
 rw[hn']
 clear hn hn' hc3
 go_wp2_with fail
 go_ret
 exact⟨m5 hF.out.symm,B0⟩
theorem aH0(v:Value)(c:c8)(hc:j7 c=true)(w:World)(h:t5 w v c):
  Calls Tryz.prog 33 #[v] w fun e w'=>∃g m,e=.returned (.slice (some ⟨g,0,none⟩) m.length m.length)/\K2 c m/\E0 w' w.heap.size w'.heap.size g m/\Below w.heap.size w w':=by
 have hrow:=h
 obtain⟨v1,v2,v3,rfl,h1,h2,h3⟩:=h
 obtain⟨a3,k3,rfl,-,hm3,-,hc3⟩:=h3.ins
 obtain⟨W,hW⟩:∃W,W=(w.alloc (.cells #[v1,v2,.slice a3 c.list.length k3] 26)):=⟨_,rfl⟩
 have B0:Below w.heap.size w W:=by rw[hW];go_grown
 have sW:W.heap.size=w.heap.size+1:=by rw[hW];simp
 have L1:A1 W w.heap.size [v1,v2,.slice a3 c.list.length k3]:=by rw[hW];exact(A1.new w [v1,v2,.slice a3 c.list.length k3] _)
 obtain⟨-,hn1,hn2,-,-⟩:=k8 hc
 have hmk:=ac5 (P:=Tryz.prog) (t:=57) Tryz.underlying57 bQ1 rfl al c.list.length al hm3
 have hmk2:∀w,(Instr.makeSlice 63 (.int .i64 14) (.int .i64 14)).run Tryz.prog w=_:=ac5 (P:=Tryz.prog) (t:=63) Tryz.underlying63 aQ2 rfl al 14 al al
 rw[show(Value.slice none 0 0).cells.toList=[Value.slice none 0 0]from rfl,am3]at hmk
 rw[show(Value.bool false).cells.toList=[Value.bool false]from rfl,am3]at hmk2
 obtain⟨f0,⟨u0,p0⟩,hS⟩:=aZ3 W c.list.length hn1 hm3
 rw[sW]at f0 p0 hS
 have hfr:= @bD4
 have x2:=L1.cell 2
 simp at x2
 generalize cx4 14 (Value.bool false)=z14 at*
 generalize cx4 c.list.length (Value.slice none 0 0)=zn at*
 have HFR:=show Hid _ from @hfr
 clear hfr
 rw[hW]at x2 f0 p0
 go_enter Tryz.func33,Tryz.ntmps33
 go_wp2_with fail
 rw[<-hW]
 rw[World.setCell_alloc_past _ _ _ _ (by simp[sW]),World.setCell_alloc_at _ _ _ _ _ sW.symm]at hS
 clear x2 hmk f0 p0 hW
 obtain⟨W2,hW2⟩:∃W2,W2=(W.alloc (.cells (zn.setIfInBounds 0 (.slice (some ⟨w.heap.size+1+1,0,none⟩) 14 14)) 63)).alloc (.cells z14 4):=⟨_,rfl⟩
 rw[<-hW2]at hS ⊢
 have B2:Below w.heap.size w W2:=by rw[hW2];exact B0.trans (Below.mono (by go_grown:Below W.heap.size W _) B0.size)
 have s2:W2.heap.size=w.heap.size+1+1+1:=by rw[hW2];simp[sW]
 replace L1:A1 W2 w.heap.size [v1,v2,.slice a3 c.list.length k3]:=by rw[hW2];exact(L1.alloc _).alloc _
 clear hW2 B0 sW
 have HI:=show Hid _ from hc3
 clear hc3
 obtain⟨G,hG⟩:∃G,G=w.heap.size+1:=⟨_,rfl⟩
 rw[<-hG]at hS s2 ⊢
 have HG:=show Hid _ from hG
 clear hG
 have hst:=Low.start hn1
 go_loopw [4,5,6,7,9,10,11] (fun ch _ _ _ _ _ _ wr=>∃(m:List (List Bool)) (f:Bool),ch=.bool f/\E0 wr G wr.heap.size G m/\Low c m/\(f=false->K2 c m)/\A1 wr w.heap.size [v1,v2,.slice a3 c.list.length k3]/\Below w.heap.size w wr)
  (fun ch _ _ _ _ _ _ wr=>2*aF1 wr (.slice (some ⟨G,0,none⟩) c.list.length c.list.length)+(match ch with|.bool true=>1|_=>0))
 case atStart=>exact⟨_,true,rfl,hS.wide (cv7 _) al,hst,(fun h=>by cases h),L1,B2⟩
 case round=>
  obtain⟨m,f,rfl,hS,hlow,hf,hL,hb⟩:=hrel
  clear hst B2 L1
  have hml:m.length=c.list.length:=hlow.len
  cases f
  ·have HL:=show Hid _ from hf rfl
   clear hf
   go_wp2_with fail
   go_ret
   exact⟨G,m,by rw[hml];rfl,HL.out,hS.wide (by have:=HG.out;omega) (cv7 _),hb⟩
  clear hf
  have hpot:Hid (aF1 wr (.slice (some ⟨G,0,none⟩) c.list.length c.list.length)=pot m):=by have:=hS.pot;rw[hml]at this;exact this
  obtain⟨P0,hP0⟩:∃n,n=pot m:=⟨_,rfl⟩
  have hps:=aH7.start hlow
  rw[<-hP0]at hps hpot
  clear hP0 hlow
  go_wp2_with fail
  go_loopw [4,5,6,7,9,10,11,22] (fun ch _ _ _ _ _ _ i wr=>∃(m:List (List Bool)) (f:Bool) (k:Nat),ch=.bool f/\i=.int .i64 k/\k<=c.list.length/\E0 wr G wr.heap.size G m/\aH7 c m P0 f k/\A1 wr w.heap.size [v1,v2,.slice a3 c.list.length k3]/\Below w.heap.size w wr)
   (fun _ _ _ _ _ _ _ i _=>c.list.length-(intOf i).toNat)
  case atStart=>exact⟨m,false,0,rfl,rfl,cy4 _,hS,hps,hL,hb⟩
  case round=>
   obtain⟨m,f,k,rfl,rfl,hk,hS,hi,hL,hb⟩:=hrel
   have hml:m.length=c.list.length:=hi.low.len
   have HI':=show Hid _ from hi
   clear hi hps
   by_cases hlt:k<c.list.length
   ·have hkm:k<m.length:=al
    have hro:=I7 HI'.out.low.ok k
    by_cases h0:(rowAt m k).length=0
    ·have xm:=hS.2 k hkm h0
     have hnil:=fun w=>Lib.run_eql_slice_nil (P:=Tryz.prog) w 63 4 none 0 0 0 0 Tryz.underlying63
     simp only[Option.isNone_none]at hnil
     have HN:=show Hid _ from HI'.out.skip h0
     clear h0 hro
     go_wp2_with fail
     exact⟨⟨m,f,k+1,rfl,by go_num,al,hS,HN.out,hL,hb⟩,by simp[intOf];omega⟩
    have h14:(rowAt m k).length=14:=al
    obtain⟨gy,cy,xm,-,-,hgy,-,-,-,-,-,hrr⟩:=hS.at14 hkm h14
    have hnil:=fun w=>Lib.run_eql_slice_nil (P:=Tryz.prog) w 63 4 (some ⟨gy,0,none⟩) 14 cy 0 0 Tryz.underlying63
    simp only[Option.isNone_some]at hnil
    obtain⟨b,off,rfl,hb3,i0,i1,i2,i3,i4⟩:=HI.out k hlt
    have hins:=(k8 hc).2.2.2.1 k hlt
    rw[<-(z6 hb).1 _ _ hb3]at i0 i1 i2 i3 i4
    have hcx:=bz0 hL (cz7 hb3 hb.size) i0 i1 i2 i3 i4 hS.lt.2.2 xm
    have HCELLS:=show Hid _ from hcx
    have HENT:=show Hid (∀ns:List Int,(∀y,y∈ns↔y∈nx c k)->KInv c m P0 f k (s8 c c.list[k] (rowAt m k)) ns 0)from by
     intro ns hns
     have:=HI'.out.enter hkm h14 hns
     rw[t3 hlt]at this
     exact this
    have HFL:=show Hid ((s8 c c.list[k] (rowAt m k)).length=14)from by unfold Hid;rw[ad3,h14]
    have hb0:=(Below.refl wr.heap.size wr).drew
    obtain⟨z,hz⟩:∃z,z=c.list[k]:=⟨_,rfl⟩
    rw[<-hz]at i0 i1 i2 i3 i4 HCELLS HENT HFL hins
    clear hcx h14 h0 hro hz
    have hki:(k:Int)<c.list.length:=al
    go_wp2_with fail
    go_region_held3 (fun W'=>Below wr.heap.size wr W'/\(W'.cell? ⟨w.heap.size,0,none⟩=some v1/\W'.cell? ⟨w.heap.size,1,none⟩=some v2/\W'.cell? ⟨w.heap.size,2,none⟩=some (.slice (some ⟨b,off,none⟩) c.list.length k3))/\
      (W'.cell? ⟨b,off+k*5,none⟩=some (.int .i64 z.op)/\W'.cell? ⟨b,off+k*5+1,none⟩=some (.int .i64 z.a)/\W'.cell? ⟨b,off+k*5+2,none⟩=some (.int .i64 z.b)/\W'.cell? ⟨b,off+k*5+3,none⟩=some (.int .i64 z.c)/\W'.cell? ⟨b,off+k*5+4,none⟩=some (.int .i64 z.d))/\
      W'.cell? ⟨G,k,none⟩=some (.slice (some ⟨gy,0,none⟩) 14 cy))
     (exact HCELLS.out _ ai)
     (first|(go_at_call 62;refine(aG9 _ _ c z (rowAt m k) _ (hrow.below (O1 ai hb (cv7 _))) hins (hrr.below ai)).mono ?_;rintro e w7 ⟨u3,rfl,o3,b7⟩;have q7:=O1 b7 hb0 (cv7 _);obtain⟨a9,c9,rfl⟩:=o3.form))
    obtain⟨F,hF⟩:∃F,F=s8 c z (rowAt m k):=⟨_,rfl⟩
    rw[<-hF]at HENT HFL o3
    have hb7:=hb.trans (q7.mono hb.size)
    obtain⟨hS7,hS7b⟩:=hS.next q7
    have hL7:=hL.below q7 hL.lt
    have o7:A9 w7 wr.heap.size w7.heap.size 4 1 (.slice a9 14 c9) 14 (bools F):=o3
    have hA7:H8 w7 G m (.slice a9 14 c9):=fun b e hm=>by have h1:=(o7.lt b e).1;have h2:=(hS.blk (hS7b b hm)).2.2;omega
    have q7s:=q7.size
    have y0:=hL7.cell 0
    have y1:=hL7.cell 1
    have y2:=hL7.cell 2
    simp only[cv5,cw0]at y0 y1 y2
    clear o3 b7 i0 i1 i2 i3 i4 xm hrr hF hL hnil
    go_wp2_with fail
    refine(aC3 _ c hc k _ (hrow.below hb7) al al).mono ?_
    rintro e w8 ⟨u8,ns,rfl,hnl,hnm,o8,b8⟩
    obtain⟨a10,c10,rfl⟩:=o8.form
    have hb8:=hb7.trans (b8.mono hb7.size)
    obtain⟨hS8,hS8b⟩:=hS7.next b8
    have hL8:=hL7.below b8 hL7.lt
    have t8:A9 w8 w.heap.size w8.heap.size 4 1 (.slice a9 14 c9) 14 (bools F):=(o7.keep b8 (cv7 _)).wide hb.size b8.size
    have hA8:=hA7.next hS7 b8
    have n8:A9 w8 w.heap.size w8.heap.size 3 1 (.slice a10 ns.length c10) ns.length (ints ns):=o8.wide hb7.size (cv7 _)
    have hN8:H8 w8 G m (.slice a10 ns.length c10):=fun b e hm=>by have h1:=(o8.lt b e).1;have h2:=(hS7.blk (hS8b b hm)).2.2;omega
    have hsz8:wr.heap.size<=w8.heap.size:=cx8 q7s b8.size
    have hnx:∀y∈ns,0<=y/\y<c.list.length:=fun y hy=>as2 hc al ((hnm y).1 hy)
    have HNX:=show Hid _ from hnx
    have HNM:=show Hid _ from hnm
    have HKI:=show Hid _ from HENT.out ns hnm
    clear hnx hnm o7 o8 b8 q7 HCELLS hS hS7 hS7b hS8b hL7 hb7 y0 y1 y2 hb0 hb hA7 HENT HI'
    go_wp2_with fail
    go_loopw [4,9,10,11,41] (fun ch _ _ _ i wr=>∃(m:List (List Bool)) (f:Bool) (j:Nat),ch=.bool f/\i=.int .i64 j/\j<=ns.length/\E0 wr G wr.heap.size G m/\KInv c m P0 f k F ns j/\
      A9 wr w.heap.size w8.heap.size 4 1 (.slice a9 14 c9) 14 (bools F)/\H8 wr G m (.slice a9 14 c9)/\A9 wr w.heap.size w8.heap.size 3 1 (.slice a10 ns.length c10) ns.length (ints ns)/\H8 wr G m (.slice a10 ns.length c10)/\
      A1 wr w.heap.size [v1,v2,.slice (some ⟨b,off,none⟩) c.list.length k3]/\Below w.heap.size w wr/\w8.heap.size<=wr.heap.size)
     (fun _ _ _ _ i _=>ns.length-(intOf i).toNat)
    case atStart=>exact⟨m,f,0,rfl,rfl,cy4 _,hS8.wide (cv7 _) hsz8,HKI.out,t8,hA8,n8,hN8,hL8,hb8,cv7 _⟩
    case round=>
     obtain⟨m,f,j,rfl,rfl,hj,hS,hi,ht,hA,hn,hN,hL,hb,hs8⟩:=hrel
     have hml:m.length=c.list.length:=hi.low.len
     have HKI2:=show Hid _ from hi
     have HA:=show Hid _ from hA
     have HN:=show Hid _ from hN
     clear hi hA hN hS8 t8 hA8 n8 hN8 hL8 hb8 HKI
     by_cases hjl:j<ns.length
     ·obtain⟨y0,y1⟩:=HNX.out ns[j] (cx9 hjl)
      obtain⟨y,hy⟩:∃y:Nat,ns[j]=y:=⟨ns[j].toNat,al⟩
      obtain⟨gu,hgu,pu⟩:∃gu,a10=some ⟨gu,0,none⟩/\wr.cell? ⟨gu,j,none⟩=some (.int .i64 ns[j]):=by
       obtain⟨g,cap',hv,-,-,-,-,-,-,hcc⟩:=hn.open al
       cases hv
       exact⟨g,rfl,hcc j _ (by simp[ints,hjl])⟩
      subst hgu
      rw[hy]at pu y0 y1
      have HY:=show Hid _ from hy
      have hyl:y<c.list.length:=al
      have hyli:(y:Int)<c.list.length:=al
      have hym:y<m.length:=al
      have hro:=I7 HKI2.out.low.ok y
      clear hy
      have hstep:∀(W9:World) (m9:List (List Bool)) (f9:Bool),E0 W9 G W9.heap.size G m9->az5 c m9 P0 f9 k F ns j y 0->A9 W9 w.heap.size w8.heap.size 4 1 (.slice a9 14 c9) 14 (bools F)->H8 W9 G m9 (.slice a9 14 c9)->
        A9 W9 w.heap.size w8.heap.size 3 1 (.slice (some ⟨gu,0,none⟩) ns.length c10) ns.length (ints ns)->H8 W9 G m9 (.slice (some ⟨gu,0,none⟩) ns.length c10)->A1 W9 w.heap.size [v1,v2,.slice (some ⟨b,off,none⟩) c.list.length k3]->Below w.heap.size w W9->w8.heap.size<=W9.heap.size->
        ∃(q:Nat),q=0/\q<=14/\E0 W9 G W9.heap.size G m9/\az5 c m9 P0 f9 k F ns j y q/\A9 W9 w.heap.size w8.heap.size 4 1 (.slice a9 14 c9) 14 (bools F)/\H8 W9 G m9 (.slice a9 14 c9)/\
        A9 W9 w.heap.size w8.heap.size 3 1 (.slice (some ⟨gu,0,none⟩) ns.length c10) ns.length (ints ns)/\H8 W9 G m9 (.slice (some ⟨gu,0,none⟩) ns.length c10)/\A1 W9 w.heap.size [v1,v2,.slice (some ⟨b,off,none⟩) c.list.length k3]/\Below w.heap.size w W9/\w8.heap.size<=W9.heap.size:=
       fun W9 m9 f9 e1 e2 e3 e4 e5 e6 e7 e8 e9=>⟨0,rfl,cy4 _,e1,e2,e3,e4,e5,e6,e7,e8,e9⟩
      by_cases h0:(rowAt m y).length=0
      case pos=>
       have xm:=hS.2 y hym h0
       have hnil:=fun w=>Lib.run_eql_slice_nil (P:=Tryz.prog) w 63 4 none 0 0 0 0 Tryz.underlying63
       simp only[Option.isNone_none]at hnil
       obtain⟨g1,⟨u9,g2⟩,g3,g4⟩:=HFR.out hS hym
       have hlt:=hS.lt
       have e5:=g4 _ HA.out fun b e=>(ht.lt b e).2.2
       have e6:=g4 _ HN.out fun b e=>(hn.lt b e).2.2
       have e3:A9 ((wr.setCell ⟨G,y,none⟩ (.slice (some ⟨wr.heap.size,0,none⟩) 14 14)).alloc (.cells z14 4)) w.heap.size w8.heap.size 4 1 (.slice a9 14 c9) 14 (bools F):=(ab6 ht HA.out (.inl rfl)).keep (by go_grown:Below wr.heap.size _ _) hs8
       have e4:A9 ((wr.setCell ⟨G,y,none⟩ (.slice (some ⟨wr.heap.size,0,none⟩) 14 14)).alloc (.cells z14 4)) w.heap.size w8.heap.size 3 1 (.slice (some ⟨gu,0,none⟩) ns.length c10) ns.length (ints ns):=(ab6 hn HN.out (.inl rfl)).keep (by go_grown:Below wr.heap.size _ _) hs8
       have e7:A1 ((wr.setCell ⟨G,y,none⟩ (.slice (some ⟨wr.heap.size,0,none⟩) 14 14)).alloc (.cells z14 4)) w.heap.size [v1,v2,.slice (some ⟨b,off,none⟩) c.list.length k3]:=(hL.other (p:=⟨G,y,none⟩) (by show w.heap.size≠G;have:=HG.out;omega) _).alloc _
       have e8:Below w.heap.size w ((wr.setCell ⟨G,y,none⟩ (.slice (some ⟨wr.heap.size,0,none⟩) 14 14)).alloc (.cells z14 4)):=(hb.setCell (p:=⟨G,y,none⟩) (by show w.heap.size<=G;have:=HG.out;omega) _).alloc (by have:=hb.size;simpa using this) _
       have e9:((wr.setCell ⟨G,y,none⟩ (.slice (some ⟨wr.heap.size,0,none⟩) 14 14)).alloc (.cells z14 4)).heap.size=wr.heap.size+1:=an
       have HFRESH:=show Hid _ from HKI2.out.fresh hjl HY.out hym h0
       clear hro h0
       go_wp2_with fail
       obtain⟨W9,hW9⟩:∃W9,W9=((wr.setCell ⟨G,y,none⟩ (.slice (some ⟨wr.heap.size,0,none⟩) 14 14)).alloc (.cells z14 4)):=⟨_,rfl⟩
       rw[<-hW9]at g3 e3 e4 e5 e6 e7 e8 e9 ⊢
       have hgo:=hstep W9 _ true (g3.wide (cv7 _) al) HFRESH.out e3 e5 e4 e6 e7 e8 al
       clear hW9 g3 e3 e4 e5 e6 e7 e8 g1 g2 g4 xm hnil hS ht hn hL hb HKI2 HA HN hstep HFRESH
       obtain⟨q0,hq0,hq1,hS,hi,ht,hA,hn,hN,hL,hb,hs9⟩:=hgo
       generalize m.set y (cv3 14 false)=m at*
       go_loopw [4,10,11,56] (fun ch _ _ i wr=>∃(m:List (List Bool)) (f:Bool) (q:Nat),ch=.bool f/\i=.int .i64 q/\q<=14/\E0 wr G wr.heap.size G m/\az5 c m P0 f k F ns j y q/\A9 wr w.heap.size w8.heap.size 4 1 (.slice a9 14 c9) 14 (bools F)/\H8 wr G m (.slice a9 14 c9)/\
         A9 wr w.heap.size w8.heap.size 3 1 (.slice (some ⟨gu,0,none⟩) ns.length c10) ns.length (ints ns)/\H8 wr G m (.slice (some ⟨gu,0,none⟩) ns.length c10)/\A1 wr w.heap.size [v1,v2,.slice (some ⟨b,off,none⟩) c.list.length k3]/\Below w.heap.size w wr/\w8.heap.size<=wr.heap.size)
        (fun _ _ _ i _=>14-(intOf i).toNat)
       case atStart=>exact⟨m,_,0,rfl,rfl,cy4 _,hS,by rw[hq0]at hi;exact hi,ht,hA,hn,hN,hL,hb,hs9⟩
       case round=>
        clear hS hi ht hA hn hN hL hb hs9 hq0 hq1
        obtain⟨m,f,q,rfl,rfl,hq,hS,hi,ht,hA,hn,hN,hL,hb,hs8⟩:=hrel
        have hml:m.length=c.list.length:=hi.low.len
        have hym:y<m.length:=al
        have HBI:=show Hid _ from hi
        have HA:=show Hid _ from hA
        have HN:=show Hid _ from hN
        clear hi hA hN
        by_cases hql:q<14
        ·obtain⟨gt,ct,hv,-,-,-,-,-,-,gc⟩:=ht.open al
         cases hv
         have hft:F.length=14:=HBI.out.tl
         have xt:=gc q _ (x5 _ q al)
         have hfe:F[q]'al=F.getD q false:=by simp[show q<F.length by omega]
         rw[hfe]at xt
         obtain⟨gy,cy,xm,gy1,-,gy3,gy4,-,-,gyf,gyx,-⟩:=hS.at14 hym HBI.out.row
         have xb:=gyx q hql
         have xf:=gyf q
         have hqi:(q:Int)<14:=al
         have hb14:=show Hid (ab3 wr G m gy)from .inr ⟨y,_,hym,xm,rfl⟩
         have HPUT:=show Hid _ from fun h1 h0=>HBI.out.put hjl HY.out hym hql h1 h0
         have HKEEP:=show Hid _ from HBI.out.keep (q:=q)
         clear gc hfe gyf gyx hft
         cases htq:F.getD q false
         ·have HK:=show Hid _ from HKEEP.out (by rw[htq];intro h;cases h)
          rw[htq]at xt
          clear htq
          go_wp2_with fail
          exact⟨⟨m,f,q+1,rfl,by go_num,al,hS,HK.out,ht,HA.out,hn,HN.out,hL,hb,hs8⟩,by simp[intOf];omega⟩
         cases hrq:(rowAt m y).getD q false
         ·have HP:=show Hid _ from HPUT.out htq hrq
          rw[htq]at xt
          rw[hrq]at xb
          clear htq hrq
          go_wp2_with fail
          exact⟨⟨_,true,q+1,rfl,by go_num,al,(hS.setBit hym xm HBI.out.row hql true).wide (cv7 _) an,HP.out,ab6 ht HA.out hb14.out,H8.setBit HA.out gy4,ab6 hn HN.out hb14.out,H8.setBit HN.out gy4,
           hL.other (p:=⟨gy,q,none⟩) (by show w.heap.size≠gy;have:=HG.out;omega) _,hb.setCell (p:=⟨gy,q,none⟩) (by show w.heap.size<=gy;have:=HG.out;omega) _,by simpa using hs8⟩,by simp[intOf];omega⟩
         have HK:=show Hid _ from HKEEP.out (fun _=>hrq)
         rw[htq]at xt
         rw[hrq]at xb
         clear htq hrq
         go_wp2_with fail
         exact⟨⟨m,f,q+1,rfl,by go_num,al,hS,HK.out,ht,HA.out,hn,HN.out,hL,hb,hs8⟩,by simp[intOf];omega⟩
        have hqn:q=14:=al
        subst hqn
        have HD:=show Hid _ from HBI.out.done hjl HY.out (cv7 _)
        go_wp2_with fail
        exact⟨⟨m,f,j+1,rfl,by go_num,al,hS,HD.out,ht,HA.out,hn,HN.out,hL,hb,hs8⟩,by simp[intOf];omega⟩
      case neg=>
       have h14:(rowAt m y).length=14:=al
       obtain⟨gy,cy,xm,-⟩:=hS.at14 hym h14
       have hnil:=fun w=>Lib.run_eql_slice_nil (P:=Tryz.prog) w 63 4 (some ⟨gy,0,none⟩) 14 cy 0 0 Tryz.underlying63
       simp only[Option.isNone_some]at hnil
       have hgo:=hstep wr m f hS (HKI2.out.bits h14) ht HA.out hn HN.out hL hb hs8
       clear hro h0 h14 hS ht hn hL hb HKI2 HA HN hstep
       go_wp2_with fail
       clear xm hnil
       obtain⟨q0,hq0,hq1,hS,hi,ht,hA,hn,hN,hL,hb,hs9⟩:=hgo
       go_loopw [4,10,11,56] (fun ch _ _ i wr=>∃(m:List (List Bool)) (f:Bool) (q:Nat),ch=.bool f/\i=.int .i64 q/\q<=14/\E0 wr G wr.heap.size G m/\az5 c m P0 f k F ns j y q/\A9 wr w.heap.size w8.heap.size 4 1 (.slice a9 14 c9) 14 (bools F)/\H8 wr G m (.slice a9 14 c9)/\
         A9 wr w.heap.size w8.heap.size 3 1 (.slice (some ⟨gu,0,none⟩) ns.length c10) ns.length (ints ns)/\H8 wr G m (.slice (some ⟨gu,0,none⟩) ns.length c10)/\A1 wr w.heap.size [v1,v2,.slice (some ⟨b,off,none⟩) c.list.length k3]/\Below w.heap.size w wr/\w8.heap.size<=wr.heap.size)
        (fun _ _ _ i _=>14-(intOf i).toNat)
       case atStart=>exact⟨m,_,0,rfl,rfl,cy4 _,hS,by rw[hq0]at hi;exact hi,ht,hA,hn,hN,hL,hb,hs9⟩
       case round=>
        clear hS hi ht hA hn hN hL hb hs9 hq0 hq1
        obtain⟨m,f,q,rfl,rfl,hq,hS,hi,ht,hA,hn,hN,hL,hb,hs8⟩:=hrel
        have hml:m.length=c.list.length:=hi.low.len
        have hym:y<m.length:=al
        have HBI:=show Hid _ from hi
        have HA:=show Hid _ from hA
        have HN:=show Hid _ from hN
        clear hi hA hN
        by_cases hql:q<14
        ·obtain⟨gt,ct,hv,-,-,-,-,-,-,gc⟩:=ht.open al
         cases hv
         have hft:F.length=14:=HBI.out.tl
         have xt:=gc q _ (x5 _ q al)
         have hfe:F[q]'al=F.getD q false:=by simp[show q<F.length by omega]
         rw[hfe]at xt
         obtain⟨gy,cy,xm,gy1,-,gy3,gy4,-,-,gyf,gyx,-⟩:=hS.at14 hym HBI.out.row
         have xb:=gyx q hql
         have xf:=gyf q
         have hqi:(q:Int)<14:=al
         have hb14:=show Hid (ab3 wr G m gy)from .inr ⟨y,_,hym,xm,rfl⟩
         have HPUT:=show Hid _ from fun h1 h0=>HBI.out.put hjl HY.out hym hql h1 h0
         have HKEEP:=show Hid _ from HBI.out.keep (q:=q)
         clear gc hfe gyf gyx hft
         cases htq:F.getD q false
         ·have HK:=show Hid _ from HKEEP.out (by rw[htq];intro h;cases h)
          rw[htq]at xt
          clear htq
          go_wp2_with fail
          exact⟨⟨m,f,q+1,rfl,by go_num,al,hS,HK.out,ht,HA.out,hn,HN.out,hL,hb,hs8⟩,by simp[intOf];omega⟩
         cases hrq:(rowAt m y).getD q false
         ·have HP:=show Hid _ from HPUT.out htq hrq
          rw[htq]at xt
          rw[hrq]at xb
          clear htq hrq
          go_wp2_with fail
          exact⟨⟨_,true,q+1,rfl,by go_num,al,(hS.setBit hym xm HBI.out.row hql true).wide (cv7 _) an,HP.out,ab6 ht HA.out hb14.out,H8.setBit HA.out gy4,ab6 hn HN.out hb14.out,H8.setBit HN.out gy4,
           hL.other (p:=⟨gy,q,none⟩) (by show w.heap.size≠gy;have:=HG.out;omega) _,hb.setCell (p:=⟨gy,q,none⟩) (by show w.heap.size<=gy;have:=HG.out;omega) _,by simpa using hs8⟩,by simp[intOf];omega⟩
         have HK:=show Hid _ from HKEEP.out (fun _=>hrq)
         rw[htq]at xt
         rw[hrq]at xb
         clear htq hrq
         go_wp2_with fail
         exact⟨⟨m,f,q+1,rfl,by go_num,al,hS,HK.out,ht,HA.out,hn,HN.out,hL,hb,hs8⟩,by simp[intOf];omega⟩
        have hqn:q=14:=al
        subst hqn
        have HD:=show Hid _ from HBI.out.done hjl HY.out (cv7 _)
        go_wp2_with fail
        exact⟨⟨m,f,j+1,rfl,by go_num,al,hS,HD.out,ht,HA.out,hn,HN.out,hL,hb,hs8⟩,by simp[intOf];omega⟩
     have hjn:j=ns.length:=al
     have HP:=show Hid _ from HKI2.out.done al HNM.out
     subst hjn
     go_wp2_with fail
     exact⟨⟨m,f,k+1,rfl,by go_num,al,hS,HP.out,hL,hb⟩,by simp[intOf];omega⟩
   have hkn:k=c.list.length:=al
   subst hkn
   have hpn:Hid (aF1 wr (.slice (some ⟨G,0,none⟩) c.list.length c.list.length)=pot m):=by have:=hS.pot;rw[hml]at this;exact this
   have hle:=HI'.out.le
   have hlt':=HI'.out.lt
   have hdn:f=false->K2 c m:=fun e=>by have:=HI'.out;rw[e]at this;exact this.done al
   have HD:=show Hid _ from hdn
   have HLT:=show Hid _ from hlt'
   clear hdn hlt'
   go_wp2_with fail
   refine⟨⟨m,f,rfl,hS,HI'.out.low,HD.out,hL,hb⟩,?_⟩
   show 2*aF1 _ _+_<2*aF1 _ _+_
   rw[hpn.out,hpot.out]
   cases f
   ·have:=HI'.out.le
    show 2*pot m+0<2*P0+1
    omega
   have:=HLT.out rfl
   show 2*pot m+1<2*P0+1
   omega
noncomputable def au4(c:c8):List (List Bool):=open Classical in if h:∃m,K2 c m then h.choose else []
theorem aP5{c:c8}{m:List (List Bool)}(h:K2 c m):m=au4 c:=by
 have hx:∃m,K2 c m:=⟨m,h⟩
 unfold au4
 rw[dif_pos hx]
 exact a60 h hx.choose_spec
noncomputable def N9(c:c8):Int×Int:=if j7 c=true then H3 c (au4 c)else(5,-1)
theorem aN0(v:Value)(c:c8)(w:World)(h:t5 w v c):
  Calls Tryz.prog 9 #[v] w fun e w'=>e=.returned (.tuple #[.int .i64 (N9 c).1,.int .i64 (N9 c).2])/\Below w.heap.size w w':=by
 have hrow:=h
 obtain⟨v1,v2,v3,rfl,h1,h2,h3⟩:=h
 obtain⟨W,hW⟩:∃W,W=w.alloc (.cells #[v1,v2,v3] 26):=⟨_,rfl⟩
 have B0:Below w.heap.size w W:=by rw[hW];go_grown
 have L1:A1 W w.heap.size [v1,v2,v3]:=by rw[hW];exact(A1.new w [v1,v2,v3] _)
 obtain⟨a3,k3,rfl,hk3,hm3,-,hc3⟩:=h3.ins
 have HT:Hid (N9 c=if j7 c=true then H3 c (au4 c)else(5,-1)):=rfl
 have x0:=L1.cell 0
 have x1:=L1.cell 1
 have x2:=L1.cell 2
 simp only[cv5,cw0]at x0 x1 x2
 rw[hW]at x0 x1 x2
 go_enter Tryz.func9,Tryz.ntmps9
 go_wp2_with fail
 rw[<-hW]
 clear hW x0 x1 x2
 refine(aM9 _ c _ (hrow.below B0)).mono ?_
 rintro e w1 ⟨rfl,b1⟩
 replace L1:=L1.below b1 L1.lt
 have B1:=B0.trans (b1.mono B0.size)
 clear b1 B0
 have x0:=L1.cell 0
 have x1:=L1.cell 1
 have x2:=L1.cell 2
 simp only[cv5,cw0]at x0 x1 x2
 cases hc:j7 c
 ·have HC:=show Hid (N9 c=(5,-1))from by unfold Hid;rw[HT.out,hc];simp
  clear hc hc3 HT
  go_wp2_with fail
  go_ret2
  exact⟨by rw[HC.out];rfl,B1⟩
 have HC:=show Hid _ from hc
 have HT':=show Hid (N9 c=H3 c (au4 c))from by unfold Hid;rw[HT.out,hc];simp
 have hn4:=(k8 hc).2.2.1
 clear hc HT
 go_wp2_with fail
 refine(a31 _ c HC.out _ (hrow.below B1)).mono ?_
 rintro e w2 ⟨G,m,rfl,hlm,hS,b2⟩
 have hme:=aP5 hlm
 rw[<-hme]at HT'
 have hl:m.length=c.list.length:=hlm.1.1
 have hr:=hlm.1.2.1
 obtain⟨am,km,hv,hmm,hmc⟩:=aY0 hS.1.row
 cases hv
 have B2:=B1.trans (b2.mono B1.size)
 replace L1:=L1.below b2 L1.lt
 clear b2 x0 x1 x2 hme hlm
 rw[hl]
 have HL:=show Hid _ from hl
 go_wp2_with fail
 go_loopw [5,6] (fun i _ wr=>∃k:Nat,k<=c.list.length/\i=.int .i64 k/\K3 c m k=false/\Below w2.heap.size w2 wr) (fun i _ _=>c.list.length-(intOf i).toNat)
 case atStart=>exact⟨0,cy4 _,rfl,rfl,Below.refl _ _⟩
 case round=>
  obtain⟨k,hk,rfl,ha,hb⟩:=hrel
  have HA:=show Hid _ from ha
  clear ha
  replace L1:=L1.below hb L1.lt
  have BW:=B2.trans (hb.mono B2.size)
  have x0:=L1.cell 0
  have x1:=L1.cell 1
  have x2:=L1.cell 2
  simp only[cv5,cw0]at x0 x1 x2
  by_cases hltc:k<c.list.length
  ·have hlt:k<m.length:=al
   obtain⟨b,off,rfl,hb3,i0,i1,i2,i3,i4⟩:=hc3 k hltc
   obtain⟨bm,om,a',c',hv,hbm,xm,hrm⟩:=hmc k hlt
   cases hv
   have hx:=(k8 HC.out).2.2.2.1 k hltc
   have HB:Hid (badAt c m k=(decide (0<(rowAt m k).length)&&decide (F4 c (t7 c k) (rowAt m k)≠0))):=rfl
   rw[t3 hltc]at HB
   have HF:=show Hid (K3 c m k=false->badAt c m k=true->H3 c m=(F4 c (t7 c k) (rowAt m k),(k:Int)))from fun g1 g2=>aF5 hlt g1 g2
   rw[t3 hltc]at HF
   have HS:=show Hid _ from aG1 c m k
   have hlr:=I7 hr k
   rw[<-(z6 BW).1 _ _ hb3]at i0 i1 i2 i3 i4
   rw[<-(z6 hb).1 _ _ hbm]at xm
   simp only[cA0]at xm
   replace hrm:=hrm.below hb
   generalize rowAt m k=r at*
   generalize c.list[k]=x at*
   clear hc3 hmc hr
   by_cases h0:r.length=0
   ·have q0:decide ((0:Int)<(r.length:Int))=false:=by simp[h0]
    have q0':¬((0:Int)<(r.length:Int)):=al
    have HN:=show Hid (K3 c m (k+1)=false)from by unfold Hid;rw[HS.out,HA.out,HB.out];simp[h0]
    clear HF HB hlr h0
    go_wp2_with fail
    exact⟨⟨k+1,al,by go_num,HN.out,hb⟩,by simp[intOf];omega⟩
   have h14:r.length=14:=al
   have q0':(0:Int)<(r.length:Int):=al
   have hrr:H7 wr (.slice a' r.length c') 14 1 (bools r):=by rw[h14]at hrm ⊢;exact hrm
   have z0:=fun X=>c7 x0 X
   have z1:=fun X=>c7 x1 X
   have z2:=fun X=>c7 x2 X
   have j0:=fun X=>c7 i0 X
   have j1:=fun X=>c7 i1 X
   have j2:=fun X=>c7 i2 X
   have j3:=fun X=>c7 i3 X
   have j4:=fun X=>c7 i4 X
   have jm:=fun X=>c7 xm X
   have hl14:(r.length:Int)<=14:=al
   have hki:(k:Int)<c.list.length:=al
   have HCALL:Hid (∀X,Calls Tryz.prog 36 #[.agg #[v1,v2,.slice (some ⟨b,off,none⟩) c.list.length k3],x.v,.slice a' r.length c'] (wr.ext X) fun e w''=>e=.returned (.int .i64 (F4 c x r))/\∃Y,w''=wr.ext Y):=
    fun X=>Calls.ext_of' (bl3 _ _ c x r _ ((hrow.below BW).below (i6 _ X)) hx (hrr.below (i6 _ X)))
   by_cases ho:F4 c x r=0
   ·have qo:(F4 c x r !=0)=false:=by simp[ho]
    have HN:=show Hid (K3 c m (k+1)=false)from by unfold Hid;rw[HS.out,HA.out,HB.out];simp[ho]
    clear HF HB hlr h0 ho hrr hrm h14 i0 i1 i2 i3 i4
    go_wp2_with fail
    clear xm
    refine C3 aj aj ?_
    repeat(any_goals (first|go_big_quiet_step ((go_at_call 36;exact HCALL.out _))|quiet_step ((go_at_call 36;exact HCALL.out _))))
    refine wpQuiet_nil ?_
    rintro _ ⟨X,rfl⟩
    have hbX:=hb.trans ((i6 wr X).mono hb.size)
    go_wp2_with fail
    exact⟨⟨k+1,al,by go_num,HN.out,hbX⟩,by simp[intOf];omega⟩
   have qo:(F4 c x r !=0)=true:=by simp[ho]
   have HN:=show Hid (H3 c m=(F4 c x r,(k:Int)))from HF.out HA.out (by rw[HB.out];simp[ho];omega)
   clear HF HB hlr h0 ho hrr hrm h14 i0 i1 i2 i3 i4
   go_wp2_with fail
   clear xm
   refine C3 aj aj ?_
   repeat(any_goals (first|go_big_quiet_step ((go_at_call 36;exact HCALL.out _))|quiet_step ((go_at_call 36;exact HCALL.out _))))
   refine wpQuiet_nil ?_
   rintro _ ⟨X,rfl⟩
   have hbX:=hb.trans ((i6 wr X).mono hb.size)
   go_wp2_with fail
   go_ret2
   exact⟨by rw[HT'.out,HN.out];rfl,B2.trans (hbX.mono B2.size)⟩
  have e:k=c.list.length:=al
  subst e
  have HN:=show Hid (H3 c m=(0,-1))from an6 (by rw[HL.out];exact HA.out)
  clear hc3 hmc
  go_wp2_with fail
  go_ret2
  exact⟨by rw[HT'.out,HN.out];rfl,BW⟩
theorem aQ7(v:Value)(c:c8)(w:World)(h:t5 w v c):
  Calls Tryz.prog 8 #[v] w fun e w'=>e=.returned (.tuple #[.int .i64 (N9 c).1,.int .i64 (N9 c).2])/\Below w.heap.size w w':=by
 have hrow:=h
 obtain⟨v1,v2,v3,rfl,h1,h2,h3⟩:=h
 obtain⟨W,hW⟩:∃W,W=w.alloc (.cells #[v1,v2,v3] 26):=⟨_,rfl⟩
 have B0:Below w.heap.size w W:=by rw[hW];go_grown
 have L1:A1 W w.heap.size [v1,v2,v3]:=by rw[hW];exact(A1.new w [v1,v2,v3] _)
 have HT:Hid (N9 c=if j7 c=true then H3 c (au4 c)else(5,-1)):=rfl
 have x0:=L1.cell 0
 have x1:=L1.cell 1
 have x2:=L1.cell 2
 simp only[cv5,cw0]at x0 x1 x2
 rw[hW]at x0 x1 x2
 go_enter Tryz.func8,Tryz.ntmps8
 go_wp2_with fail
 rw[<-hW]
 clear hW x0 x1 x2
 refine(an5 _ c _ (hrow.below B0)).mono ?_
 rintro e w1 ⟨rfl,b1⟩
 replace L1:=L1.below b1 L1.lt
 have B1:=B0.trans (b1.mono B0.size)
 clear b1 B0
 cases hc:j7 c
 ·have HC:=show Hid (N9 c=(5,-1))from by unfold Hid;rw[HT.out,hc];simp
  clear hc HT
  go_wp2_with fail
  go_ret2
  exact⟨by rw[HC.out];rfl,B1⟩
 have HC:=show Hid _ from hc
 have HT':=show Hid (N9 c=H3 c (au4 c))from by unfold Hid;rw[HT.out,hc];simp
 clear hc HT
 have hS:∀W',Below w1.heap.size w1 W'->Below w1.heap.size w1 W'/\(W'.cell? ⟨w.heap.size,0,none⟩=some v1/\W'.cell? ⟨w.heap.size,1,none⟩=some v2/\W'.cell? ⟨w.heap.size,2,none⟩=some v3):=
  fun W' hb=>⟨hb,bT2 L1 W' hb⟩
 have HS:=show Hid _ from hS
 have hb0:=(Below.refl w1.heap.size w1).drew
 clear hS
 go_wp2_with fail
 go_region_held3 (fun W'=>Below w1.heap.size w1 W'/\(W'.cell? ⟨w.heap.size,0,none⟩=some v1/\W'.cell? ⟨w.heap.size,1,none⟩=some v2/\W'.cell? ⟨w.heap.size,2,none⟩=some v3))
  (exact HS.out _ ai)
  (first|(go_at_call 33;refine(aH0 _ c HC.out _ (hrow.below (O1 ai B1 (cv7 _)))).mono ?_;rintro e w7 ⟨G,m,rfl,hlm,hM,b7⟩;have q7:=O1 b7 hb0 (cv7 _))|(go_at_call 32;refine(aH1 _ _ c m _ HC.out (hrow.below (O1 ai B1 (cv7 _))) hM.1.row hlm.1.1 hlm.1.2.1).mono ?_;rintro e w8 ⟨rfl,b8⟩;have q8:=O1 b8 q7 (cv7 _)))
 all_goals go_wp2_with fail
 all_goals go_ret2
 all_goals exact⟨by rw[HT'.out, <-aP5 hlm];rfl,B1.trans (q8.mono B1.size)⟩
end Go.Proofs.YtfbeblgnjeokaaaGreat

namespace Go.Proofs.YtfbeblgnjeokaaaGreat
def isJ(c:c8)(x:Int):Bool:=decide ((t7 c x.toNat).op=8)
def A0(c:c8):Nat->Int->Int
 |0,x=>x
 |k+1,x=>if isJ c x=true then A0 c k (t7 c x.toNat).a else x
def H4(c:c8)(t:Int):Int:=if isJ c (A0 c c.list.length t)=true then t else A0 c c.list.length t
theorem R1{c:c8}{k:Nat}{x:Int}(h:isJ c x=true):A0 c (k+1) x=A0 c k (t7 c x.toNat).a:=by rw[A0,if_pos h]
theorem O0{c:c8}{x:Int}(h:isJ c x=false):∀k,A0 c k x=x
 |0=>rfl
 |k+1=>by rw[A0,if_neg (by rw[h];simp)]
def O2(x:d8)(t:Int):d8:=if x.op=8 then {x with a:=t}else if x.op=9\/x.op=10 then {x with b:=t}else x
def U2(c:c8)(x:d8):d8:=if 0<=l0 x then O2 x (H4 c (l0 x))else x
def N2(c:c8):c8:={c with list:=c.list.map (U2 c)}
theorem ab5{c:c8}{x:d8}(h:A8 c x=true)(h0:0<=l0 x):l0 x<c.list.length:=by
 by_cases ho:x.op=8\/x.op=9\/x.op=10
 ·exact(aM2 h ho).2
 unfold l0 at h0
 rw[if_neg al,if_neg al]at h0
 omega
def F2(c:c8)(x:Int):Prop:=0<=x/\x<c.list.length
theorem aJ2{c:c8}(h:j7 c=true){x:Int}(hx:F2 c x)(hj:isJ c x=true):F2 c (t7 c x.toNat).a:=by
 have hl:x.toNat<c.list.length:=by have:=hx.1;have:=hx.2;omega
 have hi:=(k8 h).2.2.2.1 x.toNat hl
 unfold isJ at hj
 rw[decide_eq_true_eq]at hj
 rw[t3 hl]at hj ⊢
 have:=aM2 hi (.inl hj)
 unfold l0 at this
 rw[if_pos hj]at this
 exact this
def aa8(c:c8)(k:Nat):List d8:=(c.list.map (U2 c)).take k++c.list.drop k
theorem aO4(c:c8)(k:Nat):(aa8 c k).length=c.list.length:=by
 unfold aa8
 rw[cv9,List.length_take,List.length_drop,List.length_map]
 omega
theorem aZ0(c:c8):aa8 c 0=c.list:=by simp[aa8]
theorem bN9(c:c8):aa8 c c.list.length=(N2 c).list:=by
 unfold aa8 N2
 rw[List.drop_length,List.append_nil,cw7 an]
theorem aZ1(c:c8)(k:Nat)(h:k<c.list.length):aa8 c (k+1)=(aa8 c k).set k (U2 c c.list[k]):=by
 have hk:k<(c.list.map (U2 c)).length:=by simpa using h
 have hl:((c.list.map (U2 c)).take k).length=k:=by rw[List.length_take];omega
 unfold aa8
 rw[List.set_append_right _ _ al,hl,Nat.sub_self,List.drop_eq_getElem_cons h,cx3,D6 _ _ hk]
 simp
theorem bY8(c:c8)(k:Nat)(h:k<c.list.length):(aa8 c k)[k]? =some c.list[k]:=by
 unfold aa8
 rw[cy7 (by rw[List.length_take];omega),List.length_take,List.length_map,Nat.min_eq_left al,Nat.sub_self,List.getElem?_drop,Nat.add_zero,cv6 h]
theorem bC9(c:c8)(k:Nat)(h:k<c.list.length)(he:U2 c c.list[k]=c.list[k]):aa8 c (k+1)=aa8 c k:=by
 rw[aZ1 c k h,he]
 apply List.ext_getElem?
 intro i
 rw[List.getElem?_set]
 split
 ·rename_i e
  subst e
  rw[bY8 c k h]
  simp[aO4,h]
 rfl
theorem an8{c:c8}(h:j7 c=true):c.size<=1048576:=by
 obtain⟨h1,-,h2,-,-⟩:=k8 h
 unfold G2 at h1
 simp only[cv4,decide_eq_true_eq]at h1
 unfold c8.size
 omega
def bQ6(c:c8)(i:Nat):Bool:=decide ((t7 c i).op=8)&&decide ((t7 c i).a=(i:Int)+1)
noncomputable def kpB(c:c8)(i:Nat):Bool:=(K0 c).getD i false&& !bQ6 c i
noncomputable def R0(c:c8):List Bool:=(cx0 c.list.length).map (kpB c)
theorem bm6(c:c8):(K0 c).length=c.list.length:=by simp[K0]
theorem aI9(c:c8):(R0 c).length=c.list.length:=by simp[R0]
theorem ai5(c:c8)(i:Nat)(h:i<c.list.length):(R0 c).getD i false=kpB c i:=by simp[R0,h]
noncomputable def co9(c:c8)(k:Nat):List Bool:=(cx0 c.list.length).map fun i=>(K0 c).getD i false&& !(decide (i<k)&&bQ6 c i)
def R5(ks:List Bool)(k:Nat):Nat:=(ks.take k).count true
theorem am6(ks:List Bool):R5 ks 0=0:=by simp[R5]
theorem X9(ks:List Bool)(k:Nat)(h:k<ks.length):R5 ks (k+1)=R5 ks k+(if ks.getD k false=true then 1 else 0):=by
 unfold R5
 rw[D6 _ _ h,List.count_append]
 simp only[cv8,cv6 h,Option.getD_some]
 cases ks[k]<;>simp
theorem b90(ks:List Bool)(k:Nat):R5 ks k<=k:=by
 unfold R5
 exact cx8 List.count_le_length (List.length_take_le k ks)
def aG6(ks:List Bool)(k:Nat):List Int:=(cx0 k).map fun i=>(R5 ks i:Int)
theorem ag2(ks:List Bool)(k:Nat):(aG6 ks k).length=k:=by simp[aG6]
theorem bC2(ks:List Bool)(k:Nat):aG6 ks (k+1)=aG6 ks k++[(R5 ks k:Int)]:=by
 unfold aG6;rw[List.range_succ,List.map_append];rfl
theorem bL8(ks:List Bool)(k i:Nat)(h:i<k):(aG6 ks k)[i]? =some (R5 ks i:Int):=by simp[aG6,h]
def trI(ks:List Bool)(x:d8):d8:=if 0<=l0 x then O2 x (R5 ks (l0 x).toNat:Int)else x
def t9(c:c8)(ks:List Bool)(k:Nat):List d8:=(cx0 k).flatMap fun i=>if ks.getD i false=true then [trI ks (t7 c i)]else []
theorem ah6(c:c8)(ks:List Bool):t9 c ks 0=[]:=rfl
theorem af9{c:c8}{ks:List Bool}{k:Nat}(h:ks.getD k false=true):t9 c ks (k+1)=t9 c ks k++[trI ks (t7 c k)]:=by
 unfold t9
 rw[List.range_succ,List.flatMap_append]
 simp only[List.flatMap_cons,List.flatMap_nil,List.append_nil]
 rw[if_pos h]
theorem ah7{c:c8}{ks:List Bool}{k:Nat}(h:ks.getD k false=false):t9 c ks (k+1)=t9 c ks k:=by
 unfold t9
 rw[List.range_succ,List.flatMap_append]
 simp only[List.flatMap_cons,List.flatMap_nil,List.append_nil]
 rw[if_neg (by rw[h];simp),List.append_nil]
theorem aM0(c:c8)(ks:List Bool)(k:Nat):(t9 c ks k).length<=k:=by
 induction k with
 |zero=>simp[ah6]
 |succ k ih=>
  cases h:ks.getD k false
  ·rw[ah7 h];omega
  rw[af9 h,cv9,List.length_singleton];omega
noncomputable def P9(c:c8):c8:={c with list:=t9 c (R0 c) c.list.length}
theorem a85(x:d8)(t:Int):(O2 x t).op=x.op:=by unfold O2;split<;>(try split)<;>rfl
theorem bU8{x:d8}(_h:0<=l0 x):O2 x (l0 x)=x:=by
 unfold O2 l0
 split
 ·rfl
 split
 ·simp only[]
 rfl
theorem b29(x:d8)(t u:Int):O2 (O2 x t) u=O2 x u:=by
 unfold O2
 by_cases h8:x.op=8
 ·simp[h8]
 by_cases h9:x.op=9\/x.op=10
 ·simp only[if_neg h8,if_pos h9]
 simp only[if_neg h8,if_neg h9]
theorem b28{x:d8}(h:0<=l0 x)(t:Int):l0 (O2 x t)=t:=by
 unfold l0 at h
 unfold l0 O2
 by_cases h8:x.op=8
 ·simp[h8]
 by_cases h9:x.op=9\/x.op=10
 ·simp only[if_neg h8,if_pos h9]
 rw[if_neg h8,if_neg h9]at h;omega
theorem bc9{x:d8}(h1:1<=x.op)(h2:x.op<=13):x.op=1\/x.op=2\/x.op=3\/x.op=4\/x.op=5\/x.op=6\/x.op=7\/x.op=8\/x.op=9\/x.op=10\/x.op=11\/x.op=12\/x.op=13:=al
theorem aZ8{c d:c8}{x:d8}(h:A8 c x=true)(_hv:d.vars=c.vars)(_ha:d.arrays=c.arrays){t:Int}(hx:0<=l0 x)(h0:0<=t)(h1:t<d.list.length):A8 d (O2 x t)=true:=by
 have h':=h
 unfold A8 at h ⊢
 simp only[cv4,decide_eq_true_eq]at h
 obtain⟨⟨ho1,ho2⟩,hp⟩:=h
 rw[a85]
 cases x with
 |mk op a b c' d'=>
 simp only at*
 rcases bc9 (x:=⟨op,a,b,c',d'⟩) ho1 ho2 with e|e|e|e|e|e|e|e|e|e|e|e|e<;>simp only at e<;>subst e<;>
  simp[m7,G0,Q6,O2,l0]at hp hx ⊢ <;>simp_all
theorem aF3{c d:c8}{x:d8}(h:A8 c x=true)(_hv:d.vars=c.vars)(_ha:d.arrays=c.arrays)(hx:l0 x<0):A8 d x=true:=by
 unfold A8 at h ⊢
 simp only[cv4,decide_eq_true_eq]at h
 obtain⟨⟨ho1,ho2⟩,hp⟩:=h
 cases x with
 |mk op a b c' d'=>
 simp only at*
 rcases bc9 (x:=⟨op,a,b,c',d'⟩) ho1 ho2 with e|e|e|e|e|e|e|e|e|e|e|e|e<;>simp only at e<;>subst e<;>
  simp[m7,G0,Q6,l0]at hp hx ⊢ <;>simp_all<;>omega
theorem aB3{c:c8}{i:Nat}(h:i<c.list.length):(K0 c).getD i false=true↔Rc c (i:Int):=by
 simp[K0,h]
theorem am9{c:c8}{i:Nat}(h:i<c.list.length):nx c (i:Int)=D0 c.list[i] i:=by
 have:=aY7 (c:=c) (t:=(i:Int)) (by simpa using h)
 simpa using this
theorem ap5{c:c8}(hc:j7 c=true):∀(d i:Nat),c.list.length-i=d->i<c.list.length->Rc c (i:Int)->∃j,i<=j/\j<c.list.length/\kpB c j=true:=by
 intro d
 induction d with
 |zero=>intro i h1 h2;omega
 | succ d ih =>
  intro i h1 h2 hr
  cases hk:kpB c i
  ·unfold kpB at hk
   rw[(aB3 h2).2 hr]at hk
   simp only[Bool.true_and,cy2]at hk
   unfold bQ6 at hk
   rw[t3 h2]at hk
   simp only[cv4,decide_eq_true_eq]at hk
   have hm:(i:Int)+1∈nx c (i:Int):=by
    rw[am9 h2]
    unfold D0
    simp[hk.1,hk.2]
   have hok:=as2 hc (Rc.nonneg hc hr) hm
   have hr1:=Rc.step hr hm
   have e:(i:Int)+1=((i+1:Nat):Int):=al
   rw[e]at hr1 hok
   obtain⟨j,a,b,e⟩:=ih (i+1) al al hr1
   exact⟨j,al,b,e⟩
  exact⟨i,cv7 _,h2,hk⟩
theorem bc6(ks:List Bool){a b:Nat}(h:a<=b):R5 ks a<=R5 ks b:=by
 unfold R5
 have:ks.take a=(ks.take b).take a:=by rw[List.take_take,Nat.min_eq_left h]
 rw[this]
 exact List.Sublist.count_le _ (List.take_sublist _ _)
theorem bn3{ks:List Bool}{i j n:Nat}(h1:i<=j)(h2:j<n)(h3:n<=ks.length)(h:ks.getD j false=true):R5 ks i<R5 ks n:=by
 have a:=bc6 ks h1
 have b:=bc6 ks (show j+1<=n by omega)
 rw[X9 ks j al,if_pos h]at b
 omega
theorem aW9(c:c8)(ks:List Bool):∀k,k<=ks.length->(t9 c ks k).length=R5 ks k:=by
 intro k
 induction k with
 |zero=>intro _;simp[ah6,am6]
 |succ k ih=>
  intro h
  rw[X9 ks k al]
  cases hk:ks.getD k false
  ·rw[ah7 hk,ih al];simp
  rw[af9 hk,cv9,ih al];simp
theorem bA5{c:c8}{ks:List Bool}{k:Nat}{x:d8}(h:x∈t9 c ks k):∃i,i<k/\ks.getD i false=true/\x=trI ks (t7 c i):=by
 unfold t9 at h
 rw[List.mem_flatMap]at h
 obtain⟨i,hi,hx⟩:=h
 split at hx
 ·rename_i hk
  simp at hx
  exact⟨i,cz5.1 hi,hk,hx⟩
 simp at hx
theorem bk5(c:c8)(ks:List Bool):∀k,t9 c ks k≠[]->∃j,j<k/\ks.getD j false=true/\(∀i,j<i->i<k->ks.getD i false=false)/\(t9 c ks k).getLast? =some (trI ks (t7 c j)):=by
 intro k
 induction k with
 |zero=>intro h;exact absurd (ah6 c ks) h
 | succ k ih =>
  intro h
  cases hk:ks.getD k false
  ·rw[ah7 hk]at h ⊢
   obtain⟨j,h1,h2,h3,h4⟩:=ih h
   refine⟨j,al,h2,fun i a b=>?_,h4⟩
   by_cases e:i=k
   ·subst e;exact hk
   exact h3 i a al
  rw[af9 hk]
  exact⟨k,al,hk,fun i a b=>by omega,an⟩
theorem b69(ks:List Bool)(x:d8):(trI ks x).op=x.op:=by unfold trI;split;exact a85 _ _;rfl
theorem aJ1{c:c8}{i:Nat}(h:i<c.list.length)(hk:(R0 c).getD i false=true):Rc c (i:Int):=by
 rw[ai5 c i h]at hk
 unfold kpB at hk
 simp only[cv4]at hk
 exact(aB3 h).1 hk.1
theorem aM3{x:d8}(h:0<=l0 x)(i:Int):l0 x∈D0 x i:=by
 unfold l0 D0 at*
 by_cases h8:x.op=8
 ·simp[h8]
 by_cases h9:x.op=9\/x.op=10
 ·rw[if_neg h8,if_pos h9]
  rw[if_neg al,if_neg h8,if_pos h9];simp
 rw[if_neg h8,if_neg h9]at h;omega
theorem bV6{c:c8}(hc:j7 c=true):j7 (P9 c)=true:=by
 obtain⟨h1,h2,h3,h4,h5⟩:=k8 hc
 have hkl:=aI9 c
 have hlen:(t9 c (R0 c) c.list.length).length=R5 (R0 c) c.list.length:=aW9 c _ _ al
 obtain⟨j0,-,hj2,hj3⟩:=ap5 hc _ 0 rfl al Rc.zero
 have hpos:0<R5 (R0 c) c.list.length:=by
  have:=bn3 (ks:=R0 c) (i:=0) (cy4 j0) hj2 al (by rw[ai5 c _ hj2];exact hj3)
  omega
 unfold j7
 simp only[cv4,decide_eq_true_eq,cw3]
 refine⟨⟨⟨⟨h1,?_⟩,?_⟩,?_⟩,?_⟩
 ·show 1<=(t9 c (R0 c) c.list.length).length;omega
 ·show(t9 c (R0 c) c.list.length).length<=400
  have:=aM0 c (R0 c) c.list.length;omega
 ·intro x hx
  obtain⟨i,hi,hk,rfl⟩:=bA5 hx
  have hr:=aJ1 hi hk
  rw[t3 hi]
  unfold trI
  split
  ·rename_i ht
   have hm:l0 c.list[i]∈nx c (i:Int):=by rw[am9 hi];exact aM3 ht _
   have hok:=as2 hc al hm
   obtain⟨t,het⟩:∃t:Nat,l0 c.list[i]=t:=⟨(l0 c.list[i]).toNat,al⟩
   have hrt:=Rc.step hr hm
   rw[het]at hrt hok
   obtain⟨j,a,b,e⟩:=ap5 hc _ t rfl al hrt
   have:=bn3 (ks:=R0 c) a b al (by rw[ai5 c _ b];exact e)
   refine aZ8 (d:=P9 c) (h4 i hi) rfl rfl ht al ?_
   show _<((t9 c (R0 c) c.list.length).length:Int)
   rw[het,Int.toNat_natCast];omega
  rename_i ht
  exact aF3 (d:=P9 c) (h4 i hi) rfl rfl al
 unfold ac8
 obtain⟨j,a,b,d,e⟩:=bk5 c (R0 c) c.list.length (by intro h;rw[h]at hlen;simp at hlen;omega)
 show(match(t9 c (R0 c) c.list.length).getLast? with|some x=>decide (x.op=13)||decide (x.op=8)|none=>false)=true
 rw[e]
 simp only[b69,t3 a]
 by_cases e13:c.list[j].op=13
 ·simp[e13]
 by_cases e8:c.list[j].op=8
 ·simp[e8]
 exfalso
 have hl:=bx2 hc j a e13 e8
 have hm:(j:Int)+1∈nx c (j:Int):=by
  rw[am9 a];unfold D0;rw[if_neg e13,if_neg e8];split<;>simp
 have hr1:=Rc.step (aJ1 a b) hm
 rw[show(j:Int)+1=((j+1:Nat):Int) by omega]at hr1
 obtain⟨i,p,q,r⟩:=ap5 hc _ (j+1) rfl hl hr1
 have:=d i al q
 rw[ai5 c _ q,r]at this
 cases this
theorem ae7{c:c8}(hc:j7 c=true):∀(k:Nat) (x:Int),F2 c x->F2 c (A0 c k x)
 |0,_,h=>h
 |k+1,x,h=>by
  cases hj:isJ c x
  ·rw[O0 hj];exact h
  rw[R1 hj];exact ae7 hc k _ (aJ2 hc h hj)
theorem aF6{c:c8}(hc:j7 c=true){x:Int}(h:F2 c x):F2 c (H4 c x):=by
 unfold H4;split
 ·exact h
 exact ae7 hc _ _ h
theorem bI3(c:c8)(x:d8):(U2 c x).op=x.op:=by unfold U2;split;exact a85 _ _;rfl
theorem ae0(c:c8):(N2 c).list.length=c.list.length:=by simp[N2]
theorem a25{c:c8}(hc:j7 c=true):j7 (N2 c)=true:=by
 obtain⟨h1,h2,h3,h4,h5⟩:=k8 hc
 unfold j7
 simp only[cv4,decide_eq_true_eq,cw3]
 refine⟨⟨⟨⟨h1,by rw[ae0];exact h2⟩,by rw[ae0];exact h3⟩,?_⟩,?_⟩
 ·intro x hx
  obtain⟨y,hy,rfl⟩:=List.mem_map.1 hx
  obtain⟨i,hi,rfl⟩:=List.getElem_of_mem hy
  unfold U2
  split
  ·rename_i ht
   have hp:=aF6 hc ⟨ht,ab5 (h4 i hi) ht⟩
   exact aZ8 (d:=N2 c) (h4 i hi) rfl rfl ht hp.1 (by rw[ae0];exact hp.2)
  exact aF3 (d:=N2 c) (h4 i hi) rfl rfl al
 unfold ac8 at h5 ⊢
 show(match(c.list.map (U2 c)).getLast? with|some x=>decide (x.op=13)||decide (x.op=8)|none=>false)=true
 rw[List.getLast?_map]
 cases hl:c.list.getLast? with
 |none=>rw[hl]at h5;cases h5
 |some x=>rw[hl]at h5;simpa[bI3]using h5
theorem aq4(c:c8):∀(a b:Nat) (x:Int),A0 c (a+b) x=A0 c b (A0 c a x)
 |0,b,x=>by simp[A0]
 |a+1,b,x=>by
  rw[show a+1+b=(a+b)+1 by omega]
  cases hj:isJ c x
  ·rw[O0 hj,O0 hj,O0 hj]
  rw[R1 hj,R1 hj,aq4 c a b]
theorem aS6{c:c8}{x:Int}{k:Nat}(h:isJ c (A0 c k x)=true):∀j,j<=k->isJ c (A0 c j x)=true:=by
 intro j hj
 cases hf:isJ c (A0 c j x)
 ·have:=aq4 c j (k-j) x
  rw[show j+(k-j)=k by omega,O0 hf]at this
  rw[this,hf]at h;cases h
 rfl
theorem bq3{c:c8}{x:Int}{i j:Nat}(hij:i<j)(he:A0 c i x=A0 c j x)(hj:isJ c (A0 c j x)=true):∀k,isJ c (A0 c k x)=true:=by
 have hall:=aS6 hj
 intro k
 induction k using Nat.strongRecOn with
 |_ k ih=>
  rcases cx7 k (j+1)with h|h
  ·exact hall k al
  have h1:=aq4 c j (k-j) x
  have h2:=aq4 c i (k-j) x
  rw[<-he, <-h2,show j+(k-j)=k by omega]at h1
  rw[h1]
  exact ih _ al
theorem bh1{c:c8}(hc:j7 c=true){x:Int}(hx:F2 c x):∀m,(∀i j,i<j->j<m->A0 c i x≠A0 c j x)->
  ∃bs:List Bool,bs.length=c.list.length/\bs.count false+m=c.list.length/\∀p:Nat,bs[p]? =some true->∃i,i<m/\A0 c i x=p:=by
 intro m
 induction m with
 |zero=>intro _;exact⟨cv3 c.list.length false,an,an,fun p hp=>by simp[cz3]at hp⟩
 | succ m ih =>
  intro hd
  obtain⟨bs,h1,h2,h3⟩:=ih fun i j a b=>hd i j a al
  have hp:=ae7 hc m x hx
  obtain⟨p,hpe⟩:∃p:Nat,A0 c m x=p:=⟨(A0 c m x).toNat,by have:=hp.1;omega⟩
  have hpl:p<bs.length:=by have:=hp.2;rw[hpe]at this;omega
  have hb:bs[p]? =some false:=by
   rw[cv6 hpl]
   cases hb:bs[p]
   ·rfl
   obtain⟨i,a,b⟩:=h3 p (by rw[cv6 hpl,hb])
   exact absurd (b.trans hpe.symm) (hd i m a al)
  refine⟨bs.set p true,by simpa using h1,by have:=V6 hb;omega,fun q hq=>?_⟩
  rcases O7 hq with rfl|hq
  ·exact⟨m,al,hpe⟩
  obtain⟨i,a,b⟩:=h3 q hq
  exact⟨i,al,b⟩
theorem bq4{c:c8}(hc:j7 c=true){x:Int}(hx:F2 c x)(h:isJ c (A0 c c.list.length x)=true):∀k,isJ c (A0 c k x)=true:=by
 by_cases hd:∀i j,i<j->j<c.list.length+1->A0 c i x≠A0 c j x
 ·obtain⟨bs,h1,h2,h3⟩:=bh1 hc hx _ hd
  omega
 have:∃i j,i<j/\j<c.list.length+1/\A0 c i x=A0 c j x:=by
  apply Classical.byContradiction
  intro hn
  exact hd fun i j a b e=>hn ⟨i,j,a,b,e⟩
 obtain⟨i,j,a,b,e⟩:=this
 exact bq3 a e (aS6 h j al)
theorem ay3{c:c8}{i:Nat}(h:i<c.list.length):t7 (N2 c) i=U2 c (t7 c i):=by
 rw[t3 h,t3 (by rw[ae0];exact h)]
 simp[N2]
theorem a64{c:c8}{x:Int}(h:F2 c x):isJ (N2 c) x=isJ c x:=by
 unfold isJ
 rw[ay3 (by have:=h.1;have:=h.2;omega),bI3]
theorem bg1{c:c8}(hc:j7 c=true){t:Int}(ht:F2 c t):H4 (N2 c) (H4 c t)=H4 c t:=by
 cases hj:isJ c (A0 c c.list.length t)
 ·have e:H4 c t=A0 c c.list.length t:=by unfold H4;rw[hj];simp
  rw[e]
  have hf:isJ (N2 c) (A0 c c.list.length t)=false:=by rw[a64 (ae7 hc _ _ ht)];exact hj
  unfold H4
  rw[O0 hf,hf];simp
 have e:H4 c t=t:=by unfold H4;rw[hj];simp
 rw[e]
 have key:∀(k:Nat) (x:Int),F2 c x->(∀m,isJ c (A0 c m x)=true)->isJ (N2 c) (A0 (N2 c) k x)=true:=by
  intro k
  induction k with
  |zero=>intro x hx hv;rw[A0,a64 hx];exact hv 0
  | succ k ih =>
   intro x hx hv
   have hj0:isJ c x=true:=hv 0
   have hxl:x.toNat<c.list.length:=by have:=hx.1;have:=hx.2;omega
   rw[R1 (by rw[a64 hx];exact hj0),ay3 hxl]
   have hop:(t7 c x.toNat).op=8:=by unfold isJ at hj0;simpa using hj0
   have hpl:=aJ2 hc hx hj0
   have htg:l0 (t7 c x.toNat)=(t7 c x.toNat).a:=by unfold l0;rw[if_pos hop]
   have hv1:∀m,isJ c (A0 c m (t7 c x.toNat).a)=true:=fun m=>by have:=hv (m+1);rwa[R1 hj0]at this
   have hfin:H4 c (t7 c x.toNat).a=(t7 c x.toNat).a:=by unfold H4;rw[hv1];simp
   have ha:(U2 c (t7 c x.toNat)).a=(t7 c x.toNat).a:=by
    unfold U2
    rw[htg,if_pos hpl.1,hfin]
    unfold O2;rw[if_pos hop]
   rw[ha]
   exact ih _ hpl hv1
 have:=key (N2 c).list.length t ht (bq4 hc ht hj)
 unfold H4
 rw[this];simp
theorem bV7{c:c8}(hc:j7 c=true):N2 (N2 c)=N2 c:=by
 unfold N2
 simp only[c8.mk.injEq,true_and,List.map_map]
 apply List.map_congr_left
 intro x hx
 obtain⟨i,hi,rfl⟩:=List.getElem_of_mem hx
 have hok:=(k8 hc).2.2.2.1 i hi
 show U2 (N2 c) (U2 c c.list[i])=U2 c c.list[i]
 by_cases ht:0<=l0 c.list[i]
 ·have hp:F2 c (l0 c.list[i]):=⟨ht,ab5 hok ht⟩
  have e:U2 c c.list[i]=O2 c.list[i] (H4 c (l0 c.list[i])):=by unfold U2;rw[if_pos ht]
  rw[e]
  unfold U2
  rw[b28 ht,if_pos (aF6 hc hp).1,b29,bg1 hc hp]
 have e:U2 c c.list[i]=c.list[i]:=by unfold U2;rw[if_neg ht]
 rw[e]
 unfold U2;rw[if_neg ht]
theorem bA4{c:c8}(hc:j7 c=true)(h:(P9 c).list.length=c.list.length):P9 c=c:=by
 have hkl:=aI9 c
 have h':R5 (R0 c) c.list.length=c.list.length:=by rw[<-aW9 c _ _ al];exact h
 have hall:∀b∈R0 c,b=true:=by
  have:(R0 c).count true=(R0 c).length:=by
   unfold R5 at h';rw[cw7 al]at h';omega
  intro b hb
  exact(List.count_eq_length.1 this b hb).symm
 have hget:∀i,i<c.list.length->(R0 c).getD i false=true:=fun i hi=>by
  rw[cv8,cv6 al,Option.getD_some]
  exact hall _ (cx9 _)
 have hp:∀i,i<=c.list.length->R5 (R0 c) i=i:=by
  intro i
  induction i with
  |zero=>intro _;exact am6 _
  |succ i ih=>intro hi;rw[X9 _ _ al,ih al,if_pos (hget i al)]
 have htr:∀i,i<c.list.length->trI (R0 c) (t7 c i)=t7 c i:=by
  intro i hi
  rw[t3 hi]
  unfold trI
  split
  ·rename_i ht
   have:=ab5 ((k8 hc).2.2.2.1 i hi) ht
   rw[hp _ al,show((l0 c.list[i]).toNat:Int)=l0 c.list[i] by omega]
   exact bU8 ht
  rfl
 have key:∀k,k<=c.list.length->t9 c (R0 c) k=c.list.take k:=by
  intro k
  induction k with
  |zero=>intro _;simp[ah6]
  |succ k ih=>
   intro hk
   rw[af9 (hget k al),ih al,htr k al,t3 al,D6 _ _ al]
 unfold P9
 rw[key _ (cv7 _),cw7 (cv7 _)]
noncomputable def ag4(c:c8):c8:=P9 (N2 c)
theorem aI6{c:c8}(hc:j7 c=true):j7 (ag4 c)=true:=bV6 (a25 hc)
inductive Opt:c8->c8->Prop
 |stop {c:c8}:ag4 c=c->Opt c c
 |step {c r:c8}:ag4 c≠c->Opt (ag4 c) r->Opt c r
theorem a48{c r s:c8}(h:Opt c r):Opt c s->r=s:=by
 induction h with
 |stop h=>intro k;cases k with
  |stop=>rfl
  |step k _=>exact absurd h k
 |step h _ ih=>intro k;cases k with
  |stop k=>exact absurd k h
  |step _ k=>exact ih k
theorem bM6(c:c8):(ag4 c).list.length<=c.list.length:=by
 have:=aM0 (N2 c) (R0 (N2 c)) (N2 c).list.length
 rw[ae0]at this
 unfold ag4 P9
 rw[ae0]
 exact this
open Classical in
noncomputable def au1(c:c8):Nat:=2*c.list.length+(if N2 c=c then 0 else 1)
theorem bv9{c:c8}(hc:j7 c=true)(h:ag4 c≠c):au1 (ag4 c)<au1 c:=by
 have hl:=bM6 c
 by_cases he:(ag4 c).list.length=c.list.length
 ·have e:ag4 c=N2 c:=bA4 (a25 hc) (by rw[ae0];exact he)
  have h1:au1 (ag4 c)=2*c.list.length:=by
   unfold au1
   rw[he,e,if_pos (bV7 hc)];simp
  have h2:au1 c=2*c.list.length+1:=by
   unfold au1
   rw[if_neg (by rw[<-e];exact h)]
  omega
 have h1:au1 (ag4 c)<=2*(ag4 c).list.length+1:=by unfold au1;split<;>omega
 have h2:2*c.list.length<=au1 c:=by unfold au1;split<;>omega
 omega
theorem b94:∀(m:Nat) (c:c8),au1 c<=m->j7 c=true->∃r,Opt c r/\j7 r=true:=by
 intro m
 induction m using Nat.strongRecOn with
 |_ m ih=>
  intro c hm hc
  by_cases h:ag4 c=c
  ·exact⟨c,.stop h,hc⟩
  obtain⟨r,h1,h2⟩:=ih (au1 (ag4 c)) (by have:=bv9 hc h;omega) _ (cv7 _) (aI6 hc)
  exact⟨r,.step h h1,h2⟩
open Classical in
noncomputable def ax5(c:c8):c8:=if h:∃r,Opt c r then Classical.choose h else c
theorem ag5{c:c8}(hc:j7 c=true):Opt c (ax5 c)/\j7 (ax5 c)=true:=by
 obtain⟨r,h1,h2⟩:=b94 _ c (cv7 _) hc
 have hex:∃r,Opt c r:=⟨r,h1⟩
 have e:Opt c (ax5 c):=by unfold ax5;rw[dif_pos hex];exact Classical.choose_spec hex
 exact⟨e,by rw[<-a48 h1 e];exact h2⟩
theorem bC4{c:c8}(hc:j7 c=true)(h:ag4 c=c):ax5 c=c:=a48 (ag5 hc).1 (.stop h)
theorem bC5{c:c8}(hc:j7 c=true)(h:ag4 c≠c):ax5 (ag4 c)=ax5 c:=by
 have h1:=(ag5 (aI6 hc)).1
 exact(a48 (ag5 hc).1 (.step h h1)).symm
theorem bB8{f:Nat->List Bool}{n:Nat}{i:Int}(h:i.toNat<n):rowAt ((cx0 n).map f) i=f i.toNat:=by simp[rowAt,h]
theorem aY1{m:List (List Bool)}{i:Int}(h:m.length<=i.toNat):rowAt m i=[]:=by simp[rowAt,h]
noncomputable def aa1(c:c8)(i:Nat):List Bool:=open Classical in if ∀p,T1 c p->(rowAt p i).length≠0 then(cx0 14).map fun k=>decide (∀p,T1 c p->(rowAt p i).getD k false=true)else []
noncomputable def aO5(c:c8):List (List Bool):=(cx0 c.list.length).map (aa1 c)
theorem aZ2(c:c8)(i:Nat):(aa1 c i).length=0\/(aa1 c i).length=14:=by
 unfold aa1;split<;>simp
theorem ax9{c:c8}{i:Nat}:(aa1 c i).length≠0↔∀p,T1 c p->(rowAt p i).length≠0:=by
 unfold aa1;split
 ·rename_i h;simp only[List.length_map,List.length_range,ne_eq,Nat.reduceEqDiff,not_false_eq_true,true_iff];exact h
 rename_i h;simp only[cw6,ne_eq,not_true_eq_false,false_iff];exact h
theorem bd4{c:c8}{i:Nat}{p:List (List Bool)}(hp:T1 c p):rle (aa1 c i) (rowAt p i):=by
 intro k hk
 unfold aa1 at hk
 split at hk
 ·rcases cx7 k 14 with h1|h1
  ·simp[cv8,h1]at hk
   exact hk p hp
  simp[cv8,h1]at hk
 simp at hk
theorem bO7{c:c8}{i:Nat}{t:List Bool}(ht:t.length=14)(h0:∀p,T1 c p->(rowAt p i).length≠0)(h:∀p,T1 c p->rle t (rowAt p i)):rle t (aa1 c i):=by
 intro k hk
 have h1:k<14:=by
  rcases cx7 k 14 with h1|h1
  ·exact h1
  rw[cv8,cy1 al]at hk;simp at hk
 unfold aa1
 rw[if_pos h0]
 simp[cv8,h1]
 intro p hp
 have:=h p hp k hk
 rwa[cv8]at this
theorem bO6{c:c8}(hc:j7 c=true):∃m,K2 c m:=by
 have hn:=(k8 hc).2.1
 have hlen:(aO5 c).length=c.list.length:=by simp[aO5]
 have hat:∀i:Nat,i<c.list.length->rowAt (aO5 c) i=aa1 c i:=fun i hi=>by
  have:=bB8 (f:=aa1 c) (n:=c.list.length) (i:=(i:Int)) al
  simpa[aO5]using this
 have hoff:∀i:Nat,c.list.length<=i->rowAt (aO5 c) i=[]:=fun i hi=>aY1 (by rw[hlen];omega)
 refine⟨aO5 c,⟨hlen,?_,?_,?_⟩,?_⟩
 ·rw[cw3]
  intro r hr
  simp only[aO5,List.mem_map,cz5]at hr
  obtain⟨i,_,rfl⟩:=hr
  simp only[as1,cz9,decide_eq_true_eq]
  exact aZ2 c i
 ·have:=hat 0 al
  rw[show((0:Nat):Int)=0 from rfl]at this
  rw[this,ax9]
  exact fun p hp=>hp.2.2.1
 ·intro i hi
  rw[hlen]at hi
  unfold T4
  rw[hat i hi]
  rcases Nat.eq_zero_or_pos (aa1 c i).length with h0|h0
  ·rw[decide_eq_true h0];rfl
  rw[decide_eq_false al,Bool.false_or,cw3]
  intro t ht
  have ho:=as2 hc al ht
  have h14:(aa1 c i).length=14:=by have:=aZ2 c i;omega
  have key:∀p,T1 c p->R8 (s8 c (t7 c i) (aa1 c i)) (rowAt p t)=true:=by
   intro p hp
   have h1:=hp.2.2.2 i (by rw[hp.1];exact hi)
   have hne:(rowAt p i).length≠0:=ax9.1 al p hp
   have h2:(rowAt p i).length=14:=by have:=I7 hp.2.1 i;omega
   unfold T4 at h1
   rw[decide_eq_false hne,Bool.false_or,cw3]at h1
   have h3:=(E9 _ _).1 (h1 t ht)
   exact(E9 _ _).2 ⟨h3.1,(aG3 al (bd4 hp)).trans h3.2⟩
  obtain⟨y,rfl⟩:=Int.eq_ofNat_of_zero_le ho.1
  rw[hat y al]
  refine(E9 _ _).2 ⟨Nat.pos_of_ne_zero (ax9.2 fun p hp=>?_),bO7 (by rw[ad3];exact h14) (fun p hp=>?_) fun p hp=>?_⟩
  ·have:=((E9 _ _).1 (key p hp)).1;omega
  ·have:=((E9 _ _).1 (key p hp)).1;omega
  exact((E9 _ _).1 (key p hp)).2
 intro p hp i
 rcases cx7 i c.list.length with hi|hi
 ·rw[hat i hi]
  rcases Nat.eq_zero_or_pos (aa1 c i).length with h0|h0
  ·exact .inl h0
  exact .inr ⟨ax9.1 al p hp,bd4 hp⟩
 rw[hoff i hi];exact .inl rfl
theorem bC3{c:c8}{x:d8}{t u:List Bool}(h:rle t u)(hu:F4 c x u=0):F4 c x t=0:=by
 have hb:=bi5 h
 have nb:∀k,bAt u k=false->bAt t k=false:=fun k hk=>by
  cases e:bAt t k
  ·rfl
  rw[hb k e]at hk;cases hk
 unfold F4 at hu ⊢
 split
 ·rename_i h3
  rw[if_pos h3]at hu
  cases e:bAt t x.b
  ·rfl
  rw[hb _ e]at hu;exact hu
 rename_i h3
 rw[if_neg h3]at hu
 split
 ·rename_i h4
  rw[if_pos h4]at hu
  cases e:bAt t x.c
  ·rfl
  rw[hb _ e]at hu;exact hu
 rename_i h4
 rw[if_neg h4]at hu
 split
 ·rename_i h5
  rw[if_pos h5]at hu
  cases e:bAt u x.b
  ·rw[nb _ e]
   rw[e]at hu
   cases e2:bAt t x.c
   ·rfl
   rw[hb _ e2]at hu;exact hu
  rw[e]at hu;simp at hu
 rename_i h5
 rw[if_neg h5]at hu
 split
 ·rename_i h9
  rw[if_pos h9]at hu
  cases e:bAt t x.a
  ·rfl
  rw[hb _ e]at hu;exact hu
 rfl
theorem V8{c:c8}{m:List (List Bool)}:K3 c m m.length=false↔∀i:Nat,i<m.length->(rowAt m i).length=0\/F4 c (t7 c i) (rowAt m i)=0:=by
 unfold K3
 rw[Bool.eq_false_iff,ne_eq,List.any_eq_true]
 constructor
 ·intro h i hi
  rcases Nat.eq_zero_or_pos (rowAt m i).length with h0|h0
  ·exact .inl h0
  right
  by_cases e:F4 c (t7 c i) (rowAt m i)=0
  ·exact e
  exact absurd ⟨i,cz5.2 hi,by unfold badAt;rw[decide_eq_true h0,decide_eq_true e];rfl⟩ h
 rintro h ⟨i,hi,hb⟩
 simp only[badAt,cv4,decide_eq_true_eq]at hb
 rcases h i (cz5.1 hi)with h1|h1
 ·omega
 exact hb.2 h1
theorem aR4{c:c8}{m:List (List Bool)}:(H3 c m).1=0↔K3 c m m.length=false:=by
 have h:=bf9 c m
 constructor
 ·intro e
  rw[decide_eq_true e]at h
  simpa using h.symm
 intro e
 rw[e]at h
 simpa using h
def Vf(c:c8):Prop:=∃p,T1 c p/\K3 c p p.length=false
theorem a97{c:c8}{m:List (List Bool)}(hm:K2 c m):(H3 c m).1=0↔Vf c:=by
 constructor
 ·intro h;exact⟨m,hm.1,aR4.1 h⟩
 rintro⟨p,hp,hb⟩
 refine aR4.2 (V8.2 fun i hi=>?_)
 rcases hm.2 p hp i with h0|⟨h0,h1⟩
 ·exact .inl h0
 rcases V8.1 hb i (by rw[hp.1, <-hm.1.1];exact hi)with h4|h4
 ·omega
 exact .inr (bC3 h1 h4)
theorem aS1{r s t:List Bool}(h:R8 r s=true)(k:R8 s t=true):R8 r t=true:=by
 rw[E9]at*
 exact⟨k.1,h.2.trans k.2⟩
theorem aT9(c:c8){x:d8}(h:x.op=8)(t:List Bool):s8 c x t=t:=by
 unfold s8 J0
 simp[h]
theorem am4{c:c8}{p:List (List Bool)}(hp:T1 c p){i:Int}(h0:0<=i)(hi:i<c.list.length)(hne:(rowAt p i).length≠0){t:Int}(ht:t∈nx c i):R8 (s8 c (t7 c i.toNat) (rowAt p i)) (rowAt p t)=true:=by
 obtain⟨y,rfl⟩:=Int.eq_ofNat_of_zero_le h0
 have h1:=hp.2.2.2 y (by rw[hp.1];omega)
 unfold T4 at h1
 rw[decide_eq_false hne,Bool.false_or,cw3]at h1
 exact h1 t ht
theorem aB6{c:c8}(hc:j7 c=true){p:List (List Bool)}(hp:T1 c p){i:Int}(hr:Rc c i):(rowAt p i).length≠0:=by
 induction hr with
 |zero=>exact hp.2.2.1
 | @step i t hi ht ih =>
  have hi0:=Rc.nonneg hc hi
  have hy:i<c.list.length:=by
   rcases(show i<c.list.length\/(c.list.length:Int)<=i by omega)with h1|h1
   ·exact h1
   rw[aY1 (by rw[hp.1];omega)]at ih;simp at ih
  have:=((E9 _ _).1 (am4 hp hi0 hy ih ht)).1
  omega
theorem bY6{c:c8}{t:Int}(ht:F2 c t)(hj:isJ c t=true):(t7 c t.toNat).a∈nx c t:=by
 have hl:t.toNat<c.list.length:=by have:=ht.1;have:=ht.2;omega
 unfold isJ at hj
 rw[decide_eq_true_eq,t3 hl]at hj
 rw[aY7 hl,t3 hl]
 unfold D0
 rw[if_neg al,if_pos hj]
 simp
theorem a00{c:c8}(hc:j7 c=true){p:List (List Bool)}(hp:T1 c p){r:List Bool}:∀(k:Nat) (t:Int),F2 c t->R8 r (rowAt p t)=true->R8 r (rowAt p (A0 c k t))=true
 |0,_,_,h=>h
 |k+1,t,ht,h=>by
  cases hj:isJ c t
  ·rw[O0 hj];exact h
  rw[R1 hj]
  have h1:=am4 hp ht.1 ht.2 (by have:=((E9 _ _).1 h).1;omega) (bY6 ht hj)
  rw[aT9 c (by unfold isJ at hj;simpa using hj)]at h1
  exact a00 hc hp k _ (aJ2 hc ht hj) (aS1 h h1)
theorem bE3{c:c8}(hc:j7 c=true){p:List (List Bool)}(hp:T1 c p){r:List Bool}{t:Int}(ht:F2 c t)(h:R8 r (rowAt p t)=true):R8 r (rowAt p (H4 c t))=true:=by
 unfold H4
 split
 ·exact h
 exact a00 hc hp _ _ ht h
theorem a05(c:c8){x:d8}(h:0<=l0 x)(t:Int)(r:List Bool):s8 c (O2 x t) r=s8 c x r:=by
 have ho:x.op=8\/x.op=9\/x.op=10:=by
  unfold l0 at h
  split at h
  ·exact .inl ai
  split at h
  ·exact .inr ai
  omega
 have hb:∀y:d8,y.op=x.op->J0 c y r=none:=fun y hy=>by
  unfold J0
  rw[hy]
  rw[if_neg al,if_neg al,if_neg al,if_neg al,if_neg al]
 unfold s8
 rw[hb _ (a85 x t),hb x rfl]
theorem bz7(c:c8){x:d8}(h:0<=l0 x)(t:Int)(r:List Bool):F4 c (O2 x t) r=F4 c x r:=by
 unfold l0 at h
 by_cases h8:x.op=8
 ·unfold O2 F4
  simp[h8]
 rw[if_neg h8]at h
 by_cases h9:x.op=9\/x.op=10
 ·have n3:¬x.op=3:=al
  have n4:¬x.op=4:=al
  have n5:¬x.op=5:=al
  unfold O2 F4
  rw[if_neg h8,if_pos h9]
  simp only
  rw[if_neg n3,if_neg n4,if_neg n5,if_pos h9,if_neg n3,if_neg n4,if_neg n5]
 rw[if_neg h9]at h;omega
theorem bj3{x:d8}(h:0<=l0 x)(t i j y:Int)(hy:y∈D0 (O2 x t) j):y=t\/(y=j+1/\i+1∈D0 x i):=by
 unfold l0 at h
 by_cases h8:x.op=8
 ·unfold O2 D0 at hy
  simp[h8]at hy
  exact .inl hy
 rw[if_neg h8]at h
 by_cases h9:x.op=9\/x.op=10
 ·unfold O2 D0 at hy
  rw[if_neg h8,if_pos h9]at hy
  simp only at hy
  rw[if_neg al,if_neg h8,if_pos h9]at hy
  simp only[cz2,List.not_mem_nil,or_false]at hy
  rcases hy with rfl|rfl
  ·right
   refine⟨rfl,?_⟩
   unfold D0
   rw[if_neg al,if_neg h8,if_pos h9]
   simp
  exact .inl rfl
 rw[if_neg h9]at h;omega
theorem bn6{x:d8}(_h:¬0<=l0 x)(hx:x.op≠8/\x.op≠9/\x.op≠10)(i j y:Int)(hy:y∈D0 x j):y=j+1/\i+1∈D0 x i:=by
 unfold D0 at hy ⊢
 split at hy
 ·simp at hy
 rename_i h13
 have n9:¬(x.op=9\/x.op=10):=al
 rw[if_neg hx.1,if_neg n9]at hy
 rw[if_neg h13,if_neg hx.1,if_neg n9]
 simp at hy ⊢
 exact hy
theorem ca3{c:c8}{x:d8}(hx:A8 c x=true)(h:¬0<=l0 x):x.op≠8/\x.op≠9/\x.op≠10:=by
 have:=aM2 hx
 refine⟨fun e=>?_,fun e=>?_,fun e=>?_⟩
 ·exact h (this (.inl e)).1
 ·exact h (this (.inr (.inl e))).1
 exact h (this (.inr (.inr e))).1
theorem b67{c:c8}(hc:j7 c=true)(h:Vf c):Vf (N2 c):=by
 obtain⟨p,hp,hb⟩:=h
 have hn:(N2 c).list.length=c.list.length:=ae0 c
 have haf:∀x r,s8 (N2 c) x r=s8 c x r:=fun _ _=>rfl
 have how:∀x r,F4 (N2 c) x r=F4 c x r:=fun _ _=>rfl
 refine⟨p,⟨hp.1.trans hn.symm,hp.2.1,hp.2.2.1,fun i hi=>?_⟩,V8.2 fun i hi=>?_⟩
 ·rw[hp.1]at hi
  unfold T4
  rcases Nat.eq_zero_or_pos (rowAt p i).length with h0|h0
  ·rw[decide_eq_true h0];rfl
  rw[decide_eq_false al,Bool.false_or,cw3,ay3 hi]
  intro t ht
  have hx:=(k8 hc).2.2.2.1 i hi
  have hnx:nx (N2 c) (i:Int)=D0 (U2 c (t7 c i)) i:=by
   rw[am9 al]
   have:=ay3 hi
   rw[t3 al]at this
   rw[this]
  rw[hnx]at ht
  have hold:∀t,t∈D0 (t7 c i) (i:Int)->R8 (s8 c (t7 c i) (rowAt p i)) (rowAt p t)=true:=fun t ht=>by
   have:=am4 hp (i:=(i:Int)) al al al (t:=t) (by rw[am9 hi, <-t3 hi];exact ht)
   simpa using this
  rw[<-t3 hi]at hx
  rw[haf]
  unfold U2 at ht ⊢
  split at ht
  ·rename_i h0
   rw[if_pos h0,a05 c h0]
   rcases bj3 h0 _ i i t ht with rfl|⟨rfl,h1⟩
   ·exact bE3 hc hp ⟨h0,ab5 hx h0⟩ (hold _ (aM3 h0 i))
   exact hold _ h1
  rename_i h0
  rw[if_neg h0]
  exact hold t ht
 rw[hp.1]at hi
 rcases V8.1 hb i (by rw[hp.1];exact hi)with h0|h0
 ·exact .inl h0
 right
 rw[ay3 hi,how]
 unfold U2
 split
 ·rw[bz7 c ai];exact h0
 exact h0
def aa3{α:Type}(f:Nat->α)(ks:List Bool)(k:Nat):List α:=(cx0 k).flatMap fun i=>if ks.getD i false=true then [f i]else []
theorem aC0{α:Type}{f:Nat->α}{ks:List Bool}{k:Nat}(h:ks.getD k false=true):aa3 f ks (k+1)=aa3 f ks k++[f k]:=by
 unfold aa3
 rw[List.range_succ,List.flatMap_append]
 simp only[List.flatMap_cons,List.flatMap_nil,List.append_nil]
 rw[if_pos h]
theorem aP8{α:Type}{f:Nat->α}{ks:List Bool}{k:Nat}(h:ks.getD k false=false):aa3 f ks (k+1)=aa3 f ks k:=by
 unfold aa3
 rw[List.range_succ,List.flatMap_append]
 simp only[List.flatMap_cons,List.flatMap_nil,List.append_nil]
 rw[if_neg (by rw[h];decide),List.append_nil]
theorem aC1{α:Type}(f:Nat->α)(ks:List Bool):∀k,k<=ks.length->(aa3 f ks k).length=R5 ks k:=by
 intro k
 induction k with
 |zero=>intro _;simp[aa3,am6]
 |succ k ih=>
  intro h
  rw[X9 ks k al]
  cases hk:ks.getD k false
  ·rw[aP8 hk,ih al];simp
  rw[aC0 hk,cv9,ih al];simp
theorem be0{α:Type}(f:Nat->α)(ks:List Bool){j:Nat}(hk:ks.getD j false=true):∀n,j<n->n<=ks.length->(aa3 f ks n)[R5 ks j]? =some (f j):=by
 intro n
 induction n with
 |zero=>intro h;omega
 | succ n ih =>
  intro hj hn
  by_cases e:j=n
  ·subst e
   rw[aC0 hk, <-aC1 f ks j al]
   simp
  have h1:=ih al al
  cases hk2:ks.getD n false
  ·rw[aP8 hk2];exact h1
  rw[aC0 hk2]
  obtain⟨hl,_⟩:=cw5.1 h1
  rw[cw8 hl];exact h1
theorem bL7(ks:List Bool):∀n,n<=ks.length->∀q,q<R5 ks n->∃j,j<n/\ks.getD j false=true/\R5 ks j=q:=by
 intro n
 induction n with
 |zero=>intro _ q hq;rw[am6]at hq;omega
 | succ n ih =>
  intro hn q hq
  rw[X9 ks n al]at hq
  by_cases h1:q<R5 ks n
  ·obtain⟨j,a,b,e⟩:=ih al q h1
   exact⟨j,al,b,e⟩
  split at hq
  ·exact⟨n,al,ai,al⟩
  omega
theorem bV4{c:c8}(hc:j7 c=true)(h:Vf c):Vf (P9 c):=by
 obtain⟨p,hp,hb⟩:=h
 have hkl:=aI9 c
 have hn:=(k8 hc).2.1
 have htl:(P9 c).list=aa3 (fun i=>trI (R0 c) (t7 c i)) (R0 c) c.list.length:=rfl
 have hdl:(P9 c).list.length=R5 (R0 c) c.list.length:=by rw[htl,aC1 _ _ _ al]
 have hpl:(aa3 (fun i=>rowAt p (i:Int)) (R0 c) c.list.length).length=R5 (R0 c) c.list.length:=aC1 _ _ _ al
 have hrow:∀j,j<c.list.length->(R0 c).getD j false=true->rowAt (aa3 (fun i=>rowAt p (i:Int)) (R0 c) c.list.length) (R5 (R0 c) j:Int)=rowAt p (j:Int):=fun j hj hk=>by
  have:=be0 (fun i=>rowAt p (i:Int)) (R0 c) hk c.list.length hj al
  have h9:∀(l:List (List Bool)) (k:Nat) (r:List Bool),l[k]? =some r->rowAt l (k:Int)=r:=fun l k r h=>by
   unfold rowAt
   rw[Int.toNat_natCast,cv8,h];rfl
  exact h9 _ _ _ this
 have hins:∀j,j<c.list.length->(R0 c).getD j false=true->t7 (P9 c) (R5 (R0 c) j)=trI (R0 c) (t7 c j):=fun j hj hk=>by
  have:=be0 (fun i=>trI (R0 c) (t7 c i)) (R0 c) hk c.list.length hj al
  unfold t7
  rw[htl,cv8,this]
  rfl
 have haf:∀x r,s8 (P9 c) x r=s8 c x r:=fun _ _=>rfl
 have how:∀x r,F4 (P9 c) x r=F4 c x r:=fun _ _=>rfl
 have hgo:∀(d t:Nat) (r:List Bool),c.list.length-t=d->t<c.list.length->Rc c (t:Int)->R8 r (rowAt p (t:Int))=true->R8 r (rowAt (aa3 (fun i=>rowAt p (i:Int)) (R0 c) c.list.length) (R5 (R0 c) t:Int))=true:=by
  intro d
  induction d with
  |zero=>intro t r h1 h2;omega
  | succ d ih =>
   intro t r h1 h2 hr hcov
   cases hk:(R0 c).getD t false
   ·have hk':=hk
    rw[ai5 c t h2]at hk'
    unfold kpB at hk'
    rw[(aB3 h2).2 hr]at hk'
    simp only[Bool.true_and,cy2]at hk'
    unfold bQ6 at hk'
    simp only[cv4,decide_eq_true_eq]at hk'
    have hm:(t:Int)+1∈nx c (t:Int):=by
     rw[am9 h2, <-t3 h2]
     unfold D0
     rw[if_neg al,if_pos hk'.1,hk'.2]
     simp
    have hok:=as2 hc (Rc.nonneg hc hr) hm
    have hr1:=Rc.step hr hm
    have hcv:=am4 hp (i:=(t:Int)) al al (aB6 hc hp hr) hm
    rw[aT9 c (by simpa using hk'.1)]at hcv
    have e:(t:Int)+1=((t+1:Nat):Int):=al
    rw[e]at hr1 hok hcv
    have:=ih (t+1) r al al hr1 (aS1 hcov hcv)
    rw[X9 _ _ al,hk]at this
    simpa using this
   rw[hrow t h2 hk];exact hcov
 have hback:∀q,q<R5 (R0 c) c.list.length->∃j,j<c.list.length/\(R0 c).getD j false=true/\R5 (R0 c) j=q:=bL7 _ _ al
 have hpos:0<R5 (R0 c) c.list.length:=by
  obtain⟨j,h1,h2,h3⟩:=ap5 hc _ 0 rfl al Rc.zero
  rw[<-ai5 c j h2]at h3
  have:=bn3 (i:=0) (j:=j) (n:=c.list.length) al h2 al h3
  omega
 refine⟨aa3 (fun i=>rowAt p (i:Int)) (R0 c) c.list.length,⟨hpl.trans hdl.symm,?_,?_,fun q hq=>?_⟩,V8.2 fun q hq=>?_⟩
 ·rw[cw3]
  intro r hr
  unfold aa3 at hr
  rw[List.mem_flatMap]at hr
  obtain⟨i,_,hr⟩:=hr
  split at hr
  ·rw[cy5]at hr
   subst hr
   have:=I7 hp.2.1 (i:Int)
   simp only[as1,cz9,decide_eq_true_eq]
   exact this
  simp at hr
 ·obtain⟨j,h1,h2,h3⟩:=hback 0 hpos
  have:=hrow j h1 h2
  rw[h3]at this
  rw[show((0:Nat):Int)=0 from rfl]at this
  rw[this]
  exact aB6 hc hp (aJ1 h1 h2)
 ·rw[hpl]at hq
  obtain⟨j,h1,h2,rfl⟩:=hback q hq
  have hr:=aJ1 h1 h2
  have hne:=aB6 hc hp hr
  unfold T4
  rw[hrow j h1 h2,hins j h1 h2,decide_eq_false hne,Bool.false_or,cw3]
  intro t ht
  have hx:=(k8 hc).2.2.2.1 j h1
  rw[<-t3 h1]at hx
  have hnx:nx (P9 c) (R5 (R0 c) j:Int)=D0 (trI (R0 c) (t7 c j)) (R5 (R0 c) j:Int):=by
   have hl:R5 (R0 c) j<(P9 c).list.length:=by rw[hdl];exact hq
   rw[am9 hl, <-t3 hl,hins j h1 h2]
  rw[hnx]at ht
  have hold:∀t:Int,t∈D0 (t7 c j) (j:Int)->R8 (s8 c (t7 c j) (rowAt p (j:Int))) (rowAt (aa3 (fun i=>rowAt p (i:Int)) (R0 c) c.list.length) (R5 (R0 c) t.toNat:Int))=true:=fun t ht=>by
   have ht':t∈nx c (j:Int):=by rw[am9 h1, <-t3 h1];exact ht
   have hok:=as2 hc (Rc.nonneg hc hr) ht'
   have h5:=am4 hp (i:=(j:Int)) al al hne ht'
   obtain⟨y,rfl⟩:=Int.eq_ofNat_of_zero_le hok.1
   have:=hgo _ y _ rfl al (Rc.step hr ht') h5
   simpa using this
  have hone:R5 (R0 c) (j+1)=R5 (R0 c) j+1:=by rw[X9 _ _ al,if_pos h2]
  rw[haf]
  unfold trI at ht ⊢
  split at ht
  ·rename_i h0
   rw[if_pos h0,a05 c h0]
   rcases bj3 h0 _ j _ t ht with rfl|⟨rfl,h3⟩
   ·exact hold _ (aM3 h0 j)
   have:=hold _ h3
   rw[show((j:Int)+1).toNat=j+1 by omega,hone]at this
   rw[show((R5 (R0 c) j:Int)+1)=((R5 (R0 c) j+1:Nat):Int) by omega]
   exact this
  rename_i h0
  rw[if_neg h0]
  obtain⟨rfl,h3⟩:=bn6 h0 (ca3 hx h0) j _ t ht
  have:=hold _ h3
  rw[show((j:Int)+1).toNat=j+1 by omega,hone]at this
  rw[show((R5 (R0 c) j:Int)+1)=((R5 (R0 c) j+1:Nat):Int) by omega]
  exact this
 rw[hpl]at hq
 obtain⟨j,h1,h2,rfl⟩:=hback q hq
 rw[hrow j h1 h2,hins j h1 h2,how]
 rcases V8.1 hb j (by rw[hp.1];exact h1)with h0|h0
 ·exact .inl h0
 right
 unfold trI
 split
 ·rw[bz7 c ai];exact h0
 exact h0
theorem b68{c r:c8}(h:Opt c r):j7 c=true->Vf c->Vf r:=by
 induction h with
 |stop h=>intro _ hv;exact hv
 |step h _ ih=>intro hc hv;exact ih (aI6 hc) (bV4 (a25 hc) (b67 hc hv))
theorem bM5{c:c8}(hc:j7 c=true)(h:Vf c):Vf (ax5 c):=b68 (ag5 hc).1 hc h
end Go.Proofs.YtfbeblgnjeokaaaGreat
