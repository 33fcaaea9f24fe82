/- Part 2: functions on the way, plain laws. Conditions: as said. -/
import Derived.Test.YtfbeblgnjeokaaaGreatRows
import Derived.OpenShut
import Derived.ChangeOld
import Derived.Deep.Slices
import Derived.Lib.SmallJoins
import Derived.Deep.QuietTactic
import Derived.BigQuiet
import Derived.StillTailTactics
import Derived.Deep.RegionHeld3
import Derived.WalkSpells
import Derived.Lib.SliceRun
import Derived.Deep.DeepCutAuto
import Derived.Test.YtfbeblgnjeokaaaGreatK1
set_option maxRecDepth 100000
set_option maxHeartbeats 16000000
set_option linter.unusedVariables false
set_option linter.unusedSimpArgs false
open Array renaming replicate → cq0
open Bool renaming and_eq_true → cm9, eq_iff_iff → cq3, or_eq_true → cr2
open List renaming all_eq_true → cn8, eq_nil_of_length_eq_zero → co7, getD_eq_getElem?_getD → cn2, getElem?_append_left → co2, getElem?_append_right → cp9, getElem?_cons_succ → cn5, getElem?_cons_zero → cn1, getElem?_eq_getElem → cn0, getElem?_eq_some_iff → co0, getElem?_replicate → cr1, getElem?_set → cr5, getElem_mem → co6, length_append → cn3, length_cons → cn6, length_nil → co1, length_replicate → co5, length_set → cp3, map_cons → cq5, mem_append → cp2, mem_of_getElem? → cp6, mem_range → cq6, mem_singleton → cq2, range → co4, replicate → cm8, set_cons_succ → cp8, set_cons_zero → cq1, take_of_length_le → co3
open Nat renaming le_refl → cn4, le_trans → cp4, lt_of_lt_of_le → cq4, lt_or_ge → cp1, mul_le_mul_right → cr3, succ_mul → cq7, zero_add → cr4, zero_le → cp5

namespace Go.Proofs.YtfbeblgnjeokaaaGreat
open Go Go.RowKit Go.ChangeShapes Go.WideShapes Go.Deep
theorem own:ownKnob Tryz.prog.godebug=none:=aj
theorem bP9:laidOutB Tryz.prog=true:=aj
section
variable{H:Type}{enc:TypeId×Value->H}{W:World}
theorem bH3{C:Nat->List Value}{sz:Nat}(hC:∀i,(C i).length=sz):∀(n i j:Nat),i<n->j<sz->((co4 n).flatMap C)[i*sz+j]? =(C i)[j]? :=by
 intro n
 induction n with
 |zero=>intro i j h;omega
 | succ n ih =>
  intro i j h hj
  have hlen:((co4 n).flatMap C).length=n*sz:=by
   clear ih h
   induction n with
   |zero=>simp
   |succ n ih2=>rw[List.range_succ,List.flatMap_append,cn3,ih2];simp[hC,cq7]
  rw[List.range_succ,List.flatMap_append]
  by_cases hin:i<n
  ·rw[co2 (by rw[hlen];have:=cr3 sz (Nat.succ_le_of_lt hin);rw[cq7]at this;omega)]
   exact ih i j hin hj
  obtain rfl:i=n:=al
  rw[cp9 al,hlen]
  simp
theorem a87{C:Nat->List Value}{sz:Nat}(hC:∀i,(C i).length=sz)(n:Nat):((co4 n).flatMap C).length=n*sz:=by
 induction n with
 |zero=>simp
 |succ n ih2=>rw[List.range_succ,List.flatMap_append,cn3,ih2];simp[hC,cq7]
theorem a51{t e:TypeId}{fuel:Nat}{v:Value}{x:DataW H×List MemPlace}{sz:Nat}(ht:Tryz.prog.underlying t=some (.slice e))(hc:Tryz.prog.cellsOf e=sz)(hsz:0<sz)
  (h:DataW.trod enc Tryz.prog W 0 (fun _=>true) true fuel t [v]=some x):
  ∃(n m:Nat) (C:Nat->List Value),I6 W v n sz ((co4 n).flatMap C)/\(∀i,(C i).length=sz)/\∀i,i<n->∃y,DataW.trod enc Tryz.prog W 0 (fun _=>true) true m e (C i)=some y:=by
 rcases open_slice ht h with⟨hcs,_⟩|⟨a,len,cap,m,k,D,Pl,hcs,_,hl,hm,hmm,_,hx⟩
 ·cases hcs
  exact⟨0,0,fun _=>cm8 sz undef,I6.nil _ _,ao,fun i hi=>by omega⟩
 cases hcs
 rw[hc]at hx
 have hmc:len<=m:=by rw[hmm];simp;omega
 obtain⟨C,hC⟩:=choose_lt (α:=List Value) (n:=len) (p:=fun i cs=>cs.length=sz/\(∀j,j<sz->W.cell? (a.add (i*sz+j))=cs[j]?)/\∃y,DataW.trod enc Tryz.prog W 0 (fun _=>true) true k e cs=some y) (fun i hi=>by
  obtain⟨cs',h1,h2⟩:=hx i al
  obtain⟨_,hlen,hcell⟩:=World.cells?_some h1
  exact⟨cs',hlen,fun j hj=>by rw[<-add_add];exact hcell j hj,_,h2⟩)
 let C':Nat->List Value:=fun i=>if i<len then C i else cm8 sz undef
 have hC':∀i,(C' i).length=sz:=fun i=>by
  by_cases hi:i<len
  ·simp only[C',if_pos hi];exact(hC i hi).1
  simp[C',if_neg hi]
 refine⟨len,k,C',⟨a87 hC' len,some a,cap,rfl,hl,hm,fun hn=>?_⟩,hC',fun i hi=>?_⟩
 ·obtain⟨b,off,spot⟩:=a
  have h00:=(hC 0 hn).2.1 0 hsz
  have hlen0:=(hC 0 hn).1
  rw[cn0 al]at h00
  have hs:spot=none:=by
   simpa[Addr.add]using World.cell?_spot h00
  subst hs
  have hb:b<W.heap.size:=by simpa[Addr.add]using World.block_lt_of_cell? W _ h00
  refine⟨b,off,rfl,hb,fun j u hj=>?_⟩
  have hjl:j<len*sz:=by have:=(co0.1 hj).1;rw[a87 hC']at this;exact this
  have hi:j/sz<len:=Nat.div_lt_of_lt_mul (by rw[Nat.mul_comm];exact hjl)
  have hr:j%sz<sz:=Nat.mod_lt _ hsz
  have hjj:j/sz*sz+j%sz=j:=Nat.div_add_mod' j sz
  have hg:=bH3 hC' len (j/sz) (j%sz) hi hr
  rw[hjj,hj]at hg
  have hcc:=(hC _ hi).2.1 _ hr
  simp only[C',if_pos hi]at hg
  rw[hjj, <-hg]at hcc
  have hadd:(⟨b,off,none⟩:Addr).add j=⟨b,off+j,none⟩:=by unfold Addr.add;split<;>simp_all
  rw[hadd]at hcc
  exact hcc
 obtain⟨y,hy⟩:=(hC i hi).2.2
 exact⟨y,by simp only[C',if_pos hi];exact hy⟩
theorem aK7{α:Type}(n:Nat)(C:Nat->List Value)(f:α->Value)(g:Nat->α)(h:∀i,i<n->C i=[f (g i)]):(co4 n).flatMap C=((co4 n).map g).map f:=by
 rw[List.map_map,List.flatMap_def]
 rw[List.map_congr_left (g:=fun i=>[f (g i)]) (fun i hi=>h i (by simpa using hi))]
 induction n with
 |zero=>simp
 |succ n ih=>
  rw[List.range_succ,List.map_append,List.flatten_append,List.map_append,ih (fun i hi=>h i al)]
  simp
end
end Go.Proofs.YtfbeblgnjeokaaaGreat

namespace Go.Proofs.YtfbeblgnjeokaaaGreat
open Go Go.RowKit
abbrev bools(l:List Bool):List Value:=l.map Value.bool
theorem t0(l:List Bool)(k:Nat)(h:k<l.length):(bools l)[k]? =some (.bool l[k]):=by simp[bools,h]
theorem aM0:(Tryz.prog.info? 4).map (fun i=>(i.zero,i.size,i.bytes))=some (some (.bool false),1,1):=aj
theorem bg7:(Tryz.prog.info? 63).map (fun i=>(i.zero,i.size,i.bytes))=some (some (.slice none 0 0),1,24):=aj
def F6(w:World)(v:Value)(m:List (List Bool)):Prop:=
 ∃vs:List Value,I6 w v m.length 1 vs/\∀(i:Nat) (u:Value) (r:List Bool),vs[i]? =some u->m[i]? =some r->I6 w u r.length 1 (bools r)
def I7(w:World)(lo hi:Nat)(v:Value)(m:List (List Bool)):Prop:=
 ∃vs:List Value,C5 w lo hi 63 1 v m.length vs/\(∀(i:Nat) (u:Value) (r:List Bool),vs[i]? =some u->m[i]? =some r->C5 w lo hi 4 1 u r.length (bools r))/\
  (∀(i j:Nat) (u u':Value),i<j->vs[i]? =some u->vs[j]? =some u'->ad7 u u')/\∀(i:Nat) (u:Value),vs[i]? =some u->ad7 u v
theorem F6.below{w w':World}{v:Value}{m:List (List Bool)}(h:F6 w v m)(hb:Below w.heap.size w w'):F6 w' v m:=by
 obtain⟨vs,h1,h2⟩:=h
 exact⟨vs,h1.below hb,fun i u r a b=>(h2 i u r a b).below hb⟩
theorem I7.row{w:World}{lo hi:Nat}{v:Value}{m:List (List Bool)}(h:I7 w lo hi v m):F6 w v m:=by
 obtain⟨vs,h1,h2,_⟩:=h
 exact⟨vs,h1.row,fun i u r a b=>(h2 i u r a b).row⟩
theorem I7.keep{w w':World}{lo hi B:Nat}{v:Value}{m:List (List Bool)}(h:I7 w lo hi v m)(hb:Below B w w')(hB:hi<=B):I7 w' lo hi v m:=by
 obtain⟨vs,h1,h2,hd⟩:=h
 exact⟨vs,h1.keep hb hB,fun i u r a b=>(h2 i u r a b).keep hb hB,hd⟩
theorem I7.out{w w':World}{lo hi lo' hi':Nat}{v:Value}{m:List (List Bool)}(h:I7 w lo hi v m)(hb:Out lo' hi' w w')(hB:hi<=lo'\/hi'<=lo):I7 w' lo hi v m:=by
 obtain⟨vs,h1,h2,hd⟩:=h
 exact⟨vs,h1.out hb hB,fun i u r a b=>(h2 i u r a b).out hb hB,hd⟩
theorem I7.wide{w:World}{lo hi lo' hi':Nat}{v:Value}{m:List (List Bool)}(h:I7 w lo hi v m)(g1:lo'<=lo)(g2:hi<=hi'):I7 w lo' hi' v m:=by
 obtain⟨vs,h1,h2,hd⟩:=h
 exact⟨vs,h1.wide g1 g2,fun i u r a b=>(h2 i u r a b).wide g1 g2,hd⟩
theorem F6.open{w:World}{v:Value}{m:List (List Bool)}(h:F6 w v m):∃a cap,v=.slice a m.length cap/\m.length<=9223372036854775807/\
  ∀i (hi:i<m.length),∃b off a' c',a=some ⟨b,off,none⟩/\b<w.heap.size/\w.cell? ⟨b,off+i,none⟩=some (.slice a' m[i].length c')/\I6 w (.slice a' m[i].length c') m[i].length 1 (bools m[i]):=by
 obtain⟨vs,h1,h2⟩:=h
 obtain⟨a,cap,hv,hc,hm,hm2,hcell⟩:=h1.open1
 refine⟨a,cap,hv,hm,fun i hi=>?_⟩
 obtain⟨b,off,ha,hb,hx⟩:=hcell i hi
 have hl:i<vs.length:=by rw[h1.1];omega
 rw[cn0 hl]at hx
 have hr:=h2 i _ _ (cn0 hl) (cn0 hi)
 obtain⟨a',c',hs⟩:=hr.form
 rw[hs]at hx hr
 exact⟨b,off,a',c',ha,hb,hx,hr⟩
end Go.Proofs.YtfbeblgnjeokaaaGreat

namespace Go.Proofs.YtfbeblgnjeokaaaGreat
open Go Go.RowKit Go.ChangeShapes Go.WideShapes Go.Deep
section
variable{H:Type}{enc:TypeId×Value->H}{W:World}
end
end Go.Proofs.YtfbeblgnjeokaaaGreat

namespace Go.Proofs.YtfbeblgnjeokaaaGreat
def scB(l:Int):Bool:=i8 l&&decide (l=1\/l=3)
def bAt(t:List Bool)(k:Int):Bool:=t.getD k.toNat false
def V9(t:List Int)(k:Int):Int:=t.getD k.toNat 0
def P5(c:d9)(x:d7)(t:List Bool):Option Bool:=
 if x.op=1\/x.op=11 then some false
 else if x.op=2 then some (scB (V9 c.vars x.b))
 else if x.op=4 then some (scB (V9 c.arrays x.b)||bAt t x.c)
 else if x.op=6 then some (bAt t x.c||bAt t x.d)
 else if x.op=7 then some (bAt t x.b||bAt t x.c||bAt t x.d)
 else none
def s8(c:d9)(x:d7)(t:List Bool):List Bool:=match P5 c x t with|some b=>t.set x.a.toNat b|none=>t
theorem Q2(c:d9)(x:d7)(t:List Bool):(s8 c x t).length=t.length:=by unfold s8;split<;>simp
def G4(c:d9)(x:d7)(t:List Bool):Int:=
 if x.op=3 then(if bAt t x.b&& !scB (V9 c.vars x.a)then 1 else 0)
 else if x.op=4 then(if bAt t x.c then 4 else 0)
 else if x.op=5 then(if bAt t x.b then 4 else if bAt t x.c&& !scB (V9 c.arrays x.a)then 1 else 0)
 else if x.op=9\/x.op=10 then(if bAt t x.a then 3 else 0)
 else 0
def L9(t row:List Bool):Bool:=decide (0<row.length)&&(co4 t.length).all fun k=> !(t.getD k false&& !row.getD k false)
theorem ag4{c:d9}{x:d7}(h:D9 c x=true):
  (x.op=1->0<=x.a/\x.a<14)/\(x.op=11->0<=x.a/\x.a<14)/\
  (x.op=2->(0<=x.a/\x.a<14)/\0<=x.b/\x.b<c.vars.length)/\
  (x.op=3->(0<=x.a/\x.a<c.vars.length)/\0<=x.b/\x.b<14)/\
  (x.op=4->(0<=x.a/\x.a<14)/\(0<=x.b/\x.b<c.arrays.length)/\0<=x.c/\x.c<14)/\
  (x.op=5->(0<=x.a/\x.a<c.arrays.length)/\(0<=x.b/\x.b<14)/\0<=x.c/\x.c<14)/\
  (x.op=6->(0<=x.a/\x.a<14)/\(0<=x.c/\x.c<14)/\0<=x.d/\x.d<14)/\
  (x.op=7->(0<=x.a/\x.a<14)/\(0<=x.b/\x.b<14)/\(0<=x.c/\x.c<14)/\0<=x.d/\x.d<14)/\
  (x.op=9->0<=x.a/\x.a<14)/\(x.op=10->0<=x.a/\x.a<14):=by
 unfold D9 at h
 simp only[cm9,decide_eq_true_eq]at h
 obtain⟨_,⟨⟨ha,hb⟩,hc⟩,hd⟩:=h
 refine⟨fun e=>?_,fun e=>?_,fun e=>?_,fun e=>?_,fun e=>?_,fun e=>?_,fun e=>?_,fun e=>?_,fun e=>?_,fun e=>?_⟩
 all_goals
  rw[e]at ha hb hc hd
  simp[m7,I2,V6]at ha hb hc hd
  omega
def D7(r:List Bool):Bool:=decide (r.length=0)||decide (r.length=14)
def x9(t row:List Bool)(k:Nat):Bool:=(co4 k).all fun j=> !(t.getD j false&& !row.getD j false)
theorem R8(t row:List Bool)(k:Nat):x9 t row (k+1)=(x9 t row k&& !(t.getD k false&& !row.getD k false)):=by
 unfold x9;rw[List.range_succ,List.all_append];simp
theorem aC2{t row:List Bool}{k:Nat}(n:Nat)(hk:k<n)(h1:t.getD k false=true)(h2:row.getD k false=false):x9 t row n=false:=by
 unfold x9
 rw[Bool.eq_false_iff]
 intro h
 have:=cn8.1 h k (cq6.2 hk)
 rw[h1,h2]at this
 simp at this
def rowAt(m:List (List Bool))(i:Int):List Bool:=m.getD i.toNat []
theorem I1{m:List (List Bool)}{i:Nat}(h:i<m.length):rowAt m i=m[i]:=by simp[rowAt,h]
def J3(c:d9)(i:Nat):d7:=c.list.getD i ⟨0,0,0,0,0⟩
theorem O1{c:d9}{i:Nat}(h:i<c.list.length):J3 c i=c.list[i]:=by simp[J3,h]
def badAt(c:d9)(m:List (List Bool))(i:Nat):Bool:=decide (0<(rowAt m i).length)&&decide (G4 c (J3 c i) (rowAt m i)≠0)
def F5(c:d9)(m:List (List Bool)):Int×Int:=match(co4 m.length).find? (badAt c m)with|some i=>(G4 c (J3 c i) (rowAt m i),(i:Int))|none=>(0,-1)
def C4(c:d9)(m:List (List Bool))(k:Nat):Bool:=(co4 k).any (badAt c m)
theorem am3(c:d9)(m:List (List Bool))(k:Nat):C4 c m (k+1)=(C4 c m k||badAt c m k):=by
 unfold C4;rw[List.range_succ,List.any_append];simp
theorem al6{c:d9}{m:List (List Bool)}(h:C4 c m m.length=false):F5 c m=(0,-1):=by
 unfold F5
 have:(co4 m.length).find? (badAt c m)=none:=by
  rw[List.find?_eq_none]
  intro x hx hb
  have:=List.any_eq_false.1 h x hx
  exact this hb
 rw[this]
theorem aC1{c:d9}{m:List (List Bool)}{k:Nat}(hk:k<m.length)(h:C4 c m k=false)(hb:badAt c m k=true):F5 c m=(G4 c (J3 c k) (rowAt m k),(k:Int)):=by
 unfold F5
 have:(co4 m.length).find? (badAt c m)=some k:=by
  rw[List.find?_range_eq_some]
  refine⟨hb,cq6.2 hk,fun j hj=>?_⟩
  have:=List.any_eq_false.1 h j (cq6.2 hj)
  simpa using this
 rw[this]
theorem aC0(c:d9)(m:List (List Bool)):decide ((F5 c m).1=0)= !C4 c m m.length:=by
 cases hb:C4 c m m.length
 ·rw[al6 hb];rfl
 unfold F5
 split
 ·rename_i i hi
  rw[List.find?_range_eq_some]at hi
  have:=hi.1
  simp only[badAt,cm9,decide_eq_true_eq]at this
  simp[this.2]
 rename_i hi
 rw[List.find?_eq_none]at hi
 obtain⟨x,hx,hy⟩:=List.any_eq_true.1 hb
 exact absurd hy (hi x hx)
def K4(c:d9)(m:List (List Bool))(i:Nat):Bool:=decide ((rowAt m i).length=0)||(nx c i).all fun t=>L9 (s8 c (J3 c i) (rowAt m i)) (rowAt m t)
def I5(c:d9)(m:List (List Bool))(k:Nat):Bool:=(co4 k).all (K4 c m)
theorem aC3(c:d9)(m:List (List Bool))(k:Nat):I5 c m (k+1)=(I5 c m k&&K4 c m k):=by
 unfold I5;rw[List.range_succ,List.all_append];simp
theorem aN4{c:d9}{m:List (List Bool)}{k:Nat}(n:Nat)(hk:k<n)(h:K4 c m k=false):I5 c m n=false:=by
 unfold I5
 rw[Bool.eq_false_iff]
 intro hh
 rw[cn8.1 hh k (cq6.2 hk)]at h
 cases h
theorem bk1{c:d9}{m:List (List Bool)}{k:Nat}(n:Nat)(hk:k<n)(h:badAt c m k=true):C4 c m n=true:=List.any_eq_true.2 ⟨k,cq6.2 hk,h⟩
def bV5(c:d9)(m:List (List Bool)):Bool:=x5 c&&decide (m.length=c.list.length)&&decide (0<(rowAt m 0).length)
def as7(c:d9)(m:List (List Bool)):Bool:=bV5 c m&&m.all D7&& !C4 c m m.length&&I5 c m m.length
theorem A7{m:List (List Bool)}(h:m.all D7=true)(i:Int):(rowAt m i).length=0\/(rowAt m i).length=14:=by
 unfold rowAt
 rcases cp1 i.toNat m.length with h1|h1
 ·have:=cn8.1 h _ (co6 h1)
  simp only[D7,cr2,decide_eq_true_eq]at this
  simpa[h1]using this
 left;simp[h1]
def rle(t u:List Bool):Prop:=∀k:Nat,t.getD k false=true->u.getD k false=true
theorem rle.refl(t:List Bool):rle t t:=fun _ h=>h
theorem rle.trans{a b c:List Bool}(h:rle a b)(g:rle b c):rle a c:=fun k x=>g k (h k x)
theorem rle.antisymm{a b:List Bool}(hl:a.length=b.length)(h:rle a b)(g:rle b a):a=b:=by
 apply List.ext_getElem hl
 intro i h1 h2
 have e1:=h i
 have e2:=g i
 simp only[cn2,cn0 h1,cn0 h2,Option.getD_some]at e1 e2
 cases ha:a[i]<;>cases hb:b[i]<;>simp_all
theorem a95(t row:List Bool):x9 t row t.length=true↔rle t row:=by
 unfold x9 rle
 rw[cn8]
 constructor
 ·intro h k hk
  rcases cp1 k t.length with h1|h1
  ·have:=h k (cq6.2 h1)
   rw[hk]at this
   simpa using this
  simp[h1]at hk
 intro h k _
 cases hk:t.getD k false
 ·rfl
 rw[h k hk];rfl
theorem K3(t row:List Bool):L9 t row=true↔0<row.length/\rle t row:=by
 have:L9 t row=(decide (0<row.length)&&x9 t row t.length):=rfl
 rw[this,cm9,decide_eq_true_eq,a95]
theorem aM8(t:List Bool)(a k:Nat)(b:Bool):(t.set a b).getD k false=if k=a/\a<t.length then b else t.getD k false:=by
 simp only[cn2,cr5]
 by_cases h:a=k
 ·subst h
  by_cases h2:a<t.length
  ·simp[h2]
  simp[h2]
 rw[if_neg h,if_neg (fun x=>h x.1.symm)]
theorem ba9{t u:List Bool}(h:rle t u)(k:Int):bAt t k=true->bAt u k=true:=h k.toNat
theorem aQ5{c:d9}{x:d7}{t u:List Bool}(h:rle t u):(P5 c x t=none/\P5 c x u=none)\/∃p q,P5 c x t=some p/\P5 c x u=some q/\(p=true->q=true):=by
 have hb:=ba9 h
 unfold P5
 by_cases h1:x.op=1\/x.op=11
 ·rw[if_pos h1,if_pos h1];exact .inr ⟨_,_,rfl,rfl,id⟩
 rw[if_neg h1,if_neg h1]
 by_cases h2:x.op=2
 ·rw[if_pos h2,if_pos h2];exact .inr ⟨_,_,rfl,rfl,id⟩
 rw[if_neg h2,if_neg h2]
 by_cases h4:x.op=4
 ·rw[if_pos h4,if_pos h4];refine .inr ⟨_,_,rfl,rfl,fun g=>?_⟩
  simp only[cr2]at g ⊢
  rcases g with g|g
  ·exact .inl g
  exact .inr (hb _ g)
 rw[if_neg h4,if_neg h4]
 by_cases h6:x.op=6
 ·rw[if_pos h6,if_pos h6];refine .inr ⟨_,_,rfl,rfl,fun g=>?_⟩
  simp only[cr2]at g ⊢
  rcases g with g|g
  ·exact .inl (hb _ g)
  exact .inr (hb _ g)
 rw[if_neg h6,if_neg h6]
 by_cases h7:x.op=7
 ·rw[if_pos h7,if_pos h7];refine .inr ⟨_,_,rfl,rfl,fun g=>?_⟩
  simp only[cr2]at g ⊢
  rcases g with(g|g)|g
  ·exact .inl (.inl (hb _ g))
  ·exact .inl (.inr (hb _ g))
  exact .inr (hb _ g)
 rw[if_neg h7,if_neg h7]
 exact .inl ⟨rfl,rfl⟩
theorem aC9{c:d9}{x:d7}{t u:List Bool}(hl:t.length=u.length)(h:rle t u):rle (s8 c x t) (s8 c x u):=by
 unfold s8
 rcases aQ5 (c:=c) (x:=x) h with⟨e1,e2⟩|⟨p,q,e1,e2,hpq⟩
 ·rw[e1,e2];exact h
 rw[e1,e2]
 intro k
 rw[aM8,aM8,hl]
 split
 ·exact hpq
 exact h k
def mle(m p:List (List Bool)):Prop:=∀i:Nat,(rowAt m i).length=0\/((rowAt p i).length≠0/\rle (rowAt m i) (rowAt p i))
def ab3(c:d9)(m:List (List Bool)):Prop:=m.length=c.list.length/\m.all D7=true/\(rowAt m 0).length≠0/\∀i:Nat,i<m.length->K4 c m i=true
def M7(c:d9)(m:List (List Bool)):Prop:=ab3 c m/\∀p,ab3 c p->mle m p
theorem aZ9{c:d9}{m p:List (List Bool)}(h:M7 c m)(g:M7 c p):m=p:=by
 have h1:=h.2 p g.1
 have h2:=g.2 m h.1
 have hl:m.length=p.length:=h.1.1.trans g.1.1.symm
 apply List.ext_getElem hl
 intro i hi hj
 have e1:=h1 i
 have e2:=h2 i
 have o1:=A7 h.1.2.1 i
 have o2:=A7 g.1.2.1 i
 rw[I1 hi]at e1 e2 o1
 rw[I1 hj]at e1 e2 o2
 have el:m[i].length=p[i].length:=al
 rcases Nat.eq_zero_or_pos m[i].length with h0|h0
 ·have e3:p[i].length=0:=al
  rw[co7 h0,co7 e3]
 rcases e1 with e1|e1
 ·omega
 rcases e2 with e2|e2
 ·omega
 exact rle.antisymm el e1.2 e2.2
structure Low(c:d9)(m:List (List Bool)):Prop where
 len:m.length=c.list.length
 ok:m.all D7=true
 first:(rowAt m 0).length≠0
 low:∀p,ab3 c p->mle m p
theorem Low.least{c:d9}{m:List (List Bool)}(h:Low c m)(hc:∀i:Nat,i<m.length->K4 c m i=true):M7 c m:=⟨⟨h.len,h.ok,h.first,hc⟩,h.low⟩
theorem C1{m:List (List Bool)}{y:Nat}(r:List Bool)(i:Int)(hy:y<m.length):rowAt (m.set y r) i=if i.toNat=y then r else rowAt m i:=by
 unfold rowAt
 simp only[cn2,cr5]
 by_cases h:y=i.toNat
 ·rw[if_pos h,if_pos h.symm];subst h;simp[hy]
 rw[if_neg h,if_neg (Ne.symm h)]
theorem Low.start{c:d9}(hn:1<=c.list.length):Low c ((cm8 c.list.length ([]:List Bool)).set 0 (cm8 14 false)):=by
 have hl:0<(cm8 c.list.length ([]:List Bool)).length:=by rw[co5];omega
 refine⟨ao,?_,?_,fun p hp i=>?_⟩
 ·rw[cn8]
  intro r hr
  rcases List.mem_or_eq_of_mem_set hr with h|h
  ·rw[(List.mem_replicate.1 h).2];rfl
  rw[h];rfl
 ·rw[C1 _ _ hl];simp
 rw[C1 _ _ hl]
 by_cases hi:i=0
 ·subst hi
  right
  refine⟨hp.2.2.1,fun k hk=>?_⟩
  exfalso
  rw[if_pos ao]at hk
  simp only[cn2,cr1]at hk
  split at hk<;>simp at hk
 left
 rw[if_neg (by simpa using hi)]
 unfold rowAt
 simp only[cn2,cr1]
 split<;>simp
theorem Low.set{c:d9}{m:List (List Bool)}(h:Low c m){y:Nat}(hy:y<m.length){r:List Bool}(hr:r.length=14)(hp:∀p,ab3 c p->(rowAt p y).length≠0/\rle r (rowAt p y)):Low c (m.set y r):=by
 refine⟨by simpa using h.len,?_,?_,fun p g i=>?_⟩
 ·rw[cn8]
  intro r' hr'
  rcases List.mem_or_eq_of_mem_set hr' with h'|h'
  ·exact cn8.1 h.ok _ h'
  rw[h'];simp[D7,hr]
 ·rw[C1 _ _ hy]
  split
  ·omega
  exact h.first
 rw[C1 _ _ hy]
 split
 ·rename_i e
  have e:i=y:=by simpa using e
  subst e
  exact .inr (hp p g)
 exact h.low p g i
theorem Low.after{c:d9}{m:List (List Bool)}(h:Low c m){i:Nat}(hi:i<m.length)(h14:(rowAt m i).length=14):∀p,ab3 c p->∀t∈nx c i,(rowAt p t).length≠0/\rle (s8 c (J3 c i) (rowAt m i)) (rowAt p t):=by
 intro p hp t ht
 have hpi:i<p.length:=by rw[hp.1, <-h.len];exact hi
 rcases h.low p hp i with h0|⟨hn,hr⟩
 ·omega
 have hc:=hp.2.2.2 i hpi
 unfold K4 at hc
 rw[cr2,decide_eq_true_eq]at hc
 rcases hc with hc|hc
 ·exact absurd hc hn
 have:=cn8.1 hc t ht
 rw[K3]at this
 have h2:=A7 hp.2.1 i
 exact⟨al,(aC9 al hr).trans this.2⟩
theorem bv2{c:d9}{m:List (List Bool)}{y j:Nat}(hy:y<m.length)(hne:j≠y){r:List Bool}(hr:r.length=14)(hle:rle (rowAt m y) r)(h:K4 c m j=true):K4 c (m.set y r) j=true:=by
 unfold K4 at h ⊢
 have ej:rowAt (m.set y r) j=rowAt m j:=by rw[C1 _ _ hy,if_neg (by simpa using hne)]
 rw[ej]
 rw[cr2,decide_eq_true_eq]at h ⊢
 rcases h with h|h
 ·exact .inl h
 right
 rw[cn8]at h ⊢
 intro t ht
 have:=h t ht
 rw[K3]at this ⊢
 rw[C1 _ _ hy]
 split
 ·rename_i e
  refine⟨al,this.2.trans ?_⟩
  rw[show rowAt m t=rowAt m y by unfold rowAt;rw[e];simp]
  exact hle
 exact this
theorem bI6{m:List (List Bool)}{y:Nat}(hy:y<m.length){r t:List Bool}{z:Int}(hr:r.length=14)(hle:rle (rowAt m y) r)(h:L9 t (rowAt m z)=true):L9 t (rowAt (m.set y r) z)=true:=by
 rw[K3]at h ⊢
 rw[C1 _ _ hy]
 split
 ·rename_i e
  refine⟨al,h.2.trans ?_⟩
  rw[show rowAt m z=rowAt m y by unfold rowAt;rw[e];simp]
  exact hle
 exact h
def s6(row t:List Bool)(k:Nat):List Bool:=(co4 row.length).map fun j=>row.getD j false||(decide (j<k)&&t.getD j false)
def Q5(row t:List Bool):List Bool:=if row.length=0 then t else s6 row t t.length
theorem O0(row t:List Bool)(k:Nat):(s6 row t k).length=row.length:=by simp[s6]
theorem aP5(row t:List Bool):s6 row t 0=row:=by
 apply List.ext_getElem (O0 _ _ _)
 intro i h1 h2
 simp[s6,h2]
theorem V8(row t:List Bool)(k j:Nat)(hj:j<row.length):(s6 row t k).getD j false=(row.getD j false||(decide (j<k)&&t.getD j false)):=by
 simp[s6,hj]
theorem aP6{row t:List Bool}{k:Nat}(h:(t.getD k false&& !row.getD k false)=false):s6 row t (k+1)=s6 row t k:=by
 unfold s6
 apply List.map_congr_left
 intro j _
 by_cases hj:j=k
 ·subst hj
  cases h1:t.getD j false<;>cases h2:row.getD j false<;>simp_all
 have:decide (j<k+1)=decide (j<k):=by rw[decide_eq_decide];omega
 rw[this]
theorem a02{row t:List Bool}{k:Nat}(_hk:k<row.length)(h1:t.getD k false=true):s6 row t (k+1)=(s6 row t k).set k true:=by
 apply List.ext_getElem (by simp[O0])
 intro i g1 g2
 have hi:i<row.length:=by simpa[O0]using g1
 rw[List.getElem_set]
 split
 ·rename_i e
  subst e
  simp only[s6,List.getElem_map,List.getElem_range]
  rw[h1];simp
 rename_i e
 simp only[s6,List.getElem_map,List.getElem_range]
 have:decide (i<k+1)=decide (i<k):=by rw[decide_eq_decide];omega
 rw[this]
theorem ae7{row t:List Bool}(hr:row.length=0\/row.length=14)(ht:t.length=14):(Q5 row t).length=14:=by
 unfold Q5
 split
 ·exact ht
 rw[O0];omega
theorem aL9{row t:List Bool}(_hr:row.length=0\/row.length=14):rle row (Q5 row t):=by
 intro k hk
 unfold Q5
 split
 ·rename_i h0
  rw[co7 h0]at hk
  simp at hk
 rcases cp1 k row.length with h1|h1
 ·rw[V8 _ _ _ _ h1,hk];rfl
 simp[h1]at hk
theorem aB9{row t:List Bool}(hr:row.length=0\/row.length=14)(ht:t.length=14):rle t (Q5 row t):=by
 intro k hk
 unfold Q5
 split
 ·exact hk
 rcases cp1 k t.length with h1|h1
 ·rw[V8 _ _ _ _ al,hk,decide_eq_true h1];simp
 simp[h1]at hk
theorem a71{row t u:List Bool}(h1:rle row u)(h2:rle t u):rle (Q5 row t) u:=by
 intro k hk
 unfold Q5 at hk
 split at hk
 ·exact h2 k hk
 rcases cp1 k row.length with h|h
 ·rw[V8 _ _ _ _ h]at hk
  rw[cr2,cm9]at hk
  rcases hk with hk|hk
  ·exact h1 k hk
  exact h2 k hk.2
 have:(s6 row t t.length).length<=k:=by rw[O0];exact h
 simp[this]at hk
def ar6(r:List Bool):Nat:=if r.length=0 then 15 else r.count false
def pot(m:List (List Bool)):Nat:=(m.map ar6).sum
theorem aF0:∀(m:List (List Bool)) (y:Nat) (r:List Bool) (hy:y<m.length),pot (m.set y r)+ar6 m[y]=pot m+ar6 r
 |[],y,_,hy=>by simp at hy
 |a::m,0,r,_=>by simp[pot];omega
 |a::m,y+1,r,hy=>by
  have:=aF0 m y r (by simpa using hy)
  simp[pot]at this ⊢
  omega
theorem bI8{a b:List Bool}(hl:a.length=b.length)(h:rle a b):b.count false<=a.count false:=by
 induction a generalizing b with
 |nil=>cases b<;>simp_all
 | cons x a ih =>
  cases b with
  |nil=>simp at hl
  |cons y b=>
   have h1:=ih (b:=b) (by simpa using hl) (fun k hk=>by have:=h (k+1);simp at this hk ⊢;exact this hk)
   have h0:=h 0
   simp at h0
   cases x<;>cases y<;>simp_all<;>omega
theorem bI7{a b:List Bool}(hl:a.length=b.length)(h:rle a b)(hn:¬rle b a):b.count false<a.count false:=by
 induction a generalizing b with
 |nil=>cases b<;>simp_all[rle]
 | cons x a ih =>
  cases b with
  |nil=>simp at hl
  | cons y b =>
   have hs:rle a b:=fun k hk=>by have:=h (k+1);simp at this hk ⊢;exact this hk
   have hc:=bI8 (by simpa using hl) hs
   have h0:=h 0
   simp at h0
   by_cases hr:rle b a
   ·have:¬(y=true->x=true):=fun g=>hn (fun k=>by
     cases k with
     |zero=>simpa using g
     |succ k=>simpa using hr k)
    cases x<;>cases y<;>simp_all<;>omega
   have h1:=ih (b:=b) (by simpa using hl) hs hr
   cases x<;>cases y<;>simp_all<;>omega
theorem bt3{row t:List Bool}(hr:row.length=0\/row.length=14)(ht:t.length=14)(h:L9 t row=false):ar6 (Q5 row t)<ar6 row:=by
 unfold ar6
 rw[if_neg (by rw[ae7 hr ht];omega)]
 by_cases h0:row.length=0
 ·rw[if_pos h0]
  have:=List.count_le_length (a:=false) (l:=Q5 row t)
  rw[ae7 hr ht]at this
  omega
 rw[if_neg h0]
 refine bI7 (by rw[ae7 hr ht];omega) (aL9 hr) fun g=>?_
 rw[Bool.eq_false_iff]at h
 exact h ((K3 _ _).2 ⟨al,(aB9 hr ht).trans g⟩)
theorem bZ1(m:List (List Bool))(h:m.all D7=true):pot m<=15*m.length:=by
 induction m with
 |nil=>simp[pot]
 | cons r m ih =>
  simp only[List.all_cons,cm9]at h
  have h1:=ih h.2
  have h2:ar6 r<=15:=by
   unfold ar6
   split
   ·omega
   have:=List.count_le_length (a:=false) (l:=r)
   have:=h.1
   simp only[D7,cr2,decide_eq_true_eq]at this
   omega
  simp only[pot,cq5,List.sum_cons,cn6]at h1 ⊢
  omega
end Go.Proofs.YtfbeblgnjeokaaaGreat

namespace Go.Proofs.YtfbeblgnjeokaaaGreat
open Go Go.RowKit
theorem D0{B:Nat}{w w1 w2:World}(k:Below w1.heap.size w1 w2)(h:Below B w w1)(hB:B<=w.heap.size):Below B w w2:=
 h.trans (k.mono (cp4 hB h.size))
theorem bJ5{w:World}{b:Nat}{x y z:Value}(L:D3 w b [x,y,z]):∀W',Below w.heap.size w W'->W'.cell? ⟨b,0,none⟩=some x/\W'.cell? ⟨b,1,none⟩=some y/\W'.cell? ⟨b,2,none⟩=some z:=by
 intro W' hb
 have L':=L.below hb L.lt
 exact⟨by simpa using L'.cell 0,by simpa using L'.cell 1,by simpa using L'.cell 2⟩
def D6(w:World)(lo hi g:Nat)(m:List (List Bool)):Prop:=
 I7 w lo hi (.slice (some ⟨g,0,none⟩) m.length m.length) m/\∀i:Nat,i<m.length->(rowAt m i).length=0->w.cell? ⟨g,i,none⟩=some (.slice none 0 0)
theorem D6.wide{w:World}{lo hi lo' hi' g:Nat}{m:List (List Bool)}(h:D6 w lo hi g m)(h1:lo'<=lo)(h2:hi<=hi'):D6 w lo' hi' g m:=⟨h.1.wide h1 h2,h.2⟩
theorem D6.lt{w:World}{lo hi g:Nat}{m:List (List Bool)}(h:D6 w lo hi g m):lo<=g/\g<hi/\g<w.heap.size:=by
 obtain⟨vs,h1,_⟩:=h.1
 exact h1.lt g rfl
theorem D6.keep{w w':World}{lo hi B g:Nat}{m:List (List Bool)}(h:D6 w lo hi g m)(hb:Below B w w')(hB:hi<=B):D6 w' lo hi g m:=by
 have hl:=h.lt
 exact⟨h.1.keep hb hB,fun i hi h0=>(hb.cell (p:=⟨g,i,none⟩) (by show g<B;omega)).trans (h.2 i hi h0)⟩
theorem D6.at{w:World}{lo hi g:Nat}{m:List (List Bool)}(h:D6 w lo hi g m){i:Nat}(hi':i<m.length):
  w.frozen? ⟨g,i,none⟩=false/\∃u,w.cell? ⟨g,i,none⟩=some u/\C5 w lo hi 4 1 u (rowAt m i).length (bools (rowAt m i))/\u.ownBlock≠some g:=by
 obtain⟨vs,h1,h2,h3,h4⟩:=h.1
 have hl:i<vs.length:=by have:=h1.1.1;omega
 obtain⟨g',cap,hv,-,-,-,hf,u0,hc⟩:=h1.at hl
 cases hv
 obtain⟨g',cap,hv,-,-,-,-,-,-,hcc⟩:=h1.open al
 cases hv
 have hu:=cn0 hl
 refine⟨hf,vs[i],hcc i _ hu,?_,fun e=>h4 i _ hu g e rfl⟩
 have:=h2 i _ _ hu (cn0 hi')
 rw[I1 hi']
 exact this
theorem D6.at14{w:World}{lo hi g:Nat}{m:List (List Bool)}(h:D6 w lo hi g m){i:Nat}(hi':i<m.length)(h14:(rowAt m i).length=14):
  ∃gy cy,w.cell? ⟨g,i,none⟩=some (.slice (some ⟨gy,0,none⟩) 14 cy)/\lo<=gy/\gy<hi/\gy<w.heap.size/\gy≠g/\14<=cy/\cy<=9223372036854775807/\(∀o,w.frozen? ⟨gy,o,none⟩=false)/\(∀k:Nat,k<14->w.cell? ⟨gy,k,none⟩=some (.bool ((rowAt m i).getD k false)))/\
  I6 w (.slice (some ⟨gy,0,none⟩) 14 cy) 14 1 (bools (rowAt m i)):=by
 obtain⟨-,u,hc,ho,hn⟩:=h.at hi'
 rw[h14]at ho
 obtain⟨gy,cy,rfl,g1,g2,g3,g4,g5,g6,g7⟩:=ho.open al
 refine⟨gy,cy,hc,g1,g2,g3,fun e=>hn (by rw[e];rfl),g4,g5,g6,fun k hk=>?_,ho.row⟩
 rw[g7 k _ (t0 _ k al)]
 simp[show k<(rowAt m i).length by omega]
theorem bq9{vs:List Value}{y:Nat}{u:Value}(hd:∀(i j:Nat) (a b:Value),i<j->vs[i]? =some a->vs[j]? =some b->ad7 a b)(hu:∀i a,vs[i]? =some a->i≠y->ad7 a u):
  ∀(i j:Nat) (a b:Value),i<j->(vs.set y u)[i]? =some a->(vs.set y u)[j]? =some b->ad7 a b:=by
 intro i j a b hij ha hb
 rw[cr5]at ha hb
 by_cases h1:y=i
 ·rw[if_pos h1]at ha
  have h2:¬y=j:=al
  rw[if_neg h2]at hb
  split at ha
  ·cases ha
   exact(hu j b hb al).symm
  cases ha
 rw[if_neg h1]at ha
 by_cases h2:y=j
 ·rw[if_pos h2]at hb
  split at hb
  ·cases hb
   exact hu i a ha al
  cases hb
 rw[if_neg h2]at hb
 exact hd i j a b hij ha hb
theorem N4(w:World)(b j:Nat)(u:Value)(k:Nat)(h:k≠b):(w.setCell ⟨b,j,none⟩ u).heap[k]? =w.heap[k]? :=Below.heap_setCell _ _ _ _ h
theorem D6.setRow{w:World}{lo hi lo' hi' g:Nat}{m:List (List Bool)}(h:D6 w lo hi g m){y:Nat}(hy:y<m.length){u:Value}{r:List Bool}(hr:r.length=14)(hu:C5 w lo' hi' 4 1 u 14 (bools r))(h1:hi<=lo')(h2:lo'<=hi'):
  D6 (w.setCell ⟨g,y,none⟩ u) lo hi' g (m.set y r):=by
 have hgl:=h.lt
 obtain⟨⟨vs,k1,k2,k3,k4⟩,hnil⟩:=h
 have hvl:vs.length=m.length:=by have:=k1.1.1;omega
 have hug:∀g',u.ownBlock=some g'->g'≠g:=fun g' e=>by have:=hu.lt g' e;omega
 refine⟨⟨vs.set y u,?_,?_,?_,?_⟩,?_⟩
 ·rw[cp3]
  exact(k1.setCell al u).wide (cn4 _) al
 ·intro i a r' ha hr'
  rw[cr5]at ha hr'
  split at ha
  ·rename_i e
   rw[if_pos e]at hr'
   rw[if_pos hy]at hr'
   cases hr'
   split at ha
   ·cases ha
    rw[hr]
    exact(hu.same fun g' e=>N4 _ _ _ _ _ (hug g' e)).wide al (cn4 _)
   cases ha
  rename_i e
  rw[if_neg e]at hr'
  exact((k2 i a r' ha hr').same fun g' e=>N4 _ _ _ _ _ fun e'=>k4 i a ha g' e (by rw[e'];rfl)).wide (cn4 _) al
 ·refine bq9 k3 fun i a ha _=>?_
  have hi:i<m.length:=by have:=(co0.1 ha).1;omega
  exact bq8 (k2 i a _ ha (cn0 hi)) hu al
 ·intro i a ha
  rw[cr5]at ha
  split at ha
  ·split at ha
   ·cases ha
    exact fun g' e e'=>hug g' e (by cases e';rfl)
   cases ha
  have:=k4 i a ha
  rw[cp3]
  exact this
 intro i hi h0
 rw[cp3]at hi
 rw[C1 _ _ hy]at h0
 split at h0
 ·omega
 rename_i e
 rw[World.cell?_setCell_other _ _ _ _ (by intro e';cases e';exact e ao)]
 exact hnil i hi h0
theorem D6.setBit{w:World}{lo hi g:Nat}{m:List (List Bool)}(h:D6 w lo hi g m){y:Nat}(hy:y<m.length){gy cy:Nat}(hc:w.cell? ⟨g,y,none⟩=some (.slice (some ⟨gy,0,none⟩) 14 cy))(h14:(rowAt m y).length=14){k:Nat}(hk:k<14)(b:Bool):
  D6 (w.setCell ⟨gy,k,none⟩ (.bool b)) lo hi g (m.set y ((rowAt m y).set k b)):=by
 have hgl:=h.lt
 obtain⟨⟨vs,k1,k2,k3,k4⟩,hnil⟩:=h
 have hvl:vs.length=m.length:=by have:=k1.1.1;omega
 have hyv:y<vs.length:=al
 obtain⟨g',cap,hv,-,-,-,-,-,-,hcc⟩:=k1.open al
 cases hv
 have hvy:vs[y]? =some (.slice (some ⟨gy,0,none⟩) 14 cy):=by
  have:=hcc y _ (cn0 hyv)
  rw[hc]at this
  rw[cn0 hyv, <-Option.some.inj this]
 have hgy:gy≠g:=fun e=>k4 y _ hvy gy rfl (by rw[e];rfl)
 have hgr:rowAt m y=m[y]:=I1 hy
 refine⟨⟨vs,?_,?_,k3,?_⟩,?_⟩
 ·rw[cp3]
  exact k1.same fun g' e=>N4 _ _ _ _ _ (by cases e;exact fun e=>hgy e.symm)
 ·intro i a r' ha hr'
  rw[cr5]at hr'
  by_cases e:y=i
  ·subst e
   rw[if_pos rfl,if_pos hy]at hr'
   cases hr'
   rw[hvy]at ha
   cases ha
   have ho:=k2 y _ _ hvy (cn0 hy)
   rw[<-hgr,h14]at ho
   rw[cp3,h14]
   have:=ho.setCell (j:=k) ah (.bool b)
   rw[show bools ((rowAt m y).set k b)=(bools (rowAt m y)).set k (.bool b) by simp[bools,List.map_set]]
   exact this
  rw[if_neg e]at hr'
  refine(k2 i a r' ha hr').same fun g' e'=>N4 _ _ _ _ _ fun e2=>?_
  subst e2
  rcases cp1 y i with hlt|hge
  ·exact k3 y i _ _ hlt hvy ha g' rfl e'
  exact k3 i y _ _ al ha hvy g' e' rfl
 ·intro i a ha
  rw[cp3]
  exact k4 i a ha
 intro i hi h0
 rw[cp3]at hi
 rw[C1 _ _ hy]at h0
 split at h0
 ·rw[cp3]at h0;omega
 rw[World.cell?_setCell_other _ _ _ _ (by intro e';cases e';exact hgy rfl)]
 exact hnil i hi h0
def aa0(w:World)(g:Nat)(m:List (List Bool))(b:Nat):Prop:=b=g\/∃(i:Nat) (u:Value),i<m.length/\w.cell? ⟨g,i,none⟩=some u/\u.ownBlock=some b
theorem D6.blk{w:World}{lo hi g:Nat}{m:List (List Bool)}(h:D6 w lo hi g m){b:Nat}(hb:aa0 w g m b):lo<=b/\b<hi/\b<w.heap.size:=by
 rcases hb with rfl|⟨i,u,hi',hc,hu⟩
 ·exact h.lt
 obtain⟨-,u',hc',ho,-⟩:=h.at hi'
 rw[hc]at hc'
 cases hc'
 exact ho.lt b hu
theorem aU4{w w':World}{b:Nat}(h:w'.heap[b]? =w.heap[b]?)(o:Nat):w'.cell? ⟨b,o,none⟩=w.cell? ⟨b,o,none⟩:=by simp[World.cell?,h]
theorem D6.same{w w':World}{lo hi g:Nat}{m:List (List Bool)}(h:D6 w lo hi g m)(hs:∀b,aa0 w g m b->w'.heap[b]? =w.heap[b]?):D6 w' lo hi g m/\∀b,aa0 w' g m b->aa0 w g m b:=by
 have hg:=hs g (.inl rfl)
 obtain⟨⟨vs,k1,k2,k3,k4⟩,hnil⟩:=h
 have hvl:vs.length=m.length:=by have:=k1.1.1;omega
 have hrow:∀(i:Nat) (u:Value),vs[i]? =some u->i<m.length/\w.cell? ⟨g,i,none⟩=some u:=by
  intro i u hu
  have hi':=(co0.1 hu).1
  obtain⟨g',cap,hv,-,-,-,-,-,-,hcc⟩:=k1.open al
  cases hv
  exact⟨al,hcc i u hu⟩
 refine⟨⟨⟨vs,k1.same fun g' e=>by cases e;exact hg,fun i u r hu hr=>(k2 i u r hu hr).same fun b e=>hs b (.inr ⟨i,u,(hrow i u hu).1,(hrow i u hu).2,e⟩),k3,k4⟩,fun i hi' h0=>(aU4 hg i).trans (hnil i hi' h0)⟩,?_⟩
 rintro b (rfl|⟨i,u,h1,h2,h3⟩)
 ·exact .inl rfl
 exact .inr ⟨i,u,h1,(aU4 hg i).symm.trans h2,h3⟩
theorem D6.next{w w':World}{lo hi g:Nat}{m:List (List Bool)}(h:D6 w lo hi g m)(hb:Below w.heap.size w w'):D6 w' lo hi g m/\∀b,aa0 w' g m b->aa0 w g m b:=
 h.same fun b hb'=>hb.block b (h.blk hb').2.2
theorem D6.grown{w w':World}{lo hi g:Nat}{m:List (List Bool)}{row:Option Nat}(h:D6 w lo hi g m)(hg:w.grownBy w' row)(hne:∀b,row=some b->¬aa0 w g m b):D6 w' lo hi g m/\∀b,aa0 w' g m b->aa0 w g m b:=
 h.same fun b hb'=>hg.block b (h.blk hb').2.2 fun he=>hne b he.symm hb'
theorem D6.setRow_blk{w:World}{lo hi g:Nat}{m:List (List Bool)}(h:D6 w lo hi g m){y:Nat}(hy:y<m.length)(u:Value)(r:List Bool){b:Nat}(hb:aa0 (w.setCell ⟨g,y,none⟩ u) g (m.set y r) b):aa0 w g m b\/u.ownBlock=some b:=by
 rcases hb with rfl|⟨i,u',h1,h2,h3⟩
 ·exact .inl (.inl rfl)
 rw[cp3]at h1
 by_cases e:i=y
 ·subst e
  obtain⟨hf,u0,hc,-,-⟩:=h.at hy
  rw[World.cell?_setCell_same _ _ _ hc]at h2
  cases h2
  exact .inr h3
 rw[World.cell?_setCell_other _ _ _ _ (by intro e';cases e';exact e rfl)]at h2
 exact .inl (.inr ⟨i,u',h1,h2,h3⟩)
theorem D6.setBit_blk{w:World}{g gy k y b':Nat}{m:List (List Bool)}{r:List Bool}{u:Value}(hne:gy≠g)(hb:aa0 (w.setCell ⟨gy,k,none⟩ u) g (m.set y r) b'):aa0 w g m b':=by
 rcases hb with rfl|⟨i,u',h1,h2,h3⟩
 ·exact .inl rfl
 rw[cp3]at h1
 rw[World.cell?_setCell_other _ _ _ _ (by intro e';cases e';exact hne rfl)]at h2
 exact .inr ⟨i,u',h1,h2,h3⟩
def H3(w:World)(g:Nat)(m:List (List Bool))(v:Value):Prop:=∀b,v.ownBlock=some b->¬aa0 w g m b
theorem H3.next{w w':World}{lo hi g:Nat}{m:List (List Bool)}{v:Value}(h:H3 w g m v)(hS:D6 w lo hi g m)(hb:Below w.heap.size w w'):H3 w' g m v:=fun b hv hm=>h b hv ((hS.next hb).2 b hm)
theorem H3.setRow{w:World}{lo hi g y:Nat}{m:List (List Bool)}{v u:Value}{r:List Bool}(h:H3 w g m v)(hS:D6 w lo hi g m)(hy:y<m.length)(hu:∀b,v.ownBlock=some b->u.ownBlock≠some b):H3 (w.setCell ⟨g,y,none⟩ u) g (m.set y r) v:=by
 intro b hv hm
 rcases hS.setRow_blk hy _ _ hm with h1|h1
 ·exact h b hv h1
 exact hu b hv h1
theorem H3.setBit{w:World}{g gy k y:Nat}{m:List (List Bool)}{v u:Value}{r:List Bool}(h:H3 w g m v)(hne:gy≠g):H3 (w.setCell ⟨gy,k,none⟩ u) g (m.set y r) v:=fun b hv hm=>h b hv (D6.setBit_blk hne hm)
theorem aa2{w:World}{lo hi g b j:Nat}{m:List (List Bool)}{e:TypeId}{sz:Nat}{v u:Value}{n:Nat}{xs:List Value}(h:C5 w lo hi e sz v n xs)(ha:H3 w g m v)(hb:aa0 w g m b):C5 (w.setCell ⟨b,j,none⟩ u) lo hi e sz v n xs:=
 h.same fun g' e=>N4 _ _ _ _ _ fun e'=>ha g' e (e'▸hb)
theorem F6.unique{w:World}{v:Value}{m p:List (List Bool)}(h:F6 w v m)(g:F6 w v p):m=p:=by
 obtain⟨a,cap,rfl,-,h2⟩:=h.open
 obtain⟨a',cap',hv,-,g2⟩:=g.open
 simp only[Value.slice.injEq]at hv
 obtain⟨rfl,hl,rfl⟩:=hv
 have hl:m.length=p.length:=al
 apply List.ext_getElem hl
 intro i hi hj
 obtain⟨b,off,a1,c1,e1,-,x1,r1⟩:=h2 i hi
 obtain⟨b',off',a2,c2,e2,-,x2,r2⟩:=g2 i hj
 rw[e1]at e2
 cases e2
 rw[x1]at x2
 have x2:=Option.some.inj x2
 simp only[Value.slice.injEq]at x2
 obtain⟨rfl,hlr,rfl⟩:=x2
 have hlr:m[i].length=p[i].length:=al
 obtain⟨a3,k3,hv3,-,-,-,f3⟩:=r1.open1
 obtain⟨a4,k4,hv4,-,-,-,f4⟩:=r2.open1
 cases hv3
 simp only[Value.slice.injEq]at hv4
 obtain⟨rfl,-,-⟩:=hv4
 apply List.ext_getElem hlr
 intro j g1 g2
 obtain⟨b3,o3,e3,-,y3⟩:=f3 j g1
 obtain⟨b4,o4,e4,-,y4⟩:=f4 j g2
 rw[e3]at e4
 cases e4
 rw[t0 _ _ g1]at y3
 rw[t0 _ _ g2]at y4
 rw[y3]at y4
 have:=Option.some.inj y4
 cases hb1:m[i][j]<;>cases hb2:p[i][j]<;>simp_all
noncomputable def aB8(w:World)(v:Value):Nat:=open Classical in if h:∃m,F6 w v m then pot h.choose else 0
theorem bC7{w:World}{v:Value}{m:List (List Bool)}(h:F6 w v m):aB8 w v=pot m:=by
 unfold aB8
 have hx:∃m,F6 w v m:=⟨m,h⟩
 rw[dif_pos hx]
 rw[F6.unique hx.choose_spec h]
theorem D6.pot{w:World}{lo hi g:Nat}{m:List (List Bool)}(h:D6 w lo hi g m):aB8 w (.slice (some ⟨g,0,none⟩) m.length m.length)=pot m:=bC7 h.1.row
theorem ap0{l:List Bool}:∀u∈bools l,u.oneCell'=true:=by
 intro u hu
 obtain⟨x,_,rfl⟩:=List.mem_map.1 hu
 rfl
theorem bi0(v:Value)(t:List Bool)(w:World)(h:I6 w v t.length 1 (bools t))(hb:t.length<=100000000000000):
  Calls Tryz.prog 112 #[v] w fun e w'=>∃u,e=.returned u/\C5 w' w.heap.size w'.heap.size 4 1 u t.length (bools t)/\Below w.heap.size w w':=by
 obtain⟨a,cap,rfl,hc1,hc2,hc3,-⟩:=h.open
 have hnil:=fun w=>Lib.run_eql_slice_nil (P:=Tryz.prog) w 63 4 a t.length cap 0 0 Tryz.underlying63
 rcases a with _|a
 ·have hn:t.length=0:=by
   rcases Nat.eq_zero_or_pos t.length with h0|h0
   ·exact h0
   obtain⟨_,a,c,he,_,_,hx⟩:=h
   cases he
   obtain⟨_,_,he,_⟩:=hx h0
   cases he
  have ht:t=[]:=co7 hn
  subst ht
  simp only[co1,Option.isNone_none]at hnil
  go_enter Tryz.func112,Tryz.ntmps112
  go_wp2_with fail
  go_ret
  exact⟨_,rfl,⟨World.ownsRow_nil _ _ _ _,fun g hg=>by cases hg⟩,Below.refl _ _⟩
 go_enter Tryz.func112,Tryz.ntmps112
 simp only[Option.isNone_some]at hnil
 have ba:=(Below.refl w.heap.size w).alloc (cn4 _) (.cells #[] 4)
 go_wp2_with (at_builtin;refine J8 rfl _ _ rfl Tryz.underlying63 aM0 rfl al rfl (z6 w #[] 0 1 _ rfl rfl al).1 rfl (h.below ba) ap0 al al ao ?_;rintro a4 q4 w4 o4 b4- -)
 go_ret
 refine⟨_,rfl,C5.mk' (by simpa using o4),ba.trans b4⟩
theorem aa8(n:Nat)(v:Value):(E7 [v] n).toArray=cq0 n v:=by rw[W0];simp
theorem aT7(W:World)(n:Nat)(hn:1<=n)(hm:n<=9223372036854775807):
  let W2:=(W.alloc (.cells (cq0 n (.slice none 0 0)) 63)).alloc (.cells (cq0 14 (.bool false)) 4)
  W2.frozen? ⟨W.heap.size,0,none⟩=false/\(∃u,W2.cell? ⟨W.heap.size,0,none⟩=some u)/\
  D6 (W2.setCell ⟨W.heap.size,0,none⟩ (.slice (some ⟨W.heap.size+1,0,none⟩) 14 14)) W.heap.size (W.heap.size+1+1) W.heap.size ((cm8 n ([]:List Bool)).set 0 (cm8 14 false)):=by
 intro W2
 have h0:=aK0 W [.slice none 0 0] n 1 63 rfl hm
 rw[aa8,W0]at h0
 have k0:Below (W.heap.size+1) (W.alloc (.cells (cq0 n (.slice none 0 0)) 63)) W2:=by
  have:=(Below.refl (W.heap.size+1) (W.alloc (.cells (cq0 n (.slice none 0 0)) 63))).alloc ao (.cells (cq0 14 (.bool false)) 4)
  exact this
 have h1:=h0.keep k0 (cn4 _)
 have hS:D6 W2 W.heap.size (W.heap.size+1) W.heap.size (cm8 n ([]:List Bool)):=by
  refine⟨⟨cm8 n (.slice none 0 0),by rw[co5];exact h1,fun i u r hu hr=>?_,fun i j a b _ ha _=>?_,fun i u hu=>?_⟩,fun i hi _=>?_⟩
  ·rw[cr1]at hu hr
   split at hu
   ·rename_i hi
    rw[if_pos hi]at hr
    cases hu;cases hr
    exact⟨World.ownsRow_nil _ _ _ _,fun g hg=>by cases hg⟩
   cases hu
  ·rw[cr1]at ha
   split at ha
   ·cases ha;intro g hg;cases hg
   cases ha
  ·rw[cr1]at hu
   split at hu
   ·cases hu;intro g hg;cases hg
   cases hu
  rw[co5]at hi
  obtain⟨g,cap,hv,-,-,-,-,-,-,hcc⟩:=h1.open al
  cases hv
  exact hcc i _ (by rw[cr1,if_pos hi])
 have hr:C5 W2 (W.heap.size+1) (W.heap.size+1+1) 4 1 (.slice (some ⟨W.heap.size+1,0,none⟩) 14 14) 14 (bools (cm8 14 false)):=by
  have:=z6 (W.alloc (.cells (cq0 n (.slice none 0 0)) 63)) (g:=W.heap.size+1) (cq0 14 (.bool false)) 14 1 4 ao ao al
  rw[show(cq0 14 (Value.bool false)).toList=bools (cm8 14 false) by simp[bools]]at this
  simpa using this
 have hl:0<(cm8 n ([]:List Bool)).length:=by rw[co5];omega
 obtain⟨hf,u,hc,-⟩:=hS.at hl
 exact⟨hf,⟨u,hc⟩,(hS.setRow hl ao hr (cn4 _) al)⟩
theorem bu5{w:World}{lo g y:Nat}{m:List (List Bool)}(h:D6 w lo w.heap.size g m)(hy:y<m.length):
  (w.alloc (.cells (cq0 14 (.bool false)) 4)).frozen? ⟨g,y,none⟩=false/\(∃u,(w.alloc (.cells (cq0 14 (.bool false)) 4)).cell? ⟨g,y,none⟩=some u)/\
  D6 ((w.setCell ⟨g,y,none⟩ (.slice (some ⟨w.heap.size,0,none⟩) 14 14)).alloc (.cells (cq0 14 (.bool false)) 4)) lo (w.heap.size+1) g (m.set y (cm8 14 false))/\
  ∀v:Value,H3 w g m v->(∀b,v.ownBlock=some b->b<w.heap.size)->H3 ((w.setCell ⟨g,y,none⟩ (.slice (some ⟨w.heap.size,0,none⟩) 14 14)).alloc (.cells (cq0 14 (.bool false)) 4)) g (m.set y (cm8 14 false)) v:=by
 have hlt:=h.lt
 have ba:Below w.heap.size w (w.alloc (.cells (cq0 14 (.bool false)) 4)):=by go_grown
 have h1:=(h.next ba).1
 have hr:=z6 w (g:=w.heap.size) (cq0 14 (.bool false)) 14 1 4 rfl ao al
 rw[show(cq0 14 (Value.bool false)).toList=bools (cm8 14 false) by simp[bools]]at hr
 have h2:=h1.setRow hy ao hr (cn4 _) al
 have e:=World.setCell_alloc_past (w:=w) (.cells (cq0 14 (.bool false)) 4) g y (.slice (some ⟨w.heap.size,0,none⟩) 14 14) hlt.2.2
 rw[e]at h2
 obtain⟨f,u,cu,-⟩:=h1.at hy
 refine⟨f,⟨u,cu⟩,h2,fun v hv hb=>?_⟩
 have h3:=(hv.next h ba).setRow (u:=.slice (some ⟨w.heap.size,0,none⟩) 14 14) (r:=cm8 14 false) h1 hy (fun b e1 e2=>by have:=hb b e1;cases e2;exact absurd this (Nat.lt_irrefl _))
 rw[e]at h3
 exact h3
theorem a38(v u:Value)(row t:List Bool)(w:World)(h1:I6 w v row.length 1 (bools row))(h2:I6 w u 14 1 (bools t))(ht:t.length=14)(hr:row.length=0\/row.length=14):
  Calls Tryz.prog 81 #[v,u] w fun e w'=>∃z,e=.returned (.tuple #[z,.bool (!L9 t row)])/\C5 w' w.heap.size w'.heap.size 4 1 z 14 (bools (Q5 row t))/\Below w.heap.size w w':=by
 obtain⟨a1,c1,rfl,-,hm1,-,hc1⟩:=h1.open1
 obtain⟨a2,c2,rfl,-,hm2,-,hc2⟩:=h2.open1
 have hfc:Hid (L9 t row=(decide (0<row.length)&&x9 t row t.length)):=rfl
 by_cases h0:row.length=0
 ·have q0:((row.length:Int)==0)=true:=by simp[h0]
  have HJ:=show Hid (Q5 row t=t)from by simp[Hid,Q5,h0]
  have HC:=show Hid (L9 t row=false)from by unfold Hid;rw[hfc.out];simp[h0]
  clear hc1 hc2 hfc
  go_enter Tryz.func81,Tryz.ntmps81
  go_wp2_with (at_builtin;refine J8 rfl _ _ rfl Tryz.underlying63 aM0 rfl al rfl (z6 w #[] 0 1 _ ao rfl al).1 rfl (h2.below (by go_grown)) ap0 al al ao ?_;rintro a4 q4 w1 o4 b4- -)
  go_ret2
  have e:(#[]:Array Value).toList++bools t=bools t:=ao
  rw[cr4]at o4
  refine⟨_,by rw[HC.out];rfl,?_,?_⟩
  ·rw[HJ.out];exact C5.mk' (by simpa using o4)
  exact((Below.refl w.heap.size w).alloc (cn4 _) _).trans (by simpa using b4)
 have q0:((row.length:Int)==0)=false:=by simp;intro e;rw[e]at h0;exact h0 rfl
 have h14:row.length=14:=al
 have hr1:I6 w (.slice a1 row.length c1) 14 1 (bools row):=by rw[h14]at h1 ⊢;exact h1
 have hl14:row.length<=14:=al
 have HC:=show Hid (L9 t row=x9 t row 14)from by unfold Hid;rw[hfc.out,decide_eq_true al,ht];rfl
 have HJ:=show Hid (Q5 row t=s6 row t 14)from by unfold Hid Q5;rw[if_neg h0,ht]
 have HT:=show Hid _ from ht
 have HR:=show Hid _ from h14
 clear hfc hr ht h0 h14 h1 hc1
 go_enter Tryz.func81,Tryz.ntmps81
 go_wp2_with (at_builtin;refine J8 rfl _ _ rfl Tryz.underlying63 aM0 rfl al rfl (z6 w #[] 0 1 _ ao rfl al).1 rfl (hr1.below (by go_grown)) ap0 al al ao ?_;rintro a4 q4 w1 o4 b4- -)
 have o1:C5 w1 w.heap.size w1.heap.size 4 1 (.slice a4 14 q4) 14 (bools row):=C5.mk' (by simpa using o4)
 have b1:Below w.heap.size w w1:=((Below.refl w.heap.size w).alloc (cn4 _) _).trans (by simpa using b4)
 clear o4 b4
 obtain⟨g,cap,hv,g1,g2,g3,g4,g5,g6,g7⟩:=o1.open al
 cases hv
 clear g7
 go_loopw [7,8] (fun b i wr=>∃k:Nat,k<=14/\i=.int .i64 k/\b=.bool (!x9 t row k)/\C5 wr w.heap.size w1.heap.size 4 1 (.slice (some ⟨g,0,none⟩) 14 q4) 14 (bools (s6 row t k))/\Below w.heap.size w wr/\w1.heap.size<=wr.heap.size) (fun _ i _=>14-(intOf i).toNat)
 case atStart=>exact⟨0,cp5 _,rfl,rfl,by rw[aP5];exact o1,b1,cn4 _⟩
 case round=>
  obtain⟨k,hk,rfl,rfl,ho,hb,hsz⟩:=hrel
  have HS:=show Hid _ from R8 t row k
  clear o1 b1 g4
  by_cases hlt:k<14
  ·obtain⟨b2,o2,rfl,hb2,hy⟩:=hc2 k hlt
   rw[t0 _ _ (by rw[HT.out];exact hlt), <-(y8 hb).1 _ _ hb2]at hy
   clear hc2
   have hjl:(s6 row t k).length=14:=by rw[O0,HR.out]
   obtain⟨g',cap',hv,-,-,g3',-,-,gf,gc⟩:=ho.open al
   cases hv
   have hx:=gc k _ (t0 _ k al)
   have hxe:(s6 row t k)[k]=row.getD k false:=by
    have:=V8 row t k k (by rw[HR.out];exact hlt)
    rw[decide_eq_false (Nat.lt_irrefl _)]at this
    simpa[hjl,hlt]using this
   have hye:t[k]'(by rw[HT.out];exact hlt)=t.getD k false:=by have:=HT.out;simp[this,hlt]
   rw[hxe]at hx
   rw[hye]at hy
   have hfk:=gf k
   have HP:=show Hid (t.getD k false=true->s6 row t (k+1)=(s6 row t k).set k true)from fun h=>a02 (by rw[HR.out];exact hlt) h
   have HK:=show Hid ((t.getD k false&& !row.getD k false)=false->s6 row t (k+1)=s6 row t k)from fun h=>aP6 h
   clear hxe hye gc gf
   cases ht:t.getD k false
   ·have HN:=show Hid (s6 row t (k+1)=s6 row t k)from HK.out (by rw[ht];rfl)
    have HN2:=show Hid (x9 t row (k+1)=x9 t row k)from by unfold Hid;rw[HS.out,ht];simp
    rw[ht]at hy
    clear ht
    go_wp2_with fail
    exact⟨⟨k+1,al,by go_num,by rw[HN2.out],by rw[HN.out];exact ho,hb,hsz⟩,by simp[intOf];omega⟩
   cases hw:row.getD k false
   ·have HN:=show Hid (s6 row t (k+1)=(s6 row t k).set k true)from HP.out ht
    have HN2:=show Hid (x9 t row (k+1)=false)from by unfold Hid;rw[HS.out,ht,hw];simp
    rw[ht]at hy;rw[hw]at hx
    clear ht hw
    go_wp2_with fail
    refine⟨⟨k+1,al,by go_num,by rw[HN2.out];rfl,?_,hb.setCell (p:=⟨g,k,none⟩) g1 _,by simpa[World.setCell]using hsz⟩,by simp[intOf];omega⟩
    rw[HN.out,show bools ((s6 row t k).set k true)=(bools (s6 row t k)).set k (.bool true) by simp[bools,List.map_set]]
    exact ho.setCell (by simp[bools];omega) _
   have HN:=show Hid (s6 row t (k+1)=s6 row t k)from HK.out (by rw[hw];simp)
   have HN2:=show Hid (x9 t row (k+1)=x9 t row k)from by unfold Hid;rw[HS.out,hw];simp
   rw[ht]at hy;rw[hw]at hx
   clear ht hw
   go_wp2_with fail
   exact⟨⟨k+1,al,by go_num,by rw[HN2.out],by rw[HN.out];exact ho,hb,hsz⟩,by simp[intOf];omega⟩
  have e:k=14:=al
  subst e
  clear hc2
  go_wp2_with fail
  go_ret2
  exact⟨_,by rw[HC.out];rfl,by rw[HJ.out];exact ho.wide (cn4 _) hsz,hb⟩
end Go.Proofs.YtfbeblgnjeokaaaGreat

namespace Go.Proofs.YtfbeblgnjeokaaaGreat
structure aQ6(c:d9)(m:List (List Bool))(qs:List Int)(k:Nat):Prop where
 low:Low c m
 q:∀x∈qs,0<=x/\x<c.list.length/\(rowAt m x).length=14
 pend:∀i:Nat,i<c.list.length->K4 c m i=true\/∃p,k<=p/\qs[p]? =some (i:Int)
 cnt:qs.length+pot m<=15*c.list.length+1
structure aE4(c:d9)(m:List (List Bool))(qs:List Int)(k a:Nat)(t:List Bool)(ns:List Int)(j:Nat):Prop where
 low:Low c m
 q:∀x∈qs,0<=x/\x<c.list.length/\(rowAt m x).length=14
 pend:∀i:Nat,i<c.list.length->i≠a->K4 c m i=true\/∃p,k+1<=p/\qs[p]? =some (i:Int)
 self:(∃p,k+1<=p/\qs[p]? =some (a:Int))\/(∀y∈ns.take j,L9 t (rowAt m y)=true)/\s8 c (J3 c a) (rowAt m a)=t
 cnt:qs.length+pot m<=15*c.list.length+1
 bnd:∀p,ab3 c p->∀y∈ns,(rowAt p y).length≠0/\rle t (rowAt p y)
 tl:t.length=14
theorem aQ6.start{c:d9}(hn:1<=c.list.length):aQ6 c ((cm8 c.list.length ([]:List Bool)).set 0 (cm8 14 false)) [0] 0:=by
 have hl:0<(cm8 c.list.length ([]:List Bool)).length:=by rw[co5];omega
 have h0:=Low.start hn
 refine⟨h0,?_,fun i hi=>?_,?_⟩
 ·intro x hx
  rw[cq2.1 hx]
  refine⟨Int.le_refl _,al,?_⟩
  rw[C1 _ _ hl];simp
 ·by_cases e:i=0
  ·subst e;exact .inr ⟨0,cn4 _,rfl⟩
  left
  unfold K4
  rw[cr2,decide_eq_true_eq]
  left
  rw[C1 _ _ hl,if_neg (by simpa using e)]
  unfold rowAt
  simp only[cn2,cr1]
  split<;>simp
 have:=bZ1 _ h0.ok
 simp only[cp3,co5]at this
 simp only[List.length_singleton]
 omega
theorem aQ6.enter{c:d9}{m:List (List Bool)}{qs:List Int}{k a:Nat}(h:aQ6 c m qs k)(ha:qs[k]? =some (a:Int)):
  (rowAt m a).length=14/\a<c.list.length/\aE4 c m qs k a (s8 c (J3 c a) (rowAt m a)) (nx c a) 0:=by
 have hm:=h.q a (cp6 ha)
 have hl:a<m.length:=by rw[h.low.len];omega
 refine⟨hm.2.2,al,h.low,h.q,fun i hi hne=>?_,.inr ⟨ao,rfl⟩,h.cnt,?_,by rw[Q2];exact hm.2.2⟩
 ·rcases h.pend i hi with g|⟨p,g1,g2⟩
  ·exact .inl g
  refine .inr ⟨p,?_,g2⟩
  rcases cp1 k p with g3|g3
  ·exact g3
  have:p=k:=al
  subst this
  rw[ha]at g2
  have:=Option.some.inj g2
  omega
 exact fun p hp y hy=>h.low.after hl hm.2.2 p hp y hy
theorem aE4.keep{c:d9}{m:List (List Bool)}{qs:List Int}{k a:Nat}{t:List Bool}{ns:List Int}{j:Nat}(h:aE4 c m qs k a t ns j)(hj:j<ns.length)(hc:L9 t (rowAt m ns[j])=true):aE4 c m qs k a t ns (j+1):=by
 refine⟨h.low,h.q,h.pend,?_,h.cnt,h.bnd,h.tl⟩
 rcases h.self with g|⟨g1,g2⟩
 ·exact .inl g
 refine .inr ⟨fun y hy=>?_,g2⟩
 rw[J2 _ _ hj,cp2,cq2]at hy
 rcases hy with hy|hy
 ·exact g1 y hy
 rw[hy];exact hc
theorem aE4.push{c:d9}{m:List (List Bool)}{qs:List Int}{k a:Nat}{t:List Bool}{ns:List Int}{j:Nat}(h:aE4 c m qs k a t ns j)(hj:j<ns.length){y:Nat}(hy:ns[j]=(y:Int))(hyl:y<c.list.length)(hk:k<qs.length)
  (hc:L9 t (rowAt m y)=false):aE4 c (m.set y (Q5 (rowAt m y) t)) (qs++[(y:Int)]) k a t ns (j+1):=by
 have hl:y<m.length:=by rw[h.low.len];exact hyl
 have hr:=A7 h.low.ok y
 have h14:=ae7 hr h.tl
 have hle:=aL9 (t:=t) hr
 have hmem:(y:Int)∈ns:=by rw[<-hy];exact co6 hj
 have hpl:∀i:Nat,(∃p,k+1<=p/\qs[p]? =some (i:Int))->∃p,k+1<=p/\(qs++[(y:Int)])[p]? =some (i:Int):=by
  rintro i ⟨p,h1,h2⟩
  exact⟨p,h1,by rw[co2 (co0.1 h2).1];exact h2⟩
 have hpy:∃p,k+1<=p/\(qs++[(y:Int)])[p]? =some (y:Int):=⟨qs.length,hk,ao⟩
 refine⟨?_,?_,?_,?_,?_,h.bnd,h.tl⟩
 ·refine h.low.set hl h14 fun p hp=>?_
  have h1:=h.bnd p hp y hmem
  refine⟨h1.1,a71 ?_ h1.2⟩
  rcases h.low.low p hp y with h2|h2
  ·intro z hz
   rw[co7 h2]at hz
   simp at hz
  exact h2.2
 ·intro x hx
  rw[C1 _ _ hl]
  rw[cp2,cq2]at hx
  rcases hx with hx|hx
  ·have:=h.q x hx
   refine⟨this.1,this.2.1,?_⟩
   split
   ·exact h14
   exact this.2.2
  subst hx
  refine⟨al,al,?_⟩
  rw[if_pos ao]
  exact h14
 ·intro i hi hne
  by_cases e:i=y
  ·subst e;exact .inr hpy
  rcases h.pend i hi hne with g|g
  ·exact .inl (bv2 hl e h14 hle g)
  exact .inr (hpl i g)
 ·by_cases e:a=y
  ·subst e;exact .inl hpy
  rcases h.self with g|⟨g1,g2⟩
  ·exact .inl (hpl a g)
  refine .inr ⟨fun z hz=>?_,?_⟩
  ·rw[J2 _ _ hj,cp2,cq2]at hz
   rcases hz with hz|hz
   ·exact bI6 hl h14 hle (g1 z hz)
   rw[hz,hy,K3,C1 _ _ hl,if_pos ao]
   exact⟨al,aB9 hr h.tl⟩
  rw[C1 _ _ hl,if_neg (by simpa using e)]
  exact g2
 have h1:=aF0 m y (Q5 (rowAt m y) t) hl
 have h2:=bt3 hr h.tl hc
 rw[<-I1 hl]at h1
 have:=h.cnt
 rw[cn3,List.length_singleton]
 omega
theorem aE4.done{c:d9}{m:List (List Bool)}{qs:List Int}{k a:Nat}{t:List Bool}{j:Nat}(h:aE4 c m qs k a t (nx c a) j)(hj:(nx c a).length<=j):aQ6 c m qs (k+1):=by
 refine⟨h.low,h.q,fun i hi=>?_,h.cnt⟩
 by_cases e:i=a
 ·subst e
  rcases h.self with g|⟨g1,g2⟩
  ·exact .inr g
  left
  rw[co3 hj]at g1
  unfold K4
  rw[cr2]
  right
  rw[cn8,g2]
  exact g1
 exact h.pend i hi e
theorem aQ6.done{c:d9}{m:List (List Bool)}{qs:List Int}(h:aQ6 c m qs qs.length):M7 c m:=by
 refine h.low.least fun i hi=>?_
 rcases h.pend i (by rw[<-h.low.len];exact hi)with g|⟨p,g1,g2⟩
 ·exact g
 have:=(co0.1 g2).1
 omega
end Go.Proofs.YtfbeblgnjeokaaaGreat

namespace Go.Proofs.YtfbeblgnjeokaaaGreat
open Go Go.RowKit
theorem aL7{l:Int}(h:i8 l=true):l=0\/l=1\/l=2\/l=3:=by
 simp[i8]at h;omega
theorem C8(l:Int)(w:World):Calls Tryz.prog 113 #[.int .i64 l] w fun e w'=>e=.returned (.bool (scB l))/\w=w':=by
 cases h:i8 l
 ·have HT:=show Hid (scB l=false)from by unfold Hid scB;rw[h];rfl
  go_enter Tryz.func113,Tryz.ntmps113
  go_wp2_with fail
  refine(Y2 l _).mono ?_
  rintro e w1 ⟨rfl,rfl⟩
  rw[h]
  clear h
  go_wp2_with fail
  go_ret
  exact⟨j8 HT.out.symm,rfl⟩
 rcases aL7 h with rfl|rfl|rfl|rfl
 all_goals
  clear h
  go_enter Tryz.func113,Tryz.ntmps113
  go_wp2_with fail
  refine(Y2 _ _).mono ?_
  rintro e w1 ⟨rfl,rfl⟩
  rw[show i8 _=true from rfl]
  go_wp2_with fail
  go_ret
  exact⟨by simp[go_sem,scB,i8];decide,rfl⟩
theorem C7(l:Int)(w:World):Calls Tryz.prog 82 #[.int .i64 l] w fun e w'=>e=.returned (.bool (scB l))/\w=w':=by
 cases h:i8 l
 ·have HT:=show Hid (scB l=false)from by unfold Hid scB;rw[h];rfl
  go_enter Tryz.func82,Tryz.ntmps82
  go_wp2_with fail
  refine(K2 l _).mono ?_
  rintro e w1 ⟨rfl,rfl⟩
  rw[h]
  clear h
  go_wp2_with fail
  go_ret
  exact⟨j8 HT.out.symm,rfl⟩
 rcases aL7 h with rfl|rfl|rfl|rfl
 all_goals
  clear h
  go_enter Tryz.func82,Tryz.ntmps82
  go_wp2_with fail
  refine(K2 _ _).mono ?_
  rintro e w1 ⟨rfl,rfl⟩
  rw[show i8 _=true from rfl]
  go_wp2_with fail
  go_ret
  exact⟨by simp[go_sem,scB,i8];decide,rfl⟩
theorem I6.bools14{w:World}{v:Value}{t:List Bool}(h:I6 w v 14 1 (bools t)):t.length=14/\∃b off cap,v=.slice (some ⟨b,off,none⟩) 14 cap/\14<=cap/\cap<=9223372036854775807/\b<w.heap.size/\∀k:Nat,k<14->w.cell? ⟨b,off+k,none⟩=some (.bool (bAt t k)):=by
 have hl:t.length=14:=by have:=h.1;simpa[bools]using this
 obtain⟨a,cap,rfl,h1,-,h2,h3⟩:=h.open1
 obtain⟨b,off,rfl,hb,-⟩:=h3 0 al
 refine⟨hl,b,off,cap,rfl,h1,h2,hb,fun k hk=>?_⟩
 obtain⟨b',off',he,-,hc⟩:=h3 k hk
 cases he
 rw[hc]
 simp[bools,bAt,show k<t.length by omega]
theorem I6.intsAt{w:World}{v:Value}{l:List Int}(h:I6 w v l.length 1 (ints l))(hn:0<l.length):∃b off cap,v=.slice (some ⟨b,off,none⟩) l.length cap/\l.length<=cap/\cap<=9223372036854775807/\l.length<=9223372036854775807/\b<w.heap.size/\∀k:Nat,k<l.length->w.cell? ⟨b,off+k,none⟩=some (.int .i64 (V9 l k)):=by
 obtain⟨a,cap,rfl,h1,h4,h2,h3⟩:=h.open1
 obtain⟨b,off,rfl,hb,-⟩:=h3 0 hn
 refine⟨b,off,cap,rfl,h1,h2,h4,hb,fun k hk=>?_⟩
 obtain⟨b',off',he,-,hc⟩:=h3 k hk
 cases he
 rw[hc]
 simp[ints,V9,hk]
theorem aI8(v u:Value)(c:d9)(x:d7)(t:List Bool)(w:World)(h:v6 w v c)(hx:D9 c x=true)(ht:I6 w u 14 1 (bools t)):
  Calls Tryz.prog 36 #[v,x.v,u] w fun e w'=>e=.returned (.int .i64 (G4 c x t))/\Below w.heap.size w w':=by
 obtain⟨v1,v2,v3,rfl,h1,h2,h3⟩:=h
 have hf:=ag4 hx
 obtain⟨o,a,b,d,g⟩:=x
 simp only at hf
 obtain⟨W,hW⟩:∃W,W=((w.alloc (.cells #[v1,v2,v3] 26)).alloc (.cells #[.int .i64 o,.int .i64 a,.int .i64 b,.int .i64 d,.int .i64 g] 76)):=⟨_,rfl⟩
 have B0:Below w.heap.size w W:=by rw[hW];go_grown
 obtain⟨htl,tb,tq,tc,rfl,htc,htm,htb,htx⟩:=ht.bools14
 clear ht hx
 have hOF:Hid (G4 c ⟨o,a,b,d,g⟩ t=if o=3 then(if bAt t b&& !scB (V9 c.vars a)then 1 else 0)else if o=4 then(if bAt t d then 4 else 0)
   else if o=5 then(if bAt t b then 4 else if bAt t d&& !scB (V9 c.arrays a)then 1 else 0)else if o=9\/o=10 then(if bAt t a then 3 else 0)else 0):=rfl
 have tx:∀k:Nat,k<14->W.cell? ⟨tb,tq+k,none⟩=some (.bool (bAt t k)):=fun k hk=>by rw[(y8 B0).1 _ _ htb];exact htx k hk
 clear htx
 by_cases o3:o=3
 ·subst o3
  obtain⟨⟨f1,f2⟩,f3,f4⟩:=hf.2.2.2.1 rfl
  clear hf
  obtain⟨b',rfl⟩:∃n:Nat,b=n:=⟨b.toNat,al⟩
  obtain⟨a',rfl⟩:∃n:Nat,a=n:=⟨a.toNat,al⟩
  obtain⟨vb,vo,vc,rfl,hvc,hvm,hvn,hvb,hvx⟩:=h1.intsAt al
  have y1:=tx b' al
  have y2:=hvx a' al
  rw[<-(y8 B0).1 _ _ hvb]at y2
  rw[hW]at y1 y2
  have hR:Hid (G4 c ⟨3,a',b',d,g⟩ t=if bAt t b'&& !scB (V9 c.vars a')then 1 else 0):=by unfold Hid;rw[hOF.out];simp
  clear hOF tx hvx h1 h2 h3
  cases hb:bAt t b'
  all_goals
   rw[hb]at y1
   have HB:=show Hid _ from hb
   clear hb
   go_enter Tryz.func36,Tryz.ntmps36
   go_wp2_with fail
  ·go_ret
   exact⟨D2 (by rw[hR.out,HB.out];rfl),by go_grown⟩
  refine(C7 _ _).mono ?_
  rintro e w1 ⟨rfl,rfl⟩
  cases hs:scB (V9 c.vars a')
  all_goals
   have HS:=show Hid _ from hs
   clear hs
   go_wp2_with fail
   go_ret
   exact⟨D2 (by rw[hR.out,HB.out,HS.out];rfl),by go_grown⟩
 by_cases o4:o=4
 ·subst o4
  have hff:=(hf.2.2.2.2.1 rfl).2.2
  obtain⟨k',hk'⟩:∃n:Nat,d=n:=⟨d.toNat,al⟩
  subst hk'
  have hk14:k'<14:=al
  have y1:=tx k' hk14
  rw[hW]at y1
  have hR:Hid (G4 c ⟨4,a,b,k',g⟩ t=if bAt t k' then 4 else 0):=by unfold Hid;rw[hOF.out];simp
  clear hOF tx h1 h2 h3 hf hff
  cases hb:bAt t k'
  all_goals
   rw[hb]at y1
   have HB:=show Hid _ from hb
   clear hb
   go_enter Tryz.func36,Tryz.ntmps36
   go_wp2_with fail
   go_ret
   exact⟨D2 (by rw[hR.out,HB.out];rfl),by go_grown⟩
 by_cases o5:o=5
 ·subst o5
  obtain⟨⟨f1,f2⟩,⟨f3,f4⟩,f5,f6⟩:=hf.2.2.2.2.2.1 rfl
  clear hf
  obtain⟨b',rfl⟩:∃n:Nat,b=n:=⟨b.toNat,al⟩
  obtain⟨a',rfl⟩:∃n:Nat,a=n:=⟨a.toNat,al⟩
  obtain⟨d',rfl⟩:∃n:Nat,d=n:=⟨d.toNat,al⟩
  obtain⟨vb,vo,vc,rfl,hvc,hvm,hvn,hvb,hvx⟩:=h2.intsAt al
  have y1:=tx b' al
  have y3:=tx d' al
  have y2:=hvx a' al
  rw[<-(y8 B0).1 _ _ hvb]at y2
  rw[hW]at y1 y2 y3
  have hR:Hid (G4 c ⟨5,a',b',d',g⟩ t=if bAt t b' then 4 else if bAt t d'&& !scB (V9 c.arrays a')then 1 else 0):=by unfold Hid;rw[hOF.out];simp
  clear hOF tx hvx h1 h2 h3
  cases hb:bAt t b'
  all_goals
   rw[hb]at y1
   have HB:=show Hid _ from hb
   clear hb
  ·cases hd:bAt t d'
   all_goals
    rw[hd]at y3
    have HD:=show Hid _ from hd
    clear hd
    go_enter Tryz.func36,Tryz.ntmps36
    go_wp2_with fail
   ·go_ret
    exact⟨D2 (by rw[hR.out,HB.out,HD.out];rfl),by go_grown⟩
   refine(C7 _ _).mono ?_
   rintro e w1 ⟨rfl,rfl⟩
   cases hs:scB (V9 c.arrays a')
   all_goals
    have HS:=show Hid _ from hs
    clear hs
    go_wp2_with fail
    go_ret
    exact⟨D2 (by rw[hR.out,HB.out,HD.out,HS.out];rfl),by go_grown⟩
  go_enter Tryz.func36,Tryz.ntmps36
  go_wp2_with fail
  go_ret
  exact⟨D2 (by rw[hR.out,HB.out];rfl),by go_grown⟩
 by_cases o9:o=9
 ·subst o9
  have hff:=hf.2.2.2.2.2.2.2.2.1 rfl
  obtain⟨k',hk'⟩:∃n:Nat,a=n:=⟨a.toNat,al⟩
  subst hk'
  have hk14:k'<14:=al
  have y1:=tx k' hk14
  rw[hW]at y1
  have hR:Hid (G4 c ⟨9,k',b,d,g⟩ t=if bAt t k' then 3 else 0):=by unfold Hid;rw[hOF.out];simp
  clear hOF tx h1 h2 h3 hf hff
  cases hb:bAt t k'
  all_goals
   rw[hb]at y1
   have HB:=show Hid _ from hb
   clear hb
   go_enter Tryz.func36,Tryz.ntmps36
   go_wp2_with fail
   go_ret
   exact⟨D2 (by rw[hR.out,HB.out];rfl),by go_grown⟩
 by_cases o10:o=10
 ·subst o10
  have hff:=hf.2.2.2.2.2.2.2.2.2 rfl
  obtain⟨k',hk'⟩:∃n:Nat,a=n:=⟨a.toNat,al⟩
  subst hk'
  have hk14:k'<14:=al
  have y1:=tx k' hk14
  rw[hW]at y1
  have hR:Hid (G4 c ⟨10,k',b,d,g⟩ t=if bAt t k' then 3 else 0):=by unfold Hid;rw[hOF.out];simp
  clear hOF tx h1 h2 h3 hf hff
  cases hb:bAt t k'
  all_goals
   rw[hb]at y1
   have HB:=show Hid _ from hb
   clear hb
   go_enter Tryz.func36,Tryz.ntmps36
   go_wp2_with fail
   go_ret
   exact⟨D2 (by rw[hR.out,HB.out];rfl),by go_grown⟩
 have hR:Hid (G4 c ⟨o,a,b,d,g⟩ t=0):=by unfold Hid;rw[hOF.out];simp[o3,o4,o5,o9,o10]
 clear hOF tx h1 h2 h3 hf
 have p3:(o==3)=false:=by simp[o3]
 have p4:(o==4)=false:=by simp[o4]
 have p5:(o==5)=false:=by simp[o5]
 have p9:(o==9)=false:=by simp[o9]
 have p10:(o==10)=false:=by simp[o10]
 clear o3 o4 o5 o9 o10
 go_enter Tryz.func36,Tryz.ntmps36
 go_wp2_with fail
 go_ret
 exact⟨D2 hR.out.symm,by go_grown⟩
theorem bg9(v u:Value)(c:d9)(x:d7)(t:List Bool)(w:World)(h:v6 w v c)(hx:D9 c x=true)(ht:I6 w u 14 1 (bools t)):
  Calls Tryz.prog 78 #[v,x.v,u] w fun e w'=>e=.returned (.int .i64 (G4 c x t))/\Below w.heap.size w w':=by
 obtain⟨v1,v2,v3,rfl,h1,h2,h3⟩:=h
 have hf:=ag4 hx
 obtain⟨o,a,b,d,g⟩:=x
 simp only at hf
 obtain⟨W,hW⟩:∃W,W=((w.alloc (.cells #[v1,v2,v3] 26)).alloc (.cells #[.int .i64 o,.int .i64 a,.int .i64 b,.int .i64 d,.int .i64 g] 76)):=⟨_,rfl⟩
 have B0:Below w.heap.size w W:=by rw[hW];go_grown
 obtain⟨htl,tb,tq,tc,rfl,htc,htm,htb,htx⟩:=ht.bools14
 clear ht hx
 have hOF:Hid (G4 c ⟨o,a,b,d,g⟩ t=if o=3 then(if bAt t b&& !scB (V9 c.vars a)then 1 else 0)else if o=4 then(if bAt t d then 4 else 0)
   else if o=5 then(if bAt t b then 4 else if bAt t d&& !scB (V9 c.arrays a)then 1 else 0)else if o=9\/o=10 then(if bAt t a then 3 else 0)else 0):=rfl
 have tx:∀k:Nat,k<14->W.cell? ⟨tb,tq+k,none⟩=some (.bool (bAt t k)):=fun k hk=>by rw[(y8 B0).1 _ _ htb];exact htx k hk
 clear htx
 by_cases o3:o=3
 ·subst o3
  obtain⟨⟨f1,f2⟩,f3,f4⟩:=hf.2.2.2.1 rfl
  clear hf
  obtain⟨b',rfl⟩:∃n:Nat,b=n:=⟨b.toNat,al⟩
  obtain⟨a',rfl⟩:∃n:Nat,a=n:=⟨a.toNat,al⟩
  obtain⟨vb,vo,vc,rfl,hvc,hvm,hvn,hvb,hvx⟩:=h1.intsAt al
  have y1:=tx b' al
  have y2:=hvx a' al
  rw[<-(y8 B0).1 _ _ hvb]at y2
  rw[hW]at y1 y2
  have hR:Hid (G4 c ⟨3,a',b',d,g⟩ t=if bAt t b'&& !scB (V9 c.vars a')then 1 else 0):=by unfold Hid;rw[hOF.out];simp
  clear hOF tx hvx h1 h2 h3
  cases hb:bAt t b'
  all_goals
   rw[hb]at y1
   have HB:=show Hid _ from hb
   clear hb
   go_enter Tryz.func78,Tryz.ntmps78
   go_wp2_with fail
  ·go_ret
   exact⟨D2 (by rw[hR.out,HB.out];rfl),by go_grown⟩
  refine(C8 _ _).mono ?_
  rintro e w1 ⟨rfl,rfl⟩
  cases hs:scB (V9 c.vars a')
  all_goals
   have HS:=show Hid _ from hs
   clear hs
   go_wp2_with fail
   go_ret
   exact⟨D2 (by rw[hR.out,HB.out,HS.out];rfl),by go_grown⟩
 by_cases o4:o=4
 ·subst o4
  have hff:=(hf.2.2.2.2.1 rfl).2.2
  obtain⟨k',hk'⟩:∃n:Nat,d=n:=⟨d.toNat,al⟩
  subst hk'
  have hk14:k'<14:=al
  have y1:=tx k' hk14
  rw[hW]at y1
  have hR:Hid (G4 c ⟨4,a,b,k',g⟩ t=if bAt t k' then 4 else 0):=by unfold Hid;rw[hOF.out];simp
  clear hOF tx h1 h2 h3 hf hff
  cases hb:bAt t k'
  all_goals
   rw[hb]at y1
   have HB:=show Hid _ from hb
   clear hb
   go_enter Tryz.func78,Tryz.ntmps78
   go_wp2_with fail
   go_ret
   exact⟨D2 (by rw[hR.out,HB.out];rfl),by go_grown⟩
 by_cases o5:o=5
 ·subst o5
  obtain⟨⟨f1,f2⟩,⟨f3,f4⟩,f5,f6⟩:=hf.2.2.2.2.2.1 rfl
  clear hf
  obtain⟨b',rfl⟩:∃n:Nat,b=n:=⟨b.toNat,al⟩
  obtain⟨a',rfl⟩:∃n:Nat,a=n:=⟨a.toNat,al⟩
  obtain⟨d',rfl⟩:∃n:Nat,d=n:=⟨d.toNat,al⟩
  obtain⟨vb,vo,vc,rfl,hvc,hvm,hvn,hvb,hvx⟩:=h2.intsAt al
  have y1:=tx b' al
  have y3:=tx d' al
  have y2:=hvx a' al
  rw[<-(y8 B0).1 _ _ hvb]at y2
  rw[hW]at y1 y2 y3
  have hR:Hid (G4 c ⟨5,a',b',d',g⟩ t=if bAt t b' then 4 else if bAt t d'&& !scB (V9 c.arrays a')then 1 else 0):=by unfold Hid;rw[hOF.out];simp
  clear hOF tx hvx h1 h2 h3
  cases hb:bAt t b'
  all_goals
   rw[hb]at y1
   have HB:=show Hid _ from hb
   clear hb
  ·cases hd:bAt t d'
   all_goals
    rw[hd]at y3
    have HD:=show Hid _ from hd
    clear hd
    go_enter Tryz.func78,Tryz.ntmps78
    go_wp2_with fail
   ·go_ret
    exact⟨D2 (by rw[hR.out,HB.out,HD.out];rfl),by go_grown⟩
   refine(C8 _ _).mono ?_
   rintro e w1 ⟨rfl,rfl⟩
   cases hs:scB (V9 c.arrays a')
   all_goals
    have HS:=show Hid _ from hs
    clear hs
    go_wp2_with fail
    go_ret
    exact⟨D2 (by rw[hR.out,HB.out,HD.out,HS.out];rfl),by go_grown⟩
  go_enter Tryz.func78,Tryz.ntmps78
  go_wp2_with fail
  go_ret
  exact⟨D2 (by rw[hR.out,HB.out];rfl),by go_grown⟩
 by_cases o9:o=9
 ·subst o9
  have hff:=hf.2.2.2.2.2.2.2.2.1 rfl
  obtain⟨k',hk'⟩:∃n:Nat,a=n:=⟨a.toNat,al⟩
  subst hk'
  have hk14:k'<14:=al
  have y1:=tx k' hk14
  rw[hW]at y1
  have hR:Hid (G4 c ⟨9,k',b,d,g⟩ t=if bAt t k' then 3 else 0):=by unfold Hid;rw[hOF.out];simp
  clear hOF tx h1 h2 h3 hf hff
  cases hb:bAt t k'
  all_goals
   rw[hb]at y1
   have HB:=show Hid _ from hb
   clear hb
   go_enter Tryz.func78,Tryz.ntmps78
   go_wp2_with fail
   go_ret
   exact⟨D2 (by rw[hR.out,HB.out];rfl),by go_grown⟩
 by_cases o10:o=10
 ·subst o10
  have hff:=hf.2.2.2.2.2.2.2.2.2 rfl
  obtain⟨k',hk'⟩:∃n:Nat,a=n:=⟨a.toNat,al⟩
  subst hk'
  have hk14:k'<14:=al
  have y1:=tx k' hk14
  rw[hW]at y1
  have hR:Hid (G4 c ⟨10,k',b,d,g⟩ t=if bAt t k' then 3 else 0):=by unfold Hid;rw[hOF.out];simp
  clear hOF tx h1 h2 h3 hf hff
  cases hb:bAt t k'
  all_goals
   rw[hb]at y1
   have HB:=show Hid _ from hb
   clear hb
   go_enter Tryz.func78,Tryz.ntmps78
   go_wp2_with fail
   go_ret
   exact⟨D2 (by rw[hR.out,HB.out];rfl),by go_grown⟩
 have hR:Hid (G4 c ⟨o,a,b,d,g⟩ t=0):=by unfold Hid;rw[hOF.out];simp[o3,o4,o5,o9,o10]
 clear hOF tx h1 h2 h3 hf
 have p3:(o==3)=false:=by simp[o3]
 have p4:(o==4)=false:=by simp[o4]
 have p5:(o==5)=false:=by simp[o5]
 have p9:(o==9)=false:=by simp[o9]
 have p10:(o==10)=false:=by simp[o10]
 clear o3 o4 o5 o9 o10
 go_enter Tryz.func78,Tryz.ntmps78
 go_wp2_with fail
 go_ret
 exact⟨D2 hR.out.symm,by go_grown⟩
theorem C3{c:d9}{x:d7}{t:List Bool}{b:Bool}(h:P5 c x t=some b):s8 c x t=t.set x.a.toNat b:=by simp[s8,h]
theorem aC8{c:d9}{x:d7}{t:List Bool}(h:P5 c x t=none):s8 c x t=t:=by simp[s8,h]
theorem y5{w:World}{lo hi:Nat}{g k a:Nat}{t:List Bool}(h:C5 w lo hi 4 1 (.slice (some ⟨g,0,none⟩) 14 k) 14 (bools t))(ha:a<14)(b:Bool):
  C5 (w.setCell ⟨g,a,none⟩ (.bool b)) lo hi 4 1 (.slice (some ⟨g,0,none⟩) 14 k) 14 (bools (t.set a b)):=by
 have hl:(bools t).length=14:=by have:=h.1.1;simpa using this
 have:=h.setCell (j:=a) al (.bool b)
 rwa[show(bools t).set a (.bool b)=bools (t.set a b) by simp[bools]]at this
theorem ah6(v u:Value)(c:d9)(x:d7)(t:List Bool)(w:World)(h:v6 w v c)(hx:D9 c x=true)(ht:I6 w u 14 1 (bools t)):
  Calls Tryz.prog 62 #[v,x.v,u] w fun e w'=>∃r,e=.returned r/\C5 w' w.heap.size w'.heap.size 4 1 r 14 (bools (s8 c x t))/\Below w.heap.size w w':=by
 obtain⟨v1,v2,v3,rfl,h1,h2,h3⟩:=h
 have hf:=ag4 hx
 obtain⟨o,a,b,d,g⟩:=x
 simp only at hf
 obtain⟨W,hW⟩:∃W,W=((w.alloc (.cells #[v1,v2,v3] 26)).alloc (.cells #[.int .i64 o,.int .i64 a,.int .i64 b,.int .i64 d,.int .i64 g] 76)):=⟨_,rfl⟩
 have B0:Below w.heap.size w W:=by rw[hW];go_grown
 have sW:W.heap.size=w.heap.size+1+1:=by rw[hW];simp
 have L1:D3 W w.heap.size [v1,v2,v3]:=by rw[hW];exact(D3.new w [v1,v2,v3] _).alloc _
 have L2:D3 W (w.heap.size+1) [.int .i64 o,.int .i64 a,.int .i64 b,.int .i64 d,.int .i64 g]:=by rw[hW];exact D3.new' (w.alloc _) [.int .i64 o,.int .i64 a,.int .i64 b,.int .i64 d,.int .i64 g] _ ao
 obtain⟨htl,tb,tof,tc,rfl,htc,htm,htb,htx⟩:=ht.bools14
 have hOF:Hid (P5 c ⟨o,a,b,d,g⟩ t=if o=1\/o=11 then some false else if o=2 then some (scB (V9 c.vars b))else if o=4 then some (scB (V9 c.arrays b)||bAt t d)
   else if o=6 then some (bAt t d||bAt t g)else if o=7 then some (bAt t b||bAt t d||bAt t g)else none):=rfl
 go_enter Tryz.func62,Tryz.ntmps62
 go_wp2_with fail
 rw[<-hW]
 clear hW
 refine(bi0 _ t _ (by rw[htl];exact ht.below B0) al).mono ?_
 rintro e w1 ⟨u1,rfl,o1r,b1⟩
 rw[htl]at o1r
 replace L1:=L1.below b1 L1.lt
 replace L2:=L2.below b1 L2.lt
 have B1:=B0.trans (b1.mono B0.size)
 obtain⟨gr,kr,hvr,hg1,-,hg3,-,-,hgf,hgc⟩:=o1r.open al
 cases hvr
 rw[sW]at o1r hg1
 have s1:=B1.size
 have tx:∀k:Nat,k<14->w1.cell? ⟨tb,tof+k,none⟩=some (.bool (bAt t k)):=fun k hk=>by rw[(y8 B1).1 _ _ htb];exact htx k hk
 clear htx ht
 have x0:=L2.cell 0
 simp only[cn1]at x0
 by_cases o1:o=1
 ·subst o1
  have hff:=hf.1 rfl
  obtain⟨a',ha'⟩:∃n:Nat,a=n:=⟨a.toNat,al⟩
  subst ha'
  have ha14:a'<14:=al
  have hR:Hid (s8 c ⟨1,a',b,d,g⟩ t=t.set a' false):=by unfold Hid;rw[C3 (b:=false) (by rw[hOF.out];simp)];simp
  have x1:=L2.cell 1
  simp only[cn1,cn5]at x1
  have hf0:=hgf a'
  obtain⟨u0,hc0⟩:∃u0,w1.cell? ⟨gr,a',none⟩=some u0:=⟨_,hgc a' _ (t0 t a' al)⟩
  clear hff hOF tx hf
  go_wp2_with fail
  go_ret
  rw[hR.out]
  exact⟨_,rfl,y5 (o1r.wide al ao) ha14 _,B1.setCell (p:=⟨gr,a',none⟩) (by show _<=gr;omega) _⟩
 by_cases o11:o=11
 ·subst o11
  have hff:=hf.2.1 rfl
  obtain⟨a',ha'⟩:∃n:Nat,a=n:=⟨a.toNat,al⟩
  subst ha'
  have ha14:a'<14:=al
  have hR:Hid (s8 c ⟨11,a',b,d,g⟩ t=t.set a' false):=by unfold Hid;rw[C3 (b:=false) (by rw[hOF.out];simp)];simp
  have x1:=L2.cell 1
  simp only[cn1,cn5]at x1
  have hf0:=hgf a'
  obtain⟨u0,hc0⟩:∃u0,w1.cell? ⟨gr,a',none⟩=some u0:=⟨_,hgc a' _ (t0 t a' al)⟩
  clear hff hOF tx hf
  go_wp2_with fail
  go_ret
  rw[hR.out]
  exact⟨_,rfl,y5 (o1r.wide al ao) ha14 _,B1.setCell (p:=⟨gr,a',none⟩) (by show _<=gr;omega) _⟩
 have q1:(o==1)=false:=by simp[o1]
 have q11:(o==11)=false:=by simp[o11]
 by_cases o2:o=2
 ·subst o2
  have hff:=hf.2.2.1 rfl
  clear hf
  obtain⟨a',ha'⟩:∃n:Nat,a=n:=⟨a.toNat,al⟩
  subst ha'
  obtain⟨b',hb'⟩:∃n:Nat,b=n:=⟨b.toNat,al⟩
  subst hb'
  obtain⟨vb,vo,vc,rfl,hvc,hvm,hvn,hvb,hvx⟩:=h1.intsAt al
  have y2:=hvx b' al
  have hR:Hid (s8 c ⟨2,a',b',d,g⟩ t=t.set a' (scB (V9 c.vars b'))):=by unfold Hid;rw[C3 (b:=scB (V9 c.vars b')) (by rw[hOF.out];simp)];simp
  have ha14:a'<14:=al
  have ha14i:(a':Int)<14:=al
  have hf0:=hgf a'
  obtain⟨u0,hc0⟩:∃u0,w1.cell? ⟨gr,a',none⟩=some u0:=⟨_,hgc a' _ (t0 t a' al)⟩
  have hb14:b'<c.vars.length:=al
  have hb14i:(b':Int)<(c.vars.length:Int):=al
  clear hff hOF tx
  cases hv0:scB (V9 c.vars b')
  ·have HV0:=show Hid _ from hv0
   clear hv0
   have ya:=L2.cell 1
   have yb:=L2.cell 2
   have yv:=L1.cell 0
   simp only[cn1,cn5]at yv ya yb
   have yw:w1.cell? ⟨vb,vo+b',none⟩=some (.int .i64 (V9 c.vars b')):=by rw[(y8 B1).1 _ _ hvb];exact y2
   have zya:=fun X=>c7 ya X
   have zyb:=fun X=>c7 yb X
   have zyv:=fun X=>c7 yv X
   have zyw:=fun X=>c7 yw X
   have zhc0:=fun X=>c7 hc0 X
   have zf:=fun X=>r9 hg3 hf0 X
   have HC:Hid (∀X,Calls Tryz.prog 113 #[.int .i64 (V9 c.vars b')] (w1.ext X) fun e w''=>e=.returned (.bool false)/\∃Y,w''=w1.ext Y):=fun X=>(C8 _ _).mono fun e w' ⟨e1,e2⟩=>⟨by rw[e1,HV0.out],X,e2.symm⟩
   clear ya yb yv yw hc0 h1 h2 h3 y2 hvx hgc hgf
   have x0:=L2.cell 0
   simp only[cn1]at x0
   go_wp2_with fail
   refine k6 11 _ rfl aj aj ?_
   simp only[cp8,cq1,I4]
   repeat(any_goals (first|go_big_quiet_step ((go_at_call 113;exact HC.out _))|quiet_step ((go_at_call 113;exact HC.out _))))
   refine wpQuiet_nil ?_
   rintro _ ⟨X,rfl⟩
   go_wp2_with fail
   go_ret
   rw[hR.out,HV0.out]
   exact⟨_,rfl,y5 (w:=w1.ext X) ((o1r.keep (i5 w1 X) (cn4 _)).wide al ag) ha14 _,(B1.trans ((i5 w1 X).mono s1)).setCell (p:=⟨gr,a',none⟩) (by show _<=gr;omega) _⟩
  have HV0:=show Hid _ from hv0
  clear hv0
  have ya:=L2.cell 1
  have yb:=L2.cell 2
  have yv:=L1.cell 0
  simp only[cn1,cn5]at yv ya yb
  have yw:w1.cell? ⟨vb,vo+b',none⟩=some (.int .i64 (V9 c.vars b')):=by rw[(y8 B1).1 _ _ hvb];exact y2
  have zya:=fun X=>c7 ya X
  have zyb:=fun X=>c7 yb X
  have zyv:=fun X=>c7 yv X
  have zyw:=fun X=>c7 yw X
  have zhc0:=fun X=>c7 hc0 X
  have zf:=fun X=>r9 hg3 hf0 X
  have HC:Hid (∀X,Calls Tryz.prog 113 #[.int .i64 (V9 c.vars b')] (w1.ext X) fun e w''=>e=.returned (.bool true)/\∃Y,w''=w1.ext Y):=fun X=>(C8 _ _).mono fun e w' ⟨e1,e2⟩=>⟨by rw[e1,HV0.out],X,e2.symm⟩
  clear ya yb yv yw hc0 h1 h2 h3 y2 hvx hgc hgf
  have x0:=L2.cell 0
  simp only[cn1]at x0
  go_wp2_with fail
  refine k6 11 _ rfl aj aj ?_
  simp only[cp8,cq1,I4]
  repeat(any_goals (first|go_big_quiet_step ((go_at_call 113;exact HC.out _))|quiet_step ((go_at_call 113;exact HC.out _))))
  refine wpQuiet_nil ?_
  rintro _ ⟨X,rfl⟩
  go_wp2_with fail
  go_ret
  rw[hR.out,HV0.out]
  exact⟨_,rfl,y5 (w:=w1.ext X) ((o1r.keep (i5 w1 X) (cn4 _)).wide al ag) ha14 _,(B1.trans ((i5 w1 X).mono s1)).setCell (p:=⟨gr,a',none⟩) (by show _<=gr;omega) _⟩
 have q2:(o==2)=false:=by simp[o2]
 by_cases o4:o=4
 ·subst o4
  have hff:=hf.2.2.2.2.1 rfl
  clear hf
  obtain⟨a',ha'⟩:∃n:Nat,a=n:=⟨a.toNat,al⟩
  subst ha'
  obtain⟨b',hb'⟩:∃n:Nat,b=n:=⟨b.toNat,al⟩
  subst hb'
  obtain⟨d',hd'⟩:∃n:Nat,d=n:=⟨d.toNat,al⟩
  subst hd'
  obtain⟨vb,vo,vc,rfl,hvc,hvm,hvn,hvb,hvx⟩:=h2.intsAt al
  have y2:=hvx b' al
  have hR:Hid (s8 c ⟨4,a',b',d',g⟩ t=t.set a' (scB (V9 c.arrays b')||bAt t d')):=by unfold Hid;rw[C3 (b:=scB (V9 c.arrays b')||bAt t d') (by rw[hOF.out];simp)];simp
  have ha14:a'<14:=al
  have ha14i:(a':Int)<14:=al
  have rd:=tx d' al
  have hrd14:d'<14:=al
  have hrd14i:(d':Int)<14:=al
  have hf0:=hgf a'
  obtain⟨u0,hc0⟩:∃u0,w1.cell? ⟨gr,a',none⟩=some u0:=⟨_,hgc a' _ (t0 t a' al)⟩
  have hb14:b'<c.arrays.length:=al
  have hb14i:(b':Int)<(c.arrays.length:Int):=al
  clear hff hOF tx
  cases hv0:scB (V9 c.arrays b')
  ·have HV0:=show Hid _ from hv0
   clear hv0
   cases hv1:bAt t d'
   ·have HV1:=show Hid _ from hv1
    rw[hv1]at rd
    clear hv1
    have ya:=L2.cell 1
    have yb:=L2.cell 2
    have yd:=L2.cell 3
    have yv:=L1.cell 1
    simp only[cn1,cn5]at yv ya yb yd
    have yw:w1.cell? ⟨vb,vo+b',none⟩=some (.int .i64 (V9 c.arrays b')):=by rw[(y8 B1).1 _ _ hvb];exact y2
    have zya:=fun X=>c7 ya X
    have zyb:=fun X=>c7 yb X
    have zyd:=fun X=>c7 yd X
    have zyv:=fun X=>c7 yv X
    have zyw:=fun X=>c7 yw X
    have zrd:=fun X=>c7 rd X
    have zhc0:=fun X=>c7 hc0 X
    have zf:=fun X=>r9 hg3 hf0 X
    have HC:Hid (∀X,Calls Tryz.prog 113 #[.int .i64 (V9 c.arrays b')] (w1.ext X) fun e w''=>e=.returned (.bool false)/\∃Y,w''=w1.ext Y):=fun X=>(C8 _ _).mono fun e w' ⟨e1,e2⟩=>⟨by rw[e1,HV0.out],X,e2.symm⟩
    clear ya yb yd yv yw rd hc0 h1 h2 h3 y2 hvx hgc hgf
    have x0:=L2.cell 0
    simp only[cn1]at x0
    go_wp2_with fail
    refine k6 18 _ rfl aj aj ?_
    simp only[cp8,cq1,I4]
    repeat(any_goals (first|go_big_quiet_step ((go_at_call 113;exact HC.out _))|quiet_step ((go_at_call 113;exact HC.out _))))
    refine wpQuiet_nil ?_
    rintro _ ⟨X,rfl⟩
    go_wp2_with fail
    go_ret
    rw[hR.out,HV0.out,HV1.out]
    exact⟨_,rfl,y5 (w:=w1.ext X) ((o1r.keep (i5 w1 X) (cn4 _)).wide al ag) ha14 _,(B1.trans ((i5 w1 X).mono s1)).setCell (p:=⟨gr,a',none⟩) (by show _<=gr;omega) _⟩
   have HV1:=show Hid _ from hv1
   rw[hv1]at rd
   clear hv1
   have ya:=L2.cell 1
   have yb:=L2.cell 2
   have yd:=L2.cell 3
   have yv:=L1.cell 1
   simp only[cn1,cn5]at yv ya yb yd
   have yw:w1.cell? ⟨vb,vo+b',none⟩=some (.int .i64 (V9 c.arrays b')):=by rw[(y8 B1).1 _ _ hvb];exact y2
   have zya:=fun X=>c7 ya X
   have zyb:=fun X=>c7 yb X
   have zyd:=fun X=>c7 yd X
   have zyv:=fun X=>c7 yv X
   have zyw:=fun X=>c7 yw X
   have zrd:=fun X=>c7 rd X
   have zhc0:=fun X=>c7 hc0 X
   have zf:=fun X=>r9 hg3 hf0 X
   have HC:Hid (∀X,Calls Tryz.prog 113 #[.int .i64 (V9 c.arrays b')] (w1.ext X) fun e w''=>e=.returned (.bool false)/\∃Y,w''=w1.ext Y):=fun X=>(C8 _ _).mono fun e w' ⟨e1,e2⟩=>⟨by rw[e1,HV0.out],X,e2.symm⟩
   clear ya yb yd yv yw rd hc0 h1 h2 h3 y2 hvx hgc hgf
   have x0:=L2.cell 0
   simp only[cn1]at x0
   go_wp2_with fail
   refine k6 18 _ rfl aj aj ?_
   simp only[cp8,cq1,I4]
   repeat(any_goals (first|go_big_quiet_step ((go_at_call 113;exact HC.out _))|quiet_step ((go_at_call 113;exact HC.out _))))
   refine wpQuiet_nil ?_
   rintro _ ⟨X,rfl⟩
   go_wp2_with fail
   go_ret
   rw[hR.out,HV0.out,HV1.out]
   exact⟨_,rfl,y5 (w:=w1.ext X) ((o1r.keep (i5 w1 X) (cn4 _)).wide al ag) ha14 _,(B1.trans ((i5 w1 X).mono s1)).setCell (p:=⟨gr,a',none⟩) (by show _<=gr;omega) _⟩
  have HV0:=show Hid _ from hv0
  clear hv0
  have ya:=L2.cell 1
  have yb:=L2.cell 2
  have yd:=L2.cell 3
  have yv:=L1.cell 1
  simp only[cn1,cn5]at yv ya yb yd
  have yw:w1.cell? ⟨vb,vo+b',none⟩=some (.int .i64 (V9 c.arrays b')):=by rw[(y8 B1).1 _ _ hvb];exact y2
  have zya:=fun X=>c7 ya X
  have zyb:=fun X=>c7 yb X
  have zyd:=fun X=>c7 yd X
  have zyv:=fun X=>c7 yv X
  have zyw:=fun X=>c7 yw X
  have zhc0:=fun X=>c7 hc0 X
  have zf:=fun X=>r9 hg3 hf0 X
  have HC:Hid (∀X,Calls Tryz.prog 113 #[.int .i64 (V9 c.arrays b')] (w1.ext X) fun e w''=>e=.returned (.bool true)/\∃Y,w''=w1.ext Y):=fun X=>(C8 _ _).mono fun e w' ⟨e1,e2⟩=>⟨by rw[e1,HV0.out],X,e2.symm⟩
  clear ya yb yd yv yw hc0 h1 h2 h3 y2 hvx hgc hgf
  have x0:=L2.cell 0
  simp only[cn1]at x0
  go_wp2_with fail
  refine k6 18 _ rfl aj aj ?_
  simp only[cp8,cq1,I4]
  repeat(any_goals (first|go_big_quiet_step ((go_at_call 113;exact HC.out _))|quiet_step ((go_at_call 113;exact HC.out _))))
  refine wpQuiet_nil ?_
  rintro _ ⟨X,rfl⟩
  go_wp2_with fail
  go_ret
  rw[hR.out,HV0.out]
  exact⟨_,rfl,y5 (w:=w1.ext X) ((o1r.keep (i5 w1 X) (cn4 _)).wide al ag) ha14 _,(B1.trans ((i5 w1 X).mono s1)).setCell (p:=⟨gr,a',none⟩) (by show _<=gr;omega) _⟩
 have q4:(o==4)=false:=by simp[o4]
 by_cases o6:o=6
 ·subst o6
  have hff:=hf.2.2.2.2.2.2.1 rfl
  clear hf
  obtain⟨a',ha'⟩:∃n:Nat,a=n:=⟨a.toNat,al⟩
  subst ha'
  obtain⟨d',hd'⟩:∃n:Nat,d=n:=⟨d.toNat,al⟩
  subst hd'
  obtain⟨g',hg'⟩:∃n:Nat,g=n:=⟨g.toNat,al⟩
  subst hg'
  have hR:Hid (s8 c ⟨6,a',b,d',g'⟩ t=t.set a' (bAt t d'||bAt t g')):=by unfold Hid;rw[C3 (b:=bAt t d'||bAt t g') (by rw[hOF.out];simp)];simp
  have ha14:a'<14:=al
  have ha14i:(a':Int)<14:=al
  have rd:=tx d' al
  have hrd14:d'<14:=al
  have hrd14i:(d':Int)<14:=al
  have rg:=tx g' al
  have hrg14:g'<14:=al
  have hrg14i:(g':Int)<14:=al
  have hf0:=hgf a'
  obtain⟨u0,hc0⟩:∃u0,w1.cell? ⟨gr,a',none⟩=some u0:=⟨_,hgc a' _ (t0 t a' al)⟩
  clear hff hOF tx
  cases hv0:bAt t d'
  ·have HV0:=show Hid _ from hv0
   rw[hv0]at rd
   clear hv0
   cases hv1:bAt t g'
   ·have HV1:=show Hid _ from hv1
    rw[hv1]at rg
    clear hv1
    have ya:=L2.cell 1
    have yd:=L2.cell 3
    have yg:=L2.cell 4
    simp only[cn1,cn5]at ya yd yg
    have zya:=fun X=>c7 ya X
    have zyd:=fun X=>c7 yd X
    have zyg:=fun X=>c7 yg X
    have zrd:=fun X=>c7 rd X
    have zrg:=fun X=>c7 rg X
    have zhc0:=fun X=>c7 hc0 X
    have zf:=fun X=>r9 hg3 hf0 X
    clear ya yd yg rd rg hc0 h1 h2 h3 hgc hgf
    have x0:=L2.cell 0
    simp only[cn1]at x0
    go_wp2_with fail
    refine k6 16 _ rfl aj aj ?_
    simp only[cp8,cq1,I4]
    repeat(any_goals (first|go_big_quiet_step ((fail))|quiet_step ((fail))))
    refine wpQuiet_nil ?_
    rintro _ ⟨X,rfl⟩
    go_wp2_with fail
    go_ret
    rw[hR.out,HV0.out,HV1.out]
    exact⟨_,rfl,y5 (w:=w1.ext X) ((o1r.keep (i5 w1 X) (cn4 _)).wide al ag) ha14 _,(B1.trans ((i5 w1 X).mono s1)).setCell (p:=⟨gr,a',none⟩) (by show _<=gr;omega) _⟩
   have HV1:=show Hid _ from hv1
   rw[hv1]at rg
   clear hv1
   have ya:=L2.cell 1
   have yd:=L2.cell 3
   have yg:=L2.cell 4
   simp only[cn1,cn5]at ya yd yg
   have zya:=fun X=>c7 ya X
   have zyd:=fun X=>c7 yd X
   have zyg:=fun X=>c7 yg X
   have zrd:=fun X=>c7 rd X
   have zrg:=fun X=>c7 rg X
   have zhc0:=fun X=>c7 hc0 X
   have zf:=fun X=>r9 hg3 hf0 X
   clear ya yd yg rd rg hc0 h1 h2 h3 hgc hgf
   have x0:=L2.cell 0
   simp only[cn1]at x0
   go_wp2_with fail
   refine k6 16 _ rfl aj aj ?_
   simp only[cp8,cq1,I4]
   repeat(any_goals (first|go_big_quiet_step ((fail))|quiet_step ((fail))))
   refine wpQuiet_nil ?_
   rintro _ ⟨X,rfl⟩
   go_wp2_with fail
   go_ret
   rw[hR.out,HV0.out,HV1.out]
   exact⟨_,rfl,y5 (w:=w1.ext X) ((o1r.keep (i5 w1 X) (cn4 _)).wide al ag) ha14 _,(B1.trans ((i5 w1 X).mono s1)).setCell (p:=⟨gr,a',none⟩) (by show _<=gr;omega) _⟩
  have HV0:=show Hid _ from hv0
  rw[hv0]at rd
  clear hv0
  have ya:=L2.cell 1
  have yd:=L2.cell 3
  have yg:=L2.cell 4
  simp only[cn1,cn5]at ya yd yg
  have zya:=fun X=>c7 ya X
  have zyd:=fun X=>c7 yd X
  have zyg:=fun X=>c7 yg X
  have zrd:=fun X=>c7 rd X
  have zhc0:=fun X=>c7 hc0 X
  have zf:=fun X=>r9 hg3 hf0 X
  clear ya yd yg rd hc0 h1 h2 h3 hgc hgf
  have x0:=L2.cell 0
  simp only[cn1]at x0
  go_wp2_with fail
  refine k6 16 _ rfl aj aj ?_
  simp only[cp8,cq1,I4]
  repeat(any_goals (first|go_big_quiet_step ((fail))|quiet_step ((fail))))
  refine wpQuiet_nil ?_
  rintro _ ⟨X,rfl⟩
  go_wp2_with fail
  go_ret
  rw[hR.out,HV0.out]
  exact⟨_,rfl,y5 (w:=w1.ext X) ((o1r.keep (i5 w1 X) (cn4 _)).wide al ag) ha14 _,(B1.trans ((i5 w1 X).mono s1)).setCell (p:=⟨gr,a',none⟩) (by show _<=gr;omega) _⟩
 have q6:(o==6)=false:=by simp[o6]
 by_cases o7:o=7
 ·subst o7
  have hff:=hf.2.2.2.2.2.2.2.1 rfl
  clear hf
  obtain⟨a',ha'⟩:∃n:Nat,a=n:=⟨a.toNat,al⟩
  subst ha'
  obtain⟨b',hb'⟩:∃n:Nat,b=n:=⟨b.toNat,al⟩
  subst hb'
  obtain⟨d',hd'⟩:∃n:Nat,d=n:=⟨d.toNat,al⟩
  subst hd'
  obtain⟨g',hg'⟩:∃n:Nat,g=n:=⟨g.toNat,al⟩
  subst hg'
  have hR:Hid (s8 c ⟨7,a',b',d',g'⟩ t=t.set a' (bAt t b'||bAt t d'||bAt t g')):=by unfold Hid;rw[C3 (b:=bAt t b'||bAt t d'||bAt t g') (by rw[hOF.out];simp)];simp
  have ha14:a'<14:=al
  have ha14i:(a':Int)<14:=al
  have rb:=tx b' al
  have hrb14:b'<14:=al
  have hrb14i:(b':Int)<14:=al
  have rd:=tx d' al
  have hrd14:d'<14:=al
  have hrd14i:(d':Int)<14:=al
  have rg:=tx g' al
  have hrg14:g'<14:=al
  have hrg14i:(g':Int)<14:=al
  have hf0:=hgf a'
  obtain⟨u0,hc0⟩:∃u0,w1.cell? ⟨gr,a',none⟩=some u0:=⟨_,hgc a' _ (t0 t a' al)⟩
  clear hff hOF tx
  cases hv0:bAt t b'
  ·have HV0:=show Hid _ from hv0
   rw[hv0]at rb
   clear hv0
   cases hv1:bAt t d'
   ·have HV1:=show Hid _ from hv1
    rw[hv1]at rd
    clear hv1
    cases hv2:bAt t g'
    ·have HV2:=show Hid _ from hv2
     rw[hv2]at rg
     clear hv2
     have ya:=L2.cell 1
     have yb:=L2.cell 2
     have yd:=L2.cell 3
     have yg:=L2.cell 4
     simp only[cn1,cn5]at ya yb yd yg
     have zya:=fun X=>c7 ya X
     have zyb:=fun X=>c7 yb X
     have zyd:=fun X=>c7 yd X
     have zyg:=fun X=>c7 yg X
     have zrb:=fun X=>c7 rb X
     have zrd:=fun X=>c7 rd X
     have zrg:=fun X=>c7 rg X
     have zhc0:=fun X=>c7 hc0 X
     have zf:=fun X=>r9 hg3 hf0 X
     clear ya yb yd yg rb rd rg hc0 h1 h2 h3 hgc hgf
     have x0:=L2.cell 0
     simp only[cn1]at x0
     go_wp2_with fail
     refine k6 23 _ rfl aj aj ?_
     simp only[cp8,cq1,I4]
     repeat(any_goals (first|go_big_quiet_step ((fail))|quiet_step ((fail))))
     refine wpQuiet_nil ?_
     rintro _ ⟨X,rfl⟩
     go_wp2_with fail
     go_ret
     rw[hR.out,HV0.out,HV1.out,HV2.out]
     exact⟨_,rfl,y5 (w:=w1.ext X) ((o1r.keep (i5 w1 X) (cn4 _)).wide al ag) ha14 _,(B1.trans ((i5 w1 X).mono s1)).setCell (p:=⟨gr,a',none⟩) (by show _<=gr;omega) _⟩
    have HV2:=show Hid _ from hv2
    rw[hv2]at rg
    clear hv2
    have ya:=L2.cell 1
    have yb:=L2.cell 2
    have yd:=L2.cell 3
    have yg:=L2.cell 4
    simp only[cn1,cn5]at ya yb yd yg
    have zya:=fun X=>c7 ya X
    have zyb:=fun X=>c7 yb X
    have zyd:=fun X=>c7 yd X
    have zyg:=fun X=>c7 yg X
    have zrb:=fun X=>c7 rb X
    have zrd:=fun X=>c7 rd X
    have zrg:=fun X=>c7 rg X
    have zhc0:=fun X=>c7 hc0 X
    have zf:=fun X=>r9 hg3 hf0 X
    clear ya yb yd yg rb rd rg hc0 h1 h2 h3 hgc hgf
    have x0:=L2.cell 0
    simp only[cn1]at x0
    go_wp2_with fail
    refine k6 23 _ rfl aj aj ?_
    simp only[cp8,cq1,I4]
    repeat(any_goals (first|go_big_quiet_step ((fail))|quiet_step ((fail))))
    refine wpQuiet_nil ?_
    rintro _ ⟨X,rfl⟩
    go_wp2_with fail
    go_ret
    rw[hR.out,HV0.out,HV1.out,HV2.out]
    exact⟨_,rfl,y5 (w:=w1.ext X) ((o1r.keep (i5 w1 X) (cn4 _)).wide al ag) ha14 _,(B1.trans ((i5 w1 X).mono s1)).setCell (p:=⟨gr,a',none⟩) (by show _<=gr;omega) _⟩
   have HV1:=show Hid _ from hv1
   rw[hv1]at rd
   clear hv1
   have ya:=L2.cell 1
   have yb:=L2.cell 2
   have yd:=L2.cell 3
   have yg:=L2.cell 4
   simp only[cn1,cn5]at ya yb yd yg
   have zya:=fun X=>c7 ya X
   have zyb:=fun X=>c7 yb X
   have zyd:=fun X=>c7 yd X
   have zyg:=fun X=>c7 yg X
   have zrb:=fun X=>c7 rb X
   have zrd:=fun X=>c7 rd X
   have zhc0:=fun X=>c7 hc0 X
   have zf:=fun X=>r9 hg3 hf0 X
   clear ya yb yd yg rb rd hc0 h1 h2 h3 hgc hgf
   have x0:=L2.cell 0
   simp only[cn1]at x0
   go_wp2_with fail
   refine k6 23 _ rfl aj aj ?_
   simp only[cp8,cq1,I4]
   repeat(any_goals (first|go_big_quiet_step ((fail))|quiet_step ((fail))))
   refine wpQuiet_nil ?_
   rintro _ ⟨X,rfl⟩
   go_wp2_with fail
   go_ret
   rw[hR.out,HV0.out,HV1.out]
   exact⟨_,rfl,y5 (w:=w1.ext X) ((o1r.keep (i5 w1 X) (cn4 _)).wide al ag) ha14 _,(B1.trans ((i5 w1 X).mono s1)).setCell (p:=⟨gr,a',none⟩) (by show _<=gr;omega) _⟩
  have HV0:=show Hid _ from hv0
  rw[hv0]at rb
  clear hv0
  have ya:=L2.cell 1
  have yb:=L2.cell 2
  have yd:=L2.cell 3
  have yg:=L2.cell 4
  simp only[cn1,cn5]at ya yb yd yg
  have zya:=fun X=>c7 ya X
  have zyb:=fun X=>c7 yb X
  have zyd:=fun X=>c7 yd X
  have zyg:=fun X=>c7 yg X
  have zrb:=fun X=>c7 rb X
  have zhc0:=fun X=>c7 hc0 X
  have zf:=fun X=>r9 hg3 hf0 X
  clear ya yb yd yg rb hc0 h1 h2 h3 hgc hgf
  have x0:=L2.cell 0
  simp only[cn1]at x0
  go_wp2_with fail
  refine k6 23 _ rfl aj aj ?_
  simp only[cp8,cq1,I4]
  repeat(any_goals (first|go_big_quiet_step ((fail))|quiet_step ((fail))))
  refine wpQuiet_nil ?_
  rintro _ ⟨X,rfl⟩
  go_wp2_with fail
  go_ret
  rw[hR.out,HV0.out]
  exact⟨_,rfl,y5 (w:=w1.ext X) ((o1r.keep (i5 w1 X) (cn4 _)).wide al ag) ha14 _,(B1.trans ((i5 w1 X).mono s1)).setCell (p:=⟨gr,a',none⟩) (by show _<=gr;omega) _⟩
 have q7:(o==7)=false:=by simp[o7]
 have hR:Hid (s8 c ⟨o,a,b,d,g⟩ t=t):=by unfold Hid;rw[aC8 (by rw[hOF.out];simp[o1,o11,o2,o4,o6,o7])]
 clear hOF tx hf o11 o2 o4 o6 o7
 go_wp2_with fail
 go_ret
 rw[hR.out]
 exact⟨_,rfl,o1r.wide al (cn4 _),B1⟩
theorem au2(v u:Value)(c:d9)(x:d7)(t:List Bool)(w:World)(h:v6 w v c)(hx:D9 c x=true)(ht:I6 w u 14 1 (bools t)):
  Calls Tryz.prog 65 #[v,x.v,u] w fun e w'=>∃r,e=.returned r/\C5 w' w.heap.size w'.heap.size 4 1 r 14 (bools (s8 c x t))/\Below w.heap.size w w':=by
 obtain⟨v1,v2,v3,rfl,h1,h2,h3⟩:=h
 have hf:=ag4 hx
 obtain⟨o,a,b,d,g⟩:=x
 simp only at hf
 obtain⟨W,hW⟩:∃W,W=((w.alloc (.cells #[v1,v2,v3] 26)).alloc (.cells #[.int .i64 o,.int .i64 a,.int .i64 b,.int .i64 d,.int .i64 g] 76)):=⟨_,rfl⟩
 have B0:Below w.heap.size w W:=by rw[hW];go_grown
 have sW:W.heap.size=w.heap.size+1+1:=by rw[hW];simp
 have L1:D3 W w.heap.size [v1,v2,v3]:=by rw[hW];exact(D3.new w [v1,v2,v3] _).alloc _
 have L2:D3 W (w.heap.size+1) [.int .i64 o,.int .i64 a,.int .i64 b,.int .i64 d,.int .i64 g]:=by rw[hW];exact D3.new' (w.alloc _) [.int .i64 o,.int .i64 a,.int .i64 b,.int .i64 d,.int .i64 g] _ ao
 obtain⟨htl,tb,tof,tc,rfl,htc,htm,htb,htx⟩:=ht.bools14
 have hOF:Hid (P5 c ⟨o,a,b,d,g⟩ t=if o=1\/o=11 then some false else if o=2 then some (scB (V9 c.vars b))else if o=4 then some (scB (V9 c.arrays b)||bAt t d)
   else if o=6 then some (bAt t d||bAt t g)else if o=7 then some (bAt t b||bAt t d||bAt t g)else none):=rfl
 go_enter Tryz.func65,Tryz.ntmps65
 go_upto_region 2 with(at_builtin;refine J8 rfl _ _ rfl Tryz.underlying63 aM0 rfl al rfl (z6 _ #[] 0 1 _ ao rfl al).1 rfl (ht.below (by go_grown)) ap0 al al ao ?_;rintro a4 q4 w1 o4 b4- -)
 trace_state
 have o1r:C5 w1 W.heap.size w1.heap.size 4 1 (.slice a4 14 q4) 14 (bools t):=C5.mk' (by simpa[sW]using o4)
 have b1:Below W.heap.size W w1:=by
  rw[<-hW]at b4
  exact((Below.refl W.heap.size W).alloc (cn4 _) _).trans (by simpa[sW]using b4)
 clear hW o4 b4
 replace L1:=L1.below b1 L1.lt
 replace L2:=L2.below b1 L2.lt
 have B1:=B0.trans (b1.mono B0.size)
 obtain⟨gr,kr,hvr,hg1,-,hg3,-,-,hgf,hgc⟩:=o1r.open al
 cases hvr
 rw[sW]at o1r hg1
 have s1:=B1.size
 have tx:∀k:Nat,k<14->w1.cell? ⟨tb,tof+k,none⟩=some (.bool (bAt t k)):=fun k hk=>by rw[(y8 B1).1 _ _ htb];exact htx k hk
 clear htx ht
 have x0:=L2.cell 0
 simp only[cn1]at x0
 by_cases o1:o=1
 ·subst o1
  have hff:=hf.1 rfl
  obtain⟨a',ha'⟩:∃n:Nat,a=n:=⟨a.toNat,al⟩
  subst ha'
  have ha14:a'<14:=al
  have hR:Hid (s8 c ⟨1,a',b,d,g⟩ t=t.set a' false):=by unfold Hid;rw[C3 (b:=false) (by rw[hOF.out];simp)];simp
  have x1:=L2.cell 1
  simp only[cn1,cn5]at x1
  have hf0:=hgf a'
  obtain⟨u0,hc0⟩:∃u0,w1.cell? ⟨gr,a',none⟩=some u0:=⟨_,hgc a' _ (t0 t a' al)⟩
  clear hff hOF tx hf
  go_wp2_with fail
  go_ret
  rw[hR.out]
  exact⟨_,rfl,y5 (o1r.wide al ao) ha14 _,B1.setCell (p:=⟨gr,a',none⟩) (by show _<=gr;omega) _⟩
 by_cases o11:o=11
 ·subst o11
  have hff:=hf.2.1 rfl
  obtain⟨a',ha'⟩:∃n:Nat,a=n:=⟨a.toNat,al⟩
  subst ha'
  have ha14:a'<14:=al
  have hR:Hid (s8 c ⟨11,a',b,d,g⟩ t=t.set a' false):=by unfold Hid;rw[C3 (b:=false) (by rw[hOF.out];simp)];simp
  have x1:=L2.cell 1
  simp only[cn1,cn5]at x1
  have hf0:=hgf a'
  obtain⟨u0,hc0⟩:∃u0,w1.cell? ⟨gr,a',none⟩=some u0:=⟨_,hgc a' _ (t0 t a' al)⟩
  clear hff hOF tx hf
  go_wp2_with fail
  go_ret
  rw[hR.out]
  exact⟨_,rfl,y5 (o1r.wide al ao) ha14 _,B1.setCell (p:=⟨gr,a',none⟩) (by show _<=gr;omega) _⟩
 have q1:(o==1)=false:=by simp[o1]
 have q11:(o==11)=false:=by simp[o11]
 by_cases o2:o=2
 ·subst o2
  have hff:=hf.2.2.1 rfl
  clear hf
  obtain⟨a',ha'⟩:∃n:Nat,a=n:=⟨a.toNat,al⟩
  subst ha'
  obtain⟨b',hb'⟩:∃n:Nat,b=n:=⟨b.toNat,al⟩
  subst hb'
  obtain⟨vb,vo,vc,rfl,hvc,hvm,hvn,hvb,hvx⟩:=h1.intsAt al
  have y2:=hvx b' al
  have hR:Hid (s8 c ⟨2,a',b',d,g⟩ t=t.set a' (scB (V9 c.vars b'))):=by unfold Hid;rw[C3 (b:=scB (V9 c.vars b')) (by rw[hOF.out];simp)];simp
  have ha14:a'<14:=al
  have ha14i:(a':Int)<14:=al
  have hf0:=hgf a'
  obtain⟨u0,hc0⟩:∃u0,w1.cell? ⟨gr,a',none⟩=some u0:=⟨_,hgc a' _ (t0 t a' al)⟩
  have hb14:b'<c.vars.length:=al
  have hb14i:(b':Int)<(c.vars.length:Int):=al
  clear hff hOF tx
  cases hv0:scB (V9 c.vars b')
  ·have HV0:=show Hid _ from hv0
   clear hv0
   have ya:=L2.cell 1
   have yb:=L2.cell 2
   have yv:=L1.cell 0
   simp only[cn1,cn5]at yv ya yb
   have yw:w1.cell? ⟨vb,vo+b',none⟩=some (.int .i64 (V9 c.vars b')):=by rw[(y8 B1).1 _ _ hvb];exact y2
   have zya:=fun X=>c7 ya X
   have zyb:=fun X=>c7 yb X
   have zyv:=fun X=>c7 yv X
   have zyw:=fun X=>c7 yw X
   have zhc0:=fun X=>c7 hc0 X
   have zf:=fun X=>r9 hg3 hf0 X
   have HC:Hid (∀X,Calls Tryz.prog 82 #[.int .i64 (V9 c.vars b')] (w1.ext X) fun e w''=>e=.returned (.bool false)/\∃Y,w''=w1.ext Y):=fun X=>(C7 _ _).mono fun e w' ⟨e1,e2⟩=>⟨by rw[e1,HV0.out],X,e2.symm⟩
   clear ya yb yv yw hc0 h1 h2 h3 y2 hvx hgc hgf
   have x0:=L2.cell 0
   simp only[cn1]at x0
   go_wp2_with fail
   refine k6 11 _ rfl aj aj ?_
   simp only[cp8,cq1,I4]
   repeat(any_goals (first|go_big_quiet_step ((go_at_call 82;exact HC.out _))|quiet_step ((go_at_call 82;exact HC.out _))))
   refine wpQuiet_nil ?_
   rintro _ ⟨X,rfl⟩
   go_wp2_with fail
   go_ret
   rw[hR.out,HV0.out]
   exact⟨_,rfl,y5 (w:=w1.ext X) ((o1r.keep (i5 w1 X) (cn4 _)).wide al ag) ha14 _,(B1.trans ((i5 w1 X).mono s1)).setCell (p:=⟨gr,a',none⟩) (by show _<=gr;omega) _⟩
  have HV0:=show Hid _ from hv0
  clear hv0
  have ya:=L2.cell 1
  have yb:=L2.cell 2
  have yv:=L1.cell 0
  simp only[cn1,cn5]at yv ya yb
  have yw:w1.cell? ⟨vb,vo+b',none⟩=some (.int .i64 (V9 c.vars b')):=by rw[(y8 B1).1 _ _ hvb];exact y2
  have zya:=fun X=>c7 ya X
  have zyb:=fun X=>c7 yb X
  have zyv:=fun X=>c7 yv X
  have zyw:=fun X=>c7 yw X
  have zhc0:=fun X=>c7 hc0 X
  have zf:=fun X=>r9 hg3 hf0 X
  have HC:Hid (∀X,Calls Tryz.prog 82 #[.int .i64 (V9 c.vars b')] (w1.ext X) fun e w''=>e=.returned (.bool true)/\∃Y,w''=w1.ext Y):=fun X=>(C7 _ _).mono fun e w' ⟨e1,e2⟩=>⟨by rw[e1,HV0.out],X,e2.symm⟩
  clear ya yb yv yw hc0 h1 h2 h3 y2 hvx hgc hgf
  have x0:=L2.cell 0
  simp only[cn1]at x0
  go_wp2_with fail
  refine k6 11 _ rfl aj aj ?_
  simp only[cp8,cq1,I4]
  repeat(any_goals (first|go_big_quiet_step ((go_at_call 82;exact HC.out _))|quiet_step ((go_at_call 82;exact HC.out _))))
  refine wpQuiet_nil ?_
  rintro _ ⟨X,rfl⟩
  go_wp2_with fail
  go_ret
  rw[hR.out,HV0.out]
  exact⟨_,rfl,y5 (w:=w1.ext X) ((o1r.keep (i5 w1 X) (cn4 _)).wide al ag) ha14 _,(B1.trans ((i5 w1 X).mono s1)).setCell (p:=⟨gr,a',none⟩) (by show _<=gr;omega) _⟩
 have q2:(o==2)=false:=by simp[o2]
 by_cases o4:o=4
 ·subst o4
  have hff:=hf.2.2.2.2.1 rfl
  clear hf
  obtain⟨a',ha'⟩:∃n:Nat,a=n:=⟨a.toNat,al⟩
  subst ha'
  obtain⟨b',hb'⟩:∃n:Nat,b=n:=⟨b.toNat,al⟩
  subst hb'
  obtain⟨d',hd'⟩:∃n:Nat,d=n:=⟨d.toNat,al⟩
  subst hd'
  obtain⟨vb,vo,vc,rfl,hvc,hvm,hvn,hvb,hvx⟩:=h2.intsAt al
  have y2:=hvx b' al
  have hR:Hid (s8 c ⟨4,a',b',d',g⟩ t=t.set a' (scB (V9 c.arrays b')||bAt t d')):=by unfold Hid;rw[C3 (b:=scB (V9 c.arrays b')||bAt t d') (by rw[hOF.out];simp)];simp
  have ha14:a'<14:=al
  have ha14i:(a':Int)<14:=al
  have rd:=tx d' al
  have hrd14:d'<14:=al
  have hrd14i:(d':Int)<14:=al
  have hf0:=hgf a'
  obtain⟨u0,hc0⟩:∃u0,w1.cell? ⟨gr,a',none⟩=some u0:=⟨_,hgc a' _ (t0 t a' al)⟩
  have hb14:b'<c.arrays.length:=al
  have hb14i:(b':Int)<(c.arrays.length:Int):=al
  clear hff hOF tx
  cases hv0:scB (V9 c.arrays b')
  ·have HV0:=show Hid _ from hv0
   clear hv0
   cases hv1:bAt t d'
   ·have HV1:=show Hid _ from hv1
    rw[hv1]at rd
    clear hv1
    have ya:=L2.cell 1
    have yb:=L2.cell 2
    have yd:=L2.cell 3
    have yv:=L1.cell 1
    simp only[cn1,cn5]at yv ya yb yd
    have yw:w1.cell? ⟨vb,vo+b',none⟩=some (.int .i64 (V9 c.arrays b')):=by rw[(y8 B1).1 _ _ hvb];exact y2
    have zya:=fun X=>c7 ya X
    have zyb:=fun X=>c7 yb X
    have zyd:=fun X=>c7 yd X
    have zyv:=fun X=>c7 yv X
    have zyw:=fun X=>c7 yw X
    have zrd:=fun X=>c7 rd X
    have zhc0:=fun X=>c7 hc0 X
    have zf:=fun X=>r9 hg3 hf0 X
    have HC:Hid (∀X,Calls Tryz.prog 82 #[.int .i64 (V9 c.arrays b')] (w1.ext X) fun e w''=>e=.returned (.bool false)/\∃Y,w''=w1.ext Y):=fun X=>(C7 _ _).mono fun e w' ⟨e1,e2⟩=>⟨by rw[e1,HV0.out],X,e2.symm⟩
    clear ya yb yd yv yw rd hc0 h1 h2 h3 y2 hvx hgc hgf
    have x0:=L2.cell 0
    simp only[cn1]at x0
    go_wp2_with fail
    refine k6 18 _ rfl aj aj ?_
    simp only[cp8,cq1,I4]
    repeat(any_goals (first|go_big_quiet_step ((go_at_call 82;exact HC.out _))|quiet_step ((go_at_call 82;exact HC.out _))))
    refine wpQuiet_nil ?_
    rintro _ ⟨X,rfl⟩
    go_wp2_with fail
    go_ret
    rw[hR.out,HV0.out,HV1.out]
    exact⟨_,rfl,y5 (w:=w1.ext X) ((o1r.keep (i5 w1 X) (cn4 _)).wide al ag) ha14 _,(B1.trans ((i5 w1 X).mono s1)).setCell (p:=⟨gr,a',none⟩) (by show _<=gr;omega) _⟩
   have HV1:=show Hid _ from hv1
   rw[hv1]at rd
   clear hv1
   have ya:=L2.cell 1
   have yb:=L2.cell 2
   have yd:=L2.cell 3
   have yv:=L1.cell 1
   simp only[cn1,cn5]at yv ya yb yd
   have yw:w1.cell? ⟨vb,vo+b',none⟩=some (.int .i64 (V9 c.arrays b')):=by rw[(y8 B1).1 _ _ hvb];exact y2
   have zya:=fun X=>c7 ya X
   have zyb:=fun X=>c7 yb X
   have zyd:=fun X=>c7 yd X
   have zyv:=fun X=>c7 yv X
   have zyw:=fun X=>c7 yw X
   have zrd:=fun X=>c7 rd X
   have zhc0:=fun X=>c7 hc0 X
   have zf:=fun X=>r9 hg3 hf0 X
   have HC:Hid (∀X,Calls Tryz.prog 82 #[.int .i64 (V9 c.arrays b')] (w1.ext X) fun e w''=>e=.returned (.bool false)/\∃Y,w''=w1.ext Y):=fun X=>(C7 _ _).mono fun e w' ⟨e1,e2⟩=>⟨by rw[e1,HV0.out],X,e2.symm⟩
   clear ya yb yd yv yw rd hc0 h1 h2 h3 y2 hvx hgc hgf
   have x0:=L2.cell 0
   simp only[cn1]at x0
   go_wp2_with fail
   refine k6 18 _ rfl aj aj ?_
   simp only[cp8,cq1,I4]
   repeat(any_goals (first|go_big_quiet_step ((go_at_call 82;exact HC.out _))|quiet_step ((go_at_call 82;exact HC.out _))))
   refine wpQuiet_nil ?_
   rintro _ ⟨X,rfl⟩
   go_wp2_with fail
   go_ret
   rw[hR.out,HV0.out,HV1.out]
   exact⟨_,rfl,y5 (w:=w1.ext X) ((o1r.keep (i5 w1 X) (cn4 _)).wide al ag) ha14 _,(B1.trans ((i5 w1 X).mono s1)).setCell (p:=⟨gr,a',none⟩) (by show _<=gr;omega) _⟩
  have HV0:=show Hid _ from hv0
  clear hv0
  have ya:=L2.cell 1
  have yb:=L2.cell 2
  have yd:=L2.cell 3
  have yv:=L1.cell 1
  simp only[cn1,cn5]at yv ya yb yd
  have yw:w1.cell? ⟨vb,vo+b',none⟩=some (.int .i64 (V9 c.arrays b')):=by rw[(y8 B1).1 _ _ hvb];exact y2
  have zya:=fun X=>c7 ya X
  have zyb:=fun X=>c7 yb X
  have zyd:=fun X=>c7 yd X
  have zyv:=fun X=>c7 yv X
  have zyw:=fun X=>c7 yw X
  have zhc0:=fun X=>c7 hc0 X
  have zf:=fun X=>r9 hg3 hf0 X
  have HC:Hid (∀X,Calls Tryz.prog 82 #[.int .i64 (V9 c.arrays b')] (w1.ext X) fun e w''=>e=.returned (.bool true)/\∃Y,w''=w1.ext Y):=fun X=>(C7 _ _).mono fun e w' ⟨e1,e2⟩=>⟨by rw[e1,HV0.out],X,e2.symm⟩
  clear ya yb yd yv yw hc0 h1 h2 h3 y2 hvx hgc hgf
  have x0:=L2.cell 0
  simp only[cn1]at x0
  go_wp2_with fail
  refine k6 18 _ rfl aj aj ?_
  simp only[cp8,cq1,I4]
  repeat(any_goals (first|go_big_quiet_step ((go_at_call 82;exact HC.out _))|quiet_step ((go_at_call 82;exact HC.out _))))
  refine wpQuiet_nil ?_
  rintro _ ⟨X,rfl⟩
  go_wp2_with fail
  go_ret
  rw[hR.out,HV0.out]
  exact⟨_,rfl,y5 (w:=w1.ext X) ((o1r.keep (i5 w1 X) (cn4 _)).wide al ag) ha14 _,(B1.trans ((i5 w1 X).mono s1)).setCell (p:=⟨gr,a',none⟩) (by show _<=gr;omega) _⟩
 have q4:(o==4)=false:=by simp[o4]
 by_cases o6:o=6
 ·subst o6
  have hff:=hf.2.2.2.2.2.2.1 rfl
  clear hf
  obtain⟨a',ha'⟩:∃n:Nat,a=n:=⟨a.toNat,al⟩
  subst ha'
  obtain⟨d',hd'⟩:∃n:Nat,d=n:=⟨d.toNat,al⟩
  subst hd'
  obtain⟨g',hg'⟩:∃n:Nat,g=n:=⟨g.toNat,al⟩
  subst hg'
  have hR:Hid (s8 c ⟨6,a',b,d',g'⟩ t=t.set a' (bAt t d'||bAt t g')):=by unfold Hid;rw[C3 (b:=bAt t d'||bAt t g') (by rw[hOF.out];simp)];simp
  have ha14:a'<14:=al
  have ha14i:(a':Int)<14:=al
  have rd:=tx d' al
  have hrd14:d'<14:=al
  have hrd14i:(d':Int)<14:=al
  have rg:=tx g' al
  have hrg14:g'<14:=al
  have hrg14i:(g':Int)<14:=al
  have hf0:=hgf a'
  obtain⟨u0,hc0⟩:∃u0,w1.cell? ⟨gr,a',none⟩=some u0:=⟨_,hgc a' _ (t0 t a' al)⟩
  clear hff hOF tx
  cases hv0:bAt t d'
  ·have HV0:=show Hid _ from hv0
   rw[hv0]at rd
   clear hv0
   cases hv1:bAt t g'
   ·have HV1:=show Hid _ from hv1
    rw[hv1]at rg
    clear hv1
    have ya:=L2.cell 1
    have yd:=L2.cell 3
    have yg:=L2.cell 4
    simp only[cn1,cn5]at ya yd yg
    have zya:=fun X=>c7 ya X
    have zyd:=fun X=>c7 yd X
    have zyg:=fun X=>c7 yg X
    have zrd:=fun X=>c7 rd X
    have zrg:=fun X=>c7 rg X
    have zhc0:=fun X=>c7 hc0 X
    have zf:=fun X=>r9 hg3 hf0 X
    clear ya yd yg rd rg hc0 h1 h2 h3 hgc hgf
    have x0:=L2.cell 0
    simp only[cn1]at x0
    go_wp2_with fail
    refine k6 16 _ rfl aj aj ?_
    simp only[cp8,cq1,I4]
    repeat(any_goals (first|go_big_quiet_step ((fail))|quiet_step ((fail))))
    refine wpQuiet_nil ?_
    rintro _ ⟨X,rfl⟩
    go_wp2_with fail
    go_ret
    rw[hR.out,HV0.out,HV1.out]
    exact⟨_,rfl,y5 (w:=w1.ext X) ((o1r.keep (i5 w1 X) (cn4 _)).wide al ag) ha14 _,(B1.trans ((i5 w1 X).mono s1)).setCell (p:=⟨gr,a',none⟩) (by show _<=gr;omega) _⟩
   have HV1:=show Hid _ from hv1
   rw[hv1]at rg
   clear hv1
   have ya:=L2.cell 1
   have yd:=L2.cell 3
   have yg:=L2.cell 4
   simp only[cn1,cn5]at ya yd yg
   have zya:=fun X=>c7 ya X
   have zyd:=fun X=>c7 yd X
   have zyg:=fun X=>c7 yg X
   have zrd:=fun X=>c7 rd X
   have zrg:=fun X=>c7 rg X
   have zhc0:=fun X=>c7 hc0 X
   have zf:=fun X=>r9 hg3 hf0 X
   clear ya yd yg rd rg hc0 h1 h2 h3 hgc hgf
   have x0:=L2.cell 0
   simp only[cn1]at x0
   go_wp2_with fail
   refine k6 16 _ rfl aj aj ?_
   simp only[cp8,cq1,I4]
   repeat(any_goals (first|go_big_quiet_step ((fail))|quiet_step ((fail))))
   refine wpQuiet_nil ?_
   rintro _ ⟨X,rfl⟩
   go_wp2_with fail
   go_ret
   rw[hR.out,HV0.out,HV1.out]
   exact⟨_,rfl,y5 (w:=w1.ext X) ((o1r.keep (i5 w1 X) (cn4 _)).wide al ag) ha14 _,(B1.trans ((i5 w1 X).mono s1)).setCell (p:=⟨gr,a',none⟩) (by show _<=gr;omega) _⟩
  have HV0:=show Hid _ from hv0
  rw[hv0]at rd
  clear hv0
  have ya:=L2.cell 1
  have yd:=L2.cell 3
  have yg:=L2.cell 4
  simp only[cn1,cn5]at ya yd yg
  have zya:=fun X=>c7 ya X
  have zyd:=fun X=>c7 yd X
  have zyg:=fun X=>c7 yg X
  have zrd:=fun X=>c7 rd X
  have zhc0:=fun X=>c7 hc0 X
  have zf:=fun X=>r9 hg3 hf0 X
  clear ya yd yg rd hc0 h1 h2 h3 hgc hgf
  have x0:=L2.cell 0
  simp only[cn1]at x0
  go_wp2_with fail
  refine k6 16 _ rfl aj aj ?_
  simp only[cp8,cq1,I4]
  repeat(any_goals (first|go_big_quiet_step ((fail))|quiet_step ((fail))))
  refine wpQuiet_nil ?_
  rintro _ ⟨X,rfl⟩
  go_wp2_with fail
  go_ret
  rw[hR.out,HV0.out]
  exact⟨_,rfl,y5 (w:=w1.ext X) ((o1r.keep (i5 w1 X) (cn4 _)).wide al ag) ha14 _,(B1.trans ((i5 w1 X).mono s1)).setCell (p:=⟨gr,a',none⟩) (by show _<=gr;omega) _⟩
 have q6:(o==6)=false:=by simp[o6]
 by_cases o7:o=7
 ·subst o7
  have hff:=hf.2.2.2.2.2.2.2.1 rfl
  clear hf
  obtain⟨a',ha'⟩:∃n:Nat,a=n:=⟨a.toNat,al⟩
  subst ha'
  obtain⟨b',hb'⟩:∃n:Nat,b=n:=⟨b.toNat,al⟩
  subst hb'
  obtain⟨d',hd'⟩:∃n:Nat,d=n:=⟨d.toNat,al⟩
  subst hd'
  obtain⟨g',hg'⟩:∃n:Nat,g=n:=⟨g.toNat,al⟩
  subst hg'
  have hR:Hid (s8 c ⟨7,a',b',d',g'⟩ t=t.set a' (bAt t b'||bAt t d'||bAt t g')):=by unfold Hid;rw[C3 (b:=bAt t b'||bAt t d'||bAt t g') (by rw[hOF.out];simp)];simp
  have ha14:a'<14:=al
  have ha14i:(a':Int)<14:=al
  have rb:=tx b' al
  have hrb14:b'<14:=al
  have hrb14i:(b':Int)<14:=al
  have rd:=tx d' al
  have hrd14:d'<14:=al
  have hrd14i:(d':Int)<14:=al
  have rg:=tx g' al
  have hrg14:g'<14:=al
  have hrg14i:(g':Int)<14:=al
  have hf0:=hgf a'
  obtain⟨u0,hc0⟩:∃u0,w1.cell? ⟨gr,a',none⟩=some u0:=⟨_,hgc a' _ (t0 t a' al)⟩
  clear hff hOF tx
  cases hv0:bAt t b'
  ·have HV0:=show Hid _ from hv0
   rw[hv0]at rb
   clear hv0
   cases hv1:bAt t d'
   ·have HV1:=show Hid _ from hv1
    rw[hv1]at rd
    clear hv1
    cases hv2:bAt t g'
    ·have HV2:=show Hid _ from hv2
     rw[hv2]at rg
     clear hv2
     have ya:=L2.cell 1
     have yb:=L2.cell 2
     have yd:=L2.cell 3
     have yg:=L2.cell 4
     simp only[cn1,cn5]at ya yb yd yg
     have zya:=fun X=>c7 ya X
     have zyb:=fun X=>c7 yb X
     have zyd:=fun X=>c7 yd X
     have zyg:=fun X=>c7 yg X
     have zrb:=fun X=>c7 rb X
     have zrd:=fun X=>c7 rd X
     have zrg:=fun X=>c7 rg X
     have zhc0:=fun X=>c7 hc0 X
     have zf:=fun X=>r9 hg3 hf0 X
     clear ya yb yd yg rb rd rg hc0 h1 h2 h3 hgc hgf
     have x0:=L2.cell 0
     simp only[cn1]at x0
     go_wp2_with fail
     refine k6 23 _ rfl aj aj ?_
     simp only[cp8,cq1,I4]
     repeat(any_goals (first|go_big_quiet_step ((fail))|quiet_step ((fail))))
     refine wpQuiet_nil ?_
     rintro _ ⟨X,rfl⟩
     go_wp2_with fail
     go_ret
     rw[hR.out,HV0.out,HV1.out,HV2.out]
     exact⟨_,rfl,y5 (w:=w1.ext X) ((o1r.keep (i5 w1 X) (cn4 _)).wide al ag) ha14 _,(B1.trans ((i5 w1 X).mono s1)).setCell (p:=⟨gr,a',none⟩) (by show _<=gr;omega) _⟩
    have HV2:=show Hid _ from hv2
    rw[hv2]at rg
    clear hv2
    have ya:=L2.cell 1
    have yb:=L2.cell 2
    have yd:=L2.cell 3
    have yg:=L2.cell 4
    simp only[cn1,cn5]at ya yb yd yg
    have zya:=fun X=>c7 ya X
    have zyb:=fun X=>c7 yb X
    have zyd:=fun X=>c7 yd X
    have zyg:=fun X=>c7 yg X
    have zrb:=fun X=>c7 rb X
    have zrd:=fun X=>c7 rd X
    have zrg:=fun X=>c7 rg X
    have zhc0:=fun X=>c7 hc0 X
    have zf:=fun X=>r9 hg3 hf0 X
    clear ya yb yd yg rb rd rg hc0 h1 h2 h3 hgc hgf
    have x0:=L2.cell 0
    simp only[cn1]at x0
    go_wp2_with fail
    refine k6 23 _ rfl aj aj ?_
    simp only[cp8,cq1,I4]
    repeat(any_goals (first|go_big_quiet_step ((fail))|quiet_step ((fail))))
    refine wpQuiet_nil ?_
    rintro _ ⟨X,rfl⟩
    go_wp2_with fail
    go_ret
    rw[hR.out,HV0.out,HV1.out,HV2.out]
    exact⟨_,rfl,y5 (w:=w1.ext X) ((o1r.keep (i5 w1 X) (cn4 _)).wide al ag) ha14 _,(B1.trans ((i5 w1 X).mono s1)).setCell (p:=⟨gr,a',none⟩) (by show _<=gr;omega) _⟩
   have HV1:=show Hid _ from hv1
   rw[hv1]at rd
   clear hv1
   have ya:=L2.cell 1
   have yb:=L2.cell 2
   have yd:=L2.cell 3
   have yg:=L2.cell 4
   simp only[cn1,cn5]at ya yb yd yg
   have zya:=fun X=>c7 ya X
   have zyb:=fun X=>c7 yb X
   have zyd:=fun X=>c7 yd X
   have zyg:=fun X=>c7 yg X
   have zrb:=fun X=>c7 rb X
   have zrd:=fun X=>c7 rd X
   have zhc0:=fun X=>c7 hc0 X
   have zf:=fun X=>r9 hg3 hf0 X
   clear ya yb yd yg rb rd hc0 h1 h2 h3 hgc hgf
   have x0:=L2.cell 0
   simp only[cn1]at x0
   go_wp2_with fail
   refine k6 23 _ rfl aj aj ?_
   simp only[cp8,cq1,I4]
   repeat(any_goals (first|go_big_quiet_step ((fail))|quiet_step ((fail))))
   refine wpQuiet_nil ?_
   rintro _ ⟨X,rfl⟩
   go_wp2_with fail
   go_ret
   rw[hR.out,HV0.out,HV1.out]
   exact⟨_,rfl,y5 (w:=w1.ext X) ((o1r.keep (i5 w1 X) (cn4 _)).wide al ag) ha14 _,(B1.trans ((i5 w1 X).mono s1)).setCell (p:=⟨gr,a',none⟩) (by show _<=gr;omega) _⟩
  have HV0:=show Hid _ from hv0
  rw[hv0]at rb
  clear hv0
  have ya:=L2.cell 1
  have yb:=L2.cell 2
  have yd:=L2.cell 3
  have yg:=L2.cell 4
  simp only[cn1,cn5]at ya yb yd yg
  have zya:=fun X=>c7 ya X
  have zyb:=fun X=>c7 yb X
  have zyd:=fun X=>c7 yd X
  have zyg:=fun X=>c7 yg X
  have zrb:=fun X=>c7 rb X
  have zhc0:=fun X=>c7 hc0 X
  have zf:=fun X=>r9 hg3 hf0 X
  clear ya yb yd yg rb hc0 h1 h2 h3 hgc hgf
  have x0:=L2.cell 0
  simp only[cn1]at x0
  go_wp2_with fail
  refine k6 23 _ rfl aj aj ?_
  simp only[cp8,cq1,I4]
  repeat(any_goals (first|go_big_quiet_step ((fail))|quiet_step ((fail))))
  refine wpQuiet_nil ?_
  rintro _ ⟨X,rfl⟩
  go_wp2_with fail
  go_ret
  rw[hR.out,HV0.out]
  exact⟨_,rfl,y5 (w:=w1.ext X) ((o1r.keep (i5 w1 X) (cn4 _)).wide al ag) ha14 _,(B1.trans ((i5 w1 X).mono s1)).setCell (p:=⟨gr,a',none⟩) (by show _<=gr;omega) _⟩
 have q7:(o==7)=false:=by simp[o7]
 have hR:Hid (s8 c ⟨o,a,b,d,g⟩ t=t):=by unfold Hid;rw[aC8 (by rw[hOF.out];simp[o1,o11,o2,o4,o6,o7])]
 clear hOF tx hf o11 o2 o4 o6 o7
 go_wp2_with fail
 go_ret
 rw[hR.out]
 exact⟨_,rfl,o1r.wide al (cn4 _),B1⟩
theorem a82(v u:Value)(row t:List Bool)(w:World)(h1:I6 w v row.length 1 (bools row))(h2:I6 w u t.length 1 (bools t))(hl:t.length<=row.length):
  Calls Tryz.prog 64 #[v,u] w fun e w'=>e=.returned (.bool (x9 t row t.length))/\w=w':=by
 obtain⟨a1,c1,rfl,-,hm1,-,hc1⟩:=h1.open1
 obtain⟨a2,c2,rfl,-,hm2,-,hc2⟩:=h2.open1
 clear h1 h2
 go_enter Tryz.func64,Tryz.ntmps64
 go_wp2_with fail
 go_loop [5,6,9] (fun _ _ i=>∃k:Nat,k<=t.length/\i=.int .i64 k/\x9 t row k=true) (fun _ _ i=>t.length-(intOf i).toNat)
 case atStart=>exact⟨0,cp5 _,rfl,rfl⟩
 case round=>
  obtain⟨k,hk,rfl,ha⟩:=hrel
  have HA:=show Hid _ from ha
  clear ha
  by_cases hlt:k<t.length
  ·obtain⟨b1,o1,rfl,hb1,hx⟩:=hc1 k al
   obtain⟨b2,o2,rfl,hb2,hy⟩:=hc2 k hlt
   rw[t0 _ _ (by omega:k<row.length)]at hx
   rw[t0 _ _ hlt]at hy
   clear hc1 hc2
   have hlr:k<row.length:=al
   have g1:row.getD k false=row[k]'hlr:=by simp[hlr]
   have g2:t.getD k false=t[k]:=by simp[hlt]
   cases h2:t[k]
   ·have HS:=show Hid (x9 t row (k+1)=true)from by unfold Hid;rw[R8,HA.out,g2,h2];rfl
    rw[h2]at hy
    clear g1 g2 h2
    go_wp2_with fail
    go_round
    case rel=>exact⟨k+1,al,by go_num,HS.out⟩
    case measure=>simp[intOf];omega
   cases h1:row[k]
   ·have HS:=show Hid (x9 t row t.length=false)from aC2 _ hlt (g2.trans h2) (g1.trans h1)
    rw[h2]at hy;rw[h1]at hx
    clear g1 g2 h2 h1
    go_wp2_with fail
    go_ret
    exact⟨j8 HS.out.symm,rfl⟩
   have HS:=show Hid (x9 t row (k+1)=true)from by unfold Hid;rw[R8,HA.out,g1,h1];simp
   rw[h2]at hy;rw[h1]at hx
   clear g1 g2 h2 h1
   go_wp2_with fail
   go_round
   case rel=>exact⟨k+1,al,by go_num,HS.out⟩
   case measure=>simp[intOf];omega
  have e:k=t.length:=al
  subst e
  go_wp2_with fail
  go_ret
  exact⟨j8 HA.out.symm,rfl⟩
theorem aX2(v u:Value)(t row:List Bool)(w:World)(h1:I6 w v t.length 1 (bools t))(h2:I6 w u row.length 1 (bools row))(hl:row.length=0\/t.length<=row.length):
  Calls Tryz.prog 67 #[v,u] w fun e w'=>e=.returned (.bool (decide (0<row.length)&&x9 t row t.length))/\w=w':=by
 obtain⟨a2,c2,rfl,-,hm2,-,hc2⟩:=h1.open1
 obtain⟨a1,c1,rfl,-,hm1,-,hc1⟩:=h2.open1
 clear h1 h2
 go_enter Tryz.func67,Tryz.ntmps67
 by_cases h0:row.length=0
 ·have q0:((row.length:Int)==0)=true:=by simp[h0]
  have HD:=show Hid (decide (0<row.length)=false)from by simp[Hid,h0]
  clear h0
  go_wp2_with fail
  go_ret
  exact⟨j8 (by rw[HD.out];rfl),rfl⟩
 have q0:((row.length:Int)==0)=false:=by simp;intro e;rw[e]at h0;exact h0 rfl
 have HD:=show Hid (decide (0<row.length)=true)from by simp[Hid];omega
 have hl':t.length<=row.length:=al
 clear h0 hl
 go_wp2_with fail
 go_loop [5] (fun i=>∃k:Nat,k<=t.length/\i=.int .i64 k/\x9 t row k=true) (fun i=>t.length-(intOf i).toNat)
 case atStart=>exact⟨0,cp5 _,rfl,rfl⟩
 case round=>
  obtain⟨k,hk,rfl,ha⟩:=hrel
  have HA:=show Hid _ from ha
  clear ha
  by_cases hlt:k<t.length
  ·obtain⟨b1,o1,rfl,hb1,hx⟩:=hc1 k al
   obtain⟨b2,o2,rfl,hb2,hy⟩:=hc2 k hlt
   rw[t0 _ _ (by omega:k<row.length)]at hx
   rw[t0 _ _ hlt]at hy
   clear hc1 hc2
   have hlr:k<row.length:=al
   have g1:row.getD k false=row[k]'hlr:=by simp[hlr]
   have g2:t.getD k false=t[k]:=by simp[hlt]
   cases h2:t[k]
   ·have HS:=show Hid (x9 t row (k+1)=true)from by unfold Hid;rw[R8,HA.out,g2,h2];rfl
    rw[h2]at hy
    clear g1 g2 h2
    go_wp2_with fail
    go_round
    case rel=>exact⟨k+1,al,by go_num,HS.out⟩
    case measure=>simp[intOf];omega
   cases h1:row[k]
   ·have HS:=show Hid (x9 t row t.length=false)from aC2 _ hlt (g2.trans h2) (g1.trans h1)
    rw[h2]at hy;rw[h1]at hx
    clear g1 g2 h2 h1
    go_wp2_with fail
    go_ret
    exact⟨j8 (by rw[HS.out,HD.out];rfl),rfl⟩
   have HS:=show Hid (x9 t row (k+1)=true)from by unfold Hid;rw[R8,HA.out,g1,h1];simp
   rw[h2]at hy;rw[h1]at hx
   clear g1 g2 h2 h1
   go_wp2_with fail
   go_round
   case rel=>exact⟨k+1,al,by go_num,HS.out⟩
   case measure=>simp[intOf];omega
  have e:k=t.length:=al
  subst e
  go_wp2_with fail
  go_ret
  exact⟨j8 (by rw[HA.out,HD.out];rfl),rfl⟩
theorem az1(v:Value)(r:List Bool)(w:World)(h:I6 w v r.length 1 (bools r)):
  Calls Tryz.prog 61 #[v] w fun e w'=>e=.returned (.bool (!D7 r))/\w=w':=by
 obtain⟨a2,c2,rfl,-,hm2,-,-⟩:=h.open1
 have hR:Hid (D7 r=(decide (r.length=0)||decide (r.length=14))):=rfl
 clear h
 by_cases h0:r.length=0
 ·have q0:((r.length:Int) !=0)=false:=by simp[h0]
  go_enter Tryz.func61,Tryz.ntmps61
  go_wp2_with fail
  go_ret
  exact⟨j8 (by rw[hR.out];simp[h0]),rfl⟩
 have q0:((r.length:Int) !=0)=true:=by simp;intro e;rw[e]at h0;exact h0 rfl
 by_cases h14:r.length=14
 ·have q1:((r.length:Int) !=14)=false:=by simp[h14]
  go_enter Tryz.func61,Tryz.ntmps61
  go_wp2_with fail
  go_ret
  exact⟨j8 (by rw[hR.out];simp[h14]),rfl⟩
 have q1:((r.length:Int) !=14)=true:=ah
 go_enter Tryz.func61,Tryz.ntmps61
 go_wp2_with fail
 go_ret
 exact⟨j8 (by rw[hR.out];simp[h14];intro e;rw[e]at h0;exact h0 rfl),rfl⟩
theorem aM3(p:List Bool->Bool)(f:FuncId)(v:Value)(m:List (List Bool))(w:World)(h:F6 w v m)(he:∀args w,(callFunc f args).run Tryz.prog w=.ok (.enter f args) w)
  (hf:∀u r w',I6 w' u r.length 1 (bools r)->Calls Tryz.prog f #[u] w' fun e w''=>e=.returned (.bool (p r))/\w'=w''):
  Calls Tryz.prog 111 #[v,.func (.func f) #[] #[]] w fun e w'=>∃r:Int,e=.returned (.int .i64 r)/\decide (0<=r)=m.any p/\w=w':=by
 obtain⟨a1,c1,rfl,hm1,hc1⟩:=h.open
 have HF:=show Hid _ from hf
 clear h hf
 go_enter Tryz.func111,Tryz.ntmps111
 go_wp2_with fail
 go_loop [5,8] (fun _ i=>∃k:Nat,k<=m.length/\i=.int .i64 k/\(m.take k).any p=false) (fun _ i=>m.length-(intOf i).toNat)
 case atStart=>exact⟨0,cp5 _,rfl,rfl⟩
 case round=>
  obtain⟨k,hk,rfl,ha⟩:=hrel
  have HA:=show Hid _ from ha
  clear ha
  by_cases hlt:k<m.length
  ·obtain⟨b,off,a',c',rfl,hb1,hx,hr⟩:=hc1 k hlt
   clear hc1
   cases hp:p m[k]
   all_goals
    have HP:=show Hid _ from hp
    clear hp
    go_wp2_with fail
    refine(HF.out _ m[k] _ hr).mono ?_
    rintro e w1 ⟨rfl,rfl⟩
    rw[HP.out]
    go_wp2_with fail
   ·go_round
    case rel=>exact⟨k+1,al,by go_num,by rw[n7 _ _ hlt,List.any_append,HA.out];simp[HP.out]⟩
    case measure=>simp[intOf];omega
   go_ret
   exact⟨_,rfl,by rw[decide_eq_true al];symm;rw[List.any_eq_true];exact⟨_,co6 hlt,HP.out⟩,rfl⟩
  go_wp2_with fail
  go_ret
  refine⟨_,rfl,?_,rfl⟩
  have:=HA.out
  rw[co3 al]at this
  rw[this];rfl
theorem aw0(p:List Bool->Bool)(f:FuncId)(v:Value)(m:List (List Bool))(w:World)(h:F6 w v m)(he:∀args w,(callFunc f args).run Tryz.prog w=.ok (.enter f args) w)
  (hf:∀u r w',I6 w' u r.length 1 (bools r)->Calls Tryz.prog f #[u] w' fun e w''=>e=.returned (.bool (p r))/\w'=w''):
  Calls Tryz.prog 60 #[v,.func (.func f) #[] #[]] w fun e w'=>e=.returned (.bool (m.any p))/\w=w':=by
 obtain⟨a1,c1,rfl,-⟩:=h.open
 have HF:=show Hid _ from hf
 have HE:=show Hid _ from he
 clear hf he
 go_enter Tryz.func60,Tryz.ntmps60
 go_wp2_with fail
 refine(aM3 p f _ m _ h HE.out HF.out).mono ?_
 rintro e w1 ⟨r,rfl,hr,rfl⟩
 have HR:=show Hid _ from hr
 clear hr
 go_wp2_with fail
 go_ret
 exact⟨j8 HR.out,rfl⟩
theorem a03(v:Value)(m:List (List Bool))(w:World)(h:F6 w v m):
  Calls Tryz.prog 60 #[v,.func (.func 61) #[] #[]] w fun e w'=>e=.returned (.bool (!m.all D7))/\w=w':=by
 have e:(!m.all D7)=m.any fun r=> !D7 r:=by simp[List.not_all_eq_any_not]
 rw[e]
 exact aw0 (fun r=> !D7 r) 61 v m w h (ao1 Tryz.func61 aj rfl) fun u r w' hr=>az1 u r w' hr
theorem an2{w:World}{v:Value}{m:List (List Bool)}(h:F6 w v m):∃a cap,v=.slice a m.length cap/\m.length<=9223372036854775807/\
  ∀i,i<m.length->∃b off a' c',a=some ⟨b,off,none⟩/\b<w.heap.size/\w.cell? ⟨b,off+i,none⟩=some (.slice a' (rowAt m i).length c')/\I6 w (.slice a' (rowAt m i).length c') (rowAt m i).length 1 (bools (rowAt m i)):=by
 obtain⟨a,cap,h1,h2,h3⟩:=h.open
 refine⟨a,cap,h1,h2,fun i hi=>?_⟩
 rw[I1 hi]
 exact h3 i hi
theorem ah9(v u:Value)(c:d9)(m:List (List Bool))(w:World)(hc:x5 c=true)(h:v6 w v c)(hm:F6 w u m)(hl:m.length=c.list.length)(hr:m.all D7=true):
  Calls Tryz.prog 32 #[v,u] w fun e w'=>e=.returned (.tuple #[.int .i64 (F5 c m).1,.int .i64 (F5 c m).2])/\Below w.heap.size w w':=by
 have hrow:=h
 obtain⟨v1,v2,v3,rfl,h1,h2,h3⟩:=h
 obtain⟨W,hW⟩:∃W,W=w.alloc (.cells #[v1,v2,v3] 26):=⟨_,rfl⟩
 have B0:Below w.heap.size w W:=by rw[hW];go_grown
 have L1:D3 W w.heap.size [v1,v2,v3]:=by rw[hW];exact(D3.new w [v1,v2,v3] _)
 obtain⟨a3,k3,rfl,hk3,hm3,-,hc3⟩:=h3.ins
 obtain⟨am,km,rfl,hmm,hmc⟩:=an2 hm
 have hn4:=(n9 hc).2.2.1
 go_enter Tryz.func32,Tryz.ntmps32
 go_wp2_with fail
 rw[<-hW]
 clear hW
 go_loopw [6,7,8,11] (fun _ _ _ i wr=>∃k:Nat,k<=m.length/\i=.int .i64 k/\C4 c m k=false/\Below W.heap.size W wr) (fun _ _ _ i _=>m.length-(intOf i).toNat)
 case atStart=>exact⟨0,cp5 _,rfl,rfl,Below.refl _ _⟩
 case round=>
  obtain⟨k,hk,rfl,ha,hb⟩:=hrel
  have HA:=show Hid _ from ha
  clear ha
  replace L1:=L1.below hb L1.lt
  have BW:=B0.trans (hb.mono B0.size)
  by_cases hlt:k<m.length
  ·have hltc:k<c.list.length:=al
   obtain⟨b,off,rfl,hb3,i0,i1,i2,i3,i4⟩:=hc3 k hltc
   obtain⟨bm,om,a',c',rfl,hbm,xm,hrm⟩:=hmc k hlt
   have hx:=(n9 hc).2.2.2.1 k hltc
   have HB:Hid (badAt c m k=(decide (0<(rowAt m k).length)&&decide (G4 c (J3 c k) (rowAt m k)≠0))):=rfl
   rw[O1 hltc]at HB
   have HF:=show Hid (C4 c m k=false->badAt c m k=true->F5 c m=(G4 c (J3 c k) (rowAt m k),(k:Int)))from fun g1 g2=>aC1 hlt g1 g2
   rw[O1 hltc]at HF
   have HS:=show Hid _ from am3 c m k
   have hlr:=A7 hr k
   rw[<-(y8 BW).1 _ _ hb3]at i0 i1 i2 i3 i4
   rw[<-(y8 BW).1 _ _ hbm]at xm
   replace hrm:=hrm.below BW
   generalize rowAt m k=r at*
   generalize c.list[k]=x at*
   clear hc3 hmc hr
   have x0:=L1.cell 0
   have x1:=L1.cell 1
   have x2:=L1.cell 2
   simp only[cn1,cn5]at x0 x1 x2
   by_cases h0:r.length=0
   ·have q0:((r.length:Int)==0)=true:=by simp[h0]
    have HN:=show Hid (C4 c m (k+1)=false)from by unfold Hid;rw[HS.out,HA.out,HB.out];simp[h0]
    clear HF HB hlr h0
    go_wp2_with fail
    exact⟨⟨k+1,al,by go_num,HN.out,hb⟩,by simp[intOf];omega⟩
   have h14:r.length=14:=al
   have q0:((r.length:Int)==0)=false:=by rw[h14];rfl
   have hrr:I6 wr (.slice a' r.length c') 14 1 (bools r):=by rw[h14]at hrm ⊢;exact hrm
   have z0:=fun X=>c7 x0 X
   have z1:=fun X=>c7 x1 X
   have z2:=fun X=>c7 x2 X
   have j0:=fun X=>c7 i0 X
   have j1:=fun X=>c7 i1 X
   have j2:=fun X=>c7 i2 X
   have j3:=fun X=>c7 i3 X
   have j4:=fun X=>c7 i4 X
   have hl14:(r.length:Int)<=14:=al
   have HC:Hid (∀X,Calls Tryz.prog 78 #[.agg #[v1,v2,.slice (some ⟨b,off,none⟩) c.list.length k3],x.v,.slice a' r.length c'] (wr.ext X) fun e w''=>e=.returned (.int .i64 (G4 c x r))/\∃Y,w''=wr.ext Y):=
    fun X=>Calls.ext_of' (bg9 _ _ c x r _ ((hrow.below BW).below (i5 _ X)) hx (hrr.below (i5 _ X)))
   by_cases ho:G4 c x r=0
   ·have qo:(G4 c x r !=0)=false:=by simp[ho]
    have HN:=show Hid (C4 c m (k+1)=false)from by unfold Hid;rw[HS.out,HA.out,HB.out];simp[ho]
    clear HF HB hlr h0 ho hrr hrm h14 x0 x1 x2 i0 i1 i2 i3 i4
    go_wp2_with fail
    refine y9 aj aj ?_
    repeat(any_goals (first|go_big_quiet_step ((go_at_call 78;exact HC.out _))|quiet_step ((go_at_call 78;exact HC.out _))))
    refine wpQuiet_nil ?_
    rintro _ ⟨X,rfl⟩
    have hbX:=hb.trans ((i5 wr X).mono hb.size)
    go_wp2_with fail
    exact⟨⟨k+1,al,by go_num,HN.out,hbX⟩,by simp[intOf];omega⟩
   have qo:(G4 c x r !=0)=true:=by simp[ho]
   have HN:=show Hid (F5 c m=(G4 c x r,(k:Int)))from HF.out HA.out (by rw[HB.out];simp[ho];omega)
   clear HF HB hlr h0 ho hrr hrm h14 x0 x1 x2 i0 i1 i2 i3 i4
   go_wp2_with fail
   refine y9 aj aj ?_
   repeat(any_goals (first|go_big_quiet_step ((go_at_call 78;exact HC.out _))|quiet_step ((go_at_call 78;exact HC.out _))))
   refine wpQuiet_nil ?_
   rintro _ ⟨X,rfl⟩
   have hbX:=hb.trans ((i5 wr X).mono hb.size)
   go_wp2_with fail
   go_ret2
   exact⟨by rw[HN.out];rfl,B0.trans (hbX.mono B0.size)⟩
  have e:k=m.length:=al
  subst e
  have HN:=show Hid _ from al6 HA.out
  clear hc3 hmc
  go_wp2_with fail
  go_ret2
  exact⟨by rw[HN.out];rfl,BW⟩
theorem a39(v:Value)(c:d9)(i:Nat)(w:World)(h:v6 w v c)(hi:i<c.list.length):
  Calls Tryz.prog 66 #[v,.int .i64 i] w fun e w'=>∃u,e=.returned u/\C5 w' w.heap.size w'.heap.size 3 1 u (U1 c.list[i] i).length (ints (U1 c.list[i] i))/\Below w.heap.size w w':=by
 obtain⟨v1,v2,v3,rfl,h1,h2,h3⟩:=h
 obtain⟨a3,k3,rfl,hk3,hm3,-,hc3⟩:=h3.ins
 obtain⟨W,hW⟩:∃W,W=w.alloc (.cells #[v1,v2,.slice a3 c.list.length k3] 26):=⟨_,rfl⟩
 have B0:Below w.heap.size w W:=by rw[hW];go_grown
 have s0:=B0.size
 have L1:D3 W w.heap.size [v1,v2,.slice a3 c.list.length k3]:=by rw[hW];exact(D3.new w [v1,v2,.slice a3 c.list.length k3] _)
 obtain⟨b,off,rfl,hb3,i0,i1,i2,i3,i4⟩:=hc3 i hi
 rw[<-(y8 B0).1 _ _ hb3]at i0 i1 i2 i3 i4
 have x2:=L1.cell 2
 simp at x2
 generalize c.list[i]=x at*
 rw[hW]at x2 i0 i1 i2 i3 i4
 clear hc3 h3 h1 h2
 by_cases h13:x.op=13
 ·have q13:(x.op==13)=true:=by simp[h13]
  have HN:=show Hid (U1 x i=[])from by simp[Hid,U1,h13]
  clear h13
  go_enter Tryz.func66,Tryz.ntmps66
  go_wp2_with fail
  go_ret
  rw[HN.out]
  exact⟨_,rfl,(z6 _ #[] 0 1 _ ao rfl al).wide ah ao,by go_grown⟩
 have q13:(x.op==13)=false:=by simp[h13]
 by_cases h8:x.op=8
 ·have q8:(x.op==8)=true:=by simp[h8]
  have HN:=show Hid (U1 x i=[x.a])from by simp[Hid,U1,h8]
  clear h13 h8
  go_enter Tryz.func66,Tryz.ntmps66
  go_wp2_with fail
  go_ret
  rw[HN.out]
  exact⟨_,rfl,(z6 _ #[_] 1 1 _ ao rfl al).wide ah ao,by go_grown⟩
 have q8:(x.op==8)=false:=by simp[h8]
 by_cases h9:x.op=9\/x.op=10
 ·have HN:=show Hid (U1 x i=[(i:Int)+1,x.b])from by simp[Hid,U1,h13,h8,h9]
  have h9':(x.op==9)=true\/((x.op==9)=false/\(x.op==10)=true):=by
   rcases h9 with h9|h9
   ·left;simp[h9]
   right;simp[h9]
  clear h13 h8 h9
  rcases h9' with q9|⟨q9,q10⟩
  all_goals
   go_enter Tryz.func66,Tryz.ntmps66
   go_wp2_with fail
   go_ret
   rw[HN.out]
   exact⟨_,rfl,((z6 _ #[.int .i64 ((i:Int)+1),.int .i64 x.b] 2 1 _ ao rfl al)).wide ah ao,by go_grown⟩
 have q9:(x.op==9)=false:=ah
 have q10:(x.op==10)=false:=ah
 have HN:=show Hid (U1 x i=[(i:Int)+1])from by simp[Hid,U1,h13,h8,h9]
 clear h13 h8 h9
 go_enter Tryz.func66,Tryz.ntmps66
 go_wp2_with fail
 go_ret
 rw[HN.out]
 exact⟨_,rfl,(z6 _ #[_] 1 1 _ ao rfl al).wide ah ao,by go_grown⟩
theorem aS0(v:Value)(c:d9)(t:Int)(w:World)(h:v6 w v c)(h0:0<=t)(h1:t<c.list.length):
  Calls Tryz.prog 66 #[v,.int .i64 t] w fun e w'=>∃u,e=.returned u/\C5 w' w.heap.size w'.heap.size 3 1 u (nx c t).length (ints (nx c t))/\Below w.heap.size w w':=by
 obtain⟨i,rfl⟩:∃i:Nat,t=i:=⟨t.toNat,al⟩
 have hi:i<c.list.length:=al
 have e:nx c i=U1 c.list[i] i:=bo3 (t:=(i:Int)) hi
 rw[e]
 exact a39 v c i w h hi
theorem a79(x:d7)(w:World):
  Calls Tryz.prog 95 #[x.v] w fun e w'=>e=.returned (.int .i64 (G9 x))/\Below w.heap.size w w':=by
 obtain⟨x0,x1,x2,x3,x4⟩:=x
 by_cases h8:x0=8
 ·have HN:=show Hid (G9 ⟨x0,x1,x2,x3,x4⟩=x1)from by simp[Hid,G9,h8]
  have q8:(x0==8)=true:=by simp[h8]
  clear h8
  go_enter Tryz.func95,Tryz.ntmps95
  go_wp2_with fail
  go_ret
  exact⟨D2 HN.out.symm,by go_grown⟩
 have q8:(x0==8)=false:=by simp[h8]
 by_cases h9:x0=9\/x0=10
 ·have HN:=show Hid (G9 ⟨x0,x1,x2,x3,x4⟩=x2)from by simp[Hid,G9,h8,h9]
  have h9':(x0==9)=true\/((x0==9)=false/\(x0==10)=true):=by
   rcases h9 with h9|h9
   ·left;simp[h9]
   right;simp[h9]
  clear h8 h9
  rcases h9' with q9|⟨q9,q10⟩
  all_goals
   go_enter Tryz.func95,Tryz.ntmps95
   go_wp2_with fail
   go_ret
   exact⟨D2 HN.out.symm,by go_grown⟩
 have HN:=show Hid (G9 ⟨x0,x1,x2,x3,x4⟩= -1)from by simp[Hid,G9,h8,h9]
 have q9:(x0==9)=false:=ah
 have q10:(x0==10)=false:=ah
 clear h8 h9
 go_enter Tryz.func95,Tryz.ntmps95
 go_wp2_with fail
 go_ret
 exact⟨D2 HN.out.symm,by go_grown⟩
theorem ah8(v:Value)(c:d9)(i:Nat)(w:World)(h:v6 w v c)(hi:i<c.list.length):
    Calls Tryz.prog 63 #[v,.int .i64 i] w fun e w'=>∃u,e=.returned u/\C5 w' w.heap.size w'.heap.size 3 1 u (ae3 c.list[i] i).length (ints (ae3 c.list[i] i))/\Below w.heap.size w w':=by
  obtain⟨v1,v2,v3,rfl,h1,h2,h3⟩:=h
  obtain⟨a3,k3,rfl,hk3,hm3,-,hc3⟩:=h3.ins
  obtain⟨W,hW⟩:∃W,W=(w.alloc (.cells #[v1,v2,.slice a3 c.list.length k3] 26)):=⟨_,rfl⟩
  have B0:Below w.heap.size w W:=by rw[hW];go_grown
  have L1:D3 W w.heap.size [v1,v2,.slice a3 c.list.length k3]:=by rw[hW];exact(D3.new w [v1,v2,.slice a3 c.list.length k3] _)
  have sW:W.heap.size=w.heap.size+1:=by rw[hW];simp
  obtain⟨b,off,rfl,hb3,i0,i1,i2,i3,i4⟩:=hc3 i hi
  rw[<-(y8 B0).1 _ _ hb3]at i0 i1 i2 i3 i4
  have x2:=L1.cell 2
  simp at x2
  generalize c.list[i]=x at*
  clear hc3 h3 h1 h2
  go_enter Tryz.func63,Tryz.ntmps63
  rw[hW]at x2 i0 i1 i2 i3 i4
  go_wp2_with fail
  rw[<-hW]
  clear x2 i0 i1 i2 i3 i4 hW
  have s0:=B0.size
  have L2:=D3.new W [.int .i64 x.op,.int .i64 x.a,.int .i64 x.b,.int .i64 x.c,.int .i64 x.d] 76
  have B1:Below w.heap.size w (W.alloc (.cells #[.int .i64 x.op,.int .i64 x.a,.int .i64 x.b,.int .i64 x.c,.int .i64 x.d] 76)):=B0.trans (Below.mono (by go_grown:Below W.heap.size W _) s0)
  generalize W.alloc (.cells #[.int .i64 x.op,.int .i64 x.a,.int .i64 x.b,.int .i64 x.c,.int .i64 x.d] 76)=W1 at*
  rw[sW]at L2
  clear B0 s0 sW
  have s1:=B1.size
  refine(a79 x _).mono ?_
  rintro e w1 ⟨rfl,b1⟩
  replace L2:=L2.below b1 L2.lt
  have B2:=B1.trans (b1.mono s1)
  have s2:=B2.size
  have HN:Hid (ae3 x i=(if 0<=G9 x then [G9 x]else [])++(if x.op≠8/\x.op≠13 then [(i:Int)+1]else [])):=rfl
  generalize G9 x=tg at*
  have c0:=L2.cell 0
  simp only[cn1]at c0
  by_cases ht:0<=tg
  · have HT:=show Hid _ from ht
    go_wp2_with (first|(at_builtin;refine J8 rfl _ _ rfl Tryz.underlying23 bp6 rfl al rfl (World.ownsRow_nil _ w1.heap.size _ _) rfl (ak3 w1 (.int .i64 tg) _ rfl) (fun u hu=>by simp at hu;subst hu;rfl) al al ao ?_;rintro a1 q1 w2 o2 b2- -;have b2':=((Below.refl w1.heap.size w1).alloc (cn4 _) _).trans b2;replace L2:=L2.below b2' L2.lt;have B3:=B2.trans (b2'.mono s2);have s3:=b2'.size;have d0:=L2.cell 0;simp only[cn1]at d0;clear b2)|(at_builtin;refine J8 rfl _ _ rfl Tryz.underlying23 bp6 rfl al rfl (o2.alloc _) rfl (ak3 w2 (.int .i64 ((i:Int)+1)) _ rfl) (fun u hu=>by simp at hu;subst hu;rfl) al al ah ?_;rintro a2 q2 w3 o3 b3- -;have b3':=((Below.refl w1.heap.size w2).alloc s3 _).trans b3;have B4:=B3.trans (Below.mono (b3':Below w1.heap.size w2 w3) s2)))
    all_goals go_ret
    all_goals simp only[bne_iff_ne,ne_eq,bne_eq_false_iff_eq]at*
    all_goals first
      | (have e : ae3 x i = [tg, (i : Int) + 1] := by
           rw[HN.out,if_pos HT.out];clear HN HT;simp;omega
         rw[e];exact⟨_,rfl,C5.mk' (N9 o3 s2),B4⟩)
      | (have e : ae3 x i = [tg] := by
           rw[HN.out,if_pos HT.out];clear HN HT;simp;omega
         rw[e];exact⟨_,rfl,C5.mk' (N9 o2 s2),B3⟩)
  have HT:=show Hid (¬0<=tg)from ht
  go_wp2_with ((at_builtin;refine J8 rfl _ _ rfl Tryz.underlying23 bp6 rfl al rfl (World.ownsRow_nil _ w1.heap.size _ _) rfl (ak3 w1 (.int .i64 ((i:Int)+1)) _ rfl) (fun u hu=>by simp at hu;subst hu;rfl) al al ao ?_;rintro a1 q1 w2 o2 b2- -;have b2':=((Below.refl w1.heap.size w1).alloc (cn4 _) _).trans b2;have B3:=B2.trans (b2'.mono s2)))
  all_goals go_ret
  all_goals simp only[bne_iff_ne,ne_eq,bne_eq_false_iff_eq]at*
  all_goals first
    | (have e : ae3 x i = [(i : Int) + 1] := by
         rw[HN.out,if_neg (by have:=HT.out;omega)];clear HN HT;simp;omega
       rw[e];exact⟨_,rfl,C5.mk' (N9 o2 s2),B3⟩)
    | (have e : ae3 x i = [] := by
         rw[HN.out,if_neg (by have:=HT.out;omega)];clear HN HT;simp;omega
       rw[e];exact⟨_,rfl,⟨World.ownsRow_nil _ _ _ _,fun g hg=>by cases hg⟩,B2⟩)
theorem a80(v:Value)(c:d9)(i:Nat)(w:World)(h:v6 w v c)(hi:i<c.list.length):
  Calls Tryz.prog 63 #[v,.int .i64 i] w fun e w'=>∃u,e=.returned u/\I6 w' u (ae3 c.list[i] i).length 1 (ints (ae3 c.list[i] i))/\Below w.heap.size w w':=
 (ah8 v c i w h hi).mono fun _ _ ⟨u,h1,h2,h3⟩=>⟨u,h1,h2.row,h3⟩
theorem az0(v:Value)(c:d9)(hc:x5 c=true)(t:Int)(w:World)(h:v6 w v c)(h0:0<=t)(h1:t<c.list.length):
  Calls Tryz.prog 63 #[v,.int .i64 t] w fun e w'=>∃u ns,e=.returned u/\ns.length<=2/\(∀x,x∈ns↔x∈nx c t)/\C5 w' w.heap.size w'.heap.size 3 1 u ns.length (ints ns)/\Below w.heap.size w w':=by
 obtain⟨i,rfl⟩:∃i:Nat,t=i:=⟨t.toNat,al⟩
 have hi:i<c.list.length:=al
 have e:nx c i=U1 c.list[i] i:=bo3 (t:=(i:Int)) hi
 rw[e]
 refine(ah8 v c i w h hi).mono fun _ _ ⟨u,h1,h2,h3⟩=>⟨u,_,h1,aT5 _ _,fun x=>aT4 ((n9 hc).2.2.2.1 i hi) _ _,h2,h3⟩
theorem a05(v:Value)(c:d9)(hc:x5 c=true)(t:Int)(w:World)(h:v6 w v c)(h0:0<=t)(h1:t<c.list.length):
  Calls Tryz.prog 63 #[v,.int .i64 t] w fun e w'=>∃u ns,e=.returned u/\ns.length<=2/\(∀x,x∈ns↔x∈nx c t)/\I6 w' u ns.length 1 (ints ns)/\Below w.heap.size w w':=by
 obtain⟨i,rfl⟩:∃i:Nat,t=i:=⟨t.toNat,al⟩
 have hi:i<c.list.length:=al
 have e:nx c i=U1 c.list[i] i:=bo3 (t:=(i:Int)) hi
 rw[e]
 refine(a80 v c i w h hi).mono fun e w' ⟨u,h1,h2,h3⟩=>⟨u,_,h1,aT5 _ _,fun x=>aT4 ((n9 hc).2.2.2.1 i hi) _ _,h2,h3⟩
theorem aX5(v:Value)(c:d9)(x:d7)(w:World)(h:v6 w v c):
  Calls Tryz.prog 80 #[v,x.v] w fun e w'=>e=.returned (.bool (D9 c x))/\Below w.heap.size w w':=by
 obtain⟨v1,v2,v3,rfl,h1,h2,h3⟩:=h
 have HT:Hid (D9 c x=(decide (1<=x.op)&&decide (x.op<=13)&&ak6 c (m7 x.op) [x.a,x.b,x.c,x.d] 4)):=by
  unfold Hid D9;rw[bf3]
 by_cases hop:1<=x.op/\x.op<=13
 ·obtain⟨hop1,hop2⟩:=hop
  have hR:Hid (D9 c x=ak6 c (m7 x.op) [x.a,x.b,x.c,x.d] 4):=by
   unfold Hid;rw[HT.out,decide_eq_true hop1,decide_eq_true hop2];rfl
  clear HT
  obtain⟨W,hW⟩:∃W,W=((w.alloc (.cells #[v1,v2,v3] 26)).alloc (.cells #[.int .i64 x.op,.int .i64 x.a,.int .i64 x.b,.int .i64 x.c,.int .i64 x.d] 76)):=⟨_,rfl⟩
  have B0:Below w.heap.size w W:=by rw[hW];go_grown
  have L1:D3 W w.heap.size [v1,v2,v3]:=by rw[hW];exact(D3.new w [v1,v2,v3] _).alloc _
  have L2:D3 W (w.heap.size+1) [.int .i64 x.op,.int .i64 x.a,.int .i64 x.b,.int .i64 x.c,.int .i64 x.d]:=by rw[hW];exact D3.new' (w.alloc _) [.int .i64 x.op,.int .i64 x.a,.int .i64 x.b,.int .i64 x.c,.int .i64 x.d] _ ao
  go_enter Tryz.func80,Tryz.ntmps80
  go_wp2_with fail
  rw[<-hW]
  clear hW
  refine(ap9 x.op W hop1 hop2).mono ?_
  rintro e w1 ⟨rfl,b1⟩
  replace L1:=L1.below b1 L1.lt
  replace L2:=L2.below b1 L2.lt
  have y0:=L2.cell 0
  have y1:=L2.cell 1
  have y2:=L2.cell 2
  have y3:=L2.cell 3
  have y4:=L2.cell 4
  simp at y0 y1 y2 y3 y4
  go_wp2_with fail
  refine(aX4 x _).mono ?_
  rintro e w2 ⟨u,rfl,o2,b2⟩
  replace L1:=L1.below b2 L1.lt
  have B2:=(B0.trans (b1.mono B0.size)).trans (b2.mono (by have:=B0.size;have:=b1.size;omega))
  obtain⟨g,cap,rfl,-,-,hg,-,-,-,hp⟩:=o2.open al
  have hkl:=as4 x.op
  obtain⟨kinds,hkinds⟩:∃kinds,kinds=m7 x.op:=⟨_,rfl⟩
  obtain⟨parts,hparts⟩:∃parts,parts=[x.a,x.b,x.c,x.d]:=⟨_,rfl⟩
  rw[<-hkinds]at hkl ⊢
  rw[<-hkinds]at hR
  rw[<-hparts]at hR hp
  have hpl:parts.length=4:=by rw[hparts];rfl
  clear hkinds hparts y0 y1 y2 y3 y4 L2 o2
  have HPL:=show Hid _ from hpl
  clear hpl
  go_wp2_with fail
  go_loopw [7] (fun i wr=>∃k:Nat,k<=4/\i=.int .i64 k/\ak6 c kinds parts k=true/\Below w2.heap.size w2 wr) (fun i _=>4-(intOf i).toNat)
  case atStart=>exact⟨0,al,rfl,rfl,Below.refl _ _⟩
  case round=>
   obtain⟨k,hk,rfl,ha,hb⟩:=hrel
   have HA:=show Hid _ from ha
   clear ha
   replace L1:=L1.below hb L1.lt
   by_cases hlt:k<4
   ·have x0:=L1.cell 0
    have x1:=L1.cell 1
    have x2:=L1.cell 2
    simp only[cn1,cn5]at x0 x1 x2
    have z0:=fun X=>c7 x0 X
    have z1:=fun X=>c7 x1 X
    have z2:=fun X=>c7 x2 X
    have hpk:k<parts.length:=by rw[HPL.out];exact hlt
    have p0:wr.cell? ⟨g,k,none⟩=some (.int .i64 parts[k]):=by
     rw[(y8 hb).1 _ _ hg];exact hp k _ (by simp[hpk])
    have pX:=fun X=>c7 p0 X
    have HS:=show Hid _ from aJ7 c kinds parts k
    have hgd:parts.getD k 0=parts[k]:=by simp[hpk]
    have HG:=show Hid _ from hgd
    have BW:=B2.trans (hb.mono B2.size)
    clear x0 x1 x2 p0 hp hgd
    by_cases hkk:k<kinds.length
    ·have hpo:I2 c kinds k parts[k]=V6 c kinds[k] parts[k]:=by simp[I2,hkk]
     have HPO:=show Hid _ from hpo
     clear hpo
     have hd1:decide (kinds.length<=k)=false:=ah
     have hd2:decide ((kinds.length:Int)<=(k:Int))=false:=ah
     cases hr:V6 c kinds[k] parts[k]
     all_goals
      have HR:=show Hid _ from hr
      clear hr
      have HC:Hid (∀X,Calls Tryz.prog 123 #[.agg #[v1,v2,v3],.int .u8 kinds[k].toNat,.int .i64 parts[k]] (wr.ext X) fun e w''=>e=.returned (.bool _)/\∃Y,w''=wr.ext Y):=
       fun X=>Calls.ext_of' ((aX3 v1 v2 v3 c kinds[k] parts[k] _ ((h1.below BW).below (i5 _ X)) ((h2.below BW).below (i5 _ X)) ((h3.below BW).below (i5 _ X))).mono fun e w' h=>by rw[HR.out]at h;exact h)
      go_wp2_with fail
      refine y9 aj aj ?_
      repeat(any_goals (first|go_big_quiet_step ((go_at_call 123;exact HC.out _))|quiet_step ((go_at_call 123;exact HC.out _))))
      refine wpQuiet_nil ?_
      rintro w' ⟨X,rfl⟩
      have hbX:=hb.trans ((i5 wr X).mono hb.size)
      go_wp2_with fail
     ·go_ret
      exact⟨j8 (by rw[hR.out,aJ8 4 hlt (by rw[HG.out,HPO.out,HR.out])]),B2.trans (hbX.mono B2.size)⟩
     exact⟨⟨k+1,al,by go_num,by rw[HS.out,HA.out,HG.out,HPO.out,HR.out];rfl,hbX⟩,by simp[intOf];omega⟩
    have hpo:I2 c kinds k parts[k]=decide (parts[k]=0):=by simp[I2,hkk]
    have HPO:=show Hid _ from hpo
    clear hpo
    have hd1:decide (kinds.length<=k)=true:=ah
    have hd2:decide ((kinds.length:Int)<=(k:Int))=true:=ah
    have hd3:decide (k<kinds.length)=false:=ah
    have hd4:decide ((k:Int)<(kinds.length:Int))=false:=ah
    by_cases hz:parts[k]=0
    ·have hz1:(parts[k] !=0)=false:=by simp[hz]
     have HZ:=show Hid _ from hz
     clear hz
     go_wp2_with fail
     refine y9 aj aj ?_
     repeat(any_goals (first|go_big_quiet_step (fail)|quiet_step (fail)))
     refine wpQuiet_nil ?_
     rintro w' ⟨X,rfl⟩
     have hbX:=hb.trans ((i5 wr X).mono hb.size)
     go_wp2_with fail
     exact⟨⟨k+1,al,by go_num,by rw[HS.out,HA.out,HG.out,HPO.out,HZ.out];rfl,hbX⟩,by simp[intOf];omega⟩
    have hz1:(parts[k] !=0)=true:=by simp[hz]
    have HZ:=show Hid (¬parts[k]=0)from hz
    clear hz
    go_wp2_with fail
    refine y9 aj aj ?_
    repeat(any_goals (first|go_big_quiet_step (fail)|quiet_step (fail)))
    refine wpQuiet_nil ?_
    rintro w' ⟨X,rfl⟩
    have hbX:=hb.trans ((i5 wr X).mono hb.size)
    go_wp2_with fail
    go_ret
    exact⟨j8 (by rw[hR.out,aJ8 4 hlt (by rw[HG.out,HPO.out,decide_eq_false HZ.out])]),B2.trans (hbX.mono B2.size)⟩
   go_wp2_with fail
   go_ret
   obtain rfl:k=4:=al
   exact⟨j8 (by rw[hR.out,HA.out]),B2.trans (hb.mono B2.size)⟩
 have hR:Hid (D9 c x=false):=by
  unfold Hid;rw[HT.out]
  rcases Classical.not_and_iff_not_or_not.1 hop with h|h
  ·rw[decide_eq_false h];rfl
  rw[decide_eq_false h];simp
 clear HT h1 h2 h3
 have hcase:x.op<1\/(¬x.op<1/\13<x.op):=al
 clear hop
 rcases hcase with hop|⟨hop,hop2⟩
 all_goals
  go_enter Tryz.func80,Tryz.ntmps80
  go_wp2_with fail
  go_ret
  exact⟨j8 hR.out.symm,by go_grown⟩
theorem ak0(v:Value)(c:d9)(w:World)(h:v6 w v c):
  Calls Tryz.prog 34 #[v] w fun e w'=>e=.returned (.bool (x5 c))/\Below w.heap.size w w':=by
 have hrow:=h
 obtain⟨v1,v2,v3,rfl,h1,h2,h3⟩:=h
 have HT:Hid (x5 c=(G5 c.vars c.arrays&&decide (1<=c.list.length)&&decide (c.list.length<=400)&&c.list.all (D9 c)&&ag3 c)):=rfl
 obtain⟨W,hW⟩:∃W,W=w.alloc (.cells #[v1,v2,v3] 26):=⟨_,rfl⟩
 have B0:Below w.heap.size w W:=by rw[hW];go_grown
 have L1:D3 W w.heap.size [v1,v2,v3]:=by rw[hW];exact(D3.new w [v1,v2,v3] _)
 obtain⟨a3,k3,rfl,hk3,hm3,-,hc3⟩:=h3.ins
 go_enter Tryz.func34,Tryz.ntmps34
 go_wp2_with fail
 rw[<-hW]
 clear hW
 refine(aX6 _ _ _ _ _ _ _ _ (h1.below B0) (h2.below B0)).mono ?_
 rintro e w1 ⟨rfl,b1⟩
 replace L1:=L1.below b1 L1.lt
 have B1:=B0.trans (b1.mono B0.size)
 go_wp2_with fail
 refine(au3 _ _ _ c.vars c.arrays _ (h1.below B1) (h2.below B1)).mono ?_
 rintro e w2 ⟨rfl,b2⟩
 replace L1:=L1.below b2 L1.lt
 have B2:=B1.trans (b2.mono B1.size)
 cases hh:G5 c.vars c.arrays
 ·have HH:=show Hid _ from hh
  clear hh hc3
  go_wp2_with fail
  go_ret
  exact⟨j8 (by rw[HT.out,HH.out];rfl),B2⟩
 have HH:=show Hid _ from hh
 clear hh
 by_cases hn:1<=c.list.length/\c.list.length<=400
 ·obtain⟨hn1,hn2⟩:=hn
  have x0:=L1.cell 0
  have x1:=L1.cell 1
  have x2:=L1.cell 2
  simp at x0 x1 x2
  go_wp2_with fail
  go_loopw [4] (fun i wr=>∃k:Nat,k<=c.list.length/\i=.int .i64 k/\(c.list.take k).all (D9 c)=true/\Below w2.heap.size w2 wr) (fun i _=>c.list.length-(intOf i).toNat)
  case atStart=>exact⟨0,al,rfl,rfl,Below.refl _ _⟩
  case round=>
   obtain⟨k,hk,rfl,ha,hb⟩:=hrel
   have HA:=show Hid _ from ha
   clear ha x0 x1 x2
   replace L1:=L1.below hb L1.lt
   have BW:=B2.trans (hb.mono B2.size)
   by_cases hlt:k<c.list.length
   ·obtain⟨b,off,rfl,hb3,i0,i1,i2,i3,i4⟩:=hc3 k hlt
    rw[<-(y8 BW).1 _ _ hb3]at i0 i1 i2 i3 i4
    have x0:=L1.cell 0
    have x1:=L1.cell 1
    have x2:=L1.cell 2
    simp only[cn1,cn5]at x0 x1 x2
    have z0:=fun X=>c7 x0 X
    have z1:=fun X=>c7 x1 X
    have z2:=fun X=>c7 x2 X
    have j0:=fun X=>c7 i0 X
    have j1:=fun X=>c7 i1 X
    have j2:=fun X=>c7 i2 X
    have j3:=fun X=>c7 i3 X
    have j4:=fun X=>c7 i4 X
    have HS:=show Hid _ from G8 (D9 c) c.list k hlt
    clear x0 x1 x2 i0 i1 i2 i3 i4 hc3
    cases hi:D9 c c.list[k]
    all_goals
     have HI:=show Hid _ from hi
     clear hi
     have HC:Hid (∀X,Calls Tryz.prog 80 #[.agg #[v1,v2,.slice (some ⟨b,off,none⟩) c.list.length k3],c.list[k].v] (wr.ext X) fun e w''=>e=.returned (.bool _)/\∃Y,w''=wr.ext Y):=
      fun X=>Calls.ext_of' ((aX5 _ c c.list[k] _ ((hrow.below BW).below (i5 _ X))).mono fun e w' h=>by rw[HI.out]at h;exact h)
     go_wp2_with fail
     refine y9 aj aj ?_
     repeat(any_goals (first|go_big_quiet_step ((go_at_call 80;exact HC.out _))|quiet_step ((go_at_call 80;exact HC.out _))))
     refine wpQuiet_nil ?_
     rintro _ ⟨X,rfl⟩
     have hbX:=hb.trans ((i5 wr X).mono hb.size)
     go_wp2_with fail
    ·go_ret
     exact⟨j8 (by rw[HT.out,ac8 hlt HI.out];simp),B2.trans (hbX.mono B2.size)⟩
    exact⟨⟨k+1,al,by go_num,by rw[HS.out,HA.out,HI.out];rfl,hbX⟩,by simp[intOf];omega⟩
   have hl:c.list.length-1<c.list.length:=al
   obtain⟨b,off,rfl,hb3,i0,i1,i2,i3,i4⟩:=hc3 _ hl
   rw[<-(y8 BW).1 _ _ hb3]at i0
   have x2:=L1.cell 2
   simp only[cn1,cn5]at x2
   have ec:((c.list.length:Int)-1)=((c.list.length-1:Nat):Int):=al
   have EC:=show Hid _ from ec
   have HL:Hid (ag3 c=(decide (c.list[c.list.length-1].op=13)||decide (c.list[c.list.length-1].op=8))):=by
    unfold Hid ag3
    rw[List.getLast?_eq_getElem?,cn0 hl]
   clear hc3 ec i1 i2 i3 i4
   have HA':=show Hid (c.list.all (D9 c)=true)from by have:=HA.out;rwa[co3 al]at this
   have hF:Hid (x5 c=(decide (c.list[c.list.length-1].op=13)||decide (c.list[c.list.length-1].op=8))):=by
    unfold Hid;rw[HT.out,HH.out,HA'.out,HL.out,decide_eq_true hn1,decide_eq_true hn2];rfl
   go_wp2_with fail
   all_goals go_ret
   all_goals exact⟨j8 (by rw[hF.out,cq3];simp_all),BW⟩
 have hF:Hid (x5 c=false):=by
  unfold Hid;rw[HT.out]
  rcases Classical.not_and_iff_not_or_not.1 hn with h|h
  ·rw[decide_eq_false h];simp
  rw[decide_eq_false h];simp
 have hcase:c.list.length<1\/(¬c.list.length<1/\400<c.list.length):=al
 clear hn hc3 HT
 rcases hcase with hn|⟨hn,hn2⟩
 all_goals
  go_wp2_with fail
  go_ret
  exact⟨j8 hF.out.symm,B2⟩
theorem aF7{w:World}{b b' o b2 o2:Nat}{x y z i0 i1 i2 i3 i4 u:Value}(L:D3 w b [x,y,z])(hb':b'<w.heap.size)(h0:w.cell? ⟨b',o,none⟩=some i0)(h1:w.cell? ⟨b',o+1,none⟩=some i1)(h2:w.cell? ⟨b',o+2,none⟩=some i2)(h3:w.cell? ⟨b',o+3,none⟩=some i3)(h4:w.cell? ⟨b',o+4,none⟩=some i4)
  (hb2:b2<w.heap.size) (hu:w.cell? ⟨b2,o2,none⟩=some u):∀W',Below w.heap.size w W'->Below w.heap.size w W'/\(W'.cell? ⟨b,0,none⟩=some x/\W'.cell? ⟨b,1,none⟩=some y/\W'.cell? ⟨b,2,none⟩=some z)/\
  (W'.cell? ⟨b',o,none⟩=some i0/\W'.cell? ⟨b',o+1,none⟩=some i1/\W'.cell? ⟨b',o+2,none⟩=some i2/\W'.cell? ⟨b',o+3,none⟩=some i3/\W'.cell? ⟨b',o+4,none⟩=some i4)/\W'.cell? ⟨b2,o2,none⟩=some u:=by
 intro W' hb
 have e:=(y8 hb).1
 exact⟨hb,bJ5 L W' hb,⟨(e _ _ hb').trans h0,(e _ _ hb').trans h1,(e _ _ hb').trans h2,(e _ _ hb').trans h3,(e _ _ hb').trans h4⟩,(e _ _ hb2).trans hu⟩
theorem aD3(v u:Value)(c:d9)(m:List (List Bool))(w:World)(h:v6 w v c)(hm:F6 w u m):
  Calls Tryz.prog 24 #[v,u] w fun e w'=>e=.returned (.bool (as7 c m))/\Below w.heap.size w w':=by
 have hrow:=h
 obtain⟨v1,v2,v3,rfl,h1,h2,h3⟩:=h
 obtain⟨W,hW⟩:∃W,W=w.alloc (.cells #[v1,v2,v3] 26):=⟨_,rfl⟩
 have B0:Below w.heap.size w W:=by rw[hW];go_grown
 have L1:D3 W w.heap.size [v1,v2,v3]:=by rw[hW];exact(D3.new w [v1,v2,v3] _)
 obtain⟨a3,k3,rfl,hk3,hm3,-,hc3⟩:=h3.ins
 obtain⟨am,km,rfl,hmm,hmc⟩:=an2 hm
 have HT:Hid (as7 c m=(x5 c&&decide (m.length=c.list.length)&&decide (0<(rowAt m 0).length)&&m.all D7&& !C4 c m m.length&&I5 c m m.length)):=rfl
 have x0:=L1.cell 0
 have x1:=L1.cell 1
 have x2:=L1.cell 2
 simp only[cn1,cn5]at x0 x1 x2
 rw[hW]at x0 x1 x2
 go_enter Tryz.func24,Tryz.ntmps24
 go_wp2_with fail
 rw[<-hW]
 clear hW x0 x1 x2
 refine(ak0 _ c _ (hrow.below B0)).mono ?_
 rintro e w1 ⟨rfl,b1⟩
 replace L1:=L1.below b1 L1.lt
 have B1:=B0.trans (b1.mono B0.size)
 clear b1 B0
 have x2:=L1.cell 2
 simp only[cn1,cn5]at x2
 cases hc:x5 c
 ·have HC:=show Hid _ from hc
  clear hc hc3 hmc
  go_wp2_with fail
  go_ret
  exact⟨j8 (by rw[HT.out,HC.out];rfl),B1⟩
 have HC:=show Hid _ from hc
 have hn1:=(n9 hc).2.1
 have hn4:=(n9 hc).2.2.1
 clear hc
 by_cases hl:m.length=c.list.length
 case neg=>
  have q1:((m.length:Int) !=c.list.length)=true:=by simp;intro e;exact hl (by exact_mod_cast e)
  have HL:=show Hid _ from decide_eq_false hl
  clear hl hc3 hmc
  go_wp2_with fail
  go_ret
  exact⟨j8 (by rw[HT.out,HL.out];simp),B1⟩
 have HL:=show Hid _ from hl
 have q1:((m.length:Int) !=c.list.length)=false:=by simp[hl]
 have hlm:0<m.length:=al
 have hlmi:(0:Int)<m.length:=al
 obtain⟨b0,o0,r0,c0,e0,hb0,y0,hrr0⟩:=hmc 0 hlm
 subst e0
 rw[<-(y8 B1).1 _ _ hb0]at y0
 have hr0e:rowAt m ((0:Nat):Int)=rowAt m 0:=rfl
 rw[hr0e]at y0 hrr0
 have hrl0:=hrr0.len
 have HE0:Hid ((rowAt m 0).length=0->as7 c m=false):=fun e=>by rw[HT.out,e];simp
 have HD0:Hid ((rowAt m 0).length≠0->decide (0<(rowAt m 0).length)=true):=fun e=>decide_eq_true (Nat.pos_of_ne_zero e)
 clear hr0e hrr0
 simp only[Nat.add_zero]at y0
 generalize (rowAt m 0).length=n0 at*
 by_cases h00:n0=0
 ·have q2:((n0:Int)==0)=true:=by simp[h00]
  have H0:=show Hid _ from h00
  clear h00 hc3 hmc
  go_wp2_with fail
  go_ret
  exact⟨j8 (HE0.out H0.out).symm,B1⟩
 have q2:((n0:Int)==0)=false:=by simp;exact h00
 replace HD0:=show Hid _ from HD0.out h00
 clear h00 HE0
 go_wp2_with fail
 have HM:=show Hid _ from hmc
 have HI:=show Hid _ from hc3
 clear hmc hc3 x2 y0 q2 q1
 go_loop [5] (fun i=>∃k:Nat,k<=m.length/\i=.int .i64 k/\(m.take k).all D7=true) (fun i=>m.length-(intOf i).toNat)
 case atStart=>exact⟨0,cp5 _,rfl,rfl⟩
 case round=>
  obtain⟨k,hk,rfl,ha⟩:=hrel
  have HA:=show Hid _ from ha
  clear ha
  by_cases hlt:k<m.length
  ·obtain⟨bm,om,a',c',he,hbm,xm,hrm⟩:=HM.out k hlt
   cases he
   rw[<-(y8 B1).1 _ _ hbm]at xm
   have HS:=show Hid _ from G8 D7 m k hlt
   have HR:Hid (D7 m[k]=(decide ((rowAt m k).length=0)||decide ((rowAt m k).length=14))):=by unfold Hid;rw[I1 hlt];rfl
   have HN:=show Hid (D7 m[k]=false->m.all D7=false)from fun hp=>ac8 hlt hp
   have hrl:=hrm.len
   clear hrm
   generalize (rowAt m k).length=n at*
   by_cases n0:n=0
   ·have q0:((n:Int) !=0)=false:=by simp[n0]
    have HZ:=show Hid ((m.take (k+1)).all D7=true)from by unfold Hid;rw[HS.out,HA.out,HR.out];simp[n0]
    clear n0 HS HR HN
    go_wp2_with fail
    go_round
    case rel=>exact⟨k+1,al,by go_num,HZ.out⟩
    case measure=>simp[intOf];omega
   have q0:((n:Int) !=0)=true:=by simp;intro e;rw[e]at n0;exact n0 rfl
   by_cases n14:n=14
   ·have q3:((n:Int) !=14)=false:=by simp[n14]
    have HZ:=show Hid ((m.take (k+1)).all D7=true)from by unfold Hid;rw[HS.out,HA.out,HR.out];simp[n14]
    clear n0 n14 HS HR HN
    go_wp2_with fail
    go_round
    case rel=>exact⟨k+1,al,by go_num,HZ.out⟩
    case measure=>simp[intOf];omega
   have q3:((n:Int) !=14)=true:=ah
   have HZ:=show Hid (m.all D7=false)from HN.out (by rw[HR.out];simp[n14];intro e;rw[e]at n0;exact n0 rfl)
   clear n0 n14 HS HR HN
   go_wp2_with fail
   go_ret
   exact⟨j8 (by rw[HT.out,HZ.out];simp),B1⟩
  have e:k=m.length:=al
  subst e
  have HR:=show Hid (m.all D7=true)from by have:=HA.out;rwa[List.take_length]at this
  clear HA
  go_wp2_with fail
  go_loopw [6,7,8,9] (fun i _ _ _ wr=>∃k:Nat,k<=m.length/\i=.int .i64 k/\C4 c m k=false/\I5 c m k=true/\Below w1.heap.size w1 wr) (fun i _ _ _ _=>m.length-(intOf i).toNat)
  case atStart=>exact⟨0,cp5 _,rfl,rfl,rfl,Below.refl _ _⟩
  case round=>
   obtain⟨k,hk,rfl,ha,hcv,hb⟩:=hrel
   have HA:=show Hid _ from ha
   have HV:=show Hid _ from hcv
   clear ha hcv
   replace L1:=L1.below hb L1.lt
   have BW:=B1.trans (hb.mono B1.size)
   by_cases hlt:k<m.length
   ·have hltc:k<c.list.length:=by have:=HL.out;omega
    obtain⟨b,off,rfl,hb3,i0,i1,i2,i3,i4⟩:=HI.out k hltc
    obtain⟨bm,om,a',c',he,hbm,xm,hrm⟩:=HM.out k hlt
    cases he
    have hx:=(n9 HC.out).2.2.2.1 k hltc
    have HB:Hid (badAt c m k=(decide (0<(rowAt m k).length)&&decide (G4 c (J3 c k) (rowAt m k)≠0))):=rfl
    rw[O1 hltc]at HB
    have HCA:Hid (K4 c m k=(decide ((rowAt m k).length=0)||(nx c k).all fun t=>L9 (s8 c (J3 c k) (rowAt m k)) (rowAt m t))):=rfl
    rw[O1 hltc]at HCA
    have HSB:=show Hid _ from am3 c m k
    have HSC:=show Hid _ from aC3 c m k
    have HNB:=show Hid (badAt c m k=true->C4 c m m.length=true)from fun g=>bk1 _ hlt g
    have HNC:=show Hid (K4 c m k=false->I5 c m m.length=false)from fun g=>aN4 _ hlt g
    have hlr:=A7 HR.out k
    rw[<-(y8 BW).1 _ _ hb3]at i0 i1 i2 i3 i4
    rw[<-(y8 BW).1 _ _ hbm]at xm
    replace hrm:=hrm.below BW
    have sBW:=BW.size
    generalize rowAt m k=r at*
    generalize c.list[k]=x at*
    have x0:=L1.cell 0
    have x1:=L1.cell 1
    have x2:=L1.cell 2
    simp only[cn1,cn5]at x0 x1 x2
    by_cases h0:r.length=0
    ·have q0:((r.length:Int)==0)=true:=by simp[h0]
     have HN1:=show Hid (C4 c m (k+1)=false)from by unfold Hid;rw[HSB.out,HA.out,HB.out];simp[h0]
     have HN2:=show Hid (I5 c m (k+1)=true)from by unfold Hid;rw[HSC.out,HV.out,HCA.out];simp[h0]
     clear HB hlr h0
     go_wp2_with fail
     exact⟨⟨k+1,al,by go_num,HN1.out,HN2.out,hb⟩,by simp[intOf];omega⟩
    have h14:r.length=14:=al
    have q0:((r.length:Int)==0)=false:=by rw[h14];rfl
    have hrr:I6 wr (.slice a' r.length c') 14 1 (bools r):=by rw[h14]at hrm ⊢;exact hrm
    have z0:=fun X=>c7 x0 X
    have z1:=fun X=>c7 x1 X
    have z2:=fun X=>c7 x2 X
    have j0:=fun X=>c7 i0 X
    have j1:=fun X=>c7 i1 X
    have j2:=fun X=>c7 i2 X
    have j3:=fun X=>c7 i3 X
    have j4:=fun X=>c7 i4 X
    have jm:=fun X=>c7 xm X
    have hl14:(r.length:Int)<=14:=al
    have hki:(k:Int)<m.length:=al
    have hkl:(k:Int)<c.list.length:=al
    have HCALL:Hid (∀X,Calls Tryz.prog 36 #[.agg #[v1,v2,.slice (some ⟨b,off,none⟩) c.list.length k3],x.v,.slice a' r.length c'] (wr.ext X) fun e w''=>e=.returned (.int .i64 (G4 c x r))/\∃Y,w''=wr.ext Y):=
     fun X=>Calls.ext_of' (aI8 _ _ c x r _ ((hrow.below BW).below (i5 _ X)) hx (hrr.below (i5 _ X)))
    by_cases ho:G4 c x r=0
    ·have qo:(G4 c x r !=0)=false:=by simp[ho]
     have HN1:=show Hid (C4 c m (k+1)=false)from by unfold Hid;rw[HSB.out,HA.out,HB.out];simp[ho]
     have HCA':Hid (K4 c m k=((nx c k).all fun t=>L9 (s8 c x r) (rowAt m t))):=by unfold Hid;rw[HCA.out,h14];simp
     have hcells:=aF7 L1 (cq4 hb3 sBW) i0 i1 i2 i3 i4 (cq4 hbm sBW) xm
     have HFL:=show Hid ((s8 c x r).length=14)from by unfold Hid;rw[Q2,h14]
     clear HB hlr h0 ho h14 HCA HSB HNB hrm i0 i1 i2 i3 i4
     go_wp2_with fail
     clear xm
     refine y9 aj aj ?_
     repeat(any_goals (first|go_big_quiet_step ((go_at_call 36;exact HCALL.out _))|quiet_step ((go_at_call 36;exact HCALL.out _))))
     refine wpQuiet_nil ?_
     rintro _ ⟨X,rfl⟩
     clear z0 z1 z2 j0 j1 j2 j3 j4 jm HCALL x0 x1 x2
     have bX:=i5 wr X
     generalize wr.ext X=wx at*
     have hcx:=fun W' (g:Below wx.heap.size wx W')=>And.intro g (hcells W' (bX.trans (g.mono bX.size))).2
     have HCELLS:=show Hid _ from hcx
     clear hcells hcx
     obtain⟨-,⟨x0,x1,x2⟩,⟨i0,i1,i2,i3,i4⟩,xm⟩:=HCELLS.out wx (Below.refl _ _)
     have hbx:=hb.trans (bX.mono hb.size)
     have BX:=B1.trans (hbx.mono B1.size)
     have hb0x:=(Below.refl wx.heap.size wx).drew
     go_wp2_with fail
     go_region_held3 (fun W'=>Below wx.heap.size wx W'/\(W'.cell? ⟨w.heap.size,0,none⟩=some v1/\W'.cell? ⟨w.heap.size,1,none⟩=some v2/\W'.cell? ⟨w.heap.size,2,none⟩=some (.slice (some ⟨b,off,none⟩) c.list.length k3))/\
       (W'.cell? ⟨b,off+k*5,none⟩=some (.int .i64 x.op)/\W'.cell? ⟨b,off+k*5+1,none⟩=some (.int .i64 x.a)/\W'.cell? ⟨b,off+k*5+2,none⟩=some (.int .i64 x.b)/\W'.cell? ⟨b,off+k*5+3,none⟩=some (.int .i64 x.c)/\W'.cell? ⟨b,off+k*5+4,none⟩=some (.int .i64 x.d))/\
       W'.cell? ⟨b0,o0+k,none⟩=some (.slice a' r.length c'))
      (exact HCELLS.out _ ai)
      (first|(go_at_call 65;refine(au2 _ _ c x r _ (hrow.below (D0 ai BX (cn4 _))) hx (hrr.below (D0 ai bX (cn4 _)))).mono ?_;rintro e w7 ⟨u3,rfl,o3,b7⟩;have q7:=D0 b7 hb0x (cn4 _);obtain⟨a9,c9,rfl⟩:=o3.form))
     clear x0 x1 x2 i0 i1 i2 i3 i4 xm hb0x
     obtain⟨-,⟨x0,x1,x2⟩,-,-⟩:=HCELLS.out w7 q7
     have hb7:=hbx.trans (q7.mono hbx.size)
     have B7:=B1.trans (hb7.mono B1.size)
     have f7:=o3.row
     clear o3 b7 HCELLS
     go_wp2_with fail
     refine(aS0 _ c k _ (hrow.below B7) al al).mono ?_
     rintro e w8 ⟨u8,rfl,o8,b8⟩
     obtain⟨a10,c10,rfl⟩:=o8.form
     have hnr:=o8.row
     have hb8:=hb7.trans (b8.mono hb7.size)
     have B8:=B1.trans (hb8.mono B1.size)
     replace f7:=f7.below b8
     clear o8 b8 x0 x1 x2
     have hnx:∀y∈nx c k,0<=y/\y<c.list.length:=fun y hy=>aT3 HC.out al hy
     obtain⟨F,hF⟩:∃F,F=s8 c x r:=⟨_,rfl⟩
     rw[<-hF]at f7 HFL HCA'
     have hfl:=HFL.out
     have f7':I6 w8 (.slice a9 14 c9) F.length 1 (bools F):=by rw[hfl];exact f7
     obtain⟨ns,hns⟩:∃ns,ns=nx c k:=⟨_,rfl⟩
     rw[<-hns]at hnx hnr HCA' ⊢
     have HNX:=show Hid _ from hnx
     have hnl:=hnr.len
     clear f7 hnx hns hF HFL
     go_wp2_with fail
     go_loop [9] (fun i=>∃j:Nat,j<=ns.length/\i=.int .i64 j/\((ns.take j).all fun t=>L9 F (rowAt m t))=true) (fun i=>ns.length-(intOf i).toNat)
     case atStart=>exact⟨0,cp5 _,rfl,rfl⟩
     case round=>
      obtain⟨j,hj,rfl,hja⟩:=hrel
      have HJ:=show Hid _ from hja
      clear hja
      by_cases hjl:j<ns.length
      ·obtain⟨y0,y1⟩:=HNX.out ns[j] (co6 hjl)
       have HSJ:=show Hid _ from G8 (fun t=>L9 F (rowAt m t)) ns j hjl
       have HNJ:=show Hid (L9 F (rowAt m ns[j])=false->(ns.all fun t=>L9 F (rowAt m t))=false)from fun g=>ac8 hjl g
       obtain⟨an,cn,hv,-,-,-,hcn⟩:=hnr.open1
       cases hv
       obtain⟨bn,on,rfl,hbn,yn⟩:=hcn j hjl
       rw[al2 _ _ hjl]at yn
       clear hcn
       obtain⟨t,ht⟩:∃t:Nat,ns[j]=t:=⟨ns[j].toNat,al⟩
       rw[ht]at yn HSJ HNJ y0 y1
       have htm:t<m.length:=al
       obtain⟨bt,ot,at',ct,he,hbt,xt,hrt⟩:=HM.out t htm
       cases he
       rw[<-(y8 B8).1 _ _ hbt]at xt
       replace hrt:=hrt.below B8
       have hlt':=A7 HR.out t
       have hcv:Hid (L9 F (rowAt m t)=(decide (0<(rowAt m t).length)&&x9 F (rowAt m t) F.length)):=rfl
       clear ht
       go_wp2_with fail
       refine(aX2 _ _ F (rowAt m t) _ f7' hrt al).mono ?_
       rintro e w9 ⟨rfl,rfl⟩
       rw[<-hcv.out]
       cases hq:L9 F (rowAt m t)
       ·have HQ:=show Hid _ from hq
        have HZ:=show Hid (I5 c m m.length=false)from HNC.out (by rw[HCA'.out];exact HNJ.out hq)
        clear hq
        go_wp2_with fail
        go_ret
        exact⟨j8 (by rw[HT.out,HZ.out];simp),B8⟩
       have HQ:=show Hid _ from hq
       clear hq
       go_wp2_with fail
       go_round
       case rel=>exact⟨j+1,al,by go_num,by rw[HSJ.out,HJ.out,HQ.out];rfl⟩
       case measure=>simp[intOf];omega
      have e:j=ns.length:=al
      subst e
      have HZ:=show Hid (I5 c m (k+1)=true)from by unfold Hid;rw[HSC.out,HV.out,HCA'.out];have:=HJ.out;rw[List.take_length]at this;rw[this];rfl
      go_wp2_with fail
      exact⟨⟨k+1,al,by go_num,HN1.out,HZ.out,hb8⟩,by simp[intOf];omega⟩
    have qo:(G4 c x r !=0)=true:=by simp[ho]
    have HN1:=show Hid (C4 c m m.length=true)from HNB.out (by rw[HB.out];simp[ho];omega)
    clear HB hlr h0 ho h14 HCA HSB HNB hrm i0 i1 i2 i3 i4
    go_wp2_with fail
    clear xm
    refine y9 aj aj ?_
    repeat(any_goals (first|go_big_quiet_step ((go_at_call 36;exact HCALL.out _))|quiet_step ((go_at_call 36;exact HCALL.out _))))
    refine wpQuiet_nil ?_
    rintro _ ⟨X,rfl⟩
    have hbX:=hb.trans ((i5 wr X).mono hb.size)
    go_wp2_with fail
    go_ret
    exact⟨j8 (by rw[HT.out,HN1.out];simp),B1.trans (hbX.mono B1.size)⟩
   have e:k=m.length:=al
   subst e
   have HZ:=show Hid (as7 c m=true)from by unfold Hid;rw[HT.out,HC.out,decide_eq_true HL.out,HD0.out,HR.out,HA.out,HV.out];rfl
   go_wp2_with fail
   go_ret
   exact⟨j8 HZ.out.symm,BW⟩
theorem au1(v:Value)(c:d9)(hc:x5 c=true)(w:World)(h:v6 w v c):
  Calls Tryz.prog 35 #[v] w fun e w'=>∃g m,e=.returned (.slice (some ⟨g,0,none⟩) m.length m.length)/\M7 c m/\D6 w' w.heap.size w'.heap.size g m/\Below w.heap.size w w':=by
 have hrow:=h
 obtain⟨v1,v2,v3,rfl,h1,h2,h3⟩:=h
 obtain⟨a3,k3,rfl,-,hm3,-,hc3⟩:=h3.ins
 obtain⟨W,hW⟩:∃W,W=(w.alloc (.cells #[v1,v2,.slice a3 c.list.length k3] 26)):=⟨_,rfl⟩
 have B0:Below w.heap.size w W:=by rw[hW];go_grown
 have sW:W.heap.size=w.heap.size+1:=by rw[hW];simp
 have L1:D3 W w.heap.size [v1,v2,.slice a3 c.list.length k3]:=by rw[hW];exact(D3.new w [v1,v2,.slice a3 c.list.length k3] _)
 obtain⟨-,hn1,hn2,-,-⟩:=n9 hc
 have hmk:=ae4 (P:=Tryz.prog) (t:=57) Tryz.underlying57 bg7 rfl al c.list.length al hm3
 have hmk2:∀w,(Instr.makeSlice 63 (.int .i64 14) (.int .i64 14)).run Tryz.prog w=_:=ae4 (P:=Tryz.prog) (t:=63) Tryz.underlying63 aM0 rfl al 14 al al
 rw[show(Value.slice none 0 0).cells.toList=[Value.slice none 0 0]from rfl,aa8]at hmk
 rw[show(Value.bool false).cells.toList=[Value.bool false]from rfl,aa8]at hmk2
 obtain⟨f0,⟨u0,p0⟩,hS⟩:=aT7 W c.list.length hn1 hm3
 rw[sW]at f0 p0 hS
 have x2:=L1.cell 2
 simp at x2
 generalize cq0 14 (Value.bool false)=z14 at*
 generalize cq0 c.list.length (Value.slice none 0 0)=zn at*
 rw[hW]at x2 f0 p0
 go_enter Tryz.func35,Tryz.ntmps35
 go_wp2_with fail
 rw[<-hW]
 rw[World.setCell_alloc_past _ _ _ _ (by simp[sW]),World.setCell_alloc_at _ _ _ _ _ sW.symm]at hS
 clear x2 hmk hmk2 f0 p0 hW
 obtain⟨W2,hW2⟩:∃W2,W2=(W.alloc (.cells (zn.setIfInBounds 0 (.slice (some ⟨w.heap.size+1+1,0,none⟩) 14 14)) 63)).alloc (.cells z14 4):=⟨_,rfl⟩
 rw[<-hW2]at hS ⊢
 have B2:Below w.heap.size w W2:=by rw[hW2];exact B0.trans (Below.mono (by go_grown:Below W.heap.size W _) B0.size)
 have s2:W2.heap.size=w.heap.size+1+1+1:=by rw[hW2];simp[sW]
 replace L1:D3 W2 w.heap.size [v1,v2,.slice a3 c.list.length k3]:=by rw[hW2];exact(L1.alloc _).alloc _
 clear hW2 B0 sW
 have hq:=z6 W2 #[.int .i64 0] 1 1 3 s2.symm rfl al
 rw[s2]at hq
 have bq:Below W2.heap.size W2 (W2.alloc (.cells #[.int .i64 0] 3)):=by go_grown
 have B3:=B2.trans (bq.mono B2.size)
 obtain⟨hS3,hS3b⟩:=hS.next bq
 replace L1:=L1.below bq L1.lt
 have s3:(W2.alloc (.cells #[.int .i64 0] 3)).heap.size=w.heap.size+1+1+1+1:=by simp[s2]
 have hqd:∀b,(Value.slice (some ⟨w.heap.size+1+1+1,0,none⟩) 1 1).ownBlock=some b->¬aa0 (W2.alloc (.cells #[.int .i64 0] 3)) (w.heap.size+1) ((cm8 c.list.length ([]:List Bool)).set 0 (cm8 14 false)) b:=by
  intro b hb hm
  cases hb
  have:=(hS3.blk hm).2.1
  dsimp only at this
  omega
 generalize W2.alloc (.cells #[.int .i64 0] 3)=W3 at*
 clear hS B2 s2 bq hS3b
 have HI:=show Hid _ from hc3
 clear hc3
 obtain⟨G,hG⟩:∃G,G=w.heap.size+1:=⟨_,rfl⟩
 rw[<-hG]at hS3 hqd hq s3 ⊢
 have HG:=show Hid _ from hG
 clear hG
 have hst:=aQ6.start hn1
 go_loopw [4,5,6,7,8,9,10,11] (fun q i _ _ _ _ _ _ wr=>∃(m:List (List Bool)) (qs:List Int) (k:Nat) (a:Option Addr) (cq:Nat),i=.int .i64 k/\q=.slice a qs.length cq/\k<=qs.length/\wr.ownsRow (G+1) 3 1 q qs.length (ints qs)/\
   D6 wr G wr.heap.size G m/\(∀b,q.ownBlock=some b->¬aa0 wr G m b)/\aQ6 c m qs k/\D3 wr w.heap.size [v1,v2,.slice a3 c.list.length k3]/\Below w.heap.size w wr)
  (fun _ i _ _ _ _ _ _ _=>15*c.list.length+1-(intOf i).toNat)
 case atStart=>exact⟨_,[0],0,_,_,rfl,rfl,ao,N9 hq.1 al,hS3.wide (cn4 _) al,hqd,hst,L1,B3⟩
 case round=>
  obtain⟨m,qs,k,a,cq,rfl,rfl,hk,hq,hS,hqd,hi,hL,hb⟩:=hrel
  have hqn:qs.length<=15*c.list.length+1:=by have:=hi.cnt;omega
  have hml:m.length=c.list.length:=hi.low.len
  have HI':=show Hid _ from hi
  have HQD:=show Hid _ from hqd
  clear hi hqd hst hS3 B3 L1
  by_cases hlt:k<qs.length
  ·obtain⟨gq,hgq,p0⟩:∃gq,a=some ⟨gq,0,none⟩/\wr.cell? ⟨gq,k,none⟩=some (.int .i64 qs[k]):=by
    have hoq:C5 wr (G+1) wr.heap.size 3 1 (.slice a qs.length cq) qs.length (ints qs):=C5.mk' hq
    obtain⟨g,cap',hv,-,-,-,-,-,-,hcc⟩:=hoq.open al
    cases hv
    exact⟨g,rfl,hcc k _ (by simp[ints,hlt])⟩
   subst hgq
   have hgqb:gq<wr.heap.size:=World.block_lt_of_cell? wr ⟨gq,k,none⟩ p0
   obtain⟨ht0,ht1,-⟩:=HI'.out.q qs[k] (co6 hlt)
   obtain⟨x,hx⟩:∃x:Nat,qs[k]=x:=⟨qs[k].toNat,al⟩
   rw[hx]at p0 ht0 ht1
   obtain⟨h14,hxl,hJ⟩:=HI'.out.enter (a:=x) (by rw[cn0 hlt,hx])
   have hxm:x<m.length:=al
   obtain⟨gy,cy,xm,-,-,hgy,-,-,-,-,-,hrr⟩:=hS.at14 hxm h14
   obtain⟨b,off,rfl,hb3,i0,i1,i2,i3,i4⟩:=HI.out x hxl
   have hins:=(n9 hc).2.2.2.1 x hxl
   rw[O1 hxl]at hJ
   rw[<-(y8 hb).1 _ _ hb3]at i0 i1 i2 i3 i4
   have hcx:=aF7 hL (cq4 hb3 hb.size) i0 i1 i2 i3 i4 hS.lt.2.2 xm
   have HCELLS:=show Hid _ from hcx
   have HJ:=show Hid _ from hJ
   have HFL:=show Hid ((s8 c c.list[x] (rowAt m x)).length=14)from by unfold Hid;rw[Q2,h14]
   have hb0:=(Below.refl wr.heap.size wr).drew
   obtain⟨z,hz⟩:∃z,z=c.list[x]:=⟨_,rfl⟩
   rw[<-hz]at i0 i1 i2 i3 i4 HCELLS HJ HFL hins
   clear hcx hJ h14 hx hz
   have hxi:(x:Int)<c.list.length:=al
   go_wp2_with fail
   go_region_held3 (fun W'=>Below wr.heap.size wr W'/\(W'.cell? ⟨w.heap.size,0,none⟩=some v1/\W'.cell? ⟨w.heap.size,1,none⟩=some v2/\W'.cell? ⟨w.heap.size,2,none⟩=some (.slice (some ⟨b,off,none⟩) c.list.length k3))/\
     (W'.cell? ⟨b,off+x*5,none⟩=some (.int .i64 z.op)/\W'.cell? ⟨b,off+x*5+1,none⟩=some (.int .i64 z.a)/\W'.cell? ⟨b,off+x*5+2,none⟩=some (.int .i64 z.b)/\W'.cell? ⟨b,off+x*5+3,none⟩=some (.int .i64 z.c)/\W'.cell? ⟨b,off+x*5+4,none⟩=some (.int .i64 z.d))/\
     W'.cell? ⟨G,x,none⟩=some (.slice (some ⟨gy,0,none⟩) 14 cy))
    (exact HCELLS.out _ ai)
    (first|(go_at_call 65;refine(au2 _ _ c z (rowAt m x) _ (hrow.below (D0 ai hb (cn4 _))) hins (hrr.below ai)).mono ?_;rintro e w7 ⟨u3,rfl,o3,b7⟩;have q7:=D0 b7 hb0 (cn4 _);obtain⟨a9,c9,rfl⟩:=o3.form))
   obtain⟨F,hF⟩:∃F,F=s8 c z (rowAt m x):=⟨_,rfl⟩
   rw[<-hF]at HJ HFL o3
   have hb7:=hb.trans (q7.mono hb.size)
   have hq7:=ar8 hq q7 (cn4 _)
   obtain⟨hS7,hS7b⟩:=hS.next q7
   have hL7:=hL.below q7 hL.lt
   have o7:C5 w7 wr.heap.size w7.heap.size 4 1 (.slice a9 14 c9) 14 (bools F):=o3
   have q7s:=q7.size
   have hSlt:=hS.lt.2.2
   have y0:=hL7.cell 0
   have y1:=hL7.cell 1
   have y2:=hL7.cell 2
   simp only[cn1,cn5]at y0 y1 y2
   clear o3 b7 i0 i1 i2 i3 i4 xm p0 hrr hF hL hq
   go_wp2_with fail
   refine(aS0 _ c x _ (hrow.below hb7) al al).mono ?_
   rintro e w8 ⟨u8,rfl,o8,b8⟩
   obtain⟨a10,c10,rfl⟩:=o8.form
   have hb8:=hb7.trans (b8.mono hb7.size)
   have hq8:=ar8 hq7 b8 (cn4 _)
   obtain⟨hS8,hS8b⟩:=hS7.next b8
   have hL8:=hL7.below b8 hL7.lt
   have t8:C5 w8 wr.heap.size w8.heap.size 4 1 (.slice a9 14 c9) 14 (bools F):=(o7.keep b8 (cn4 _)).wide (cn4 _) b8.size
   have n8:C5 w8 wr.heap.size w8.heap.size 3 1 (.slice a10 (nx c x).length c10) (nx c x).length (ints (nx c x)):=o8.wide q7s (cn4 _)
   have hsz8:wr.heap.size<=w8.heap.size:=cp4 q7s b8.size
   have hQD8:∀b,(Value.slice (some ⟨gq,0,none⟩) qs.length cq).ownBlock=some b->¬aa0 w8 G m b:=fun b hb hm=>HQD.out b hb (hS7b b (hS8b b hm))
   have hD1:ad7 (Value.slice (some ⟨gq,0,none⟩) qs.length cq) (Value.slice a10 (nx c x).length c10):=by
    intro g hg hg'
    cases hg
    have h1:=(n8.lt _ hg').1
    exact absurd hgqb (Nat.not_lt.2 h1)
   have hD2:ad7 (Value.slice (some ⟨gq,0,none⟩) qs.length cq) (Value.slice a9 14 c9):=by
    intro g hg hg'
    cases hg
    have h1:=(t8.lt _ hg').1
    exact absurd hgqb (Nat.not_lt.2 h1)
   have hnx:∀y∈nx c x,0<=y/\y<c.list.length:=fun y hy=>aT3 hc al hy
   obtain⟨ns,hns⟩:∃ns,ns=nx c x:=⟨_,rfl⟩
   rw[<-hns]at hnx n8 HJ hD1 ⊢
   have HNS:=show Hid _ from hns
   have HNX:=show Hid _ from hnx
   have hnl:=n8.row.len
   have hGw:G+1<=wr.heap.size:=hSlt
   have n8':=n8.wide hGw (cn4 _)
   have t8':=t8.wide hGw (cn4 _)
   clear n8 t8 hns hnx o7 o8 b8 q7 HCELLS hS hS7 hS7b hS8b hL7 hq7 hb7 y0 y1 y2 hb0 HQD hb
   go_wp2_with fail
   go_loopw [4,9,10,11] (fun q i _ _ wi=>∃(m':List (List Bool)) (qs':List Int) (j:Nat) (a:Option Addr) (cq:Nat),i=.int .i64 j/\q=.slice a qs'.length cq/\j<=ns.length/\wi.ownsRow (G+1) 3 1 q qs'.length (ints qs')/\
     D6 wi G wi.heap.size G m'/\(∀b,q.ownBlock=some b->¬aa0 wi G m' b)/\aE4 c m' qs' k x F ns j/\k<qs'.length/\
     C5 wi (G+1) w8.heap.size 3 1 (.slice a10 ns.length c10) ns.length (ints ns)/\ad7 q (.slice a10 ns.length c10)/\C5 wi (G+1) w8.heap.size 4 1 (.slice a9 14 c9) 14 (bools F)/\ad7 q (.slice a9 14 c9)/\
     D3 wi w.heap.size [v1,v2,.slice (some ⟨b,off,none⟩) c.list.length k3]/\Below w.heap.size w wi/\w8.heap.size<=wi.heap.size)
    (fun _ i _ _ _=>ns.length-(intOf i).toNat)
   case atStart=>exact⟨m,qs,0,_,_,rfl,rfl,cp5 _,hq8,hS8.wide (cn4 _) hsz8,hQD8,HJ.out,hlt,n8',hD1,t8',hD2,hL8,hb8,cn4 _⟩
   case round=>
    obtain⟨m',qs',j,a',cq',rfl,rfl,hj,hq,hS,hqd,hi,hkq,hn,hd1,ht,hd2,hL,hb,hs8⟩:=hrel
    have hqn':qs'.length<=15*c.list.length+1:=by have:=hi.cnt;omega
    have hml':m'.length=c.list.length:=hi.low.len
    have HI2:=show Hid _ from hi
    have HQD:=show Hid _ from hqd
    have HD1:=show Hid _ from hd1
    have HD2:=show Hid _ from hd2
    clear hi hqd hd1 hd2 hq8 hS8 hQD8 n8' hD1 t8' hD2 hL8 hb8 HJ
    by_cases hjl:j<ns.length
    ·obtain⟨y0,y1⟩:=HNX.out ns[j] (co6 hjl)
     obtain⟨y,hy⟩:∃y:Nat,ns[j]=y:=⟨ns[j].toNat,al⟩
     obtain⟨gu,hgu,pu⟩:∃gu,a10=some ⟨gu,0,none⟩/\wr.cell? ⟨gu,j,none⟩=some (.int .i64 ns[j]):=by
      obtain⟨g,cap',hv,-,-,-,-,-,-,hcc⟩:=hn.open al
      cases hv
      exact⟨g,rfl,hcc j _ (by simp[ints,hjl])⟩
     subst hgu
     rw[hy]at pu y0 y1
     have hyl:y<c.list.length:=al
     have hyli:(y:Int)<c.list.length:=al
     have hym:y<m'.length:=al
     obtain⟨-,u,hcy,hou,-⟩:=hS.at hym
     have hro:=A7 HI2.out.low.ok y
     obtain⟨au,cu,rfl⟩:=hou.form
     have hgu1:G+1<=gu/\gu<wr.heap.size:=⟨(hn.lt _ rfl).1,(hn.lt _ rfl).2.2⟩
     have HKEEP:=show Hid (L9 F (rowAt m' y)=true->aE4 c m' qs' k x F ns (j+1))from fun g=>HI2.out.keep hjl (by rw[hy];exact g)
     have HPUSH:=show Hid (L9 F (rowAt m' y)=false->aE4 c (m'.set y (Q5 (rowAt m' y) F)) (qs'++[(y:Int)]) k x F ns (j+1))from fun g=>HI2.out.push hjl hy hyl hkq g
     have hjl14:=ae7 (t:=F) hro HFL.out
     clear hy
     go_wp2_with fail
     refine(a38 _ _ (rowAt m' y) F _ hou.row ht.row HFL.out hro).mono ?_
     rintro e w9 ⟨zr,rfl,o9,b9⟩
     obtain⟨az,cz,rfl⟩:=o9.form
     have hq9:=ar8 hq b9 (cn4 _)
     obtain⟨hS9,hS9b⟩:=hS.next b9
     have hn9:=hn.keep b9 hs8
     have ht9:=ht.keep b9 hs8
     have hL9:=hL.below b9 hL.lt
     have hb9:=hb.trans (b9.mono hb.size)
     have s9:=b9.size
     have pu9:w9.cell? ⟨gu,j,none⟩=some (.int .i64 y):=((y8 b9).1 _ _ hgu1.2).trans pu
     obtain⟨f9,u9,cy9,-,-⟩:=hS9.at hym
     have py:(w9.setCell ⟨G,y,none⟩ (.slice az 14 cz)).cell? ⟨gu,j,none⟩=some (.int .i64 y):=by
      rw[World.cell?_setCell_other _ _ _ _ (by intro h;cases h;omega)]
      exact pu9
     have hQ9:∀b,(Value.slice a' qs'.length cq').ownBlock=some b->¬aa0 w9 G m' b:=fun b hb hm=>HQD.out b hb (hS9b b hm)
     have hQlt:∀b,(Value.slice a' qs'.length cq').ownBlock=some b->G+1<=b/\b<wr.heap.size:=fun b hb=>hq.lt b hb
     cases hcv:L9 F (rowAt m' y)
     ·have HJ':=show Hid _ from HPUSH.out hcv
      clear hcv HKEEP HPUSH
      have hqx:=((C5.mk' hq9).other (b:=G) al y (.slice az 14 cz)).1
      have hnx':=hn9.other (b:=G) al y (.slice az 14 cz)
      have htx:=ht9.other (b:=G) al y (.slice az 14 cz)
      have hSx:=hS9.setRow hym hjl14 o9 (cn4 _) s9
      have hSxb:∀b,(Value.slice a' qs'.length cq').ownBlock=some b->¬aa0 (w9.setCell ⟨G,y,none⟩ (.slice az 14 cz)) G (m'.set y (Q5 (rowAt m' y) F)) b:=by
       intro b hb hm
       rcases hS9.setRow_blk hym _ _ hm with h1|h1
       ·exact hQ9 b hb h1
       have h2:=(o9.lt _ h1).1
       have h3:=(hQlt b hb).2
       omega
      have hLx:=hL9.other (p:=⟨G,y,none⟩) (by show w.heap.size≠G;have:=HG.out;omega) (.slice az 14 cz)
      have hbx:Below w.heap.size w (w9.setCell ⟨G,y,none⟩ (.slice az 14 cz)):=hb9.setCell (p:=⟨G,y,none⟩) (by show w.heap.size<=G;have:=HG.out;omega) _
      have s9x:(w9.setCell ⟨G,y,none⟩ (.slice az 14 cz)).heap.size=w9.heap.size:=ao
      go_wp2_with (at_builtin;refine J8 rfl _ _ rfl Tryz.underlying23 bp6 rfl al rfl (hqx.alloc _) rfl (ak3 _ (.int .i64 y) _ ao) (fun u hu=>by simp at hu;subst hu;rfl) al al ah ?_;rintro a4 q4 w4 o4 b4 g4 h4)
      clear py pu pu9 cy9 hcy f9 hL hL9 hn hn9 ht ht9 hq hq9 hS hS9 hS9b hQ9
      generalize w9.setCell ⟨G,y,none⟩ (.slice az 14 cz)=W4 at*
      have ba:Below W4.heap.size W4 (W4.alloc (.cells #[.int .i64 y] 3)):=(Below.refl W4.heap.size W4).alloc (cn4 _) _
      have b5:Below (G+1) W4 w4:=(ba.mono al).trans b4
      obtain⟨hS5,hS5b⟩:=hSx.next ba
      have hQ5:∀b,(Value.slice a' qs'.length cq').ownBlock=some b->¬aa0 (W4.alloc (.cells #[.int .i64 y] 3)) G (m'.set y (Q5 (rowAt m' y) F)) b:=fun b hb hm=>hSxb b hb (hS5b b hm)
      obtain⟨hS6,hS6b⟩:=hS5.grown g4 hQ5
      have g4s:=g4.size
      have s5:(W4.alloc (.cells #[.int .i64 y] 3)).heap.size=W4.heap.size+1:=ao
      refine⟨⟨_,qs'++[(y:Int)],j+1,a4,q4,by go_num,ao,al,by simpa[ints]using o4,hS6.wide (cn4 _) al,?_,HJ'.out,ah,?_,?_,?_,?_,hLx.below b5 (by have:=HG.out;omega),hbx.trans (b5.mono (by have:=HG.out;omega)),al⟩,by simp[intOf];omega⟩
      ·intro b hb hm
       rcases h4 b hb with h1|h1
       ·exact hQ5 b h1 (hS6b b hm)
       have:=(hS5.blk (hS6b b hm)).2.2
       omega
      ·exact C5.grown ⟨hnx'.1.alloc _,hnx'.2⟩ g4 fun g h1 h2=>HD1.out g h2 h1
      ·intro g h1 h2
       rcases h4 g h1 with h1|h1
       ·exact HD1.out g h1 h2
       have:=hnx'.2 g h2
       omega
      ·exact C5.grown ⟨htx.1.alloc _,htx.2⟩ g4 fun g h1 h2=>HD2.out g h2 h1
      intro g h1 h2
      rcases h4 g h1 with h1|h1
      ·exact HD2.out g h1 h2
      have:=htx.2 g h2
      omega
     have HJ':=show Hid _ from HKEEP.out hcv
     clear hcv HKEEP HPUSH
     go_wp2_with fail
     exact⟨⟨m',qs',j+1,_,_,by go_num,rfl,al,hq9,hS9.wide (cn4 _) s9,hQ9,HJ'.out,hkq,hn9,HD1.out,ht9,HD2.out,hL9,hb9,cp4 hs8 s9⟩,by simp[intOf];omega⟩
    have hjn:j=ns.length:=al
    have HW:=show Hid (aQ6 c m' qs' (k+1))from by
     have h1:=HI2.out
     rw[HNS.out]at h1
     exact h1.done (by rw[<-HNS.out];omega)
    subst hjn
    go_wp2_with fail
    exact⟨⟨m',qs',k+1,_,_,by go_num,rfl,al,hq,hS,HQD.out,HW.out,hL,hb⟩,by simp[intOf];omega⟩
  have hkn:k=qs.length:=al
  subst hkn
  go_wp2_with fail
  go_ret
  exact⟨G,m,by rw[hml];rfl,HI'.out.done,hS.wide (by have:=HG.out;omega) (cn4 _),hb⟩
end Go.Proofs.YtfbeblgnjeokaaaGreat

namespace Go.Proofs.YtfbeblgnjeokaaaGreat
structure aE3(c:d9)(m:List (List Bool))(p0:Nat)(ch:Bool)(i:Nat):Prop where
 low:Low c m
 cov:ch=false->∀j:Nat,j<i->K4 c m j=true
 le:pot m<=p0
 lt:ch=true->pot m<p0
structure KInv(c:d9)(m:List (List Bool))(p0:Nat)(ch:Bool)(i:Nat)(t:List Bool)(ns:List Int)(j:Nat):Prop where
 low:Low c m
 cov:ch=false->(∀j:Nat,j<i->K4 c m j=true)/\s8 c (J3 c i) (rowAt m i)=t/\∀y∈ns.take j,L9 t (rowAt m y)=true
 le:pot m<=p0
 lt:ch=true->pot m<p0
 bnd:∀p,ab3 c p->∀y∈ns,(rowAt p y).length≠0/\rle t (rowAt p y)
 tl:t.length=14
structure aw6(c:d9)(m:List (List Bool))(p0:Nat)(ch:Bool)(i:Nat)(t:List Bool)(ns:List Int)(j y q:Nat):Prop extends KInv c m p0 ch i t ns j where
 row:(rowAt m y).length=14
 bits:ch=false->∀k:Nat,k<q->t.getD k false=true->(rowAt m y).getD k false=true
theorem aE3.start{c:d9}{m:List (List Bool)}(h:Low c m):aE3 c m (pot m) false 0:=⟨h,fun _ j hj=>by omega,cn4 _,fun h=>by cases h⟩
theorem aE3.done{c:d9}{m:List (List Bool)}{p0 i:Nat}(h:aE3 c m p0 false i)(hi:m.length<=i):M7 c m:=h.low.least fun j hj=>h.cov rfl j al
theorem aE3.skip{c:d9}{m:List (List Bool)}{p0 i:Nat}{ch:Bool}(h:aE3 c m p0 ch i)(h0:(rowAt m i).length=0):aE3 c m p0 ch (i+1):=by
 refine⟨h.low,fun g j hj=>?_,h.le,h.lt⟩
 rcases cp1 j i with h1|h1
 ·exact h.cov g j h1
 obtain rfl:j=i:=al
 unfold K4
 rw[h0];rfl
theorem aE3.enter{c:d9}{m:List (List Bool)}{p0 i:Nat}{ch:Bool}(h:aE3 c m p0 ch i)(hi:i<m.length)(h14:(rowAt m i).length=14){ns:List Int}(hns:∀y,y∈ns↔y∈nx c i):KInv c m p0 ch i (s8 c (J3 c i) (rowAt m i)) ns 0:=
 ⟨h.low,fun g=>⟨h.cov g,rfl,ao⟩,h.le,h.lt,fun p hp y hy=>h.low.after hi h14 p hp y ((hns y).1 hy),by rw[Q2];exact h14⟩
theorem KInv.done{c:d9}{m:List (List Bool)}{p0 i j:Nat}{ch:Bool}{t:List Bool}{ns:List Int}(h:KInv c m p0 ch i t ns j)(hj:ns.length<=j)(hns:∀y,y∈ns↔y∈nx c i):aE3 c m p0 ch (i+1):=by
 refine⟨h.low,fun g k hk=>?_,h.le,h.lt⟩
 obtain⟨g1,g2,g3⟩:=h.cov g
 rcases cp1 k i with h1|h1
 ·exact g1 k h1
 obtain rfl:k=i:=al
 rw[co3 hj]at g3
 unfold K4
 rw[cr2]
 right
 rw[cn8,g2]
 exact fun y hy=>g3 y ((hns y).2 hy)
theorem KInv.bits{c:d9}{m:List (List Bool)}{p0 i j y:Nat}{ch:Bool}{t:List Bool}{ns:List Int}(h:KInv c m p0 ch i t ns j)(h14:(rowAt m y).length=14):aw6 c m p0 ch i t ns j y 0:=
 ⟨h,h14,fun _ k hk=>by omega⟩
theorem KInv.fresh{c:d9}{m:List (List Bool)}{p0 i j y:Nat}{ch:Bool}{t:List Bool}{ns:List Int}(h:KInv c m p0 ch i t ns j)(hj:j<ns.length)(hy:ns[j]=(y:Int))(hym:y<m.length)(h0:(rowAt m y).length=0):
  aw6 c (m.set y (cm8 14 false)) p0 true i t ns j y 0:=by
 have hf:∀k:Nat,(cm8 14 false).getD k false=false:=by
  intro k
  simp only[cn2,cr1]
  split<;>rfl
 have hp:=aF0 m y (cm8 14 false) hym
 rw[<-I1 hym]at hp
 have e1:ar6 (rowAt m y)=15:=by unfold ar6;rw[if_pos h0]
 have e2:ar6 (cm8 14 false)=14:=by rfl
 rw[e1,e2]at hp
 have hle:=h.le
 refine⟨⟨?_,(fun g=>by cases g),al,fun _=>by omega,h.bnd,h.tl⟩,?_,(fun g=>by cases g)⟩
 ·refine h.low.set hym ao fun p hpp=>⟨(h.bnd p hpp y (by rw[<-hy];exact co6 hj)).1,fun k hk=>?_⟩
  rw[hf k]at hk
  cases hk
 rw[C1 _ _ hym,if_pos ao];simp
theorem aw6.keep{c:d9}{m:List (List Bool)}{p0 i j y q:Nat}{ch:Bool}{t:List Bool}{ns:List Int}(h:aw6 c m p0 ch i t ns j y q)(hq:t.getD q false=true->(rowAt m y).getD q false=true):aw6 c m p0 ch i t ns j y (q+1):=by
 refine⟨h.toKInv,h.row,fun g k hk ht=>?_⟩
 rcases cp1 k q with h1|h1
 ·exact h.bits g k h1 ht
 obtain rfl:k=q:=al
 exact hq ht
theorem aw6.put{c:d9}{m:List (List Bool)}{p0 i j y q:Nat}{ch:Bool}{t:List Bool}{ns:List Int}(h:aw6 c m p0 ch i t ns j y q)(hj:j<ns.length)(hy:ns[j]=(y:Int))(hym:y<m.length)(hq:q<14)(h1:t.getD q false=true)(h0:(rowAt m y).getD q false=false):
  aw6 c (m.set y ((rowAt m y).set q true)) p0 true i t ns j y (q+1):=by
 have hl:=h.row
 have hp:=aF0 m y ((rowAt m y).set q true) hym
 rw[<-I1 hym]at hp
 have hb:(rowAt m y)[q]? =some false:=by
  rw[cn2]at h0
  rw[cn0 al]at h0 ⊢
  simpa using h0
 have e1:ar6 (rowAt m y)=(rowAt m y).count false:=by unfold ar6;rw[if_neg al]
 have e2:ar6 ((rowAt m y).set q true)=((rowAt m y).set q true).count false:=by unfold ar6;rw[if_neg (by rw[cp3];omega)]
 have e3:=ao3 hb
 rw[e1,e2]at hp
 have hle:=h.le
 refine⟨⟨?_,(fun g=>by cases g),al,fun _=>by omega,h.bnd,h.tl⟩,?_,(fun g=>by cases g)⟩
 ·refine h.low.set hym (by rw[cp3];exact hl) fun p hpp=>?_
  have hb:=h.bnd p hpp y (by rw[<-hy];exact co6 hj)
  refine⟨hb.1,fun k hk=>?_⟩
  rw[aM8]at hk
  split at hk
  ·rename_i e
   rw[e.1]
   exact hb.2 q h1
  rcases h.low.low p hpp y with h2|h2
  ·omega
  exact h2.2 k hk
 rw[C1 _ _ hym,if_pos ao,cp3];exact hl
theorem aw6.done{c:d9}{m:List (List Bool)}{p0 i j y q:Nat}{ch:Bool}{t:List Bool}{ns:List Int}(h:aw6 c m p0 ch i t ns j y q)(hj:j<ns.length)(hy:ns[j]=(y:Int))(hq:14<=q):KInv c m p0 ch i t ns (j+1):=by
 refine⟨h.low,fun g=>?_,h.le,h.lt,h.bnd,h.tl⟩
 obtain⟨g1,g2,g3⟩:=h.cov g
 refine⟨g1,g2,fun z hz=>?_⟩
 rw[J2 _ _ hj,cp2,cq2]at hz
 rcases hz with hz|hz
 ·exact g3 z hz
 rw[hz,hy,K3]
 refine⟨by have:=h.row;omega,fun k hk=>?_⟩
 rcases cp1 k 14 with h1|h1
 ·exact h.bits g k al hk
 have:=h.tl
 simp[show t.length<=k by omega]at hk
end Go.Proofs.YtfbeblgnjeokaaaGreat

namespace Go.Proofs.YtfbeblgnjeokaaaGreat
open Go Go.RowKit
theorem aM4(p:d7->Bool)(f:FuncId)(q:Value)(v:Value)(xs:List d7)(w:World)(h:aA5 w v xs)(he:∀args w,(callFunc f args).run Tryz.prog w=.ok (.enter f args) w)
  (hf:∀x w',Below w.heap.size w w'->Calls Tryz.prog f #[x.v,q] w' fun e w''=>e=.returned (.bool (p x))/\Below w'.heap.size w' w''):
  Calls Tryz.prog 116 #[v,.func (.func f) #[] #[q]] w fun e w'=>∃r:Int,e=.returned (.int .i64 r)/\decide (0<=r)=xs.any p/\Below w.heap.size w w':=by
 obtain⟨a1,c1,rfl,-,hm1,-,hc1⟩:=h.ins
 have HF:=show Hid _ from hf
 clear h hf
 go_enter Tryz.func116,Tryz.ntmps116
 go_wp2_with fail
 go_loopw [5,8] (fun _ i wr=>∃k:Nat,k<=xs.length/\i=.int .i64 k/\(xs.take k).any p=false/\Below w.heap.size w wr) (fun _ i _=>xs.length-(intOf i).toNat)
 case atStart=>exact⟨0,cp5 _,rfl,rfl,Below.refl _ _⟩
 case round=>
  obtain⟨k,hk,rfl,ha,hb⟩:=hrel
  have HA:=show Hid _ from ha
  clear ha
  by_cases hlt:k<xs.length
  ·obtain⟨b1,o1,rfl,hb1,i0,i1,i2,i3,i4⟩:=hc1 k hlt
   rw[<-(y8 hb).1 _ _ hb1]at i0 i1 i2 i3 i4
   clear hc1
   cases hp:p xs[k]
   all_goals
    have HP:=show Hid _ from hp
    clear hp
    go_wp2_with fail
    refine(HF.out xs[k] _ hb).mono ?_
    rintro e w1 ⟨rfl,hb2⟩
    rw[HP.out]
    go_wp2_with fail
   ·go_roundw
    case rel=>exact⟨k+1,al,by go_num,by rw[n7 _ _ hlt,List.any_append,HA.out];simp[HP.out],hb.trans (hb2.mono hb.size)⟩
    case measure=>simp[intOf];omega
   go_ret
   exact⟨_,rfl,by rw[decide_eq_true al];symm;rw[List.any_eq_true];exact⟨_,co6 hlt,HP.out⟩,hb.trans (hb2.mono hb.size)⟩
  go_wp2_with fail
  go_ret
  refine⟨_,rfl,?_,hb⟩
  have:=HA.out
  rw[co3 al]at this
  rw[this];rfl
theorem aw1(p:d7->Bool)(f:FuncId)(q:Value)(v:Value)(xs:List d7)(w:World)(h:aA5 w v xs)(he:∀args w,(callFunc f args).run Tryz.prog w=.ok (.enter f args) w)
  (hf:∀x w',Below w.heap.size w w'->Calls Tryz.prog f #[x.v,q] w' fun e w''=>e=.returned (.bool (p x))/\Below w'.heap.size w' w''):
  Calls Tryz.prog 75 #[v,.func (.func f) #[] #[q]] w fun e w'=>e=.returned (.bool (xs.any p))/\Below w.heap.size w w':=by
 obtain⟨a1,c1,rfl,-⟩:=h.open
 have HF:=show Hid _ from hf
 have HE:=show Hid _ from he
 clear hf he
 go_enter Tryz.func75,Tryz.ntmps75
 go_wp2_with fail
 refine(aM4 p f q _ xs _ h HE.out HF.out).mono ?_
 rintro e w1 ⟨r,rfl,hr,hb⟩
 have HR:=show Hid _ from hr
 clear hr
 go_wp2_with fail
 go_ret
 exact⟨j8 HR.out,hb⟩
theorem bg8(op:Int)(w:World):
  Calls Tryz.prog 117 #[.int .i64 op] w fun e w'=>e=.returned (.string ⟨(P9 op).toArray⟩)/\Below w.heap.size w w':=by
 by_cases h:1<=op/\op<=13
 ·obtain⟨h1,h2⟩:=h
  have h:op=1\/op=2\/op=3\/op=4\/op=5\/op=6\/op=7\/op=8\/op=9\/op=10\/op=11\/op=12\/op=13:=al
  clear h1 h2
  rcases h with rfl|rfl|rfl|rfl|rfl|rfl|rfl|rfl|rfl|rfl|rfl|rfl|rfl
  all_goals
   go_enter Tryz.func117,Tryz.ntmps117
   go_wp2_with fail
   refine(F9 _ 1 13 _).mono ?_
   rintro e w1 ⟨rfl,rfl⟩
   go_wp2_with fail
   go_ret
   exact⟨by simp[P9],by go_grown⟩
 have hF:Hid (P9 op=[]):=aS1 h
 have hb:(decide ((1:Int)<=op)&&decide (op<=13))=false:=by
  rw[Bool.eq_false_iff];simp only[ne_eq,cm9,decide_eq_true_eq];exact h
 have HB:=show Hid _ from hb
 clear h hb
 go_enter Tryz.func117,Tryz.ntmps117
 go_wp2_with fail
 refine(F9 _ 1 13 _).mono ?_
 rintro e w1 ⟨rfl,rfl⟩
 rw[HB.out]
 go_wp2_with fail
 go_ret
 exact⟨by rw[hF.out];rfl,Below.refl _ _⟩
theorem a81(x:d7)(w:World):
  Calls Tryz.prog 118 #[x.v] w fun e w'=>∃u,e=.returned u/\C5 w' w.heap.size w'.heap.size 3 1 u 4 (ints [x.a,x.b,x.c,x.d])/\Below w.heap.size w w':=by
 obtain⟨x0,x1,x2,x3,x4⟩:=x
 go_enter Tryz.func118,Tryz.ntmps118
 go_wp2_with fail
 go_ret
 refine⟨_,rfl,(z6 _ #[.int .i64 x1,.int .i64 x2,.int .i64 x3,.int .i64 x4] 4 1 _ ao rfl al).wide ao ao,by go_grown⟩
theorem a06(v1 v2 v3:Value)(c:d9)(kd:UInt8)(n:Int)(w:World)(h1:I6 w v1 c.vars.length 1 (ints c.vars))(h2:I6 w v2 c.arrays.length 1 (ints c.arrays))(h3:aA5 w v3 c.list):
  Calls Tryz.prog 119 #[.agg #[v1,v2,v3],.int .u8 kd.toNat,.int .i64 n] w fun e w'=>e=.returned (.bool (N3 c kd n))/\Below w.heap.size w w':=by
 obtain⟨a1,k1,rfl,-,q1,-,-⟩:=h1.open1
 obtain⟨a2,k2,rfl,-,q2,-,-⟩:=h2.open1
 obtain⟨a3,k3,rfl,-,q3,-,-⟩:=h3.open
 have hk:kd.toNat<256:=kd.toNat_lt
 have HK:Hid (∀m:UInt8,(kd=m)=((kd.toNat:Int)=(m.toNat:Int))):=fun m=>by
  rw[eq_iff_iff]
  constructor
  ·rintro rfl;rfl
  intro h;exact UInt8.toNat_inj.1 al
 clear h1 h2 h3
 obtain⟨z,hz⟩:∃z,z=kd.toNat:=⟨_,rfl⟩
 rw[<-hz]at hk ⊢
 have HZ:=show Hid _ from hz
 clear hz
 go_enter Tryz.func119,Tryz.ntmps119
 go_wp2_with (go_at_call 74;refine(F9 _ _ _ _).mono ?_;rintro e w1 ⟨rfl,rfl⟩)
 all_goals go_ret
 all_goals refine⟨j8 ?_,by go_grown⟩
 all_goals unfold N3
 all_goals simp only[HK.out, <-HZ.out,show(UInt8.toNat 114)=114 from rfl,show(UInt8.toNat 110)=110 from rfl,show(UInt8.toNat 118)=118 from rfl,show(UInt8.toNat 97)=97 from rfl,show(UInt8.toNat 111)=111 from rfl,show(UInt8.toNat 105)=105 from rfl]
 all_goals clear HK HZ hk q1 q2 q3
 all_goals simp_all
 all_goals (rw[cq3];simp)
theorem a04(v:Value)(c:d9)(x:d7)(w:World)(h:v6 w v c):
  Calls Tryz.prog 77 #[v,x.v] w fun e w'=>e=.returned (.bool (D9 c x))/\Below w.heap.size w w':=by
 obtain⟨v1,v2,v3,rfl,h1,h2,h3⟩:=h
 obtain⟨W,hW⟩:∃W,W=((w.alloc (.cells #[v1,v2,v3] 26)).alloc (.cells #[.int .i64 x.op,.int .i64 x.a,.int .i64 x.b,.int .i64 x.c,.int .i64 x.d] 76)):=⟨_,rfl⟩
 have B0:Below w.heap.size w W:=by rw[hW];go_grown
 have L1:D3 W w.heap.size [v1,v2,v3]:=by rw[hW];exact(D3.new w [v1,v2,v3] _).alloc _
 have L2:D3 W (w.heap.size+1) [.int .i64 x.op,.int .i64 x.a,.int .i64 x.b,.int .i64 x.c,.int .i64 x.d]:=by rw[hW];exact D3.new' (w.alloc _) [.int .i64 x.op,.int .i64 x.a,.int .i64 x.b,.int .i64 x.c,.int .i64 x.d] _ ao
 go_enter Tryz.func77,Tryz.ntmps77
 go_wp2_with fail
 rw[<-hW]
 clear hW
 refine(bg8 x.op W).mono ?_
 rintro e w1 ⟨rfl,b1⟩
 replace L1:=L1.below b1 L1.lt
 replace L2:=L2.below b1 L2.lt
 have y0:=L2.cell 0
 have y1:=L2.cell 1
 have y2:=L2.cell 2
 have y3:=L2.cell 3
 have y4:=L2.cell 4
 simp at y0 y1 y2 y3 y4
 go_wp2_with fail
 refine(a81 x _).mono ?_
 rintro e w2 ⟨u,rfl,o2,b2⟩
 replace L1:=L1.below b2 L1.lt
 have B2:=(B0.trans (b1.mono B0.size)).trans (b2.mono (by have:=B0.size;have:=b1.size;omega))
 obtain⟨g,cap,rfl,-,-,hg,-,-,-,hp⟩:=o2.open al
 clear y0 y1 y2 y3 y4 L2 o2
 by_cases hop:1<=x.op/\x.op<=13
 ·have hR:Hid (D9 c x=aJ9 c (P9 x.op) [x.a,x.b,x.c,x.d] 4):=bg6 c x hop
  have hkl:=bM6 hop
  obtain⟨kinds,hkinds⟩:∃kinds,kinds=P9 x.op:=⟨_,rfl⟩
  obtain⟨parts,hparts⟩:∃parts,parts=[x.a,x.b,x.c,x.d]:=⟨_,rfl⟩
  rw[<-hkinds]at hkl ⊢
  rw[<-hkinds]at hR
  rw[<-hparts]at hR hp
  have hpl:parts.length=4:=by rw[hparts];rfl
  clear hkinds hparts hop
  have HPL:=show Hid _ from hpl
  clear hpl
  have hne:kinds.isEmpty=false:=by
   rw[List.isEmpty_eq_false_iff];intro h;rw[h]at hkl;simp at hkl
  go_wp2_with fail
  go_loopw [14] (fun i wr=>∃k:Nat,k<=4/\i=.int .i64 k/\aJ9 c kinds parts k=true/\Below w2.heap.size w2 wr) (fun i _=>4-(intOf i).toNat)
  case atStart=>exact⟨0,al,rfl,rfl,Below.refl _ _⟩
  case round=>
   obtain⟨k,hk,rfl,ha,hb⟩:=hrel
   have HA:=show Hid _ from ha
   clear ha
   replace L1:=L1.below hb L1.lt
   by_cases hlt:k<4
   ·have x0:=L1.cell 0
    have x1:=L1.cell 1
    have x2:=L1.cell 2
    simp only[cn1,cn5]at x0 x1 x2
    have z0:=fun X=>c7 x0 X
    have z1:=fun X=>c7 x1 X
    have z2:=fun X=>c7 x2 X
    have hpk:k<parts.length:=by rw[HPL.out];exact hlt
    have p0:wr.cell? ⟨g,k,none⟩=some (.int .i64 parts[k]):=by
     rw[(y8 hb).1 _ _ hg];exact hp k _ (by simp[hpk])
    have hkk:k<kinds.length:=by rw[hkl];exact hlt
    have HS:=show Hid _ from aT0 c kinds parts k
    have HG:=show Hid (parts.getD k 0=parts[k])from by simp[Hid,hpk]
    have HKD:=show Hid (kinds.getD k 0=kinds[k])from by simp[Hid,hkk]
    have BW:=B2.trans (hb.mono B2.size)
    clear x0 x1 x2 hp
    cases hr:N3 c kinds[k] parts[k]
    all_goals
     have HR:=show Hid _ from hr
     clear hr
     have HC:Hid (∀X,Calls Tryz.prog 119 #[.agg #[v1,v2,v3],.int .u8 kinds[k].toNat,.int .i64 parts[k]] (wr.ext X) fun e w''=>e=.returned (.bool _)/\∃Y,w''=wr.ext Y):=
      fun X=>Calls.ext_of' ((a06 v1 v2 v3 c kinds[k] parts[k] _ ((h1.below BW).below (i5 _ X)) ((h2.below BW).below (i5 _ X)) ((h3.below BW).below (i5 _ X))).mono fun e w' h=>by rw[HR.out]at h;exact h)
     go_wp2_with fail
     refine y9 aj aj ?_
     repeat(any_goals (first|go_big_quiet_step ((go_at_call 119;exact HC.out _))|quiet_step ((go_at_call 119;exact HC.out _))))
     refine wpQuiet_nil ?_
     rintro _ ⟨X,rfl⟩
     have hbX:=hb.trans ((i5 wr X).mono hb.size)
     go_wp2_with fail
    ·go_ret
     exact⟨j8 (by rw[hR.out,bt8 4 hlt (by rw[HG.out,HKD.out,HR.out])]),B2.trans (hbX.mono B2.size)⟩
    exact⟨⟨k+1,al,by go_num,by rw[HS.out,HA.out,HG.out,HKD.out,HR.out];rfl,hbX⟩,by simp[intOf];omega⟩
   go_wp2_with fail
   go_ret
   obtain rfl:k=4:=al
   exact⟨j8 (by rw[hR.out,HA.out]),B2.trans (hb.mono B2.size)⟩
 have hR:Hid (D9 c x=false):=by
  unfold Hid D9
  rcases Classical.not_and_iff_not_or_not.1 hop with h|h
  ·rw[decide_eq_false h];rfl
  rw[decide_eq_false h];simp
 rw[aS1 hop]
 have p0:=hp 0 (.int .i64 x.a) ao
 clear hop hp h1 h2 h3
 go_wp2_with fail
 go_loopw [14] (fun i wr=>i=.int .i64 0/\w2=wr) (fun i _=>0)
 case atStart=>exact⟨rfl,rfl⟩
 case round=>
  obtain⟨rfl,rfl⟩:=hrel
  go_wp2_with fail
  refine y9 aj aj ?_
  repeat(any_goals (first|go_big_quiet_step ((fail))|quiet_step ((fail))))
  refine wpQuiet_nil ?_
  rintro _ ⟨X,rfl⟩
  have hbX:=B2.trans ((i5 w2 X).mono B2.size)
  go_wp2_with fail
  go_ret
  exact⟨j8 hR.out.symm,hbX⟩
theorem aD8(v:Value)(c:d9)(x:d7)(b:Nat)(v1 v2 v3:Value)(w:World)(hv:v=.agg #[v1,v2,v3])(h:v6 w v c)(hb:D3 w b [v1,v2,v3]):
  Calls Tryz.prog 76 #[x.v,.pointer (some ⟨b,0,none⟩)] w fun e w'=>e=.returned (.bool (!D9 c x))/\Below w.heap.size w w':=by
 subst hv
 obtain⟨W,hW⟩:∃W,W=(w.alloc (.cells #[.int .i64 x.op,.int .i64 x.a,.int .i64 x.b,.int .i64 x.c,.int .i64 x.d] 76)):=⟨_,rfl⟩
 have B0:Below w.heap.size w W:=by rw[hW];go_grown
 have L1:D3 W b [v1,v2,v3]:=hb.below B0 hb.lt
 have L2:D3 W w.heap.size [.int .i64 x.op,.int .i64 x.a,.int .i64 x.b,.int .i64 x.c,.int .i64 x.d]:=by rw[hW];exact D3.new w [.int .i64 x.op,.int .i64 x.a,.int .i64 x.b,.int .i64 x.c,.int .i64 x.d] _
 have x0:=L1.cell 0
 have x1:=L1.cell 1
 have x2:=L1.cell 2
 have y0:=L2.cell 0
 have y1:=L2.cell 1
 have y2:=L2.cell 2
 have y3:=L2.cell 3
 have y4:=L2.cell 4
 simp at x0 x1 x2 y0 y1 y2 y3 y4
 rw[hW]at x0 x1 x2 y0 y1 y2 y3 y4
 go_enter Tryz.func76,Tryz.ntmps76
 go_wp2_with fail
 rw[<-hW]
 refine(a04 _ c x _ (h.below B0)).mono ?_
 rintro e w1 ⟨rfl,b1⟩
 clear x0 x1 x2 y0 y1 y2 y3 y4 hW
 go_wp2_with fail
 go_ret
 exact⟨rfl,B0.trans (b1.mono B0.size)⟩
theorem bk3(xs:List d7)(c:d9):(xs.any fun l=> !D9 c l)= !xs.all (D9 c):=by
 induction xs with
 |nil=>rfl
 |cons x r ih=>simp only[List.any_cons,List.all_cons,ih];cases D9 c x<;>simp
theorem al4(v:Value)(c:d9)(w:World)(h:v6 w v c):
  Calls Tryz.prog 31 #[v] w fun e w'=>e=.returned (.bool (x5 c))/\Below w.heap.size w w':=by
 have hrow:=h
 obtain⟨v1,v2,v3,rfl,h1,h2,h3⟩:=h
 have HT:Hid (x5 c=(G5 c.vars c.arrays&&decide (1<=c.list.length)&&decide (c.list.length<=400)&&c.list.all (D9 c)&&ag3 c)):=rfl
 obtain⟨W,hW⟩:∃W,W=w.alloc (.cells #[v1,v2,v3] 26):=⟨_,rfl⟩
 have B0:Below w.heap.size w W:=by rw[hW];go_grown
 have L1:D3 W w.heap.size [v1,v2,v3]:=by rw[hW];exact(D3.new w [v1,v2,v3] _)
 have hmf:∀fn first cap w,(Instr.makeFunc fn first cap).run Tryz.prog w=.ok (.func fn first cap) w:=fun _ _ _ _=>rfl
 obtain⟨a3,k3,rfl,hk3,hm3,-,hc3⟩:=h3.ins
 have x0:=L1.cell 0
 have x1:=L1.cell 1
 have x2:=L1.cell 2
 simp at x0 x1 x2
 rw[hW]at x0 x1 x2
 go_enter Tryz.func31,Tryz.ntmps31
 go_wp2_with fail
 rw[<-hW]at x0 x1 x2 ⊢
 clear hW
 refine(aQ0 _ _ c.vars c.arrays _ (h1.below B0) (h2.below B0)).mono ?_
 rintro e w1 ⟨rfl,rfl⟩
 cases hh:G5 c.vars c.arrays
 ·have HH:=show Hid _ from hh
  clear hh hc3
  go_wp2_with fail
  go_ret
  exact⟨j8 (by rw[HT.out,HH.out];rfl),B0⟩
 have HH:=show Hid _ from hh
 clear hh
 go_wp2_with fail
 refine(F9 _ 1 400 _).mono ?_
 rintro e w1 ⟨rfl,rfl⟩
 by_cases hn:(1:Int)<=(c.list.length:Int)/\(c.list.length:Int)<=400
 ·have hn':(decide ((1:Int)<=(c.list.length:Int))&&decide ((c.list.length:Int)<=400))=true:=by simpa using hn
  have HN:=show Hid _ from hn
  rw[hn']
  clear hn hn'
  go_wp2_with fail
  refine(aw1 (fun l=> !D9 c l) 76 _ _ c.list _ (h3.below B0) (ao1 Tryz.func76 aj rfl) (fun x w' hb=>aD8 _ c x _ _ _ _ w' rfl ((hrow.below B0).below hb) (L1.below hb L1.lt))).mono ?_
  rintro e w1 ⟨rfl,b1⟩
  rw[bk3]
  have BW:=B0.trans (b1.mono B0.size)
  replace L1:=L1.below b1 L1.lt
  clear x0 x1 x2
  cases ha:c.list.all (D9 c)
  ·have HA:=show Hid _ from ha
   clear ha hc3
   go_wp2_with fail
   go_ret
   exact⟨j8 (by rw[HT.out,HA.out];simp),BW⟩
  have HA:=show Hid _ from ha
  clear ha
  have hl:c.list.length-1<c.list.length:=by have:=HN.out;omega
  obtain⟨b,off,rfl,hb3,i0,i1,i2,i3,i4⟩:=hc3 _ hl
  rw[<-(y8 BW).1 _ _ hb3]at i0
  have x2:=L1.cell 2
  simp only[cn1,cn5]at x2
  have hn1:1<=c.list.length:=al
  have hn2:c.list.length<=400:=by have:=HN.out;omega
  have HL:Hid (ag3 c=(decide (c.list[c.list.length-1].op=13)||decide (c.list[c.list.length-1].op=8))):=by
   unfold Hid ag3
   rw[List.getLast?_eq_getElem?,cn0 hl]
  clear hc3 i1 i2 i3 i4
  have hF:Hid (x5 c=(decide (c.list[c.list.length-1].op=13)||decide (c.list[c.list.length-1].op=8))):=by
   unfold Hid;rw[HT.out,HH.out,HA.out,HL.out,decide_eq_true hn1,decide_eq_true hn2];rfl
  go_wp2_with fail
  all_goals go_ret
  all_goals exact⟨j8 (by rw[hF.out,cq3];simp_all),BW⟩
 have hn':(decide ((1:Int)<=(c.list.length:Int))&&decide ((c.list.length:Int)<=400))=false:=by
  rw[Bool.eq_false_iff];simp only[ne_eq,cm9,decide_eq_true_eq];exact hn
 have hF:Hid (x5 c=false):=by
  unfold Hid;rw[HT.out]
  rcases Classical.not_and_iff_not_or_not.1 hn with h|h
  ·rw[decide_eq_false (show ¬1<=c.list.length by omega)];simp
  rw[decide_eq_false (show ¬c.list.length<=400 by omega)];simp
 rw[hn']
 clear hn hn' hc3
 go_wp2_with fail
 go_ret
 exact⟨j8 hF.out.symm,B0⟩
theorem aD9(v u:Value)(c:d9)(m:List (List Bool))(w:World)(h:v6 w v c)(hm:F6 w u m):
  Calls Tryz.prog 23 #[v,u] w fun e w'=>e=.returned (.bool (as7 c m))/\Below w.heap.size w w':=by
 have hrow:=h
 obtain⟨v1,v2,v3,rfl,h1,h2,h3⟩:=h
 obtain⟨W,hW⟩:∃W,W=w.alloc (.cells #[v1,v2,v3] 26):=⟨_,rfl⟩
 have B0:Below w.heap.size w W:=by rw[hW];go_grown
 have L1:D3 W w.heap.size [v1,v2,v3]:=by rw[hW];exact(D3.new w [v1,v2,v3] _)
 obtain⟨a3,k3,rfl,hk3,hm3,-,hc3⟩:=h3.ins
 obtain⟨am,km,rfl,hmm,hmc⟩:=an2 hm
 have HT:Hid (as7 c m=(x5 c&&decide (m.length=c.list.length)&&decide (0<(rowAt m 0).length)&&m.all D7&& !C4 c m m.length&&I5 c m m.length)):=rfl
 have x0:=L1.cell 0
 have x1:=L1.cell 1
 have x2:=L1.cell 2
 simp only[cn1,cn5]at x0 x1 x2
 rw[hW]at x0 x1 x2
 go_enter Tryz.func23,Tryz.ntmps23
 go_wp2_with fail
 rw[<-hW]
 clear hW x0 x1 x2
 refine(al4 _ c _ (hrow.below B0)).mono ?_
 rintro e w1 ⟨rfl,b1⟩
 replace L1:=L1.below b1 L1.lt
 have B1:=B0.trans (b1.mono B0.size)
 clear b1 B0
 have x2:=L1.cell 2
 simp only[cn1,cn5]at x2
 cases hc:x5 c
 ·have HC:=show Hid _ from hc
  clear hc hc3 hmc
  go_wp2_with fail
  go_ret
  exact⟨j8 (by rw[HT.out,HC.out];rfl),B1⟩
 have HC:=show Hid _ from hc
 have hn1:=(n9 hc).2.1
 have hn4:=(n9 hc).2.2.1
 clear hc
 by_cases hl:m.length=c.list.length
 case neg=>
  have q1:((m.length:Int) !=c.list.length)=true:=by simp;intro e;exact hl (by exact_mod_cast e)
  have HL:=show Hid _ from decide_eq_false hl
  clear hl hc3 hmc
  go_wp2_with fail
  go_ret
  exact⟨j8 (by rw[HT.out,HL.out];simp),B1⟩
 have HL:=show Hid _ from hl
 have q1:((m.length:Int) !=c.list.length)=false:=by simp[hl]
 have hlm:0<m.length:=al
 have hlmi:(0:Int)<m.length:=al
 obtain⟨b0,o0,r0,c0,e0,hb0,y0,hrr0⟩:=hmc 0 hlm
 subst e0
 rw[<-(y8 B1).1 _ _ hb0]at y0
 have hr0e:rowAt m ((0:Nat):Int)=rowAt m 0:=rfl
 rw[hr0e]at y0 hrr0
 have hrl0:=hrr0.len
 have HE0:Hid ((rowAt m 0).length=0->as7 c m=false):=fun e=>by rw[HT.out,e];simp
 have HD0:Hid ((rowAt m 0).length≠0->decide (0<(rowAt m 0).length)=true):=fun e=>decide_eq_true (Nat.pos_of_ne_zero e)
 clear hr0e hrr0
 simp only[Nat.add_zero]at y0
 generalize (rowAt m 0).length=n0 at*
 by_cases h00:n0=0
 ·have q2:((n0:Int)==0)=true:=by simp[h00]
  have H0:=show Hid _ from h00
  clear h00 hc3 hmc
  go_wp2_with fail
  go_ret
  exact⟨j8 (HE0.out H0.out).symm,B1⟩
 have q2:((n0:Int)==0)=false:=by simp;exact h00
 replace HD0:=show Hid _ from HD0.out h00
 clear h00 HE0
 go_wp2_with fail
 have HM:=show Hid _ from hmc
 have HI:=show Hid _ from hc3
 clear hmc hc3 x2 y0 q2 q1
 have hmL:F6 w (.slice (some ⟨b0,o0,none⟩) c.list.length km) m:=by rw[<-HL.out];exact hm
 refine(a03 _ m _ (hmL.below B1)).mono ?_
 rintro e wz ⟨rfl,rfl⟩
 cases hr:m.all D7
 ·have HR:=show Hid _ from hr
  clear hr
  go_wp2_with fail
  go_ret
  exact⟨j8 (by rw[HT.out,HR.out];simp),B1⟩
 have HR:=show Hid _ from hr
 clear hr
 go_wp2_with fail
 go_loopw [5,6,7,9,36] (fun _ _ _ _ i wr=>∃k:Nat,k<=m.length/\i=.int .i64 k/\I5 c m k=true/\Below w1.heap.size w1 wr) (fun _ _ _ _ i _=>m.length-(intOf i).toNat)
 case atStart=>exact⟨0,cp5 _,rfl,rfl,Below.refl _ _⟩
 case round=>
  obtain⟨k,hk,rfl,hcv,hb⟩:=hrel
  have HV:=show Hid _ from hcv
  clear hcv
  replace L1:=L1.below hb L1.lt
  have BW:=B1.trans (hb.mono B1.size)
  by_cases hlt:k<m.length
  ·have hltc:k<c.list.length:=by have:=HL.out;omega
   obtain⟨b,off,rfl,hb3,i0,i1,i2,i3,i4⟩:=HI.out k hltc
   obtain⟨bm,om,a',c',he,hbm,xm,hrm⟩:=HM.out k hlt
   cases he
   have hx:=(n9 HC.out).2.2.2.1 k hltc
   have HCA:Hid (K4 c m k=(decide ((rowAt m k).length=0)||(nx c k).all fun t=>L9 (s8 c (J3 c k) (rowAt m k)) (rowAt m t))):=rfl
   rw[O1 hltc]at HCA
   have HSC:=show Hid _ from aC3 c m k
   have HNC:=show Hid (K4 c m k=false->I5 c m m.length=false)from fun g=>aN4 _ hlt g
   have hlr:=A7 HR.out k
   rw[<-(y8 BW).1 _ _ hb3]at i0 i1 i2 i3 i4
   rw[<-(y8 BW).1 _ _ hbm]at xm
   replace hrm:=hrm.below BW
   have sBW:=BW.size
   generalize rowAt m k=r at*
   generalize c.list[k]=x at*
   have x0:=L1.cell 0
   have x1:=L1.cell 1
   have x2:=L1.cell 2
   simp only[cn1,cn5]at x0 x1 x2
   by_cases h0:r.length=0
   ·have q0:((r.length:Int)==0)=true:=by simp[h0]
    have HN2:=show Hid (I5 c m (k+1)=true)from by unfold Hid;rw[HSC.out,HV.out,HCA.out];simp[h0]
    clear hlr h0
    go_wp2_with fail
    exact⟨⟨k+1,al,by go_num,HN2.out,hb⟩,by simp[intOf];omega⟩
   have h14:r.length=14:=al
   have q0:((r.length:Int)==0)=false:=by rw[h14];rfl
   have hrr:I6 wr (.slice a' r.length c') 14 1 (bools r):=by rw[h14]at hrm ⊢;exact hrm
   have hl14:(r.length:Int)<=14:=al
   have hki:(k:Int)<m.length:=al
   have hkl:(k:Int)<c.list.length:=al
   have HCA':Hid (K4 c m k=((nx c k).all fun t=>L9 (s8 c x r) (rowAt m t))):=by unfold Hid;rw[HCA.out,h14];simp
   have hcells:=aF7 L1 (cq4 hb3 sBW) i0 i1 i2 i3 i4 (cq4 hbm sBW) xm
   have HCELLS:=show Hid _ from hcells
   have HFL:=show Hid ((s8 c x r).length=14)from by unfold Hid;rw[Q2,h14]
   have hb0x:=(Below.refl wr.heap.size wr).drew
   clear hlr h0 h14 HCA hrm hcells
   go_wp2_with fail
   go_region_held3 (fun W'=>Below wr.heap.size wr W'/\(W'.cell? ⟨w.heap.size,0,none⟩=some v1/\W'.cell? ⟨w.heap.size,1,none⟩=some v2/\W'.cell? ⟨w.heap.size,2,none⟩=some (.slice (some ⟨b,off,none⟩) c.list.length k3))/\
     (W'.cell? ⟨b,off+k*5,none⟩=some (.int .i64 x.op)/\W'.cell? ⟨b,off+k*5+1,none⟩=some (.int .i64 x.a)/\W'.cell? ⟨b,off+k*5+2,none⟩=some (.int .i64 x.b)/\W'.cell? ⟨b,off+k*5+3,none⟩=some (.int .i64 x.c)/\W'.cell? ⟨b,off+k*5+4,none⟩=some (.int .i64 x.d))/\
     W'.cell? ⟨b0,o0+k,none⟩=some (.slice a' r.length c'))
    (exact HCELLS.out _ ai)
    (first|(go_at_call 62;refine(ah6 _ _ c x r _ (hrow.below (D0 ai BW (cn4 _))) hx (hrr.below ai)).mono ?_;rintro e w7 ⟨u3,rfl,o3,b7⟩;have q7:=D0 b7 hb0x (cn4 _);obtain⟨a9,c9,rfl⟩:=o3.form))
   clear x0 x1 x2 i0 i1 i2 i3 i4 xm hb0x
   obtain⟨-,⟨x0,x1,x2⟩,-,-⟩:=HCELLS.out w7 q7
   have hb7:=hb.trans (q7.mono hb.size)
   have B7:=B1.trans (hb7.mono B1.size)
   have f7:=o3.row
   clear o3 b7 HCELLS
   go_wp2_with fail
   refine(a05 _ c HC.out k _ (hrow.below B7) al al).mono ?_
   rintro e w8 ⟨u8,ns,rfl,hn2,hnm,hnr,b8⟩
   obtain⟨a10,c10,rfl⟩:=hnr.form
   have hb8:=hb7.trans (b8.mono hb7.size)
   have B8:=B1.trans (hb8.mono B1.size)
   replace f7:=f7.below b8
   replace L1:=L1.below q7 L1.lt
   replace L1:=L1.below b8 L1.lt
   clear b8 x0 x1 x2
   have hnx:∀y∈ns,0<=y/\y<c.list.length:=fun y hy=>aT3 HC.out al ((hnm y).1 hy)
   obtain⟨F,hF⟩:∃F,F=s8 c x r:=⟨_,rfl⟩
   rw[<-hF]at f7 HFL HCA'
   have hfl:=HFL.out
   have f7':I6 w8 (.slice a9 14 c9) F.length 1 (bools F):=by rw[hfl];exact f7
   have hall:((nx c k).all fun t=>L9 F (rowAt m t))=(ns.all fun t=>L9 F (rowAt m t)):=by
    rw[cq3,cn8,cn8]
    exact⟨fun g y hy=>g y ((hnm y).1 hy),fun g y hy=>g y ((hnm y).2 hy)⟩
   unfold Hid at HCA'
   rw[hall]at HCA'
   replace HCA':=show Hid _ from HCA'
   have HNX:=show Hid _ from hnx
   have hnl:=hnr.len
   clear f7 hnx hF HFL hall hnm
   go_wp2_with fail
   go_loop [9,56] (fun _ i=>∃j:Nat,j<=ns.length/\i=.int .i64 j/\((ns.take j).all fun t=>L9 F (rowAt m t))=true) (fun _ i=>ns.length-(intOf i).toNat)
   case atStart=>exact⟨0,cp5 _,rfl,rfl⟩
   case round=>
    obtain⟨j,hj,rfl,hja⟩:=hrel
    have HJ:=show Hid _ from hja
    clear hja
    by_cases hjl:j<ns.length
    ·obtain⟨y0,y1⟩:=HNX.out ns[j] (co6 hjl)
     have HSJ:=show Hid _ from G8 (fun t=>L9 F (rowAt m t)) ns j hjl
     have HNJ:=show Hid (L9 F (rowAt m ns[j])=false->(ns.all fun t=>L9 F (rowAt m t))=false)from fun g=>ac8 hjl g
     obtain⟨an,cn,hv,-,-,-,hcn⟩:=hnr.open1
     cases hv
     obtain⟨bn,on,rfl,hbn,yn⟩:=hcn j hjl
     rw[al2 _ _ hjl]at yn
     clear hcn
     obtain⟨t,ht⟩:∃t:Nat,ns[j]=t:=⟨ns[j].toNat,al⟩
     rw[ht]at yn HSJ HNJ y0 y1
     have htm:t<m.length:=al
     obtain⟨bt,ot,at',ct,he,hbt,xt,hrt⟩:=HM.out t htm
     cases he
     rw[<-(y8 B8).1 _ _ hbt]at xt
     replace hrt:=hrt.below B8
     have hlt':=A7 HR.out t
     have hcv:Hid (L9 F (rowAt m t)=(decide (0<(rowAt m t).length)&&x9 F (rowAt m t) F.length)):=rfl
     clear ht
     generalize rowAt m t=rt at*
     by_cases ht0:rt.length=0
     ·have qt:((rt.length:Int)==0)=true:=by simp[ht0]
      have HZ:=show Hid (I5 c m m.length=false)from HNC.out (by rw[HCA'.out];exact HNJ.out (by rw[hcv.out];simp[ht0]))
      clear ht0 hlt'
      go_wp2_with fail
      go_ret
      exact⟨j8 (by rw[HT.out,HZ.out];simp),B8⟩
     have ht14:rt.length=14:=al
     have qt:((rt.length:Int)==0)=false:=by rw[ht14];rfl
     have hcv':Hid (L9 F rt=x9 F rt F.length):=by unfold Hid;rw[hcv.out,ht14];rfl
     have hle:F.length<=rt.length:=al
     have hle2:(rt.length:Int)<=14:=al
     clear hcv ht0 hlt' ht14
     go_wp2_with fail
     refine(a82 _ _ rt F _ hrt f7' hle).mono ?_
     rintro e w9 ⟨rfl,rfl⟩
     rw[<-hcv'.out]
     cases hq:L9 F rt
     ·have HZ:=show Hid (I5 c m m.length=false)from HNC.out (by rw[HCA'.out];exact HNJ.out hq)
      clear hq
      go_wp2_with fail
      go_ret
      exact⟨j8 (by rw[HT.out,HZ.out];simp),B8⟩
     have HQ:=show Hid _ from hq
     clear hq
     go_wp2_with fail
     go_round
     case rel=>exact⟨j+1,al,by go_num,by rw[HSJ.out,HJ.out,HQ.out];rfl⟩
     case measure=>simp[intOf];omega
    have e:j=ns.length:=al
    subst e
    have HZ:=show Hid (I5 c m (k+1)=true)from by unfold Hid;rw[HSC.out,HV.out,HCA'.out];have:=HJ.out;rw[List.take_length]at this;rw[this];rfl
    go_wp2_with fail
    exact⟨⟨k+1,al,by go_num,HZ.out,hb8⟩,by simp[intOf];omega⟩
  have e:k=m.length:=al
  subst e
  have x0:=L1.cell 0
  have x1:=L1.cell 1
  have x2:=L1.cell 2
  simp only[cn1,cn5]at x0 x1 x2
  go_wp2_with fail
  refine(ah9 _ _ c m _ HC.out (hrow.below BW) (hmL.below BW) HL.out HR.out).mono ?_
  rintro e w8 ⟨rfl,b8⟩
  have HZ:=show Hid (as7 c m=decide ((F5 c m).1=0))from by unfold Hid;rw[HT.out,HC.out,decide_eq_true HL.out,HD0.out,HR.out,HV.out,aC0];simp
  have B8:=BW.trans (b8.mono BW.size)
  clear x0 x1 x2 b8
  go_wp2_with fail
  go_ret
  exact⟨j8 (by rw[HZ.out];cases hq:(F5 c m).1==0<;>simp at hq ⊢ <;>exact hq),B8⟩
theorem ah7(v:Value)(c:d9)(hc:x5 c=true)(w:World)(h:v6 w v c):
  Calls Tryz.prog 33 #[v] w fun e w'=>∃g m,e=.returned (.slice (some ⟨g,0,none⟩) m.length m.length)/\M7 c m/\D6 w' w.heap.size w'.heap.size g m/\Below w.heap.size w w':=by
 have hrow:=h
 obtain⟨v1,v2,v3,rfl,h1,h2,h3⟩:=h
 obtain⟨a3,k3,rfl,-,hm3,-,hc3⟩:=h3.ins
 obtain⟨W,hW⟩:∃W,W=(w.alloc (.cells #[v1,v2,.slice a3 c.list.length k3] 26)):=⟨_,rfl⟩
 have B0:Below w.heap.size w W:=by rw[hW];go_grown
 have sW:W.heap.size=w.heap.size+1:=by rw[hW];simp
 have L1:D3 W w.heap.size [v1,v2,.slice a3 c.list.length k3]:=by rw[hW];exact(D3.new w [v1,v2,.slice a3 c.list.length k3] _)
 obtain⟨-,hn1,hn2,-,-⟩:=n9 hc
 have hmk:=ae4 (P:=Tryz.prog) (t:=57) Tryz.underlying57 bg7 rfl al c.list.length al hm3
 have hmk2:∀w,(Instr.makeSlice 63 (.int .i64 14) (.int .i64 14)).run Tryz.prog w=_:=ae4 (P:=Tryz.prog) (t:=63) Tryz.underlying63 aM0 rfl al 14 al al
 rw[show(Value.slice none 0 0).cells.toList=[Value.slice none 0 0]from rfl,aa8]at hmk
 rw[show(Value.bool false).cells.toList=[Value.bool false]from rfl,aa8]at hmk2
 obtain⟨f0,⟨u0,p0⟩,hS⟩:=aT7 W c.list.length hn1 hm3
 rw[sW]at f0 p0 hS
 have hfr:= @bu5
 have x2:=L1.cell 2
 simp at x2
 generalize cq0 14 (Value.bool false)=z14 at*
 generalize cq0 c.list.length (Value.slice none 0 0)=zn at*
 have HFR:=show Hid _ from @hfr
 clear hfr
 rw[hW]at x2 f0 p0
 go_enter Tryz.func33,Tryz.ntmps33
 go_wp2_with fail
 rw[<-hW]
 rw[World.setCell_alloc_past _ _ _ _ (by simp[sW]),World.setCell_alloc_at _ _ _ _ _ sW.symm]at hS
 clear x2 hmk f0 p0 hW
 obtain⟨W2,hW2⟩:∃W2,W2=(W.alloc (.cells (zn.setIfInBounds 0 (.slice (some ⟨w.heap.size+1+1,0,none⟩) 14 14)) 63)).alloc (.cells z14 4):=⟨_,rfl⟩
 rw[<-hW2]at hS ⊢
 have B2:Below w.heap.size w W2:=by rw[hW2];exact B0.trans (Below.mono (by go_grown:Below W.heap.size W _) B0.size)
 have s2:W2.heap.size=w.heap.size+1+1+1:=by rw[hW2];simp[sW]
 replace L1:D3 W2 w.heap.size [v1,v2,.slice a3 c.list.length k3]:=by rw[hW2];exact(L1.alloc _).alloc _
 clear hW2 B0 sW
 have HI:=show Hid _ from hc3
 clear hc3
 obtain⟨G,hG⟩:∃G,G=w.heap.size+1:=⟨_,rfl⟩
 rw[<-hG]at hS s2 ⊢
 have HG:=show Hid _ from hG
 clear hG
 have hst:=Low.start hn1
 go_loopw [4,5,6,7,9,10,11] (fun ch _ _ _ _ _ _ wr=>∃(m:List (List Bool)) (f:Bool),ch=.bool f/\D6 wr G wr.heap.size G m/\Low c m/\(f=false->M7 c m)/\D3 wr w.heap.size [v1,v2,.slice a3 c.list.length k3]/\Below w.heap.size w wr)
  (fun ch _ _ _ _ _ _ wr=>2*aB8 wr (.slice (some ⟨G,0,none⟩) c.list.length c.list.length)+(match ch with|.bool true=>1|_=>0))
 case atStart=>exact⟨_,true,rfl,hS.wide (cn4 _) al,hst,(fun h=>by cases h),L1,B2⟩
 case round=>
  obtain⟨m,f,rfl,hS,hlow,hf,hL,hb⟩:=hrel
  clear hst B2 L1
  have hml:m.length=c.list.length:=hlow.len
  cases f
  ·have HL:=show Hid _ from hf rfl
   clear hf
   go_wp2_with fail
   go_ret
   exact⟨G,m,by rw[hml];rfl,HL.out,hS.wide (by have:=HG.out;omega) (cn4 _),hb⟩
  clear hf
  have hpot:Hid (aB8 wr (.slice (some ⟨G,0,none⟩) c.list.length c.list.length)=pot m):=by have:=hS.pot;rw[hml]at this;exact this
  obtain⟨P0,hP0⟩:∃n,n=pot m:=⟨_,rfl⟩
  have hps:=aE3.start hlow
  rw[<-hP0]at hps hpot
  clear hP0 hlow
  go_wp2_with fail
  go_loopw [4,5,6,7,9,10,11,22] (fun ch _ _ _ _ _ _ i wr=>∃(m:List (List Bool)) (f:Bool) (k:Nat),ch=.bool f/\i=.int .i64 k/\k<=c.list.length/\D6 wr G wr.heap.size G m/\aE3 c m P0 f k/\D3 wr w.heap.size [v1,v2,.slice a3 c.list.length k3]/\Below w.heap.size w wr)
   (fun _ _ _ _ _ _ _ i _=>c.list.length-(intOf i).toNat)
  case atStart=>exact⟨m,false,0,rfl,rfl,cp5 _,hS,hps,hL,hb⟩
  case round=>
   obtain⟨m,f,k,rfl,rfl,hk,hS,hi,hL,hb⟩:=hrel
   have hml:m.length=c.list.length:=hi.low.len
   have HI':=show Hid _ from hi
   clear hi hps
   by_cases hlt:k<c.list.length
   ·have hkm:k<m.length:=al
    have hro:=A7 HI'.out.low.ok k
    by_cases h0:(rowAt m k).length=0
    ·have xm:=hS.2 k hkm h0
     have hnil:=fun w=>Lib.run_eql_slice_nil (P:=Tryz.prog) w 63 4 none 0 0 0 0 Tryz.underlying63
     simp only[Option.isNone_none]at hnil
     have HN:=show Hid _ from HI'.out.skip h0
     clear h0 hro
     go_wp2_with fail
     exact⟨⟨m,f,k+1,rfl,by go_num,al,hS,HN.out,hL,hb⟩,by simp[intOf];omega⟩
    have h14:(rowAt m k).length=14:=al
    obtain⟨gy,cy,xm,-,-,hgy,-,-,-,-,-,hrr⟩:=hS.at14 hkm h14
    have hnil:=fun w=>Lib.run_eql_slice_nil (P:=Tryz.prog) w 63 4 (some ⟨gy,0,none⟩) 14 cy 0 0 Tryz.underlying63
    simp only[Option.isNone_some]at hnil
    obtain⟨b,off,rfl,hb3,i0,i1,i2,i3,i4⟩:=HI.out k hlt
    have hins:=(n9 hc).2.2.2.1 k hlt
    rw[<-(y8 hb).1 _ _ hb3]at i0 i1 i2 i3 i4
    have hcx:=aF7 hL (cq4 hb3 hb.size) i0 i1 i2 i3 i4 hS.lt.2.2 xm
    have HCELLS:=show Hid _ from hcx
    have HENT:=show Hid (∀ns:List Int,(∀y,y∈ns↔y∈nx c k)->KInv c m P0 f k (s8 c c.list[k] (rowAt m k)) ns 0)from by
     intro ns hns
     have:=HI'.out.enter hkm h14 hns
     rw[O1 hlt]at this
     exact this
    have HFL:=show Hid ((s8 c c.list[k] (rowAt m k)).length=14)from by unfold Hid;rw[Q2,h14]
    have hb0:=(Below.refl wr.heap.size wr).drew
    obtain⟨z,hz⟩:∃z,z=c.list[k]:=⟨_,rfl⟩
    rw[<-hz]at i0 i1 i2 i3 i4 HCELLS HENT HFL hins
    clear hcx h14 h0 hro hz
    have hki:(k:Int)<c.list.length:=al
    go_wp2_with fail
    go_region_held3 (fun W'=>Below wr.heap.size wr W'/\(W'.cell? ⟨w.heap.size,0,none⟩=some v1/\W'.cell? ⟨w.heap.size,1,none⟩=some v2/\W'.cell? ⟨w.heap.size,2,none⟩=some (.slice (some ⟨b,off,none⟩) c.list.length k3))/\
      (W'.cell? ⟨b,off+k*5,none⟩=some (.int .i64 z.op)/\W'.cell? ⟨b,off+k*5+1,none⟩=some (.int .i64 z.a)/\W'.cell? ⟨b,off+k*5+2,none⟩=some (.int .i64 z.b)/\W'.cell? ⟨b,off+k*5+3,none⟩=some (.int .i64 z.c)/\W'.cell? ⟨b,off+k*5+4,none⟩=some (.int .i64 z.d))/\
      W'.cell? ⟨G,k,none⟩=some (.slice (some ⟨gy,0,none⟩) 14 cy))
     (exact HCELLS.out _ ai)
     (first|(go_at_call 62;refine(ah6 _ _ c z (rowAt m k) _ (hrow.below (D0 ai hb (cn4 _))) hins (hrr.below ai)).mono ?_;rintro e w7 ⟨u3,rfl,o3,b7⟩;have q7:=D0 b7 hb0 (cn4 _);obtain⟨a9,c9,rfl⟩:=o3.form))
    obtain⟨F,hF⟩:∃F,F=s8 c z (rowAt m k):=⟨_,rfl⟩
    rw[<-hF]at HENT HFL o3
    have hb7:=hb.trans (q7.mono hb.size)
    obtain⟨hS7,hS7b⟩:=hS.next q7
    have hL7:=hL.below q7 hL.lt
    have o7:C5 w7 wr.heap.size w7.heap.size 4 1 (.slice a9 14 c9) 14 (bools F):=o3
    have hA7:H3 w7 G m (.slice a9 14 c9):=fun b e hm=>by have h1:=(o7.lt b e).1;have h2:=(hS.blk (hS7b b hm)).2.2;omega
    have q7s:=q7.size
    have y0:=hL7.cell 0
    have y1:=hL7.cell 1
    have y2:=hL7.cell 2
    simp only[cn1,cn5]at y0 y1 y2
    clear o3 b7 i0 i1 i2 i3 i4 xm hrr hF hL hnil
    go_wp2_with fail
    refine(az0 _ c hc k _ (hrow.below hb7) al al).mono ?_
    rintro e w8 ⟨u8,ns,rfl,hnl,hnm,o8,b8⟩
    obtain⟨a10,c10,rfl⟩:=o8.form
    have hb8:=hb7.trans (b8.mono hb7.size)
    obtain⟨hS8,hS8b⟩:=hS7.next b8
    have hL8:=hL7.below b8 hL7.lt
    have t8:C5 w8 w.heap.size w8.heap.size 4 1 (.slice a9 14 c9) 14 (bools F):=(o7.keep b8 (cn4 _)).wide hb.size b8.size
    have hA8:=hA7.next hS7 b8
    have n8:C5 w8 w.heap.size w8.heap.size 3 1 (.slice a10 ns.length c10) ns.length (ints ns):=o8.wide hb7.size (cn4 _)
    have hN8:H3 w8 G m (.slice a10 ns.length c10):=fun b e hm=>by have h1:=(o8.lt b e).1;have h2:=(hS7.blk (hS8b b hm)).2.2;omega
    have hsz8:wr.heap.size<=w8.heap.size:=cp4 q7s b8.size
    have hnx:∀y∈ns,0<=y/\y<c.list.length:=fun y hy=>aT3 hc al ((hnm y).1 hy)
    have HNX:=show Hid _ from hnx
    have HNM:=show Hid _ from hnm
    have HKI:=show Hid _ from HENT.out ns hnm
    clear hnx hnm o7 o8 b8 q7 HCELLS hS hS7 hS7b hS8b hL7 hb7 y0 y1 y2 hb0 hb hA7 HENT HI'
    go_wp2_with fail
    go_loopw [4,9,10,11,41] (fun ch _ _ _ i wr=>∃(m:List (List Bool)) (f:Bool) (j:Nat),ch=.bool f/\i=.int .i64 j/\j<=ns.length/\D6 wr G wr.heap.size G m/\KInv c m P0 f k F ns j/\
      C5 wr w.heap.size w8.heap.size 4 1 (.slice a9 14 c9) 14 (bools F)/\H3 wr G m (.slice a9 14 c9)/\C5 wr w.heap.size w8.heap.size 3 1 (.slice a10 ns.length c10) ns.length (ints ns)/\H3 wr G m (.slice a10 ns.length c10)/\
      D3 wr w.heap.size [v1,v2,.slice (some ⟨b,off,none⟩) c.list.length k3]/\Below w.heap.size w wr/\w8.heap.size<=wr.heap.size)
     (fun _ _ _ _ i _=>ns.length-(intOf i).toNat)
    case atStart=>exact⟨m,f,0,rfl,rfl,cp5 _,hS8.wide (cn4 _) hsz8,HKI.out,t8,hA8,n8,hN8,hL8,hb8,cn4 _⟩
    case round=>
     obtain⟨m,f,j,rfl,rfl,hj,hS,hi,ht,hA,hn,hN,hL,hb,hs8⟩:=hrel
     have hml:m.length=c.list.length:=hi.low.len
     have HKI2:=show Hid _ from hi
     have HA:=show Hid _ from hA
     have HN:=show Hid _ from hN
     clear hi hA hN hS8 t8 hA8 n8 hN8 hL8 hb8 HKI
     by_cases hjl:j<ns.length
     ·obtain⟨y0,y1⟩:=HNX.out ns[j] (co6 hjl)
      obtain⟨y,hy⟩:∃y:Nat,ns[j]=y:=⟨ns[j].toNat,al⟩
      obtain⟨gu,hgu,pu⟩:∃gu,a10=some ⟨gu,0,none⟩/\wr.cell? ⟨gu,j,none⟩=some (.int .i64 ns[j]):=by
       obtain⟨g,cap',hv,-,-,-,-,-,-,hcc⟩:=hn.open al
       cases hv
       exact⟨g,rfl,hcc j _ (by simp[ints,hjl])⟩
      subst hgu
      rw[hy]at pu y0 y1
      have HY:=show Hid _ from hy
      have hyl:y<c.list.length:=al
      have hyli:(y:Int)<c.list.length:=al
      have hym:y<m.length:=al
      have hro:=A7 HKI2.out.low.ok y
      clear hy
      have hstep:∀(W9:World) (m9:List (List Bool)) (f9:Bool),D6 W9 G W9.heap.size G m9->aw6 c m9 P0 f9 k F ns j y 0->C5 W9 w.heap.size w8.heap.size 4 1 (.slice a9 14 c9) 14 (bools F)->H3 W9 G m9 (.slice a9 14 c9)->
        C5 W9 w.heap.size w8.heap.size 3 1 (.slice (some ⟨gu,0,none⟩) ns.length c10) ns.length (ints ns)->H3 W9 G m9 (.slice (some ⟨gu,0,none⟩) ns.length c10)->D3 W9 w.heap.size [v1,v2,.slice (some ⟨b,off,none⟩) c.list.length k3]->Below w.heap.size w W9->w8.heap.size<=W9.heap.size->
        ∃(q:Nat),q=0/\q<=14/\D6 W9 G W9.heap.size G m9/\aw6 c m9 P0 f9 k F ns j y q/\C5 W9 w.heap.size w8.heap.size 4 1 (.slice a9 14 c9) 14 (bools F)/\H3 W9 G m9 (.slice a9 14 c9)/\
        C5 W9 w.heap.size w8.heap.size 3 1 (.slice (some ⟨gu,0,none⟩) ns.length c10) ns.length (ints ns)/\H3 W9 G m9 (.slice (some ⟨gu,0,none⟩) ns.length c10)/\D3 W9 w.heap.size [v1,v2,.slice (some ⟨b,off,none⟩) c.list.length k3]/\Below w.heap.size w W9/\w8.heap.size<=W9.heap.size:=
       fun W9 m9 f9 e1 e2 e3 e4 e5 e6 e7 e8 e9=>⟨0,rfl,cp5 _,e1,e2,e3,e4,e5,e6,e7,e8,e9⟩
      by_cases h0:(rowAt m y).length=0
      case pos=>
       have xm:=hS.2 y hym h0
       have hnil:=fun w=>Lib.run_eql_slice_nil (P:=Tryz.prog) w 63 4 none 0 0 0 0 Tryz.underlying63
       simp only[Option.isNone_none]at hnil
       obtain⟨g1,⟨u9,g2⟩,g3,g4⟩:=HFR.out hS hym
       have hlt:=hS.lt
       have e5:=g4 _ HA.out fun b e=>(ht.lt b e).2.2
       have e6:=g4 _ HN.out fun b e=>(hn.lt b e).2.2
       have e3:C5 ((wr.setCell ⟨G,y,none⟩ (.slice (some ⟨wr.heap.size,0,none⟩) 14 14)).alloc (.cells z14 4)) w.heap.size w8.heap.size 4 1 (.slice a9 14 c9) 14 (bools F):=(aa2 ht HA.out (.inl rfl)).keep (by go_grown:Below wr.heap.size _ _) hs8
       have e4:C5 ((wr.setCell ⟨G,y,none⟩ (.slice (some ⟨wr.heap.size,0,none⟩) 14 14)).alloc (.cells z14 4)) w.heap.size w8.heap.size 3 1 (.slice (some ⟨gu,0,none⟩) ns.length c10) ns.length (ints ns):=(aa2 hn HN.out (.inl rfl)).keep (by go_grown:Below wr.heap.size _ _) hs8
       have e7:D3 ((wr.setCell ⟨G,y,none⟩ (.slice (some ⟨wr.heap.size,0,none⟩) 14 14)).alloc (.cells z14 4)) w.heap.size [v1,v2,.slice (some ⟨b,off,none⟩) c.list.length k3]:=(hL.other (p:=⟨G,y,none⟩) (by show w.heap.size≠G;have:=HG.out;omega) _).alloc _
       have e8:Below w.heap.size w ((wr.setCell ⟨G,y,none⟩ (.slice (some ⟨wr.heap.size,0,none⟩) 14 14)).alloc (.cells z14 4)):=(hb.setCell (p:=⟨G,y,none⟩) (by show w.heap.size<=G;have:=HG.out;omega) _).alloc (by have:=hb.size;simpa using this) _
       have e9:((wr.setCell ⟨G,y,none⟩ (.slice (some ⟨wr.heap.size,0,none⟩) 14 14)).alloc (.cells z14 4)).heap.size=wr.heap.size+1:=ao
       have HFRESH:=show Hid _ from HKI2.out.fresh hjl HY.out hym h0
       clear hro h0
       go_wp2_with fail
       obtain⟨W9,hW9⟩:∃W9,W9=((wr.setCell ⟨G,y,none⟩ (.slice (some ⟨wr.heap.size,0,none⟩) 14 14)).alloc (.cells z14 4)):=⟨_,rfl⟩
       rw[<-hW9]at g3 e3 e4 e5 e6 e7 e8 e9 ⊢
       have hgo:=hstep W9 _ true (g3.wide (cn4 _) al) HFRESH.out e3 e5 e4 e6 e7 e8 al
       clear hW9 g3 e3 e4 e5 e6 e7 e8 g1 g2 g4 xm hnil hS ht hn hL hb HKI2 HA HN hstep HFRESH
       obtain⟨q0,hq0,hq1,hS,hi,ht,hA,hn,hN,hL,hb,hs9⟩:=hgo
       generalize m.set y (cm8 14 false)=m at*
       go_loopw [4,10,11,56] (fun ch _ _ i wr=>∃(m:List (List Bool)) (f:Bool) (q:Nat),ch=.bool f/\i=.int .i64 q/\q<=14/\D6 wr G wr.heap.size G m/\aw6 c m P0 f k F ns j y q/\C5 wr w.heap.size w8.heap.size 4 1 (.slice a9 14 c9) 14 (bools F)/\H3 wr G m (.slice a9 14 c9)/\
         C5 wr w.heap.size w8.heap.size 3 1 (.slice (some ⟨gu,0,none⟩) ns.length c10) ns.length (ints ns)/\H3 wr G m (.slice (some ⟨gu,0,none⟩) ns.length c10)/\D3 wr w.heap.size [v1,v2,.slice (some ⟨b,off,none⟩) c.list.length k3]/\Below w.heap.size w wr/\w8.heap.size<=wr.heap.size)
        (fun _ _ _ i _=>14-(intOf i).toNat)
       case atStart=>exact⟨m,_,0,rfl,rfl,cp5 _,hS,by rw[hq0]at hi;exact hi,ht,hA,hn,hN,hL,hb,hs9⟩
       case round=>
        clear hS hi ht hA hn hN hL hb hs9 hq0 hq1
        obtain⟨m,f,q,rfl,rfl,hq,hS,hi,ht,hA,hn,hN,hL,hb,hs8⟩:=hrel
        have hml:m.length=c.list.length:=hi.low.len
        have hym:y<m.length:=al
        have HBI:=show Hid _ from hi
        have HA:=show Hid _ from hA
        have HN:=show Hid _ from hN
        clear hi hA hN
        by_cases hql:q<14
        ·obtain⟨gt,ct,hv,-,-,-,-,-,-,gc⟩:=ht.open al
         cases hv
         have hft:F.length=14:=HBI.out.tl
         have xt:=gc q _ (t0 _ q al)
         have hfe:F[q]'al=F.getD q false:=by simp[show q<F.length by omega]
         rw[hfe]at xt
         obtain⟨gy,cy,xm,gy1,-,gy3,gy4,-,-,gyf,gyx,-⟩:=hS.at14 hym HBI.out.row
         have xb:=gyx q hql
         have xf:=gyf q
         have hqi:(q:Int)<14:=al
         have hb14:=show Hid (aa0 wr G m gy)from .inr ⟨y,_,hym,xm,rfl⟩
         have HPUT:=show Hid _ from fun h1 h0=>HBI.out.put hjl HY.out hym hql h1 h0
         have HKEEP:=show Hid _ from HBI.out.keep (q:=q)
         clear gc hfe gyf gyx hft
         cases htq:F.getD q false
         ·have HK:=show Hid _ from HKEEP.out (by rw[htq];intro h;cases h)
          rw[htq]at xt
          clear htq
          go_wp2_with fail
          exact⟨⟨m,f,q+1,rfl,by go_num,al,hS,HK.out,ht,HA.out,hn,HN.out,hL,hb,hs8⟩,by simp[intOf];omega⟩
         cases hrq:(rowAt m y).getD q false
         ·have HP:=show Hid _ from HPUT.out htq hrq
          rw[htq]at xt
          rw[hrq]at xb
          clear htq hrq
          go_wp2_with fail
          exact⟨⟨_,true,q+1,rfl,by go_num,al,(hS.setBit hym xm HBI.out.row hql true).wide (cn4 _) ao,HP.out,aa2 ht HA.out hb14.out,H3.setBit HA.out gy4,aa2 hn HN.out hb14.out,H3.setBit HN.out gy4,
           hL.other (p:=⟨gy,q,none⟩) (by show w.heap.size≠gy;have:=HG.out;omega) _,hb.setCell (p:=⟨gy,q,none⟩) (by show w.heap.size<=gy;have:=HG.out;omega) _,by simpa using hs8⟩,by simp[intOf];omega⟩
         have HK:=show Hid _ from HKEEP.out (fun _=>hrq)
         rw[htq]at xt
         rw[hrq]at xb
         clear htq hrq
         go_wp2_with fail
         exact⟨⟨m,f,q+1,rfl,by go_num,al,hS,HK.out,ht,HA.out,hn,HN.out,hL,hb,hs8⟩,by simp[intOf];omega⟩
        have hqn:q=14:=al
        subst hqn
        have HD:=show Hid _ from HBI.out.done hjl HY.out (cn4 _)
        go_wp2_with fail
        exact⟨⟨m,f,j+1,rfl,by go_num,al,hS,HD.out,ht,HA.out,hn,HN.out,hL,hb,hs8⟩,by simp[intOf];omega⟩
      case neg=>
       have h14:(rowAt m y).length=14:=al
       obtain⟨gy,cy,xm,-⟩:=hS.at14 hym h14
       have hnil:=fun w=>Lib.run_eql_slice_nil (P:=Tryz.prog) w 63 4 (some ⟨gy,0,none⟩) 14 cy 0 0 Tryz.underlying63
       simp only[Option.isNone_some]at hnil
       have hgo:=hstep wr m f hS (HKI2.out.bits h14) ht HA.out hn HN.out hL hb hs8
       clear hro h0 h14 hS ht hn hL hb HKI2 HA HN hstep
       go_wp2_with fail
       clear xm hnil
       obtain⟨q0,hq0,hq1,hS,hi,ht,hA,hn,hN,hL,hb,hs9⟩:=hgo
       go_loopw [4,10,11,56] (fun ch _ _ i wr=>∃(m:List (List Bool)) (f:Bool) (q:Nat),ch=.bool f/\i=.int .i64 q/\q<=14/\D6 wr G wr.heap.size G m/\aw6 c m P0 f k F ns j y q/\C5 wr w.heap.size w8.heap.size 4 1 (.slice a9 14 c9) 14 (bools F)/\H3 wr G m (.slice a9 14 c9)/\
         C5 wr w.heap.size w8.heap.size 3 1 (.slice (some ⟨gu,0,none⟩) ns.length c10) ns.length (ints ns)/\H3 wr G m (.slice (some ⟨gu,0,none⟩) ns.length c10)/\D3 wr w.heap.size [v1,v2,.slice (some ⟨b,off,none⟩) c.list.length k3]/\Below w.heap.size w wr/\w8.heap.size<=wr.heap.size)
        (fun _ _ _ i _=>14-(intOf i).toNat)
       case atStart=>exact⟨m,_,0,rfl,rfl,cp5 _,hS,by rw[hq0]at hi;exact hi,ht,hA,hn,hN,hL,hb,hs9⟩
       case round=>
        clear hS hi ht hA hn hN hL hb hs9 hq0 hq1
        obtain⟨m,f,q,rfl,rfl,hq,hS,hi,ht,hA,hn,hN,hL,hb,hs8⟩:=hrel
        have hml:m.length=c.list.length:=hi.low.len
        have hym:y<m.length:=al
        have HBI:=show Hid _ from hi
        have HA:=show Hid _ from hA
        have HN:=show Hid _ from hN
        clear hi hA hN
        by_cases hql:q<14
        ·obtain⟨gt,ct,hv,-,-,-,-,-,-,gc⟩:=ht.open al
         cases hv
         have hft:F.length=14:=HBI.out.tl
         have xt:=gc q _ (t0 _ q al)
         have hfe:F[q]'al=F.getD q false:=by simp[show q<F.length by omega]
         rw[hfe]at xt
         obtain⟨gy,cy,xm,gy1,-,gy3,gy4,-,-,gyf,gyx,-⟩:=hS.at14 hym HBI.out.row
         have xb:=gyx q hql
         have xf:=gyf q
         have hqi:(q:Int)<14:=al
         have hb14:=show Hid (aa0 wr G m gy)from .inr ⟨y,_,hym,xm,rfl⟩
         have HPUT:=show Hid _ from fun h1 h0=>HBI.out.put hjl HY.out hym hql h1 h0
         have HKEEP:=show Hid _ from HBI.out.keep (q:=q)
         clear gc hfe gyf gyx hft
         cases htq:F.getD q false
         ·have HK:=show Hid _ from HKEEP.out (by rw[htq];intro h;cases h)
          rw[htq]at xt
          clear htq
          go_wp2_with fail
          exact⟨⟨m,f,q+1,rfl,by go_num,al,hS,HK.out,ht,HA.out,hn,HN.out,hL,hb,hs8⟩,by simp[intOf];omega⟩
         cases hrq:(rowAt m y).getD q false
         ·have HP:=show Hid _ from HPUT.out htq hrq
          rw[htq]at xt
          rw[hrq]at xb
          clear htq hrq
          go_wp2_with fail
          exact⟨⟨_,true,q+1,rfl,by go_num,al,(hS.setBit hym xm HBI.out.row hql true).wide (cn4 _) ao,HP.out,aa2 ht HA.out hb14.out,H3.setBit HA.out gy4,aa2 hn HN.out hb14.out,H3.setBit HN.out gy4,
           hL.other (p:=⟨gy,q,none⟩) (by show w.heap.size≠gy;have:=HG.out;omega) _,hb.setCell (p:=⟨gy,q,none⟩) (by show w.heap.size<=gy;have:=HG.out;omega) _,by simpa using hs8⟩,by simp[intOf];omega⟩
         have HK:=show Hid _ from HKEEP.out (fun _=>hrq)
         rw[htq]at xt
         rw[hrq]at xb
         clear htq hrq
         go_wp2_with fail
         exact⟨⟨m,f,q+1,rfl,by go_num,al,hS,HK.out,ht,HA.out,hn,HN.out,hL,hb,hs8⟩,by simp[intOf];omega⟩
        have hqn:q=14:=al
        subst hqn
        have HD:=show Hid _ from HBI.out.done hjl HY.out (cn4 _)
        go_wp2_with fail
        exact⟨⟨m,f,j+1,rfl,by go_num,al,hS,HD.out,ht,HA.out,hn,HN.out,hL,hb,hs8⟩,by simp[intOf];omega⟩
     have hjn:j=ns.length:=al
     have HP:=show Hid _ from HKI2.out.done al HNM.out
     subst hjn
     go_wp2_with fail
     exact⟨⟨m,f,k+1,rfl,by go_num,al,hS,HP.out,hL,hb⟩,by simp[intOf];omega⟩
   have hkn:k=c.list.length:=al
   subst hkn
   have hpn:Hid (aB8 wr (.slice (some ⟨G,0,none⟩) c.list.length c.list.length)=pot m):=by have:=hS.pot;rw[hml]at this;exact this
   have hle:=HI'.out.le
   have hlt':=HI'.out.lt
   have hdn:f=false->M7 c m:=fun e=>by have:=HI'.out;rw[e]at this;exact this.done al
   have HD:=show Hid _ from hdn
   have HLT:=show Hid _ from hlt'
   clear hdn hlt'
   go_wp2_with fail
   refine⟨⟨m,f,rfl,hS,HI'.out.low,HD.out,hL,hb⟩,?_⟩
   show 2*aB8 _ _+_<2*aB8 _ _+_
   rw[hpn.out,hpot.out]
   cases f
   ·have:=HI'.out.le
    show 2*pot m+0<2*P0+1
    omega
   have:=HLT.out rfl
   show 2*pot m+1<2*P0+1
   omega
noncomputable def Y1(c:d9):List (List Bool):=open Classical in if h:∃m,M7 c m then h.choose else []
theorem ae5{c:d9}{m:List (List Bool)}(h:M7 c m):m=Y1 c:=by
 have hx:∃m,M7 c m:=⟨m,h⟩
 unfold Y1
 rw[dif_pos hx]
 exact aZ9 h hx.choose_spec
noncomputable def S4(c:d9):Int×Int:=if x5 c=true then F5 c (Y1 c)else(5,-1)
theorem aI9(v:Value)(c:d9)(w:World)(h:v6 w v c):
  Calls Tryz.prog 9 #[v] w fun e w'=>e=.returned (.tuple #[.int .i64 (S4 c).1,.int .i64 (S4 c).2])/\Below w.heap.size w w':=by
 have hrow:=h
 obtain⟨v1,v2,v3,rfl,h1,h2,h3⟩:=h
 obtain⟨W,hW⟩:∃W,W=w.alloc (.cells #[v1,v2,v3] 26):=⟨_,rfl⟩
 have B0:Below w.heap.size w W:=by rw[hW];go_grown
 have L1:D3 W w.heap.size [v1,v2,v3]:=by rw[hW];exact(D3.new w [v1,v2,v3] _)
 obtain⟨a3,k3,rfl,hk3,hm3,-,hc3⟩:=h3.ins
 have HT:Hid (S4 c=if x5 c=true then F5 c (Y1 c)else(5,-1)):=rfl
 have x0:=L1.cell 0
 have x1:=L1.cell 1
 have x2:=L1.cell 2
 simp only[cn1,cn5]at x0 x1 x2
 rw[hW]at x0 x1 x2
 go_enter Tryz.func9,Tryz.ntmps9
 go_wp2_with fail
 rw[<-hW]
 clear hW x0 x1 x2
 refine(ak0 _ c _ (hrow.below B0)).mono ?_
 rintro e w1 ⟨rfl,b1⟩
 replace L1:=L1.below b1 L1.lt
 have B1:=B0.trans (b1.mono B0.size)
 clear b1 B0
 have x0:=L1.cell 0
 have x1:=L1.cell 1
 have x2:=L1.cell 2
 simp only[cn1,cn5]at x0 x1 x2
 cases hc:x5 c
 ·have HC:=show Hid (S4 c=(5,-1))from by unfold Hid;rw[HT.out,hc];simp
  clear hc hc3 HT
  go_wp2_with fail
  go_ret2
  exact⟨by rw[HC.out];rfl,B1⟩
 have HC:=show Hid _ from hc
 have HT':=show Hid (S4 c=F5 c (Y1 c))from by unfold Hid;rw[HT.out,hc];simp
 have hn4:=(n9 hc).2.2.1
 clear hc HT
 go_wp2_with fail
 refine(au1 _ c HC.out _ (hrow.below B1)).mono ?_
 rintro e w2 ⟨G,m,rfl,hlm,hS,b2⟩
 have hme:=ae5 hlm
 rw[<-hme]at HT'
 have hl:m.length=c.list.length:=hlm.1.1
 have hr:=hlm.1.2.1
 obtain⟨am,km,hv,hmm,hmc⟩:=an2 hS.1.row
 cases hv
 have B2:=B1.trans (b2.mono B1.size)
 replace L1:=L1.below b2 L1.lt
 clear b2 x0 x1 x2 hme hlm
 rw[hl]
 have HL:=show Hid _ from hl
 go_wp2_with fail
 go_loopw [5,6] (fun i _ wr=>∃k:Nat,k<=c.list.length/\i=.int .i64 k/\C4 c m k=false/\Below w2.heap.size w2 wr) (fun i _ _=>c.list.length-(intOf i).toNat)
 case atStart=>exact⟨0,cp5 _,rfl,rfl,Below.refl _ _⟩
 case round=>
  obtain⟨k,hk,rfl,ha,hb⟩:=hrel
  have HA:=show Hid _ from ha
  clear ha
  replace L1:=L1.below hb L1.lt
  have BW:=B2.trans (hb.mono B2.size)
  have x0:=L1.cell 0
  have x1:=L1.cell 1
  have x2:=L1.cell 2
  simp only[cn1,cn5]at x0 x1 x2
  by_cases hltc:k<c.list.length
  ·have hlt:k<m.length:=al
   obtain⟨b,off,rfl,hb3,i0,i1,i2,i3,i4⟩:=hc3 k hltc
   obtain⟨bm,om,a',c',hv,hbm,xm,hrm⟩:=hmc k hlt
   cases hv
   have hx:=(n9 HC.out).2.2.2.1 k hltc
   have HB:Hid (badAt c m k=(decide (0<(rowAt m k).length)&&decide (G4 c (J3 c k) (rowAt m k)≠0))):=rfl
   rw[O1 hltc]at HB
   have HF:=show Hid (C4 c m k=false->badAt c m k=true->F5 c m=(G4 c (J3 c k) (rowAt m k),(k:Int)))from fun g1 g2=>aC1 hlt g1 g2
   rw[O1 hltc]at HF
   have HS:=show Hid _ from am3 c m k
   have hlr:=A7 hr k
   rw[<-(y8 BW).1 _ _ hb3]at i0 i1 i2 i3 i4
   rw[<-(y8 hb).1 _ _ hbm]at xm
   simp only[cr4]at xm
   replace hrm:=hrm.below hb
   generalize rowAt m k=r at*
   generalize c.list[k]=x at*
   clear hc3 hmc hr
   by_cases h0:r.length=0
   ·have q0:decide ((0:Int)<(r.length:Int))=false:=by simp[h0]
    have q0':¬((0:Int)<(r.length:Int)):=al
    have HN:=show Hid (C4 c m (k+1)=false)from by unfold Hid;rw[HS.out,HA.out,HB.out];simp[h0]
    clear HF HB hlr h0
    go_wp2_with fail
    exact⟨⟨k+1,al,by go_num,HN.out,hb⟩,by simp[intOf];omega⟩
   have h14:r.length=14:=al
   have q0':(0:Int)<(r.length:Int):=al
   have hrr:I6 wr (.slice a' r.length c') 14 1 (bools r):=by rw[h14]at hrm ⊢;exact hrm
   have z0:=fun X=>c7 x0 X
   have z1:=fun X=>c7 x1 X
   have z2:=fun X=>c7 x2 X
   have j0:=fun X=>c7 i0 X
   have j1:=fun X=>c7 i1 X
   have j2:=fun X=>c7 i2 X
   have j3:=fun X=>c7 i3 X
   have j4:=fun X=>c7 i4 X
   have jm:=fun X=>c7 xm X
   have hl14:(r.length:Int)<=14:=al
   have hki:(k:Int)<c.list.length:=al
   have HCALL:Hid (∀X,Calls Tryz.prog 36 #[.agg #[v1,v2,.slice (some ⟨b,off,none⟩) c.list.length k3],x.v,.slice a' r.length c'] (wr.ext X) fun e w''=>e=.returned (.int .i64 (G4 c x r))/\∃Y,w''=wr.ext Y):=
    fun X=>Calls.ext_of' (aI8 _ _ c x r _ ((hrow.below BW).below (i5 _ X)) hx (hrr.below (i5 _ X)))
   by_cases ho:G4 c x r=0
   ·have qo:(G4 c x r !=0)=false:=by simp[ho]
    have HN:=show Hid (C4 c m (k+1)=false)from by unfold Hid;rw[HS.out,HA.out,HB.out];simp[ho]
    clear HF HB hlr h0 ho hrr hrm h14 i0 i1 i2 i3 i4
    go_wp2_with fail
    clear xm
    refine y9 aj aj ?_
    repeat(any_goals (first|go_big_quiet_step ((go_at_call 36;exact HCALL.out _))|quiet_step ((go_at_call 36;exact HCALL.out _))))
    refine wpQuiet_nil ?_
    rintro _ ⟨X,rfl⟩
    have hbX:=hb.trans ((i5 wr X).mono hb.size)
    go_wp2_with fail
    exact⟨⟨k+1,al,by go_num,HN.out,hbX⟩,by simp[intOf];omega⟩
   have qo:(G4 c x r !=0)=true:=by simp[ho]
   have HN:=show Hid (F5 c m=(G4 c x r,(k:Int)))from HF.out HA.out (by rw[HB.out];simp[ho];omega)
   clear HF HB hlr h0 ho hrr hrm h14 i0 i1 i2 i3 i4
   go_wp2_with fail
   clear xm
   refine y9 aj aj ?_
   repeat(any_goals (first|go_big_quiet_step ((go_at_call 36;exact HCALL.out _))|quiet_step ((go_at_call 36;exact HCALL.out _))))
   refine wpQuiet_nil ?_
   rintro _ ⟨X,rfl⟩
   have hbX:=hb.trans ((i5 wr X).mono hb.size)
   go_wp2_with fail
   go_ret2
   exact⟨by rw[HT'.out,HN.out];rfl,B2.trans (hbX.mono B2.size)⟩
  have e:k=c.list.length:=al
  subst e
  have HN:=show Hid (F5 c m=(0,-1))from al6 (by rw[HL.out];exact HA.out)
  clear hc3 hmc
  go_wp2_with fail
  go_ret2
  exact⟨by rw[HT'.out,HN.out];rfl,BW⟩
theorem al5(v:Value)(c:d9)(w:World)(h:v6 w v c):
  Calls Tryz.prog 8 #[v] w fun e w'=>e=.returned (.tuple #[.int .i64 (S4 c).1,.int .i64 (S4 c).2])/\Below w.heap.size w w':=by
 have hrow:=h
 obtain⟨v1,v2,v3,rfl,h1,h2,h3⟩:=h
 obtain⟨W,hW⟩:∃W,W=w.alloc (.cells #[v1,v2,v3] 26):=⟨_,rfl⟩
 have B0:Below w.heap.size w W:=by rw[hW];go_grown
 have L1:D3 W w.heap.size [v1,v2,v3]:=by rw[hW];exact(D3.new w [v1,v2,v3] _)
 have HT:Hid (S4 c=if x5 c=true then F5 c (Y1 c)else(5,-1)):=rfl
 have x0:=L1.cell 0
 have x1:=L1.cell 1
 have x2:=L1.cell 2
 simp only[cn1,cn5]at x0 x1 x2
 rw[hW]at x0 x1 x2
 go_enter Tryz.func8,Tryz.ntmps8
 go_wp2_with fail
 rw[<-hW]
 clear hW x0 x1 x2
 refine(al4 _ c _ (hrow.below B0)).mono ?_
 rintro e w1 ⟨rfl,b1⟩
 replace L1:=L1.below b1 L1.lt
 have B1:=B0.trans (b1.mono B0.size)
 clear b1 B0
 cases hc:x5 c
 ·have HC:=show Hid (S4 c=(5,-1))from by unfold Hid;rw[HT.out,hc];simp
  clear hc HT
  go_wp2_with fail
  go_ret2
  exact⟨by rw[HC.out];rfl,B1⟩
 have HC:=show Hid _ from hc
 have HT':=show Hid (S4 c=F5 c (Y1 c))from by unfold Hid;rw[HT.out,hc];simp
 clear hc HT
 have hS:∀W',Below w1.heap.size w1 W'->Below w1.heap.size w1 W'/\(W'.cell? ⟨w.heap.size,0,none⟩=some v1/\W'.cell? ⟨w.heap.size,1,none⟩=some v2/\W'.cell? ⟨w.heap.size,2,none⟩=some v3):=
  fun W' hb=>⟨hb,bJ5 L1 W' hb⟩
 have HS:=show Hid _ from hS
 have hb0:=(Below.refl w1.heap.size w1).drew
 clear hS
 go_wp2_with fail
 go_region_held3 (fun W'=>Below w1.heap.size w1 W'/\(W'.cell? ⟨w.heap.size,0,none⟩=some v1/\W'.cell? ⟨w.heap.size,1,none⟩=some v2/\W'.cell? ⟨w.heap.size,2,none⟩=some v3))
  (exact HS.out _ ai)
  (first|(go_at_call 33;refine(ah7 _ c HC.out _ (hrow.below (D0 ai B1 (cn4 _)))).mono ?_;rintro e w7 ⟨G,m,rfl,hlm,hM,b7⟩;have q7:=D0 b7 hb0 (cn4 _))|(go_at_call 32;refine(ah9 _ _ c m _ HC.out (hrow.below (D0 ai B1 (cn4 _))) hM.1.row hlm.1.1 hlm.1.2.1).mono ?_;rintro e w8 ⟨rfl,b8⟩;have q8:=D0 b8 q7 (cn4 _)))
 all_goals go_wp2_with fail
 all_goals go_ret2
 all_goals exact⟨by rw[HT'.out, <-ae5 hlm];rfl,B1.trans (q8.mono B1.size)⟩
noncomputable def aP8(c:d9):Bool:=decide ((S4 c).1=0)
noncomputable def ai6(c:d9):List (List Bool):=if(S4 c).1=0 then Y1 c else []
theorem bS2{c:d9}(h:(S4 c).1=0):x5 c=true:=by
 unfold S4 at h
 cases hc:x5 c
 ·rw[hc]at h;simp at h
 rfl
theorem ag2{w:World}{lo hi:Nat}{v:Value}(h:C5 w lo hi 63 1 v 0 []):I7 w lo hi v []:=⟨[],h,fun i u r hu=>by simp at hu,fun i j a b _ ha=>by simp at ha,fun i u hu=>by simp at hu⟩
theorem bG5{c:d9}(h:(S4 c).1=0):x5 c=true/\aP8 c=true/\ai6 c=Y1 c:=⟨bS2 h,decide_eq_true h,if_pos h⟩
theorem bV3{c:d9}(h:¬(S4 c).1=0):aP8 c=false/\ai6 c=[]:=⟨decide_eq_false h,if_neg h⟩
theorem aD2(v:Value)(c:d9)(w:World)(h:v6 w v c):
  Calls Tryz.prog 110 #[v] w fun e w'=>∃u,e=.returned (.tuple #[u,.bool (aP8 c)])/\I7 w' w.heap.size w'.heap.size u (ai6 c)/\Below w.heap.size w w':=by
 have hrow:=h
 obtain⟨v1,v2,v3,rfl,h1,h2,h3⟩:=h
 obtain⟨W,hW⟩:∃W,W=w.alloc (.cells #[v1,v2,v3] 26):=⟨_,rfl⟩
 have B0:Below w.heap.size w W:=by rw[hW];go_grown
 have L1:D3 W w.heap.size [v1,v2,v3]:=by rw[hW];exact(D3.new w [v1,v2,v3] _)
 have x0:=L1.cell 0
 have x1:=L1.cell 1
 have x2:=L1.cell 2
 simp only[cn1,cn5]at x0 x1 x2
 rw[hW]at x0 x1 x2
 go_enter Tryz.func110,Tryz.ntmps110
 go_wp2_with fail
 rw[<-hW]
 clear hW x0 x1 x2
 refine(aI9 _ c _ (hrow.below B0)).mono ?_
 rintro e w1 ⟨rfl,b1⟩
 replace L1:=L1.below b1 L1.lt
 have B1:=B0.trans (b1.mono B0.size)
 have H1:=show Hid ((S4 c).1=0->_)from bG5
 have H0:=show Hid (¬(S4 c).1=0->_)from bV3
 clear b1 B0
 generalize S4 c=r at*
 obtain⟨r1,r2⟩:=r
 have x0:=L1.cell 0
 have x1:=L1.cell 1
 have x2:=L1.cell 2
 simp only[cn1,cn5]at x0 x1 x2
 by_cases hr:r1=0
 ·have HX:=show Hid _ from H1.out hr
  have q0:(r1 !=0)=false:=by simp[hr]
  clear H1 H0 hr
  go_wp2_with fail
  refine(au1 _ c HX.out.1 _ (hrow.below B1)).mono ?_
  rintro e w2 ⟨G,m,rfl,hlm,hS,b2⟩
  have HME:=show Hid _ from ae5 hlm
  have hmo:=hS.1
  go_wp2_with fail
  go_ret2
  exact⟨_,by rw[HX.out.2.1];rfl,by rw[HX.out.2.2, <-HME.out];exact hmo.wide B1.size (cn4 _),B1.trans (b2.mono B1.size)⟩
 have HX:=show Hid _ from H0.out hr
 have q0:(r1 !=0)=true:=by simp[hr]
 clear H1 H0 hr
 go_wp2_with fail
 go_ret2
 refine⟨_,by rw[HX.out.1];rfl,by rw[HX.out.2];exact ag2 ((z6 w1 #[] 0 1 _ rfl rfl al).wide B1.size ao),B1.trans (Below.mono (by go_grown:Below w1.heap.size w1 _) B1.size)⟩
theorem aD7(v:Value)(c:d9)(w:World)(h:v6 w v c):
  Calls Tryz.prog 25 #[v] w fun e w'=>∃u,e=.returned (.tuple #[u,.bool (aP8 c)])/\I7 w' w.heap.size w'.heap.size u (ai6 c)/\Below w.heap.size w w':=by
 have hrow:=h
 obtain⟨v1,v2,v3,rfl,h1,h2,h3⟩:=h
 obtain⟨W,hW⟩:∃W,W=w.alloc (.cells #[v1,v2,v3] 26):=⟨_,rfl⟩
 have B0:Below w.heap.size w W:=by rw[hW];go_grown
 have L1:D3 W w.heap.size [v1,v2,v3]:=by rw[hW];exact(D3.new w [v1,v2,v3] _)
 have x0:=L1.cell 0
 have x1:=L1.cell 1
 have x2:=L1.cell 2
 simp only[cn1,cn5]at x0 x1 x2
 rw[hW]at x0 x1 x2
 go_enter Tryz.func25,Tryz.ntmps25
 go_wp2_with fail
 rw[<-hW]
 clear hW x0 x1 x2
 refine(al5 _ c _ (hrow.below B0)).mono ?_
 rintro e w1 ⟨rfl,b1⟩
 replace L1:=L1.below b1 L1.lt
 have B1:=B0.trans (b1.mono B0.size)
 have H1:=show Hid ((S4 c).1=0->_)from bG5
 have H0:=show Hid (¬(S4 c).1=0->_)from bV3
 clear b1 B0
 generalize S4 c=r at*
 obtain⟨r1,r2⟩:=r
 have x0:=L1.cell 0
 have x1:=L1.cell 1
 have x2:=L1.cell 2
 simp only[cn1,cn5]at x0 x1 x2
 by_cases hr:r1=0
 ·have HX:=show Hid _ from H1.out hr
  have q0:(r1 !=0)=false:=by simp[hr]
  clear H1 H0 hr
  go_wp2_with fail
  refine(ah7 _ c HX.out.1 _ (hrow.below B1)).mono ?_
  rintro e w2 ⟨G,m,rfl,hlm,hS,b2⟩
  have HME:=show Hid _ from ae5 hlm
  have hmo:=hS.1
  go_wp2_with fail
  go_ret2
  exact⟨_,by rw[HX.out.2.1];rfl,by rw[HX.out.2.2, <-HME.out];exact hmo.wide B1.size (cn4 _),B1.trans (b2.mono B1.size)⟩
 have HX:=show Hid _ from H0.out hr
 have q0:(r1 !=0)=true:=by simp[hr]
 clear H1 H0 hr
 go_wp2_with fail
 go_ret2
 exact⟨_,by rw[HX.out.1];rfl,by rw[HX.out.2];exact ag2 ⟨World.ownsRow_nil _ _ _ _,fun g hg=>by cases hg⟩,B1⟩
end Go.Proofs.YtfbeblgnjeokaaaGreat

namespace Go.Proofs.YtfbeblgnjeokaaaGreat
def isJ(c:d9)(x:Int):Bool:=decide ((J3 c x.toNat).op=8)
def bJ4(c:d9):Nat->Int->Int
 |0,x=>x
 |k+1,x=>if isJ c x=true then bJ4 c k (J3 c x.toNat).a else x
def b20(c:d9)(t:Int):Int:=if isJ c (bJ4 c c.list.length t)=true then t else bJ4 c c.list.length t
def cf5(x:d7)(t:Int):d7:=if x.op=8 then {x with a:=t}else if x.op=9\/x.op=10 then {x with b:=t}else x
def cg2(c:d9)(x:d7):d7:=if 0<=G9 x then cf5 x (b20 c (G9 x))else x
def b64(c:d9):d9:={c with list:=c.list.map (cg2 c)}
def cc2(c:d9)(i:Nat):Bool:=decide ((J3 c i).op=8)&&decide ((J3 c i).a=(i:Int)+1)
noncomputable def kpB(c:d9)(i:Nat):Bool:=(ak5 c).getD i false&& !cc2 c i
noncomputable def kpL(c:d9):List Bool:=(co4 c.list.length).map (kpB c)
noncomputable def cf7(c:d9)(k:Nat):List Bool:=(co4 c.list.length).map fun i=>(ak5 c).getD i false&& !(decide (i<k)&&cc2 c i)
def plc(ks:List Bool)(k:Nat):Nat:=(ks.take k).count true
def trI(ks:List Bool)(x:d7):d7:=if 0<=G9 x then cf5 x (plc ks (G9 x).toNat:Int)else x
def b59(c:d9)(ks:List Bool)(k:Nat):List d7:=(co4 k).flatMap fun i=>if ks.getD i false=true then [trI ks (J3 c i)]else []
noncomputable def b60(c:d9):d9:={c with list:=b59 c (kpL c) c.list.length}
noncomputable def bZ4(c:d9):d9:=b60 (b64 c)
inductive Opt:d9->d9->Prop
 |stop {c:d9}:bZ4 c=c->Opt c c
 |step {c r:d9}:bZ4 c≠c->Opt (bZ4 c) r->Opt c r
open Classical in
noncomputable def cl9(c:d9):Nat:=2*c.list.length+(if b64 c=c then 0 else 1)
open Classical in
noncomputable def cm0(c:d9):d9:=if h:∃r,Opt c r then Classical.choose h else c
end Go.Proofs.YtfbeblgnjeokaaaGreat
