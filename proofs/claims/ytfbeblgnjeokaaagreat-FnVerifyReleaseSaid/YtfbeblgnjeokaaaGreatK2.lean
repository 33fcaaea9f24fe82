/- Part 2: functions on the way, plain laws. Conditions: as said. -/
import Derived.Test.YtfbeblgnjeokaaaGreatRows
import Derived.OpenShut
import Derived.ChangeOld
import Derived.Deep.Slices
import Derived.Lib.SmallJoins
import Derived.StillTailTactics
import Derived.Deep.RegionHeld3
import Derived.Deep.QuietTactic
import Derived.BigQuiet
import Derived.WalkSpells
import Derived.Lib.SliceRun
import Derived.Deep.DeepCutAuto
import Derived.Test.YtfbeblgnjeokaaaGreatK1
set_option maxRecDepth 100000
set_option maxHeartbeats 16000000
set_option linter.unusedVariables false
set_option linter.unusedSimpArgs false
open Array renaming replicate → cG9
open Bool renaming and_eq_true → cD5, eq_iff_iff → cH2, or_eq_true → cI1
open List renaming all_eq_true → cE2, eq_nil_of_length_eq_zero → cF4, getD_eq_getElem?_getD → cD7, getElem?_append_left → cF2, getElem?_append_right → cH0, getElem?_cons_succ → cE8, getElem?_cons_zero → cD9, getElem?_eq_getElem → cD8, getElem?_eq_none → cF6, getElem?_eq_some_iff → cE7, getElem?_replicate → cH8, getElem?_set → cH9, getElem_mem → cF3, length_append → cE0, length_cons → cE5, length_nil → cE9, length_replicate → cF8, length_set → cG4, map_cons → cH1, mem_append → cG2, mem_of_getElem? → cG0, mem_range → cH4, mem_singleton → cG7, range → cF5, replicate → cD6, set_cons_succ → cG6, set_cons_zero → cG5, take_of_length_le → cF0
open Nat renaming le_refl → cE1, le_trans → cG3, lt_of_lt_of_le → cI4, lt_or_ge → cF9, mul_le_mul_right → cI2, succ_mul → cH3, zero_add → cI3, zero_le → cG8

namespace Go.Proofs.YtfbeblgnjeokaaaGreat
open Go Go.RowKit Go.ChangeShapes Go.WideShapes Go.Deep
theorem own:ownKnob Tryz.prog.godebug=none:=aj
theorem b20:laidOutB Tryz.prog=true:=aj
section
variable{H:Type}{enc:TypeId×Value->H}{W:World}
theorem bR8{C:Nat->List Value}{sz:Nat}(hC:∀i,(C i).length=sz):∀(n i j:Nat),i<n->j<sz->((cF5 n).flatMap C)[i*sz+j]? =(C i)[j]? :=by
 intro n
 induction n with
 |zero=>intro i j h;omega
 | succ n ih =>
  intro i j h hj
  have hlen:((cF5 n).flatMap C).length=n*sz:=by
   clear ih h
   induction n with
   |zero=>simp
   |succ n ih2=>rw[List.range_succ,List.flatMap_append,cE0,ih2];simp[hC,cH3]
  rw[List.range_succ,List.flatMap_append]
  by_cases hin:i<n
  ·rw[cF2 (by rw[hlen];have:=cI2 sz (Nat.succ_le_of_lt hin);rw[cH3]at this;omega)]
   exact ih i j hin hj
  obtain rfl:i=n:=al
  rw[cH0 al,hlen]
  simp
theorem bf3{C:Nat->List Value}{sz:Nat}(hC:∀i,(C i).length=sz)(n:Nat):((cF5 n).flatMap C).length=n*sz:=by
 induction n with
 |zero=>simp
 |succ n ih2=>rw[List.range_succ,List.flatMap_append,cE0,ih2];simp[hC,cH3]
theorem bb3{t e:TypeId}{fuel:Nat}{v:Value}{x:DataW H×List MemPlace}{sz:Nat}(ht:Tryz.prog.underlying t=some (.slice e))(hc:Tryz.prog.cellsOf e=sz)(hsz:0<sz)
  (h:DataW.trod enc Tryz.prog W 0 (fun _=>true) true fuel t [v]=some x):
  ∃(n m:Nat) (C:Nat->List Value),J0 W v n sz ((cF5 n).flatMap C)/\(∀i,(C i).length=sz)/\∀i,i<n->∃y,DataW.trod enc Tryz.prog W 0 (fun _=>true) true m e (C i)=some y:=by
 rcases open_slice ht h with⟨hcs,_⟩|⟨a,len,cap,m,k,D,Pl,hcs,_,hl,hm,hmm,_,hx⟩
 ·cases hcs
  exact⟨0,0,fun _=>cD6 sz undef,J0.nil _ _,an,fun i hi=>by omega⟩
 cases hcs
 rw[hc]at hx
 have hmc:len<=m:=by rw[hmm];simp;omega
 obtain⟨C,hC⟩:=choose_lt (α:=List Value) (n:=len) (p:=fun i cs=>cs.length=sz/\(∀j,j<sz->W.cell? (a.add (i*sz+j))=cs[j]?)/\∃y,DataW.trod enc Tryz.prog W 0 (fun _=>true) true k e cs=some y) (fun i hi=>by
  obtain⟨cs',h1,h2⟩:=hx i al
  obtain⟨_,hlen,hcell⟩:=World.cells?_some h1
  exact⟨cs',hlen,fun j hj=>by rw[<-add_add];exact hcell j hj,_,h2⟩)
 let C':Nat->List Value:=fun i=>if i<len then C i else cD6 sz undef
 have hC':∀i,(C' i).length=sz:=fun i=>by
  by_cases hi:i<len
  ·simp only[C',if_pos hi];exact(hC i hi).1
  simp[C',if_neg hi]
 refine⟨len,k,C',⟨bf3 hC' len,some a,cap,rfl,hl,hm,fun hn=>?_⟩,hC',fun i hi=>?_⟩
 ·obtain⟨b,off,spot⟩:=a
  have h00:=(hC 0 hn).2.1 0 hsz
  have hlen0:=(hC 0 hn).1
  rw[cD8 al]at h00
  have hs:spot=none:=by
   simpa[Addr.add]using World.cell?_spot h00
  subst hs
  have hb:b<W.heap.size:=by simpa[Addr.add]using World.block_lt_of_cell? W _ h00
  refine⟨b,off,rfl,hb,fun j u hj=>?_⟩
  have hjl:j<len*sz:=by have:=(cE7.1 hj).1;rw[bf3 hC']at this;exact this
  have hi:j/sz<len:=Nat.div_lt_of_lt_mul (by rw[Nat.mul_comm];exact hjl)
  have hr:j%sz<sz:=Nat.mod_lt _ hsz
  have hjj:j/sz*sz+j%sz=j:=Nat.div_add_mod' j sz
  have hg:=bR8 hC' len (j/sz) (j%sz) hi hr
  rw[hjj,hj]at hg
  have hcc:=(hC _ hi).2.1 _ hr
  simp only[C',if_pos hi]at hg
  rw[hjj, <-hg]at hcc
  have hadd:(⟨b,off,none⟩:Addr).add j=⟨b,off+j,none⟩:=by unfold Addr.add;split<;>simp_all
  rw[hadd]at hcc
  exact hcc
 obtain⟨y,hy⟩:=(hC i hi).2.2
 exact⟨y,by simp only[C',if_pos hi];exact hy⟩
theorem aN3{α:Type}(n:Nat)(C:Nat->List Value)(f:α->Value)(g:Nat->α)(h:∀i,i<n->C i=[f (g i)]):(cF5 n).flatMap C=((cF5 n).map g).map f:=by
 rw[List.map_map,List.flatMap_def]
 rw[List.map_congr_left (g:=fun i=>[f (g i)]) (fun i hi=>h i (by simpa using hi))]
 induction n with
 |zero=>simp
 |succ n ih=>
  rw[List.range_succ,List.map_append,List.flatten_append,List.map_append,ih (fun i hi=>h i al)]
  simp
end
end Go.Proofs.YtfbeblgnjeokaaaGreat

namespace Go.Proofs.YtfbeblgnjeokaaaGreat
open Go Go.RowKit
theorem b22:(Tryz.prog.info? 23).map (fun i=>(i.zero,i.size,i.bytes))=some (some (.slice none 0 0),1,24):=aj
def ae0(w:World)(v:Value)(m:List (List Int)):Prop:=
 ∃vs:List Value,J0 w v m.length 1 vs/\∀(i:Nat) (u:Value) (r:List Int),vs[i]? =some u->m[i]? =some r->J0 w u r.length 1 (ints r)
def P6(w:World)(lo hi:Nat)(v:Value)(m:List (List Int)):Prop:=
 ∃vs:List Value,D2 w lo hi 23 1 v m.length vs/\(∀(i:Nat) (u:Value) (r:List Int),vs[i]? =some u->m[i]? =some r->D2 w lo hi 3 1 u r.length (ints r))/\
  (∀(i j:Nat) (u u':Value),i<j->vs[i]? =some u->vs[j]? =some u'->ai4 u u')/\∀(i:Nat) (u:Value),vs[i]? =some u->ai4 u v
theorem ae0.below{w w':World}{v:Value}{m:List (List Int)}(h:ae0 w v m)(hb:Below w.heap.size w w'):ae0 w' v m:=by
 obtain⟨vs,h1,h2⟩:=h
 exact⟨vs,h1.below hb,fun i u r a b=>(h2 i u r a b).below hb⟩
theorem P6.row{w:World}{lo hi:Nat}{v:Value}{m:List (List Int)}(h:P6 w lo hi v m):ae0 w v m:=by
 obtain⟨vs,h1,h2,_⟩:=h
 exact⟨vs,h1.row,fun i u r a b=>(h2 i u r a b).row⟩
theorem P6.keep{w w':World}{lo hi B:Nat}{v:Value}{m:List (List Int)}(h:P6 w lo hi v m)(hb:Below B w w')(hB:hi<=B):P6 w' lo hi v m:=by
 obtain⟨vs,h1,h2,hd⟩:=h
 exact⟨vs,h1.keep hb hB,fun i u r a b=>(h2 i u r a b).keep hb hB,hd⟩
theorem P6.out{w w':World}{lo hi lo' hi':Nat}{v:Value}{m:List (List Int)}(h:P6 w lo hi v m)(hb:Out lo' hi' w w')(hB:hi<=lo'\/hi'<=lo):P6 w' lo hi v m:=by
 obtain⟨vs,h1,h2,hd⟩:=h
 exact⟨vs,h1.out hb hB,fun i u r a b=>(h2 i u r a b).out hb hB,hd⟩
theorem P6.wide{w:World}{lo hi lo' hi':Nat}{v:Value}{m:List (List Int)}(h:P6 w lo hi v m)(g1:lo'<=lo)(g2:hi<=hi'):P6 w lo' hi' v m:=by
 obtain⟨vs,h1,h2,hd⟩:=h
 exact⟨vs,h1.wide g1 g2,fun i u r a b=>(h2 i u r a b).wide g1 g2,hd⟩
theorem ae0.open{w:World}{v:Value}{m:List (List Int)}(h:ae0 w v m):∃a cap,v=.slice a m.length cap/\m.length<=9223372036854775807/\
  ∀i (hi:i<m.length),∃b off a' c',a=some ⟨b,off,none⟩/\b<w.heap.size/\w.cell? ⟨b,off+i,none⟩=some (.slice a' m[i].length c')/\J0 w (.slice a' m[i].length c') m[i].length 1 (ints m[i]):=by
 obtain⟨vs,h1,h2⟩:=h
 obtain⟨a,cap,hv,hc,hm,hm2,hcell⟩:=h1.open1
 refine⟨a,cap,hv,hm,fun i hi=>?_⟩
 obtain⟨b,off,ha,hb,hx⟩:=hcell i hi
 have hl:i<vs.length:=by rw[h1.1];omega
 rw[cD8 hl]at hx
 have hr:=h2 i _ _ (cD8 hl) (cD8 hi)
 obtain⟨a',c',hs⟩:=hr.form
 rw[hs]at hx hr
 exact⟨b,off,a',c',ha,hb,hx,hr⟩
theorem L0{B:Nat}{w w1 w2:World}(k:Below w1.heap.size w1 w2)(h:Below B w w1)(hB:B<=w.heap.size):Below B w w2:=
 h.trans (k.mono (cG3 hB h.size))
theorem bU1{w:World}{b:Nat}{x y z:Value}(L:D7 w b [x,y,z]):∀W',Below w.heap.size w W'->W'.cell? ⟨b,0,none⟩=some x/\W'.cell? ⟨b,1,none⟩=some y/\W'.cell? ⟨b,2,none⟩=some z:=by
 intro W' hb
 have L':=L.below hb L.lt
 exact⟨by simpa using L'.cell 0,by simpa using L'.cell 1,by simpa using L'.cell 2⟩
end Go.Proofs.YtfbeblgnjeokaaaGreat

namespace Go.Proofs.YtfbeblgnjeokaaaGreat
def aE9(b:Bool):Int:=if b then 1 else 0
def N8(k a b:Int):Int:=
 if k=4 then(a+b).tmod 256 else if k=5 then(a-b+256).tmod 256 else if k=6 then(a*b).tmod 256
 else if k=7 then((a.toNat&&&b.toNat:Nat):Int)else if k=8 then((a.toNat^^^b.toNat:Nat):Int)else if k=9 then aE9 (decide (a=b))else aE9 (decide (a<b))
theorem aE8(b:Bool):0<=aE9 b/\aE9 b<=255:=by cases b<;>simp[aE9]
theorem bf0{k a b:Int}(h1:0<=a)(h2:a<=255)(h3:0<=b)(h4:b<=255):0<=N8 k a b/\N8 k a b<=255:=by
 unfold N8
 have hm:0<=a*b:=Int.mul_nonneg h1 h3
 have ha:a.toNat<2^8:=al
 have hb:b.toNat<2^8:=al
 have hand:a.toNat&&&b.toNat<2^8:=Nat.and_lt_two_pow _ hb
 have hxor:a.toNat^^^b.toNat<2^8:=Nat.xor_lt_two_pow ha hb
 split
 ·rw[Int.tmod_eq_emod_of_nonneg al];omega
 split
 ·rw[Int.tmod_eq_emod_of_nonneg al];omega
 split
 ·rw[Int.tmod_eq_emod_of_nonneg hm];omega
 split
 ·omega
 split
 ·omega
 split
 ·exact aE8 _
 exact aE8 _
def scB(l:Int):Bool:=i9 l&&decide (l=1\/l=3)
def bAt(t:List Bool)(k:Int):Bool:=t.getD k.toNat false
def Q1(t:List Int)(k:Int):Int:=t.getD k.toNat 0
def z5(c:d8)(x:d9)(t:List Bool):Option Bool:=
 if x.op=1\/x.op=11 then some false
 else if x.op=2 then some (scB (Q1 c.vars x.b))
 else if x.op=4 then some (scB (Q1 c.arrays x.b)||bAt t x.c)
 else if x.op=6 then some (bAt t x.c||bAt t x.d)
 else if x.op=7 then some (bAt t x.b||bAt t x.c||bAt t x.d)
 else none
def n6(c:d8)(x:d9)(t:List Bool):List Bool:=match z5 c x t with|some b=>t.set x.a.toNat b|none=>t
theorem R1(c:d8)(x:d9)(t:List Bool):(n6 c x t).length=t.length:=by unfold n6;split<;>simp
def G6(c:d8)(x:d9)(t:List Bool):Int:=
 if x.op=3 then(if bAt t x.b&& !scB (Q1 c.vars x.a)then 1 else 0)
 else if x.op=4 then(if bAt t x.c then 4 else 0)
 else if x.op=5 then(if bAt t x.b then 4 else if bAt t x.c&& !scB (Q1 c.arrays x.a)then 1 else 0)
 else if x.op=9\/x.op=10 then(if bAt t x.a then 3 else 0)
 else 0
def ac3(t row:List Bool):Bool:=decide (0<row.length)&&(cF5 t.length).all fun k=> !(t.getD k false&& !row.getD k false)
theorem ac0{c:d8}{x:d9}(h:C2 c x=true):
  (x.op=1->0<=x.a/\x.a<14)/\(x.op=11->0<=x.a/\x.a<14)/\
  (x.op=2->(0<=x.a/\x.a<14)/\0<=x.b/\x.b<c.vars.length)/\
  (x.op=3->(0<=x.a/\x.a<c.vars.length)/\0<=x.b/\x.b<14)/\
  (x.op=4->(0<=x.a/\x.a<14)/\(0<=x.b/\x.b<c.arrays.length)/\0<=x.c/\x.c<14)/\
  (x.op=5->(0<=x.a/\x.a<c.arrays.length)/\(0<=x.b/\x.b<14)/\0<=x.c/\x.c<14)/\
  (x.op=6->(0<=x.a/\x.a<14)/\(0<=x.c/\x.c<14)/\0<=x.d/\x.d<14)/\
  (x.op=7->(0<=x.a/\x.a<14)/\(0<=x.b/\x.b<14)/\(0<=x.c/\x.c<14)/\0<=x.d/\x.d<14)/\
  (x.op=9->0<=x.a/\x.a<14)/\(x.op=10->0<=x.a/\x.a<14):=by
 unfold C2 at h
 simp only[cD5,decide_eq_true_eq]at h
 obtain⟨_,⟨⟨ha,hb⟩,hc⟩,hd⟩:=h
 refine⟨fun e=>?_,fun e=>?_,fun e=>?_,fun e=>?_,fun e=>?_,fun e=>?_,fun e=>?_,fun e=>?_,fun e=>?_,fun e=>?_⟩
 all_goals
  rw[e]at ha hb hc hd
  simp[r8,H6,S8]at ha hb hc hd
  omega
def aw5(r:List Bool):Bool:=decide (r.length=0)||decide (r.length=14)
def N9(t row:List Bool)(k:Nat):Bool:=(cF5 k).all fun j=> !(t.getD j false&& !row.getD j false)
theorem a55(t row:List Bool)(k:Nat):N9 t row (k+1)=(N9 t row k&& !(t.getD k false&& !row.getD k false)):=by
 unfold N9;rw[List.range_succ,List.all_append];simp
def rowAt(m:List (List Bool))(i:Int):List Bool:=m.getD i.toNat []
theorem R4{m:List (List Bool)}{i:Nat}(h:i<m.length):rowAt m i=m[i]:=by simp[rowAt,h]
def L6(c:d8)(i:Nat):d9:=c.list.getD i ⟨0,0,0,0,0⟩
theorem V4{c:d8}{i:Nat}(h:i<c.list.length):L6 c i=c.list[i]:=by simp[L6,h]
def badAt(c:d8)(m:List (List Bool))(i:Nat):Bool:=decide (0<(rowAt m i).length)&&decide (G6 c (L6 c i) (rowAt m i)≠0)
def H8(c:d8)(m:List (List Bool)):Int×Int:=match(cF5 m.length).find? (badAt c m)with|some i=>(G6 c (L6 c i) (rowAt m i),(i:Int))|none=>(0,-1)
def I1(c:d8)(m:List (List Bool))(k:Nat):Bool:=(cF5 k).any (badAt c m)
theorem aF0(c:d8)(m:List (List Bool))(k:Nat):I1 c m (k+1)=(I1 c m k||badAt c m k):=by
 unfold I1;rw[List.range_succ,List.any_append];simp
theorem am5{c:d8}{m:List (List Bool)}(h:I1 c m m.length=false):H8 c m=(0,-1):=by
 unfold H8
 have:(cF5 m.length).find? (badAt c m)=none:=by
  rw[List.find?_eq_none]
  intro x hx hb
  have:=List.any_eq_false.1 h x hx
  exact this hb
 rw[this]
theorem aE2{c:d8}{m:List (List Bool)}{k:Nat}(hk:k<m.length)(h:I1 c m k=false)(hb:badAt c m k=true):H8 c m=(G6 c (L6 c k) (rowAt m k),(k:Int)):=by
 unfold H8
 have:(cF5 m.length).find? (badAt c m)=some k:=by
  rw[List.find?_range_eq_some]
  refine⟨hb,cH4.2 hk,fun j hj=>?_⟩
  have:=List.any_eq_false.1 h j (cH4.2 hj)
  simpa using this
 rw[this]
theorem bf5(c:d8)(m:List (List Bool)):decide ((H8 c m).1=0)= !I1 c m m.length:=by
 cases hb:I1 c m m.length
 ·rw[am5 hb];rfl
 unfold H8
 split
 ·rename_i i hi
  rw[List.find?_range_eq_some]at hi
  have:=hi.1
  simp only[badAt,cD5,decide_eq_true_eq]at this
  simp[this.2]
 rename_i hi
 rw[List.find?_eq_none]at hi
 obtain⟨x,hx,hy⟩:=List.any_eq_true.1 hb
 exact absurd hy (hi x hx)
def X6(c:d8)(m:List (List Bool))(i:Nat):Bool:=decide ((rowAt m i).length=0)||(nx c i).all fun t=>ac3 (n6 c (L6 c i) (rowAt m i)) (rowAt m t)
theorem F3{m:List (List Bool)}(h:m.all aw5=true)(i:Int):(rowAt m i).length=0\/(rowAt m i).length=14:=by
 unfold rowAt
 rcases cF9 i.toNat m.length with h1|h1
 ·have:=cE2.1 h _ (cF3 h1)
  simp only[aw5,cI1,decide_eq_true_eq]at this
  simpa[h1]using this
 left;simp[h1]
def isJ(c:d8)(x:Int):Bool:=decide ((L6 c x.toNat).op=8)
def bU0(c:d8):Nat->Int->Int
 |0,x=>x
 |k+1,x=>if isJ c x=true then bU0 c k (L6 c x.toNat).a else x
def cf4(c:d8)(t:Int):Int:=if isJ c (bU0 c c.list.length t)=true then t else bU0 c c.list.length t
def cw4(x:d9)(t:Int):d9:=if x.op=8 then {x with a:=t}else if x.op=9\/x.op=10 then {x with b:=t}else x
def cx9(c:d8)(x:d9):d9:=if 0<=I3 x then cw4 x (cf4 c (I3 x))else x
def cl1(c:d8):d8:={c with list:=c.list.map (cx9 c)}
def cr8(c:d8)(i:Nat):Bool:=decide ((L6 c i).op=8)&&decide ((L6 c i).a=(i:Int)+1)
noncomputable def kpB(c:d8)(i:Nat):Bool:=(al4 c).getD i false&& !cr8 c i
noncomputable def kpL(c:d8):List Bool:=(cF5 c.list.length).map (kpB c)
noncomputable def cw6(c:d8)(k:Nat):List Bool:=(cF5 c.list.length).map fun i=>(al4 c).getD i false&& !(decide (i<k)&&cr8 c i)
def plc(ks:List Bool)(k:Nat):Nat:=(ks.take k).count true
def trI(ks:List Bool)(x:d9):d9:=if 0<=I3 x then cw4 x (plc ks (I3 x).toNat:Int)else x
def ck8(c:d8)(ks:List Bool)(k:Nat):List d9:=(cF5 k).flatMap fun i=>if ks.getD i false=true then [trI ks (L6 c i)]else []
noncomputable def ck9(c:d8):d8:={c with list:=ck8 c (kpL c) c.list.length}
theorem bN3{x:d9}(h1:1<=x.op)(h2:x.op<=13):x.op=1\/x.op=2\/x.op=3\/x.op=4\/x.op=5\/x.op=6\/x.op=7\/x.op=8\/x.op=9\/x.op=10\/x.op=11\/x.op=12\/x.op=13:=al
noncomputable def cc8(c:d8):d8:=ck9 (cl1 c)
inductive Opt:d8->d8->Prop
 |stop {c:d8}:cc8 c=c->Opt c c
 |step {c r:d8}:cc8 c≠c->Opt (cc8 c) r->Opt c r
open Classical in
noncomputable def cD1(c:d8):Nat:=2*c.list.length+(if cl1 c=c then 0 else 1)
open Classical in
noncomputable def cD2(c:d8):d8:=if h:∃r,Opt c r then Classical.choose h else c
end Go.Proofs.YtfbeblgnjeokaaaGreat

namespace Go.Proofs.YtfbeblgnjeokaaaGreat
open Go Go.RowKit
theorem a62(a b:Nat)(ha:a<9223372036854775808)(hb:b<9223372036854775808):bits .and .i64 (a:Int) (b:Int)=((a&&&b:Nat):Int):=by
 have hx:a&&&b<2^63:=Nat.and_lt_two_pow _ al
 have h1:(BitVec.ofInt 64 (a:Int)).toNat=a:=by
  rw[BitVec.ofInt_natCast,BitVec.toNat_ofNat];exact Nat.mod_eq_of_lt al
 have h2:(BitVec.ofInt 64 (b:Int)).toNat=b:=by
  rw[BitVec.ofInt_natCast,BitVec.toNat_ofNat];exact Nat.mod_eq_of_lt al
 show IntKind.i64.wrap ((BitVec.ofInt 64 (a:Int)&&&BitVec.ofInt 64 (b:Int)).toNat:Int)=_
 rw[BitVec.toNat_and,h1,h2,IntKind.wrap_i64]
 omega
theorem a60(a b:Nat)(ha:a<9223372036854775808)(hb:b<9223372036854775808):bits .xor .i64 (a:Int) (b:Int)=((a^^^b:Nat):Int):=by
 have hx:a^^^b<2^63:=Nat.xor_lt_two_pow al al
 have h1:(BitVec.ofInt 64 (a:Int)).toNat=a:=by
  rw[BitVec.ofInt_natCast,BitVec.toNat_ofNat];exact Nat.mod_eq_of_lt al
 have h2:(BitVec.ofInt 64 (b:Int)).toNat=b:=by
  rw[BitVec.ofInt_natCast,BitVec.toNat_ofNat];exact Nat.mod_eq_of_lt al
 show IntKind.i64.wrap ((BitVec.ofInt 64 (a:Int)^^^BitVec.ofInt 64 (b:Int)).toNat:Int)=_
 rw[BitVec.toNat_xor,h1,h2,IntKind.wrap_i64]
 omega
theorem a63{a b:Int}(h1:0<=a)(h2:a<=255)(h3:0<=b)(h4:b<=255):bits .and .i64 a b=((a.toNat&&&b.toNat:Nat):Int):=by
 rw[<-a62 _ _ al al,Int.toNat_of_nonneg h1,Int.toNat_of_nonneg h3]
theorem a61{a b:Int}(h1:0<=a)(h2:a<=255)(h3:0<=b)(h4:b<=255):bits .xor .i64 a b=((a.toNat^^^b.toNat:Nat):Int):=by
 rw[<-a60 _ _ al al,Int.toNat_of_nonneg h1,Int.toNat_of_nonneg h3]
theorem aP0(b:Bool)(w:World):Calls Tryz.prog 187 #[.bool b] w fun e w'=>e=.returned (.int .i64 (aE9 b))/\w=w':=by
 cases b
 all_goals
  go_enter Tryz.func187,Tryz.ntmps187
  go_wp2_with fail
  go_ret
  exact⟨rfl,rfl⟩
theorem a44(k a b:Int)(w:World)(h1:0<=a)(h2:a<=255)(h3:0<=b)(h4:b<=255):Calls Tryz.prog 170 #[.int .i64 k,.int .i64 a,.int .i64 b] w fun e w'=>e=.returned (.int .i64 (N8 k a b))/\w=w':=by
 have hm:0<=a*b:=Int.mul_nonneg h1 h3
 have hm2:a*b<=65025:=by
  have:=Int.mul_le_mul h2 h4 h3 (by omega:(0:Int)<=255)
  omega
 by_cases k4:k=4
 ·subst k4
  have HV:Hid (N8 4 a b=(a+b).tmod 256):=by unfold Hid N8;simp
  go_enter Tryz.func170,Tryz.ntmps170
  go_wp2_with fail
  go_ret
  exact⟨z7 (by rw[HV.out];exact(Int.tmod_eq_emod_of_nonneg (by first|assumption|omega)).symm),rfl⟩
 by_cases k5:k=5
 ·subst k5
  have HV:Hid (N8 5 a b=(a-b+256).tmod 256):=by unfold Hid N8;simp
  go_enter Tryz.func170,Tryz.ntmps170
  go_wp2_with fail
  go_ret
  exact⟨z7 (by rw[HV.out];exact(Int.tmod_eq_emod_of_nonneg (by first|assumption|omega)).symm),rfl⟩
 by_cases k6:k=6
 ·subst k6
  have HV:Hid (N8 6 a b=(a*b).tmod 256):=by unfold Hid N8;simp
  go_enter Tryz.func170,Tryz.ntmps170
  go_wp2_with fail
  go_ret
  exact⟨z7 (by rw[HV.out];exact(Int.tmod_eq_emod_of_nonneg (by first|assumption|omega)).symm),rfl⟩
 by_cases k7:k=7
 ·subst k7
  have HV:Hid (N8 7 a b=bits .and .i64 a b):=by unfold Hid;rw[a63 h1 h2 h3 h4];unfold N8;simp
  go_enter Tryz.func170,Tryz.ntmps170
  go_wp2_with fail
  go_ret
  exact⟨z7 (by rw[HV.out]),rfl⟩
 by_cases k8:k=8
 ·subst k8
  have HV:Hid (N8 8 a b=bits .xor .i64 a b):=by unfold Hid;rw[a61 h1 h2 h3 h4];unfold N8;simp
  go_enter Tryz.func170,Tryz.ntmps170
  go_wp2_with fail
  go_ret
  exact⟨z7 (by rw[HV.out]),rfl⟩
 have HK:=show Hid _ from And.intro k4 (And.intro k5 (And.intro k6 (And.intro k7 k8)))
 have p4:(k==4)=false:=by simp[k4]
 have p5:(k==5)=false:=by simp[k5]
 have p6:(k==6)=false:=by simp[k6]
 have p7:(k==7)=false:=by simp[k7]
 have p8:(k==8)=false:=by simp[k8]
 clear k4 k5 k6 k7 k8
 by_cases k9:k=9
 ·subst k9
  have HV:Hid (N8 9 a b=aE9 (decide (a=b))):=by unfold Hid N8;simp
  clear hm hm2
  go_enter Tryz.func170,Tryz.ntmps170
  go_wp2_with fail
  refine(aP0 _ _).mono ?_
  rintro x w1 ⟨rfl,rfl⟩
  go_wp2_with fail
  go_ret
  exact⟨z7 (by rw[HV.out];congr 1),rfl⟩
 have HV:Hid (N8 k a b=aE9 (decide (a<b))):=by
  obtain⟨k4,k5,k6,k7,k8⟩:=HK.out
  unfold Hid N8;rw[if_neg k4,if_neg k5,if_neg k6,if_neg k7,if_neg k8,if_neg k9]
 have p9:(k==9)=false:=by simp[k9]
 clear hm hm2 k9
 go_enter Tryz.func170,Tryz.ntmps170
 go_wp2_with fail
 refine(aP0 _ _).mono ?_
 rintro x w1 ⟨rfl,rfl⟩
 go_wp2_with fail
 go_ret
 exact⟨z7 (by rw[HV.out]),rfl⟩
theorem aO9(p:d9->Bool)(f:FuncId)(q:Value)(v:Value)(xs:List d9)(w:World)(h:aC6 w v xs)(he:∀args w,(callFunc f args).run Tryz.prog w=.ok (.enter f args) w)
  (hf:∀x w',Below w.heap.size w w'->Calls Tryz.prog f #[x.v,q] w' fun e w''=>e=.returned (.bool (p x))/\Below w'.heap.size w' w''):
  Calls Tryz.prog 116 #[v,.func (.func f) #[] #[q]] w fun e w'=>∃r:Int,e=.returned (.int .i64 r)/\decide (0<=r)=xs.any p/\Below w.heap.size w w':=by
 obtain⟨a1,c1,rfl,-,hm1,-,hc1⟩:=h.ins
 have HF:=show Hid _ from hf
 clear h hf
 go_enter Tryz.func116,Tryz.ntmps116
 go_wp2_with fail
 go_loopw [5,8] (fun _ i wr=>∃k:Nat,k<=xs.length/\i=.int .i64 k/\(xs.take k).any p=false/\Below w.heap.size w wr) (fun _ i _=>xs.length-(intOf i).toNat)
 case atStart=>exact⟨0,cG8 _,rfl,rfl,Below.refl _ _⟩
 case round=>
  obtain⟨k,hk,rfl,ha,hb⟩:=hrel
  have HA:=show Hid _ from ha
  clear ha
  by_cases hlt:k<xs.length
  ·obtain⟨b1,o1,rfl,hb1,i0,i1,i2,i3,i4⟩:=hc1 k hlt
   rw[<-(C4 hb).1 _ _ hb1]at i0 i1 i2 i3 i4
   clear hc1
   cases hp:p xs[k]
   all_goals
    have HP:=show Hid _ from hp
    clear hp
    go_wp2_with fail
    refine(HF.out xs[k] _ hb).mono ?_
    rintro e w1 ⟨rfl,hb2⟩
    rw[HP.out]
    go_wp2_with fail
   ·go_roundw
    case rel=>exact⟨k+1,al,by go_num,by rw[o0 _ _ hlt,List.any_append,HA.out];simp[HP.out],hb.trans (hb2.mono hb.size)⟩
    case measure=>simp[intOf];omega
   go_ret
   exact⟨_,rfl,by rw[decide_eq_true al];symm;rw[List.any_eq_true];exact⟨_,cF3 hlt,HP.out⟩,hb.trans (hb2.mono hb.size)⟩
  go_wp2_with fail
  go_ret
  refine⟨_,rfl,?_,hb⟩
  have:=HA.out
  rw[cF0 al]at this
  rw[this];rfl
theorem ay1(p:d9->Bool)(f:FuncId)(q:Value)(v:Value)(xs:List d9)(w:World)(h:aC6 w v xs)(he:∀args w,(callFunc f args).run Tryz.prog w=.ok (.enter f args) w)
  (hf:∀x w',Below w.heap.size w w'->Calls Tryz.prog f #[x.v,q] w' fun e w''=>e=.returned (.bool (p x))/\Below w'.heap.size w' w''):
  Calls Tryz.prog 75 #[v,.func (.func f) #[] #[q]] w fun e w'=>e=.returned (.bool (xs.any p))/\Below w.heap.size w w':=by
 obtain⟨a1,c1,rfl,-⟩:=h.open
 have HF:=show Hid _ from hf
 have HE:=show Hid _ from he
 clear hf he
 go_enter Tryz.func75,Tryz.ntmps75
 go_wp2_with fail
 refine(aO9 p f q _ xs _ h HE.out HF.out).mono ?_
 rintro e w1 ⟨r,rfl,hr,hb⟩
 have HR:=show Hid _ from hr
 clear hr
 go_wp2_with fail
 go_ret
 exact⟨w5 HR.out,hb⟩
theorem bn6(op:Int)(w:World):
  Calls Tryz.prog 117 #[.int .i64 op] w fun e w'=>e=.returned (.string ⟨(R0 op).toArray⟩)/\Below w.heap.size w w':=by
 by_cases h:1<=op/\op<=13
 ·obtain⟨h1,h2⟩:=h
  have h:op=1\/op=2\/op=3\/op=4\/op=5\/op=6\/op=7\/op=8\/op=9\/op=10\/op=11\/op=12\/op=13:=al
  clear h1 h2
  rcases h with rfl|rfl|rfl|rfl|rfl|rfl|rfl|rfl|rfl|rfl|rfl|rfl|rfl
  all_goals
   go_enter Tryz.func117,Tryz.ntmps117
   go_wp2_with fail
   refine(F2 _ 1 13 _).mono ?_
   rintro e w1 ⟨rfl,rfl⟩
   go_wp2_with fail
   go_ret
   exact⟨by simp[R0],by go_grown⟩
 have hF:Hid (R0 op=[]):=aV3 h
 have hb:(decide ((1:Int)<=op)&&decide (op<=13))=false:=by
  rw[Bool.eq_false_iff];simp only[ne_eq,cD5,decide_eq_true_eq];exact h
 have HB:=show Hid _ from hb
 clear h hb
 go_enter Tryz.func117,Tryz.ntmps117
 go_wp2_with fail
 refine(F2 _ 1 13 _).mono ?_
 rintro e w1 ⟨rfl,rfl⟩
 rw[HB.out]
 go_wp2_with fail
 go_ret
 exact⟨by rw[hF.out];rfl,Below.refl _ _⟩
theorem be7(x:d9)(w:World):
  Calls Tryz.prog 118 #[x.v] w fun e w'=>∃u,e=.returned u/\D2 w' w.heap.size w'.heap.size 3 1 u 4 (ints [x.a,x.b,x.c,x.d])/\Below w.heap.size w w':=by
 obtain⟨x0,x1,x2,x3,x4⟩:=x
 go_enter Tryz.func118,Tryz.ntmps118
 go_wp2_with fail
 go_ret
 refine⟨_,rfl,(A8 _ #[.int .i64 x1,.int .i64 x2,.int .i64 x3,.int .i64 x4] 4 1 _ an rfl al).wide an an,by go_grown⟩
theorem a46(v1 v2 v3:Value)(c:d8)(kd:UInt8)(n:Int)(w:World)(h1:J0 w v1 c.vars.length 1 (ints c.vars))(h2:J0 w v2 c.arrays.length 1 (ints c.arrays))(h3:aC6 w v3 c.list):
  Calls Tryz.prog 119 #[.agg #[v1,v2,v3],.int .u8 kd.toNat,.int .i64 n] w fun e w'=>e=.returned (.bool (O5 c kd n))/\Below w.heap.size w w':=by
 obtain⟨a1,k1,rfl,-,q1,-,-⟩:=h1.open1
 obtain⟨a2,k2,rfl,-,q2,-,-⟩:=h2.open1
 obtain⟨a3,k3,rfl,-,q3,-,-⟩:=h3.open
 have hk:kd.toNat<256:=kd.toNat_lt
 have HK:Hid (∀m:UInt8,(kd=m)=((kd.toNat:Int)=(m.toNat:Int))):=fun m=>by
  rw[eq_iff_iff]
  constructor
  ·rintro rfl;rfl
  intro h;exact UInt8.toNat_inj.1 al
 clear h1 h2 h3
 obtain⟨z,hz⟩:∃z,z=kd.toNat:=⟨_,rfl⟩
 rw[<-hz]at hk ⊢
 have HZ:=show Hid _ from hz
 clear hz
 go_enter Tryz.func119,Tryz.ntmps119
 go_wp2_with (go_at_call 74;refine(F2 _ _ _ _).mono ?_;rintro e w1 ⟨rfl,rfl⟩)
 all_goals go_ret
 all_goals refine⟨w5 ?_,by go_grown⟩
 all_goals unfold O5
 all_goals simp only[HK.out, <-HZ.out,show(UInt8.toNat 114)=114 from rfl,show(UInt8.toNat 110)=110 from rfl,show(UInt8.toNat 118)=118 from rfl,show(UInt8.toNat 97)=97 from rfl,show(UInt8.toNat 111)=111 from rfl,show(UInt8.toNat 105)=105 from rfl]
 all_goals clear HK HZ hk q1 q2 q3
 all_goals simp_all
 all_goals (rw[cH2];simp)
theorem a45(v:Value)(c:d8)(x:d9)(w:World)(h:D4 w v c):
  Calls Tryz.prog 77 #[v,x.v] w fun e w'=>e=.returned (.bool (C2 c x))/\Below w.heap.size w w':=by
 obtain⟨v1,v2,v3,rfl,h1,h2,h3⟩:=h
 obtain⟨W,hW⟩:∃W,W=((w.alloc (.cells #[v1,v2,v3] 26)).alloc (.cells #[.int .i64 x.op,.int .i64 x.a,.int .i64 x.b,.int .i64 x.c,.int .i64 x.d] 76)):=⟨_,rfl⟩
 have B0:Below w.heap.size w W:=by rw[hW];go_grown
 have L1:D7 W w.heap.size [v1,v2,v3]:=by rw[hW];exact(D7.new w [v1,v2,v3] _).alloc _
 have L2:D7 W (w.heap.size+1) [.int .i64 x.op,.int .i64 x.a,.int .i64 x.b,.int .i64 x.c,.int .i64 x.d]:=by rw[hW];exact D7.new' (w.alloc _) [.int .i64 x.op,.int .i64 x.a,.int .i64 x.b,.int .i64 x.c,.int .i64 x.d] _ an
 go_enter Tryz.func77,Tryz.ntmps77
 go_wp2_with fail
 rw[<-hW]
 clear hW
 refine(bn6 x.op W).mono ?_
 rintro e w1 ⟨rfl,b1⟩
 replace L1:=L1.below b1 L1.lt
 replace L2:=L2.below b1 L2.lt
 have y0:=L2.cell 0
 have y1:=L2.cell 1
 have y2:=L2.cell 2
 have y3:=L2.cell 3
 have y4:=L2.cell 4
 simp at y0 y1 y2 y3 y4
 go_wp2_with fail
 refine(be7 x _).mono ?_
 rintro e w2 ⟨u,rfl,o2,b2⟩
 replace L1:=L1.below b2 L1.lt
 have B2:=(B0.trans (b1.mono B0.size)).trans (b2.mono (by have:=B0.size;have:=b1.size;omega))
 obtain⟨g,cap,rfl,-,-,hg,-,-,-,hp⟩:=o2.open al
 clear y0 y1 y2 y3 y4 L2 o2
 by_cases hop:1<=x.op/\x.op<=13
 ·have hR:Hid (C2 c x=aM7 c (R0 x.op) [x.a,x.b,x.c,x.d] 4):=bn5 c x hop
  have hkl:=bY2 hop
  obtain⟨kinds,hkinds⟩:∃kinds,kinds=R0 x.op:=⟨_,rfl⟩
  obtain⟨parts,hparts⟩:∃parts,parts=[x.a,x.b,x.c,x.d]:=⟨_,rfl⟩
  rw[<-hkinds]at hkl ⊢
  rw[<-hkinds]at hR
  rw[<-hparts]at hR hp
  have hpl:parts.length=4:=by rw[hparts];rfl
  clear hkinds hparts hop
  have HPL:=show Hid _ from hpl
  clear hpl
  have hne:kinds.isEmpty=false:=by
   rw[List.isEmpty_eq_false_iff];intro h;rw[h]at hkl;simp at hkl
  go_wp2_with fail
  go_loopw [14] (fun i wr=>∃k:Nat,k<=4/\i=.int .i64 k/\aM7 c kinds parts k=true/\Below w2.heap.size w2 wr) (fun i _=>4-(intOf i).toNat)
  case atStart=>exact⟨0,al,rfl,rfl,Below.refl _ _⟩
  case round=>
   obtain⟨k,hk,rfl,ha,hb⟩:=hrel
   have HA:=show Hid _ from ha
   clear ha
   replace L1:=L1.below hb L1.lt
   by_cases hlt:k<4
   ·have x0:=L1.cell 0
    have x1:=L1.cell 1
    have x2:=L1.cell 2
    simp only[cD9,cE8]at x0 x1 x2
    have z0:=fun X=>c8 x0 X
    have z1:=fun X=>c8 x1 X
    have z2:=fun X=>c8 x2 X
    have hpk:k<parts.length:=by rw[HPL.out];exact hlt
    have p0:wr.cell? ⟨g,k,none⟩=some (.int .i64 parts[k]):=by
     rw[(C4 hb).1 _ _ hg];exact hp k _ (by simp[hpk])
    have hkk:k<kinds.length:=by rw[hkl];exact hlt
    have HS:=show Hid _ from aW4 c kinds parts k
    have HG:=show Hid (parts.getD k 0=parts[k])from by simp[Hid,hpk]
    have HKD:=show Hid (kinds.getD k 0=kinds[k])from by simp[Hid,hkk]
    have BW:=B2.trans (hb.mono B2.size)
    clear x0 x1 x2 hp
    cases hr:O5 c kinds[k] parts[k]
    all_goals
     have HR:=show Hid _ from hr
     clear hr
     have HC:Hid (∀X,Calls Tryz.prog 119 #[.agg #[v1,v2,v3],.int .u8 kinds[k].toNat,.int .i64 parts[k]] (wr.ext X) fun e w''=>e=.returned (.bool _)/\∃Y,w''=wr.ext Y):=
      fun X=>Calls.ext_of' ((a46 v1 v2 v3 c kinds[k] parts[k] _ ((h1.below BW).below (i8 _ X)) ((h2.below BW).below (i8 _ X)) ((h3.below BW).below (i8 _ X))).mono fun e w' h=>by rw[HR.out]at h;exact h)
     go_wp2_with fail
     refine C7 aj aj ?_
     repeat(any_goals (first|go_big_quiet_step ((go_at_call 119;exact HC.out _))|quiet_step ((go_at_call 119;exact HC.out _))))
     refine wpQuiet_nil ?_
     rintro _ ⟨X,rfl⟩
     have hbX:=hb.trans ((i8 wr X).mono hb.size)
     go_wp2_with fail
    ·go_ret
     exact⟨w5 (by rw[hR.out,bC7 4 hlt (by rw[HG.out,HKD.out,HR.out])]),B2.trans (hbX.mono B2.size)⟩
    exact⟨⟨k+1,al,by go_num,by rw[HS.out,HA.out,HG.out,HKD.out,HR.out];rfl,hbX⟩,by simp[intOf];omega⟩
   go_wp2_with fail
   go_ret
   obtain rfl:k=4:=al
   exact⟨w5 (by rw[hR.out,HA.out]),B2.trans (hb.mono B2.size)⟩
 have hR:Hid (C2 c x=false):=by
  unfold Hid C2
  rcases Classical.not_and_iff_not_or_not.1 hop with h|h
  ·rw[decide_eq_false h];rfl
  rw[decide_eq_false h];simp
 rw[aV3 hop]
 have p0:=hp 0 (.int .i64 x.a) an
 clear hop hp h1 h2 h3
 go_wp2_with fail
 go_loopw [14] (fun i wr=>i=.int .i64 0/\w2=wr) (fun i _=>0)
 case atStart=>exact⟨rfl,rfl⟩
 case round=>
  obtain⟨rfl,rfl⟩:=hrel
  go_wp2_with fail
  refine C7 aj aj ?_
  repeat(any_goals (first|go_big_quiet_step ((fail))|quiet_step ((fail))))
  refine wpQuiet_nil ?_
  rintro _ ⟨X,rfl⟩
  have hbX:=B2.trans ((i8 w2 X).mono B2.size)
  go_wp2_with fail
  go_ret
  exact⟨w5 hR.out.symm,hbX⟩
theorem aG2(v:Value)(c:d8)(x:d9)(b:Nat)(v1 v2 v3:Value)(w:World)(hv:v=.agg #[v1,v2,v3])(h:D4 w v c)(hb:D7 w b [v1,v2,v3]):
  Calls Tryz.prog 76 #[x.v,.pointer (some ⟨b,0,none⟩)] w fun e w'=>e=.returned (.bool (!C2 c x))/\Below w.heap.size w w':=by
 subst hv
 obtain⟨W,hW⟩:∃W,W=(w.alloc (.cells #[.int .i64 x.op,.int .i64 x.a,.int .i64 x.b,.int .i64 x.c,.int .i64 x.d] 76)):=⟨_,rfl⟩
 have B0:Below w.heap.size w W:=by rw[hW];go_grown
 have L1:D7 W b [v1,v2,v3]:=hb.below B0 hb.lt
 have L2:D7 W w.heap.size [.int .i64 x.op,.int .i64 x.a,.int .i64 x.b,.int .i64 x.c,.int .i64 x.d]:=by rw[hW];exact D7.new w [.int .i64 x.op,.int .i64 x.a,.int .i64 x.b,.int .i64 x.c,.int .i64 x.d] _
 have x0:=L1.cell 0
 have x1:=L1.cell 1
 have x2:=L1.cell 2
 have y0:=L2.cell 0
 have y1:=L2.cell 1
 have y2:=L2.cell 2
 have y3:=L2.cell 3
 have y4:=L2.cell 4
 simp at x0 x1 x2 y0 y1 y2 y3 y4
 rw[hW]at x0 x1 x2 y0 y1 y2 y3 y4
 go_enter Tryz.func76,Tryz.ntmps76
 go_wp2_with fail
 rw[<-hW]
 refine(a45 _ c x _ (h.below B0)).mono ?_
 rintro e w1 ⟨rfl,b1⟩
 clear x0 x1 x2 y0 y1 y2 y3 y4 hW
 go_wp2_with fail
 go_ret
 exact⟨rfl,B0.trans (b1.mono B0.size)⟩
theorem br3(xs:List d9)(c:d8):(xs.any fun l=> !C2 c l)= !xs.all (C2 c):=by
 induction xs with
 |nil=>rfl
 |cons x r ih=>simp only[List.any_cons,List.all_cons,ih];cases C2 c x<;>simp
theorem am4(v:Value)(c:d8)(w:World)(h:D4 w v c):
  Calls Tryz.prog 31 #[v] w fun e w'=>e=.returned (.bool (l5 c))/\Below w.heap.size w w':=by
 have hrow:=h
 obtain⟨v1,v2,v3,rfl,h1,h2,h3⟩:=h
 have HT:Hid (l5 c=(F9 c.vars c.arrays&&decide (1<=c.list.length)&&decide (c.list.length<=400)&&c.list.all (C2 c)&&ah4 c)):=rfl
 obtain⟨W,hW⟩:∃W,W=w.alloc (.cells #[v1,v2,v3] 26):=⟨_,rfl⟩
 have B0:Below w.heap.size w W:=by rw[hW];go_grown
 have L1:D7 W w.heap.size [v1,v2,v3]:=by rw[hW];exact(D7.new w [v1,v2,v3] _)
 have hmf:∀fn first cap w,(Instr.makeFunc fn first cap).run Tryz.prog w=.ok (.func fn first cap) w:=fun _ _ _ _=>rfl
 obtain⟨a3,k3,rfl,hk3,hm3,-,hc3⟩:=h3.ins
 have x0:=L1.cell 0
 have x1:=L1.cell 1
 have x2:=L1.cell 2
 simp at x0 x1 x2
 rw[hW]at x0 x1 x2
 go_enter Tryz.func31,Tryz.ntmps31
 go_wp2_with fail
 rw[<-hW]at x0 x1 x2 ⊢
 clear hW
 refine(aS7 _ _ c.vars c.arrays _ (h1.below B0) (h2.below B0)).mono ?_
 rintro e w1 ⟨rfl,rfl⟩
 cases hh:F9 c.vars c.arrays
 ·have HH:=show Hid _ from hh
  clear hh hc3
  go_wp2_with fail
  go_ret
  exact⟨w5 (by rw[HT.out,HH.out];rfl),B0⟩
 have HH:=show Hid _ from hh
 clear hh
 go_wp2_with fail
 refine(F2 _ 1 400 _).mono ?_
 rintro e w1 ⟨rfl,rfl⟩
 by_cases hn:(1:Int)<=(c.list.length:Int)/\(c.list.length:Int)<=400
 ·have hn':(decide ((1:Int)<=(c.list.length:Int))&&decide ((c.list.length:Int)<=400))=true:=by simpa using hn
  have HN:=show Hid _ from hn
  rw[hn']
  clear hn hn'
  go_wp2_with fail
  refine(ay1 (fun l=> !C2 c l) 76 _ _ c.list _ (h3.below B0) (aB3 Tryz.func76 aj rfl) (fun x w' hb=>aG2 _ c x _ _ _ _ w' rfl ((hrow.below B0).below hb) (L1.below hb L1.lt))).mono ?_
  rintro e w1 ⟨rfl,b1⟩
  rw[br3]
  have BW:=B0.trans (b1.mono B0.size)
  replace L1:=L1.below b1 L1.lt
  clear x0 x1 x2
  cases ha:c.list.all (C2 c)
  ·have HA:=show Hid _ from ha
   clear ha hc3
   go_wp2_with fail
   go_ret
   exact⟨w5 (by rw[HT.out,HA.out];simp),BW⟩
  have HA:=show Hid _ from ha
  clear ha
  have hl:c.list.length-1<c.list.length:=by have:=HN.out;omega
  obtain⟨b,off,rfl,hb3,i0,i1,i2,i3,i4⟩:=hc3 _ hl
  rw[<-(C4 BW).1 _ _ hb3]at i0
  have x2:=L1.cell 2
  simp only[cD9,cE8]at x2
  have hn1:1<=c.list.length:=al
  have hn2:c.list.length<=400:=by have:=HN.out;omega
  have HL:Hid (ah4 c=(decide (c.list[c.list.length-1].op=13)||decide (c.list[c.list.length-1].op=8))):=by
   unfold Hid ah4
   rw[List.getLast?_eq_getElem?,cD8 hl]
  clear hc3 i1 i2 i3 i4
  have hF:Hid (l5 c=(decide (c.list[c.list.length-1].op=13)||decide (c.list[c.list.length-1].op=8))):=by
   unfold Hid;rw[HT.out,HH.out,HA.out,HL.out,decide_eq_true hn1,decide_eq_true hn2];rfl
  go_wp2_with fail
  all_goals go_ret
  all_goals exact⟨w5 (by rw[hF.out,cH2];simp_all),BW⟩
 have hn':(decide ((1:Int)<=(c.list.length:Int))&&decide ((c.list.length:Int)<=400))=false:=by
  rw[Bool.eq_false_iff];simp only[ne_eq,cD5,decide_eq_true_eq];exact hn
 have hF:Hid (l5 c=false):=by
  unfold Hid;rw[HT.out]
  rcases Classical.not_and_iff_not_or_not.1 hn with h|h
  ·rw[decide_eq_false (show ¬1<=c.list.length by omega)];simp
  rw[decide_eq_false (show ¬c.list.length<=400 by omega)];simp
 rw[hn']
 clear hn hn' hc3
 go_wp2_with fail
 go_ret
 exact⟨w5 hF.out.symm,B0⟩
end Go.Proofs.YtfbeblgnjeokaaaGreat

namespace Go.Proofs.YtfbeblgnjeokaaaGreat
def rle(t u:List Bool):Prop:=∀k:Nat,t.getD k false=true->u.getD k false=true
theorem rle.refl(t:List Bool):rle t t:=fun _ h=>h
theorem rle.trans{a b c:List Bool}(h:rle a b)(g:rle b c):rle a c:=fun k x=>g k (h k x)
theorem rle.antisymm{a b:List Bool}(hl:a.length=b.length)(h:rle a b)(g:rle b a):a=b:=by
 apply List.ext_getElem hl
 intro i h1 h2
 have e1:=h i
 have e2:=g i
 simp only[cD7,cD8 h1,cD8 h2,Option.getD_some]at e1 e2
 cases ha:a[i]<;>cases hb:b[i]<;>simp_all
theorem bg2(t row:List Bool):N9 t row t.length=true↔rle t row:=by
 unfold N9 rle
 rw[cE2]
 constructor
 ·intro h k hk
  rcases cF9 k t.length with h1|h1
  ·have:=h k (cH4.2 h1)
   rw[hk]at this
   simpa using this
  simp[h1]at hk
 intro h k _
 cases hk:t.getD k false
 ·rfl
 rw[h k hk];rfl
theorem L7(t row:List Bool):ac3 t row=true↔0<row.length/\rle t row:=by
 have:ac3 t row=(decide (0<row.length)&&N9 t row t.length):=rfl
 rw[this,cD5,decide_eq_true_eq,bg2]
theorem aP5(t:List Bool)(a k:Nat)(b:Bool):(t.set a b).getD k false=if k=a/\a<t.length then b else t.getD k false:=by
 simp only[cD7,cH9]
 by_cases h:a=k
 ·subst h
  by_cases h2:a<t.length
  ·simp[h2]
  simp[h2]
 rw[if_neg h,if_neg (fun x=>h x.1.symm)]
theorem bi1{t u:List Bool}(h:rle t u)(k:Int):bAt t k=true->bAt u k=true:=h k.toNat
theorem aT2{c:d8}{x:d9}{t u:List Bool}(h:rle t u):(z5 c x t=none/\z5 c x u=none)\/∃p q,z5 c x t=some p/\z5 c x u=some q/\(p=true->q=true):=by
 have hb:=bi1 h
 unfold z5
 by_cases h1:x.op=1\/x.op=11
 ·rw[if_pos h1,if_pos h1];exact .inr ⟨_,_,rfl,rfl,id⟩
 rw[if_neg h1,if_neg h1]
 by_cases h2:x.op=2
 ·rw[if_pos h2,if_pos h2];exact .inr ⟨_,_,rfl,rfl,id⟩
 rw[if_neg h2,if_neg h2]
 by_cases h4:x.op=4
 ·rw[if_pos h4,if_pos h4];refine .inr ⟨_,_,rfl,rfl,fun g=>?_⟩
  simp only[cI1]at g ⊢
  rcases g with g|g
  ·exact .inl g
  exact .inr (hb _ g)
 rw[if_neg h4,if_neg h4]
 by_cases h6:x.op=6
 ·rw[if_pos h6,if_pos h6];refine .inr ⟨_,_,rfl,rfl,fun g=>?_⟩
  simp only[cI1]at g ⊢
  rcases g with g|g
  ·exact .inl (hb _ g)
  exact .inr (hb _ g)
 rw[if_neg h6,if_neg h6]
 by_cases h7:x.op=7
 ·rw[if_pos h7,if_pos h7];refine .inr ⟨_,_,rfl,rfl,fun g=>?_⟩
  simp only[cI1]at g ⊢
  rcases g with(g|g)|g
  ·exact .inl (.inl (hb _ g))
  ·exact .inl (.inr (hb _ g))
  exact .inr (hb _ g)
 rw[if_neg h7,if_neg h7]
 exact .inl ⟨rfl,rfl⟩
theorem aF2{c:d8}{x:d9}{t u:List Bool}(hl:t.length=u.length)(h:rle t u):rle (n6 c x t) (n6 c x u):=by
 unfold n6
 rcases aT2 (c:=c) (x:=x) h with⟨e1,e2⟩|⟨p,q,e1,e2,hpq⟩
 ·rw[e1,e2];exact h
 rw[e1,e2]
 intro k
 rw[aP5,aP5,hl]
 split
 ·exact hpq
 exact h k
def mle(m p:List (List Bool)):Prop:=∀i:Nat,(rowAt m i).length=0\/((rowAt p i).length≠0/\rle (rowAt m i) (rowAt p i))
def U4(c:d8)(m:List (List Bool)):Prop:=m.length=c.list.length/\m.all aw5=true/\(rowAt m 0).length≠0/\∀i:Nat,i<m.length->X6 c m i=true
def K9(c:d8)(m:List (List Bool)):Prop:=U4 c m/\∀p,U4 c p->mle m p
theorem a39{c:d8}{m p:List (List Bool)}(h:K9 c m)(g:K9 c p):m=p:=by
 have h1:=h.2 p g.1
 have h2:=g.2 m h.1
 have hl:m.length=p.length:=h.1.1.trans g.1.1.symm
 apply List.ext_getElem hl
 intro i hi hj
 have e1:=h1 i
 have e2:=h2 i
 have o1:=F3 h.1.2.1 i
 have o2:=F3 g.1.2.1 i
 rw[R4 hi]at e1 e2 o1
 rw[R4 hj]at e1 e2 o2
 have el:m[i].length=p[i].length:=al
 rcases Nat.eq_zero_or_pos m[i].length with h0|h0
 ·have e3:p[i].length=0:=al
  rw[cF4 h0,cF4 e3]
 rcases e1 with e1|e1
 ·omega
 rcases e2 with e2|e2
 ·omega
 exact rle.antisymm el e1.2 e2.2
structure Low(c:d8)(m:List (List Bool)):Prop where
 len:m.length=c.list.length
 ok:m.all aw5=true
 first:(rowAt m 0).length≠0
 low:∀p,U4 c p->mle m p
theorem Low.least{c:d8}{m:List (List Bool)}(h:Low c m)(hc:∀i:Nat,i<m.length->X6 c m i=true):K9 c m:=⟨⟨h.len,h.ok,h.first,hc⟩,h.low⟩
theorem D0{m:List (List Bool)}{y:Nat}(r:List Bool)(i:Int)(hy:y<m.length):rowAt (m.set y r) i=if i.toNat=y then r else rowAt m i:=by
 unfold rowAt
 simp only[cD7,cH9]
 by_cases h:y=i.toNat
 ·rw[if_pos h,if_pos h.symm];subst h;simp[hy]
 rw[if_neg h,if_neg (Ne.symm h)]
theorem Low.start{c:d8}(hn:1<=c.list.length):Low c ((cD6 c.list.length ([]:List Bool)).set 0 (cD6 14 false)):=by
 have hl:0<(cD6 c.list.length ([]:List Bool)).length:=by rw[cF8];omega
 refine⟨an,?_,?_,fun p hp i=>?_⟩
 ·rw[cE2]
  intro r hr
  rcases List.mem_or_eq_of_mem_set hr with h|h
  ·rw[(List.mem_replicate.1 h).2];rfl
  rw[h];rfl
 ·rw[D0 _ _ hl];simp
 rw[D0 _ _ hl]
 by_cases hi:i=0
 ·subst hi
  right
  refine⟨hp.2.2.1,fun k hk=>?_⟩
  exfalso
  rw[if_pos an]at hk
  simp only[cD7,cH8]at hk
  split at hk<;>simp at hk
 left
 rw[if_neg (by simpa using hi)]
 unfold rowAt
 simp only[cD7,cH8]
 split<;>simp
theorem Low.set{c:d8}{m:List (List Bool)}(h:Low c m){y:Nat}(hy:y<m.length){r:List Bool}(hr:r.length=14)(hp:∀p,U4 c p->(rowAt p y).length≠0/\rle r (rowAt p y)):Low c (m.set y r):=by
 refine⟨by simpa using h.len,?_,?_,fun p g i=>?_⟩
 ·rw[cE2]
  intro r' hr'
  rcases List.mem_or_eq_of_mem_set hr' with h'|h'
  ·exact cE2.1 h.ok _ h'
  rw[h'];simp[aw5,hr]
 ·rw[D0 _ _ hy]
  split
  ·omega
  exact h.first
 rw[D0 _ _ hy]
 split
 ·rename_i e
  have e:i=y:=by simpa using e
  subst e
  exact .inr (hp p g)
 exact h.low p g i
theorem Low.after{c:d8}{m:List (List Bool)}(h:Low c m){i:Nat}(hi:i<m.length)(h14:(rowAt m i).length=14):∀p,U4 c p->∀t∈nx c i,(rowAt p t).length≠0/\rle (n6 c (L6 c i) (rowAt m i)) (rowAt p t):=by
 intro p hp t ht
 have hpi:i<p.length:=by rw[hp.1, <-h.len];exact hi
 rcases h.low p hp i with h0|⟨hn,hr⟩
 ·omega
 have hc:=hp.2.2.2 i hpi
 unfold X6 at hc
 rw[cI1,decide_eq_true_eq]at hc
 rcases hc with hc|hc
 ·exact absurd hc hn
 have:=cE2.1 hc t ht
 rw[L7]at this
 have h2:=F3 hp.2.1 i
 exact⟨al,(aF2 al hr).trans this.2⟩
theorem bE6{c:d8}{m:List (List Bool)}{y j:Nat}(hy:y<m.length)(hne:j≠y){r:List Bool}(hr:r.length=14)(hle:rle (rowAt m y) r)(h:X6 c m j=true):X6 c (m.set y r) j=true:=by
 unfold X6 at h ⊢
 have ej:rowAt (m.set y r) j=rowAt m j:=by rw[D0 _ _ hy,if_neg (by simpa using hne)]
 rw[ej]
 rw[cI1,decide_eq_true_eq]at h ⊢
 rcases h with h|h
 ·exact .inl h
 right
 rw[cE2]at h ⊢
 intro t ht
 have:=h t ht
 rw[L7]at this ⊢
 rw[D0 _ _ hy]
 split
 ·rename_i e
  refine⟨al,this.2.trans ?_⟩
  rw[show rowAt m t=rowAt m y by unfold rowAt;rw[e];simp]
  exact hle
 exact this
theorem bT2{m:List (List Bool)}{y:Nat}(hy:y<m.length){r t:List Bool}{z:Int}(hr:r.length=14)(hle:rle (rowAt m y) r)(h:ac3 t (rowAt m z)=true):ac3 t (rowAt (m.set y r) z)=true:=by
 rw[L7]at h ⊢
 rw[D0 _ _ hy]
 split
 ·rename_i e
  refine⟨al,h.2.trans ?_⟩
  rw[show rowAt m z=rowAt m y by unfold rowAt;rw[e];simp]
  exact hle
 exact h
def w6(row t:List Bool)(k:Nat):List Bool:=(cF5 row.length).map fun j=>row.getD j false||(decide (j<k)&&t.getD j false)
def R7(row t:List Bool):List Bool:=if row.length=0 then t else w6 row t t.length
theorem P3(row t:List Bool)(k:Nat):(w6 row t k).length=row.length:=by simp[w6]
theorem aS3(row t:List Bool):w6 row t 0=row:=by
 apply List.ext_getElem (P3 _ _ _)
 intro i h1 h2
 simp[w6,h2]
theorem W6(row t:List Bool)(k j:Nat)(hj:j<row.length):(w6 row t k).getD j false=(row.getD j false||(decide (j<k)&&t.getD j false)):=by
 simp[w6,hj]
theorem aS4{row t:List Bool}{k:Nat}(h:(t.getD k false&& !row.getD k false)=false):w6 row t (k+1)=w6 row t k:=by
 unfold w6
 apply List.map_congr_left
 intro j _
 by_cases hj:j=k
 ·subst hj
  cases h1:t.getD j false<;>cases h2:row.getD j false<;>simp_all
 have:decide (j<k+1)=decide (j<k):=by rw[decide_eq_decide];omega
 rw[this]
theorem a42{row t:List Bool}{k:Nat}(_hk:k<row.length)(h1:t.getD k false=true):w6 row t (k+1)=(w6 row t k).set k true:=by
 apply List.ext_getElem (by simp[P3])
 intro i g1 g2
 have hi:i<row.length:=by simpa[P3]using g1
 rw[List.getElem_set]
 split
 ·rename_i e
  subst e
  simp only[w6,List.getElem_map,List.getElem_range]
  rw[h1];simp
 rename_i e
 simp only[w6,List.getElem_map,List.getElem_range]
 have:decide (i<k+1)=decide (i<k):=by rw[decide_eq_decide];omega
 rw[this]
theorem af8{row t:List Bool}(hr:row.length=0\/row.length=14)(ht:t.length=14):(R7 row t).length=14:=by
 unfold R7
 split
 ·exact ht
 rw[P3];omega
theorem aO5{row t:List Bool}(_hr:row.length=0\/row.length=14):rle row (R7 row t):=by
 intro k hk
 unfold R7
 split
 ·rename_i h0
  rw[cF4 h0]at hk
  simp at hk
 rcases cF9 k row.length with h1|h1
 ·rw[W6 _ _ _ _ h1,hk];rfl
 simp[h1]at hk
theorem aE1{row t:List Bool}(hr:row.length=0\/row.length=14)(ht:t.length=14):rle t (R7 row t):=by
 intro k hk
 unfold R7
 split
 ·exact hk
 rcases cF9 k t.length with h1|h1
 ·rw[W6 _ _ _ _ al,hk,decide_eq_true h1];simp
 simp[h1]at hk
theorem bd6{row t u:List Bool}(h1:rle row u)(h2:rle t u):rle (R7 row t) u:=by
 intro k hk
 unfold R7 at hk
 split at hk
 ·exact h2 k hk
 rcases cF9 k row.length with h|h
 ·rw[W6 _ _ _ _ h]at hk
  rw[cI1,cD5]at hk
  rcases hk with hk|hk
  ·exact h1 k hk
  exact h2 k hk.2
 have:(w6 row t t.length).length<=k:=by rw[P3];exact h
 simp[this]at hk
def as8(r:List Bool):Nat:=if r.length=0 then 15 else r.count false
def pot(m:List (List Bool)):Nat:=(m.map as8).sum
theorem aH3:∀(m:List (List Bool)) (y:Nat) (r:List Bool) (hy:y<m.length),pot (m.set y r)+as8 m[y]=pot m+as8 r
 |[],y,_,hy=>by simp at hy
 |a::m,0,r,_=>by simp[pot];omega
 |a::m,y+1,r,hy=>by
  have:=aH3 m y r (by simpa using hy)
  simp[pot]at this ⊢
  omega
theorem bT4{a b:List Bool}(hl:a.length=b.length)(h:rle a b):b.count false<=a.count false:=by
 induction a generalizing b with
 |nil=>cases b<;>simp_all
 | cons x a ih =>
  cases b with
  |nil=>simp at hl
  |cons y b=>
   have h1:=ih (b:=b) (by simpa using hl) (fun k hk=>by have:=h (k+1);simp at this hk ⊢;exact this hk)
   have h0:=h 0
   simp at h0
   cases x<;>cases y<;>simp_all<;>omega
theorem bT3{a b:List Bool}(hl:a.length=b.length)(h:rle a b)(hn:¬rle b a):b.count false<a.count false:=by
 induction a generalizing b with
 |nil=>cases b<;>simp_all[rle]
 | cons x a ih =>
  cases b with
  |nil=>simp at hl
  | cons y b =>
   have hs:rle a b:=fun k hk=>by have:=h (k+1);simp at this hk ⊢;exact this hk
   have hc:=bT4 (by simpa using hl) hs
   have h0:=h 0
   simp at h0
   by_cases hr:rle b a
   ·have:¬(y=true->x=true):=fun g=>hn (fun k=>by
     cases k with
     |zero=>simpa using g
     |succ k=>simpa using hr k)
    cases x<;>cases y<;>simp_all<;>omega
   have h1:=ih (b:=b) (by simpa using hl) hs hr
   cases x<;>cases y<;>simp_all<;>omega
theorem bC1{row t:List Bool}(hr:row.length=0\/row.length=14)(ht:t.length=14)(h:ac3 t row=false):as8 (R7 row t)<as8 row:=by
 unfold as8
 rw[if_neg (by rw[af8 hr ht];omega)]
 by_cases h0:row.length=0
 ·rw[if_pos h0]
  have:=List.count_le_length (a:=false) (l:=R7 row t)
  rw[af8 hr ht]at this
  omega
 rw[if_neg h0]
 refine bT3 (by rw[af8 hr ht];omega) (aO5 hr) fun g=>?_
 rw[Bool.eq_false_iff]at h
 exact h ((L7 _ _).2 ⟨al,(aE1 hr ht).trans g⟩)
theorem cc5(m:List (List Bool))(h:m.all aw5=true):pot m<=15*m.length:=by
 induction m with
 |nil=>simp[pot]
 | cons r m ih =>
  simp only[List.all_cons,cD5]at h
  have h1:=ih h.2
  have h2:as8 r<=15:=by
   unfold as8
   split
   ·omega
   have:=List.count_le_length (a:=false) (l:=r)
   have:=h.1
   simp only[aw5,cI1,decide_eq_true_eq]at this
   omega
  simp only[pot,cH1,List.sum_cons,cE5]at h1 ⊢
  omega
structure aT3(c:d8)(m:List (List Bool))(qs:List Int)(k:Nat):Prop where
 low:Low c m
 q:∀x∈qs,0<=x/\x<c.list.length/\(rowAt m x).length=14
 pend:∀i:Nat,i<c.list.length->X6 c m i=true\/∃p,k<=p/\qs[p]? =some (i:Int)
 cnt:qs.length+pot m<=15*c.list.length+1
structure aG7(c:d8)(m:List (List Bool))(qs:List Int)(k a:Nat)(t:List Bool)(ns:List Int)(j:Nat):Prop where
 low:Low c m
 q:∀x∈qs,0<=x/\x<c.list.length/\(rowAt m x).length=14
 pend:∀i:Nat,i<c.list.length->i≠a->X6 c m i=true\/∃p,k+1<=p/\qs[p]? =some (i:Int)
 self:(∃p,k+1<=p/\qs[p]? =some (a:Int))\/(∀y∈ns.take j,ac3 t (rowAt m y)=true)/\n6 c (L6 c a) (rowAt m a)=t
 cnt:qs.length+pot m<=15*c.list.length+1
 bnd:∀p,U4 c p->∀y∈ns,(rowAt p y).length≠0/\rle t (rowAt p y)
 tl:t.length=14
theorem aT3.start{c:d8}(hn:1<=c.list.length):aT3 c ((cD6 c.list.length ([]:List Bool)).set 0 (cD6 14 false)) [0] 0:=by
 have hl:0<(cD6 c.list.length ([]:List Bool)).length:=by rw[cF8];omega
 have h0:=Low.start hn
 refine⟨h0,?_,fun i hi=>?_,?_⟩
 ·intro x hx
  rw[cG7.1 hx]
  refine⟨Int.le_refl _,al,?_⟩
  rw[D0 _ _ hl];simp
 ·by_cases e:i=0
  ·subst e;exact .inr ⟨0,cE1 _,rfl⟩
  left
  unfold X6
  rw[cI1,decide_eq_true_eq]
  left
  rw[D0 _ _ hl,if_neg (by simpa using e)]
  unfold rowAt
  simp only[cD7,cH8]
  split<;>simp
 have:=cc5 _ h0.ok
 simp only[cG4,cF8]at this
 simp only[List.length_singleton]
 omega
theorem aT3.enter{c:d8}{m:List (List Bool)}{qs:List Int}{k a:Nat}(h:aT3 c m qs k)(ha:qs[k]? =some (a:Int)):
  (rowAt m a).length=14/\a<c.list.length/\aG7 c m qs k a (n6 c (L6 c a) (rowAt m a)) (nx c a) 0:=by
 have hm:=h.q a (cG0 ha)
 have hl:a<m.length:=by rw[h.low.len];omega
 refine⟨hm.2.2,al,h.low,h.q,fun i hi hne=>?_,.inr ⟨an,rfl⟩,h.cnt,?_,by rw[R1];exact hm.2.2⟩
 ·rcases h.pend i hi with g|⟨p,g1,g2⟩
  ·exact .inl g
  refine .inr ⟨p,?_,g2⟩
  rcases cF9 k p with g3|g3
  ·exact g3
  have:p=k:=al
  subst this
  rw[ha]at g2
  have:=Option.some.inj g2
  omega
 exact fun p hp y hy=>h.low.after hl hm.2.2 p hp y hy
theorem aG7.keep{c:d8}{m:List (List Bool)}{qs:List Int}{k a:Nat}{t:List Bool}{ns:List Int}{j:Nat}(h:aG7 c m qs k a t ns j)(hj:j<ns.length)(hc:ac3 t (rowAt m ns[j])=true):aG7 c m qs k a t ns (j+1):=by
 refine⟨h.low,h.q,h.pend,?_,h.cnt,h.bnd,h.tl⟩
 rcases h.self with g|⟨g1,g2⟩
 ·exact .inl g
 refine .inr ⟨fun y hy=>?_,g2⟩
 rw[K2 _ _ hj,cG2,cG7]at hy
 rcases hy with hy|hy
 ·exact g1 y hy
 rw[hy];exact hc
theorem aG7.push{c:d8}{m:List (List Bool)}{qs:List Int}{k a:Nat}{t:List Bool}{ns:List Int}{j:Nat}(h:aG7 c m qs k a t ns j)(hj:j<ns.length){y:Nat}(hy:ns[j]=(y:Int))(hyl:y<c.list.length)(hk:k<qs.length)
  (hc:ac3 t (rowAt m y)=false):aG7 c (m.set y (R7 (rowAt m y) t)) (qs++[(y:Int)]) k a t ns (j+1):=by
 have hl:y<m.length:=by rw[h.low.len];exact hyl
 have hr:=F3 h.low.ok y
 have h14:=af8 hr h.tl
 have hle:=aO5 (t:=t) hr
 have hmem:(y:Int)∈ns:=by rw[<-hy];exact cF3 hj
 have hpl:∀i:Nat,(∃p,k+1<=p/\qs[p]? =some (i:Int))->∃p,k+1<=p/\(qs++[(y:Int)])[p]? =some (i:Int):=by
  rintro i ⟨p,h1,h2⟩
  exact⟨p,h1,by rw[cF2 (cE7.1 h2).1];exact h2⟩
 have hpy:∃p,k+1<=p/\(qs++[(y:Int)])[p]? =some (y:Int):=⟨qs.length,hk,an⟩
 refine⟨?_,?_,?_,?_,?_,h.bnd,h.tl⟩
 ·refine h.low.set hl h14 fun p hp=>?_
  have h1:=h.bnd p hp y hmem
  refine⟨h1.1,bd6 ?_ h1.2⟩
  rcases h.low.low p hp y with h2|h2
  ·intro z hz
   rw[cF4 h2]at hz
   simp at hz
  exact h2.2
 ·intro x hx
  rw[D0 _ _ hl]
  rw[cG2,cG7]at hx
  rcases hx with hx|hx
  ·have:=h.q x hx
   refine⟨this.1,this.2.1,?_⟩
   split
   ·exact h14
   exact this.2.2
  subst hx
  refine⟨al,al,?_⟩
  rw[if_pos an]
  exact h14
 ·intro i hi hne
  by_cases e:i=y
  ·subst e;exact .inr hpy
  rcases h.pend i hi hne with g|g
  ·exact .inl (bE6 hl e h14 hle g)
  exact .inr (hpl i g)
 ·by_cases e:a=y
  ·subst e;exact .inl hpy
  rcases h.self with g|⟨g1,g2⟩
  ·exact .inl (hpl a g)
  refine .inr ⟨fun z hz=>?_,?_⟩
  ·rw[K2 _ _ hj,cG2,cG7]at hz
   rcases hz with hz|hz
   ·exact bT2 hl h14 hle (g1 z hz)
   rw[hz,hy,L7,D0 _ _ hl,if_pos an]
   exact⟨al,aE1 hr h.tl⟩
  rw[D0 _ _ hl,if_neg (by simpa using e)]
  exact g2
 have h1:=aH3 m y (R7 (rowAt m y) t) hl
 have h2:=bC1 hr h.tl hc
 rw[<-R4 hl]at h1
 have:=h.cnt
 rw[cE0,List.length_singleton]
 omega
theorem aG7.done{c:d8}{m:List (List Bool)}{qs:List Int}{k a:Nat}{t:List Bool}{j:Nat}(h:aG7 c m qs k a t (nx c a) j)(hj:(nx c a).length<=j):aT3 c m qs (k+1):=by
 refine⟨h.low,h.q,fun i hi=>?_,h.cnt⟩
 by_cases e:i=a
 ·subst e
  rcases h.self with g|⟨g1,g2⟩
  ·exact .inr g
  left
  rw[cF0 hj]at g1
  unfold X6
  rw[cI1]
  right
  rw[cE2,g2]
  exact g1
 exact h.pend i hi e
theorem aT3.done{c:d8}{m:List (List Bool)}{qs:List Int}(h:aT3 c m qs qs.length):K9 c m:=by
 refine h.low.least fun i hi=>?_
 rcases h.pend i (by rw[<-h.low.len];exact hi)with g|⟨p,g1,g2⟩
 ·exact g
 have:=(cE7.1 g2).1
 omega
structure aG6(c:d8)(m:List (List Bool))(p0:Nat)(ch:Bool)(i:Nat):Prop where
 low:Low c m
 cov:ch=false->∀j:Nat,j<i->X6 c m j=true
 le:pot m<=p0
 lt:ch=true->pot m<p0
structure KInv(c:d8)(m:List (List Bool))(p0:Nat)(ch:Bool)(i:Nat)(t:List Bool)(ns:List Int)(j:Nat):Prop where
 low:Low c m
 cov:ch=false->(∀j:Nat,j<i->X6 c m j=true)/\n6 c (L6 c i) (rowAt m i)=t/\∀y∈ns.take j,ac3 t (rowAt m y)=true
 le:pot m<=p0
 lt:ch=true->pot m<p0
 bnd:∀p,U4 c p->∀y∈ns,(rowAt p y).length≠0/\rle t (rowAt p y)
 tl:t.length=14
structure ay9(c:d8)(m:List (List Bool))(p0:Nat)(ch:Bool)(i:Nat)(t:List Bool)(ns:List Int)(j y q:Nat):Prop extends KInv c m p0 ch i t ns j where
 row:(rowAt m y).length=14
 bits:ch=false->∀k:Nat,k<q->t.getD k false=true->(rowAt m y).getD k false=true
theorem aG6.start{c:d8}{m:List (List Bool)}(h:Low c m):aG6 c m (pot m) false 0:=⟨h,fun _ j hj=>by omega,cE1 _,fun h=>by cases h⟩
theorem aG6.done{c:d8}{m:List (List Bool)}{p0 i:Nat}(h:aG6 c m p0 false i)(hi:m.length<=i):K9 c m:=h.low.least fun j hj=>h.cov rfl j al
theorem aG6.skip{c:d8}{m:List (List Bool)}{p0 i:Nat}{ch:Bool}(h:aG6 c m p0 ch i)(h0:(rowAt m i).length=0):aG6 c m p0 ch (i+1):=by
 refine⟨h.low,fun g j hj=>?_,h.le,h.lt⟩
 rcases cF9 j i with h1|h1
 ·exact h.cov g j h1
 obtain rfl:j=i:=al
 unfold X6
 rw[h0];rfl
theorem aG6.enter{c:d8}{m:List (List Bool)}{p0 i:Nat}{ch:Bool}(h:aG6 c m p0 ch i)(hi:i<m.length)(h14:(rowAt m i).length=14){ns:List Int}(hns:∀y,y∈ns↔y∈nx c i):KInv c m p0 ch i (n6 c (L6 c i) (rowAt m i)) ns 0:=
 ⟨h.low,fun g=>⟨h.cov g,rfl,an⟩,h.le,h.lt,fun p hp y hy=>h.low.after hi h14 p hp y ((hns y).1 hy),by rw[R1];exact h14⟩
theorem KInv.done{c:d8}{m:List (List Bool)}{p0 i j:Nat}{ch:Bool}{t:List Bool}{ns:List Int}(h:KInv c m p0 ch i t ns j)(hj:ns.length<=j)(hns:∀y,y∈ns↔y∈nx c i):aG6 c m p0 ch (i+1):=by
 refine⟨h.low,fun g k hk=>?_,h.le,h.lt⟩
 obtain⟨g1,g2,g3⟩:=h.cov g
 rcases cF9 k i with h1|h1
 ·exact g1 k h1
 obtain rfl:k=i:=al
 rw[cF0 hj]at g3
 unfold X6
 rw[cI1]
 right
 rw[cE2,g2]
 exact fun y hy=>g3 y ((hns y).2 hy)
theorem KInv.bits{c:d8}{m:List (List Bool)}{p0 i j y:Nat}{ch:Bool}{t:List Bool}{ns:List Int}(h:KInv c m p0 ch i t ns j)(h14:(rowAt m y).length=14):ay9 c m p0 ch i t ns j y 0:=
 ⟨h,h14,fun _ k hk=>by omega⟩
theorem KInv.fresh{c:d8}{m:List (List Bool)}{p0 i j y:Nat}{ch:Bool}{t:List Bool}{ns:List Int}(h:KInv c m p0 ch i t ns j)(hj:j<ns.length)(hy:ns[j]=(y:Int))(hym:y<m.length)(h0:(rowAt m y).length=0):
  ay9 c (m.set y (cD6 14 false)) p0 true i t ns j y 0:=by
 have hf:∀k:Nat,(cD6 14 false).getD k false=false:=by
  intro k
  simp only[cD7,cH8]
  split<;>rfl
 have hp:=aH3 m y (cD6 14 false) hym
 rw[<-R4 hym]at hp
 have e1:as8 (rowAt m y)=15:=by unfold as8;rw[if_pos h0]
 have e2:as8 (cD6 14 false)=14:=by rfl
 rw[e1,e2]at hp
 have hle:=h.le
 refine⟨⟨?_,(fun g=>by cases g),al,fun _=>by omega,h.bnd,h.tl⟩,?_,(fun g=>by cases g)⟩
 ·refine h.low.set hym an fun p hpp=>⟨(h.bnd p hpp y (by rw[<-hy];exact cF3 hj)).1,fun k hk=>?_⟩
  rw[hf k]at hk
  cases hk
 rw[D0 _ _ hym,if_pos an];simp
theorem ay9.keep{c:d8}{m:List (List Bool)}{p0 i j y q:Nat}{ch:Bool}{t:List Bool}{ns:List Int}(h:ay9 c m p0 ch i t ns j y q)(hq:t.getD q false=true->(rowAt m y).getD q false=true):ay9 c m p0 ch i t ns j y (q+1):=by
 refine⟨h.toKInv,h.row,fun g k hk ht=>?_⟩
 rcases cF9 k q with h1|h1
 ·exact h.bits g k h1 ht
 obtain rfl:k=q:=al
 exact hq ht
theorem ay9.put{c:d8}{m:List (List Bool)}{p0 i j y q:Nat}{ch:Bool}{t:List Bool}{ns:List Int}(h:ay9 c m p0 ch i t ns j y q)(hj:j<ns.length)(hy:ns[j]=(y:Int))(hym:y<m.length)(hq:q<14)(h1:t.getD q false=true)(h0:(rowAt m y).getD q false=false):
  ay9 c (m.set y ((rowAt m y).set q true)) p0 true i t ns j y (q+1):=by
 have hl:=h.row
 have hp:=aH3 m y ((rowAt m y).set q true) hym
 rw[<-R4 hym]at hp
 have hb:(rowAt m y)[q]? =some false:=by
  rw[cD7]at h0
  rw[cD8 al]at h0 ⊢
  simpa using h0
 have e1:as8 (rowAt m y)=(rowAt m y).count false:=by unfold as8;rw[if_neg al]
 have e2:as8 ((rowAt m y).set q true)=((rowAt m y).set q true).count false:=by unfold as8;rw[if_neg (by rw[cG4];omega)]
 have e3:=ap1 hb
 rw[e1,e2]at hp
 have hle:=h.le
 refine⟨⟨?_,(fun g=>by cases g),al,fun _=>by omega,h.bnd,h.tl⟩,?_,(fun g=>by cases g)⟩
 ·refine h.low.set hym (by rw[cG4];exact hl) fun p hpp=>?_
  have hb:=h.bnd p hpp y (by rw[<-hy];exact cF3 hj)
  refine⟨hb.1,fun k hk=>?_⟩
  rw[aP5]at hk
  split at hk
  ·rename_i e
   rw[e.1]
   exact hb.2 q h1
  rcases h.low.low p hpp y with h2|h2
  ·omega
  exact h2.2 k hk
 rw[D0 _ _ hym,if_pos an,cG4];exact hl
theorem ay9.done{c:d8}{m:List (List Bool)}{p0 i j y q:Nat}{ch:Bool}{t:List Bool}{ns:List Int}(h:ay9 c m p0 ch i t ns j y q)(hj:j<ns.length)(hy:ns[j]=(y:Int))(hq:14<=q):KInv c m p0 ch i t ns (j+1):=by
 refine⟨h.low,fun g=>?_,h.le,h.lt,h.bnd,h.tl⟩
 obtain⟨g1,g2,g3⟩:=h.cov g
 refine⟨g1,g2,fun z hz=>?_⟩
 rw[K2 _ _ hj,cG2,cG7]at hz
 rcases hz with hz|hz
 ·exact g3 z hz
 rw[hz,hy,L7]
 refine⟨by have:=h.row;omega,fun k hk=>?_⟩
 rcases cF9 k 14 with h1|h1
 ·exact h.bits g k al hk
 have:=h.tl
 simp[show t.length<=k by omega]at hk
theorem bC4{f:Nat->List Bool}{n:Nat}{i:Int}(h:i.toNat<n):rowAt ((cF5 n).map f) i=f i.toNat:=by simp[rowAt,h]
theorem bC3{m:List (List Bool)}{i:Int}(h:m.length<=i.toNat):rowAt m i=[]:=by simp[rowAt,h]
noncomputable def Z3(c:d8)(i:Nat):List Bool:=open Classical in if ∀p,U4 c p->(rowAt p i).length≠0 then(cF5 14).map fun k=>decide (∀p,U4 c p->(rowAt p i).getD k false=true)else []
noncomputable def aN1(c:d8):List (List Bool):=(cF5 c.list.length).map (Z3 c)
theorem aW7(c:d8)(i:Nat):(Z3 c i).length=0\/(Z3 c i).length=14:=by
 unfold Z3;split<;>simp
theorem ax4{c:d8}{i:Nat}:(Z3 c i).length≠0↔∀p,U4 c p->(rowAt p i).length≠0:=by
 unfold Z3;split
 ·rename_i h;simp only[List.length_map,List.length_range,ne_eq,Nat.reduceEqDiff,not_false_eq_true,true_iff];exact h
 rename_i h;simp only[cE9,ne_eq,not_true_eq_false,false_iff];exact h
theorem bd0{c:d8}{i:Nat}{p:List (List Bool)}(hp:U4 c p):rle (Z3 c i) (rowAt p i):=by
 intro k hk
 unfold Z3 at hk
 split at hk
 ·rcases cF9 k 14 with h1|h1
  ·simp[cD7,h1]at hk
   exact hk p hp
  simp[cD7,h1]at hk
 simp at hk
theorem bP4{c:d8}{i:Nat}{t:List Bool}(ht:t.length=14)(h0:∀p,U4 c p->(rowAt p i).length≠0)(h:∀p,U4 c p->rle t (rowAt p i)):rle t (Z3 c i):=by
 intro k hk
 have h1:k<14:=by
  rcases cF9 k 14 with h1|h1
  ·exact h1
  rw[cD7,cF6 al]at hk;simp at hk
 unfold Z3
 rw[if_pos h0]
 simp[cD7,h1]
 intro p hp
 have:=h p hp k hk
 rwa[cD7]at this
theorem bP3{c:d8}(hc:l5 c=true):∃m,K9 c m:=by
 have hn:=(v7 hc).2.1
 have hlen:(aN1 c).length=c.list.length:=by simp[aN1]
 have hat:∀i:Nat,i<c.list.length->rowAt (aN1 c) i=Z3 c i:=fun i hi=>by
  have:=bC4 (f:=Z3 c) (n:=c.list.length) (i:=(i:Int)) al
  simpa[aN1]using this
 have hoff:∀i:Nat,c.list.length<=i->rowAt (aN1 c) i=[]:=fun i hi=>bC3 (by rw[hlen];omega)
 refine⟨aN1 c,⟨hlen,?_,?_,?_⟩,?_⟩
 ·rw[cE2]
  intro r hr
  simp only[aN1,List.mem_map,cH4]at hr
  obtain⟨i,_,rfl⟩:=hr
  simp only[aw5,cI1,decide_eq_true_eq]
  exact aW7 c i
 ·have:=hat 0 al
  rw[show((0:Nat):Int)=0 from rfl]at this
  rw[this,ax4]
  exact fun p hp=>hp.2.2.1
 ·intro i hi
  rw[hlen]at hi
  unfold X6
  rw[hat i hi]
  rcases Nat.eq_zero_or_pos (Z3 c i).length with h0|h0
  ·rw[decide_eq_true h0];rfl
  rw[decide_eq_false al,Bool.false_or,cE2]
  intro t ht
  have ho:=bc8 hc al ht
  have h14:(Z3 c i).length=14:=by have:=aW7 c i;omega
  have key:∀p,U4 c p->ac3 (n6 c (L6 c i) (Z3 c i)) (rowAt p t)=true:=by
   intro p hp
   have h1:=hp.2.2.2 i (by rw[hp.1];exact hi)
   have hne:(rowAt p i).length≠0:=ax4.1 al p hp
   have h2:(rowAt p i).length=14:=by have:=F3 hp.2.1 i;omega
   unfold X6 at h1
   rw[decide_eq_false hne,Bool.false_or,cE2]at h1
   have h3:=(L7 _ _).1 (h1 t ht)
   exact(L7 _ _).2 ⟨h3.1,(aF2 al (bd0 hp)).trans h3.2⟩
  obtain⟨y,rfl⟩:=Int.eq_ofNat_of_zero_le ho.1
  rw[hat y al]
  refine(L7 _ _).2 ⟨Nat.pos_of_ne_zero (ax4.2 fun p hp=>?_),bP4 (by rw[R1];exact h14) (fun p hp=>?_) fun p hp=>?_⟩
  ·have:=((L7 _ _).1 (key p hp)).1;omega
  ·have:=((L7 _ _).1 (key p hp)).1;omega
  exact((L7 _ _).1 (key p hp)).2
 intro p hp i
 rcases cF9 i c.list.length with hi|hi
 ·rw[hat i hi]
  rcases Nat.eq_zero_or_pos (Z3 c i).length with h0|h0
  ·exact .inl h0
  exact .inr ⟨ax4.1 al p hp,bd0 hp⟩
 rw[hoff i hi];exact .inl rfl
theorem bC8{c:d8}{x:d9}{t u:List Bool}(h:rle t u)(hu:G6 c x u=0):G6 c x t=0:=by
 have hb:=bi1 h
 have nb:∀k,bAt u k=false->bAt t k=false:=fun k hk=>by
  cases e:bAt t k
  ·rfl
  rw[hb k e]at hk;cases hk
 unfold G6 at hu ⊢
 split
 ·rename_i h3
  rw[if_pos h3]at hu
  cases e:bAt t x.b
  ·rfl
  rw[hb _ e]at hu;exact hu
 rename_i h3
 rw[if_neg h3]at hu
 split
 ·rename_i h4
  rw[if_pos h4]at hu
  cases e:bAt t x.c
  ·rfl
  rw[hb _ e]at hu;exact hu
 rename_i h4
 rw[if_neg h4]at hu
 split
 ·rename_i h5
  rw[if_pos h5]at hu
  cases e:bAt u x.b
  ·rw[nb _ e]
   rw[e]at hu
   cases e2:bAt t x.c
   ·rfl
   rw[hb _ e2]at hu;exact hu
  rw[e]at hu;simp at hu
 rename_i h5
 rw[if_neg h5]at hu
 split
 ·rename_i h9
  rw[if_pos h9]at hu
  cases e:bAt t x.a
  ·rfl
  rw[hb _ e]at hu;exact hu
 rfl
theorem au4{c:d8}{m:List (List Bool)}:I1 c m m.length=false↔∀i:Nat,i<m.length->(rowAt m i).length=0\/G6 c (L6 c i) (rowAt m i)=0:=by
 unfold I1
 rw[Bool.eq_false_iff,ne_eq,List.any_eq_true]
 constructor
 ·intro h i hi
  rcases Nat.eq_zero_or_pos (rowAt m i).length with h0|h0
  ·exact .inl h0
  right
  by_cases e:G6 c (L6 c i) (rowAt m i)=0
  ·exact e
  exact absurd ⟨i,cH4.2 hi,by unfold badAt;rw[decide_eq_true h0,decide_eq_true e];rfl⟩ h
 rintro h ⟨i,hi,hb⟩
 simp only[badAt,cD5,decide_eq_true_eq]at hb
 rcases h i (cH4.1 hi)with h1|h1
 ·omega
 exact hb.2 h1
theorem aP8{c:d8}{m:List (List Bool)}:(H8 c m).1=0↔I1 c m m.length=false:=by
 have h:=bf5 c m
 constructor
 ·intro e
  rw[decide_eq_true e]at h
  simpa using h.symm
 intro e
 rw[e]at h
 simpa using h
def Vf(c:d8):Prop:=∃p,U4 c p/\I1 c p p.length=false
theorem bI9{c:d8}{m:List (List Bool)}(hm:K9 c m):(H8 c m).1=0↔Vf c:=by
 constructor
 ·intro h;exact⟨m,hm.1,aP8.1 h⟩
 rintro⟨p,hp,hb⟩
 refine aP8.2 (au4.2 fun i hi=>?_)
 rcases hm.2 p hp i with h0|⟨h0,h1⟩
 ·exact .inl h0
 rcases au4.1 hb i (by rw[hp.1, <-hm.1.1];exact hi)with h4|h4
 ·omega
 exact .inr (bC8 h1 h4)
theorem bc2{c:d8}{p:List (List Bool)}(hp:U4 c p){i:Int}(h0:0<=i)(hi:i<c.list.length)(hne:(rowAt p i).length≠0){t:Int}(ht:t∈nx c i):ac3 (n6 c (L6 c i.toNat) (rowAt p i)) (rowAt p t)=true:=by
 obtain⟨y,rfl⟩:=Int.eq_ofNat_of_zero_le h0
 have h1:=hp.2.2.2 y (by rw[hp.1];omega)
 unfold X6 at h1
 rw[decide_eq_false hne,Bool.false_or,cE2]at h1
 exact h1 t ht
end Go.Proofs.YtfbeblgnjeokaaaGreat

namespace Go.Proofs.YtfbeblgnjeokaaaGreat
open Go Go.RowKit
abbrev bools(l:List Bool):List Value:=l.map Value.bool
theorem A4(l:List Bool)(k:Nat)(h:k<l.length):(bools l)[k]? =some (.bool l[k]):=by simp[bools,h]
theorem aX3:(Tryz.prog.info? 4).map (fun i=>(i.zero,i.size,i.bytes))=some (some (.bool false),1,1):=aj
theorem bQ9:(Tryz.prog.info? 63).map (fun i=>(i.zero,i.size,i.bytes))=some (some (.slice none 0 0),1,24):=aj
def R2(w:World)(v:Value)(m:List (List Bool)):Prop:=
 ∃vs:List Value,J0 w v m.length 1 vs/\∀(i:Nat) (u:Value) (r:List Bool),vs[i]? =some u->m[i]? =some r->J0 w u r.length 1 (bools r)
def Y6(w:World)(lo hi:Nat)(v:Value)(m:List (List Bool)):Prop:=
 ∃vs:List Value,D2 w lo hi 63 1 v m.length vs/\(∀(i:Nat) (u:Value) (r:List Bool),vs[i]? =some u->m[i]? =some r->D2 w lo hi 4 1 u r.length (bools r))/\
  (∀(i j:Nat) (u u':Value),i<j->vs[i]? =some u->vs[j]? =some u'->ai4 u u')/\∀(i:Nat) (u:Value),vs[i]? =some u->ai4 u v
theorem R2.below{w w':World}{v:Value}{m:List (List Bool)}(h:R2 w v m)(hb:Below w.heap.size w w'):R2 w' v m:=by
 obtain⟨vs,h1,h2⟩:=h
 exact⟨vs,h1.below hb,fun i u r a b=>(h2 i u r a b).below hb⟩
theorem Y6.row{w:World}{lo hi:Nat}{v:Value}{m:List (List Bool)}(h:Y6 w lo hi v m):R2 w v m:=by
 obtain⟨vs,h1,h2,_⟩:=h
 exact⟨vs,h1.row,fun i u r a b=>(h2 i u r a b).row⟩
theorem Y6.keep{w w':World}{lo hi B:Nat}{v:Value}{m:List (List Bool)}(h:Y6 w lo hi v m)(hb:Below B w w')(hB:hi<=B):Y6 w' lo hi v m:=by
 obtain⟨vs,h1,h2,hd⟩:=h
 exact⟨vs,h1.keep hb hB,fun i u r a b=>(h2 i u r a b).keep hb hB,hd⟩
theorem Y6.out{w w':World}{lo hi lo' hi':Nat}{v:Value}{m:List (List Bool)}(h:Y6 w lo hi v m)(hb:Out lo' hi' w w')(hB:hi<=lo'\/hi'<=lo):Y6 w' lo hi v m:=by
 obtain⟨vs,h1,h2,hd⟩:=h
 exact⟨vs,h1.out hb hB,fun i u r a b=>(h2 i u r a b).out hb hB,hd⟩
theorem Y6.wide{w:World}{lo hi lo' hi':Nat}{v:Value}{m:List (List Bool)}(h:Y6 w lo hi v m)(g1:lo'<=lo)(g2:hi<=hi'):Y6 w lo' hi' v m:=by
 obtain⟨vs,h1,h2,hd⟩:=h
 exact⟨vs,h1.wide g1 g2,fun i u r a b=>(h2 i u r a b).wide g1 g2,hd⟩
theorem R2.open{w:World}{v:Value}{m:List (List Bool)}(h:R2 w v m):∃a cap,v=.slice a m.length cap/\m.length<=9223372036854775807/\
  ∀i (hi:i<m.length),∃b off a' c',a=some ⟨b,off,none⟩/\b<w.heap.size/\w.cell? ⟨b,off+i,none⟩=some (.slice a' m[i].length c')/\J0 w (.slice a' m[i].length c') m[i].length 1 (bools m[i]):=by
 obtain⟨vs,h1,h2⟩:=h
 obtain⟨a,cap,hv,hc,hm,hm2,hcell⟩:=h1.open1
 refine⟨a,cap,hv,hm,fun i hi=>?_⟩
 obtain⟨b,off,ha,hb,hx⟩:=hcell i hi
 have hl:i<vs.length:=by rw[h1.1];omega
 rw[cD8 hl]at hx
 have hr:=h2 i _ _ (cD8 hl) (cD8 hi)
 obtain⟨a',c',hs⟩:=hr.form
 rw[hs]at hx hr
 exact⟨b,off,a',c',ha,hb,hx,hr⟩
end Go.Proofs.YtfbeblgnjeokaaaGreat

namespace Go.Proofs.YtfbeblgnjeokaaaGreat
open Go Go.RowKit Go.ChangeShapes Go.WideShapes Go.Deep
section
variable{H:Type}{enc:TypeId×Value->H}{W:World}
end
end Go.Proofs.YtfbeblgnjeokaaaGreat

namespace Go.Proofs.YtfbeblgnjeokaaaGreat
open Go Go.RowKit
def E1(w:World)(lo hi g:Nat)(m:List (List Bool)):Prop:=
 Y6 w lo hi (.slice (some ⟨g,0,none⟩) m.length m.length) m/\∀i:Nat,i<m.length->(rowAt m i).length=0->w.cell? ⟨g,i,none⟩=some (.slice none 0 0)
theorem E1.wide{w:World}{lo hi lo' hi' g:Nat}{m:List (List Bool)}(h:E1 w lo hi g m)(h1:lo'<=lo)(h2:hi<=hi'):E1 w lo' hi' g m:=⟨h.1.wide h1 h2,h.2⟩
theorem E1.lt{w:World}{lo hi g:Nat}{m:List (List Bool)}(h:E1 w lo hi g m):lo<=g/\g<hi/\g<w.heap.size:=by
 obtain⟨vs,h1,_⟩:=h.1
 exact h1.lt g rfl
theorem E1.keep{w w':World}{lo hi B g:Nat}{m:List (List Bool)}(h:E1 w lo hi g m)(hb:Below B w w')(hB:hi<=B):E1 w' lo hi g m:=by
 have hl:=h.lt
 exact⟨h.1.keep hb hB,fun i hi h0=>(hb.cell (p:=⟨g,i,none⟩) (by show g<B;omega)).trans (h.2 i hi h0)⟩
theorem E1.at{w:World}{lo hi g:Nat}{m:List (List Bool)}(h:E1 w lo hi g m){i:Nat}(hi':i<m.length):
  w.frozen? ⟨g,i,none⟩=false/\∃u,w.cell? ⟨g,i,none⟩=some u/\D2 w lo hi 4 1 u (rowAt m i).length (bools (rowAt m i))/\u.ownBlock≠some g:=by
 obtain⟨vs,h1,h2,h3,h4⟩:=h.1
 have hl:i<vs.length:=by have:=h1.1.1;omega
 obtain⟨g',cap,hv,-,-,-,hf,u0,hc⟩:=h1.at hl
 cases hv
 obtain⟨g',cap,hv,-,-,-,-,-,-,hcc⟩:=h1.open al
 cases hv
 have hu:=cD8 hl
 refine⟨hf,vs[i],hcc i _ hu,?_,fun e=>h4 i _ hu g e rfl⟩
 have:=h2 i _ _ hu (cD8 hi')
 rw[R4 hi']
 exact this
theorem E1.at14{w:World}{lo hi g:Nat}{m:List (List Bool)}(h:E1 w lo hi g m){i:Nat}(hi':i<m.length)(h14:(rowAt m i).length=14):
  ∃gy cy,w.cell? ⟨g,i,none⟩=some (.slice (some ⟨gy,0,none⟩) 14 cy)/\lo<=gy/\gy<hi/\gy<w.heap.size/\gy≠g/\14<=cy/\cy<=9223372036854775807/\(∀o,w.frozen? ⟨gy,o,none⟩=false)/\(∀k:Nat,k<14->w.cell? ⟨gy,k,none⟩=some (.bool ((rowAt m i).getD k false)))/\
  J0 w (.slice (some ⟨gy,0,none⟩) 14 cy) 14 1 (bools (rowAt m i)):=by
 obtain⟨-,u,hc,ho,hn⟩:=h.at hi'
 rw[h14]at ho
 obtain⟨gy,cy,rfl,g1,g2,g3,g4,g5,g6,g7⟩:=ho.open al
 refine⟨gy,cy,hc,g1,g2,g3,fun e=>hn (by rw[e];rfl),g4,g5,g6,fun k hk=>?_,ho.row⟩
 rw[g7 k _ (A4 _ k al)]
 simp[show k<(rowAt m i).length by omega]
theorem b34{vs:List Value}{y:Nat}{u:Value}(hd:∀(i j:Nat) (a b:Value),i<j->vs[i]? =some a->vs[j]? =some b->ai4 a b)(hu:∀i a,vs[i]? =some a->i≠y->ai4 a u):
  ∀(i j:Nat) (a b:Value),i<j->(vs.set y u)[i]? =some a->(vs.set y u)[j]? =some b->ai4 a b:=by
 intro i j a b hij ha hb
 rw[cH9]at ha hb
 by_cases h1:y=i
 ·rw[if_pos h1]at ha
  have h2:¬y=j:=al
  rw[if_neg h2]at hb
  split at ha
  ·cases ha
   exact(hu j b hb al).symm
  cases ha
 rw[if_neg h1]at ha
 by_cases h2:y=j
 ·rw[if_pos h2]at hb
  split at hb
  ·cases hb
   exact hu i a ha al
  cases hb
 rw[if_neg h2]at hb
 exact hd i j a b hij ha hb
theorem O6(w:World)(b j:Nat)(u:Value)(k:Nat)(h:k≠b):(w.setCell ⟨b,j,none⟩ u).heap[k]? =w.heap[k]? :=Below.heap_setCell _ _ _ _ h
theorem E1.setRow{w:World}{lo hi lo' hi' g:Nat}{m:List (List Bool)}(h:E1 w lo hi g m){y:Nat}(hy:y<m.length){u:Value}{r:List Bool}(hr:r.length=14)(hu:D2 w lo' hi' 4 1 u 14 (bools r))(h1:hi<=lo')(h2:lo'<=hi'):
  E1 (w.setCell ⟨g,y,none⟩ u) lo hi' g (m.set y r):=by
 have hgl:=h.lt
 obtain⟨⟨vs,k1,k2,k3,k4⟩,hnil⟩:=h
 have hvl:vs.length=m.length:=by have:=k1.1.1;omega
 have hug:∀g',u.ownBlock=some g'->g'≠g:=fun g' e=>by have:=hu.lt g' e;omega
 refine⟨⟨vs.set y u,?_,?_,?_,?_⟩,?_⟩
 ·rw[cG4]
  exact(k1.setCell al u).wide (cE1 _) al
 ·intro i a r' ha hr'
  rw[cH9]at ha hr'
  split at ha
  ·rename_i e
   rw[if_pos e]at hr'
   rw[if_pos hy]at hr'
   cases hr'
   split at ha
   ·cases ha
    rw[hr]
    exact(hu.same fun g' e=>O6 _ _ _ _ _ (hug g' e)).wide al (cE1 _)
   cases ha
  rename_i e
  rw[if_neg e]at hr'
  exact((k2 i a r' ha hr').same fun g' e=>O6 _ _ _ _ _ fun e'=>k4 i a ha g' e (by rw[e'];rfl)).wide (cE1 _) al
 ·refine b34 k3 fun i a ha _=>?_
  have hi:i<m.length:=by have:=(cE7.1 ha).1;omega
  exact a51 (k2 i a _ ha (cD8 hi)) hu al
 ·intro i a ha
  rw[cH9]at ha
  split at ha
  ·split at ha
   ·cases ha
    exact fun g' e e'=>hug g' e (by cases e';rfl)
   cases ha
  have:=k4 i a ha
  rw[cG4]
  exact this
 intro i hi h0
 rw[cG4]at hi
 rw[D0 _ _ hy]at h0
 split at h0
 ·omega
 rename_i e
 rw[World.cell?_setCell_other _ _ _ _ (by intro e';cases e';exact e an)]
 exact hnil i hi h0
theorem E1.setBit{w:World}{lo hi g:Nat}{m:List (List Bool)}(h:E1 w lo hi g m){y:Nat}(hy:y<m.length){gy cy:Nat}(hc:w.cell? ⟨g,y,none⟩=some (.slice (some ⟨gy,0,none⟩) 14 cy))(h14:(rowAt m y).length=14){k:Nat}(hk:k<14)(b:Bool):
  E1 (w.setCell ⟨gy,k,none⟩ (.bool b)) lo hi g (m.set y ((rowAt m y).set k b)):=by
 have hgl:=h.lt
 obtain⟨⟨vs,k1,k2,k3,k4⟩,hnil⟩:=h
 have hvl:vs.length=m.length:=by have:=k1.1.1;omega
 have hyv:y<vs.length:=al
 obtain⟨g',cap,hv,-,-,-,-,-,-,hcc⟩:=k1.open al
 cases hv
 have hvy:vs[y]? =some (.slice (some ⟨gy,0,none⟩) 14 cy):=by
  have:=hcc y _ (cD8 hyv)
  rw[hc]at this
  rw[cD8 hyv, <-Option.some.inj this]
 have hgy:gy≠g:=fun e=>k4 y _ hvy gy rfl (by rw[e];rfl)
 have hgr:rowAt m y=m[y]:=R4 hy
 refine⟨⟨vs,?_,?_,k3,?_⟩,?_⟩
 ·rw[cG4]
  exact k1.same fun g' e=>O6 _ _ _ _ _ (by cases e;exact fun e=>hgy e.symm)
 ·intro i a r' ha hr'
  rw[cH9]at hr'
  by_cases e:y=i
  ·subst e
   rw[if_pos rfl,if_pos hy]at hr'
   cases hr'
   rw[hvy]at ha
   cases ha
   have ho:=k2 y _ _ hvy (cD8 hy)
   rw[<-hgr,h14]at ho
   rw[cG4,h14]
   have:=ho.setCell (j:=k) ah (.bool b)
   rw[show bools ((rowAt m y).set k b)=(bools (rowAt m y)).set k (.bool b) by simp[bools,List.map_set]]
   exact this
  rw[if_neg e]at hr'
  refine(k2 i a r' ha hr').same fun g' e'=>O6 _ _ _ _ _ fun e2=>?_
  subst e2
  rcases cF9 y i with hlt|hge
  ·exact k3 y i _ _ hlt hvy ha g' rfl e'
  exact k3 i y _ _ al ha hvy g' e' rfl
 ·intro i a ha
  rw[cG4]
  exact k4 i a ha
 intro i hi h0
 rw[cG4]at hi
 rw[D0 _ _ hy]at h0
 split at h0
 ·rw[cG4]at h0;omega
 rw[World.cell?_setCell_other _ _ _ _ (by intro e';cases e';exact hgy rfl)]
 exact hnil i hi h0
def aa7(w:World)(g:Nat)(m:List (List Bool))(b:Nat):Prop:=b=g\/∃(i:Nat) (u:Value),i<m.length/\w.cell? ⟨g,i,none⟩=some u/\u.ownBlock=some b
theorem E1.blk{w:World}{lo hi g:Nat}{m:List (List Bool)}(h:E1 w lo hi g m){b:Nat}(hb:aa7 w g m b):lo<=b/\b<hi/\b<w.heap.size:=by
 rcases hb with rfl|⟨i,u,hi',hc,hu⟩
 ·exact h.lt
 obtain⟨-,u',hc',ho,-⟩:=h.at hi'
 rw[hc]at hc'
 cases hc'
 exact ho.lt b hu
theorem aX7{w w':World}{b:Nat}(h:w'.heap[b]? =w.heap[b]?)(o:Nat):w'.cell? ⟨b,o,none⟩=w.cell? ⟨b,o,none⟩:=by simp[World.cell?,h]
theorem E1.same{w w':World}{lo hi g:Nat}{m:List (List Bool)}(h:E1 w lo hi g m)(hs:∀b,aa7 w g m b->w'.heap[b]? =w.heap[b]?):E1 w' lo hi g m/\∀b,aa7 w' g m b->aa7 w g m b:=by
 have hg:=hs g (.inl rfl)
 obtain⟨⟨vs,k1,k2,k3,k4⟩,hnil⟩:=h
 have hvl:vs.length=m.length:=by have:=k1.1.1;omega
 have hrow:∀(i:Nat) (u:Value),vs[i]? =some u->i<m.length/\w.cell? ⟨g,i,none⟩=some u:=by
  intro i u hu
  have hi':=(cE7.1 hu).1
  obtain⟨g',cap,hv,-,-,-,-,-,-,hcc⟩:=k1.open al
  cases hv
  exact⟨al,hcc i u hu⟩
 refine⟨⟨⟨vs,k1.same fun g' e=>by cases e;exact hg,fun i u r hu hr=>(k2 i u r hu hr).same fun b e=>hs b (.inr ⟨i,u,(hrow i u hu).1,(hrow i u hu).2,e⟩),k3,k4⟩,fun i hi' h0=>(aX7 hg i).trans (hnil i hi' h0)⟩,?_⟩
 rintro b (rfl|⟨i,u,h1,h2,h3⟩)
 ·exact .inl rfl
 exact .inr ⟨i,u,h1,(aX7 hg i).symm.trans h2,h3⟩
theorem E1.next{w w':World}{lo hi g:Nat}{m:List (List Bool)}(h:E1 w lo hi g m)(hb:Below w.heap.size w w'):E1 w' lo hi g m/\∀b,aa7 w' g m b->aa7 w g m b:=
 h.same fun b hb'=>hb.block b (h.blk hb').2.2
theorem E1.grown{w w':World}{lo hi g:Nat}{m:List (List Bool)}{row:Option Nat}(h:E1 w lo hi g m)(hg:w.grownBy w' row)(hne:∀b,row=some b->¬aa7 w g m b):E1 w' lo hi g m/\∀b,aa7 w' g m b->aa7 w g m b:=
 h.same fun b hb'=>hg.block b (h.blk hb').2.2 fun he=>hne b he.symm hb'
theorem E1.setRow_blk{w:World}{lo hi g:Nat}{m:List (List Bool)}(h:E1 w lo hi g m){y:Nat}(hy:y<m.length)(u:Value)(r:List Bool){b:Nat}(hb:aa7 (w.setCell ⟨g,y,none⟩ u) g (m.set y r) b):aa7 w g m b\/u.ownBlock=some b:=by
 rcases hb with rfl|⟨i,u',h1,h2,h3⟩
 ·exact .inl (.inl rfl)
 rw[cG4]at h1
 by_cases e:i=y
 ·subst e
  obtain⟨hf,u0,hc,-,-⟩:=h.at hy
  rw[World.cell?_setCell_same _ _ _ hc]at h2
  cases h2
  exact .inr h3
 rw[World.cell?_setCell_other _ _ _ _ (by intro e';cases e';exact e rfl)]at h2
 exact .inl (.inr ⟨i,u',h1,h2,h3⟩)
theorem E1.setBit_blk{w:World}{g gy k y b':Nat}{m:List (List Bool)}{r:List Bool}{u:Value}(hne:gy≠g)(hb:aa7 (w.setCell ⟨gy,k,none⟩ u) g (m.set y r) b'):aa7 w g m b':=by
 rcases hb with rfl|⟨i,u',h1,h2,h3⟩
 ·exact .inl rfl
 rw[cG4]at h1
 rw[World.cell?_setCell_other _ _ _ _ (by intro e';cases e';exact hne rfl)]at h2
 exact .inr ⟨i,u',h1,h2,h3⟩
def I5(w:World)(g:Nat)(m:List (List Bool))(v:Value):Prop:=∀b,v.ownBlock=some b->¬aa7 w g m b
theorem I5.next{w w':World}{lo hi g:Nat}{m:List (List Bool)}{v:Value}(h:I5 w g m v)(hS:E1 w lo hi g m)(hb:Below w.heap.size w w'):I5 w' g m v:=fun b hv hm=>h b hv ((hS.next hb).2 b hm)
theorem I5.setRow{w:World}{lo hi g y:Nat}{m:List (List Bool)}{v u:Value}{r:List Bool}(h:I5 w g m v)(hS:E1 w lo hi g m)(hy:y<m.length)(hu:∀b,v.ownBlock=some b->u.ownBlock≠some b):I5 (w.setCell ⟨g,y,none⟩ u) g (m.set y r) v:=by
 intro b hv hm
 rcases hS.setRow_blk hy _ _ hm with h1|h1
 ·exact h b hv h1
 exact hu b hv h1
theorem I5.setBit{w:World}{g gy k y:Nat}{m:List (List Bool)}{v u:Value}{r:List Bool}(h:I5 w g m v)(hne:gy≠g):I5 (w.setCell ⟨gy,k,none⟩ u) g (m.set y r) v:=fun b hv hm=>h b hv (E1.setBit_blk hne hm)
theorem aa9{w:World}{lo hi g b j:Nat}{m:List (List Bool)}{e:TypeId}{sz:Nat}{v u:Value}{n:Nat}{xs:List Value}(h:D2 w lo hi e sz v n xs)(ha:I5 w g m v)(hb:aa7 w g m b):D2 (w.setCell ⟨b,j,none⟩ u) lo hi e sz v n xs:=
 h.same fun g' e=>O6 _ _ _ _ _ fun e'=>ha g' e (e'▸hb)
theorem R2.unique{w:World}{v:Value}{m p:List (List Bool)}(h:R2 w v m)(g:R2 w v p):m=p:=by
 obtain⟨a,cap,rfl,-,h2⟩:=h.open
 obtain⟨a',cap',hv,-,g2⟩:=g.open
 simp only[Value.slice.injEq]at hv
 obtain⟨rfl,hl,rfl⟩:=hv
 have hl:m.length=p.length:=al
 apply List.ext_getElem hl
 intro i hi hj
 obtain⟨b,off,a1,c1,e1,-,x1,r1⟩:=h2 i hi
 obtain⟨b',off',a2,c2,e2,-,x2,r2⟩:=g2 i hj
 rw[e1]at e2
 cases e2
 rw[x1]at x2
 have x2:=Option.some.inj x2
 simp only[Value.slice.injEq]at x2
 obtain⟨rfl,hlr,rfl⟩:=x2
 have hlr:m[i].length=p[i].length:=al
 obtain⟨a3,k3,hv3,-,-,-,f3⟩:=r1.open1
 obtain⟨a4,k4,hv4,-,-,-,f4⟩:=r2.open1
 cases hv3
 simp only[Value.slice.injEq]at hv4
 obtain⟨rfl,-,-⟩:=hv4
 apply List.ext_getElem hlr
 intro j g1 g2
 obtain⟨b3,o3,e3,-,y3⟩:=f3 j g1
 obtain⟨b4,o4,e4,-,y4⟩:=f4 j g2
 rw[e3]at e4
 cases e4
 rw[A4 _ _ g1]at y3
 rw[A4 _ _ g2]at y4
 rw[y3]at y4
 have:=Option.some.inj y4
 cases hb1:m[i][j]<;>cases hb2:p[i][j]<;>simp_all
noncomputable def aE0(w:World)(v:Value):Nat:=open Classical in if h:∃m,R2 w v m then pot h.choose else 0
theorem bM8{w:World}{v:Value}{m:List (List Bool)}(h:R2 w v m):aE0 w v=pot m:=by
 unfold aE0
 have hx:∃m,R2 w v m:=⟨m,h⟩
 rw[dif_pos hx]
 rw[R2.unique hx.choose_spec h]
theorem E1.pot{w:World}{lo hi g:Nat}{m:List (List Bool)}(h:E1 w lo hi g m):aE0 w (.slice (some ⟨g,0,none⟩) m.length m.length)=pot m:=bM8 h.1.row
theorem ap8{l:List Bool}:∀u∈bools l,u.oneCell'=true:=by
 intro u hu
 obtain⟨x,_,rfl⟩:=List.mem_map.1 hu
 rfl
theorem bo9(v:Value)(t:List Bool)(w:World)(h:J0 w v t.length 1 (bools t))(hb:t.length<=100000000000000):
  Calls Tryz.prog 112 #[v] w fun e w'=>∃u,e=.returned u/\D2 w' w.heap.size w'.heap.size 4 1 u t.length (bools t)/\Below w.heap.size w w':=by
 obtain⟨a,cap,rfl,hc1,hc2,hc3,-⟩:=h.open
 have hnil:=fun w=>Lib.run_eql_slice_nil (P:=Tryz.prog) w 63 4 a t.length cap 0 0 Tryz.underlying63
 rcases a with _|a
 ·have hn:t.length=0:=by
   rcases Nat.eq_zero_or_pos t.length with h0|h0
   ·exact h0
   obtain⟨_,a,c,he,_,_,hx⟩:=h
   cases he
   obtain⟨_,_,he,_⟩:=hx h0
   cases he
  have ht:t=[]:=cF4 hn
  subst ht
  simp only[cE9,Option.isNone_none]at hnil
  go_enter Tryz.func112,Tryz.ntmps112
  go_wp2_with fail
  go_ret
  exact⟨_,rfl,⟨World.ownsRow_nil _ _ _ _,fun g hg=>by cases hg⟩,Below.refl _ _⟩
 go_enter Tryz.func112,Tryz.ntmps112
 simp only[Option.isNone_some]at hnil
 have ba:=(Below.refl w.heap.size w).alloc (cE1 _) (.cells #[] 4)
 go_wp2_with (at_builtin;refine H4 rfl _ _ rfl Tryz.underlying63 aX3 rfl al rfl (A8 w #[] 0 1 _ rfl rfl al).1 rfl (h.below ba) ap8 al al an ?_;rintro a4 q4 w4 o4 b4- -)
 go_ret
 refine⟨_,rfl,D2.mk' (by simpa using o4),ba.trans b4⟩
theorem al3(n:Nat)(v:Value):(G2 [v] n).toArray=cG9 n v:=by rw[ac8];simp
theorem aW8(W:World)(n:Nat)(hn:1<=n)(hm:n<=9223372036854775807):
  let W2:=(W.alloc (.cells (cG9 n (.slice none 0 0)) 63)).alloc (.cells (cG9 14 (.bool false)) 4)
  W2.frozen? ⟨W.heap.size,0,none⟩=false/\(∃u,W2.cell? ⟨W.heap.size,0,none⟩=some u)/\
  E1 (W2.setCell ⟨W.heap.size,0,none⟩ (.slice (some ⟨W.heap.size+1,0,none⟩) 14 14)) W.heap.size (W.heap.size+1+1) W.heap.size ((cD6 n ([]:List Bool)).set 0 (cD6 14 false)):=by
 intro W2
 have h0:=bc4 W [.slice none 0 0] n 1 63 rfl hm
 rw[al3,ac8]at h0
 have k0:Below (W.heap.size+1) (W.alloc (.cells (cG9 n (.slice none 0 0)) 63)) W2:=by
  have:=(Below.refl (W.heap.size+1) (W.alloc (.cells (cG9 n (.slice none 0 0)) 63))).alloc an (.cells (cG9 14 (.bool false)) 4)
  exact this
 have h1:=h0.keep k0 (cE1 _)
 have hS:E1 W2 W.heap.size (W.heap.size+1) W.heap.size (cD6 n ([]:List Bool)):=by
  refine⟨⟨cD6 n (.slice none 0 0),by rw[cF8];exact h1,fun i u r hu hr=>?_,fun i j a b _ ha _=>?_,fun i u hu=>?_⟩,fun i hi _=>?_⟩
  ·rw[cH8]at hu hr
   split at hu
   ·rename_i hi
    rw[if_pos hi]at hr
    cases hu;cases hr
    exact⟨World.ownsRow_nil _ _ _ _,fun g hg=>by cases hg⟩
   cases hu
  ·rw[cH8]at ha
   split at ha
   ·cases ha;intro g hg;cases hg
   cases ha
  ·rw[cH8]at hu
   split at hu
   ·cases hu;intro g hg;cases hg
   cases hu
  rw[cF8]at hi
  obtain⟨g,cap,hv,-,-,-,-,-,-,hcc⟩:=h1.open al
  cases hv
  exact hcc i _ (by rw[cH8,if_pos hi])
 have hr:D2 W2 (W.heap.size+1) (W.heap.size+1+1) 4 1 (.slice (some ⟨W.heap.size+1,0,none⟩) 14 14) 14 (bools (cD6 14 false)):=by
  have:=A8 (W.alloc (.cells (cG9 n (.slice none 0 0)) 63)) (g:=W.heap.size+1) (cG9 14 (.bool false)) 14 1 4 an an al
  rw[show(cG9 14 (Value.bool false)).toList=bools (cD6 14 false) by simp[bools]]at this
  simpa using this
 have hl:0<(cD6 n ([]:List Bool)).length:=by rw[cF8];omega
 obtain⟨hf,u,hc,-⟩:=hS.at hl
 exact⟨hf,⟨u,hc⟩,(hS.setRow hl an hr (cE1 _) al)⟩
theorem bD6{w:World}{lo g y:Nat}{m:List (List Bool)}(h:E1 w lo w.heap.size g m)(hy:y<m.length):
  (w.alloc (.cells (cG9 14 (.bool false)) 4)).frozen? ⟨g,y,none⟩=false/\(∃u,(w.alloc (.cells (cG9 14 (.bool false)) 4)).cell? ⟨g,y,none⟩=some u)/\
  E1 ((w.setCell ⟨g,y,none⟩ (.slice (some ⟨w.heap.size,0,none⟩) 14 14)).alloc (.cells (cG9 14 (.bool false)) 4)) lo (w.heap.size+1) g (m.set y (cD6 14 false))/\
  ∀v:Value,I5 w g m v->(∀b,v.ownBlock=some b->b<w.heap.size)->I5 ((w.setCell ⟨g,y,none⟩ (.slice (some ⟨w.heap.size,0,none⟩) 14 14)).alloc (.cells (cG9 14 (.bool false)) 4)) g (m.set y (cD6 14 false)) v:=by
 have hlt:=h.lt
 have ba:Below w.heap.size w (w.alloc (.cells (cG9 14 (.bool false)) 4)):=by go_grown
 have h1:=(h.next ba).1
 have hr:=A8 w (g:=w.heap.size) (cG9 14 (.bool false)) 14 1 4 rfl an al
 rw[show(cG9 14 (Value.bool false)).toList=bools (cD6 14 false) by simp[bools]]at hr
 have h2:=h1.setRow hy an hr (cE1 _) al
 have e:=World.setCell_alloc_past (w:=w) (.cells (cG9 14 (.bool false)) 4) g y (.slice (some ⟨w.heap.size,0,none⟩) 14 14) hlt.2.2
 rw[e]at h2
 obtain⟨f,u,cu,-⟩:=h1.at hy
 refine⟨f,⟨u,cu⟩,h2,fun v hv hb=>?_⟩
 have h3:=(hv.next h ba).setRow (u:=.slice (some ⟨w.heap.size,0,none⟩) 14 14) (r:=cD6 14 false) h1 hy (fun b e1 e2=>by have:=hb b e1;cases e2;exact absurd this (Nat.lt_irrefl _))
 rw[e]at h3
 exact h3
theorem a97(v u:Value)(row t:List Bool)(w:World)(h1:J0 w v row.length 1 (bools row))(h2:J0 w u 14 1 (bools t))(ht:t.length=14)(hr:row.length=0\/row.length=14):
  Calls Tryz.prog 81 #[v,u] w fun e w'=>∃z,e=.returned (.tuple #[z,.bool (!ac3 t row)])/\D2 w' w.heap.size w'.heap.size 4 1 z 14 (bools (R7 row t))/\Below w.heap.size w w':=by
 obtain⟨a1,c1,rfl,-,hm1,-,hc1⟩:=h1.open1
 obtain⟨a2,c2,rfl,-,hm2,-,hc2⟩:=h2.open1
 have hfc:Hid (ac3 t row=(decide (0<row.length)&&N9 t row t.length)):=rfl
 by_cases h0:row.length=0
 ·have q0:((row.length:Int)==0)=true:=by simp[h0]
  have HJ:=show Hid (R7 row t=t)from by simp[Hid,R7,h0]
  have HC:=show Hid (ac3 t row=false)from by unfold Hid;rw[hfc.out];simp[h0]
  clear hc1 hc2 hfc
  go_enter Tryz.func81,Tryz.ntmps81
  go_wp2_with (at_builtin;refine H4 rfl _ _ rfl Tryz.underlying63 aX3 rfl al rfl (A8 w #[] 0 1 _ an rfl al).1 rfl (h2.below (by go_grown)) ap8 al al an ?_;rintro a4 q4 w1 o4 b4- -)
  go_ret2
  have e:(#[]:Array Value).toList++bools t=bools t:=an
  rw[cI3]at o4
  refine⟨_,by rw[HC.out];rfl,?_,?_⟩
  ·rw[HJ.out];exact D2.mk' (by simpa using o4)
  exact((Below.refl w.heap.size w).alloc (cE1 _) _).trans (by simpa using b4)
 have q0:((row.length:Int)==0)=false:=by simp;intro e;rw[e]at h0;exact h0 rfl
 have h14:row.length=14:=al
 have hr1:J0 w (.slice a1 row.length c1) 14 1 (bools row):=by rw[h14]at h1 ⊢;exact h1
 have hl14:row.length<=14:=al
 have HC:=show Hid (ac3 t row=N9 t row 14)from by unfold Hid;rw[hfc.out,decide_eq_true al,ht];rfl
 have HJ:=show Hid (R7 row t=w6 row t 14)from by unfold Hid R7;rw[if_neg h0,ht]
 have HT:=show Hid _ from ht
 have HR:=show Hid _ from h14
 clear hfc hr ht h0 h14 h1 hc1
 go_enter Tryz.func81,Tryz.ntmps81
 go_wp2_with (at_builtin;refine H4 rfl _ _ rfl Tryz.underlying63 aX3 rfl al rfl (A8 w #[] 0 1 _ an rfl al).1 rfl (hr1.below (by go_grown)) ap8 al al an ?_;rintro a4 q4 w1 o4 b4- -)
 have o1:D2 w1 w.heap.size w1.heap.size 4 1 (.slice a4 14 q4) 14 (bools row):=D2.mk' (by simpa using o4)
 have b1:Below w.heap.size w w1:=((Below.refl w.heap.size w).alloc (cE1 _) _).trans (by simpa using b4)
 clear o4 b4
 obtain⟨g,cap,hv,g1,g2,g3,g4,g5,g6,g7⟩:=o1.open al
 cases hv
 clear g7
 go_loopw [7,8] (fun b i wr=>∃k:Nat,k<=14/\i=.int .i64 k/\b=.bool (!N9 t row k)/\D2 wr w.heap.size w1.heap.size 4 1 (.slice (some ⟨g,0,none⟩) 14 q4) 14 (bools (w6 row t k))/\Below w.heap.size w wr/\w1.heap.size<=wr.heap.size) (fun _ i _=>14-(intOf i).toNat)
 case atStart=>exact⟨0,cG8 _,rfl,rfl,by rw[aS3];exact o1,b1,cE1 _⟩
 case round=>
  obtain⟨k,hk,rfl,rfl,ho,hb,hsz⟩:=hrel
  have HS:=show Hid _ from a55 t row k
  clear o1 b1 g4
  by_cases hlt:k<14
  ·obtain⟨b2,o2,rfl,hb2,hy⟩:=hc2 k hlt
   rw[A4 _ _ (by rw[HT.out];exact hlt), <-(C4 hb).1 _ _ hb2]at hy
   clear hc2
   have hjl:(w6 row t k).length=14:=by rw[P3,HR.out]
   obtain⟨g',cap',hv,-,-,g3',-,-,gf,gc⟩:=ho.open al
   cases hv
   have hx:=gc k _ (A4 _ k al)
   have hxe:(w6 row t k)[k]=row.getD k false:=by
    have:=W6 row t k k (by rw[HR.out];exact hlt)
    rw[decide_eq_false (Nat.lt_irrefl _)]at this
    simpa[hjl,hlt]using this
   have hye:t[k]'(by rw[HT.out];exact hlt)=t.getD k false:=by have:=HT.out;simp[this,hlt]
   rw[hxe]at hx
   rw[hye]at hy
   have hfk:=gf k
   have HP:=show Hid (t.getD k false=true->w6 row t (k+1)=(w6 row t k).set k true)from fun h=>a42 (by rw[HR.out];exact hlt) h
   have HK:=show Hid ((t.getD k false&& !row.getD k false)=false->w6 row t (k+1)=w6 row t k)from fun h=>aS4 h
   clear hxe hye gc gf
   cases ht:t.getD k false
   ·have HN:=show Hid (w6 row t (k+1)=w6 row t k)from HK.out (by rw[ht];rfl)
    have HN2:=show Hid (N9 t row (k+1)=N9 t row k)from by unfold Hid;rw[HS.out,ht];simp
    rw[ht]at hy
    clear ht
    go_wp2_with fail
    exact⟨⟨k+1,al,by go_num,by rw[HN2.out],by rw[HN.out];exact ho,hb,hsz⟩,by simp[intOf];omega⟩
   cases hw:row.getD k false
   ·have HN:=show Hid (w6 row t (k+1)=(w6 row t k).set k true)from HP.out ht
    have HN2:=show Hid (N9 t row (k+1)=false)from by unfold Hid;rw[HS.out,ht,hw];simp
    rw[ht]at hy;rw[hw]at hx
    clear ht hw
    go_wp2_with fail
    refine⟨⟨k+1,al,by go_num,by rw[HN2.out];rfl,?_,hb.setCell (p:=⟨g,k,none⟩) g1 _,by simpa[World.setCell]using hsz⟩,by simp[intOf];omega⟩
    rw[HN.out,show bools ((w6 row t k).set k true)=(bools (w6 row t k)).set k (.bool true) by simp[bools,List.map_set]]
    exact ho.setCell (by simp[bools];omega) _
   have HN:=show Hid (w6 row t (k+1)=w6 row t k)from HK.out (by rw[hw];simp)
   have HN2:=show Hid (N9 t row (k+1)=N9 t row k)from by unfold Hid;rw[HS.out,hw];simp
   rw[ht]at hy;rw[hw]at hx
   clear ht hw
   go_wp2_with fail
   exact⟨⟨k+1,al,by go_num,by rw[HN2.out],by rw[HN.out];exact ho,hb,hsz⟩,by simp[intOf];omega⟩
  have e:k=14:=al
  subst e
  clear hc2
  go_wp2_with fail
  go_ret2
  exact⟨_,by rw[HC.out];rfl,by rw[HJ.out];exact ho.wide (cE1 _) hsz,hb⟩
theorem aO3{l:Int}(h:i9 l=true):l=0\/l=1\/l=2\/l=3:=by
 simp[i9]at h;omega
theorem D6(l:Int)(w:World):Calls Tryz.prog 113 #[.int .i64 l] w fun e w'=>e=.returned (.bool (scB l))/\w=w':=by
 cases h:i9 l
 ·have HT:=show Hid (scB l=false)from by unfold Hid scB;rw[h];rfl
  go_enter Tryz.func113,Tryz.ntmps113
  go_wp2_with fail
  refine(Y4 l _).mono ?_
  rintro e w1 ⟨rfl,rfl⟩
  rw[h]
  clear h
  go_wp2_with fail
  go_ret
  exact⟨w5 HT.out.symm,rfl⟩
 rcases aO3 h with rfl|rfl|rfl|rfl
 all_goals
  clear h
  go_enter Tryz.func113,Tryz.ntmps113
  go_wp2_with fail
  refine(Y4 _ _).mono ?_
  rintro e w1 ⟨rfl,rfl⟩
  rw[show i9 _=true from rfl]
  go_wp2_with fail
  go_ret
  exact⟨by simp[go_sem,scB,i9];decide,rfl⟩
theorem D5(l:Int)(w:World):Calls Tryz.prog 82 #[.int .i64 l] w fun e w'=>e=.returned (.bool (scB l))/\w=w':=by
 cases h:i9 l
 ·have HT:=show Hid (scB l=false)from by unfold Hid scB;rw[h];rfl
  go_enter Tryz.func82,Tryz.ntmps82
  go_wp2_with fail
  refine(L5 l _).mono ?_
  rintro e w1 ⟨rfl,rfl⟩
  rw[h]
  clear h
  go_wp2_with fail
  go_ret
  exact⟨w5 HT.out.symm,rfl⟩
 rcases aO3 h with rfl|rfl|rfl|rfl
 all_goals
  clear h
  go_enter Tryz.func82,Tryz.ntmps82
  go_wp2_with fail
  refine(L5 _ _).mono ?_
  rintro e w1 ⟨rfl,rfl⟩
  rw[show i9 _=true from rfl]
  go_wp2_with fail
  go_ret
  exact⟨by simp[go_sem,scB,i9];decide,rfl⟩
theorem J0.bools14{w:World}{v:Value}{t:List Bool}(h:J0 w v 14 1 (bools t)):t.length=14/\∃b off cap,v=.slice (some ⟨b,off,none⟩) 14 cap/\14<=cap/\cap<=9223372036854775807/\b<w.heap.size/\∀k:Nat,k<14->w.cell? ⟨b,off+k,none⟩=some (.bool (bAt t k)):=by
 have hl:t.length=14:=by have:=h.1;simpa[bools]using this
 obtain⟨a,cap,rfl,h1,-,h2,h3⟩:=h.open1
 obtain⟨b,off,rfl,hb,-⟩:=h3 0 al
 refine⟨hl,b,off,cap,rfl,h1,h2,hb,fun k hk=>?_⟩
 obtain⟨b',off',he,-,hc⟩:=h3 k hk
 cases he
 rw[hc]
 simp[bools,bAt,show k<t.length by omega]
theorem J0.intsAt{w:World}{v:Value}{l:List Int}(h:J0 w v l.length 1 (ints l))(hn:0<l.length):∃b off cap,v=.slice (some ⟨b,off,none⟩) l.length cap/\l.length<=cap/\cap<=9223372036854775807/\l.length<=9223372036854775807/\b<w.heap.size/\∀k:Nat,k<l.length->w.cell? ⟨b,off+k,none⟩=some (.int .i64 (Q1 l k)):=by
 obtain⟨a,cap,rfl,h1,h4,h2,h3⟩:=h.open1
 obtain⟨b,off,rfl,hb,-⟩:=h3 0 hn
 refine⟨b,off,cap,rfl,h1,h2,h4,hb,fun k hk=>?_⟩
 obtain⟨b',off',he,-,hc⟩:=h3 k hk
 cases he
 rw[hc]
 simp[ints,Q1,hk]
theorem bk4(v u:Value)(c:d8)(x:d9)(t:List Bool)(w:World)(h:D4 w v c)(hx:C2 c x=true)(ht:J0 w u 14 1 (bools t)):
  Calls Tryz.prog 36 #[v,x.v,u] w fun e w'=>e=.returned (.int .i64 (G6 c x t))/\Below w.heap.size w w':=by
 obtain⟨v1,v2,v3,rfl,h1,h2,h3⟩:=h
 have hf:=ac0 hx
 obtain⟨o,a,b,d,g⟩:=x
 simp only at hf
 obtain⟨W,hW⟩:∃W,W=((w.alloc (.cells #[v1,v2,v3] 26)).alloc (.cells #[.int .i64 o,.int .i64 a,.int .i64 b,.int .i64 d,.int .i64 g] 76)):=⟨_,rfl⟩
 have B0:Below w.heap.size w W:=by rw[hW];go_grown
 obtain⟨htl,tb,tq,tc,rfl,htc,htm,htb,htx⟩:=ht.bools14
 clear ht hx
 have hOF:Hid (G6 c ⟨o,a,b,d,g⟩ t=if o=3 then(if bAt t b&& !scB (Q1 c.vars a)then 1 else 0)else if o=4 then(if bAt t d then 4 else 0)
   else if o=5 then(if bAt t b then 4 else if bAt t d&& !scB (Q1 c.arrays a)then 1 else 0)else if o=9\/o=10 then(if bAt t a then 3 else 0)else 0):=rfl
 have tx:∀k:Nat,k<14->W.cell? ⟨tb,tq+k,none⟩=some (.bool (bAt t k)):=fun k hk=>by rw[(C4 B0).1 _ _ htb];exact htx k hk
 clear htx
 by_cases o3:o=3
 ·subst o3
  obtain⟨⟨f1,f2⟩,f3,f4⟩:=hf.2.2.2.1 rfl
  clear hf
  obtain⟨b',rfl⟩:∃n:Nat,b=n:=⟨b.toNat,al⟩
  obtain⟨a',rfl⟩:∃n:Nat,a=n:=⟨a.toNat,al⟩
  obtain⟨vb,vo,vc,rfl,hvc,hvm,hvn,hvb,hvx⟩:=h1.intsAt al
  have y1:=tx b' al
  have y2:=hvx a' al
  rw[<-(C4 B0).1 _ _ hvb]at y2
  rw[hW]at y1 y2
  have hR:Hid (G6 c ⟨3,a',b',d,g⟩ t=if bAt t b'&& !scB (Q1 c.vars a')then 1 else 0):=by unfold Hid;rw[hOF.out];simp
  clear hOF tx hvx h1 h2 h3
  cases hb:bAt t b'
  all_goals
   rw[hb]at y1
   have HB:=show Hid _ from hb
   clear hb
   go_enter Tryz.func36,Tryz.ntmps36
   go_wp2_with fail
  ·go_ret
   exact⟨z7 (by rw[hR.out,HB.out];rfl),by go_grown⟩
  refine(D5 _ _).mono ?_
  rintro e w1 ⟨rfl,rfl⟩
  cases hs:scB (Q1 c.vars a')
  all_goals
   have HS:=show Hid _ from hs
   clear hs
   go_wp2_with fail
   go_ret
   exact⟨z7 (by rw[hR.out,HB.out,HS.out];rfl),by go_grown⟩
 by_cases o4:o=4
 ·subst o4
  have hff:=(hf.2.2.2.2.1 rfl).2.2
  obtain⟨k',hk'⟩:∃n:Nat,d=n:=⟨d.toNat,al⟩
  subst hk'
  have hk14:k'<14:=al
  have y1:=tx k' hk14
  rw[hW]at y1
  have hR:Hid (G6 c ⟨4,a,b,k',g⟩ t=if bAt t k' then 4 else 0):=by unfold Hid;rw[hOF.out];simp
  clear hOF tx h1 h2 h3 hf hff
  cases hb:bAt t k'
  all_goals
   rw[hb]at y1
   have HB:=show Hid _ from hb
   clear hb
   go_enter Tryz.func36,Tryz.ntmps36
   go_wp2_with fail
   go_ret
   exact⟨z7 (by rw[hR.out,HB.out];rfl),by go_grown⟩
 by_cases o5:o=5
 ·subst o5
  obtain⟨⟨f1,f2⟩,⟨f3,f4⟩,f5,f6⟩:=hf.2.2.2.2.2.1 rfl
  clear hf
  obtain⟨b',rfl⟩:∃n:Nat,b=n:=⟨b.toNat,al⟩
  obtain⟨a',rfl⟩:∃n:Nat,a=n:=⟨a.toNat,al⟩
  obtain⟨d',rfl⟩:∃n:Nat,d=n:=⟨d.toNat,al⟩
  obtain⟨vb,vo,vc,rfl,hvc,hvm,hvn,hvb,hvx⟩:=h2.intsAt al
  have y1:=tx b' al
  have y3:=tx d' al
  have y2:=hvx a' al
  rw[<-(C4 B0).1 _ _ hvb]at y2
  rw[hW]at y1 y2 y3
  have hR:Hid (G6 c ⟨5,a',b',d',g⟩ t=if bAt t b' then 4 else if bAt t d'&& !scB (Q1 c.arrays a')then 1 else 0):=by unfold Hid;rw[hOF.out];simp
  clear hOF tx hvx h1 h2 h3
  cases hb:bAt t b'
  all_goals
   rw[hb]at y1
   have HB:=show Hid _ from hb
   clear hb
  ·cases hd:bAt t d'
   all_goals
    rw[hd]at y3
    have HD:=show Hid _ from hd
    clear hd
    go_enter Tryz.func36,Tryz.ntmps36
    go_wp2_with fail
   ·go_ret
    exact⟨z7 (by rw[hR.out,HB.out,HD.out];rfl),by go_grown⟩
   refine(D5 _ _).mono ?_
   rintro e w1 ⟨rfl,rfl⟩
   cases hs:scB (Q1 c.arrays a')
   all_goals
    have HS:=show Hid _ from hs
    clear hs
    go_wp2_with fail
    go_ret
    exact⟨z7 (by rw[hR.out,HB.out,HD.out,HS.out];rfl),by go_grown⟩
  go_enter Tryz.func36,Tryz.ntmps36
  go_wp2_with fail
  go_ret
  exact⟨z7 (by rw[hR.out,HB.out];rfl),by go_grown⟩
 by_cases o9:o=9
 ·subst o9
  have hff:=hf.2.2.2.2.2.2.2.2.1 rfl
  obtain⟨k',hk'⟩:∃n:Nat,a=n:=⟨a.toNat,al⟩
  subst hk'
  have hk14:k'<14:=al
  have y1:=tx k' hk14
  rw[hW]at y1
  have hR:Hid (G6 c ⟨9,k',b,d,g⟩ t=if bAt t k' then 3 else 0):=by unfold Hid;rw[hOF.out];simp
  clear hOF tx h1 h2 h3 hf hff
  cases hb:bAt t k'
  all_goals
   rw[hb]at y1
   have HB:=show Hid _ from hb
   clear hb
   go_enter Tryz.func36,Tryz.ntmps36
   go_wp2_with fail
   go_ret
   exact⟨z7 (by rw[hR.out,HB.out];rfl),by go_grown⟩
 by_cases o10:o=10
 ·subst o10
  have hff:=hf.2.2.2.2.2.2.2.2.2 rfl
  obtain⟨k',hk'⟩:∃n:Nat,a=n:=⟨a.toNat,al⟩
  subst hk'
  have hk14:k'<14:=al
  have y1:=tx k' hk14
  rw[hW]at y1
  have hR:Hid (G6 c ⟨10,k',b,d,g⟩ t=if bAt t k' then 3 else 0):=by unfold Hid;rw[hOF.out];simp
  clear hOF tx h1 h2 h3 hf hff
  cases hb:bAt t k'
  all_goals
   rw[hb]at y1
   have HB:=show Hid _ from hb
   clear hb
   go_enter Tryz.func36,Tryz.ntmps36
   go_wp2_with fail
   go_ret
   exact⟨z7 (by rw[hR.out,HB.out];rfl),by go_grown⟩
 have hR:Hid (G6 c ⟨o,a,b,d,g⟩ t=0):=by unfold Hid;rw[hOF.out];simp[o3,o4,o5,o9,o10]
 clear hOF tx h1 h2 h3 hf
 have p3:(o==3)=false:=by simp[o3]
 have p4:(o==4)=false:=by simp[o4]
 have p5:(o==5)=false:=by simp[o5]
 have p9:(o==9)=false:=by simp[o9]
 have p10:(o==10)=false:=by simp[o10]
 clear o3 o4 o5 o9 o10
 go_enter Tryz.func36,Tryz.ntmps36
 go_wp2_with fail
 go_ret
 exact⟨z7 hR.out.symm,by go_grown⟩
theorem bn7(v u:Value)(c:d8)(x:d9)(t:List Bool)(w:World)(h:D4 w v c)(hx:C2 c x=true)(ht:J0 w u 14 1 (bools t)):
  Calls Tryz.prog 78 #[v,x.v,u] w fun e w'=>e=.returned (.int .i64 (G6 c x t))/\Below w.heap.size w w':=by
 obtain⟨v1,v2,v3,rfl,h1,h2,h3⟩:=h
 have hf:=ac0 hx
 obtain⟨o,a,b,d,g⟩:=x
 simp only at hf
 obtain⟨W,hW⟩:∃W,W=((w.alloc (.cells #[v1,v2,v3] 26)).alloc (.cells #[.int .i64 o,.int .i64 a,.int .i64 b,.int .i64 d,.int .i64 g] 76)):=⟨_,rfl⟩
 have B0:Below w.heap.size w W:=by rw[hW];go_grown
 obtain⟨htl,tb,tq,tc,rfl,htc,htm,htb,htx⟩:=ht.bools14
 clear ht hx
 have hOF:Hid (G6 c ⟨o,a,b,d,g⟩ t=if o=3 then(if bAt t b&& !scB (Q1 c.vars a)then 1 else 0)else if o=4 then(if bAt t d then 4 else 0)
   else if o=5 then(if bAt t b then 4 else if bAt t d&& !scB (Q1 c.arrays a)then 1 else 0)else if o=9\/o=10 then(if bAt t a then 3 else 0)else 0):=rfl
 have tx:∀k:Nat,k<14->W.cell? ⟨tb,tq+k,none⟩=some (.bool (bAt t k)):=fun k hk=>by rw[(C4 B0).1 _ _ htb];exact htx k hk
 clear htx
 by_cases o3:o=3
 ·subst o3
  obtain⟨⟨f1,f2⟩,f3,f4⟩:=hf.2.2.2.1 rfl
  clear hf
  obtain⟨b',rfl⟩:∃n:Nat,b=n:=⟨b.toNat,al⟩
  obtain⟨a',rfl⟩:∃n:Nat,a=n:=⟨a.toNat,al⟩
  obtain⟨vb,vo,vc,rfl,hvc,hvm,hvn,hvb,hvx⟩:=h1.intsAt al
  have y1:=tx b' al
  have y2:=hvx a' al
  rw[<-(C4 B0).1 _ _ hvb]at y2
  rw[hW]at y1 y2
  have hR:Hid (G6 c ⟨3,a',b',d,g⟩ t=if bAt t b'&& !scB (Q1 c.vars a')then 1 else 0):=by unfold Hid;rw[hOF.out];simp
  clear hOF tx hvx h1 h2 h3
  cases hb:bAt t b'
  all_goals
   rw[hb]at y1
   have HB:=show Hid _ from hb
   clear hb
   go_enter Tryz.func78,Tryz.ntmps78
   go_wp2_with fail
  ·go_ret
   exact⟨z7 (by rw[hR.out,HB.out];rfl),by go_grown⟩
  refine(D6 _ _).mono ?_
  rintro e w1 ⟨rfl,rfl⟩
  cases hs:scB (Q1 c.vars a')
  all_goals
   have HS:=show Hid _ from hs
   clear hs
   go_wp2_with fail
   go_ret
   exact⟨z7 (by rw[hR.out,HB.out,HS.out];rfl),by go_grown⟩
 by_cases o4:o=4
 ·subst o4
  have hff:=(hf.2.2.2.2.1 rfl).2.2
  obtain⟨k',hk'⟩:∃n:Nat,d=n:=⟨d.toNat,al⟩
  subst hk'
  have hk14:k'<14:=al
  have y1:=tx k' hk14
  rw[hW]at y1
  have hR:Hid (G6 c ⟨4,a,b,k',g⟩ t=if bAt t k' then 4 else 0):=by unfold Hid;rw[hOF.out];simp
  clear hOF tx h1 h2 h3 hf hff
  cases hb:bAt t k'
  all_goals
   rw[hb]at y1
   have HB:=show Hid _ from hb
   clear hb
   go_enter Tryz.func78,Tryz.ntmps78
   go_wp2_with fail
   go_ret
   exact⟨z7 (by rw[hR.out,HB.out];rfl),by go_grown⟩
 by_cases o5:o=5
 ·subst o5
  obtain⟨⟨f1,f2⟩,⟨f3,f4⟩,f5,f6⟩:=hf.2.2.2.2.2.1 rfl
  clear hf
  obtain⟨b',rfl⟩:∃n:Nat,b=n:=⟨b.toNat,al⟩
  obtain⟨a',rfl⟩:∃n:Nat,a=n:=⟨a.toNat,al⟩
  obtain⟨d',rfl⟩:∃n:Nat,d=n:=⟨d.toNat,al⟩
  obtain⟨vb,vo,vc,rfl,hvc,hvm,hvn,hvb,hvx⟩:=h2.intsAt al
  have y1:=tx b' al
  have y3:=tx d' al
  have y2:=hvx a' al
  rw[<-(C4 B0).1 _ _ hvb]at y2
  rw[hW]at y1 y2 y3
  have hR:Hid (G6 c ⟨5,a',b',d',g⟩ t=if bAt t b' then 4 else if bAt t d'&& !scB (Q1 c.arrays a')then 1 else 0):=by unfold Hid;rw[hOF.out];simp
  clear hOF tx hvx h1 h2 h3
  cases hb:bAt t b'
  all_goals
   rw[hb]at y1
   have HB:=show Hid _ from hb
   clear hb
  ·cases hd:bAt t d'
   all_goals
    rw[hd]at y3
    have HD:=show Hid _ from hd
    clear hd
    go_enter Tryz.func78,Tryz.ntmps78
    go_wp2_with fail
   ·go_ret
    exact⟨z7 (by rw[hR.out,HB.out,HD.out];rfl),by go_grown⟩
   refine(D6 _ _).mono ?_
   rintro e w1 ⟨rfl,rfl⟩
   cases hs:scB (Q1 c.arrays a')
   all_goals
    have HS:=show Hid _ from hs
    clear hs
    go_wp2_with fail
    go_ret
    exact⟨z7 (by rw[hR.out,HB.out,HD.out,HS.out];rfl),by go_grown⟩
  go_enter Tryz.func78,Tryz.ntmps78
  go_wp2_with fail
  go_ret
  exact⟨z7 (by rw[hR.out,HB.out];rfl),by go_grown⟩
 by_cases o9:o=9
 ·subst o9
  have hff:=hf.2.2.2.2.2.2.2.2.1 rfl
  obtain⟨k',hk'⟩:∃n:Nat,a=n:=⟨a.toNat,al⟩
  subst hk'
  have hk14:k'<14:=al
  have y1:=tx k' hk14
  rw[hW]at y1
  have hR:Hid (G6 c ⟨9,k',b,d,g⟩ t=if bAt t k' then 3 else 0):=by unfold Hid;rw[hOF.out];simp
  clear hOF tx h1 h2 h3 hf hff
  cases hb:bAt t k'
  all_goals
   rw[hb]at y1
   have HB:=show Hid _ from hb
   clear hb
   go_enter Tryz.func78,Tryz.ntmps78
   go_wp2_with fail
   go_ret
   exact⟨z7 (by rw[hR.out,HB.out];rfl),by go_grown⟩
 by_cases o10:o=10
 ·subst o10
  have hff:=hf.2.2.2.2.2.2.2.2.2 rfl
  obtain⟨k',hk'⟩:∃n:Nat,a=n:=⟨a.toNat,al⟩
  subst hk'
  have hk14:k'<14:=al
  have y1:=tx k' hk14
  rw[hW]at y1
  have hR:Hid (G6 c ⟨10,k',b,d,g⟩ t=if bAt t k' then 3 else 0):=by unfold Hid;rw[hOF.out];simp
  clear hOF tx h1 h2 h3 hf hff
  cases hb:bAt t k'
  all_goals
   rw[hb]at y1
   have HB:=show Hid _ from hb
   clear hb
   go_enter Tryz.func78,Tryz.ntmps78
   go_wp2_with fail
   go_ret
   exact⟨z7 (by rw[hR.out,HB.out];rfl),by go_grown⟩
 have hR:Hid (G6 c ⟨o,a,b,d,g⟩ t=0):=by unfold Hid;rw[hOF.out];simp[o3,o4,o5,o9,o10]
 clear hOF tx h1 h2 h3 hf
 have p3:(o==3)=false:=by simp[o3]
 have p4:(o==4)=false:=by simp[o4]
 have p5:(o==5)=false:=by simp[o5]
 have p9:(o==9)=false:=by simp[o9]
 have p10:(o==10)=false:=by simp[o10]
 clear o3 o4 o5 o9 o10
 go_enter Tryz.func78,Tryz.ntmps78
 go_wp2_with fail
 go_ret
 exact⟨z7 hR.out.symm,by go_grown⟩
theorem D3{c:d8}{x:d9}{t:List Bool}{b:Bool}(h:z5 c x t=some b):n6 c x t=t.set x.a.toNat b:=by simp[n6,h]
theorem aF1{c:d8}{x:d9}{t:List Bool}(h:z5 c x t=none):n6 c x t=t:=by simp[n6,h]
theorem z8{w:World}{lo hi:Nat}{g k a:Nat}{t:List Bool}(h:D2 w lo hi 4 1 (.slice (some ⟨g,0,none⟩) 14 k) 14 (bools t))(ha:a<14)(b:Bool):
  D2 (w.setCell ⟨g,a,none⟩ (.bool b)) lo hi 4 1 (.slice (some ⟨g,0,none⟩) 14 k) 14 (bools (t.set a b)):=by
 have hl:(bools t).length=14:=by have:=h.1.1;simpa using this
 have:=h.setCell (j:=a) al (.bool b)
 rwa[show(bools t).set a (.bool b)=bools (t.set a b) by simp[bools]]at this
theorem aF7(v u:Value)(c:d8)(x:d9)(t:List Bool)(w:World)(h:D4 w v c)(hx:C2 c x=true)(ht:J0 w u 14 1 (bools t)):
  Calls Tryz.prog 62 #[v,x.v,u] w fun e w'=>∃r,e=.returned r/\D2 w' w.heap.size w'.heap.size 4 1 r 14 (bools (n6 c x t))/\Below w.heap.size w w':=by
 obtain⟨v1,v2,v3,rfl,h1,h2,h3⟩:=h
 have hf:=ac0 hx
 obtain⟨o,a,b,d,g⟩:=x
 simp only at hf
 obtain⟨W,hW⟩:∃W,W=((w.alloc (.cells #[v1,v2,v3] 26)).alloc (.cells #[.int .i64 o,.int .i64 a,.int .i64 b,.int .i64 d,.int .i64 g] 76)):=⟨_,rfl⟩
 have B0:Below w.heap.size w W:=by rw[hW];go_grown
 have sW:W.heap.size=w.heap.size+1+1:=by rw[hW];simp
 have L1:D7 W w.heap.size [v1,v2,v3]:=by rw[hW];exact(D7.new w [v1,v2,v3] _).alloc _
 have L2:D7 W (w.heap.size+1) [.int .i64 o,.int .i64 a,.int .i64 b,.int .i64 d,.int .i64 g]:=by rw[hW];exact D7.new' (w.alloc _) [.int .i64 o,.int .i64 a,.int .i64 b,.int .i64 d,.int .i64 g] _ an
 obtain⟨htl,tb,tof,tc,rfl,htc,htm,htb,htx⟩:=ht.bools14
 have hOF:Hid (z5 c ⟨o,a,b,d,g⟩ t=if o=1\/o=11 then some false else if o=2 then some (scB (Q1 c.vars b))else if o=4 then some (scB (Q1 c.arrays b)||bAt t d)
   else if o=6 then some (bAt t d||bAt t g)else if o=7 then some (bAt t b||bAt t d||bAt t g)else none):=rfl
 go_enter Tryz.func62,Tryz.ntmps62
 go_wp2_with fail
 rw[<-hW]
 clear hW
 refine(bo9 _ t _ (by rw[htl];exact ht.below B0) al).mono ?_
 rintro e w1 ⟨u1,rfl,o1r,b1⟩
 rw[htl]at o1r
 replace L1:=L1.below b1 L1.lt
 replace L2:=L2.below b1 L2.lt
 have B1:=B0.trans (b1.mono B0.size)
 obtain⟨gr,kr,hvr,hg1,-,hg3,-,-,hgf,hgc⟩:=o1r.open al
 cases hvr
 rw[sW]at o1r hg1
 have s1:=B1.size
 have tx:∀k:Nat,k<14->w1.cell? ⟨tb,tof+k,none⟩=some (.bool (bAt t k)):=fun k hk=>by rw[(C4 B1).1 _ _ htb];exact htx k hk
 clear htx ht
 have x0:=L2.cell 0
 simp only[cD9]at x0
 by_cases o1:o=1
 ·subst o1
  have hff:=hf.1 rfl
  obtain⟨a',ha'⟩:∃n:Nat,a=n:=⟨a.toNat,al⟩
  subst ha'
  have ha14:a'<14:=al
  have hR:Hid (n6 c ⟨1,a',b,d,g⟩ t=t.set a' false):=by unfold Hid;rw[D3 (b:=false) (by rw[hOF.out];simp)];simp
  have x1:=L2.cell 1
  simp only[cD9,cE8]at x1
  have hf0:=hgf a'
  obtain⟨u0,hc0⟩:∃u0,w1.cell? ⟨gr,a',none⟩=some u0:=⟨_,hgc a' _ (A4 t a' al)⟩
  clear hff hOF tx hf
  go_wp2_with fail
  go_ret
  rw[hR.out]
  exact⟨_,rfl,z8 (o1r.wide al an) ha14 _,B1.setCell (p:=⟨gr,a',none⟩) (by show _<=gr;omega) _⟩
 by_cases o11:o=11
 ·subst o11
  have hff:=hf.2.1 rfl
  obtain⟨a',ha'⟩:∃n:Nat,a=n:=⟨a.toNat,al⟩
  subst ha'
  have ha14:a'<14:=al
  have hR:Hid (n6 c ⟨11,a',b,d,g⟩ t=t.set a' false):=by unfold Hid;rw[D3 (b:=false) (by rw[hOF.out];simp)];simp
  have x1:=L2.cell 1
  simp only[cD9,cE8]at x1
  have hf0:=hgf a'
  obtain⟨u0,hc0⟩:∃u0,w1.cell? ⟨gr,a',none⟩=some u0:=⟨_,hgc a' _ (A4 t a' al)⟩
  clear hff hOF tx hf
  go_wp2_with fail
  go_ret
  rw[hR.out]
  exact⟨_,rfl,z8 (o1r.wide al an) ha14 _,B1.setCell (p:=⟨gr,a',none⟩) (by show _<=gr;omega) _⟩
 have q1:(o==1)=false:=by simp[o1]
 have q11:(o==11)=false:=by simp[o11]
 by_cases o2:o=2
 ·subst o2
  have hff:=hf.2.2.1 rfl
  clear hf
  obtain⟨a',ha'⟩:∃n:Nat,a=n:=⟨a.toNat,al⟩
  subst ha'
  obtain⟨b',hb'⟩:∃n:Nat,b=n:=⟨b.toNat,al⟩
  subst hb'
  obtain⟨vb,vo,vc,rfl,hvc,hvm,hvn,hvb,hvx⟩:=h1.intsAt al
  have y2:=hvx b' al
  have hR:Hid (n6 c ⟨2,a',b',d,g⟩ t=t.set a' (scB (Q1 c.vars b'))):=by unfold Hid;rw[D3 (b:=scB (Q1 c.vars b')) (by rw[hOF.out];simp)];simp
  have ha14:a'<14:=al
  have ha14i:(a':Int)<14:=al
  have hf0:=hgf a'
  obtain⟨u0,hc0⟩:∃u0,w1.cell? ⟨gr,a',none⟩=some u0:=⟨_,hgc a' _ (A4 t a' al)⟩
  have hb14:b'<c.vars.length:=al
  have hb14i:(b':Int)<(c.vars.length:Int):=al
  clear hff hOF tx
  cases hv0:scB (Q1 c.vars b')
  ·have HV0:=show Hid _ from hv0
   clear hv0
   have ya:=L2.cell 1
   have yb:=L2.cell 2
   have yv:=L1.cell 0
   simp only[cD9,cE8]at yv ya yb
   have yw:w1.cell? ⟨vb,vo+b',none⟩=some (.int .i64 (Q1 c.vars b')):=by rw[(C4 B1).1 _ _ hvb];exact y2
   have zya:=fun X=>c8 ya X
   have zyb:=fun X=>c8 yb X
   have zyv:=fun X=>c8 yv X
   have zyw:=fun X=>c8 yw X
   have zhc0:=fun X=>c8 hc0 X
   have zf:=fun X=>v6 hg3 hf0 X
   have HC:Hid (∀X,Calls Tryz.prog 113 #[.int .i64 (Q1 c.vars b')] (w1.ext X) fun e w''=>e=.returned (.bool false)/\∃Y,w''=w1.ext Y):=fun X=>(D6 _ _).mono fun e w' ⟨e1,e2⟩=>⟨by rw[e1,HV0.out],X,e2.symm⟩
   clear ya yb yv yw hc0 h1 h2 h3 y2 hvx hgc hgf
   have x0:=L2.cell 0
   simp only[cD9]at x0
   go_wp2_with fail
   refine l8 11 _ rfl aj aj ?_
   simp only[cG6,cG5,J6]
   repeat(any_goals (first|go_big_quiet_step ((go_at_call 113;exact HC.out _))|quiet_step ((go_at_call 113;exact HC.out _))))
   refine wpQuiet_nil ?_
   rintro _ ⟨X,rfl⟩
   go_wp2_with fail
   go_ret
   rw[hR.out,HV0.out]
   exact⟨_,rfl,z8 (w:=w1.ext X) ((o1r.keep (i8 w1 X) (cE1 _)).wide al ag) ha14 _,(B1.trans ((i8 w1 X).mono s1)).setCell (p:=⟨gr,a',none⟩) (by show _<=gr;omega) _⟩
  have HV0:=show Hid _ from hv0
  clear hv0
  have ya:=L2.cell 1
  have yb:=L2.cell 2
  have yv:=L1.cell 0
  simp only[cD9,cE8]at yv ya yb
  have yw:w1.cell? ⟨vb,vo+b',none⟩=some (.int .i64 (Q1 c.vars b')):=by rw[(C4 B1).1 _ _ hvb];exact y2
  have zya:=fun X=>c8 ya X
  have zyb:=fun X=>c8 yb X
  have zyv:=fun X=>c8 yv X
  have zyw:=fun X=>c8 yw X
  have zhc0:=fun X=>c8 hc0 X
  have zf:=fun X=>v6 hg3 hf0 X
  have HC:Hid (∀X,Calls Tryz.prog 113 #[.int .i64 (Q1 c.vars b')] (w1.ext X) fun e w''=>e=.returned (.bool true)/\∃Y,w''=w1.ext Y):=fun X=>(D6 _ _).mono fun e w' ⟨e1,e2⟩=>⟨by rw[e1,HV0.out],X,e2.symm⟩
  clear ya yb yv yw hc0 h1 h2 h3 y2 hvx hgc hgf
  have x0:=L2.cell 0
  simp only[cD9]at x0
  go_wp2_with fail
  refine l8 11 _ rfl aj aj ?_
  simp only[cG6,cG5,J6]
  repeat(any_goals (first|go_big_quiet_step ((go_at_call 113;exact HC.out _))|quiet_step ((go_at_call 113;exact HC.out _))))
  refine wpQuiet_nil ?_
  rintro _ ⟨X,rfl⟩
  go_wp2_with fail
  go_ret
  rw[hR.out,HV0.out]
  exact⟨_,rfl,z8 (w:=w1.ext X) ((o1r.keep (i8 w1 X) (cE1 _)).wide al ag) ha14 _,(B1.trans ((i8 w1 X).mono s1)).setCell (p:=⟨gr,a',none⟩) (by show _<=gr;omega) _⟩
 have q2:(o==2)=false:=by simp[o2]
 by_cases o4:o=4
 ·subst o4
  have hff:=hf.2.2.2.2.1 rfl
  clear hf
  obtain⟨a',ha'⟩:∃n:Nat,a=n:=⟨a.toNat,al⟩
  subst ha'
  obtain⟨b',hb'⟩:∃n:Nat,b=n:=⟨b.toNat,al⟩
  subst hb'
  obtain⟨d',hd'⟩:∃n:Nat,d=n:=⟨d.toNat,al⟩
  subst hd'
  obtain⟨vb,vo,vc,rfl,hvc,hvm,hvn,hvb,hvx⟩:=h2.intsAt al
  have y2:=hvx b' al
  have hR:Hid (n6 c ⟨4,a',b',d',g⟩ t=t.set a' (scB (Q1 c.arrays b')||bAt t d')):=by unfold Hid;rw[D3 (b:=scB (Q1 c.arrays b')||bAt t d') (by rw[hOF.out];simp)];simp
  have ha14:a'<14:=al
  have ha14i:(a':Int)<14:=al
  have rd:=tx d' al
  have hrd14:d'<14:=al
  have hrd14i:(d':Int)<14:=al
  have hf0:=hgf a'
  obtain⟨u0,hc0⟩:∃u0,w1.cell? ⟨gr,a',none⟩=some u0:=⟨_,hgc a' _ (A4 t a' al)⟩
  have hb14:b'<c.arrays.length:=al
  have hb14i:(b':Int)<(c.arrays.length:Int):=al
  clear hff hOF tx
  cases hv0:scB (Q1 c.arrays b')
  ·have HV0:=show Hid _ from hv0
   clear hv0
   cases hv1:bAt t d'
   ·have HV1:=show Hid _ from hv1
    rw[hv1]at rd
    clear hv1
    have ya:=L2.cell 1
    have yb:=L2.cell 2
    have yd:=L2.cell 3
    have yv:=L1.cell 1
    simp only[cD9,cE8]at yv ya yb yd
    have yw:w1.cell? ⟨vb,vo+b',none⟩=some (.int .i64 (Q1 c.arrays b')):=by rw[(C4 B1).1 _ _ hvb];exact y2
    have zya:=fun X=>c8 ya X
    have zyb:=fun X=>c8 yb X
    have zyd:=fun X=>c8 yd X
    have zyv:=fun X=>c8 yv X
    have zyw:=fun X=>c8 yw X
    have zrd:=fun X=>c8 rd X
    have zhc0:=fun X=>c8 hc0 X
    have zf:=fun X=>v6 hg3 hf0 X
    have HC:Hid (∀X,Calls Tryz.prog 113 #[.int .i64 (Q1 c.arrays b')] (w1.ext X) fun e w''=>e=.returned (.bool false)/\∃Y,w''=w1.ext Y):=fun X=>(D6 _ _).mono fun e w' ⟨e1,e2⟩=>⟨by rw[e1,HV0.out],X,e2.symm⟩
    clear ya yb yd yv yw rd hc0 h1 h2 h3 y2 hvx hgc hgf
    have x0:=L2.cell 0
    simp only[cD9]at x0
    go_wp2_with fail
    refine l8 18 _ rfl aj aj ?_
    simp only[cG6,cG5,J6]
    repeat(any_goals (first|go_big_quiet_step ((go_at_call 113;exact HC.out _))|quiet_step ((go_at_call 113;exact HC.out _))))
    refine wpQuiet_nil ?_
    rintro _ ⟨X,rfl⟩
    go_wp2_with fail
    go_ret
    rw[hR.out,HV0.out,HV1.out]
    exact⟨_,rfl,z8 (w:=w1.ext X) ((o1r.keep (i8 w1 X) (cE1 _)).wide al ag) ha14 _,(B1.trans ((i8 w1 X).mono s1)).setCell (p:=⟨gr,a',none⟩) (by show _<=gr;omega) _⟩
   have HV1:=show Hid _ from hv1
   rw[hv1]at rd
   clear hv1
   have ya:=L2.cell 1
   have yb:=L2.cell 2
   have yd:=L2.cell 3
   have yv:=L1.cell 1
   simp only[cD9,cE8]at yv ya yb yd
   have yw:w1.cell? ⟨vb,vo+b',none⟩=some (.int .i64 (Q1 c.arrays b')):=by rw[(C4 B1).1 _ _ hvb];exact y2
   have zya:=fun X=>c8 ya X
   have zyb:=fun X=>c8 yb X
   have zyd:=fun X=>c8 yd X
   have zyv:=fun X=>c8 yv X
   have zyw:=fun X=>c8 yw X
   have zrd:=fun X=>c8 rd X
   have zhc0:=fun X=>c8 hc0 X
   have zf:=fun X=>v6 hg3 hf0 X
   have HC:Hid (∀X,Calls Tryz.prog 113 #[.int .i64 (Q1 c.arrays b')] (w1.ext X) fun e w''=>e=.returned (.bool false)/\∃Y,w''=w1.ext Y):=fun X=>(D6 _ _).mono fun e w' ⟨e1,e2⟩=>⟨by rw[e1,HV0.out],X,e2.symm⟩
   clear ya yb yd yv yw rd hc0 h1 h2 h3 y2 hvx hgc hgf
   have x0:=L2.cell 0
   simp only[cD9]at x0
   go_wp2_with fail
   refine l8 18 _ rfl aj aj ?_
   simp only[cG6,cG5,J6]
   repeat(any_goals (first|go_big_quiet_step ((go_at_call 113;exact HC.out _))|quiet_step ((go_at_call 113;exact HC.out _))))
   refine wpQuiet_nil ?_
   rintro _ ⟨X,rfl⟩
   go_wp2_with fail
   go_ret
   rw[hR.out,HV0.out,HV1.out]
   exact⟨_,rfl,z8 (w:=w1.ext X) ((o1r.keep (i8 w1 X) (cE1 _)).wide al ag) ha14 _,(B1.trans ((i8 w1 X).mono s1)).setCell (p:=⟨gr,a',none⟩) (by show _<=gr;omega) _⟩
  have HV0:=show Hid _ from hv0
  clear hv0
  have ya:=L2.cell 1
  have yb:=L2.cell 2
  have yd:=L2.cell 3
  have yv:=L1.cell 1
  simp only[cD9,cE8]at yv ya yb yd
  have yw:w1.cell? ⟨vb,vo+b',none⟩=some (.int .i64 (Q1 c.arrays b')):=by rw[(C4 B1).1 _ _ hvb];exact y2
  have zya:=fun X=>c8 ya X
  have zyb:=fun X=>c8 yb X
  have zyd:=fun X=>c8 yd X
  have zyv:=fun X=>c8 yv X
  have zyw:=fun X=>c8 yw X
  have zhc0:=fun X=>c8 hc0 X
  have zf:=fun X=>v6 hg3 hf0 X
  have HC:Hid (∀X,Calls Tryz.prog 113 #[.int .i64 (Q1 c.arrays b')] (w1.ext X) fun e w''=>e=.returned (.bool true)/\∃Y,w''=w1.ext Y):=fun X=>(D6 _ _).mono fun e w' ⟨e1,e2⟩=>⟨by rw[e1,HV0.out],X,e2.symm⟩
  clear ya yb yd yv yw hc0 h1 h2 h3 y2 hvx hgc hgf
  have x0:=L2.cell 0
  simp only[cD9]at x0
  go_wp2_with fail
  refine l8 18 _ rfl aj aj ?_
  simp only[cG6,cG5,J6]
  repeat(any_goals (first|go_big_quiet_step ((go_at_call 113;exact HC.out _))|quiet_step ((go_at_call 113;exact HC.out _))))
  refine wpQuiet_nil ?_
  rintro _ ⟨X,rfl⟩
  go_wp2_with fail
  go_ret
  rw[hR.out,HV0.out]
  exact⟨_,rfl,z8 (w:=w1.ext X) ((o1r.keep (i8 w1 X) (cE1 _)).wide al ag) ha14 _,(B1.trans ((i8 w1 X).mono s1)).setCell (p:=⟨gr,a',none⟩) (by show _<=gr;omega) _⟩
 have q4:(o==4)=false:=by simp[o4]
 by_cases o6:o=6
 ·subst o6
  have hff:=hf.2.2.2.2.2.2.1 rfl
  clear hf
  obtain⟨a',ha'⟩:∃n:Nat,a=n:=⟨a.toNat,al⟩
  subst ha'
  obtain⟨d',hd'⟩:∃n:Nat,d=n:=⟨d.toNat,al⟩
  subst hd'
  obtain⟨g',hg'⟩:∃n:Nat,g=n:=⟨g.toNat,al⟩
  subst hg'
  have hR:Hid (n6 c ⟨6,a',b,d',g'⟩ t=t.set a' (bAt t d'||bAt t g')):=by unfold Hid;rw[D3 (b:=bAt t d'||bAt t g') (by rw[hOF.out];simp)];simp
  have ha14:a'<14:=al
  have ha14i:(a':Int)<14:=al
  have rd:=tx d' al
  have hrd14:d'<14:=al
  have hrd14i:(d':Int)<14:=al
  have rg:=tx g' al
  have hrg14:g'<14:=al
  have hrg14i:(g':Int)<14:=al
  have hf0:=hgf a'
  obtain⟨u0,hc0⟩:∃u0,w1.cell? ⟨gr,a',none⟩=some u0:=⟨_,hgc a' _ (A4 t a' al)⟩
  clear hff hOF tx
  cases hv0:bAt t d'
  ·have HV0:=show Hid _ from hv0
   rw[hv0]at rd
   clear hv0
   cases hv1:bAt t g'
   ·have HV1:=show Hid _ from hv1
    rw[hv1]at rg
    clear hv1
    have ya:=L2.cell 1
    have yd:=L2.cell 3
    have yg:=L2.cell 4
    simp only[cD9,cE8]at ya yd yg
    have zya:=fun X=>c8 ya X
    have zyd:=fun X=>c8 yd X
    have zyg:=fun X=>c8 yg X
    have zrd:=fun X=>c8 rd X
    have zrg:=fun X=>c8 rg X
    have zhc0:=fun X=>c8 hc0 X
    have zf:=fun X=>v6 hg3 hf0 X
    clear ya yd yg rd rg hc0 h1 h2 h3 hgc hgf
    have x0:=L2.cell 0
    simp only[cD9]at x0
    go_wp2_with fail
    refine l8 16 _ rfl aj aj ?_
    simp only[cG6,cG5,J6]
    repeat(any_goals (first|go_big_quiet_step ((fail))|quiet_step ((fail))))
    refine wpQuiet_nil ?_
    rintro _ ⟨X,rfl⟩
    go_wp2_with fail
    go_ret
    rw[hR.out,HV0.out,HV1.out]
    exact⟨_,rfl,z8 (w:=w1.ext X) ((o1r.keep (i8 w1 X) (cE1 _)).wide al ag) ha14 _,(B1.trans ((i8 w1 X).mono s1)).setCell (p:=⟨gr,a',none⟩) (by show _<=gr;omega) _⟩
   have HV1:=show Hid _ from hv1
   rw[hv1]at rg
   clear hv1
   have ya:=L2.cell 1
   have yd:=L2.cell 3
   have yg:=L2.cell 4
   simp only[cD9,cE8]at ya yd yg
   have zya:=fun X=>c8 ya X
   have zyd:=fun X=>c8 yd X
   have zyg:=fun X=>c8 yg X
   have zrd:=fun X=>c8 rd X
   have zrg:=fun X=>c8 rg X
   have zhc0:=fun X=>c8 hc0 X
   have zf:=fun X=>v6 hg3 hf0 X
   clear ya yd yg rd rg hc0 h1 h2 h3 hgc hgf
   have x0:=L2.cell 0
   simp only[cD9]at x0
   go_wp2_with fail
   refine l8 16 _ rfl aj aj ?_
   simp only[cG6,cG5,J6]
   repeat(any_goals (first|go_big_quiet_step ((fail))|quiet_step ((fail))))
   refine wpQuiet_nil ?_
   rintro _ ⟨X,rfl⟩
   go_wp2_with fail
   go_ret
   rw[hR.out,HV0.out,HV1.out]
   exact⟨_,rfl,z8 (w:=w1.ext X) ((o1r.keep (i8 w1 X) (cE1 _)).wide al ag) ha14 _,(B1.trans ((i8 w1 X).mono s1)).setCell (p:=⟨gr,a',none⟩) (by show _<=gr;omega) _⟩
  have HV0:=show Hid _ from hv0
  rw[hv0]at rd
  clear hv0
  have ya:=L2.cell 1
  have yd:=L2.cell 3
  have yg:=L2.cell 4
  simp only[cD9,cE8]at ya yd yg
  have zya:=fun X=>c8 ya X
  have zyd:=fun X=>c8 yd X
  have zyg:=fun X=>c8 yg X
  have zrd:=fun X=>c8 rd X
  have zhc0:=fun X=>c8 hc0 X
  have zf:=fun X=>v6 hg3 hf0 X
  clear ya yd yg rd hc0 h1 h2 h3 hgc hgf
  have x0:=L2.cell 0
  simp only[cD9]at x0
  go_wp2_with fail
  refine l8 16 _ rfl aj aj ?_
  simp only[cG6,cG5,J6]
  repeat(any_goals (first|go_big_quiet_step ((fail))|quiet_step ((fail))))
  refine wpQuiet_nil ?_
  rintro _ ⟨X,rfl⟩
  go_wp2_with fail
  go_ret
  rw[hR.out,HV0.out]
  exact⟨_,rfl,z8 (w:=w1.ext X) ((o1r.keep (i8 w1 X) (cE1 _)).wide al ag) ha14 _,(B1.trans ((i8 w1 X).mono s1)).setCell (p:=⟨gr,a',none⟩) (by show _<=gr;omega) _⟩
 have q6:(o==6)=false:=by simp[o6]
 by_cases o7:o=7
 ·subst o7
  have hff:=hf.2.2.2.2.2.2.2.1 rfl
  clear hf
  obtain⟨a',ha'⟩:∃n:Nat,a=n:=⟨a.toNat,al⟩
  subst ha'
  obtain⟨b',hb'⟩:∃n:Nat,b=n:=⟨b.toNat,al⟩
  subst hb'
  obtain⟨d',hd'⟩:∃n:Nat,d=n:=⟨d.toNat,al⟩
  subst hd'
  obtain⟨g',hg'⟩:∃n:Nat,g=n:=⟨g.toNat,al⟩
  subst hg'
  have hR:Hid (n6 c ⟨7,a',b',d',g'⟩ t=t.set a' (bAt t b'||bAt t d'||bAt t g')):=by unfold Hid;rw[D3 (b:=bAt t b'||bAt t d'||bAt t g') (by rw[hOF.out];simp)];simp
  have ha14:a'<14:=al
  have ha14i:(a':Int)<14:=al
  have rb:=tx b' al
  have hrb14:b'<14:=al
  have hrb14i:(b':Int)<14:=al
  have rd:=tx d' al
  have hrd14:d'<14:=al
  have hrd14i:(d':Int)<14:=al
  have rg:=tx g' al
  have hrg14:g'<14:=al
  have hrg14i:(g':Int)<14:=al
  have hf0:=hgf a'
  obtain⟨u0,hc0⟩:∃u0,w1.cell? ⟨gr,a',none⟩=some u0:=⟨_,hgc a' _ (A4 t a' al)⟩
  clear hff hOF tx
  cases hv0:bAt t b'
  ·have HV0:=show Hid _ from hv0
   rw[hv0]at rb
   clear hv0
   cases hv1:bAt t d'
   ·have HV1:=show Hid _ from hv1
    rw[hv1]at rd
    clear hv1
    cases hv2:bAt t g'
    ·have HV2:=show Hid _ from hv2
     rw[hv2]at rg
     clear hv2
     have ya:=L2.cell 1
     have yb:=L2.cell 2
     have yd:=L2.cell 3
     have yg:=L2.cell 4
     simp only[cD9,cE8]at ya yb yd yg
     have zya:=fun X=>c8 ya X
     have zyb:=fun X=>c8 yb X
     have zyd:=fun X=>c8 yd X
     have zyg:=fun X=>c8 yg X
     have zrb:=fun X=>c8 rb X
     have zrd:=fun X=>c8 rd X
     have zrg:=fun X=>c8 rg X
     have zhc0:=fun X=>c8 hc0 X
     have zf:=fun X=>v6 hg3 hf0 X
     clear ya yb yd yg rb rd rg hc0 h1 h2 h3 hgc hgf
     have x0:=L2.cell 0
     simp only[cD9]at x0
     go_wp2_with fail
     refine l8 23 _ rfl aj aj ?_
     simp only[cG6,cG5,J6]
     repeat(any_goals (first|go_big_quiet_step ((fail))|quiet_step ((fail))))
     refine wpQuiet_nil ?_
     rintro _ ⟨X,rfl⟩
     go_wp2_with fail
     go_ret
     rw[hR.out,HV0.out,HV1.out,HV2.out]
     exact⟨_,rfl,z8 (w:=w1.ext X) ((o1r.keep (i8 w1 X) (cE1 _)).wide al ag) ha14 _,(B1.trans ((i8 w1 X).mono s1)).setCell (p:=⟨gr,a',none⟩) (by show _<=gr;omega) _⟩
    have HV2:=show Hid _ from hv2
    rw[hv2]at rg
    clear hv2
    have ya:=L2.cell 1
    have yb:=L2.cell 2
    have yd:=L2.cell 3
    have yg:=L2.cell 4
    simp only[cD9,cE8]at ya yb yd yg
    have zya:=fun X=>c8 ya X
    have zyb:=fun X=>c8 yb X
    have zyd:=fun X=>c8 yd X
    have zyg:=fun X=>c8 yg X
    have zrb:=fun X=>c8 rb X
    have zrd:=fun X=>c8 rd X
    have zrg:=fun X=>c8 rg X
    have zhc0:=fun X=>c8 hc0 X
    have zf:=fun X=>v6 hg3 hf0 X
    clear ya yb yd yg rb rd rg hc0 h1 h2 h3 hgc hgf
    have x0:=L2.cell 0
    simp only[cD9]at x0
    go_wp2_with fail
    refine l8 23 _ rfl aj aj ?_
    simp only[cG6,cG5,J6]
    repeat(any_goals (first|go_big_quiet_step ((fail))|quiet_step ((fail))))
    refine wpQuiet_nil ?_
    rintro _ ⟨X,rfl⟩
    go_wp2_with fail
    go_ret
    rw[hR.out,HV0.out,HV1.out,HV2.out]
    exact⟨_,rfl,z8 (w:=w1.ext X) ((o1r.keep (i8 w1 X) (cE1 _)).wide al ag) ha14 _,(B1.trans ((i8 w1 X).mono s1)).setCell (p:=⟨gr,a',none⟩) (by show _<=gr;omega) _⟩
   have HV1:=show Hid _ from hv1
   rw[hv1]at rd
   clear hv1
   have ya:=L2.cell 1
   have yb:=L2.cell 2
   have yd:=L2.cell 3
   have yg:=L2.cell 4
   simp only[cD9,cE8]at ya yb yd yg
   have zya:=fun X=>c8 ya X
   have zyb:=fun X=>c8 yb X
   have zyd:=fun X=>c8 yd X
   have zyg:=fun X=>c8 yg X
   have zrb:=fun X=>c8 rb X
   have zrd:=fun X=>c8 rd X
   have zhc0:=fun X=>c8 hc0 X
   have zf:=fun X=>v6 hg3 hf0 X
   clear ya yb yd yg rb rd hc0 h1 h2 h3 hgc hgf
   have x0:=L2.cell 0
   simp only[cD9]at x0
   go_wp2_with fail
   refine l8 23 _ rfl aj aj ?_
   simp only[cG6,cG5,J6]
   repeat(any_goals (first|go_big_quiet_step ((fail))|quiet_step ((fail))))
   refine wpQuiet_nil ?_
   rintro _ ⟨X,rfl⟩
   go_wp2_with fail
   go_ret
   rw[hR.out,HV0.out,HV1.out]
   exact⟨_,rfl,z8 (w:=w1.ext X) ((o1r.keep (i8 w1 X) (cE1 _)).wide al ag) ha14 _,(B1.trans ((i8 w1 X).mono s1)).setCell (p:=⟨gr,a',none⟩) (by show _<=gr;omega) _⟩
  have HV0:=show Hid _ from hv0
  rw[hv0]at rb
  clear hv0
  have ya:=L2.cell 1
  have yb:=L2.cell 2
  have yd:=L2.cell 3
  have yg:=L2.cell 4
  simp only[cD9,cE8]at ya yb yd yg
  have zya:=fun X=>c8 ya X
  have zyb:=fun X=>c8 yb X
  have zyd:=fun X=>c8 yd X
  have zyg:=fun X=>c8 yg X
  have zrb:=fun X=>c8 rb X
  have zhc0:=fun X=>c8 hc0 X
  have zf:=fun X=>v6 hg3 hf0 X
  clear ya yb yd yg rb hc0 h1 h2 h3 hgc hgf
  have x0:=L2.cell 0
  simp only[cD9]at x0
  go_wp2_with fail
  refine l8 23 _ rfl aj aj ?_
  simp only[cG6,cG5,J6]
  repeat(any_goals (first|go_big_quiet_step ((fail))|quiet_step ((fail))))
  refine wpQuiet_nil ?_
  rintro _ ⟨X,rfl⟩
  go_wp2_with fail
  go_ret
  rw[hR.out,HV0.out]
  exact⟨_,rfl,z8 (w:=w1.ext X) ((o1r.keep (i8 w1 X) (cE1 _)).wide al ag) ha14 _,(B1.trans ((i8 w1 X).mono s1)).setCell (p:=⟨gr,a',none⟩) (by show _<=gr;omega) _⟩
 have q7:(o==7)=false:=by simp[o7]
 have hR:Hid (n6 c ⟨o,a,b,d,g⟩ t=t):=by unfold Hid;rw[aF1 (by rw[hOF.out];simp[o1,o11,o2,o4,o6,o7])]
 clear hOF tx hf o11 o2 o4 o6 o7
 go_wp2_with fail
 go_ret
 rw[hR.out]
 exact⟨_,rfl,o1r.wide al (cE1 _),B1⟩
theorem a09(v u:Value)(c:d8)(x:d9)(t:List Bool)(w:World)(h:D4 w v c)(hx:C2 c x=true)(ht:J0 w u 14 1 (bools t)):
  Calls Tryz.prog 65 #[v,x.v,u] w fun e w'=>∃r,e=.returned r/\D2 w' w.heap.size w'.heap.size 4 1 r 14 (bools (n6 c x t))/\Below w.heap.size w w':=by
 obtain⟨v1,v2,v3,rfl,h1,h2,h3⟩:=h
 have hf:=ac0 hx
 obtain⟨o,a,b,d,g⟩:=x
 simp only at hf
 obtain⟨W,hW⟩:∃W,W=((w.alloc (.cells #[v1,v2,v3] 26)).alloc (.cells #[.int .i64 o,.int .i64 a,.int .i64 b,.int .i64 d,.int .i64 g] 76)):=⟨_,rfl⟩
 have B0:Below w.heap.size w W:=by rw[hW];go_grown
 have sW:W.heap.size=w.heap.size+1+1:=by rw[hW];simp
 have L1:D7 W w.heap.size [v1,v2,v3]:=by rw[hW];exact(D7.new w [v1,v2,v3] _).alloc _
 have L2:D7 W (w.heap.size+1) [.int .i64 o,.int .i64 a,.int .i64 b,.int .i64 d,.int .i64 g]:=by rw[hW];exact D7.new' (w.alloc _) [.int .i64 o,.int .i64 a,.int .i64 b,.int .i64 d,.int .i64 g] _ an
 obtain⟨htl,tb,tof,tc,rfl,htc,htm,htb,htx⟩:=ht.bools14
 have hOF:Hid (z5 c ⟨o,a,b,d,g⟩ t=if o=1\/o=11 then some false else if o=2 then some (scB (Q1 c.vars b))else if o=4 then some (scB (Q1 c.arrays b)||bAt t d)
   else if o=6 then some (bAt t d||bAt t g)else if o=7 then some (bAt t b||bAt t d||bAt t g)else none):=rfl
 go_enter Tryz.func65,Tryz.ntmps65
 go_upto_region 2 with(at_builtin;refine H4 rfl _ _ rfl Tryz.underlying63 aX3 rfl al rfl (A8 _ #[] 0 1 _ an rfl al).1 rfl (ht.below (by go_grown)) ap8 al al an ?_;rintro a4 q4 w1 o4 b4- -)
 trace_state
 have o1r:D2 w1 W.heap.size w1.heap.size 4 1 (.slice a4 14 q4) 14 (bools t):=D2.mk' (by simpa[sW]using o4)
 have b1:Below W.heap.size W w1:=by
  rw[<-hW]at b4
  exact((Below.refl W.heap.size W).alloc (cE1 _) _).trans (by simpa[sW]using b4)
 clear hW o4 b4
 replace L1:=L1.below b1 L1.lt
 replace L2:=L2.below b1 L2.lt
 have B1:=B0.trans (b1.mono B0.size)
 obtain⟨gr,kr,hvr,hg1,-,hg3,-,-,hgf,hgc⟩:=o1r.open al
 cases hvr
 rw[sW]at o1r hg1
 have s1:=B1.size
 have tx:∀k:Nat,k<14->w1.cell? ⟨tb,tof+k,none⟩=some (.bool (bAt t k)):=fun k hk=>by rw[(C4 B1).1 _ _ htb];exact htx k hk
 clear htx ht
 have x0:=L2.cell 0
 simp only[cD9]at x0
 by_cases o1:o=1
 ·subst o1
  have hff:=hf.1 rfl
  obtain⟨a',ha'⟩:∃n:Nat,a=n:=⟨a.toNat,al⟩
  subst ha'
  have ha14:a'<14:=al
  have hR:Hid (n6 c ⟨1,a',b,d,g⟩ t=t.set a' false):=by unfold Hid;rw[D3 (b:=false) (by rw[hOF.out];simp)];simp
  have x1:=L2.cell 1
  simp only[cD9,cE8]at x1
  have hf0:=hgf a'
  obtain⟨u0,hc0⟩:∃u0,w1.cell? ⟨gr,a',none⟩=some u0:=⟨_,hgc a' _ (A4 t a' al)⟩
  clear hff hOF tx hf
  go_wp2_with fail
  go_ret
  rw[hR.out]
  exact⟨_,rfl,z8 (o1r.wide al an) ha14 _,B1.setCell (p:=⟨gr,a',none⟩) (by show _<=gr;omega) _⟩
 by_cases o11:o=11
 ·subst o11
  have hff:=hf.2.1 rfl
  obtain⟨a',ha'⟩:∃n:Nat,a=n:=⟨a.toNat,al⟩
  subst ha'
  have ha14:a'<14:=al
  have hR:Hid (n6 c ⟨11,a',b,d,g⟩ t=t.set a' false):=by unfold Hid;rw[D3 (b:=false) (by rw[hOF.out];simp)];simp
  have x1:=L2.cell 1
  simp only[cD9,cE8]at x1
  have hf0:=hgf a'
  obtain⟨u0,hc0⟩:∃u0,w1.cell? ⟨gr,a',none⟩=some u0:=⟨_,hgc a' _ (A4 t a' al)⟩
  clear hff hOF tx hf
  go_wp2_with fail
  go_ret
  rw[hR.out]
  exact⟨_,rfl,z8 (o1r.wide al an) ha14 _,B1.setCell (p:=⟨gr,a',none⟩) (by show _<=gr;omega) _⟩
 have q1:(o==1)=false:=by simp[o1]
 have q11:(o==11)=false:=by simp[o11]
 by_cases o2:o=2
 ·subst o2
  have hff:=hf.2.2.1 rfl
  clear hf
  obtain⟨a',ha'⟩:∃n:Nat,a=n:=⟨a.toNat,al⟩
  subst ha'
  obtain⟨b',hb'⟩:∃n:Nat,b=n:=⟨b.toNat,al⟩
  subst hb'
  obtain⟨vb,vo,vc,rfl,hvc,hvm,hvn,hvb,hvx⟩:=h1.intsAt al
  have y2:=hvx b' al
  have hR:Hid (n6 c ⟨2,a',b',d,g⟩ t=t.set a' (scB (Q1 c.vars b'))):=by unfold Hid;rw[D3 (b:=scB (Q1 c.vars b')) (by rw[hOF.out];simp)];simp
  have ha14:a'<14:=al
  have ha14i:(a':Int)<14:=al
  have hf0:=hgf a'
  obtain⟨u0,hc0⟩:∃u0,w1.cell? ⟨gr,a',none⟩=some u0:=⟨_,hgc a' _ (A4 t a' al)⟩
  have hb14:b'<c.vars.length:=al
  have hb14i:(b':Int)<(c.vars.length:Int):=al
  clear hff hOF tx
  cases hv0:scB (Q1 c.vars b')
  ·have HV0:=show Hid _ from hv0
   clear hv0
   have ya:=L2.cell 1
   have yb:=L2.cell 2
   have yv:=L1.cell 0
   simp only[cD9,cE8]at yv ya yb
   have yw:w1.cell? ⟨vb,vo+b',none⟩=some (.int .i64 (Q1 c.vars b')):=by rw[(C4 B1).1 _ _ hvb];exact y2
   have zya:=fun X=>c8 ya X
   have zyb:=fun X=>c8 yb X
   have zyv:=fun X=>c8 yv X
   have zyw:=fun X=>c8 yw X
   have zhc0:=fun X=>c8 hc0 X
   have zf:=fun X=>v6 hg3 hf0 X
   have HC:Hid (∀X,Calls Tryz.prog 82 #[.int .i64 (Q1 c.vars b')] (w1.ext X) fun e w''=>e=.returned (.bool false)/\∃Y,w''=w1.ext Y):=fun X=>(D5 _ _).mono fun e w' ⟨e1,e2⟩=>⟨by rw[e1,HV0.out],X,e2.symm⟩
   clear ya yb yv yw hc0 h1 h2 h3 y2 hvx hgc hgf
   have x0:=L2.cell 0
   simp only[cD9]at x0
   go_wp2_with fail
   refine l8 11 _ rfl aj aj ?_
   simp only[cG6,cG5,J6]
   repeat(any_goals (first|go_big_quiet_step ((go_at_call 82;exact HC.out _))|quiet_step ((go_at_call 82;exact HC.out _))))
   refine wpQuiet_nil ?_
   rintro _ ⟨X,rfl⟩
   go_wp2_with fail
   go_ret
   rw[hR.out,HV0.out]
   exact⟨_,rfl,z8 (w:=w1.ext X) ((o1r.keep (i8 w1 X) (cE1 _)).wide al ag) ha14 _,(B1.trans ((i8 w1 X).mono s1)).setCell (p:=⟨gr,a',none⟩) (by show _<=gr;omega) _⟩
  have HV0:=show Hid _ from hv0
  clear hv0
  have ya:=L2.cell 1
  have yb:=L2.cell 2
  have yv:=L1.cell 0
  simp only[cD9,cE8]at yv ya yb
  have yw:w1.cell? ⟨vb,vo+b',none⟩=some (.int .i64 (Q1 c.vars b')):=by rw[(C4 B1).1 _ _ hvb];exact y2
  have zya:=fun X=>c8 ya X
  have zyb:=fun X=>c8 yb X
  have zyv:=fun X=>c8 yv X
  have zyw:=fun X=>c8 yw X
  have zhc0:=fun X=>c8 hc0 X
  have zf:=fun X=>v6 hg3 hf0 X
  have HC:Hid (∀X,Calls Tryz.prog 82 #[.int .i64 (Q1 c.vars b')] (w1.ext X) fun e w''=>e=.returned (.bool true)/\∃Y,w''=w1.ext Y):=fun X=>(D5 _ _).mono fun e w' ⟨e1,e2⟩=>⟨by rw[e1,HV0.out],X,e2.symm⟩
  clear ya yb yv yw hc0 h1 h2 h3 y2 hvx hgc hgf
  have x0:=L2.cell 0
  simp only[cD9]at x0
  go_wp2_with fail
  refine l8 11 _ rfl aj aj ?_
  simp only[cG6,cG5,J6]
  repeat(any_goals (first|go_big_quiet_step ((go_at_call 82;exact HC.out _))|quiet_step ((go_at_call 82;exact HC.out _))))
  refine wpQuiet_nil ?_
  rintro _ ⟨X,rfl⟩
  go_wp2_with fail
  go_ret
  rw[hR.out,HV0.out]
  exact⟨_,rfl,z8 (w:=w1.ext X) ((o1r.keep (i8 w1 X) (cE1 _)).wide al ag) ha14 _,(B1.trans ((i8 w1 X).mono s1)).setCell (p:=⟨gr,a',none⟩) (by show _<=gr;omega) _⟩
 have q2:(o==2)=false:=by simp[o2]
 by_cases o4:o=4
 ·subst o4
  have hff:=hf.2.2.2.2.1 rfl
  clear hf
  obtain⟨a',ha'⟩:∃n:Nat,a=n:=⟨a.toNat,al⟩
  subst ha'
  obtain⟨b',hb'⟩:∃n:Nat,b=n:=⟨b.toNat,al⟩
  subst hb'
  obtain⟨d',hd'⟩:∃n:Nat,d=n:=⟨d.toNat,al⟩
  subst hd'
  obtain⟨vb,vo,vc,rfl,hvc,hvm,hvn,hvb,hvx⟩:=h2.intsAt al
  have y2:=hvx b' al
  have hR:Hid (n6 c ⟨4,a',b',d',g⟩ t=t.set a' (scB (Q1 c.arrays b')||bAt t d')):=by unfold Hid;rw[D3 (b:=scB (Q1 c.arrays b')||bAt t d') (by rw[hOF.out];simp)];simp
  have ha14:a'<14:=al
  have ha14i:(a':Int)<14:=al
  have rd:=tx d' al
  have hrd14:d'<14:=al
  have hrd14i:(d':Int)<14:=al
  have hf0:=hgf a'
  obtain⟨u0,hc0⟩:∃u0,w1.cell? ⟨gr,a',none⟩=some u0:=⟨_,hgc a' _ (A4 t a' al)⟩
  have hb14:b'<c.arrays.length:=al
  have hb14i:(b':Int)<(c.arrays.length:Int):=al
  clear hff hOF tx
  cases hv0:scB (Q1 c.arrays b')
  ·have HV0:=show Hid _ from hv0
   clear hv0
   cases hv1:bAt t d'
   ·have HV1:=show Hid _ from hv1
    rw[hv1]at rd
    clear hv1
    have ya:=L2.cell 1
    have yb:=L2.cell 2
    have yd:=L2.cell 3
    have yv:=L1.cell 1
    simp only[cD9,cE8]at yv ya yb yd
    have yw:w1.cell? ⟨vb,vo+b',none⟩=some (.int .i64 (Q1 c.arrays b')):=by rw[(C4 B1).1 _ _ hvb];exact y2
    have zya:=fun X=>c8 ya X
    have zyb:=fun X=>c8 yb X
    have zyd:=fun X=>c8 yd X
    have zyv:=fun X=>c8 yv X
    have zyw:=fun X=>c8 yw X
    have zrd:=fun X=>c8 rd X
    have zhc0:=fun X=>c8 hc0 X
    have zf:=fun X=>v6 hg3 hf0 X
    have HC:Hid (∀X,Calls Tryz.prog 82 #[.int .i64 (Q1 c.arrays b')] (w1.ext X) fun e w''=>e=.returned (.bool false)/\∃Y,w''=w1.ext Y):=fun X=>(D5 _ _).mono fun e w' ⟨e1,e2⟩=>⟨by rw[e1,HV0.out],X,e2.symm⟩
    clear ya yb yd yv yw rd hc0 h1 h2 h3 y2 hvx hgc hgf
    have x0:=L2.cell 0
    simp only[cD9]at x0
    go_wp2_with fail
    refine l8 18 _ rfl aj aj ?_
    simp only[cG6,cG5,J6]
    repeat(any_goals (first|go_big_quiet_step ((go_at_call 82;exact HC.out _))|quiet_step ((go_at_call 82;exact HC.out _))))
    refine wpQuiet_nil ?_
    rintro _ ⟨X,rfl⟩
    go_wp2_with fail
    go_ret
    rw[hR.out,HV0.out,HV1.out]
    exact⟨_,rfl,z8 (w:=w1.ext X) ((o1r.keep (i8 w1 X) (cE1 _)).wide al ag) ha14 _,(B1.trans ((i8 w1 X).mono s1)).setCell (p:=⟨gr,a',none⟩) (by show _<=gr;omega) _⟩
   have HV1:=show Hid _ from hv1
   rw[hv1]at rd
   clear hv1
   have ya:=L2.cell 1
   have yb:=L2.cell 2
   have yd:=L2.cell 3
   have yv:=L1.cell 1
   simp only[cD9,cE8]at yv ya yb yd
   have yw:w1.cell? ⟨vb,vo+b',none⟩=some (.int .i64 (Q1 c.arrays b')):=by rw[(C4 B1).1 _ _ hvb];exact y2
   have zya:=fun X=>c8 ya X
   have zyb:=fun X=>c8 yb X
   have zyd:=fun X=>c8 yd X
   have zyv:=fun X=>c8 yv X
   have zyw:=fun X=>c8 yw X
   have zrd:=fun X=>c8 rd X
   have zhc0:=fun X=>c8 hc0 X
   have zf:=fun X=>v6 hg3 hf0 X
   have HC:Hid (∀X,Calls Tryz.prog 82 #[.int .i64 (Q1 c.arrays b')] (w1.ext X) fun e w''=>e=.returned (.bool false)/\∃Y,w''=w1.ext Y):=fun X=>(D5 _ _).mono fun e w' ⟨e1,e2⟩=>⟨by rw[e1,HV0.out],X,e2.symm⟩
   clear ya yb yd yv yw rd hc0 h1 h2 h3 y2 hvx hgc hgf
   have x0:=L2.cell 0
   simp only[cD9]at x0
   go_wp2_with fail
   refine l8 18 _ rfl aj aj ?_
   simp only[cG6,cG5,J6]
   repeat(any_goals (first|go_big_quiet_step ((go_at_call 82;exact HC.out _))|quiet_step ((go_at_call 82;exact HC.out _))))
   refine wpQuiet_nil ?_
   rintro _ ⟨X,rfl⟩
   go_wp2_with fail
   go_ret
   rw[hR.out,HV0.out,HV1.out]
   exact⟨_,rfl,z8 (w:=w1.ext X) ((o1r.keep (i8 w1 X) (cE1 _)).wide al ag) ha14 _,(B1.trans ((i8 w1 X).mono s1)).setCell (p:=⟨gr,a',none⟩) (by show _<=gr;omega) _⟩
  have HV0:=show Hid _ from hv0
  clear hv0
  have ya:=L2.cell 1
  have yb:=L2.cell 2
  have yd:=L2.cell 3
  have yv:=L1.cell 1
  simp only[cD9,cE8]at yv ya yb yd
  have yw:w1.cell? ⟨vb,vo+b',none⟩=some (.int .i64 (Q1 c.arrays b')):=by rw[(C4 B1).1 _ _ hvb];exact y2
  have zya:=fun X=>c8 ya X
  have zyb:=fun X=>c8 yb X
  have zyd:=fun X=>c8 yd X
  have zyv:=fun X=>c8 yv X
  have zyw:=fun X=>c8 yw X
  have zhc0:=fun X=>c8 hc0 X
  have zf:=fun X=>v6 hg3 hf0 X
  have HC:Hid (∀X,Calls Tryz.prog 82 #[.int .i64 (Q1 c.arrays b')] (w1.ext X) fun e w''=>e=.returned (.bool true)/\∃Y,w''=w1.ext Y):=fun X=>(D5 _ _).mono fun e w' ⟨e1,e2⟩=>⟨by rw[e1,HV0.out],X,e2.symm⟩
  clear ya yb yd yv yw hc0 h1 h2 h3 y2 hvx hgc hgf
  have x0:=L2.cell 0
  simp only[cD9]at x0
  go_wp2_with fail
  refine l8 18 _ rfl aj aj ?_
  simp only[cG6,cG5,J6]
  repeat(any_goals (first|go_big_quiet_step ((go_at_call 82;exact HC.out _))|quiet_step ((go_at_call 82;exact HC.out _))))
  refine wpQuiet_nil ?_
  rintro _ ⟨X,rfl⟩
  go_wp2_with fail
  go_ret
  rw[hR.out,HV0.out]
  exact⟨_,rfl,z8 (w:=w1.ext X) ((o1r.keep (i8 w1 X) (cE1 _)).wide al ag) ha14 _,(B1.trans ((i8 w1 X).mono s1)).setCell (p:=⟨gr,a',none⟩) (by show _<=gr;omega) _⟩
 have q4:(o==4)=false:=by simp[o4]
 by_cases o6:o=6
 ·subst o6
  have hff:=hf.2.2.2.2.2.2.1 rfl
  clear hf
  obtain⟨a',ha'⟩:∃n:Nat,a=n:=⟨a.toNat,al⟩
  subst ha'
  obtain⟨d',hd'⟩:∃n:Nat,d=n:=⟨d.toNat,al⟩
  subst hd'
  obtain⟨g',hg'⟩:∃n:Nat,g=n:=⟨g.toNat,al⟩
  subst hg'
  have hR:Hid (n6 c ⟨6,a',b,d',g'⟩ t=t.set a' (bAt t d'||bAt t g')):=by unfold Hid;rw[D3 (b:=bAt t d'||bAt t g') (by rw[hOF.out];simp)];simp
  have ha14:a'<14:=al
  have ha14i:(a':Int)<14:=al
  have rd:=tx d' al
  have hrd14:d'<14:=al
  have hrd14i:(d':Int)<14:=al
  have rg:=tx g' al
  have hrg14:g'<14:=al
  have hrg14i:(g':Int)<14:=al
  have hf0:=hgf a'
  obtain⟨u0,hc0⟩:∃u0,w1.cell? ⟨gr,a',none⟩=some u0:=⟨_,hgc a' _ (A4 t a' al)⟩
  clear hff hOF tx
  cases hv0:bAt t d'
  ·have HV0:=show Hid _ from hv0
   rw[hv0]at rd
   clear hv0
   cases hv1:bAt t g'
   ·have HV1:=show Hid _ from hv1
    rw[hv1]at rg
    clear hv1
    have ya:=L2.cell 1
    have yd:=L2.cell 3
    have yg:=L2.cell 4
    simp only[cD9,cE8]at ya yd yg
    have zya:=fun X=>c8 ya X
    have zyd:=fun X=>c8 yd X
    have zyg:=fun X=>c8 yg X
    have zrd:=fun X=>c8 rd X
    have zrg:=fun X=>c8 rg X
    have zhc0:=fun X=>c8 hc0 X
    have zf:=fun X=>v6 hg3 hf0 X
    clear ya yd yg rd rg hc0 h1 h2 h3 hgc hgf
    have x0:=L2.cell 0
    simp only[cD9]at x0
    go_wp2_with fail
    refine l8 16 _ rfl aj aj ?_
    simp only[cG6,cG5,J6]
    repeat(any_goals (first|go_big_quiet_step ((fail))|quiet_step ((fail))))
    refine wpQuiet_nil ?_
    rintro _ ⟨X,rfl⟩
    go_wp2_with fail
    go_ret
    rw[hR.out,HV0.out,HV1.out]
    exact⟨_,rfl,z8 (w:=w1.ext X) ((o1r.keep (i8 w1 X) (cE1 _)).wide al ag) ha14 _,(B1.trans ((i8 w1 X).mono s1)).setCell (p:=⟨gr,a',none⟩) (by show _<=gr;omega) _⟩
   have HV1:=show Hid _ from hv1
   rw[hv1]at rg
   clear hv1
   have ya:=L2.cell 1
   have yd:=L2.cell 3
   have yg:=L2.cell 4
   simp only[cD9,cE8]at ya yd yg
   have zya:=fun X=>c8 ya X
   have zyd:=fun X=>c8 yd X
   have zyg:=fun X=>c8 yg X
   have zrd:=fun X=>c8 rd X
   have zrg:=fun X=>c8 rg X
   have zhc0:=fun X=>c8 hc0 X
   have zf:=fun X=>v6 hg3 hf0 X
   clear ya yd yg rd rg hc0 h1 h2 h3 hgc hgf
   have x0:=L2.cell 0
   simp only[cD9]at x0
   go_wp2_with fail
   refine l8 16 _ rfl aj aj ?_
   simp only[cG6,cG5,J6]
   repeat(any_goals (first|go_big_quiet_step ((fail))|quiet_step ((fail))))
   refine wpQuiet_nil ?_
   rintro _ ⟨X,rfl⟩
   go_wp2_with fail
   go_ret
   rw[hR.out,HV0.out,HV1.out]
   exact⟨_,rfl,z8 (w:=w1.ext X) ((o1r.keep (i8 w1 X) (cE1 _)).wide al ag) ha14 _,(B1.trans ((i8 w1 X).mono s1)).setCell (p:=⟨gr,a',none⟩) (by show _<=gr;omega) _⟩
  have HV0:=show Hid _ from hv0
  rw[hv0]at rd
  clear hv0
  have ya:=L2.cell 1
  have yd:=L2.cell 3
  have yg:=L2.cell 4
  simp only[cD9,cE8]at ya yd yg
  have zya:=fun X=>c8 ya X
  have zyd:=fun X=>c8 yd X
  have zyg:=fun X=>c8 yg X
  have zrd:=fun X=>c8 rd X
  have zhc0:=fun X=>c8 hc0 X
  have zf:=fun X=>v6 hg3 hf0 X
  clear ya yd yg rd hc0 h1 h2 h3 hgc hgf
  have x0:=L2.cell 0
  simp only[cD9]at x0
  go_wp2_with fail
  refine l8 16 _ rfl aj aj ?_
  simp only[cG6,cG5,J6]
  repeat(any_goals (first|go_big_quiet_step ((fail))|quiet_step ((fail))))
  refine wpQuiet_nil ?_
  rintro _ ⟨X,rfl⟩
  go_wp2_with fail
  go_ret
  rw[hR.out,HV0.out]
  exact⟨_,rfl,z8 (w:=w1.ext X) ((o1r.keep (i8 w1 X) (cE1 _)).wide al ag) ha14 _,(B1.trans ((i8 w1 X).mono s1)).setCell (p:=⟨gr,a',none⟩) (by show _<=gr;omega) _⟩
 have q6:(o==6)=false:=by simp[o6]
 by_cases o7:o=7
 ·subst o7
  have hff:=hf.2.2.2.2.2.2.2.1 rfl
  clear hf
  obtain⟨a',ha'⟩:∃n:Nat,a=n:=⟨a.toNat,al⟩
  subst ha'
  obtain⟨b',hb'⟩:∃n:Nat,b=n:=⟨b.toNat,al⟩
  subst hb'
  obtain⟨d',hd'⟩:∃n:Nat,d=n:=⟨d.toNat,al⟩
  subst hd'
  obtain⟨g',hg'⟩:∃n:Nat,g=n:=⟨g.toNat,al⟩
  subst hg'
  have hR:Hid (n6 c ⟨7,a',b',d',g'⟩ t=t.set a' (bAt t b'||bAt t d'||bAt t g')):=by unfold Hid;rw[D3 (b:=bAt t b'||bAt t d'||bAt t g') (by rw[hOF.out];simp)];simp
  have ha14:a'<14:=al
  have ha14i:(a':Int)<14:=al
  have rb:=tx b' al
  have hrb14:b'<14:=al
  have hrb14i:(b':Int)<14:=al
  have rd:=tx d' al
  have hrd14:d'<14:=al
  have hrd14i:(d':Int)<14:=al
  have rg:=tx g' al
  have hrg14:g'<14:=al
  have hrg14i:(g':Int)<14:=al
  have hf0:=hgf a'
  obtain⟨u0,hc0⟩:∃u0,w1.cell? ⟨gr,a',none⟩=some u0:=⟨_,hgc a' _ (A4 t a' al)⟩
  clear hff hOF tx
  cases hv0:bAt t b'
  ·have HV0:=show Hid _ from hv0
   rw[hv0]at rb
   clear hv0
   cases hv1:bAt t d'
   ·have HV1:=show Hid _ from hv1
    rw[hv1]at rd
    clear hv1
    cases hv2:bAt t g'
    ·have HV2:=show Hid _ from hv2
     rw[hv2]at rg
     clear hv2
     have ya:=L2.cell 1
     have yb:=L2.cell 2
     have yd:=L2.cell 3
     have yg:=L2.cell 4
     simp only[cD9,cE8]at ya yb yd yg
     have zya:=fun X=>c8 ya X
     have zyb:=fun X=>c8 yb X
     have zyd:=fun X=>c8 yd X
     have zyg:=fun X=>c8 yg X
     have zrb:=fun X=>c8 rb X
     have zrd:=fun X=>c8 rd X
     have zrg:=fun X=>c8 rg X
     have zhc0:=fun X=>c8 hc0 X
     have zf:=fun X=>v6 hg3 hf0 X
     clear ya yb yd yg rb rd rg hc0 h1 h2 h3 hgc hgf
     have x0:=L2.cell 0
     simp only[cD9]at x0
     go_wp2_with fail
     refine l8 23 _ rfl aj aj ?_
     simp only[cG6,cG5,J6]
     repeat(any_goals (first|go_big_quiet_step ((fail))|quiet_step ((fail))))
     refine wpQuiet_nil ?_
     rintro _ ⟨X,rfl⟩
     go_wp2_with fail
     go_ret
     rw[hR.out,HV0.out,HV1.out,HV2.out]
     exact⟨_,rfl,z8 (w:=w1.ext X) ((o1r.keep (i8 w1 X) (cE1 _)).wide al ag) ha14 _,(B1.trans ((i8 w1 X).mono s1)).setCell (p:=⟨gr,a',none⟩) (by show _<=gr;omega) _⟩
    have HV2:=show Hid _ from hv2
    rw[hv2]at rg
    clear hv2
    have ya:=L2.cell 1
    have yb:=L2.cell 2
    have yd:=L2.cell 3
    have yg:=L2.cell 4
    simp only[cD9,cE8]at ya yb yd yg
    have zya:=fun X=>c8 ya X
    have zyb:=fun X=>c8 yb X
    have zyd:=fun X=>c8 yd X
    have zyg:=fun X=>c8 yg X
    have zrb:=fun X=>c8 rb X
    have zrd:=fun X=>c8 rd X
    have zrg:=fun X=>c8 rg X
    have zhc0:=fun X=>c8 hc0 X
    have zf:=fun X=>v6 hg3 hf0 X
    clear ya yb yd yg rb rd rg hc0 h1 h2 h3 hgc hgf
    have x0:=L2.cell 0
    simp only[cD9]at x0
    go_wp2_with fail
    refine l8 23 _ rfl aj aj ?_
    simp only[cG6,cG5,J6]
    repeat(any_goals (first|go_big_quiet_step ((fail))|quiet_step ((fail))))
    refine wpQuiet_nil ?_
    rintro _ ⟨X,rfl⟩
    go_wp2_with fail
    go_ret
    rw[hR.out,HV0.out,HV1.out,HV2.out]
    exact⟨_,rfl,z8 (w:=w1.ext X) ((o1r.keep (i8 w1 X) (cE1 _)).wide al ag) ha14 _,(B1.trans ((i8 w1 X).mono s1)).setCell (p:=⟨gr,a',none⟩) (by show _<=gr;omega) _⟩
   have HV1:=show Hid _ from hv1
   rw[hv1]at rd
   clear hv1
   have ya:=L2.cell 1
   have yb:=L2.cell 2
   have yd:=L2.cell 3
   have yg:=L2.cell 4
   simp only[cD9,cE8]at ya yb yd yg
   have zya:=fun X=>c8 ya X
   have zyb:=fun X=>c8 yb X
   have zyd:=fun X=>c8 yd X
   have zyg:=fun X=>c8 yg X
   have zrb:=fun X=>c8 rb X
   have zrd:=fun X=>c8 rd X
   have zhc0:=fun X=>c8 hc0 X
   have zf:=fun X=>v6 hg3 hf0 X
   clear ya yb yd yg rb rd hc0 h1 h2 h3 hgc hgf
   have x0:=L2.cell 0
   simp only[cD9]at x0
   go_wp2_with fail
   refine l8 23 _ rfl aj aj ?_
   simp only[cG6,cG5,J6]
   repeat(any_goals (first|go_big_quiet_step ((fail))|quiet_step ((fail))))
   refine wpQuiet_nil ?_
   rintro _ ⟨X,rfl⟩
   go_wp2_with fail
   go_ret
   rw[hR.out,HV0.out,HV1.out]
   exact⟨_,rfl,z8 (w:=w1.ext X) ((o1r.keep (i8 w1 X) (cE1 _)).wide al ag) ha14 _,(B1.trans ((i8 w1 X).mono s1)).setCell (p:=⟨gr,a',none⟩) (by show _<=gr;omega) _⟩
  have HV0:=show Hid _ from hv0
  rw[hv0]at rb
  clear hv0
  have ya:=L2.cell 1
  have yb:=L2.cell 2
  have yd:=L2.cell 3
  have yg:=L2.cell 4
  simp only[cD9,cE8]at ya yb yd yg
  have zya:=fun X=>c8 ya X
  have zyb:=fun X=>c8 yb X
  have zyd:=fun X=>c8 yd X
  have zyg:=fun X=>c8 yg X
  have zrb:=fun X=>c8 rb X
  have zhc0:=fun X=>c8 hc0 X
  have zf:=fun X=>v6 hg3 hf0 X
  clear ya yb yd yg rb hc0 h1 h2 h3 hgc hgf
  have x0:=L2.cell 0
  simp only[cD9]at x0
  go_wp2_with fail
  refine l8 23 _ rfl aj aj ?_
  simp only[cG6,cG5,J6]
  repeat(any_goals (first|go_big_quiet_step ((fail))|quiet_step ((fail))))
  refine wpQuiet_nil ?_
  rintro _ ⟨X,rfl⟩
  go_wp2_with fail
  go_ret
  rw[hR.out,HV0.out]
  exact⟨_,rfl,z8 (w:=w1.ext X) ((o1r.keep (i8 w1 X) (cE1 _)).wide al ag) ha14 _,(B1.trans ((i8 w1 X).mono s1)).setCell (p:=⟨gr,a',none⟩) (by show _<=gr;omega) _⟩
 have q7:(o==7)=false:=by simp[o7]
 have hR:Hid (n6 c ⟨o,a,b,d,g⟩ t=t):=by unfold Hid;rw[aF1 (by rw[hOF.out];simp[o1,o11,o2,o4,o6,o7])]
 clear hOF tx hf o11 o2 o4 o6 o7
 go_wp2_with fail
 go_ret
 rw[hR.out]
 exact⟨_,rfl,o1r.wide al (cE1 _),B1⟩
theorem aW1{w:World}{v:Value}{m:List (List Bool)}(h:R2 w v m):∃a cap,v=.slice a m.length cap/\m.length<=9223372036854775807/\
  ∀i,i<m.length->∃b off a' c',a=some ⟨b,off,none⟩/\b<w.heap.size/\w.cell? ⟨b,off+i,none⟩=some (.slice a' (rowAt m i).length c')/\J0 w (.slice a' (rowAt m i).length c') (rowAt m i).length 1 (bools (rowAt m i)):=by
 obtain⟨a,cap,h1,h2,h3⟩:=h.open
 refine⟨a,cap,h1,h2,fun i hi=>?_⟩
 rw[R4 hi]
 exact h3 i hi
theorem aG0(v u:Value)(c:d8)(m:List (List Bool))(w:World)(hc:l5 c=true)(h:D4 w v c)(hm:R2 w u m)(hl:m.length=c.list.length)(hr:m.all aw5=true):
  Calls Tryz.prog 32 #[v,u] w fun e w'=>e=.returned (.tuple #[.int .i64 (H8 c m).1,.int .i64 (H8 c m).2])/\Below w.heap.size w w':=by
 have hrow:=h
 obtain⟨v1,v2,v3,rfl,h1,h2,h3⟩:=h
 obtain⟨W,hW⟩:∃W,W=w.alloc (.cells #[v1,v2,v3] 26):=⟨_,rfl⟩
 have B0:Below w.heap.size w W:=by rw[hW];go_grown
 have L1:D7 W w.heap.size [v1,v2,v3]:=by rw[hW];exact(D7.new w [v1,v2,v3] _)
 obtain⟨a3,k3,rfl,hk3,hm3,-,hc3⟩:=h3.ins
 obtain⟨am,km,rfl,hmm,hmc⟩:=aW1 hm
 have hn4:=(v7 hc).2.2.1
 go_enter Tryz.func32,Tryz.ntmps32
 go_wp2_with fail
 rw[<-hW]
 clear hW
 go_loopw [6,7,8,11] (fun _ _ _ i wr=>∃k:Nat,k<=m.length/\i=.int .i64 k/\I1 c m k=false/\Below W.heap.size W wr) (fun _ _ _ i _=>m.length-(intOf i).toNat)
 case atStart=>exact⟨0,cG8 _,rfl,rfl,Below.refl _ _⟩
 case round=>
  obtain⟨k,hk,rfl,ha,hb⟩:=hrel
  have HA:=show Hid _ from ha
  clear ha
  replace L1:=L1.below hb L1.lt
  have BW:=B0.trans (hb.mono B0.size)
  by_cases hlt:k<m.length
  ·have hltc:k<c.list.length:=al
   obtain⟨b,off,rfl,hb3,i0,i1,i2,i3,i4⟩:=hc3 k hltc
   obtain⟨bm,om,a',c',rfl,hbm,xm,hrm⟩:=hmc k hlt
   have hx:=(v7 hc).2.2.2.1 k hltc
   have HB:Hid (badAt c m k=(decide (0<(rowAt m k).length)&&decide (G6 c (L6 c k) (rowAt m k)≠0))):=rfl
   rw[V4 hltc]at HB
   have HF:=show Hid (I1 c m k=false->badAt c m k=true->H8 c m=(G6 c (L6 c k) (rowAt m k),(k:Int)))from fun g1 g2=>aE2 hlt g1 g2
   rw[V4 hltc]at HF
   have HS:=show Hid _ from aF0 c m k
   have hlr:=F3 hr k
   rw[<-(C4 BW).1 _ _ hb3]at i0 i1 i2 i3 i4
   rw[<-(C4 BW).1 _ _ hbm]at xm
   replace hrm:=hrm.below BW
   generalize rowAt m k=r at*
   generalize c.list[k]=x at*
   clear hc3 hmc hr
   have x0:=L1.cell 0
   have x1:=L1.cell 1
   have x2:=L1.cell 2
   simp only[cD9,cE8]at x0 x1 x2
   by_cases h0:r.length=0
   ·have q0:((r.length:Int)==0)=true:=by simp[h0]
    have HN:=show Hid (I1 c m (k+1)=false)from by unfold Hid;rw[HS.out,HA.out,HB.out];simp[h0]
    clear HF HB hlr h0
    go_wp2_with fail
    exact⟨⟨k+1,al,by go_num,HN.out,hb⟩,by simp[intOf];omega⟩
   have h14:r.length=14:=al
   have q0:((r.length:Int)==0)=false:=by rw[h14];rfl
   have hrr:J0 wr (.slice a' r.length c') 14 1 (bools r):=by rw[h14]at hrm ⊢;exact hrm
   have z0:=fun X=>c8 x0 X
   have z1:=fun X=>c8 x1 X
   have z2:=fun X=>c8 x2 X
   have j0:=fun X=>c8 i0 X
   have j1:=fun X=>c8 i1 X
   have j2:=fun X=>c8 i2 X
   have j3:=fun X=>c8 i3 X
   have j4:=fun X=>c8 i4 X
   have hl14:(r.length:Int)<=14:=al
   have HC:Hid (∀X,Calls Tryz.prog 78 #[.agg #[v1,v2,.slice (some ⟨b,off,none⟩) c.list.length k3],x.v,.slice a' r.length c'] (wr.ext X) fun e w''=>e=.returned (.int .i64 (G6 c x r))/\∃Y,w''=wr.ext Y):=
    fun X=>Calls.ext_of' (bn7 _ _ c x r _ ((hrow.below BW).below (i8 _ X)) hx (hrr.below (i8 _ X)))
   by_cases ho:G6 c x r=0
   ·have qo:(G6 c x r !=0)=false:=by simp[ho]
    have HN:=show Hid (I1 c m (k+1)=false)from by unfold Hid;rw[HS.out,HA.out,HB.out];simp[ho]
    clear HF HB hlr h0 ho hrr hrm h14 x0 x1 x2 i0 i1 i2 i3 i4
    go_wp2_with fail
    refine C7 aj aj ?_
    repeat(any_goals (first|go_big_quiet_step ((go_at_call 78;exact HC.out _))|quiet_step ((go_at_call 78;exact HC.out _))))
    refine wpQuiet_nil ?_
    rintro _ ⟨X,rfl⟩
    have hbX:=hb.trans ((i8 wr X).mono hb.size)
    go_wp2_with fail
    exact⟨⟨k+1,al,by go_num,HN.out,hbX⟩,by simp[intOf];omega⟩
   have qo:(G6 c x r !=0)=true:=by simp[ho]
   have HN:=show Hid (H8 c m=(G6 c x r,(k:Int)))from HF.out HA.out (by rw[HB.out];simp[ho];omega)
   clear HF HB hlr h0 ho hrr hrm h14 x0 x1 x2 i0 i1 i2 i3 i4
   go_wp2_with fail
   refine C7 aj aj ?_
   repeat(any_goals (first|go_big_quiet_step ((go_at_call 78;exact HC.out _))|quiet_step ((go_at_call 78;exact HC.out _))))
   refine wpQuiet_nil ?_
   rintro _ ⟨X,rfl⟩
   have hbX:=hb.trans ((i8 wr X).mono hb.size)
   go_wp2_with fail
   go_ret2
   exact⟨by rw[HN.out];rfl,B0.trans (hbX.mono B0.size)⟩
  have e:k=m.length:=al
  subst e
  have HN:=show Hid _ from am5 HA.out
  clear hc3 hmc
  go_wp2_with fail
  go_ret2
  exact⟨by rw[HN.out];rfl,BW⟩
theorem a98(v:Value)(c:d8)(i:Nat)(w:World)(h:D4 w v c)(hi:i<c.list.length):
  Calls Tryz.prog 66 #[v,.int .i64 i] w fun e w'=>∃u,e=.returned u/\D2 w' w.heap.size w'.heap.size 3 1 u (R5 c.list[i] i).length (ints (R5 c.list[i] i))/\Below w.heap.size w w':=by
 obtain⟨v1,v2,v3,rfl,h1,h2,h3⟩:=h
 obtain⟨a3,k3,rfl,hk3,hm3,-,hc3⟩:=h3.ins
 obtain⟨W,hW⟩:∃W,W=w.alloc (.cells #[v1,v2,.slice a3 c.list.length k3] 26):=⟨_,rfl⟩
 have B0:Below w.heap.size w W:=by rw[hW];go_grown
 have s0:=B0.size
 have L1:D7 W w.heap.size [v1,v2,.slice a3 c.list.length k3]:=by rw[hW];exact(D7.new w [v1,v2,.slice a3 c.list.length k3] _)
 obtain⟨b,off,rfl,hb3,i0,i1,i2,i3,i4⟩:=hc3 i hi
 rw[<-(C4 B0).1 _ _ hb3]at i0 i1 i2 i3 i4
 have x2:=L1.cell 2
 simp at x2
 generalize c.list[i]=x at*
 rw[hW]at x2 i0 i1 i2 i3 i4
 clear hc3 h3 h1 h2
 by_cases h13:x.op=13
 ·have q13:(x.op==13)=true:=by simp[h13]
  have HN:=show Hid (R5 x i=[])from by simp[Hid,R5,h13]
  clear h13
  go_enter Tryz.func66,Tryz.ntmps66
  go_wp2_with fail
  go_ret
  rw[HN.out]
  exact⟨_,rfl,(A8 _ #[] 0 1 _ an rfl al).wide ah an,by go_grown⟩
 have q13:(x.op==13)=false:=by simp[h13]
 by_cases h8:x.op=8
 ·have q8:(x.op==8)=true:=by simp[h8]
  have HN:=show Hid (R5 x i=[x.a])from by simp[Hid,R5,h8]
  clear h13 h8
  go_enter Tryz.func66,Tryz.ntmps66
  go_wp2_with fail
  go_ret
  rw[HN.out]
  exact⟨_,rfl,(A8 _ #[_] 1 1 _ an rfl al).wide ah an,by go_grown⟩
 have q8:(x.op==8)=false:=by simp[h8]
 by_cases h9:x.op=9\/x.op=10
 ·have HN:=show Hid (R5 x i=[(i:Int)+1,x.b])from by simp[Hid,R5,h13,h8,h9]
  have h9':(x.op==9)=true\/((x.op==9)=false/\(x.op==10)=true):=by
   rcases h9 with h9|h9
   ·left;simp[h9]
   right;simp[h9]
  clear h13 h8 h9
  rcases h9' with q9|⟨q9,q10⟩
  all_goals
   go_enter Tryz.func66,Tryz.ntmps66
   go_wp2_with fail
   go_ret
   rw[HN.out]
   exact⟨_,rfl,((A8 _ #[.int .i64 ((i:Int)+1),.int .i64 x.b] 2 1 _ an rfl al)).wide ah an,by go_grown⟩
 have q9:(x.op==9)=false:=ah
 have q10:(x.op==10)=false:=ah
 have HN:=show Hid (R5 x i=[(i:Int)+1])from by simp[Hid,R5,h13,h8,h9]
 clear h13 h8 h9
 go_enter Tryz.func66,Tryz.ntmps66
 go_wp2_with fail
 go_ret
 rw[HN.out]
 exact⟨_,rfl,(A8 _ #[_] 1 1 _ an rfl al).wide ah an,by go_grown⟩
theorem bB5(v:Value)(c:d8)(t:Int)(w:World)(h:D4 w v c)(h0:0<=t)(h1:t<c.list.length):
  Calls Tryz.prog 66 #[v,.int .i64 t] w fun e w'=>∃u,e=.returned u/\D2 w' w.heap.size w'.heap.size 3 1 u (nx c t).length (ints (nx c t))/\Below w.heap.size w w':=by
 obtain⟨i,rfl⟩:∃i:Nat,t=i:=⟨t.toNat,al⟩
 have hi:i<c.list.length:=al
 have e:nx c i=R5 c.list[i] i:=bw6 (t:=(i:Int)) hi
 rw[e]
 exact a98 v c i w h hi
theorem be6(x:d9)(w:World):
  Calls Tryz.prog 95 #[x.v] w fun e w'=>e=.returned (.int .i64 (I3 x))/\Below w.heap.size w w':=by
 obtain⟨x0,x1,x2,x3,x4⟩:=x
 by_cases h8:x0=8
 ·have HN:=show Hid (I3 ⟨x0,x1,x2,x3,x4⟩=x1)from by simp[Hid,I3,h8]
  have q8:(x0==8)=true:=by simp[h8]
  clear h8
  go_enter Tryz.func95,Tryz.ntmps95
  go_wp2_with fail
  go_ret
  exact⟨z7 HN.out.symm,by go_grown⟩
 have q8:(x0==8)=false:=by simp[h8]
 by_cases h9:x0=9\/x0=10
 ·have HN:=show Hid (I3 ⟨x0,x1,x2,x3,x4⟩=x2)from by simp[Hid,I3,h8,h9]
  have h9':(x0==9)=true\/((x0==9)=false/\(x0==10)=true):=by
   rcases h9 with h9|h9
   ·left;simp[h9]
   right;simp[h9]
  clear h8 h9
  rcases h9' with q9|⟨q9,q10⟩
  all_goals
   go_enter Tryz.func95,Tryz.ntmps95
   go_wp2_with fail
   go_ret
   exact⟨z7 HN.out.symm,by go_grown⟩
 have HN:=show Hid (I3 ⟨x0,x1,x2,x3,x4⟩= -1)from by simp[Hid,I3,h8,h9]
 have q9:(x0==9)=false:=ah
 have q10:(x0==10)=false:=ah
 clear h8 h9
 go_enter Tryz.func95,Tryz.ntmps95
 go_wp2_with fail
 go_ret
 exact⟨z7 HN.out.symm,by go_grown⟩
theorem aF9(v:Value)(c:d8)(i:Nat)(w:World)(h:D4 w v c)(hi:i<c.list.length):
    Calls Tryz.prog 63 #[v,.int .i64 i] w fun e w'=>∃u,e=.returned u/\D2 w' w.heap.size w'.heap.size 3 1 u (al8 c.list[i] i).length (ints (al8 c.list[i] i))/\Below w.heap.size w w':=by
  obtain⟨v1,v2,v3,rfl,h1,h2,h3⟩:=h
  obtain⟨a3,k3,rfl,hk3,hm3,-,hc3⟩:=h3.ins
  obtain⟨W,hW⟩:∃W,W=(w.alloc (.cells #[v1,v2,.slice a3 c.list.length k3] 26)):=⟨_,rfl⟩
  have B0:Below w.heap.size w W:=by rw[hW];go_grown
  have L1:D7 W w.heap.size [v1,v2,.slice a3 c.list.length k3]:=by rw[hW];exact(D7.new w [v1,v2,.slice a3 c.list.length k3] _)
  have sW:W.heap.size=w.heap.size+1:=by rw[hW];simp
  obtain⟨b,off,rfl,hb3,i0,i1,i2,i3,i4⟩:=hc3 i hi
  rw[<-(C4 B0).1 _ _ hb3]at i0 i1 i2 i3 i4
  have x2:=L1.cell 2
  simp at x2
  generalize c.list[i]=x at*
  clear hc3 h3 h1 h2
  go_enter Tryz.func63,Tryz.ntmps63
  rw[hW]at x2 i0 i1 i2 i3 i4
  go_wp2_with fail
  rw[<-hW]
  clear x2 i0 i1 i2 i3 i4 hW
  have s0:=B0.size
  have L2:=D7.new W [.int .i64 x.op,.int .i64 x.a,.int .i64 x.b,.int .i64 x.c,.int .i64 x.d] 76
  have B1:Below w.heap.size w (W.alloc (.cells #[.int .i64 x.op,.int .i64 x.a,.int .i64 x.b,.int .i64 x.c,.int .i64 x.d] 76)):=B0.trans (Below.mono (by go_grown:Below W.heap.size W _) s0)
  generalize W.alloc (.cells #[.int .i64 x.op,.int .i64 x.a,.int .i64 x.b,.int .i64 x.c,.int .i64 x.d] 76)=W1 at*
  rw[sW]at L2
  clear B0 s0 sW
  have s1:=B1.size
  refine(be6 x _).mono ?_
  rintro e w1 ⟨rfl,b1⟩
  replace L2:=L2.below b1 L2.lt
  have B2:=B1.trans (b1.mono s1)
  have s2:=B2.size
  have HN:Hid (al8 x i=(if 0<=I3 x then [I3 x]else [])++(if x.op≠8/\x.op≠13 then [(i:Int)+1]else [])):=rfl
  generalize I3 x=tg at*
  have c0:=L2.cell 0
  simp only[cD9]at c0
  by_cases ht:0<=tg
  · have HT:=show Hid _ from ht
    go_wp2_with (first|(at_builtin;refine H4 rfl _ _ rfl Tryz.underlying23 be1 rfl al rfl (World.ownsRow_nil _ w1.heap.size _ _) rfl (aw4 w1 (.int .i64 tg) _ rfl) (fun u hu=>by simp at hu;subst hu;rfl) al al an ?_;rintro a1 q1 w2 o2 b2- -;have b2':=((Below.refl w1.heap.size w1).alloc (cE1 _) _).trans b2;replace L2:=L2.below b2' L2.lt;have B3:=B2.trans (b2'.mono s2);have s3:=b2'.size;have d0:=L2.cell 0;simp only[cD9]at d0;clear b2)|(at_builtin;refine H4 rfl _ _ rfl Tryz.underlying23 be1 rfl al rfl (o2.alloc _) rfl (aw4 w2 (.int .i64 ((i:Int)+1)) _ rfl) (fun u hu=>by simp at hu;subst hu;rfl) al al ah ?_;rintro a2 q2 w3 o3 b3- -;have b3':=((Below.refl w1.heap.size w2).alloc s3 _).trans b3;have B4:=B3.trans (Below.mono (b3':Below w1.heap.size w2 w3) s2)))
    all_goals go_ret
    all_goals simp only[bne_iff_ne,ne_eq,bne_eq_false_iff_eq]at*
    all_goals first
      | (have e : al8 x i = [tg, (i : Int) + 1] := by
           rw[HN.out,if_pos HT.out];clear HN HT;simp;omega
         rw[e];exact⟨_,rfl,D2.mk' (G8 o3 s2),B4⟩)
      | (have e : al8 x i = [tg] := by
           rw[HN.out,if_pos HT.out];clear HN HT;simp;omega
         rw[e];exact⟨_,rfl,D2.mk' (G8 o2 s2),B3⟩)
  have HT:=show Hid (¬0<=tg)from ht
  go_wp2_with ((at_builtin;refine H4 rfl _ _ rfl Tryz.underlying23 be1 rfl al rfl (World.ownsRow_nil _ w1.heap.size _ _) rfl (aw4 w1 (.int .i64 ((i:Int)+1)) _ rfl) (fun u hu=>by simp at hu;subst hu;rfl) al al an ?_;rintro a1 q1 w2 o2 b2- -;have b2':=((Below.refl w1.heap.size w1).alloc (cE1 _) _).trans b2;have B3:=B2.trans (b2'.mono s2)))
  all_goals go_ret
  all_goals simp only[bne_iff_ne,ne_eq,bne_eq_false_iff_eq]at*
  all_goals first
    | (have e : al8 x i = [(i : Int) + 1] := by
         rw[HN.out,if_neg (by have:=HT.out;omega)];clear HN HT;simp;omega
       rw[e];exact⟨_,rfl,D2.mk' (G8 o2 s2),B3⟩)
    | (have e : al8 x i = [] := by
         rw[HN.out,if_neg (by have:=HT.out;omega)];clear HN HT;simp;omega
       rw[e];exact⟨_,rfl,⟨World.ownsRow_nil _ _ _ _,fun g hg=>by cases hg⟩,B2⟩)
theorem aB1(v:Value)(c:d8)(hc:l5 c=true)(t:Int)(w:World)(h:D4 w v c)(h0:0<=t)(h1:t<c.list.length):
  Calls Tryz.prog 63 #[v,.int .i64 t] w fun e w'=>∃u ns,e=.returned u/\ns.length<=2/\(∀x,x∈ns↔x∈nx c t)/\D2 w' w.heap.size w'.heap.size 3 1 u ns.length (ints ns)/\Below w.heap.size w w':=by
 obtain⟨i,rfl⟩:∃i:Nat,t=i:=⟨t.toNat,al⟩
 have hi:i<c.list.length:=al
 have e:nx c i=R5 c.list[i] i:=bw6 (t:=(i:Int)) hi
 rw[e]
 refine(aF9 v c i w h hi).mono fun _ _ ⟨u,h1,h2,h3⟩=>⟨u,_,h1,bD2 _ _,fun x=>bD1 ((v7 hc).2.2.2.1 i hi) _ _,h2,h3⟩
theorem a13(v:Value)(c:d8)(x:d9)(w:World)(h:D4 w v c):
  Calls Tryz.prog 80 #[v,x.v] w fun e w'=>e=.returned (.bool (C2 c x))/\Below w.heap.size w w':=by
 obtain⟨v1,v2,v3,rfl,h1,h2,h3⟩:=h
 have HT:Hid (C2 c x=(decide (1<=x.op)&&decide (x.op<=13)&&al5 c (r8 x.op) [x.a,x.b,x.c,x.d] 4)):=by
  unfold Hid C2;rw[bm2]
 by_cases hop:1<=x.op/\x.op<=13
 ·obtain⟨hop1,hop2⟩:=hop
  have hR:Hid (C2 c x=al5 c (r8 x.op) [x.a,x.b,x.c,x.d] 4):=by
   unfold Hid;rw[HT.out,decide_eq_true hop1,decide_eq_true hop2];rfl
  clear HT
  obtain⟨W,hW⟩:∃W,W=((w.alloc (.cells #[v1,v2,v3] 26)).alloc (.cells #[.int .i64 x.op,.int .i64 x.a,.int .i64 x.b,.int .i64 x.c,.int .i64 x.d] 76)):=⟨_,rfl⟩
  have B0:Below w.heap.size w W:=by rw[hW];go_grown
  have L1:D7 W w.heap.size [v1,v2,v3]:=by rw[hW];exact(D7.new w [v1,v2,v3] _).alloc _
  have L2:D7 W (w.heap.size+1) [.int .i64 x.op,.int .i64 x.a,.int .i64 x.b,.int .i64 x.c,.int .i64 x.d]:=by rw[hW];exact D7.new' (w.alloc _) [.int .i64 x.op,.int .i64 x.a,.int .i64 x.b,.int .i64 x.c,.int .i64 x.d] _ an
  go_enter Tryz.func80,Tryz.ntmps80
  go_wp2_with fail
  rw[<-hW]
  clear hW
  refine(ar0 x.op W hop1 hop2).mono ?_
  rintro e w1 ⟨rfl,b1⟩
  replace L1:=L1.below b1 L1.lt
  replace L2:=L2.below b1 L2.lt
  have y0:=L2.cell 0
  have y1:=L2.cell 1
  have y2:=L2.cell 2
  have y3:=L2.cell 3
  have y4:=L2.cell 4
  simp at y0 y1 y2 y3 y4
  go_wp2_with fail
  refine(a12 x _).mono ?_
  rintro e w2 ⟨u,rfl,o2,b2⟩
  replace L1:=L1.below b2 L1.lt
  have B2:=(B0.trans (b1.mono B0.size)).trans (b2.mono (by have:=B0.size;have:=b1.size;omega))
  obtain⟨g,cap,rfl,-,-,hg,-,-,-,hp⟩:=o2.open al
  have hkl:=au0 x.op
  obtain⟨kinds,hkinds⟩:∃kinds,kinds=r8 x.op:=⟨_,rfl⟩
  obtain⟨parts,hparts⟩:∃parts,parts=[x.a,x.b,x.c,x.d]:=⟨_,rfl⟩
  rw[<-hkinds]at hkl ⊢
  rw[<-hkinds]at hR
  rw[<-hparts]at hR hp
  have hpl:parts.length=4:=by rw[hparts];rfl
  clear hkinds hparts y0 y1 y2 y3 y4 L2 o2
  have HPL:=show Hid _ from hpl
  clear hpl
  go_wp2_with fail
  go_loopw [7] (fun i wr=>∃k:Nat,k<=4/\i=.int .i64 k/\al5 c kinds parts k=true/\Below w2.heap.size w2 wr) (fun i _=>4-(intOf i).toNat)
  case atStart=>exact⟨0,al,rfl,rfl,Below.refl _ _⟩
  case round=>
   obtain⟨k,hk,rfl,ha,hb⟩:=hrel
   have HA:=show Hid _ from ha
   clear ha
   replace L1:=L1.below hb L1.lt
   by_cases hlt:k<4
   ·have x0:=L1.cell 0
    have x1:=L1.cell 1
    have x2:=L1.cell 2
    simp only[cD9,cE8]at x0 x1 x2
    have z0:=fun X=>c8 x0 X
    have z1:=fun X=>c8 x1 X
    have z2:=fun X=>c8 x2 X
    have hpk:k<parts.length:=by rw[HPL.out];exact hlt
    have p0:wr.cell? ⟨g,k,none⟩=some (.int .i64 parts[k]):=by
     rw[(C4 hb).1 _ _ hg];exact hp k _ (by simp[hpk])
    have pX:=fun X=>c8 p0 X
    have HS:=show Hid _ from aM5 c kinds parts k
    have hgd:parts.getD k 0=parts[k]:=by simp[hpk]
    have HG:=show Hid _ from hgd
    have BW:=B2.trans (hb.mono B2.size)
    clear x0 x1 x2 p0 hp hgd
    by_cases hkk:k<kinds.length
    ·have hpo:H6 c kinds k parts[k]=S8 c kinds[k] parts[k]:=by simp[H6,hkk]
     have HPO:=show Hid _ from hpo
     clear hpo
     have hd1:decide (kinds.length<=k)=false:=ah
     have hd2:decide ((kinds.length:Int)<=(k:Int))=false:=ah
     cases hr:S8 c kinds[k] parts[k]
     all_goals
      have HR:=show Hid _ from hr
      clear hr
      have HC:Hid (∀X,Calls Tryz.prog 123 #[.agg #[v1,v2,v3],.int .u8 kinds[k].toNat,.int .i64 parts[k]] (wr.ext X) fun e w''=>e=.returned (.bool _)/\∃Y,w''=wr.ext Y):=
       fun X=>Calls.ext_of' ((a11 v1 v2 v3 c kinds[k] parts[k] _ ((h1.below BW).below (i8 _ X)) ((h2.below BW).below (i8 _ X)) ((h3.below BW).below (i8 _ X))).mono fun e w' h=>by rw[HR.out]at h;exact h)
      go_wp2_with fail
      refine C7 aj aj ?_
      repeat(any_goals (first|go_big_quiet_step ((go_at_call 123;exact HC.out _))|quiet_step ((go_at_call 123;exact HC.out _))))
      refine wpQuiet_nil ?_
      rintro w' ⟨X,rfl⟩
      have hbX:=hb.trans ((i8 wr X).mono hb.size)
      go_wp2_with fail
     ·go_ret
      exact⟨w5 (by rw[hR.out,aM6 4 hlt (by rw[HG.out,HPO.out,HR.out])]),B2.trans (hbX.mono B2.size)⟩
     exact⟨⟨k+1,al,by go_num,by rw[HS.out,HA.out,HG.out,HPO.out,HR.out];rfl,hbX⟩,by simp[intOf];omega⟩
    have hpo:H6 c kinds k parts[k]=decide (parts[k]=0):=by simp[H6,hkk]
    have HPO:=show Hid _ from hpo
    clear hpo
    have hd1:decide (kinds.length<=k)=true:=ah
    have hd2:decide ((kinds.length:Int)<=(k:Int))=true:=ah
    have hd3:decide (k<kinds.length)=false:=ah
    have hd4:decide ((k:Int)<(kinds.length:Int))=false:=ah
    by_cases hz:parts[k]=0
    ·have hz1:(parts[k] !=0)=false:=by simp[hz]
     have HZ:=show Hid _ from hz
     clear hz
     go_wp2_with fail
     refine C7 aj aj ?_
     repeat(any_goals (first|go_big_quiet_step (fail)|quiet_step (fail)))
     refine wpQuiet_nil ?_
     rintro w' ⟨X,rfl⟩
     have hbX:=hb.trans ((i8 wr X).mono hb.size)
     go_wp2_with fail
     exact⟨⟨k+1,al,by go_num,by rw[HS.out,HA.out,HG.out,HPO.out,HZ.out];rfl,hbX⟩,by simp[intOf];omega⟩
    have hz1:(parts[k] !=0)=true:=by simp[hz]
    have HZ:=show Hid (¬parts[k]=0)from hz
    clear hz
    go_wp2_with fail
    refine C7 aj aj ?_
    repeat(any_goals (first|go_big_quiet_step (fail)|quiet_step (fail)))
    refine wpQuiet_nil ?_
    rintro w' ⟨X,rfl⟩
    have hbX:=hb.trans ((i8 wr X).mono hb.size)
    go_wp2_with fail
    go_ret
    exact⟨w5 (by rw[hR.out,aM6 4 hlt (by rw[HG.out,HPO.out,decide_eq_false HZ.out])]),B2.trans (hbX.mono B2.size)⟩
   go_wp2_with fail
   go_ret
   obtain rfl:k=4:=al
   exact⟨w5 (by rw[hR.out,HA.out]),B2.trans (hb.mono B2.size)⟩
 have hR:Hid (C2 c x=false):=by
  unfold Hid;rw[HT.out]
  rcases Classical.not_and_iff_not_or_not.1 hop with h|h
  ·rw[decide_eq_false h];rfl
  rw[decide_eq_false h];simp
 clear HT h1 h2 h3
 have hcase:x.op<1\/(¬x.op<1/\13<x.op):=al
 clear hop
 rcases hcase with hop|⟨hop,hop2⟩
 all_goals
  go_enter Tryz.func80,Tryz.ntmps80
  go_wp2_with fail
  go_ret
  exact⟨w5 hR.out.symm,by go_grown⟩
theorem aL3(v:Value)(c:d8)(w:World)(h:D4 w v c):
  Calls Tryz.prog 34 #[v] w fun e w'=>e=.returned (.bool (l5 c))/\Below w.heap.size w w':=by
 have hrow:=h
 obtain⟨v1,v2,v3,rfl,h1,h2,h3⟩:=h
 have HT:Hid (l5 c=(F9 c.vars c.arrays&&decide (1<=c.list.length)&&decide (c.list.length<=400)&&c.list.all (C2 c)&&ah4 c)):=rfl
 obtain⟨W,hW⟩:∃W,W=w.alloc (.cells #[v1,v2,v3] 26):=⟨_,rfl⟩
 have B0:Below w.heap.size w W:=by rw[hW];go_grown
 have L1:D7 W w.heap.size [v1,v2,v3]:=by rw[hW];exact(D7.new w [v1,v2,v3] _)
 obtain⟨a3,k3,rfl,hk3,hm3,-,hc3⟩:=h3.ins
 go_enter Tryz.func34,Tryz.ntmps34
 go_wp2_with fail
 rw[<-hW]
 clear hW
 refine(a14 _ _ _ _ _ _ _ _ (h1.below B0) (h2.below B0)).mono ?_
 rintro e w1 ⟨rfl,b1⟩
 replace L1:=L1.below b1 L1.lt
 have B1:=B0.trans (b1.mono B0.size)
 go_wp2_with fail
 refine(av9 _ _ _ c.vars c.arrays _ (h1.below B1) (h2.below B1)).mono ?_
 rintro e w2 ⟨rfl,b2⟩
 replace L1:=L1.below b2 L1.lt
 have B2:=B1.trans (b2.mono B1.size)
 cases hh:F9 c.vars c.arrays
 ·have HH:=show Hid _ from hh
  clear hh hc3
  go_wp2_with fail
  go_ret
  exact⟨w5 (by rw[HT.out,HH.out];rfl),B2⟩
 have HH:=show Hid _ from hh
 clear hh
 by_cases hn:1<=c.list.length/\c.list.length<=400
 ·obtain⟨hn1,hn2⟩:=hn
  have x0:=L1.cell 0
  have x1:=L1.cell 1
  have x2:=L1.cell 2
  simp at x0 x1 x2
  go_wp2_with fail
  go_loopw [4] (fun i wr=>∃k:Nat,k<=c.list.length/\i=.int .i64 k/\(c.list.take k).all (C2 c)=true/\Below w2.heap.size w2 wr) (fun i _=>c.list.length-(intOf i).toNat)
  case atStart=>exact⟨0,al,rfl,rfl,Below.refl _ _⟩
  case round=>
   obtain⟨k,hk,rfl,ha,hb⟩:=hrel
   have HA:=show Hid _ from ha
   clear ha x0 x1 x2
   replace L1:=L1.below hb L1.lt
   have BW:=B2.trans (hb.mono B2.size)
   by_cases hlt:k<c.list.length
   ·obtain⟨b,off,rfl,hb3,i0,i1,i2,i3,i4⟩:=hc3 k hlt
    rw[<-(C4 BW).1 _ _ hb3]at i0 i1 i2 i3 i4
    have x0:=L1.cell 0
    have x1:=L1.cell 1
    have x2:=L1.cell 2
    simp only[cD9,cE8]at x0 x1 x2
    have z0:=fun X=>c8 x0 X
    have z1:=fun X=>c8 x1 X
    have z2:=fun X=>c8 x2 X
    have j0:=fun X=>c8 i0 X
    have j1:=fun X=>c8 i1 X
    have j2:=fun X=>c8 i2 X
    have j3:=fun X=>c8 i3 X
    have j4:=fun X=>c8 i4 X
    have HS:=show Hid _ from W7 (C2 c) c.list k hlt
    clear x0 x1 x2 i0 i1 i2 i3 i4 hc3
    cases hi:C2 c c.list[k]
    all_goals
     have HI:=show Hid _ from hi
     clear hi
     have HC:Hid (∀X,Calls Tryz.prog 80 #[.agg #[v1,v2,.slice (some ⟨b,off,none⟩) c.list.length k3],c.list[k].v] (wr.ext X) fun e w''=>e=.returned (.bool _)/\∃Y,w''=wr.ext Y):=
      fun X=>Calls.ext_of' ((a13 _ c c.list[k] _ ((hrow.below BW).below (i8 _ X))).mono fun e w' h=>by rw[HI.out]at h;exact h)
     go_wp2_with fail
     refine C7 aj aj ?_
     repeat(any_goals (first|go_big_quiet_step ((go_at_call 80;exact HC.out _))|quiet_step ((go_at_call 80;exact HC.out _))))
     refine wpQuiet_nil ?_
     rintro _ ⟨X,rfl⟩
     have hbX:=hb.trans ((i8 wr X).mono hb.size)
     go_wp2_with fail
    ·go_ret
     exact⟨w5 (by rw[HT.out,ax3 hlt HI.out];simp),B2.trans (hbX.mono B2.size)⟩
    exact⟨⟨k+1,al,by go_num,by rw[HS.out,HA.out,HI.out];rfl,hbX⟩,by simp[intOf];omega⟩
   have hl:c.list.length-1<c.list.length:=al
   obtain⟨b,off,rfl,hb3,i0,i1,i2,i3,i4⟩:=hc3 _ hl
   rw[<-(C4 BW).1 _ _ hb3]at i0
   have x2:=L1.cell 2
   simp only[cD9,cE8]at x2
   have ec:((c.list.length:Int)-1)=((c.list.length-1:Nat):Int):=al
   have EC:=show Hid _ from ec
   have HL:Hid (ah4 c=(decide (c.list[c.list.length-1].op=13)||decide (c.list[c.list.length-1].op=8))):=by
    unfold Hid ah4
    rw[List.getLast?_eq_getElem?,cD8 hl]
   clear hc3 ec i1 i2 i3 i4
   have HA':=show Hid (c.list.all (C2 c)=true)from by have:=HA.out;rwa[cF0 al]at this
   have hF:Hid (l5 c=(decide (c.list[c.list.length-1].op=13)||decide (c.list[c.list.length-1].op=8))):=by
    unfold Hid;rw[HT.out,HH.out,HA'.out,HL.out,decide_eq_true hn1,decide_eq_true hn2];rfl
   go_wp2_with fail
   all_goals go_ret
   all_goals exact⟨w5 (by rw[hF.out,cH2];simp_all),BW⟩
 have hF:Hid (l5 c=false):=by
  unfold Hid;rw[HT.out]
  rcases Classical.not_and_iff_not_or_not.1 hn with h|h
  ·rw[decide_eq_false h];simp
  rw[decide_eq_false h];simp
 have hcase:c.list.length<1\/(¬c.list.length<1/\400<c.list.length):=al
 clear hn hc3 HT
 rcases hcase with hn|⟨hn,hn2⟩
 all_goals
  go_wp2_with fail
  go_ret
  exact⟨w5 hF.out.symm,B2⟩
theorem bz6{w:World}{b b' o b2 o2:Nat}{x y z i0 i1 i2 i3 i4 u:Value}(L:D7 w b [x,y,z])(hb':b'<w.heap.size)(h0:w.cell? ⟨b',o,none⟩=some i0)(h1:w.cell? ⟨b',o+1,none⟩=some i1)(h2:w.cell? ⟨b',o+2,none⟩=some i2)(h3:w.cell? ⟨b',o+3,none⟩=some i3)(h4:w.cell? ⟨b',o+4,none⟩=some i4)
  (hb2:b2<w.heap.size) (hu:w.cell? ⟨b2,o2,none⟩=some u):∀W',Below w.heap.size w W'->Below w.heap.size w W'/\(W'.cell? ⟨b,0,none⟩=some x/\W'.cell? ⟨b,1,none⟩=some y/\W'.cell? ⟨b,2,none⟩=some z)/\
  (W'.cell? ⟨b',o,none⟩=some i0/\W'.cell? ⟨b',o+1,none⟩=some i1/\W'.cell? ⟨b',o+2,none⟩=some i2/\W'.cell? ⟨b',o+3,none⟩=some i3/\W'.cell? ⟨b',o+4,none⟩=some i4)/\W'.cell? ⟨b2,o2,none⟩=some u:=by
 intro W' hb
 have e:=(C4 hb).1
 exact⟨hb,bU1 L W' hb,⟨(e _ _ hb').trans h0,(e _ _ hb').trans h1,(e _ _ hb').trans h2,(e _ _ hb').trans h3,(e _ _ hb').trans h4⟩,(e _ _ hb2).trans hu⟩
theorem a08(v:Value)(c:d8)(hc:l5 c=true)(w:World)(h:D4 w v c):
  Calls Tryz.prog 35 #[v] w fun e w'=>∃g m,e=.returned (.slice (some ⟨g,0,none⟩) m.length m.length)/\K9 c m/\E1 w' w.heap.size w'.heap.size g m/\Below w.heap.size w w':=by
 have hrow:=h
 obtain⟨v1,v2,v3,rfl,h1,h2,h3⟩:=h
 obtain⟨a3,k3,rfl,-,hm3,-,hc3⟩:=h3.ins
 obtain⟨W,hW⟩:∃W,W=(w.alloc (.cells #[v1,v2,.slice a3 c.list.length k3] 26)):=⟨_,rfl⟩
 have B0:Below w.heap.size w W:=by rw[hW];go_grown
 have sW:W.heap.size=w.heap.size+1:=by rw[hW];simp
 have L1:D7 W w.heap.size [v1,v2,.slice a3 c.list.length k3]:=by rw[hW];exact(D7.new w [v1,v2,.slice a3 c.list.length k3] _)
 obtain⟨-,hn1,hn2,-,-⟩:=v7 hc
 have hmk:=am0 (P:=Tryz.prog) (t:=57) Tryz.underlying57 bQ9 rfl al c.list.length al hm3
 have hmk2:∀w,(Instr.makeSlice 63 (.int .i64 14) (.int .i64 14)).run Tryz.prog w=_:=am0 (P:=Tryz.prog) (t:=63) Tryz.underlying63 aX3 rfl al 14 al al
 rw[show(Value.slice none 0 0).cells.toList=[Value.slice none 0 0]from rfl,al3]at hmk
 rw[show(Value.bool false).cells.toList=[Value.bool false]from rfl,al3]at hmk2
 obtain⟨f0,⟨u0,p0⟩,hS⟩:=aW8 W c.list.length hn1 hm3
 rw[sW]at f0 p0 hS
 have x2:=L1.cell 2
 simp at x2
 generalize cG9 14 (Value.bool false)=z14 at*
 generalize cG9 c.list.length (Value.slice none 0 0)=zn at*
 rw[hW]at x2 f0 p0
 go_enter Tryz.func35,Tryz.ntmps35
 go_wp2_with fail
 rw[<-hW]
 rw[World.setCell_alloc_past _ _ _ _ (by simp[sW]),World.setCell_alloc_at _ _ _ _ _ sW.symm]at hS
 clear x2 hmk hmk2 f0 p0 hW
 obtain⟨W2,hW2⟩:∃W2,W2=(W.alloc (.cells (zn.setIfInBounds 0 (.slice (some ⟨w.heap.size+1+1,0,none⟩) 14 14)) 63)).alloc (.cells z14 4):=⟨_,rfl⟩
 rw[<-hW2]at hS ⊢
 have B2:Below w.heap.size w W2:=by rw[hW2];exact B0.trans (Below.mono (by go_grown:Below W.heap.size W _) B0.size)
 have s2:W2.heap.size=w.heap.size+1+1+1:=by rw[hW2];simp[sW]
 replace L1:D7 W2 w.heap.size [v1,v2,.slice a3 c.list.length k3]:=by rw[hW2];exact(L1.alloc _).alloc _
 clear hW2 B0 sW
 have hq:=A8 W2 #[.int .i64 0] 1 1 3 s2.symm rfl al
 rw[s2]at hq
 have bq:Below W2.heap.size W2 (W2.alloc (.cells #[.int .i64 0] 3)):=by go_grown
 have B3:=B2.trans (bq.mono B2.size)
 obtain⟨hS3,hS3b⟩:=hS.next bq
 replace L1:=L1.below bq L1.lt
 have s3:(W2.alloc (.cells #[.int .i64 0] 3)).heap.size=w.heap.size+1+1+1+1:=by simp[s2]
 have hqd:∀b,(Value.slice (some ⟨w.heap.size+1+1+1,0,none⟩) 1 1).ownBlock=some b->¬aa7 (W2.alloc (.cells #[.int .i64 0] 3)) (w.heap.size+1) ((cD6 c.list.length ([]:List Bool)).set 0 (cD6 14 false)) b:=by
  intro b hb hm
  cases hb
  have:=(hS3.blk hm).2.1
  dsimp only at this
  omega
 generalize W2.alloc (.cells #[.int .i64 0] 3)=W3 at*
 clear hS B2 s2 bq hS3b
 have HI:=show Hid _ from hc3
 clear hc3
 obtain⟨G,hG⟩:∃G,G=w.heap.size+1:=⟨_,rfl⟩
 rw[<-hG]at hS3 hqd hq s3 ⊢
 have HG:=show Hid _ from hG
 clear hG
 have hst:=aT3.start hn1
 go_loopw [4,5,6,7,8,9,10,11] (fun q i _ _ _ _ _ _ wr=>∃(m:List (List Bool)) (qs:List Int) (k:Nat) (a:Option Addr) (cq:Nat),i=.int .i64 k/\q=.slice a qs.length cq/\k<=qs.length/\wr.ownsRow (G+1) 3 1 q qs.length (ints qs)/\
   E1 wr G wr.heap.size G m/\(∀b,q.ownBlock=some b->¬aa7 wr G m b)/\aT3 c m qs k/\D7 wr w.heap.size [v1,v2,.slice a3 c.list.length k3]/\Below w.heap.size w wr)
  (fun _ i _ _ _ _ _ _ _=>15*c.list.length+1-(intOf i).toNat)
 case atStart=>exact⟨_,[0],0,_,_,rfl,rfl,an,G8 hq.1 al,hS3.wide (cE1 _) al,hqd,hst,L1,B3⟩
 case round=>
  obtain⟨m,qs,k,a,cq,rfl,rfl,hk,hq,hS,hqd,hi,hL,hb⟩:=hrel
  have hqn:qs.length<=15*c.list.length+1:=by have:=hi.cnt;omega
  have hml:m.length=c.list.length:=hi.low.len
  have HI':=show Hid _ from hi
  have HQD:=show Hid _ from hqd
  clear hi hqd hst hS3 B3 L1
  by_cases hlt:k<qs.length
  ·obtain⟨gq,hgq,p0⟩:∃gq,a=some ⟨gq,0,none⟩/\wr.cell? ⟨gq,k,none⟩=some (.int .i64 qs[k]):=by
    have hoq:D2 wr (G+1) wr.heap.size 3 1 (.slice a qs.length cq) qs.length (ints qs):=D2.mk' hq
    obtain⟨g,cap',hv,-,-,-,-,-,-,hcc⟩:=hoq.open al
    cases hv
    exact⟨g,rfl,hcc k _ (by simp[ints,hlt])⟩
   subst hgq
   have hgqb:gq<wr.heap.size:=World.block_lt_of_cell? wr ⟨gq,k,none⟩ p0
   obtain⟨ht0,ht1,-⟩:=HI'.out.q qs[k] (cF3 hlt)
   obtain⟨x,hx⟩:∃x:Nat,qs[k]=x:=⟨qs[k].toNat,al⟩
   rw[hx]at p0 ht0 ht1
   obtain⟨h14,hxl,hJ⟩:=HI'.out.enter (a:=x) (by rw[cD8 hlt,hx])
   have hxm:x<m.length:=al
   obtain⟨gy,cy,xm,-,-,hgy,-,-,-,-,-,hrr⟩:=hS.at14 hxm h14
   obtain⟨b,off,rfl,hb3,i0,i1,i2,i3,i4⟩:=HI.out x hxl
   have hins:=(v7 hc).2.2.2.1 x hxl
   rw[V4 hxl]at hJ
   rw[<-(C4 hb).1 _ _ hb3]at i0 i1 i2 i3 i4
   have hcx:=bz6 hL (cI4 hb3 hb.size) i0 i1 i2 i3 i4 hS.lt.2.2 xm
   have HCELLS:=show Hid _ from hcx
   have HJ:=show Hid _ from hJ
   have HFL:=show Hid ((n6 c c.list[x] (rowAt m x)).length=14)from by unfold Hid;rw[R1,h14]
   have hb0:=(Below.refl wr.heap.size wr).drew
   obtain⟨z,hz⟩:∃z,z=c.list[x]:=⟨_,rfl⟩
   rw[<-hz]at i0 i1 i2 i3 i4 HCELLS HJ HFL hins
   clear hcx hJ h14 hx hz
   have hxi:(x:Int)<c.list.length:=al
   go_wp2_with fail
   go_region_held3 (fun W'=>Below wr.heap.size wr W'/\(W'.cell? ⟨w.heap.size,0,none⟩=some v1/\W'.cell? ⟨w.heap.size,1,none⟩=some v2/\W'.cell? ⟨w.heap.size,2,none⟩=some (.slice (some ⟨b,off,none⟩) c.list.length k3))/\
     (W'.cell? ⟨b,off+x*5,none⟩=some (.int .i64 z.op)/\W'.cell? ⟨b,off+x*5+1,none⟩=some (.int .i64 z.a)/\W'.cell? ⟨b,off+x*5+2,none⟩=some (.int .i64 z.b)/\W'.cell? ⟨b,off+x*5+3,none⟩=some (.int .i64 z.c)/\W'.cell? ⟨b,off+x*5+4,none⟩=some (.int .i64 z.d))/\
     W'.cell? ⟨G,x,none⟩=some (.slice (some ⟨gy,0,none⟩) 14 cy))
    (exact HCELLS.out _ ai)
    (first|(go_at_call 65;refine(a09 _ _ c z (rowAt m x) _ (hrow.below (L0 ai hb (cE1 _))) hins (hrr.below ai)).mono ?_;rintro e w7 ⟨u3,rfl,o3,b7⟩;have q7:=L0 b7 hb0 (cE1 _);obtain⟨a9,c9,rfl⟩:=o3.form))
   obtain⟨F,hF⟩:∃F,F=n6 c z (rowAt m x):=⟨_,rfl⟩
   rw[<-hF]at HJ HFL o3
   have hb7:=hb.trans (q7.mono hb.size)
   have hq7:=at1 hq q7 (cE1 _)
   obtain⟨hS7,hS7b⟩:=hS.next q7
   have hL7:=hL.below q7 hL.lt
   have o7:D2 w7 wr.heap.size w7.heap.size 4 1 (.slice a9 14 c9) 14 (bools F):=o3
   have q7s:=q7.size
   have hSlt:=hS.lt.2.2
   have y0:=hL7.cell 0
   have y1:=hL7.cell 1
   have y2:=hL7.cell 2
   simp only[cD9,cE8]at y0 y1 y2
   clear o3 b7 i0 i1 i2 i3 i4 xm p0 hrr hF hL hq
   go_wp2_with fail
   refine(bB5 _ c x _ (hrow.below hb7) al al).mono ?_
   rintro e w8 ⟨u8,rfl,o8,b8⟩
   obtain⟨a10,c10,rfl⟩:=o8.form
   have hb8:=hb7.trans (b8.mono hb7.size)
   have hq8:=at1 hq7 b8 (cE1 _)
   obtain⟨hS8,hS8b⟩:=hS7.next b8
   have hL8:=hL7.below b8 hL7.lt
   have t8:D2 w8 wr.heap.size w8.heap.size 4 1 (.slice a9 14 c9) 14 (bools F):=(o7.keep b8 (cE1 _)).wide (cE1 _) b8.size
   have n8:D2 w8 wr.heap.size w8.heap.size 3 1 (.slice a10 (nx c x).length c10) (nx c x).length (ints (nx c x)):=o8.wide q7s (cE1 _)
   have hsz8:wr.heap.size<=w8.heap.size:=cG3 q7s b8.size
   have hQD8:∀b,(Value.slice (some ⟨gq,0,none⟩) qs.length cq).ownBlock=some b->¬aa7 w8 G m b:=fun b hb hm=>HQD.out b hb (hS7b b (hS8b b hm))
   have hD1:ai4 (Value.slice (some ⟨gq,0,none⟩) qs.length cq) (Value.slice a10 (nx c x).length c10):=by
    intro g hg hg'
    cases hg
    have h1:=(n8.lt _ hg').1
    exact absurd hgqb (Nat.not_lt.2 h1)
   have hD2:ai4 (Value.slice (some ⟨gq,0,none⟩) qs.length cq) (Value.slice a9 14 c9):=by
    intro g hg hg'
    cases hg
    have h1:=(t8.lt _ hg').1
    exact absurd hgqb (Nat.not_lt.2 h1)
   have hnx:∀y∈nx c x,0<=y/\y<c.list.length:=fun y hy=>bc8 hc al hy
   obtain⟨ns,hns⟩:∃ns,ns=nx c x:=⟨_,rfl⟩
   rw[<-hns]at hnx n8 HJ hD1 ⊢
   have HNS:=show Hid _ from hns
   have HNX:=show Hid _ from hnx
   have hnl:=n8.row.len
   have hGw:G+1<=wr.heap.size:=hSlt
   have n8':=n8.wide hGw (cE1 _)
   have t8':=t8.wide hGw (cE1 _)
   clear n8 t8 hns hnx o7 o8 b8 q7 HCELLS hS hS7 hS7b hS8b hL7 hq7 hb7 y0 y1 y2 hb0 HQD hb
   go_wp2_with fail
   go_loopw [4,9,10,11] (fun q i _ _ wi=>∃(m':List (List Bool)) (qs':List Int) (j:Nat) (a:Option Addr) (cq:Nat),i=.int .i64 j/\q=.slice a qs'.length cq/\j<=ns.length/\wi.ownsRow (G+1) 3 1 q qs'.length (ints qs')/\
     E1 wi G wi.heap.size G m'/\(∀b,q.ownBlock=some b->¬aa7 wi G m' b)/\aG7 c m' qs' k x F ns j/\k<qs'.length/\
     D2 wi (G+1) w8.heap.size 3 1 (.slice a10 ns.length c10) ns.length (ints ns)/\ai4 q (.slice a10 ns.length c10)/\D2 wi (G+1) w8.heap.size 4 1 (.slice a9 14 c9) 14 (bools F)/\ai4 q (.slice a9 14 c9)/\
     D7 wi w.heap.size [v1,v2,.slice (some ⟨b,off,none⟩) c.list.length k3]/\Below w.heap.size w wi/\w8.heap.size<=wi.heap.size)
    (fun _ i _ _ _=>ns.length-(intOf i).toNat)
   case atStart=>exact⟨m,qs,0,_,_,rfl,rfl,cG8 _,hq8,hS8.wide (cE1 _) hsz8,hQD8,HJ.out,hlt,n8',hD1,t8',hD2,hL8,hb8,cE1 _⟩
   case round=>
    obtain⟨m',qs',j,a',cq',rfl,rfl,hj,hq,hS,hqd,hi,hkq,hn,hd1,ht,hd2,hL,hb,hs8⟩:=hrel
    have hqn':qs'.length<=15*c.list.length+1:=by have:=hi.cnt;omega
    have hml':m'.length=c.list.length:=hi.low.len
    have HI2:=show Hid _ from hi
    have HQD:=show Hid _ from hqd
    have HD1:=show Hid _ from hd1
    have HD2:=show Hid _ from hd2
    clear hi hqd hd1 hd2 hq8 hS8 hQD8 n8' hD1 t8' hD2 hL8 hb8 HJ
    by_cases hjl:j<ns.length
    ·obtain⟨y0,y1⟩:=HNX.out ns[j] (cF3 hjl)
     obtain⟨y,hy⟩:∃y:Nat,ns[j]=y:=⟨ns[j].toNat,al⟩
     obtain⟨gu,hgu,pu⟩:∃gu,a10=some ⟨gu,0,none⟩/\wr.cell? ⟨gu,j,none⟩=some (.int .i64 ns[j]):=by
      obtain⟨g,cap',hv,-,-,-,-,-,-,hcc⟩:=hn.open al
      cases hv
      exact⟨g,rfl,hcc j _ (by simp[ints,hjl])⟩
     subst hgu
     rw[hy]at pu y0 y1
     have hyl:y<c.list.length:=al
     have hyli:(y:Int)<c.list.length:=al
     have hym:y<m'.length:=al
     obtain⟨-,u,hcy,hou,-⟩:=hS.at hym
     have hro:=F3 HI2.out.low.ok y
     obtain⟨au,cu,rfl⟩:=hou.form
     have hgu1:G+1<=gu/\gu<wr.heap.size:=⟨(hn.lt _ rfl).1,(hn.lt _ rfl).2.2⟩
     have HKEEP:=show Hid (ac3 F (rowAt m' y)=true->aG7 c m' qs' k x F ns (j+1))from fun g=>HI2.out.keep hjl (by rw[hy];exact g)
     have HPUSH:=show Hid (ac3 F (rowAt m' y)=false->aG7 c (m'.set y (R7 (rowAt m' y) F)) (qs'++[(y:Int)]) k x F ns (j+1))from fun g=>HI2.out.push hjl hy hyl hkq g
     have hjl14:=af8 (t:=F) hro HFL.out
     clear hy
     go_wp2_with fail
     refine(a97 _ _ (rowAt m' y) F _ hou.row ht.row HFL.out hro).mono ?_
     rintro e w9 ⟨zr,rfl,o9,b9⟩
     obtain⟨az,cz,rfl⟩:=o9.form
     have hq9:=at1 hq b9 (cE1 _)
     obtain⟨hS9,hS9b⟩:=hS.next b9
     have hn9:=hn.keep b9 hs8
     have ht9:=ht.keep b9 hs8
     have hL9:=hL.below b9 hL.lt
     have hb9:=hb.trans (b9.mono hb.size)
     have s9:=b9.size
     have pu9:w9.cell? ⟨gu,j,none⟩=some (.int .i64 y):=((C4 b9).1 _ _ hgu1.2).trans pu
     obtain⟨f9,u9,cy9,-,-⟩:=hS9.at hym
     have py:(w9.setCell ⟨G,y,none⟩ (.slice az 14 cz)).cell? ⟨gu,j,none⟩=some (.int .i64 y):=by
      rw[World.cell?_setCell_other _ _ _ _ (by intro h;cases h;omega)]
      exact pu9
     have hQ9:∀b,(Value.slice a' qs'.length cq').ownBlock=some b->¬aa7 w9 G m' b:=fun b hb hm=>HQD.out b hb (hS9b b hm)
     have hQlt:∀b,(Value.slice a' qs'.length cq').ownBlock=some b->G+1<=b/\b<wr.heap.size:=fun b hb=>hq.lt b hb
     cases hcv:ac3 F (rowAt m' y)
     ·have HJ':=show Hid _ from HPUSH.out hcv
      clear hcv HKEEP HPUSH
      have hqx:=((D2.mk' hq9).other (b:=G) al y (.slice az 14 cz)).1
      have hnx':=hn9.other (b:=G) al y (.slice az 14 cz)
      have htx:=ht9.other (b:=G) al y (.slice az 14 cz)
      have hSx:=hS9.setRow hym hjl14 o9 (cE1 _) s9
      have hSxb:∀b,(Value.slice a' qs'.length cq').ownBlock=some b->¬aa7 (w9.setCell ⟨G,y,none⟩ (.slice az 14 cz)) G (m'.set y (R7 (rowAt m' y) F)) b:=by
       intro b hb hm
       rcases hS9.setRow_blk hym _ _ hm with h1|h1
       ·exact hQ9 b hb h1
       have h2:=(o9.lt _ h1).1
       have h3:=(hQlt b hb).2
       omega
      have hLx:=hL9.other (p:=⟨G,y,none⟩) (by show w.heap.size≠G;have:=HG.out;omega) (.slice az 14 cz)
      have hbx:Below w.heap.size w (w9.setCell ⟨G,y,none⟩ (.slice az 14 cz)):=hb9.setCell (p:=⟨G,y,none⟩) (by show w.heap.size<=G;have:=HG.out;omega) _
      have s9x:(w9.setCell ⟨G,y,none⟩ (.slice az 14 cz)).heap.size=w9.heap.size:=an
      go_wp2_with (at_builtin;refine H4 rfl _ _ rfl Tryz.underlying23 be1 rfl al rfl (hqx.alloc _) rfl (aw4 _ (.int .i64 y) _ an) (fun u hu=>by simp at hu;subst hu;rfl) al al ah ?_;rintro a4 q4 w4 o4 b4 g4 h4)
      clear py pu pu9 cy9 hcy f9 hL hL9 hn hn9 ht ht9 hq hq9 hS hS9 hS9b hQ9
      generalize w9.setCell ⟨G,y,none⟩ (.slice az 14 cz)=W4 at*
      have ba:Below W4.heap.size W4 (W4.alloc (.cells #[.int .i64 y] 3)):=(Below.refl W4.heap.size W4).alloc (cE1 _) _
      have b5:Below (G+1) W4 w4:=(ba.mono al).trans b4
      obtain⟨hS5,hS5b⟩:=hSx.next ba
      have hQ5:∀b,(Value.slice a' qs'.length cq').ownBlock=some b->¬aa7 (W4.alloc (.cells #[.int .i64 y] 3)) G (m'.set y (R7 (rowAt m' y) F)) b:=fun b hb hm=>hSxb b hb (hS5b b hm)
      obtain⟨hS6,hS6b⟩:=hS5.grown g4 hQ5
      have g4s:=g4.size
      have s5:(W4.alloc (.cells #[.int .i64 y] 3)).heap.size=W4.heap.size+1:=an
      refine⟨⟨_,qs'++[(y:Int)],j+1,a4,q4,by go_num,an,al,by simpa[ints]using o4,hS6.wide (cE1 _) al,?_,HJ'.out,ah,?_,?_,?_,?_,hLx.below b5 (by have:=HG.out;omega),hbx.trans (b5.mono (by have:=HG.out;omega)),al⟩,by simp[intOf];omega⟩
      ·intro b hb hm
       rcases h4 b hb with h1|h1
       ·exact hQ5 b h1 (hS6b b hm)
       have:=(hS5.blk (hS6b b hm)).2.2
       omega
      ·exact D2.grown ⟨hnx'.1.alloc _,hnx'.2⟩ g4 fun g h1 h2=>HD1.out g h2 h1
      ·intro g h1 h2
       rcases h4 g h1 with h1|h1
       ·exact HD1.out g h1 h2
       have:=hnx'.2 g h2
       omega
      ·exact D2.grown ⟨htx.1.alloc _,htx.2⟩ g4 fun g h1 h2=>HD2.out g h2 h1
      intro g h1 h2
      rcases h4 g h1 with h1|h1
      ·exact HD2.out g h1 h2
      have:=htx.2 g h2
      omega
     have HJ':=show Hid _ from HKEEP.out hcv
     clear hcv HKEEP HPUSH
     go_wp2_with fail
     exact⟨⟨m',qs',j+1,_,_,by go_num,rfl,al,hq9,hS9.wide (cE1 _) s9,hQ9,HJ'.out,hkq,hn9,HD1.out,ht9,HD2.out,hL9,hb9,cG3 hs8 s9⟩,by simp[intOf];omega⟩
    have hjn:j=ns.length:=al
    have HW:=show Hid (aT3 c m' qs' (k+1))from by
     have h1:=HI2.out
     rw[HNS.out]at h1
     exact h1.done (by rw[<-HNS.out];omega)
    subst hjn
    go_wp2_with fail
    exact⟨⟨m',qs',k+1,_,_,by go_num,rfl,al,hq,hS,HQD.out,HW.out,hL,hb⟩,by simp[intOf];omega⟩
  have hkn:k=qs.length:=al
  subst hkn
  go_wp2_with fail
  go_ret
  exact⟨G,m,by rw[hml];rfl,HI'.out.done,hS.wide (by have:=HG.out;omega) (cE1 _),hb⟩
theorem aF8(v:Value)(c:d8)(hc:l5 c=true)(w:World)(h:D4 w v c):
  Calls Tryz.prog 33 #[v] w fun e w'=>∃g m,e=.returned (.slice (some ⟨g,0,none⟩) m.length m.length)/\K9 c m/\E1 w' w.heap.size w'.heap.size g m/\Below w.heap.size w w':=by
 have hrow:=h
 obtain⟨v1,v2,v3,rfl,h1,h2,h3⟩:=h
 obtain⟨a3,k3,rfl,-,hm3,-,hc3⟩:=h3.ins
 obtain⟨W,hW⟩:∃W,W=(w.alloc (.cells #[v1,v2,.slice a3 c.list.length k3] 26)):=⟨_,rfl⟩
 have B0:Below w.heap.size w W:=by rw[hW];go_grown
 have sW:W.heap.size=w.heap.size+1:=by rw[hW];simp
 have L1:D7 W w.heap.size [v1,v2,.slice a3 c.list.length k3]:=by rw[hW];exact(D7.new w [v1,v2,.slice a3 c.list.length k3] _)
 obtain⟨-,hn1,hn2,-,-⟩:=v7 hc
 have hmk:=am0 (P:=Tryz.prog) (t:=57) Tryz.underlying57 bQ9 rfl al c.list.length al hm3
 have hmk2:∀w,(Instr.makeSlice 63 (.int .i64 14) (.int .i64 14)).run Tryz.prog w=_:=am0 (P:=Tryz.prog) (t:=63) Tryz.underlying63 aX3 rfl al 14 al al
 rw[show(Value.slice none 0 0).cells.toList=[Value.slice none 0 0]from rfl,al3]at hmk
 rw[show(Value.bool false).cells.toList=[Value.bool false]from rfl,al3]at hmk2
 obtain⟨f0,⟨u0,p0⟩,hS⟩:=aW8 W c.list.length hn1 hm3
 rw[sW]at f0 p0 hS
 have hfr:= @bD6
 have x2:=L1.cell 2
 simp at x2
 generalize cG9 14 (Value.bool false)=z14 at*
 generalize cG9 c.list.length (Value.slice none 0 0)=zn at*
 have HFR:=show Hid _ from @hfr
 clear hfr
 rw[hW]at x2 f0 p0
 go_enter Tryz.func33,Tryz.ntmps33
 go_wp2_with fail
 rw[<-hW]
 rw[World.setCell_alloc_past _ _ _ _ (by simp[sW]),World.setCell_alloc_at _ _ _ _ _ sW.symm]at hS
 clear x2 hmk f0 p0 hW
 obtain⟨W2,hW2⟩:∃W2,W2=(W.alloc (.cells (zn.setIfInBounds 0 (.slice (some ⟨w.heap.size+1+1,0,none⟩) 14 14)) 63)).alloc (.cells z14 4):=⟨_,rfl⟩
 rw[<-hW2]at hS ⊢
 have B2:Below w.heap.size w W2:=by rw[hW2];exact B0.trans (Below.mono (by go_grown:Below W.heap.size W _) B0.size)
 have s2:W2.heap.size=w.heap.size+1+1+1:=by rw[hW2];simp[sW]
 replace L1:D7 W2 w.heap.size [v1,v2,.slice a3 c.list.length k3]:=by rw[hW2];exact(L1.alloc _).alloc _
 clear hW2 B0 sW
 have HI:=show Hid _ from hc3
 clear hc3
 obtain⟨G,hG⟩:∃G,G=w.heap.size+1:=⟨_,rfl⟩
 rw[<-hG]at hS s2 ⊢
 have HG:=show Hid _ from hG
 clear hG
 have hst:=Low.start hn1
 go_loopw [4,5,6,7,9,10,11] (fun ch _ _ _ _ _ _ wr=>∃(m:List (List Bool)) (f:Bool),ch=.bool f/\E1 wr G wr.heap.size G m/\Low c m/\(f=false->K9 c m)/\D7 wr w.heap.size [v1,v2,.slice a3 c.list.length k3]/\Below w.heap.size w wr)
  (fun ch _ _ _ _ _ _ wr=>2*aE0 wr (.slice (some ⟨G,0,none⟩) c.list.length c.list.length)+(match ch with|.bool true=>1|_=>0))
 case atStart=>exact⟨_,true,rfl,hS.wide (cE1 _) al,hst,(fun h=>by cases h),L1,B2⟩
 case round=>
  obtain⟨m,f,rfl,hS,hlow,hf,hL,hb⟩:=hrel
  clear hst B2 L1
  have hml:m.length=c.list.length:=hlow.len
  cases f
  ·have HL:=show Hid _ from hf rfl
   clear hf
   go_wp2_with fail
   go_ret
   exact⟨G,m,by rw[hml];rfl,HL.out,hS.wide (by have:=HG.out;omega) (cE1 _),hb⟩
  clear hf
  have hpot:Hid (aE0 wr (.slice (some ⟨G,0,none⟩) c.list.length c.list.length)=pot m):=by have:=hS.pot;rw[hml]at this;exact this
  obtain⟨P0,hP0⟩:∃n,n=pot m:=⟨_,rfl⟩
  have hps:=aG6.start hlow
  rw[<-hP0]at hps hpot
  clear hP0 hlow
  go_wp2_with fail
  go_loopw [4,5,6,7,9,10,11,22] (fun ch _ _ _ _ _ _ i wr=>∃(m:List (List Bool)) (f:Bool) (k:Nat),ch=.bool f/\i=.int .i64 k/\k<=c.list.length/\E1 wr G wr.heap.size G m/\aG6 c m P0 f k/\D7 wr w.heap.size [v1,v2,.slice a3 c.list.length k3]/\Below w.heap.size w wr)
   (fun _ _ _ _ _ _ _ i _=>c.list.length-(intOf i).toNat)
  case atStart=>exact⟨m,false,0,rfl,rfl,cG8 _,hS,hps,hL,hb⟩
  case round=>
   obtain⟨m,f,k,rfl,rfl,hk,hS,hi,hL,hb⟩:=hrel
   have hml:m.length=c.list.length:=hi.low.len
   have HI':=show Hid _ from hi
   clear hi hps
   by_cases hlt:k<c.list.length
   ·have hkm:k<m.length:=al
    have hro:=F3 HI'.out.low.ok k
    by_cases h0:(rowAt m k).length=0
    ·have xm:=hS.2 k hkm h0
     have hnil:=fun w=>Lib.run_eql_slice_nil (P:=Tryz.prog) w 63 4 none 0 0 0 0 Tryz.underlying63
     simp only[Option.isNone_none]at hnil
     have HN:=show Hid _ from HI'.out.skip h0
     clear h0 hro
     go_wp2_with fail
     exact⟨⟨m,f,k+1,rfl,by go_num,al,hS,HN.out,hL,hb⟩,by simp[intOf];omega⟩
    have h14:(rowAt m k).length=14:=al
    obtain⟨gy,cy,xm,-,-,hgy,-,-,-,-,-,hrr⟩:=hS.at14 hkm h14
    have hnil:=fun w=>Lib.run_eql_slice_nil (P:=Tryz.prog) w 63 4 (some ⟨gy,0,none⟩) 14 cy 0 0 Tryz.underlying63
    simp only[Option.isNone_some]at hnil
    obtain⟨b,off,rfl,hb3,i0,i1,i2,i3,i4⟩:=HI.out k hlt
    have hins:=(v7 hc).2.2.2.1 k hlt
    rw[<-(C4 hb).1 _ _ hb3]at i0 i1 i2 i3 i4
    have hcx:=bz6 hL (cI4 hb3 hb.size) i0 i1 i2 i3 i4 hS.lt.2.2 xm
    have HCELLS:=show Hid _ from hcx
    have HENT:=show Hid (∀ns:List Int,(∀y,y∈ns↔y∈nx c k)->KInv c m P0 f k (n6 c c.list[k] (rowAt m k)) ns 0)from by
     intro ns hns
     have:=HI'.out.enter hkm h14 hns
     rw[V4 hlt]at this
     exact this
    have HFL:=show Hid ((n6 c c.list[k] (rowAt m k)).length=14)from by unfold Hid;rw[R1,h14]
    have hb0:=(Below.refl wr.heap.size wr).drew
    obtain⟨z,hz⟩:∃z,z=c.list[k]:=⟨_,rfl⟩
    rw[<-hz]at i0 i1 i2 i3 i4 HCELLS HENT HFL hins
    clear hcx h14 h0 hro hz
    have hki:(k:Int)<c.list.length:=al
    go_wp2_with fail
    go_region_held3 (fun W'=>Below wr.heap.size wr W'/\(W'.cell? ⟨w.heap.size,0,none⟩=some v1/\W'.cell? ⟨w.heap.size,1,none⟩=some v2/\W'.cell? ⟨w.heap.size,2,none⟩=some (.slice (some ⟨b,off,none⟩) c.list.length k3))/\
      (W'.cell? ⟨b,off+k*5,none⟩=some (.int .i64 z.op)/\W'.cell? ⟨b,off+k*5+1,none⟩=some (.int .i64 z.a)/\W'.cell? ⟨b,off+k*5+2,none⟩=some (.int .i64 z.b)/\W'.cell? ⟨b,off+k*5+3,none⟩=some (.int .i64 z.c)/\W'.cell? ⟨b,off+k*5+4,none⟩=some (.int .i64 z.d))/\
      W'.cell? ⟨G,k,none⟩=some (.slice (some ⟨gy,0,none⟩) 14 cy))
     (exact HCELLS.out _ ai)
     (first|(go_at_call 62;refine(aF7 _ _ c z (rowAt m k) _ (hrow.below (L0 ai hb (cE1 _))) hins (hrr.below ai)).mono ?_;rintro e w7 ⟨u3,rfl,o3,b7⟩;have q7:=L0 b7 hb0 (cE1 _);obtain⟨a9,c9,rfl⟩:=o3.form))
    obtain⟨F,hF⟩:∃F,F=n6 c z (rowAt m k):=⟨_,rfl⟩
    rw[<-hF]at HENT HFL o3
    have hb7:=hb.trans (q7.mono hb.size)
    obtain⟨hS7,hS7b⟩:=hS.next q7
    have hL7:=hL.below q7 hL.lt
    have o7:D2 w7 wr.heap.size w7.heap.size 4 1 (.slice a9 14 c9) 14 (bools F):=o3
    have hA7:I5 w7 G m (.slice a9 14 c9):=fun b e hm=>by have h1:=(o7.lt b e).1;have h2:=(hS.blk (hS7b b hm)).2.2;omega
    have q7s:=q7.size
    have y0:=hL7.cell 0
    have y1:=hL7.cell 1
    have y2:=hL7.cell 2
    simp only[cD9,cE8]at y0 y1 y2
    clear o3 b7 i0 i1 i2 i3 i4 xm hrr hF hL hnil
    go_wp2_with fail
    refine(aB1 _ c hc k _ (hrow.below hb7) al al).mono ?_
    rintro e w8 ⟨u8,ns,rfl,hnl,hnm,o8,b8⟩
    obtain⟨a10,c10,rfl⟩:=o8.form
    have hb8:=hb7.trans (b8.mono hb7.size)
    obtain⟨hS8,hS8b⟩:=hS7.next b8
    have hL8:=hL7.below b8 hL7.lt
    have t8:D2 w8 w.heap.size w8.heap.size 4 1 (.slice a9 14 c9) 14 (bools F):=(o7.keep b8 (cE1 _)).wide hb.size b8.size
    have hA8:=hA7.next hS7 b8
    have n8:D2 w8 w.heap.size w8.heap.size 3 1 (.slice a10 ns.length c10) ns.length (ints ns):=o8.wide hb7.size (cE1 _)
    have hN8:I5 w8 G m (.slice a10 ns.length c10):=fun b e hm=>by have h1:=(o8.lt b e).1;have h2:=(hS7.blk (hS8b b hm)).2.2;omega
    have hsz8:wr.heap.size<=w8.heap.size:=cG3 q7s b8.size
    have hnx:∀y∈ns,0<=y/\y<c.list.length:=fun y hy=>bc8 hc al ((hnm y).1 hy)
    have HNX:=show Hid _ from hnx
    have HNM:=show Hid _ from hnm
    have HKI:=show Hid _ from HENT.out ns hnm
    clear hnx hnm o7 o8 b8 q7 HCELLS hS hS7 hS7b hS8b hL7 hb7 y0 y1 y2 hb0 hb hA7 HENT HI'
    go_wp2_with fail
    go_loopw [4,9,10,11,41] (fun ch _ _ _ i wr=>∃(m:List (List Bool)) (f:Bool) (j:Nat),ch=.bool f/\i=.int .i64 j/\j<=ns.length/\E1 wr G wr.heap.size G m/\KInv c m P0 f k F ns j/\
      D2 wr w.heap.size w8.heap.size 4 1 (.slice a9 14 c9) 14 (bools F)/\I5 wr G m (.slice a9 14 c9)/\D2 wr w.heap.size w8.heap.size 3 1 (.slice a10 ns.length c10) ns.length (ints ns)/\I5 wr G m (.slice a10 ns.length c10)/\
      D7 wr w.heap.size [v1,v2,.slice (some ⟨b,off,none⟩) c.list.length k3]/\Below w.heap.size w wr/\w8.heap.size<=wr.heap.size)
     (fun _ _ _ _ i _=>ns.length-(intOf i).toNat)
    case atStart=>exact⟨m,f,0,rfl,rfl,cG8 _,hS8.wide (cE1 _) hsz8,HKI.out,t8,hA8,n8,hN8,hL8,hb8,cE1 _⟩
    case round=>
     obtain⟨m,f,j,rfl,rfl,hj,hS,hi,ht,hA,hn,hN,hL,hb,hs8⟩:=hrel
     have hml:m.length=c.list.length:=hi.low.len
     have HKI2:=show Hid _ from hi
     have HA:=show Hid _ from hA
     have HN:=show Hid _ from hN
     clear hi hA hN hS8 t8 hA8 n8 hN8 hL8 hb8 HKI
     by_cases hjl:j<ns.length
     ·obtain⟨y0,y1⟩:=HNX.out ns[j] (cF3 hjl)
      obtain⟨y,hy⟩:∃y:Nat,ns[j]=y:=⟨ns[j].toNat,al⟩
      obtain⟨gu,hgu,pu⟩:∃gu,a10=some ⟨gu,0,none⟩/\wr.cell? ⟨gu,j,none⟩=some (.int .i64 ns[j]):=by
       obtain⟨g,cap',hv,-,-,-,-,-,-,hcc⟩:=hn.open al
       cases hv
       exact⟨g,rfl,hcc j _ (by simp[ints,hjl])⟩
      subst hgu
      rw[hy]at pu y0 y1
      have HY:=show Hid _ from hy
      have hyl:y<c.list.length:=al
      have hyli:(y:Int)<c.list.length:=al
      have hym:y<m.length:=al
      have hro:=F3 HKI2.out.low.ok y
      clear hy
      have hstep:∀(W9:World) (m9:List (List Bool)) (f9:Bool),E1 W9 G W9.heap.size G m9->ay9 c m9 P0 f9 k F ns j y 0->D2 W9 w.heap.size w8.heap.size 4 1 (.slice a9 14 c9) 14 (bools F)->I5 W9 G m9 (.slice a9 14 c9)->
        D2 W9 w.heap.size w8.heap.size 3 1 (.slice (some ⟨gu,0,none⟩) ns.length c10) ns.length (ints ns)->I5 W9 G m9 (.slice (some ⟨gu,0,none⟩) ns.length c10)->D7 W9 w.heap.size [v1,v2,.slice (some ⟨b,off,none⟩) c.list.length k3]->Below w.heap.size w W9->w8.heap.size<=W9.heap.size->
        ∃(q:Nat),q=0/\q<=14/\E1 W9 G W9.heap.size G m9/\ay9 c m9 P0 f9 k F ns j y q/\D2 W9 w.heap.size w8.heap.size 4 1 (.slice a9 14 c9) 14 (bools F)/\I5 W9 G m9 (.slice a9 14 c9)/\
        D2 W9 w.heap.size w8.heap.size 3 1 (.slice (some ⟨gu,0,none⟩) ns.length c10) ns.length (ints ns)/\I5 W9 G m9 (.slice (some ⟨gu,0,none⟩) ns.length c10)/\D7 W9 w.heap.size [v1,v2,.slice (some ⟨b,off,none⟩) c.list.length k3]/\Below w.heap.size w W9/\w8.heap.size<=W9.heap.size:=
       fun W9 m9 f9 e1 e2 e3 e4 e5 e6 e7 e8 e9=>⟨0,rfl,cG8 _,e1,e2,e3,e4,e5,e6,e7,e8,e9⟩
      by_cases h0:(rowAt m y).length=0
      case pos=>
       have xm:=hS.2 y hym h0
       have hnil:=fun w=>Lib.run_eql_slice_nil (P:=Tryz.prog) w 63 4 none 0 0 0 0 Tryz.underlying63
       simp only[Option.isNone_none]at hnil
       obtain⟨g1,⟨u9,g2⟩,g3,g4⟩:=HFR.out hS hym
       have hlt:=hS.lt
       have e5:=g4 _ HA.out fun b e=>(ht.lt b e).2.2
       have e6:=g4 _ HN.out fun b e=>(hn.lt b e).2.2
       have e3:D2 ((wr.setCell ⟨G,y,none⟩ (.slice (some ⟨wr.heap.size,0,none⟩) 14 14)).alloc (.cells z14 4)) w.heap.size w8.heap.size 4 1 (.slice a9 14 c9) 14 (bools F):=(aa9 ht HA.out (.inl rfl)).keep (by go_grown:Below wr.heap.size _ _) hs8
       have e4:D2 ((wr.setCell ⟨G,y,none⟩ (.slice (some ⟨wr.heap.size,0,none⟩) 14 14)).alloc (.cells z14 4)) w.heap.size w8.heap.size 3 1 (.slice (some ⟨gu,0,none⟩) ns.length c10) ns.length (ints ns):=(aa9 hn HN.out (.inl rfl)).keep (by go_grown:Below wr.heap.size _ _) hs8
       have e7:D7 ((wr.setCell ⟨G,y,none⟩ (.slice (some ⟨wr.heap.size,0,none⟩) 14 14)).alloc (.cells z14 4)) w.heap.size [v1,v2,.slice (some ⟨b,off,none⟩) c.list.length k3]:=(hL.other (p:=⟨G,y,none⟩) (by show w.heap.size≠G;have:=HG.out;omega) _).alloc _
       have e8:Below w.heap.size w ((wr.setCell ⟨G,y,none⟩ (.slice (some ⟨wr.heap.size,0,none⟩) 14 14)).alloc (.cells z14 4)):=(hb.setCell (p:=⟨G,y,none⟩) (by show w.heap.size<=G;have:=HG.out;omega) _).alloc (by have:=hb.size;simpa using this) _
       have e9:((wr.setCell ⟨G,y,none⟩ (.slice (some ⟨wr.heap.size,0,none⟩) 14 14)).alloc (.cells z14 4)).heap.size=wr.heap.size+1:=an
       have HFRESH:=show Hid _ from HKI2.out.fresh hjl HY.out hym h0
       clear hro h0
       go_wp2_with fail
       obtain⟨W9,hW9⟩:∃W9,W9=((wr.setCell ⟨G,y,none⟩ (.slice (some ⟨wr.heap.size,0,none⟩) 14 14)).alloc (.cells z14 4)):=⟨_,rfl⟩
       rw[<-hW9]at g3 e3 e4 e5 e6 e7 e8 e9 ⊢
       have hgo:=hstep W9 _ true (g3.wide (cE1 _) al) HFRESH.out e3 e5 e4 e6 e7 e8 al
       clear hW9 g3 e3 e4 e5 e6 e7 e8 g1 g2 g4 xm hnil hS ht hn hL hb HKI2 HA HN hstep HFRESH
       obtain⟨q0,hq0,hq1,hS,hi,ht,hA,hn,hN,hL,hb,hs9⟩:=hgo
       generalize m.set y (cD6 14 false)=m at*
       go_loopw [4,10,11,56] (fun ch _ _ i wr=>∃(m:List (List Bool)) (f:Bool) (q:Nat),ch=.bool f/\i=.int .i64 q/\q<=14/\E1 wr G wr.heap.size G m/\ay9 c m P0 f k F ns j y q/\D2 wr w.heap.size w8.heap.size 4 1 (.slice a9 14 c9) 14 (bools F)/\I5 wr G m (.slice a9 14 c9)/\
         D2 wr w.heap.size w8.heap.size 3 1 (.slice (some ⟨gu,0,none⟩) ns.length c10) ns.length (ints ns)/\I5 wr G m (.slice (some ⟨gu,0,none⟩) ns.length c10)/\D7 wr w.heap.size [v1,v2,.slice (some ⟨b,off,none⟩) c.list.length k3]/\Below w.heap.size w wr/\w8.heap.size<=wr.heap.size)
        (fun _ _ _ i _=>14-(intOf i).toNat)
       case atStart=>exact⟨m,_,0,rfl,rfl,cG8 _,hS,by rw[hq0]at hi;exact hi,ht,hA,hn,hN,hL,hb,hs9⟩
       case round=>
        clear hS hi ht hA hn hN hL hb hs9 hq0 hq1
        obtain⟨m,f,q,rfl,rfl,hq,hS,hi,ht,hA,hn,hN,hL,hb,hs8⟩:=hrel
        have hml:m.length=c.list.length:=hi.low.len
        have hym:y<m.length:=al
        have HBI:=show Hid _ from hi
        have HA:=show Hid _ from hA
        have HN:=show Hid _ from hN
        clear hi hA hN
        by_cases hql:q<14
        ·obtain⟨gt,ct,hv,-,-,-,-,-,-,gc⟩:=ht.open al
         cases hv
         have hft:F.length=14:=HBI.out.tl
         have xt:=gc q _ (A4 _ q al)
         have hfe:F[q]'al=F.getD q false:=by simp[show q<F.length by omega]
         rw[hfe]at xt
         obtain⟨gy,cy,xm,gy1,-,gy3,gy4,-,-,gyf,gyx,-⟩:=hS.at14 hym HBI.out.row
         have xb:=gyx q hql
         have xf:=gyf q
         have hqi:(q:Int)<14:=al
         have hb14:=show Hid (aa7 wr G m gy)from .inr ⟨y,_,hym,xm,rfl⟩
         have HPUT:=show Hid _ from fun h1 h0=>HBI.out.put hjl HY.out hym hql h1 h0
         have HKEEP:=show Hid _ from HBI.out.keep (q:=q)
         clear gc hfe gyf gyx hft
         cases htq:F.getD q false
         ·have HK:=show Hid _ from HKEEP.out (by rw[htq];intro h;cases h)
          rw[htq]at xt
          clear htq
          go_wp2_with fail
          exact⟨⟨m,f,q+1,rfl,by go_num,al,hS,HK.out,ht,HA.out,hn,HN.out,hL,hb,hs8⟩,by simp[intOf];omega⟩
         cases hrq:(rowAt m y).getD q false
         ·have HP:=show Hid _ from HPUT.out htq hrq
          rw[htq]at xt
          rw[hrq]at xb
          clear htq hrq
          go_wp2_with fail
          exact⟨⟨_,true,q+1,rfl,by go_num,al,(hS.setBit hym xm HBI.out.row hql true).wide (cE1 _) an,HP.out,aa9 ht HA.out hb14.out,I5.setBit HA.out gy4,aa9 hn HN.out hb14.out,I5.setBit HN.out gy4,
           hL.other (p:=⟨gy,q,none⟩) (by show w.heap.size≠gy;have:=HG.out;omega) _,hb.setCell (p:=⟨gy,q,none⟩) (by show w.heap.size<=gy;have:=HG.out;omega) _,by simpa using hs8⟩,by simp[intOf];omega⟩
         have HK:=show Hid _ from HKEEP.out (fun _=>hrq)
         rw[htq]at xt
         rw[hrq]at xb
         clear htq hrq
         go_wp2_with fail
         exact⟨⟨m,f,q+1,rfl,by go_num,al,hS,HK.out,ht,HA.out,hn,HN.out,hL,hb,hs8⟩,by simp[intOf];omega⟩
        have hqn:q=14:=al
        subst hqn
        have HD:=show Hid _ from HBI.out.done hjl HY.out (cE1 _)
        go_wp2_with fail
        exact⟨⟨m,f,j+1,rfl,by go_num,al,hS,HD.out,ht,HA.out,hn,HN.out,hL,hb,hs8⟩,by simp[intOf];omega⟩
      case neg=>
       have h14:(rowAt m y).length=14:=al
       obtain⟨gy,cy,xm,-⟩:=hS.at14 hym h14
       have hnil:=fun w=>Lib.run_eql_slice_nil (P:=Tryz.prog) w 63 4 (some ⟨gy,0,none⟩) 14 cy 0 0 Tryz.underlying63
       simp only[Option.isNone_some]at hnil
       have hgo:=hstep wr m f hS (HKI2.out.bits h14) ht HA.out hn HN.out hL hb hs8
       clear hro h0 h14 hS ht hn hL hb HKI2 HA HN hstep
       go_wp2_with fail
       clear xm hnil
       obtain⟨q0,hq0,hq1,hS,hi,ht,hA,hn,hN,hL,hb,hs9⟩:=hgo
       go_loopw [4,10,11,56] (fun ch _ _ i wr=>∃(m:List (List Bool)) (f:Bool) (q:Nat),ch=.bool f/\i=.int .i64 q/\q<=14/\E1 wr G wr.heap.size G m/\ay9 c m P0 f k F ns j y q/\D2 wr w.heap.size w8.heap.size 4 1 (.slice a9 14 c9) 14 (bools F)/\I5 wr G m (.slice a9 14 c9)/\
         D2 wr w.heap.size w8.heap.size 3 1 (.slice (some ⟨gu,0,none⟩) ns.length c10) ns.length (ints ns)/\I5 wr G m (.slice (some ⟨gu,0,none⟩) ns.length c10)/\D7 wr w.heap.size [v1,v2,.slice (some ⟨b,off,none⟩) c.list.length k3]/\Below w.heap.size w wr/\w8.heap.size<=wr.heap.size)
        (fun _ _ _ i _=>14-(intOf i).toNat)
       case atStart=>exact⟨m,_,0,rfl,rfl,cG8 _,hS,by rw[hq0]at hi;exact hi,ht,hA,hn,hN,hL,hb,hs9⟩
       case round=>
        clear hS hi ht hA hn hN hL hb hs9 hq0 hq1
        obtain⟨m,f,q,rfl,rfl,hq,hS,hi,ht,hA,hn,hN,hL,hb,hs8⟩:=hrel
        have hml:m.length=c.list.length:=hi.low.len
        have hym:y<m.length:=al
        have HBI:=show Hid _ from hi
        have HA:=show Hid _ from hA
        have HN:=show Hid _ from hN
        clear hi hA hN
        by_cases hql:q<14
        ·obtain⟨gt,ct,hv,-,-,-,-,-,-,gc⟩:=ht.open al
         cases hv
         have hft:F.length=14:=HBI.out.tl
         have xt:=gc q _ (A4 _ q al)
         have hfe:F[q]'al=F.getD q false:=by simp[show q<F.length by omega]
         rw[hfe]at xt
         obtain⟨gy,cy,xm,gy1,-,gy3,gy4,-,-,gyf,gyx,-⟩:=hS.at14 hym HBI.out.row
         have xb:=gyx q hql
         have xf:=gyf q
         have hqi:(q:Int)<14:=al
         have hb14:=show Hid (aa7 wr G m gy)from .inr ⟨y,_,hym,xm,rfl⟩
         have HPUT:=show Hid _ from fun h1 h0=>HBI.out.put hjl HY.out hym hql h1 h0
         have HKEEP:=show Hid _ from HBI.out.keep (q:=q)
         clear gc hfe gyf gyx hft
         cases htq:F.getD q false
         ·have HK:=show Hid _ from HKEEP.out (by rw[htq];intro h;cases h)
          rw[htq]at xt
          clear htq
          go_wp2_with fail
          exact⟨⟨m,f,q+1,rfl,by go_num,al,hS,HK.out,ht,HA.out,hn,HN.out,hL,hb,hs8⟩,by simp[intOf];omega⟩
         cases hrq:(rowAt m y).getD q false
         ·have HP:=show Hid _ from HPUT.out htq hrq
          rw[htq]at xt
          rw[hrq]at xb
          clear htq hrq
          go_wp2_with fail
          exact⟨⟨_,true,q+1,rfl,by go_num,al,(hS.setBit hym xm HBI.out.row hql true).wide (cE1 _) an,HP.out,aa9 ht HA.out hb14.out,I5.setBit HA.out gy4,aa9 hn HN.out hb14.out,I5.setBit HN.out gy4,
           hL.other (p:=⟨gy,q,none⟩) (by show w.heap.size≠gy;have:=HG.out;omega) _,hb.setCell (p:=⟨gy,q,none⟩) (by show w.heap.size<=gy;have:=HG.out;omega) _,by simpa using hs8⟩,by simp[intOf];omega⟩
         have HK:=show Hid _ from HKEEP.out (fun _=>hrq)
         rw[htq]at xt
         rw[hrq]at xb
         clear htq hrq
         go_wp2_with fail
         exact⟨⟨m,f,q+1,rfl,by go_num,al,hS,HK.out,ht,HA.out,hn,HN.out,hL,hb,hs8⟩,by simp[intOf];omega⟩
        have hqn:q=14:=al
        subst hqn
        have HD:=show Hid _ from HBI.out.done hjl HY.out (cE1 _)
        go_wp2_with fail
        exact⟨⟨m,f,j+1,rfl,by go_num,al,hS,HD.out,ht,HA.out,hn,HN.out,hL,hb,hs8⟩,by simp[intOf];omega⟩
     have hjn:j=ns.length:=al
     have HP:=show Hid _ from HKI2.out.done al HNM.out
     subst hjn
     go_wp2_with fail
     exact⟨⟨m,f,k+1,rfl,by go_num,al,hS,HP.out,hL,hb⟩,by simp[intOf];omega⟩
   have hkn:k=c.list.length:=al
   subst hkn
   have hpn:Hid (aE0 wr (.slice (some ⟨G,0,none⟩) c.list.length c.list.length)=pot m):=by have:=hS.pot;rw[hml]at this;exact this
   have hle:=HI'.out.le
   have hlt':=HI'.out.lt
   have hdn:f=false->K9 c m:=fun e=>by have:=HI'.out;rw[e]at this;exact this.done al
   have HD:=show Hid _ from hdn
   have HLT:=show Hid _ from hlt'
   clear hdn hlt'
   go_wp2_with fail
   refine⟨⟨m,f,rfl,hS,HI'.out.low,HD.out,hL,hb⟩,?_⟩
   show 2*aE0 _ _+_<2*aE0 _ _+_
   rw[hpn.out,hpot.out]
   cases f
   ·have:=HI'.out.le
    show 2*pot m+0<2*P0+1
    omega
   have:=HLT.out rfl
   show 2*pot m+1<2*P0+1
   omega
noncomputable def at6(c:d8):List (List Bool):=open Classical in if h:∃m,K9 c m then h.choose else []
theorem aO1{c:d8}{m:List (List Bool)}(h:K9 c m):m=at6 c:=by
 have hx:∃m,K9 c m:=⟨m,h⟩
 unfold at6
 rw[dif_pos hx]
 exact a39 h hx.choose_spec
noncomputable def ac7(c:d8):Int×Int:=if l5 c=true then H8 c (at6 c)else(5,-1)
theorem aL4(v:Value)(c:d8)(w:World)(h:D4 w v c):
  Calls Tryz.prog 9 #[v] w fun e w'=>e=.returned (.tuple #[.int .i64 (ac7 c).1,.int .i64 (ac7 c).2])/\Below w.heap.size w w':=by
 have hrow:=h
 obtain⟨v1,v2,v3,rfl,h1,h2,h3⟩:=h
 obtain⟨W,hW⟩:∃W,W=w.alloc (.cells #[v1,v2,v3] 26):=⟨_,rfl⟩
 have B0:Below w.heap.size w W:=by rw[hW];go_grown
 have L1:D7 W w.heap.size [v1,v2,v3]:=by rw[hW];exact(D7.new w [v1,v2,v3] _)
 obtain⟨a3,k3,rfl,hk3,hm3,-,hc3⟩:=h3.ins
 have HT:Hid (ac7 c=if l5 c=true then H8 c (at6 c)else(5,-1)):=rfl
 have x0:=L1.cell 0
 have x1:=L1.cell 1
 have x2:=L1.cell 2
 simp only[cD9,cE8]at x0 x1 x2
 rw[hW]at x0 x1 x2
 go_enter Tryz.func9,Tryz.ntmps9
 go_wp2_with fail
 rw[<-hW]
 clear hW x0 x1 x2
 refine(aL3 _ c _ (hrow.below B0)).mono ?_
 rintro e w1 ⟨rfl,b1⟩
 replace L1:=L1.below b1 L1.lt
 have B1:=B0.trans (b1.mono B0.size)
 clear b1 B0
 have x0:=L1.cell 0
 have x1:=L1.cell 1
 have x2:=L1.cell 2
 simp only[cD9,cE8]at x0 x1 x2
 cases hc:l5 c
 ·have HC:=show Hid (ac7 c=(5,-1))from by unfold Hid;rw[HT.out,hc];simp
  clear hc hc3 HT
  go_wp2_with fail
  go_ret2
  exact⟨by rw[HC.out];rfl,B1⟩
 have HC:=show Hid _ from hc
 have HT':=show Hid (ac7 c=H8 c (at6 c))from by unfold Hid;rw[HT.out,hc];simp
 have hn4:=(v7 hc).2.2.1
 clear hc HT
 go_wp2_with fail
 refine(a08 _ c HC.out _ (hrow.below B1)).mono ?_
 rintro e w2 ⟨G,m,rfl,hlm,hS,b2⟩
 have hme:=aO1 hlm
 rw[<-hme]at HT'
 have hl:m.length=c.list.length:=hlm.1.1
 have hr:=hlm.1.2.1
 obtain⟨am,km,hv,hmm,hmc⟩:=aW1 hS.1.row
 cases hv
 have B2:=B1.trans (b2.mono B1.size)
 replace L1:=L1.below b2 L1.lt
 clear b2 x0 x1 x2 hme hlm
 rw[hl]
 have HL:=show Hid _ from hl
 go_wp2_with fail
 go_loopw [5,6] (fun i _ wr=>∃k:Nat,k<=c.list.length/\i=.int .i64 k/\I1 c m k=false/\Below w2.heap.size w2 wr) (fun i _ _=>c.list.length-(intOf i).toNat)
 case atStart=>exact⟨0,cG8 _,rfl,rfl,Below.refl _ _⟩
 case round=>
  obtain⟨k,hk,rfl,ha,hb⟩:=hrel
  have HA:=show Hid _ from ha
  clear ha
  replace L1:=L1.below hb L1.lt
  have BW:=B2.trans (hb.mono B2.size)
  have x0:=L1.cell 0
  have x1:=L1.cell 1
  have x2:=L1.cell 2
  simp only[cD9,cE8]at x0 x1 x2
  by_cases hltc:k<c.list.length
  ·have hlt:k<m.length:=al
   obtain⟨b,off,rfl,hb3,i0,i1,i2,i3,i4⟩:=hc3 k hltc
   obtain⟨bm,om,a',c',hv,hbm,xm,hrm⟩:=hmc k hlt
   cases hv
   have hx:=(v7 HC.out).2.2.2.1 k hltc
   have HB:Hid (badAt c m k=(decide (0<(rowAt m k).length)&&decide (G6 c (L6 c k) (rowAt m k)≠0))):=rfl
   rw[V4 hltc]at HB
   have HF:=show Hid (I1 c m k=false->badAt c m k=true->H8 c m=(G6 c (L6 c k) (rowAt m k),(k:Int)))from fun g1 g2=>aE2 hlt g1 g2
   rw[V4 hltc]at HF
   have HS:=show Hid _ from aF0 c m k
   have hlr:=F3 hr k
   rw[<-(C4 BW).1 _ _ hb3]at i0 i1 i2 i3 i4
   rw[<-(C4 hb).1 _ _ hbm]at xm
   simp only[cI3]at xm
   replace hrm:=hrm.below hb
   generalize rowAt m k=r at*
   generalize c.list[k]=x at*
   clear hc3 hmc hr
   by_cases h0:r.length=0
   ·have q0:decide ((0:Int)<(r.length:Int))=false:=by simp[h0]
    have q0':¬((0:Int)<(r.length:Int)):=al
    have HN:=show Hid (I1 c m (k+1)=false)from by unfold Hid;rw[HS.out,HA.out,HB.out];simp[h0]
    clear HF HB hlr h0
    go_wp2_with fail
    exact⟨⟨k+1,al,by go_num,HN.out,hb⟩,by simp[intOf];omega⟩
   have h14:r.length=14:=al
   have q0':(0:Int)<(r.length:Int):=al
   have hrr:J0 wr (.slice a' r.length c') 14 1 (bools r):=by rw[h14]at hrm ⊢;exact hrm
   have z0:=fun X=>c8 x0 X
   have z1:=fun X=>c8 x1 X
   have z2:=fun X=>c8 x2 X
   have j0:=fun X=>c8 i0 X
   have j1:=fun X=>c8 i1 X
   have j2:=fun X=>c8 i2 X
   have j3:=fun X=>c8 i3 X
   have j4:=fun X=>c8 i4 X
   have jm:=fun X=>c8 xm X
   have hl14:(r.length:Int)<=14:=al
   have hki:(k:Int)<c.list.length:=al
   have HCALL:Hid (∀X,Calls Tryz.prog 36 #[.agg #[v1,v2,.slice (some ⟨b,off,none⟩) c.list.length k3],x.v,.slice a' r.length c'] (wr.ext X) fun e w''=>e=.returned (.int .i64 (G6 c x r))/\∃Y,w''=wr.ext Y):=
    fun X=>Calls.ext_of' (bk4 _ _ c x r _ ((hrow.below BW).below (i8 _ X)) hx (hrr.below (i8 _ X)))
   by_cases ho:G6 c x r=0
   ·have qo:(G6 c x r !=0)=false:=by simp[ho]
    have HN:=show Hid (I1 c m (k+1)=false)from by unfold Hid;rw[HS.out,HA.out,HB.out];simp[ho]
    clear HF HB hlr h0 ho hrr hrm h14 i0 i1 i2 i3 i4
    go_wp2_with fail
    clear xm
    refine C7 aj aj ?_
    repeat(any_goals (first|go_big_quiet_step ((go_at_call 36;exact HCALL.out _))|quiet_step ((go_at_call 36;exact HCALL.out _))))
    refine wpQuiet_nil ?_
    rintro _ ⟨X,rfl⟩
    have hbX:=hb.trans ((i8 wr X).mono hb.size)
    go_wp2_with fail
    exact⟨⟨k+1,al,by go_num,HN.out,hbX⟩,by simp[intOf];omega⟩
   have qo:(G6 c x r !=0)=true:=by simp[ho]
   have HN:=show Hid (H8 c m=(G6 c x r,(k:Int)))from HF.out HA.out (by rw[HB.out];simp[ho];omega)
   clear HF HB hlr h0 ho hrr hrm h14 i0 i1 i2 i3 i4
   go_wp2_with fail
   clear xm
   refine C7 aj aj ?_
   repeat(any_goals (first|go_big_quiet_step ((go_at_call 36;exact HCALL.out _))|quiet_step ((go_at_call 36;exact HCALL.out _))))
   refine wpQuiet_nil ?_
   rintro _ ⟨X,rfl⟩
   have hbX:=hb.trans ((i8 wr X).mono hb.size)
   go_wp2_with fail
   go_ret2
   exact⟨by rw[HT'.out,HN.out];rfl,B2.trans (hbX.mono B2.size)⟩
  have e:k=c.list.length:=al
  subst e
  have HN:=show Hid (H8 c m=(0,-1))from am5 (by rw[HL.out];exact HA.out)
  clear hc3 hmc
  go_wp2_with fail
  go_ret2
  exact⟨by rw[HT'.out,HN.out];rfl,BW⟩
theorem aP1(v:Value)(c:d8)(w:World)(h:D4 w v c):
  Calls Tryz.prog 8 #[v] w fun e w'=>e=.returned (.tuple #[.int .i64 (ac7 c).1,.int .i64 (ac7 c).2])/\Below w.heap.size w w':=by
 have hrow:=h
 obtain⟨v1,v2,v3,rfl,h1,h2,h3⟩:=h
 obtain⟨W,hW⟩:∃W,W=w.alloc (.cells #[v1,v2,v3] 26):=⟨_,rfl⟩
 have B0:Below w.heap.size w W:=by rw[hW];go_grown
 have L1:D7 W w.heap.size [v1,v2,v3]:=by rw[hW];exact(D7.new w [v1,v2,v3] _)
 have HT:Hid (ac7 c=if l5 c=true then H8 c (at6 c)else(5,-1)):=rfl
 have x0:=L1.cell 0
 have x1:=L1.cell 1
 have x2:=L1.cell 2
 simp only[cD9,cE8]at x0 x1 x2
 rw[hW]at x0 x1 x2
 go_enter Tryz.func8,Tryz.ntmps8
 go_wp2_with fail
 rw[<-hW]
 clear hW x0 x1 x2
 refine(am4 _ c _ (hrow.below B0)).mono ?_
 rintro e w1 ⟨rfl,b1⟩
 replace L1:=L1.below b1 L1.lt
 have B1:=B0.trans (b1.mono B0.size)
 clear b1 B0
 cases hc:l5 c
 ·have HC:=show Hid (ac7 c=(5,-1))from by unfold Hid;rw[HT.out,hc];simp
  clear hc HT
  go_wp2_with fail
  go_ret2
  exact⟨by rw[HC.out];rfl,B1⟩
 have HC:=show Hid _ from hc
 have HT':=show Hid (ac7 c=H8 c (at6 c))from by unfold Hid;rw[HT.out,hc];simp
 clear hc HT
 have hS:∀W',Below w1.heap.size w1 W'->Below w1.heap.size w1 W'/\(W'.cell? ⟨w.heap.size,0,none⟩=some v1/\W'.cell? ⟨w.heap.size,1,none⟩=some v2/\W'.cell? ⟨w.heap.size,2,none⟩=some v3):=
  fun W' hb=>⟨hb,bU1 L1 W' hb⟩
 have HS:=show Hid _ from hS
 have hb0:=(Below.refl w1.heap.size w1).drew
 clear hS
 go_wp2_with fail
 go_region_held3 (fun W'=>Below w1.heap.size w1 W'/\(W'.cell? ⟨w.heap.size,0,none⟩=some v1/\W'.cell? ⟨w.heap.size,1,none⟩=some v2/\W'.cell? ⟨w.heap.size,2,none⟩=some v3))
  (exact HS.out _ ai)
  (first|(go_at_call 33;refine(aF8 _ c HC.out _ (hrow.below (L0 ai B1 (cE1 _)))).mono ?_;rintro e w7 ⟨G,m,rfl,hlm,hM,b7⟩;have q7:=L0 b7 hb0 (cE1 _))|(go_at_call 32;refine(aG0 _ _ c m _ HC.out (hrow.below (L0 ai B1 (cE1 _))) hM.1.row hlm.1.1 hlm.1.2.1).mono ?_;rintro e w8 ⟨rfl,b8⟩;have q8:=L0 b8 q7 (cE1 _)))
 all_goals go_wp2_with fail
 all_goals go_ret2
 all_goals exact⟨by rw[HT'.out, <-aO1 hlm];rfl,B1.trans (q8.mono B1.size)⟩
end Go.Proofs.YtfbeblgnjeokaaaGreat

namespace Go.Proofs.YtfbeblgnjeokaaaGreat
open Go Go.RowKit Go.ChangeShapes Go.WideShapes Go.Deep
section
variable{H:Type}{enc:TypeId×Value->H}{W:World}
theorem aT1{fuel:Nat}{t:TypeId}{v:Value}{x:DataW H×List MemPlace}(ht:Tryz.prog.underlying t=some (.slice 5))
  (h:DataW.trod enc Tryz.prog W 0 (fun _=>true) true fuel t [v]=some x):∃l:List UInt8,J0 W v l.length 1 (l.map fun b=>Value.int .u8 (b.toNat:Int)):=by
 obtain⟨n,m,C,hr,hC,hx⟩:=bb3 ht (sz:=1) aj al h
 obtain⟨g,hg⟩:=choose_lt (α:=UInt8) (n:=n) (p:=fun i b=>C i=[.int .u8 (b.toNat:Int)]) (fun i hi=>by
  obtain⟨y,hy⟩:=hx i hi
  obtain⟨z,hz,_,hw⟩:=DataW.trod_int Tryz.underlying5 hy
  simp only[Lit.wf,cD5,decide_eq_true_eq]at hw
  have h0:(0:Int)<=z:=hw.1
  have h1:z<=255:=hw.2
  refine⟨UInt8.ofNat z.toNat,?_⟩
  rw[hz]
  have e:(UInt8.ofNat z.toNat).toNat=z.toNat:=by
   rw[UInt8.toNat_ofNat'];omega
  rw[e,Int.toNat_of_nonneg h0])
 refine⟨(cF5 n).map g,?_⟩
 rw[List.length_map,List.length_range, <-aN3 n C (fun b=>Value.int .u8 (b.toNat:Int)) g hg]
 exact hr
end
end Go.Proofs.YtfbeblgnjeokaaaGreat
