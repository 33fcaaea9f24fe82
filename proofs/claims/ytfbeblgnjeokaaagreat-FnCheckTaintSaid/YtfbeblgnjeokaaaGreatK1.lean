/- Part 1: functions on the way, plain laws. Conditions: as said. -/
import Derived.WalkKit
import Derived.ProofKit
import Derived.Handy
import Derived.WalkSmall
import Derived.Deep.QuietTactic
import Derived.BigQuiet
import Derived.StillTailTactics
import Derived.Deep.Quiet
import Derived.StillTail
import Derived.Test.YtfbeblgnjeokaaaGreatRows
import Derived.Maps.AppendAt
import Derived.ArgAppend
import Derived.Deep.Upon
set_option maxRecDepth 100000
set_option maxHeartbeats 16000000
set_option linter.unusedVariables false
set_option linter.unusedSimpArgs false
open Array renaming replicate → cq0
open Bool renaming and_eq_true → cm9, eq_iff_iff → cq3
open List renaming all_eq_true → cn8, append_assoc → cr6, eq_nil_of_length_eq_zero → co7, getElem?_append_left → co2, getElem?_append_right → cp9, getElem?_eq_getElem → cn0, getElem?_eq_none → cp0, getElem?_eq_some_iff → co0, getElem?_replicate → cr1, getElem?_set → cr5, getElem_mem → co6, length_append → cn3, length_cons → cn6, length_nil → co1, length_set → cp3, map_cons → cq5, mem_append → cp2, mem_cons → cq9, mem_cons_of_mem → cq8, mem_cons_self → cr0, mem_of_getElem? → cp6, mem_range → cq6, mem_singleton → cq2, range → co4, replicate → cm8, set_cons_succ → cp8, take_of_length_le → co3
open Nat renaming le_refl → cn4, le_trans → cp4, lt_of_lt_of_le → cq4, lt_or_ge → cp1, mul_le_mul_right → cr3, succ_mul → cq7, zero_add → cr4, zero_le → cp5

namespace Go.Proofs.YtfbeblgnjeokaaaGreat
theorem ab{p:Prop}(h:p:=by with_reducible assumption):p:=h
theorem ae{p:Prop}(h:p:=by exact .inl (by omega)):p:=h
theorem af{p:Prop}(h:p:=by simp[Op.operands]):p:=h
theorem ag{p:Prop}(h:p:=by simp[World.ext]):p:=h
theorem ah{p:Prop}(h:p:=by simp;omega):p:=h
theorem ai{p:Prop}(h:p:=by assumption):p:=h
theorem aj{p:Prop}(h:p:=by kernel_rfl):p:=h
theorem ak{p:Prop}(h:p:=by decide):p:=h
theorem al{p:Prop}(h:p:=by omega):p:=h
theorem ao{p:Prop}(h:p:=by simp):p:=h
open Go Go.RowKit
def I6(w:World)(v:Value)(n sz:Nat)(xs:List Value):Prop:=
 xs.length=n*sz/\∃a cap,v=.slice a n cap/\n<=cap/\cap<=maxLen/\
  (0<n->∃b off,a=some ⟨b,off,none⟩/\b<w.heap.size/\∀j u,xs[j]? =some u->w.cell? ⟨b,off+j,none⟩=some u)
theorem y8{W w1:World}(hb:Below W.heap.size W w1):(∀b o,b<W.heap.size->w1.cell? ⟨b,o,none⟩=W.cell? ⟨b,o,none⟩)/\(∀b o,b<W.heap.size->w1.frozen? ⟨b,o,none⟩=W.frozen? ⟨b,o,none⟩):=
 ⟨fun b o h=>hb.cell (p:=⟨b,o,none⟩) h,fun b o h=>hb.frozen (p:=⟨b,o,none⟩) h⟩
theorem I6.below{w w':World}{v:Value}{n sz:Nat}{xs:List Value}(h:I6 w v n sz xs)(hb:Below w.heap.size w w'):I6 w' v n sz xs:=by
 obtain⟨hl,a,cap,rfl,h1,h2,h3⟩:=h
 refine⟨hl,a,cap,rfl,h1,h2,fun hn=>?_⟩
 obtain⟨b,off,rfl,hbk,hc⟩:=h3 hn
 exact⟨b,off,rfl,cq4 hbk hb.size,fun j u hj=>((y8 hb).1 b _ hbk).trans (hc j u hj)⟩
theorem I6.len{w:World}{v:Value}{n sz:Nat}{xs:List Value}(h:I6 w v n sz xs):n<=9223372036854775807:=by
 obtain⟨_,a,cap,rfl,h1,h2,_⟩:=h;unfold maxLen at h2;omega
theorem I6.nil(w:World)(sz:Nat):I6 w (.slice none 0 0) 0 sz []:=⟨ao,none,0,rfl,cn4 _,by unfold maxLen;omega,fun h=>absurd h al⟩
theorem I6.open{w:World}{v:Value}{n sz:Nat}{xs:List Value}(h:I6 w v n sz xs):∃a cap,v=.slice a n cap/\n<=cap/\n<=9223372036854775807/\cap<=9223372036854775807/\
  ∀i,i<n->∃b off,a=some ⟨b,off,none⟩/\b<w.heap.size/\∀j,j<sz->w.cell? ⟨b,off+i*sz+j,none⟩=xs[i*sz+j]? :=by
 obtain⟨hl,a,cap,rfl,h1,h2,h3⟩:=h
 unfold maxLen at h2
 refine⟨a,cap,rfl,h1,al,al,fun i hi=>?_⟩
 obtain⟨b,off,rfl,hbk,hc⟩:=h3 al
 refine⟨b,off,rfl,hbk,fun j hj=>?_⟩
 have hlt:i*sz+j<xs.length:=by
  rw[hl];have:=cr3 sz (Nat.succ_le_of_lt hi);rw[cq7]at this;omega
 rw[cn0 hlt,Nat.add_assoc]
 exact hc _ _ (cn0 hlt)
theorem I6.form{w:World}{v:Value}{n sz:Nat}{xs:List Value}(h:I6 w v n sz xs):∃a cap,v=.slice a n cap:=by
 obtain⟨_,a,cap,hv,_⟩:=h
 exact⟨a,cap,hv⟩
theorem I6.open1{w:World}{v:Value}{n:Nat}{xs:List Value}(h:I6 w v n 1 xs):∃a cap,v=.slice a n cap/\n<=cap/\n<=9223372036854775807/\cap<=9223372036854775807/\
  ∀i,i<n->∃b off,a=some ⟨b,off,none⟩/\b<w.heap.size/\w.cell? ⟨b,off+i,none⟩=xs[i]? :=by
 obtain⟨a,cap,h0,h1,h2,h3,h4⟩:=h.open
 refine⟨a,cap,h0,h1,h2,h3,fun i hi=>?_⟩
 obtain⟨b,off,e,hb,hc⟩:=h4 i hi
 exact⟨b,off,e,hb,by simpa using hc 0 al⟩
theorem R4{w:World}{base:Nat}{e:TypeId}{sz:Nat}{v:Value}{n:Nat}{xs:List Value}(h:w.ownsRow base e sz v n xs):I6 w v n sz xs:=by
 refine⟨h.1,?_⟩
 rcases h.2 with⟨rfl,rfl⟩|⟨g,cap,cur,rfl,hbg,hg,hnc,hcm,hcs,ht⟩
 ·exact⟨none,0,rfl,cn4 _,by unfold maxLen;omega,fun h=>absurd h al⟩
 refine⟨some ⟨g,0,none⟩,cap,rfl,hnc,hcm,fun _=>⟨g,0,rfl,(Array.getElem?_eq_some_iff.1 hg).1,fun j u hj=>?_⟩⟩
 have hadd:(⟨g,0,none⟩:Addr).add j=⟨g,0+j,none⟩:=by unfold Addr.add;split<;>simp_all
 rw[<-hadd]
 exact h.cells (g:=g) rfl j u hj
theorem ar8{w w':World}{base B:Nat}{e:TypeId}{sz:Nat}{v:Value}{n:Nat}{xs:List Value}(h:w.ownsRow base e sz v n xs)(hb:Below B w w')(hB:w.heap.size<=B):w'.ownsRow base e sz v n xs:=by
 refine⟨h.1,?_⟩
 rcases h.2 with hn|⟨g,cap,cur,rfl,hbg,hg,hnc,hcm,hcs,ht⟩
 ·exact .inl hn
 have hlt:g<w.heap.size:=(Array.getElem?_eq_some_iff.1 hg).1
 exact .inr ⟨g,cap,cur,rfl,hbg,(hb.block g al).trans hg,hnc,hcm,hcs,ht⟩
theorem N9{w:World}{base base':Nat}{e:TypeId}{sz:Nat}{v:Value}{n:Nat}{xs:List Value}(h:w.ownsRow base e sz v n xs)(hb:base'<=base):w.ownsRow base' e sz v n xs:=by
 refine⟨h.1,?_⟩
 rcases h.2 with hn|⟨g,cap,cur,rfl,hbg,r⟩
 ·exact .inl hn
 exact .inr ⟨g,cap,cur,rfl,al,r⟩
def C5(w:World)(lo hi:Nat)(e:TypeId)(sz:Nat)(v:Value)(n:Nat)(xs:List Value):Prop:=
 w.ownsRow lo e sz v n xs/\∀g,v.ownBlock=some g->g<hi
structure Out(lo hi:Nat)(w w':World):Prop where
 os:w'.os=w.os
 tape:w'.tape=w.tape
 output:w'.output=w.output
 size:w.heap.size<=w'.heap.size
 block:∀k,k<w.heap.size->(k<lo\/hi<=k)->w'.heap[k]? =w.heap[k]?
theorem Out.refl(lo hi:Nat)(w:World):Out lo hi w w:=⟨rfl,rfl,rfl,cn4 _,fun _ _ _=>rfl⟩
theorem Out.trans{lo hi:Nat}{a b c:World}(h:Out lo hi a b)(k:Out lo hi b c):Out lo hi a c:=
 ⟨k.os.trans h.os,k.tape.trans h.tape,k.output.trans h.output,cp4 h.size k.size,fun i hi ho=>(k.block i (cq4 hi h.size) ho).trans (h.block i hi ho)⟩
theorem Out.wide{lo hi lo' hi':Nat}{a b:World}(h:Out lo hi a b)(h1:lo'<=lo)(h2:hi<=hi'):Out lo' hi' a b:=
 ⟨h.os,h.tape,h.output,h.size,fun k hk ho=>h.block k hk al⟩
theorem Out.below{lo hi B:Nat}{a b:World}(h:Out lo hi a b)(h1:B<=lo)(h2:B<=a.heap.size):Below B a b:=
 ⟨h.os,h.tape,h.output,h.size,fun k hk=>h.block k al al⟩
theorem Out.of_below{lo hi B:Nat}{a b:World}(h:Below B a b)(h1:a.heap.size<=B):Out lo hi a b:=
 ⟨h.os,h.tape,h.output,h.size,fun k hk _=>h.block k al⟩
theorem Out.setCell{lo hi:Nat}{a w:World}(h:Out lo hi a w){p:Addr}(h1:lo<=p.block)(h2:p.block<hi)(u:Value):Out lo hi a (w.setCell p u):=
 h.trans ⟨rfl,rfl,rfl,by simp[World.setCell],fun k _ ho=>Below.heap_setCell _ _ _ _ al⟩
theorem C5.lt{w:World}{lo hi:Nat}{e:TypeId}{sz:Nat}{v:Value}{n:Nat}{xs:List Value}(h:C5 w lo hi e sz v n xs):∀g,v.ownBlock=some g->lo<=g/\g<hi/\g<w.heap.size:=
 fun g hg=>⟨(h.1.lt g hg).1,h.2 g hg,(h.1.lt g hg).2⟩
theorem C5.row{w:World}{lo hi:Nat}{e:TypeId}{sz:Nat}{v:Value}{n:Nat}{xs:List Value}(h:C5 w lo hi e sz v n xs):I6 w v n sz xs:=R4 h.1
theorem C5.mk'{w:World}{lo:Nat}{e:TypeId}{sz:Nat}{v:Value}{n:Nat}{xs:List Value}(h:w.ownsRow lo e sz v n xs):C5 w lo w.heap.size e sz v n xs:=
 ⟨h,fun g hg=>(h.lt g hg).2⟩
theorem C5.wide{w:World}{lo hi lo' hi':Nat}{e:TypeId}{sz:Nat}{v:Value}{n:Nat}{xs:List Value}(h:C5 w lo hi e sz v n xs)(h1:lo'<=lo)(h2:hi<=hi'):C5 w lo' hi' e sz v n xs:=
 ⟨N9 h.1 h1,fun g hg=>cq4 (h.2 g hg) h2⟩
theorem C5.form{w:World}{lo hi:Nat}{e:TypeId}{sz:Nat}{v:Value}{n:Nat}{xs:List Value}(h:C5 w lo hi e sz v n xs):∃a cap,v=.slice a n cap:=by
 obtain⟨_,a,cap,hv,_⟩:=h.row
 exact⟨a,cap,hv⟩
theorem C5.same{w w':World}{lo hi:Nat}{e:TypeId}{sz:Nat}{v:Value}{n:Nat}{xs:List Value}(h:C5 w lo hi e sz v n xs)
  (hs:∀g,v.ownBlock=some g->w'.heap[g]? =w.heap[g]?):C5 w' lo hi e sz v n xs:=by
 refine⟨⟨h.1.1,?_⟩,h.2⟩
 rcases h.1.2 with hn|⟨g,cap,cur,rfl,hbg,hg,r⟩
 ·exact .inl hn
 exact .inr ⟨g,cap,cur,rfl,hbg,(hs g rfl).trans hg,r⟩
theorem C5.keep{w w':World}{lo hi B:Nat}{e:TypeId}{sz:Nat}{v:Value}{n:Nat}{xs:List Value}(h:C5 w lo hi e sz v n xs)(hb:Below B w w')(hB:hi<=B):C5 w' lo hi e sz v n xs:=
 h.same fun g hg=>hb.block g (by have:=h.lt g hg;omega)
theorem C5.out{w w':World}{lo hi lo' hi':Nat}{e:TypeId}{sz:Nat}{v:Value}{n:Nat}{xs:List Value}(h:C5 w lo hi e sz v n xs)(ho:Out lo' hi' w w')(hd:hi<=lo'\/hi'<=lo):C5 w' lo hi e sz v n xs:=
 h.same fun g hg=>ho.block g (h.lt g hg).2.2 (by have:=h.lt g hg;omega)
theorem C5.open{w:World}{lo hi:Nat}{e:TypeId}{sz:Nat}{v:Value}{n:Nat}{xs:List Value}(h:C5 w lo hi e sz v n xs)(hn:0<n):
  ∃g cap,v=.slice (some ⟨g,0,none⟩) n cap/\lo<=g/\g<hi/\g<w.heap.size/\n<=cap/\cap<=maxLen/\(∀o,w.frozen? ⟨g,o,none⟩=false)/\∀j u,xs[j]? =some u->w.cell? ⟨g,j,none⟩=some u:=by
 have hl:=h.lt
 rcases h.1.2 with⟨_,h0⟩|⟨g,cap,cur,rfl,hbg,hg,hnc,hcm,hcs,ht⟩
 ·omega
 obtain⟨l1,l2,l3⟩:=hl g rfl
 refine⟨g,cap,rfl,l1,l2,l3,hnc,hcm,fun o=>?_,fun j u hj=>?_⟩
 ·simp only[World.frozen?,hg];simp
 have hadd:(⟨g,0,none⟩:Addr).add j=⟨g,j,none⟩:=by unfold Addr.add;split<;>simp_all
 rw[<-hadd]
 exact h.1.cells (g:=g) rfl j u hj
theorem C5.at{w:World}{lo hi:Nat}{e:TypeId}{sz:Nat}{v:Value}{n:Nat}{xs:List Value}(h:C5 w lo hi e sz v n xs){j:Nat}(hj:j<xs.length):
  ∃g cap,v=.slice (some ⟨g,0,none⟩) n cap/\lo<=g/\g<hi/\g<w.heap.size/\w.frozen? ⟨g,j,none⟩=false/\∃u,w.cell? ⟨g,j,none⟩=some u:=by
 have hn:0<n:=by
  rcases Nat.eq_zero_or_pos n with h0|h0
  ·subst h0;have:=h.1.1;omega
  exact h0
 obtain⟨g,cap,hv,h1,h2,h3,_,_,h4,h5⟩:=h.open hn
 exact⟨g,cap,hv,h1,h2,h3,h4 j,_,h5 j _ (cn0 hj)⟩
theorem C5.setCell{w:World}{lo hi:Nat}{e:TypeId}{sz:Nat}{n cap g:Nat}{xs:List Value}(h:C5 w lo hi e sz (.slice (some ⟨g,0,none⟩) n cap) n xs){j:Nat}(_hj:j<xs.length)(u:Value):
  C5 (w.setCell ⟨g,j,none⟩ u) lo hi e sz (.slice (some ⟨g,0,none⟩) n cap) n (xs.set j u):=by
 refine⟨⟨by rw[cp3];exact h.1.1,?_⟩,h.2⟩
 rcases h.1.2 with⟨hv,_⟩|⟨g',cap',cur,hv,hbg,hg,hnc,hcm,hcs,ht⟩
 ·cases hv
 cases hv
 refine .inr ⟨g,cap,cur.setIfInBounds j u,rfl,hbg,?_,hnc,hcm,by simpa using hcs,?_⟩
 ·have hlt:=(Array.getElem?_eq_some_iff.1 hg).1
  simp only[World.setCell,Array.getElem?_modify]
  simp[hg]
 rw[Array.toList_setIfInBounds,List.take_set,ht]
theorem j8{a b:Bool}(h:a=b):Ending.returned (.bool a)=.returned (.bool b):=by rw[h]
theorem D2{k:IntKind}{a b:Int}(h:a=b):Ending.returned (.int k a)=.returned (.int k b):=by rw[h]
theorem n7{α:Type}(l:List α)(k:Nat)(h:k<l.length):l.take (k+1)=l.take k++[l[k]]:=by
 rw[List.take_succ_eq_append_getElem h]
theorem ap8{α:Type}(ys:List α)(k:Nat)(u:α)(h:k<ys.length):(ys.set k u).take (k+1)=ys.take k++[u]:=by
 rw[n7 _ _ (by simpa using h),List.take_set_of_le (cn4 _)];simp
def E7(z:List Value)(n:Nat):List Value:=(cm8 n z).flatten
theorem Q8(z:List Value)(n:Nat):(E7 z n).length=n*z.length:=by simp[E7]
theorem W0(z:Value)(n:Nat):E7 [z] n=cm8 n z:=by
 unfold E7
 induction n with
 |zero=>rfl
 |succ n ih=>rw[List.replicate_succ,List.flatten_cons,ih];rfl
theorem aK8(z:Array Value)(n:Nat)(_hz:0<z.size):madeCells z (n*z.size)=(E7 z.toList n).toArray:=by
 apply Array.ext
 ·simp[size_madeCells,Q8]
 intro i h1 h2
 simp only[madeCells,Array.getElem_map,Array.getElem_range,List.getElem_toArray]
 have hlt:i<(E7 z.toList n).length:=by simpa using h2
 have key:∀(m i:Nat),i<(E7 z.toList m).length->(E7 z.toList m)[i]? =some (z[i%z.size]!):=by
  intro m
  induction m with
  |zero=>intro i hi;simp[E7]at hi
  | succ m ih =>
   intro i hi
   have e:E7 z.toList (m+1)=z.toList++E7 z.toList m:=by simp[E7,List.replicate_succ]
   rw[e]
   by_cases hlt:i<z.size
   ·rw[co2 (by simpa using hlt),Nat.mod_eq_of_lt hlt]
    simp[hlt]
   rw[cp9 ah]
   have:=ih (i-z.toList.length) (by rw[e,cn3]at hi;rw[Array.length_toList]at hi ⊢;omega)
   rw[this]
   congr 2
   rw[Array.length_toList]
   exact(Nat.mod_eq_sub_mod al).symm
 have:=key n i hlt
 rw[cn0 hlt]at this
 exact(Option.some.inj this).symm
theorem ae4{P:Program}{t e:TypeId}{z:Value}{size bytes:Nat}(ht:P.underlying t=some (.slice e))(hi:(P.info? e).map (fun i=>(i.zero,i.size,i.bytes))=some (some z,size,bytes))
  (hz:z.cells.size=size) (hs:0<size) (n:Nat) (hn:bytes*n<=281474976710656) (hm:n<=9223372036854775807):
  ∀w,(Instr.makeSlice t (.int .i64 n) (.int .i64 n)).run P w=.ok (.slice (some ⟨w.heap.size,0,none⟩) n n) (w.alloc (.cells (E7 z.cells.toList n).toArray e)):=by
 intro w
 obtain⟨i,h1,h2,h3,h4⟩:=info_parts hi
 have:=run_make (P:=P) w t e i z ht h1 h2 .i64 .i64 n n al (Int.le_refl _) (by rw[h4, <-Int.natCast_mul];omega) al
 rw[this]
 simp only[Int.toNat_natCast,h3]
 subst hz
 rw[aK8 _ _ hs]
theorem z6(w:World){g:Nat}(cs:Array Value)(n sz:Nat)(e:TypeId)(hg:g=w.heap.size)(hz:cs.size=n*sz)(hm:n<=9223372036854775807):
  C5 (w.alloc (.cells cs e)) w.heap.size (w.heap.size+1) e sz (.slice (some ⟨g,0,none⟩) n n) n cs.toList:=by
 subst hg
 refine⟨⟨by simpa using hz,.inr ⟨w.heap.size,n,_,rfl,cn4 _,heap_alloc_new w _,cn4 _,by unfold maxLen;omega,hz,?_⟩⟩,fun g hg=>by cases hg;exact Nat.lt_succ_self _⟩
 rw[<-hz]
 exact co3 ao
theorem aK0(w:World)(z:List Value)(n sz:Nat)(e:TypeId)(hz:z.length=sz)(hm:n<=9223372036854775807):
  C5 (w.alloc (.cells (E7 z n).toArray e)) w.heap.size (w.heap.size+1) e sz (.slice (some ⟨w.heap.size,0,none⟩) n n) n (E7 z n):=by
 refine⟨⟨by rw[Q8,hz],.inr ⟨w.heap.size,n,_,rfl,cn4 _,heap_alloc_new w _,cn4 _,by unfold maxLen;omega,by simp[Q8,hz],?_⟩⟩,fun g hg=>by cases hg;exact Nat.lt_succ_self _⟩
 have:(E7 z n).length=n*sz:=by rw[Q8,hz]
 rw[<-this]
 simp
def setFrom(ys:List Value)(p:Nat):List Value->List Value
 |[]=>ys
 |u::r=>setFrom (ys.set p u) (p+1) r
def World.setFrom(w:World)(g p:Nat):List Value->World
 |[]=>w
 |u::r=>World.setFrom (w.setCell ⟨g,p,none⟩ u) g (p+1) r
theorem J1(us:List Value):∀(ys:List Value) (p:Nat),(setFrom ys p us).length=ys.length:=by
 induction us with
 |nil=>intro ys p;rfl
 |cons u r ih=>intro ys p;simp[setFrom,ih]
theorem au5(us:List Value):∀(ys:List Value) (p:Nat),p+us.length<=ys.length->(setFrom ys p us).take (p+us.length)=ys.take p++us:=by
 induction us with
 |nil=>intro ys p h;simp[setFrom]
 |cons u r ih=>
  intro ys p h
  simp only[cn6]at h
  have:=ih (ys.set p u) (p+1) ah
  simp only[setFrom,cn6]
  rw[show p+(r.length+1)=p+1+r.length by omega,this,ap8 _ _ _ al]
  simp
theorem C5.setFrom{lo hi:Nat}{e:TypeId}{sz n cap g:Nat}(us:List Value):∀{w:World} {xs:List Value} {p:Nat},C5 w lo hi e sz (.slice (some ⟨g,0,none⟩) n cap) n xs->p+us.length<=xs.length->
  C5 (World.setFrom w g p us) lo hi e sz (.slice (some ⟨g,0,none⟩) n cap) n (setFrom xs p us):=by
 induction us with
 |nil=>intro w xs p h _;exact h
 |cons u r ih=>
  intro w xs p h hl
  simp only[cn6]at hl
  exact ih (h.setCell al u) ah
theorem Out.setFrom{lo hi g:Nat}{a:World}(us:List Value):∀{w:World} {p:Nat},Out lo hi a w->lo<=g->g<hi->Out lo hi a (World.setFrom w g p us):=by
 induction us with
 |nil=>intro w p h _ _;exact h
 |cons u r ih=>intro w p h h1 h2;exact ih (h.setCell h1 h2 u) h1 h2
def ad7(u v:Value):Prop:=∀g,u.ownBlock=some g->v.ownBlock≠some g
theorem ad7.symm{u v:Value}(h:ad7 u v):ad7 v u:=fun g h1 h2=>h g h2 h1
theorem bq8{w w':World}{lo hi lo' hi':Nat}{e e':TypeId}{sz sz':Nat}{v v':Value}{n n':Nat}{xs xs':List Value}(h:C5 w lo hi e sz v n xs)(h':C5 w' lo' hi' e' sz' v' n' xs')(hd:hi<=lo'\/hi'<=lo):ad7 v v':=by
 intro g h1 h2
 have:=h.lt g h1
 have:=h'.lt g h2
 omega
def D3(w:World)(b:Nat)(cs:List Value):Prop:=∃T,w.heap[b]? =some (.cells cs.toArray T (0,0))
theorem D3.lt{w:World}{b:Nat}{cs:List Value}(h:D3 w b cs):b<w.heap.size:=by
 obtain⟨T,h⟩:=h;exact(Array.getElem?_eq_some_iff.1 h).1
theorem D3.cell{w:World}{b:Nat}{cs:List Value}(h:D3 w b cs)(j:Nat):w.cell? ⟨b,j,none⟩=cs[j]? :=by
 obtain⟨T,h⟩:=h;simp[World.cell?,h]
theorem D3.free{w:World}{b:Nat}{cs:List Value}(h:D3 w b cs)(j:Nat):w.frozen? ⟨b,j,none⟩=false:=by
 obtain⟨T,h⟩:=h;simp only[World.frozen?,h];simp
theorem D3.below{w w':World}{b B:Nat}{cs:List Value}(h:D3 w b cs)(hb:Below B w w')(hB:b<B):D3 w' b cs:=by
 obtain⟨T,h⟩:=h;exact⟨T,(hb.block b hB).trans h⟩
theorem D3.out{w w':World}{b lo hi:Nat}{cs:List Value}(h:D3 w b cs)(hb:Out lo hi w w')(hB:b<lo\/hi<=b):D3 w' b cs:=by
 have hlt:=h.lt
 obtain⟨T,h⟩:=h;exact⟨T,(hb.block b hlt hB).trans h⟩
theorem D3.set{w:World}{b j:Nat}{cs:List Value}(h:D3 w b cs)(u:Value):D3 (w.setCell ⟨b,j,none⟩ u) b (cs.set j u):=by
 obtain⟨T,h⟩:=h
 refine⟨T,?_⟩
 simp only[World.setCell,Array.getElem?_modify]
 simp[h]
theorem D3.other{w:World}{b:Nat}{p:Addr}{cs:List Value}(h:D3 w b cs)(hp:b≠p.block)(u:Value):D3 (w.setCell p u) b cs:=by
 obtain⟨T,h⟩:=h;exact⟨T,(Below.heap_setCell _ _ _ _ hp).trans h⟩
theorem D3.new(w:World)(cs:List Value)(T:TypeId):D3 (w.alloc (.cells cs.toArray T)) w.heap.size cs:=⟨T,heap_alloc_new w _⟩
theorem D3.new'(w:World){b:Nat}(cs:List Value)(T:TypeId)(hb:b=w.heap.size):D3 (w.alloc (.cells cs.toArray T)) b cs:=by subst hb;exact D3.new w cs T
theorem D3.alloc{w:World}{b:Nat}{cs:List Value}(h:D3 w b cs)(o:Obj):D3 (w.alloc o) b cs:=by
 have hlt:=h.lt
 obtain⟨T,h⟩:=h;exact⟨T,(Below.heap_alloc w o b hlt).trans h⟩
theorem D3.drew{w:World}{b:Nat}{cs:List Value}(h:D3 w b cs):D3 w.drew b cs:=h
theorem Out.cell(w:World)(b j:Nat)(u:Value):Out b (b+1) w (w.setCell ⟨b,j,none⟩ u):=
 Out.setCell (p:=⟨b,j,none⟩) (Out.refl b (b+1) w) (cn4 b) (Nat.lt_succ_self b) u
theorem C5.other{w:World}{lo hi:Nat}{e:TypeId}{sz:Nat}{v:Value}{n:Nat}{xs:List Value}(h:C5 w lo hi e sz v n xs){b:Nat}(hb:b<lo\/hi<=b)(j:Nat)(u:Value):C5 (w.setCell ⟨b,j,none⟩ u) lo hi e sz v n xs:=
 h.out (Out.cell w b j u) al
def _root_.Go.World.ext(w X:World):World:={w with heap:=w.heap++X.heap,drawn:=X.drawn}
theorem i5(w:World)(X:World):Below w.heap.size w (w.ext X):=
 ⟨rfl,rfl,rfl,ag,fun k hk=>by simp only[World.ext];rw[Array.getElem?_append_left hk]⟩
theorem aA4{w w':World}(h:Below w.heap.size w w'):∃X,w'=w.ext X:=by
 refine⟨{w' with heap:=w'.heap.extract w.heap.size w'.heap.size},?_⟩
 obtain⟨h1,h2,h3,h4,h5⟩:=h
 have hh:w'.heap=w.heap++w'.heap.extract w.heap.size w'.heap.size:=by
  apply Array.ext_getElem?
  intro i
  rcases cp1 i w.heap.size with hi|hi
  ·rw[Array.getElem?_append_left hi,h5 i hi]
  rw[Array.getElem?_append_right hi,Array.getElem?_extract]
  split
  ·rw[show w.heap.size+(i-w.heap.size)=i by omega]
  rename_i hn
  rw[Array.getElem?_eq_none]
  simp at hn
  omega
 cases w;cases w'
 simp only[World.ext]at*
 subst h1 h2 h3
 rw[<-hh]
theorem c7{w:World}{b o:Nat}{v:Value}(h:w.cell? ⟨b,o,none⟩=some v)(X:World):(w.ext X).cell? ⟨b,o,none⟩=some v:=by
 have hb:b<w.heap.size:=World.block_lt_of_cell? w ⟨b,o,none⟩ h
 rw[(y8 (i5 w X)).1 b o hb];exact h
theorem Calls.ext_of'{P:Program}{f:FuncId}{args:Array Value}{w:World}{X:World}{v:Value}
  (h:Calls P f args (w.ext X) fun e w'=>e=.returned v/\Below (w.ext X).heap.size (w.ext X) w'):Calls P f args (w.ext X) fun e w''=>e=.returned v/\∃Y,w''=w.ext Y:=
 h.mono fun _ _ ⟨he,hb⟩=>⟨he,aA4 ((i5 w X).trans (hb.mono (i5 w X).size))⟩
theorem y9{P:Program}{id:Nat}{Q:Exit->Act->World->Prop}{a:Act}{w:World}{l:List Oper}(hm:P.follows .mixedOrders=true)(hB:Region.lexB .any l.toArray=true)
  (h:wpQuiet P l.toArray (fun w'=>∃X,w'=w.ext X) (fun a'=>∀w',(∃X,w'=w.ext X)->Q .normal a' w') l a):(Code.region id l.toArray true).wp P Q a w:=
 wp_region_quiet (C:=fun w'=>∃X,w'=w.ext X) hm hB (aA4 (w':=w.drew) (Below.refl _ _).drew) (by simpa using h)
theorem ao1{P:Program}{f:FuncId}{fn:Func}{c:Code}(hf:P.funcs[f]? =some fn)(hn:(fn.name== "runtime.NumGoroutine")=false)(hb:fn.body=some c):
  ∀args w,(callFunc f args).run P w=.ok (.enter f args) w:=by
 intro args w
 have h1:fn.name≠ "runtime.NumGoroutine" :=by simpa using hn
 simp[callFunc,hf,h1,hb,mark]
end Go.Proofs.YtfbeblgnjeokaaaGreat

namespace Go.Proofs.YtfbeblgnjeokaaaGreat
theorem J2{α:Type}(l:List α)(k:Nat)(h:k<l.length):l.take (k+1)=l.take k++[l[k]]:=by
 rw[List.take_succ_eq_append_getElem h]
theorem G8{α:Type}(p:α->Bool)(l:List α)(k:Nat)(h:k<l.length):(l.take (k+1)).all p=((l.take k).all p&&p l[k]):=by
 rw[J2 l k h,List.all_append];simp
theorem ac8{α:Type}{p:α->Bool}{l:List α}{k:Nat}(h:k<l.length)(hp:p l[k]=false):l.all p=false:=by
 rw[List.all_eq_false];exact⟨l[k],co6 h,by simp[hp]⟩
structure d7 where
 op:Int
 a:Int
 b:Int
 c:Int
 d:Int
def d7.l(x:d7):List Int:=[x.op,x.a,x.b,x.c,x.d]
def ap2:List d7->List Int
 |[]=>[]
 |x::r=>x.op::x.a::x.b::x.c::x.d::ap2 r
theorem bG2(l:List d7):(ap2 l).length=l.length*5:=by
 induction l with
 |nil=>rfl
 |cons x r ih=>simp[ap2,ih];omega
theorem d7.ext'{x y:d7}(h:x.l=y.l):x=y:=by
 cases x;cases y;simp[d7.l]at h;simp[h]
theorem a73(l:List d7)(i:Nat)(hi:i<l.length):(ap2 l)[i*5]? =some l[i].op/\(ap2 l)[i*5+1]? =some l[i].a/\(ap2 l)[i*5+2]? =some l[i].b/\(ap2 l)[i*5+3]? =some l[i].c/\(ap2 l)[i*5+4]? =some l[i].d:=by
 induction l generalizing i with
 |nil=>simp at hi
 | cons x r ih =>
  cases i with
  |zero=>simp[ap2]
  |succ i=>
   rw[cq7]
   have:=ih i (by simpa using hi)
   simpa[ap2,Nat.add_assoc]using this
structure d9 where
 vars:List Int
 arrays:List Int
 list:List d7
def d9.size(c:d9):Nat:=c.vars.length+c.arrays.length+c.list.length
def d9.same(c d:d9):Bool:=decide (c.vars=d.vars)&&decide (c.arrays=d.arrays)&&decide (ap2 c.list=ap2 d.list)
def i8(l:Int):Bool:=decide (0<=l)&&decide (l<=3)
def G5(vars arrays:List Int):Bool:=vars.all i8&&arrays.all i8&&decide (1<=vars.length)&&decide (vars.length<=12)&&decide (arrays.length<=2)
def V6(c:d9)(kd:UInt8)(n:Int):Bool:=
 if kd=114 then decide (0<=n)&&decide (n<14)
 else if kd=99 then decide (0<=n)&&decide (n<=255)
 else if kd=118 then decide (0<=n)&&decide (n<c.vars.length)
 else if kd=97 then decide (0<=n)&&decide (n<c.arrays.length)
 else if kd=111 then decide (4<=n)&&decide (n<=10)
 else decide (0<=n)&&decide (n<c.list.length)
def m7(op:Int):List UInt8:=
 if op=1 then [114,99]else if op=2 then [114,118]else if op=3 then [118,114]else if op=4 then [114,97,114]else if op=5 then [97,114,114]
 else if op=6 then [114,111,114,114]else if op=7 then [114,114,114,114]else if op=8 then [116]else if op=9 then [114,116]else if op=10 then [114,116]
 else if op=11 then [114]else []
def I2(c:d9)(kinds:List UInt8)(k:Nat)(n:Int):Bool:=
 match kinds[k]? with
 |some kd=>V6 c kd n
 |none=>decide (n=0)
def D9(c:d9)(x:d7):Bool:=
 decide (1<=x.op)&&decide (x.op<=13)&&(I2 c (m7 x.op) 0 x.a&&I2 c (m7 x.op) 1 x.b&&I2 c (m7 x.op) 2 x.c&&I2 c (m7 x.op) 3 x.d)
def ag3(c:d9):Bool:=match c.list.getLast? with|some x=>decide (x.op=13)||decide (x.op=8)|none=>false
def x5(c:d9):Bool:=G5 c.vars c.arrays&&decide (1<=c.list.length)&&decide (c.list.length<=400)&&c.list.all (D9 c)&&ag3 c
theorem as4(op:Int):(m7 op).length<=4:=by
 have key:∀(c:Prop) [Decidable c] (a b:List UInt8),a.length<=4->b.length<=4->(if c then a else b).length<=4:=fun c _ a b h1 h2=>by split<;>assumption
 unfold m7
 repeat' (apply key)
 all_goals decide
def ak6(c:d9)(kinds:List UInt8)(parts:List Int)(k:Nat):Bool:=(co4 k).all fun j=>I2 c kinds j (parts.getD j 0)
theorem aJ7(c:d9)(kinds:List UInt8)(parts:List Int)(k:Nat):ak6 c kinds parts (k+1)=(ak6 c kinds parts k&&I2 c kinds k (parts.getD k 0)):=by
 simp[ak6,List.range_succ]
theorem bf3(c:d9)(kinds:List UInt8)(x:d7):ak6 c kinds [x.a,x.b,x.c,x.d] 4=(I2 c kinds 0 x.a&&I2 c kinds 1 x.b&&I2 c kinds 2 x.c&&I2 c kinds 3 x.d):=by
 show ak6 c kinds _ (0+1+1+1+1)=_
 simp only[aJ7]
 simp[ak6]
theorem aJ8{c:d9}{kinds:List UInt8}{parts:List Int}{k:Nat}(n:Nat)(hk:k<n)(h:I2 c kinds k (parts.getD k 0)=false):ak6 c kinds parts n=false:=by
 unfold ak6
 rw[List.all_eq_false]
 exact⟨k,by simpa using hk,by simpa using h⟩
def N3(c:d9)(kd:UInt8)(n:Int):Bool:=
 if kd=114 then decide (0<=n)&&decide (n<=13)
 else if kd=118 then decide (0<=n)&&decide (n<=(c.vars.length:Int)-1)
 else if kd=97 then decide (0<=n)&&decide (n<=(c.arrays.length:Int)-1)
 else if kd=110 then decide (0<=n)&&decide (n<=255)
 else if kd=111 then decide (4<=n)&&decide (n<=10)
 else if kd=105 then decide (0<=n)&&decide (n<=(c.list.length:Int)-1)
 else decide (n=0)
def P9(op:Int):List UInt8:=
 if op=1 then [114,110,45,45]else if op=2 then [114,118,45,45]else if op=3 then [118,114,45,45]else if op=4 then [114,97,114,45]else if op=5 then [97,114,114,45]
 else if op=6 then [114,111,114,114]else if op=7 then [114,114,114,114]else if op=8 then [105,45,45,45]else if op=9 then [114,105,45,45]else if op=10 then [114,105,45,45]
 else if op=11 then [114,45,45,45]else if op=12 then [45,45,45,45]else if op=13 then [45,45,45,45]else []
def aJ9(c:d9)(kinds:List UInt8)(parts:List Int)(k:Nat):Bool:=(co4 k).all fun j=>N3 c (kinds.getD j 0) (parts.getD j 0)
theorem aT0(c:d9)(kinds:List UInt8)(parts:List Int)(k:Nat):aJ9 c kinds parts (k+1)=(aJ9 c kinds parts k&&N3 c (kinds.getD k 0) (parts.getD k 0)):=by
 simp[aJ9,List.range_succ]
theorem bt8{c:d9}{kinds:List UInt8}{parts:List Int}{k:Nat}(n:Nat)(hk:k<n)(h:N3 c (kinds.getD k 0) (parts.getD k 0)=false):aJ9 c kinds parts n=false:=by
 unfold aJ9
 rw[List.all_eq_false]
 exact⟨k,by simpa using hk,by simpa using h⟩
theorem aS1{op:Int}(h:¬(1<=op/\op<=13)):P9 op=[]:=by
 unfold P9
 repeat(rw[if_neg al])
theorem bM6{op:Int}(h:1<=op/\op<=13):(P9 op).length=4:=by
 have h':op=1\/op=2\/op=3\/op=4\/op=5\/op=6\/op=7\/op=8\/op=9\/op=10\/op=11\/op=12\/op=13:=al
 rcases h' with rfl|rfl|rfl|rfl|rfl|rfl|rfl|rfl|rfl|rfl|rfl|rfl|rfl<;>rfl
theorem bg6(c:d9)(x:d7)(h:1<=x.op/\x.op<=13):D9 c x=aJ9 c (P9 x.op) [x.a,x.b,x.c,x.d] 4:=by
 have e:aJ9 c (P9 x.op) [x.a,x.b,x.c,x.d] 4=(N3 c ((P9 x.op).getD 0 0) x.a&&N3 c ((P9 x.op).getD 1 0) x.b&&N3 c ((P9 x.op).getD 2 0) x.c&&N3 c ((P9 x.op).getD 3 0) x.d):=by
  show aJ9 c _ _ (0+1+1+1+1)=_
  simp only[aT0]
  simp[aJ9]
 rw[e]
 unfold D9
 rw[decide_eq_true h.1,decide_eq_true h.2]
 have h':x.op=1\/x.op=2\/x.op=3\/x.op=4\/x.op=5\/x.op=6\/x.op=7\/x.op=8\/x.op=9\/x.op=10\/x.op=11\/x.op=12\/x.op=13:=al
 rcases h' with h'|h'|h'|h'|h'|h'|h'|h'|h'|h'|h'|h'|h'<;>
 ·rw[h',cq3]
  simp[m7,P9,I2,V6,N3]
  try omega
def G9(x:d7):Int:=if x.op=8 then x.a else if x.op=9\/x.op=10 then x.b else -1
def U1(x:d7)(i:Int):List Int:=if x.op=13 then []else if x.op=8 then [x.a]else if x.op=9\/x.op=10 then [i+1,x.b]else [i+1]
def ae3(x:d7)(i:Int):List Int:=(if 0<=G9 x then [G9 x]else [])++(if x.op≠8/\x.op≠13 then [i+1]else [])
def nx(c:d9)(t:Int):List Int:=match c.list[t.toNat]? with|some x=>U1 x t|none=>[]
theorem bo3{c:d9}{t:Int}(h:t.toNat<c.list.length):nx c t=U1 c.list[t.toNat] t:=by simp[nx,h]
theorem n9{c:d9}(h:x5 c=true):G5 c.vars c.arrays=true/\1<=c.list.length/\c.list.length<=400/\(∀(i:Nat) (hi:i<c.list.length),D9 c c.list[i]=true)/\ag3 c=true:=by
 unfold x5 at h
 simp only[cm9,decide_eq_true_eq,cn8]at h
 obtain⟨⟨⟨⟨h1,h2⟩,h3⟩,h4⟩,h5⟩:=h
 exact⟨h1,h2,h3,fun i hi=>h4 _ (co6 hi),h5⟩
theorem bz3{c:d9}{x:d7}(h:D9 c x=true)(ho:x.op=8\/x.op=9\/x.op=10):0<=G9 x/\G9 x<c.list.length:=by
 unfold D9 at h
 simp only[cm9,decide_eq_true_eq]at h
 obtain⟨_,⟨⟨ha,hb⟩,_⟩,_⟩:=h
 rcases ho with ho|ho|ho
 ·rw[ho]at ha
  simp[m7,I2,V6]at ha
  simp[G9,ho];omega
 ·rw[ho]at hb
  simp[m7,I2,V6]at hb
  simp[G9,ho];omega
 rw[ho]at hb
 simp[m7,I2,V6]at hb
 simp[G9,ho];omega
theorem bP8{c:d9}(h:x5 c=true)(i:Nat)(hi:i<c.list.length)(h1:c.list[i].op≠13)(h2:c.list[i].op≠8):i+1<c.list.length:=by
 obtain⟨_,hn,_,_,hl⟩:=n9 h
 rcases cp1 (i+1) c.list.length with hlt|hge
 ·exact hlt
 exfalso
 unfold ag3 at hl
 rw[List.getLast?_eq_getElem?,show c.list.length-1=i by omega,cn0 hi]at hl
 simp at hl
 omega
theorem aT3{c:d9}(h:x5 c=true){i t:Int}(hi:0<=i)(ht:t∈nx c i):0<=t/\t<c.list.length:=by
 by_cases hlt:i.toNat<c.list.length
 ·rw[bo3 hlt]at ht
  have ho:=(n9 h).2.2.2.1 _ hlt
  have hl:=bP8 h _ hlt
  have hk:=bz3 ho
  unfold U1 at ht
  unfold G9 at hk
  generalize c.list[i.toNat]=x at*
  by_cases h13:x.op=13
  ·simp[h13]at ht
  by_cases h8:x.op=8
  ·simp[h8]at ht hk
   omega
  have:=hl h13 h8
  by_cases h9:x.op=9\/x.op=10
  ·simp only[if_neg h13,if_neg h8,if_pos h9,cq9,List.not_mem_nil,or_false]at ht hk
   rcases ht with rfl|rfl
   ·omega
   exact hk (.inr h9)
  simp only[if_neg h13,if_neg h8,if_neg h9,cq9,List.not_mem_nil,or_false]at ht
  omega
 unfold nx at ht
 rw[cp0 al]at ht
 simp at ht
theorem aT4{c:d9}{x:d7}(h:D9 c x=true)(i t:Int):t∈ae3 x i↔t∈U1 x i:=by
 have hk:=bz3 h
 unfold ae3 U1
 by_cases h13:x.op=13
 ·simp[h13,G9]
 by_cases h8:x.op=8
 ·have hh:=hk (.inl h8)
  simp[h8,G9]at hh ⊢
  omega
 by_cases h9:x.op=9\/x.op=10
 ·have hh:=hk (.inr h9)
  have e:G9 x=x.b:=by simp[G9,h8,h9]
  rw[e]at hh ⊢
  simp only[if_neg h13,if_neg h8,if_pos h9,if_pos hh.1,if_pos (show x.op≠8/\x.op≠13 from⟨h8,h13⟩)]
  simp[Or.comm]
 have e:G9 x= -1:=by simp[G9,h8,h9]
 rw[e]
 simp[h13,h8,h9]
theorem aT5(x:d7)(i:Int):(ae3 x i).length<=2:=by
 unfold ae3;rw[cn3];split<;>split<;>simp
inductive Rc(c:d9):Int->Prop
 |zero:Rc c 0
 |step {i t:Int}:Rc c i->t∈nx c i->Rc c t
noncomputable def ak5(c:d9):List Bool:=(co4 c.list.length).map fun(j:Nat)=> @decide (Rc c (j:Int)) (Classical.propDecidable _)
theorem Rc.nonneg{c:d9}(h:x5 c=true){t:Int}(hr:Rc c t):0<=t:=by
 induction hr with
 |zero=>omega
 |step _ ht ih=>exact(aT3 h ih ht).1
theorem aJ5{c:d9}(hc:x5 c=true){bs:List Bool}(hl:bs.length=c.list.length)(hs:∀j:Nat,bs[j]? =some true->Rc c j)(h0:bs[0]? =some true)
  (hcl:∀j:Nat,bs[j]? =some true->∀t∈nx c j,bs[t.toNat]? =some true):bs=ak5 c:=by
 have key:∀t:Int,Rc c t->bs[t.toNat]? =some true:=by
  intro t ht
  induction ht with
  |zero=>exact h0
  | @step i t hi ht ih=>
   have hn:=Rc.nonneg hc hi
   exact hcl i.toNat ih t (by rw[show((i.toNat:Nat):Int)=i by omega];exact ht)
 apply List.ext_getElem
 ·simp[ak5,hl]
 intro j h1 h2
 have e:(ak5 c)[j]= @decide (Rc c (j:Int)) (Classical.propDecidable _):=by simp[ak5]
 rw[e]
 by_cases hr:Rc c (j:Int)
 ·have:=key _ hr
  rw[Int.toNat_natCast,cn0 h1]at this
  simp only[Option.some.injEq]at this
  rw[this];simp[hr]
 cases hb:bs[j]
 ·simp[hr]
 exact absurd (hs j (by rw[cn0 h1,hb])) hr
theorem ao3{bs:List Bool}{k:Nat}(h:bs[k]? =some false):(bs.set k true).count false+1=bs.count false:=by
 induction bs generalizing k with
 |nil=>simp at h
 | cons b r ih =>
  cases k with
  |zero=>simp at h;subst h;simp
  |succ k=>
   simp at h
   have:=ih h
   simp only[cp8,List.count_cons]
   omega
theorem a43{bs:List Bool}{k j:Nat}(h:bs[j]? =some true):(bs.set k true)[j]? =some true:=by
 rw[cr5]
 split
 ·rename_i e;subst e
  have:=(co0.1 h).1
  simp[this]
 exact h
theorem af5{bs:List Bool}{k j:Nat}(h:(bs.set k true)[j]? =some true):j=k\/bs[j]? =some true:=by
 rw[cr5]at h
 split at h
 ·rename_i e;exact .inl e.symm
 exact .inr h
theorem a42{bs:List Bool}{k:Nat}(h:k<bs.length):(bs.set k true)[k]? =some true:=by simp[h]
structure bx8(c:d9)(qs:List Int)(bs:List Bool):Prop where
 len:bs.length=c.list.length
 cnt:qs.length+bs.count false=c.list.length
 q:∀t∈qs,0<=t/\t<c.list.length/\Rc c t
 sound:∀j:Nat,bs[j]? =some true->Rc c j
 inq:∀j:Nat,bs[j]? =some true->(j:Int)∈qs
 zero:bs[0]? =some true
theorem bx8.start{c:d9}(hc:x5 c=true):bx8 c [0] ((cm8 c.list.length false).set 0 true):=by
 have hn:=(n9 hc).2.1
 have hone:∀j:Nat,((cm8 c.list.length false).set 0 true)[j]? =some true->j=0:=by
  intro j h
  rcases af5 h with h|h
  ·exact h
  rw[cr1]at h;split at h<;>simp at h
 refine⟨ao,?_,?_,?_,?_,?_⟩
 ·have:=ao3 (bs:=cm8 c.list.length false) (k:=0) (by rw[cr1,if_pos al])
  simp at this ⊢
  omega
 ·intro t ht
  simp at ht;subst ht
  exact⟨al,al,.zero⟩
 ·intro j h;rw[hone j h];exact .zero
 ·intro j h;rw[hone j h];simp
 exact a42 ah
theorem bx8.push{c:d9}{qs:List Int}{bs:List Bool}(h:bx8 c qs bs){t:Int}(h0:0<=t)(h1:t<c.list.length)(hr:Rc c t)(hb:bs[t.toNat]? =some false):
  bx8 c (qs++[t]) (bs.set t.toNat true):=by
 refine⟨by simp[h.len],?_,?_,?_,?_,a43 h.zero⟩
 ·have:=ao3 hb
  have:=h.cnt
  simp;omega
 ·intro u hu
  rcases cp2.1 hu with hu|hu
  ·exact h.q u hu
  simp at hu;subst hu;exact⟨h0,h1,hr⟩
 ·intro j hj
  rcases af5 hj with rfl|hj
  ·rw[show((t.toNat:Nat):Int)=t by omega];exact hr
  exact h.sound j hj
 intro j hj
 rcases af5 hj with rfl|hj
 ·simp;right;omega
 exact List.mem_append_left _ (h.inq j hj)
def aP1(c:d9)(qs:List Int)(bs:List Bool)(i:Nat):Prop:=∀(m:Nat) (u:Int),m<i->qs[m]? =some u->∀t∈nx c u,bs[t.toNat]? =some true
theorem aP1.push{c:d9}{qs:List Int}{bs:List Bool}{i:Nat}(h:aP1 c qs bs i)(hi:i<=qs.length)(t:Int)(k:Nat):aP1 c (qs++[t]) (bs.set k true) i:=
 fun m u hm hu x hx=>a43 (h m u hm (by rwa[co2 al]at hu) x hx)
theorem aP1.done{c:d9}(hc:x5 c=true){qs:List Int}{bs:List Bool}(h:bx8 c qs bs)(hcl:aP1 c qs bs qs.length):bs=ak5 c:=by
 refine aJ5 hc h.len h.sound h.zero fun j hj t ht=>?_
 obtain⟨m,hm,he⟩:=List.getElem_of_mem (h.inq j hj)
 exact hcl m j hm (by rw[cn0 hm,he]) t ht
structure bk4(c:d9)(ls:List Int)(bs:List Bool):Prop where
 len:bs.length=c.list.length
 cnt:ls.length+2*bs.count false<=2*c.list.length+1
 l:∀t∈ls,0<=t/\t<c.list.length/\Rc c t
 sound:∀j:Nat,bs[j]? =some true->Rc c j
 zero:bs[0]? =some true\/(0:Int)∈ls
 clos:∀j:Nat,bs[j]? =some true->∀t∈nx c j,bs[t.toNat]? =some true\/t∈ls
theorem bk4.start{c:d9}(hc:x5 c=true):bk4 c [0] (cm8 c.list.length false):=by
 have hn:=(n9 hc).2.1
 refine⟨ao,ah,?_,?_,.inr ao,?_⟩
 ·intro t ht
  simp at ht;subst ht
  exact⟨al,al,.zero⟩
 ·intro j h;rw[cr1]at h;split at h<;>simp at h
 intro j h;rw[cr1]at h;split at h<;>simp at h
theorem bk4.skip{c:d9}{ls:List Int}{i:Int}{bs:List Bool}(h:bk4 c (ls++[i]) bs)(hb:bs[i.toNat]? =some true):bk4 c ls bs:=by
 refine⟨h.len,by have:=h.cnt;simp at this;omega,fun t ht=>h.l t (List.mem_append_left _ ht),h.sound,?_,?_⟩
 ·rcases h.zero with h0|h0
  ·exact .inl h0
  rcases cp2.1 h0 with h0|h0
  ·exact .inr h0
  simp at h0;subst h0;exact .inl hb
 intro j hj t ht
 rcases h.clos j hj t ht with h1|h1
 ·exact .inl h1
 rcases cp2.1 h1 with h1|h1
 ·exact .inr h1
 simp at h1;subst h1;exact .inl hb
theorem bk4.done{c:d9}(hc:x5 c=true){bs:List Bool}(h:bk4 c [] bs):bs=ak5 c:=by
 refine aJ5 hc h.len h.sound ?_ fun j hj t ht=>?_
 ·rcases h.zero with h0|h0
  ·exact h0
  simp at h0
 rcases h.clos j hj t ht with h1|h1
 ·exact h1
 simp at h1
end Go.Proofs.YtfbeblgnjeokaaaGreat

namespace Go.Proofs.YtfbeblgnjeokaaaGreat
open Go Go.RowKit
section
variable{P:Program}{md:Region.Mode}{C:World->Prop}
def I4(o:Oper):Oper:={o with op:=.move (.const (.bool false)),guard:=none}
theorem be7{ops ops':Array Oper}(hs:ops'.size=ops.size)(h:∀i:Nat,(ops'[i]?).map (·.after)=(ops[i]?).map (·.after))(listed:Array Bool):Region.ready md ops' listed=Region.ready md ops listed:=by
 unfold Region.ready
 rw[hs]
 refine List.filter_congr fun i _=>?_
 have:=h i
 cases h1:ops'[i]? <;>cases h2:ops[i]? <;>simp[h1,h2]at this ⊢
 rw[this]
def bK8(ops:Array Oper):Bool:=(co4 ops.size).all fun j=>(ops[j]?).any fun o=>o.after.all fun e=>decide (e.on<j)
theorem bd6{ops:Array Oper}(hb:bK8 ops=true){listed:Array Bool}(hsz:listed.size=ops.size):∀k,k<ops.size->listed.getD k true=false->Region.ready md ops listed≠[]:=by
 intro k
 induction k using Nat.strongRecOn with
 | _ k ih =>
  intro hk hl hn
  by_cases hall:∃j,j<k/\listed.getD j true=false
  ·obtain⟨j,hj,hlj⟩:=hall
   exact ih j hj al hlj hn
  have hok:ops[k]? =some ops[k]:=Array.getElem?_eq_getElem hk
  have:k∈Region.ready md ops listed:=by
   refine mem_ready.2 ⟨hl,ops[k],hok,fun e he _=>?_⟩
   have h1:=cn8.1 hb k (cq6.2 hk)
   rw[hok]at h1
   simp only[Option.any_some]at h1
   have h2:=Array.all_eq_true'.1 h1 e he
   simp only[decide_eq_true_eq]at h2
   cases h3:listed.getD e.on true
   ·exact absurd ⟨e.on,h2,h3⟩ hall
   have:e.on<listed.size:=al
   simp[this]at h3 ⊢
   exact h3
  rw[hn]at this
  cases this
theorem bs3{ops ops':Array Oper}{i:Nat}{Q:Exit->Act->World->Prop}{K:Act->World->Prop}{a:Act}{w:World}(h:ops'[i]? =ops[i]?)(hy:yielded ops' a.tmps=yielded ops a.tmps)
  (hh:wpOp P ops' Q i K a w):wpOp P ops Q i K a w:=by
 unfold wpOp at*
 rw[h,hy]at hh
 exact hh
theorem Z8{listed:Array Bool}{i:Nat}(h:listed.getD i true=false):(listed.setIfInBounds i true).toList.count false+1=listed.toList.count false:=by
 rw[Array.toList_setIfInBounds]
 refine ao3 ?_
 rcases cp1 i listed.size with h'|h'
 ·simp[h']at h ⊢;exact h
 simp[Array.getElem?_eq_none h']at h
theorem a28{ops:Array Oper}{n:Nat}{o:Oper}(hn:ops.size=n+1)(ho:ops[n]? =some o)(hdst:o.dst=none)(hs:Region.sinkB md ops n=true)(hc:Region.chainB md ops n=true)(hb:bK8 ops=true)
  {Q:Act->Prop} {Q':Exit->Act->World->Prop} (hlast:∀a w,C w->Q a->wpOp P ops Q' n (Q' .normal) a w):
  ∀(fuel:Nat) (listed:Array Bool) (a:Act) (w:World),C w->HeadInv md ops n listed->listed.toList.count false=fuel->wpAnyQ P md (ops.setIfInBounds n (I4 o)) C Q fuel listed a->wpAny P md ops Q' fuel listed a w:=by
 have hsame:∀i:Nat,i≠n->(ops.setIfInBounds n (I4 o))[i]? =ops[i]? :=fun i hi=>Array.getElem?_setIfInBounds_ne (fun e=>hi e.symm)
 have hat:(ops.setIfInBounds n (I4 o))[n]? =some (I4 o):=by simp[hn]
 have hafter:∀i:Nat,((ops.setIfInBounds n (I4 o))[i]?).map (·.after)=(ops[i]?).map (·.after):=fun i=>by
  by_cases hi:i=n
  ·subst hi;rw[hat,ho];rfl
  rw[hsame i hi]
 have hready:∀listed,Region.ready md (ops.setIfInBounds n (I4 o)) listed=Region.ready md ops listed:=be7 ao hafter
 have hyield:∀tmps,yielded (ops.setIfInBounds n (I4 o)) tmps=yielded ops tmps:=fun tmps=>by
  funext j
  unfold yielded
  by_cases hj:j=n
  ·subst hj;rw[hat,ho];rfl
  rw[hsame j hj]
 intro fuel
 induction fuel with
 |zero=>
  intro listed a w _ inv hcnt _
  have:=Z8 (inv.tail n (cn4 _) al)
  omega
 | succ f ih =>
  intro listed a w hC inv hcnt h
  obtain⟨_,h2⟩:=h
  refine⟨fun h0=>absurd h0 (bd6 hb inv.size n al (inv.tail n (cn4 _) al)),fun i hi=>?_⟩
  have h3:=h2 i (by rw[hready];exact hi)
  have hun:=(mem_ready.1 hi).1
  have hcl:=Z8 hun
  rcases cp1 i n with hin|hin
  ·refine bs3 (hsame i al) (hyield _) (wpOp_of_qOp hC (fun a' w' hC' hK=>ih _ a' w' hC' (inv.set hi hin) al hK) h3)
  obtain⟨_,o',ho',_⟩:=mem_ready.1 hi
  have hisz:=(Array.getElem?_eq_some_iff.1 ho').1
  obtain rfl:i=n:=al
  have hall:∀j,j<i->listed.getD j true=true:=fun j hj=>by
   cases hl:listed.getD j true
   ·exact absurd hi (tail_waits hs hc al inv _ j rfl hj hl i (cn4 _))
   rfl
  have hnone:Region.ready md ops (listed.setIfInBounds i true)=[]:=by
   rw[List.eq_nil_iff_forall_not_mem]
   intro j hj
   obtain⟨hj1,oj,hoj,_⟩:=mem_ready.1 hj
   have hjs:=(Array.getElem?_eq_some_iff.1 hoj).1
   by_cases hji:j=i
   ·subst hji;simp[inv.size,hn]at hj1
   rw[getD_set_ne true (fun e=>hji e.symm),hall j al]at hj1;cases hj1
  have hQ:Q a:=by
   have hK:wpAnyQ P md (ops.setIfInBounds i (I4 o)) C Q f (listed.setIfInBounds i true) a:=by
    unfold qOp at h3
    rw[hat]at h3
    simp only at h3
    split at h3
    ·obtain⟨v,_,h4⟩:=h3
     rwa[show(I4 o).dst=none from hdst]at h4
    rwa[show(I4 o).dst=none from hdst]at h3
   cases f with
   |zero=>exact hK.2
   |succ f=>exact hK.1 (by rw[hready];exact hnone)
  refine wpOp_mono (fun a' w' hq=>?_) (hlast a w hC hQ)
  cases f with
  |zero=>exact⟨hnone,hq⟩
  |succ f=>exact⟨fun _=>hq,fun j hj=>by rw[hnone]at hj;cases hj⟩
def be9(l:List Oper)(n:Nat):Bool:=
 match l[n]? with
 |none=>false
 |some o=>decide (l.length=n+1)&&o.dst.isNone&&Region.sinkB .any l.toArray n&&Region.chainB .any l.toArray n&&bK8 l.toArray&&Region.lexB .any (l.set n (I4 o)).toArray
theorem aD1{id:Nat}{Q:Exit->Act->World->Prop}{a:Act}{w:World}{l:List Oper}(n:Nat)(o:Oper)(ho:l[n]? =some o)(hm:P.follows .mixedOrders=true)(hB:be9 l n=true)(hC:C {w with drawn:=w.drawn+1})
  (h:wpQuiet P (l.set n (I4 o)).toArray C (fun a'=>∀w',C w'->wpList P l.toArray Q [o] a' w') (l.set n (I4 o)) a):(Code.region id l.toArray true).wp P Q a w:=by
 unfold be9 at hB
 rw[ho]at hB
 simp only[cm9,decide_eq_true_eq,Option.isNone_iff_eq_none]at hB
 obtain⟨⟨⟨⟨⟨hn,hd⟩,hs⟩,hc⟩,hb⟩,hlex⟩:=hB
 simp only[Region.lexB,cm9]at hlex
 have hn':l.toArray.size=n+1:=by simpa using hn
 have ho':l.toArray[n]? =some o:=by simpa using ho
 have inv0:HeadInv .any l.toArray n (cq0 l.toArray.size false):=
  ⟨ao,fun j oj _ hl=>(by rw[getD_replicate_false]at hl;cases hl),fun t _ ht=>getD_in (by simpa using ht) (getD_replicate_false _ _)⟩
 have H:=wpAnyQ_lex (P:=P) (C:=C) (md:=.any) hlex.1 (l.set n (I4 o)) 0 (cq0 (l.set n (I4 o)).toArray.size false) a ao (by simpa using hlex.2) h
 refine wp_region_any hm (a28 hn' ho' hd hs hc hb (Q:=fun a'=>∀w',C w'->wpList P l.toArray Q [o] a' w') (fun a' w' hC' hq=>?_) _ _ _ _ hC inv0 ao ?_)
 ·have:=hq w' hC'
  unfold wpOp
  simp only[ho']
  exact this
 simpa using H
theorem k6{id:Nat}{Q:Exit->Act->World->Prop}{a:Act}{w:World}{l:List Oper}(n:Nat)(o:Oper)(ho:l[n]? =some o)(hm:P.follows .mixedOrders=true)(hB:be9 l n=true)
  (h:wpQuiet P (l.set n (I4 o)).toArray (fun w'=>∃X,w'=w.ext X) (fun a'=>∀w',(∃X,w'=w.ext X)->wpList P l.toArray Q [o] a' w') (l.set n (I4 o)) a):(Code.region id l.toArray true).wp P Q a w:=
 aD1 (C:=fun w'=>∃X,w'=w.ext X) n o ho hm hB (aA4 (w':=w.drew) (Below.refl _ _).drew) h
theorem r9{w:World}{b o:Nat}{v:Bool}(hb:b<w.heap.size)(h:w.frozen? ⟨b,o,none⟩=v)(X:World):(w.ext X).frozen? ⟨b,o,none⟩=v:=by
 rw[(y8 (i5 w X)).2 b o hb];exact h
end
abbrev ints(l:List Int):List Value:=l.map (Value.int .i64)
theorem al2(l:List Int)(k:Nat)(h:k<l.length):(ints l)[k]? =some (.int .i64 l[k]):=by simp[ints,h]
theorem bp6:(Tryz.prog.info? 3).map (fun i=>(i.zero,i.size,i.bytes))=some (some (.int .i64 0),1,8):=aj
def bg4(K n:Nat):List Int:=(co4 n).map fun(j:Nat)=>((K:Int)+(j:Int))
abbrev aA5(w:World)(v:Value)(l:List d7):Prop:=I6 w v l.length 5 (ints (ap2 l))
theorem I6.ins{w:World}{v:Value}{l:List d7}(h:aA5 w v l):∃a cap,v=.slice a l.length cap/\l.length<=cap/\l.length<=9223372036854775807/\cap<=9223372036854775807/\
  ∀i (hi:i<l.length),∃b off,a=some ⟨b,off,none⟩/\b<w.heap.size/\w.cell? ⟨b,off+i*5,none⟩=some (.int .i64 l[i].op)/\w.cell? ⟨b,off+i*5+1,none⟩=some (.int .i64 l[i].a)/\
   w.cell? ⟨b,off+i*5+2,none⟩=some (.int .i64 l[i].b)/\w.cell? ⟨b,off+i*5+3,none⟩=some (.int .i64 l[i].c)/\w.cell? ⟨b,off+i*5+4,none⟩=some (.int .i64 l[i].d):=by
 obtain⟨a,cap,h0,h1,h2,h3,h4⟩:=h.open
 refine⟨a,cap,h0,h1,h2,h3,fun i hi=>?_⟩
 obtain⟨b,off,e,hb,hc⟩:=h4 i hi
 obtain⟨g0,g1,g2,g3,g4⟩:=a73 l i hi
 have c0:=hc 0 al
 have c1:=hc 1 al
 have c2:=hc 2 al
 have c3:=hc 3 al
 have c4:=hc 4 al
 simp only[Nat.add_zero,List.getElem?_map,g0,g1,g2,g3,g4,Option.map_some]at c0 c1 c2 c3 c4
 exact⟨b,off,e,hb,c0,c1,c2,c3,c4⟩
abbrev d7.v(x:d7):Value:=.agg #[.int .i64 x.op,.int .i64 x.a,.int .i64 x.b,.int .i64 x.c,.int .i64 x.d]
def v6(w:World)(v:Value)(c:d9):Prop:=
 ∃v1 v2 v3,v=.agg #[v1,v2,v3]/\I6 w v1 c.vars.length 1 (ints c.vars)/\I6 w v2 c.arrays.length 1 (ints c.arrays)/\aA5 w v3 c.list
def T0(w:World)(lo hi:Nat)(v:Value)(c:d9):Prop:=
 ∃v1 v2 v3,v=.agg #[v1,v2,v3]/\C5 w lo hi 3 1 v1 c.vars.length (ints c.vars)/\C5 w lo hi 3 1 v2 c.arrays.length (ints c.arrays)/\C5 w lo hi 76 5 v3 c.list.length (ints (ap2 c.list))/\
  ad7 v1 v2/\ad7 v1 v3/\ad7 v2 v3
theorem v6.below{w w':World}{v:Value}{c:d9}(h:v6 w v c)(hb:Below w.heap.size w w'):v6 w' v c:=by
 obtain⟨v1,v2,v3,rfl,h1,h2,h3⟩:=h
 exact⟨v1,v2,v3,rfl,h1.below hb,h2.below hb,h3.below hb⟩
theorem T0.row{w:World}{lo hi:Nat}{v:Value}{c:d9}(h:T0 w lo hi v c):v6 w v c:=by
 obtain⟨v1,v2,v3,rfl,h1,h2,h3,_⟩:=h
 exact⟨v1,v2,v3,rfl,h1.row,h2.row,h3.row⟩
theorem T0.keep{w w':World}{lo hi B:Nat}{v:Value}{c:d9}(h:T0 w lo hi v c)(hb:Below B w w')(hB:hi<=B):T0 w' lo hi v c:=by
 obtain⟨v1,v2,v3,rfl,h1,h2,h3,hd⟩:=h
 exact⟨v1,v2,v3,rfl,h1.keep hb hB,h2.keep hb hB,h3.keep hb hB,hd⟩
theorem T0.out{w w':World}{lo hi lo' hi':Nat}{v:Value}{c:d9}(h:T0 w lo hi v c)(hb:Out lo' hi' w w')(hB:hi<=lo'\/hi'<=lo):T0 w' lo hi v c:=by
 obtain⟨v1,v2,v3,rfl,h1,h2,h3,hd⟩:=h
 exact⟨v1,v2,v3,rfl,h1.out hb hB,h2.out hb hB,h3.out hb hB,hd⟩
theorem T0.wide{w:World}{lo hi lo' hi':Nat}{v:Value}{c:d9}(h:T0 w lo hi v c)(h1:lo'<=lo)(h2:hi<=hi'):T0 w lo' hi' v c:=by
 obtain⟨v1,v2,v3,rfl,g1,g2,g3,hd⟩:=h
 exact⟨v1,v2,v3,rfl,g1.wide h1 h2,g2.wide h1 h2,g3.wide h1 h2,hd⟩
def aA6(w:World)(v:Value)(K nv na nl:Nat):Prop:=
 ∃v1 v2 v3,v=.agg #[v1,v2,v3]/\I6 w v1 nv 1 (ints (bg4 K nv))/\I6 w v2 na 1 (ints (bg4 (K+nv) na))/\I6 w v3 nl 5 (ints (bg4 (K+nv+na) (nl*5)))
theorem aA6.below{w w':World}{v:Value}{K nv na nl:Nat}(h:aA6 w v K nv na nl)(hb:Below w.heap.size w w'):aA6 w' v K nv na nl:=by
 obtain⟨v1,v2,v3,rfl,h1,h2,h3⟩:=h
 exact⟨v1,v2,v3,rfl,h1.below hb,h2.below hb,h3.below hb⟩
theorem a50{P:Program}{w:World}{lo:Nat}{t ty e:TypeId}{i:TypeInfo}{size:Nat}(ht:P.underlying t=some (.slice e))(hi:P.info? e=some i)
  {v:Value} {n:Nat} {xs:List Value} (hown:w.ownsRow lo e size v n xs) (c:Nat):(Builtin.append_ #[t,t] ty #[v,.slice none 0 c]).run P w=.ok v w:=by
 obtain⟨_,h⟩:=hown
 rcases h with⟨rfl,rfl⟩|⟨g,cap,cur,rfl,_,_,hnc,_⟩
 ·simp[Builtin.append_,run_underlying ht,sizeOf,typeInfo,hi,Builtin.lenOf,Builtin.firstCells]
 simp[Builtin.append_,run_underlying ht,sizeOf,typeInfo,hi,Builtin.lenOf,Builtin.firstCells,hnc,storeCells]
theorem aT1{w:World}{lo:Nat}{e:TypeId}{sz:Nat}{v:Value}{n:Nat}{xs:List Value}(h:w.ownsRow lo e sz v n xs):∃a k,v=.slice a n k:=by
 rcases h.2 with⟨rfl,rfl⟩|⟨g,cap,cur,rfl,_⟩
 ·exact⟨_,_,rfl⟩
 exact⟨_,_,rfl⟩
theorem au7{P:Program}{w:World}{lo:Nat}{t ty e:TypeId}{z:Value}{size bytes:Nat}(ht:P.underlying t=some (.slice e))(hi:(P.info? e).map (fun i=>(i.zero,i.size,i.bytes))=some (some z,size,bytes))
  (hzs:z.cells.size=size) (hsz:0<size) {v:Value} {n:Nat} {xs:List Value} (hown:w.ownsRow lo e size v n xs) {u:Value} {m:Nat} {news:List Value} (hr:I6 w u m size news) (h1:∀u∈news,u.oneCell'=true)
  (h63:n+m<=9223372036854775807) (hbytes:(n+m)*bytes<=140737488355328) (hbase:lo<=w.heap.size):
  ∃a' k' w',(Builtin.append_ #[t,t] ty #[v,u]).run P w=.ok (.slice a' (n+m) k') w'/\w'.ownsRow lo e size (.slice a' (n+m) k') (n+m) (xs++news)/\Below lo w w'/\w.grownBy w' v.ownBlock/\(∀g,(Value.slice a' (n+m) k').ownBlock=some g->v.ownBlock=some g\/w.heap.size<=g):=by
 obtain⟨i,g1,g2,g3,g4⟩:=info_parts hi
 obtain⟨hl,A,c,rfl,hmc,hc,hA⟩:=hr
 have below_of:∀{w':World},w.grownBy w' v.ownBlock->Below lo w w':=fun{w'} hg=>by
  refine⟨hg.os,hg.tape,hg.output,hg.size,fun k hk=>hg.block k al fun he=>?_⟩
  have:=hown.lt k he.symm
  omega
 rcases A with _|a
 ·have hm:m=0:=by
   rcases Nat.eq_zero_or_pos m with h0|h0
   ·exact h0
   obtain⟨_,_,he,_⟩:=hA h0;cases he
  subst hm
  have hn:news=[]:=co7 (by simpa using hl)
  subst hn
  obtain⟨a',k',rfl⟩:=aT1 hown
  exact⟨a',k',w,a50 ht g1 hown c,by simpa using hown,Below.refl _ _,⟨rfl,rfl,rfl,cn4 _,fun _ _ _=>rfl⟩,fun g hg=>.inl hg⟩
 have hcells:∀j u,news[j]? =some u->w.cell? (a.add j)=some u:=by
  intro j u hu
  have h0:0<m:=by
   rcases Nat.eq_zero_or_pos m with h0|h0
   ·subst h0
    have hn:news=[]:=co7 (by simpa using hl)
    subst hn;simp at hu
   exact h0
  obtain⟨b,off,he,hb,hx⟩:=hA h0
  cases he
  have hadd:(⟨b,off,none⟩:Addr).add j=⟨b,off+j,none⟩:=by unfold Addr.add;split<;>simp_all
  rw[hadd]
  exact hx j u hu
 obtain⟨v',w',hrun,h2,h3,_,h5⟩:=run_append_own_at (P:=P) w lo t ty e i z size bytes ht g1 g2 g3 g4 hzs hsz v n xs hown a m c news hl hcells h1 (by unfold maxLen;omega) hbytes hbase
 obtain⟨a',k',rfl⟩:=aT1 h2
 exact⟨a',k',w',hrun,h2,below_of h3,h3,fun g hg=>h5.elim (fun h=>.inl (h▸hg)) fun h=>.inr (by rw[h]at hg;cases hg;exact cn4 _)⟩
theorem J8{P:Program}{w:World}{ops:Array Oper}{rest:List Oper}{o:Oper}{a:Act}{Q:Exit->Act->World->Prop}{lo:Nat}{t e:TypeId}{z:Value}{size bytes:Nat}{v:Value}{n:Nat}{xs:List Value}{u:Value}{m:Nat}{news:List Value}
  (hgd:o.guard=none) (s x:Operand) (ho:o.op=.call {callee:=.builtin .append,args:= #[s,x],argTypes:= #[t,t]})
  (ht:P.underlying t=some (.slice e)) (hi:(P.info? e).map (fun i=>(i.zero,i.size,i.bytes))=some (some z,size,bytes))
  (hzs:z.cells.size=size) (hsz:0<size) (hs:a.eval s=v) (hown:w.ownsRow lo e size v n xs) (hx:a.eval x=u) (hr:I6 w u m size news) (h1:∀u∈news,u.oneCell'=true)
  (h63:n+m<=9223372036854775807) (hbytes:(n+m)*bytes<=140737488355328) (hbase:lo<=w.heap.size)
  (h:∀a' k' w',w'.ownsRow lo e size (.slice a' (n+m) k') (n+m) (xs++news)->Below lo w w'->w.grownBy w' v.ownBlock->(∀g,(Value.slice a' (n+m) k').ownBlock=some g->v.ownBlock=some g\/w.heap.size<=g)->wpList P ops Q rest (a.put o.dst (.slice a' (n+m) k')) w'):wpList P ops Q (o::rest) a w:=by
 refine wpList_plain hgd fun K hK=>?_
 obtain⟨a',k',w',hrun,h2,h3,h4,h5⟩:=au7 (ty:=o.type) ht hi hzs hsz hown hr h1 h63 hbytes hbase
 unfold Oper.wp execOp
 simp only[ho,resolve,invoke,builtin,Sem.run_bind,Sem.run_pure,Result.andThen_ok,List.map_toArray,cq5,List.map_nil,hs,hx,hrun]
 exact hK _ _ (h a' k' w' h2 h3 h4 h5)
theorem C5.grown{w w':World}{lo hi:Nat}{e:TypeId}{sz:Nat}{v:Value}{n:Nat}{xs:List Value}{row:Option Nat}(h:C5 w lo hi e sz v n xs)(hg:w.grownBy w' row)(hne:∀g,v.ownBlock=some g->row≠some g):C5 w' lo hi e sz v n xs:=
 h.same fun g hv=>hg.block g (h.lt g hv).2.2 fun he=>hne g hv he.symm
theorem bO2(w:World)(u:Value)(T:TypeId):I6 (w.alloc (.cells #[u] T)) (.slice (some ⟨w.heap.size,0,none⟩) 1 1) 1 1 [u]:=by
 refine⟨rfl,_,_,rfl,cn4 _,by unfold maxLen;omega,fun _=>⟨_,_,rfl,ao,fun j x hj=>?_⟩⟩
 match j,hj with
 |0,hj=>
  simp at hj
  subst hj
  simp
theorem ak3(w:World)(u:Value)(T:TypeId){g:Nat}(hg:g=w.heap.size):I6 (w.alloc (.cells #[u] T)) (.slice (some ⟨g,0,none⟩) 1 1) 1 1 [u]:=by
 subst hg;exact bO2 w u T
section
variable{P:Program}
theorem bs2{x:Oper}{a:Act}{w:World}{K:Act->World->Prop}{Q Q0:Exit->Act->World->Prop}(h0:∀e a w,Q0 e a w->e=.normal)(h:x.wp P a w K Q0):x.wp P a w K Q:=by
 unfold Oper.wp at*
 generalize (execOp a.eval x).run P w=r at*
 cases r with
 | ok n w' =>
  cases n<;>simp only[Oper.upon]at h ⊢ <;>
   first
    |exact h
    | exact Calls.mono h (fun e w'' he => by
      cases e
      ·exact he
      ·exact absurd (h0 _ _ _ he) ao
      obtain⟨a,w,hq⟩:=he;exact absurd (h0 _ _ _ hq) ao)
 |halt y w'=>
  cases y<;>simp only[Oper.upon]at h ⊢ <;>first|exact h|exact absurd (h0 _ _ _ h) ao
end
section
variable{P:Program}
structure cm6(mk:(Nat->Value)->Act)(C:World->Prop)(R:Nat->Value->World->Prop)(n:Nat)(listed:Array Bool)(f:Nat->Value)(a:Act)(w:World):Prop where
 act:a=mk f
 cls:C w
 val:∀i,i<n->listed.getD i false=true->R i (f i) w
end
def Agr(φ φ':Nat->Prop)(w w':World):Prop:=w.heap.size<=w'.heap.size/\∀b,b<w.heap.size->φ b->φ' b/\w'.heap[b]? =w.heap[b]?
def ah3(R:World->(Nat->Prop)->Prop):Prop:=∀w w' φ φ',Agr φ φ' w w'->R w φ->R w' φ'
theorem Agr.below{φ:Nat->Prop}{w w':World}(h:Below w.heap.size w w'):Agr φ φ w w':=⟨h.size,fun b hb hf=>⟨hf,h.block b hb⟩⟩
theorem Agr.mono{φ φ':Nat->Prop}{w:World}(h:∀b,b<w.heap.size->φ b->φ' b):Agr φ φ' w w:=⟨cn4 _,fun b hb hf=>⟨h b hb hf,rfl⟩⟩
theorem Agr.cell{φ φ':Nat->Prop}{w w':World}(h:Agr φ φ' w w'){b o:Nat}(hb:b<w.heap.size)(hf:φ b):w'.cell? ⟨b,o,none⟩=w.cell? ⟨b,o,none⟩:=by
 simp only[World.cell?,(h.2 b hb hf).2]
def A4(w:World)(φ:Nat->Prop)(v:Value)(n sz:Nat)(xs:List Value):Prop:=
 xs.length=n*sz/\∃a cap,v=.slice a n cap/\n<=cap/\cap<=maxLen/\
  (0<n->∃b off,a=some ⟨b,off,none⟩/\b<w.heap.size/\φ b/\∀j u,xs[j]? =some u->w.cell? ⟨b,off+j,none⟩=some u)
theorem A4.nice(v:Value)(n sz:Nat)(xs:List Value):ah3 fun w φ=>A4 w φ v n sz xs:=by
 rintro w w' φ φ' ha ⟨hl,a,cap,rfl,h1,h2,h3⟩
 refine⟨hl,a,cap,rfl,h1,h2,fun hn=>?_⟩
 obtain⟨b,off,rfl,hb,hf,hc⟩:=h3 hn
 exact⟨b,off,rfl,cq4 hb ha.1,(ha.2 b hb hf).1,fun j u hj=>(ha.cell hb hf).trans (hc j u hj)⟩
theorem A4.row{w:World}{φ:Nat->Prop}{v:Value}{n sz:Nat}{xs:List Value}(h:A4 w φ v n sz xs):I6 w v n sz xs:=by
 obtain⟨hl,a,cap,rfl,h1,h2,h3⟩:=h
 refine⟨hl,a,cap,rfl,h1,h2,fun hn=>?_⟩
 obtain⟨b,off,rfl,hb,_,hc⟩:=h3 hn
 exact⟨b,off,rfl,hb,hc⟩
theorem I6.rowF{w:World}{v:Value}{n sz:Nat}{xs:List Value}(h:I6 w v n sz xs){φ:Nat->Prop}(hf:∀b,b<w.heap.size->φ b):A4 w φ v n sz xs:=by
 obtain⟨hl,a,cap,rfl,h1,h2,h3⟩:=h
 refine⟨hl,a,cap,rfl,h1,h2,fun hn=>?_⟩
 obtain⟨b,off,rfl,hb,hc⟩:=h3 hn
 exact⟨b,off,rfl,hb,hf b hb,hc⟩
theorem A4.nil(w:World)(φ:Nat->Prop)(sz:Nat):A4 w φ (.slice none 0 0) 0 sz []:=⟨ao,none,0,rfl,cn4 _,by unfold maxLen;omega,fun h=>absurd h al⟩
theorem A9{w:World}{lo:Nat}{e:TypeId}{sz:Nat}{v:Value}{n:Nat}{xs:List Value}(h:w.ownsRow lo e sz v n xs){φ:Nat->Prop}(hf:∀g,v.ownBlock=some g->φ g):A4 w φ v n sz xs:=by
 obtain⟨hl,a,cap,hv,h1,h2,h3⟩:=R4 h
 refine⟨hl,a,cap,hv,h1,h2,fun hn=>?_⟩
 obtain⟨b,off,he,hb,hc⟩:=h3 hn
 refine⟨b,off,he,hb,?_,hc⟩
 rcases h.2 with⟨hv',h0⟩|⟨g,cap',cur,hv',_⟩
 ·omega
 rw[hv']at hv
 cases hv
 cases he
 exact hf _ (by rw[hv'];rfl)
inductive Res where
 |box (b:Nat) (cs:List Value)
 |row (e:TypeId) (sz:Nat) (v:Value) (n:Nat) (xs:List Value)
 |dat (R:World->(Nat->Prop)->Prop)
 |own (S:Nat->Prop) (R:World->Prop)
def Res.blk:Res->Nat->Prop
 |.box b _=>fun g=>g=b
 |.row _ _ v _ _=>fun g=>v.ownBlock=some g
 |.dat _=>fun _=>False
 |.own S _=>S
def Fr(φ:Nat->Prop)(L:List Res)(b:Nat):Prop:=φ b/\∀r∈L,¬r.blk b
def Res.holds(w:World)(φ:Nat->Prop):Res->Prop
 |.box b cs=>D3 w b cs
 |.row e sz v n xs=>w.ownsRow 0 e sz v n xs
 |.dat R=>ah3 R/\R w φ
 |.own S R=>(∀w w',R w->(∀b,S b->b<w.heap.size->w'.heap[b]? =w.heap[b]?)->R w')/\R w/\∀b,S b->b<w.heap.size
structure C6(ψ:Nat->Prop)(w w':World):Prop where
 os:w'.os=w.os
 tape:w'.tape=w.tape
 output:w'.output=w.output
 size:w.heap.size<=w'.heap.size
 block:∀b,b<w.heap.size->ψ b->w'.heap[b]? =w.heap[b]?
theorem C6.refl(ψ:Nat->Prop)(w:World):C6 ψ w w:=⟨rfl,rfl,rfl,cn4 _,fun _ _ _=>rfl⟩
theorem C6.trans{ψ:Nat->Prop}{a b c:World}(h:C6 ψ a b)(k:C6 ψ b c):C6 ψ a c:=
 ⟨k.os.trans h.os,k.tape.trans h.tape,k.output.trans h.output,cp4 h.size k.size,fun i hi hp=>(k.block i (cq4 hi h.size) hp).trans (h.block i hi hp)⟩
theorem C6.of_below{ψ:Nat->Prop}{w w':World}{B:Nat}(h:Below B w w')(hB:∀b,b<w.heap.size->ψ b->b<B):C6 ψ w w':=⟨h.os,h.tape,h.output,h.size,fun b hb hp=>h.block b (hB b hb hp)⟩
theorem C6.below{w w':World}{ψ:Nat->Prop}(h:C6 ψ w w')(hp:∀b,b<w.heap.size->ψ b):Below w.heap.size w w':=⟨h.os,h.tape,h.output,h.size,fun b hb=>h.block b hb (hp b hb)⟩
structure O4(φ ψ:Nat->Prop)(w0 w:World)(L:List Res):Prop where
 kept:C6 ψ w0 w
 fresh:∀b,w0.heap.size<=b->φ b
 holds:∀(r:Res),r∈L->r.holds w (Fr φ L)
 dis:∀(i j:Nat) (a b:Res) (g:Nat),L[i]? =some a->L[j]? =some b->i≠j->a.blk g->¬b.blk g
 ge:∀(r:Res) (b:Nat),r∈L->r.blk b->w0.heap.size<=b\/¬ψ b
section
variable{φ ψ:Nat->Prop}{w0 w w':World}{L:List Res}
theorem O4.start(hf:∀b,w0.heap.size<=b->φ b):O4 φ ψ w0 w0 []:=⟨C6.refl _ _,hf,(fun _ h=>by cases h),(fun i j a b g h=>by simp at h),(fun _ _ h=>by cases h)⟩
theorem Res.lt{r:Res}(h:r.holds w φ){b:Nat}(hb:r.blk b):b<w.heap.size:=by
 cases r with
 |box b' cs=>cases hb;exact D3.lt h
 |row e sz v n xs=>exact(World.ownsRow.lt h b hb).2
 |dat R=>cases hb
 |own S R=>exact h.2.2 b hb
theorem O4.lt(M:O4 φ ψ w0 w L){r:Res}(hr:r∈L){b:Nat}(hb:r.blk b):b<w.heap.size:=Res.lt (M.holds r hr) hb
theorem O4.size(M:O4 φ ψ w0 w L):w0.heap.size<=w.heap.size:=M.kept.size
theorem O4.below(M:O4 φ ψ w0 w L)(hp:∀b,b<w0.heap.size->ψ b):Below w0.heap.size w0 w:=M.kept.below hp
theorem Res.keep{φ':Nat->Prop}{r:Res}(h:r.holds w φ)(ha:Agr φ φ' w w')(hb:∀b,r.blk b->w'.heap[b]? =w.heap[b]?):r.holds w' φ':=by
 cases r with
 |box b cs=>obtain⟨T,h⟩:=h;exact⟨T,(hb b rfl).trans h⟩
 |row e sz v n xs=>exact(C5.same (lo:=0) (hi:=w.heap.size) ⟨h,fun g hg=>(World.ownsRow.lt h g hg).2⟩ hb).1
 |dat R=>exact⟨h.1,h.1 _ _ _ _ ha h.2⟩
 |own S R=>exact⟨h.1,h.1 _ _ h.2.1 fun b hs _=>hb b hs,fun b hs=>cq4 (h.2.2 b hs) ha.1⟩
theorem O4.call(M:O4 φ ψ w0 w L)(b:Below w.heap.size w w'):O4 φ ψ w0 w' L:=
 ⟨M.kept.trans (C6.of_below b fun _ h _=>h),M.fresh,fun r hr=>Res.keep (M.holds r hr) (Agr.below b) fun g hg=>b.block g (M.lt hr hg),M.dis,M.ge⟩
theorem O4.drew(M:O4 φ ψ w0 w L):O4 φ ψ w0 w.drew L:=M.call (Below.refl _ _).drew
theorem Fr.snoc{r:Res}{b:Nat}:Fr φ (L++[r]) b↔Fr φ L b/\¬r.blk b:=by
 unfold Fr
 constructor
 ·rintro⟨h1,h2⟩;exact⟨⟨h1,fun x hx=>h2 x (by simp[hx])⟩,h2 r ao⟩
 rintro⟨⟨h1,h2⟩,h3⟩
 refine⟨h1,fun x hx=>?_⟩
 simp only[cp2,cq2]at hx
 rcases hx with hx|rfl
 ·exact h2 x hx
 exact h3
theorem O4.add(M:O4 φ ψ w0 w L)(b:Below w.heap.size w w')(r:Res)(h:r.holds w' (Fr φ (L++[r])))(hg:∀g,r.blk g->w.heap.size<=g):O4 φ ψ w0 w' (L++[r]):=by
 have M':=M.call b
 refine⟨M'.kept,M.fresh,fun x hx=>?_,fun i j x y g hi hj hij hx hy=>?_,fun x g hx hxg=>?_⟩
 ·simp only[cp2,cq2]at hx
  rcases hx with hx|rfl
  ·exact Res.keep (M.holds x hx) ⟨b.size,fun c hc hf=>⟨Fr.snoc.2 ⟨hf,fun he=>by have:=hg c he;omega⟩,b.block c hc⟩⟩ fun g hgx=>b.block g (M.lt hx hgx)
  exact h
 ·have lt:∀(k:Nat) (z:Res),(L++[r])[k]? =some z->(k<L.length/\L[k]? =some z)\/(k=L.length/\z=r):=by
   intro k z hz
   rcases cp1 k L.length with hk|hk
   ·rw[co2 hk]at hz;exact .inl ⟨hk,hz⟩
   rw[cp9 hk]at hz
   have:k-L.length=0:=by
    rcases Nat.eq_zero_or_pos (k-L.length)with h|h
    ·exact h
    rw[cp0 (by rw[List.length_singleton];exact h)]at hz;cases hz
   rw[this]at hz;simp at hz
   exact .inr ⟨al,hz.symm⟩
  rcases lt i x hi with⟨hi',h1⟩|⟨hi',rfl⟩<;>rcases lt j y hj with⟨hj',h2⟩|⟨hj',rfl⟩
  ·exact M.dis i j x y g h1 h2 hij hx hy
  ·have:=M.lt (cp6 h1) hx;have:=hg g hy;omega
  ·have:=M.lt (cp6 h2) hy;have:=hg g hx;omega
  omega
 simp only[cp2,cq2]at hx
 rcases hx with hx|rfl
 ·exact M.ge x g hx hxg
 exact .inl (cp4 M.size (hg g hxg))
theorem O4.box(M:O4 φ ψ w0 w L)(cs:List Value)(T:TypeId):O4 φ ψ w0 (w.alloc (.cells cs.toArray T)) (L++[.box w.heap.size cs]):=
 M.add ((Below.refl _ _).alloc (cn4 _) _) _ (D3.new w cs T) fun g hg=>by cases hg;exact cn4 _
theorem O4.dat(M:O4 φ ψ w0 w L){R:World->(Nat->Prop)->Prop}(hn:ah3 R)(h:R w (Fr φ L)):O4 φ ψ w0 w (L++[.dat R]):=
 M.add (Below.refl _ _) _ ⟨hn,hn _ _ _ _ (Agr.mono fun b _ hf=>Fr.snoc.2 ⟨hf,fun h=>by cases h⟩) h⟩ fun g hg=>by cases hg
theorem O4.nil(M:O4 φ ψ w0 w L)(e:TypeId)(sz:Nat):O4 φ ψ w0 w (L++[.row e sz (.slice none 0 0) 0 []]):=
 M.add (Below.refl _ _) _ (World.ownsRow_nil _ _ _ _) fun g hg=>by cases hg
theorem Fr.set{r:Res}{i:Nat}{a:Res}(_hi:L[i]? =some a){b:Nat}(h:Fr φ L b)(hr:¬r.blk b):Fr φ (L.set i r) b:=
 ⟨h.1,fun x hx=>by
  rcases List.mem_or_eq_of_mem_set hx with hx|rfl
  ·exact h.2 x hx
  exact hr⟩
theorem O4.put(M:O4 φ ψ w0 w L){i:Nat}{a:Res}(hi:L[i]? =some a)(r:Res)(hk:C6 (fun b=>¬a.blk b) w w')(h:r.holds w' (Fr φ (L.set i r)))(hg:∀g,r.blk g->a.blk g\/w.heap.size<=g):O4 φ ψ w0 w' (L.set i r):=by
 have hil:=(co0.1 hi).1
 have ha:=cp6 hi
 have get:∀(j:Nat) (z:Res),(L.set i r)[j]? =some z->(j≠i/\L[j]? =some z)\/(j=i/\z=r):=by
  intro j z hz
  by_cases e:j=i
  ·subst e;rw[List.getElem?_set_self hil]at hz;exact .inr ⟨rfl,(Option.some.inj hz).symm⟩
  rw[List.getElem?_set_ne (fun h=>e h.symm)]at hz;exact .inl ⟨e,hz⟩
 refine⟨⟨hk.os.trans M.kept.os,hk.tape.trans M.kept.tape,hk.output.trans M.kept.output,cp4 M.size hk.size,fun b hb hp=>(hk.block b (cq4 hb M.size) fun he=>?_).trans (M.kept.block b hb hp)⟩,M.fresh,fun x hx=>?_,fun j k x y g hj hk' hjk hx hy=>?_,fun x g hx hxg=>?_⟩
 ·rcases M.ge a b ha he with h'|h'
  ·omega
  exact h' hp
 ·obtain⟨j,hj⟩:=List.mem_iff_getElem?.1 hx
  rcases get j x hj with⟨hne,hj'⟩|⟨_,rfl⟩
  ·refine Res.keep (M.holds x (cp6 hj')) ⟨hk.size,fun b hb hf=>⟨Fr.set hi hf fun he=>?_,hk.block b hb (hf.2 a ha)⟩⟩ fun g hgx=>hk.block g (M.lt (cp6 hj') hgx) fun he=>M.dis i j a x g hi hj' (fun e=>hne e.symm) he hgx
   rcases hg b he with h'|h'
   ·exact hf.2 a ha h'
   omega
  exact h
 ·rcases get j x hj with⟨hne,hj'⟩|⟨e1,rfl⟩<;>rcases get k y hk' with⟨hne',hk''⟩|⟨e2,rfl⟩
  ·exact M.dis j k x y g hj' hk'' hjk hx hy
  ·rcases hg g hy with h'|h'
   ·exact M.dis j i x a g hj' hi hne hx h'
   have:=M.lt (cp6 hj') hx;omega
  ·rcases hg g hx with h'|h'
   ·exact M.dis i k a y g hi hk'' (fun e=>hne' e.symm) h' hy
   have:=M.lt (cp6 hk'') hy;omega
  omega
 obtain⟨j,hj⟩:=List.mem_iff_getElem?.1 hx
 rcases get j x hj with⟨hne,hj'⟩|⟨_,rfl⟩
 ·exact M.ge x g (cp6 hj') hxg
 rcases hg g hxg with h'|h'
 ·exact M.ge a g ha h'
 exact .inl (cp4 M.size h')
theorem C6.mono{ψ ψ':Nat->Prop}{w w':World}(h:C6 ψ w w')(hp:∀b,ψ' b->ψ b):C6 ψ' w w':=⟨h.os,h.tape,h.output,h.size,fun b hb hp'=>h.block b hb (hp b hp')⟩
theorem C6.setCell(w:World)(b j:Nat)(u:Value):C6 (fun c=>¬c=b) w (w.setCell ⟨b,j,none⟩ u):=
 ⟨rfl,rfl,rfl,by simp[World.setCell],fun c _ hc=>Below.heap_setCell _ _ _ _ hc⟩
theorem O4.set(M:O4 φ ψ w0 w L)(i:Nat){b:Nat}{cs:List Value}(hi:L[i]? =some (.box b cs))(j:Nat)(u:Value):O4 φ ψ w0 (w.setCell ⟨b,j,none⟩ u) (L.set i (.box b (cs.set j u))):=
 M.put hi _ (C6.setCell w b j u) (D3.set (M.holds _ (cp6 hi)) u) fun _ hg=>.inl hg
theorem O4.setFrom(us:List Value):∀{w:World} {L:List Res} {p:Nat} {cs:List Value},O4 φ ψ w0 w L->∀(i:Nat) {b:Nat},L[i]? =some (.box b cs)->O4 φ ψ w0 (World.setFrom w b p us) (L.set i (.box b (Go.Proofs.YtfbeblgnjeokaaaGreat.setFrom cs p us))):=by
 induction us with
 | nil =>
  intro w L p cs M i b hi
  have:L.set i (.box b cs)=L:=by
   apply List.ext_getElem?
   intro j
   rw[cr5]
   split
   ·rename_i e;subst e;rw[if_pos (co0.1 hi).1,hi]
   rfl
  show O4 φ ψ w0 w (L.set i (.box b cs))
  rw[this];exact M
 |cons u r ih=>
  intro w L p cs M i b hi
  have h1:=M.set i hi p u
  have h2:=ih (p:=p+1) h1 i (by rw[List.getElem?_set_self (co0.1 hi).1])
  rw[List.set_set]at h2
  exact h2
theorem a47{cs us:List Value}(h:us.length=cs.length):Go.Proofs.YtfbeblgnjeokaaaGreat.setFrom cs 0 us=us:=by
 have h1:=au5 us cs 0 al
 rw[cr4,co3 (by rw[J1];omega)]at h1
 simpa using h1
theorem O4.fill(M:O4 φ ψ w0 w L)(i:Nat){b:Nat}{cs:List Value}(hi:L[i]? =some (.box b cs))(us:List Value)(h:us.length=cs.length):O4 φ ψ w0 (World.setFrom w b 0 us) (L.set i (.box b us)):=by
 have h1:=M.setFrom us (p:=0) i hi
 rwa[a47 h]at h1
theorem O4.app(M:O4 φ ψ w0 w L)(i:Nat){e:TypeId}{sz:Nat}{v v':Value}{n n':Nat}{xs xs':List Value}(hi:L[i]? =some (.row e sz v n xs))(h:w'.ownsRow 0 e sz v' n' xs')(hg:w.grownBy w' v.ownBlock)(hb:∀g,v'.ownBlock=some g->v.ownBlock=some g\/w.heap.size<=g):
  O4 φ ψ w0 w' (L.set i (.row e sz v' n' xs')):=
 M.put hi _ ⟨hg.os,hg.tape,hg.output,hg.size,fun b hb hn=>hg.block b hb fun h=>hn h.symm⟩ h hb
theorem O4.turn(M:O4 φ ψ w0 w L)(i:Nat){S:Nat->Prop}{R R':World->Prop}(hi:L[i]? =some (.own S R))(hk:C6 (fun b=>¬S b) w w')(hR:∀w w',R' w->(∀b,S b->b<w.heap.size->w'.heap[b]? =w.heap[b]?)->R' w')(h:R' w'):O4 φ ψ w0 w' (L.set i (.own S R')):=
 M.put hi _ hk ⟨hR,h,fun b hb=>cq4 ((M.holds _ (cp6 hi)).2.2 b hb) hk.size⟩ fun _ hg=>.inl hg
theorem O4.take(M:O4 φ ψ w0 w L)(k:Nat):O4 φ ψ w0 w (L.take k):=
 ⟨M.kept,M.fresh,fun r hr=>Res.keep (M.holds r (List.mem_of_mem_take hr)) (Agr.mono fun _ _ hf=>⟨hf.1,fun x hx=>hf.2 x (List.mem_of_mem_take hx)⟩) fun _ _=>rfl,
  fun i j a b g hi hj hij=>M.dis i j a b g (by rw[List.getElem?_take]at hi;split at hi;exact hi;cases hi) (by rw[List.getElem?_take]at hj;split at hj;exact hj;cases hj) hij,fun r b hr=>M.ge r b (List.mem_of_mem_take hr)⟩
theorem O4.sel(M:O4 φ ψ w0 w L)(is:List Nat)(L':List Res)(h:L'.map some=is.map fun i=>L[i]?)(hn:is.Nodup):O4 φ ψ w0 w L':=by
 have hl:L'.length=is.length:=by simpa using congrArg List.length h
 have get:∀(j:Nat) (r:Res),L'[j]? =some r->∃i,is[j]? =some i/\L[i]? =some r:=by
  intro j r hj
  have h1:(L'.map some)[j]? =some (some r):=by simp[hj]
  rw[h,List.getElem?_map]at h1
  cases hi:is[j]? with
  |none=>rw[hi]at h1;cases h1
  |some i=>rw[hi]at h1;exact⟨i,rfl,Option.some.inj h1⟩
 have mem:∀r,r∈L'->r∈L:=fun r hr=>by
  obtain⟨j,hj⟩:=List.mem_iff_getElem?.1 hr
  obtain⟨i,_,hi⟩:=get j r hj
  exact cp6 hi
 refine⟨M.kept,M.fresh,fun r hr=>Res.keep (M.holds r (mem r hr)) (Agr.mono fun _ _ hf=>⟨hf.1,fun x hx=>hf.2 x (mem x hx)⟩) fun _ _=>rfl,fun j k a b g hj hk hjk ha hb=>?_,fun r b hr=>M.ge r b (mem r hr)⟩
 obtain⟨i1,e1,h1⟩:=get j a hj
 obtain⟨i2,e2,h2⟩:=get k b hk
 refine M.dis i1 i2 a b g h1 h2 (fun e=>hjk ?_) ha hb
 subst e
 have hlt:=(co0.1 e1).1
 exact(List.getElem?_inj hlt hn).1 (e1.trans e2.symm)
theorem O4.c(M:O4 φ ψ w0 w L)(i j:Nat){b:Nat}{cs:List Value}{u:Value}(hi:L[i]? =some (.box b cs))(hj:cs[j]? =some u):w.cell? ⟨b,j,none⟩=some u:=
 (D3.cell (M.holds _ (cp6 hi)) j).trans hj
theorem O4.f(M:O4 φ ψ w0 w L)(i:Nat){b:Nat}{cs:List Value}(hi:L[i]? =some (.box b cs)):∀j,w.frozen? ⟨b,j,none⟩=false:=D3.free (M.holds _ (cp6 hi))
theorem O4.blk(M:O4 φ ψ w0 w L)(i:Nat){b:Nat}{cs:List Value}(hi:L[i]? =some (.box b cs)):D3 w b cs:=M.holds _ (cp6 hi)
theorem O4.d(M:O4 φ ψ w0 w L)(i:Nat){R:World->(Nat->Prop)->Prop}(hi:L[i]? =some (.dat R)):R w (Fr φ L):=(M.holds _ (cp6 hi)).2
theorem O4.dn(M:O4 φ ψ w0 w L)(i:Nat){R:World->(Nat->Prop)->Prop}(hi:L[i]? =some (.dat R)):ah3 R:=(M.holds _ (cp6 hi)).1
theorem O4.out(M:O4 φ ψ w0 w L)(i:Nat){R:World->(Nat->Prop)->Prop}(hi:L[i]? =some (.dat R)):R w φ:=M.dn i hi _ _ _ _ (Agr.mono fun _ _ hf=>hf.1) (M.d i hi)
theorem O4.as(M:O4 φ ψ w0 w L)(L':List Res)(h:L=L'):O4 φ ψ w0 w L':=h▸M
end
def cl8(_:World):Prop:=True
def cl7(_:World):Prop:=True
def cl6(w:World):Prop:=cl8 w/\cl7 w
def bT3(ψ:Nat->Prop)(w0:World):Prop:=∀w',C6 ψ w0 w'->cl6 w'
end Go.Proofs.YtfbeblgnjeokaaaGreat

namespace Go.Proofs.YtfbeblgnjeokaaaGreat
inductive c6 where
 |mk (kind value:Int) (kids:List c6)
def c6.kind:c6->Int|⟨k,_,_⟩=>k
def c6.value:c6->Int|⟨_,n,_⟩=>n
def c6.kids:c6->List c6|⟨_,_,ks⟩=>ks
inductive c5 where
 |mk (kind target:Int) (index value:c6) (count:Int) (body els:List c5)
def c5.kind:c5->Int|⟨k,_,_,_,_,_,_⟩=>k
def c5.target:c5->Int|⟨_,t,_,_,_,_,_⟩=>t
def c5.index:c5->c6|⟨_,_,i,_,_,_,_⟩=>i
def c5.value:c5->c6|⟨_,_,_,v,_,_,_⟩=>v
def c5.count:c5->Int|⟨_,_,_,_,c,_,_⟩=>c
def c5.body:c5->List c5|⟨_,_,_,_,_,b,_⟩=>b
def c5.els:c5->List c5|⟨_,_,_,_,_,_,e⟩=>e
structure i7 where
 vars:List Int
 arrays:List Int
 body:List c5
mutual
theorem c6.ind{P:c6->Prop}(h:∀k n ks,(∀e∈ks,P e)->P ⟨k,n,ks⟩):∀e:c6,P e
 |⟨k,n,ks⟩=>h k n ks (c6.indL h ks)
theorem c6.indL{P:c6->Prop}(h:∀k n ks,(∀e∈ks,P e)->P ⟨k,n,ks⟩):∀ks:List c6,∀e∈ks,P e
 |[]=>fun _ hm=>by cases hm
 |a::r=>fun _ hm=>(cq9.1 hm).elim (fun he=>he▸c6.ind h a) fun hm=>c6.indL h r _ hm
end
mutual
theorem c5.ind{P:c5->Prop}(h:∀k t i v c b e,(∀s∈b,P s)->(∀s∈e,P s)->P ⟨k,t,i,v,c,b,e⟩):∀s:c5,P s
 |⟨k,t,i,v,c,b,e⟩=>h k t i v c b e (c5.indL h b) (c5.indL h e)
theorem c5.indL{P:c5->Prop}(h:∀k t i v c b e,(∀s∈b,P s)->(∀s∈e,P s)->P ⟨k,t,i,v,c,b,e⟩):∀ss:List c5,∀s∈ss,P s
 |[]=>fun _ hm=>by cases hm
 |a::r=>fun _ hm=>(cq9.1 hm).elim (fun he=>he▸c5.ind h a) fun hm=>c5.indL h r _ hm
end
mutual
def A6:c6->Nat
 |⟨_,_,ks⟩=>F4 ks
def F4:List c6->Nat
 |[]=>0
 |e::r=>1+A6 e+F4 r
end
mutual
def M4:c5->Nat
 |⟨_,_,i,v,_,b,e⟩=>A6 i+A6 v+j5 b+j5 e
def j5:List c5->Nat
 |[]=>0
 |s::r=>1+M4 s+j5 r
end
def i7.size(p:i7):Nat:=p.vars.length+p.arrays.length+j5 p.body
theorem ac4(a b:List c6):F4 (a++b)=F4 a+F4 b:=by
 induction a with
 |nil=>simp[F4]
 |cons x r ih=>simp[F4,ih];omega
theorem y6(a b:List c5):j5 (a++b)=j5 a+j5 b:=by
 induction a with
 |nil=>simp[j5]
 |cons x r ih=>simp[j5,ih];omega
theorem at9(a:List c6):a.length<=F4 a:=by
 induction a with
 |nil=>simp
 |cons x r ih=>simp only[F4,cn6];omega
theorem N0(a:List c5):a.length<=j5 a:=by
 induction a with
 |nil=>simp
 |cons x r ih=>simp only[j5,cn6];omega
theorem bM3{e:c6}{ks:List c6}(h:e∈ks):A6 e<F4 ks:=by
 induction ks with
 |nil=>cases h
 |cons x r ih=>
  simp only[F4]
  rcases cq9.1 h with rfl|h
  ·omega
  have:=ih h;omega
theorem ac3{s:c5}{ss:List c5}(h:s∈ss):M4 s<j5 ss:=by
 induction ss with
 |nil=>cases h
 |cons x r ih=>
  simp only[j5]
  rcases cq9.1 h with rfl|h
  ·omega
  have:=ih h;omega
mutual
def M5:c6->c6->Bool
 |⟨k,n,ks⟩,⟨k',n',ks'⟩=>decide (k=k')&&decide (n=n')&&ar5 ks ks'
def ar5:List c6->List c6->Bool
 |[],[]=>true
 |e::r,e'::r'=>M5 e e'&&ar5 r r'
 |_,_=>false
end
mutual
def R0:c5->c5->Bool
 |⟨k,t,i,v,c,b,e⟩,⟨k',t',i',v',c',b',e'⟩=>decide (k=k')&&decide (t=t')&&M5 i i'&&M5 v v'&&decide (c=c')&&A1 b b'&&A1 e e'
def A1:List c5->List c5->Bool
 |[],[]=>true
 |s::r,s'::r'=>R0 s s'&&A1 r r'
 |_,_=>false
end
mutual
theorem N2:∀(a b:c6),M5 a b=true↔a=b
 |⟨k,n,ks⟩,⟨k',n',ks'⟩=>by
  simp only[M5,cm9,decide_eq_true_eq,c6.mk.injEq,aS2 ks ks',and_assoc]
theorem aS2:∀(a b:List c6),ar5 a b=true↔a=b
 |[],[]=>by simp[ar5]
 |[],_::_=>by simp[ar5]
 |_::_,[]=>by simp[ar5]
 |e::r,e'::r'=>by simp only[ar5,cm9,List.cons.injEq,N2 e e',aS2 r r']
end
mutual
theorem ak2:∀(a b:c5),R0 a b=true↔a=b
 |⟨k,t,i,v,c,b,e⟩,⟨k',t',i',v',c',b',e'⟩=>by
  simp only[R0,cm9,decide_eq_true_eq,c5.mk.injEq,N2 i i',N2 v v',K8 b b',K8 e e',and_assoc]
theorem K8:∀(a b:List c5),A1 a b=true↔a=b
 |[],[]=>by simp[A1]
 |[],_::_=>by simp[A1]
 |_::_,[]=>by simp[A1]
 |e::r,e'::r'=>by simp only[A1,cm9,List.cons.injEq,ak2 e e',K8 r r']
end
def i7.same(p q:i7):Bool:=decide (p.vars=q.vars)&&decide (p.arrays=q.arrays)&&A1 p.body q.body
end Go.Proofs.YtfbeblgnjeokaaaGreat

namespace Go.Proofs.YtfbeblgnjeokaaaGreat
open Go Go.RowKit
section
mutual
def U5(w:World)(φ:Nat->Prop):c6->List Value->Prop
 |⟨k,n,ks⟩,cs=>∃v xs,cs=[.int .i64 k,.int .i64 n,v]/\A4 w φ v ks.length 3 xs/\A5 w φ ks xs
def A5(w:World)(φ:Nat->Prop):List c6->List Value->Prop
 |[],xs=>xs=[]
 |e::r,xs=>∃c ys,xs=c++ys/\U5 w φ e c/\A5 w φ r ys
end
def J5(w:World)(φ:Nat->Prop)(v:Value)(ks:List c6):Prop:=∃xs,A4 w φ v ks.length 3 xs/\A5 w φ ks xs
def bs0(w:World)(φ:Nat->Prop)(v:Value)(e:c6):Prop:=∃kv,v=.agg #[.int .i64 e.kind,.int .i64 e.value,kv]/\J5 w φ kv e.kids
mutual
def S8(w:World)(φ:Nat->Prop):c5->List Value->Prop
 | ⟨k, t, i, v, c, b, e⟩, cs => ∃ iv vv bv ev xb xe, cs = [.int .i64 k, .int .i64 t, .int .i64 i.kind, .int .i64 i.value, iv, .int .i64 v.kind, .int .i64 v.value, vv, .int .i64 c, bv, ev] /\
   J5 w φ iv i.kids/\J5 w φ vv v.kids/\A4 w φ bv b.length 11 xb/\z8 w φ b xb/\A4 w φ ev e.length 11 xe/\z8 w φ e xe
def z8(w:World)(φ:Nat->Prop):List c5->List Value->Prop
 |[],xs=>xs=[]
 |s::r,xs=>∃c ys,xs=c++ys/\S8 w φ s c/\z8 w φ r ys
end
def K1(w:World)(φ:Nat->Prop)(v:Value)(ss:List c5):Prop:=∃xs,A4 w φ v ss.length 11 xs/\z8 w φ ss xs
def br9(w:World)(φ:Nat->Prop)(v:Value)(s:c5):Prop:=
 ∃iv vv bv ev,v=.agg #[.int .i64 s.kind,.int .i64 s.target,.int .i64 s.index.kind,.int .i64 s.index.value,iv,.int .i64 s.value.kind,.int .i64 s.value.value,vv,.int .i64 s.count,bv,ev]/\
  J5 w φ iv s.index.kids/\J5 w φ vv s.value.kids/\K1 w φ bv s.body/\K1 w φ ev s.els
def bL1(w:World)(φ:Nat->Prop)(v:Value)(p:i7):Prop:=
 ∃v1 v2 v3,v=.agg #[v1,v2,v3]/\A4 w φ v1 p.vars.length 1 (ints p.vars)/\A4 w φ v2 p.arrays.length 1 (ints p.arrays)/\K1 w φ v3 p.body
variable{w w':World}{φ φ':Nat->Prop}
mutual
theorem U5.agr(ha:Agr φ φ' w w'):∀(e:c6) (cs:List Value),U5 w φ e cs->U5 w' φ' e cs
 |⟨_,_,ks⟩,_,⟨v,xs,h1,h2,h3⟩=>⟨v,xs,h1,A4.nice _ _ _ _ _ _ _ _ ha h2,A5.agr ha ks xs h3⟩
theorem A5.agr(ha:Agr φ φ' w w'):∀(ks:List c6) (xs:List Value),A5 w φ ks xs->A5 w' φ' ks xs
 |[],_,h=>h
 |e::r,_,⟨c,ys,h1,h2,h3⟩=>⟨c,ys,h1,U5.agr ha e c h2,A5.agr ha r ys h3⟩
end
theorem A5.nice(ks:List c6)(xs:List Value):ah3 fun w φ=>A5 w φ ks xs:=fun _ _ _ _ ha h=>A5.agr ha ks xs h
theorem J5.nice(v:Value)(ks:List c6):ah3 fun w φ=>J5 w φ v ks:=fun _ _ _ _ ha ⟨xs,h1,h2⟩=>⟨xs,A4.nice _ _ _ _ _ _ _ _ ha h1,A5.agr ha ks xs h2⟩
theorem bs0.nice(v:Value)(e:c6):ah3 fun w φ=>bs0 w φ v e:=fun _ _ _ _ ha ⟨kv,h1,h2⟩=>⟨kv,h1,J5.nice _ _ _ _ _ _ ha h2⟩
mutual
theorem S8.agr(ha:Agr φ φ' w w'):∀(s:c5) (cs:List Value),S8 w φ s cs->S8 w' φ' s cs
 |⟨_,_,_,_,_,b,e⟩,_,⟨iv,vv,bv,ev,xb,xe,h1,h2,h3,h4,h5,h6,h7⟩=>
  ⟨iv,vv,bv,ev,xb,xe,h1,J5.nice _ _ _ _ _ _ ha h2,J5.nice _ _ _ _ _ _ ha h3,A4.nice _ _ _ _ _ _ _ _ ha h4,z8.agr ha b xb h5,A4.nice _ _ _ _ _ _ _ _ ha h6,z8.agr ha e xe h7⟩
theorem z8.agr(ha:Agr φ φ' w w'):∀(ss:List c5) (xs:List Value),z8 w φ ss xs->z8 w' φ' ss xs
 |[],_,h=>h
 |s::r,_,⟨c,ys,h1,h2,h3⟩=>⟨c,ys,h1,S8.agr ha s c h2,z8.agr ha r ys h3⟩
end
theorem z8.nice(ss:List c5)(xs:List Value):ah3 fun w φ=>z8 w φ ss xs:=fun _ _ _ _ ha h=>z8.agr ha ss xs h
theorem K1.nice(v:Value)(ss:List c5):ah3 fun w φ=>K1 w φ v ss:=fun _ _ _ _ ha ⟨xs,h1,h2⟩=>⟨xs,A4.nice _ _ _ _ _ _ _ _ ha h1,z8.agr ha ss xs h2⟩
theorem br9.nice(v:Value)(s:c5):ah3 fun w φ=>br9 w φ v s:=fun _ _ _ _ ha ⟨iv,vv,bv,ev,h1,h2,h3,h4,h5⟩=>
 ⟨iv,vv,bv,ev,h1,J5.nice _ _ _ _ _ _ ha h2,J5.nice _ _ _ _ _ _ ha h3,K1.nice _ _ _ _ _ _ ha h4,K1.nice _ _ _ _ _ _ ha h5⟩
theorem bL1.nice(v:Value)(p:i7):ah3 fun w φ=>bL1 w φ v p:=fun _ _ _ _ ha ⟨v1,v2,v3,h1,h2,h3,h4⟩=>
 ⟨v1,v2,v3,h1,A4.nice _ _ _ _ _ _ _ _ ha h2,A4.nice _ _ _ _ _ _ _ _ ha h3,K1.nice _ _ _ _ _ _ ha h4⟩
theorem U5.iff(e:c6)(cs:List Value):U5 w φ e cs↔∃kv,cs=[.int .i64 e.kind,.int .i64 e.value,kv]/\J5 w φ kv e.kids:=by
 cases e with
 |mk k n ks=>exact⟨fun⟨v,xs,h1,h2,h3⟩=>⟨v,h1,xs,h2,h3⟩,fun⟨v,h1,xs,h2,h3⟩=>⟨v,xs,h1,h2,h3⟩⟩
theorem S8.iff(s:c5)(cs:List Value):S8 w φ s cs↔∃iv vv bv ev,cs=[.int .i64 s.kind,.int .i64 s.target,.int .i64 s.index.kind,.int .i64 s.index.value,iv,.int .i64 s.value.kind,.int .i64 s.value.value,vv,.int .i64 s.count,bv,ev]/\
  J5 w φ iv s.index.kids/\J5 w φ vv s.value.kids/\K1 w φ bv s.body/\K1 w φ ev s.els:=by
 cases s with
 | mk k t i v c b e =>
  exact⟨fun⟨iv,vv,bv,ev,xb,xe,h1,h2,h3,h4,h5,h6,h7⟩=>⟨iv,vv,bv,ev,h1,h2,h3,⟨xb,h4,h5⟩,⟨xe,h6,h7⟩⟩,
   fun⟨iv,vv,bv,ev,h1,h2,h3,⟨xb,h4,h5⟩,⟨xe,h6,h7⟩⟩=>⟨iv,vv,bv,ev,xb,xe,h1,h2,h3,h4,h5,h6,h7⟩⟩
theorem bs0.iff{v:Value}{e:c6}:bs0 w φ v e↔∃cs:List Value,v=.agg cs.toArray/\U5 w φ e cs:=
 ⟨fun⟨kv,h1,h2⟩=>⟨_,h1,(U5.iff e _).2 ⟨kv,rfl,h2⟩⟩,fun⟨cs,h1,h2⟩=>by obtain⟨kv,rfl,h3⟩:=(U5.iff e cs).1 h2;exact⟨kv,h1,h3⟩⟩
theorem br9.iff{v:Value}{s:c5}:br9 w φ v s↔∃cs:List Value,v=.agg cs.toArray/\S8 w φ s cs:=
 ⟨fun⟨iv,vv,bv,ev,h1,h2⟩=>⟨_,h1,(S8.iff s _).2 ⟨iv,vv,bv,ev,rfl,h2⟩⟩,fun⟨cs,h1,h2⟩=>by obtain⟨iv,vv,bv,ev,rfl,h3⟩:=(S8.iff s cs).1 h2;exact⟨iv,vv,bv,ev,h1,h3⟩⟩
theorem A5.len:∀{ks:List c6} {xs:List Value},A5 w φ ks xs->xs.length=ks.length*3
 |[],_,h=>by rw[show _=[]from h];rfl
 |e::r,_,⟨c,ys,h1,h2,h3⟩=>by
  obtain⟨kv,rfl,_⟩:=(U5.iff e c).1 h2
  rw[h1,cn3,A5.len h3,cn6];simp;omega
theorem z8.len:∀{ss:List c5} {xs:List Value},z8 w φ ss xs->xs.length=ss.length*11
 |[],_,h=>by rw[show _=[]from h];rfl
 |s::r,_,⟨c,ys,h1,h2,h3⟩=>by
  obtain⟨iv,vv,bv,ev,rfl,_⟩:=(S8.iff s c).1 h2
  rw[h1,cn3,z8.len h3,cn6];simp;omega
theorem A5.at:∀{ks:List c6} {xs:List Value},A5 w φ ks xs->∀(i:Nat) (hi:i<ks.length),∃kv,xs[i*3]? =some (.int .i64 ks[i].kind)/\xs[i*3+1]? =some (.int .i64 ks[i].value)/\xs[i*3+2]? =some kv/\J5 w φ kv ks[i].kids
 |[],_,_,i,hi=>by simp at hi
 | e :: r, _, ⟨c, ys, h1, h2, h3⟩, i, hi => by
  obtain⟨kv,rfl,hk⟩:=(U5.iff e c).1 h2
  subst h1
  cases i with
  |zero=>exact⟨kv,rfl,rfl,rfl,hk⟩
  |succ i=>
   obtain⟨kv',a,b,d,f⟩:=A5.at h3 i (by simpa using hi)
   refine⟨kv',?_,?_,?_,f⟩<;>(rw[cq7];simpa[Nat.add_assoc]using by assumption)
theorem z8.at:∀{ss:List c5} {xs:List Value},z8 w φ ss xs->∀(i:Nat) (hi:i<ss.length),∃cs:List Value,cs.length=11/\S8 w φ ss[i] cs/\∀j,j<11->xs[i*11+j]? =cs[j]?
 |[],_,_,i,hi=>by simp at hi
 | s :: r, _, ⟨c, ys, h1, h2, h3⟩, i, hi => by
  have hc:c.length=11:=by obtain⟨iv,vv,bv,ev,rfl,_⟩:=(S8.iff s c).1 h2;rfl
  subst h1
  cases i with
  |zero=>exact⟨c,hc,h2,fun j hj=>by rw[co2 al];simp⟩
  |succ i=>
   obtain⟨cs,a,b,d⟩:=z8.at h3 i (by simpa using hi)
   refine⟨cs,a,b,fun j hj=>?_⟩
   rw[cp9 (by rw[hc,cq7];omega), <-d j hj]
   congr 1
   rw[hc,cq7];omega
theorem A5.append:∀{ks:List c6} {xs:List Value} {ls:List c6} {ys:List Value},A5 w φ ks xs->A5 w φ ls ys->A5 w φ (ks++ls) (xs++ys)
 |[],_,_,_,h,k=>by rw[show _=[]from h];exact k
 |e::r,_,_,_,⟨c,zs,h1,h2,h3⟩,k=>⟨c,zs++_,by rw[h1,cr6],h2,A5.append h3 k⟩
theorem A5.one{e:c6}{c:List Value}(h:U5 w φ e c):A5 w φ [e] c:=⟨c,[],ao,h,rfl⟩
theorem z8.append:∀{ks:List c5} {xs:List Value} {ls:List c5} {ys:List Value},z8 w φ ks xs->z8 w φ ls ys->z8 w φ (ks++ls) (xs++ys)
 |[],_,_,_,h,k=>by rw[show _=[]from h];exact k
 |e::r,_,_,_,⟨c,zs,h1,h2,h3⟩,k=>⟨c,zs++_,by rw[h1,cr6],h2,z8.append h3 k⟩
theorem z8.one{s:c5}{c:List Value}(h:S8 w φ s c):z8 w φ [s] c:=⟨c,[],ao,h,rfl⟩
theorem J5.open{v:Value}{ks:List c6}(h:J5 w φ v ks):∃a cap,v=.slice a ks.length cap/\ks.length<=cap/\ks.length<=9223372036854775807/\cap<=9223372036854775807/\
  ∀i (hi:i<ks.length),∃b off kv,a=some ⟨b,off,none⟩/\b<w.heap.size/\φ b/\w.cell? ⟨b,off+i*3,none⟩=some (.int .i64 ks[i].kind)/\w.cell? ⟨b,off+i*3+1,none⟩=some (.int .i64 ks[i].value)/\w.cell? ⟨b,off+i*3+2,none⟩=some kv/\J5 w φ kv ks[i].kids:=by
 obtain⟨xs,⟨hl,a,cap,rfl,h1,h2,h3⟩,hx⟩:=h
 unfold maxLen at h2
 refine⟨a,cap,rfl,h1,al,al,fun i hi=>?_⟩
 obtain⟨b,off,rfl,hb,hf,hc⟩:=h3 al
 obtain⟨kv,e0,e1,e2,hk⟩:=hx.at i hi
 exact⟨b,off,kv,rfl,hb,hf,hc _ _ e0,hc _ _ e1,hc _ _ e2,hk⟩
theorem K1.open{v:Value}{ss:List c5}(h:K1 w φ v ss):∃a cap,v=.slice a ss.length cap/\ss.length<=cap/\ss.length<=9223372036854775807/\cap<=9223372036854775807/\
  ∀i (hi:i<ss.length),∃b off iv vv bv ev,a=some ⟨b,off,none⟩/\b<w.heap.size/\φ b/\
   (w.cell? ⟨b,off+i*11,none⟩=some (.int .i64 ss[i].kind)/\w.cell? ⟨b,off+i*11+1,none⟩=some (.int .i64 ss[i].target)/\w.cell? ⟨b,off+i*11+2,none⟩=some (.int .i64 ss[i].index.kind)/\w.cell? ⟨b,off+i*11+3,none⟩=some (.int .i64 ss[i].index.value)/\w.cell? ⟨b,off+i*11+4,none⟩=some iv/\
    w.cell? ⟨b,off+i*11+5,none⟩=some (.int .i64 ss[i].value.kind)/\w.cell? ⟨b,off+i*11+6,none⟩=some (.int .i64 ss[i].value.value)/\w.cell? ⟨b,off+i*11+7,none⟩=some vv/\w.cell? ⟨b,off+i*11+8,none⟩=some (.int .i64 ss[i].count)/\w.cell? ⟨b,off+i*11+9,none⟩=some bv/\w.cell? ⟨b,off+i*11+10,none⟩=some ev)/\
   J5 w φ iv ss[i].index.kids/\J5 w φ vv ss[i].value.kids/\K1 w φ bv ss[i].body/\K1 w φ ev ss[i].els:=by
 obtain⟨xs,⟨hl,a,cap,rfl,h1,h2,h3⟩,hx⟩:=h
 unfold maxLen at h2
 refine⟨a,cap,rfl,h1,al,al,fun i hi=>?_⟩
 obtain⟨b,off,rfl,hb,hf,hc⟩:=h3 al
 obtain⟨cs,hl2,hs,hj⟩:=hx.at i hi
 obtain⟨iv,vv,bv,ev,rfl,k1,k2,k3,k4⟩:=(S8.iff _ _).1 hs
 refine⟨b,off,iv,vv,bv,ev,rfl,hb,hf,⟨?_,?_,?_,?_,?_,?_,?_,?_,?_,?_,?_⟩,k1,k2,k3,k4⟩
 ·have:=hc (i*11+0) _ ((hj 0 al).trans rfl);simpa using this
 ·exact hc (i*11+1) _ ((hj 1 al).trans rfl)
 ·exact hc (i*11+2) _ ((hj 2 al).trans rfl)
 ·exact hc (i*11+3) _ ((hj 3 al).trans rfl)
 ·exact hc (i*11+4) _ ((hj 4 al).trans rfl)
 ·exact hc (i*11+5) _ ((hj 5 al).trans rfl)
 ·exact hc (i*11+6) _ ((hj 6 al).trans rfl)
 ·exact hc (i*11+7) _ ((hj 7 al).trans rfl)
 ·exact hc (i*11+8) _ ((hj 8 al).trans rfl)
 ·exact hc (i*11+9) _ ((hj 9 al).trans rfl)
 exact hc (i*11+10) _ ((hj 10 al).trans rfl)
theorem J5.nil(w:World)(φ:Nat->Prop):J5 w φ (.slice none 0 0) []:=⟨[],A4.nil _ _ _,rfl⟩
theorem K1.nil(w:World)(φ:Nat->Prop):K1 w φ (.slice none 0 0) []:=⟨[],A4.nil _ _ _,rfl⟩
end
section
mutual
def F3(w:World):c6->(Nat->Prop)->List Value->Prop
 |⟨k,n,ks⟩,S,cs=>∃(v:Value) (xs:List Value) (S':Nat->Prop),cs=[.int .i64 k,.int .i64 n,v]/\w.ownsRow 0 96 3 v ks.length xs/\(∀g,v.ownBlock=some g->S g/\¬S' g)/\(∀b,S' b->S b)/\s4 w ks S' xs
def s4(w:World):List c6->(Nat->Prop)->List Value->Prop
 |[],_,xs=>xs=[]
 |e::r,S,xs=>∃(c ys:List Value) (S1 S2:Nat->Prop),xs=c++ys/\(∀b,S1 b->S b/\¬S2 b)/\(∀b,S2 b->S b)/\F3 w e S1 c/\s4 w r S2 ys
end
def J6(w:World)(v:Value)(ks:List c6)(S:Nat->Prop):Prop:=
 ∃(xs:List Value) (S':Nat->Prop),w.ownsRow 0 96 3 v ks.length xs/\(∀g,v.ownBlock=some g->S g/\¬S' g)/\(∀b,S' b->S b)/\s4 w ks S' xs
mutual
def H2(w:World):c5->(Nat->Prop)->List Value->Prop
 | ⟨k, t, i, v, c, b, e⟩, S, cs => ∃ (iv vv bv ev : Value) (xb xe : List Value) (Si Sv Sb Se Sb' Se' : Nat -> Prop), cs = [.int .i64 k, .int .i64 t, .int .i64 i.kind, .int .i64 i.value, iv, .int .i64 v.kind, .int .i64 v.value, vv, .int .i64 c, bv, ev] /\
   ((∀b,Si b->S b/\¬Sv b/\¬Sb b/\¬Se b)/\(∀b,Sv b->S b/\¬Sb b/\¬Se b)/\(∀b,Sb b->S b/\¬Se b)/\(∀b,Se b->S b))/\J6 w iv i.kids Si/\J6 w vv v.kids Sv/\
   (w.ownsRow 0 98 11 bv b.length xb/\(∀g,bv.ownBlock=some g->Sb g/\¬Sb' g)/\(∀b,Sb' b->Sb b)/\p8 w b Sb' xb)/\
   (w.ownsRow 0 98 11 ev e.length xe/\(∀g,ev.ownBlock=some g->Se g/\¬Se' g)/\(∀b,Se' b->Se b)/\p8 w e Se' xe)
def p8(w:World):List c5->(Nat->Prop)->List Value->Prop
 |[],_,xs=>xs=[]
 |s::r,S,xs=>∃(c ys:List Value) (S1 S2:Nat->Prop),xs=c++ys/\(∀b,S1 b->S b/\¬S2 b)/\(∀b,S2 b->S b)/\H2 w s S1 c/\p8 w r S2 ys
end
def M0(w:World)(v:Value)(ss:List c5)(S:Nat->Prop):Prop:=
 ∃(xs:List Value) (S':Nat->Prop),w.ownsRow 0 98 11 v ss.length xs/\(∀g,v.ownBlock=some g->S g/\¬S' g)/\(∀b,S' b->S b)/\p8 w ss S' xs
def aD0(w:World)(v:Value)(p:i7)(S:Nat->Prop):Prop:=
 ∃(v1 v2 v3:Value) (S3:Nat->Prop),v=.agg #[v1,v2,v3]/\w.ownsRow 0 3 1 v1 p.vars.length (ints p.vars)/\w.ownsRow 0 3 1 v2 p.arrays.length (ints p.arrays)/\M0 w v3 p.body S3/\
  (∀g,v1.ownBlock=some g->S g/\¬S3 g/\v2.ownBlock≠some g)/\(∀g,v2.ownBlock=some g->S g/\¬S3 g)/\(∀b,S3 b->S b)
variable{w w':World}{S S' φ:Nat->Prop}
theorem A8{e:TypeId}{sz:Nat}{v:Value}{n:Nat}{xs:List Value}(h:w.ownsRow 0 e sz v n xs)(hs:∀g,v.ownBlock=some g->w'.heap[g]? =w.heap[g]?):w'.ownsRow 0 e sz v n xs:=
 (C5.same (C5.mk' h) hs).1
mutual
theorem F3.same:∀(e:c6) (S:Nat->Prop) (cs:List Value),F3 w e S cs->(∀b,S b->b<w.heap.size->w'.heap[b]? =w.heap[b]?)->F3 w' e S cs
 |⟨_,_,ks⟩,S,_,⟨v,xs,S',h1,h2,h3,h4,h5⟩,hs=>⟨v,xs,S',h1,A8 h2 fun g hg=>hs g (h3 g hg).1 (World.ownsRow.lt h2 g hg).2,h3,h4,s4.same ks S' xs h5 fun b hb=>hs b (h4 b hb)⟩
theorem s4.same:∀(ks:List c6) (S:Nat->Prop) (xs:List Value),s4 w ks S xs->(∀b,S b->b<w.heap.size->w'.heap[b]? =w.heap[b]?)->s4 w' ks S xs
 |[],_,_,h,_=>h
 |e::r,S,_,⟨c,ys,S1,S2,h1,h2,h3,h4,h5⟩,hs=>⟨c,ys,S1,S2,h1,h2,h3,F3.same e S1 c h4 fun b hb=>hs b (h2 b hb).1,s4.same r S2 ys h5 fun b hb=>hs b (h3 b hb)⟩
end
theorem J6.same{v:Value}{ks:List c6}(h:J6 w v ks S)(hs:∀b,S b->b<w.heap.size->w'.heap[b]? =w.heap[b]?):J6 w' v ks S:=by
 obtain⟨xs,S',h2,h3,h4,h5⟩:=h
 exact⟨xs,S',A8 h2 fun g hg=>hs g (h3 g hg).1 (World.ownsRow.lt h2 g hg).2,h3,h4,s4.same ks S' xs h5 fun b hb=>hs b (h4 b hb)⟩
mutual
theorem H2.same:∀(s:c5) (S:Nat->Prop) (cs:List Value),H2 w s S cs->(∀b,S b->b<w.heap.size->w'.heap[b]? =w.heap[b]?)->H2 w' s S cs
 | ⟨_, _, _, _, _, b, e⟩, S, _, ⟨iv, vv, bv, ev, xb, xe, Si, Sv, Sb, Se, Sb', Se', h1, ⟨d1, d2, d3, d4⟩, h2, h3, ⟨b1, b2, b3, b4⟩, ⟨e1, e2, e3, e4⟩⟩, hs =>
  ⟨iv,vv,bv,ev,xb,xe,Si,Sv,Sb,Se,Sb',Se',h1,⟨d1,d2,d3,d4⟩,h2.same fun b hb=>hs b (d1 b hb).1,h3.same fun b hb=>hs b (d2 b hb).1,
   ⟨A8 b1 fun g hg=>hs g (d3 g (b2 g hg).1).1 (World.ownsRow.lt b1 g hg).2,b2,b3,p8.same b Sb' xb b4 fun x hx=>hs x (d3 x (b3 x hx)).1⟩,
   ⟨A8 e1 fun g hg=>hs g (d4 g (e2 g hg).1) (World.ownsRow.lt e1 g hg).2,e2,e3,p8.same e Se' xe e4 fun x hx=>hs x (d4 x (e3 x hx))⟩⟩
theorem p8.same:∀(ss:List c5) (S:Nat->Prop) (xs:List Value),p8 w ss S xs->(∀b,S b->b<w.heap.size->w'.heap[b]? =w.heap[b]?)->p8 w' ss S xs
 |[],_,_,h,_=>h
 |s::r,S,_,⟨c,ys,S1,S2,h1,h2,h3,h4,h5⟩,hs=>⟨c,ys,S1,S2,h1,h2,h3,H2.same s S1 c h4 fun b hb=>hs b (h2 b hb).1,p8.same r S2 ys h5 fun b hb=>hs b (h3 b hb)⟩
end
theorem M0.same{v:Value}{ss:List c5}(h:M0 w v ss S)(hs:∀b,S b->b<w.heap.size->w'.heap[b]? =w.heap[b]?):M0 w' v ss S:=by
 obtain⟨xs,S',h2,h3,h4,h5⟩:=h
 exact⟨xs,S',A8 h2 fun g hg=>hs g (h3 g hg).1 (World.ownsRow.lt h2 g hg).2,h3,h4,p8.same ss S' xs h5 fun b hb=>hs b (h4 b hb)⟩
theorem aD0.same{v:Value}{p:i7}(h:aD0 w v p S)(hs:∀b,S b->b<w.heap.size->w'.heap[b]? =w.heap[b]?):aD0 w' v p S:=by
 obtain⟨v1,v2,v3,S3,rfl,h1,h2,h3,d1,d2,d3⟩:=h
 exact⟨v1,v2,v3,S3,rfl,A8 h1 fun g hg=>hs g (d1 g hg).1 (World.ownsRow.lt h1 g hg).2,A8 h2 fun g hg=>hs g (d2 g hg).1 (World.ownsRow.lt h2 g hg).2,h3.same fun b hb=>hs b (d3 b hb),d1,d2,d3⟩
theorem J6.mono{v:Value}{ks:List c6}(h:J6 w v ks S)(hs:∀b,S b->S' b):J6 w v ks S':=by
 obtain⟨xs,T,h2,h3,h4,h5⟩:=h
 exact⟨xs,T,h2,fun g hg=>⟨hs g (h3 g hg).1,(h3 g hg).2⟩,fun b hb=>hs b (h4 b hb),h5⟩
theorem M0.mono{v:Value}{ss:List c5}(h:M0 w v ss S)(hs:∀b,S b->S' b):M0 w v ss S':=by
 obtain⟨xs,T,h2,h3,h4,h5⟩:=h
 exact⟨xs,T,h2,fun g hg=>⟨hs g (h3 g hg).1,(h3 g hg).2⟩,fun b hb=>hs b (h4 b hb),h5⟩
theorem aD0.mono{v:Value}{p:i7}(h:aD0 w v p S)(hs:∀b,S b->S' b):aD0 w v p S':=by
 obtain⟨v1,v2,v3,S3,rfl,h1,h2,h3,d1,d2,d3⟩:=h
 exact⟨v1,v2,v3,S3,rfl,h1,h2,h3,fun g hg=>⟨hs g (d1 g hg).1,(d1 g hg).2⟩,fun g hg=>⟨hs g (d2 g hg).1,(d2 g hg).2⟩,fun b hb=>hs b (d3 b hb)⟩
mutual
theorem F3.read:∀(e:c6) (S:Nat->Prop) (cs:List Value),F3 w e S cs->(∀b,S b->φ b)->U5 w φ e cs
 |⟨_,_,ks⟩,S,_,⟨v,xs,S',h1,h2,h3,h4,h5⟩,hs=>⟨v,xs,h1,A9 h2 fun g hg=>hs g (h3 g hg).1,s4.read ks S' xs h5 fun b hb=>hs b (h4 b hb)⟩
theorem s4.read:∀(ks:List c6) (S:Nat->Prop) (xs:List Value),s4 w ks S xs->(∀b,S b->φ b)->A5 w φ ks xs
 |[],_,_,h,_=>h
 |e::r,S,_,⟨c,ys,S1,S2,h1,h2,h3,h4,h5⟩,hs=>⟨c,ys,h1,F3.read e S1 c h4 fun b hb=>hs b (h2 b hb).1,s4.read r S2 ys h5 fun b hb=>hs b (h3 b hb)⟩
end
theorem J6.read{v:Value}{ks:List c6}(h:J6 w v ks S)(hs:∀b,S b->φ b):J5 w φ v ks:=by
 obtain⟨xs,T,h2,h3,h4,h5⟩:=h
 exact⟨xs,A9 h2 fun g hg=>hs g (h3 g hg).1,s4.read ks T xs h5 fun b hb=>hs b (h4 b hb)⟩
mutual
theorem H2.read:∀(s:c5) (S:Nat->Prop) (cs:List Value),H2 w s S cs->(∀b,S b->φ b)->S8 w φ s cs
 | ⟨_, _, _, _, _, b, e⟩, S, _, ⟨iv, vv, bv, ev, xb, xe, Si, Sv, Sb, Se, Sb', Se', h1, ⟨d1, d2, d3, d4⟩, h2, h3, ⟨b1, b2, b3, b4⟩, ⟨e1, e2, e3, e4⟩⟩, hs =>
  ⟨iv,vv,bv,ev,xb,xe,h1,h2.read fun b hb=>hs b (d1 b hb).1,h3.read fun b hb=>hs b (d2 b hb).1,
   A9 b1 fun g hg=>hs g (d3 g (b2 g hg).1).1,p8.read b Sb' xb b4 fun x hx=>hs x (d3 x (b3 x hx)).1,
   A9 e1 fun g hg=>hs g (d4 g (e2 g hg).1),p8.read e Se' xe e4 fun x hx=>hs x (d4 x (e3 x hx))⟩
theorem p8.read:∀(ss:List c5) (S:Nat->Prop) (xs:List Value),p8 w ss S xs->(∀b,S b->φ b)->z8 w φ ss xs
 |[],_,_,h,_=>h
 |s::r,S,_,⟨c,ys,S1,S2,h1,h2,h3,h4,h5⟩,hs=>⟨c,ys,h1,H2.read s S1 c h4 fun b hb=>hs b (h2 b hb).1,p8.read r S2 ys h5 fun b hb=>hs b (h3 b hb)⟩
end
theorem M0.read{v:Value}{ss:List c5}(h:M0 w v ss S)(hs:∀b,S b->φ b):K1 w φ v ss:=by
 obtain⟨xs,T,h2,h3,h4,h5⟩:=h
 exact⟨xs,A9 h2 fun g hg=>hs g (h3 g hg).1,p8.read ss T xs h5 fun b hb=>hs b (h4 b hb)⟩
theorem aD0.read{v:Value}{p:i7}(h:aD0 w v p S)(hs:∀b,S b->φ b):bL1 w φ v p:=by
 obtain⟨v1,v2,v3,S3,rfl,h1,h2,h3,d1,d2,d3⟩:=h
 exact⟨v1,v2,v3,rfl,A9 h1 fun g hg=>hs g (d1 g hg).1,A9 h2 fun g hg=>hs g (d2 g hg).1,h3.read fun b hb=>hs b (d3 b hb)⟩
def cf6(R:World->(Nat->Prop)->Prop)(S:Nat->Prop):World->(Nat->Prop)->Prop:=fun w φ=>R w S/\∀b,S b->b<w.heap.size/\φ b
theorem cf6.nice{R:World->(Nat->Prop)->Prop}(S:Nat->Prop)(hR:∀w w':World,R w S->(∀b,S b->b<w.heap.size->w'.heap[b]? =w.heap[b]?)->R w' S):ah3 (cf6 R S):=
 fun w w' _ _ ha ⟨h1,h2⟩=>⟨hR w w' h1 fun b hb hlt=>(ha.2 b hlt (h2 b hb).2).2,fun b hb=>⟨cq4 (h2 b hb).1 ha.1,(ha.2 b (h2 b hb).1 (h2 b hb).2).1⟩⟩
theorem s4.mono:∀{ks:List c6} {S S':Nat->Prop} {xs:List Value},s4 w ks S xs->(∀b,S b->S' b)->s4 w ks S' xs
 |[],_,_,_,h,_=>h
 |_::_,_,_,_,⟨c,ys,S1,S2,h1,h2,h3,h4,h5⟩,hs=>⟨c,ys,S1,S2,h1,fun b hb=>⟨hs b (h2 b hb).1,(h2 b hb).2⟩,fun b hb=>hs b (h3 b hb),h4,h5⟩
theorem p8.mono:∀{ks:List c5} {S S':Nat->Prop} {xs:List Value},p8 w ks S xs->(∀b,S b->S' b)->p8 w ks S' xs
 |[],_,_,_,h,_=>h
 |_::_,_,_,_,⟨c,ys,S1,S2,h1,h2,h3,h4,h5⟩,hs=>⟨c,ys,S1,S2,h1,fun b hb=>⟨hs b (h2 b hb).1,(h2 b hb).2⟩,fun b hb=>hs b (h3 b hb),h4,h5⟩
theorem s4.snoc:∀{ks:List c6} {S S' T:Nat->Prop} {xs c:List Value} {e:c6},s4 w ks S xs->F3 w e T c->(∀b,S b->S' b/\¬T b)->(∀b,T b->S' b)->s4 w (ks++[e]) S' (xs++c)
 |[],S,S',T,xs,c,e,h,k,d,f=>by
  rw[show xs=[]from h]
  exact⟨c,[],T,fun _=>False,ao,fun b hb=>⟨f b hb,fun h=>h⟩,fun b hb=>hb.elim,k,rfl⟩
 | a :: r, S, S', T, _, c, e, ⟨x, ys, S1, S2, h1, h2, h3, h4, h5⟩, k, d, f =>
  ⟨x,ys++c,S1,fun b=>S2 b\/T b,by rw[h1,cr6],fun b hb=>⟨(d b (h2 b hb).1).1,fun h=>h.elim (h2 b hb).2 (d b (h2 b hb).1).2⟩,fun b hb=>hb.elim (fun h=>(d b (h3 b h)).1) (f b),h4,
   s4.snoc h5 k (fun b hb=>⟨.inl hb,(d b (h3 b hb)).2⟩) fun b hb=>.inr hb⟩
theorem p8.snoc:∀{ks:List c5} {S S' T:Nat->Prop} {xs c:List Value} {e:c5},p8 w ks S xs->H2 w e T c->(∀b,S b->S' b/\¬T b)->(∀b,T b->S' b)->p8 w (ks++[e]) S' (xs++c)
 |[],S,S',T,xs,c,e,h,k,d,f=>by
  rw[show xs=[]from h]
  exact⟨c,[],T,fun _=>False,ao,fun b hb=>⟨f b hb,fun h=>h⟩,fun b hb=>hb.elim,k,rfl⟩
 | a :: r, S, S', T, _, c, e, ⟨x, ys, S1, S2, h1, h2, h3, h4, h5⟩, k, d, f =>
  ⟨x,ys++c,S1,fun b=>S2 b\/T b,by rw[h1,cr6],fun b hb=>⟨(d b (h2 b hb).1).1,fun h=>h.elim (h2 b hb).2 (d b (h2 b hb).1).2⟩,fun b hb=>hb.elim (fun h=>(d b (h3 b h)).1) (f b),h4,
   p8.snoc h5 k (fun b hb=>⟨.inl hb,(d b (h3 b hb)).2⟩) fun b hb=>.inr hb⟩
theorem F3.iff(e:c6)(S:Nat->Prop)(cs:List Value):F3 w e S cs↔∃kv,cs=[.int .i64 e.kind,.int .i64 e.value,kv]/\J6 w kv e.kids S:=by
 cases e with
 |mk k n ks=>exact⟨fun⟨v,xs,T,h1,h2⟩=>⟨v,h1,xs,T,h2⟩,fun⟨v,h1,xs,T,h2⟩=>⟨v,xs,T,h1,h2⟩⟩
theorem H2.iff(s:c5)(S:Nat->Prop)(cs:List Value):H2 w s S cs↔∃(iv vv bv ev:Value) (Si Sv Sb Se:Nat->Prop),cs=[.int .i64 s.kind,.int .i64 s.target,.int .i64 s.index.kind,.int .i64 s.index.value,iv,.int .i64 s.value.kind,.int .i64 s.value.value,vv,.int .i64 s.count,bv,ev]/\
  ((∀b,Si b->S b/\¬Sv b/\¬Sb b/\¬Se b)/\(∀b,Sv b->S b/\¬Sb b/\¬Se b)/\(∀b,Sb b->S b/\¬Se b)/\(∀b,Se b->S b))/\J6 w iv s.index.kids Si/\J6 w vv s.value.kids Sv/\M0 w bv s.body Sb/\M0 w ev s.els Se:=by
 cases s with
 | mk k t i v c b e =>
  exact⟨fun⟨iv,vv,bv,ev,xb,xe,Si,Sv,Sb,Se,Sb',Se',h1,h2,h3,h4,h5,h6⟩=>⟨iv,vv,bv,ev,Si,Sv,Sb,Se,h1,h2,h3,h4,⟨xb,Sb',h5⟩,⟨xe,Se',h6⟩⟩,
   fun⟨iv,vv,bv,ev,Si,Sv,Sb,Se,h1,h2,h3,h4,⟨xb,Sb',h5⟩,⟨xe,Se',h6⟩⟩=>⟨iv,vv,bv,ev,xb,xe,Si,Sv,Sb,Se,Sb',Se',h1,h2,h3,h4,h5,h6⟩⟩
end
theorem W8(us:List Value):∀(c ys:List Value) (p:Nat),c.length<=p->setFrom (c++ys) p us=c++setFrom ys (p-c.length) us:=by
 induction us with
 |nil=>intro c ys p _;rfl
 |cons u r ih=>
  intro c ys p hp
  simp only[setFrom]
  rw[List.set_append_right _ _ hp,ih _ _ _ al,show p+1-c.length=p-c.length+1 by omega]
theorem Y9(us:List Value):∀(c ys:List Value) (p:Nat),p+us.length<=c.length->setFrom (c++ys) p us=setFrom c p us++ys:=by
 induction us with
 |nil=>intro c ys p _;rfl
 |cons u r ih=>
  intro c ys p hp
  simp only[cn6]at hp
  simp only[setFrom]
  rw[List.set_append_left _ _ al,ih _ _ _ ah]
theorem aq0{c us:List Value}(h:us.length=c.length):setFrom c 0 us=us:=by
 have h1:=au5 us c 0 al
 rw[cr4,co3 (by rw[J1];omega)]at h1
 simpa using h1
theorem F3.len{w:World}{e:c6}{S:Nat->Prop}{c:List Value}(h:F3 w e S c):c.length=3:=by
 obtain⟨kv,rfl,_⟩:=(F3.iff e S c).1 h;rfl
theorem H2.len{w:World}{s:c5}{S:Nat->Prop}{c:List Value}(h:H2 w s S c):c.length=11:=by
 obtain⟨_,_,_,_,_,_,_,_,rfl,_⟩:=(H2.iff s S c).1 h;rfl
theorem s4.focus{w:World}:∀{ls:List c6} {S:Nat->Prop} {xs:List Value},s4 w ls S xs->∀(i:Nat) (hi:i<ls.length),∃(c:List Value) (Sc:Nat->Prop),F3 w ls[i] Sc c/\(∀b,Sc b->S b)/\(∀j,j<3->xs[i*3+j]? =c[j]?)/\
  ∀(w':World) (e':c6) (c':List Value),(∀b,S b->¬Sc b->b<w.heap.size->w'.heap[b]? =w.heap[b]?)->F3 w' e' Sc c'->s4 w' (ls.set i e') S (setFrom xs (i*3) c')
 |[],_,_,_,i,hi=>by simp at hi
 | e :: r, S, xs, ⟨c, ys, S1, S2, h1, h2, h3, h4, h5⟩, i, hi => by
  have hc:=h4.len
  subst h1
  cases i with
  |zero=>
   refine⟨c,S1,h4,fun b hb=>(h2 b hb).1,fun j hj=>by rw[co2 al];simp,fun w' e' c' hs hO=>?_⟩
   refine⟨c',ys,S1,S2,?_,h2,h3,hO,s4.same r S2 ys h5 fun b hb hlt=>hs b (h3 b hb) (fun h=>(h2 b h).2 hb) hlt⟩
   rw[Nat.zero_mul,Y9 c' c ys 0 (by rw[hO.len];omega),aq0 (by rw[hO.len,hc])]
  | succ i =>
   obtain⟨d,Sc,k1,k2,k3,k4⟩:=s4.focus h5 i (by simpa using hi)
   refine⟨d,Sc,k1,fun b hb=>h3 b (k2 b hb),fun j hj=>?_,fun w' e' c' hs hO=>?_⟩
   ·rw[cp9 (by rw[hc,cq7];omega), <-k3 j hj]
    congr 1
    rw[hc,cq7];omega
   refine⟨c,setFrom ys (i*3) c',S1,S2,?_,h2,h3,F3.same e S1 c h4 fun b hb hlt=>hs b (h2 b hb).1 (fun h=>(h2 b hb).2 (k2 b h)) hlt,k4 w' e' c' (fun b hb hn hlt=>hs b (h3 b hb) hn hlt) hO⟩
   rw[W8 c' c ys _ (by rw[hc,cq7];omega),hc,cq7,Nat.add_sub_cancel]
theorem p8.focus{w:World}:∀{ls:List c5} {S:Nat->Prop} {xs:List Value},p8 w ls S xs->∀(i:Nat) (hi:i<ls.length),∃(c:List Value) (Sc:Nat->Prop),H2 w ls[i] Sc c/\(∀b,Sc b->S b)/\(∀j,j<11->xs[i*11+j]? =c[j]?)/\
  ∀(w':World) (e':c5) (c':List Value),(∀b,S b->¬Sc b->b<w.heap.size->w'.heap[b]? =w.heap[b]?)->H2 w' e' Sc c'->p8 w' (ls.set i e') S (setFrom xs (i*11) c')
 |[],_,_,_,i,hi=>by simp at hi
 | e :: r, S, xs, ⟨c, ys, S1, S2, h1, h2, h3, h4, h5⟩, i, hi => by
  have hc:=h4.len
  subst h1
  cases i with
  |zero=>
   refine⟨c,S1,h4,fun b hb=>(h2 b hb).1,fun j hj=>by rw[co2 al];simp,fun w' e' c' hs hO=>?_⟩
   refine⟨c',ys,S1,S2,?_,h2,h3,hO,p8.same r S2 ys h5 fun b hb hlt=>hs b (h3 b hb) (fun h=>(h2 b h).2 hb) hlt⟩
   rw[Nat.zero_mul,Y9 c' c ys 0 (by rw[hO.len];omega),aq0 (by rw[hO.len,hc])]
  | succ i =>
   obtain⟨d,Sc,k1,k2,k3,k4⟩:=p8.focus h5 i (by simpa using hi)
   refine⟨d,Sc,k1,fun b hb=>h3 b (k2 b hb),fun j hj=>?_,fun w' e' c' hs hO=>?_⟩
   ·rw[cp9 (by rw[hc,cq7];omega), <-k3 j hj]
    congr 1
    rw[hc,cq7];omega
   refine⟨c,setFrom ys (i*11) c',S1,S2,?_,h2,h3,H2.same e S1 c h4 fun b hb hlt=>hs b (h2 b hb).1 (fun h=>(h2 b hb).2 (k2 b h)) hlt,k4 w' e' c' (fun b hb hn hlt=>hs b (h3 b hb) hn hlt) hO⟩
   rw[W8 c' c ys _ (by rw[hc,cq7];omega),hc,cq7,Nat.add_sub_cancel]
section
variable{φ ψ:Nat->Prop}{w0 w w':World}{L:List Res}
theorem s4.at:∀{ks:List c6} {S:Nat->Prop} {xs:List Value},s4 w ks S xs->∀(i:Nat) (hi:i<ks.length),∃kv,xs[i*3]? =some (.int .i64 ks[i].kind)/\xs[i*3+1]? =some (.int .i64 ks[i].value)/\xs[i*3+2]? =some kv/\J6 w kv ks[i].kids S
 |[],_,_,_,i,hi=>by simp at hi
 | e :: r, S, _, ⟨c, ys, S1, S2, h1, h2, h3, h4, h5⟩, i, hi => by
  obtain⟨kv,rfl,hk⟩:=(F3.iff e S1 c).1 h4
  subst h1
  cases i with
  |zero=>exact⟨kv,rfl,rfl,rfl,hk.mono fun b hb=>(h2 b hb).1⟩
  |succ i=>
   obtain⟨kv',a,b,d,f⟩:=s4.at h5 i (by simpa using hi)
   refine⟨kv',?_,?_,?_,f.mono h3⟩<;>(rw[cq7];simpa[Nat.add_assoc]using by assumption)
theorem J6.open{v:Value}{ks:List c6}{S:Nat->Prop}(h:J6 w v ks S):∃a cap,v=.slice a ks.length cap/\ks.length<=cap/\ks.length<=9223372036854775807/\cap<=9223372036854775807/\
  ∀i (hi:i<ks.length),∃b off kv,a=some ⟨b,off,none⟩/\b<w.heap.size/\S b/\w.cell? ⟨b,off+i*3,none⟩=some (.int .i64 ks[i].kind)/\w.cell? ⟨b,off+i*3+1,none⟩=some (.int .i64 ks[i].value)/\w.cell? ⟨b,off+i*3+2,none⟩=some kv/\J6 w kv ks[i].kids S:=by
 obtain⟨xs,S',h2,h3,h4,h5⟩:=h
 obtain⟨hl,a,cap,hv,n1,n2,n3⟩:=A9 (φ:=fun g=>S g/\¬S' g) h2 h3
 unfold maxLen at n2
 refine⟨a,cap,hv,n1,al,al,fun i hi=>?_⟩
 obtain⟨b,off,he,hb,hf,hc⟩:=n3 al
 obtain⟨kv,e0,e1,e2,hk⟩:=h5.at i hi
 exact⟨b,off,kv,he,hb,hf.1,hc _ _ e0,hc _ _ e1,hc _ _ e2,hk.mono h4⟩
theorem J6.nil(w:World)(S:Nat->Prop):J6 w (.slice none 0 0) [] S:=⟨[],fun _=>False,World.ownsRow_nil _ _ _ _,(fun g hg=>by cases hg),fun _ h=>h.elim,rfl⟩
end
theorem ak1(us:List Value):∀(ys:List Value) (p q:Nat),p+us.length<=ys.length->(setFrom ys p us)[q]? =if p<=q/\q<p+us.length then us[q-p]? else ys[q]? :=by
 induction us with
 |nil=>intro ys p q _;simp only[setFrom,co1];split;omega;rfl
 | cons u r ih =>
  intro ys p q h
  simp only[cn6]at h
  simp only[setFrom,cn6]
  rw[ih _ _ _ ah]
  by_cases h1:q=p
  ·subst h1
   rw[if_neg al,if_pos al,List.getElem?_set_self al,Nat.sub_self];rfl
  by_cases h2:p+1<=q/\q<p+1+r.length
  ·rw[if_pos h2,if_pos al,show q-p=q-(p+1)+1 by omega];rfl
  rw[if_neg h2,if_neg al,List.getElem?_set_ne al]
theorem au6{xs cs:List Value}{p:Nat}(h:p+cs.length<=xs.length)(hc:∀j,j<cs.length->xs[p+j]? =cs[j]?):setFrom xs p cs=xs:=by
 apply List.ext_getElem?
 intro q
 rw[ak1 _ _ _ _ h]
 split
 ·rename_i h1
  rw[<-hc _ al];congr 1;omega
 rfl
theorem aB6{xs cs:List Value}{p k:Nat}(u:Value)(h:p+cs.length<=xs.length)(hk:k<cs.length):(setFrom xs p cs).set (p+k) u=setFrom xs p (cs.set k u):=by
 apply List.ext_getElem?
 intro q
 rw[ak1 _ _ _ _ (by simpa using h),cr5,ak1 _ _ _ _ h,J1,cp3]
 by_cases h1:p+k=q
 ·subst h1
  rw[if_pos rfl,if_pos al,if_pos al,Nat.add_sub_cancel_left,List.getElem?_set_self hk]
 rw[if_neg h1]
 split
 ·rw[List.getElem?_set_ne al]
 rfl
section
variable{w:World}
mutual
theorem F3.cut:∀(e:c6) (S:Nat->Prop) (cs:List Value),F3 w e S cs->F3 w e (fun b=>S b/\b<w.heap.size) cs
 |⟨_,_,ks⟩,_,_,⟨v,xs,S',h1,h2,h3,h4,h5⟩=>⟨v,xs,fun b=>S' b/\b<w.heap.size,h1,h2,fun g hg=>⟨⟨(h3 g hg).1,(World.ownsRow.lt h2 g hg).2⟩,fun h=>(h3 g hg).2 h.1⟩,fun b hb=>⟨h4 b hb.1,hb.2⟩,s4.cut ks S' xs h5⟩
theorem s4.cut:∀(ks:List c6) (S:Nat->Prop) (xs:List Value),s4 w ks S xs->s4 w ks (fun b=>S b/\b<w.heap.size) xs
 |[],_,_,h=>h
 |e::r,_,_,⟨c,ys,S1,S2,h1,h2,h3,h4,h5⟩=>⟨c,ys,fun b=>S1 b/\b<w.heap.size,fun b=>S2 b/\b<w.heap.size,h1,fun b hb=>⟨⟨(h2 b hb.1).1,hb.2⟩,fun h=>(h2 b hb.1).2 h.1⟩,fun b hb=>⟨h3 b hb.1,hb.2⟩,F3.cut e S1 c h4,s4.cut r S2 ys h5⟩
end
theorem J6.cut{v:Value}{ks:List c6}{S:Nat->Prop}(h:J6 w v ks S):J6 w v ks (fun b=>S b/\b<w.heap.size):=by
 obtain⟨xs,S',h2,h3,h4,h5⟩:=h
 exact⟨xs,fun b=>S' b/\b<w.heap.size,h2,fun g hg=>⟨⟨(h3 g hg).1,(World.ownsRow.lt h2 g hg).2⟩,fun h=>(h3 g hg).2 h.1⟩,fun b hb=>⟨h4 b hb.1,hb.2⟩,s4.cut ks S' xs h5⟩
mutual
theorem H2.cut:∀(s:c5) (S:Nat->Prop) (cs:List Value),H2 w s S cs->H2 w s (fun b=>S b/\b<w.heap.size) cs
 | ⟨_, _, _, _, _, b, e⟩, _, _, ⟨iv, vv, bv, ev, xb, xe, Si, Sv, Sb, Se, Sb', Se', h1, ⟨d1, d2, d3, d4⟩, h2, h3, ⟨b1, b2, b3, b4⟩, ⟨e1, e2, e3, e4⟩⟩ =>
  ⟨iv,vv,bv,ev,xb,xe,fun b=>Si b/\b<w.heap.size,fun b=>Sv b/\b<w.heap.size,fun b=>Sb b/\b<w.heap.size,fun b=>Se b/\b<w.heap.size,fun b=>Sb' b/\b<w.heap.size,fun b=>Se' b/\b<w.heap.size,h1,
   ⟨fun b hb=>⟨⟨(d1 b hb.1).1,hb.2⟩,fun h=>(d1 b hb.1).2.1 h.1,fun h=>(d1 b hb.1).2.2.1 h.1,fun h=>(d1 b hb.1).2.2.2 h.1⟩,fun b hb=>⟨⟨(d2 b hb.1).1,hb.2⟩,fun h=>(d2 b hb.1).2.1 h.1,fun h=>(d2 b hb.1).2.2 h.1⟩,
    fun b hb=>⟨⟨(d3 b hb.1).1,hb.2⟩,fun h=>(d3 b hb.1).2 h.1⟩,fun b hb=>⟨d4 b hb.1,hb.2⟩⟩,h2.cut,h3.cut,
   ⟨b1,fun g hg=>⟨⟨(b2 g hg).1,(World.ownsRow.lt b1 g hg).2⟩,fun h=>(b2 g hg).2 h.1⟩,fun b hb=>⟨b3 b hb.1,hb.2⟩,p8.cut b Sb' xb b4⟩,
   ⟨e1,fun g hg=>⟨⟨(e2 g hg).1,(World.ownsRow.lt e1 g hg).2⟩,fun h=>(e2 g hg).2 h.1⟩,fun b hb=>⟨e3 b hb.1,hb.2⟩,p8.cut e Se' xe e4⟩⟩
theorem p8.cut:∀(ks:List c5) (S:Nat->Prop) (xs:List Value),p8 w ks S xs->p8 w ks (fun b=>S b/\b<w.heap.size) xs
 |[],_,_,h=>h
 |e::r,_,_,⟨c,ys,S1,S2,h1,h2,h3,h4,h5⟩=>⟨c,ys,fun b=>S1 b/\b<w.heap.size,fun b=>S2 b/\b<w.heap.size,h1,fun b hb=>⟨⟨(h2 b hb.1).1,hb.2⟩,fun h=>(h2 b hb.1).2 h.1⟩,fun b hb=>⟨h3 b hb.1,hb.2⟩,H2.cut e S1 c h4,p8.cut r S2 ys h5⟩
end
theorem M0.cut{v:Value}{ks:List c5}{S:Nat->Prop}(h:M0 w v ks S):M0 w v ks (fun b=>S b/\b<w.heap.size):=by
 obtain⟨xs,S',h2,h3,h4,h5⟩:=h
 exact⟨xs,fun b=>S' b/\b<w.heap.size,h2,fun g hg=>⟨⟨(h3 g hg).1,(World.ownsRow.lt h2 g hg).2⟩,fun h=>(h3 g hg).2 h.1⟩,fun b hb=>⟨h4 b hb.1,hb.2⟩,p8.cut ks S' xs h5⟩
end
section
variable{φ ψ:Nat->Prop}{w0 w:World}{L:List Res}
end
section
variable{P:Program}
structure af2(wr w:World)(S:Nat->Prop):Prop where
 below:Below wr.heap.size wr w
 box:∀b,S b->wr.heap.size<=b/\b<w.heap.size
theorem af2.start(w:World):af2 w w.drew fun _=>False:=⟨(Below.refl _ _).drew,fun _ h=>h.elim⟩
theorem af2.call{wr w w':World}{S:Nat->Prop}(h:af2 wr w S)(b:Below w.heap.size w w'):af2 wr w' S:=⟨h.below.trans (b.mono h.below.size),fun c hc=>⟨(h.box c hc).1,cq4 (h.box c hc).2 b.size⟩⟩
theorem af2.new{wr w w':World}{S:Nat->Prop}(h:af2 wr w S)(b:Below w.heap.size w w')(hs:w.heap.size<w'.heap.size):af2 wr w' fun c=>S c\/c=w.heap.size:=
 ⟨h.below.trans (b.mono h.below.size),fun c hc=>by
  rcases hc with hc|rfl
  ·exact⟨(h.box c hc).1,cq4 (h.box c hc).2 b.size⟩
  exact⟨h.below.size,hs⟩⟩
def RF(φ S:Nat->Prop)(b:Nat):Prop:=φ b/\¬S b
theorem af2.fresh{wr w:World}{S φ:Nat->Prop}(h:af2 wr w S)(hf:∀b,wr.heap.size<=b->φ b):∀b,w.heap.size<=b->RF φ S b:=fun b hb=>⟨hf b (cp4 h.below.size hb),fun hs=>by have:=(h.box b hs).2;omega⟩
theorem af2.old{wr w:World}{S φ:Nat->Prop}(h:af2 wr w S){R:World->(Nat->Prop)->Prop}(hn:ah3 R)(hr:R wr φ):R w (RF φ S):=
 hn _ _ _ _ ⟨h.below.size,fun b hb hf=>⟨⟨hf,fun hs=>by have:=(h.box b hs).1;omega⟩,h.below.block b hb⟩⟩ hr
end
theorem O4.region{φ ψ:Nat->Prop}{w0 wr w:World}{L:List Res}{S:Nat->Prop}(M:O4 φ ψ w0 wr L)(hg:af2 wr w S){g:Nat}{cs:List Value}(hb:D3 w g cs)(hs:S g):O4 φ ψ w0 w (L++[.box g cs]):=
 M.add hg.below _ hb fun g' h=>by cases h;exact(hg.box _ hs).1
theorem RF.app{φ S:Nat->Prop}{L:List Res}{b:Nat}(h:RF (Fr φ L) S b)(X:List Res)(hX:∀r∈X,∀g,r.blk g->S g):Fr φ (L++X) b:=
 ⟨h.1.1,fun r hr he=>by
  rcases cp2.1 hr with hr|hr
  ·exact h.1.2 r hr he
  exact h.2 (hX r hr b he)⟩
section
variable{P:Program}
def am4(ops:Array Oper):Bool:=(co4 ops.size).all fun j=>(ops[j]?).any fun o=>o.after.all fun e=> !Region.binds .any e||decide (e.on<j)
theorem aO7{ops:Array Oper}(hb:am4 ops=true){k:Nat}{o:Oper}(hk:k<ops.size)(ho:ops[k]? =some o){e:Edge}(he:e∈o.after)(hbi:Region.binds .any e=true):e.on<k:=by
 have h1:=cn8.1 hb k (cq6.2 hk)
 rw[ho]at h1
 simp only[Option.any_some]at h1
 have h2:=Array.all_eq_true'.1 h1 e he
 rw[hbi]at h2
 simpa using h2
theorem a40{ops:Array Oper}(hb:am4 ops=true){listed:Array Bool}(hsz:listed.size=ops.size):∀k,k<ops.size->listed.getD k true=false->Region.ready .any ops listed≠[]:=by
 intro k
 induction k using Nat.strongRecOn with
 | _ k ih =>
  intro hk hl hn
  by_cases hall:∃j,j<k/\listed.getD j true=false
  ·obtain⟨j,hj,hlj⟩:=hall
   exact ih j hj al hlj hn
  have hok:ops[k]? =some ops[k]:=Array.getElem?_eq_getElem hk
  have:k∈Region.ready .any ops listed:=by
   refine mem_ready.2 ⟨hl,ops[k],hok,fun e he hbi=>?_⟩
   have h2:=aO7 hb hk hok he hbi
   cases h3:listed.getD e.on true
   ·exact absurd ⟨e.on,h2,h3⟩ hall
   have:e.on<listed.size:=al
   simp[this]at h3 ⊢
   exact h3
  rw[hn]at this
  cases this
theorem bq0{a:Array Bool}{j:Nat}(h:j<a.size):a.getD j true=a.getD j false:=by simp[h]
end
end Go.Proofs.YtfbeblgnjeokaaaGreat

namespace Go.Proofs.YtfbeblgnjeokaaaGreat
def t6(k:Int):Int:=if k=1\/k=2 then 0 else if k=3 then 1 else if 4<=k/\k<=10 then 2 else if k=11 then 3 else -1
def X2(nv na:Nat)(k:Int):Int:=if k=1 then 256 else if k=2 then nv else if k=3 then na else 1
def atomB(e:c6):Bool:=decide (e.kind=1)||decide (e.kind=2)
def U0(nv na:Nat)(e:c6):Bool:=decide ((e.kids.length:Int)=t6 e.kind)&&decide (0<=e.value)&&decide (e.value<X2 nv na e.kind)
def aB7(e:c6):Bool:=decide (e.kind≠3)||(match e.kids with|k::_=>atomB k|[]=>false)
def i6(nv na:Nat):Nat->c6->Bool
 |0,_=>false
 |d+1,e=>U0 nv na e&&e.kids.all (i6 nv na d)&&aB7 e
def ai8:Nat->c6->Nat
 |0,_=>1
 |d+1,e=>1+(e.kids.map (ai8 d)).sum
def s7(nv na:Nat)(e:c6):Bool:=i6 nv na 5 e&&decide (1+A6 e<=15)
theorem N1(e:c6):A6 e=F4 e.kids:=by cases e;rfl
theorem a96(nv na:Nat):∀(d:Nat) (e:c6),i6 nv na d e=true->ai8 d e=1+A6 e:=by
 intro d
 induction d with
 |zero=>intro e h;simp[i6]at h
 | succ d ih =>
  intro e h
  simp only[i6,cm9,cn8]at h
  rw[ai8,N1]
  have key:∀ks:List c6,(∀e∈ks,i6 nv na d e=true)->(ks.map (ai8 d)).sum=F4 ks:=by
   intro ks
   induction ks with
   |nil=>intro _;rfl
   |cons a r ihr=>intro hk;rw[cq5,List.sum_cons,F4,ihr fun e he=>hk e (cq8 _ he),ih a (hk a cr0)]
  rw[key _ h.1.2]
theorem be5(nv na:Nat)(e:c6):s7 nv na e=(i6 nv na 5 e&&decide (ai8 5 e<=15)):=by
 unfold s7
 cases h:i6 nv na 5 e
 ·rfl
 rw[a96 nv na 5 e h]
theorem aW8(ks:List c6)(k:Nat):F4 (ks.take k)<=F4 ks:=by
 have:=ac4 (ks.take k) (ks.drop k)
 rw[List.take_append_drop]at this
 omega
def noneB(e:c6):Bool:=decide (e.kind=0)&&decide (e.value=0)&&decide (e.kids.length=0)
def r8(s:c5):Bool:=
 if(s.kind=3\/s.kind=4)then
  decide (s.target=0)&&(if s.kind=4 then decide (s.els.length=0)&&decide (1<=s.count)&&decide (s.count<=3)&&noneB s.index&&noneB s.value
   else decide (s.count=0)&&noneB s.index)
 else decide (s.body.length=0)&&decide (s.els.length=0)&&decide (s.count=0)&&(decide (s.kind=2)||noneB s.index)
def j6(nv na:Nat):Nat->c5->Bool
  |0,_=>false
  | d + 1, s => r8 s &&
    (if s.kind=1\/s.kind=5 then decide (0<=s.target)&&decide (s.target<nv)&&s7 nv na s.value
     else if s.kind=2 then decide (0<=s.target)&&decide (s.target<na)&&s7 nv na s.index&&atomB s.index&&s7 nv na s.value
     else if s.kind=3 then s7 nv na s.value&&s.body.all (j6 nv na d)&&s.els.all (j6 nv na d)
     else if s.kind=4 then s.body.all (j6 nv na d)
     else false)
def ah2(nv na:Nat)(d:Nat)(ss:List c5):Bool:=ss.all (j6 nv na d)
mutual
def nS:c5->Nat
 |⟨_,_,_,_,_,b,e⟩=>1+X3 b+X3 e
def X3:List c5->Nat
 |[]=>0
 |s::r=>nS s+X3 r
end
def l9(p:i7):Bool:=G5 p.vars p.arrays&&ah2 p.vars.length p.arrays.length 5 p.body&&decide (X3 p.body<=60)
end Go.Proofs.YtfbeblgnjeokaaaGreat

namespace Go.Proofs.YtfbeblgnjeokaaaGreat
open Go Go.RowKit
theorem K2(l:Int)(w:World):Calls Tryz.prog 120 #[.int .i64 l] w fun e w'=>e=.returned (.bool (i8 l))/\w=w':=by
 go_enter Tryz.func120,Tryz.ntmps120
 go_wp2
 all_goals go_ret
 all_goals exact⟨j8 (by simp[i8];try omega),rfl⟩
theorem aX6(v1 v2 v3:Value)(n1 n2:Nat)(x1 x2:List Value)(w:World)(h1:I6 w v1 n1 1 x1)(h2:I6 w v2 n2 1 x2):
  Calls Tryz.prog 28 #[.agg #[v1,v2,v3]] w fun e w'=>e=.returned (.agg #[v1,v2,.slice none 0 0])/\Below w.heap.size w w':=by
 obtain⟨a1,k1,rfl⟩:=h1.form
 obtain⟨a2,k2,rfl⟩:=h2.form
 clear h1 h2
 go_enter Tryz.func28,Tryz.ntmps28
 go_wp2
 go_returns
 exact⟨rfl,by go_grown⟩
theorem au3(v1 v2 v3:Value)(vars arrays:List Int)(w:World)(h1:I6 w v1 vars.length 1 (ints vars))(h2:I6 w v2 arrays.length 1 (ints arrays)):
  Calls Tryz.prog 79 #[.agg #[v1,v2,v3]] w fun e w'=>e=.returned (.bool (G5 vars arrays))/\Below w.heap.size w w':=by
 have B0:Below w.heap.size w (w.alloc (.cells #[v1,v2,v3] 43)):=by go_grown
 obtain⟨a1,c1,rfl,-,hm1,-,hc1⟩:=(h1.below B0).open1
 obtain⟨a2,c2,rfl,-,hm2,-,hc2⟩:=(h2.below B0).open1
 have HT:Hid (G5 vars arrays=(vars.all i8&&arrays.all i8&&decide (1<=vars.length)&&decide (vars.length<=12)&&decide (arrays.length<=2))):=rfl
 clear h1 h2
 go_enter Tryz.func79,Tryz.ntmps79
 go_wp2_with fail
 go_loop [3] (fun i=>∃k:Nat,k<=vars.length/\i=.int .i64 k/\(vars.take k).all i8=true) (fun i=>vars.length-(intOf i).toNat)
 case atStart=>exact⟨0,cp5 _,rfl,rfl⟩
 case round=>
  obtain⟨k,hk,rfl,ha⟩:=hrel
  have HA:=show Hid _ from ha
  clear ha
  by_cases hlt:k<vars.length
  ·obtain⟨b1,o1,rfl,hb1,hx⟩:=hc1 k hlt
   rw[al2 _ _ hlt]at hx
   have HS:=show Hid _ from G8 i8 vars k hlt
   clear hc1 hc2
   cases hl:i8 vars[k]
   all_goals
    have HL:=show Hid _ from hl
    clear hl
    go_wp2_with fail
    refine(K2 _ _).mono ?_
    rintro e w1 ⟨rfl,rfl⟩
    rw[HL.out]
    go_wp2_with fail
   ·go_ret
    exact⟨j8 (by rw[HT.out,ac8 hlt HL.out];rfl),B0⟩
   go_round
   case rel=>exact⟨k+1,al,by go_num,by rw[HS.out,HA.out,HL.out];rfl⟩
   case measure=>simp[intOf];omega
  have HA':=show Hid (vars.all i8=true)from by have:=HA.out;rwa[co3 al]at this
  clear HA hc1
  go_wp2_with fail
  go_loop [4] (fun i=>∃k:Nat,k<=arrays.length/\i=.int .i64 k/\(arrays.take k).all i8=true) (fun i=>arrays.length-(intOf i).toNat)
  case atStart=>exact⟨0,cp5 _,rfl,rfl⟩
  case round=>
   obtain⟨j,hj,rfl,ha⟩:=hrel
   have HB:=show Hid _ from ha
   clear ha
   by_cases hlj:j<arrays.length
   ·obtain⟨b1,o1,rfl,hb1,hx⟩:=hc2 j hlj
    rw[al2 _ _ hlj]at hx
    have HS:=show Hid _ from G8 i8 arrays j hlj
    clear hc2
    cases hl:i8 arrays[j]
    all_goals
     have HL:=show Hid _ from hl
     clear hl
     go_wp2_with fail
     refine(K2 _ _).mono ?_
     rintro e w1 ⟨rfl,rfl⟩
     rw[HL.out]
     go_wp2_with fail
    ·go_ret
     exact⟨j8 (by rw[HT.out,ac8 hlj HL.out];simp),B0⟩
    go_round
    case rel=>exact⟨j+1,al,by go_num,by rw[HS.out,HB.out,HL.out];rfl⟩
    case measure=>simp[intOf];omega
   have HB':=show Hid (arrays.all i8=true)from by have:=HB.out;rwa[co3 al]at this
   clear HB hc2
   go_wp2_with fail
   all_goals go_ret
   all_goals refine⟨j8 ?_,B0⟩
   all_goals rw[HT.out,HA'.out,HB'.out]
   all_goals rw[cq3]
   all_goals simp
   all_goals omega
theorem aX3(v1 v2 v3:Value)(c:d9)(kd:UInt8)(n:Int)(w:World)(h1:I6 w v1 c.vars.length 1 (ints c.vars))(h2:I6 w v2 c.arrays.length 1 (ints c.arrays))(h3:aA5 w v3 c.list):
  Calls Tryz.prog 123 #[.agg #[v1,v2,v3],.int .u8 kd.toNat,.int .i64 n] w fun e w'=>e=.returned (.bool (V6 c kd n))/\Below w.heap.size w w':=by
 obtain⟨a1,k1,rfl,-,q1,-,-⟩:=h1.open1
 obtain⟨a2,k2,rfl,-,q2,-,-⟩:=h2.open1
 obtain⟨a3,k3,rfl,-,q3,-,-⟩:=h3.open
 have hk:kd.toNat<256:=kd.toNat_lt
 have HK:∀m:UInt8,(kd=m)=((kd.toNat:Int)=(m.toNat:Int)):=fun m=>by
  rw[eq_iff_iff]
  constructor
  ·rintro rfl;rfl
  intro h;exact UInt8.toNat_inj.1 al
 have HK':=show Hid _ from HK
 clear HK h1 h2 h3
 obtain⟨z,hz⟩:∃z,z=kd.toNat:=⟨_,rfl⟩
 rw[<-hz]at hk ⊢
 have HZ:=show Hid _ from hz
 clear hz
 go_enter Tryz.func123,Tryz.ntmps123
 go_wp2_with fail
 all_goals go_ret
 all_goals refine⟨j8 ?_,by go_grown⟩
 all_goals unfold V6
 all_goals simp only[HK'.out, <-HZ.out,show(UInt8.toNat 114)=114 from rfl,show(UInt8.toNat 99)=99 from rfl,show(UInt8.toNat 118)=118 from rfl,show(UInt8.toNat 97)=97 from rfl,show(UInt8.toNat 111)=111 from rfl]
 all_goals clear HK' HZ hk q1 q2 q3
 all_goals simp_all
 all_goals omega
theorem ap9(op:Int)(w:World)(h1:1<=op)(h2:op<=13):
  Calls Tryz.prog 121 #[.int .i64 op] w fun e w'=>e=.returned (.string ⟨(m7 op).toArray⟩)/\Below w.heap.size w w':=by
 have h:op=1\/op=2\/op=3\/op=4\/op=5\/op=6\/op=7\/op=8\/op=9\/op=10\/op=11\/op=12\/op=13:=al
 clear h1 h2
 rcases h with rfl|rfl|rfl|rfl|rfl|rfl|rfl|rfl|rfl|rfl|rfl|rfl|rfl
 all_goals
  go_enter Tryz.func121,Tryz.ntmps121
  go_wp2_with fail
  go_ret
  exact⟨by simp[m7],by go_grown⟩
theorem aX4(x:d7)(w:World):
  Calls Tryz.prog 122 #[x.v] w fun e w'=>∃u,e=.returned u/\C5 w' w.heap.size w'.heap.size 3 1 u 4 (ints [x.a,x.b,x.c,x.d])/\Below w.heap.size w w':=by
 obtain⟨x0,x1,x2,x3,x4⟩:=x
 go_enter Tryz.func122,Tryz.ntmps122
 go_wp2_with fail
 go_ret
 refine⟨_,rfl,(z6 _ #[.int .i64 x1,.int .i64 x2,.int .i64 x3,.int .i64 x4] 4 1 _ ao rfl al).wide ao ao,by go_grown⟩
theorem bt6{e:c6}(h3:e.kind=3)(hl:0<e.kids.length):aB7 e=(decide (e.kids[0].kind=1)||decide (e.kids[0].kind=2)):=by
 rcases e with⟨k,n,ks⟩
 cases ks with
 |nil=>simp[c6.kids]at hl
 |cons a r=>
  have h3':k=3:=h3
  subst h3'
  simp only[aB7,c6.kids,List.getElem_cons_zero,atomB]
  rw[decide_eq_false (by simp[c6.kind])]
  rfl
theorem as8{nv na d:Nat}{e:c6}(h:i6 nv na (d+1) e=true):e.kids.length<=3/\∀x∈e.kids,i6 nv na d x=true:=by
 simp only[i6,U0,cm9,decide_eq_true_eq,cn8]at h
 refine⟨?_,h.1.2⟩
 have h1:=h.1.1.1.1
 have:t6 e.kind<=3:=by unfold t6;(repeat' split)<;>omega
 omega
theorem bd1{ks:List c6}{B:Nat}(h:∀x∈ks,1+A6 x<=B):F4 ks<=ks.length*B:=by
 induction ks with
 |nil=>simp[F4]
 |cons a r ih=>
  have h1:=h a cr0
  have h2:=ih fun x hx=>h x (cq8 _ hx)
  simp only[F4,cn6,cq7];omega
theorem bA5(nv na:Nat):∀(d:Nat) (e:c6),i6 nv na d e=true->1+A6 e<=4^d:=by
 intro d
 induction d with
 |zero=>intro e h;simp[i6]at h
 |succ d ih=>
  intro e h
  obtain⟨h1,h2⟩:=as8 h
  have h3:=bd1 (ks:=e.kids) fun x hx=>ih x (h2 x hx)
  have h4:e.kids.length*4^d<=3*4^d:=cr3 _ h1
  have h5:0<4^d:=Nat.pos_of_ne_zero ao
  rw[N1,Nat.pow_succ]
  omega
theorem F9(n lo hi:Int)(w:World):Calls Tryz.prog 74 #[.int .i64 n,.int .i64 lo,.int .i64 hi] w fun e w'=>e=.returned (.bool (decide (lo<=n)&&decide (n<=hi)))/\w=w':=by
 go_enter Tryz.func74,Tryz.ntmps74
 go_wp2
 all_goals go_ret
 all_goals exact⟨j8 (by simp;try omega),rfl⟩
theorem Y2(l:Int)(w:World):Calls Tryz.prog 167 #[.int .i64 l] w fun e w'=>e=.returned (.bool (i8 l))/\w=w':=by
 go_enter Tryz.func167,Tryz.ntmps167
 go_wp2_with fail
 refine(F9 l 0 3 _).mono ?_
 rintro e w1 ⟨rfl,rfl⟩
 go_wp2_with fail
 go_ret
 exact⟨rfl,rfl⟩
theorem aD6(l:Int)(w:World):Calls Tryz.prog 168 #[.int .i64 l] w fun e w'=>e=.returned (.bool (!i8 l))/\w=w':=by
 go_enter Tryz.func168,Tryz.ntmps168
 go_wp2_with fail
 refine(Y2 l _).mono ?_
 rintro e w1 ⟨rfl,rfl⟩
 go_wp2_with fail
 go_ret
 exact⟨rfl,rfl⟩
theorem aP9(p:Int->Bool)(f:FuncId)(v:Value)(xs:List Int)(w:World)(h:I6 w v xs.length 1 (ints xs))(he:∀args w,(callFunc f args).run Tryz.prog w=.ok (.enter f args) w)
  (hf:∀x w',Calls Tryz.prog f #[.int .i64 x] w' fun e w''=>e=.returned (.bool (p x))/\w'=w''):
  Calls Tryz.prog 186 #[v,.func (.func f) #[] #[]] w fun e w'=>∃r:Int,e=.returned (.int .i64 r)/\decide (0<=r)=xs.any p/\w=w':=by
 obtain⟨a1,c1,rfl,-,hm1,-,hc1⟩:=h.open1
 have HF:=show Hid _ from hf
 clear h hf
 go_enter Tryz.func186,Tryz.ntmps186
 go_wp2_with fail
 go_loop [5,8] (fun _ i=>∃k:Nat,k<=xs.length/\i=.int .i64 k/\(xs.take k).any p=false) (fun _ i=>xs.length-(intOf i).toNat)
 case atStart=>exact⟨0,cp5 _,rfl,rfl⟩
 case round=>
  obtain⟨k,hk,rfl,ha⟩:=hrel
  have HA:=show Hid _ from ha
  clear ha
  by_cases hlt:k<xs.length
  ·obtain⟨b1,o1,rfl,hb1,hx⟩:=hc1 k hlt
   rw[al2 _ _ hlt]at hx
   clear hc1
   cases hp:p xs[k]
   all_goals
    have HP:=show Hid _ from hp
    clear hp
    go_wp2_with fail
    refine(HF.out xs[k] _).mono ?_
    rintro e w1 ⟨rfl,rfl⟩
    rw[HP.out]
    go_wp2_with fail
   ·go_round
    case rel=>exact⟨k+1,al,by go_num,by rw[n7 _ _ hlt,List.any_append,HA.out];simp[HP.out]⟩
    case measure=>simp[intOf];omega
   go_ret
   exact⟨_,rfl,by rw[decide_eq_true al];symm;rw[List.any_eq_true];exact⟨_,co6 hlt,HP.out⟩,rfl⟩
  go_wp2_with fail
  go_ret
  refine⟨_,rfl,?_,rfl⟩
  have:=HA.out
  rw[co3 al]at this
  rw[this];rfl
theorem az6(p:Int->Bool)(f:FuncId)(v:Value)(xs:List Int)(w:World)(h:I6 w v xs.length 1 (ints xs))(he:∀args w,(callFunc f args).run Tryz.prog w=.ok (.enter f args) w)
  (hf:∀x w',Calls Tryz.prog f #[.int .i64 x] w' fun e w''=>e=.returned (.bool (p x))/\w'=w''):
  Calls Tryz.prog 164 #[v,.func (.func f) #[] #[]] w fun e w'=>e=.returned (.bool (xs.any p))/\w=w':=by
 obtain⟨a1,c1,rfl,-⟩:=h.open1
 have HF:=show Hid _ from hf
 have HE:=show Hid _ from he
 clear hf he
 go_enter Tryz.func164,Tryz.ntmps164
 go_wp2_with fail
 refine(aP9 p f _ xs _ h HE.out HF.out).mono ?_
 rintro e w1 ⟨r,rfl,hr,rfl⟩
 have HR:=show Hid _ from hr
 clear hr
 go_wp2_with fail
 go_ret
 exact⟨j8 HR.out,rfl⟩
theorem bb3(xs:List Int):(!xs.any fun l=> !i8 l)=xs.all i8:=by
 induction xs with
 |nil=>rfl
 |cons x r ih=>simp only[List.any_cons,List.all_cons, <-ih];cases i8 x<;>simp
theorem ab4(v:Value)(xs:List Int)(w:World)(h:I6 w v xs.length 1 (ints xs)):
  Calls Tryz.prog 115 #[v] w fun e w'=>e=.returned (.bool (xs.all i8))/\w=w':=by
 obtain⟨a1,c1,rfl,-⟩:=h.open1
 go_enter Tryz.func115,Tryz.ntmps115
 go_wp2_with fail
 refine(az6 (fun l=> !i8 l) 168 _ xs _ h (ao1 Tryz.func168 aj rfl) (fun x w'=>aD6 x w')).mono ?_
 rintro e w1 ⟨rfl,rfl⟩
 have HN:=show Hid _ from bb3 xs
 go_wp2_with fail
 go_ret
 exact⟨j8 HN.out,rfl⟩
theorem aQ0(v1 v2:Value)(vars arrays:List Int)(w:World)(h1:I6 w v1 vars.length 1 (ints vars))(h2:I6 w v2 arrays.length 1 (ints arrays)):
  Calls Tryz.prog 73 #[v1,v2] w fun e w'=>e=.returned (.bool (G5 vars arrays))/\w=w':=by
 obtain⟨a1,c1,rfl,-,q1,-⟩:=h1.open1
 obtain⟨a2,c2,rfl,-,q2,-⟩:=h2.open1
 have HT:Hid (G5 vars arrays=(vars.all i8&&arrays.all i8&&decide (1<=vars.length)&&decide (vars.length<=12)&&decide (arrays.length<=2))):=rfl
 by_cases hn:(1:Int)<=(vars.length:Int)/\(vars.length:Int)<=12
 ·have hb:(decide ((1:Int)<=vars.length)&&decide ((vars.length:Int)<=12))=true:=by simpa using hn
  have HB:=show Hid _ from hb
  by_cases hm:(arrays.length:Int)<=2
  ·cases hv:vars.all i8
   ·have HV:=show Hid _ from hv
    clear hv hb hn
    go_enter Tryz.func73,Tryz.ntmps73
    go_wp2_with fail
    refine(F9 _ 1 12 _).mono ?_
    rintro e w1 ⟨rfl,rfl⟩
    rw[HB.out]
    go_wp2_with fail
    refine(ab4 _ vars _ h1).mono ?_
    rintro e w1 ⟨rfl,rfl⟩
    rw[HV.out]
    go_wp2_with fail
    go_ret
    exact⟨j8 (by rw[HT.out,HV.out];rfl),rfl⟩
   have HV:=show Hid _ from hv
   have hn':=show Hid _ from hn
   have hm':=show Hid _ from hm
   clear hv hb hn
   go_enter Tryz.func73,Tryz.ntmps73
   go_wp2_with fail
   refine(F9 _ 1 12 _).mono ?_
   rintro e w1 ⟨rfl,rfl⟩
   rw[HB.out]
   go_wp2_with fail
   refine(ab4 _ vars _ h1).mono ?_
   rintro e w1 ⟨rfl,rfl⟩
   rw[HV.out]
   go_wp2_with fail
   refine(ab4 _ arrays _ h2).mono ?_
   rintro e w1 ⟨rfl,rfl⟩
   go_wp2_with fail
   go_ret
   refine⟨j8 ?_,rfl⟩
   have h3:=hn'.out
   have h4:=hm'.out
   rw[HT.out,HV.out,decide_eq_true (show 1<=vars.length by omega),decide_eq_true (show vars.length<=12 by omega),decide_eq_true (show arrays.length<=2 by omega)]
   simp
  have hF:Hid (G5 vars arrays=false):=by unfold Hid;rw[HT.out,decide_eq_false (show ¬arrays.length<=2 by omega)];simp
  clear hb hn
  go_enter Tryz.func73,Tryz.ntmps73
  go_wp2_with fail
  refine(F9 _ 1 12 _).mono ?_
  rintro e w1 ⟨rfl,rfl⟩
  rw[HB.out]
  go_wp2_with fail
  go_ret
  exact⟨j8 hF.out.symm,rfl⟩
 have hb:(decide ((1:Int)<=vars.length)&&decide ((vars.length:Int)<=12))=false:=by
  rw[Bool.eq_false_iff];simp only[ne_eq,cm9,decide_eq_true_eq];exact hn
 have HB:=show Hid _ from hb
 have hF:Hid (G5 vars arrays=false):=by
  unfold Hid;rw[HT.out]
  rcases Classical.not_and_iff_not_or_not.1 hn with h|h
  ·rw[decide_eq_false (show ¬1<=vars.length by omega)];simp
  rw[decide_eq_false (show ¬vars.length<=12 by omega)];simp
 clear hb hn
 go_enter Tryz.func73,Tryz.ntmps73
 go_wp2_with fail
 refine(F9 _ 1 12 _).mono ?_
 rintro e w1 ⟨rfl,rfl⟩
 rw[HB.out]
 go_wp2_with fail
 go_ret
 exact⟨j8 hF.out.symm,rfl⟩
end Go.Proofs.YtfbeblgnjeokaaaGreat

