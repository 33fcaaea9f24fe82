/- Part 8: functions on the way, plain laws. Conditions: as said. -/
import Derived.Test.YtfbeblgnjeokaaaGreatK1
import Derived.Test.YtfbeblgnjeokaaaGreatK2
import Derived.Test.YtfbeblgnjeokaaaGreatK3
import Derived.Test.YtfbeblgnjeokaaaGreatK5
import Derived.Test.YtfbeblgnjeokaaaGreatK6
set_option maxRecDepth 100000
set_option maxHeartbeats 16000000
set_option linter.unusedVariables false
set_option linter.unusedSimpArgs false
open Array renaming replicate → cq0
open List renaming all_eq_true → cn8, append_assoc → cr6, getElem?_append_left → co2, getElem?_append_right → cp9, getElem?_cons_succ → cn5, getElem?_cons_zero → cn1, getElem?_eq_getElem → cn0, getElem?_eq_some_iff → co0, getElem?_set → cr5, getElem_mem → co6, length_append → cn3, length_replicate → co5, length_set → cp3, replicate → cm8
open Nat renaming le_refl → cn4, le_trans → cp4, lt_or_ge → cp1, zero_le → cp5
open True renaming intro → co8

namespace Go.Proofs.YtfbeblgnjeokaaaGreat
open Go Go.RowKit
theorem b06{w:World}{lo hi:Nat}{u:Value}{m:List (List Bool)}(h:I7 w lo hi u m){φ:Nat->Prop}(hf:∀g,lo<=g->φ g):RD w φ (.brows m) u:=by
 obtain⟨vs,h1,h2,_⟩:=h
 refine⟨vs,A9 h1.1 fun g hg=>hf g (h1.lt g hg).1,fun i hi=>?_⟩
 have hl:i<vs.length:=by rw[h1.row.1];omega
 have h3:=h2 i _ _ (cn0 hl) (cn0 hi)
 exact⟨_,cn0 hl,A9 h3.1 fun g hg=>hf g (h3.lt g hg).1⟩
theorem bP1{ι:Type}{φ ψ:Nat->Prop}{w0 w w':World}{F:ι->Rs}{ρ:Nat->Value}{a b c d:D}{u:Value}(M:k8 φ ψ w0 w (n6 F ρ (p6 [.dat a,.dat b,.dat c])))(hbl:Below w.heap.size w w')(hr:∀φ':Nat->Prop,(∀g,w.heap.size<=g->φ' g)->RD w' φ' d u):k8 φ ψ w0 w' (n6 F (fun i=>if i=3 then u else ρ i) (p6 [.dat a,.dat b,.dat c,.dat d])):=by
 have ho':∀k,¬k=Sum.inr 3->n6 F (fun i=>if i=3 then u else ρ i) (p6 [.dat a,.dat b,.dat c,.dat d]) k=n6 F ρ (p6 [.dat a,.dat b,.dat c]) k:=by
  intro k hk
  cases k with
  |inl i=>rfl
  |inr j=>
   match j,hk with
   |0,_=>rfl
   |1,_=>rfl
   |2,_=>rfl
   |3,h=>exact absurd rfl h
   |j+4,_=>rfl
 refine M.grow hbl (fun k=>k=.inr 3) ho' (by rintro k rfl b hb;cases hb) (by rintro j k b hjk rfl rfl;exact absurd rfl hjk) ?_
 rintro k rfl
 refine⟨RD.nice _ _,hr _ fun g h1=>⟨M.fresh g (by have:=M.kept.size;omega),fun k hk=>?_⟩⟩
 by_cases e:k=.inr 3
 ·subst e;cases hk
 rw[ho' k e]at hk
 have:=M.lt hk
 omega
section
variable{f:FuncId}{c:d9}
theorem b07{m:List (List Bool)}{b:Bool}(h:∀(v:Value) (w:World),v6 w v c->Calls Tryz.prog f #[v] w fun e w'=>∃u,e=.returned (.tuple #[u,.bool b])/\I7 w' w.heap.size w'.heap.size u m/\Below w.heap.size w w'):j7.ok Tryz.prog ⟨f,[.agg [.ref 0,.ref 1,.ref 2]],[.dat (.ints c.vars),.dat (.ints c.arrays),.dat (.instrs c.list)],[.dat (.ints c.vars),.dat (.ints c.arrays),.dat (.instrs c.list),.dat (.brows m)],.tup [.ref 3,.v (.bool b)]⟩:=by
 intro ι φ ψ w0 w F ρ M
 refine(h (.agg #[ρ 0,ρ 1,ρ 2]) w ⟨_,_,_,rfl,A4.row (M.datAt (id:=0) (d:=.ints c.vars) rfl),A4.row (M.datAt (id:=1) (d:=.ints c.arrays) rfl),A4.row (M.datAt (id:=2) (d:=.instrs c.list) rfl)⟩).mono ?_
 rintro e w' ⟨u,rfl,ho,hbl⟩
 exact⟨_,fun i (hi:i<3)=>if_neg (show ¬i=3 by omega),by simp[AV.val,AV.vals],bP1 (u:=u) M hbl fun _ hf=>b06 ho hf⟩
end
noncomputable def tn0(c:d9):List (List Bool):=if aP8 c=true then ai6 c else cm8 c.list.length (cm8 14 false)
theorem aL5(c:d9):(Y1 c).all D7=true:=by
 unfold Y1
 split
 ·rename_i h;exact h.choose_spec.1.2.1
 rfl
theorem bz2(c:d9):(tn0 c).all D7=true:=by
 unfold tn0 ai6
 split
 ·split
  ·exact aL5 c
  rfl
 rw[cn8]
 intro r hr
 rw[(List.mem_replicate.1 hr).2]
 rfl
theorem bn8{m:List (List Bool)}(h:m.all D7=true){k:Nat}(hk:k<m.length):m[k].length=0\/m[k].length=14:=by
 have:=cn8.1 h _ (co6 hk)
 unfold D7 at this
 simpa using this
def tnR(r:List Bool):List Bool:=if 0<r.length then r.set 12 true else r
def tnK(m:List (List Bool))(k:Nat):List (List Bool):=(m.take k).map tnR++m.drop k
def tnP(b:List UInt8)(j:Int)(m:List (List Bool)):List (List Bool)×Int:=
 if m.length=0 then(m,j)else
 if pk b (j+1) 6=0 then(if 0<(rowAt m (pk b j m.length)).length then(m.set (pk b j m.length).toNat ((rowAt m (pk b j m.length)).set (pk b (j+1+1) 14).toNat (decide (pk b (j+1+1+1) 2=0))),j+1+1+1+1)else(m,j+1+1))else
 if pk b (j+1) 6=1 then(m.set (pk b j m.length).toNat [],j+1+1)else
 if pk b (j+1) 6=2 then(m.map tnR,j+1+1)else
 if pk b (j+1) 6=3 then(if pk b (j+1+1) 4=0 then(m.take (m.length-1),j+1+1+1)else(m,j+1+1+1))else(m,j+1+1)
theorem b63(m:List (List Bool)):tnK m 0=m:=by simp[tnK]
theorem bM0(m:List (List Bool)):tnK m m.length=m.map tnR:=by simp[tnK]
theorem aW6(m:List (List Bool))(k:Nat):(tnK m k).length=m.length:=by simp[tnK];omega
theorem bc8{m:List (List Bool)}{k:Nat}(hk:k<m.length):(tnK m k)[k]'(by rw[aW6];exact hk)=m[k]:=by
 unfold tnK
 rw[List.getElem_append_right ah]
 simp[show k-min k m.length=0 by omega]
theorem a33{m:List (List Bool)}{k:Nat}(hk:k<m.length):tnK m (k+1)=(tnK m k).set k (tnR m[k]):=by
 unfold tnK
 rw[List.set_append_right _ _ ah,List.take_succ_eq_append_getElem hk,List.map_append,cr6]
 congr 1
 rw[List.drop_eq_getElem_cons hk,List.length_map,List.length_take,show k-min k m.length=0 by omega]
 rfl
theorem b62{r:List Bool}(h:r.length=0):tnR r=r:=by unfold tnR;rw[if_neg al]
theorem b61{r:List Bool}(h:0<r.length):tnR r=r.set 12 true:=by unfold tnR;rw[if_pos h]
def F7(B:Nat->Prop)(u:Value)(m:List (List Bool))(w:World):Prop:=
 ∃vs:List Value,w.ownsRow 0 63 1 u m.length vs/\(∀g,u.ownBlock=some g->B g)/\
  (∀(i:Nat) (x:Value) (r:List Bool),vs[i]? =some x->m[i]? =some r->w.ownsRow 0 4 1 x r.length (bools r)/\∀g,x.ownBlock=some g->B g)/\
  (∀(i j:Nat) (x y:Value),i<j->vs[i]? =some x->vs[j]? =some y->ad7 x y)/\∀(i:Nat) (x:Value),vs[i]? =some x->ad7 x u
section
variable{B:Nat->Prop}{u:Value}{m:List (List Bool)}{w w':World}
theorem F7.same(h:F7 B u m w)(hs:∀b,B b->b<w.heap.size->w'.heap[b]? =w.heap[b]?):F7 B u m w':=by
 obtain⟨vs,h1,h2,h3,h4,h5⟩:=h
 exact⟨vs,A8 h1 fun g hg=>hs g (h2 g hg) (World.ownsRow.lt h1 g hg).2,h2,fun i x r hx hr=>⟨A8 (h3 i x r hx hr).1 fun g hg=>hs g ((h3 i x r hx hr).2 g hg) (World.ownsRow.lt (h3 i x r hx hr).1 g hg).2,(h3 i x r hx hr).2⟩,h4,h5⟩
theorem F7.of_own{lo hi:Nat}(h:I7 w lo hi u m):F7 (fun b=>lo<=b/\b<w.heap.size) u m w:=by
 obtain⟨vs,h1,h2,h3,h4⟩:=h
 exact⟨vs,(h1.wide (cp5 _) (cn4 _)).1,fun g hg=>⟨(h1.lt g hg).1,(h1.lt g hg).2.2⟩,fun i x r hx hr=>⟨((h2 i x r hx hr).wide (cp5 _) (cn4 _)).1,fun g hg=>⟨((h2 i x r hx hr).lt g hg).1,((h2 i x r hx hr).lt g hg).2.2⟩⟩,h3,h4⟩
theorem F7.rd(h:F7 B u m w){φ:Nat->Prop}(hf:∀b,B b->φ b):RD w φ (.brows m) u:=by
 obtain⟨vs,h1,h2,h3,_⟩:=h
 refine⟨vs,A9 h1 fun g hg=>hf g (h2 g hg),fun i hi=>?_⟩
 have hl:i<vs.length:=by have:=h1.1;simp at this;omega
 have h4:=h3 i _ _ (cn0 hl) (cn0 hi)
 exact⟨_,cn0 hl,A9 h4.1 fun g hg=>hf g (h4.2 g hg)⟩
theorem F7.form(h:F7 B u m w):∃a cap,u=.slice a m.length cap/\m.length<=9223372036854775807/\m.length<=cap:=by
 obtain⟨vs,h1,_⟩:=h
 obtain⟨_,a,cap,hv,k1,k2,_⟩:=R4 h1
 exact⟨a,cap,hv,by unfold maxLen at k2;omega,k1⟩
theorem F7.at(h:F7 B u m w){i:Nat}(hi:i<m.length):∃g cap x,u=.slice (some ⟨g,0,none⟩) m.length cap/\B g/\g<w.heap.size/\(∀o,w.frozen? ⟨g,o,none⟩=false)/\w.cell? ⟨g,i,none⟩=some x/\w.ownsRow 0 4 1 x m[i].length (bools m[i])/\∀b,x.ownBlock=some b->B b/\b≠g:=by
 obtain⟨vs,h1,h2,h3,h4,h5⟩:=h
 have hl:i<vs.length:=by have:=h1.1;simp at this;omega
 obtain⟨g,cap,rfl,-,-,k1,-,-,k2,k3⟩:=(C5.mk' h1).open al
 have hx:=cn0 hl
 have h6:=h3 i _ _ hx (cn0 hi)
 exact⟨g,cap,vs[i],rfl,h2 g rfl,k1,k2,k3 i _ hx,h6.1,fun b hb=>⟨h6.2 b hb,fun e=>h5 i _ hx b hb (by rw[e];rfl)⟩⟩
theorem am9(w:World)(b j:Nat)(x:Value)(k:Nat)(h:k≠b):(w.setCell ⟨b,j,none⟩ x).heap[k]? =w.heap[k]? :=Below.heap_setCell _ _ _ _ h
theorem F7.setBit(h:F7 B u m w){i:Nat}(hi:i<m.length){g cap gy cy:Nat}(hu:u=.slice (some ⟨g,0,none⟩) m.length cap)(hc:w.cell? ⟨g,i,none⟩=some (.slice (some ⟨gy,0,none⟩) m[i].length cy)){k:Nat}(hk:k<m[i].length)(y:Bool):F7 B u (m.set i (m[i].set k y)) (w.setCell ⟨gy,k,none⟩ (.bool y)):=by
 subst hu
 obtain⟨vs,h1,h2,h3,h4,h5⟩:=h
 have hl:i<vs.length:=by have:=h1.1;simp at this;omega
 obtain⟨g',cap',hv,-,-,k1,-,-,k2,k3⟩:=(C5.mk' h1).open al
 cases hv
 have hx:=cn0 hl
 have he:vs[i]=.slice (some ⟨gy,0,none⟩) m[i].length cy:=by have:=k3 i _ hx;rw[hc]at this;exact(Option.some.inj this).symm
 have hxe:vs[i]? =some (.slice (some ⟨gy,0,none⟩) m[i].length cy):=by rw[hx,he]
 have hgy:gy≠g:=fun e=>h5 i _ hxe gy rfl (by rw[e];rfl)
 refine⟨vs,by rw[cp3];exact A8 h1 fun b hb=>am9 _ _ _ _ _ (by cases hb;exact fun e=>hgy e.symm),h2,fun q x r hq hr=>?_,h4,fun q x hq=>?_⟩
 ·rw[cr5]at hr
  by_cases e:i=q
  ·subst e
   rw[if_pos rfl,if_pos hi]at hr
   cases hr
   rw[hxe]at hq
   cases hq
   have h6:=h3 i _ _ hxe (cn0 hi)
   refine⟨?_,h6.2⟩
   have:=((C5.mk' h6.1).setCell (j:=k) (by simp[bools];omega) (.bool y)).1
   rw[cp3,show bools (m[i].set k y)=(bools m[i]).set k (.bool y) by simp[bools,List.map_set]]
   exact this
  rw[if_neg e]at hr
  have h6:=h3 q x r hq hr
  refine⟨A8 h6.1 fun b hb=>am9 _ _ _ _ _ fun e2=>?_,h6.2⟩
  subst e2
  rcases Nat.lt_or_gt_of_ne e with hlt|hgt
  ·exact h4 i q _ _ hlt hxe hq b rfl hb
  exact h4 q i _ _ hgt hq hxe b hb rfl
 exact h5 q x hq
theorem F7.setRow(h:F7 B u m w){i:Nat}(hi:i<m.length){g cap:Nat}(hu:u=.slice (some ⟨g,0,none⟩) m.length cap){x:Value}{r:List Bool}{n:Nat}(hx:w.ownsRow 0 4 1 x r.length (bools r))(hn:∀b,x.ownBlock=some b->n<=b)(hB:∀b,B b->b<n):
  F7 (fun b=>B b\/n<=b) u (m.set i r) (w.setCell ⟨g,i,none⟩ x):=by
 subst hu
 obtain⟨vs,h1,h2,h3,h4,h5⟩:=h
 have hvl:vs.length=m.length:=by have:=h1.1;simp at this;omega
 have hg:B g:=h2 g rfl
 refine⟨vs.set i x,?_,fun b hb=>.inl (h2 b hb),fun q y s hq hs=>?_,bq9 h4 fun q y hq hne b hb=>?_,fun q y hq b hb=>?_⟩
 ·rw[cp3]
  exact((C5.mk' h1).setCell al x).1
 ·rw[cr5]at hq hs
  by_cases e:i=q
  ·subst e
   rw[if_pos rfl,if_pos hi]at hs
   rw[if_pos rfl,if_pos al]at hq
   cases hs;cases hq
   exact⟨A8 hx fun b hb=>am9 _ _ _ _ _ (by have:=hn b hb;have:=hB g hg;omega),fun b hb=>.inr (hn b hb)⟩
  rw[if_neg e]at hq hs
  have h6:=h3 q y s hq hs
  exact⟨A8 h6.1 fun b hb=>am9 _ _ _ _ _ fun e2=>h5 q y hq b hb (by rw[e2];rfl),fun b hb=>.inl (h6.2 b hb)⟩
 ·intro hx2
  have h0:q<m.length:=by have:=(co0.1 hq).1;omega
  have h6:=(h3 q y _ hq (cn0 h0)).2 b hb
  have:=hn b hx2;have:=hB b h6;omega
 rw[cr5]at hq
 split at hq
 ·split at hq
  ·cases hq
   intro e
   have e:g=b:=Option.some.inj e
   have:=hn b hb;have:=hB g hg;omega
  cases hq
 exact h5 q y hq b hb
theorem F7.cut(h:F7 B u m w):F7 (fun g=>B g/\g<w.heap.size) u m w:=by
 obtain⟨vs,h1,h2,h3,h4,h5⟩:=h
 exact⟨vs,h1,fun g hg=>⟨h2 g hg,(World.ownsRow.lt h1 g hg).2⟩,fun i x r hx hr=>⟨(h3 i x r hx hr).1,fun g hg=>⟨(h3 i x r hx hr).2 g hg,(World.ownsRow.lt (h3 i x r hx hr).1 g hg).2⟩⟩,h4,h5⟩
theorem bL9{g cap k:Nat}(h:F7 B (.slice (some ⟨g,0,none⟩) m.length cap) (tnK m k) w)(hk:k<m.length):∃ax L cx,w.cell? ⟨g,k,none⟩=some (.slice ax L cx)/\L=m[k].length/\(0<L->∃gy,ax=some ⟨gy,0,none⟩/\B gy/\(∀o,w.frozen? ⟨gy,o,none⟩=false)/\∀p,p<L->∃old,w.cell? ⟨gy,p,none⟩=some old):=by
 obtain⟨g',cap',x,hu,-,-,-,hc,hx,hb⟩:=h.at (i:=k) (by rw[aW6];exact hk)
 have e:g'=g:=by simp only[Value.slice.injEq,Option.some.injEq,Addr.mk.injEq]at hu;exact hu.1.1.symm
 subst e
 rw[bc8 hk]at hx
 obtain⟨_,ax,cx,rfl,-,-,-⟩:=R4 hx
 refine⟨ax,_,cx,hc,rfl,fun hl=>?_⟩
 obtain⟨gy,cy,hv,-,-,-,-,-,hf,hcy⟩:=(C5.mk' hx).open hl
 cases hv
 exact⟨gy,rfl,(hb gy rfl).1,hf,fun p hp=>⟨_,hcy p _ (t0 _ p hp)⟩⟩
theorem bL8{g cap k gy cx:Nat}(h:F7 B (.slice (some ⟨g,0,none⟩) m.length cap) (tnK m k) w)(hk:k<m.length)(hc:w.cell? ⟨g,k,none⟩=some (.slice (some ⟨gy,0,none⟩) 14 cx))(h14:m[k].length=14):F7 B (.slice (some ⟨g,0,none⟩) m.length cap) (tnK m (k+1)) (w.setCell ⟨gy,12,none⟩ (.bool true)):=by
 have hl:=aW6 m k
 have e:=bc8 hk
 rw[a33 hk,b61 al, <-e]
 refine h.setBit (by rw[hl];exact hk) (by rw[hl]) (cy:=cx) ?_ (by rw[e,h14];omega) true
 rw[hc,e,h14]
theorem bz1{k:Nat}(hk:k<m.length)(h0:m[k].length=0):tnK m (k+1)=tnK m k:=by
 rw[a33 hk,b62 h0, <-bc8 hk]
 exact List.set_getElem_self _
end
def tnF{ι:Type}(F:ι->Rs)(ρ:Nat->Value)(c:d9)(R:Rs):Option (ι ⊕ Nat)->Rs
 |none=>R
 |some (.inl i)=>F i
 |some (.inr n)=>(p6 [dI c.vars,dI c.arrays,.dat (.instrs c.list)] n).res (fun k=>ρ (k+2)) n
abbrev tnS(b:List UInt8)(j:Int):List It:=[.box [.ref 1,iA j],dY b]
abbrev tnC(b:List UInt8)(j:Int)(c:d9):List It:=[.box [.ref 1,iA j],dY b,dI c.vars,dI c.arrays,.dat (.instrs c.list)]
def TnS{ι:Type}(φ ψ:Nat->Prop)(w0:World)(F:ι->Rs)(ρ:Nat->Value)(b:List UInt8)(c:d9)(w:World)(j:Int)(R:Rs):Prop:=
 ∃ρ':Nat->Value,ρ' 0=ρ 0/\ρ' 1=ρ 1/\k8 φ ψ w0 w (n6 (tnF F ρ c R) ρ' (p6 (tnS b j)))
section
variable{ι:Type}{φ ψ:Nat->Prop}{w0 w w':World}{F:ι->Rs}{ρ:Nat->Value}{b:List UInt8}{c:d9}{j:Int}{R:Rs}{B:Nat->Prop}{u:Value}{m:List (List Bool)}
theorem TnS.start(M:k8 φ ψ w0 w (n6 F ρ (p6 (tnC b j c)))):TnS φ ψ w0 F ρ b c w j Rs.none:=by
 refine⟨ρ,rfl,rfl,M.map (fun k=>match k with|.inl none=>none|.inl (some (.inl i))=>some (.inl i)|.inl (some (.inr n))=>some (.inr (n+2))|.inr 0=>some (.inr 0)|.inr 1=>some (.inr 1)|.inr (_+2)=>none) ?_ ?_⟩
 ·intro k k' x h1 h2
  rcases k with(_|(i|n))|(_|_|n)<;>rcases k' with(_|(i'|n'))|(_|_|n')<;>first|(cases h1;done)|(cases h2;done)|(cases h1;cases h2;done)|(cases h1;cases h2;rfl)
 rintro((_|(i|n))|(_|_|n))
 ·exact .inr rfl
 ·exact .inl ⟨_,rfl,rfl⟩
 ·refine .inl ⟨_,rfl,?_⟩
  match n with
  |0=>rfl
  |1=>rfl
  |2=>rfl
  |n+3=>rfl
 ·exact .inl ⟨_,rfl,rfl⟩
 ·exact .inl ⟨_,rfl,rfl⟩
 exact .inr rfl
theorem TnS.call(T:TnS φ ψ w0 F ρ b c w j R)(h:Below w.heap.size w w'):TnS φ ψ w0 F ρ b c w' j R:=let⟨ρ',e0,e1,M⟩:=T;⟨ρ',e0,e1,M.call h⟩
theorem TnS.pick(T:TnS φ ψ w0 F ρ b c w j R)(n:Int)(r0:0<=j)(r1:j<=1000000000):Calls Tryz.prog 69 #[(AV.ptr 0 0).val ρ,.int .i64 n] w fun e w'=>e=.returned (.int .i64 (pk b j n))/\TnS φ ψ w0 F ρ b c w' (j+1) R:=by
 obtain⟨ρ',e0,e1,M⟩:=T
 have h:=C9 b j n r0 r1 _ φ ψ w0 w _ ρ' M
 have e:(AV.vals ρ' [.ptr 0 0,iA n]).toArray= #[(AV.ptr 0 0).val ρ,.int .i64 n]:=by simp only[AV.vals,AV.val,e0]
 rw[e]at h
 refine h.mono ?_
 rintro x w' ⟨ρ2,h2,rfl,M2⟩
 exact⟨rfl,ρ2,(h2 0 (by show(0:Nat)<2;omega)).trans e0,(h2 1 (by show(1:Nat)<2;omega)).trans e1,M2⟩
theorem TnS.get(T:TnS φ ψ w0 F ρ b c w j (.own B (F7 B u m))):F7 B u m w/\∀g,B g->g<w.heap.size:=by
 obtain⟨ρ',e0,e1,M⟩:=T
 have h:=M.holds (.inl none)
 exact⟨h.2.1,h.2.2⟩
theorem F7.holds{φ:Nat->Prop}(h:F7 B u m w)(hB:∀g,B g->g<w.heap.size):(Rs.own B (F7 B u m)).holds w φ:=⟨fun _ _ h hs=>h.same hs,h,hB⟩
theorem TnS.new(T:TnS φ ψ w0 F ρ b c w j Rs.none)(hb:Below w.heap.size w w')(h:F7 B u m w')(h1:∀g,B g->w.heap.size<=g/\g<w'.heap.size):TnS φ ψ w0 F ρ b c w' j (.own B (F7 B u m)):=by
 obtain⟨ρ',e0,e1,M⟩:=T
 refine⟨ρ',e0,e1,M.grow hb (fun k=>k=.inl none) ?_ ?_ ?_ ?_⟩
 ·rintro((_|(x|x))|n) hk
  ·exact absurd rfl hk
  ·rfl
  ·rfl
  rfl
 ·rintro k rfl g hg;exact(h1 g hg).1
 ·rintro k k' g hk rfl rfl;exact absurd rfl hk
 rintro k rfl;exact h.holds fun g hg=>(h1 g hg).2
theorem TnS.turn{B':Nat->Prop}{R1:World->Prop}{u':Value}{m':List (List Bool)}(T:TnS φ ψ w0 F ρ b c w j (.own B R1))(hk:C6 (fun g=>¬B g) w w')(h:F7 B' u' m' w')(h1:∀g,B' g->B g\/w.heap.size<=g)(h2:∀g,B' g->g<w'.heap.size):TnS φ ψ w0 F ρ b c w' j (.own B' (F7 B' u' m')):=by
 obtain⟨ρ',e0,e1,M⟩:=T
 refine⟨ρ',e0,e1,M.put (.inl none) ?_ hk (h.holds h2) h1⟩
 rintro((_|(x|x))|n) hk
 ·exact absurd rfl hk
 ·rfl
 ·rfl
 rfl
def bb8(B:Nat->Prop)(u:Value)(m:List (List Bool))(w:World)(w':World):Prop:=F7 B u m w'/\∀g,B g->w'.heap[g]? =w.heap[g]?
theorem TnS.fix(T:TnS φ ψ w0 F ρ b c w j (.own B (F7 B u m))):TnS φ ψ w0 F ρ b c w j (.own B (bb8 B u m w)):=by
 have hg:=T.get
 obtain⟨ρ',e0,e1,M⟩:=T
 refine⟨ρ',e0,e1,M.put (.inl none) ?_ (C6.refl _ _) ⟨fun x y h hs=>?_,⟨hg.1,fun _ _=>rfl⟩,hg.2⟩ fun g h=>.inl h⟩
 ·rintro((_|(x|x))|n) hk
  ·exact absurd rfl hk
  ·rfl
  ·rfl
  rfl
 have hlt:∀g,B g->g<x.heap.size:=fun g hB=>by
  have h0:=h.2 g hB
  have h1:=hg.2 g hB
  rw[Array.getElem?_eq_getElem h1]at h0
  exact(Array.getElem?_eq_some_iff.1 h0).1
 exact⟨h.1.same hs,fun g hB=>(hs g hB (hlt g hB)).trans (h.2 g hB)⟩
theorem TnS.getF{w1:World}(T:TnS φ ψ w0 F ρ b c w j (.own B (bb8 B u m w1))):bb8 B u m w1 w/\∀g,B g->g<w.heap.size:=by
 obtain⟨ρ',e0,e1,M⟩:=T
 have h:=M.holds (.inl none)
 exact⟨h.2.1,h.2.2⟩
theorem br2{w w':World}{b:Nat}(h:w'.heap[b]? =w.heap[b]?)(o:Nat):w'.cell? ⟨b,o,none⟩=w.cell? ⟨b,o,none⟩:=by simp[World.cell?,h]
theorem bQ6{w w':World}{b:Nat}(h:w'.heap[b]? =w.heap[b]?)(o:Nat):w'.frozen? ⟨b,o,none⟩=w.frozen? ⟨b,o,none⟩:=by simp[World.frozen?,h]
theorem F7.take{a:Option Addr}{cap k:Nat}(h:F7 B (.slice a m.length cap) m w)(hk:k<=m.length){φ:Nat->Prop}(hf:∀b,B b->φ b):RD w φ (.brows (m.take k)) (.slice a k cap):=by
 obtain⟨vs,h1,h2⟩:=h.rd hf
 refine⟨vs.take k,?_,fun i hi=>?_⟩
 ·obtain⟨k1,a',cap',hv,k2,k3,k4⟩:=h1
  cases hv
  have hl:(m.take k).length=k:=ah
  rw[hl]
  have hl2:vs.length=m.length:=al
  refine⟨ah,a,cap,rfl,cp4 hk k2,k3,fun hn=>?_⟩
  obtain⟨b',off,e,q1,q2,q3⟩:=k4 al
  exact⟨b',off,e,q1,q2,fun j x hj=>q3 j x (by rw[List.getElem?_take]at hj;split at hj;exact hj;cases hj)⟩
 have hi':i<m.length:=by simp at hi;omega
 have hik:i<k:=by simp at hi;omega
 obtain⟨x,e,hx⟩:=h2 i hi'
 refine⟨x,by rw[List.getElem?_take,if_pos hik];exact e,?_⟩
 rw[List.getElem_take];exact hx
theorem TnS.fin{R':World->Prop}{d:D}{v:Value}(T:TnS φ ψ w0 F ρ b c w j (.own B R'))(hd:∀φ':Nat->Prop,(∀g,B g->φ' g)->RD w φ' d v):∃ρ1:Nat->Value,(∀i,i<5->ρ1 i=ρ i)/\v=ρ1 5/\k8 φ ψ w0 w (n6 F ρ1 (p6 (tnC b j c++[.dat d]))):=by
 obtain⟨ρ',e0,e1,M⟩:=T
 have M1:k8 φ ψ w0 w (n6 (tnF F ρ c (.dat fun w φ=>RD w φ d v)) ρ' (p6 (tnS b j))):=M.release fun k=>by
  rcases k with(_|(x|x))|n
  ·exact .inr ⟨fun _ h=>h,fun φ' _ h2=>⟨RD.nice d v,hd φ' h2⟩⟩
  ·exact .inl rfl
  ·exact .inl rfl
  exact .inl rfl
 refine⟨fun i=>if i=5 then v else ρ i,fun i hi=>if_neg al,rfl,M1.map (fun k=>match k with|.inl i=>some (.inl (some (.inl i)))|.inr 0=>some (.inr 0)|.inr 1=>some (.inr 1)|.inr 2=>some (.inl (some (.inr 0)))|.inr 3=>some (.inl (some (.inr 1)))|.inr 4=>some (.inl (some (.inr 2)))|.inr 5=>some (.inl none)|.inr (_+6)=>none) ?_ ?_⟩
 ·intro k k' x h1 h2
  rcases k with i|(_|_|_|_|_|_|n)<;>rcases k' with i'|(_|_|_|_|_|_|n')<;>first|(cases h1;done)|(cases h2;done)|(cases h1;cases h2;done)|(cases h1;cases h2;rfl)
 rintro(i|(_|_|_|_|_|_|n))
 ·exact .inl ⟨_,rfl,rfl⟩
 ·refine .inl ⟨_,rfl,?_⟩
  show Rs.box (U3 (ρ 0)) [ρ 1,.int .i64 j]=Rs.box (U3 (ρ' 0)) [ρ' 1,.int .i64 j]
  rw[e0,e1]
 ·refine .inl ⟨_,rfl,?_⟩
  show(Rs.dat fun w φ=>RD w φ (.bytes b) (ρ 1))=Rs.dat fun w φ=>RD w φ (.bytes b) (ρ' 1)
  rw[e1]
 ·exact .inl ⟨_,rfl,rfl⟩
 ·exact .inl ⟨_,rfl,rfl⟩
 ·exact .inl ⟨_,rfl,rfl⟩
 ·exact .inl ⟨_,rfl,rfl⟩
 exact .inr rfl
end
theorem bL7{w w4:World}{lo B:Nat}{v v' u:Value}{m:List (List Bool)}{r:List Bool}{vs:List Value}
  (h1:C5 w lo B 63 1 v m.length vs) (h2:∀(i:Nat) (x:Value) (r:List Bool),vs[i]? =some x->m[i]? =some r->C5 w lo B 4 1 x r.length (bools r))
  (h3:∀(i j:Nat) (x y:Value),i<j->vs[i]? =some x->vs[j]? =some y->ad7 x y) (h4:∀(i:Nat) (x:Value),vs[i]? =some x->ad7 x v)
  (hu:C5 w B w.heap.size 4 1 u r.length (bools r)) (hlo:lo<=B) (hB:B<=w.heap.size)
  (hg:w.grownBy w4 v.ownBlock) (ho:w4.ownsRow lo 63 1 v' (m.length+1) (vs++[u])) (hv:∀g,v'.ownBlock=some g->v.ownBlock=some g\/w.heap.size<=g):
  I7 w4 lo w4.heap.size v' (m++[r]):=by
 have sg:=hg.size
 have hl:vs.length=m.length:=by have:=h1.1.1;omega
 have row:∀(i:Nat) (x:Value),vs[i]? =some x->∃r,m[i]? =some r/\C5 w lo B 4 1 x r.length (bools r):=by
  intro i x hx
  have hi:i<m.length:=by have:=(co0.1 hx).1;omega
  exact⟨m[i],cn0 hi,h2 i x _ hx (cn0 hi)⟩
 have hd:∀(i:Nat) (x:Value),vs[i]? =some x->ad7 x u:=by
  intro i x hx
  obtain⟨r',-,ho'⟩:=row i x hx
  exact bq8 ho' hu (.inl (cn4 _))
 have get:∀(i:Nat) (x:Value),(vs++[u])[i]? =some x->(i<m.length/\vs[i]? =some x)\/(i=m.length/\x=u):=by
  intro i x hx
  rcases cp1 i vs.length with hi|hi
  ·rw[co2 hi]at hx
   exact .inl ⟨al,hx⟩
  rw[cp9 hi]at hx
  have h0:i-vs.length=0:=by
   have:=(co0.1 hx).1
   simp at this
   omega
  rw[h0]at hx
  simp at hx
  exact .inr ⟨al,hx.symm⟩
 refine⟨vs++[u],?_,?_,?_,?_⟩
 ·rw[cn3]
  exact C5.mk' ho
 ·intro i x r' hx hr
  rcases get i x hx with⟨hi,hx⟩|⟨rfl,rfl⟩
  ·rw[co2 hi]at hr
   exact((h2 i x r' hx hr).grown hg fun g hv1 hv2=>h4 i x hx g hv1 hv2).wide (cn4 _) al
  rw[cp9 (cn4 _),Nat.sub_self]at hr
  cases hr
  exact(hu.grown hg fun g hv1 hv2=>by
   have a1:=hu.lt g hv1
   have a2:=h1.lt g hv2
   omega).wide hlo sg
 ·intro i j x y hij hx hy
  rcases get i x hx with⟨hi,hx2⟩|⟨rfl,rfl⟩
  ·rcases get j y hy with⟨hj,hy2⟩|⟨rfl,rfl⟩
   ·exact h3 i j x y hij hx2 hy2
   exact hd i x hx2
  rcases get j y hy with⟨hj,hy⟩|⟨rfl,rfl⟩<;>omega
 intro i x hx g hg1 hg2
 rcases get i x hx with⟨hi,hx⟩|⟨rfl,rfl⟩
 ·obtain⟨r',-,ho'⟩:=row i x hx
  have a1:=ho'.lt g hg1
  rcases hv g hg2 with hh|hh
  ·exact h4 i x hx g hg1 hh
  omega
 have a1:=hu.lt g hg1
 rcases hv g hg2 with hh|hh
 ·have a2:=h1.lt g hh
  omega
 omega
theorem bv9(b:List UInt8)(j:Int)(c:d9)(hlen:c.list.length<=1000)(r0:0<=j)(r1:j<=10000000):
  j7.ok Tryz.prog ⟨59,[.ptr 0 0,.agg [.ref 2,.ref 3,.ref 4]],tnC b j c,tnC b (tnP b j (tn0 c)).2 c++[.dat (.brows (tnP b j (tn0 c)).1)],.ref 5⟩:=by
 intro ι φ ψ w0 w F ρ M
 have hrow:v6 w (.agg #[ρ 2,ρ 3,ρ 4]) c:=⟨_,_,_,rfl,A4.row (M.datAt (id:=2) (d:=.ints c.vars) rfl),A4.row (M.datAt (id:=3) (d:=.ints c.arrays) rfl),A4.row (M.datAt (id:=4) (d:=.instrs c.list) rfl)⟩
 have HT:Hid (TnS φ ψ w0 F ρ b c w j Rs.none):=TnS.start M
 clear M
 show Calls _ _ #[(AV.ptr 0 0).val ρ,.agg #[ρ 2,ρ 3,ρ 4]] w _
 obtain⟨Q,hQ⟩:∃Q:Ending->World->Prop,Q=fun x w'=>∃ρ',(∀i,i<5->ρ' i=ρ i)/\x=.returned ((AV.ref 5).val ρ')/\k8 φ ψ w0 w' (n6 F ρ' (p6 (tnC b (tnP b j (tn0 c)).2 c++[.dat (.brows (tnP b j (tn0 c)).1)]))):=⟨_,rfl⟩
 show Calls _ _ _ w fun x w'=>∃ρ',(∀i,i<5->ρ' i=ρ i)/\x=.returned ((AV.ref 5).val ρ')/\k8 φ ψ w0 w' (n6 F ρ' (p6 (tnC b (tnP b j (tn0 c)).2 c++[.dat (.brows (tnP b j (tn0 c)).1)])))
 rw[<-hQ]
 have FIN:Hid (∀(w':World) (i:Int) (B:Nat->Prop) (R:World->Prop) (m':List (List Bool)) (v:Value),TnS φ ψ w0 F ρ b c w' i (.own B R)->(∀φ':Nat->Prop,(∀g,B g->φ' g)->RD w' φ' (.brows m') v)->tnP b j (tn0 c)=(m',i)->Q (.returned v) w'):=fun w' i B R m' v T hd e=>by
  obtain⟨ρ1,k1,k2,k3⟩:=T.fin hd
  rw[hQ,e]
  exact⟨ρ1,k1,by rw[k2];rfl,k3⟩
 clear hQ
 obtain⟨vr,hvr⟩:∃vr,vr=(AV.ptr 0 0).val ρ:=⟨_,rfl⟩
 rw[<-hvr]
 have HP:Hid (∀(w:World) (i n:Int) (R:Rs),TnS φ ψ w0 F ρ b c w i R->0<=i->i<=1000000000->Calls Tryz.prog 69 #[vr,.int .i64 n] w fun e w'=>e=.returned (.int .i64 (pk b i n))/\TnS φ ψ w0 F ρ b c w' (i+1) R):=fun w i n R T h0 h1=>by rw[hvr];exact T.pick n h0 h1
 clear hvr
 obtain⟨v1,v2,v3,hv,h1,h2,h3⟩:=hrow
 have hrow:v6 w (.agg #[v1,v2,v3]) c:=⟨v1,v2,v3,rfl,h1,h2,h3⟩
 rw[hv]
 clear hv
 obtain⟨a3,k3,rfl,-,hm3,-,hc3⟩:=h3.ins
 clear hc3 h1 h2
 obtain⟨W,hW⟩:∃W,W=w.alloc (.cells #[v1,v2,.slice a3 c.list.length k3] 26):=⟨_,rfl⟩
 have B0:Below w.heap.size w W:=by rw[hW];go_grown
 have L1:D3 W w.heap.size [v1,v2,.slice a3 c.list.length k3]:=by rw[hW];exact(D3.new w [v1,v2,.slice a3 c.list.length k3] _)
 have x0:=L1.cell 0
 have x1:=L1.cell 1
 have x2:=L1.cell 2
 simp only[cn1,cn5]at x0 x1 x2
 rw[hW]at x0 x1 x2
 go_enter Tryz.func59,Tryz.ntmps59
 go_wp2_with fail
 rw[<-hW]
 clear hW x0 x1 x2
 refine(aD2 _ c _ (hrow.below B0)).mono ?_
 rintro e w1 ⟨u,rfl,ho,b1⟩
 replace L1:=L1.below b1 L1.lt
 have B1:=B0.trans (b1.mono B0.size)
 have hb1:=b1.size
 have hb0:=B0.size
 have x2:=L1.cell 2
 simp only[cn1,cn5]at x2
 by_cases hi:aP8 c=true
 case' pos=>
  have m0:=F7.of_own ho
  have HM0:Hid (ai6 c=tn0 c):=by unfold tn0;rw[if_pos hi];exact rfl
  have hT:Hid (TnS φ ψ w0 F ρ b c w1 j (.own (fun g=>W.heap.size<=g/\g<w1.heap.size) (F7 (fun g=>W.heap.size<=g/\g<w1.heap.size) u (ai6 c)))):=(HT.out.call B0).new b1 m0 fun g hg=>hg
  obtain⟨a5,k5,rfl,hm5,hcap⟩:=m0.form
  rw[hi]
  clear ho hi m0 HT hm3
  generalize ai6 c=m at*
  generalize (fun g=>W.heap.size<=g/\g<w1.heap.size)=B at*
  clear L1 B1 hb1 hb0 x2 b1 B0 h3 hrow
  generalize w1=w2 at*
 case' neg=>
  have hi:aP8 c=false:=by simpa using hi
  have HM0:Hid (cm8 c.list.length (cm8 14 false)=tn0 c):=by unfold tn0;rw[hi];exact rfl
  have HT2:Hid (TnS φ ψ w0 F ρ b c w1 j Rs.none):=(HT.out.call B0).call b1
  rw[hi]
  have hmk2:∀w,(Instr.makeSlice 63 (.int .i64 14) (.int .i64 14)).run Tryz.prog w=_:=ae4 (P:=Tryz.prog) (t:=63) Tryz.underlying63 aM0 rfl al 14 al al
  rw[show(Value.bool false).cells.toList=[Value.bool false]from rfl,aa8]at hmk2
  have HZ:Hid (∀w:World,C5 (w.alloc (.cells (cq0 14 (Value.bool false)) 4)) w.heap.size (w.heap.size+1) 4 1 (.slice (some ⟨w.heap.size,0,none⟩) 14 14) 14 (cm8 14 (Value.bool false))):=fun w=>by
   have h:=aK0 w (Value.bool false).cells.toList 14 1 4 rfl al
   rw[show(Value.bool false).cells.toList=[Value.bool false]from rfl,aa8,W0]at h
   exact h
  generalize cq0 14 (Value.bool false)=z14 at*
  clear ho hi HT hm3
  go_wp2_with fail
  go_loopw [5,7] (fun t i wr=>∃(k:Nat) (a:Option Addr) (cap:Nat),k<=c.list.length/\i=.int .i64 k/\t=.slice a k cap/\Hid (I7 wr w1.heap.size wr.heap.size (.slice a k cap) (cm8 k (cm8 14 false)))/\Below w1.heap.size w1 wr) (fun _ i _=>c.list.length-(intOf i).toNat)
  case atStart=>exact⟨0,_,0,cp5 _,rfl,rfl,ag2 ((z6 w1 #[] 0 1 _ rfl rfl al).wide (cn4 _) ao),by go_grown⟩
  case' round=>
   rename World=>wr
   obtain⟨k,a,cap,hk,rfl,rfl,HR,hr⟩:=hrel
   have sr:=hr.size
   have x2r:=(hr.cell (p:=⟨w.heap.size,2,none⟩) (by show w.heap.size<w1.heap.size;have:=L1.lt;omega)).trans x2
   by_cases hkn:k<c.list.length
   case' pos=>
    obtain⟨vs,q1,q2,q3,q4⟩:=HR.out
    have Q1:Hid (wr.ownsRow w1.heap.size 63 1 (.slice a k cap) k vs):=by have q5:=q1.1;rw[co5]at q5;exact q5
    have QM:=show Hid _ from And.intro q1 (And.intro q2 (And.intro q3 q4))
    clear q1 q2 q3 q4
    go_wp2_with (at_builtin;refine J8 rfl _ _ rfl Tryz.underlying57 bg7 rfl al rfl ((Q1.out.alloc _).alloc _) rfl (ak3 _ (.slice (some ⟨wr.heap.size,0,none⟩) 14 14) _ ao) (fun u hu=>by simp at hu;subst hu;rfl) al al ah ?_;rintro a4 q4 w4 o4 b4 g4 h4)
    have hw:Below wr.heap.size wr ((wr.alloc (.cells z14 4)).alloc (.cells #[.slice (some ⟨wr.heap.size,0,none⟩) 14 14] 63)):=by go_grown
    refine⟨⟨k+1,a4,q4,al,by go_num,rfl,?_,(hr.trans (hw.mono sr)).trans b4⟩,by simp[intOf];omega⟩
    have hl2:(cm8 k (cm8 14 false)).length=k:=co5
    have hz:C5 ((wr.alloc (.cells z14 4)).alloc (.cells #[.slice (some ⟨wr.heap.size,0,none⟩) 14 14] 63)) wr.heap.size ((wr.alloc (.cells z14 4)).alloc (.cells #[.slice (some ⟨wr.heap.size,0,none⟩) 14 14] 63)).heap.size 4 1 (.slice (some ⟨wr.heap.size,0,none⟩) 14 14) (cm8 14 false).length (bools (cm8 14 false)):=
     ((HZ.out wr).keep (B:=wr.heap.size+1) (by go_grown) (cn4 _)).wide (cn4 _) ao
    rw[List.replicate_succ']
    exact bL7 (v:=.slice a k cap) (lo:=w1.heap.size) (B:=wr.heap.size) (QM.out.1.keep hw (cn4 _)) (fun i x r h1 h2=>(QM.out.2.1 i x r h1 h2).keep hw (cn4 _)) QM.out.2.2.1 QM.out.2.2.2 hz sr ah g4 (by rw[hl2];exact o4) h4
   case' neg=>
    obtain rfl:k=c.list.length:=al
    have m0:=F7.of_own HR.out
    have hT:Hid (TnS φ ψ w0 F ρ b c wr j (.own (fun g=>w1.heap.size<=g/\g<wr.heap.size) (F7 (fun g=>w1.heap.size<=g/\g<wr.heap.size) (.slice a c.list.length cap) (cm8 c.list.length (cm8 14 false))))):=HT2.out.new hr m0 fun g hg=>hg
    obtain⟨a5,k5,he,hm5,hcap⟩:=m0.form
    rw[he]at hT ⊢
    clear he m0 HR hkn hk HZ hmk2 hr sr
    generalize cm8 c.list.length (cm8 14 false)=m at*
    generalize (fun g=>w1.heap.size<=g/\g<wr.heap.size)=B at*
    clear L1 B1 hb1 hb0 x2 b1 B0 h3 hrow HT2
    generalize wr=w2 at*
 all_goals
  have r1':j<=1000000000:=al
  by_cases hm0:m.length=0
  case' pos=>
   have e0:((m.length:Int)==0)=true:=by simp[hm0]
   have HM1:=show Hid _ from hm0
   clear hm0
   go_wp2_with fail
   exact FIN.out _ _ _ _ m _ hT.out (fun φ' hf=>hT.out.get.1.rd hf) (by rw[<-HM0.out];unfold tnP;rw[if_pos HM1.out])
  case' neg=>
   have e0:((m.length:Int)==0)=false:=by simp[hm0]
   go_wp2_with fail
   refine(HP.out _ j m.length _ hT.out r0 r1').mono ?_
   rintro e w3 ⟨rfl,t1⟩
   have T1:Hid (TnS φ ψ w0 F ρ b c w3 (j+1) (.own B (F7 B (.slice a5 m.length k5) m))):=t1
   clear t1
   have hk0:=bC8 b (k:=j) (n:=m.length) r0 r1' al
   have HPK:Hid (∀m' i',tnP b j m=(m',i')->tnP b j (tn0 c)=(m',i')):=fun m' i' h=>by rw[<-HM0.out];exact h
   obtain⟨kk,hkk⟩:∃kk:Nat,pk b j m.length=kk:=⟨(pk b j m.length).toNat,al⟩
   rw[hkk]at hk0 ⊢
   have HK:=show Hid _ from hkk
   clear hkk
   go_wp2_with fail
   refine(HP.out _ (j+1) 6 _ T1.out al al).mono ?_
   rintro e w4 ⟨rfl,t2⟩
   have T2:Hid (TnS φ ψ w0 F ρ b c w4 (j+1+1) (.own B (F7 B (.slice a5 m.length k5) m))):=t2
   clear t2 T1
   obtain⟨s,hs⟩:∃s,pk b (j+1) 6=s:=⟨_,rfl⟩
   rw[hs]
   have HS:=show Hid _ from hs
   clear hs
   have hkn:kk<m.length:=al
   obtain⟨g,cap,x,hu,hBg,hgl,hfz,hcx,hox,hxB⟩:=T2.out.get.1.at hkn
   cases hu
   obtain⟨_,ax,cx,rfl,-,-,-⟩:=R4 hox
   have OX:Hid (w4.ownsRow 0 4 1 (.slice ax m[kk].length cx) m[kk].length (bools m[kk])):=hox
   have XB:=show Hid _ from hxB
   have BG:=show Hid _ from hBg
   have RL:=show Hid _ from bn8 (HM0.out▸bz2 c) hkn
   have HKN:=show Hid _ from hkn
   clear hox hxB hBg hT
   obtain⟨L,hL⟩:∃L,m[kk].length=L:=⟨_,rfl⟩
   replace hcx:w4.cell? ⟨g,kk,none⟩=some (.slice ax L cx):=by rw[<-hL];exact hcx
   have HL:Hid (m[kk].length=L):=hL
   have HLr:Hid ((rowAt m (kk:Int)).length=L):=by show(rowAt m (kk:Int)).length=L;rw[I1 hkn];exact hL
   clear hL
   have hLm:L<=14:=by have h1:=RL.out;have h2:=HL.out;omega
   by_cases s0:s=0
   case' pos=>
    have q0:(s==0)=true:=by simp[s0]
    have e6:Hid (pk b (j+1) 6=0):=HS.out.trans s0
    clear s0
    by_cases hr:0<L
    case' pos=>
     obtain⟨gy,cy,hv,-,-,hgy,-,-,hfy,hcy⟩:=(C5.mk' OX.out).open (by have h2:=HL.out;have h3:0<L:=hr;omega)
     cases hv
     have hBy:=XB.out gy rfl
     have b14:=bC8 b (k:=j+1+1) (n:=14) al al al
     obtain⟨p,hp⟩:∃p:Nat,pk b (j+1+1) 14=p:=⟨(pk b (j+1+1) 14).toNat,al⟩
     obtain⟨q,hq⟩:∃q,pk b (j+1+1+1) 2=q:=⟨_,rfl⟩
     obtain rfl:L=14:=by have h1:=RL.out;have h2:=HL.out;omega
     have hp14:p<14:=al
     have HPL:Hid (p<m[kk].length):=by have h2:=HL.out;show p<m[kk].length;omega
     have HB2:Hid (B g/\B gy):=⟨BG.out,hBy.1⟩
     obtain⟨old,hold⟩:∃old,w4.cell? ⟨gy,p,none⟩=some old:=⟨_,hcy p _ (t0 _ p HPL.out)⟩
     obtain⟨cv,hcv⟩:∃cv:World->Value,∀W' v,W'.cell? ⟨gy,p,none⟩=some v->W'.cell? ⟨gy,p,none⟩=some (cv W'):=⟨fun W'=>(W'.cell? ⟨gy,p,none⟩).getD undef,fun W' v h=>by show _=some ((W'.cell? ⟨gy,p,none⟩).getD undef);rw[h];rfl⟩
     have SK:Hid (∀(W':World) (i:Int),TnS φ ψ w0 F ρ b c W' i (.own B (bb8 B (.slice (some ⟨g,0,none⟩) m.length k5) m w4))->W'.cell? ⟨g,kk,none⟩=some (.slice (some ⟨gy,0,none⟩) 14 cx)/\W'.cell? ⟨gy,p,none⟩=some (cv W')/\W'.frozen? ⟨gy,p,none⟩=false):=fun W' i T=>by
      have h:=T.getF.1.2
      exact⟨(br2 (h g HB2.out.1) kk).trans hcx,hcv _ _ ((br2 (h gy HB2.out.2) p).trans hold),(bQ6 (h gy HB2.out.2) p).trans (hfy p)⟩
     have SS:Hid (∀(W':World) (v:Value),(W'.cell? ⟨g,kk,none⟩=some (.slice (some ⟨gy,0,none⟩) 14 cx)/\W'.cell? ⟨gy,p,none⟩=some (cv W')/\W'.frozen? ⟨gy,p,none⟩=false)->(W'.setCell ⟨gy,p,none⟩ v).cell? ⟨g,kk,none⟩=some (.slice (some ⟨gy,0,none⟩) 14 cx)/\(W'.setCell ⟨gy,p,none⟩ v).cell? ⟨gy,p,none⟩=some (cv (W'.setCell ⟨gy,p,none⟩ v))/\(W'.setCell ⟨gy,p,none⟩ v).frozen? ⟨gy,p,none⟩=false):=fun W' v ⟨h1,h2,h3⟩=>by
      refine⟨(World.cell?_setCell_other _ _ _ _ (by intro e;cases e;exact hBy.2 rfl)).trans h1,hcv _ v (World.cell?_setCell_same _ _ _ h2),?_⟩
      rw[World.frozen?_setCell];exact h3
     have P1:Hid (∀(W':World),TnS φ ψ w0 F ρ b c W' (j+1+1) (.own B (bb8 B (.slice (some ⟨g,0,none⟩) m.length k5) m w4))->Calls Tryz.prog 69 #[vr,.int .i64 14] W' fun e w'=>e=.returned (.int .i64 p)/\TnS φ ψ w0 F ρ b c w' (j+1+1+1) (.own B (bb8 B (.slice (some ⟨g,0,none⟩) m.length k5) m w4))):=fun W' T=>by
      have h:=HP.out _ _ 14 _ T al al
      rwa[hp]at h
     have P2:Hid (∀(W':World),TnS φ ψ w0 F ρ b c W' (j+1+1+1) (.own B (bb8 B (.slice (some ⟨g,0,none⟩) m.length k5) m w4))->Calls Tryz.prog 69 #[vr,.int .i64 2] W' fun e w'=>e=.returned (.int .i64 q)/\TnS φ ψ w0 F ρ b c w' (j+1+1+1+1) (.own B (bb8 B (.slice (some ⟨g,0,none⟩) m.length k5) m w4))):=fun W' T=>by
      have h:=HP.out _ _ 2 _ T al al
      rwa[hq]at h
     have E1:Hid (tnP b j m=(m.set kk (m[kk].set p (q==0)),j+1+1+1+1)):=by
      show tnP b j m=_
      unfold tnP
      rw[if_neg hm0,if_pos e6.out,HK.out,if_pos (by rw[HLr.out];exact hr),hp,hq,I1 hkn]
      rfl
     have hI1:(0:Int)<=(kk:Int):=al
     have hI2:(kk:Int)<(m.length:Int):=al
     have hI3:(0:Int)<=(p:Int):=al
     have hI4:(p:Int)<(14:Int):=al
     have T2d:=T2.out.fix.call (Below.refl _ _).drew
     clear hp hq b14 OX XB BG HP T2 hcy hfy hBy hfz hgl hgy hk0 hm0 hcv hold
     go_wp2_with fail
     go_region_held3 (fun W'=>W'.cell? ⟨g,kk,none⟩=some (.slice (some ⟨gy,0,none⟩) 14 cx)/\W'.cell? ⟨gy,p,none⟩=some (cv W')/\W'.frozen? ⟨gy,p,none⟩=false)
      (first|exact SS.out _ _ (SK.out _ _ t4)|exact SK.out _ _ t4|exact SK.out _ _ t3|exact SK.out _ _ T2d)
      (first|(go_at_call 69;refine(P2.out _ t3).mono ?_;rintro e w6 ⟨rfl,t4⟩)|(go_at_call 69;refine(P1.out _ T2d).mono ?_;rintro e w5 ⟨rfl,t3⟩))
     go_wp2_with fail
     have h6:=(SK.out _ _ t4)
     have h5:=t4.getF.1.1.setBit HKN.out rfl (k:=p) (gy:=gy) (cy:=cx) (h6.1.trans (congrArg (fun n=>some (Value.slice (some ⟨gy,0,none⟩) n cx)) HL.out.symm)) HPL.out (q==0)
     have T5:=t4.turn ((C6.setCell w6 gy p (.bool (q==0))).mono fun b' hb' e=>hb' (by rw[e];exact HB2.out.2)) h5 (fun b' hb'=>.inl hb') (fun b' hb'=>by have:=t4.getF.2 b' hb';simpa using this)
     exact FIN.out _ _ _ _ _ _ T5 (fun φ' hf=>T5.get.1.rd hf) (HPK.out _ _ E1.out)
    case' neg=>
     have E1:Hid (tnP b j m=(m,j+1+1)):=by
      show tnP b j m=_
      unfold tnP
      rw[if_neg hm0,if_pos e6.out,if_neg (by rw[HK.out,HLr.out];exact hr)]
     go_wp2_with fail
     exact FIN.out _ _ _ _ m _ T2.out (fun φ' hf=>T2.out.get.1.rd hf) (HPK.out _ _ E1.out)
   case' neg=>
    have q0:(s==0)=false:=by simp[s0]
    have e60:Hid (¬pk b (j+1) 6=0):=by rw[HS.out];exact s0
    clear s0
    by_cases s1:s=1
    case' pos=>
     have q1:(s==1)=true:=by simp[s1]
     have e61:Hid (pk b (j+1) 6=1):=HS.out.trans s1
     clear s1
     have E1:Hid (tnP b j m=(m.set kk [],j+1+1)):=by
      show tnP b j m=_
      unfold tnP
      rw[if_neg hm0,if_neg e60.out,if_pos e61.out,HK.out]
      rfl
     go_wp2_with fail
     have hwe:=World.setCell_alloc_past (w:=w4) (.cells #[] 4) g kk (.slice (some ⟨w4.heap.size,0,none⟩) 0 0) hgl
     rw[<-hwe]
     have hwb:Below w4.heap.size w4 (w4.alloc (.cells #[] 4)):=by go_grown
     have hx:=((z6 w4 #[] 0 1 4 rfl rfl al).wide (cp5 _) (cn4 _)).1
     have h4:=((T2.out.call hwb).get.1.setRow (r:=[]) hkn rfl (n:=w4.heap.size) hx (fun b' hb'=>by cases hb';exact cn4 _) T2.out.get.2).cut
     have T4:=T2.out.turn ((C6.any hwb).trans ((C6.setCell (w4.alloc (.cells #[] 4)) g kk (.slice (some ⟨w4.heap.size,0,none⟩) 0 0)).mono fun b' hb' e=>hb' (by rw[e];exact BG.out))) h4 (fun b' hb'=>hb'.1) (fun b' hb'=>hb'.2)
     exact FIN.out _ _ _ _ _ _ T4 (fun φ' hf=>T4.get.1.rd hf) (HPK.out _ _ E1.out)
    case' neg=>
     have q1:(s==1)=false:=by simp[s1]
     have e61:Hid (¬pk b (j+1) 6=1):=by rw[HS.out];exact s1
     clear s1
     by_cases s2:s=2
     case' pos=>
      have q2:(s==2)=true:=by simp[s2]
      have e62:Hid (pk b (j+1) 6=2):=HS.out.trans s2
      clear s2
      have E1:Hid (tnP b j m=(m.map tnR,j+1+1)):=by
       show tnP b j m=_
       unfold tnP
       rw[if_neg hm0,if_neg e60.out,if_neg e61.out,if_pos e62.out]
      have RO:Hid (m.all D7=true):=HM0.out▸bz2 c
      go_wp2_with fail
      go_loopw [10] (fun i wr=>∃k:Nat,k<=m.length/\i=.int .i64 k/\Hid (TnS φ ψ w0 F ρ b c wr (j+1+1) (.own B (F7 B (.slice (some ⟨g,0,none⟩) m.length k5) (tnK m k))))) (fun i _=>m.length-(intOf i).toNat)
      case atStart=>exact⟨0,cp5 _,rfl,by rw[b63];exact T2⟩
      case' round=>
       rename World=>wr
       obtain⟨k,hk,rfl,TK⟩:=hrel
       by_cases hlt:k<m.length
       case' pos=>
        obtain⟨ax2,L2,cx2,hc2,hL2,hin⟩:=bL9 TK.out.get.1 hlt
        have HL2:Hid (L2=m[k].length):=hL2
        have HRL:Hid (m[k].length=0\/m[k].length=14):=bn8 RO.out hlt
        clear hL2
        by_cases hr2:0<L2
        case' pos=>
         obtain⟨gz,rfl,hBz,hfz2,hcz⟩:=hin hr2
         obtain rfl:L2=14:=by have h1:=HRL.out;have h2:=HL2.out;omega
         obtain⟨old,hold⟩:=hcz 12 al
         have hf12:=hfz2 12
         have HB3:Hid (B gz):=hBz
         have HC2:Hid (wr.cell? ⟨g,k,none⟩=some (.slice (some ⟨gz,0,none⟩) 14 cx2)):=hc2
         clear hin hcz hfz2 hBz
         go_wp2_with fail
         refine⟨⟨k+1,al,by go_num,?_⟩,by simp[intOf];omega⟩
         have h5:=bL8 TK.out.get.1 hlt HC2.out HL2.out.symm
         exact show TnS φ ψ w0 F ρ b c _ _ _ from TK.out.turn ((C6.setCell wr gz 12 (.bool true)).mono fun b' hb' e=>hb' (by rw[e];exact HB3.out)) h5 (fun b' hb'=>.inl hb') (fun b' hb'=>by have:=TK.out.get.2 b' hb';simpa using this)
        case' neg=>
         clear hin
         go_wp2_with fail
         refine⟨⟨k+1,al,by go_num,?_⟩,by simp[intOf];omega⟩
         rw[bz1 hlt (by have h2:=HL2.out;omega)]
         exact TK
       case' neg=>
        obtain rfl:k=m.length:=al
        have TK2:Hid (TnS φ ψ w0 F ρ b c wr (j+1+1) (.own B (F7 B (.slice (some ⟨g,0,none⟩) m.length k5) (m.map tnR)))):=by have h:=TK.out;rw[bM0]at h;exact h
        go_wp2_with fail
        exact FIN.out _ _ _ _ _ _ TK2.out (fun φ' hf=>TK2.out.get.1.rd hf) (HPK.out _ _ E1.out)
     case' neg=>
      have q2:(s==2)=false:=by simp[s2]
      have e62:Hid (¬pk b (j+1) 6=2):=by rw[HS.out];exact s2
      clear s2
      by_cases s3:s=3
      case' pos=>
       have q3:(s==3)=true:=by simp[s3]
       have e63:Hid (pk b (j+1) 6=3):=HS.out.trans s3
       clear s3
       go_wp2_with fail
       refine(HP.out _ (j+1+1) 4 _ T2.out al al).mono ?_
       rintro e w5 ⟨rfl,t3⟩
       have T3:Hid (TnS φ ψ w0 F ρ b c w5 (j+1+1+1) (.own B (F7 B (.slice (some ⟨g,0,none⟩) m.length k5) m))):=t3
       clear t3
       obtain⟨z,hz⟩:∃z,pk b (j+1+1) 4=z:=⟨_,rfl⟩
       rw[hz]
       have HZ4:=show Hid _ from hz
       clear hz
       by_cases z0:z=0
       case' pos=>
        have qz:(z==0)=true:=by simp[z0]
        have E1:Hid (tnP b j m=(m.take (m.length-1),j+1+1+1)):=by
         show tnP b j m=_
         unfold tnP
         rw[if_neg hm0,if_neg e60.out,if_neg e61.out,if_neg e62.out,if_pos e63.out,if_pos (HZ4.out.trans z0)]
        clear z0
        have hw1:IntKind.i64.wrap ((m.length:Int)-1)=m.length-1:=w64 al al
        go_wp2_with fail
        exact FIN.out _ _ _ _ _ _ T3.out (fun φ' hf=>T3.out.get.1.take (Nat.sub_le _ _) hf) (HPK.out _ _ E1.out)
       case' neg=>
        have qz:(z==0)=false:=by simp[z0]
        have E1:Hid (tnP b j m=(m,j+1+1+1)):=by
         show tnP b j m=_
         unfold tnP
         rw[if_neg hm0,if_neg e60.out,if_neg e61.out,if_neg e62.out,if_pos e63.out,if_neg (by rw[HZ4.out];exact z0)]
        clear z0
        go_wp2_with fail
        exact FIN.out _ _ _ _ m _ T3.out (fun φ' hf=>T3.out.get.1.rd hf) (HPK.out _ _ E1.out)
      case' neg=>
       have q3:(s==3)=false:=by simp[s3]
       have E1:Hid (tnP b j m=(m,j+1+1)):=by
        show tnP b j m=_
        unfold tnP
        rw[if_neg hm0,if_neg e60.out,if_neg e61.out,if_neg e62.out,if_neg (by rw[HS.out];exact s3)]
       clear s3
       go_wp2_with fail
       exact FIN.out _ _ _ _ m _ T2.out (fun φ' hf=>T2.out.get.1.rd hf) (HPK.out _ _ E1.out)
theorem bB9{w:World}{φ:Nat->Prop}{v:Value}{m:List (List Bool)}(h:RD w φ (.brows m) v):F6 w v m:=by
 obtain⟨vs,h1,h2⟩:=h
 refine⟨vs,h1.row,fun i u r hu hr=>?_⟩
 obtain⟨hi,rfl⟩:=co0.1 hr
 obtain⟨u',e,h3⟩:=h2 i hi
 rw[hu]at e
 cases e
 exact h3.row
theorem bO9{P:Program}{f:FuncId}{args:List AV}{S:List It}{x y:Value}(h:∀(φ:Nat->Prop) (w:World) (ρ:Nat->Value),(∀i d,p6 S i=.dat d->RD w φ d (ρ i))->Calls P f (AV.vals ρ args).toArray w fun e w'=>e=.returned (.tuple #[x,y])/\Below w.heap.size w w'):j7.ok P (T7 f args S (.tup [.v x,.v y])):=by
 intro ι φ ψ w0 w F ρ M
 refine(h (FrF φ (n6 F ρ (p6 S))) w ρ fun i d hi=>M.datAt hi).mono ?_
 rintro e w' ⟨rfl,hb⟩
 exact⟨ρ,fun _ _=>rfl,rfl,M.call hb⟩
theorem bu3(w:World)(he:bT3 (fun _=>True) w:=by intro _ _;trivial):k8 (fun _=>True) (fun _=>True) w w (n6 (fun _:Empty=>Rs.none) (fun _=>undef) (p6 [])):=by
 refine(k8.start (ι:=Empty ⊕ Nat) (w0:=w) (φ:=fun _=>True) (ψ:=fun _=>True) (fun _ _=>trivial) he).map (fun k=>some k) (fun k k' i a b=>by cases a;cases b;rfl) fun k=>?_
 cases k with
 |inl e=>exact e.elim
 |inr j=>exact .inr rfl
theorem bx7(w:World):Agr (fun _=>True) (FrF (fun _=>True) (n6 (fun _:Empty=>Rs.none) (fun _=>undef) (p6 []))) w w:=Agr.mono fun b _ _=>⟨co8,fun i=>by
 cases i with
 |inl e=>exact e.elim
 |inr j=>exact fun h=>h.elim⟩
abbrev u8s(c:List UInt8):List Value:=c.map fun b=>Value.int .u8 (b.toNat:Int)
theorem bx0{P:Program}{f:FuncId}{x:Value}{c:List UInt8}{post:List It}(hc:j7.ok P ⟨f,[.ref 0],[dY c],post,.v x⟩)(u:Value)(w:World)(hp:A4 w (fun _=>True) u c.length 1 (u8s c))(he:bT3 (fun _=>True) w:=by intro _ _;trivial):
  Calls P f #[u] w fun e w'=>e=.returned x/\Below w.heap.size w w':=by
 obtain⟨ρ',g1,M2,g2⟩:=k8.dats [.sl (.bytes c)] [u] 0 (bu3 w he) ⟨RD.nice (.bytes c) _ _ _ _ _ (bx7 w) hp,co8⟩ (fun _ _=>rfl) (fun _ _ _=>rfl)
 have e:n5 (p6 []) (X9 [.sl (.bytes c)] 0)=p6 [dY c]:=by
  funext j
  match j with
  |0=>rfl
  |j+1=>simp[X9,n5,p6]
 rw[e]at M2
 simp only[xav,AV.vals,AV.val,List.cons.injEq,and_true]at g2
 subst g2
 refine(hc Empty _ _ w w _ ρ' M2).mono ?_
 rintro e w' ⟨ρ2,-,rfl,M3⟩
 exact⟨rfl,M3.below fun _ _=>trivial⟩
end Go.Proofs.YtfbeblgnjeokaaaGreat
