/- Part 5: functions on the way, plain laws. Conditions: as said. -/
import Derived.Deep.LoopGhost
import Derived.IntWalk
import Derived.WalkSpells
import Derived.Lib.SliceRun
import Derived.Test.YtfbeblgnjeokaaaGreatK1
import Derived.Test.YtfbeblgnjeokaaaGreatK4
set_option maxRecDepth 100000
set_option maxHeartbeats 16000000
set_option linter.unusedVariables false
set_option linter.unusedSimpArgs false
open Array renaming replicate → cx4
open Bool renaming and_eq_true → cv4, eq_iff_iff → cz0, not_eq_false' → cy2, not_eq_true' → cy0, or_eq_true → cz9
open Inhabited renaming default → cv2
open Int renaming mul_le_mul_of_nonneg_right → cA3
open List renaming all_eq_true → cw3, eq_nil_of_length_eq_zero → cw9, getD_eq_getElem?_getD → cv8, getElem?_append_left → cw8, getElem?_eq_getElem → cv6, getElem?_eq_none → cy1, getElem?_eq_some_iff → cw5, getElem_mem → cx9, length_cons → cw2, length_nil → cw6, map_cons → cy8, mem_append → cx6, mem_cons → cz2, mem_cons_of_mem → cz4, mem_cons_self → cz6, mem_of_getElem? → cy6, mem_range → cz5, mem_singleton → cy5, range → cx0, take → cw1, take_of_length_le → cw7
open Nat renaming le_refl → cv7, le_trans → cx8, lt_of_lt_of_le → cz7, lt_or_ge → cx7, mul_le_mul_right → cz8, zero_add → cA0, zero_le → cy4
open Option renaming isSome_iff_exists → cA2, map_eq_some_iff → cw4
open True renaming intro → cx2

namespace Go.Proofs.YtfbeblgnjeokaaaGreat
open Go Go.RowKit
def pf{β:Type}(wr:Ac->Option β):List Ac->Nat->(Nat->Bool)->β->β
 |[],_,_,v=>v
 |a::r,k,B,v=>pf wr r (k+1) B (match wr a with|some x=>if B k then x else v|none=>v)
theorem Y0{β:Type}{wr:Ac->Option β}{B B':Nat->Bool}:∀{az:List Ac} {k:Nat} {v:β},(∀j a,az[j]? =some a->(wr a).isSome=true->B (k+j)=B' (k+j))->pf wr az k B v=pf wr az k B' v
 |[],_,_,_=>rfl
 | a :: r, k, v, h => by
  simp only[pf]
  have h0:=h 0 a rfl
  have hr:∀j b,r[j]? =some b->(wr b).isSome=true->B (k+1+j)=B' (k+1+j):=fun j b hb hw=>by
   have:=h (j+1) b (by simpa using hb) hw
   rw[show k+(j+1)=k+1+j by omega]at this;exact this
  cases hw:wr a with
  |none=>exact Y0 hr
  |some x=>
   rw[hw]at h0
   simp only[Nat.add_zero,Option.isSome_some,forall_const]at h0
   rw[h0]
   exact Y0 hr
theorem ae5{β:Type}{wr:Ac->Option β}{B:Nat->Bool}:∀{az:List Ac} {k:Nat} {v:β},(∀j a,az[j]? =some a->(wr a).isSome=true->B (k+j)=false)->pf wr az k B v=v
 |[],_,_,_=>rfl
 | a :: r, k, v, h => by
  simp only[pf]
  have h0:=h 0 a rfl
  have hr:∀j b,r[j]? =some b->(wr b).isSome=true->B (k+1+j)=false:=fun j b hb hw=>by
   have:=h (j+1) b (by simpa using hb) hw
   rw[show k+(j+1)=k+1+j by omega]at this;exact this
  rw[ae5 hr]
  cases hw:wr a with
  |none=>rfl
  |some x=>
   rw[hw]at h0
   simp only[Nat.add_zero,Option.isSome_some,forall_const]at h0
   simp[h0]
theorem a47{β:Type}{wr:Ac->Option β}{B:Nat->Bool}:∀{az:List Ac} {k i:Nat} {v x:β} {a:Ac},az[i]? =some a->wr a=some x->B (k+i)=true->(∀j b,i<j->az[j]? =some b->(wr b).isSome=true->B (k+j)=false)->pf wr az k B v=x
 |[],_,_,_,_,_,h,_,_,_=>by simp at h
 |b::r,k,0,v,x,a,h,hw,hB,hn=>by
  simp at h;subst h
  simp only[pf,hw]
  rw[Nat.add_zero]at hB
  rw[hB,if_pos rfl]
  refine ae5 fun j c hc hs=>?_
  have:=hn (j+1) c al (by simpa using hc) hs
  rw[show k+(j+1)=k+1+j by omega]at this;exact this
 |b::r,k,i+1,v,x,a,h,hw,hB,hn=>by
  simp only[pf]
  refine a47 (i:=i) (by simpa using h) hw (by rw[show k+1+i=k+(i+1) by omega];exact hB) fun j c hj hc hs=>?_
  have:=hn (j+1) c al (by simpa using hc) hs
  rw[show k+(j+1)=k+1+j by omega]at this;exact this
theorem ax2{β:Type}{wr:Ac->Option β}{B:Nat->Bool}(p:β->Prop):∀{az:List Ac} {k:Nat} {v:β},p v->(∀j a x,az[j]? =some a->B (k+j)=true->wr a=some x->p x)->p (pf wr az k B v)
 |[],_,_,h,_=>h
 | a :: r, k, v, h, hs => by
  simp only[pf]
  refine ax2 p ?_ fun j b x hb hB hw=>hs (j+1) b x (by simpa using hb) (by rw[show k+(j+1)=k+1+j by omega];exact hB) hw
  cases hw:wr a with
  |none=>exact h
  |some x=>
   simp only
   split
   ·rename_i hB;exact hs 0 a x rfl (by simpa using hB) hw
   exact h
def aR5:List (Nat×It)->Nat->Option It
 |[],_=>none
 |(k,x)::r,i=>if i=k then some x else aR5 r i
theorem aA5(S:Nat->It)(i:Nat):∀(l:List (Nat×It)),p7 S l i=match aR5 l i with|some x=>x|none=>S i
 |[]=>rfl
 |(k,x)::r=>by simp only[p7,aR5];split;rfl;exact aA5 S i r
theorem V5{l:List (Nat×It)}{i:Nat}{x:It}(h:aR5 l i=some x):(i,x)∈l:=by
 induction l with
 |nil=>cases h
 |cons p r ih=>
  obtain⟨k,y⟩:=p
  simp only[aR5]at h
  split at h
  ·rename_i e;cases h;rw[e];exact cz6
  exact cz4 _ (ih h)
def wrT(t:Nat)(a:Ac):Option (Option AV):=if a.dst=some t then some (some a.t.res)else none
def wrS(i:Nat)(a:Ac):Option It:=aR5 a.t.new i
def tmD(az:List Ac)(B:Nat->Bool)(tm:Nat->Option AV):Nat->Option AV:=fun t=>pf (wrT t) az 0 B (tm t)
def sD(az:List Ac)(B:Nat->Bool)(S:Nat->It):Nat->It:=fun i=>pf (wrS i) az 0 B (S i)
def bef(ms:List Nat)(j i:Nat):Bool:=(nth ms i).testBit j
def bo5(ms:List Nat)(o:Oper):Nat:=o.after.foldl (fun s e=>if Region.binds .any e then s|||(2^e.on|||nth ms e.on)else s) 0
def a53(ms:List Nat)(l:List Oper):Bool:=(cx0 l.length).all fun i=>match l[i]? with|some o=>natEq (nth ms i) (bo5 ms o)|none=>false
def aj7(a b:Ac):Bool:=
 (match b.dst with|some t=>memN t a.rt||(match a.dst with|some s=>natEq s t|none=>false)|none=>false)||
 b.t.new.any (fun p=>memN p.1 a.ri||a.t.new.any fun q=>natEq q.1 p.1)
def b92(ms:List Nat)(az:List Ac):Bool:=
 (cx0 az.length).all fun i=>(cx0 az.length).all fun j=>
  match az[i]?,az[j]? with
  |some a,some b=>natEq i j|| !aj7 a b||(if decide (j<i)then bef ms j i else bef ms i j)
  |_,_=>false
def bZ6(S:Nat->It)(az:List Ac)(j:Nat):Nat:=match az.findSome? (wrS j)with
 |some x=>knd x
 |none=>knd (S j)
def bH8(ms:List Nat)(S:Nat->It)(az:List Ac):Bool:=
 (cx0 az.length).all fun i=>
  match az[i]? with
  |some a=>a.rk.all fun j=>az.all (fun b=>match wrS j b with|some x=>natEq (knd x) (bZ6 S az j)|none=>true)&&(natEq (knd (S j)) (bZ6 S az j)||(cx0 i).any fun k=>bef ms k i&&match az[k]? with|some b=>(wrS j b).isSome|none=>false)
  |none=>true
theorem bv8{β:Type}{wr:Ac->Option β}{B:Nat->Bool}(p:β->Prop):∀{az:List Ac} {k:Nat} {v:β},(∀(j:Nat) (a:Ac) (x:β),az[j]? =some a->wr a=some x->p x)->(p v\/∃(j:Nat) (a:Ac),az[j]? =some a/\(wr a).isSome=true/\B (k+j)=true)->p (pf wr az k B v)
 |[],_,_,_,h=>by rcases h with h|⟨j,a,h,_⟩;exact h;simp at h
 | a :: r, k, v, hs, h => by
  simp only[pf]
  refine bv8 p (fun j b x hb=>hs (j+1) b x (by simpa using hb)) ?_
  rcases h with h|⟨j,b,h1,h2,h3⟩
  ·left
   cases hw:wr a with
   |none=>exact h
   |some x=>
    simp only
    split
    ·exact hs 0 a x rfl hw
    exact h
  cases j with
  |zero=>
   left
   simp at h1;subst h1
   obtain⟨x,hx⟩:=cA2.1 h2
   rw[hx]
   rw[Nat.add_zero]at h3
   simp only[h3,if_true]
   exact hs 0 _ x rfl hx
  |succ j=>
   right
   exact⟨j,b,by simpa using h1,h2,by rw[show k+1+j=k+(j+1) by omega];exact h3⟩
theorem bu1{ms:List Nat}{S:Nat->It}{az:List Ac}(h:bH8 ms S az=true){i:Nat}{a:Ac}(ha:az[i]? =some a){j:Nat}(hj:j∈a.rk){B:Nat->Bool}(hB:∀k,k<i->bef ms k i=true->B k=true):knd (pf (wrS j) az 0 B (S j))=bZ6 S az j:=by
 have hi:=(cw5.1 ha).1
 have h1:=cw3.1 h i (cz5.2 hi)
 rw[ha]at h1
 have h2:=cw3.1 h1 j hj
 simp only[cv4,cz9]at h2
 refine bv8 (fun x=>knd x=bZ6 S az j) (fun q b x hb hx=>?_) ?_
 ·have:=cw3.1 h2.1 b (cy6 hb)
  rw[hx]at this
  simpa[natEq]using this
 rcases h2.2 with h3|h3
 ·left;simpa[natEq]using h3
 right
 obtain⟨k,hk,h4⟩:=List.any_eq_true.1 h3
 rw[cz5]at hk
 simp only[cv4]at h4
 cases hb:az[k]? with
 |none=>rw[hb]at h4;cases h4.2
 |some b=>
  rw[hb]at h4
  exact⟨k,b,hb,h4.2,by rw[cA0];exact hB k hk h4.1⟩
def bO1(ms:List Nat)(n0:Nat)(az:List Ac):Bool:=
 (cx0 az.length).all fun i=>
  match az[i]? with
  |some a=>(a.t.res.ids++a.t.new.map (·.1)++a.t.new.flatMap (fun p=>p.2.ids)).all fun id=>decide (id<n0)||natEq ((id-n0)/8) i||bef ms ((id-n0)/8) i
  |none=>false
section
variable{P:Program}{ι:Type}{φ ψ:Nat->Prop}{w0 w w':World}{F:ι->Rs}{ρ:Nat->Value}{S:Nat->It}{N n:Nat}
theorem au7{α β:Type}{f g:α->Option β}:∀{l:List α},(∀x∈l,f x=g x)->l.filterMap f=l.filterMap g
 |[],_=>rfl
 |a::r,h=>by rw[List.filterMap_cons,List.filterMap_cons,h a cz6,au7 fun x hx=>h x (cz4 _ hx)]
theorem aE5{ops:List Oper}{H:W0}{tm tm':Nat->Option AV}{i:Nat}{o:Oper}(h:∀t∈a72 ops o,tm' t=tm t):aL7 ops H tm' i o=aL7 ops H tm i o:=by
 unfold aL7
 unfold a72 at h
 cases hg:o.guard with
 |none=>rfl
 | some q =>
  obtain⟨j,want⟩:=q
  rw[hg]at h
  simp only at h ⊢
  cases hd:(ops[j]?).bind (·.dst)with
  |none=>rfl
  |some t=>
   rw[hd]at h
   simp only at h ⊢
   rw[h t an]
theorem bC6{dk:TypeId->Nat}{H:W0}{ops:List Oper}{i:Nat}{o:Oper}{tm tm':Nat->Option AV}{S S':Nat->It}{ac:Ac}{ob:List Prop}(h:opA P dk N ops H i o tm S n=some (ac,ob))(ht:∀t∈ac.rt,tm' t=tm t)(hs:∀j∈ac.ri,S' j=S j)(hk:∀j∈ac.rk,knd (S' j)=knd (S j)):opA P dk N ops H i o tm' S' n=some (ac,ob):=by
 unfold opA at h ⊢
 split at h
 case isFalse=>cases h
 rename_i hd
 rw[if_pos hd]
 cases hw:aL7 ops H tm i o with
 |none=>rw[hw]at h;cases h
 | some q =>
  obtain⟨b,lq,rq⟩:=q
  rw[hw]at h
  cases b
  ·simp only at h
   cases h
   rw[aE5 (tm:=tm) ht,hw]
  simp only at h
  cases hr:aO2 P dk H tm S n i o.op with
  |none=>rw[hr]at h;cases h
  | some t =>
   rw[hr]at h
   simp only at h
   split at h
   case isFalse=>cases h
   rename_i hf
   cases h
   simp only at ht hs hk
   rw[aE5 (tm:=tm) fun t ht'=>ht t (List.mem_append_right _ ht'),hw]
   have e1:rtm tm' (opT o.op)=rtm tm (opT o.op):=by
    funext t
    unfold rtm
    split
    ·rename_i hm;exact ht t (List.mem_append_left _ (v7.1 hm))
    rfl
   have e2:tch tm' o.op=tch tm o.op:=by
    have e9:Z9 tm' (opT o.op)=Z9 tm (opT o.op):=by
     unfold Z9
     congr 1
     exact au7 fun t ht'=>ht t (List.mem_append_left _ ht')
    cases ho':o.op<;>simp only[tch]<;>rw[<-ho']<;>first|rw[e1,e9]|exact e9
   have e8:wk tm' o.op=wk tm o.op:=by
    have e9:Z9 tm' (opT o.op)=Z9 tm (opT o.op):=by
     unfold Z9
     congr 1
     exact au7 fun t ht'=>ht t (List.mem_append_left _ ht')
    cases ho':o.op<;>simp only[wk]<;>rw[<-ho',e1,e9]
   have e3:aO2 P dk H tm' S' n i o.op=aO2 P dk H tm S n i o.op:=by
    unfold aO2
    cases hc:P5 H.calls i with
    |none=>
     simp only
     rw[e1,e2,e8,bI7 (fun j hj=>hs j (List.mem_append_left _ hj)) hk]
    | some q =>
     obtain⟨c,τ⟩:=q
     simp only
     rw[e1,e2]
     congr 1
     funext j
     unfold rS
     split
     ·rename_i hm
      refine hs j ?_
      unfold bz1
      rw[hc];exact v7.1 hm
     rfl
   have e4:bn8 H tm' S' n i o.op=bn8 H tm S n i o.op:=by
    unfold bn8
    cases hc:P5 H.calls i with
    |none=>simp only;rw[e1]
    | some q =>
     obtain⟨c,τ⟩:=q
     simp only
     rw[e1,e2]
     congr 1
     funext j
     unfold rS
     split
     ·rename_i hm
      refine hs j ?_
      unfold bz1
      rw[hc];exact v7.1 hm
     rfl
   rw[e3,hr,e4]
   simp only
   rw[e2,e8,if_pos hf]
theorem bY3{dk:TypeId->Nat}{H:W0}(hH:∀i c τ,P5 H.calls i=some (c,τ)->c.ok P)(hF:U0 H.facts){ops:List Oper}{i:Nat}{o:Oper}{tm:Nat->Option AV}{a:Act}(hv:∀t x,tm t=some x->a.tmps[t]? =some (x.val ρ))(M:l5 φ ψ w0 w (r7 F ρ S)){ac:Ac}{obs:List Prop}(h:opA P dk N ops H i o tm S n=some (ac,obs))(ho:x9 obs)(he:ac.eqs.1=ac.eqs.2)(hw':ac.eqw.1=ac.eqw.2)
  (hmk:∀j∈ac.t.made,S j=.none) (hi:Inv S ρ ac.t.made)
  {Q:Exit->Act->World->Prop} {rest:List Oper} (hk:∀ρ' w',D8 ac.t.made ρ ρ'->l5 φ ψ w0 w' (r7 F ρ' (p7 S ac.t.new))->wpList P ops.toArray Q rest (a.put o.dst (ac.t.res.val ρ')) w'):wpList P ops.toArray Q (o::rest) a w:=by
 unfold opA at h
 split at h
 case isFalse=>cases h
 rename_i hd
 split at h
 case h_1=>cases h
 ·rename_i l r hw
  cases h
  refine bu9 (av9 (ρ:=ρ) hF hw hw' fun t y _ hy=>hv t y hy) ?_
  exact hk ρ w (D8.refl _ _) (by simpa[ca4,p7]using M)
 rename_i l r hw
 split at h
 case h_1=>cases h
 rename_i t ht
 split at h
 case isFalse=>cases h
 rename_i hf
 cases h
 simp only[cv4]at hf
 refine O3.wp (av9 (ρ:=ρ) hF hw hw' fun t y _ hy=>hv t y hy) ?_
 refine(bd0 M hH hF (fun t y _ hy=>hv t y hy) ht ho he hmk hi (fun j hj=>?_)).mono ?_
 ·obtain⟨p,hp,rfl⟩:=List.mem_map.1 hj
  have:=cw3.1 hf.2 p hp
  simp only[cz9]at this
  exact this.imp v7.1 v7.1
 rintro v w' ⟨ρ',p1,p2,rfl⟩
 exact hk ρ' w' p1 p2
theorem bv3{dk:TypeId->Nat}{H:W0}{ops:List Oper}:∀(l:List Oper) (i n:Nat) {tm:List (Nat×AV)} {S:Nat->It} {r:RS},aa7 P dk N ops H l i tm S n=some r->x9 r.obs->
  r.acts.length=l.length/\(∀t,C2 r.tm t=pf (wrT t) r.acts i (fun _=>true) (C2 tm t))/\(∀j,r.S j=pf (wrS j) r.acts i (fun _=>true) (S j))/\
  ∀k o,l[k]? =some o->∃ac ob,r.acts[k]? =some ac/\x9 ob/\opA P dk N ops H (i+k) o (fun t=>pf (wrT t) r.acts i (fun j=>decide (j<i+k)) (C2 tm t)) (fun j=>pf (wrS j) r.acts i (fun q=>decide (q<i+k)) (S j)) (n+8*k)=some (ac,ob)
 |[],i,n,tm,S,r,h,_=>by cases h;exact⟨rfl,fun _=>rfl,fun _=>rfl,fun k o h=>by simp at h⟩
 | o :: l, i, n, tm, S, r, h, ho => by
  simp only[aa7]at h
  split at h
  case h_1=>cases h
  rename_i ac ob h1
  split at h
  case h_1=>cases h
  rename_i s h2
  cases h
  simp only[x9.append]at ho
  obtain⟨k1,k2,k3,k4⟩:=bv3 l (i+1) (n+8) h2 ho.2
  have eT:∀t,C2 (bm9 ac.dst ac.t.res tm) t=match wrT t ac with|some x=>x|none=>C2 tm t:=fun t=>by
   rw[aY3]
   simp only[aU4,wrT]
   split<;>rfl
  have eS:∀j,p7 S ac.t.new j=match wrS j ac with|some x=>x|none=>S j:=fun j=>aA5 S j _
  refine⟨by simp[k1],fun t=>?_,fun j=>?_,fun k o' hk=>?_⟩
  ·rw[k2 t,eT];simp only[pf];cases wrT t ac<;>rfl
  ·rw[k3 j,eS];simp only[pf];cases wrS j ac<;>rfl
  cases k with
  | zero =>
   simp at hk;subst hk
   refine⟨ac,ob,rfl,ho.1,?_⟩
   have e1:(fun t=>pf (wrT t) (ac::s.acts) i (fun j=>decide (j<i+0)) (C2 tm t))=C2 tm:=by
    funext t;exact ae5 fun j a _ _=>an
   have e2:(fun j=>pf (wrS j) (ac::s.acts) i (fun q=>decide (q<i+0)) (S j))=S:=by
    funext j;exact ae5 fun j a _ _=>an
   rw[e1,e2];exact h1
  | succ k =>
   obtain⟨ac',ob',m1,m2,m3⟩:=k4 k o' (by simpa using hk)
   refine⟨ac',ob',by simpa using m1,m2,?_⟩
   have hi:decide (i<i+(k+1))=true:=an
   have e1:(fun t=>pf (wrT t) (ac::s.acts) i (fun j=>decide (j<i+(k+1))) (C2 tm t))=fun t=>pf (wrT t) s.acts (i+1) (fun j=>decide (j<i+1+k)) (C2 (bm9 ac.dst ac.t.res tm) t):=by
    funext t
    rw[eT]
    simp only[pf,hi,if_true]
    rw[show i+(k+1)=i+1+k by omega]
    cases wrT t ac<;>rfl
   have e2:(fun j=>pf (wrS j) (ac::s.acts) i (fun q=>decide (q<i+(k+1))) (S j))=fun j=>pf (wrS j) s.acts (i+1) (fun q=>decide (q<i+1+k)) (p7 S ac.t.new j):=by
    funext j
    rw[eS]
    simp only[pf,hi,if_true]
    rw[show i+(k+1)=i+1+k by omega]
    cases wrS j ac<;>rfl
   rw[e1,e2,show i+(k+1)=i+1+k by omega,show n+8*(k+1)=n+8+8*k by omega]
   exact m3
def bV0(l:List Oper)(B:Nat->Bool):Prop:=∀j o,l[j]? =some o->B j=true->∀e∈o.after,Region.binds .any e=true->B e.on=true
theorem aO6{ms:List Nat}{o:Oper}{j:Nat}(h:(bo5 ms o).testBit j=true):∃e∈o.after,Region.binds .any e=true/\(e.on=j\/bef ms j e.on=true):=by
 unfold bo5 at h
 rw[<-Array.foldl_toList]at h
 have key:∀(es:List Edge) (s:Nat),(es.foldl (fun s e=>if Region.binds .any e then s|||(2^e.on|||nth ms e.on)else s) s).testBit j=true->s.testBit j=true\/∃e∈es,Region.binds .any e=true/\(e.on=j\/bef ms j e.on=true):=by
  intro es
  induction es with
  |nil=>intro s h;exact .inl h
  | cons e r ih =>
   intro s h
   simp only[List.foldl_cons]at h
   rcases ih _ h with h1|⟨e',he',h2⟩
   ·split at h1
    ·rename_i hb
     simp only[Nat.testBit_or,cz9,Nat.testBit_two_pow,decide_eq_true_eq]at h1
     rcases h1 with h1|h1|h1
     ·exact .inl h1
     ·exact .inr ⟨e,cz6,hb,.inl h1⟩
     exact .inr ⟨e,cz6,hb,.inr h1⟩
    exact .inl h1
   exact .inr ⟨e',cz4 _ he',h2⟩
 rcases key _ _ h with h1|⟨e,he,h2⟩
 ·simp at h1
 exact⟨e,by simpa using he,h2⟩
theorem aT4{ms:List Nat}{l:List Oper}(hm:a53 ms l=true)(hb:ao5 l.toArray=true){B:Nat->Bool}(hc:bV0 l B):∀i,i<l.length->B i=true->∀j,bef ms j i=true->B j=true:=by
 intro i
 induction i using Nat.strongRecOn with
 |_ i ih=>
  intro hi hB j hj
  have h1:=cw3.1 hm i (cz5.2 hi)
  rw[cv6 hi]at h1
  simp only[natEq,beq_iff_eq]at h1
  unfold bef at hj
  rw[h1]at hj
  obtain⟨e,he,h2,h3⟩:=aO6 hj
  have h4:=hc i _ (cv6 hi) hB e he h2
  have h5:=aT5 hb (show i<l.toArray.size by simpa using hi) (show l.toArray[i]? =some l[i] by simp[hi]) he h2
  rcases h3 with rfl|h3
  ·exact h4
  exact ih e.on h5 al h4 j h3
theorem bG7{ms:List Nat}{l:List Oper}(hm:a53 ms l=true)(hb:ao5 l.toArray=true){B:Nat->Bool}(hc:bV0 l B){i:Nat}{o:Oper}(ho:l[i]? =some o)(hr:∀e∈o.after,Region.binds .any e=true->B e.on=true){j:Nat}(hj:bef ms j i=true):B j=true:=by
 have hi:=(cw5.1 ho).1
 have h1:=cw3.1 hm i (cz5.2 hi)
 rw[ho]at h1
 simp only[natEq,beq_iff_eq]at h1
 unfold bef at hj
 rw[h1]at hj
 obtain⟨e,he,h2,h3⟩:=aO6 hj
 have h5:=aT5 hb (show i<l.toArray.size by simpa using hi) (show l.toArray[i]? =some o by simpa using ho) he h2
 rcases h3 with rfl|h3
 ·exact hr e he h2
 exact aT4 hm hb hc e.on al (hr e he h2) j h3
end
section
variable{P:Program}{ι:Type}{φ ψ:Nat->Prop}{w0 w w':World}{F:ι->Rs}{ρ:Nat->Value}{S:Nat->It}{N m n:Nat}{ρ0:Nat->Value}
theorem bk3{l:List Oper}{Q:Exit->Act->World->Prop}(I:Array Bool->Act->World->Prop)(hb:ao5 l.toArray=true)
  (step:∀listed a w,I listed a w->∀i o,l[i]? =some o->listed.getD i true=false->(∀e∈o.after,Region.binds .any e=true->listed.getD e.on false=true)->
   ∀Q':Exit->Act->World->Prop,(∀a w,I (listed.setIfInBounds i true) a w->Q' .normal a w)->wpList P l.toArray Q' [o] a w)
  (done:∀listed a w,I listed a w->(∀j,j<l.length->listed.getD j true=true)->Q .normal a w):
  ∀(fuel:Nat) (listed:Array Bool) (a:Act) (w:World),listed.size=l.toArray.size->listed.toList.count false=fuel->I listed a w->wpAny P .any l.toArray Q fuel listed a w:=by
 have hfin:∀(listed:Array Bool) (a:Act) (w:World),listed.size=l.toArray.size->Region.ready .any l.toArray listed=[]->I listed a w->Q .normal a w:=by
  intro listed a w hsz hr hI
  refine done listed a w hI fun j hj=>?_
  cases hl:listed.getD j true
  ·exact absurd hr (ba8 hb hsz j (by simpa using hj) hl)
  rfl
 intro fuel
 induction fuel with
 | zero =>
  intro listed a w hsz hc hI
  have hr:Region.ready .any l.toArray listed=[]:=by
   rw[List.eq_nil_iff_forall_not_mem]
   intro j hj
   have:=ab1 (mem_ready.1 hj).1
   omega
  exact⟨hr,hfin listed a w hsz hr hI⟩
 | succ f ih =>
  intro listed a w hsz hc hI
  refine⟨fun hr=>hfin listed a w hsz hr hI,fun i hi=>?_⟩
  obtain⟨h1,o,ho,h2⟩:=mem_ready.1 hi
  have ho':l[i]? =some o:=by simpa using ho
  have hcl:=ab1 h1
  have hs:=step listed a w hI i o ho' h1 h2 (fun e a w=>e=.normal/\I (listed.setIfInBounds i true) a w) fun a w h=>⟨rfl,h⟩
  unfold wpOp
  rw[ho]
  simp only
  unfold wpList at hs
  split
  ·rename_i hw
   rw[if_pos hw]at hs
   rcases hs with hs|⟨_,a,w,he,_⟩
   ·exact .inl (bA1 (fun _ _ _ h=>h.1) (Oper.wp_mono (fun a' w' h=>ih _ a' w' (by simpa using hsz) al h.2) hs))
   cases he
  rename_i hw
  rw[if_neg hw]at hs
  exact ih _ _ _ (by simpa using hsz) al hs.2
theorem aL6{id:Nat}{l:List Oper}{Q:Exit->Act->World->Prop}{a:Act}{w:World}(I:Array Bool->Act->World->Prop)(hm:P.follows .mixedOrders=true)(hb:ao5 l.toArray=true)
  (h0:I (cx4 l.length false) a w.drew)
  (step:∀listed a w,I listed a w->∀i o,l[i]? =some o->listed.getD i true=false->(∀e∈o.after,Region.binds .any e=true->listed.getD e.on false=true)->
   ∀Q':Exit->Act->World->Prop,(∀a w,I (listed.setIfInBounds i true) a w->Q' .normal a w)->wpList P l.toArray Q' [o] a w)
  (done:∀listed a w,I listed a w->(∀j,j<l.length->listed.getD j true=true)->Q .normal a w):(Code.region id l.toArray true).wp P Q a w:=
 wp_region_any hm (bk3 I hb step done _ _ _ _ an an (by simpa using h0))
def RI(φ ψ:Nat->Prop)(w0:World)(F:ι->Rs)(N m:Nat)(ρ0:Nat->Value)(l:List Oper)(az:List Ac)(tm:Nat->Option AV)(S:Nat->It)(listed:Array Bool)(a:Act)(w:World):Prop:=
 listed.size=l.length/\bV0 l (fun j=>listed.getD j false)/\∃ρ,(∀i,i<m->ρ i=ρ0 i)/\a.tmps.size=N/\a.defers=[]/\(∀t x,tmD az (fun j=>listed.getD j false) tm t=some x->a.tmps[t]? =some (x.val ρ))/\l5 φ ψ w0 w (r7 F ρ (sD az (fun j=>listed.getD j false) S))
theorem bn7{ms:List Nat}{az:List Ac}(h:b92 ms az=true){i j:Nat}{a b:Ac}(ha:az[i]? =some a)(hb:az[j]? =some b)(hij:i≠j)(hm:aj7 a b=true):(j<i->bef ms j i=true)/\(i<j->bef ms i j=true):=by
 have hi:=(cw5.1 ha).1
 have hj:=(cw5.1 hb).1
 have h1:=cw3.1 (cw3.1 h i (cz5.2 hi)) j (cz5.2 hj)
 rw[ha,hb]at h1
 have hne:natEq i j=false:=by simp[natEq,hij]
 simp only[hne,hm,Bool.not_true,Bool.false_or]at h1
 constructor
 ·intro hlt;rw[if_pos (by simpa using hlt)]at h1;exact h1
 intro hlt;rw[if_neg ah]at h1;exact h1
theorem bw7{ms:List Nat}{n0:Nat}{az:List Ac}(h:bO1 ms n0 az=true){i:Nat}{a:Ac}(ha:az[i]? =some a):∀id,(id∈a.t.res.ids\/id∈a.t.new.map (·.1)\/∃p∈a.t.new,id∈p.2.ids)->id<n0\/(id-n0)/8=i\/bef ms ((id-n0)/8) i=true:=by
 intro id hid
 have hi:=(cw5.1 ha).1
 have h1:=cw3.1 h i (cz5.2 hi)
 rw[ha]at h1
 have h2:=cw3.1 h1 id (by
  rcases hid with h|h|⟨p,hp,h⟩
  ·exact List.mem_append_left _ (List.mem_append_left _ h)
  ·exact List.mem_append_left _ (List.mem_append_right _ h)
  exact List.mem_append_right _ (List.mem_flatMap.2 ⟨p,hp,h⟩))
 simp only[cz9,decide_eq_true_eq,natEq,beq_iff_eq]at h2
 rcases h2 with(h2|h2)|h2
 ·exact .inl h2
 ·exact .inr (.inl h2)
 exact .inr (.inr h2)
theorem a23{dk:TypeId->Nat}{H:W0}(hH:∀i c τ,P5 H.calls i=some (c,τ)->c.ok P)(hF:U0 H.facts){l:List Oper}{id:Nat}{Q:Exit->Act->World->Prop}{tm:List (Nat×AV)}{a:Act}{wr:World}(I0:Inn φ ψ w0 F N m ρ0 n ρ (C2 tm) S a wr){r:RS}(hrun:aa7 P dk N l H l 0 tm S n=some r)(ho:x9 r.obs)(heq:r.acts.map (·.eqs.1)=r.acts.map (·.eqs.2))(hew:r.acts.map (·.eqw.1)=r.acts.map (·.eqw.2))
  (ms:List Nat) (hm:P.follows .mixedOrders=true) (hb:ao5 l.toArray=true) (hms:a53 ms l=true) (hord:b92 ms r.acts=true) (hment:bO1 ms n r.acts=true) (hweak:bH8 ms S r.acts=true)
  (done:∀ρ' a' w' n',Inn φ ψ w0 F N m ρ0 n' ρ' (C2 r.tm) r.S a' w'->Q .normal a' w'):(Code.region id l.toArray true).wp P Q a wr:=by
 obtain⟨hlen,hfT,hfS,hat⟩:=bv3 l 0 n hrun ho
 have hmt:∀(i:Nat) ac,r.acts[i]? =some ac->∀t b,b.dst=some t->t∈ac.rt->aj7 ac b=true:=fun i ac _ t b hb ht=>by
  simp[aj7,hb,v7.2 ht]
 have hmd:∀ac b t,ac.dst=some t->b.dst=some t->aj7 ac b=true:=fun ac b t h1 h2=>by
  simp[aj7,h1,h2,natEq]
 have hms':∀(ac b:Ac) (j:Nat),j∈ac.ri->j∈b.t.new.map (·.1)->aj7 ac b=true:=fun ac b j h1 h2=>by
  obtain⟨p,hp,rfl⟩:=List.mem_map.1 h2
  unfold aj7
  have:b.t.new.any (fun p=>memN p.1 ac.ri||ac.t.new.any fun q=>natEq q.1 p.1)=true:=List.any_eq_true.2 ⟨p,hp,by simp[v7.2 h1]⟩
  rw[this];simp
 have hmn:∀(ac b:Ac) (j:Nat),j∈ac.t.new.map (·.1)->j∈b.t.new.map (·.1)->aj7 ac b=true:=fun ac b j h1 h2=>by
  obtain⟨p,hp,rfl⟩:=List.mem_map.1 h2
  obtain⟨q,hq,e⟩:=List.mem_map.1 h1
  unfold aj7
  have:b.t.new.any (fun p=>memN p.1 ac.ri||ac.t.new.any fun q=>natEq q.1 p.1)=true:=List.any_eq_true.2 ⟨p,hp,by
   have:ac.t.new.any (fun q=>natEq q.1 p.1)=true:=List.any_eq_true.2 ⟨q,hq,by simp[natEq,e]⟩
   rw[this];simp⟩
  rw[this];simp
 refine aL6 (RI φ ψ w0 F N m ρ0 l r.acts (C2 tm) S) hm hb ?_ ?_ ?_
 ·refine⟨an,fun j o _ hj=>?_,ρ,I0.old,I0.size,I0.defs,fun t x hx=>?_,?_⟩
  ·have hj':(cx4 l.length false).getD j false=true:=hj
   rw[getD_replicate_false]at hj';cases hj'
  ·refine I0.tmv t x ?_
   rw[<-hx]
   exact(ae5 fun j b _ _=>getD_replicate_false _ _).symm
  have e:sD r.acts (fun j=>(cx4 l.length false).getD j false) S=S:=by
   funext j;exact ae5 fun j b _ _=>getD_replicate_false _ _
  rw[e];exact I0.mem.drew
 ·rintro listed a w ⟨hsz,hdn,ρ,hold,hN,hdf,hv,M⟩ i o hoi hun hdep Q' hQ
  generalize hB:(fun j=>listed.getD j false)=B at*
  have hBj:∀j,B j=listed.getD j false:=fun j=>by rw[<-hB]
  have hil:=(cw5.1 hoi).1
  have hBi:B i=false:=by
   rw[hBj, <-by0 al];exact hun
  obtain⟨ac,ob,hac,hob,hop⟩:=hat i o hoi
  simp only[cA0]at hop
  have heqi:ac.eqs.1=ac.eqs.2:=by
   have:=congrArg (·[i]?) heq
   simpa[hac]using this
  have hewi:ac.eqw.1=ac.eqw.2:=by
   have:=congrArg (·[i]?) hew
   simpa[hac]using this
  obtain⟨hdst,hdN,hfine⟩:=a49 hop
  obtain⟨hf1,hf2,hf3⟩:=ai9 hfine
  have hdep':∀e∈o.after,Region.binds .any e=true->B e.on=true:=fun e he hbi=>by rw[hBj];exact hdep e he hbi
  have ahead:∀j,bef ms j i=true->B j=true:=fun j hj=>bG7 hms hb hdn hoi hdep' hj
  have behind:∀j,j<l.length->bef ms i j=true->B j=false:=fun j hjl hj=>by
   cases h:B j
   ·rfl
   have:=aT4 hms hb hdn j hjl h i hj
   rw[hBi]at this;cases this
  have hagree:∀(j:Nat) b,r.acts[j]? =some b->aj7 ac b=true->B j=decide (j<i):=fun j b hj hmm=>by
   have hjl:j<l.length:=by have:=(cw5.1 hj).1;omega
   rcases Nat.lt_trichotomy j i with h|h|h
   ·rw[ahead j ((bn7 hord hac hj al hmm).1 h)];simp[h]
   ·subst h;rw[hBi];simp
   rw[behind j hjl ((bn7 hord hac hj al hmm).2 h)]
   have:¬j<i:=al
   simp[this]
  have hop2:=bC6 hop (tm':=tmD r.acts B (C2 tm)) (S':=sD r.acts B S) (fun t ht=>Y0 fun j b hj hw=>by
    rw[cA0]
    refine hagree j b hj (hmt i ac hac t b ?_ ht)
    unfold wrT at hw
    split at hw
    ·assumption
    cases hw)
   (fun q hq=>Y0 fun j b hj hw=>by
    rw[cA0]
    obtain⟨x,hx⟩:=cA2.1 hw
    exact hagree j b hj (hms' ac b q hq (List.mem_map.2 ⟨_,V5 hx,rfl⟩)))
   (fun q hq=>by
    show knd (pf (wrS q) r.acts 0 B (S q))=_
    rw[bu1 hweak hac hq fun k _ hk=>ahead k hk,bu1 hweak hac hq fun k hk _=>by simpa using hk])
  have hrange:∀id,n+8*i<=id->id<n+8*i+8->(id-n)/8=i:=fun id h1 h2=>al
  have hmk:∀j∈ac.t.made,sD r.acts B S j=.none:=fun j hj=>by
   obtain⟨g1,g2⟩:=hf2 j hj
   have e:sD r.acts B S j=S j:=ae5 fun k b hk hw=>by
    rw[cA0]
    obtain⟨x,hx⟩:=cA2.1 hw
    have hkl:k<l.length:=by have:=(cw5.1 hk).1;omega
    rcases bw7 hment hk j (.inr (.inl (List.mem_map.2 ⟨_,V5 hx,rfl⟩)))with h|h|h
    ·omega
    ·rw[hrange j g1 g2]at h;subst h;exact hBi
    rw[hrange j g1 g2]at h;exact behind k hkl h
   rw[e];exact(I0.bd j).2 al
  have hnot:∀(k:Nat) b,r.acts[k]? =some b->B k=true->∀id,(id∈b.t.res.ids\/id∈b.t.new.map (·.1)\/∃p∈b.t.new,id∈p.2.ids)->id∉ac.t.made:=fun k b hk hBk id hid hm=>by
   obtain⟨g1,g2⟩:=hf2 id hm
   have hkl:k<l.length:=by have:=(cw5.1 hk).1;omega
   rcases bw7 hment hk id hid with h|h|h
   ·omega
   ·rw[hrange id g1 g2]at h;subst h;rw[hBi]at hBk;cases hBk
   rw[hrange id g1 g2]at h;rw[behind k hkl h]at hBk;cases hBk
  have hitem:∀j,∀id∈(sD r.acts B S j).ids,id∉ac.t.made:=fun j=>by
   refine ax2 (fun x:It=>∀id∈x.ids,id∉ac.t.made) (fun id hid hm=>?_) fun k b x hk hBk hw id hid=>?_
   ·have:=(I0.bd j).1 id hid;have:=(hf2 id hm).1;omega
   rw[cA0]at hBk
   exact hnot k b hk hBk id (.inr (.inr ⟨_,V5 hw,hid⟩))
  have htm:∀t x,tmD r.acts B (C2 tm) t=some x->∀id∈x.ids,id∉ac.t.made:=fun t=>by
   refine ax2 (fun y:Option AV=>∀x,y=some x->∀id∈x.ids,id∉ac.t.made) (fun x hx id hid hm=>?_) fun k b y hk hBk hw x hx id hid=>?_
   ·have:=I0.tmi t x hx id hid;have:=(hf2 id hm).1;omega
   rw[cA0]at hBk
   unfold wrT at hw
   split at hw
   ·cases hw;cases hx
    exact hnot k b hk hBk id (.inl hid)
   cases hw
  have hinv:Inv (sD r.acts B S) ρ ac.t.made:=fun ρ' ha j=>by
   refine It.res_congr _ (fun id hid=>ha id (hitem j id hid)) ?_
   by_cases hj:j∈ac.t.made
   ·exact .inl (hmk j hj)
   exact .inr (.inr (ha j hj))
  refine bY3 hH hF hv M hop2 hob heqi hewi hmk hinv fun ρ' w' ha M'=>?_
  refine hQ _ _ ?_
  have hB':∀j,(listed.setIfInBounds i true).getD j false=if j=i then true else B j:=fun j=>by
   by_cases e:j=i
   ·subst e
    have:j<listed.size:=al
    simp[this]
   rw[if_neg e,getD_set_ne false (fun h=>e h.symm),hBj]
  have hBe:(fun j=>(listed.setIfInBounds i true).getD j false)=fun j=>if j=i then true else B j:=funext hB'
  have later:∀(j:Nat) b,i<j->r.acts[j]? =some b->aj7 ac b=true->(if j=i then true else B j)=false:=fun j b hij hj hmm=>by
   have hjl:j<l.length:=by have:=(cw5.1 hj).1;omega
   rw[if_neg al]
   exact behind j hjl ((bn7 hord hac hj al hmm).2 hij)
  have eT:tmD r.acts (fun j=>if j=i then true else B j) (C2 tm)=aU4 ac.dst ac.t.res (tmD r.acts B (C2 tm)):=by
   funext t
   simp only[aU4]
   by_cases e:ac.dst=some t
   ·rw[if_pos e]
    refine a47 (i:=i) hac (by simp[wrT,e]) an fun j b hij hj hw=>?_
    rw[cA0]
    refine later j b hij hj (hmd ac b t e ?_)
    unfold wrT at hw
    split at hw
    ·assumption
    cases hw
   rw[if_neg e]
   refine Y0 fun j b hj hw=>?_
   have:j≠i:=fun h=>by
    subst h
    rw[hac]at hj;cases hj
    simp[wrT,e]at hw
   simp[this]
  have eS:sD r.acts (fun j=>if j=i then true else B j) S=p7 (sD r.acts B S) ac.t.new:=by
   funext q
   rw[aA5]
   cases hx:aR5 ac.t.new q with
   |some x=>
    refine a47 (i:=i) hac hx an fun j b hij hj hw=>?_
    rw[cA0]
    obtain⟨y,hy⟩:=cA2.1 hw
    exact later j b hij hj (hmn ac b q (List.mem_map.2 ⟨_,V5 hx,rfl⟩) (List.mem_map.2 ⟨_,V5 hy,rfl⟩))
   | none =>
    refine Y0 fun j b hj hw=>?_
    have:j≠i:=fun h=>by
     subst h
     rw[hac]at hj;cases hj
     unfold wrS at hw
     rw[hx]at hw;cases hw
    simp[this]
  refine⟨by simpa using hsz,?_,ρ',fun j hj=>(ha j fun hm=>by have:=(hf2 j hm).1;have:=I0.le;omega).trans (hold j hj),(bc2 _ _ _).trans hN,(bc3 _ _ _).trans hdf,?_,?_⟩
  ·rw[hBe]
   intro j oj hj hBj' e he hbi
   show(if e.on=i then true else B e.on)=true
   by_cases e1:e.on=i
   ·simp[e1]
   rw[if_neg e1]
   by_cases e2:j=i
   ·subst e2
    rw[hoi]at hj;cases hj
    exact hdep' e he hbi
   simp only[if_neg e2]at hBj'
   exact hdn j oj hj hBj' e he hbi
  ·rw[hBe,eT,hdst]
   intro t x hx
   rw[bL1 (by rw[hN];exact hdN)]
   simp only[aU4]at hx
   split
   ·rename_i e;rw[if_pos e]at hx;cases hx;rfl
   rename_i e
   rw[if_neg e]at hx
   rw[hv t x hx,AV.val_congr x fun id hid=>ha id (htm t x hx id hid)]
  rw[hBe,eS];exact M'
 rintro listed a w ⟨hsz,hdn,ρ,hold,hN,hdf,hv,M⟩ hall
 have hall':∀j,j<l.length->listed.getD j false=true:=fun j hj=>by rw[<-by0 al];exact hall j hj
 have eT:tmD r.acts (fun j=>listed.getD j false) (C2 tm)=C2 r.tm:=by
  funext t
  rw[hfT t]
  refine Y0 fun j b hj _=>?_
  rw[cA0]
  exact hall' j (by have:=(cw5.1 hj).1;omega)
 have eS:sD r.acts (fun j=>listed.getD j false) S=r.S:=by
  funext q
  rw[hfS q]
  refine Y0 fun j b hj _=>?_
  rw[cA0]
  exact hall' j (by have:=(cw5.1 hj).1;omega)
 have hids:∀(k:Nat) b,r.acts[k]? =some b->∀id,(id∈b.t.res.ids\/id∈b.t.new.map (·.1)\/∃p∈b.t.new,id∈p.2.ids)->id<n+8*l.length:=fun k b hk id hid=>by
  have hkl:k<l.length:=by have:=(cw5.1 hk).1;omega
  obtain⟨o,ho'⟩:∃o,l[k]? =some o:=⟨_,cv6 hkl⟩
  obtain⟨ac,ob,hac,_,hop⟩:=hat k o ho'
  rw[hk]at hac;cases hac
  obtain⟨_,_,hfine⟩:=a49 hop
  obtain⟨hf1,hf2,hf3⟩:=ai9 hfine
  rcases hid with h|h|⟨p,hp,h⟩
  ·have:=hf3 id h;omega
  ·obtain⟨p,hp,rfl⟩:=List.mem_map.1 h
   have:=(hf1 p hp).1;omega
  have:=(hf1 p hp).2 id h;omega
 refine done ρ a w (n+8*l.length) ⟨hN,hdf,by rw[<-eT];exact hv,fun t x hx=>?_,fun j=>?_,by rw[<-eS];exact M,by have:=I0.le;omega,hold⟩
 ·rw[hfT t]at hx
  revert x
  refine ax2 (fun y:Option AV=>∀x,y=some x->∀id∈x.ids,id<n+8*l.length) (fun x hx id hid=>?_) fun k b y hk _ hw x hx id hid=>?_
  ·have:=I0.tmi t x hx id hid;omega
  unfold wrT at hw
  split at hw
  ·cases hw;cases hx
   exact hids k b hk id (.inl hid)
  cases hw
 refine⟨?_,fun hj=>?_⟩
 ·rw[hfS j]
  refine ax2 (fun x:It=>∀id∈x.ids,id<n+8*l.length) (fun id hid=>?_) fun k b x hk _ hw id hid=>?_
  ·have:=(I0.bd j).1 id hid;omega
  exact hids k b hk id (.inr (.inr ⟨_,V5 hw,hid⟩))
 rw[hfS j,ae5 fun k b hk hw=>?_]
 ·exact(I0.bd j).2 al
 obtain⟨x,hx⟩:=cA2.1 hw
 have:=hids k b hk j (.inr (.inl (List.mem_map.2 ⟨_,V5 hx,rfl⟩)))
 omega
end
def x7{ι:Type}(φ ψ:Nat->Prop)(w0:World)(F:ι->Rs)(N m:Nat)(ρ0 ρ:Nat->Value)(S:List It)(tm:List (Nat×AV))(a:Act)(w:World):Prop:=Inn φ ψ w0 F N m ρ0 S.length ρ (C2 tm) (t6 S) a w
def wfB(S:List It)(tm:List (Nat×AV)):Bool:=S.all (fun x=>ac6 S.length x.ids)&&tm.all (fun p=>ac6 S.length p.2.ids)
def b50(m:Nat)(js:List Nat):Bool:=(cx0 m).all fun i=>natEq (nth js i) i&&decide (i<js.length)
def ak1(m:Nat)(js:List Nat)(S:List It)(tm:List (Nat×AV)):Bool:=nodupB js&&natEq js.length S.length&&wfB S tm&&b50 m js
section
variable{P:Program}{ι:Type}{φ ψ:Nat->Prop}{w0 w w':World}{F:ι->Rs}{ρ ρ0:Nat->Value}{N m n:Nat}{S:List It}{tm:List (Nat×AV)}{a:Act}{Q:Exit->Act->World->Prop}
theorem aO9:∀{tm:List (Nat×AV)} {t:Nat} {x:AV},C2 tm t=some x->(t,x)∈tm
 |[],_,_,h=>by cases h
 |(k,y)::r,t,x,h=>by
  simp only[C2,natEq,beq_iff_eq]at h
  split at h
  ·rename_i e;subst e;cases h;exact cz6
  exact cz4 _ (aO9 h)
theorem an1{l:List It}{i:Nat}(h:i<l.length):t6 l i=l[i]:=by simp[t6,cv8,h]
theorem A6{l:List It}{i:Nat}(h:l.length<=i):t6 l i=.none:=by simp[t6,cv8,h]
theorem b39{S:List It}{tm:List (Nat×AV)}(h:wfB S tm=true):(∀j,(∀id∈(t6 S j).ids,id<S.length)/\(S.length<=j->t6 S j=.none))/\∀t x,C2 tm t=some x->∀id∈x.ids,id<S.length:=by
 simp only[wfB,cv4]at h
 refine⟨fun j=>⟨fun id hid=>?_,fun hj=>A6 hj⟩,fun t x hx id hid=>?_⟩
 ·rcases cx7 j S.length with hj|hj
  ·rw[an1 hj]at hid
   exact G5 (cw3.1 h.1 _ (cx9 hj)) id hid
  rw[A6 hj]at hid;cases hid
 exact G5 (cw3.1 h.2 _ (aO9 hx)) id hid
theorem Inn.sel{tf:Nat->Option AV}{Sf:Nat->It}(I:Inn φ ψ w0 F N m ρ0 n ρ tf Sf a w)(js:List Nat)(S1:List It)(tm1:List (Nat×AV))(hb:ak1 m js S1 tm1=true)(hS:js.map Sf=S1.map (It.ren (nth js)))(ht:(tm1.map (·.1)).map tf=tm1.map fun p=>some (p.2.ren (nth js))):
  x7 φ ψ w0 F N m ρ0 (fun i=>ρ (nth js i)) S1 tm1 a w:=by
 simp only[ak1,cv4,natEq,beq_iff_eq]at hb
 obtain⟨⟨⟨hnd,hl⟩,hwf⟩,hkeep⟩:=hb
 have hn:=au2 hnd
 obtain⟨b1,b2⟩:=b39 hwf
 have hk:∀i,i<m->nth js i=i/\i<js.length:=fun i hi=>by
  have:=cw3.1 hkeep i (cz5.2 hi)
  simpa[natEq]using this
 refine⟨I.size,I.defs,fun t x hx=>?_,b2,b1,?_,?_,fun i hi=>?_⟩
 ·obtain⟨i,hi⟩:=List.mem_iff_getElem?.1 (aO9 hx)
  have h1:=congrArg (·[i]?) ht
  simp only[List.getElem?_map,hi,Option.map_some]at h1
  rw[I.tmv t _ (Option.some.inj h1),AV.val_ren]
 ·refine I.mem.map (fun k:ι ⊕ Nat=>(match k with|.inl i=>some (.inl i)|.inr i=>if i<js.length then some (.inr (nth js i))else none:Option (ι ⊕ Nat))) ?_ ?_
  ·intro k k' x h1 h2
   match k,k' with
   |.inl i,.inl i'=>simp at h1 h2;rw[<-h1]at h2;simpa using h2.symm
   |.inl i,.inr j=>simp only at h1 h2;cases h1;split at h2<;>simp at h2
   |.inr j,.inl i=>simp only at h1 h2;cases h2;split at h1<;>simp at h1
   |.inr j,.inr j'=>
    simp at h1 h2
    obtain⟨f1,f2⟩:=h1
    obtain⟨g1,g2⟩:=h2
    rw[<-f2]at g2
    have hj:=Sum.inr.inj g2
    have e1:=cv6 f1
    have e2:=cv6 g1
    rw[K1 e2,K1 e1]at hj
    have:=(List.getElem?_inj f1 hn).1 (e1.trans (by rw[<-hj];exact e2.symm))
    rw[this]
  intro k
  match k with
  |.inl i=>exact .inl ⟨_,rfl,rfl⟩
  | .inr i =>
   by_cases hlt:i<js.length
   ·refine .inl ⟨.inr (nth js i),by simp[hlt],?_⟩
    have h1:=congrArg (·[i]?) hS
    have hlt':i<S1.length:=al
    simp only[List.getElem?_map,cv6 hlt,cv6 hlt',Option.map_some,Option.some.injEq]at h1
    simp only[r7]
    rw[an1 hlt',K1 (cv6 hlt),h1, <-It.res_ren,K1 (cv6 hlt)]
   refine .inr ?_
   simp only[r7]
   rw[A6 al]
   rfl
 ·rcases cx7 S1.length m with h|h
  ·have:=(hk S1.length h).2;omega
  exact h
 rw[(hk i hi).1];exact I.old i hi
def bc8(o:Option RS)(js ts:List Nat):Option (List Prop×List It×List (Option AV)×List (List (List AV×List It))×List (List AV)):=o.map fun r=>(r.obs,js.map r.S,ts.map (C2 r.tm),r.acts.map (·.eqs.1),r.acts.map (·.eqw.1))
def bn5(o:Option RS)(obs:List Prop)(js:List Nat)(S:List It)(tm:List (Nat×AV)):Option (List Prop×List It×List (Option AV)×List (List (List AV×List It))×List (List AV)):=o.map fun r=>(obs,S.map (It.ren (nth js)),tm.map (fun p=>some (p.2.ren (nth js))),r.acts.map (·.eqs.2),r.acts.map (·.eqw.2))
def by6(l:List Oper)(ms:List Nat)(n:Nat)(S:Nat->It)(o:Option RS):Bool:=a53 ms l&&ao5 l.toArray&&match o with
 |some r=>b92 ms r.acts&&bO1 ms n r.acts&&bH8 ms S r.acts
 |none=>false
theorem b81{dk:TypeId->Nat}{l:List Oper}{id:Nat}(G:x7 φ ψ w0 F N m ρ0 ρ S tm a w)(H:W0)(hH:∀i c τ,P5 H.calls i=some (c,τ)->c.ok P)(hF:U0 H.facts)(js:List Nat)(S1:List It)(tm1:List (Nat×AV))(obs:List Prop)
  (hs:((aa7 P dk N l H l 0 tm (t6 S) S.length).isSome&&ak1 m js S1 tm1)=true)
  (hc:bc8 (aa7 P dk N l H l 0 tm (t6 S) S.length) js (tm1.map (·.1))=bn5 (aa7 P dk N l H l 0 tm (t6 S) S.length) obs js S1 tm1)
  (ho:x9 obs) (k:∀ρ' a' w',x7 φ ψ w0 F N m ρ0 ρ' S1 tm1 a' w'->Q .normal a' w'):(Code.region id l.toArray false).wp P Q a w:=by
 simp only[cv4]at hs
 obtain⟨r,hr⟩:=cA2.1 hs.1
 rw[hr]at hc
 simp only[bc8,bn5,Option.map_some,Option.some.injEq,Prod.mk.injEq]at hc
 obtain⟨h1,h2,h3,h4,h5⟩:=hc
 refine wp_region_lit (bv2 hH hF l 0 S.length G hr (by rw[h1];exact ho) h4 h5 fun ρ' a' w' n' I=>?_)
 exact k _ a' w' (I.sel js S1 tm1 hs.2 h2 h3)
theorem bX7{dk:TypeId->Nat}{l:List Oper}{id:Nat}(G:x7 φ ψ w0 F N m ρ0 ρ S tm a w)(H:W0)(hH:∀i c τ,P5 H.calls i=some (c,τ)->c.ok P)(hF:U0 H.facts)(ms:List Nat)(js:List Nat)(S1:List It)(tm1:List (Nat×AV))(obs:List Prop)(hm:P.follows .mixedOrders=true)
  (hs:(by6 l ms S.length (t6 S) (aa7 P dk N l H l 0 tm (t6 S) S.length)&&ak1 m js S1 tm1)=true)
  (hc:bc8 (aa7 P dk N l H l 0 tm (t6 S) S.length) js (tm1.map (·.1))=bn5 (aa7 P dk N l H l 0 tm (t6 S) S.length) obs js S1 tm1)
  (ho:x9 obs) (k:∀ρ' a' w',x7 φ ψ w0 F N m ρ0 ρ' S1 tm1 a' w'->Q .normal a' w'):(Code.region id l.toArray true).wp P Q a w:=by
 simp only[cv4,by6]at hs
 obtain⟨⟨⟨q1,q2⟩,q3⟩,q4⟩:=hs
 cases hr:aa7 P dk N l H l 0 tm (t6 S) S.length with
 |none=>rw[hr]at q3;cases q3
 |some r=>
  rw[hr]at q3 hc
  simp only[cv4]at q3
  simp only[bc8,bn5,Option.map_some,Option.some.injEq,Prod.mk.injEq]at hc
  obtain⟨h1,h2,h3,h4,h5⟩:=hc
  refine a23 hH hF G hr (by rw[h1];exact ho) h4 h5 ms hm q2 q1 q3.1.1 q3.1.2 q3.2 fun ρ' a' w' n' I=>?_
  exact k _ a' w' (I.sel js S1 tm1 q4 h2 h3)
theorem rs1{dk:TypeId->Nat}{l:List Oper}{id:Nat}(G:x7 φ ψ w0 F N m ρ0 ρ S tm a w)(H:W0)(hH:∀i c τ,P5 H.calls i=some (c,τ)->c.ok P)(hF:U0 H.facts)(js:List Nat)(S1:List It)(tm1:List (Nat×AV))(obs:List Prop)
  (ho:x9 obs) (k:∀ρ' a' w',x7 φ ψ w0 F N m ρ0 ρ' S1 tm1 a' w'->Q .normal a' w')
  (hs:((aa7 P dk N l H l 0 tm (t6 S) S.length).isSome&&ak1 m js S1 tm1)=true:=by kernel_rfl)
  (hc:bc8 (aa7 P dk N l H l 0 tm (t6 S) S.length) js (tm1.map (·.1))=bn5 (aa7 P dk N l H l 0 tm (t6 S) S.length) obs js S1 tm1:=by kernel_rfl):(Code.region id l.toArray false).wp P Q a w:=b81 G H hH hF js S1 tm1 obs hs hc ho k
theorem rd1{dk:TypeId->Nat}{l:List Oper}{id:Nat}(G:x7 φ ψ w0 F N m ρ0 ρ S tm a w)(H:W0)(hH:∀i c τ,P5 H.calls i=some (c,τ)->c.ok P)(hF:U0 H.facts)(ms:List Nat)(js:List Nat)(S1:List It)(tm1:List (Nat×AV))(obs:List Prop)
  (ho:x9 obs) (k:∀ρ' a' w',x7 φ ψ w0 F N m ρ0 ρ' S1 tm1 a' w'->Q .normal a' w') (hm:P.follows .mixedOrders=true:=by kernel_rfl)
  (hs:(by6 l ms S.length (t6 S) (aa7 P dk N l H l 0 tm (t6 S) S.length)&&ak1 m js S1 tm1)=true:=by kernel_rfl)
  (hc:bc8 (aa7 P dk N l H l 0 tm (t6 S) S.length) js (tm1.map (·.1))=bn5 (aa7 P dk N l H l 0 tm (t6 S) S.length) obs js S1 tm1:=by kernel_rfl):(Code.region id l.toArray true).wp P Q a w:=bX7 G H hH hF ms js S1 tm1 obs hm hs hc ho k
theorem aq5:∀i c τ,P5 [] i=some (c,τ)->j8.ok P c:=fun i c τ h=>by cases h
theorem aS7{i0:Nat}{c0:j8}{τ0:List Nat}{r:List (Nat×j8×List Nat)}(h0:c0.ok P)(hr:∀i c τ,P5 r i=some (c,τ)->j8.ok P c):∀i c τ,P5 ((i0,c0,τ0)::r) i=some (c,τ)->j8.ok P c:=fun i c τ h=>by
 simp only[P5]at h
 split at h
 ·cases h;exact h0
 exact hr i c τ h
theorem x7.sel(G:x7 φ ψ w0 F N m ρ0 ρ S tm a w)(js:List Nat)(S1:List It)(tm1:List (Nat×AV))(hb:ak1 m js S1 tm1=true)(hS:js.map (t6 S)=S1.map (It.ren (nth js)))(ht:(tm1.map (·.1)).map (C2 tm)=tm1.map fun p=>some (p.2.ren (nth js))):∃ρ',x7 φ ψ w0 F N m ρ0 ρ' S1 tm1 a w:=⟨_,Inn.sel G js S1 tm1 hb hS ht⟩
theorem x7.as(G:x7 φ ψ w0 F N m ρ0 ρ S tm a w)(S1:List It)(tm1:List (Nat×AV))(hS:S=S1)(ht:tm=tm1):x7 φ ψ w0 F N m ρ0 ρ S1 tm1 a w:=by subst hS;subst ht;exact G
theorem x7.at(G:x7 φ ψ w0 F N m ρ0 ρ S tm a w)(S1:List It)(tm1:List (Nat×AV))(hS:S=S1:=by kernel_rfl)(ht:tm=tm1:=by kernel_rfl):x7 φ ψ w0 F N m ρ0 ρ S1 tm1 a w:=G.as S1 tm1 hS ht
theorem ap0{c:Nat}{x y:Code}(G:x7 φ ψ w0 F N m ρ0 ρ S tm a w)(b:Bool)(hc:C2 tm c=some (.v (.bool b)))(ht:b=true->x.wp P Q a w)(hf:b=false->y.wp P Q a w):(Code.cond (.tmp c) x y).wp P Q a w:=by
 have h:=G.tmv c _ hc
 refine wp_cond_split (t:=b) ?_ ht hf
 simp[Act.eval,Array.getD_eq_getD_getElem?,h,AV.val]
theorem bK4{c:Nat}{x y:Code}(G:x7 φ ψ w0 F N m ρ0 ρ S tm a w)(b:Bool)(hc:C2 tm c=some (.v (.bool b)))(hb:b=true)(h:x.wp P Q a w):(Code.cond (.tmp c) x y).wp P Q a w:=ap0 G b hc (fun _=>h) fun hf=>by rw[hb]at hf;cases hf
theorem bK5{c:Nat}{x y:Code}(G:x7 φ ψ w0 F N m ρ0 ρ S tm a w)(b:Bool)(hc:C2 tm c=some (.v (.bool b)))(hb:b=false)(h:y.wp P Q a w):(Code.cond (.tmp c) x y).wp P Q a w:=ap0 G b hc (fun ht=>by rw[hb]at ht;cases ht) fun _=>h
def bm4(P:Program)(tm:Nat->Option AV)(S:Nat->It):List ResultVar->Option (List AV)
 |[]=>some []
 |.tmp t::r=>
  match tm t,bm4 P tm S r with
  |some x,some l=>some (x::l)
  |_,_=>none
 | .cell t ty :: r =>
  match tm t,bm4 P tm S r with
  |some (.ptr b off),some l=>
   match S b with
   |.box cs=>(bi7 P ty ((cs.drop off).take (aE6 P ty))).map fun x=>x::l
   |_=>none
  |_,_=>none
def bb9(P:Program)(fn:Func)(tm:List (Nat×AV))(S:List It):Option AV:=
 match bm4 P (C2 tm) (t6 S) fn.results.toList with
 |some [x]=>some x
 |some l=>some (.tup l)
 |none=>none
theorem bU7{cs:List AV}{ty:TypeId}{b off:Nat}{x:AV}(hB:A1 w b (AV.vals ρ cs))(h:bi7 P ty ((cs.drop off).take (aE6 P ty))=some x):(loadVar ty ⟨b,off,none⟩).run P w=.ok (x.val ρ) w:=
 ar1 h ⟨b,off,none⟩ fun j u hj=>by
  rw[AV.vals_take,AV.vals_drop]at hj
  have hadd:(⟨b,off,none⟩:Addr).add j=⟨b,off+j,none⟩:=by unfold Addr.add;split<;>simp_all
  rw[hadd,hB.cell]
  rw[List.getElem?_take]at hj
  split at hj
  ·rw[List.getElem?_drop]at hj;exact hj
  cases hj
theorem a43(G:x7 φ ψ w0 F N m ρ0 ρ S tm a w):∀{rs:List ResultVar} {l:List AV},bm4 P (C2 tm) (t6 S) rs=some l->
  (rs.mapM (fun r=>(match r with|.tmp t=>pure (a.tmps.getD t undef)|.cell b t=>do loadVar t (<-asAddr (a.tmps.getD b undef)):Sem Value))).run P w=.ok (AV.vals ρ l) w
 |[],l,h=>by cases h;simp[AV.vals]
 |.tmp t::r,l,h=>by
  simp only[bm4]at h
  split at h
  case h_2=>cases h
  rename_i x l' h1 h2
  cases h
  have ht:=G.tmv t x h1
  have ih:=a43 G h2
  have e:(pure (a.tmps.getD t undef):Sem Value).run P w=.ok (x.val ρ) w:=by simp[Array.getD_eq_getD_getElem?,ht]
  rw[List.mapM_cons,Sem.run_bind,e,Result.andThen_ok,Sem.run_bind,ih]
  rfl
 | .cell t ty :: r, l, h => by
  simp only[bm4]at h
  split at h
  case h_2=>cases h
  rename_i b off l' h1 h2
  split at h
  case h_2=>cases h
  rename_i cs hS
  obtain⟨x,h3,h4⟩:=cw4.1 h
  subst h4
  have ht:=G.tmv t _ h1
  have ih:=a43 G h2
  have hl:=bU7 (P:=P) (G.mem.boxAt hS) h3
  have e:(do loadVar ty (<-asAddr (a.tmps.getD t undef)):Sem Value).run P w=.ok (x.val ρ) w:=by
   rw[show a.tmps.getD t undef=.pointer (some ⟨aa4 (ρ b),off,none⟩) by simp[Array.getD_eq_getD_getElem?,ht,AV.val]]
   simp[asAddr,hl]
  rw[List.mapM_cons,Sem.run_bind,e,Result.andThen_ok,Sem.run_bind,ih]
  rfl
theorem b82{fn:Func}{R:Ending->World->Prop}{v:AV}(G:x7 φ ψ w0 F N m ρ0 ρ S tm a w)(h:bb9 P fn tm S=some v)(hR:R (.returned (v.val ρ)) w):bodyPost P fn R .ret a w:=by
 refine⟨G.defs,v.val ρ,?_,hR⟩
 unfold bb9 at h
 cases hl:bm4 P (C2 tm) (t6 S) fn.results.toList with
 |none=>rw[hl]at h;cases h
 |some l=>
  rw[hl]at h
  have:=a43 G hl
  unfold results
  rw[Sem.run_bind,Array.mapM_eq_mapM_toList,Sem.run_map]
  erw [this]
  simp only[Result.andThen_ok,Sem.run_pure]
  match l,h with
  |[],h=>cases h;rfl
  |[x],h=>cases h;rfl
  |x::y::r,h=>cases h;rfl
def aT7(i:Nat):List AV->List (Nat×AV)
 |[]=>[]
 |x::r=>(i,x)::aT7 (i+1) r
theorem bi8(ρ:Nat->Value):∀{l:List AV} {i t:Nat} {x:AV},C2 (aT7 i l) t=some x->i<=t/\(AV.vals ρ l)[t-i]? =some (x.val ρ)
 |[],_,_,_,h=>by cases h
 |y::r,i,t,x,h=>by
  simp only[aT7,C2,natEq,beq_iff_eq]at h
  split at h
  ·rename_i e;subst e;cases h;exact⟨cv7 _,by simp[AV.vals]⟩
  obtain⟨h1,h2⟩:=bi8 ρ h
  refine⟨al,?_⟩
  rw[show t-i=(t-(i+1))+1 by omega]
  simpa[AV.vals]using h2
def bj5(φ ψ:Nat->Prop)(w0:World)(F:ι->Rs)(ρ0:Nat->Value)(c:j8)(x:Ending)(w':World):Prop:=∃ρ',(∀i,i<c.pre.length->ρ' i=ρ0 i)/\x=.returned (c.res.val ρ')/\l5 φ ψ w0 w' (r7 F ρ' (t6 c.post))
theorem bK3{c:j8}{fn:Func}{code:Code}(N:Nat)(hf:P.funcs[c.f]? =some fn)(hb:fn.body=some code)(hN:fn.ntmps=N)(hw:(wfB c.pre (aT7 0 c.args)&&decide (c.args.length<=N))=true)
  (k:∀{ι:Type} (φ ψ:Nat->Prop) (w0 w:World) (F:ι->Rs) (ρ0 ρ:Nat->Value) (a:Act),x7 φ ψ w0 F N c.pre.length ρ0 ρ c.pre (aT7 0 c.args) a w->code.wp P (bodyPost P fn (bj5 φ ψ w0 F ρ0 c)) a w):c.ok P:=by
 intro ι φ ψ w0 w F ρ M
 simp only[cv4,decide_eq_true_eq]at hw
 obtain⟨b1,b2⟩:=b39 hw.1
 refine calls_of_wp hf hb (k φ ψ w0 w F ρ ρ _ ⟨?_,rfl,fun t x hx=>?_,b2,b1,M,cv7 _,fun _ _=>rfl⟩)
 ·simp[AV.vals_length,hN];omega
 obtain⟨_,h1⟩:=bi8 ρ hx
 rw[Nat.sub_zero]at h1
 have hlt:=(cw5.1 h1).1
 rw[Array.getElem?_append_left (by simpa using hlt)]
 simpa using h1
theorem aN5{fn:Func}{c:j8}{v:AV}(G:x7 φ ψ w0 F N c.pre.length ρ0 ρ S tm a w)(js:List Nat)(h:bb9 P fn tm S=some v)(hb:ak1 c.pre.length js c.post []=true)(hS:js.map (t6 S)=c.post.map (It.ren (nth js)))(hv:v=c.res.ren (nth js)):bodyPost P fn (bj5 φ ψ w0 F ρ0 c) .ret a w:=by
 have G1:=Inn.sel G js c.post [] hb hS rfl
 refine b82 G h ⟨fun i=>ρ (nth js i),G1.old,?_,G1.mem⟩
 rw[hv,AV.val_ren]
theorem b6{K:Act->World->Prop}(h:K a w):Exit.then K Q .normal a w:=h
theorem v8{K:Act->World->Prop}{id:Nat}(h:Q (.exit id) a w):Exit.then K Q (.exit id) a w:=h
theorem l7{K:Act->World->Prop}(h:Q .ret a w):Exit.then K Q .ret a w:=h
theorem p8{id:Nat}(h:Q .normal a w):Exit.inBlock id Q .normal a w:=h
theorem B7{id:Nat}(h:Q .ret a w):Exit.inBlock id Q .ret a w:=h
theorem v6{id:Nat}(h:Q .normal a w):Exit.inBlock id Q (.exit id) a w:=by simp only[Exit.inBlock,if_true];exact h
theorem b25{id id':Nat}(hne:natEq id' id=false)(h:Q (.exit id') a w):Exit.inBlock id Q (.exit id') a w:=by
 simp only[Exit.inBlock]
 rw[if_neg (by simpa[natEq]using hne)];exact h
theorem w64{x:Int}(h1: -9223372036854775808<=x)(h2:x<=9223372036854775807):IntKind.i64.wrap x=x:=IntWalk.i64_in x ⟨h1,h2⟩
theorem rT{c:Nat}{x y:Code}(G:x7 φ ψ w0 F N m ρ0 ρ S tm a w)(b:Bool)(hb:b=true)(h:x.wp P Q a w)(hc:C2 tm c=some (.v (.bool b)):=by kernel_rfl):(Code.cond (.tmp c) x y).wp P Q a w:=bK4 G b hc hb h
theorem rF{c:Nat}{x y:Code}(G:x7 φ ψ w0 F N m ρ0 ρ S tm a w)(b:Bool)(hb:b=false)(h:y.wp P Q a w)(hc:C2 tm c=some (.v (.bool b)):=by kernel_rfl):(Code.cond (.tmp c) x y).wp P Q a w:=bK5 G b hc hb h
theorem x6{κ:Type}{c:Code}(pre:κ->Prop)(μ:κ->Nat)(Sk:κ->List It)(Tk:κ->List (Nat×AV))(k0:κ)(hp:pre k0)(G:x7 φ ψ w0 F N m ρ0 ρ (Sk k0) (Tk k0) a w)
  (round:∀k ρ a w,pre k->x7 φ ψ w0 F N m ρ0 ρ (Sk k) (Tk k) a w->c.wp P (Exit.then (fun a' w'=>∃k' ρ',pre k'/\μ k'<μ k/\x7 φ ψ w0 F N m ρ0 ρ' (Sk k') (Tk k') a' w') Q) a w):(Code.loop c).wp P Q a w:=by
 refine wp_loop_ghost (fun n a w=>∃k ρ,μ k=n/\pre k/\x7 φ ψ w0 F N m ρ0 ρ (Sk k) (Tk k) a w) (μ k0) ⟨k0,ρ,rfl,hp,G⟩ ?_
 rintro n a w ⟨k,ρ,rfl,hk,Gk⟩
 refine wp_mono (round k ρ a w hk Gk) ?_
 intro e a' w' hq
 cases e with
 |normal=>
  obtain⟨k',ρ',h1,h2,h3⟩:=hq
  exact⟨μ k',h2,k',ρ',rfl,h1,h3⟩
 |_=>exact hq
theorem bX5{κ:Type}{pre:κ->Prop}{μ:κ->Nat}{Sk:κ->List It}{Tk:κ->List (Nat×AV)}{k:κ}(G:x7 φ ψ w0 F N m ρ0 ρ S tm a w)(k':κ)(hp:pre k')(hμ:μ k'<μ k)(js:List Nat)(S1:List It)(tm1:List (Nat×AV))(hs1:Sk k'=S1)(ht1:Tk k'=tm1)
  (hb:ak1 m js S1 tm1=true) (hS:js.map (t6 S)=S1.map (It.ren (nth js))) (ht:(tm1.map (·.1)).map (C2 tm)=tm1.map fun p=>some (p.2.ren (nth js))):
  ∃k' ρ',pre k'/\μ k'<μ k/\x7 φ ψ w0 F N m ρ0 ρ' (Sk k') (Tk k') a w:=by
 subst hs1;subst ht1
 exact⟨k',_,hp,hμ,Inn.sel G js _ _ hb hS ht⟩
theorem x7.len(G:x7 φ ψ w0 F N m ρ0 ρ S tm a w)(i:Nat){d:D}(h:itD (t6 S i)=some d):d.len<=9223372036854775807:=by
 obtain⟨_,cap,_,h1,h2,_⟩:=G.mem.sliceAt h
 unfold maxLen at h2;omega
end
def dkP(t:TypeId):Nat:=
 if natEq t 3 then 1 else
 if natEq t 4 then 2 else
 if natEq t 5 then 3 else
 if natEq t 9 then 4 else
 if natEq t 76 then 5 else
 if natEq t 39 then 6 else
 if natEq t 23 then 7 else
 if natEq t 63 then 8 else
 if natEq t 96 then 9 else
 if natEq t 98 then 10 else
 0
abbrev eA(e:c6)(r:Nat):AV:=.agg [.v (.int .i64 e.kind),.v (.int .i64 e.value),.ref r]
abbrev eS(e:c6):List It:=[.dat (.exprs e.kids)]
abbrev sA(s:c5)(r:Nat):AV:=.agg [.v (.int .i64 s.kind),.v (.int .i64 s.target),.v (.int .i64 s.index.kind),.v (.int .i64 s.index.value),.ref r,.v (.int .i64 s.value.kind),.v (.int .i64 s.value.value),.ref (r+1),.v (.int .i64 s.count),.ref (r+2),.ref (r+3)]
abbrev sS(s:c5):List It:=[.dat (.exprs s.index.kids),.dat (.exprs s.value.kids),.dat (.stmts s.body),.dat (.stmts s.els)]
abbrev pA(r:Nat):AV:=.agg [.ref r,.ref (r+1),.ref (r+2)]
abbrev pS(p:f7):List It:=[.dat (.ints p.vars),.dat (.ints p.arrays),.dat (.stmts p.body)]
abbrev iA(n:Int):AV:=.v (.int .i64 n)
abbrev bA(b:Bool):AV:=.v (.bool b)
abbrev Y3(f:FuncId)(args:List AV)(S:List It)(res:AV):j8:=⟨f,args,S,S,res⟩
abbrev dI(l:List Int):It:=.dat (.ints l)
abbrev dY(l:List UInt8):It:=.dat (.bytes l)
abbrev dN(l:List d8):It:=.dat (.instrs l)
abbrev dE(l:List c6):It:=.dat (.exprs l)
abbrev dT(l:List c5):It:=.dat (.stmts l)
abbrev eL(e:c6)(r:Nat):List AV:=[.v (.int .i64 e.kind),.v (.int .i64 e.value),.ref r]
abbrev sL(s:c5)(r:Nat):List AV:=[.v (.int .i64 s.kind),.v (.int .i64 s.target),.v (.int .i64 s.index.kind),.v (.int .i64 s.index.value),.ref r,.v (.int .i64 s.value.kind),.v (.int .i64 s.value.value),.ref (r+1),.v (.int .i64 s.count),.ref (r+2),.ref (r+3)]
abbrev pL(r:Nat):List AV:=[.ref r,.ref (r+1),.ref (r+2)]
section
variable{P:Program}{ι:Type}{φ ψ:Nat->Prop}{w0 w w':World}{F:ι->Rs}{ρ ρ0:Nat->Value}{N m n:Nat}{S:List It}{tm:List (Nat×AV)}{a:Act}{Q:Exit->Act->World->Prop}
end
theorem c6.eta(e:c6):(⟨e.kind,e.value,e.kids⟩:c6)=e:=by cases e;rfl
theorem c5.eta(s:c5):(⟨s.kind,s.target,s.index,s.value,s.count,s.body,s.els⟩:c5)=s:=by cases s;rfl
section
variable{ι:Type}{P:Program}{φ ψ:Nat->Prop}{w0 w:World}{F:ι->Rs}{N m:Nat}{ρ0 ρ:Nat->Value}{S:List It}{tm:List (Nat×AV)}{a:Act}
theorem O8{fn:Func}{c:j8}(G:x7 φ ψ w0 F N c.pre.length ρ0 ρ S tm a w)(js:List Nat)(hS:js.map (t6 S)=c.post.map (It.ren (nth js)):=by kernel_rfl)(h:bb9 P fn tm S=some (c.res.ren (nth js)):=by kernel_rfl)(hb:ak1 c.pre.length js c.post []=true:=by kernel_rfl):bodyPost P fn (bj5 φ ψ w0 F ρ0 c) .ret a w:=aN5 G js h hb hS rfl
theorem cq0{fn:Func}{c:j8}(G:x7 φ ψ w0 F N c.pre.length ρ0 ρ S tm a w)(js:List Nat)(hS:js.map (t6 S)=c.post.map (It.ren (nth js)):=by kernel_rfl)(h:bb9 P fn tm S=some (c.res.ren (nth js)):=by kernel_rfl)(hb:ak1 c.pre.length js c.post []=true:=by kernel_rfl):bodyPost P fn (bj5 φ ψ w0 F ρ0 c) .normal a w:=aN5 G js h hb hS rfl
theorem Z1{fn:Func}{c:j8}(v:AV)(G:x7 φ ψ w0 F N c.pre.length ρ0 ρ S tm a w)(js:List Nat)(hv:v=c.res.ren (nth js))(hS:js.map (t6 S)=c.post.map (It.ren (nth js)):=by kernel_rfl)(h:bb9 P fn tm S=some v:=by kernel_rfl)(hb:ak1 c.pre.length js c.post []=true:=by kernel_rfl):bodyPost P fn (bj5 φ ψ w0 F ρ0 c) .ret a w:=aN5 G js h hb hS hv
theorem U5{κ:Type}{pre:κ->Prop}{μ:κ->Nat}{Sk:κ->List It}{Tk:κ->List (Nat×AV)}{k:κ}(G:x7 φ ψ w0 F N m ρ0 ρ S tm a w)(k':κ)(hp:pre k')(hμ:μ k'<μ k)(js:List Nat)(hS:js.map (t6 S)=(Sk k').map (It.ren (nth js)):=by kernel_rfl)(ht:((Tk k').map (·.1)).map (C2 tm)=(Tk k').map (fun p=>some (p.2.ren (nth js))):=by kernel_rfl)(hb:ak1 m js (Sk k') (Tk k')=true:=by kernel_rfl):∃k' ρ',pre k'/\μ k'<μ k/\x7 φ ψ w0 F N m ρ0 ρ' (Sk k') (Tk k') a w:=bX5 G k' hp hμ js _ _ rfl rfl hb hS ht
theorem M5{fn:Func}{f:FuncId}{args:List AV}{pre post:List It}{x:Bool}(y:Bool)(G:x7 φ ψ w0 F N pre.length ρ0 ρ S tm a w)(js:List Nat)(e:x=y)(hS:js.map (t6 S)=post.map (It.ren (nth js)):=by kernel_rfl)(h:bb9 P fn tm S=some (bA y):=by kernel_rfl)(hb:ak1 pre.length js post []=true:=by kernel_rfl):bodyPost P fn (bj5 φ ψ w0 F ρ0 ⟨f,args,pre,post,bA x⟩) .ret a w:=aN5 (c:=⟨f,args,pre,post,bA x⟩) G js h hb hS (by rw[e];rfl)
theorem rxI{fn:Func}{f:FuncId}{args:List AV}{pre post:List It}{x:Int}(y:Int)(G:x7 φ ψ w0 F N pre.length ρ0 ρ S tm a w)(js:List Nat)(e:x=y)(hS:js.map (t6 S)=post.map (It.ren (nth js)):=by kernel_rfl)(h:bb9 P fn tm S=some (iA y):=by kernel_rfl)(hb:ak1 pre.length js post []=true:=by kernel_rfl):bodyPost P fn (bj5 φ ψ w0 F ρ0 ⟨f,args,pre,post,iA x⟩) .ret a w:=aN5 (c:=⟨f,args,pre,post,iA x⟩) G js h hb hS (by rw[e];rfl)
end
abbrev wO(x:Int):Prop:=IntKind.i64.wrap x=x
theorem oW{x:Int}(h: -9223372036854775808<=x/\x<=9223372036854775807):wO x:=w64 h.1 h.2
theorem o1{x:Int}(h: -9223372036854775808<=x/\x<=9223372036854775807):x9 [wO x]:=⟨oW h,cx2⟩
theorem o2{x y:Int}(h:(-9223372036854775808<=x/\x<=9223372036854775807)/\ -9223372036854775808<=y/\y<=9223372036854775807):x9 [wO x,wO y]:=⟨oW h.1,oW h.2,cx2⟩
theorem o3{x y z:Int}(h:(-9223372036854775808<=x/\x<=9223372036854775807)/\(-9223372036854775808<=y/\y<=9223372036854775807)/\ -9223372036854775808<=z/\z<=9223372036854775807):x9 [wO x,wO y,wO z]:=⟨oW h.1,oW h.2.1,oW h.2.2,cx2⟩
theorem o4{x y z u:Int}(h:(-9223372036854775808<=x/\x<=9223372036854775807)/\(-9223372036854775808<=y/\y<=9223372036854775807)/\(-9223372036854775808<=z/\z<=9223372036854775807)/\ -9223372036854775808<=u/\u<=9223372036854775807):x9 [wO x,wO y,wO z,wO u]:=⟨oW h.1,oW h.2.1,oW h.2.2.1,oW h.2.2.2,cx2⟩
abbrev aP(n b:Nat)(r:List Prop):List Prop:=(n<=9223372036854775807)::(n*b<=140737488355328)::r
theorem aK{n b:Nat}{r:List Prop}(h:n<=100000000000)(k:x9 r)(hb:b<=1000:=by decide):x9 (aP n b r):=⟨al,cx8 (Nat.mul_le_mul h hb) ak,k⟩
abbrev iX(x:Int)(n l:Nat)(r:List Prop):List Prop:=(0<=x)::(x<(l:Int))::(n<l)::r
theorem iK{x:Int}{n l:Nat}{r:List Prop}(h:0<=x/\x<(l:Int)/\n<l)(k:x9 r):x9 (iX x n l r):=⟨h.1,h.2.1,h.2.2,k⟩
abbrev mR(js:List Nat)(l:List It):List It:=List.map (It.ren (nth js)) l
theorem fz:U0 []:=cx2
theorem fc{a b:Bool}{r:List (Bool×Bool)}(h:a=b)(k:U0 r):U0 ((a,b)::r):=⟨h,k⟩
abbrev z4(e:c6):c6:=c6.mk e.kind e.value e.kids
abbrev qzS(s:c5):c5:=c5.mk s.kind s.target (c6.mk s.index.kind s.index.value s.index.kids) (c6.mk s.value.kind s.value.value s.value.kids) s.count s.body s.els
def kL(P:Program)(N m:Nat)(l:List Oper)(H:W0)(tm:List (Nat×AV))(S:List It)(js:List Nat)(S1:List It)(t1:List (Nat×AV)):=((aa7 P dkP N l H l 0 tm (t6 S) S.length).isSome&&ak1 m js S1 t1,bc8 (aa7 P dkP N l H l 0 tm (t6 S) S.length) js (t1.map (·.1)))
def kR(P:Program)(N:Nat)(l:List Oper)(H:W0)(tm:List (Nat×AV))(S:List It)(o:List Prop)(js:List Nat)(S1:List It)(t1:List (Nat×AV)):=(true,bn5 (aa7 P dkP N l H l 0 tm (t6 S) S.length) o js S1 t1)
def kM(P:Program)(N m:Nat)(l:List Oper)(H:W0)(ms:List Nat)(tm:List (Nat×AV))(S:List It)(js:List Nat)(S1:List It)(t1:List (Nat×AV)):=(by6 l ms S.length (t6 S) (aa7 P dkP N l H l 0 tm (t6 S) S.length)&&ak1 m js S1 t1,bc8 (aa7 P dkP N l H l 0 tm (t6 S) S.length) js (t1.map (·.1)))
theorem H9{P:Program}{c:j8}{fn:Func}{code:Code}(N:Nat)(hf:P.funcs[c.f]? =some fn)(S:List It)(tm:List (Nat×AV))(k:∀{ι:Type} {φ ψ:Nat->Prop} {w0 w:World} {F:ι->Rs} {ρ0 ρ:Nat->Value} {a:Act},x7 φ ψ w0 F N c.pre.length ρ0 ρ S tm a w->code.wp P (bodyPost P fn (bj5 φ ψ w0 F ρ0 c)) a w)(hb:fn.body=some code:=by rfl)(hN:(fn.ntmps,c.pre,aT7 0 c.args)=(N,S,tm):=by kernel_rfl)(hw:(wfB c.pre (aT7 0 c.args)&&decide (c.args.length<=N))=true:=by kernel_rfl):c.ok P:=by
 simp only[Prod.mk.injEq]at hN
 obtain⟨h1,h2,h3⟩:=hN
 exact bK3 N hf hb h1 hw fun φ ψ w0 w F ρ0 ρ a G=>k (ρ:=ρ) (G.as S tm h2 h3)
def aT(x y:List (Nat×AV)):List (Nat×AV):=x++y.filter fun p=> !(x.any fun q=>natEq q.1 p.1)
def HH(P:Program)(H:W0):Prop:=(∀i c τ,P5 H.calls i=some (c,τ)->c.ok P)/\U0 H.facts
theorem f8{P:Program}:HH P ⟨[],[],[]⟩:=⟨aq5,cx2⟩
theorem w6{P:Program}{c:j8}(i:Nat)(σ:List Nat)(h:c.ok P):HH P ⟨[(i,c,σ)],[],[]⟩:=⟨aS7 h aq5,cx2⟩
theorem K6{P:Program}{f:List (Bool×Bool)}(h:U0 f)(u:List (Nat×Nat)):HH P ⟨[],f,u⟩:=⟨aq5,h⟩
def Cs(P:Program)(r:List (Nat×j8×List Nat)):Prop:=∀i c τ,P5 r i=some (c,τ)->c.ok P
theorem I1{P:Program}:Cs P []:=aq5
theorem v9{P:Program}{c:j8}{r:List (Nat×j8×List Nat)}(i:Nat)(σ:List Nat)(h:c.ok P)(k:Cs P r):Cs P ((i,c,σ)::r):=aS7 h k
theorem I2{P:Program}{r:List (Nat×j8×List Nat)}{f:List (Bool×Bool)}(h:Cs P r)(h':U0 f)(u:List (Nat×Nat)):HH P ⟨r,f,u⟩:=⟨h,h'⟩
section
variable{ι:Type}{P:Program}{φ ψ:Nat->Prop}{w0 w:World}{F:ι->Rs}{N m:Nat}{ρ0 ρ:Nat->Value}{S:List It}{tm:List (Nat×AV)}{a:Act}{l:List Oper}{id:Nat}{Q:Exit->Act->World->Prop}{H:W0}
theorem rA1(G:x7 φ ψ w0 F N m ρ0 ρ S tm a w)(hh:HH P H)(js:List Nat)(S1:List It)(t1:List (Nat×AV))(o:List Prop)(ho:x9 o)(k:∀{ρ' a' w'},x7 φ ψ w0 F N m ρ0 ρ' S1 t1 a' w'->Q .normal a' w')(h:kL P N m l H tm S js S1 t1=kR P N l H tm S o js S1 t1:=by kernel_rfl):(Code.region id l.toArray false).wp P Q a w:=rs1 (dk:=dkP) G H hh.1 hh.2 js S1 t1 o ho (fun _ _ _=>k) (congrArg Prod.fst h) (congrArg Prod.snd h)
theorem j9(G:x7 φ ψ w0 F N m ρ0 ρ S tm a w)(hh:HH P H)(js:List Nat)(S1:List It)(t1:List (Nat×AV))(k:∀{ρ' a' w'},x7 φ ψ w0 F N m ρ0 ρ' S1 t1 a' w'->Q .normal a' w')(h:kL P N m l H tm S js S1 t1=kR P N l H tm S [] js S1 t1:=by kernel_rfl):(Code.region id l.toArray false).wp P Q a w:=rA1 G hh js S1 t1 [] cx2 k h
theorem rB1(G:x7 φ ψ w0 F N m ρ0 ρ S tm a w)(hh:HH P H)(t1:List (Nat×AV))(o:List Prop)(ho:x9 o)(k:∀{ρ' a' w'},x7 φ ψ w0 F N m ρ0 ρ' S t1 a' w'->Q .normal a' w')(h:kL P N m l H tm S (cx0 S.length) S t1=kR P N l H tm S o (cx0 S.length) S t1:=by kernel_rfl):(Code.region id l.toArray false).wp P Q a w:=rs1 (dk:=dkP) G H hh.1 hh.2 (cx0 S.length) S t1 o ho (fun _ _ _=>k) (congrArg Prod.fst h) (congrArg Prod.snd h)
theorem G3(G:x7 φ ψ w0 F N m ρ0 ρ S tm a w)(hh:HH P H)(t1:List (Nat×AV))(k:∀{ρ' a' w'},x7 φ ψ w0 F N m ρ0 ρ' S t1 a' w'->Q .normal a' w')(h:kL P N m l H tm S (cx0 S.length) S t1=kR P N l H tm S [] (cx0 S.length) S t1:=by kernel_rfl):(Code.region id l.toArray false).wp P Q a w:=rB1 G hh t1 [] cx2 k h
theorem P4(G:x7 φ ψ w0 F N m ρ0 ρ S tm a w)(hh:HH P H)(t1:List (Nat×AV))(o:List Prop)(ho:x9 o)(k:∀{ρ' a' w'},x7 φ ψ w0 F N m ρ0 ρ' S (aT t1 tm) a' w'->Q .normal a' w')(h:kL P N m l H tm S (cx0 S.length) S (aT t1 tm)=kR P N l H tm S o (cx0 S.length) S (aT t1 tm):=by kernel_rfl):(Code.region id l.toArray false).wp P Q a w:=rs1 (dk:=dkP) G H hh.1 hh.2 (cx0 S.length) S (aT t1 tm) o ho (fun _ _ _=>k) (congrArg Prod.fst h) (congrArg Prod.snd h)
theorem l8(G:x7 φ ψ w0 F N m ρ0 ρ S tm a w)(hh:HH P H)(t1:List (Nat×AV))(k:∀{ρ' a' w'},x7 φ ψ w0 F N m ρ0 ρ' S (aT t1 tm) a' w'->Q .normal a' w')(h:kL P N m l H tm S (cx0 S.length) S (aT t1 tm)=kR P N l H tm S [] (cx0 S.length) S (aT t1 tm):=by kernel_rfl):(Code.region id l.toArray false).wp P Q a w:=P4 G hh t1 [] cx2 k h
theorem S8(G:x7 φ ψ w0 F N m ρ0 ρ S tm a w)(hh:HH P H)(ms:List Nat)(js:List Nat)(S1:List It)(t1:List (Nat×AV))(o:List Prop)(ho:x9 o)(k:∀{ρ' a' w'},x7 φ ψ w0 F N m ρ0 ρ' S1 t1 a' w'->Q .normal a' w')(hm:P.follows .mixedOrders=true:=by kernel_rfl)(h:kM P N m l H ms tm S js S1 t1=kR P N l H tm S o js S1 t1:=by kernel_rfl):(Code.region id l.toArray true).wp P Q a w:=rd1 (dk:=dkP) G H hh.1 hh.2 ms js S1 t1 o ho (fun _ _ _=>k) hm (congrArg Prod.fst h) (congrArg Prod.snd h)
theorem ak3(G:x7 φ ψ w0 F N m ρ0 ρ S tm a w)(hh:HH P H)(ms:List Nat)(js:List Nat)(S1:List It)(t1:List (Nat×AV))(k:∀{ρ' a' w'},x7 φ ψ w0 F N m ρ0 ρ' S1 t1 a' w'->Q .normal a' w')(hm:P.follows .mixedOrders=true:=by kernel_rfl)(h:kM P N m l H ms tm S js S1 t1=kR P N l H tm S [] js S1 t1:=by kernel_rfl):(Code.region id l.toArray true).wp P Q a w:=S8 G hh ms js S1 t1 [] cx2 k hm h
theorem ch5(G:x7 φ ψ w0 F N m ρ0 ρ S tm a w)(hh:HH P H)(ms:List Nat)(t1:List (Nat×AV))(o:List Prop)(ho:x9 o)(k:∀{ρ' a' w'},x7 φ ψ w0 F N m ρ0 ρ' S t1 a' w'->Q .normal a' w')(hm:P.follows .mixedOrders=true:=by kernel_rfl)(h:kM P N m l H ms tm S (cx0 S.length) S t1=kR P N l H tm S o (cx0 S.length) S t1:=by kernel_rfl):(Code.region id l.toArray true).wp P Q a w:=rd1 (dk:=dkP) G H hh.1 hh.2 ms (cx0 S.length) S t1 o ho (fun _ _ _=>k) hm (congrArg Prod.fst h) (congrArg Prod.snd h)
theorem ak2(G:x7 φ ψ w0 F N m ρ0 ρ S tm a w)(hh:HH P H)(ms:List Nat)(t1:List (Nat×AV))(o:List Prop)(ho:x9 o)(k:∀{ρ' a' w'},x7 φ ψ w0 F N m ρ0 ρ' S (aT t1 tm) a' w'->Q .normal a' w')(hm:P.follows .mixedOrders=true:=by kernel_rfl)(h:kM P N m l H ms tm S (cx0 S.length) S (aT t1 tm)=kR P N l H tm S o (cx0 S.length) S (aT t1 tm):=by kernel_rfl):(Code.region id l.toArray true).wp P Q a w:=rd1 (dk:=dkP) G H hh.1 hh.2 ms (cx0 S.length) S (aT t1 tm) o ho (fun _ _ _=>k) hm (congrArg Prod.fst h) (congrArg Prod.snd h)
theorem bC0(G:x7 φ ψ w0 F N m ρ0 ρ S tm a w)(hh:HH P H)(ms:List Nat)(t1:List (Nat×AV))(k:∀{ρ' a' w'},x7 φ ψ w0 F N m ρ0 ρ' S (aT t1 tm) a' w'->Q .normal a' w')(hm:P.follows .mixedOrders=true:=by kernel_rfl)(h:kM P N m l H ms tm S (cx0 S.length) S (aT t1 tm)=kR P N l H tm S [] (cx0 S.length) S (aT t1 tm):=by kernel_rfl):(Code.region id l.toArray true).wp P Q a w:=ak2 G hh ms t1 [] cx2 k hm h
variable{c:Nat}{x y:Code}
theorem rcB{b:Bool}(G:x7 φ ψ w0 F N m ρ0 ρ S tm a w)(f:b=false->y.wp P Q a w)(t:b=true->x.wp P Q a w)(h:C2 tm c=some (.v (.bool b)):=by rfl):(Code.cond (.tmp c) x y).wp P Q a w:=ap0 G b h t f
theorem S4{α:Type}[BEq α][LawfulBEq α]{u v:α}(G:x7 φ ψ w0 F N m ρ0 ρ S tm a w)(f:(u==v)=false->u≠v->y.wp P Q a w)(t:(u==v)=true->u=v->x.wp P Q a w)(h:C2 tm c=some (.v (.bool (u==v))):=by rfl):(Code.cond (.tmp c) x y).wp P Q a w:=ap0 G _ h (fun q=>t q (eq_of_beq q)) fun q=>f q (ne_of_beq_false q)
theorem rcN{α:Type}[BEq α][LawfulBEq α]{u v:α}(G:x7 φ ψ w0 F N m ρ0 ρ S tm a w)(f:(u !=v)=false->u=v->y.wp P Q a w)(t:(u !=v)=true->u≠v->x.wp P Q a w)(h:C2 tm c=some (.v (.bool (u !=v))):=by rfl):(Code.cond (.tmp c) x y).wp P Q a w:=ap0 G _ h (fun q=>t q (bne_iff_ne.1 q)) fun q=>f q (bne_eq_false_iff_eq.1 q)
theorem rcD{p:Prop}[Decidable p](G:x7 φ ψ w0 F N m ρ0 ρ S tm a w)(f:decide p=false->¬p->y.wp P Q a w)(t:decide p=true->p->x.wp P Q a w)(h:C2 tm c=some (.v (.bool (decide p))):=by rfl):(Code.cond (.tmp c) x y).wp P Q a w:=ap0 G _ h (fun q=>t q (dTt q)) fun q=>f q (dFf q)
end
section
variable{P:Program}{f:FuncId}
theorem bo0{args:List AV}{S:List It}{x:Value}(h:∀(φ:Nat->Prop) (w:World) (ρ:Nat->Value),(∀i d,t6 S i=.dat d->RD w φ d (ρ i))->Calls P f (AV.vals ρ args).toArray w fun e w'=>e=.returned x/\Below w.heap.size w w'):j8.ok P (Y3 f args S (.v x)):=by
 intro ι φ ψ w0 w F ρ M
 refine(h (FrF φ (r7 F ρ (t6 S))) w ρ fun i d hi=>M.datAt hi).mono ?_
 rintro e w' ⟨rfl,hb⟩
 exact⟨ρ,fun _ _=>rfl,rfl,M.call hb⟩
end
theorem E2(l:Int):j8.ok Tryz.prog (Y3 120 [iA l] [] (bA (i7 l))):=
 bo0 fun φ w ρ _=>(K7 l w).mono fun e w' h=>⟨h.1,h.2▸Below.refl _ _⟩
theorem aD2(p:f7):j8.ok Tryz.prog (Y3 79 [pA 0] (pS p) (bA (G2 p.vars p.arrays))):=
 bo0 fun φ w ρ h=>aw4 (ρ 0) (ρ 1) (ρ 2) _ _ w (A3.row (h 0 _ rfl)) (A3.row (h 1 _ rfl))
mutual
theorem cj0:∀s:c5,nS s<=1+M8 s
 |⟨_,_,_,_,_,b,e⟩=>by
  have h1:=a52 b
  have h2:=a52 e
  simp only[nS,M8];omega
theorem a52:∀ss:List c5,Y5 ss<=i9 ss
 |[]=>cv7 _
 |s::r=>by
  have h1:=cj0 s
  have h2:=a52 r
  simp only[Y5,i9];omega
end
theorem ai3(a b:List c5):Y5 (a++b)=Y5 a+Y5 b:=by
 induction a with
 |nil=>simp[Y5]
 |cons x r ih=>simp[Y5,ih];omega
theorem bC8{ss:List c5}{k:Nat}(h:k<ss.length):Y5 (ss.take (k+1))=Y5 (ss.take k)+nS ss[k]:=by
 rw[n6 _ _ h,ai3];simp[Y5]
theorem bd2(ss:List c5)(k:Nat):Y5 (ss.take k)<=Y5 ss:=by
 have:=ai3 (ss.take k) (ss.drop k)
 rw[List.take_append_drop]at this
 omega
theorem aB8(s:c5):nS s=1+Y5 s.body+Y5 s.els:=by cases s;simp only[nS];rfl
theorem ah8{nv na d:Nat}{s:c5}(h:j5 nv na (d+1) s=true):s.body.all (j5 nv na d)=true/\s.els.all (j5 nv na d)=true:=by
 rw[j5,cv4]at h
 obtain⟨h1,h2⟩:=h
 unfold s6 at h1
 by_cases k3:s.kind=3
 ·rw[if_neg al,if_neg al,if_pos k3]at h2
  simp only[cv4]at h2
  exact⟨h2.1.2,h2.2⟩
 by_cases k4:s.kind=4
 ·rw[if_neg al,if_neg al,if_neg al,if_pos k4]at h2
  rw[if_pos (.inr k4),if_pos k4]at h1
  simp only[cv4,decide_eq_true_eq]at h1
  exact⟨h2,by rw[cw9 h1.2.1.1.1.1];rfl⟩
 rw[if_neg al]at h1
 simp only[cv4,decide_eq_true_eq]at h1
 exact⟨by rw[cw9 h1.1.1.1];rfl,by rw[cw9 h1.1.1.2];rfl⟩
theorem aX0(s:c5):i9 s.body<=M8 s/\i9 s.els<=M8 s:=by
 rcases s with⟨_,_,_,_,_,b,e⟩
 simp only[M8,c5.body,c5.els]
 omega
theorem bf6{nv na:Nat}:∀{ss:List c5},(∀s∈ss,j5 nv na 1 s=true)->Y5 ss=ss.length
 |[],_=>rfl
 | s :: r, h => by
  have h1:=ah8 (h s cz6)
  have key:∀l:List c5,l.all (j5 nv na 0)=true->l=[]:=fun l hl=>by
   cases l with
   |nil=>rfl
   |cons a r=>simp[j5]at hl
  have h2:=bf6 (ss:=r) fun x hx=>h x (cz4 _ hx)
  rw[Y5,aB8,key _ h1.1,key _ h1.2,h2]
  simp[Y5];omega
def l6(x y:Int):Int:=IntKind.i64.wrap ((BitVec.ofInt (IntKind.bits .i64) x|||BitVec.ofInt (IntKind.bits .i64) y).toNat:Int)
def b27(x y:Int):Int:=IntKind.i64.wrap ((BitVec.ofInt (IntKind.bits .i64) x&&&BitVec.ofInt (IntKind.bits .i64) y).toNat:Int)
def bk2(x y:Int):Int:=IntKind.i64.wrap ((BitVec.ofInt (IntKind.bits .i64) x^^^BitVec.ofInt (IntKind.bits .i64) y).toNat:Int)
theorem j8.dup{P:Program}{f:FuncId}{args args':List AV}{S S':List It}{d:D}{res:AV}{i:Nat}(hc:j8.ok P ⟨f,args,S++[.dat d],S'++[.dat d],res⟩)(hi:S[i]? =some (.dat d))(hl:S'.length=S.length)
  (hS:S.all (fun x=>ac6 S.length x.ids)=true) (ha:∀ρ:Nat->Value,ρ S.length=ρ i->AV.vals ρ args=AV.vals ρ args') (hg:ac6 S.length (AV.idsL args')=true):j8.ok P ⟨f,args',S,S',res⟩:=by
 intro ι φ ψ w0 w F ρ M
 have hi':t6 S i=.dat d:=by simp[t6,hi]
 have hlt:i<S.length:=(cw5.1 hi).1
 have hinv:Inv (t6 S) ρ [S.length]:=fun ρ' h j=>by
  by_cases hj:j<S.length
  ·refine It.res_congr _ (fun k hk=>h k ?_) (.inr (.inr (h j ah)))
   have h1:=G5 (cw3.1 hS (S[j]) (cx9 hj)) k (by simpa[t6,cv8,cv6 hj]using hk)
   simp;omega
  rw[show t6 S j=.none by simp only[t6,cv8,cy1 (Nat.le_of_not_lt hj)];rfl];rfl
 obtain⟨ρ',h1,M1,h2⟩:=M.newDat (id:=S.length) (by simp[t6]) hinv (M.datAt hi')
 have e:p7 (t6 S) [(S.length,.dat d)]=t6 (S++[.dat d]):=by
  funext j
  simp only[p7,t6,cv8]
  by_cases hj:j=S.length
  ·subst hj;simp
  rw[if_neg hj]
  by_cases hj2:j<S.length
  ·rw[cw8 hj2]
  rw[cy1 al,cy1 ah]
 rw[e]at M1
 have hρ:ρ' i=ρ i:=h1 i ah
 have ea:AV.vals ρ args'=AV.vals ρ' args:=by
  rw[ha ρ' (by rw[<-h2,hρ])]
  exact(AV.vals_congr _ fun k hk=>by
   have:=G5 hg k hk
   exact h1 k ah).symm
 simp only
 rw[ea]
 refine(hc ι φ ψ w0 w F ρ' M1).mono ?_
 rintro x w' ⟨ρ2,g1,g2,M2⟩
 refine⟨ρ2,fun k hk=>?_,g2,?_⟩
 ·rw[g1 k ah];exact h1 k ah
 refine M2.map (fun k=>match k with|.inl i=>some (.inl i)|.inr j=>if j<S'.length then some (.inr j)else none) ?_ ?_
 ·intro k k' x h1 h2
  match k,k' with
  |.inl i,.inl i'=>simp at h1 h2;rw[h1,h2]
  |.inl i,.inr j=>simp at h1;subst h1;simp at h2
  |.inr j,.inl i=>simp at h2;subst h2;simp at h1
  |.inr j,.inr j'=>simp at h1 h2;rw[<-h1.2]at h2;rw[Sum.inr.inj h2.2]
 intro k
 match k with
 |.inl i=>exact .inl ⟨.inl i,rfl,rfl⟩
 | .inr j =>
  by_cases hj:j<S'.length
  ·refine .inl ⟨.inr j,by simp[hj],?_⟩
   simp only[r7,t6,cv8,cw8 hj]
  refine .inr ?_
  simp only[r7,t6,cv8,cy1 (Nat.le_of_not_lt hj)]
  rfl
def pkX(b:List UInt8)(k:Int):Int:=((b.getD (k.tmod b.length).toNat 0).toNat:Int)*131+((b.getD ((k*7+3).tmod b.length).toNat 0).toNat:Int)*1117+k*29+k.tdiv b.length*53
def pk(b:List UInt8)(k n:Int):Int:=
 if n<1\/b.length=0 then 0 else if k<b.length then((b.getD k.toNat 0).toNat:Int).tmod n else(bk2 (pkX b k) ((pkX b k).tdiv 64)).tmod n
def nm(b:List UInt8)(k:Int)(l:List Int):Int:=l.getD (pk b k l.length).toNat 0
theorem bV2{x y:Int}(hx:0<=x)(hx2:x<9223372036854775808)(hy:0<=y)(hy2:y<9223372036854775808):0<=bk2 x y:=by
 obtain⟨a,rfl⟩:=Int.eq_ofNat_of_zero_le hx
 obtain⟨c,rfl⟩:=Int.eq_ofNat_of_zero_le hy
 have ha:a<2^63:=al
 have hc:c<2^63:=al
 have h:(BitVec.ofInt (IntKind.bits .i64) (a:Int)^^^BitVec.ofInt (IntKind.bits .i64) (c:Int)).toNat<2^63:=by
  rw[BitVec.toNat_xor]
  refine Nat.xor_lt_two_pow ?_ ?_
  ·simp only[BitVec.ofInt_natCast,BitVec.toNat_ofNat,IntKind.bits];omega
  simp only[BitVec.ofInt_natCast,BitVec.toNat_ofNat,IntKind.bits];omega
 unfold bk2
 generalize (BitVec.ofInt (IntKind.bits .i64) (a:Int)^^^BitVec.ofInt (IntKind.bits .i64) (c:Int)).toNat=z at h ⊢
 rw[w64 al al]
 omega
theorem ba0(x:UInt8):((x.toNat:Nat):Int)<=255:=by have:=x.toNat_lt;omega
theorem ba2{k n:Int}(hk:0<=k)(hn:1<=n):0<=k.tdiv n/\k.tdiv n<=k:=by
 refine⟨Int.tdiv_nonneg hk al,?_⟩
 rw[Int.tdiv_eq_ediv_of_nonneg hk]
 exact Int.ediv_le_self _ hk
theorem bc7{b:List UInt8}{k:Int}(hk:0<=k)(hk2:k<=1000000000)(hb:b.length≠0):0<=pkX b k/\pkX b k<=100000000000:=by
 unfold pkX
 have h1:=ba0 (b.getD (k.tmod b.length).toNat 0)
 have h2:=ba0 (b.getD ((k*7+3).tmod b.length).toNat 0)
 have h3:=ba2 (n:=b.length) hk al
 omega
theorem bk6{x n:Int}(hx:0<=x)(hn:1<=n):0<=x.tmod n/\x.tmod n<n:=⟨Int.tmod_nonneg _ hx,Int.tmod_lt_of_pos _ al⟩
theorem b45{b:List UInt8}{k:Int}(hk:0<=k)(hk2:k<=1000000000)(hb:b.length≠0):0<=(pkX b k).tdiv 64/\(pkX b k).tdiv 64<=100000000000:=by
 have h:=bc7 hk hk2 hb
 have h2:=ba2 (n:=64) h.1 al
 omega
theorem b91(b:List UInt8){k n:Int}(hk:0<=k)(hk2:k<=1000000000)(hn:1<=n):0<=pk b k n/\pk b k n<n:=by
 unfold pk
 split
 ·omega
 split
 ·exact bk6 al hn
 have h:=bc7 hk hk2 (show b.length≠0 by omega)
 have h2:=b45 hk hk2 (show b.length≠0 by omega)
 exact bk6 (bV2 h.1 al h2.1 al) hn
theorem bw6(b:List UInt8){k:Int}(hk:0<=k)(hk2:k<=1000000000){l:List Int}(hl:l≠[]):0<=pk b k l.length/\pk b k l.length<l.length/\(pk b k l.length).toNat<l.length:=by
 have h0:0<l.length:=List.length_pos_iff.2 hl
 have h:=b91 b (n:=l.length) hk hk2 al
 omega
theorem aB7(b:List UInt8){k:Int}(hk:0<=k)(hk2:k<=1000000000){l:List Int}(hl:l≠[]):nm b k l∈l:=by
 unfold nm
 rw[n7 (bw6 b hk hk2 hl).2.2]
 exact cx9 _
def J6{α:Type}(f:Int->α×Int):Nat->Int->List α×Int
 |0,k=>([],k)
 |n+1,k=>((J6 f n k).1++[(f (J6 f n k).2).1],(f (J6 f n k).2).2)
theorem a76{α:Type}(f:Int->α×Int)(n:Nat)(k:Int):(J6 f n k).1.length=n:=by
 induction n with
 |zero=>rfl
 |succ n ih=>simp[J6,ih]
theorem bR8{α:Type}{f:Int->α×Int}{c:Int}(hc:0<=c){m:Nat}:∀(n:Nat) (k:Int),n<=m->(∀j,k<=j->j<=k+m*c->j<=(f j).2/\(f j).2<=j+c)->k<=(J6 f n k).2/\(J6 f n k).2<=k+n*c:=by
 intro n
 induction n with
 |zero=>intro k _ _;simp[J6]
 |succ n ih=>
  intro k hm h
  have h1:=ih k al h
  have e:((n+1:Nat):Int)*c=n*c+c:=by rw[Int.natCast_add,Int.add_mul];simp
  have h3:((n+1:Nat):Int)*c<=m*c:=cA3 al hc
  have h2:=h (J6 f n k).2 h1.1 al
  simp only[J6]
  rw[e]
  omega
theorem b08{α:Type}{f:Int->α×Int}{Q:α->Prop}(h:∀j,Q (f j).1)(n:Nat)(k:Int):∀x∈(J6 f n k).1,Q x:=by
 induction n with
 |zero=>intro x hx;cases hx
 |succ n ih=>
  intro x hx
  simp only[J6,cx6,cy5]at hx
  rcases hx with hx|rfl
  ·exact ih x hx
  exact h _
abbrev atL:List Int:=[1]++([0]++([2]++([3]++([255]++([7]++([128]++[]))))))
def s4(b:List UInt8)(nv:Int)(k:Int):c6:=if pk b k 3=0 then⟨1,nm b (k+1) atL,[]⟩else⟨2,pk b (k+1) nv,[]⟩
abbrev R6:List Int:=[4]++([10]++([8]++([9]++([3]++([6]++([7]++([5]++([11]++[]))))))))
def P7(b:List UInt8)(nv na:Int):Nat->Int->c6×Int
 |0,k=>(s4 b nv k,k+2)
 |d+1,k=>if d=0 then(s4 b nv k,k+2)else if pk b k 4=0 then(s4 b nv (k+1),k+3)
  else if nm b (k+1) R6=3 then(if na=0 then(s4 b nv (k+2),k+4)else(⟨3,pk b (k+2) na,[s4 b nv (k+3)]⟩,k+5))
  else(⟨nm b (k+1) R6,0,(J6 (P7 b nv na d) (v5 (nm b (k+1) R6)).toNat (k+2)).1⟩,(J6 (P7 b nv na d) (v5 (nm b (k+1) R6)).toNat (k+2)).2)
def cE:Nat->Int
 |0=>2
 |d+1=>5+3*cE d
theorem aT2(d:Nat):2<=cE d:=by
 induction d with
 |zero=>exact Int.le_refl _
 |succ d ih=>simp only[cE];omega
theorem ar3(k:Int):(v5 k).toNat<=3:=by unfold v5;(repeat' split)<;>decide
theorem bg5(b:List UInt8)(nv na:Int):∀(d:Nat) (k:Int),k<=(P7 b nv na d k).2/\(P7 b nv na d k).2<=k+cE d
 |0,k=>by simp only[P7,cE];omega
 |d+1,k=>by
  have hc:=aT2 d
  rw[P7]
  simp only[cE]
  split
  ·simp only;omega
  split
  ·simp only;omega
  split
  ·split<;>(simp only;omega)
  have h3:=ar3 (nm b (k+1) R6)
  have h:=bR8 (f:=P7 b nv na d) (c:=cE d) (m:=3) al (v5 (nm b (k+1) R6)).toNat (k+2) h3 fun j _ _=>bg5 b nv na d j
  have h4:((v5 (nm b (k+1) R6)).toNat:Int)*cE d<=3*cE d:=cA3 al al
  simp only
  omega
theorem bu3{c:Nat}:∀{l:List c6},(∀x∈l,B9 x<=c)->F9 l<=l.length*(1+c)
 |[],_=>cy4 _
 |e::r,h=>by
  have h1:=h e (cz6 ..)
  have h2:=bu3 (l:=r) fun x hx=>h x (cz4 _ hx)
  simp only[F9,cw2]
  rw[Nat.add_mul]
  omega
theorem bR9(b:List UInt8)(nv na:Int):∀(d:Nat) (k:Int),(B9 (P7 b nv na d k).1:Int)<=cE d
 |0,k=>by
  simp only[P7,cE,s4]
  split<;>simp[B9,F9]
 | d + 1, k => by
  have hc:=aT2 d
  have ha:∀j,B9 (s4 b nv j)=0:=fun j=>by unfold s4;split<;>rfl
  rw[P7]
  simp only[cE]
  split
  ·simp only[ha];omega
  split
  ·simp only[ha];omega
  split
  ·split
   ·simp only[ha];omega
   simp only[B9,F9,ha];omega
  have h3:=ar3 (nm b (k+1) R6)
  have h1:=b08 (f:=P7 b nv na d) (Q:=fun x=>B9 x<=(cE d).toNat) (fun j=>by have:=bR9 b nv na d j;omega) (v5 (nm b (k+1) R6)).toNat (k+2)
  have h2:=bu3 h1
  rw[a76]at h2
  simp only[B9]
  have h4:=cz8 (1+(cE d).toNat) h3
  omega
abbrev dpL:List Int:=[2]++([3]++([2]++([1]++([4]++[]))))
def z8(b:List UInt8)(nv na:Nat)(k:Int):c6×Int:=
 if t4 nv na (P7 b nv na (nm b k dpL).toNat (k+1)).1=true then P7 b nv na (nm b k dpL).toNat (k+1)
 else(s4 b nv (P7 b nv na (nm b k dpL).toNat (k+1)).2,(P7 b nv na (nm b k dpL).toNat (k+1)).2+2)
theorem cE4{d:Nat}(h:d<=4):cE d<=364:=by
 match d,h with
 |0,_=>decide
 |1,_=>decide
 |2,_=>decide
 |3,_=>decide
 |4,_=>decide
theorem dp4(b:List UInt8){k:Int}(hk:0<=k)(hk2:k<=1000000000):1<=nm b k dpL/\nm b k dpL<=4/\(nm b k dpL).toNat<=4:=by
 have h:=aB7 b hk hk2 (l:=dpL) an
 simp only[cx6,cz2,List.not_mem_nil,or_false]at h
 omega
theorem cc3(b:List UInt8){k:Int}(hk:0<=k)(hk2:k<=1000000000):nm b k dpL=((nm b k dpL).toNat:Int):=by have:=dp4 b hk hk2;omega
theorem bu8(b:List UInt8)(nv na:Nat){k:Int}(hk:0<=k)(hk2:k<=1000000000):k<=(z8 b nv na k).2/\(z8 b nv na k).2<=k+367:=by
 have h:=bg5 b nv na (nm b k dpL).toNat (k+1)
 have h2:=cE4 (dp4 b hk hk2).2.2
 unfold z8
 split
 ·omega
 simp only;omega
theorem bi6(b:List UInt8)(nv j:Int):B9 (s4 b nv j)=0:=by unfold s4;split<;>rfl
theorem bl5(b:List UInt8)(nv na:Nat){k:Int}(hk:0<=k)(hk2:k<=1000000000):B9 (z8 b nv na k).1<=364:=by
 have h:=bR9 b nv na (nm b k dpL).toNat (k+1)
 have h2:=cE4 (dp4 b hk hk2).2.2
 unfold z8
 split
 ·omega
 rw[bi6];omega
abbrev noE:c6:=⟨0,0,[]⟩
abbrev O4:List Int:=[1]++([1]++([2]++([3]++([4]++([1]++([3]++([5]++[])))))))
abbrev ibL:List Int:=[1]++([2]++([1]++([0]++[])))
abbrev ieL:List Int:=[0]++([1]++([0]++([2]++[])))
abbrev rcL:List Int:=[2]++([1]++([3]++[]))
abbrev rbL:List Int:=[1]++([2]++([1]++[]))
def dfS(b:List UInt8)(nv na:Nat)(kd k:Int):c5×Int:=(⟨if kd=5 then 5 else 1,pk b k nv,noE,(z8 b nv na (k+1)).1,0,[],[]⟩,(z8 b nv na (k+1)).2)
def soS(b:List UInt8)(nv na:Nat)(k:Int):c5×Int:=(⟨2,pk b k na,s4 b nv (k+1),(z8 b nv na (k+1+2)).1,0,[],[]⟩,(z8 b nv na (k+1+2)).2)
def mnD(b:List UInt8)(f:Int->c5×Int)(l:List Int)(k:Int):List c5×Int:=J6 f (nm b k l).toNat (k+1)
def ifS(b:List UInt8)(nv na:Nat)(f:Int->c5×Int)(k:Int):c5×Int:=
 (⟨3,0,noE,(z8 b nv na k).1,0,(mnD b f ibL (z8 b nv na k).2).1,(mnD b f ieL (mnD b f ibL (z8 b nv na k).2).2).1⟩,(mnD b f ieL (mnD b f ibL (z8 b nv na k).2).2).2)
def rpS(b:List UInt8)(f:Int->c5×Int)(k:Int):c5×Int:=(⟨4,0,noE,noE,nm b k rcL,(mnD b f rbL (k+1)).1,[]⟩,(mnD b f rbL (k+1)).2)
def E1(b:List UInt8)(nv na:Nat):Nat->Int->c5×Int
 |0,k=>if nm b k O4=2/\na≠0 then soS b nv na (k+1)else dfS b nv na (nm b k O4) (k+1)
 |d+1,k=>if nm b k O4=2/\na≠0 then soS b nv na (k+1)else if nm b k O4=3/\d≠0 then ifS b nv na (E1 b nv na d) (k+1)else if nm b k O4=4/\d≠0 then rpS b (E1 b nv na d) (k+1)
  else dfS b nv na (nm b k O4) (k+1)
def cS:Nat->Int
 |0=>402
 |d+1=>402+4*cS d
theorem aG0(d:Nat):402<=cS d:=by
 induction d with
 |zero=>exact Int.le_refl _
 |succ d ih=>simp only[cS];omega
section
variable(b:List UInt8)(nv na:Nat){k:Int}
theorem b54(kd:Int)(hk:0<=k)(hk2:k+400<=1000000000):k<=(dfS b nv na kd k).2/\(dfS b nv na kd k).2<=k+368:=by
 have h:=bu8 b nv na (k:=k+1) al al
 simp only[dfS];omega
theorem b40(hk:0<=k)(hk2:k+400<=1000000000):k<=(soS b nv na k).2/\(soS b nv na k).2<=k+370:=by
 have h:=bu8 b nv na (k:=k+1+2) al al
 simp only[soS];omega
theorem nm2{l:List Int}(hl:l≠[])(h:∀x∈l,0<=x/\x<=2)(hk:0<=k)(hk2:k<=1000000000):(nm b k l).toNat<=2/\nm b k l=((nm b k l).toNat:Int):=by
 have:=h _ (aB7 b hk hk2 hl);omega
theorem bN8{f:Int->c5×Int}{c:Int}{l:List Int}(hl:l≠[])(h:∀x∈l,0<=x/\x<=2)(hc:0<=c)(hk:0<=k)(hk2:k+1+2*c<=1000000000)(hf:∀j,0<=j->j+c<=1000000000->j<=(f j).2/\(f j).2<=j+c):k<=(mnD b f l k).2/\(mnD b f l k).2<=k+1+2*c:=by
 have h2:=(nm2 b hl h hk al).1
 have h3:∀m:Nat,m<=2->k+1<=(J6 f m (k+1)).2/\(J6 f m (k+1)).2<=k+1+m*c:=by
  intro m
  induction m with
  |zero=>intro _;simp[J6]
  |succ m ih=>
   intro hm
   have h4:=ih al
   have h6:(m:Int)*c<=1*c:=cA3 al hc
   have h5:=hf (J6 f m (k+1)).2 al al
   have e:((m+1:Nat):Int)*c=m*c+c:=by rw[Int.natCast_add,Int.add_mul];simp
   simp only[J6]
   rw[e]
   omega
 have h4:=h3 _ h2
 have h6:((nm b k l).toNat:Int)*c<=2*c:=cA3 al hc
 unfold mnD
 omega
theorem bp3:∀x:Int,x∈ibL->0<=x/\x<=2:=by intro x hx;simp only[cx6,cz2,List.not_mem_nil,or_false]at hx;omega
theorem bp1:∀x:Int,x∈ieL->0<=x/\x<=2:=by intro x hx;simp only[cx6,cz2,List.not_mem_nil,or_false]at hx;omega
theorem bm7:∀x:Int,x∈rbL->0<=x/\x<=2:=by intro x hx;simp only[cx6,cz2,List.not_mem_nil,or_false]at hx;omega
theorem b51{f:Int->c5×Int}{c:Int}(hc:0<=c)(hk:0<=k)(hk2:k+380+4*c<=1000000000)(hf:∀j,0<=j->j+c<=1000000000->j<=(f j).2/\(f j).2<=j+c):k<=(z8 b nv na k).2/\(z8 b nv na k).2<=k+367/\(z8 b nv na k).2<=(mnD b f ibL (z8 b nv na k).2).2/\(mnD b f ibL (z8 b nv na k).2).2<=k+370+2*c/\k<=(ifS b nv na f k).2/\(ifS b nv na f k).2<=k+380+4*c:=by
 have h1:=bu8 b nv na (k:=k) al al
 have h2:=bN8 b (k:=(z8 b nv na k).2) (f:=f) (c:=c) (l:=ibL) an bp3 hc al al hf
 have h3:=bN8 b (k:=(mnD b f ibL (z8 b nv na k).2).2) (f:=f) (c:=c) (l:=ieL) an bp1 hc al al hf
 simp only[ifS]
 omega
theorem ch4{f:Int->c5×Int}{c:Int}(hc:0<=c)(hk:0<=k)(hk2:k+10+2*c<=1000000000)(hf:∀j,0<=j->j+c<=1000000000->j<=(f j).2/\(f j).2<=j+c):k<=(rpS b f k).2/\(rpS b f k).2<=k+10+2*c:=by
 have h2:=bN8 b (k:=k+1) (f:=f) (c:=c) (l:=rbL) an bm7 hc al al hf
 simp only[rpS];omega
theorem ba5:∀(d:Nat) (k:Int),0<=k->k+cS d<=1000000000->k<=(E1 b nv na d k).2/\(E1 b nv na d k).2<=k+cS d
 |0,k,hk,hk2=>by
  rw[E1]
  simp only[cS]at hk2 ⊢
  have h1:=b40 b nv na (k:=k+1) al al
  have h2:=b54 b nv na (k:=k+1) (nm b k O4) al al
  split<;>omega
 |d+1,k,hk,hk2=>by
  rw[E1]
  simp only[cS]at hk2 ⊢
  have hc:=aG0 d
  have ih:=ba5 d
  have h1:=b40 b nv na (k:=k+1) al al
  have h2:=b54 b nv na (k:=k+1) (nm b k O4) al al
  have h3:=b51 b nv na (k:=k+1) (f:=E1 b nv na d) (c:=cS d) al al al ih
  have h4:=ch4 b (k:=k+1) (f:=E1 b nv na d) (c:=cS d) al al al ih
  (repeat' split)<;>omega
theorem bo2:B9 noE=0:=rfl
theorem bS0(kd:Int)(hk:0<=k)(hk2:k+400<=1000000000):M8 (dfS b nv na kd k).1<=364:=by
 have h:=bl5 b nv na (k:=k+1) al al
 simp only[dfS,M8,i9,bo2];omega
theorem bJ1(hk:0<=k)(hk2:k+400<=1000000000):M8 (soS b nv na k).1<=364:=by
 have h:=bl5 b nv na (k:=k+1+2) al al
 simp only[soS,M8,i9,bi6];omega
def Drw(f:Int->c5×Int)(c:Int):Prop:=∀j,0<=j->j+c<=1000000000->j<=(f j).2/\(f j).2<=j+c/\(M8 (f j).1:Int)<=c
theorem a75{f:Int->c5×Int}{c:Int}(hc:0<=c)(hf:Drw f c):∀(m:Nat) (k:Int),0<=k->k+m*c<=1000000000->k<=(J6 f m k).2/\(J6 f m k).2<=k+m*c/\(i9 (J6 f m k).1:Int)<=m*(1+c):=by
 intro m
 induction m with
 |zero=>intro k _ _;simp[J6,i9]
 | succ m ih =>
  intro k hk hk2
  have e:((m+1:Nat):Int)*c=m*c+c:=by rw[Int.natCast_add,Int.add_mul];simp
  have e2:((m+1:Nat):Int)*(1+c)=m*(1+c)+(1+c):=by rw[Int.natCast_add,Int.add_mul];simp
  rw[e]at hk2
  have h4:=ih k hk al
  have h5:=hf (J6 f m k).2 al al
  have h6:i9 ((J6 f m k).1++[(f (J6 f m k).2).1])=i9 (J6 f m k).1+(1+M8 (f (J6 f m k).2).1):=by
   generalize (J6 f m k).1=l
   induction l with
   |nil=>simp[i9]
   |cons a r ih=>simp only[List.cons_append,i9];omega
  simp only[J6]
  rw[e,e2,h6]
  omega
theorem bo4{f:Int->c5×Int}{c:Int}{l:List Int}(hl:l≠[])(h:∀x∈l,0<=x/\x<=2)(hc:0<=c)(hk:0<=k)(hk2:k+1+2*c<=1000000000)(hf:Drw f c):(i9 (mnD b f l k).1:Int)<=2*(1+c):=by
 have h2:=(nm2 b hl h hk al).1
 have h6:((nm b k l).toNat:Int)*c<=2*c:=cA3 al hc
 have h7:((nm b k l).toNat:Int)*(1+c)<=2*(1+c):=cA3 al al
 have h3:=(a75 hc hf (nm b k l).toNat (k+1) al al).2.2
 unfold mnD
 omega
theorem bl1:∀(d:Nat) (k:Int),0<=k->k+cS d<=1000000000->(M8 (E1 b nv na d k).1:Int)<=cS d
 |0,k,hk,hk2=>by
  rw[E1]
  simp only[cS]at hk2 ⊢
  have h1:=bJ1 b nv na (k:=k+1) al al
  have h2:=bS0 b nv na (k:=k+1) (nm b k O4) al al
  split<;>omega
 |d+1,k,hk,hk2=>by
  rw[E1]
  simp only[cS]at hk2 ⊢
  have hc:=aG0 d
  have ih:=ba5 b nv na d
  have hf:Drw (E1 b nv na d) (cS d):=fun j h1 h2=>⟨(ih j h1 h2).1,(ih j h1 h2).2,bl1 d j h1 h2⟩
  have h1:=bJ1 b nv na (k:=k+1) al al
  have h2:=bS0 b nv na (k:=k+1) (nm b k O4) al al
  have h3:=b51 b nv na (k:=k+1) (f:=E1 b nv na d) (c:=cS d) al al al ih
  have h4:=bl5 b nv na (k:=k+1) al al
  have h5:=bo4 b (k:=(z8 b nv na (k+1)).2) (l:=ibL) an bp3 al al al hf
  have h6:=bo4 b (k:=(mnD b (E1 b nv na d) ibL (z8 b nv na (k+1)).2).2) (l:=ieL) an bp1 al al al hf
  have h7:=bo4 b (k:=k+1+1) (l:=rbL) an bm7 al al al hf
  split
  ·omega
  split
  ·simp only[ifS,M8,bo2];omega
  split
  ·simp only[rpS,M8,bo2,i9];omega
  omega
theorem cm0(d:Nat):Drw (E1 b nv na d) (cS d):=fun j h1 h2=>⟨(ba5 b nv na d j h1 h2).1,(ba5 b nv na d j h1 h2).2,bl1 b nv na d j h1 h2⟩
theorem b60{d m i:Nat}{B:Int}(hB:(m:Int)*cS d<=B)(hi:i<=m)(hk:0<=k)(hk2:k+B<=1000000000):k<=(J6 (E1 b nv na d) i k).2/\(J6 (E1 b nv na d) i k).2<=k+B:=by
 have hc:=aG0 d
 have h6:(i:Int)*cS d<=m*cS d:=cA3 al al
 have h:=a75 al (cm0 b nv na d) i k hk al
 omega
theorem co3{d m i:Nat}{B:Int}(hB:(m:Int)*cS d<=B)(hi:i<m)(hk:0<=k)(hk2:k+B<=1000000000):(J6 (E1 b nv na d) i k).2+cS d<=k+B:=by
 have hc:=aG0 d
 have h6:((i+1:Nat):Int)*cS d<=m*cS d:=cA3 al al
 have e:((i+1:Nat):Int)*cS d=i*cS d+cS d:=by rw[Int.natCast_add,Int.add_mul];simp
 have h:=a75 al (cm0 b nv na d) i k hk al
 omega
theorem cj1{m:Int}{c:Int}(h0:0<=m)(hm:m<=2)(hc:0<=c):(m.toNat:Int)*c<=2*c:=cA3 al hc
theorem cs6{m:Int}{c:Int}(h0:0<=m)(hm:m<=4)(hc:0<=c):(m.toNat:Int)*c<=4*c:=cA3 al hc
end
theorem aY2(b:List UInt8){k:Int}{l:List Int}{m:Int}(hl:l≠[])(h:∀x∈l,0<=x/\x<=m)(hk:0<=k)(hk2:k<=1000000000):0<=nm b k l/\nm b k l<=m:=h _ (aB7 b hk hk2 hl)
mutual
def AV.den(t:Bool)(n:Nat):AV->AV
 |.v x=>.v x
 |.ptr a b=>.ptr a b
 |.ea a b c d=>.ea a b c d
 |.ref i=>if !t&&natEq i n then .v (.slice none 0 0)else .ref i
 |.agg l=>.agg (AV.denL t n l)
 |.tup l=>.tup (AV.denL t n l)
 |.fn f l=>.fn f (AV.denL t n l)
 |.bm f l=>.bm f (AV.denL t n l)
 |.tref i=>if t&&natEq i n then .v (.slice none 0 0)else .tref i
def AV.denL(t:Bool)(n:Nat):List AV->List AV
 |[]=>[]
 |x::r=>x.den t n::AV.denL t n r
end
def It.den(t:Bool)(n:Nat):It->It
 |.box cs=>.box (AV.denL t n cs)
 |x=>x
mutual
theorem AV.val_den{ρ:Nat->Value}{t:Bool}{n:Nat}{z:Value}(hz:if t then F5 z=.slice none 0 0 else z=.slice none 0 0):∀(x:AV),(∀i∈(x.den t n).ids,i<n)->x.val (fun j=>if j=n then z else ρ j)=(x.den t n).val ρ/\∀i∈x.ids,i<n+1
 |.v _,_=>⟨rfl,fun i hi=>by simp[AV.ids]at hi⟩
 |.ptr a b,h=>by
  have ha:a<n:=h a (by simp[AV.den,AV.ids])
  refine⟨?_,fun i hi=>by simp[AV.ids]at hi;omega⟩
  simp only[AV.den,AV.val]
  rw[if_neg al]
 |.ea a b c d,h=>by
  have ha:a<n:=h a (by simp[AV.den,AV.ids])
  refine⟨?_,fun i hi=>by simp[AV.ids]at hi;omega⟩
  simp only[AV.den,AV.val]
  rw[if_neg al]
 | .ref a, h => by
  by_cases e:t=false/\a=n
  ·obtain⟨rfl,rfl⟩:=e
   refine⟨?_,fun i hi=>by simp[AV.ids]at hi;omega⟩
   simp only[Bool.false_eq_true,if_false]at hz
   simp[AV.den,AV.val,natEq,hz]
  have hd:(AV.ref a).den t n=.ref a:=by
   simp only[AV.den]
   rw[if_neg]
   simp[natEq];intro h1 h2;exact e ⟨h1,h2⟩
  rw[hd]at h ⊢
  have ha:a<n:=h a (by simp[AV.ids])
  refine⟨?_,fun i hi=>by simp[AV.ids]at hi;omega⟩
  simp only[AV.val]
  rw[if_neg al]
 | .tref a, h => by
  by_cases e:t=true/\a=n
  ·obtain⟨rfl,rfl⟩:=e
   refine⟨?_,fun i hi=>by simp[AV.ids]at hi;omega⟩
   simp only[if_true]at hz
   simp[AV.den,AV.val,natEq,hz]
  have hd:(AV.tref a).den t n=.tref a:=by
   simp only[AV.den]
   rw[if_neg]
   simp[natEq];intro h1 h2;exact e ⟨h1,h2⟩
  rw[hd]at h ⊢
  have ha:a<n:=h a (by simp[AV.ids])
  refine⟨?_,fun i hi=>by simp[AV.ids]at hi;omega⟩
  simp only[AV.val]
  rw[if_neg al]
 |.agg l,h=>by
  obtain⟨h1,h2⟩:=AV.vals_den hz l (by simpa[AV.den,AV.ids]using h)
  exact⟨by simp only[AV.den,AV.val];rw[h1],by simpa[AV.ids]using h2⟩
 |.tup l,h=>by
  obtain⟨h1,h2⟩:=AV.vals_den hz l (by simpa[AV.den,AV.ids]using h)
  exact⟨by simp only[AV.den,AV.val];rw[h1],by simpa[AV.ids]using h2⟩
 |.fn f l,h=>by
  obtain⟨h1,h2⟩:=AV.vals_den hz l (by simpa[AV.den,AV.ids]using h)
  exact⟨by simp only[AV.den,AV.val];rw[h1],by simpa[AV.ids]using h2⟩
 |.bm f l,h=>by
  obtain⟨h1,h2⟩:=AV.vals_den hz l (by simpa[AV.den,AV.ids]using h)
  exact⟨by simp only[AV.den,AV.val];rw[h1],by simpa[AV.ids]using h2⟩
theorem AV.vals_den{ρ:Nat->Value}{t:Bool}{n:Nat}{z:Value}(hz:if t then F5 z=.slice none 0 0 else z=.slice none 0 0):∀(l:List AV),(∀i∈AV.idsL (AV.denL t n l),i<n)->AV.vals (fun j=>if j=n then z else ρ j) l=AV.vals ρ (AV.denL t n l)/\∀i∈AV.idsL l,i<n+1
 |[],_=>⟨rfl,fun i hi=>by simp[AV.idsL]at hi⟩
 |x::r,h=>by
  obtain⟨h1,h2⟩:=AV.val_den hz x fun i hi=>h i (by simp only[AV.denL,AV.idsL,cx6];exact .inl hi)
  obtain⟨h3,h4⟩:=AV.vals_den hz r fun i hi=>h i (by simp only[AV.denL,AV.idsL,cx6];exact .inr hi)
  refine⟨by simp only[AV.denL,AV.vals];rw[h1,h3],fun i hi=>?_⟩
  simp only[AV.idsL,cx6]at hi
  rcases hi with hi|hi
  ·exact h2 i hi
  exact h4 i hi
end
theorem aP1{m:Bool}{n:Nat}{t:Nat}{x:AV}:∀{tm:List (Nat×AV)},C2 tm t=some x->C2 (tm.map fun p=>(p.1,p.2.den m n)) t=some (x.den m n)
 |[],h=>by cases h
 |(k,y)::r,h=>by
  simp only[C2,cy8]at h ⊢
  split at h
  ·rename_i e;cases h;rw[if_pos e]
  rename_i e;rw[if_neg e];exact aP1 h
section
variable{P:Program}{ι:Type}{φ ψ:Nat->Prop}{w0 w:World}{F:ι->Rs}{ρ ρ0:Nat->Value}{N m n:Nat}{S:List It}{tm:List (Nat×AV)}{a:Act}
theorem x7.nilW(G:x7 φ ψ w0 F N m ρ0 ρ S tm a w)(n:Nat)(hn:S.length=n)(b:Bool)(x:It)(z:Value)(hz:if b then F5 z=.slice none 0 0 else z=.slice none 0 0)(hids:x.ids=[])(hb:∀g,¬(x.res (fun j=>if j=n then z else ρ j) n).blk g)
  (hx:∀φ',(x.res (fun j=>if j=n then z else ρ j) n).holds w φ') (S1:List It) (tm1:List (Nat×AV)) (hS:S=S1.map (It.den b n)) (ht:tm=tm1.map fun p=>(p.1,p.2.den b n)):
  ∃ρ',x7 φ ψ w0 F N m ρ0 ρ' (S1++[x]) tm1 a w:=by
 have hl:S1.length=n:=by rw[<-hn,hS,List.length_map]
 have hat:∀j (hj:j<n),t6 S j=(S1[j]'al).den b n:=fun j hj=>by
  rw[an1 (show j<S.length by omega)]
  have h1:=congrArg (·[j]?) hS
  simp only[List.getElem?_map,cv6 (show j<S.length by omega),cv6 (show j<S1.length by omega),Option.map_some,Option.some.injEq]at h1
  exact h1
 have hnew:∀j (hj:j<n),t6 (S1++[x]) j=S1[j]'al:=fun j hj=>by
  simp[t6,cv8,cw8 (show j<S1.length by omega),cv6 (show j<S1.length by omega)]
 have hlast:t6 (S1++[x]) n=x:=by
  simp[t6,cv8, <-hl]
 have hout:∀j,n<j->t6 (S1++[x]) j=.none:=fun j hj=>A6 ah
 have hbx:∀j (hj:j<n),((S1[j]'al).res (fun j=>if j=n then z else ρ j) j=(t6 S j).res ρ j)/\∀i∈(S1[j]'al).ids,i<n+1:=fun j hj=>by
  rw[hat j hj]
  have hb:=(G.bd j).1
  rw[hat j hj,hn]at hb
  generalize S1[j]'al=x at*
  cases x with
  |box cs=>
   obtain⟨h1,h2⟩:=AV.vals_den (ρ:=ρ) (n:=n) hz cs hb
   refine⟨?_,h2⟩
   simp only[It.res,It.den]
   rw[h1,if_neg (show ¬j=n by omega)]
  |none=>exact⟨rfl,fun i hi=>by cases hi⟩
  |dead=>exact⟨rfl,fun i hi=>by cases hi⟩
  |dat d'=>exact⟨by simp only[It.res,It.den];rw[if_neg (show ¬j=n by omega)],fun i hi=>by cases hi⟩
  |row e' d'=>exact⟨by simp only[It.res,It.den];rw[if_neg (show ¬j=n by omega)],fun i hi=>by cases hi⟩
  |tree d'=>exact⟨by simp only[It.res,It.den];rw[if_neg (show ¬j=n by omega)],fun i hi=>by cases hi⟩
  |kept e' d'=>exact⟨by cases e'<;>(simp only[It.res,It.den];rw[if_neg (show ¬j=n by omega)]),fun i hi=>by cases hi⟩
  |err=>exact⟨by simp only[It.res,It.den];rw[if_neg (show ¬j=n by omega)],fun i hi=>by cases hi⟩
  |hole k q ls=>
   have hk:k<n:=hb k (by simp[It.den,It.ids])
   exact⟨by simp only[It.res,It.den];rw[if_neg (show ¬j=n by omega),if_neg (show ¬k=n by omega)],fun i hi=>by simp[It.ids]at hi;omega⟩
 have hw:∀t x,C2 tm1 t=some x->x.val (fun j=>if j=n then z else ρ j)=(x.den b n).val ρ/\∀i∈x.ids,i<n+1:=fun t x hx=>by
  refine AV.val_den hz x fun i hi=>?_
  have h1:C2 tm t=some (x.den b n):=by rw[ht];exact aP1 hx
  have:=G.tmi t _ h1 i hi
  omega
 refine⟨fun j=>if j=n then z else ρ j,?_⟩
 refine⟨G.size,G.defs,fun t x hx=>?_,fun t x hx i hi=>?_,fun j=>⟨fun i hi=>?_,fun hj=>A6 hj⟩,?_,?_,fun i hi=>?_⟩
 ·have h1:C2 tm t=some (x.den b n):=by rw[ht];exact aP1 hx
  rw[(hw t x hx).1];exact G.tmv t _ h1
 ·have:=(hw t x hx).2 i hi
  simp;omega
 ·rcases Nat.lt_trichotomy j n with h|h|h
  ·rw[hnew j h]at hi
   have:=(hbx j h).2 i hi
   simp;omega
  ·subst h;rw[hlast,hids]at hi;cases hi
  rw[hout j h]at hi;cases hi
 ·refine l5.put G.mem (.inr n) (fun k hk=>?_) (E4.refl _ _) ?_ ?_
  ·cases k with
   |inl i=>rfl
   |inr j=>
    simp only[r7]
    rcases Nat.lt_trichotomy j n with h|h|h
    ·rw[hnew j h];exact(hbx j h).1
    ·exact absurd (by rw[h]) hk
    rw[hout j h,A6 (show S.length<=j by omega)];rfl
  ·simp only[r7,hlast];exact hx _
  intro g hg
  simp only[r7,hlast]at hg
  exact absurd hg (hb g)
 ·have:=G.le;simp;omega
 show(if i=n then _ else ρ i)=ρ0 i
 have:=G.le
 rw[if_neg al];exact G.old i hi
theorem x7.nil(G:x7 φ ψ w0 F N m ρ0 ρ S tm a w)(n:Nat)(e:TypeId)(d:D)(k:Nat)(S1:List It)(tm1:List (Nat×AV))(hn:S.length=n:=by kernel_rfl)(hd:D.nil k=some d:=by kernel_rfl)(hS:S=S1.map (It.den false n):=by kernel_rfl)(ht:tm=tm1.map (fun p=>(p.1,p.2.den false n)):=by kernel_rfl):
  ∃ρ',x7 φ ψ w0 F N m ρ0 ρ' (S1++[.row e d]) tm1 a w:=by
 have hz:=D.nil_len hd
 refine G.nilW n hn false (.row e d) (.slice none 0 0) an rfl (fun g hg=>?_) (fun φ'=>?_) S1 tm1 hS ht
 ·simp only[It.res,if_true]at hg
  cases hg
 simp only[It.res,if_true]
 refine⟨fun xs=>RW.nice d xs,[],?_,RW.nil hz _⟩
 rw[hz];exact World.ownsRow_nil _ _ _ _
theorem x7.nilT(G:x7 φ ψ w0 F N m ρ0 ρ S tm a w)(n:Nat)(d:D)(S1:List It)(tm1:List (Nat×AV))(hn:S.length=n:=by kernel_rfl)(hd:((ar7 d).isSome&&natEq d.len 0)=true:=by kernel_rfl)(hS:S=S1.map (It.den true n):=by kernel_rfl)(ht:tm=tm1.map (fun p=>(p.1,p.2.den true n)):=by kernel_rfl):
  ∃ρ',x7 φ ψ w0 F N m ρ0 ρ' (S1++[.tree d]) tm1 a w:=by
 simp only[cv4,natEq,beq_iff_eq]at hd
 obtain⟨e,he⟩:=cA2.1 hd.1
 obtain⟨z,h1,h2⟩:=aS0 (.slice none 0 0) (fun _=>False) 0 fun b h=>h.elim
 refine G.nilW n hn true (.tree d) z (by simp[h1]) rfl (fun g hg=>?_) (fun φ'=>?_) S1 tm1 hS ht
 ·simp only[It.res,if_true]at hg
  exact((h2 g).1 hg).elim
 simp only[It.res,if_true]
 rw[h1]
 refine⟨fun _ _ h hs=>h.same hs,⟨e,[],fun _=>False,he,?_,(fun g hg=>by cases hg),(fun b hb=>hb.elim),?_⟩,fun b hb=>((h2 b).1 hb).elim⟩
 ·rw[hd.2];exact World.ownsRow_nil _ _ _ _
 have h0:=hd.2
 cases d<;>simp only[ar7]at he<;>first|cases he|skip
 all_goals (simp only[D.len]at h0;rw[cw9 h0];rfl)
end
inductive Ln where
 |no
 |row (e:TypeId)
 |tree
def A7(M:List Ln)(i:Nat):Ln:=M.getD i .no
def Ln.isT:Ln->Bool
 |.tree=>true
 |_=>false
mutual
def AV.tr(M:List Ln):AV->AV
 |.v x=>.v x
 |.ptr a b=>.ptr a b
 |.ea a b c d=>.ea a b c d
 |.ref i=>if(A7 M i).isT then .tref i else .ref i
 |.agg l=>.agg (AV.trL M l)
 |.tup l=>.tup (AV.trL M l)
 |.fn f l=>.fn f (AV.trL M l)
 |.bm f l=>.bm f (AV.trL M l)
 |.tref i=>.tref i
def AV.trL(M:List Ln):List AV->List AV
 |[]=>[]
 |x::r=>x.tr M::AV.trL M r
end
mutual
def AV.trOk(M:List Ln):AV->Bool
 |.v _=>true
 |.ptr a _=> !(A7 M a).isT
 |.ea a _ _ _=> !(A7 M a).isT
 |.ref _=>true
 |.agg l=>AV.trOkL M l
 |.tup l=>AV.trOkL M l
 |.fn _ l=>AV.trOkL M l
 |.bm _ l=>AV.trOkL M l
 |.tref i=> !(A7 M i).isT
def AV.trOkL(M:List Ln):List AV->Bool
 |[]=>true
 |x::r=>x.trOk M&&AV.trOkL M r
end
mutual
theorem AV.val_tr{ρ ρ':Nat->Value}{M:List Ln}(h:∀i,ρ' i=if(A7 M i).isT then F5 (ρ i)else ρ i):∀(x:AV),x.trOk M=true->(x.tr M).val ρ=x.val ρ'
 |.v _,_=>rfl
 |.ptr a _,hx=>by
  simp only[AV.trOk,cy0]at hx
  simp only[AV.tr,AV.val];rw[h a,hx];rfl
 |.ea a _ _ _,hx=>by
  simp only[AV.trOk,cy0]at hx
  simp only[AV.tr,AV.val];rw[h a,hx];rfl
 |.ref i,_=>by
  simp only[AV.tr]
  cases hm:(A7 M i).isT
  ·simp only[Bool.false_eq_true,if_false,AV.val];rw[h i,hm];rfl
  simp only[if_true,AV.val];rw[h i,hm];rfl
 |.agg l,hx=>by simp only[AV.tr,AV.val];rw[AV.vals_tr h l (by simpa[AV.trOk]using hx)]
 |.tup l,hx=>by simp only[AV.tr,AV.val];rw[AV.vals_tr h l (by simpa[AV.trOk]using hx)]
 |.fn _ l,hx=>by simp only[AV.tr,AV.val];rw[AV.vals_tr h l (by simpa[AV.trOk]using hx)]
 |.bm _ l,hx=>by simp only[AV.tr,AV.val];rw[AV.vals_tr h l (by simpa[AV.trOk]using hx)]
 |.tref i,hx=>by
  simp only[AV.trOk,cy0]at hx
  simp only[AV.tr,AV.val];rw[h i,hx];rfl
theorem AV.vals_tr{ρ ρ':Nat->Value}{M:List Ln}(h:∀i,ρ' i=if(A7 M i).isT then F5 (ρ i)else ρ i):∀(l:List AV),AV.trOkL M l=true->AV.vals ρ (AV.trL M l)=AV.vals ρ' l
 |[],_=>rfl
 |x::r,hx=>by
  simp only[AV.trOkL,cv4]at hx
  simp only[AV.trL,AV.vals];rw[AV.val_tr h x hx.1,AV.vals_tr h r hx.2]
end
def B6(M:List Ln):Ln->It->It
 |.row e,.dat d=>.row e d
 |.tree,.dat d=>.tree d
 |.no,.box cs=>.box (AV.trL M cs)
 |_,x=>x
def aa2(M:List Ln)(S:List It):List It:=(cx0 S.length).map fun i=>B6 M (A7 M i) (t6 S i)
theorem ac7(M:List Ln)(S:List It)(i:Nat):t6 (aa2 M S) i=B6 M (A7 M i) (t6 S i):=by
 unfold aa2
 rcases cx7 i S.length with h|h
 ·conv=>lhs;rw[t6,cv8,List.getElem?_map,List.getElem?_range h]
  rfl
 rw[A6 (by simpa using h),A6 h]
 cases A7 M i<;>rfl
def bf8:D->Bool
 |.rows _=>false
 |.brows _=>false
 |.exprs _=>false
 |.stmts _=>false
 |_=>true
theorem by2{w w':World}{φ φ':Nat->Prop}{d:D}{xs:List Value}(hd:bf8 d=true)(h:RW w φ d xs):RW w' φ' d xs:=by
 intro i hi j x hx
 obtain⟨u,h1,h2⟩:=h i hi j x hx
 refine⟨u,h1,?_⟩
 have:∃y,x=.v y:=by
  have hm:=cy6 hx
  cases d<;>simp only[bf8,Bool.false_eq_true]at hd<;>simp[D.elem,bo7,av0]at hm
  ·exact⟨_,hm⟩
  ·exact⟨_,hm⟩
  ·exact⟨_,hm⟩
  ·exact⟨_,hm⟩
  ·rcases hm with h|h|h|h|h<;>exact⟨_,h⟩
  rcases hm with h|h<;>exact⟨_,h⟩
 obtain⟨y,rfl⟩:=this
 exact h2
def a57(M:List Ln)(l:Ln)(p x:It):Bool:=
 match l with
 |.no=>match x with
  |.dat _=>(match p with|.dat _=>true|_=>false)
  |.row _ d=>bf8 d
  |.box cs=>AV.trOkL M cs
  |.kept _ _=>false
  |.hole _ _ _=>false
  |_=>true
 |.row _=>(match p,x with|.dat d,.dat _=>bf8 d|_,_=>false)
 |.tree=>(match p,x with|.dat d,.dat _=>(ar7 d).isSome|_,_=>false)
def bL5(M:List Ln)(l:Ln)(p:It):Bool:=
 match l,p with
 |.no,.box cs=>AV.trOkL M cs
 |.no,.hole _ _ _=>false
 |_,_=>true
def bO4(M:List Ln)(c:j8):Bool:=
 decide (M.length<=c.pre.length)&&decide (c.pre.length<=c.post.length)&&AV.trOkL M c.args&&c.res.trOk M&&(cx0 c.post.length).all (fun i=>a57 M (A7 M i) (t6 c.pre i) (t6 c.post i))&&(cx0 c.pre.length).all fun i=>bL5 M (A7 M i) (t6 c.pre i)
def Rs.snap(w:World)(r:Rs):Rs:=.own r.blk fun w'=>∀b,r.blk b->b<w.heap.size->w'.heap[b]? =w.heap[b]?
theorem Rs.snap_holds{w:World}{φ φ':Nat->Prop}{r:Rs}(h:r.holds w φ):(r.snap w).holds w φ':=by
 refine⟨fun w1 w2 h1 h2 b hb hlt=>?_,fun b _ _=>rfl,fun b hb=>Rs.lt h hb⟩
 have h3:=h1 b hb hlt
 rw[h2 b hb,h3]
 have:(w1.heap[b]?).isSome=true:=by rw[h3,Array.getElem?_eq_getElem hlt];rfl
 obtain⟨o,ho⟩:=cA2.1 this
 exact(Array.getElem?_eq_some_iff.1 ho).1
theorem a77:∀{P X:List It} {i:Nat} {d e:D},aC7 P X=aC6 P X->t6 P i=.dat d->t6 X i=.dat e->d=e
 | P, X, i, d, e, h, h1, h2 => by
  have hp:P[i]? =some (.dat d):=by
   rcases cx7 i P.length with hl|hl
   ·rw[an1 hl]at h1;rw[cv6 hl,h1]
   rw[A6 hl]at h1;cases h1
  have hx:X[i]? =some (.dat e):=by
   rcases cx7 i X.length with hl|hl
   ·rw[an1 hl]at h2;rw[cv6 hl,h2]
   rw[A6 hl]at h2;cases h2
  exact cc5 h hp hx
theorem j8.lend0{P:Program}{c:j8}(hc:c.ok P)(M:List Ln)(hb:bO4 M c=true)(he:aC7 c.pre c.post=aC6 c.pre c.post):j8.ok P ⟨c.f,AV.trL M c.args,aa2 M c.pre,aa2 M c.post,c.res.tr M⟩:=by
 simp only[bO4,cv4,decide_eq_true_eq]at hb
 obtain⟨⟨⟨⟨⟨hM,hle⟩,hargs⟩,hres⟩,hpost⟩,hpre⟩:=hb
 have hno:∀i,c.pre.length<=i->A7 M i=.no:=fun i hi=>by
  unfold A7;rw[cv8,cy1 al];rfl
 have hpo:∀i,a57 M (A7 M i) (t6 c.pre i) (t6 c.post i)=true:=fun i=>by
  rcases cx7 i c.post.length with h|h
  ·exact cw3.1 hpost i (cz5.2 h)
  rw[hno i al,A6 h];rfl
 have hpr:∀i,bL5 M (A7 M i) (t6 c.pre i)=true:=fun i=>by
  rcases cx7 i c.pre.length with h|h
  ·exact cw3.1 hpre i (cz5.2 h)
  rw[hno i h,A6 h];rfl
 intro ι φ ψ w0 w F ρ MM
 let ρ1:Nat->Value:=fun i=>if(A7 M i).isT then F5 (ρ i)else ρ i
 have hρ1:∀i,ρ1 i=if(A7 M i).isT then F5 (ρ i)else ρ i:=fun _=>rfl
 let F1:ι->Rs:=fun i=>(F i).snap w
 have hLi:∀i,r7 F ρ (t6 (aa2 M c.pre)) (.inl i)=F i:=fun _=>rfl
 have hLj:∀j,r7 F ρ (t6 (aa2 M c.pre)) (.inr j)=(B6 M (A7 M j) (t6 c.pre j)).res ρ j:=fun j=>by simp only[r7];rw[ac7]
 generalize hL:r7 F ρ (t6 (aa2 M c.pre))=L at MM hLi hLj
 have h1j:∀j,A7 M j=.no->(t6 c.pre j).res ρ1 j=L (.inr j):=fun j hl=>by
  rw[hLj,hl]
  have hp:=hpr j
  have e:ρ1 j=ρ j:=by rw[hρ1,hl];rfl
  cases hx:t6 c.pre j with
  |none=>rfl
  |dead=>rfl
  |dat d=>simp only[B6,It.res];rw[e]
  |row e' d=>simp only[B6,It.res];rw[e]
  |tree d=>simp only[B6,It.res];rw[e]
  |kept e' d=>cases e'<;>(simp only[B6,It.res];rw[e])
  |hole k i ls=>rw[hl,hx]at hp;cases hp
  |err=>simp only[B6,It.res];rw[e]
  |box cs=>
   rw[hl,hx]at hp
   simp only[bL5]at hp
   simp only[B6,It.res]
   rw[e,AV.vals_tr hρ1 cs hp]
 have hlent:∀j,A7 M j≠ .no->(∃d,t6 c.pre j=.dat d/\t6 c.post j=.dat d/\((∃e,A7 M j=.row e/\bf8 d=true)\/A7 M j=.tree)):=fun j hj=>by
  have h:=hpo j
  cases hl:A7 M j with
  |no=>exact absurd hl hj
  | row e =>
   rw[hl]at h
   simp only[a57]at h
   split at h
   ·rename_i d d' h1 h2
    exact⟨d,h1,by rw[h2, <-a77 he h1 h2],.inl ⟨e,rfl,h⟩⟩
   cases h
  | tree =>
   rw[hl]at h
   simp only[a57]at h
   split at h
   ·rename_i d d' h1 h2
    exact⟨d,h1,by rw[h2, <-a77 he h1 h2],.inr rfl⟩
   cases h
 have hsub:∀k b,(r7 F1 ρ1 (t6 c.pre) k).blk b->(L k).blk b/\∀j,k=.inr j->A7 M j=.no:=fun k b hb=>by
  cases k with
  |inl i=>rw[hLi];exact⟨hb,fun j h=>by cases h⟩
  | inr j =>
   by_cases hl:A7 M j=.no
   ·simp only[r7]at hb
    rw[h1j j hl]at hb
    exact⟨hb,fun j' h=>by cases h;exact hl⟩
   obtain⟨d,h1,_⟩:=hlent j hl
   simp only[r7,h1,It.res]at hb
   exact hb.elim
 have hfr1:∀b,FrF φ L b->FrF φ (r7 F1 ρ1 (t6 c.pre)) b:=fun b hb=>⟨hb.1,fun k hk=>hb.2 k (hsub k b hk).1⟩
 let ψ1:Nat->Prop:=fun b=>∀k,¬(r7 F1 ρ1 (t6 c.pre) k).blk b
 have M1:l5 φ ψ1 w w (r7 F1 ρ1 (t6 c.pre)):=by
  refine⟨E4.refl _ _,fun b hb=>MM.fresh b (cx8 MM.size hb),fun w' hk=>MM.env w' ⟨hk.os.trans MM.kept.os,hk.tape.trans MM.kept.tape,hk.output.trans MM.kept.output,cx8 MM.size hk.size,fun b hb hp=>(hk.block b (cz7 hb MM.size) fun k hk'=>(MM.ge k b (hsub k b hk').1).elim (fun h=>by omega) fun h=>h hp).trans (MM.kept.block b hb hp)⟩,fun k=>?_,fun k k' b hkk h1 h2=>MM.dis k k' b hkk (hsub k b h1).1 (hsub k' b h2).1,fun k b h1=>.inr fun h=>h k h1,fun k b h1=>MM.ph k b (hsub k b h1).1⟩
  cases k with
  |inl i=>exact Rs.snap_holds (show(F i).holds w _ from by rw[<-hLi i];exact MM.holds (.inl i))
  | inr j =>
   by_cases hl:A7 M j=.no
   ·simp only[r7]
    rw[h1j j hl]
    exact Rs.keep (MM.holds (.inr j)) (Agr.mono fun b _ hf=>hfr1 b hf) fun _ _=>rfl
   obtain⟨d,h1,h2,h3⟩:=hlent j hl
   have hh:=MM.holds (.inr j)
   have hown:∀b,(L (.inr j)).blk b->FrF φ (r7 F1 ρ1 (t6 c.pre)) b:=fun b hb=>⟨MM.ph _ _ hb,fun k hk=>by
    obtain⟨q1,q2⟩:=hsub k b hk
    by_cases e:k=.inr j
    ·exact hl (q2 j e)
    exact MM.dis k (.inr j) b e q1 hb⟩
   simp only[r7,h1,It.res]
   refine⟨RD.nice _ _,?_⟩
   rcases h3 with⟨e,h3,hflat⟩|h3
   ·rw[hLj,h3,h1]at hh
    simp only[B6,It.res]at hh
    obtain⟨_,xs,o1,o2⟩:=hh
    have e1:ρ1 j=ρ j:=by rw[hρ1,h3];rfl
    rw[e1]
    refine RD.make (C8 o1 fun g hg=>hown g ?_) (by2 hflat o2)
    rw[hLj,h3,h1];exact hg
   rw[hLj,h3,h1]at hh
   simp only[B6,It.res]at hh
   have e1:ρ1 j=F5 (ρ j):=by rw[hρ1,h3];rfl
   rw[e1]
   refine F7.read hh.2.1 fun b hb=>hown b ?_
   rw[hLj,h3,h1];exact hb
 simp only
 rw[AV.vals_tr hρ1 c.args hargs]
 refine(hc ι φ ψ1 w w F1 ρ1 M1).mono ?_
 rintro x w' ⟨ρ2,g1,g2,M2⟩
 have hplen:(aa2 M c.pre).length=c.pre.length:=by simp[aa2]
 let ρ':Nat->Value:=fun j=>if j<c.pre.length then ρ j else ρ2 j
 have hρ':∀j,ρ2 j=if(A7 M j).isT then F5 (ρ' j)else ρ' j:=fun j=>by
  show _=if(A7 M j).isT then F5 (if j<c.pre.length then ρ j else ρ2 j)else(if j<c.pre.length then ρ j else ρ2 j)
  rcases cx7 j c.pre.length with h|h
  ·rw[if_pos h,g1 j h]
  rw[hno j h]
  exact(if_neg (Nat.not_lt.2 h)).symm
 have hρo:∀j,A7 M j≠ .no->ρ' j=ρ j:=fun j hj=>by
  rcases cx7 j c.pre.length with h|h
  ·exact if_pos h
  exact absurd (hno j h) hj
 refine⟨ρ',fun i hi=>if_pos (by rw[hplen]at hi;exact hi),by rw[AV.val_tr hρ' c.res hres];exact g2,?_⟩
 have hL'j:∀j,r7 F ρ' (t6 (aa2 M c.post)) (.inr j)=(B6 M (A7 M j) (t6 c.post j)).res ρ' j:=fun j=>by simp only[r7];rw[ac7]
 have hL'i:∀i,r7 F ρ' (t6 (aa2 M c.post)) (.inl i)=F i:=fun _=>rfl
 generalize hL':r7 F ρ' (t6 (aa2 M c.post))=L' at hL'j hL'i
 have hL2j:∀j,A7 M j=.no->L' (.inr j)=r7 F1 ρ2 (t6 c.post) (.inr j):=fun j hl=>by
  rw[hL'j,hl]
  have hp:=hpo j
  have e:ρ2 j=ρ' j:=by rw[hρ',hl];rfl
  simp only[r7]
  cases hx:t6 c.post j with
  |none=>rfl
  |dead=>rfl
  |dat d=>simp only[B6,It.res];rw[e]
  |row e' d=>simp only[B6,It.res];rw[e]
  |tree d=>simp only[B6,It.res];rw[e]
  |kept e' d=>cases e'<;>(simp only[B6,It.res];rw[e])
  |hole k i ls=>rw[hl,hx]at hp;cases hp
  |err=>simp only[B6,It.res];rw[e]
  |box cs=>
   rw[hl,hx]at hp
   simp only[a57]at hp
   simp only[B6,It.res]
   rw[e,AV.vals_tr hρ' cs hp]
 have hlj:∀j,A7 M j≠ .no->L' (.inr j)=L (.inr j):=fun j hl=>by
  obtain⟨d,h1,h2,h3⟩:=hlent j hl
  rw[hL'j,hLj,h1,h2]
  rcases h3 with⟨e,h3,_⟩|h3
  ·rw[h3];simp only[B6,It.res];rw[hρo j hl]
  rw[h3];simp only[B6,It.res];rw[hρo j hl]
 have hin:∀b,b<w.heap.size->¬ψ1 b->∃k,(L k).blk b/\∀j,k=.inr j->A7 M j=.no:=fun b _ hn=>by
  obtain⟨k,hk⟩:=Classical.not_forall.1 hn
  exact⟨k,hsub k b (Classical.not_not.1 hk)⟩
 have hnew:∀k b,(∀j,k=.inr j->A7 M j=.no)->(r7 F1 ρ2 (t6 c.post) k).blk b->b<w.heap.size->∃k',(L k').blk b/\∀j,k'=.inr j->A7 M j=.no:=fun k b _ hb hlt=>by
  rcases M2.ge k b hb with h|h
  ·omega
  exact hin b hlt h
 have hback:∀k b,(L' k).blk b->b<w.heap.size->∃k',(L k').blk b:=fun k b hb hlt=>by
  cases k with
  |inl i=>rw[hL'i]at hb;exact⟨.inl i,by rw[hLi];exact hb⟩
  | inr j =>
   by_cases hl:A7 M j=.no
   ·rw[hL2j j hl]at hb
    obtain⟨k',h1,_⟩:=hnew (.inr j) b (fun j' h=>by cases h;exact hl) hb hlt
    exact⟨k',h1⟩
   rw[hlj j hl]at hb;exact⟨_,hb⟩
 have hsame:∀b,b<w.heap.size->ψ1 b->w'.heap[b]? =w.heap[b]? :=fun b h1 h2=>M2.kept.block b h1 h2
 have hagr:Agr (FrF φ L) (FrF φ L') w w':=⟨M2.kept.size,fun b hb hf=>⟨⟨hf.1,fun k hk=>let⟨k',h1⟩:=hback k b hk hb;hf.2 k' h1⟩,hsame b hb fun k hk=>(hfr1 b hf).2 k hk⟩⟩
 have hlsame:∀j,A7 M j≠ .no->∀b,(L (.inr j)).blk b->w'.heap[b]? =w.heap[b]? :=fun j hl b hb=>hsame b (MM.lt hb) fun k hk=>by
  obtain⟨q1,q2⟩:=hsub k b hk
  by_cases e:k=.inr j
  ·exact hl (q2 j e)
  exact MM.dis k (.inr j) b e q1 hb
 have hcross:∀j k b,A7 M j≠ .no->(∀j,k=.inr j->A7 M j=.no)->(L (.inr j)).blk b->¬(r7 F1 ρ2 (t6 c.post) k).blk b:=fun j k b hl hk h1 h2=>by
  obtain⟨k',h3,h4⟩:=hnew k b hk h2 (MM.lt h1)
  exact MM.dis k' (.inr j) b (fun e=>hl (h4 j e)) h3 h1
 refine⟨⟨M2.kept.os.trans MM.kept.os,M2.kept.tape.trans MM.kept.tape,M2.kept.output.trans MM.kept.output,cx8 MM.size M2.kept.size,fun b hb hp=>(hsame b (cz7 hb MM.size) fun k hk=>?_).trans (MM.kept.block b hb hp)⟩,MM.fresh,MM.env,fun k=>?_,fun k k' b hkk h1 h2=>?_,fun k b h1=>?_,fun k b h1=>?_⟩
 ·rcases MM.ge k b (hsub k b hk).1 with h|h
  ·omega
  exact h hp
 ·cases k with
  |inl i=>
   rw[hL'i, <-hLi i]
   refine Rs.keep (MM.holds (.inl i)) hagr fun b hb=>?_
   have:=(M2.holds (.inl i)).2.1 b (by rw[<-hLi i];exact hb) (MM.lt hb)
   exact this
  | inr j =>
   by_cases hl:A7 M j=.no
   ·have hh:=M2.holds (.inr j)
    rw[<-hL2j j hl]at hh
    have hp:=hpo j
    rw[hl]at hp
    cases hx:t6 c.post j with
    |none=>rw[hL'j,hl,hx];exact Rs.none_holds _ _
    |dead=>rw[hL'j,hl,hx];exact Rs.none_holds _ _
    |box cs=>rw[hL'j,hl,hx]at hh ⊢;exact hh
    |tree d=>rw[hL'j,hl,hx]at hh ⊢;exact hh
    |kept e' d=>rw[hx]at hp;exact absurd hp (by simp[a57])
    |hole k i ls=>rw[hx]at hp;exact absurd hp (by simp[a57])
    |err=>rw[hL'j,hl,hx]at hh ⊢;exact hh
    |row e d=>
     rw[hx]at hp
     simp only[a57]at hp
     rw[hL'j,hl,hx]at hh ⊢
     simp only[B6,It.res]at hh ⊢
     obtain⟨_,xs,o1,o2⟩:=hh
     exact⟨fun xs=>RW.nice d xs,xs,o1,by2 hp o2⟩
    | dat d =>
     rw[hx]at hp
     simp only[a57]at hp
     split at hp
     ·rename_i d' hpx
      have hd:d'=d:=a77 he hpx hx
      subst hd
      have e:L' (.inr j)=L (.inr j):=by
       rw[hL'j,hLj,hl,hx,hpx]
       simp only[B6,It.res]
       have:j<c.pre.length:=by
        rcases cx7 j c.pre.length with h|h
        ·exact h
        rw[A6 h]at hpx;cases hpx
       rw[show ρ' j=ρ j from if_pos this]
      rw[e]
      refine Rs.keep (MM.holds (.inr j)) hagr fun b hb=>?_
      rw[hLj,hl,hpx]at hb
      exact hb.elim
     cases hp
   rw[hlj j hl]
   exact Rs.keep (MM.holds (.inr j)) hagr fun b hb=>hlsame j hl b hb
 ·have key:∀k,(∃j,k=.inr j/\A7 M j≠ .no/\(L' k)=L k)\/((∀j,k=.inr j->A7 M j=.no)/\∀b,(L' k).blk b->(r7 F1 ρ2 (t6 c.post) k).blk b):=fun k=>by
   cases k with
   |inl i=>exact .inr ⟨(fun j h=>by cases h),fun b hb=>by rw[hL'i]at hb;exact hb⟩
   |inr j=>
    by_cases hl:A7 M j=.no
    ·exact .inr ⟨fun j' h=>by cases h;exact hl,fun b hb=>by rw[hL2j j hl]at hb;exact hb⟩
    exact .inl ⟨j,rfl,hl,hlj j hl⟩
  rcases key k with⟨j,rfl,k1,k2⟩|⟨k1,k2⟩<;>rcases key k' with⟨j',rfl,k3,k4⟩|⟨k3,k4⟩
  ·rw[k2]at h1;rw[k4]at h2;exact MM.dis _ _ b hkk h1 h2
  ·rw[k2]at h1;exact hcross j k' b k1 k3 h1 (k4 b h2)
  ·rw[k4]at h2;exact hcross j' k b k3 k1 h2 (k2 b h1)
  exact M2.dis k k' b hkk (k2 b h1) (k4 b h2)
 ·cases k with
  |inl i=>rw[hL'i, <-hLi i]at h1;exact MM.ge _ b h1
  | inr j =>
   by_cases hl:A7 M j=.no
   ·rw[hL2j j hl]at h1
    rcases cx7 b w.heap.size with hlt|hge
    ·obtain⟨k',h2,_⟩:=hnew (.inr j) b (fun j' h=>by cases h;exact hl) h1 hlt
     exact MM.ge k' b h2
    exact .inl (cx8 MM.size hge)
   rw[hlj j hl]at h1;exact MM.ge _ b h1
 cases k with
 |inl i=>rw[hL'i, <-hLi i]at h1;exact MM.ph _ b h1
 |inr j=>
  by_cases hl:A7 M j=.no
  ·rw[hL2j j hl]at h1;exact M2.ph _ b h1
  rw[hlj j hl]at h1;exact MM.ph _ b h1
def bP4(M:List Ln):Ln->It->It
 |.row e,.dat d=>.kept (some e) d
 |.tree,.dat d=>.kept none d
 |.no,.box cs=>.box (AV.trL M cs)
 |_,x=>x
def bP3(M:List Ln)(S:List It):List It:=(cx0 S.length).map fun i=>bP4 M (A7 M i) (t6 S i)
theorem bO2(M:List Ln)(S:List It)(i:Nat):t6 (bP3 M S) i=bP4 M (A7 M i) (t6 S i):=by
 unfold bP3
 rcases cx7 i S.length with h|h
 ·conv=>lhs;rw[t6,cv8,List.getElem?_map,List.getElem?_range h]
  rfl
 rw[A6 (by simpa using h),A6 h]
 cases A7 M i<;>rfl
theorem j8.lend{P:Program}{c:j8}(hc:c.ok P)(M:List Ln)(hb:bO4 M c=true:=by kernel_rfl)(he:aC7 c.pre c.post=aC6 c.pre c.post:=by kernel_rfl):j8.ok P ⟨c.f,AV.trL M c.args,aa2 M c.pre,bP3 M c.post,c.res.tr M⟩:=
 j8.okPost (j8.lend0 hc M hb he) _ fun ρ i=>by
  simp only
  rw[bO2,ac7]
  cases A7 M i<;>cases t6 c.post i<;>rfl
section
variable{P:Program}{ι κ:Type}{φ ψ:Nat->Prop}{w0 w:World}{F:ι->Rs}{ρ ρ0:Nat->Value}{N m n:Nat}{S:List It}{tm:List (Nat×AV)}{a:Act}
theorem l5.release{L L':κ->Rs}(M:l5 φ ψ w0 w L)(h:∀k,L' k=L k\/((∀b,¬(L' k).blk b)/\∀φ',(∀b,FrF φ L b->φ' b)->(∀b,(L k).blk b->φ' b)->(L' k).holds w φ')):l5 φ ψ w0 w L':=by
 have old:∀k b,(L' k).blk b->(L k).blk b:=fun k b hb=>by
  rcases h k with e|⟨h1,_⟩
  ·rw[e]at hb;exact hb
  exact(h1 b hb).elim
 have hfr:∀b,FrF φ L b->FrF φ L' b:=fun b hb=>⟨hb.1,fun k hk=>hb.2 k (old k b hk)⟩
 refine⟨M.kept,M.fresh,M.env,fun k=>?_,fun i j g hij h1 h2=>M.dis i j g hij (old i g h1) (old j g h2),fun i b hb=>M.ge i b (old i b hb),fun i b hb=>M.ph i b (old i b hb)⟩
 rcases h k with e|⟨h1,h2⟩
 ·rw[e];exact Rs.keep (M.holds k) (Agr.mono fun b _ hf=>hfr b hf) fun _ _=>rfl
 refine h2 _ hfr fun b hb=>⟨M.ph k b hb,fun j hj=>?_⟩
 by_cases e:j=k
 ·subst e;exact h1 b hj
 exact M.dis j k b e (old j b hj) hb
mutual
theorem AV.ids_tr(M:List Ln):∀(x:AV),(x.tr M).ids=x.ids
 |.v _=>rfl
 |.ptr _ _=>rfl
 |.ea _ _ _ _=>rfl
 |.ref i=>by simp only[AV.tr];split<;>rfl
 |.agg l=>by simp only[AV.tr,AV.ids];exact AV.idsL_tr M l
 |.tup l=>by simp only[AV.tr,AV.ids];exact AV.idsL_tr M l
 |.fn _ l=>by simp only[AV.tr,AV.ids];exact AV.idsL_tr M l
 |.bm _ l=>by simp only[AV.tr,AV.ids];exact AV.idsL_tr M l
 |.tref _=>rfl
theorem AV.idsL_tr(M:List Ln):∀(l:List AV),AV.idsL (AV.trL M l)=AV.idsL l
 |[]=>rfl
 |x::r=>by simp only[AV.trL,AV.idsL];rw[AV.ids_tr M x,AV.idsL_tr M r]
end
theorem a55{M:List Ln}{t:Nat}{x:AV}:∀{tm:List (Nat×AV)},C2 tm t=some x->C2 (tm.map fun p=>(p.1,p.2.tr M)) t=some (x.tr M)/\∃p∈tm,p.2=x
 |[],h=>by cases h
 |(k,y)::r,h=>by
  simp only[C2,cy8]at h ⊢
  split at h
  ·cases h;rename_i hk;rw[if_pos hk];exact⟨rfl,_,cz6,rfl⟩
  rename_i hk;rw[if_neg hk]
  obtain⟨h1,p,h2,h3⟩:=a55 h
  exact⟨h1,p,cz4 _ h2,h3⟩
def cl3(M:List Ln)(m:Nat)(S1:List It)(tm1:List (Nat×AV)):Bool:=
 decide (M.length<=S1.length)&&(cx0 S1.length).all (fun i=>match A7 M i,t6 S1 i with
  |.no,.box cs=>AV.trOkL M cs
  |.no,.hole _ _ _=>false
  |.no,_=>true
  |.row _,.dat _=>true
  |.tree,.dat _=>decide (m<=i)
  |_,_=>false)&&tm1.all fun p=>p.2.trOk M
theorem It.ids_lend(M:List Ln)(l:Ln)(x:It):x.ids=[]\/(B6 M l x).ids=x.ids:=by
 cases x with
 |box cs=>cases l<;>first|exact .inr rfl|exact .inr (AV.idsL_tr M cs)
 |hole k i ls=>cases l<;>exact .inr rfl
 |_=>exact .inl rfl
theorem x7.frz(G:x7 φ ψ w0 F N m ρ0 ρ S tm a w)(M:List Ln)(S1:List It)(tm1:List (Nat×AV))(hb:cl3 M m S1 tm1=true:=by kernel_rfl)(hS:S=aa2 M S1:=by kernel_rfl)(ht:tm=tm1.map (fun p=>(p.1,p.2.tr M)):=by kernel_rfl):
  ∃ρ',x7 φ ψ w0 F N m ρ0 ρ' S1 tm1 a w:=by
 subst hS
 subst ht
 simp only[cl3,cv4,decide_eq_true_eq]at hb
 obtain⟨⟨hM,hall⟩,htm⟩:=hb
 have hlen:(aa2 M S1).length=S1.length:=by simp[aa2]
 have hno:∀i,S1.length<=i->A7 M i=.no:=fun i hi=>by
  unfold A7;rw[cv8,cy1 al];rfl
 have hat:=fun i (hi:i<S1.length)=>cw3.1 hall i (cz5.2 hi)
 let ρ1:Nat->Value:=fun i=>if(A7 M i).isT then F5 (ρ i)else ρ i
 have hρ1:∀i,ρ1 i=if(A7 M i).isT then F5 (ρ i)else ρ i:=fun _=>rfl
 have hρn:∀i,(A7 M i).isT=false->ρ1 i=ρ i:=fun i h=>by rw[hρ1,h];rfl
 refine⟨ρ1,G.size,G.defs,fun t x hx=>?_,fun t x hx i hi=>?_,fun j=>⟨fun i hi=>?_,fun hj=>A6 hj⟩,?_,?_,fun i hi=>?_⟩
 ·obtain⟨h1,p,h2,h3⟩:=a55 (M:=M) hx
  rw[G.tmv t _ h1,AV.val_tr hρ1 x (by rw[<-h3];exact cw3.1 htm p h2)]
 ·obtain⟨h1,_⟩:=a55 (M:=M) hx
  have:=G.tmi t _ h1 i (by rw[AV.ids_tr];exact hi)
  rw[hlen]at this;exact this
 ·have h1:=(G.bd j).1 i
  rw[ac7,hlen]at h1
  rcases It.ids_lend M (A7 M j) (t6 S1 j)with h|h
  ·rw[h]at hi;cases hi
  exact h1 (by rw[h];exact hi)
 ·refine G.mem.release fun k=>?_
  cases k with
  |inl i=>exact .inl rfl
  | inr j =>
   simp only[r7]
   rw[ac7]
   rcases cx7 j S1.length with hj|hj
   case inr=>rw[hno j hj,A6 hj];exact .inl rfl
   have h1:=hat j hj
   cases hl:A7 M j with
   | no =>
    have e:ρ1 j=ρ j:=hρn j (by rw[hl];rfl)
    rw[hl]at h1
    left
    cases hx:t6 S1 j with
    |box cs=>
     rw[hx]at h1
     simp only[B6,It.res]
     rw[e,AV.vals_tr hρ1 cs h1]
    |none=>rfl
    |dead=>rfl
    |dat d=>simp only[B6,It.res];rw[e]
    |row e' d=>simp only[B6,It.res];rw[e]
    |tree d=>simp only[B6,It.res];rw[e]
    |kept e' d=>cases e'<;>(simp only[B6,It.res];rw[e])
    |hole k i ls=>rw[hx]at h1;cases h1
    |err=>simp only[B6,It.res];rw[e]
   |row e'=>
    have e:ρ1 j=ρ j:=hρn j (by rw[hl];rfl)
    rw[hl]at h1
    cases hx:t6 S1 j<;>rw[hx]at h1<;>first|cases h1|skip
    rename_i d
    refine .inr ⟨fun b hb=>hb,fun φ' hf hown=>⟨RD.nice _ _,?_⟩⟩
    have hh:=G.mem.holds (.inr j)
    simp only[r7]at hh
    rw[ac7,hl,hx]at hh
    simp only[B6,It.res]at hh
    obtain⟨_,xs,o1,o2⟩:=hh
    rw[e]
    exact RD.make (C8 o1 fun g hg=>hown g hg) (RW.nice _ _ _ _ _ _ (Agr.mono fun b _ hb=>hf b hb) o2)
   |tree=>
    have e:ρ1 j=F5 (ρ j):=by rw[hρ1,hl];rfl
    rw[hl]at h1
    cases hx:t6 S1 j<;>rw[hx]at h1<;>first|cases h1|skip
    rename_i d
    refine .inr ⟨fun b hb=>hb,fun φ' hf hown=>⟨RD.nice _ _,?_⟩⟩
    have hh:=G.mem.holds (.inr j)
    simp only[r7]at hh
    rw[ac7,hl,hx]at hh
    simp only[B6,It.res]at hh
    rw[e]
    exact F7.read hh.2.1 fun b hb=>hown b hb
 ·have:=G.le;rw[hlen]at this;exact this
 have hm:=G.le
 rw[hlen]at hm
 have:(A7 M i).isT=false:=by
  cases hl:A7 M i with
  |no=>rfl
  |row _=>rfl
  |tree=>
   have h1:=hat i al
   rw[hl]at h1
   cases hx:t6 S1 i<;>rw[hx]at h1<;>simp at h1
   omega
 show ρ1 i=ρ0 i
 rw[hρn i this];exact G.old i hi
end
section
variable{P:Program}{ι κ:Type}{φ ψ:Nat->Prop}{w0 w w':World}{F:ι->Rs}{ρ ρ0:Nat->Value}
theorem l5.grow{L L':κ->Rs}(M:l5 φ ψ w0 w L)(hb:Below w.heap.size w w')(K:κ->Prop)(ho:∀k,¬K k->L' k=L k)(hg:∀k,K k->∀b,(L' k).blk b->w.heap.size<=b)(hd:∀j k b,j≠k->K j->K k->(L' j).blk b->¬(L' k).blk b)(h:∀k,K k->(L' k).holds w' (FrF φ L')):l5 φ ψ w0 w' L':=by
 have M1:=M.call hb
 have old:∀k,¬K k->∀b,(L' k).blk b->b<w.heap.size:=fun k hk b h1=>by rw[ho k hk]at h1;exact M.lt h1
 refine⟨M1.kept,M.fresh,M.env,fun k=>?_,fun i j g hij h1 h2=>?_,fun i b h1=>?_,fun i b h1=>?_⟩
 ·by_cases e:K k
  ·exact h k e
  rw[ho k e]
  refine Rs.keep (M.holds k) ⟨hb.size,fun b hl hf=>⟨⟨hf.1,fun j hj=>?_⟩,hb.block b hl⟩⟩ fun g hgx=>hb.block g (M.lt hgx)
  by_cases e2:K j
  ·have:=hg j e2 b hj;omega
  rw[ho j e2]at hj;exact hf.2 j hj
 ·by_cases e1:K i<;>by_cases e2:K j
  ·exact hd i j g hij e1 e2 h1 h2
  ·have:=hg i e1 g h1;have:=old j e2 g h2;omega
  ·have:=hg j e2 g h2;have:=old i e1 g h1;omega
  rw[ho i e1]at h1;rw[ho j e2]at h2;exact M.dis i j g hij h1 h2
 ·by_cases e:K i
  ·exact .inl (cx8 M.size (hg i e b h1))
  rw[ho i e]at h1;exact M.ge i b h1
 by_cases e:K i
 ·exact M.fresh b (cx8 M.size (hg i e b h1))
 rw[ho i e]at h1;exact M.ph i b h1
end
abbrev oP(p:f7):List It:=[.row 3 (.ints p.vars),.row 3 (.ints p.arrays),.tree (.stmts p.body)]
abbrev oA(r:Nat):AV:=.agg [.ref r,.ref (r+1),.tref (r+2)]
theorem aX9{w:World}{φ:Nat->Prop}{v:Value}{l:List Int}(h:w.ownsRow 0 3 1 v l.length (ints l)):(Rs.row 3 (D.ints l).sz v (D.ints l).len fun xs w φ=>RW w φ (.ints l) xs).holds w φ:=by
 refine⟨fun xs=>RW.nice (.ints l) xs,ints l,h,fun i hi j x hx=>?_⟩
 have hi':i<l.length:=hi
 simp only[D.elem]at hx
 have hj:j=0:=by
  cases j with
  |zero=>rfl
  |succ j=>simp at hx
 subst hj
 simp at hx
 subst hx
 refine⟨_,?_,rfl⟩
 simp only[D.sz]
 rw[Nat.mul_one,Nat.add_zero]
 simp[ints,hi']
theorem ao2(e:c6):j8.ok Tryz.prog ⟨202,[.agg [.v (.int .i64 e.kind),.v (.int .i64 e.value),.ref 0]],[.dat (.exprs e.kids)],[.dat (.exprs e.kids)],.v (.bool (noneB e))⟩:=by
  refine H9 17 Tryz.func202 [dE e.kids] [(0,eA e 0)] fun G=>?_;refine wp_seq (j9 G f8 [0,1] [dE e.kids,.box (eL e 0)] [(1,.ptr 1 0),(2,bA false)] fun G=>b6 (wp_seq ?_));cases h0:(e.kind==0)
  · have q0:=ne_of_beq_false h0;refine j9 G (K6 (fc h0 (fc (b:=false) rfl fz)) (us [(4,6,0),(1007,1007,0),(9,12,1),(1013,1013,1)])) [0] [dE e.kids] [(2,bA false)] fun G=>b6 (wp_ret ?_);exact M5 false G [0] (by rw[cz0];simp[noneB,h0,q0];done)
  have q0:=eq_of_beq h0;cases h1:(e.value==0)
  · have q1:=ne_of_beq_false h1;refine j9 G (K6 (fc h0 (fc h1 fz)) (us [(4,6,0),(1007,1007,0),(9,12,1),(1013,1013,1)])) [0] [dE e.kids] [(2,bA false)] fun G=>b6 (wp_ret ?_);exact M5 false G [0] (by rw[cz0];simp[noneB,h0,q0,h1,q1];done)
  have q1:=eq_of_beq h1;refine j9 G (K6 (fc h0 (fc h1 fz)) (us [(4,6,0),(1007,1007,0),(9,12,1),(1013,1013,1)])) [0] [dE e.kids] [(2,bA ((e.kids.length:Int)==0))] fun G=>b6 (wp_ret ?_);exact M5 ((e.kids.length:Int)==0) G [0] (by rw[cz0];simp[noneB,h0,q0,h1,q1];done)
theorem aq9(k:Int):j8.ok Tryz.prog ⟨206,[.v (.int .i64 k)],[],[],.v (.int .i64 (v5 k))⟩:=by
  refine H9 23 Tryz.func206 [] [(0,iA k)] fun G=>?_;refine wp_seq (l8 G f8 [(2,iA 0)] fun G=>b6 (wp_seq (wp_block (wp_seq ?_))));cases h0:(k==1)
  ·
   have q0:=ne_of_beq_false h0;refine l8 G (K6 (fc h0 fz) [(3,0),(4,0),(1005,0)]) [(3,bA (k==2))] fun G=>b6 (S4 G (fun h1 q1=>?_) fun h1 q1=>?_)
   ·
    refine wp_seq (l8 G f8 [(10,bA (k==3))] fun G=>b6 (S4 G (fun h2 q2=>?_) fun h2 q2=>?_))
    ·
     refine wp_seq ?_;cases h3:(decide (k>=4))
     ·
      have q3:=dFf h3;refine l8 G (K6 (fc h3 fz) [(3,0),(4,0),(1005,0)]) [(13,bA false)] fun G=>b6 (rF G false aj (wp_seq (G3 G f8 [(2,iA 0),(20,bA (k==11))] fun G=>b6 ?_)));cases h4:(k==11)
      · have q4:=ne_of_beq_false h4;refine rF G _ h4 (wp_skip (p8 (b6 (wp_seq (l8 G f8 [(2,iA (-1))] fun G=>b6 (wp_ret ?_))))));exact rxI (-1) G [] (by unfold v5;(repeat' split)<;>omega)
      have q4:=eq_of_beq h4;exact False.elim al
     have q3:=dTt h3;refine l8 G (K6 (fc h3 fz) [(3,0),(4,0),(1005,0)]) [(13,bA (decide (k<=10)))] fun G=>b6 (rcD G (fun h5 q5=>?_) fun h5 q5=>?_)
     ·
      refine wp_seq (l8 G f8 [(20,bA (k==11))] fun G=>b6 (S4 G (fun h6 q6=>?_) fun h6 q6=>?_))
      · refine wp_skip (p8 (b6 (wp_seq (l8 G f8 [(2,iA (-1))] fun G=>b6 (wp_ret ?_)))));exact rxI (-1) G [] (by unfold v5;(repeat' split)<;>omega)
      refine wp_seq (l8 G f8 [(2,iA 3)] fun G=>b6 (wp_ret (B7 (l7 ?_))));exact rxI 3 G [] (by unfold v5;(repeat' split)<;>omega)
     refine wp_seq (l8 G f8 [(2,iA 2)] fun G=>b6 (wp_ret (B7 (l7 ?_))));exact rxI 2 G [] (by unfold v5;(repeat' split)<;>omega)
    refine wp_seq (l8 G f8 [(2,iA 1)] fun G=>b6 (wp_ret (B7 (l7 ?_))));exact rxI 1 G [] (by unfold v5;(repeat' split)<;>omega)
   refine wp_seq (l8 G f8 [] fun G=>b6 (wp_ret (B7 (l7 ?_))));exact rxI 0 G [] (by unfold v5;(repeat' split)<;>omega)
  have q0:=eq_of_beq h0;refine l8 G (K6 (fc h0 fz) [(3,0),(4,0),(1005,0)]) [(3,bA true)] fun G=>b6 (rT G true aj (wp_seq (l8 G f8 [] fun G=>b6 (wp_ret (B7 (l7 ?_))))));exact rxI 0 G [] (by unfold v5;(repeat' split)<;>omega)
theorem aT1(e:c6):j8.ok Tryz.prog ⟨194,[.agg [.v (.int .i64 e.kind),.v (.int .i64 e.value),.ref 0]],[.dat (.exprs e.kids)],[.dat (.exprs e.kids)],.v (.bool (atomB e))⟩:=by
 refine H9 11 Tryz.func194 [dE e.kids] [(0,eA e 0)] fun G=>?_;refine wp_seq (j9 G f8 [0,1] [dE e.kids,.box (eL e 0)] [(1,.ptr 1 0),(2,bA false)] fun G=>b6 (wp_seq ?_));cases h0:(e.kind==1)
 ·have q0:=ne_of_beq_false h0;refine j9 G (K6 (fc h0 fz) [(4,0),(5,0),(6,0),(1007,0)]) [0] [dE e.kids] [(2,bA (e.kind==2))] fun G=>b6 (wp_ret ?_);exact M5 (e.kind==2) G [0] (by rw[cz0];simp[atomB,h0,q0];done)
 have q0:=eq_of_beq h0;refine j9 G (K6 (fc h0 fz) [(4,0),(5,0),(6,0),(1007,0)]) [0] [dE e.kids] [(2,bA true)] fun G=>b6 (wp_ret ?_);exact M5 true G [0] (by rw[cz0];simp[atomB,h0,q0];done)
theorem bF9(vs ars:List Int)(b:List c5)(k:Int):j8.ok Tryz.prog ⟨207,[.agg [.ref 0,.ref 1,.ref 2],.v (.int .i64 k)],[.dat (.ints vs),.dat (.ints ars),.dat (.stmts b)],[.dat (.ints vs),.dat (.ints ars),.dat (.stmts b)],.v (.int .i64 (Y2 vs.length ars.length k))⟩:=by
  refine H9 18 Tryz.func207 [dI vs,dI ars,dT b] [(0,pA 0),(1,iA k)] fun G=>?_;refine wp_seq (j9 G f8 (rg 4) [dI vs,dI ars,dT b,.box (pL 0)] [(1,iA k),(2,.ptr 3 0),(4,iA 0)] fun G=>b6 (wp_seq (wp_seq (l8 G f8 [(5,iA k)] fun G=>b6 (wp_block (wp_seq (l8 G f8 [(6,bA (k==1))] fun G=>b6 (S4 G (fun h0 q0=>?_) fun h0 q0=>?_))))))))
  ·
   refine wp_seq (l8 G f8 [(8,bA (k==2))] fun G=>b6 (S4 G (fun h1 q1=>?_) fun h1 q1=>?_))
   ·
    refine wp_seq (l8 G f8 [(13,bA (k==3))] fun G=>b6 (S4 G (fun h2 q2=>?_) fun h2 q2=>?_))
    · refine wp_skip (p8 (b6 (wp_seq (j9 G f8 [0,1,2] [dI vs,dI ars,dT b] [(4,iA 1)] fun G=>b6 (wp_ret ?_)))));exact rxI 1 G [0,1,2] (by unfold Y2;(repeat' split)<;>omega)
    refine wp_seq (j9 G f8 [0,1,2] [dI vs,dI ars,dT b] [(4,iA (ars.length:Int))] fun G=>b6 (wp_ret (B7 (l7 ?_))));exact rxI ((ars.length:Int)) G [0,1,2] (by unfold Y2;(repeat' split)<;>omega)
   refine wp_seq (j9 G f8 [0,1,2] [dI vs,dI ars,dT b] [(4,iA (vs.length:Int))] fun G=>b6 (wp_ret (B7 (l7 ?_))));exact rxI ((vs.length:Int)) G [0,1,2] (by unfold Y2;(repeat' split)<;>omega)
  refine wp_seq (j9 G f8 [0,1,2] [dI vs,dI ars,dT b] [(4,iA 256)] fun G=>b6 (wp_ret (B7 (l7 ?_))));exact rxI 256 G [0,1,2] (by unfold Y2;(repeat' split)<;>omega)
theorem bj2{α:Type}{l:List α}{k:Nat}{p:α->Bool}{z:α}(h:(l.take k).all p=true)(hk:k<l.length)(hp:p (l.getD k z)=true):(l.take (k+1)).all p=true:=by
 rw[X4 p l k hk,h, <-n7 (d:=z) hk,hp];rfl
theorem aT8{α:Type}{l:List α}{k:Nat}{p:α->Bool}(h:(l.take k).all p=true)(hk:l.length<=k):l.all p=true:=by
 rw[cw7 hk]at h;exact h
section
variable{nv na d:Nat}{e:c6}
theorem bW9(h:¬(e.kids.length:Int)=v5 e.kind):i5 nv na (d+1) e=false:=by simp[i5,U6,h]
theorem bW8(h:e.value<0):i5 nv na (d+1) e=false:=by
 have:¬0<=e.value:=al
 simp[i5,U6,this]
theorem bW7(h:Y2 nv na e.kind<=e.value):i5 nv na (d+1) e=false:=by
 have:¬e.value<Y2 nv na e.kind:=al
 simp[i5,U6,this]
theorem bW6{k:Nat}{z:c6}(hk:k<e.kids.length)(h:i5 nv na d (e.kids.getD k z)=false):i5 nv na (d+1) e=false:=by
 rw[n7 hk]at h
 have:e.kids.all (i5 nv na d)=false:=ax8 hk h
 simp[i5,this]
theorem bl6(h1:(e.kids.length:Int)=v5 e.kind)(h2:¬e.value<0)(h3:¬Y2 nv na e.kind<=e.value):U6 nv na e=true:=by
 unfold U6;rw[decide_eq_true h1,decide_eq_true al,decide_eq_true al];rfl
theorem bW5(hn:U6 nv na e=true)(ha:e.kids.all (i5 nv na d)=true)(h:¬e.kind=3):i5 nv na (d+1) e=true:=by
 rw[i5,hn,ha];simp[aF0,h]
theorem bW4(hn:U6 nv na e=true)(ha:e.kids.all (i5 nv na d)=true)(h:e.kind=3)(hl:0<e.kids.length):i5 nv na (d+1) e=atomB (e.kids.getD 0 cv2):=by
 rw[i5,hn,ha,bB9 h hl,n7 hl];simp[atomB]
theorem a04(h1:(e.kids.length:Int)=v5 e.kind)(h:e.kind=3):0<e.kids.length:=by
 rw[h]at h1;simp[v5]at h1;omega
end
theorem br6(vs ars:List Int)(b:List c5)(e:c6)(n:Int)(hn:n=0):j8.ok Tryz.prog ⟨203,[.agg [.ref 0,.ref 1,.ref 2],.agg [.v (.int .i64 e.kind),.v (.int .i64 e.value),.ref 3],.v (.int .i64 n)],[.dat (.ints vs),.dat (.ints ars),.dat (.stmts b),.dat (.exprs e.kids)],[.dat (.ints vs),.dat (.ints ars),.dat (.stmts b),.dat (.exprs e.kids)],.v (.bool (i5 vs.length ars.length 0 e))⟩:=by
 have h100:decide (n<1)=true:=ah
 refine H9 60 Tryz.func203 [dI vs,dI ars,dT b,dE e.kids] [(0,pA 0),(1,eA e 3),(2,iA n)] fun G=>?_;refine wp_seq (j9 G f8 [0,1,2,3,4,12] [dI vs,dI ars,dT b,dE e.kids,.box (pL 0),.box (eL e 3)] [(2,iA n),(3,.ptr 4 0),(4,.ptr 5 0),(6,bA false)] fun G=>b6 (wp_seq (wp_seq (bC0 G (K6 (fc (a:=decide (n<1)) (b:=true) ai (fc (b:=true) rfl fz)) (us [(3,9,0),(1010,1010,0),(12,14,1),(1015,1015,1),(17,23,1),(1024,1024,1)])) [0,1,3,7,15,31,7,71,199,511,1023,2047,4095,8191,16383,32767,65535,131071,262143,131071,131071,1179647,3801087,8388607,16777215] [(32,bA true)] fun G=>b6 (rT G true aj (wp_seq (l8 G f8 [] fun G=>b6 (wp_ret (l7 ?_)))))))));exact O8 G (rg 4)
theorem br5(vs ars:List Int)(b:List c5)(d:Nat)(hd:d<=5)(ih:∀(e:c6) (n:Int),n=d->j8.ok Tryz.prog ⟨203,[.agg [.ref 0,.ref 1,.ref 2],.agg [.v (.int .i64 e.kind),.v (.int .i64 e.value),.ref 3],.v (.int .i64 n)],[.dat (.ints vs),.dat (.ints ars),.dat (.stmts b),.dat (.exprs e.kids)],[.dat (.ints vs),.dat (.ints ars),.dat (.stmts b),.dat (.exprs e.kids)],.v (.bool (i5 vs.length ars.length d e))⟩)
    (e:c6) (n:Int) (hn:n=(d+1:Nat)):j8.ok Tryz.prog ⟨203,[.agg [.ref 0,.ref 1,.ref 2],.agg [.v (.int .i64 e.kind),.v (.int .i64 e.value),.ref 3],.v (.int .i64 n)],[.dat (.ints vs),.dat (.ints ars),.dat (.stmts b),.dat (.exprs e.kids)],[.dat (.ints vs),.dat (.ints ars),.dat (.stmts b),.dat (.exprs e.kids)],.v (.bool (i5 vs.length ars.length (d+1) e))⟩:=by
  have h100:decide (n<1)=false:=ah
  refine H9 60 Tryz.func203 [dI vs,dI ars,dT b,dE e.kids] [(0,pA 0),(1,eA e 3),(2,iA n)] fun G=>?_;refine wp_seq (j9 G f8 [0,1,2,3,4,12] [dI vs,dI ars,dT b,dE e.kids,.box (pL 0),.box (eL e 3)] [(2,iA n),(3,.ptr 4 0),(4,.ptr 5 0),(6,bA false)] fun G=>b6 (wp_seq (wp_seq ?_)));cases h0:((e.kids.length:Int) !=v5 e.kind)
  ·
   have q0:=bne_eq_false_iff_eq.1 h0;cases h1:(decide (e.value<0))
   ·
    have q1:=dFf h1;refine bC0 G (I2 (v9 8 [] (aq9 e.kind) (v9 22 [0,1,2] (bF9 vs ars b e.kind) I1)) (fc (a:=decide (n<1)) (b:=false) ai (fc h0 (fc h1 fz))) (us [(3,9,0),(1010,1010,0),(12,14,1),(1015,1015,1),(17,23,2),(1024,1024,2)])) [0,1,3,7,15,31,7,71,199,511,1023,2047,4095,8191,16383,32767,65535,131071,262143,131071,131071,1179647,3801087,8388607,16777215] [(32,bA (decide (e.value>=Y2 vs.length ars.length e.kind)))] fun G=>b6 (rcD G (fun h2 q2=>?_) fun h2 q2=>?_)
    ·
     refine wp_skip (b6 (wp_seq (wp_seq (G3 G f8 [(2,iA n),(3,.ptr 4 0),(4,.ptr 5 0),(6,bA false),(7,iA 0)] fun G=>b6 (wp_block ?_)))));refine x6 (κ:=Nat) (fun k=>k<=e.kids.length/\(e.kids.take k).all (i5 vs.length ars.length d)=true) (fun k=>e.kids.length-k) (fun k=>[dI vs,dI ars,dT b,dE e.kids,.box (pL 0),.box (eL e 3)]) (fun k=>[(2,iA n),(3,.ptr 4 0),(4,.ptr 5 0),(6,bA false),(7,iA k)]) 0 (by simp[h100,h0,h1,h2]) (x7.at G _ _) ?_;clear G;intro k ρ a w hp G;have hlen:e.kids.length<=9223372036854775807:=G.len 3 (d:=.exprs e.kids) aj;have hnode:=bl6 (nv:=vs.length) (na:=ars.length) q0 q1 q2;refine wp_seq (wp_seq (G3 G f8 [(2,iA n),(3,.ptr 4 0),(4,.ptr 5 0),(6,bA false),(7,iA k),(37,bA (decide ((k:Int)<e.kids.length)))] fun G=>b6 (rcD G (fun h3 q3=>?_) fun h3 q3=>?_)))
     ·
      refine wp_exit (v8 (v8 (v6 (b6 (wp_seq ?_)))));cases h4:(e.kind !=3)
      · have q4:=bne_eq_false_iff_eq.1 h4;refine rA1 G (I2 (v9 8 [62] (aT1 (e.kids.getD 0 cv2)) I1) (fc h4 fz) (us [(4,8,0),(1009,1009,0)])) (rg 4) [dI vs,dI ars,dT b,dE e.kids] [(6,bA (atomB (e.kids.getD 0 cv2)))] (iX 0 0 e.kids.length []) (iK (by have:=a04 q0 al;omega) cx2) fun G=>b6 (wp_ret ?_);exact M5 (atomB (e.kids.getD 0 cv2)) G (rg 4) (bW4 hnode (aT8 hp.2 al) al (a04 q0 al))
      have q4:=bne_iff_ne.1 h4;refine j9 G (K6 (fc h4 fz) (us [(4,8,0),(1009,1009,0)])) (rg 4) [dI vs,dI ars,dT b,dE e.kids] [(6,bA true)] fun G=>b6 (wp_ret ?_);exact M5 true G (rg 4) (bW5 hnode (aT8 hp.2 al) al)
     refine wp_skip (b6 (wp_seq (wp_block (wp_seq (ak2 G (w6 8 [0,1,2,46] (ih (e.kids.getD k cv2) (n-1) al)) [0,0,2,0,14,30,0,64,255,511] [(49,.v (.bool !i5 vs.length ars.length d (e.kids.getD k cv2)))] (iX k k e.kids.length ((wO (n-1))::[])) (iK al (o1 al)) fun G=>b6 ?_)))));cases h5:(!i5 vs.length ars.length d (e.kids.getD k cv2))
     · have q5:(i5 vs.length ars.length d (e.kids.getD k cv2))=true:=(Eq.mp (cy2 _) h5);refine rF G _ h5 (wp_skip (p8 (b6 (P4 G f8 [(7,iA ((k:Int)+1))] [wO ((k:Int)+1)] (o1 al) fun G=>b6 ?_))));exact U5 G (k+1) (⟨al,bj2 hp.2 al ai⟩) al (rg 6)
     have q5:(i5 vs.length ars.length d (e.kids.getD k cv2))=false:=(Eq.mp (cy0 _) h5);refine rT G _ h5 (wp_seq (l8 G f8 [] fun G=>b6 (wp_ret (B7 (l7 (l7 (B7 (l7 ?_))))))));exact M5 false G (rg 4) (bW6 (k:=k) al ai)
    refine wp_seq (l8 G f8 [] fun G=>b6 (wp_ret (l7 ?_)));exact M5 false G (rg 4) (bW7 al)
   have q1:=dTt h1;refine bC0 G (I2 (v9 8 [] (aq9 e.kind) I1) (fc (a:=decide (n<1)) (b:=false) ai (fc h0 (fc h1 fz))) (us [(3,9,0),(1010,1010,0),(12,14,1),(1015,1015,1),(17,23,2),(1024,1024,2)])) [0,1,3,7,15,31,7,71,199,511,1023,2047,4095,8191,16383,32767,65535,131071,262143,131071,131071,1179647,3801087,8388607,16777215] [(32,bA true)] fun G=>b6 (rT G true aj (wp_seq (l8 G f8 [] fun G=>b6 (wp_ret (l7 ?_)))));exact M5 false G (rg 4) (bW8 al)
  have q0:=bne_iff_ne.1 h0;refine bC0 G (I2 (v9 8 [] (aq9 e.kind) I1) (fc (a:=decide (n<1)) (b:=false) ai (fc h0 (fc (b:=true) rfl fz))) (us [(3,9,0),(1010,1010,0),(12,14,1),(1015,1015,1),(17,23,2),(1024,1024,2)])) [0,1,3,7,15,31,7,71,199,511,1023,2047,4095,8191,16383,32767,65535,131071,262143,131071,131071,1179647,3801087,8388607,16777215] [(32,bA true)] fun G=>b6 (rT G true aj (wp_seq (l8 G f8 [] fun G=>b6 (wp_ret (l7 ?_)))));exact M5 false G (rg 4) (bW9 al)
theorem bd8(vs ars:List Int)(b:List c5):∀(d:Nat),d<=5->∀(e:c6) (n:Int),n=d->j8.ok Tryz.prog ⟨203,[.agg [.ref 0,.ref 1,.ref 2],.agg [.v (.int .i64 e.kind),.v (.int .i64 e.value),.ref 3],.v (.int .i64 n)],[.dat (.ints vs),.dat (.ints ars),.dat (.stmts b),.dat (.exprs e.kids)],[.dat (.ints vs),.dat (.ints ars),.dat (.stmts b),.dat (.exprs e.kids)],.v (.bool (i5 vs.length ars.length d e))⟩
 |0,_,e,n,hn=>br6 vs ars b e n al
 |d+1,hd,e,n,hn=>br5 vs ars b d al (bd8 vs ars b d al) e n hn
theorem aT0(vs ars:List Int)(b:List c5)(ky vy:Int)(ks:List c6)(n:Int)(hn:n=5):j8.ok Tryz.prog (Y3 203 [pA 0,.agg [iA ky,iA vy,.ref 3],iA n] [dI vs,dI ars,dT b,dE ks] (bA (i5 vs.length ars.length 5 ⟨ky,vy,ks⟩))):=bd8 vs ars b 5 al ⟨ky,vy,ks⟩ n hn
def cnP(d:Nat)(ks:List c6)(k:Nat):Nat:=1+((ks.take k).map (ak7 d)).sum
theorem cn2(d:Nat)(ks:List c6):cnP d ks 0=1:=rfl
theorem bh0{d:Nat}{ks:List c6}{k:Nat}(hk:k<ks.length):cnP d ks (k+1)=cnP d ks k+ak7 d (ks.getD k cv2):=by
 unfold cnP
 rw[D6 ks k hk,List.map_append,List.sum_append,n7 hk]
 simp;omega
theorem b13{d:Nat}{e:c6}{k:Nat}(hk:e.kids.length<=k):cnP d e.kids k=ak7 (d+1) e:=by
 unfold cnP;rw[cw7 hk,ak7]
section
variable{nv na d:Nat}{e:c6}
theorem bp9(he:i5 nv na (d+1) e=true){k:Nat}(hk:k<e.kids.length):i5 nv na d (e.kids.getD k cv2)=true:=by
 rw[n7 hk];exact(av1 he).2 _ (cx9 hk)
theorem cn1(hd:d<=5)(he:i5 nv na d e=true):ak7 d e<=1024:=by
 rw[bg9 nv na d e he]
 refine cx8 (bJ5 nv na d e he) ?_
 exact cx8 (Nat.pow_le_pow_right ak hd) ak
theorem b56(hd:d<=4)(he:i5 nv na (d+1) e=true):∀k:Nat,k<=e.kids.length->cnP d e.kids k<=1+1024*k
 |0,_=>by rw[cn2];omega
 |k+1,hk=>by
  have h:=b56 hd he k al
  have h2:=cn1 al (bp9 he (show k<e.kids.length by omega))
  rw[bh0 al]
  omega
end
abbrev cnC(d:Nat)(e:c6)(n:Int):j8:=Y3 204 [eA e 0,iA n] (eS e) (iA (ak7 d e:Nat))
theorem bB4(nv na d:Nat)(hd:d<=4)(ih:∀(e:c6),i5 nv na d e=true->∀n:Int,n=d->j8.ok Tryz.prog (cnC d e n))(e:c6)(he:i5 nv na (d+1) e=true)(n:Int)(hn:n=(d+1:Nat)):j8.ok Tryz.prog (cnC (d+1) e n):=by
  have hk3:=(av1 he).1;refine H9 29 Tryz.func204 [dE e.kids] [(0,eA e 0),(1,iA n)] fun G=>?_;refine wp_seq (j9 G f8 [0,1] [dE e.kids,.box (eL e 0)] [(1,iA n),(2,.ptr 1 0),(4,iA 0)] fun G=>b6 (wp_seq (l8 G f8 [(5,iA 1)] fun G=>b6 (wp_seq (wp_seq (G3 G f8 [(1,iA n),(2,.ptr 1 0),(4,iA 0),(5,iA 1),(6,iA 0)] fun G=>b6 (wp_block ?_)))))));refine x6 (κ:=Nat) (fun k=>k<=e.kids.length) (fun k=>e.kids.length-k) (fun k=>[dE e.kids,.box (eL e 0)]) (fun k=>[(1,iA n),(2,.ptr 1 0),(4,iA 0),(5,iA (cnP d e.kids k:Nat)),(6,iA k)]) 0 al (x7.at G _ _) ?_;clear G;intro k ρ a w hp G;replace G:=x7.at G [dE e.kids,.box (eL e 0)] [(1,iA n),(2,.ptr 1 0),(4,iA 0),(5,iA (↑(cnP d e.kids k):Int)),(6,iA k)];have hcb:=b56 hd he k hp;refine wp_seq (wp_seq ?_);cases h0:(decide ((k:Int)<e.kids.length))
  · have q0:=dFf h0;refine l8 G (K6 (fc h0 fz) [(6,0),(7,0),(1008,0)]) [(15,bA false)] fun G=>b6 (rF G false aj (wp_exit (v8 (v8 (v6 (b6 (wp_seq (j9 G f8 [0] [dE e.kids] [(4,iA (↑(cnP d e.kids k):Int))] fun G=>b6 (wp_ret ?_)))))))));exact rxI ((↑(cnP d e.kids k):Int)) G [0] (by rw[<-b13 (k:=k) al];done)
  have q0:=dTt h0;refine G3 G (K6 (fc h0 fz) [(6,0),(7,0),(1008,0)]) [(1,iA n),(2,.ptr 1 0),(4,iA 0),(5,iA (↑(cnP d e.kids k):Int)),(6,iA k),(15,bA (decide (n>0)))] fun G=>b6 ?_;cases h1:(decide (n>0))
  · have q1:=dFf h1;exact False.elim al
  have q1:=dTt h1;refine rT G _ h1 (wp_skip (b6 (wp_seq (wp_block (P4 G (w6 8 [42] (ih (e.kids.getD k cv2) (bp9 he al) (n-1) al)) [(5,iA ((↑(cnP d e.kids k):Int)+(↑(ak7 d (e.kids.getD k cv2)):Int)))] (iX k k e.kids.length ((wO (n-1))::((wO ((↑(cnP d e.kids k):Int)+(↑(ak7 d (e.kids.getD k cv2)):Int)))::[]))) (iK al ⟨oW al,⟨(by have h9:=cn1 (nv:=nv) (na:=na) (d:=d) al (bp9 he (show k<e.kids.length by omega));exact w64 al al),cx2⟩⟩) fun G=>p8 (b6 (P4 G f8 [(6,iA ((k:Int)+1))] [wO ((k:Int)+1)] (o1 al) fun G=>b6 ?_)))))));exact U5 G (k+1) al al [0,1] (ht:=by have e1:((↑(cnP d e.kids (k+1)):Int):Int)=((↑(cnP d e.kids k):Int)+(↑(ak7 d (e.kids.getD k cv2)):Int)):=(by rw[bh0 al];omega);(first|rw[e1]|simp only[e1])<;>rfl)
theorem bd9(nv na:Nat):∀(d:Nat),d<=5->∀(e:c6),i5 nv na d e=true->∀n:Int,n=d->j8.ok Tryz.prog (cnC d e n)
 |0,_,e,h,_,_=>by simp[i5]at h
 |d+1,hd,e,h,n,hn=>bB4 nv na d al (bd9 nv na d al) e h n hn
theorem br8(nv na:Nat)(ky vy:Int)(ks:List c6)(n:Int)(hn:n=5)(h:i5 nv na 5 ⟨ky,vy,ks⟩=true):j8.ok Tryz.prog (Y3 204 [.agg [iA ky,iA vy,.ref 0],iA n] [dE ks] (iA (ak7 5 ⟨ky,vy,ks⟩:Nat))):=bd9 nv na 5 al ⟨ky,vy,ks⟩ h n hn
theorem cq2{nv na:Nat}{e:c6}(h:i5 nv na 5 ⟨e.kind,e.value,e.kids⟩=false):t4 nv na e=false:=by
 rw[c6.eta]at h
 unfold t4;rw[h];rfl
theorem cq1{nv na:Nat}{e:c6}(h:i5 nv na 5 ⟨e.kind,e.value,e.kids⟩=true):t4 nv na e=decide ((ak7 5 ⟨e.kind,e.value,e.kids⟩:Int)<=15):=by
 rw[c6.eta]at h ⊢
 rw[bm3,h,Bool.true_and,cz0]
 simp only[decide_eq_true_eq];omega
section
variable{s:c5}
theorem cq9(h:s.kind=4)(h2:¬(s.els.length:Int)=0):s6 s=false:=by
 unfold s6;rw[if_pos (.inr h),if_pos h,decide_eq_false (p:=s.els.length=0) al];simp
theorem cr2(h:s.kind=4)(h1:s.target=0)(h2:(s.els.length:Int)=0)(h3:s.count>=1)(h4:s.count<=3)(h5:noneB s.index=true):s6 s=noneB s.value:=by
 unfold s6;rw[if_pos (.inr h),if_pos h,decide_eq_true (p:=s.els.length=0) al,decide_eq_true h1,decide_eq_true (p:=1<=s.count) h3,decide_eq_true h4,h5];simp
theorem cr1(h3:¬s.kind=3)(h4:¬s.kind=4)(b:¬(s.body.length:Int)>0)(e:¬(s.els.length:Int)>0)(c:s.count=0)(h2:¬s.kind=2):s6 s=noneB s.index:=by
 unfold s6;rw[if_neg al,decide_eq_true (p:=s.body.length=0) al,decide_eq_true (p:=s.els.length=0) al,decide_eq_true c,decide_eq_false h2];simp
theorem cr0(b:¬(s.body.length:Int)>0)(e:¬(s.els.length:Int)>0)(c:s.count=0)(h2:s.kind=2):s6 s=true:=by
 unfold s6;rw[if_neg al,decide_eq_true (p:=s.body.length=0) al,decide_eq_true (p:=s.els.length=0) al,decide_eq_true c,decide_eq_true h2];simp
theorem cq8(h3:¬s.kind=3)(h4:¬s.kind=4)(e:(s.els.length:Int)>0):s6 s=false:=by
 unfold s6;rw[if_neg al,decide_eq_false (p:=s.els.length=0) al];simp
theorem cq7(h3:¬s.kind=3)(h4:¬s.kind=4)(e:(s.body.length:Int)>0):s6 s=false:=by
 unfold s6;rw[if_neg al,decide_eq_false (p:=s.body.length=0) al];simp
end
theorem L7(p:f7)(e:c6):j8.ok Tryz.prog (Y3 193 [pA 0,eA e 3] (pS p++eS e) (bA (t4 p.vars.length p.arrays.length e))):=by
 have hcn:=fun h=>br8 p.vars.length p.arrays.length e.kind e.value e.kids 5 rfl h
 refine H9 13 Tryz.func193 [dI p.vars,dI p.arrays,dT p.body,dE e.kids] [(0,pA 0),(1,eA e 3)] fun G=>?_;refine wp_seq (j9 G f8 [0,1,2,3,4,12] [dI p.vars,dI p.arrays,dT p.body,dE e.kids,.box (pL 0),.box (eL e 3)] [(2,.ptr 4 0),(3,.ptr 5 0),(4,bA false)] fun G=>b6 (wp_seq ?_));cases h0:(i5 p.vars.length p.arrays.length (5:Nat) (z4 e))
 ·refine j9 G (I2 (v9 2 (rg 4) (aT0 p.vars p.arrays p.body e.kind e.value e.kids 5 aj) I1) (fc h0 fz) [(4,0),(5,0),(6,0),(1007,0)]) (rg 4) [dI p.vars,dI p.arrays,dT p.body,dE e.kids] [(4,bA false)] fun G=>b6 (wp_ret ?_);exact M5 false G (rg 4) (cq2 ab)
 refine j9 G (I2 (v9 2 (rg 4) (aT0 p.vars p.arrays p.body e.kind e.value e.kids 5 aj) (v9 5 [3] (hcn ai) I1)) (fc h0 fz) [(4,0),(5,0),(6,0),(1007,0)]) (rg 4) [dI p.vars,dI p.arrays,dT p.body,dE e.kids] [(4,bA (decide ((↑(ak7 5 (z4 e)):Int)<=15)))] fun G=>b6 (wp_ret ?_);exact M5 (decide ((↑(ak7 5 (z4 e)):Int)<=15)) G (rg 4) (cq1 ab)
abbrev aJ9(s:c5)(r0:List It):List It:=dE s.index.kids::dE s.value.kids::dT s.body::dT s.els::r0
theorem bF8(s:c5):j8.ok Tryz.prog (Y3 192 [sA s 0] (sS s) (bA (s6 s))):=by
  refine H9 74 Tryz.func192 (aJ9 s []) [(0,sA s 0)] fun G=>?_;refine wp_seq (j9 G f8 (rg 5) (aJ9 s [.box (sL s 0)]) [(1,.ptr 4 0),(2,bA false)] fun G=>b6 (wp_seq ?_));cases h0:(s.kind==3)
  ·
   have q0:=ne_of_beq_false h0;refine G3 G (K6 (fc h0 fz) [(4,0),(5,0),(6,0),(1007,0)]) [(1,.ptr 4 0),(2,bA false),(3,bA (s.kind==4))] fun G=>b6 (wp_seq (wp_seq ?_));cases h1:(!s.kind==4)
   ·
    have q1:s.kind=4:=(fun hq=>eq_of_beq hq) (Eq.mp (cy2 _) h1);cases h2:(s.kind==4)
    · have q2:=ne_of_beq_false h2;exact False.elim al
    have q2:=eq_of_beq h2;refine l8 G (K6 (fc h1 (fc (b:=false) rfl (fc h2 fz))) (us [(3,7,0),(12,12,0),(1013,1013,0),(15,16,1),(17,19,2),(20,20,1),(1020,1020,2),(1021,1021,1)])) [(33,bA (s.target !=0))] fun G=>b6 (rcN G (fun h3 q3=>?_) fun h3 q3=>?_)
    ·
     refine wp_skip (b6 (wp_seq (wp_seq (l8 G f8 [(36,bA (s.kind==4))] fun G=>b6 (rT G _ h2 (wp_seq ?_))))));cases h4:((s.els.length:Int)==0)
     · have q4:=ne_of_beq_false h4;refine l8 G (K6 (fc h4 (fc (b:=false) rfl fz)) (us [(5,7,0),(1008,1008,0),(10,12,1),(1013,1013,1),(15,17,1),(1018,1018,1),(20,22,1),(1023,1023,1)])) [] fun G=>b6 (wp_ret (l7 ?_));exact M5 false G (rg 4) (cq9 al al)
     have q4:=eq_of_beq h4;cases h5:(decide (s.count>=1))
     · have q5:=dFf h5;refine l8 G (K6 (fc h4 (fc h5 (fc (b:=false) rfl fz))) (us [(5,7,0),(1008,1008,0),(10,12,1),(1013,1013,1),(15,17,2),(1018,1018,2),(20,22,2),(1023,1023,2)])) [] fun G=>b6 (wp_ret (l7 ?_));exact M5 false G (rg 4) (by rw[cz0];simp[s6,h0,q0,h1,q1,h2,q2,h3,q3,h4,q4,h5,q5];done)
     have q5:=dTt h5;cases h6:(decide (s.count<=3))
     · have q6:=dFf h6;refine l8 G (K6 (fc h4 (fc h5 (fc h6 (fc (b:=false) rfl fz)))) (us [(5,7,0),(1008,1008,0),(10,12,1),(1013,1013,1),(15,17,2),(1018,1018,2),(20,22,3),(1023,1023,3)])) [] fun G=>b6 (wp_ret (l7 ?_));exact M5 false G (rg 4) (by rw[cz0];simp[s6,h0,q0,h1,q1,h2,q2,h3,q3,h4,q4,h5,q5,h6,q6];done)
     have q6:=dTt h6;cases h7:(noneB s.index)
     · refine l8 G (I2 (v9 17 [0] (ao2 s.index) I1) (fc h4 (fc h5 (fc h6 (fc h7 fz)))) (us [(5,7,0),(1008,1008,0),(10,12,1),(1013,1013,1),(15,17,2),(1018,1018,2),(20,22,3),(1023,1023,3)])) [] fun G=>b6 (wp_ret (l7 ?_));exact M5 false G (rg 4) (by rw[cz0];simp[s6,h0,q0,h1,q1,h2,q2,h3,q3,h4,q4,h5,q5,h6,q6,h7];done)
     refine l8 G (I2 (v9 17 [0] (ao2 s.index) (v9 22 [1] (ao2 s.value) I1)) (fc h4 (fc h5 (fc h6 (fc h7 fz)))) (us [(5,7,0),(1008,1008,0),(10,12,1),(1013,1013,1),(15,17,2),(1018,1018,2),(20,22,3),(1023,1023,3)])) [(2,bA (noneB s.value))] fun G=>b6 (wp_ret (l7 ?_));exact M5 (noneB s.value) G (rg 4) (cr2 al al al al al ab)
    refine wp_seq (l8 G f8 [] fun G=>b6 (wp_ret (l7 ?_)));exact M5 false G (rg 4) (by rw[cz0];simp[s6,h0,q0,h1,q1,h2,q2,h3,q3];done)
   have q1:¬(s.kind=4):=(fun hq=>ne_of_beq_false hq) (Eq.mp (cy0 _) h1);cases h8:(decide ((s.body.length:Int)>0))
   ·
    have q8:=dFf h8;cases h9:(decide ((s.els.length:Int)>0))
    ·
     have q9:=dFf h9;cases h10:(s.kind==4)
     ·
      have q10:=ne_of_beq_false h10;refine l8 G (K6 (fc h1 (fc h8 (fc h9 (fc h10 fz)))) (us [(3,7,0),(8,11,1),(12,12,0),(1012,1012,1),(1013,1013,0),(15,16,2),(17,19,3),(20,20,2),(1020,1020,3),(1021,1021,2)])) [(33,bA false)] fun G=>b6 (rF G false aj (wp_skip (b6 (wp_seq (wp_seq (l8 G f8 [(36,bA (s.kind==4))] fun G=>b6 (rF G _ h10 (wp_skip (b6 (wp_seq ?_))))))))));cases h11:(s.count==0)
      · have q11:=ne_of_beq_false h11;refine j9 G (K6 (fc h11 fz) (us [(4,7,0),(11,11,0),(1012,1012,0)])) (rg 4) (aJ9 s []) [(2,bA false)] fun G=>b6 (wp_ret ?_);exact M5 false G (rg 4) (by rw[cz0];simp[s6,h0,q0,h1,q1,h8,q8,h9,q9,h10,q10,h11,q11];done)
      have q11:=eq_of_beq h11;cases h12:(s.kind==2)
      · have q12:=ne_of_beq_false h12;refine j9 G (I2 (v9 10 [0] (ao2 s.index) I1) (fc h11 (fc h12 fz)) (us [(4,7,0),(8,10,1),(11,11,0),(1011,1011,1),(1012,1012,0)])) (rg 4) (aJ9 s []) [(2,bA (noneB s.index))] fun G=>b6 (wp_ret ?_);exact M5 (noneB s.index) G (rg 4) (cr1 al al al al al al)
      have q12:=eq_of_beq h12;refine j9 G (K6 (fc h11 (fc h12 fz)) (us [(4,7,0),(8,10,1),(11,11,0),(1011,1011,1),(1012,1012,0)])) (rg 4) (aJ9 s []) [(2,bA true)] fun G=>b6 (wp_ret ?_);exact M5 true G (rg 4) (cr0 al al al al)
     have q10:=eq_of_beq h10;exact False.elim al
    have q9:=dTt h9;refine l8 G (K6 (fc h1 (fc h8 (fc h9 fz))) (us [(3,7,0),(8,11,1),(12,12,0),(1012,1012,1),(1013,1013,0),(15,16,2),(20,20,2),(1021,1021,2)])) [(33,bA true)] fun G=>b6 (rT G true aj (wp_seq (l8 G f8 [] fun G=>b6 (wp_ret (l7 ?_)))));exact M5 false G (rg 4) (cq8 al al al)
   have q8:=dTt h8;refine l8 G (K6 (fc h1 (fc h8 (fc (b:=true) rfl fz))) (us [(3,7,0),(8,11,1),(12,12,0),(1012,1012,1),(1013,1013,0),(15,16,2),(20,20,2),(1021,1021,2)])) [(33,bA true)] fun G=>b6 (rT G true aj (wp_seq (l8 G f8 [] fun G=>b6 (wp_ret (l7 ?_)))));exact M5 false G (rg 4) (cq7 al al al)
  have q0:=eq_of_beq h0;refine l8 G (K6 (fc h0 fz) [(4,0),(5,0),(6,0),(1007,0)]) [(3,bA true)] fun G=>b6 (wp_seq (wp_seq (l8 G (K6 (fc (b:=false) rfl (fc (b:=true) rfl fz)) (us [(3,7,0),(12,12,0),(1013,1013,0),(15,16,0),(17,19,1),(20,20,0),(1020,1020,1),(1021,1021,0)])) [(33,bA (s.target !=0))] fun G=>b6 (rcN G (fun h13 q13=>?_) fun h13 q13=>?_))))
  ·
   refine wp_skip (b6 (wp_seq (wp_seq (G3 G f8 [(1,.ptr 4 0),(2,bA false),(36,bA (s.kind==4))] fun G=>b6 ?_))));cases h14:(s.kind==4)
   ·
    have q14:=ne_of_beq_false h14;refine rF G _ h14 (wp_skip (b6 (wp_seq ?_)));cases h15:(s.count==0)
    · have q15:=ne_of_beq_false h15;refine j9 G (K6 (fc h15 fz) (us [(4,7,0),(11,11,0),(1012,1012,0)])) (rg 4) (aJ9 s []) [(2,bA false)] fun G=>b6 (wp_ret ?_);exact M5 false G (rg 4) (by rw[cz0];simp[s6,h0,q0,h13,q13,h14,q14,h15,q15];done)
    have q15:=eq_of_beq h15;cases h16:(s.kind==2)
    · have q16:=ne_of_beq_false h16;refine j9 G (I2 (v9 10 [0] (ao2 s.index) I1) (fc h15 (fc h16 fz)) (us [(4,7,0),(8,10,1),(11,11,0),(1011,1011,1),(1012,1012,0)])) (rg 4) (aJ9 s []) [(2,bA (noneB s.index))] fun G=>b6 (wp_ret ?_);exact M5 (noneB s.index) G (rg 4) (by rw[cz0];simp[s6,h0,q0,h13,q13,h14,q14,h15,q15,h16,q16];done)
    have q16:=eq_of_beq h16;exact False.elim al
   have q14:=eq_of_beq h14;exact False.elim al
  refine wp_seq (l8 G f8 [] fun G=>b6 (wp_ret (l7 ?_)));exact M5 false G (rg 4) (by rw[cz0];simp[s6,h0,q0,h13,q13];done)
abbrev vbC(p:f7)(d:Nat)(ss:List c5)(n:Int):j8:=Y3 143 [pA 0,.ref 3,iA n] (pS p++[dT ss]) (bA (ss.all (j5 p.vars.length p.arrays.length d)))
abbrev vsC(p:f7)(d:Nat)(s:c5)(n:Int):j8:=Y3 181 [pA 0,sA s 3,iA n] (pS p++sS s) (bA (j5 p.vars.length p.arrays.length d s))
theorem bB3(p:f7)(s:c5)(n:Int)(hn:n=0):j8.ok Tryz.prog (vsC p 0 s n):=by
 refine H9 96 Tryz.func181 [dI p.vars,dI p.arrays,dT p.body,dE s.index.kids,dE s.value.kids,dT s.body,dT s.els] [(0,pA 0),(1,sA s 3),(2,iA n)] fun G=>?_;refine wp_seq (j9 G f8 [0,1,2,3,4,5,6,7,15] [dI p.vars,dI p.arrays,dT p.body,dE s.index.kids,dE s.value.kids,dT s.body,dT s.els,.box (pL 0),.box (sL s 3)] [(2,iA n),(3,.ptr 7 0),(4,.ptr 8 0),(6,bA false)] fun G=>b6 (wp_seq (wp_seq ?_)));cases h0:(decide (n<1))
 ·have q0:=dFf h0;exact False.elim al
 have q0:=dTt h0;refine l8 G (K6 (fc h0 fz) [(3,0),(4,0),(5,0),(1006,0)]) [(13,bA true)] fun G=>b6 (rT G true aj (wp_seq (l8 G f8 [] fun G=>b6 (wp_ret (l7 ?_)))));exact O8 G (rg 7)
section
variable{nv na d:Nat}{s:c5}
theorem cp7(h:s6 s=false):j5 nv na (d+1) s=false:=by rw[j5,h];rfl
theorem b73(hp:s6 s=true)(h:s.kind=1\/s.kind=5):j5 nv na (d+1) s=(decide (0<=s.target)&&decide (s.target<nv)&&t4 nv na s.value):=by rw[j5,hp,if_pos h];rfl
theorem bJ2(hp:s6 s=true)(h:s.kind=2):j5 nv na (d+1) s=(decide (0<=s.target)&&decide (s.target<na)&&t4 nv na s.index&&atomB s.index&&t4 nv na s.value):=by rw[j5,hp,if_neg al,if_pos h];rfl
theorem b72(hp:s6 s=true)(h:s.kind=3):j5 nv na (d+1) s=(t4 nv na s.value&&s.body.all (j5 nv na d)&&s.els.all (j5 nv na d)):=by rw[j5,hp,if_neg al,if_neg al,if_pos h];rfl
theorem cp8(hp:s6 s=true)(h:s.kind=4):j5 nv na (d+1) s=s.body.all (j5 nv na d):=by rw[j5,hp,if_neg al,if_neg al,if_neg al,if_pos h];rfl
theorem b43(hp:s6 s=true)(h:s.kind=1\/s.kind=5)(q:¬s.target>=0):j5 nv na (d+1) s=false:=by rw[b73 hp h,decide_eq_false (p:=0<=s.target) q];rfl
theorem b42(hp:s6 s=true)(h:s.kind=1\/s.kind=5)(q:¬s.target<(nv:Int)):j5 nv na (d+1) s=false:=by rw[b73 hp h,decide_eq_false q,Bool.and_false];rfl
theorem b41(hp:s6 s=true)(h:s.kind=1\/s.kind=5)(q:s.target>=0)(r:s.target<(nv:Int)):j5 nv na (d+1) s=t4 nv na s.value:=by rw[b73 hp h,decide_eq_true (p:=0<=s.target) q,decide_eq_true r];rfl
theorem ch0(hp:s6 s=true)(h:s.kind=2)(q:¬s.target>=0):j5 nv na (d+1) s=false:=by rw[bJ2 hp h,decide_eq_false (p:=0<=s.target) q];rfl
theorem cg9(hp:s6 s=true)(h:s.kind=2)(q:¬s.target<(na:Int)):j5 nv na (d+1) s=false:=by rw[bJ2 hp h,decide_eq_false q,Bool.and_false];rfl
theorem cg8(hp:s6 s=true)(h:s.kind=2)(q:t4 nv na s.index=false):j5 nv na (d+1) s=false:=by rw[bJ2 hp h,q,Bool.and_false];rfl
theorem cg7(hp:s6 s=true)(h:s.kind=2)(q:atomB s.index=false):j5 nv na (d+1) s=false:=by rw[bJ2 hp h,q,Bool.and_false];rfl
theorem cg6(hp:s6 s=true)(h:s.kind=2)(q:s.target>=0)(r:s.target<(na:Int))(u:t4 nv na s.index=true)(v:atomB s.index=true):j5 nv na (d+1) s=t4 nv na s.value:=by rw[bJ2 hp h,decide_eq_true (p:=0<=s.target) q,decide_eq_true r,u,v];rfl
theorem cg5(hp:s6 s=true)(h:s.kind=3)(q:t4 nv na s.value=false):j5 nv na (d+1) s=false:=by rw[b72 hp h,q];rfl
theorem cg4(hp:s6 s=true)(h:s.kind=3)(q:s.body.all (j5 nv na d)=false):j5 nv na (d+1) s=false:=by rw[b72 hp h,q,Bool.and_false];rfl
theorem cg3(hp:s6 s=true)(h:s.kind=3)(q:t4 nv na s.value=true)(r:s.body.all (j5 nv na d)=true):j5 nv na (d+1) s=s.els.all (j5 nv na d):=by rw[b72 hp h,q,r];rfl
theorem cp9(h1:¬s.kind=1)(h2:¬s.kind=2)(h3:¬s.kind=3)(h4:¬s.kind=4)(h5:¬s.kind=5):j5 nv na (d+1) s=false:=by rw[j5,if_neg al,if_neg h2,if_neg h3,if_neg h4];simp
end
abbrev U3(p:f7)(s:c5)(r0:List It):List It:=dI p.vars::dI p.arrays::dT p.body::dE s.index.kids::dE s.value.kids::dT s.body::dT s.els::r0
theorem bK1(p:f7)(d:Nat)(hB:∀(ss:List c5) (n:Int),n=d->j8.ok Tryz.prog (vbC p d ss n))(s:c5)(n:Int)(hn:n=(d+1:Nat))(hd:d<=5):j8.ok Tryz.prog (vsC p (d+1) s n):=by
  refine H9 96 Tryz.func181 (U3 p s []) [(0,pA 0),(1,sA s 3),(2,iA n)] fun G=>?_;refine wp_seq (j9 G f8 [0,1,2,3,4,5,6,7,15] (U3 p s [.box (pL 0),.box (sL s 3)]) [(2,iA n),(3,.ptr 7 0),(4,.ptr 8 0),(6,bA false)] fun G=>b6 (wp_seq (wp_seq ?_)));cases h0:(decide (n<1))
  ·
   have q0:=dFf h0;refine l8 G (I2 (v9 4 [3,4,5,6] (bF8 s) I1) (fc h0 fz) [(3,0),(4,0),(5,0),(1006,0)]) [(13,.v (.bool !s6 s))] fun G=>b6 ?_;cases h1:(!s6 s)
   ·
    have q1:(s6 s)=true:=(Eq.mp (cy2 _) h1);refine rF G _ h1 (wp_skip (b6 (wp_seq (wp_seq (l8 G f8 [(15,iA s.kind)] fun G=>b6 (wp_block (wp_seq (wp_seq (l8 G f8 [(16,bA (s.kind==1))] fun G=>b6 (S4 G (fun h2 q2=>?_) fun h2 q2=>?_))))))))))
    ·
     refine l8 G f8 [(16,bA (s.kind==5))] fun G=>b6 (S4 G (fun h3 q3=>?_) fun h3 q3=>?_)
     ·
      refine wp_seq (l8 G f8 [(36,bA (s.kind==2))] fun G=>b6 (S4 G (fun h4 q4=>?_) fun h4 q4=>?_))
      ·
       refine wp_seq (l8 G f8 [(66,bA (s.kind==3))] fun G=>b6 (S4 G (fun h5 q5=>?_) fun h5 q5=>?_))
       ·
        refine wp_seq (l8 G f8 [(88,bA (s.kind==4))] fun G=>b6 (S4 G (fun h6 q6=>?_) fun h6 q6=>?_))
        · refine wp_skip (p8 (b6 (wp_seq (j9 G f8 (rg 7) (U3 p s []) [(6,bA false)] fun G=>b6 (wp_ret ?_)))));exact M5 false G (rg 7) (cp9 al al al al al)
        refine wp_seq (rA1 G (w6 5 [0,1,2,5] (hB s.body (n-1) al)) (rg 7) (U3 p s []) [(6,bA (s.body.all (j5 p.vars.length p.arrays.length d)))] [wO (n-1)] (o1 al) fun G=>b6 (wp_ret (B7 (l7 ?_))));exact M5 (s.body.all (j5 p.vars.length p.arrays.length d)) G (rg 7) (cp8 ab al)
       refine wp_seq ?_;cases h7:(t4 p.vars.length p.arrays.length s.value)
       · refine j9 G (I2 (v9 3 [0,1,2,4] (L7 p s.value) I1) (fc h7 (fc (b:=false) rfl fz)) (us [(5,10,0),(1011,1011,0),(13,18,1),(1019,1019,1)])) (rg 7) (U3 p s []) [(6,bA false)] fun G=>b6 (wp_ret (B7 (l7 ?_)));exact M5 false G (rg 7) (cg5 ab al ab)
       cases h8:(s.body.all (j5 p.vars.length p.arrays.length d))
       · refine rA1 G (I2 (v9 3 [0,1,2,4] (L7 p s.value) (v9 10 [0,1,2,5] (hB s.body (n-1) al) I1)) (fc h7 (fc h8 fz)) (us [(5,10,0),(1011,1011,0),(13,18,1),(1019,1019,1)])) (rg 7) (U3 p s []) [(6,bA false)] [wO (n-1)] (o1 al) fun G=>b6 (wp_ret (B7 (l7 ?_)));exact M5 false G (rg 7) (cg4 ab al ab)
       refine rA1 G (I2 (v9 3 [0,1,2,4] (L7 p s.value) (v9 10 [0,1,2,5] (hB s.body (n-1) al) (v9 18 [0,1,2,6] (hB s.els (n-1) al) I1))) (fc h7 (fc h8 fz)) (us [(5,10,0),(1011,1011,0),(13,18,1),(1019,1019,1)])) (rg 7) (U3 p s []) [(6,bA (s.els.all (j5 p.vars.length p.arrays.length d)))] [wO (n-1),wO (n-1)] (o2 al) fun G=>b6 (wp_ret (B7 (l7 ?_)));exact M5 (s.els.all (j5 p.vars.length p.arrays.length d)) G (rg 7) (cg3 ab al ab ab)
      refine wp_seq ?_;cases h9:(decide (s.target>=0))
      · have q9:=dFf h9;refine j9 G (K6 (fc h9 (fc (b:=false) rfl fz)) (us [(4,9,0),(1010,1010,0),(12,15,1),(1016,1016,1),(18,20,1),(1021,1021,1),(23,26,1),(1027,1027,1)])) (rg 7) (U3 p s []) [(6,bA false)] fun G=>b6 (wp_ret (B7 (l7 ?_)));exact M5 false G (rg 7) (ch0 ab al al)
      have q9:=dTt h9;cases h10:(decide (s.target<(p.arrays.length:Int)))
      · have q10:=dFf h10;refine j9 G (K6 (fc h9 (fc h10 (fc (b:=false) rfl fz))) (us [(4,9,0),(1010,1010,0),(12,15,1),(1016,1016,1),(18,20,2),(1021,1021,2),(23,26,2),(1027,1027,2)])) (rg 7) (U3 p s []) [(6,bA false)] fun G=>b6 (wp_ret (B7 (l7 ?_)));exact M5 false G (rg 7) (cg9 ab al al)
      have q10:=dTt h10;cases h11:(t4 p.vars.length p.arrays.length s.index)
      · refine j9 G (I2 (v9 15 (rg 4) (L7 p s.index) I1) (fc h9 (fc h10 (fc h11 (fc (b:=false) rfl fz)))) (us [(4,9,0),(1010,1010,0),(12,15,1),(1016,1016,1),(18,20,2),(1021,1021,2),(23,26,3),(1027,1027,3)])) (rg 7) (U3 p s []) [(6,bA false)] fun G=>b6 (wp_ret (B7 (l7 ?_)));exact M5 false G (rg 7) (cg8 ab al ab)
      cases h12:(atomB s.index)
      · refine j9 G (I2 (v9 15 (rg 4) (L7 p s.index) (v9 20 [3] (aT1 s.index) I1)) (fc h9 (fc h10 (fc h11 (fc h12 fz)))) (us [(4,9,0),(1010,1010,0),(12,15,1),(1016,1016,1),(18,20,2),(1021,1021,2),(23,26,3),(1027,1027,3)])) (rg 7) (U3 p s []) [(6,bA false)] fun G=>b6 (wp_ret (B7 (l7 ?_)));exact M5 false G (rg 7) (cg7 ab al ab)
      refine j9 G (I2 (v9 15 (rg 4) (L7 p s.index) (v9 20 [3] (aT1 s.index) (v9 26 [0,1,2,4] (L7 p s.value) I1))) (fc h9 (fc h10 (fc h11 (fc h12 fz)))) (us [(4,9,0),(1010,1010,0),(12,15,1),(1016,1016,1),(18,20,2),(1021,1021,2),(23,26,3),(1027,1027,3)])) (rg 7) (U3 p s []) [(6,bA (t4 p.vars.length p.arrays.length s.value))] fun G=>b6 (wp_ret (B7 (l7 ?_)));exact M5 (t4 p.vars.length p.arrays.length s.value) G (rg 7) (cg6 ab al al al ab ab)
     refine wp_seq ?_;cases h13:(decide (s.target>=0))
     · have q13:=dFf h13;refine j9 G (K6 (fc h13 (fc (b:=false) rfl fz)) (us [(4,9,0),(1010,1010,0),(12,15,1),(1016,1016,1)])) (rg 7) (U3 p s []) [(6,bA false)] fun G=>b6 (wp_ret (B7 (l7 ?_)));exact M5 false G (rg 7) (b43 ab al al)
     have q13:=dTt h13;cases h14:(decide (s.target<(p.vars.length:Int)))
     · have q14:=dFf h14;refine j9 G (K6 (fc h13 (fc h14 fz)) (us [(4,9,0),(1010,1010,0),(12,15,1),(1016,1016,1)])) (rg 7) (U3 p s []) [(6,bA false)] fun G=>b6 (wp_ret (B7 (l7 ?_)));exact M5 false G (rg 7) (b42 ab al al)
     have q14:=dTt h14;refine j9 G (I2 (v9 15 [0,1,2,4] (L7 p s.value) I1) (fc h13 (fc h14 fz)) (us [(4,9,0),(1010,1010,0),(12,15,1),(1016,1016,1)])) (rg 7) (U3 p s []) [(6,bA (t4 p.vars.length p.arrays.length s.value))] fun G=>b6 (wp_ret (B7 (l7 ?_)));exact M5 (t4 p.vars.length p.arrays.length s.value) G (rg 7) (b41 ab al al al)
    refine wp_skip (b6 (rT G _ h2 (wp_seq ?_)));cases h15:(decide (s.target>=0))
    · have q15:=dFf h15;refine j9 G (K6 (fc h15 (fc (b:=false) rfl fz)) (us [(4,9,0),(1010,1010,0),(12,15,1),(1016,1016,1)])) (rg 7) (U3 p s []) [(6,bA false)] fun G=>b6 (wp_ret (B7 (l7 ?_)));exact M5 false G (rg 7) (b43 ab al al)
    have q15:=dTt h15;cases h16:(decide (s.target<(p.vars.length:Int)))
    · have q16:=dFf h16;refine j9 G (K6 (fc h15 (fc h16 fz)) (us [(4,9,0),(1010,1010,0),(12,15,1),(1016,1016,1)])) (rg 7) (U3 p s []) [(6,bA false)] fun G=>b6 (wp_ret (B7 (l7 ?_)));exact M5 false G (rg 7) (b42 ab al al)
    have q16:=dTt h16;refine j9 G (I2 (v9 15 [0,1,2,4] (L7 p s.value) I1) (fc h15 (fc h16 fz)) (us [(4,9,0),(1010,1010,0),(12,15,1),(1016,1016,1)])) (rg 7) (U3 p s []) [(6,bA (t4 p.vars.length p.arrays.length s.value))] fun G=>b6 (wp_ret (B7 (l7 ?_)));exact M5 (t4 p.vars.length p.arrays.length s.value) G (rg 7) (b41 ab al al al)
   have q1:(s6 s)=false:=(Eq.mp (cy0 _) h1);refine rT G _ h1 (wp_seq (l8 G f8 [] fun G=>b6 (wp_ret (l7 ?_))));exact M5 false G (rg 7) (cp7 ab)
  have q0:=dTt h0;exact False.elim al
theorem co4{nv na d:Nat}{ss:List c5}{k:Nat}(hk:k<ss.length)(h:j5 nv na d (ss.getD k cv2)=false):ss.all (j5 nv na d)=false:=by
 rw[n7 hk]at h
 exact ax8 hk h
theorem aX7(p:f7)(d:Nat)(hd:d<=5)(hS:∀(s:c5) (n:Int),n=d->j8.ok Tryz.prog (vsC p d s n))(ss:List c5)(n:Int)(hn:n=d):j8.ok Tryz.prog (vbC p d ss n):=by
  refine H9 22 Tryz.func143 [dI p.vars,dI p.arrays,dT p.body,dT ss] [(0,pA 0),(1,.ref 3),(2,iA n)] fun G=>?_;refine wp_seq (j9 G f8 (rg 5) [dI p.vars,dI p.arrays,dT p.body,dT ss,.box (pL 0)] [(1,.ref 3),(2,iA n),(3,.ptr 4 0),(6,bA false)] fun G=>b6 (wp_seq (wp_seq (G3 G f8 [(1,.ref 3),(2,iA n),(3,.ptr 4 0),(6,bA false),(7,iA 0)] fun G=>b6 (wp_block ?_)))));refine x6 (κ:=Nat) (fun k=>k<=ss.length/\(ss.take k).all (j5 p.vars.length p.arrays.length d)=true) (fun k=>ss.length-k) (fun k=>[dI p.vars,dI p.arrays,dT p.body,dT ss,.box (pL 0)]) (fun k=>[(1,.ref 3),(2,iA n),(3,.ptr 4 0),(6,bA false),(7,iA k)]) 0 an (x7.at G _ _) ?_;clear G;intro k ρ a w hp G;have hlen:ss.length<=9223372036854775807:=G.len 3 (d:=.stmts ss) aj;refine wp_seq (wp_seq (G3 G f8 [(1,.ref 3),(2,iA n),(3,.ptr 4 0),(6,bA false),(7,iA k),(11,bA (decide ((k:Int)<ss.length)))] fun G=>b6 (rcD G (fun h0 q0=>?_) fun h0 q0=>?_)))
  · refine wp_exit (v8 (v8 (v6 (b6 (wp_seq (j9 G f8 (rg 4) [dI p.vars,dI p.arrays,dT p.body,dT ss] [(6,bA true)] fun G=>b6 (wp_ret ?_)))))));exact M5 true G (rg 4) (aT8 hp.2 al)
  refine wp_skip (b6 (wp_seq (wp_block (wp_seq (ak2 G (w6 6 [0,1,2,37,38,39,40] (hS (ss.getD k cv2) n ai)) [0,0,0,6,14,0,63,127] [(21,.v (.bool !j5 p.vars.length p.arrays.length d (ss.getD k cv2)))] (iX k k ss.length []) (iK al cx2) fun G=>b6 ?_)))));cases h1:(!j5 p.vars.length p.arrays.length d (ss.getD k cv2))
  · have q1:(j5 p.vars.length p.arrays.length d (ss.getD k cv2))=true:=(Eq.mp (cy2 _) h1);refine rF G _ h1 (wp_skip (p8 (b6 (P4 G f8 [(7,iA ((k:Int)+1))] [wO ((k:Int)+1)] (o1 al) fun G=>b6 ?_))));exact U5 G (k+1) (⟨al,bj2 hp.2 al ai⟩) al (rg 5)
  have q1:(j5 p.vars.length p.arrays.length d (ss.getD k cv2))=false:=(Eq.mp (cy0 _) h1);refine rT G _ h1 (wp_seq (l8 G f8 [] fun G=>b6 (wp_ret (B7 (l7 (l7 (B7 (l7 ?_))))))));exact M5 false G (rg 4) (co4 (k:=k) al ab)
theorem bx4(p:f7):∀(d:Nat),d<=5->∀(s:c5) (n:Int),n=d->j8.ok Tryz.prog (vsC p d s n)
 |0,_,s,n,hn=>bB3 p s n hn
 |d+1,hd,s,n,hn=>bK1 p d (fun ss n hn=>aX7 p d al (bx4 p d al) ss n hn) s n hn al
theorem bG0(p:f7)(ss:List c5)(n:Int)(hn:n=5):j8.ok Tryz.prog (Y3 143 [pA 0,.ref 3,iA n] (pS p++[.dat (.stmts ss)]) (bA (aj5 p.vars.length p.arrays.length 5 ss))):=
 aX7 p 5 al (bx4 p 5 al) ss n hn
def E6:Nat->List c5->Nat
 |0,ss=>ss.length
 |d+1,ss=>ss.length+(ss.map fun s=>E6 d s.body+E6 d s.els).sum
def szP(d:Nat)(ss:List c5)(k:Nat):Nat:=ss.length+((ss.take k).map fun s=>E6 d s.body+E6 d s.els).sum
theorem bV9(d:Nat)(ss:List c5){k:Nat}(h:ss.length<=k):szP d ss k=E6 (d+1) ss:=by unfold szP;rw[cw7 h,E6]
theorem aM5{d:Nat}{ss:List c5}{k:Nat}(h:k<ss.length):szP d ss (k+1)=szP d ss k+(E6 d (ss.getD k cv2).body+E6 d (ss.getD k cv2).els):=by
 unfold szP
 rw[D6 ss k h,List.map_append,List.sum_append,n7 h]
 simp;omega
theorem bJ3:∀(d:Nat) (ss:List c5),E6 d ss<=i9 ss:=by
 intro d
 induction d with
 |zero=>intro ss;exact N4 ss
 | succ d ih =>
  intro ss
  induction ss with
  |nil=>simp[E6]
  | cons s r ihr =>
   have h1:=ih s.body
   have h2:=ih s.els
   have h3:=aX0 s
   simp only[E6,cy8,List.sum_cons,cw2,i9]at ihr ⊢
   have h4:i9 s.body+i9 s.els<=M8 s:=by
    rcases s with⟨_,_,_,_,_,b,e⟩
    simp only[M8,c5.body,c5.els];omega
   omega
theorem bk7{d:Nat}{ss:List c5}{k:Nat}:szP d ss k<=i9 ss:=by
 refine cx8 ?_ (bJ3 (d+1) ss)
 unfold szP
 rw[E6]
 have:∀(l:List Nat) (k:Nat),(l.take k).sum<=l.sum:=fun l k=>by
  have:=List.sum_append (l₁:=l.take k) (l₂:=l.drop k)
  rw[List.take_append_drop]at this;omega
 have h:=this (ss.map fun s=>E6 d s.body+E6 d s.els) k
 rw[<-List.map_take]at h
 omega
theorem bz4{ss:List c5}{k B:Nat}(h:i9 ss<=B)(hk:k<ss.length):i9 (ss.getD k cv2).body<=B/\i9 (ss.getD k cv2).els<=B:=by
 rw[n7 hk]
 have h1:=ae1 (cx9 hk)
 have h2:=aX0 ss[k]
 omega
theorem bF7(ss:List c5)(n:Int)(hn:n=1)(hb:i9 ss<=1000000000000000000):j8.ok Tryz.prog (Y3 144 [.ref 0,iA n] [.dat (.stmts ss)] (iA (E6 0 ss:Nat))):=by
 have h100:decide (n>1)=false:=ah
 refine H9 39 Tryz.func144 [dT ss] [(0,.ref 0),(1,iA n)] fun G=>?_;refine wp_seq (l8 G f8 [(4,iA 0)] fun G=>b6 (wp_seq (l8 G f8 [(5,iA (ss.length:Int))] fun G=>b6 (wp_seq (wp_seq (G3 G f8 [(0,.ref 0),(1,iA n),(4,iA 0),(5,iA (ss.length:Int)),(6,iA 0)] fun G=>b6 (wp_block ?_)))))));refine x6 (κ:=Nat) (fun k=>k=0) (fun k=>0) (fun k=>[dT ss]) (fun k=>[(0,.ref 0),(1,iA n),(4,iA 0),(5,iA (ss.length:Nat)),(6,iA k)]) 0 aj (x7.at G _ _) ?_;clear G;intro k ρ a w hp G;replace G:=x7.at G [dT ss] [(0,.ref 0),(1,iA n),(4,iA 0),(5,iA (ss.length:Int)),(6,iA k)];refine wp_seq (wp_seq ?_);cases h0:(decide ((k:Int)<ss.length))
 ·have q0:=dFf h0;refine l8 G (K6 (fc h0 fz) [(5,0),(6,0),(1007,0)]) [(16,bA false)] fun G=>b6 (rF G false aj (wp_exit (v8 (v8 (v6 (b6 (wp_seq (l8 G f8 [(4,iA (ss.length:Int))] fun G=>b6 (wp_ret ?_)))))))));exact O8 G [0]
 have q0:=dTt h0;refine l8 G (K6 (fc h0 fz) [(5,0),(6,0),(1007,0)]) [(16,bA (decide (n>1)))] fun G=>b6 (rF G (decide (n>1)) ai (wp_exit (v8 (v8 (v6 (b6 (wp_seq (l8 G f8 [(4,iA (ss.length:Int))] fun G=>b6 (wp_ret ?_)))))))));exact O8 G [0]
theorem bF5(d:Nat)(hd:d<=5)(ih:∀(ss:List c5) (n:Int),n=(d+1:Nat)->i9 ss<=1000000000000000000->j8.ok Tryz.prog (Y3 144 [.ref 0,iA n] [.dat (.stmts ss)] (iA (E6 d ss:Nat))))
  (ss:List c5) (n:Int) (hn:n=(d+2:Nat)) (hb:i9 ss<=1000000000000000000):j8.ok Tryz.prog (Y3 144 [.ref 0,iA n] [.dat (.stmts ss)] (iA (E6 (d+1) ss:Nat))):=by
 have h100:decide (n>1)=true:=ah
 refine H9 39 Tryz.func144 [dT ss] [(0,.ref 0),(1,iA n)] fun G=>?_;refine wp_seq (l8 G f8 [(4,iA 0)] fun G=>b6 (wp_seq (l8 G f8 [(5,iA (ss.length:Int))] fun G=>b6 (wp_seq (wp_seq (G3 G f8 [(0,.ref 0),(1,iA n),(4,iA 0),(5,iA (ss.length:Int)),(6,iA 0)] fun G=>b6 (wp_block ?_)))))));refine x6 (κ:=Nat) (fun k=>k<=ss.length) (fun k=>ss.length-k) (fun k=>[dT ss]) (fun k=>[(0,.ref 0),(1,iA n),(4,iA 0),(5,iA (szP d ss k:Nat)),(6,iA k)]) 0 al (x7.at G _ _) ?_;clear G;intro k ρ a w hp G;replace G:=x7.at G [dT ss] [(0,.ref 0),(1,iA n),(4,iA 0),(5,iA (↑(szP d ss k):Int)),(6,iA k)];have hlen:=N4 ss;refine wp_seq (wp_seq ?_);cases h0:(decide ((k:Int)<ss.length))
 ·have q0:=dFf h0;refine l8 G (K6 (fc h0 fz) [(5,0),(6,0),(1007,0)]) [(16,bA false)] fun G=>b6 (rF G false aj (wp_exit (v8 (v8 (v6 (b6 (wp_seq (l8 G f8 [(4,iA (↑(szP d ss k):Int))] fun G=>b6 (wp_ret ?_)))))))));exact rxI ((↑(szP d ss k):Int)) G [0] (by have h1:=bV9 d ss (k:=k) al;omega)
 have q0:=dTt h0;refine l8 G (K6 (fc h0 fz) [(5,0),(6,0),(1007,0)]) [(16,bA (decide (n>1)))] fun G=>b6 (rT G (decide (n>1)) ai (wp_skip (b6 (wp_seq (wp_block (ak2 G (I2 (v9 8 [41] (ih ((ss.getD k cv2).body) (n-1) al ((bz4 hb al).1)) (v9 17 [113] (ih ((ss.getD k cv2).els) (n-1) al ((bz4 hb al).2)) I1)) fz []) [0,0,0,6,14,30,0,64,254,511,0,0,3072,7168,15360,0,32768,130558,262143,524287] [(5,iA ((↑(szP d ss k):Int)+(↑(E6 d (ss.getD k cv2).body):Int)+(↑(E6 d (ss.getD k cv2).els):Int)))] (iX k k ss.length ((wO (n-1))::((wO ((↑(szP d ss k):Int)+(↑(E6 d (ss.getD k cv2).body):Int)))::(iX k k ss.length ((wO (n-1))::((wO ((↑(szP d ss k):Int)+(↑(E6 d (ss.getD k cv2).body):Int)+(↑(E6 d (ss.getD k cv2).els):Int)))::[])))))) (iK al ⟨oW al,⟨(by have h1:=aM5 (d:=d) (ss:=ss) (k:=k) al;have h2:=bk7 (d:=d) (ss:=ss) (k:=k+1);exact w64 al al),(iK al ⟨oW al,⟨(by have h1:=aM5 (d:=d) (ss:=ss) (k:=k) al;have h2:=bk7 (d:=d) (ss:=ss) (k:=k+1);exact w64 al al),cx2⟩⟩)⟩⟩) fun G=>p8 (b6 (P4 G f8 [(6,iA ((k:Int)+1))] [wO ((k:Int)+1)] (o1 al) fun G=>b6 ?_))))))));exact U5 G (k+1) al al [0] (ht:=by have e1:((↑(szP d ss (k+1)):Int):Int)=((↑(szP d ss k):Int)+(↑(E6 d (ss.getD k cv2).body):Int)+(↑(E6 d (ss.getD k cv2).els):Int)):=(by have h1:=aM5 (d:=d) (ss:=ss) (k:=k) al;have h2:=bk7 (d:=d) (ss:=ss) (k:=k+1);omega);(first|rw[e1]|simp only[e1])<;>rfl)
theorem bF6:∀d,d<=5->∀(ss:List c5) (n:Int),n=(d+1:Nat)->i9 ss<=1000000000000000000->j8.ok Tryz.prog (Y3 144 [.ref 0,iA n] [.dat (.stmts ss)] (iA (E6 d ss:Nat))):=by
 intro d
 induction d with
 |zero=>intro _ ss n hn hb;exact bF7 ss n al hb
 |succ d ih=>intro hd ss n hn hb;exact bF5 d al (fun ss n hn hb=>ih al ss n hn hb) ss n al hb
theorem bT9(ss:List c5)(n:Int)(hn:n=5)(hb:i9 ss<=1000000000000000000):j8.ok Tryz.prog (Y3 144 [.ref 0,iA n] [.dat (.stmts ss)] (iA (E6 4 ss:Nat))):=
 bF6 4 al ss n al hb
theorem bJ4{nv na:Nat}:∀(d:Nat) (ss:List c5),(∀s∈ss,j5 nv na (d+1) s=true)->E6 d ss=Y5 ss:=by
 intro d
 induction d with
 |zero=>intro ss h;rw[bf6 h];rfl
 | succ d ih =>
  intro ss
  induction ss with
  |nil=>intro _;rfl
  |cons s r ihr=>
   intro h
   have h1:=ah8 (h s cz6)
   have h2:=ih s.body fun x hx=>cw3.1 h1.1 x hx
   have h3:=ih s.els fun x hx=>cw3.1 h1.2 x hx
   have h4:=ihr fun x hx=>h x (cz4 _ hx)
   rw[Y5,aB8, <-h2, <-h3, <-h4]
   simp[E6];omega
theorem bc4{p:f7}(h:G2 p.vars p.arrays=false):m6 p=false:=by simp[m6,h]
theorem bc5{p:f7}(h:aj5 p.vars.length p.arrays.length 5 p.body=false):m6 p=false:=by simp[m6,h]
theorem bn0{p:f7}(h1:G2 p.vars p.arrays=true)(h2:aj5 p.vars.length p.arrays.length 5 p.body=true):m6 p=decide ((E6 4 p.body:Int)<=60):=by
 have h3:=bJ4 (nv:=p.vars.length) (na:=p.arrays.length) 4 p.body (fun x hx=>cw3.1 h2 x hx)
 rw[m6,h1,h2,h3]
 simp
 exact⟨fun h=>by omega,fun h=>by omega⟩
theorem bh9(p:f7)(n:Int)(hn:n=5):j8.ok Tryz.prog (Y3 143 [pA 0,.ref 2,iA n] (pS p) (bA (aj5 p.vars.length p.arrays.length 5 p.body))):=
 j8.dup (S:=pS p) (S':=pS p) (d:=.stmts p.body) (i:=2) (bG0 p p.body n hn) rfl rfl rfl (fun ρ h=>by simp only[AV.vals,AV.val];rw[show ρ 3=ρ 2 from h]) rfl
theorem aH5(p:f7)(hb:i9 p.body<=1000000000000000000):j8.ok Tryz.prog (Y3 92 [pA 0] (pS p) (bA (m6 p))):=by
  refine H9 17 Tryz.func92 [dI p.vars,dI p.arrays,dT p.body] [(0,pA 0)] fun G=>?_;refine wp_seq (j9 G f8 (rg 4) [dI p.vars,dI p.arrays,dT p.body,.box (pL 0)] [(1,.ptr 3 0),(2,bA false)] fun G=>b6 (wp_seq ?_));cases h0:(G2 p.vars p.arrays)
  · refine j9 G (I2 (v9 1 [0,1,2] (aD2 p) I1) (fc h0 (fc (b:=false) rfl fz)) (us [(3,6,0),(1007,1007,0),(9,12,1),(1013,1013,1)])) [0,1,2] [dI p.vars,dI p.arrays,dT p.body] [(2,bA false)] fun G=>b6 (wp_ret ?_);exact M5 false G [0,1,2] (bc4 ai)
  cases h1:(aj5 p.vars.length p.arrays.length (5:Nat) p.body)
  · refine j9 G (I2 (v9 1 [0,1,2] (aD2 p) (v9 6 [0,1,2] (bh9 p 5 aj) I1)) (fc h0 (fc h1 fz)) (us [(3,6,0),(1007,1007,0),(9,12,1),(1013,1013,1)])) [0,1,2] [dI p.vars,dI p.arrays,dT p.body] [(2,bA false)] fun G=>b6 (wp_ret ?_);exact M5 false G [0,1,2] (bc5 ai)
  refine j9 G (I2 (v9 1 [0,1,2] (aD2 p) (v9 6 [0,1,2] (bh9 p 5 aj) (v9 11 [2] (bT9 p.body 5 aj ai) I1))) (fc h0 (fc h1 fz)) (us [(3,6,0),(1007,1007,0),(9,12,1),(1013,1013,1)])) [0,1,2] [dI p.vars,dI p.arrays,dT p.body] [(2,bA (decide ((↑(E6 4 p.body):Int)<=60)))] fun G=>b6 (wp_ret ?_);exact M5 (decide ((↑(E6 4 p.body):Int)<=60)) G [0,1,2] (bn0 ai ai)
theorem T7(p:f7)(hb:i9 p.body<=1048576):j8.ok Tryz.prog (Y3 92 [pA 0] (pS p) (bA (m6 p))):=aH5 p al
def F6(nv na:Nat)(s:c5):Bool:=s6 s&&
    (if s.kind=1\/s.kind=5 then decide (0<=s.target)&&decide (s.target<nv)&&t4 nv na s.value
     else if s.kind=2 then decide (0<=s.target)&&decide (s.target<na)&&t4 nv na s.index&&atomB s.index&&t4 nv na s.value
     else if s.kind=3 then t4 nv na s.value
     else decide (s.kind=4))
theorem V2{nv na d:Nat}{s:c5}:j5 nv na (d+1) s=(F6 nv na s&&(s.body.all (j5 nv na d)&&s.els.all (j5 nv na d))):=by
 rw[cz0]
 constructor
 ·intro h
  have h1:=ah8 h
  rw[h1.1,h1.2,Bool.and_true,Bool.and_true]
  rw[j5,cv4]at h
  rw[F6,h.1,Bool.true_and]
  obtain⟨-,h⟩:=h
  split at h
  ·rw[if_pos ai];exact h
  split at h
  ·rw[if_neg ai,if_pos ai];exact h
  split at h
  ·rw[if_neg ai,if_neg ai,if_pos ai]
   simp only[cv4]at h;exact h.1.1
  split at h
  ·rw[if_neg ai,if_neg ai,if_neg ai];simp[*]
  simp at h
 intro h
 simp only[cv4]at h
 obtain⟨h,hb,he⟩:=h
 rw[F6,cv4]at h
 obtain⟨h0,h⟩:=h
 rw[j5,h0,Bool.true_and]
 split at h
 ·rw[if_pos ai];exact h
 split at h
 ·rw[if_neg ai,if_pos ai];exact h
 split at h
 ·rw[if_neg ai,if_neg ai,if_pos ai,h,hb,he];rfl
 rw[if_neg ai,if_neg ai,if_neg ai,if_pos (by simpa using h),hb]
section
variable{nv na d c:Nat}{s:c5}
end
section
variable{nv na:Nat}{s:c5}
theorem bQ7(k:s.kind=1\/s.kind=5):F6 nv na s=(decide (0<=s.target/\s.target<nv/\s.body.length=0/\s.els.length=0/\s.count=0)&&(noneB s.index&&t4 nv na s.value)):=by
 rw[F6,s6,if_pos k,if_neg al,show decide (s.kind=2)=false from decide_eq_false al,cz0]
 simp only[cv4,decide_eq_true_eq,Bool.false_or]
 constructor
 ·rintro⟨⟨⟨⟨a,b⟩,c⟩,d⟩,⟨e,f⟩,g⟩;exact⟨⟨e,f,a,b,c⟩,d,g⟩
 rintro⟨⟨e,f,a,b,c⟩,d,g⟩;exact⟨⟨⟨⟨a,b⟩,c⟩,d⟩,⟨e,f⟩,g⟩
theorem bf4(k:s.kind=2):F6 nv na s=(decide (0<=s.target/\s.target<na/\s.body.length=0/\s.els.length=0/\s.count=0)&&(t4 nv na s.index&&(atomB s.index&&t4 nv na s.value))):=by
 rw[F6,s6,if_neg al,if_pos k,if_neg al,show decide (s.kind=2)=true from decide_eq_true k,cz0]
 simp only[cv4,decide_eq_true_eq,Bool.true_or]
 constructor
 ·rintro⟨⟨⟨⟨a,b⟩,c⟩,-⟩,⟨⟨⟨e,f⟩,i⟩,j⟩,g⟩;exact⟨⟨e,f,a,b,c⟩,i,j,g⟩
 rintro⟨⟨e,f,a,b,c⟩,i,j,g⟩;exact⟨⟨⟨⟨a,b⟩,c⟩,cx2⟩,⟨⟨⟨e,f⟩,i⟩,j⟩,g⟩
theorem b52(k:s.kind=3):F6 nv na s=(decide (s.target=0/\s.count=0)&&(noneB s.index&&t4 nv na s.value)):=by
 rw[F6,s6,if_pos (show s.kind=3\/s.kind=4 from .inl k),if_neg (show ¬s.kind=4 by omega),if_neg al,if_neg al,if_pos k,cz0]
 simp only[cv4,decide_eq_true_eq]
 constructor
 ·rintro⟨⟨a,b,c⟩,d⟩;exact⟨⟨a,b⟩,c,d⟩
 rintro⟨⟨a,b⟩,c,d⟩;exact⟨⟨a,b,c⟩,d⟩
theorem cl2(k:s.kind=4):F6 nv na s=(decide (s.target=0/\s.els.length=0/\1<=s.count/\s.count<=3)&&(noneB s.index&&noneB s.value)):=by
 rw[F6,s6,if_pos (show s.kind=3\/s.kind=4 from .inr k),if_pos k,if_neg al,if_neg al,if_neg al,show decide (s.kind=4)=true from decide_eq_true k,cz0]
 simp only[cv4,decide_eq_true_eq]
 constructor
 ·rintro⟨⟨a,⟨⟨⟨b,c⟩,d⟩,e⟩,f⟩,-⟩;exact⟨⟨a,b,c,d⟩,e,f⟩
 rintro⟨⟨a,b,c,d⟩,e,f⟩;exact⟨⟨a,⟨⟨⟨b,c⟩,d⟩,e⟩,f⟩,cx2⟩
theorem as4(k:¬s.kind=1/\¬s.kind=2/\¬s.kind=3/\¬s.kind=4/\¬s.kind=5):F6 nv na s=false:=by
 rw[F6,if_neg al,if_neg al,if_neg al,show decide (s.kind=4)=false from decide_eq_false al,Bool.and_false]
end
theorem cf6{l:List c6}{k:Nat}(hk:k<l.length):l.take k++[⟨(l.getD k cv2).kind,(l.getD k cv2).value,(l.getD k cv2).kids⟩]=l.take (k+1):=by
 rw[c6.eta,n6 _ _ hk,n7 hk]
theorem cf5{l:List c5}{k:Nat}(hk:k<l.length):l.take k++[⟨(l.getD k cv2).kind,(l.getD k cv2).target,⟨(l.getD k cv2).index.kind,(l.getD k cv2).index.value,(l.getD k cv2).index.kids⟩,⟨(l.getD k cv2).value.kind,(l.getD k cv2).value.value,(l.getD k cv2).value.kids⟩,(l.getD k cv2).count,(l.getD k cv2).body,(l.getD k cv2).els⟩]=l.take (k+1):=by
 rw[c6.eta,c6.eta,c5.eta,n6 _ _ hk,n7 hk]
theorem bu2{α:Type}{l:List α}{k:Nat}(h1:k<=l.length)(h2:¬(k:Int)<l.length):l.take k=l:=by rw[cw7 al]
theorem bO5{α:Type}{l:List α}{k n:Nat}(h1:k<=l.length)(h:l.length<=n):(l.take k).length<=n:=by rw[List.length_take];omega
theorem bP2{e:c6}(h:B9 e<=1048576):e.kids.length<=1048576:=by
 have h1:=aw2 e.kids
 have h2:B9 e=F9 e.kids:=by cases e;rfl
 omega
theorem bG5{l:List c5}(h:i9 l<=1048576):l.length<=1048576:=cx8 (N4 l) h
theorem bZ4{α:Type}{l:List α}{x:α}{k:Nat}(h1:k<=l.length)(h:l.length<=1048576):(l.take k).length+[x].length<=1048577:=by
 have:=bO5 (k:=k) h1 h
 simp only[cw2,cw6];omega
theorem cl8{a b:Nat}(ha:a<=1048577)(hb:Nat.ble b 1000=true):a*b<=140737488355328:=by
 have h1:=Nat.le_of_ble_eq_true hb
 have h2:=Nat.mul_le_mul ha h1
 omega
theorem ay6{l:List c6}{k:Nat}(h:(k:Int)<l.length):l.getD k cv2∈l:=by rw[n7 al];exact cx9 al
theorem ah0{l:List c5}{k:Nat}(h:(k:Int)<l.length):l.getD k cv2∈l:=by rw[n7 al];exact cx9 al
abbrev cpC(e:c6):j8:=⟨141,[eA e 0],eS e,eS e++[.tree (.exprs e.kids)],.agg [iA e.kind,iA e.value,.tref 1]⟩
abbrev a87(e:c6)(r0:List It):List It:=dE e.kids::.box (eL e 0)::.box [iA 0,iA 0,.v (.slice none 0 0)]::r0
theorem bK2(e:c6)(hb:B9 e<=1048576)(ih:∀(x:c6),x∈e.kids->j8.ok Tryz.prog (cpC x)):j8.ok Tryz.prog (cpC e):=by
 refine H9 29 Tryz.func141 [dE e.kids] [(0,eA e 0)] fun G=>?_;have hl:=bP2 hb;refine wp_seq (j9 G f8 [0,1,9] (a87 e []) [(1,.ptr 1 0),(2,.ptr 2 0)] fun G=>b6 (wp_seq (j9 G f8 [0,1,2,43] (a87 e [.box [iA e.kind,iA e.value,.v (.slice none 0 0)]]) [(1,.ptr 1 0),(2,.ptr 2 0),(3,.ptr 3 0)] fun G=>b6 (wp_seq (wp_seq (G3 G f8 [(1,.ptr 1 0),(2,.ptr 2 0),(3,.ptr 3 0),(4,iA 0)] fun G=>b6 (wp_block ?_)))))));obtain⟨ρ,G⟩:=G.nilT 4 (.exprs []) (a87 e [.box [iA e.kind,iA e.value,.tref 4]]) [(1,.ptr 1 0),(2,.ptr 2 0),(3,.ptr 3 0),(4,iA 0)];refine x6 (κ:=Nat) (fun k=>k<=e.kids.length) (fun k=>e.kids.length-k) (fun k=>[dE e.kids,.box (eL e 0),.box [iA 0,iA 0,.v (.slice none 0 0)],.box [iA e.kind,iA e.value,.tref 4],.tree (.exprs (e.kids.take k))]) (fun k=>[(1,.ptr 1 0),(2,.ptr 2 0),(3,.ptr 3 0),(4,iA k)]) 0 al (x7.at G _ _) ?_;clear G;intro k ρ a w hp G;replace G:=x7.at G (a87 e [.box [iA e.kind,iA e.value,.tref 4],.tree (D.exprs (cw1 k e.kids))]) [(1,.ptr 1 0),(2,.ptr 2 0),(3,.ptr 3 0),(4,iA k)];refine wp_seq (wp_seq (l8 G f8 [(14,bA (decide ((k:Int)<e.kids.length)))] fun G=>b6 (rcD G (fun h0 q0=>?_) fun h0 q0=>?_)))
 ·refine wp_exit (v8 (v8 (v6 (b6 (wp_seq (j9 G f8 [0,2,4] [dE e.kids,.box [iA e.kind,iA e.value,.tref 2],.tree (D.exprs (cw1 k e.kids))] [(2,.ptr 1 0)] fun G=>b6 (wp_ret ?_)))))));exact O8 G [0,2] (by show _=mR [0,2] [dE e.kids,.tree (D.exprs e.kids)];have e1:(cw1 k e.kids:List c6)=(e.kids):=(bu2 hp ai);(first|rw[e1]|simp only[e1])<;>rfl)
 refine wp_skip (b6 (wp_seq (wp_block (S8 G (w6 7 [53] (ih (e.kids.getD k cv2) (ay6 ai))) [0,1,0,4,0,28,60,124,252,511,1023,2047] [0,1,2,3,77] (a87 e [.box [iA e.kind,iA e.value,.tref 4],.tree (D.exprs (cw1 k e.kids++[z4 (e.kids.getD k cv2)]))]) [(1,.ptr 1 0),(2,.ptr 2 0),(3,.ptr 3 0),(4,iA k)] (iX k k e.kids.length (((cw1 k e.kids).length+[z4 (e.kids.getD k cv2)].length<=(9223372036854775807:Nat))::((((cw1 k e.kids).length+[z4 (e.kids.getD k cv2)].length)*(40:Nat)<=(140737488355328:Nat))::[]))) (iK al ⟨(by have:=bZ4 (x:=(cv2:c6)) hp hl;simp only[cw2,cw6]at this ⊢;omega),⟨(cl8 (bZ4 hp hl) aj),cx2⟩⟩) fun G=>p8 (b6 (P4 G f8 [(4,iA ((k:Int)+1))] [wO ((k:Int)+1)] (o1 al) fun G=>b6 ?_))))));exact U5 G (k+1) al al (rg 5) (by have e1:(cw1 (k+1) e.kids:List c6)=(cw1 k e.kids++[z4 (e.kids.getD k cv2)]):=((cf6 al).symm);(first|rw[e1]|simp only[e1])<;>rfl)
theorem a83(e:c6):B9 e<=1048576->j8.ok Tryz.prog (cpC e):=
 c6.ind (P:=fun e=>B9 e<=1048576->j8.ok Tryz.prog (cpC e)) (fun k n ks ih hb=>bK2 ⟨k,n,ks⟩ hb fun x hx=>ih x hx (by
  have h1:=bW0 (show x∈ks from hx)
  have h2:B9 ⟨k,n,ks⟩=F9 ks:=rfl
  omega)) e
abbrev bg7(l:List c5):j8:=⟨132,[.ref 0],[dT l],[dT l,.tree (.stmts l)],.tref 1⟩
theorem by4{l:List c5}{k:Nat}(hb:i9 l<=1048576)(h:(k:Int)<l.length):B9 (l.getD k cv2).index<=1048576/\B9 (l.getD k cv2).value<=1048576/\i9 (l.getD k cv2).body<=1048576/\i9 (l.getD k cv2).els<=1048576:=by
 have h1:=ae1 (ah0 h)
 generalize l.getD k cv2=s at*
 rcases s with⟨_,_,i,v,_,b,e⟩
 simp only[M8]at h1
 simp only[c5.index,c5.value,c5.body,c5.els]
 omega
abbrev aK1(k:Nat)(r0:List (Nat×AV)):List (Nat×AV):=(0,.ref 0)::(2,.v (.slice none 0 0))::(3,.tref 1)::(4,iA (k:Int))::r0
theorem aN4(l:List c5)(hb:i9 l<=1048576)(ih1:∀(s:c5),s∈l->j8.ok Tryz.prog (bg7 s.body))(ih2:∀(s:c5),s∈l->j8.ok Tryz.prog (bg7 s.els)):j8.ok Tryz.prog (bg7 l):=by
  refine H9 38 Tryz.func132 [dT l] [(0,.ref 0)] fun G=>?_;have hl:=bG5 hb;refine wp_seq (l8 G f8 [(2,.v (.slice none 0 0))] fun G=>b6 (wp_seq (j9 G f8 [0,1] [dT l,.tree (D.stmts [])] [(0,.ref 0),(2,.v (.slice none 0 0)),(3,.tref 1)] fun G=>b6 (wp_seq (wp_seq (G3 G f8 [(0,.ref 0),(2,.v (.slice none 0 0)),(3,.tref 1),(4,iA 0)] fun G=>b6 (wp_block ?_)))))));refine x6 (κ:=Nat) (fun k=>k<=l.length) (fun k=>l.length-k) (fun k=>[dT l,.tree (.stmts (l.take k))]) (fun k=>[(0,.ref 0),(2,.v (.slice none 0 0)),(3,.tref 1),(4,iA k)]) 0 al (x7.at G _ _) ?_;clear G;intro k ρ a w hp G;replace G:=x7.at G [dT l,.tree (D.stmts (cw1 k l))] (aK1 k []);refine wp_seq (wp_seq (l8 G f8 [(10,bA (decide ((k:Int)<l.length)))] fun G=>b6 (rcD G (fun h0 q0=>?_) fun h0 q0=>?_)))
  · refine wp_exit (v8 (v8 (v6 (b6 (wp_seq (l8 G f8 [(2,.tref 1)] fun G=>b6 (wp_ret ?_)))))));exact O8 G [0,1] (by show _=mR [0,1] [dT l,.tree (D.stmts l)];have e1:(cw1 k l:List c5)=(l):=(bu2 hp ai);(first|rw[e1]|simp only[e1])<;>rfl)
  refine wp_skip (b6 (wp_seq (wp_block (wp_seq (rA1 G f8 [0,1,26,27,28,29,34] [dT l,.tree (D.stmts (cw1 k l)),dE (l.getD k cv2).index.kids,dE (l.getD k cv2).value.kids,dT (l.getD k cv2).body,dT (l.getD k cv2).els,.box (sL (l.getD k cv2) 2)] (aK1 k [(5,.ptr 6 0)]) (iX k k l.length []) (iK al cx2) fun G=>b6 (wp_seq (j9 G (w6 2 [2] (a83 ((l.getD k cv2).index) ((by4 hb ai).1))) [0,1,3,4,5,6,23] [dT l,.tree (D.stmts (cw1 k l)),dE (l.getD k cv2).value.kids,dT (l.getD k cv2).body,dT (l.getD k cv2).els,.box [iA (l.getD k cv2).kind,iA (l.getD k cv2).target,iA (l.getD k cv2).index.kind,iA (l.getD k cv2).index.value,.tref 6,iA (l.getD k cv2).value.kind,iA (l.getD k cv2).value.value,.ref 2,iA (l.getD k cv2).count,.ref 3,.ref 4],.tree (D.exprs (l.getD k cv2).index.kids)] (aK1 k [(5,.ptr 5 0)]) fun G=>b6 (wp_seq (j9 G (w6 2 [2] (a83 ((l.getD k cv2).value) ((by4 hb ai).2.1))) [0,1,3,4,5,6,23] [dT l,.tree (D.stmts (cw1 k l)),dT (l.getD k cv2).body,dT (l.getD k cv2).els,.box [iA (l.getD k cv2).kind,iA (l.getD k cv2).target,iA (l.getD k cv2).index.kind,iA (l.getD k cv2).index.value,.tref 5,iA (l.getD k cv2).value.kind,iA (l.getD k cv2).value.value,.tref 6,iA (l.getD k cv2).count,.ref 2,.ref 3],.tree (D.exprs (l.getD k cv2).index.kids),.tree (D.exprs (l.getD k cv2).value.kids)] (aK1 k [(5,.ptr 4 0)]) fun G=>b6 (wp_seq (j9 G (w6 2 [2] (ih1 (l.getD k cv2) (ah0 ai))) [0,1,3,4,5,6,23] [dT l,.tree (D.stmts (cw1 k l)),dT (l.getD k cv2).els,.box [iA (l.getD k cv2).kind,iA (l.getD k cv2).target,iA (l.getD k cv2).index.kind,iA (l.getD k cv2).index.value,.tref 4,iA (l.getD k cv2).value.kind,iA (l.getD k cv2).value.value,.tref 5,iA (l.getD k cv2).count,.tref 6,.ref 2],.tree (D.exprs (l.getD k cv2).index.kids),.tree (D.exprs (l.getD k cv2).value.kids),.tree (D.stmts (l.getD k cv2).body)] (aK1 k [(5,.ptr 3 0)]) fun G=>b6 (wp_seq (j9 G (w6 2 [2] (ih2 (l.getD k cv2) (ah0 ai))) [0,1,3,4,5,6,23] [dT l,.tree (D.stmts (cw1 k l)),.box [iA (l.getD k cv2).kind,iA (l.getD k cv2).target,iA (l.getD k cv2).index.kind,iA (l.getD k cv2).index.value,.tref 3,iA (l.getD k cv2).value.kind,iA (l.getD k cv2).value.value,.tref 4,iA (l.getD k cv2).count,.tref 5,.tref 6],.tree (D.exprs (l.getD k cv2).index.kids),.tree (D.exprs (l.getD k cv2).value.kids),.tree (D.stmts (l.getD k cv2).body),.tree (D.stmts (l.getD k cv2).els)] (aK1 k [(5,.ptr 2 0)]) fun G=>b6 (rA1 G f8 [0,31] [dT l,.tree (D.stmts (cw1 k l++[qzS (l.getD k cv2)]))] (aK1 k []) [(cw1 k l).length+[qzS (l.getD k cv2)].length<=(9223372036854775807:Nat),((cw1 k l).length+[qzS (l.getD k cv2)].length)*(152:Nat)<=(140737488355328:Nat)] ⟨(by have:=bZ4 (x:=(cv2:c5)) hp hl;simp only[cw2,cw6]at this ⊢;omega),(cl8 (bZ4 hp hl) aj),cx2⟩ fun G=>?_))))))))))))))
  refine p8 (b6 (P4 G f8 [(4,iA ((k:Int)+1))] [wO ((k:Int)+1)] (o1 al) fun G=>b6 ?_));exact U5 G (k+1) al al [0,1] (by have e1:(cw1 (k+1) l:List c5)=(cw1 k l++[qzS (l.getD k cv2)]):=((cf5 al).symm);(first|rw[e1]|simp only[e1])<;>rfl)
theorem b21(l:List c5):i9 l<=1048576->j8.ok Tryz.prog (bg7 l):=fun hb=>aN4 l hb
 (fun s hs=>(c_copyS2 s).1 (cx8 (Nat.le_of_lt (ae1 hs)) hb)) fun s hs=>(c_copyS2 s).2 (cx8 (Nat.le_of_lt (ae1 hs)) hb)
where
 c_copyS2 (s:c5):(M8 s<=1048576->j8.ok Tryz.prog (bg7 s.body))/\(M8 s<=1048576->j8.ok Tryz.prog (bg7 s.els)):=
  c5.ind (P:=fun s=>(M8 s<=1048576->j8.ok Tryz.prog (bg7 s.body))/\(M8 s<=1048576->j8.ok Tryz.prog (bg7 s.els))) (fun k t i v c b e h1 h2=>by
   have hz:M8 ⟨k,t,i,v,c,b,e⟩=B9 i+B9 v+i9 b+i9 e:=rfl
   constructor
   ·intro hb
    refine aN4 b al (fun s hs=>(h1 s hs).1 ?_) fun s hs=>(h1 s hs).2 ?_
    ·have:=ae1 hs;omega
    have:=ae1 hs;omega
   intro hb
   refine aN4 e al (fun s hs=>(h2 s hs).1 ?_) fun s hs=>(h2 s hs).2 ?_
   ·have:=ae1 hs;omega
   have:=ae1 hs;omega) s
theorem bU0(p:f7)(hb:p.size<=1048576):j8.ok Tryz.prog ⟨90,[pA 0],pS p,pS p++oP p,oA 3⟩:=by
 refine H9 15 Tryz.func90 [dI p.vars,dI p.arrays,dT p.body] [(0,pA 0)] fun G=>?_
 have hb1:p.vars.length<=1048576/\p.arrays.length<=1048576/\i9 p.body<=1048576:=by unfold f7.size at hb;omega
 refine wp_seq (j9 G f8 [0,1,2,3,11] [dI p.vars,dI p.arrays,dT p.body,.box (pL 0),.box [.v (.slice none 0 0),.v (.slice none 0 0),.v (.slice none 0 0)]] [(1,.ptr 3 0),(2,.ptr 4 0)] fun G=>b6 (wp_seq (S8 G (w6 10 [2] (b21 p.body al)) [0,0,2,7,0,0,32,127,0,256,1023,2047,4095] [0,1,2,4,29,61,85] [dI p.vars,dI p.arrays,dT p.body,.box [.ref 4,.ref 5,.tref 6],.row 3 (D.ints ([]++p.vars)),.row 3 (D.ints ([]++p.arrays)),.tree (D.stmts p.body)] [(2,.ptr 3 0)] (aP ((0:Nat)+p.vars.length) 8 (aP ((0:Nat)+p.arrays.length) 8 [])) (aK al (aK al cx2)) fun G=>b6 (wp_ret ?_))));exact O8 G [0,1,2,4,5,6]
def aG7(vs ars:List Int)(e:c6):Int:=if e.kind=2 then vs.getD e.value.toNat 0 else if e.kind=3 then ars.getD e.value.toNat 0 else 0
def i8(vs ars:List Int):Nat->c6->Int
 |0,_=>0
 |d+1,e=>e.kids.foldl (fun a k=>l6 a (i8 vs ars d k)) (aG7 vs ars e)
def E8(vs ars:List Int)(d:Nat)(x:Int)(ks:List c6)(k:Nat):Int:=(ks.take k).foldl (fun a k=>l6 a (i8 vs ars d k)) x
theorem ab7{vs ars:List Int}{d k:Nat}{x:Int}{ks:List c6}(h:k<ks.length):E8 vs ars d x ks (k+1)=l6 (E8 vs ars d x ks k) (i8 vs ars d (ks.getD k cv2)):=by
 unfold E8;rw[D6 ks k h,List.foldl_append,n7 h];rfl
theorem ag7{vs ars:List Int}{d k:Nat}{x:Int}{e:c6}(h:e.kids.length<=k)(hx:aG7 vs ars e=x):i8 vs ars (d+1) e=E8 vs ars d x e.kids k:=by
 unfold E8;rw[cw7 h,i8,hx]
section
variable{nv na d:Nat}{e:c6}
theorem a38(h:i5 nv na (d+1) e=true):U6 nv na e=true:=by simp only[i5,cv4]at h;exact h.1.1
theorem aB0(h:i5 nv na (d+1) e=true)(k:e.kind=2):0<=e.value/\e.value<nv/\e.value.toNat<nv:=by
 have:=a38 h
 simp[U6,Y2,k]at this;omega
theorem aB1(h:i5 nv na (d+1) e=true)(k:e.kind=3):0<=e.value/\e.value<na/\e.value.toNat<na:=by
 have:=a38 h
 simp[U6,Y2,k]at this;omega
theorem ac1{k:Nat}(h:i5 nv na (d+1) e=true)(hk:k<e.kids.length):i5 nv na d (e.kids.getD k cv2)=true:=by
 simp only[i5,cv4]at h
 rw[n7 hk];exact cw3.1 h.1.2 _ (cx9 hk)
theorem aN2(h:i5 nv na (d+1) e=true)(k:e.kind=3):0<e.kids.length:=by
 have:=a38 h
 simp[U6,v5,k]at this;omega
end
theorem aZ6{x:Int}(h:i7 x=true):x=0\/x=1\/x=2\/x=3:=by simp[i7]at h;omega
theorem L8(l:Int):j8.ok Tryz.prog (Y3 82 [iA l] [] (bA (i7 l&&decide (l%2=1)))):=by
 refine H9 10 Tryz.func82 [] [(0,iA l)] fun G=>?_;refine wp_seq (l8 G f8 [(2,bA false)] fun G=>b6 (wp_seq ?_));cases h0:(i7 l)
 ·refine l8 G (I2 (v9 1 [] (E2 l) I1) (fc h0 fz) [(3,0),(4,0),(5,0),(1006,0)]) [] fun G=>b6 (wp_ret ?_);exact O8 G []
 refine l8 G (I2 (v9 1 [] (E2 l) I1) (fc h0 fz) [(3,0),(4,0),(5,0),(1006,0)]) [(2,bA (b27 l 1==1))] fun G=>b6 (wp_ret ?_);exact M5 (b27 l 1==1) G [] (by rcases aZ6 h0 with rfl|rfl|rfl|rfl<;>kernel_rfl)
theorem ao4(l:Int):j8.ok Tryz.prog (Y3 200 [iA l] [] (bA (i7 l&&decide (l<=1)))):=by
 refine H9 10 Tryz.func200 [] [(0,iA l)] fun G=>?_;refine wp_seq (l8 G f8 [(2,bA false)] fun G=>b6 (wp_seq ?_));cases h0:(i7 l)
 ·refine l8 G (I2 (v9 1 [] (E2 l) I1) (fc h0 fz) [(3,0),(4,0),(5,0),(1006,0)]) [] fun G=>b6 (wp_ret ?_);exact O8 G []
 refine l8 G (I2 (v9 1 [] (E2 l) I1) (fc h0 fz) [(3,0),(4,0),(5,0),(1006,0)]) [(2,bA (b27 l 2==0))] fun G=>b6 (wp_ret ?_);exact M5 (b27 l 2==0) G [] (by rcases aZ6 h0 with rfl|rfl|rfl|rfl<;>kernel_rfl)
theorem az3(x y:Int):j8.ok Tryz.prog (Y3 199 [iA x,iA y] [] (bA (i7 x&&i7 y&&(l6 x y==y)))):=by
  refine H9 18 Tryz.func199 [] [(0,iA x),(1,iA y)] fun G=>?_;refine wp_seq (l8 G f8 [(4,bA false)] fun G=>b6 (wp_seq ?_));cases h0:(i7 x)
  · refine l8 G (I2 (v9 1 [] (E2 x) I1) (fc h0 (fc (b:=false) rfl fz)) (us [(3,4,0),(1005,1005,0),(7,11,1),(1012,1012,1)])) [] fun G=>b6 (wp_ret ?_);exact O8 G []
  cases h1:(i7 y)
  · refine l8 G (I2 (v9 1 [] (E2 x) (v9 4 [] (E2 y) I1)) (fc h0 (fc h1 fz)) (us [(3,4,0),(1005,1005,0),(7,11,1),(1012,1012,1)])) [] fun G=>b6 (wp_ret ?_);exact O8 G []
  refine l8 G (I2 (v9 1 [] (E2 x) (v9 4 [] (E2 y) I1)) (fc h0 (fc h1 fz)) (us [(3,4,0),(1005,1005,0),(7,11,1),(1012,1012,1)])) [(4,bA (l6 x y==y))] fun G=>b6 (wp_ret ?_);exact O8 G []
theorem aa9{x:Int}(h:i7 x=true):∃a:Fin 4,x=(a.val:Int):=by
 simp[i7]at h
 exact⟨⟨x.toNat,al⟩,ah⟩
theorem br1(p:f7)(d:Nat)(ih:∀(e:c6),i5 p.vars.length p.arrays.length d e=true->j8.ok Tryz.prog (Y3 139 [pA 0,eA e 3] (pS p++eS e) (iA (i8 p.vars p.arrays d e))))
    (e:c6) (he:i5 p.vars.length p.arrays.length (d+1) e=true):j8.ok Tryz.prog (Y3 139 [pA 0,eA e 3] (pS p++eS e) (iA (i8 p.vars p.arrays (d+1) e))):=by
  refine H9 42 Tryz.func139 [dI p.vars,dI p.arrays,dT p.body,dE e.kids] [(0,pA 0),(1,eA e 3)] fun G=>?_;refine wp_seq (j9 G f8 [0,1,2,3,4,12] [dI p.vars,dI p.arrays,dT p.body,dE e.kids,.box (pL 0),.box (eL e 3)] [(2,.ptr 4 0),(3,.ptr 5 0),(4,iA 0)] fun G=>b6 (wp_seq (l8 G f8 [(5,iA 0)] fun G=>b6 (wp_seq (wp_seq (l8 G f8 [(8,iA e.kind)] fun G=>b6 (wp_block (wp_seq (l8 G f8 [(9,bA (e.kind==2))] fun G=>b6 (S4 G (fun h0 q0=>?_) fun h0 q0=>?_))))))))))
  ·
   refine wp_seq (l8 G f8 [(17,bA (e.kind==3))] fun G=>b6 (S4 G (fun h1 q1=>?_) fun h1 q1=>?_))
   ·
    refine wp_skip (p8 (b6 (wp_seq (wp_seq (G3 G f8 [(2,.ptr 4 0),(3,.ptr 5 0),(4,iA 0),(5,iA 0),(6,iA 0)] fun G=>b6 (wp_block ?_))))));refine x6 (κ:=Nat) (fun k=>k<=e.kids.length) (fun k=>e.kids.length-k) (fun k=>[dI p.vars,dI p.arrays,dT p.body,dE e.kids,.box (pL 0),.box (eL e 3)]) (fun k=>[(2,.ptr 4 0),(3,.ptr 5 0),(4,iA 0),(5,iA (E8 p.vars p.arrays d 0 e.kids k)),(6,iA k)]) 0 al (x7.at G _ _) ?_;clear G;intro k ρ a w hp G;have hlen:e.kids.length<=9223372036854775807:=G.len 3 (d:=.exprs e.kids) aj;refine wp_seq (wp_seq (G3 G f8 [(2,.ptr 4 0),(3,.ptr 5 0),(4,iA 0),(5,iA (E8 p.vars p.arrays d 0 e.kids k)),(6,iA k),(29,bA (decide ((k:Int)<e.kids.length)))] fun G=>b6 (rcD G (fun h2 q2=>?_) fun h2 q2=>?_)))
    · refine wp_exit (v8 (v8 (v6 (b6 (wp_seq (j9 G f8 (rg 4) [dI p.vars,dI p.arrays,dT p.body,dE e.kids] [(4,iA (E8 p.vars p.arrays d 0 e.kids k))] fun G=>b6 (wp_ret ?_)))))));exact rxI (E8 p.vars p.arrays d 0 e.kids k) G (rg 4) (ag7 al (by simp[aG7,h0,q0,h1,q1,h2,q2];done))
    refine wp_skip (b6 (wp_seq (wp_block (ak2 G (w6 7 [0,1,2,54] (ih (e.kids.getD k cv2) (ac1 he al))) [0,0,0,4,0,28,60,126,255,511] [(5,iA (l6 (E8 p.vars p.arrays d 0 e.kids k) (i8 p.vars p.arrays d (e.kids.getD k cv2))))] (iX k k e.kids.length []) (iK al cx2) fun G=>p8 (b6 (P4 G f8 [(6,iA ((k:Int)+1))] [wO ((k:Int)+1)] (o1 al) fun G=>b6 ?_))))));exact U5 G (k+1) al al (rg 6) (ht:=by have e1:(E8 p.vars p.arrays d 0 e.kids (k+1):Int)=(l6 (E8 p.vars p.arrays d 0 e.kids k) (i8 p.vars p.arrays d (e.kids.getD k cv2))):=(ab7 al);(first|rw[e1]|simp only[e1])<;>rfl)
   refine P4 G f8 [(5,iA (p.arrays.getD e.value.toNat 0))] [(0:Int)<=e.value,e.value<(p.arrays.length:Int),e.value.toNat<p.arrays.length] ⟨((aB1 he ai).1),((aB1 he ai).2.1),((aB1 he ai).2.2),cx2⟩ fun G=>p8 (b6 (wp_seq (wp_seq (G3 G f8 [(2,.ptr 4 0),(3,.ptr 5 0),(4,iA 0),(5,iA (p.arrays.getD e.value.toNat 0)),(6,iA 0)] fun G=>b6 (wp_block ?_)))));refine x6 (κ:=Nat) (fun k=>k<=e.kids.length) (fun k=>e.kids.length-k) (fun k=>[dI p.vars,dI p.arrays,dT p.body,dE e.kids,.box (pL 0),.box (eL e 3)]) (fun k=>[(2,.ptr 4 0),(3,.ptr 5 0),(4,iA 0),(5,iA (E8 p.vars p.arrays d (p.arrays.getD e.value.toNat 0) e.kids k)),(6,iA k)]) 0 al (x7.at G _ _) ?_;clear G;intro k ρ a w hp G;have hlen:e.kids.length<=9223372036854775807:=G.len 3 (d:=.exprs e.kids) aj;refine wp_seq (wp_seq (G3 G f8 [(2,.ptr 4 0),(3,.ptr 5 0),(4,iA 0),(5,iA (E8 p.vars p.arrays d (p.arrays.getD e.value.toNat 0) e.kids k)),(6,iA k),(29,bA (decide ((k:Int)<e.kids.length)))] fun G=>b6 (rcD G (fun h3 q3=>?_) fun h3 q3=>?_)))
   · refine wp_exit (v8 (v8 (v6 (b6 (wp_seq (j9 G f8 (rg 4) [dI p.vars,dI p.arrays,dT p.body,dE e.kids] [(4,iA (E8 p.vars p.arrays d (p.arrays.getD e.value.toNat 0) e.kids k))] fun G=>b6 (wp_ret ?_)))))));exact rxI (E8 p.vars p.arrays d (p.arrays.getD e.value.toNat 0) e.kids k) G (rg 4) (ag7 al (by simp[aG7,h0,q0,h1,q1,h3,q3];done))
   refine wp_skip (b6 (wp_seq (wp_block (ak2 G (w6 7 [0,1,2,54] (ih (e.kids.getD k cv2) (ac1 he al))) [0,0,0,4,0,28,60,126,255,511] [(5,iA (l6 (E8 p.vars p.arrays d (p.arrays.getD e.value.toNat 0) e.kids k) (i8 p.vars p.arrays d (e.kids.getD k cv2))))] (iX k k e.kids.length []) (iK al cx2) fun G=>p8 (b6 (P4 G f8 [(6,iA ((k:Int)+1))] [wO ((k:Int)+1)] (o1 al) fun G=>b6 ?_))))));exact U5 G (k+1) al al (rg 6) (ht:=by have e1:(E8 p.vars p.arrays d (p.arrays.getD e.value.toNat 0) e.kids (k+1):Int)=(l6 (E8 p.vars p.arrays d (p.arrays.getD e.value.toNat 0) e.kids k) (i8 p.vars p.arrays d (e.kids.getD k cv2))):=(ab7 al);(first|rw[e1]|simp only[e1])<;>rfl)
  refine P4 G f8 [(5,iA (p.vars.getD e.value.toNat 0))] [(0:Int)<=e.value,e.value<(p.vars.length:Int),e.value.toNat<p.vars.length] ⟨((aB0 he ai).1),((aB0 he ai).2.1),((aB0 he ai).2.2),cx2⟩ fun G=>p8 (b6 (wp_seq (wp_seq (G3 G f8 [(2,.ptr 4 0),(3,.ptr 5 0),(4,iA 0),(5,iA (p.vars.getD e.value.toNat 0)),(6,iA 0)] fun G=>b6 (wp_block ?_)))));refine x6 (κ:=Nat) (fun k=>k<=e.kids.length) (fun k=>e.kids.length-k) (fun k=>[dI p.vars,dI p.arrays,dT p.body,dE e.kids,.box (pL 0),.box (eL e 3)]) (fun k=>[(2,.ptr 4 0),(3,.ptr 5 0),(4,iA 0),(5,iA (E8 p.vars p.arrays d (p.vars.getD e.value.toNat 0) e.kids k)),(6,iA k)]) 0 al (x7.at G _ _) ?_;clear G;intro k ρ a w hp G;have hlen:e.kids.length<=9223372036854775807:=G.len 3 (d:=.exprs e.kids) aj;refine wp_seq (wp_seq (G3 G f8 [(2,.ptr 4 0),(3,.ptr 5 0),(4,iA 0),(5,iA (E8 p.vars p.arrays d (p.vars.getD e.value.toNat 0) e.kids k)),(6,iA k),(29,bA (decide ((k:Int)<e.kids.length)))] fun G=>b6 (rcD G (fun h4 q4=>?_) fun h4 q4=>?_)))
  · refine wp_exit (v8 (v8 (v6 (b6 (wp_seq (j9 G f8 (rg 4) [dI p.vars,dI p.arrays,dT p.body,dE e.kids] [(4,iA (E8 p.vars p.arrays d (p.vars.getD e.value.toNat 0) e.kids k))] fun G=>b6 (wp_ret ?_)))))));exact rxI (E8 p.vars p.arrays d (p.vars.getD e.value.toNat 0) e.kids k) G (rg 4) (ag7 al (by simp[aG7,h0,q0,h4,q4];done))
  refine wp_skip (b6 (wp_seq (wp_block (ak2 G (w6 7 [0,1,2,54] (ih (e.kids.getD k cv2) (ac1 he al))) [0,0,0,4,0,28,60,126,255,511] [(5,iA (l6 (E8 p.vars p.arrays d (p.vars.getD e.value.toNat 0) e.kids k) (i8 p.vars p.arrays d (e.kids.getD k cv2))))] (iX k k e.kids.length []) (iK al cx2) fun G=>p8 (b6 (P4 G f8 [(6,iA ((k:Int)+1))] [wO ((k:Int)+1)] (o1 al) fun G=>b6 ?_))))));exact U5 G (k+1) al al (rg 6) (ht:=by have e1:(E8 p.vars p.arrays d (p.vars.getD e.value.toNat 0) e.kids (k+1):Int)=(l6 (E8 p.vars p.arrays d (p.vars.getD e.value.toNat 0) e.kids k) (i8 p.vars p.arrays d (e.kids.getD k cv2))):=(ab7 al);(first|rw[e1]|simp only[e1])<;>rfl)
theorem aS9(p:f7):∀(d:Nat) (e:c6),i5 p.vars.length p.arrays.length d e=true->j8.ok Tryz.prog (Y3 139 [pA 0,eA e 3] (pS p++eS e) (iA (i8 p.vars p.arrays d e))):=by
 intro d
 induction d with
 |zero=>intro e h;simp[i5]at h
 |succ d ih=>intro e h;exact br1 p d ih e h
def V4(vs ars:List Int):Nat->c6->Bool
 |0,_=>false
 |d+1,e=>(decide (e.kind=3)&&(i7 (i8 vs ars d (e.kids.getD 0 cv2))&&decide (i8 vs ars d (e.kids.getD 0 cv2)%2=1)))||e.kids.any (V4 vs ars d)
section
variable{vs ars:List Int}{d:Nat}{e:c6}
theorem b75(k:e.kind=3)(h:(i7 (i8 vs ars d (e.kids.getD 0 cv2))&&decide (i8 vs ars d (e.kids.getD 0 cv2)%2=1))=true):V4 vs ars (d+1) e=true:=by rw[V4,h];simp[k]
theorem b76(h:e.kids.any (V4 vs ars d)=false)(k:¬e.kind=3):V4 vs ars (d+1) e=false:=by rw[V4,h];simp[k]
theorem bX0(h:e.kids.any (V4 vs ars d)=false)(k:(i7 (i8 vs ars d (e.kids.getD 0 cv2))&&decide (i8 vs ars d (e.kids.getD 0 cv2)%2=1))=false):V4 vs ars (d+1) e=false:=by rw[V4,h,k];simp
end
theorem bj0{α:Type}{l:List α}{k:Nat}{p:α->Bool}{z:α}(h:(l.take k).any p=false)(hk:k<l.length)(hp:p (l.getD k z)=false):(l.take (k+1)).any p=false:=by
 rw[D6 l k hk,List.any_append,h, <-n7 (d:=z) hk,List.any_cons,hp];rfl
theorem bj1{α:Type}{l:List α}{k:Nat}{p:α->Bool}(h:(l.take k).any p=false)(hk:l.length<=k):l.any p=false:=by
 rw[cw7 hk]at h;exact h
theorem bz6{α:Type}{l:List α}{k:Nat}{p:α->Bool}{z:α}(hk:k<l.length)(hp:p (l.getD k z)=true):l.any p=true:=by
 rw[n7 hk]at hp
 exact List.any_eq_true.2 ⟨_,cx9 hk,hp⟩
theorem bh7(p:f7)(d:Nat)(ih:∀(e:c6),i5 p.vars.length p.arrays.length d e=true->j8.ok Tryz.prog (Y3 201 [pA 0,eA e 3] (pS p++eS e) (bA (V4 p.vars p.arrays d e))))
    (ihl:∀(e:c6),i5 p.vars.length p.arrays.length d e=true->j8.ok Tryz.prog (Y3 139 [pA 0,eA e 3] (pS p++eS e) (iA (i8 p.vars p.arrays d e))))
    (e:c6) (he:i5 p.vars.length p.arrays.length (d+1) e=true):j8.ok Tryz.prog (Y3 201 [pA 0,eA e 3] (pS p++eS e) (bA (V4 p.vars p.arrays (d+1) e))):=by
  refine H9 32 Tryz.func201 [dI p.vars,dI p.arrays,dT p.body,dE e.kids] [(0,pA 0),(1,eA e 3)] fun G=>?_;have hlen:e.kids.length<=9223372036854775807:=G.len 3 (d:=.exprs e.kids) aj;refine wp_seq (j9 G f8 [0,1,2,3,4,12] [dI p.vars,dI p.arrays,dT p.body,dE e.kids,.box (pL 0),.box (eL e 3)] [(2,.ptr 4 0),(3,.ptr 5 0),(4,bA false)] fun G=>b6 (wp_seq (wp_seq ?_)));cases h0:(e.kind==3)
  ·
   have q0:=ne_of_beq_false h0;refine bC0 G (K6 (fc h0 fz) (us [(4,10,0),(1011,1011,0)])) [0,1,3,7,15,15,47,111,239,511,1023,2047] [(17,bA false)] fun G=>b6 (rF G false aj (wp_skip (b6 (wp_seq (wp_seq (G3 G f8 [(2,.ptr 4 0),(3,.ptr 5 0),(4,bA false),(5,iA 0)] fun G=>b6 (wp_block ?_)))))));refine x6 (κ:=Nat) (fun k=>k<=e.kids.length/\(e.kids.take k).any (V4 p.vars p.arrays d)=false) (fun k=>e.kids.length-k) (fun k=>[dI p.vars,dI p.arrays,dT p.body,dE e.kids,.box (pL 0),.box (eL e 3)]) (fun k=>[(2,.ptr 4 0),(3,.ptr 5 0),(4,bA false),(5,iA k)]) 0 (by simp[he,h0]) (x7.at G _ _) ?_;clear G;intro k ρ a w hp G;refine wp_seq (wp_seq (l8 G f8 [(22,bA (decide ((k:Int)<e.kids.length)))] fun G=>b6 (rcD G (fun h2 q2=>?_) fun h2 q2=>?_)))
   · refine wp_exit (v8 (v8 (v6 (b6 (wp_seq (j9 G f8 (rg 4) [dI p.vars,dI p.arrays,dT p.body,dE e.kids] [(4,bA false)] fun G=>b6 (wp_ret ?_)))))));exact M5 false G (rg 4) (b76 (bj1 hp.2 al) ai)
   refine wp_skip (b6 (wp_seq (wp_block (wp_seq (ak2 G (w6 6 [0,1,2,46] (ih (e.kids.getD k cv2) (ac1 he al))) [0,0,2,0,14,30,63] [(31,bA (V4 p.vars p.arrays d (e.kids.getD k cv2)))] (iX k k e.kids.length []) (iK al cx2) fun G=>b6 (rcB G (fun h3=>?_) fun h3=>?_))))))
   · refine wp_skip (p8 (b6 (P4 G f8 [(5,iA ((k:Int)+1))] [wO ((k:Int)+1)] (o1 al) fun G=>b6 ?_)));exact U5 G (k+1) (⟨al,bj0 hp.2 al ai⟩) al (rg 6)
   refine wp_seq (l8 G f8 [(4,bA true)] fun G=>b6 (wp_ret (B7 (l7 (l7 (B7 (l7 ?_)))))));exact M5 true G (rg 4) (by rw[V4,bz6 (k:=k) al ai,Bool.or_true])
  have q0:=eq_of_beq h0;refine ak2 G (I2 (v9 9 [0,1,2,70] (ihl (e.kids.getD 0 cv2) (ac1 he (aN2 he ai))) (v9 10 [] (L8 (i8 p.vars p.arrays d (e.kids.getD 0 cv2))) I1)) (fc h0 fz) (us [(4,10,0),(1011,1011,0)])) [0,1,3,7,15,15,47,111,239,511,1023,2047] [(17,bA (i7 (i8 p.vars p.arrays d (e.kids.getD 0 cv2))&&decide (i8 p.vars p.arrays d (e.kids.getD 0 cv2)%2=1)))] (iX 0 0 e.kids.length []) (iK (by have:=aN2 he ai;omega) cx2) fun G=>b6 ?_;cases h1:(i7 (i8 p.vars p.arrays d (e.kids.getD (0:Nat) cv2))&&decide (i8 p.vars p.arrays d (e.kids.getD (0:Nat) cv2)%(2:Int)=1))
  ·
   have q1:((i7 (i8 p.vars p.arrays d (e.kids.getD 0 cv2)))=false)\/(¬(i8 p.vars p.arrays d (e.kids.getD 0 cv2)%2=1)):=Or.imp (fun hq=>(hq)) (fun hq=>of_decide_eq_false hq) (Bool.and_eq_false_iff.1 h1);refine rF G _ h1 (wp_skip (b6 (wp_seq (wp_seq (G3 G f8 [(2,.ptr 4 0),(3,.ptr 5 0),(4,bA false),(5,iA 0)] fun G=>b6 (wp_block ?_))))));refine x6 (κ:=Nat) (fun k=>k<=e.kids.length/\(e.kids.take k).any (V4 p.vars p.arrays d)=false) (fun k=>e.kids.length-k) (fun k=>[dI p.vars,dI p.arrays,dT p.body,dE e.kids,.box (pL 0),.box (eL e 3)]) (fun k=>[(2,.ptr 4 0),(3,.ptr 5 0),(4,bA false),(5,iA k)]) 0 (by simp[he,h0,h1]) (x7.at G _ _) ?_;clear G;intro k ρ a w hp G;refine wp_seq (wp_seq (l8 G f8 [(22,bA (decide ((k:Int)<e.kids.length)))] fun G=>b6 (rcD G (fun h4 q4=>?_) fun h4 q4=>?_)))
   · refine wp_exit (v8 (v8 (v6 (b6 (wp_seq (j9 G f8 (rg 4) [dI p.vars,dI p.arrays,dT p.body,dE e.kids] [(4,bA false)] fun G=>b6 (wp_ret ?_)))))));exact M5 false G (rg 4) (bX0 (bj1 hp.2 al) ai)
   refine wp_skip (b6 (wp_seq (wp_block (wp_seq (ak2 G (w6 6 [0,1,2,46] (ih (e.kids.getD k cv2) (ac1 he al))) [0,0,2,0,14,30,63] [(31,bA (V4 p.vars p.arrays d (e.kids.getD k cv2)))] (iX k k e.kids.length []) (iK al cx2) fun G=>b6 (rcB G (fun h5=>?_) fun h5=>?_))))))
   · refine wp_skip (p8 (b6 (P4 G f8 [(5,iA ((k:Int)+1))] [wO ((k:Int)+1)] (o1 al) fun G=>b6 ?_)));exact U5 G (k+1) (⟨al,bj0 hp.2 al ai⟩) al (rg 6)
   refine wp_seq (l8 G f8 [(4,bA true)] fun G=>b6 (wp_ret (B7 (l7 (l7 (B7 (l7 ?_)))))));exact M5 true G (rg 4) (by rw[V4,bz6 (k:=k) al ai,Bool.or_true])
  have q1:((i7 (i8 p.vars p.arrays d (e.kids.getD 0 cv2)))=true)/\(i8 p.vars p.arrays d (e.kids.getD 0 cv2)%2=1):=And.imp (fun hq=>(hq)) (fun hq=>of_decide_eq_true hq) (Bool.and_eq_true_iff.1 h1);refine rT G _ h1 (wp_seq (l8 G f8 [(4,bA true)] fun G=>b6 (wp_ret (l7 ?_))));exact M5 true G (rg 4) (b75 ai ai)
def flB(x y:Int):Bool:=i7 x&&i7 y&&(l6 x y==y)
abbrev o0(p:f7)(e:c6):Int:=i8 p.vars p.arrays 5 e
def af2(x:Int):Bool:=i7 x&&decide (x%2=1)
def T2(p:f7)(s:c5)(pc:Int):Int:=
 if s.kind=1 then if flB (l6 (o0 p s.value) pc) (p.vars.getD s.target.toNat 0)then 0 else 1
 else if s.kind=2 then if flB (l6 (l6 (o0 p s.value) (o0 p s.index)) pc) (p.arrays.getD s.target.toNat 0)then 0 else 1
 else if s.kind=5 then if(i7 (o0 p s.value)&&decide (o0 p s.value<=1))&&decide (pc=0)then 0 else 2
 else 0
def as3(p:f7)(s:c5):Int:=
 if s.kind=3/\af2 (o0 p s.value)=true then 3
 else if(s.kind≠4/\V4 p.vars p.arrays 5 s.value=true)\/(s.kind=2/\af2 (o0 p s.index)=true)then 4 else 0
def ad4(p:f7)(s:c5)(pc:Int)(strict:Bool):Int:=if T2 p s pc=0 then(if strict then as3 p s else 0)else T2 p s pc
theorem P2(p:f7)(e:c6)(he:i5 p.vars.length p.arrays.length 5 e=true):j8.ok Tryz.prog (Y3 139 [pA 0,eA e 3] (pS p++eS e) (iA (o0 p e))):=aS9 p 5 e he
theorem bh8(p:f7):∀(d:Nat) (e:c6),i5 p.vars.length p.arrays.length d e=true->j8.ok Tryz.prog (Y3 201 [pA 0,eA e 3] (pS p++eS e) (bA (V4 p.vars p.arrays d e))):=by
 intro d
 induction d with
 |zero=>intro e h;simp[i5]at h
 |succ d ih=>intro e h;exact bh7 p d ih (aS9 p d) e h
theorem H5(p:f7)(e:c6)(he:i5 p.vars.length p.arrays.length 5 e=true):j8.ok Tryz.prog (Y3 201 [pA 0,eA e 3] (pS p++eS e) (bA (V4 p.vars p.arrays 5 e))):=bh8 p 5 e he
section
variable{nv na:Nat}{s:c5}
theorem am2{e:c6}(h:t4 nv na e=true):i5 nv na 5 e=true:=by unfold t4 at h;simp only[cv4]at h;exact h.1
variable(h:F6 nv na s=true)
include h
theorem C1(k:¬s.kind=4):i5 nv na 5 s.value=true:=by
 apply am2
 by_cases k1:s.kind=1\/s.kind=5
 ·rw[bQ7 k1]at h;simp only[cv4]at h;exact h.2.2
 by_cases k2:s.kind=2
 ·rw[bf4 k2]at h;simp only[cv4]at h;exact h.2.2.2
 by_cases k3:s.kind=3
 ·rw[b52 k3]at h;simp only[cv4]at h;exact h.2.2
 rw[as4 al]at h;cases h
theorem aQ9(k:s.kind=2):i5 nv na 5 s.index=true:=by
 rw[bf4 k]at h;simp only[cv4]at h;exact am2 h.2.1
theorem aQ8(k:s.kind=1\/s.kind=5):0<=s.target/\s.target<nv/\s.target.toNat<nv:=by
 rw[bQ7 k]at h;simp only[cv4,decide_eq_true_eq]at h;omega
theorem aR0(k:s.kind=2):0<=s.target/\s.target<na/\s.target.toNat<na:=by
 rw[bf4 k]at h;simp only[cv4,decide_eq_true_eq]at h;omega
end
section
variable{p:f7}{s:c5}{pc:Int}{strict:Bool}{x:Int}
theorem ax4(h:T2 p s pc=x)(hx:x≠0):ad4 p s pc strict=x:=by rw[ad4,h,if_neg hx]
theorem am8(h:T2 p s pc=0):ad4 p s pc false=0:=by rw[ad4,h];rfl
theorem C0(h:T2 p s pc=0)(hl:as3 p s=x):ad4 p s pc true=x:=by rw[ad4,h,hl];rfl
theorem cb7(k:s.kind=1)(h:(!(i7 (l6 (o0 p s.value) pc)&&i7 (p.vars.getD s.target.toNat 0)&&(l6 (l6 (o0 p s.value) pc) (p.vars.getD s.target.toNat 0)==(p.vars.getD s.target.toNat 0))))=false):T2 p s pc=0:=by rw[T2,if_pos k,if_pos (by unfold flB;first|(rw[cy2]at h;exact h)|(rw[cy0]at h;rw[h];simp))]
theorem cu3(k:s.kind=1)(h:(!(i7 (l6 (o0 p s.value) pc)&&i7 (p.vars.getD s.target.toNat 0)&&(l6 (l6 (o0 p s.value) pc) (p.vars.getD s.target.toNat 0)==(p.vars.getD s.target.toNat 0))))=true):T2 p s pc=1:=by rw[T2,if_pos k,if_neg (by unfold flB;first|(rw[cy2]at h;exact h)|(rw[cy0]at h;rw[h];simp))]
theorem b02(k:s.kind=2)(h:(!(i7 (l6 (l6 (o0 p s.value) (o0 p s.index)) pc)&&i7 (p.arrays.getD s.target.toNat 0)&&(l6 (l6 (l6 (o0 p s.value) (o0 p s.index)) pc) (p.arrays.getD s.target.toNat 0)==(p.arrays.getD s.target.toNat 0))))=false):T2 p s pc=0:=by rw[T2,if_neg al,if_pos k,if_pos (by unfold flB;first|(rw[cy2]at h;exact h)|(rw[cy0]at h;rw[h];simp))]
theorem cu2(k:s.kind=2)(h:(!(i7 (l6 (l6 (o0 p s.value) (o0 p s.index)) pc)&&i7 (p.arrays.getD s.target.toNat 0)&&(l6 (l6 (l6 (o0 p s.value) (o0 p s.index)) pc) (p.arrays.getD s.target.toNat 0)==(p.arrays.getD s.target.toNat 0))))=true):T2 p s pc=1:=by rw[T2,if_neg al,if_pos k,if_neg (by unfold flB;first|(rw[cy2]at h;exact h)|(rw[cy0]at h;rw[h];simp))]
theorem cb6(k:s.kind=5)(h:(!(i7 (o0 p s.value)&&decide (o0 p s.value<=1)))=false)(h2:pc=0):T2 p s pc=0:=by
 rw[cy2]at h
 rw[T2,if_neg al,if_neg al,if_pos k,h,decide_eq_true h2];rfl
theorem cl5(k:s.kind=5)(h:(!(i7 (o0 p s.value)&&decide (o0 p s.value<=1)))=true\/¬pc=0):T2 p s pc=2:=by
 rw[T2,if_neg al,if_neg al,if_pos k]
 rcases h with h|h
 ·rw[cy0]at h
  rw[h];rfl
 rw[decide_eq_false h,Bool.and_false];rfl
theorem fl0(k:¬s.kind=1/\¬s.kind=2/\¬s.kind=5):T2 p s pc=0:=by rw[T2,if_neg k.1,if_neg k.2.1,if_neg k.2.2]
theorem lk3(k:s.kind=3)(h:(i7 (o0 p s.value)&&decide (o0 p s.value%2=1))=true):as3 p s=3:=by rw[as3,if_pos ⟨k,(show af2 _=true from h)⟩]
theorem lkv(h3:¬s.kind=3\/(i7 (o0 p s.value)&&decide (o0 p s.value%2=1))=false)(k:¬s.kind=4)(h:V4 p.vars p.arrays 5 s.value=true):as3 p s=4:=by
 rw[as3,if_neg (by rintro⟨a,b⟩;exact h3.elim (fun h=>h a) (fun h=>Bool.false_ne_true (h.symm.trans b))),if_pos (.inl ⟨k,h⟩)]
theorem lki(k:s.kind=2)(h:(i7 (o0 p s.index)&&decide (o0 p s.index%2=1))=true):as3 p s=4:=by
 rw[as3,if_neg al,if_pos (.inr ⟨k,(show af2 _=true from h)⟩)]
theorem lk0(h3:¬s.kind=3\/(i7 (o0 p s.value)&&decide (o0 p s.value%2=1))=false)(h4:s.kind=4\/V4 p.vars p.arrays 5 s.value=false)(h2:¬s.kind=2\/(i7 (o0 p s.index)&&decide (o0 p s.index%2=1))=false):as3 p s=0:=by
 rw[as3,if_neg (by rintro⟨a,b⟩;exact h3.elim (fun h=>h a) (fun h=>Bool.false_ne_true (h.symm.trans b))),if_neg]
 rintro(⟨a,b⟩|⟨a,b⟩)
 ·rcases h4 with h|h
  ·exact a h
  rw[h]at b;cases b
 rcases h2 with h|h
 ·exact h a
 exact Bool.false_ne_true (h.symm.trans b)
end
abbrev U4(p:f7)(s:c5)(r0:List It):List It:=dI p.vars::dI p.arrays::dT p.body::dE s.index.kids::dE s.value.kids::dT s.body::dT s.els::r0
theorem b20(p:f7)(s:c5)(pc:Int)(strict:Bool)(h:F6 p.vars.length p.arrays.length s=true):j8.ok Tryz.prog (Y3 191 [pA 0,sA s 3,iA pc,bA strict] (pS p++sS s) (iA (ad4 p s pc strict))):=by
  refine H9 94 Tryz.func191 (U4 p s []) [(0,pA 0),(1,sA s 3),(2,iA pc),(3,bA strict)] fun G=>?_;refine wp_seq (j9 G f8 [0,1,2,3,4,5,6,7,15] (U4 p s [.box (pL 0),.box (sL s 3)]) [(2,iA pc),(3,bA strict),(4,.ptr 7 0),(5,.ptr 8 0),(8,iA 0)] fun G=>b6 (wp_seq (wp_seq (l8 G f8 [(10,iA s.kind)] fun G=>b6 (wp_block (wp_seq (l8 G f8 [(11,bA (s.kind==1))] fun G=>b6 (S4 G (fun h0 q0=>?_) fun h0 q0=>?_))))))))
  ·
   refine wp_seq (l8 G f8 [(27,bA (s.kind==2))] fun G=>b6 (S4 G (fun h1 q1=>?_) fun h1 q1=>?_))
   ·
    refine wp_seq (l8 G f8 [(48,bA (s.kind==5))] fun G=>b6 (S4 G (fun h2 q2=>?_) fun h2 q2=>?_))
    ·
     refine wp_seq (l8 G f8 [(60,bA (s.kind==3))] fun G=>b6 (S4 G (fun h3 q3=>?_) fun h3 q3=>?_))
     ·
      refine wp_skip (p8 (b6 (wp_seq (wp_seq ?_))));cases h4:(strict)
      · refine j9 G (K6 (fc h4 fz) (us [(2,5,0),(10,11,0),(22,22,0),(1023,1023,0)])) (rg 7) (U4 p s []) [(8,iA 0),(93,bA false)] fun G=>b6 (rF G false aj (wp_skip (b6 (wp_seq (l8 G f8 [] fun G=>b6 (wp_ret ?_))))));exact rxI 0 G (rg 7) (am8 (fl0 al))
      cases h5:(s.kind !=4)
      · have q5:=bne_eq_false_iff_eq.1 h5;refine j9 G (K6 (fc h4 (fc h5 (fc (b:=false) rfl (fc h1 fz)))) (us [(2,5,0),(6,9,1),(10,10,0),(1010,1010,1),(11,11,0),(12,15,2),(16,20,3),(21,21,2),(1021,1021,3),(22,22,0),(1022,1022,2),(1023,1023,0)])) (rg 7) (U4 p s []) [(8,iA 0),(93,bA false)] fun G=>b6 (rF G false aj (wp_skip (b6 (wp_seq (l8 G f8 [] fun G=>b6 (wp_ret ?_))))));exact rxI 0 G (rg 7) (C0 (fl0 al) (lk0 ae ae ae))
      have q5:=bne_iff_ne.1 h5;cases h6:(V4 p.vars p.arrays (5:Nat) s.value)
      · refine j9 G (I2 (v9 9 [0,1,2,4] (H5 p s.value (C1 h al)) I1) (fc h4 (fc h5 (fc h6 (fc h1 fz)))) (us [(2,5,0),(6,9,1),(10,10,0),(1010,1010,1),(11,11,0),(12,15,2),(16,20,3),(21,21,2),(1021,1021,3),(22,22,0),(1022,1022,2),(1023,1023,0)])) (rg 7) (U4 p s []) [(8,iA 0),(93,bA false)] fun G=>b6 (rF G false aj (wp_skip (b6 (wp_seq (l8 G f8 [] fun G=>b6 (wp_ret ?_))))));exact rxI 0 G (rg 7) (C0 (fl0 al) (lk0 ae (by exact .inr ab) ae))
      refine j9 G (I2 (v9 9 [0,1,2,4] (H5 p s.value (C1 h al)) I1) (fc h4 (fc h5 (fc h6 fz))) (us [(2,5,0),(6,9,1),(10,10,0),(1010,1010,1),(11,11,0),(12,15,2),(21,21,2),(22,22,0),(1022,1022,2),(1023,1023,0)])) (rg 7) (U4 p s []) [(8,iA 0),(93,bA true)] fun G=>b6 (rT G true aj (wp_seq (l8 G f8 [(8,iA 4)] fun G=>b6 (wp_ret (l7 ?_)))));exact rxI 4 G (rg 7) (C0 (fl0 al) (lkv ae al ab))
     refine wp_seq ?_;cases h7:(strict)
     · refine l8 G (K6 (fc h7 fz) (us [(2,6,0),(1007,1007,0)])) [(69,bA false)] fun G=>b6 (rF G false aj (wp_skip (p8 (b6 (wp_seq (wp_seq (j9 G (K6 (fc h7 fz) (us [(2,5,0),(10,11,0),(22,22,0),(1023,1023,0)])) (rg 7) (U4 p s []) [(8,iA 0),(93,bA false)] fun G=>b6 (rF G false aj (wp_skip (b6 (wp_seq (l8 G f8 [] fun G=>b6 (wp_ret ?_)))))))))))));exact rxI 0 G (rg 7) (am8 (fl0 al))
     refine G3 G (I2 (v9 5 [0,1,2,4] (P2 p s.value (C1 h al)) (v9 6 [] (L8 (o0 p s.value)) I1)) (fc h7 fz) (us [(2,6,0),(1007,1007,0)])) [(3,bA strict),(4,.ptr 7 0),(5,.ptr 8 0),(8,iA 0),(69,bA (i7 (o0 p s.value)&&decide (o0 p s.value%2=1)))] fun G=>b6 ?_;cases h8:(i7 (o0 p s.value)&&decide (o0 p s.value%(2:Int)=1))
     ·
      have q8:((i7 (o0 p s.value))=false)\/(¬(o0 p s.value%2=1)):=Or.imp (fun hq=>(hq)) (fun hq=>of_decide_eq_false hq) (Bool.and_eq_false_iff.1 h8);refine rF G _ h8 (wp_skip (p8 (b6 (wp_seq (wp_seq ?_)))));cases h9:(s.kind !=4)
      · have q9:=bne_eq_false_iff_eq.1 h9;exact False.elim al
      have q9:=bne_iff_ne.1 h9;cases h10:(V4 p.vars p.arrays (5:Nat) s.value)
      · refine j9 G (I2 (v9 9 [0,1,2,4] (H5 p s.value (C1 h al)) I1) (fc h7 (fc h9 (fc h10 (fc h1 fz)))) (us [(2,5,0),(6,9,1),(10,10,0),(1010,1010,1),(11,11,0),(12,15,2),(16,20,3),(21,21,2),(1021,1021,3),(22,22,0),(1022,1022,2),(1023,1023,0)])) (rg 7) (U4 p s []) [(8,iA 0),(93,bA false)] fun G=>b6 (rF G false aj (wp_skip (b6 (wp_seq (l8 G f8 [] fun G=>b6 (wp_ret ?_))))));exact rxI 0 G (rg 7) (C0 (fl0 al) (lk0 (by exact .inr ab) (by exact .inr ab) ae))
      refine j9 G (I2 (v9 9 [0,1,2,4] (H5 p s.value (C1 h al)) I1) (fc h7 (fc h9 (fc h10 fz))) (us [(2,5,0),(6,9,1),(10,10,0),(1010,1010,1),(11,11,0),(12,15,2),(21,21,2),(22,22,0),(1022,1022,2),(1023,1023,0)])) (rg 7) (U4 p s []) [(8,iA 0),(93,bA true)] fun G=>b6 (rT G true aj (wp_seq (l8 G f8 [(8,iA 4)] fun G=>b6 (wp_ret (l7 ?_)))));exact rxI 4 G (rg 7) (C0 (fl0 al) (lkv (by exact .inr ab) al ab))
     have q8:((i7 (o0 p s.value))=true)/\(o0 p s.value%2=1):=And.imp (fun hq=>(hq)) (fun hq=>of_decide_eq_true hq) (Bool.and_eq_true_iff.1 h8);refine rT G _ h8 (wp_seq (l8 G f8 [(8,iA 3)] fun G=>b6 (wp_ret (B7 (l7 ?_)))));exact rxI 3 G (rg 7) (C0 (fl0 al) (lk3 ab ab))
    refine wp_seq ?_;cases h11:(!(i7 (o0 p s.value)&&decide (o0 p s.value<=1)))
    ·
     have q11:((i7 (o0 p s.value))=true)/\(o0 p s.value<=1):=(fun hq=>And.imp (fun hq=>(hq)) (fun hq=>of_decide_eq_true hq) (Bool.and_eq_true_iff.1 hq)) (Eq.mp (cy2 _) h11);refine G3 G (I2 (v9 3 [0,1,2,4] (P2 p s.value (C1 h al)) (v9 4 [] (ao4 (o0 p s.value)) I1)) (fc h11 fz) [(7,0),(8,0),(1009,0)]) [(3,bA strict),(4,.ptr 7 0),(5,.ptr 8 0),(8,iA 0),(59,bA (pc !=0))] fun G=>b6 (rcN G (fun h12 q12=>?_) fun h12 q12=>?_)
     ·
      refine wp_skip (p8 (b6 (wp_seq (wp_seq ?_))));cases h13:(strict)
      · refine j9 G (K6 (fc h13 fz) (us [(2,5,0),(10,11,0),(22,22,0),(1023,1023,0)])) (rg 7) (U4 p s []) [(8,iA 0),(93,bA false)] fun G=>b6 (rF G false aj (wp_skip (b6 (wp_seq (l8 G f8 [] fun G=>b6 (wp_ret ?_))))));exact rxI 0 G (rg 7) (am8 (cb6 ab ab ab))
      cases h14:(s.kind !=4)
      · have q14:=bne_eq_false_iff_eq.1 h14;exact False.elim al
      have q14:=bne_iff_ne.1 h14;cases h15:(V4 p.vars p.arrays (5:Nat) s.value)
      · refine j9 G (I2 (v9 9 [0,1,2,4] (H5 p s.value (C1 h al)) I1) (fc h13 (fc h14 (fc h15 (fc h1 fz)))) (us [(2,5,0),(6,9,1),(10,10,0),(1010,1010,1),(11,11,0),(12,15,2),(16,20,3),(21,21,2),(1021,1021,3),(22,22,0),(1022,1022,2),(1023,1023,0)])) (rg 7) (U4 p s []) [(8,iA 0),(93,bA false)] fun G=>b6 (rF G false aj (wp_skip (b6 (wp_seq (l8 G f8 [] fun G=>b6 (wp_ret ?_))))));exact rxI 0 G (rg 7) (C0 (cb6 ab ab ab) (lk0 ae (by exact .inr ab) ae))
      refine j9 G (I2 (v9 9 [0,1,2,4] (H5 p s.value (C1 h al)) I1) (fc h13 (fc h14 (fc h15 fz))) (us [(2,5,0),(6,9,1),(10,10,0),(1010,1010,1),(11,11,0),(12,15,2),(21,21,2),(22,22,0),(1022,1022,2),(1023,1023,0)])) (rg 7) (U4 p s []) [(8,iA 0),(93,bA true)] fun G=>b6 (rT G true aj (wp_seq (l8 G f8 [(8,iA 4)] fun G=>b6 (wp_ret (l7 ?_)))));exact rxI 4 G (rg 7) (C0 (cb6 ab ab ab) (lkv ae al ab))
     refine wp_seq (l8 G f8 [(8,iA 2)] fun G=>b6 (wp_ret (B7 (l7 ?_))));exact rxI 2 G (rg 7) (ax4 (cl5 ab (.inr ab)) ak)
    have q11:((i7 (o0 p s.value))=false)\/(¬(o0 p s.value<=1)):=(fun hq=>Or.imp (fun hq=>(hq)) (fun hq=>of_decide_eq_false hq) (Bool.and_eq_false_iff.1 hq)) (Eq.mp (cy0 _) h11);refine l8 G (I2 (v9 3 [0,1,2,4] (P2 p s.value (C1 h al)) (v9 4 [] (ao4 (o0 p s.value)) I1)) (fc h11 fz) [(7,0),(8,0),(1009,0)]) [(59,bA true)] fun G=>b6 (rT G true aj (wp_seq (l8 G f8 [(8,iA 2)] fun G=>b6 (wp_ret (B7 (l7 ?_))))));exact rxI 2 G (rg 7) (ax4 (cl5 ab (.inl ab)) ak)
   refine wp_seq (ch5 G (I2 (v9 3 [0,1,2,4] (P2 p s.value (C1 h al)) (v9 7 (rg 4) (P2 p s.index (aQ9 h ab)) (v9 17 [] (az3 (l6 (l6 (o0 p s.value) (o0 p s.index)) pc) (p.arrays.getD s.target.toNat 0)) I1))) fz []) [0,0,2,7,0,0,32,127,255,0,1023,0,2048,0,8192,30720,63488,131071,262143] [(3,bA strict),(4,.ptr 7 0),(5,.ptr 8 0),(8,iA 0),(47,.v (.bool !(i7 (l6 (l6 (o0 p s.value) (o0 p s.index)) pc)&&i7 (p.arrays.getD s.target.toNat 0)&&l6 (l6 (l6 (o0 p s.value) (o0 p s.index)) pc) (p.arrays.getD s.target.toNat 0)==p.arrays.getD s.target.toNat 0)))] [(0:Int)<=s.target,s.target<(p.arrays.length:Int),s.target.toNat<p.arrays.length] ⟨((aR0 h al).1),((aR0 h al).2.1),((aR0 h al).2.2),cx2⟩ fun G=>b6 ?_);cases h16:(!(i7 (l6 (l6 (o0 p s.value) (o0 p s.index)) pc)&&i7 (p.arrays.getD s.target.toNat (0:Int))&&l6 (l6 (l6 (o0 p s.value) (o0 p s.index)) pc) (p.arrays.getD s.target.toNat (0:Int))==p.arrays.getD s.target.toNat (0:Int)))
   ·
    have q16:(((i7 (l6 (l6 (o0 p s.value) (o0 p s.index)) pc))=true)/\((i7 (p.arrays.getD s.target.toNat 0))=true))/\(l6 (l6 (l6 (o0 p s.value) (o0 p s.index)) pc) (p.arrays.getD s.target.toNat 0)=p.arrays.getD s.target.toNat 0):=(fun hq=>And.imp (fun hq=>And.imp (fun hq=>(hq)) (fun hq=>(hq)) (Bool.and_eq_true_iff.1 hq)) (fun hq=>eq_of_beq hq) (Bool.and_eq_true_iff.1 hq)) (Eq.mp (cy2 _) h16);refine rF G _ h16 (wp_skip (p8 (b6 (wp_seq (wp_seq ?_)))));cases h17:(strict)
    · refine j9 G (K6 (fc h17 fz) (us [(2,5,0),(10,11,0),(22,22,0),(1023,1023,0)])) (rg 7) (U4 p s []) [(8,iA 0),(93,bA false)] fun G=>b6 (rF G false aj (wp_skip (b6 (wp_seq (l8 G f8 [] fun G=>b6 (wp_ret ?_))))));exact rxI 0 G (rg 7) (am8 (b02 ab ab))
    cases h18:(s.kind !=4)
    · have q18:=bne_eq_false_iff_eq.1 h18;exact False.elim al
    have q18:=bne_iff_ne.1 h18;cases h19:(V4 p.vars p.arrays (5:Nat) s.value)
    ·
     refine j9 G (I2 (v9 9 [0,1,2,4] (H5 p s.value (C1 h al)) (v9 19 (rg 4) (P2 p s.index (aQ9 h ab)) (v9 20 [] (L8 (o0 p s.index)) I1))) (fc h17 (fc h18 (fc h19 (fc h1 fz)))) (us [(2,5,0),(6,9,1),(10,10,0),(1010,1010,1),(11,11,0),(12,15,2),(16,20,3),(21,21,2),(1021,1021,3),(22,22,0),(1022,1022,2),(1023,1023,0)])) (rg 7) (U4 p s []) [(8,iA 0),(93,bA (i7 (o0 p s.index)&&decide (o0 p s.index%2=1)))] fun G=>b6 ?_;cases h20:(i7 (o0 p s.index)&&decide (o0 p s.index%(2:Int)=1))
     · have q20:((i7 (o0 p s.index))=false)\/(¬(o0 p s.index%2=1)):=Or.imp (fun hq=>(hq)) (fun hq=>of_decide_eq_false hq) (Bool.and_eq_false_iff.1 h20);refine rF G _ h20 (wp_skip (b6 (wp_seq (l8 G f8 [] fun G=>b6 (wp_ret ?_)))));exact rxI 0 G (rg 7) (C0 (b02 ab ab) (lk0 ae (by exact .inr ab) (by exact .inr ab)))
     have q20:((i7 (o0 p s.index))=true)/\(o0 p s.index%2=1):=And.imp (fun hq=>(hq)) (fun hq=>of_decide_eq_true hq) (Bool.and_eq_true_iff.1 h20);refine rT G _ h20 (wp_seq (l8 G f8 [(8,iA 4)] fun G=>b6 (wp_ret (l7 ?_))));exact rxI 4 G (rg 7) (C0 (b02 ab ab) (lki ab ab))
    refine j9 G (I2 (v9 9 [0,1,2,4] (H5 p s.value (C1 h al)) I1) (fc h17 (fc h18 (fc h19 fz))) (us [(2,5,0),(6,9,1),(10,10,0),(1010,1010,1),(11,11,0),(12,15,2),(21,21,2),(22,22,0),(1022,1022,2),(1023,1023,0)])) (rg 7) (U4 p s []) [(8,iA 0),(93,bA true)] fun G=>b6 (rT G true aj (wp_seq (l8 G f8 [(8,iA 4)] fun G=>b6 (wp_ret (l7 ?_)))));exact rxI 4 G (rg 7) (C0 (b02 ab ab) (lkv ae al ab))
   have q16:(((i7 (l6 (l6 (o0 p s.value) (o0 p s.index)) pc))=false)\/((i7 (p.arrays.getD s.target.toNat 0))=false))\/(¬(l6 (l6 (l6 (o0 p s.value) (o0 p s.index)) pc) (p.arrays.getD s.target.toNat 0)=p.arrays.getD s.target.toNat 0)):=(fun hq=>Or.imp (fun hq=>Or.imp (fun hq=>(hq)) (fun hq=>(hq)) (Bool.and_eq_false_iff.1 hq)) (fun hq=>ne_of_beq_false hq) (Bool.and_eq_false_iff.1 hq)) (Eq.mp (cy0 _) h16);refine rT G _ h16 (wp_seq (l8 G f8 [(8,iA 1)] fun G=>b6 (wp_ret (B7 (l7 ?_)))));exact rxI 1 G (rg 7) (ax4 (cu2 ab ab) ak)
  refine wp_seq (ch5 G (I2 (v9 3 [0,1,2,4] (P2 p s.value (C1 h al)) (v9 12 [] (az3 (l6 (o0 p s.value) pc) (p.vars.getD s.target.toNat 0)) I1)) fz []) [0,0,2,7,0,31,0,64,0,256,960,1984,4095,8191] [(3,bA strict),(4,.ptr 7 0),(5,.ptr 8 0),(8,iA 0),(26,.v (.bool !(i7 (l6 (o0 p s.value) pc)&&i7 (p.vars.getD s.target.toNat 0)&&l6 (l6 (o0 p s.value) pc) (p.vars.getD s.target.toNat 0)==p.vars.getD s.target.toNat 0)))] [(0:Int)<=s.target,s.target<(p.vars.length:Int),s.target.toNat<p.vars.length] ⟨((aQ8 h al).1),((aQ8 h al).2.1),((aQ8 h al).2.2),cx2⟩ fun G=>b6 ?_);cases h21:(!(i7 (l6 (o0 p s.value) pc)&&i7 (p.vars.getD s.target.toNat (0:Int))&&l6 (l6 (o0 p s.value) pc) (p.vars.getD s.target.toNat (0:Int))==p.vars.getD s.target.toNat (0:Int)))
  ·
   have q21:(((i7 (l6 (o0 p s.value) pc))=true)/\((i7 (p.vars.getD s.target.toNat 0))=true))/\(l6 (l6 (o0 p s.value) pc) (p.vars.getD s.target.toNat 0)=p.vars.getD s.target.toNat 0):=(fun hq=>And.imp (fun hq=>And.imp (fun hq=>(hq)) (fun hq=>(hq)) (Bool.and_eq_true_iff.1 hq)) (fun hq=>eq_of_beq hq) (Bool.and_eq_true_iff.1 hq)) (Eq.mp (cy2 _) h21);refine rF G _ h21 (wp_skip (p8 (b6 (wp_seq (wp_seq ?_)))));cases h22:(strict)
   · refine j9 G (K6 (fc h22 fz) (us [(2,5,0),(10,11,0),(22,22,0),(1023,1023,0)])) (rg 7) (U4 p s []) [(8,iA 0),(93,bA false)] fun G=>b6 (rF G false aj (wp_skip (b6 (wp_seq (l8 G f8 [] fun G=>b6 (wp_ret ?_))))));exact rxI 0 G (rg 7) (am8 (cb7 ab ab))
   cases h23:(s.kind !=4)
   · have q23:=bne_eq_false_iff_eq.1 h23;exact False.elim al
   have q23:=bne_iff_ne.1 h23;cases h24:(V4 p.vars p.arrays (5:Nat) s.value)
   ·
    cases h25:(s.kind==2)
    · have q25:=ne_of_beq_false h25;refine j9 G (I2 (v9 9 [0,1,2,4] (H5 p s.value (C1 h al)) I1) (fc h22 (fc h23 (fc h24 (fc h25 fz)))) (us [(2,5,0),(6,9,1),(10,10,0),(1010,1010,1),(11,11,0),(12,15,2),(16,20,3),(21,21,2),(1021,1021,3),(22,22,0),(1022,1022,2),(1023,1023,0)])) (rg 7) (U4 p s []) [(8,iA 0),(93,bA false)] fun G=>b6 (rF G false aj (wp_skip (b6 (wp_seq (l8 G f8 [] fun G=>b6 (wp_ret ?_))))));exact rxI 0 G (rg 7) (C0 (cb7 ab ab) (lk0 ae (by exact .inr ab) ae))
    have q25:=eq_of_beq h25;exact False.elim al
   refine j9 G (I2 (v9 9 [0,1,2,4] (H5 p s.value (C1 h al)) I1) (fc h22 (fc h23 (fc h24 fz))) (us [(2,5,0),(6,9,1),(10,10,0),(1010,1010,1),(11,11,0),(12,15,2),(21,21,2),(22,22,0),(1022,1022,2),(1023,1023,0)])) (rg 7) (U4 p s []) [(8,iA 0),(93,bA true)] fun G=>b6 (rT G true aj (wp_seq (l8 G f8 [(8,iA 4)] fun G=>b6 (wp_ret (l7 ?_)))));exact rxI 4 G (rg 7) (C0 (cb7 ab ab) (lkv ae al ab))
  have q21:(((i7 (l6 (o0 p s.value) pc))=false)\/((i7 (p.vars.getD s.target.toNat 0))=false))\/(¬(l6 (l6 (o0 p s.value) pc) (p.vars.getD s.target.toNat 0)=p.vars.getD s.target.toNat 0)):=(fun hq=>Or.imp (fun hq=>Or.imp (fun hq=>(hq)) (fun hq=>(hq)) (Bool.and_eq_false_iff.1 hq)) (fun hq=>ne_of_beq_false hq) (Bool.and_eq_false_iff.1 hq)) (Eq.mp (cy0 _) h21);refine rT G _ h21 (wp_seq (l8 G f8 [(8,iA 1)] fun G=>b6 (wp_ret (B7 (l7 ?_)))));exact rxI 1 G (rg 7) (ax4 (cu3 ab ab) ak)
end Go.Proofs.YtfbeblgnjeokaaaGreat
