/- Part 4: functions on the way, plain laws. Conditions: as said. -/
import Derived.Deep.LoopGhost
import Derived.IntWalk
import Derived.WalkSpells
import Derived.Lib.SliceRun
import Derived.Test.YtfbeblgnjeokaaaGreatK1
import Derived.Test.YtfbeblgnjeokaaaGreatK3
set_option maxRecDepth 100000
set_option maxHeartbeats 16000000
set_option linter.unusedVariables false
set_option linter.unusedSimpArgs false
open Bool renaming true → V, false → U
open Option renaming some → Z, none → I
open Decidable renaming decide → Y
open Array renaming replicate → Jw
open Bool renaming and_eq_false_iff → HW, and_eq_true → Aj, and_eq_true_iff → Gy, eq_iff_iff → GQ, not_eq_false' → Cp, not_eq_true' → Cn, or_eq_true → Gg, true_and → IG
open Inhabited renaming default → K
open List renaming all_cons → IS, all_eq_true → Bt, append_assoc → Fj, cons_append → IR, eq_nil_of_length_eq_zero → FM, getD_eq_getElem?_getD → Bu, getElem?_append_left → Fb, getElem?_eq_getElem → CF, getElem?_eq_none → FO, getElem?_eq_some_iff → EA, getElem_mem → EL, length_append → Az, length_cons → BK, length_nil → Bc, length_replicate → FX, length_set → GP, map_cons → Fa, mem_append → DQ, mem_cons_of_mem → Ep, mem_cons_self → EI, mem_of_getElem? → FF, mem_range → GW, range → DA, replicate → Ac, take → Ae, take_of_length_le → Dq
open Nat renaming add_zero → Fx, le_refl → BR, le_trans → DO, lt_of_lt_of_le → IM, lt_or_ge → Du, zero_add → GS, zero_le → Di
open Option renaming isSome_iff_exists → MD, map_eq_some_iff → Ds
open True renaming intro → Ay

open List renaming length → J
open Go renaming wp_seq → B, wp_ret → AT, wp_skip → Aq, wp_block → BN
open Go.Proofs.Tryz
namespace Go.Proofs.YtfbeblgnjeokaaaGreat
open Go Go.RowKit
def Fz{b:Type}(c:Gc->Option b):List Gc->Nat->(Nat->Bool)->b->b
 |[],_,_,v=>v
 |a::r,k,d,v=>Fz c r (k+1) d (match c a with|some x=>if d k then x else v|none=>v)
theorem QG{l:Type}{c:Gc->Option l}{g e}:∀{i:List Gc} {k:Nat} {v:l},(∀j a,i[j]? =Z a->(c a).isSome=V->g (k+j)=e (k+j))->Fz c i k g v=Fz c i k e v
 |[],_,_,_=>rfl
 | a :: r, k, v, h => by
  simp only[Fz];have f:=h 0 a rfl
  have m:∀j b,r[j]? =Z b->(c b).isSome=V->g (k+1+j)=e (k+1+j):=λj b n d=>by
   have:=h (j+1) b (by simpa using n) d
   rw[show k+(j+1)=k+1+j by omega]at this;exact this
  cases d:c a with
  |none=>exact QG m
  |some x=>
   rw[d]at f;simp only[Fx,Option.isSome_some,forall_const]at f;rw[f];exact QG m
theorem Qj{g:Type}{c:Gc->Option g}{e}:∀{i:List Gc} {k:Nat} {v:g},(∀j a,i[j]? =Z a->(c a).isSome=V->e (k+j)=U)->Fz c i k e v=v
 |[],_,_,_=>rfl
 | a :: r, k, v, h => by
  simp only[Fz];have f:=h 0 a rfl
  have m:∀j b,r[j]? =Z b->(c b).isSome=V->e (k+1+j)=false:=λj b l d=>by
   have:=h (j+1) b (by simpa using l) d
   rw[show k+(j+1)=k+1+j by omega]at this;exact this
  rw[Qj m];cases d:c a with
  |none=>rfl
  |some x=>
   rw[d]at f;simp only[Fx,Option.isSome_some,forall_const]at f;simp[f]
theorem ff{p:Type}{f:Gc->Option p}{l}:∀{o:List Gc} {k i:Nat} {v x:p} {a:Gc},o[i]? =Z a->f a=Z x->l (k+i)=V->(∀j b,i<j->o[j]? =Z b->(f b).isSome=V->l (k+j)=U)->Fz f o k l v=x
 |[],_,_,_,_,_,h,_,_,_=>by simp at h
 |b::r,k,0,v,x,a,h,e,d,n=>by
  simp at h;subst h;simp only[Fz,e];rw[Fx]at d;rw[d,AZ rfl];refine Qj λj c g m=>?_
  have:=n (j+1) c O (by simpa using g) m
  rw[show k+(j+1)=k+1+j by omega]at this;exact this
 |b::r,k,i+1,v,x,a,h,e,d,n=>by
  simp only[Fz];refine ff (i:=i) (by simpa using h) e (by rw[show k+1+i=k+(i+1) by omega];exact d) λj c q g m=>?_
  have:=n (j+1) c O (by simpa using g) m
  rw[show k+(j+1)=k+1+j by omega]at this;exact this
theorem Wj{c:Type}{e:Gc->Option c}{i}(p:c->Prop):∀{l:List Gc} {k:Nat} {v:c},p v->(∀j a x,l[j]? =Z a->i (k+j)=V->e a=Z x->p x)->p (Fz e l k i v)
 |[],_,_,h,_=>h
 | a :: r, k, v, h, g => by
  simp only[Fz];refine Wj p ?_ λj b x m f d=>g (j+1) b x (by simpa using m) (by rw[show k+(j+1)=k+1+j by omega];exact f) d
  cases d:e a with
  |none=>exact h
  |some x=>
   simp only;split
   ·rename_i f;exact g 0 a x rfl (by simpa using f) d
   exact h
def Sa:List (Nat×AI)->Nat->Option AI
 |[],_=>I
 |(k,x)::r,i=>if i=k then Z x else Sa r i
theorem kW(S:Nat->AI)(i:Nat):∀(l:List (Nat×AI)),Bq S l i=match Sa l i with|some x=>x|none=>S i
 |[]=>rfl
 |(k,x)::r=>by simp only[Bq,Sa];split;rfl;exact kW S i r
theorem Sn{l}{i}{x}(h:Sa l i=Z x):(i,x)∈l:=by
 induction l with
 |nil=>cases h
 |cons p r a=>
  obtain⟨k,y⟩:=p;simp only[Sa]at h;split at h
  ·rename_i e;cases h;rw[e];exact EI
  exact Ep _ (a h)
def Kf(t:Nat)(a:Gc):Option (Option AA):=if a.dst=Z t then Z (Z a.t.res)else I
def LF(i:Nat)(a:Gc):Option AI:=Sa a.t.new i
def Tu(a:List Gc)(b:Nat->Bool)(c:Nat->Option AA):Nat->Option AA:=λt=>Fz (Kf t) a 0 b (c t)
def OS(a:List Gc)(b:Nat->Bool)(S:Nat->AI):Nat->AI:=λi=>Fz (LF i) a 0 b (S i)
def KZ(a:List Nat)(j i:Nat):Bool:=(CX a i).testBit j
def kh(a:List Nat)(o:Oper):Nat:=o.after.foldl (λs e=>if Region.binds .any e then s|||(2^e.on|||CX a e.on)else s) 0
def bf(a:List Nat)(l:List Oper):Bool:=(DA (J l)).all λi=>match l[i]? with|some o=>CW (CX a i) (kh a o)|none=>U
def Mn(a b:Gc):Bool:=
 (match b.dst with|some t=>Ee t a.rt||(match a.dst with|some s=>CW s t|none=>U)|none=>U)||
 b.t.new.any (λp=>Ee p.1 a.ri||a.t.new.any λq=>CW q.1 p.1)
def fl(d:List Nat)(c:List Gc):Bool:=
 (DA (J c)).all λi=>(DA (J c)).all λj=>
  match c[i]?,c[j]? with
  |some a,Z b=>CW i j|| !Mn a b||(if Y (j<i)then KZ d j i else KZ d i j)
  |_,_=>U
def ZP(S:Nat->AI)(a:List Gc)(j:Nat):Nat:=match a.findSome? (LF j)with
 |some x=>Ia x
 |none=>Ia (S j)
def gw(d:List Nat)(S:Nat->AI)(c:List Gc):Bool:=
 (DA (J c)).all λi=>
  match c[i]? with
  |some a=>a.rk.all λj=>c.all (λb=>match LF j b with|some x=>CW (Ia x) (ZP S c j)|none=>V)&&(CW (Ia (S j)) (ZP S c j)||(DA i).any λk=>KZ d k i&&match c[k]? with|some b=>(LF j b).isSome|none=>U)
  |none=>V
theorem sS{c:Type}{d:Gc->Option c}{n}(p:c->Prop):∀{i:List Gc} {k:Nat} {v:c},(∀(j:Nat) (a:Gc) (x:c),i[j]? =Z a->d a=Z x->p x)->(p v\/∃j a,i[j]? =Z a/\(d a).isSome=V/\n (k+j)=V)->p (Fz d i k n v)
 |[],_,_,_,h=>by rcases h with h|⟨j,a,h,_⟩;exact h;simp at h
 | a :: r, k, v, g, h => by
  simp only[Fz];refine sS p (λj b x o=>g (j+1) b x (by simpa using o)) ?_
  rcases h with h|⟨j,b,e,l,f⟩
  ·left
   cases q:d a with
   |none=>exact h
   |some x=>
    simp only;split
    ·exact g 0 a x rfl q
    exact h
  cases j with
  |zero=>
   left;simp at e;subst e;obtain⟨x,m⟩:=MD.1 l;rw[m];rw[Fx]at f;simp only[f,if_true];exact g 0 _ x rfl m
  |succ j=>
   right;exact⟨j,b,by simpa using e,l,by rw[show k+1+j=k+(j+1) by omega];exact f⟩
theorem rB{n}{S}{d}(h:gw n S d=V){i}{a}(l:d[i]? =Z a){j}(t:j∈a.rk){m}(r:∀k,k<i->KZ n k i=V->m k=V):Ia (Fz (LF j) d 0 m (S j))=ZP S d j:=by
 have u:=(EA.1 l).1;have p:=Bt.1 h i (GW.2 u);rw[l]at p;have g:=Bt.1 p j t;simp only[Aj,Gg]at g;refine sS (λx=>Ia x=ZP S d j) (λq b x e s=>?_) ?_
 ·have:=Bt.1 g.1 b (FF e)
  rw[s]at this;simpa[CW]using this
 rcases g.2 with f|f
 ·left;simpa[CW]using f
 right;obtain⟨k,o,c⟩:=List.any_eq_true.1 f;rw[GW]at o;simp only[Aj]at c;cases e:d[k]? with
 |none=>rw[e]at c;cases c.2
 |some b=>
  rw[e]at c;exact⟨k,b,e,c.2,by rw[GS];exact r k o c.1⟩
def fC(d:List Nat)(b:Nat)(c:List Gc):Bool:=
 (DA (J c)).all λi=>
  match c[i]? with
  |some a=>(a.t.res.ids++a.t.new.map (·.1)++a.t.new.flatMap (λp=>p.2.ids)).all λid=>Y (id<b)||CW ((id-b)/8) i||KZ d ((id-b)/8) i
  |none=>U
section
variable{P:Program}{ι:Type}{φ ψ:Nat->Prop}{w0 w w':World}{F:ι->Bv}{ρ:Nat->Value}{S:Nat->AI}{N n:Nat}
theorem jN{b c:Type}{f g:b->Option c}:∀{l:List b},(∀x∈l,f x=g x)->l.filterMap f=l.filterMap g
 |[],_=>rfl
 |a::r,h=>by rw[List.filterMap_cons,List.filterMap_cons,h a EI,jN λx d=>h x (Ep _ d)]
theorem tJ{a}{H}{tm b}{i}{o}(h:∀t∈Yx a o,b t=tm t):Rz a H b i o=Rz a H tm i o:=by
 unfold Rz;unfold Yx at h;cases f:o.guard with
 |none=>rfl
 | some q =>
  obtain⟨j,c⟩:=q;rw[f]at h;simp only at h ⊢;cases e:(a[j]?).bind (·.dst)with
  |none=>rfl
  |some t=>
   rw[e]at h;simp only at h ⊢;rw[h t At]
theorem J4{m:TypeId->Nat}{H}{g}{i}{o}{d tm'}{S S'}{s}{G}(h:NI P m N g H i o d S n=Z (s,G))(l:∀t∈s.rt,tm' t=d t)(v:∀j∈s.ri,S' j=S j)(E:∀j∈s.rk,Ia (S' j)=Ia (S j)):NI P m N g H i o tm' S' n=Z (s,G):=by
 unfold NI at h ⊢;split at h
 case isFalse=>cases h
 rename_i Q
 rw[AZ Q];cases u:Rz g H d i o with
 |none=>rw[u]at h;cases h
 | some q =>
  obtain⟨b,lq,rq⟩:=q;rw[u]at h;cases b
  ·simp only at h
   cases h
   rw[tJ (tm:=d) l,u]
  simp only at h;cases z:RO P m H d S n i o.op with
  |none=>rw[z]at h;cases h
  | some t =>
   rw[z]at h;simp only at h;split at h
   case isFalse=>cases h
   rename_i X
   cases h
   simp only at l v E;rw[tJ (tm:=d) λt e=>l t (List.mem_append_right _ e),u]
   have k:IX tm' (FW o.op)=IX d (FW o.op):=by
    funext t;unfold IX;split
    ·rename_i r;exact l t (List.mem_append_left _ (Gk.1 r))
    rfl
   have y:Ir tm' o.op=Ir d o.op:=by
    have x:Ka tm' (FW o.op)=Ka d (FW o.op):=by
     unfold Ka;congr 1;exact jN λt e=>l t (List.mem_append_left _ e)
    cases f:o.op<;>simp only[Ir]<;>rw[<-f]<;>first|rw[k,x]|exact x
   have D:Iv tm' o.op=Iv d o.op:=by
    have x:Ka tm' (FW o.op)=Ka d (FW o.op):=by
     unfold Ka;congr 1;exact jN λt e=>l t (List.mem_append_left _ e)
    cases f:o.op<;>simp only[Iv]<;>rw[<-f,k,x]
   have R:RO P m H tm' S' n i o.op=RO P m H d S n i o.op:=by
    unfold RO;cases C:IY H.calls i with
    |none=>
     simp only;rw[k,y,D,N0 (λj T=>v j (List.mem_append_left _ T)) E]
    | some q =>
     obtain⟨c,L⟩:=q;simp only;rw[k,y];congr 1;funext j;unfold Fo;split
     ·rename_i r
      refine v j ?_;unfold Zl;rw[C];exact Gk.1 r
     rfl
   have M:SL H tm' S' n i o.op=SL H d S n i o.op:=by
    unfold SL;cases C:IY H.calls i with
    |none=>simp only;rw[k]
    | some q =>
     obtain⟨c,L⟩:=q;simp only;rw[k,y];congr 1;funext j;unfold Fo;split
     ·rename_i r
      refine v j ?_;unfold Zl;rw[C];exact Gk.1 r
     rfl
   rw[R,z,M];simp only;rw[y,D,AZ X]
theorem A8{X:TypeId->Nat}{H}(hH:∀i c R,IY H.calls i=Z (c,R)->c.ok P)(z:JA H.facts){f}{i}{o}{D}{a}(u:∀t x,D t=Z x->a.tmps[t]? =Z (x.val ρ))(M:BV φ ψ w0 w (Am F ρ S)){d}{g}(h:NI P X N f H i o D S n=Z (d,g))(G:Cl g)(he:d.eqs.1=d.eqs.2)(m:d.eqw.1=d.eqw.2)
  (s:∀j∈d.t.made,S j=.none) (hi:FV S ρ d.t.made)
  {Q} {e} (C:∀b w',FK d.t.made ρ b->BV φ ψ w0 w' (Am F b (Bq S d.t.new))->wpList P f.toArray Q e (a.put o.dst (d.t.res.val b)) w'):wpList P f.toArray Q (o::e) a w:=by
 unfold NI at h;split at h
 case isFalse=>cases h
 rename_i hd
 split at h
 case h_1=>cases h
 ·rename_i l r q
  cases h
  refine sx (ZL (ρ:=ρ) z q m λt y _ k=>u t y k) ?_
  exact C ρ w (FK.refl _ _) (by simpa[iW,Bq]using M)
 rename_i l r q
 split at h
 case h_1=>cases h
 rename_i t L
 split at h
 case isFalse=>cases h
 rename_i E
 cases h
 simp only[Aj]at E;refine FG.wp (ZL (ρ:=ρ) z q m λt y _ k=>u t y k) ?_
 refine(ni M hH z (λt y _ k=>u t y k) L G he s hi (λj T=>?_)).mono ?_
 ·obtain⟨p,hp,rfl⟩:=List.mem_map.1 T
  have:=Bt.1 E.2 p hp;simp only[Gg]at this;exact this.imp Gk.1 Gk.1
 rintro v w' ⟨b,p1,p2,rfl⟩;exact C b w' p1 p2
theorem mE{y:TypeId->Nat}{H}{d}:∀(l:List Oper) (i n:Nat) {c:List (Nat×AA)} {S:Nat->AI} {r:Us},Hx P y N d H l i c S n=Z r->Cl r.obs->
  J r.acts=J l/\(∀t,Db r.tm t=Fz (Kf t) r.acts i (λ_=>V) (Db c t))/\(∀j,r.S j=Fz (LF j) r.acts i (λ_=>V) (S j))/\
  ∀k o,l[k]? =Z o->∃b e,r.acts[k]? =Z b/\Cl e/\NI P y N d H (i+k) o (λt=>Fz (Kf t) r.acts i (λj=>Y (j<i+k)) (Db c t)) (λj=>Fz (LF j) r.acts i (λq=>Y (q<i+k)) (S j)) (n+8*k)=Z (b,e)
 |[],i,n,c,S,r,h,_=>by cases h;exact⟨rfl,λ_=>rfl,λ_=>rfl,λk o h=>by simp at h⟩
 | o :: l, i, n, c, S, r, h, g => by
  simp only[Hx]at h;split at h
  case h_1=>cases h
  rename_i b e Q
  split at h
  case h_1=>cases h
  rename_i s R
  cases h
  simp only[Cl.append]at g;obtain⟨E,X,M,T⟩:=mE l (i+1) (n+8) R g.2
  have z:∀t,Db (RT b.dst b.t.res c) t=match Kf t b with|some x=>x|none=>Db c t:=λt=>by
   rw[qw];simp only[OZ,Kf];split<;>rfl
  have Em:∀j,Bq S b.t.new j=match LF j b with|some x=>x|none=>S j:=λj=>kW S j _
  refine⟨by simp[E],λt=>?_,λj=>?_,λk L p=>?_⟩
  ·rw[X t,z];simp only[Fz];cases Kf t b<;>rfl
  ·rw[M j,Em];simp only[Fz];cases LF j b<;>rfl
  cases k with
  | zero =>
   simp at p;subst p;refine⟨b,e,rfl,g.1,?_⟩
   have f:(λt=>Fz (Kf t) (b::s.acts) i (λj=>Y (j<i+0)) (Db c t))=Db c:=by
    funext t;exact Qj λj a _ _=>At
   have v:(λj=>Fz (LF j) (b::s.acts) i (λq=>Y (q<i+0)) (S j))=S:=by
    funext j;exact Qj λj a _ _=>At
   rw[f,v];exact Q
  | succ k =>
   obtain⟨m,u,G,D,m3⟩:=T k L (by simpa using p)
   refine⟨m,u,by simpa using G,D,?_⟩
   have C:Y (i<i+(k+1))=true:=At
   have f:(λt=>Fz (Kf t) (b::s.acts) i (λj=>Y (j<i+(k+1))) (Db c t))=λt=>Fz (Kf t) s.acts (i+1) (λj=>Y (j<i+1+k)) (Db (RT b.dst b.t.res c) t):=by
    funext t;rw[z];simp only[Fz,C,if_true];rw[show i+(k+1)=i+1+k by omega]
    cases Kf t b<;>rfl
   have v:(λj=>Fz (LF j) (b::s.acts) i (λq=>Y (q<i+(k+1))) (S j))=λj=>Fz (LF j) s.acts (i+1) (λq=>Y (q<i+1+k)) (Bq S b.t.new j):=by
    funext j;rw[Em];simp only[Fz,C,if_true];rw[show i+(k+1)=i+1+k by omega]
    cases LF j b<;>rfl
   rw[f,v,show i+(k+1)=i+1+k by omega,show n+8*(k+1)=n+8+8*k by omega]
   exact m3
def hG(l:List Oper)(a:Nat->Bool):Prop:=∀j o,l[j]? =Z o->a j=V->∀e∈o.after,Region.binds .any e=V->a e.on=V
theorem lf{c}{o}{j}(h:(kh c o).testBit j=V):∃e∈o.after,Region.binds .any e=V/\(e.on=j\/KZ c j e.on=V):=by
 unfold kh at h;rw[<-Array.foldl_toList]at h
 have g:∀(b:List Edge) (s:Nat),(b.foldl (λs e=>if Region.binds .any e then s|||(2^e.on|||CX c e.on)else s) s).testBit j=V->s.testBit j=V\/∃e∈b,Region.binds .any e=V/\(e.on=j\/KZ c j e.on=V):=by
  intro b;induction b with
  |nil=>intro s h;exact .inl h
  | cons e r l =>
   intro s h;simp only[List.foldl_cons]at h;rcases l _ h with a|⟨k,f,d⟩
   ·split at a
    ·rename_i i
     simp only[Nat.testBit_or,Gg,Nat.testBit_two_pow,decide_eq_true_eq]at a;rcases a with a|a|a
     ·exact .inl a
     ·exact .inr ⟨e,EI,i,.inl a⟩
     exact .inr ⟨e,EI,i,.inr a⟩
    exact .inl a
   exact .inr ⟨k,Ep _ f,d⟩
 rcases g _ _ h with a|⟨e,m,d⟩
 ·simp at a
 exact⟨e,by simpa using m,d⟩
theorem nB{k}{l}(s:bf k l=V)(o:Qf l.toArray=V){f}(r:hG l f):∀i,i<J l->f i=V->∀j,KZ k j i=V->f j=true:=by
 intro i;induction i using Nat.strongRecOn with
 |_ i t=>
  intro a p j d;have b:=Bt.1 s i (GW.2 a);rw[CF a]at b;simp only[CW,beq_iff_eq]at b;unfold KZ at d;rw[b]at d;obtain⟨e,m,g,c⟩:=lf d;have h:=r i _ (CF a) p e m g;have q:=fQ o (show i<l.toArray.size by simpa using a) (show l.toArray[i]? =Z l[i] by simp[a]) m g
  rcases c with rfl|c
  ·exact h
  exact t e.on q O h j c
theorem wj{p}{l}(q:bf p l=V)(k:Qf l.toArray=V){b}(s:hG l b){i}{o}(c:l[i]? =Z o)(m:∀e∈o.after,Region.binds .any e=V->b e.on=V){j}(g:KZ p j i=V):b j=true:=by
 have r:=(EA.1 c).1;have d:=Bt.1 q i (GW.2 r);rw[c]at d;simp only[CW,beq_iff_eq]at d;unfold KZ at g;rw[d]at g;obtain⟨e,h,f,a⟩:=lf g;have t:=fQ k (show i<l.toArray.size by simpa using r) (show l.toArray[i]? =Z o by simpa using c) h f
 rcases a with rfl|a
 ·exact m e h f
 exact nB q k s e.on O (m e h f) j a
end
section
variable{P:Program}{ι:Type}{φ ψ:Nat->Prop}{w0 w w':World}{F:ι->Bv}{ρ:Nat->Value}{S:Nat->AI}{N m n:Nat}{ρ0:Nat->Value}
theorem F4{l}{Q}(r:Array Bool->Act->World->Prop)(D:Qf l.toArray=V)
  (s:∀b a w,r b a w->∀i o,l[i]? =Z o->b.getD i V=U->(∀e∈o.after,Region.binds .any e=V->b.getD e.on U=V)->
   ∀x,(∀a w,r (b.setIfInBounds i V) a w->x .normal a w)->wpList P l.toArray x [o] a w)
  (done:∀b a w,r b a w->(∀j,j<J l->b.getD j V=V)->Q .normal a w):
  ∀d b a w,b.size=l.toArray.size->b.toList.count U=d->r b a w->wpAny P .any l.toArray Q d b a w:=by
 have g:∀(b:Array Bool) (a:Act) (w:World),b.size=l.toArray.size->Region.ready .any l.toArray b=[]->r b a w->Q .normal a w:=by
  intro b a w c q p;refine done b a w p λj u=>?_
  cases M:b.getD j V
  ·exact absurd q (ab7 D c j (by simpa using u) M)
  rfl
 intro d;induction d with
 | zero =>
  intro b a w c G p
  have q:Region.ready .any l.toArray b=[]:=by
   rw[List.eq_nil_iff_forall_not_mem];intro j u;have:=Zq (mem_ready.1 u).1;omega
  exact⟨q,g b a w c q p⟩
 | succ f z =>
  intro b a w c G p;refine⟨λq=>g b a w c q p,λi R=>?_⟩
  obtain⟨y,o,C,E⟩:=mem_ready.1 R;have v:l[i]? =Z o:=by simpa using C
  have H:=Zq y;have k:=s b a w p i o v y E (λe a w=>e=.normal/\r (b.setIfInBounds i V) a w) λa w h=>⟨rfl,h⟩
  unfold wpOp;rw[C];simp only;unfold wpList at k;split
  ·rename_i t
   rw[AZ t]at k;rcases k with k|⟨_,a,w,T,_⟩
   ·exact .inl (uN (λ_ _ _ h=>h.1) (Oper.wp_mono (λL w' h=>z _ L w' (by simpa using c) O h.2) k))
   cases T
  rename_i t
  rw[AO t]at k;exact z _ _ _ (by simpa using c) O k.2
theorem E2{id}{l}{Q}{a}{w}(d:Array Bool->Act->World->Prop)(h:P.follows .mixedOrders=V)(g:Qf l.toArray=V)
  (k:d (Jw (J l) U) a w.drew)
  (c:∀b a w,d b a w->∀i o,l[i]? =Z o->b.getD i V=U->(∀e∈o.after,Region.binds .any e=V->b.getD e.on U=V)->
   ∀f,(∀a w,d (b.setIfInBounds i V) a w->f .normal a w)->wpList P l.toArray f [o] a w)
  (done:∀b a w,d b a w->(∀j,j<J l->b.getD j V=V)->Q .normal a w):(Code.region id l.toArray V).wp P Q a w:=
 wp_region_any h (F4 d g c done _ _ _ _ At At (by simpa using k))
def zL(φ ψ:Nat->Prop)(w0:World)(F:ι->Bv)(N m:Nat)(ρ0:Nat->Value)(l:List Oper)(c:List Gc)(d:Nat->Option AA)(S:Nat->AI)(b:Array Bool)(a:Act)(w:World):Prop:=
 b.size=J l/\hG l (λj=>b.getD j U)/\∃ρ,(∀i,i<m->ρ i=ρ0 i)/\a.tmps.size=N/\a.defers=[]/\(∀t x,Tu c (λj=>b.getD j U) d t=Z x->a.tmps[t]? =Z (x.val ρ))/\BV φ ψ w0 w (Am F ρ (OS c (λj=>b.getD j U) S))
theorem iz{f}{e}(h:fl f e=V){i j}{a b}(o:e[i]? =Z a)(l:e[j]? =Z b)(g:i≠j)(p:Mn a b=V):(j<i->KZ f j i=V)/\(i<j->KZ f i j=V):=by
 have r:=(EA.1 o).1;have q:=(EA.1 l).1;have c:=Bt.1 (Bt.1 h i (GW.2 r)) j (GW.2 q);rw[o,l]at c;have k:CW i j=false:=by simp[CW,g]
 simp only[k,p,Bool.not_true,Bool.false_or]at c;constructor
 ·intro d;rw[AZ (by simpa using d)]at c;exact c
 intro d;rw[AO CY]at c;exact c
theorem uK{j}{c}{g}(h:fC j c g=V){i}{a}(f:g[i]? =Z a):∀id,(id∈a.t.res.ids\/id∈a.t.new.map (·.1)\/∃p∈a.t.new,id∈p.2.ids)->id<c\/(id-c)/8=i\/KZ j ((id-c)/8) i=true:=by
 intro id d;have k:=(EA.1 f).1;have e:=Bt.1 h i (GW.2 k);rw[f]at e
 have b:=Bt.1 e id (by
  rcases d with h|h|⟨p,l,h⟩
  ·exact List.mem_append_left _ (List.mem_append_left _ h)
  ·exact List.mem_append_left _ (List.mem_append_right _ h)
  exact List.mem_append_right _ (List.mem_flatMap.2 ⟨p,l,h⟩))
 simp only[Gg,decide_eq_true_eq,CW,beq_iff_eq]at b;rcases b with(b|b)|b
 ·exact .inl b
 ·exact .inr (.inl b)
 exact .inr (.inr b)
theorem v6{dk:TypeId->Nat}{H}(hH:∀i c τ,IY H.calls i=Z (c,τ)->c.ok P)(hF:JA H.facts){l}{id}{Q}{tm}{a}{wr}(X:Jx φ ψ w0 F N m ρ0 n ρ (Db tm) S a wr){r}(bK:Hx P dk N l H l 0 tm S n=Z r)(ho:Cl r.obs)(cG:r.acts.map (·.eqs.1)=r.acts.map (·.eqs.2))(bZ:r.acts.map (·.eqw.1)=r.acts.map (·.eqw.2))
  (ms) (hm:P.follows .mixedOrders=V) (hb:Qf l.toArray=V) (bN:bf ms l=V) (aL:fl ms r.acts=V) (aH:fC ms n r.acts=V) (aD:gw ms S r.acts=V)
  (done:∀aW a' w' n',Jx φ ψ w0 F N m ρ0 n' aW (Db r.tm) r.S a' w'->Q .normal a' w'):(Code.region id l.toArray V).wp P Q a wr:=by
 obtain⟨cJ,bU,bC,bI⟩:=mE l 0 n bK ho
 have cA:∀(i:Nat) g,r.acts[i]? =Z g->∀t b,b.dst=Z t->t∈g.rt->Mn g b=true:=λi g _ t b hb ht=>by
  simp[Mn,hb,Gk.2 ht]
 have cC:∀g b t,g.dst=Z t->b.dst=Z t->Mn g b=true:=λg b t h1 h2=>by
  simp[Mn,h1,h2,CW]
 have bR:∀(g b:Gc) (j:Nat),j∈g.ri->j∈b.t.new.map (·.1)->Mn g b=true:=λg b j h1 h2=>by
  obtain⟨p,hp,rfl⟩:=List.mem_map.1 h2;unfold Mn;have:b.t.new.any (λp=>Ee p.1 g.ri||g.t.new.any λq=>CW q.1 p.1)=true:=List.any_eq_true.2 ⟨p,hp,by simp[Gk.2 h1]⟩
  rw[this];simp
 have cF:∀(g b:Gc) (j:Nat),j∈g.t.new.map (·.1)->j∈b.t.new.map (·.1)->Mn g b=true:=λg b j h1 h2=>by
  obtain⟨p,hp,rfl⟩:=List.mem_map.1 h2;obtain⟨q,hq,e⟩:=List.mem_map.1 h1;unfold Mn
  have:b.t.new.any (λp=>Ee p.1 g.ri||g.t.new.any λq=>CW q.1 p.1)=true:=List.any_eq_true.2 ⟨p,hp,by
   have:g.t.new.any (λq=>CW q.1 p.1)=true:=List.any_eq_true.2 ⟨q,hq,by simp[CW,e]⟩
   rw[this];simp⟩
  rw[this];simp
 refine E2 (zL φ ψ w0 F N m ρ0 l r.acts (Db tm) S) hm hb ?_ ?_ ?_
 ·refine⟨At,λj o _ s=>?_,ρ,X.old,X.size,X.defs,λt x z=>?_,?_⟩
  ·have bJ:(Jw (J l) U).getD j U=true:=s
   rw[getD_replicate_false]at bJ;cases bJ
  ·refine X.tmv t x ?_
   rw[<-z];exact(Qj λj b _ _=>getD_replicate_false _ _).symm
  have e:OS r.acts (λj=>(Jw (J l) U).getD j U) S=S:=by
   funext j;exact Qj λj b _ _=>getD_replicate_false _ _
  rw[e];exact X.mem.drew
 ·rintro d a w ⟨bT,aS,ρ,aN,hN,bG,hv,M⟩ i o aV cB bQ Q' hQ
  generalize hB:(λj=>d.getD j U)=C at*
  have bF:∀j,C j=d.getD j false:=λj=>by rw[<-hB]
  have cK:=(EA.1 aV).1
  have aX:C i=false:=by
   rw[bF, <-sr O];exact cB
  obtain⟨g,ob,v,bX,aC⟩:=bI i o aV;simp only[GS]at aC
  have bW:g.eqs.1=g.eqs.2:=by
   have:=congrArg (·[i]?) cG
   simpa[v]using this
  have bV:g.eqw.1=g.eqw.2:=by
   have:=congrArg (·[i]?) bZ
   simpa[v]using this
  obtain⟨bM,bY,R⟩:=gh aC;obtain⟨bD,aB,bS⟩:=Zt R;have aG:∀e∈o.after,Region.binds .any e=V->C e.on=true:=λe he aR=>by rw[bF];exact bQ e he aR
  have aM:∀j,KZ ms j i=V->C j=true:=λj s=>wj bN hb aS aV aG s
  have D:∀j,j<J l->KZ ms i j=V->C j=false:=λj aI s=>by
   cases h:C j
   ·rfl
   have:=nB bN hb aS j aI h i s;rw[aX]at this;cases this
  have T:∀(j:Nat) b,r.acts[j]? =Z b->Mn g b=V->C j=Y (j<i):=λj b s aU=>by
   have aI:j<J l:=by have:=(EA.1 s).1;omega
   rcases Nat.lt_trichotomy j i with h|h|h
   ·rw[aM j ((iz aL v s O aU).1 h)];simp[h]
   ·subst h;rw[aX];simp
   rw[D j aI ((iz aL v s O aU).2 h)];have:¬j<i:=O;simp[this]
  have bL:=J4 aC (tm':=Tu r.acts C (Db tm)) (S':=OS r.acts C S) (λt ht=>QG λj b s u=>by
    rw[GS];refine T j b s (cA i g v t b ?_ ht);unfold Kf at u;split at u
    ·assumption
    cases u)
   (λq hq=>QG λj b s u=>by
    rw[GS];obtain⟨x,z⟩:=MD.1 u
    exact T j b s (bR g b q hq (List.mem_map.2 ⟨_,Sn z,rfl⟩)))
   (λq hq=>by
    show Ia (Fz (LF q) r.acts 0 C (S q))=_
    rw[rB aD v hq λk _ G=>aM k G,rB aD v hq λk G _=>by simpa using G])
  have E:∀id,n+8*i<=id->id<n+8*i+8->(id-n)/8=i:=λid h1 h2=>O
  have bO:∀j∈g.t.made,OS r.acts C S j=.none:=λj s=>by
   obtain⟨Bs,g2⟩:=aB j s
   have e:OS r.acts C S j=S j:=Qj λk b G u=>by
    rw[GS];obtain⟨x,z⟩:=MD.1 u;have aO:k<J l:=by have:=(EA.1 G).1;omega
    rcases uK aH G j (.inr (.inl (List.mem_map.2 ⟨_,Sn z,rfl⟩)))with h|h|h
    ·omega
    ·rw[E j Bs g2]at h;subst h;exact aX
    rw[E j Bs g2]at h;exact D k aO h
   rw[e];exact(X.bd j).2 O
  have aY:∀(k:Nat) b,r.acts[k]? =Z b->C k=V->∀id,(id∈b.t.res.ids\/id∈b.t.new.map (·.1)\/∃p∈b.t.new,id∈p.2.ids)->id∉g.t.made:=λk b G L id f hm=>by
   obtain⟨Bs,g2⟩:=aB id hm;have aO:k<J l:=by have:=(EA.1 G).1;omega
   rcases uK aH G id f with h|h|h
   ·omega
   ·rw[E id Bs g2]at h;subst h;rw[aX]at L;cases L
   rw[E id Bs g2]at h;rw[D k aO h]at L;cases L
  have bB:∀j,∀id∈(OS r.acts C S j).ids,id∉g.t.made:=λj=>by
   refine Wj (λx:AI=>∀id∈x.ids,id∉g.t.made) (λid f hm=>?_) λk b x G L u id f=>?_
   ·have:=(X.bd j).1 id f;have:=(aB id hm).1;omega
   rw[GS]at L;exact aY k b G L id (.inr (.inr ⟨_,Sn u,f⟩))
  have cD:∀t x,Tu r.acts C (Db tm) t=Z x->∀id∈x.ids,id∉g.t.made:=λt=>by
   refine Wj (λy:Option AA=>∀x,y=Z x->∀id∈x.ids,id∉g.t.made) (λx z id f hm=>?_) λk b y G L u x z id f=>?_
   ·have:=X.tmi t x z id f;have:=(aB id hm).1;omega
   rw[GS]at L;unfold Kf at u;split at u
   ·cases u;cases z
    exact aY k b G L id (.inl f)
   cases u
  have bH:FV (OS r.acts C S) ρ g.t.made:=λaW ha j=>by
   refine AI.res_congr _ (λid f=>ha id (bB j id f)) ?_
   by_cases s:j∈g.t.made
   ·exact .inl (bO j s)
   exact .inr (.inr (ha j s))
  refine A8 hH hF hv M bL bX bW bV bO bH λaW w' ha M'=>?_
  refine hQ _ _ ?_
  have cH:∀j,(d.setIfInBounds i V).getD j U=if j=i then V else C j:=λj=>by
   by_cases e:j=i
   ·subst e
    have:j<d.size:=O;simp[this]
   rw[AO e,getD_set_ne U (λh=>e h.symm),bF]
  have bE:(λj=>(d.setIfInBounds i V).getD j U)=λj=>if j=i then V else C j:=funext cH
  have aE:∀(j:Nat) b,i<j->r.acts[j]? =Z b->Mn g b=V->(if j=i then V else C j)=false:=λj b aJ s aU=>by
   have aI:j<J l:=by have:=(EA.1 s).1;omega
   rw[AO O];exact D j aI ((iz aL v s O aU).2 aJ)
  have eT:Tu r.acts (λj=>if j=i then V else C j) (Db tm)=OZ g.dst g.t.res (Tu r.acts C (Db tm)):=by
   funext t;simp only[OZ];by_cases e:g.dst=Z t
   ·rw[AZ e]
    refine ff (i:=i) v (by simp[Kf,e]) At λj b aJ s u=>?_
    rw[GS];refine aE j b aJ s (cC g b t e ?_);unfold Kf at u;split at u
    ·assumption
    cases u
   rw[AO e];refine QG λj b s u=>?_
   have:j≠i:=λh=>by
    subst h;rw[v]at s;cases s;simp[Kf,e]at u
   simp[this]
  have Em:OS r.acts (λj=>if j=i then V else C j) S=Bq (OS r.acts C S) g.t.new:=by
   funext q;rw[kW];cases z:Sa g.t.new q with
   |some x=>
    refine ff (i:=i) v z At λj b aJ s u=>?_
    rw[GS];obtain⟨y,hy⟩:=MD.1 u;exact aE j b aJ s (cF g b q (List.mem_map.2 ⟨_,Sn z,rfl⟩) (List.mem_map.2 ⟨_,Sn hy,rfl⟩))
   | none =>
    refine QG λj b s u=>?_
    have:j≠i:=λh=>by
     subst h;rw[v]at s;cases s;unfold LF at u;rw[z]at u;cases u
    simp[this]
  refine⟨by simpa using bT,?_,aW,λj s=>(ha j λhm=>by have:=(aB j hm).1;have:=X.le;omega).trans (aN j s),(tY _ _ _).trans hN,(sF _ _ _).trans bG,?_,?_⟩
  ·rw[bE]
   intro j oj s aZ e he aR;show(if e.on=i then V else C e.on)=V
   by_cases e1:e.on=i
   ·simp[e1]
   rw[AO e1];by_cases e2:j=i
   ·subst e2
    rw[aV]at s;cases s;exact aG e he aR
   simp only[AO e2]at aZ;exact aS j oj s aZ e he aR
  ·rw[bE,eT,bM]
   intro t x z;rw[oS (by rw[hN];exact bY)]
   simp only[OZ]at z;split
   ·rename_i e;rw[AZ e]at z;cases z;rfl
   rename_i e
   rw[AO e]at z;rw[hv t x z,AA.val_congr x λid f=>ha id (cD t x z id f)]
  rw[bE,Em];exact M'
 rintro d a w ⟨bT,aS,ρ,aN,hN,bG,hv,M⟩ bP;have aQ:∀j,j<J l->d.getD j U=true:=λj s=>by rw[<-sr O];exact bP j s
 have eT:Tu r.acts (λj=>d.getD j U) (Db tm)=Db r.tm:=by
  funext t;rw[bU t];refine QG λj b s _=>?_
  rw[GS];exact aQ j (by have:=(EA.1 s).1;omega)
 have Em:OS r.acts (λj=>d.getD j U) S=r.S:=by
  funext q;rw[bC q];refine QG λj b s _=>?_
  rw[GS];exact aQ j (by have:=(EA.1 s).1;omega)
 have aF:∀(k:Nat) b,r.acts[k]? =Z b->∀id,(id∈b.t.res.ids\/id∈b.t.new.map (·.1)\/∃p∈b.t.new,id∈p.2.ids)->id<n+8*J l:=λk b G id f=>by
  have aO:k<J l:=by have:=(EA.1 G).1;omega
  obtain⟨o,cI⟩:∃o,l[k]? =Z o:=⟨_,CF aO⟩;obtain⟨g,ob,v,_,aC⟩:=bI k o cI;rw[G]at v;cases v;obtain⟨_,_,R⟩:=gh aC;obtain⟨bD,aB,bS⟩:=Zt R;rcases f with h|h|⟨p,hp,h⟩
  ·have:=bS id h;omega
  ·obtain⟨p,hp,rfl⟩:=List.mem_map.1 h
   have:=(bD p hp).1;omega
  have:=(bD p hp).2 id h;omega
 refine done ρ a w (n+8*J l) ⟨hN,bG,by rw[<-eT];exact hv,λt x z=>?_,λj=>?_,by rw[<-Em];exact M,by have:=X.le;omega,aN⟩
 ·rw[bU t]at z
  revert x;refine Wj (λy:Option AA=>∀x,y=Z x->∀id∈x.ids,id<n+8*J l) (λx z id f=>?_) λk b y G _ u x z id f=>?_
  ·have:=X.tmi t x z id f;omega
  unfold Kf at u;split at u
  ·cases u;cases z
   exact aF k b G id (.inl f)
  cases u
 refine⟨?_,λs=>?_⟩
 ·rw[bC j]
  refine Wj (λx:AI=>∀id∈x.ids,id<n+8*J l) (λid f=>?_) λk b x G _ u id f=>?_
  ·have:=(X.bd j).1 id f;omega
  exact aF k b G id (.inr (.inr ⟨_,Sn u,f⟩))
 rw[bC j,Qj λk b G u=>?_]
 ·exact(X.bd j).2 O
 obtain⟨x,z⟩:=MD.1 u;have:=aF k b G j (.inr (.inl (List.mem_map.2 ⟨_,Sn z,rfl⟩)));omega
end
def Ap{c:Type}(d e:Nat->Prop)(f:World)(F:c->Bv)(N m:Nat)(b g:Nat->Value)(S:List AI)(h:List (Nat×AA))(a:Act)(w:World):Prop:=Jx d e f F N m b S.length g (Db h) (An S) a w
def WV(S:List AI)(a:List (Nat×AA)):Bool:=S.all (λx=>Jq S.length x.ids)&&a.all (λp=>Jq S.length p.2.ids)
def oR(m:Nat)(a:List Nat):Bool:=(DA m).all λi=>CW (CX a i) i&&Y (i<J a)
def KD(m:Nat)(a:List Nat)(S:List AI)(b:List (Nat×AA)):Bool:=nodupB a&&CW (J a) S.length&&WV S b&&oR m a
section
variable{P:Program}{ι:Type}{φ ψ:Nat->Prop}{w0 w w':World}{F:ι->Bv}{ρ ρ0:Nat->Value}{N m n:Nat}{S:List AI}{tm:List (Nat×AA)}{a:Act}{Q:Exit->Act->World->Prop}
theorem eX:∀{tm:List (Nat×AA)} {t:Nat} {x:AA},Db tm t=Z x->(t,x)∈tm
 |[],_,_,h=>by cases h
 |(k,y)::r,t,x,h=>by
  simp only[Db,CW,beq_iff_eq]at h;split at h
  ·rename_i e;subst e;cases h;exact EI
  exact Ep _ (eX h)
theorem Pn{l}{i}(h:i<J l):An l i=l[i]:=by simp[An,Bu,h]
theorem Fn{l}{i}(h:J l<=i):An l i=.none:=by simp[An,Bu,h]
theorem lc{S}{tm}(h:WV S tm=V):(∀j,(∀id∈(An S j).ids,id<S.length)/\(S.length<=j->An S j=.none))/\∀t x,Db tm t=Z x->∀id∈x.ids,id<S.length:=by
 simp only[WV,Aj]at h;refine⟨λj=>⟨λid b=>?_,λc=>Fn c⟩,λt x d id b=>?_⟩
 ·rcases Du j S.length with c|c
  ·rw[Pn c]at b
   exact Lf (Bt.1 h.1 _ (EL c)) id b
  rw[Fn c]at b;cases b
 exact Lf (Bt.1 h.2 _ (eX d)) id b
theorem Jx.sel{y}{D}(r:Jx φ ψ w0 F N m ρ0 n ρ y D a w)(c)(o)(e)(v:KD m c o e=V)(hS:c.map D=o.map (AI.ren (CX c)))(X:(e.map (·.1)).map y=e.map λp=>Z (p.2.ren (CX c))):
  Ap φ ψ w0 F N m ρ0 (λi=>ρ (CX c i)) o e a w:=by
 simp only[KD,Aj,CW,beq_iff_eq]at v;obtain⟨⟨⟨u,hl⟩,s⟩,l⟩:=v;have hn:=et u;obtain⟨b1,R⟩:=lc s
 have E:∀i,i<m->CX c i=i/\i<J c:=λi q=>by
  have:=Bt.1 l i (GW.2 q);simpa[CW]using this
 refine⟨r.size,r.defs,λt x M=>?_,R,b1,?_,?_,λi q=>?_⟩
 ·obtain⟨i,q⟩:=List.mem_iff_getElem?.1 (eX M)
  have b:=congrArg (·[i]?) X
  simp only[List.getElem?_map,q,Option.map_some]at b;rw[r.tmv t _ (Option.some.inj b),AA.val_ren]
 ·refine r.mem.map (λk:ι ⊕ Nat=>(match k with|.inl i=>Z (.inl i)|.inr i=>if i<(J c)then Z (.inr (CX c i))else I:Option (ι ⊕ Nat))) ?_ ?_
  ·intro k T x b d
   match k,T with
   |.inl i,.inl i'=>simp at b d;rw[<-b]at d;simpa using d.symm
   |.inl i,.inr j=>simp only at b d;cases b;split at d<;>simp at d
   |.inr j,.inl i=>simp only at b d;cases d;split at b<;>simp at b
   |.inr j,.inr j'=>
    simp at b d;obtain⟨C,f2⟩:=b;obtain⟨Bs,H⟩:=d;rw[<-f2]at H;have L:=Sum.inr.inj H;have z:=CF C;have G:=CF Bs;rw[Iy G,Iy z]at L;have:=(List.getElem?_inj C hn).1 (z.trans (by rw[<-L];exact G.symm))
    rw[this]
  intro k
  match k with
  |.inl i=>exact .inl ⟨_,rfl,rfl⟩
  | .inr i =>
   by_cases f:i<J c
   ·refine .inl ⟨.inr (CX c i),by simp[f],?_⟩
    have b:=congrArg (·[i]?) hS
    have g:i<J o:=O;simp only[List.getElem?_map,CF f,CF g,Option.map_some,Option.some.injEq]at b;simp only[Am];rw[Pn g,Iy (CF f),b, <-AI.res_ren,Iy (CF f)]
   refine .inr ?_;simp only[Am];rw[Fn O];rfl
 ·rcases Du (J o) m with h|h
  ·have:=(E (J o) h).2;omega
  exact h
 rw[(E i q).1];exact r.old i q
def RC(o:Option Us)(c b:List Nat):Option (List Prop×List AI×List (Option AA)×List (List (List AA×List AI))×List (List AA)):=o.map λr=>(r.obs,c.map r.S,b.map (Db r.tm),r.acts.map (·.eqs.1),r.acts.map (·.eqw.1))
def SV(o:Option Us)(b:List Prop)(c:List Nat)(S:List AI)(tm:List (Nat×AA)):Option (List Prop×List AI×List (Option AA)×List (List (List AA×List AI))×List (List AA)):=o.map λr=>(b,S.map (AI.ren (CX c)),tm.map (λp=>Z (p.2.ren (CX c))),r.acts.map (·.eqs.2),r.acts.map (·.eqw.2))
def Zc(l:List Oper)(b:List Nat)(n:Nat)(S:Nat->AI)(o:Option Us):Bool:=bf b l&&Qf l.toArray&&match o with
 |some r=>fl b r.acts&&fC b n r.acts&&gw b S r.acts
 |none=>U
theorem Z0{j:TypeId->Nat}{l}{id}(G:Ap φ ψ w0 F N m ρ0 ρ S tm a w)(H)(v:∀i c z,IY H.calls i=Z (c,z)->c.ok P)(D:JA H.facts)(g)(f)(b)(d)
  (p:((Hx P j N l H l 0 tm (An S) S.length).isSome&&KD m g f b)=V)
  (o:RC (Hx P j N l H l 0 tm (An S) S.length) g (b.map (·.1))=SV (Hx P j N l H l 0 tm (An S) S.length) d g f b)
  (x:Cl d) (k:∀e h w',Ap φ ψ w0 F N m ρ0 e f b h w'->Q .normal h w'):(Code.region id l.toArray U).wp P Q a w:=by
 simp only[Aj]at p;obtain⟨r,q⟩:=MD.1 p.1;rw[q]at o;simp only[RC,SV,Option.map_some,Option.some.injEq,Prod.mk.injEq]at o;obtain⟨y,C,s,u,t⟩:=o;refine wp_region_lit (oy v D l 0 S.length G q (by rw[y];exact x) u t λe h w' L E=>?_)
 exact k _ h w' (E.sel g f b p.2 C s)
theorem T2{j:TypeId->Nat}{l}{id}(G:Ap φ ψ w0 F N m ρ0 ρ S tm a w)(H)(R:∀i c D,IY H.calls i=Z (c,D)->c.ok P)(hF:JA H.facts)(t)(o)(g)(b)(e)(E:P.follows .mixedOrders=V)
  (s:(Zc l t S.length (An S) (Hx P j N l H l 0 tm (An S) S.length)&&KD m o g b)=V)
  (p:RC (Hx P j N l H l 0 tm (An S) S.length) o (b.map (·.1))=SV (Hx P j N l H l 0 tm (An S) S.length) e o g b)
  (z:Cl e) (k:∀f h w',Ap φ ψ w0 F N m ρ0 f g b h w'->Q .normal h w'):(Code.region id l.toArray V).wp P Q a w:=by
 simp only[Aj,Zc]at s;obtain⟨⟨⟨v,x⟩,d⟩,T⟩:=s;cases q:Hx P j N l H l 0 tm (An S) S.length with
 |none=>rw[q]at d;cases d
 |some r=>
  rw[q]at d p;simp only[Aj]at d;simp only[RC,SV,Option.map_some,Option.some.injEq,Prod.mk.injEq]at p;obtain⟨C,X,u,y,M⟩:=p;refine v6 R hF G q (by rw[C];exact z) y M t E x v d.1.1 d.1.2 d.2 λf h w' n' L=>?_
  exact k _ h w' (L.sel o g b T X u)
theorem iG{dk:TypeId->Nat}{l}{id}(G:Ap φ ψ w0 F N m ρ0 ρ S tm a w)(H)(s:∀i c o,IY H.calls i=Z (c,o)->c.ok P)(r:JA H.facts)(e)(f)(b)(d)
  (t:Cl d) (k:∀h j w',Ap φ ψ w0 F N m ρ0 h f b j w'->Q .normal j w')
  (p:((Hx P dk N l H l 0 tm (An S) S.length).isSome&&KD m e f b)=true:=by kernel_rfl)
  (q:RC (Hx P dk N l H l 0 tm (An S) S.length) e (b.map (·.1))=SV (Hx P dk N l H l 0 tm (An S) S.length) d e f b:=by kernel_rfl):(Code.region id l.toArray U).wp P Q a w:=Z0 G H s r e f b d p q t k
theorem kg{dk:TypeId->Nat}{l}{id}(G:Ap φ ψ w0 F N m ρ0 ρ S tm a w)(H)(u:∀i c p,IY H.calls i=Z (c,p)->c.ok P)(s:JA H.facts)(o)(e)(f)(b)(d)
  (v:Cl d) (k:∀h j w',Ap φ ψ w0 F N m ρ0 h f b j w'->Q .normal j w') (t:P.follows .mixedOrders=true:=by kernel_rfl)
  (q:(Zc l o S.length (An S) (Hx P dk N l H l 0 tm (An S) S.length)&&KD m e f b)=true:=by kernel_rfl)
  (r:RC (Hx P dk N l H l 0 tm (An S) S.length) e (b.map (·.1))=SV (Hx P dk N l H l 0 tm (An S) S.length) d e f b:=by kernel_rfl):(Code.region id l.toArray V).wp P Q a w:=T2 G H u s o e f b d t q r v k
theorem cE:∀i c b,IY [] i=Z (c,b)->AN.ok P c:=λi c b h=>by cases h
theorem rF{j}{e}{d}{r}(g:e.ok P)(f:∀i c b,IY r i=Z (c,b)->AN.ok P c):∀i c b,IY ((j,e,d)::r) i=Z (c,b)->AN.ok P c:=λi c b h=>by
 simp only[IY]at h;split at h
 ·cases h;exact g
 exact f i c b h
theorem Ap.sel(G:Ap φ ψ w0 F N m ρ0 ρ S tm a w)(c)(d)(b)(f:KD m c d b=V)(h:c.map (An S)=d.map (AI.ren (CX c)))(g:(b.map (·.1)).map (Db tm)=b.map λp=>Z (p.2.ren (CX c))):∃e,Ap φ ψ w0 F N m ρ0 e d b a w:=⟨_,Jx.sel G c d b f h g⟩
theorem Ap.as(G:Ap φ ψ w0 F N m ρ0 ρ S tm a w)(c)(b)(e:S=c)(d:tm=b):Ap φ ψ w0 F N m ρ0 ρ c b a w:=by subst e;subst d;exact G
theorem Ap.at(G:Ap φ ψ w0 F N m ρ0 ρ S tm a w)(c)(b)(e:S=c:=by kernel_rfl)(d:tm=b:=by kernel_rfl):Ap φ ψ w0 F N m ρ0 ρ c b a w:=G.as c b e d
theorem TJ{c}{x y}(G:Ap φ ψ w0 F N m ρ0 ρ S tm a w)(b)(e:Db tm c=Z (.v (.bool b)))(f:b=V->x.wp P Q a w)(d:b=U->y.wp P Q a w):(Code.cond (.tmp c) x y).wp P Q a w:=by
 have h:=G.tmv c _ e;refine wp_cond_split (t:=b) ?_ f d;simp[Act.eval,Array.getD_eq_getD_getElem?,h,AA.val]
theorem V8{c}{x y}(G:Ap φ ψ w0 F N m ρ0 ρ S tm a w)(b)(f:Db tm c=Z (.v (.bool b)))(e:b=V)(h:x.wp P Q a w):(Code.cond (.tmp c) x y).wp P Q a w:=TJ G b f (λ_=>h) λd=>by rw[e]at d;cases d
theorem wv{c}{x y}(G:Ap φ ψ w0 F N m ρ0 ρ S tm a w)(b)(f:Db tm c=Z (.v (.bool b)))(e:b=U)(h:y.wp P Q a w):(Code.cond (.tmp c) x y).wp P Q a w:=TJ G b f (λd=>by rw[e]at d;cases d) λ_=>h
def Rp(P:Program)(tm:Nat->Option AA)(S:Nat->AI):List ResultVar->Option (List AA)
 |[]=>Z []
 |.tmp t::r=>
  match tm t,Rp P tm S r with
  |some x,Z l=>Z (x::l)
  |_,_=>I
 | .cell t d :: r =>
  match tm t,Rp P tm S r with
  |some (.P b c),Z l=>
   match S b with
   |.C e=>(Qx P d ((e.drop c).take (Qz P d))).map λx=>x::l
   |_=>I
  |_,_=>I
def Qy(P:Program)(b:Func)(tm:List (Nat×AA))(S:List AI):Option AA:=
 match Rp P (Db tm) (An S) b.results.toList with
 |some [x]=>Z x
 |some l=>Z (.T l)
 |none=>I
theorem t9{g}{f:TypeId}{b c}{x}(i:Bl w b (AA.vals ρ g))(h:Qx P f ((g.drop c).take (Qz P f))=Z x):(loadVar f ⟨b,c,I⟩).run P w=.ok (x.val ρ) w:=
 YS h ⟨b,c,I⟩ λj u d=>by
  rw[AA.vals_take,AA.vals_drop]at d;have e:(⟨b,c,I⟩:Addr).add j=⟨b,c+j,I⟩:=by unfold Addr.add;split<;>simp_all
  rw[e,i.cell];rw[List.getElem?_take]at d;split at d
  ·rw[List.getElem?_drop]at d;exact d
  cases d
theorem jr(G:Ap φ ψ w0 F N m ρ0 ρ S tm a w):∀{rs:List ResultVar} {l:List AA},Rp P (Db tm) (An S) rs=Z l->
  (rs.mapM (fun r=>(match r with|.tmp t=>pure (a.tmps.getD t undef)|.cell b t=>do loadVar t (<-asAddr (a.tmps.getD b undef)):Sem Value))).run P w=.ok (AA.vals ρ l) w
 |[],l,h=>by cases h;simp[AA.vals]
 |.tmp t::r,l,h=>by
  simp only[Rp]at h;split at h
  case h_2=>cases h
  rename_i x l' h1 h2
  cases h
  have ht:=G.tmv t x h1;have ih:=jr G h2;have e:(pure (a.tmps.getD t undef):Sem Value).run P w=.ok (x.val ρ) w:=by simp[Array.getD_eq_getD_getElem?,ht]
  rw[List.mapM_cons,Sem.run_bind,e,Result.andThen_ok,Sem.run_bind,ih];rfl
 | .cell t ty :: r, l, h => by
  simp only[Rp]at h;split at h
  case h_2=>cases h
  rename_i b off l' h1 h2
  split at h
  case h_2=>cases h
  rename_i cs hS
  obtain⟨x,h3,h4⟩:=Ds.1 h;subst h4;have ht:=G.tmv t _ h1;have ih:=jr G h2;have hl:=t9 (P:=P) (G.mem.boxAt hS) h3
  have e:(do loadVar ty (<-asAddr (a.tmps.getD t undef)):Sem Value).run P w=.ok (x.val ρ) w:=by
   rw[show a.tmps.getD t undef=.pointer (Z ⟨KF (ρ b),off,I⟩) by simp[Array.getD_eq_getD_getElem?,ht,AA.val]]
   simp[asAddr,hl]
  rw[List.mapM_cons,Sem.run_bind,e,Result.andThen_ok,Sem.run_bind,ih];rfl
theorem n7{b}{R}{v}(G:Ap φ ψ w0 F N m ρ0 ρ S tm a w)(h:Qy P b tm S=Z v)(d:R (.returned (v.val ρ)) w):bodyPost P b R .ret a w:=by
 refine⟨G.defs,v.val ρ,?_,d⟩;unfold Qy at h;cases c:Rp P (Db tm) (An S) b.results.toList with
 |none=>rw[c]at h;cases h
 |some l=>
  rw[c]at h;have:=jr G c;unfold results;rw[Sem.run_bind,Array.mapM_eq_mapM_toList,Sem.run_map]
  erw [this]
  simp only[Result.andThen_ok,Sem.run_pure]
  match l,h with
  |[],h=>cases h;rfl
  |[x],h=>cases h;rfl
  |x::y::r,h=>cases h;rfl
def RY(i:Nat):List AA->List (Nat×AA)
 |[]=>[]
 |x::r=>(i,x)::RY (i+1) r
theorem lA(ρ):∀{l:List AA} {i t:Nat} {x:AA},Db (RY i l) t=Z x->i<=t/\(AA.vals ρ l)[t-i]? =Z (x.val ρ)
 |[],_,_,_,h=>by cases h
 |y::r,i,t,x,h=>by
  simp only[RY,Db,CW,beq_iff_eq]at h;split at h
  ·rename_i e;subst e;cases h;exact⟨BR _,by simp[AA.vals]⟩
  obtain⟨c,b⟩:=lA ρ h;refine⟨O,?_⟩;rw[show t-i=(t-(i+1))+1 by omega]
  simpa[AA.vals]using b
def RA(φ ψ:Nat->Prop)(w0:World)(F:ι->Bv)(ρ0:Nat->Value)(c:AN)(x:Ending)(w':World):Prop:=∃b,(∀i,i<J c.pre->b i=ρ0 i)/\x=.returned (c.res.val b)/\BV φ ψ w0 w' (Am F b (An c.post))
theorem ub{c:AN}{d}{b}(N)(o:P.funcs[c.f]? =Z d)(i:d.body=Z b)(p:d.ntmps=N)(h:(WV c.pre (RY 0 c.args)&&Y (J c.args<=N))=V)
  (k:∀{ι:Type} (φ ψ:Nat->Prop) (w0 w:World) (F:ι->Bv) (ρ0 ρ:Nat->Value) (a:Act),Ap φ ψ w0 F N (J c.pre) ρ0 ρ c.pre (RY 0 c.args) a w->b.wp P (bodyPost P d (RA φ ψ w0 F ρ0 c)) a w):c.ok P:=by
 intro ι φ ψ w0 w F ρ M;simp only[Aj,decide_eq_true_eq]at h;obtain⟨q,l⟩:=lc h.1;refine calls_of_wp o i (k φ ψ w0 w F ρ ρ _ ⟨?_,rfl,λt x j=>?_,l,q,M,BR _,λ_ _=>rfl⟩)
 ·simp[AA.vals_length,p];omega
 obtain⟨_,e⟩:=lA ρ j;rw[Nat.sub_zero]at e;have g:=(EA.1 e).1;rw[Array.getElem?_append_left (by simpa using g)]
 simpa using e
theorem WT{e}{c}{v}(G:Ap φ ψ w0 F N (J c.pre) ρ0 ρ S tm a w)(b)(h:Qy P e tm S=Z v)(f:KD (J c.pre) b c.post []=V)(j:b.map (An S)=c.post.map (AI.ren (CX b)))(g:v=c.res.ren (CX b)):bodyPost P e (RA φ ψ w0 F ρ0 c) .ret a w:=by
 have d:=Jx.sel G b c.post [] f j rfl;refine n7 G h ⟨λi=>ρ (CX b i),d.old,?_,d.mem⟩
 rw[g,AA.val_ren]
theorem Ec{b}(h:b a w):Exit.then b Q .normal a w:=h
theorem Bd{b}{id}(h:Q (.exit id) a w):Exit.then b Q (.exit id) a w:=h
theorem Ar{b}(h:Q .ret a w):Exit.then b Q .ret a w:=h
theorem BL{id}(h:Q .normal a w):Exit.inBlock id Q .normal a w:=h
theorem Cg{id}(h:Q .ret a w):Exit.inBlock id Q .ret a w:=h
theorem DG{id}(h:Q .normal a w):Exit.inBlock id Q (.exit id) a w:=by simp only[Exit.inBlock,if_true];exact h
theorem yF{id b}(c:CW b id=U)(h:Q (.exit b) a w):Exit.inBlock id Q (.exit b) a w:=by
 simp only[Exit.inBlock];rw[AO (by simpa[CW]using c)];exact h
theorem Kp{x}(b: -9223372036854775808<=x)(c:x<=9223372036854775807):IntKind.i64.wrap x=x:=IntWalk.i64_in x ⟨b,c⟩
theorem Ba{c}{x y}(G:Ap φ ψ w0 F N m ρ0 ρ S tm a w)(b)(d:b=V)(h:x.wp P Q a w)(e:Db tm c=Z (.v (.bool b)):=by kernel_rfl):(Code.cond (.tmp c) x y).wp P Q a w:=V8 G b e d h
theorem Bo{c}{x y}(G:Ap φ ψ w0 F N m ρ0 ρ S tm a w)(b)(d:b=U)(h:y.wp P Q a w)(e:Db tm c=Z (.v (.bool b)):=by kernel_rfl):(Code.cond (.tmp c) x y).wp P Q a w:=wv G b e d h
theorem DR{h:Type}{c}(b:h->Prop)(i:h->Nat)(o:h->List AI)(l:h->List (Nat×AA))(j:h)(x:b j)(G:Ap φ ψ w0 F N m ρ0 ρ (o j) (l j) a w)
  (d:∀k ρ a w,b k->Ap φ ψ w0 F N m ρ0 ρ (o k) (l k) a w->c.wp P (Exit.then (λq w'=>∃f g,b f/\i f<i k/\Ap φ ψ w0 F N m ρ0 g (o f) (l f) q w') Q) a w):(Code.loop c).wp P Q a w:=by
 refine wp_loop_ghost (λn a w=>∃k ρ,i k=n/\b k/\Ap φ ψ w0 F N m ρ0 ρ (o k) (l k) a w) (i j) ⟨j,ρ,rfl,x,G⟩ ?_
 rintro n a w ⟨k,ρ,rfl,s,v⟩;refine wp_mono (d k ρ a w s v) ?_;intro e q w' p;cases e with
 |normal=>
  obtain⟨f,g,t,u,r⟩:=p;exact⟨i f,u,f,g,rfl,t,r⟩
 |_=>exact p
theorem O9{d:Type}{f:d->Prop}{g:d->Nat}{r:d->List AI}{q:d->List (Nat×AA)}{k:d}(G:Ap φ ψ w0 F N m ρ0 ρ S tm a w)(b:d)(u:f b)(j:g b<g k)(e)(l)(c)(i:r b=l)(o:q b=c)
  (s:KD m e l c=V) (t:e.map (An S)=l.map (AI.ren (CX e))) (v:(c.map (·.1)).map (Db tm)=c.map λp=>Z (p.2.ren (CX e))):
  ∃b h,f b/\g b<g k/\Ap φ ψ w0 F N m ρ0 h (r b) (q b) a w:=by
 subst i;subst o;exact⟨b,_,u,j,Jx.sel G e _ _ s t v⟩
theorem Ap.len(G:Ap φ ψ w0 F N m ρ0 ρ S tm a w)(i){d}(h:Mv (An S i)=Z d):d.len<=9223372036854775807:=by
 obtain⟨_,c,_,e,b,_⟩:=G.mem.sliceAt h;unfold maxLen at b;omega
end
mutual
def AA.den(t:Bool)(n:Nat):AA->AA
 |.v x=>.v x
 |.P a b=>.P a b
 |.ea a b c d=>.ea a b c d
 |.N i=>if !t&&CW i n then .v (.slice I 0 0)else .N i
 |.agg l=>.agg (AA.denL t n l)
 |.T l=>.T (AA.denL t n l)
 |.fn f l=>.fn f (AA.denL t n l)
 |.bm f l=>.bm f (AA.denL t n l)
 |.F i=>if t&&CW i n then .v (.slice I 0 0)else .F i
def AA.denL(t:Bool)(n:Nat):List AA->List AA
 |[]=>[]
 |x::r=>x.den t n::AA.denL t n r
end
def AI.den(t:Bool)(n:Nat):AI->AI
 |.C a=>.C (AA.denL t n a)
 |x=>x
mutual
theorem AA.val_den{ρ:Nat->Value}{t:Bool}{n:Nat}{z:Value}(hz:if t then Fe z=.slice I 0 0 else z=.slice I 0 0):∀(x:AA),(∀i∈(x.den t n).ids,i<n)->x.val (fun j=>if j=n then z else ρ j)=(x.den t n).val ρ/\∀i∈x.ids,i<n+1
 |.v _,_=>⟨rfl,fun i hi=>by simp[AA.ids]at hi⟩
 |.P a b,h=>by
  have ha:a<n:=h a (by simp[AA.den,AA.ids])
  refine⟨?_,fun i hi=>by simp[AA.ids]at hi;omega⟩
  simp only[AA.den,AA.val];rw[AO O]
 |.ea a b c d,h=>by
  have ha:a<n:=h a (by simp[AA.den,AA.ids])
  refine⟨?_,fun i hi=>by simp[AA.ids]at hi;omega⟩
  simp only[AA.den,AA.val];rw[AO O]
 | .N a, h => by
  by_cases e:t=U/\a=n
  ·obtain⟨rfl,rfl⟩:=e
   refine⟨?_,fun i hi=>by simp[AA.ids]at hi;omega⟩
   simp only[Bool.false_eq_true,if_false]at hz;simp[AA.den,AA.val,CW,hz]
  have hd:(AA.N a).den t n=.N a:=by
   simp only[AA.den];rw[AO];simp[CW];intro h1 h2;exact e ⟨h1,h2⟩
  rw[hd]at h ⊢;have ha:a<n:=h a (by simp[AA.ids])
  refine⟨?_,fun i hi=>by simp[AA.ids]at hi;omega⟩
  simp only[AA.val];rw[AO O]
 | .F a, h => by
  by_cases e:t=V/\a=n
  ·obtain⟨rfl,rfl⟩:=e
   refine⟨?_,fun i hi=>by simp[AA.ids]at hi;omega⟩
   simp only[if_true]at hz;simp[AA.den,AA.val,CW,hz]
  have hd:(AA.F a).den t n=.F a:=by
   simp only[AA.den];rw[AO];simp[CW];intro h1 h2;exact e ⟨h1,h2⟩
  rw[hd]at h ⊢;have ha:a<n:=h a (by simp[AA.ids])
  refine⟨?_,fun i hi=>by simp[AA.ids]at hi;omega⟩
  simp only[AA.val];rw[AO O]
 |.agg l,h=>by
  obtain⟨h1,h2⟩:=AA.vals_den hz l (by simpa[AA.den,AA.ids]using h)
  exact⟨by simp only[AA.den,AA.val];rw[h1],by simpa[AA.ids]using h2⟩
 |.T l,h=>by
  obtain⟨h1,h2⟩:=AA.vals_den hz l (by simpa[AA.den,AA.ids]using h)
  exact⟨by simp only[AA.den,AA.val];rw[h1],by simpa[AA.ids]using h2⟩
 |.fn f l,h=>by
  obtain⟨h1,h2⟩:=AA.vals_den hz l (by simpa[AA.den,AA.ids]using h)
  exact⟨by simp only[AA.den,AA.val];rw[h1],by simpa[AA.ids]using h2⟩
 |.bm f l,h=>by
  obtain⟨h1,h2⟩:=AA.vals_den hz l (by simpa[AA.den,AA.ids]using h)
  exact⟨by simp only[AA.den,AA.val];rw[h1],by simpa[AA.ids]using h2⟩
theorem AA.vals_den{ρ:Nat->Value}{t:Bool}{n:Nat}{z:Value}(hz:if t then Fe z=.slice I 0 0 else z=.slice I 0 0):∀(l:List AA),(∀i∈AA.idsL (AA.denL t n l),i<n)->AA.vals (fun j=>if j=n then z else ρ j) l=AA.vals ρ (AA.denL t n l)/\∀i∈AA.idsL l,i<n+1
 |[],_=>⟨rfl,fun i hi=>by simp[AA.idsL]at hi⟩
 |x::r,h=>by
  obtain⟨h1,h2⟩:=AA.val_den hz x fun i hi=>h i (by simp only[AA.denL,AA.idsL,DQ];exact .inl hi)
  obtain⟨h3,h4⟩:=AA.vals_den hz r fun i hi=>h i (by simp only[AA.denL,AA.idsL,DQ];exact .inr hi)
  refine⟨by simp only[AA.denL,AA.vals];rw[h1,h3],fun i hi=>?_⟩
  simp only[AA.idsL,DQ]at hi;rcases hi with hi|hi
  ·exact h2 i hi
  exact h4 i hi
end
theorem gN{m}{n}{t}{x}:∀{a:List (Nat×AA)},Db a t=Z x->Db (a.map λp=>(p.1,p.2.den m n)) t=Z (x.den m n)
 |[],h=>by cases h
 |(k,y)::r,h=>by
  simp only[Db,Fa]at h ⊢;split at h
  ·rename_i e;cases h;rw[AZ e]
  rename_i e;rw[AO e];exact gN h
section
variable{P:Program}{ι:Type}{φ ψ:Nat->Prop}{w0 w:World}{F:ι->Bv}{ρ ρ0:Nat->Value}{N m n:Nat}{S:List AI}{tm:List (Nat×AA)}{a:Act}
theorem Ap.nilW(G:Ap φ ψ w0 F N m ρ0 ρ S tm a w)(n)(hn:S.length=n)(b)(x)(z)(M:if b then Fe z=.slice I 0 0 else z=.slice I 0 0)(D:x.ids=[])(v:∀g,¬(x.res (λj=>if j=n then z else ρ j) n).blk g)
  (l:∀L,(x.res (λj=>if j=n then z else ρ j) n).holds w L) (e) (u) (hS:S=e.map (AI.den b n)) (X:tm=u.map λp=>(p.1,p.2.den b n)):
  ∃E,Ap φ ψ w0 F N m ρ0 E (e++[x]) u a w:=by
 have hl:J e=n:=by rw[<-hn,hS,List.length_map]
 have y:∀j (f:j<n),An S j=(e[j]'O).den b n:=λj f=>by
  rw[Pn (show j<S.length by omega)]
  have o:=congrArg (·[j]?) hS
  simp only[List.getElem?_map,CF (show j<S.length by omega),CF (show j<(J e) by omega),Option.map_some,Option.some.injEq]at o
  exact o
 have r:∀j (f:j<n),An (e++[x]) j=e[j]'O:=λj f=>by
  simp[An,Bu,Fb (show j<(J e) by omega),CF (show j<(J e) by omega)]
 have d:An (e++[x]) n=x:=by
  simp[An,Bu, <-hl]
 have s:∀j,n<j->An (e++[x]) j=.none:=λj f=>Fn CY
 have C:∀j (f:j<n),((e[j]'O).res (λj=>if j=n then z else ρ j) j=(An S j).res ρ j)/\∀i∈(e[j]'O).ids,i<n+1:=λj f=>by
  rw[y j f];have v:=(G.bd j).1;rw[y j f,hn]at v;generalize e[j]'O=x at*;cases x with
  |C cs=>
   obtain⟨o,h2⟩:=AA.vals_den (ρ:=ρ) (n:=n) M cs v;refine⟨?_,h2⟩;simp only[AI.res,AI.den];rw[o,AO (show ¬j=n by omega)]
  |none=>exact⟨rfl,λi c=>by cases c⟩
  |E=>exact⟨rfl,λi c=>by cases c⟩
  |G H=>exact⟨by simp only[AI.res,AI.den];rw[AO (show ¬j=n by omega)],λi c=>by cases c⟩
  |L T H=>exact⟨by simp only[AI.res,AI.den];rw[AO (show ¬j=n by omega)],λi c=>by cases c⟩
  |Q H=>exact⟨by simp only[AI.res,AI.den];rw[AO (show ¬j=n by omega)],λi c=>by cases c⟩
  |kept T H=>exact⟨by cases T<;>(simp only[AI.res,AI.den];rw[AO (show ¬j=n by omega)]),λi c=>by cases c⟩
  |err=>exact⟨by simp only[AI.res,AI.den];rw[AO (show ¬j=n by omega)],λi c=>by cases c⟩
  |H k q ls=>
   have hk:k<n:=v k (by simp[AI.den,AI.ids])
   exact⟨by simp only[AI.res,AI.den];rw[AO (show ¬j=n by omega),AO (show ¬k=n by omega)],λi c=>by simp[AI.ids]at c;omega⟩
 have Q:∀t x,Db u t=Z x->x.val (λj=>if j=n then z else ρ j)=(x.den b n).val ρ/\∀i∈x.ids,i<n+1:=λt x l=>by
  refine AA.val_den M x λi c=>?_
  have o:Db tm t=Z (x.den b n):=by rw[X];exact gN l
  have:=G.tmi t _ o i c;omega
 refine⟨λj=>if j=n then z else ρ j,?_⟩
 refine⟨G.size,G.defs,λt x l=>?_,λt x l i c=>?_,λj=>⟨λi c=>?_,λf=>Fn f⟩,?_,?_,λi c=>?_⟩
 ·have o:Db tm t=Z (x.den b n):=by rw[X];exact gN l
  rw[(Q t x l).1];exact G.tmv t _ o
 ·have:=(Q t x l).2 i c
  simp;omega
 ·rcases Nat.lt_trichotomy j n with h|h|h
  ·rw[r j h]at c
   have:=(C j h).2 i c;simp;omega
  ·subst h;rw[d,D]at c;cases c
  rw[s j h]at c;cases c
 ·refine BV.put G.mem (.inr n) (λk hk=>?_) (Dl.refl _ _) ?_ ?_
  ·cases k with
   |inl i=>rfl
   |inr j=>
    simp only[Am];rcases Nat.lt_trichotomy j n with h|h|h
    ·rw[r j h];exact(C j h).1
    ·exact absurd (by rw[h]) hk
    rw[s j h,Fn (show S.length<=j by omega)];rfl
  ·simp only[Am,d];exact l _
  intro g R;simp only[Am,d]at R;exact absurd R (v g)
 ·have:=G.le;simp;omega
 show(if i=n then _ else ρ i)=ρ0 i
 have:=G.le;rw[AO O];exact G.old i c
theorem Ap.nil(G:Ap φ ψ w0 F N m ρ0 ρ S tm a w)(n)(e:TypeId)(d)(k)(f)(b)(l:S.length=n:=by kernel_rfl)(j:D.nil k=Z d:=by kernel_rfl)(q:S=f.map (AI.den U n):=by kernel_rfl)(s:tm=b.map (λp=>(p.1,p.2.den U n)):=by kernel_rfl):
  ∃c,Ap φ ψ w0 F N m ρ0 c (f++[.L e d]) b a w:=by
 have h:=D.nil_len j;refine G.nilW n l U (.L e d) (.slice I 0 0) At rfl (λg i=>?_) (λr=>?_) f b q s
 ·simp only[AI.res,if_true]at i
  cases i
 simp only[AI.res,if_true];refine⟨λo=>Ci.nice d o,[],?_,Ci.nil h _⟩
 rw[h];exact World.ownsRow_nil _ _ _ _
theorem Ap.nilT(G:Ap φ ψ w0 F N m ρ0 ρ S tm a w)(n)(d)(k)(c)(y:S.length=n:=by kernel_rfl)(i:((OO d).isSome&&CW d.len 0)=true:=by kernel_rfl)(v:S=k.map (AI.den V n):=by kernel_rfl)(t:tm=c.map (λp=>(p.1,p.2.den V n)):=by kernel_rfl):
  ∃l,Ap φ ψ w0 F N m ρ0 l (k++[.Q d]) c a w:=by
 simp only[Aj,CW,beq_iff_eq]at i;obtain⟨e,o⟩:=MD.1 i.1;obtain⟨z,q,r⟩:=fp (.slice I 0 0) (λ_=>False) 0 λb h=>h.elim
 refine G.nilW n y V (.Q d) z (by simp[q]) rfl (λg f=>?_) (λu=>?_) k c v t
 ·simp only[AI.res,if_true]at f
  exact((r g).1 f).elim
 simp only[AI.res,if_true];rw[q];refine⟨λ_ _ h x=>h.same x,⟨e,[],λ_=>False,o,?_,(λg f=>by cases f),(λb j=>j.elim),?_⟩,λb j=>((r b).1 j).elim⟩
 ·rw[i.2];exact World.ownsRow_nil _ _ _ _
 have s:=i.2;cases d<;>simp only[OO]at o<;>first|cases o|skip
 all_goals (simp only[D.len]at s;rw[FM s];rfl)
end
inductive Hl where
 |no
 |L (e:TypeId)
 |Q
def DN(M:List Hl)(i:Nat):Hl:=M.getD i .no
def Hl.isT:Hl->Bool
 |.Q=>V
 |_=>U
mutual
def AA.tr(M:List Hl):AA->AA
 |.v x=>.v x
 |.P a b=>.P a b
 |.ea a b c d=>.ea a b c d
 |.N i=>if(DN M i).isT then .F i else .N i
 |.agg l=>.agg (AA.trL M l)
 |.T l=>.T (AA.trL M l)
 |.fn f l=>.fn f (AA.trL M l)
 |.bm f l=>.bm f (AA.trL M l)
 |.F i=>.F i
def AA.trL(M:List Hl):List AA->List AA
 |[]=>[]
 |x::r=>x.tr M::AA.trL M r
end
mutual
def AA.trOk(M:List Hl):AA->Bool
 |.v _=>V
 |.P a _=> !(DN M a).isT
 |.ea a _ _ _=> !(DN M a).isT
 |.N _=>V
 |.agg l=>AA.trOkL M l
 |.T l=>AA.trOkL M l
 |.fn _ l=>AA.trOkL M l
 |.bm _ l=>AA.trOkL M l
 |.F i=> !(DN M i).isT
def AA.trOkL(M:List Hl):List AA->Bool
 |[]=>V
 |x::r=>x.trOk M&&AA.trOkL M r
end
mutual
theorem AA.val_tr{ρ ρ':Nat->Value}{M:List Hl}(h:∀i,ρ' i=if(DN M i).isT then Fe (ρ i)else ρ i):∀(x:AA),x.trOk M=V->(x.tr M).val ρ=x.val ρ'
 |.v _,_=>rfl
 |.P a _,hx=>by
  simp only[AA.trOk,Cn]at hx;simp only[AA.tr,AA.val];rw[h a,hx];rfl
 |.ea a _ _ _,hx=>by
  simp only[AA.trOk,Cn]at hx;simp only[AA.tr,AA.val];rw[h a,hx];rfl
 |.N i,_=>by
  simp only[AA.tr];cases hm:(DN M i).isT
  ·simp only[Bool.false_eq_true,if_false,AA.val];rw[h i,hm];rfl
  simp only[if_true,AA.val];rw[h i,hm];rfl
 |.agg l,hx=>by simp only[AA.tr,AA.val];rw[AA.vals_tr h l (by simpa[AA.trOk]using hx)]
 |.T l,hx=>by simp only[AA.tr,AA.val];rw[AA.vals_tr h l (by simpa[AA.trOk]using hx)]
 |.fn _ l,hx=>by simp only[AA.tr,AA.val];rw[AA.vals_tr h l (by simpa[AA.trOk]using hx)]
 |.bm _ l,hx=>by simp only[AA.tr,AA.val];rw[AA.vals_tr h l (by simpa[AA.trOk]using hx)]
 |.F i,hx=>by
  simp only[AA.trOk,Cn]at hx;simp only[AA.tr,AA.val];rw[h i,hx];rfl
theorem AA.vals_tr{ρ ρ':Nat->Value}{M:List Hl}(h:∀i,ρ' i=if(DN M i).isT then Fe (ρ i)else ρ i):∀(l:List AA),AA.trOkL M l=V->AA.vals ρ (AA.trL M l)=AA.vals ρ' l
 |[],_=>rfl
 |x::r,hx=>by
  simp only[AA.trOkL,Aj]at hx;simp only[AA.trL,AA.vals];rw[AA.val_tr h x hx.1,AA.vals_tr h r hx.2]
end
def Fu(M:List Hl):Hl->AI->AI
 |.L e,.G d=>.L e d
 |.Q,.G d=>.Q d
 |.no,.C a=>.C (AA.trL M a)
 |_,x=>x
def KY(M:List Hl)(S:List AI):List AI:=(DA S.length).map λi=>Fu M (DN M i) (An S i)
theorem Rm(M)(S)(i):An (KY M S) i=Fu M (DN M i) (An S i):=by
 unfold KY;rcases Du i S.length with h|h
 ·conv=>lhs;rw[An,Bu,List.getElem?_map,List.getElem?_range h]
  rfl
 rw[Fn (by simpa using h),Fn h]
 cases DN M i<;>rfl
def Vk:D->Bool
 |.L _=>U
 |.brows _=>U
 |.P _=>U
 |.M _=>U
 |_=>V
theorem og{w f}{l b}{d}{e}(k:Vk d=V)(h:Ci w l d e):Ci f b d e:=by
 intro i n j x c;obtain⟨u,g,m⟩:=h i n j x c;refine⟨u,g,?_⟩
 have:∃y,x=.v y:=by
  have a:=FF c;cases d<;>simp only[Vk,Bool.false_eq_true]at k<;>simp[D.elem,Sm,SH]at a
  ·exact⟨_,a⟩
  ·exact⟨_,a⟩
  ·exact⟨_,a⟩
  ·exact⟨_,a⟩
  ·rcases a with h|h|h|h|h<;>exact⟨_,h⟩
  rcases a with h|h<;>exact⟨_,h⟩
 obtain⟨y,rfl⟩:=this;exact m
def PG(M:List Hl)(l:Hl)(p x:AI):Bool:=
 match l with
 |.no=>match x with
  |.G _=>(match p with|.G _=>V|_=>U)
  |.L _ d=>Vk d
  |.C a=>AA.trOkL M a
  |.kept _ _=>U
  |.H _ _ _=>U
  |_=>V
 |.L _=>(match p,x with|.G d,.G _=>Vk d|_,_=>U)
 |.Q=>(match p,x with|.G d,.G _=>(OO d).isSome|_,_=>U)
def gU(M:List Hl)(l:Hl)(p:AI):Bool:=
 match l,p with
 |.no,.C a=>AA.trOkL M a
 |.no,.H _ _ _=>U
 |_,_=>V
def gn(M:List Hl)(c:AN):Bool:=
 Y (M.length<=J c.pre)&&Y (J c.pre<=J c.post)&&AA.trOkL M c.args&&c.res.trOk M&&(DA (J c.post)).all (λi=>PG M (DN M i) (An c.pre i) (An c.post i))&&(DA (J c.pre)).all λi=>gU M (DN M i) (An c.pre i)
def Bv.snap(w:World)(r:Bv):Bv:=.own r.blk λa=>∀b,r.blk b->b<w.heap.size->a.heap[b]? =w.heap[b]?
theorem Bv.snap_holds{w}{i d}{r:Bv}(h:r.holds w i):(r.snap w).holds w d:=by
 refine⟨λf l g j b c a=>?_,λb _ _=>rfl,λb c=>Bv.lt h c⟩
 have e:=g b c a;rw[j b c,e];have:(f.heap[b]?).isSome=true:=by rw[e,Array.getElem?_eq_getElem a];rfl
 obtain⟨o,k⟩:=MD.1 this;exact(Array.getElem?_eq_some_iff.1 k).1
theorem fH:∀{P X:List AI} {i:Nat} {d e:D},MH P X=Lz P X->An P i=.G d->An X i=.G e->d=e
 | P, X, i, d, e, h, b, c => by
  have f:P[i]? =Z (.G d):=by
   rcases Du i P.length with a|a
   ·rw[Pn a]at b;rw[CF a,b]
   rw[Fn a]at b;cases b
  have g:X[i]? =Z (.G e):=by
   rcases Du i X.length with a|a
   ·rw[Pn a]at c;rw[CF a,c]
   rw[Fn a]at c;cases c
  exact aa4 h f g
theorem AN.lend0{P}{c}(hc:c.ok P)(M)(l:gn M c=V)(he:MH c.pre c.post=Lz c.pre c.post):AN.ok P ⟨c.f,AA.trL M c.args,KY M c.pre,KY M c.post,c.res.tr M⟩:=by
 simp only[gn,Aj,decide_eq_true_eq]at l;obtain⟨⟨⟨⟨⟨hM,bH⟩,aR⟩,aY⟩,aW⟩,bB⟩:=l
 have aJ:∀i,J c.pre<=i->DN M i=.no:=λi hi=>by
  unfold DN;rw[Bu,FO O];rfl
 have aV:∀i,PG M (DN M i) (An c.pre i) (An c.post i)=true:=λi=>by
  rcases Du i (J c.post)with h|h
  ·exact Bt.1 aW i (GW.2 h)
  rw[aJ i O,Fn h];rfl
 have bF:∀i,gU M (DN M i) (An c.pre i)=true:=λi=>by
  rcases Du i (J c.pre)with h|h
  ·exact Bt.1 bB i (GW.2 h)
  rw[aJ i h,Fn h];rfl
 intro ι φ ψ w0 w F R n
 let r:Nat->Value:=λi=>if(DN M i).isT then Fe (R i)else R i
 have N:∀i,r i=if(DN M i).isT then Fe (R i)else R i:=λ_=>rfl
 let F1:ι->Bv:=λi=>(F i).snap w
 have H:∀i,Am F R (An (KY M c.pre)) (.inl i)=F i:=λ_=>rfl
 have y:∀j,Am F R (An (KY M c.pre)) (.inr j)=(Fu M (DN M j) (An c.pre j)).res R j:=λj=>by simp only[Am];rw[Rm]
 generalize hL:Am F R (An (KY M c.pre))=L at n H y
 have aX:∀j,DN M j=.no->(An c.pre j).res r j=L (.inr j):=λj a=>by
  rw[y,a];have p:=bF j;have e:r j=R j:=by rw[N,a];rfl
  cases D:An c.pre j with
  |none=>rfl
  |E=>rfl
  |G d=>simp only[Fu,AI.res];rw[e]
  |L e' d=>simp only[Fu,AI.res];rw[e]
  |Q d=>simp only[Fu,AI.res];rw[e]
  |kept e' d=>cases e'<;>(simp only[Fu,AI.res];rw[e])
  |H k i ls=>rw[a,D]at p;cases p
  |err=>simp only[Fu,AI.res];rw[e]
  |C cs=>
   rw[a,D]at p;simp only[gU]at p;simp only[Fu,AI.res];rw[e,AA.vals_tr N cs p]
 have S:∀j,DN M j≠ .no->(∃d,An c.pre j=.G d/\An c.post j=.G d/\((∃e,DN M j=.L e/\Vk d=V)\/DN M j=.Q)):=λj hj=>by
  have h:=aV j;cases a:DN M j with
  |no=>exact absurd a hj
  | L e =>
   rw[a]at h;simp only[PG]at h;split at h
   ·rename_i d d' m s
    exact⟨d,m,by rw[s, <-fH he m s],.inl ⟨e,rfl,h⟩⟩
   cases h
  | Q =>
   rw[a]at h;simp only[PG]at h;split at h
   ·rename_i d d' m s
    exact⟨d,m,by rw[s, <-fH he m s],.inr rfl⟩
   cases h
 have q:∀k b,(Am F1 r (An c.pre) k).blk b->(L k).blk b/\∀j,k=.inr j->DN M j=.no:=λk b l=>by
  cases k with
  |inl i=>rw[H];exact⟨l,λj h=>by cases h⟩
  | inr j =>
   by_cases a:DN M j=.no
   ·simp only[Am]at l
    rw[aX j a]at l;exact⟨l,λj' h=>by cases h;exact a⟩
   obtain⟨d,m,_⟩:=S j a;simp only[Am,m,AI.res]at l;exact l.elim
 have aM:∀b,EY φ L b->EY φ (Am F1 r (An c.pre)) b:=λb l=>⟨l.1,λk t=>l.2 k (q k b t).1⟩
 let aL:Nat->Prop:=λb=>∀k,¬(Am F1 r (An c.pre) k).blk b
 have M1:BV φ aL w w (Am F1 r (An c.pre)):=by
  refine⟨Dl.refl _ _,λb l=>n.fresh b (DO n.size l),λw' t=>n.env w' ⟨t.os.trans n.kept.os,t.tape.trans n.kept.tape,t.output.trans n.kept.output,DO n.size t.size,λb l p=>(t.block b (IM l n.size) λk bC=>(n.ge k b (q k b bC).1).elim (λh=>by omega) λh=>h p).trans (n.kept.block b l p)⟩,λk=>?_,λk C b aH m s=>n.dis k C b aH (q k b m).1 (q C b s).1,λk b m=>.inr λh=>h k m,λk b m=>n.ph k b (q k b m).1⟩
  cases k with
  |inl i=>exact Bv.snap_holds (show(F i).holds w _ from by rw[<-H i];exact n.holds (.inl i))
  | inr j =>
   by_cases a:DN M j=.no
   ·simp only[Am]
    rw[aX j a];exact Bv.keep (n.holds (.inr j)) (Ew.mono λb _ hf=>aM b hf) λ_ _=>rfl
   obtain⟨d,m,s,E⟩:=S j a;have G:=n.holds (.inr j)
   have aO:∀b,(L (.inr j)).blk b->EY φ (Am F1 r (An c.pre)) b:=λb l=>⟨n.ph _ _ l,λk t=>by
    obtain⟨q1,q2⟩:=q k b t;by_cases e:k=.inr j
    ·exact a (q2 j e)
    exact n.dis k (.inr j) b e q1 l⟩
   simp only[Am,m,AI.res];refine⟨EK.nice _ _,?_⟩;rcases E with⟨e,E,aU⟩|E
   ·rw[y,E,m]at G
    simp only[Fu,AI.res]at G;obtain⟨_,xs,BA,Co⟩:=G;have e1:r j=R j:=by rw[N,E];rfl
    rw[e1];refine EK.make (Jo BA λg hg=>aO g ?_) (og aU Co)
    rw[y,E,m];exact hg
   rw[y,E,m]at G;simp only[Fu,AI.res]at G;have e1:r j=Fe (R j):=by rw[N,E];rfl
   rw[e1];refine FR.read G.2.1 λb l=>aO b ?_
   rw[y,E,m];exact l
 simp only;rw[AA.vals_tr N c.args aR];refine(hc ι φ aL w w F1 r M1).mono ?_;rintro x w' ⟨z,Bs,g2,M2⟩;have aQ:(KY M c.pre).length=J c.pre:=by simp[KY]
 let u:Nat->Value:=λj=>if j<(J c.pre)then R j else z j
 have aD:∀j,z j=if(DN M j).isT then Fe (u j)else u j:=λj=>by
  show _=if(DN M j).isT then Fe (if j<(J c.pre)then R j else z j)else(if j<(J c.pre)then R j else z j)
  rcases Du j (J c.pre)with h|h
  ·rw[AZ h,Bs j h]
  rw[aJ j h];exact(AO (Nat.not_lt.2 h)).symm
 have aN:∀j,DN M j≠ .no->u j=R j:=λj hj=>by
  rcases Du j (J c.pre)with h|h
  ·exact AZ h
  exact absurd (aJ j h) hj
 refine⟨u,λi hi=>AZ (by rw[aQ]at hi;exact hi),by rw[AA.val_tr aD c.res aY];exact g2,?_⟩
 have o:∀j,Am F u (An (KY M c.post)) (.inr j)=(Fu M (DN M j) (An c.post j)).res u j:=λj=>by simp only[Am];rw[Rm]
 have v:∀i,Am F u (An (KY M c.post)) (.inl i)=F i:=λ_=>rfl
 generalize bG:Am F u (An (KY M c.post))=L' at o v
 have Q:∀j,DN M j=.no->L' (.inr j)=Am F1 z (An c.post) (.inr j):=λj a=>by
  rw[o,a];have p:=aV j;have e:z j=u j:=by rw[aD,a];rfl
  simp only[Am];cases D:An c.post j with
  |none=>rfl
  |E=>rfl
  |G d=>simp only[Fu,AI.res];rw[e]
  |L e' d=>simp only[Fu,AI.res];rw[e]
  |Q d=>simp only[Fu,AI.res];rw[e]
  |kept e' d=>cases e'<;>(simp only[Fu,AI.res];rw[e])
  |H k i ls=>rw[a,D]at p;cases p
  |err=>simp only[Fu,AI.res];rw[e]
  |C cs=>
   rw[a,D]at p;simp only[PG]at p;simp only[Fu,AI.res];rw[e,AA.vals_tr aD cs p]
 have aF:∀j,DN M j≠ .no->L' (.inr j)=L (.inr j):=λj a=>by
  obtain⟨d,m,s,E⟩:=S j a;rw[o,y,m,s];rcases E with⟨e,E,_⟩|E
  ·rw[E];simp only[Fu,AI.res];rw[aN j a]
  rw[E];simp only[Fu,AI.res];rw[aN j a]
 have bD:∀b,b<w.heap.size->¬aL b->∃k,(L k).blk b/\∀j,k=.inr j->DN M j=.no:=λb _ hn=>by
  obtain⟨k,t⟩:=Classical.not_forall.1 hn;exact⟨k,q k b (Classical.not_not.1 t)⟩
 have aG:∀k b,(∀j,k=.inr j->DN M j=.no)->(Am F1 z (An c.post) k).blk b->b<w.heap.size->∃C,(L C).blk b/\∀j,C=.inr j->DN M j=.no:=λk b _ l aE=>by
  rcases M2.ge k b l with h|h
  ·omega
  exact bD b aE h
 have aS:∀k b,(L' k).blk b->b<w.heap.size->∃C,(L C).blk b:=λk b l aE=>by
  cases k with
  |inl i=>rw[v]at l;exact⟨.inl i,by rw[H];exact l⟩
  | inr j =>
   by_cases a:DN M j=.no
   ·rw[Q j a]at l
    obtain⟨C,m,_⟩:=aG (.inr j) b (λj' h=>by cases h;exact a) l aE
    exact⟨C,m⟩
   rw[aF j a]at l;exact⟨_,l⟩
 have T:∀b,b<w.heap.size->aL b->w'.heap[b]? =w.heap[b]? :=λb m s=>M2.kept.block b m s
 have aC:Ew (EY φ L) (EY φ L') w w':=⟨M2.kept.size,λb l hf=>⟨⟨hf.1,λk t=>let⟨C,m⟩:=aS k b t l;hf.2 C m⟩,T b l λk t=>(aM b hf).2 k t⟩⟩
 have aI:∀j,DN M j≠ .no->∀b,(L (.inr j)).blk b->w'.heap[b]? =w.heap[b]? :=λj a b l=>T b (n.lt l) λk t=>by
  obtain⟨q1,q2⟩:=q k b t;by_cases e:k=.inr j
  ·exact a (q2 j e)
  exact n.dis k (.inr j) b e q1 l
 have X:∀j k b,DN M j≠ .no->(∀j,k=.inr j->DN M j=.no)->(L (.inr j)).blk b->¬(Am F1 z (An c.post) k).blk b:=λj k b a t m s=>by
  obtain⟨C,E,h4⟩:=aG k b t s (n.lt m);exact n.dis C (.inr j) b (λe=>a (h4 j e)) E m
 refine⟨⟨M2.kept.os.trans n.kept.os,M2.kept.tape.trans n.kept.tape,M2.kept.output.trans n.kept.output,DO n.size M2.kept.size,λb l p=>(T b (IM l n.size) λk t=>?_).trans (n.kept.block b l p)⟩,n.fresh,n.env,λk=>?_,λk C b aH m s=>?_,λk b m=>?_,λk b m=>?_⟩
 ·rcases n.ge k b (q k b t).1 with h|h
  ·omega
  exact h p
 ·cases k with
  |inl i=>
   rw[v, <-H i];refine Bv.keep (n.holds (.inl i)) aC λb l=>?_
   have:=(M2.holds (.inl i)).2.1 b (by rw[<-H i];exact l) (n.lt l)
   exact this
  | inr j =>
   by_cases a:DN M j=.no
   ·have G:=M2.holds (.inr j)
    rw[<-Q j a]at G;have p:=aV j;rw[a]at p;cases D:An c.post j with
    |none=>rw[o,a,D];exact Bv.none_holds _ _
    |E=>rw[o,a,D];exact Bv.none_holds _ _
    |C cs=>rw[o,a,D]at G ⊢;exact G
    |Q d=>rw[o,a,D]at G ⊢;exact G
    |kept e' d=>rw[D]at p;exact absurd p (by simp[PG])
    |H k i ls=>rw[D]at p;exact absurd p (by simp[PG])
    |err=>rw[o,a,D]at G ⊢;exact G
    |L e d=>
     rw[D]at p;simp only[PG]at p;rw[o,a,D]at G ⊢;simp only[Fu,AI.res]at G ⊢;obtain⟨_,xs,BA,Co⟩:=G;exact⟨λxs=>Ci.nice d xs,xs,BA,og p Co⟩
    | G d =>
     rw[D]at p;simp only[PG]at p;split at p
     ·rename_i d' aB
      have hd:d'=d:=fH he aB D;subst hd
      have e:L' (.inr j)=L (.inr j):=by
       rw[o,y,a,D,aB];simp only[Fu,AI.res]
       have:j<J c.pre:=by
        rcases Du j (J c.pre)with h|h
        ·exact h
        rw[Fn h]at aB;cases aB
       rw[show u j=R j from AZ this]
      rw[e];refine Bv.keep (n.holds (.inr j)) aC λb l=>?_
      rw[y,a,aB]at l;exact l.elim
     cases p
   rw[aF j a];exact Bv.keep (n.holds (.inr j)) aC λb l=>aI j a b l
 ·have aZ:∀k,(∃j,k=.inr j/\DN M j≠ .no/\(L' k)=L k)\/((∀j,k=.inr j->DN M j=.no)/\∀b,(L' k).blk b->(Am F1 z (An c.post) k).blk b):=λk=>by
   cases k with
   |inl i=>exact .inr ⟨(λj h=>by cases h),λb l=>by rw[v]at l;exact l⟩
   |inr j=>
    by_cases a:DN M j=.no
    ·exact .inr ⟨λj' h=>by cases h;exact a,λb l=>by rw[Q j a]at l;exact l⟩
    exact .inl ⟨j,rfl,a,aF j a⟩
  rcases aZ k with⟨j,rfl,k1,k2⟩|⟨k1,k2⟩<;>rcases aZ C with⟨j',rfl,k3,k4⟩|⟨k3,k4⟩
  ·rw[k2]at m;rw[k4]at s;exact n.dis _ _ b aH m s
  ·rw[k2]at m;exact X j C b k1 k3 m (k4 b s)
  ·rw[k4]at s;exact X j' k b k3 k1 s (k2 b m)
  exact M2.dis k C b aH (k2 b m) (k4 b s)
 ·cases k with
  |inl i=>rw[v, <-H i]at m;exact n.ge _ b m
  | inr j =>
   by_cases a:DN M j=.no
   ·rw[Q j a]at m
    rcases Du b w.heap.size with aE|bE
    ·obtain⟨C,s,_⟩:=aG (.inr j) b (λj' h=>by cases h;exact a) m aE
     exact n.ge C b s
    exact .inl (DO n.size bE)
   rw[aF j a]at m;exact n.ge _ b m
 cases k with
 |inl i=>rw[v, <-H i]at m;exact n.ph _ b m
 |inr j=>
  by_cases a:DN M j=.no
  ·rw[Q j a]at m;exact M2.ph _ b m
  rw[aF j a]at m;exact n.ph _ b m
def rX(M:List Hl):Hl->AI->AI
 |.L e,.G d=>.kept (Z e) d
 |.Q,.G d=>.kept I d
 |.no,.C a=>.C (AA.trL M a)
 |_,x=>x
def ig(M:List Hl)(S:List AI):List AI:=(DA S.length).map λi=>rX M (DN M i) (An S i)
theorem G8(M)(S)(i):An (ig M S) i=rX M (DN M i) (An S i):=by
 unfold ig;rcases Du i S.length with h|h
 ·conv=>lhs;rw[An,Bu,List.getElem?_map,List.getElem?_range h]
  rfl
 rw[Fn (by simpa using h),Fn h]
 cases DN M i<;>rfl
theorem AN.lend{P}{c}(d:c.ok P)(M)(a:gn M c=true:=by kernel_rfl)(b:MH c.pre c.post=Lz c.pre c.post:=by kernel_rfl):AN.ok P ⟨c.f,AA.trL M c.args,KY M c.pre,ig M c.post,c.res.tr M⟩:=
 AN.okPost (AN.lend0 d M a b) _ λe i=>by
  simp only;rw[G8,Rm];cases DN M i<;>cases An c.post i<;>rfl
section
variable{P:Program}{ι κ:Type}{φ ψ:Nat->Prop}{w0 w:World}{F:ι->Bv}{ρ ρ0:Nat->Value}{N m n:Nat}{S:List AI}{tm:List (Nat×AA)}{a:Act}
theorem BV.release{L l:κ->Bv}(M:BV φ ψ w0 w L)(h:∀k,l k=L k\/((∀b,¬(l k).blk b)/\∀f,(∀b,EY φ L b->f b)->(∀b,(L k).blk b->f b)->(l k).holds w f)):BV φ ψ w0 w l:=by
 have d:∀k b,(l k).blk b->(L k).blk b:=λk b c=>by
  rcases h k with e|⟨o,_⟩
  ·rw[e]at c;exact c
  exact(o b c).elim
 have p:∀b,EY φ L b->EY φ l b:=λb c=>⟨c.1,λk t=>c.2 k (d k b t)⟩
 refine⟨M.kept,M.fresh,M.env,λk=>?_,λi j g r o q=>M.dis i j g r (d i g o) (d j g q),λi b c=>M.ge i b (d i b c),λi b c=>M.ph i b (d i b c)⟩
 rcases h k with e|⟨o,q⟩
 ·rw[e];exact Bv.keep (M.holds k) (Ew.mono λb _ u=>p b u) λ_ _=>rfl
 refine q _ p λb c=>⟨M.ph k b c,λj s=>?_⟩
 by_cases e:j=k
 ·subst e;exact o b s
 exact M.dis j k b e (d j b s) c
mutual
theorem AA.ids_tr(M:List Hl):∀(x:AA),(x.tr M).ids=x.ids
 |.v _=>rfl
 |.P _ _=>rfl
 |.ea _ _ _ _=>rfl
 |.N i=>by simp only[AA.tr];split<;>rfl
 |.agg l=>by simp only[AA.tr,AA.ids];exact AA.idsL_tr M l
 |.T l=>by simp only[AA.tr,AA.ids];exact AA.idsL_tr M l
 |.fn _ l=>by simp only[AA.tr,AA.ids];exact AA.idsL_tr M l
 |.bm _ l=>by simp only[AA.tr,AA.ids];exact AA.idsL_tr M l
 |.F _=>rfl
theorem AA.idsL_tr(M:List Hl):∀(l:List AA),AA.idsL (AA.trL M l)=AA.idsL l
 |[]=>rfl
 |x::r=>by simp only[AA.trL,AA.idsL];rw[AA.ids_tr M x,AA.idsL_tr M r]
end
theorem eS{M}{t}{x}:∀{tm:List (Nat×AA)},Db tm t=Z x->Db (tm.map λp=>(p.1,p.2.tr M)) t=Z (x.tr M)/\∃p∈tm,p.2=x
 |[],h=>by cases h
 |(k,y)::r,h=>by
  simp only[Db,Fa]at h ⊢;split at h
  ·cases h;rename_i b;rw[AZ b];exact⟨rfl,_,EI,rfl⟩
  rename_i b;rw[AO b]
  obtain⟨c,p,e,d⟩:=eS h;exact⟨c,p,Ep _ e,d⟩
def rW(M:List Hl)(m:Nat)(c:List AI)(b:List (Nat×AA)):Bool:=
 Y (M.length<=J c)&&(DA (J c)).all (λi=>match DN M i,An c i with
  |.no,.C d=>AA.trOkL M d
  |.no,.H _ _ _=>U
  |.no,_=>V
  |.L _,.G _=>V
  |.Q,.G _=>Y (m<=i)
  |_,_=>U)&&b.all λp=>p.2.trOk M
theorem AI.ids_lend(M)(l)(x):x.ids=[]\/(Fu M l x).ids=x.ids:=by
 cases x with
 |C c=>cases l<;>first|exact .inr rfl|exact .inr (AA.idsL_tr M c)
 |H k i d=>cases l<;>exact .inr rfl
 |_=>exact .inl rfl
theorem Ap.frz(G:Ap φ ψ w0 F N m ρ0 ρ S tm a w)(M)(r)(D)(v:rW M m r D=true:=by kernel_rfl)(hS:S=KY M r:=by kernel_rfl)(ht:tm=D.map (λp=>(p.1,p.2.tr M)):=by kernel_rfl):
  ∃aB,Ap φ ψ w0 F N m ρ0 aB r D a w:=by
 subst hS;subst ht;simp only[rW,Aj,decide_eq_true_eq]at v;obtain⟨⟨hM,L⟩,X⟩:=v;have l:(KY M r).length=J r:=by simp[KY]
 have R:∀i,J r<=i->DN M i=.no:=λi z=>by
  unfold DN;rw[Bu,FO O];rfl
 have H:=λi (z:i<J r)=>Bt.1 L i (GW.2 z)
 let f:Nat->Value:=λi=>if(DN M i).isT then Fe (ρ i)else ρ i
 have q:∀i,f i=if(DN M i).isT then Fe (ρ i)else ρ i:=λ_=>rfl
 have s:∀i,(DN M i).isT=U->f i=ρ i:=λi h=>by rw[q,h];rfl
 refine⟨f,G.size,G.defs,λt x o=>?_,λt x o i z=>?_,λj=>⟨λi z=>?_,λE=>Fn E⟩,?_,?_,λi z=>?_⟩
 ·obtain⟨c,p,h2,h3⟩:=eS (M:=M) o
  rw[G.tmv t _ c,AA.val_tr q x (by rw[<-h3];exact Bt.1 X p h2)]
 ·obtain⟨c,_⟩:=eS (M:=M) o
  have:=G.tmi t _ c i (by rw[AA.ids_tr];exact z)
  rw[l]at this;exact this
 ·have c:=(G.bd j).1 i
  rw[Rm,l]at c;rcases AI.ids_lend M (DN M j) (An r j)with h|h
  ·rw[h]at z;cases z
  exact c (by rw[h];exact z)
 ·refine G.mem.release λk=>?_
  cases k with
  |inl i=>exact .inl rfl
  | inr j =>
   simp only[Am];rw[Rm];rcases Du j (J r)with E|E
   case inr=>rw[R j E,Fn E];exact .inl rfl
   have c:=H j E;cases y:DN M j with
   | no =>
    have e:f j=ρ j:=s j (by rw[y];rfl)
    rw[y]at c;left;cases o:An r j with
    |C cs=>
     rw[o]at c;simp only[Fu,AI.res];rw[e,AA.vals_tr q cs c]
    |none=>rfl
    |E=>rfl
    |G d=>simp only[Fu,AI.res];rw[e]
    |L T d=>simp only[Fu,AI.res];rw[e]
    |Q d=>simp only[Fu,AI.res];rw[e]
    |kept T d=>cases T<;>(simp only[Fu,AI.res];rw[e])
    |H k i ls=>rw[o]at c;cases c
    |err=>simp only[Fu,AI.res];rw[e]
   |L T=>
    have e:f j=ρ j:=s j (by rw[y];rfl)
    rw[y]at c;cases o:An r j<;>rw[o]at c<;>first|cases c|skip
    rename_i d
    refine .inr ⟨λb v=>v,λQ hf u=>⟨EK.nice _ _,?_⟩⟩
    have C:=G.mem.holds (.inr j);simp only[Am]at C;rw[Rm,y,o]at C;simp only[Fu,AI.res]at C;obtain⟨_,xs,BA,Co⟩:=C;rw[e];exact EK.make (Jo BA λg hg=>u g hg) (Ci.nice _ _ _ _ _ _ (Ew.mono λb _ v=>hf b v) Co)
   |Q=>
    have e:f j=Fe (ρ j):=by rw[q,y];rfl
    rw[y]at c;cases o:An r j<;>rw[o]at c<;>first|cases c|skip
    rename_i d
    refine .inr ⟨λb v=>v,λQ hf u=>⟨EK.nice _ _,?_⟩⟩
    have C:=G.mem.holds (.inr j);simp only[Am]at C;rw[Rm,y,o]at C;simp only[Fu,AI.res]at C;rw[e];exact FR.read C.2.1 λb v=>u b v
 ·have:=G.le;rw[l]at this;exact this
 have hm:=G.le;rw[l]at hm
 have:(DN M i).isT=false:=by
  cases y:DN M i with
  |no=>rfl
  |L _=>rfl
  |Q=>
   have c:=H i O;rw[y]at c;cases o:An r i<;>rw[o]at c<;>simp at c
   omega
 show f i=ρ0 i;rw[s i this];exact G.old i z
end
def Nl(t:TypeId):Nat:=
 if CW t 3 then 1 else
 if CW t 4 then 2 else
 if CW t 5 then 3 else
 if CW t 9 then 4 else
 if CW t 76 then 5 else
 if CW t 39 then 6 else
 if CW t 23 then 7 else
 if CW t 63 then 8 else
 if CW t 96 then 9 else
 if CW t 98 then 10 else
 0
abbrev Dc(e:AF)(r:Nat):AA:=.agg [.v (.int .i64 e.t),.v (.int .i64 e.v),.N r]
abbrev Em(e:AF):List AI:=[.G (.P e.k)]
abbrev Fw(s:AG)(r:Nat):AA:=.agg [.v (.int .i64 s.t),.v (.int .i64 s.g),.v (.int .i64 s.i.t),.v (.int .i64 s.i.v),.N r,.v (.int .i64 s.v.t),.v (.int .i64 s.v.v),.N (r+1),.v (.int .i64 s.count),.N (r+2),.N (r+3)]
abbrev ID(s:AG):List AI:=[.G (.P s.i.k),.G (.P s.v.k),.G (.M s.b),.G (.M s.e)]
abbrev Ao(r:Nat):AA:=.agg [.N r,.N (r+1),.N (r+2)]
abbrev Be(p:BE):List AI:=[.G (.C p.s),.G (.C p.r),.G (.M p.b)]
abbrev A(n:Int):AA:=.v (.int .i64 n)
abbrev AC(b:Bool):AA:=.v (.bool b)
abbrev CJ(f:FuncId)(a:List AA)(S:List AI)(b:AA):AN:=⟨f,a,S,S,b⟩
abbrev W(l:List Int):AI:=.G (.C l)
abbrev Aw(l:List UInt8):AI:=.G (.bytes l)
abbrev Dx(l:List AV):AI:=.G (.N l)
abbrev bh(l:List (Int×Int)):AI:=.G (.E l)
abbrev CO(l:List (List Int)):AI:=.G (.L l)
abbrev AP(l:List AF):AI:=.G (.P l)
abbrev AE(l:List AG):AI:=.G (.M l)
abbrev Bz(e:AF)(r:Nat):List AA:=[.v (.int .i64 e.t),.v (.int .i64 e.v),.N r]
abbrev Ct(s:AG)(r:Nat):List AA:=[.v (.int .i64 s.t),.v (.int .i64 s.g),.v (.int .i64 s.i.t),.v (.int .i64 s.i.v),.N r,.v (.int .i64 s.v.t),.v (.int .i64 s.v.v),.N (r+1),.v (.int .i64 s.count),.N (r+2),.N (r+3)]
abbrev Al(r:Nat):List AA:=[.N r,.N (r+1),.N (r+2)]
section
variable{P:Program}{ι:Type}{φ ψ:Nat->Prop}{w0 w w':World}{F:ι->Bv}{ρ ρ0:Nat->Value}{N m n:Nat}{S:List AI}{tm:List (Nat×AA)}{a:Act}{Q:Exit->Act->World->Prop}
end
theorem AF.eta(e):(⟨e.t,e.v,e.k⟩:AF)=e:=by cases e;rfl
theorem AG.eta(s):(⟨s.t,s.g,s.i,s.v,s.count,s.b,s.e⟩:AG)=s:=by cases s;rfl
section
variable{ι:Type}{P:Program}{φ ψ:Nat->Prop}{w0 w:World}{F:ι->Bv}{N m:Nat}{ρ0 ρ:Nat->Value}{S:List AI}{tm:List (Nat×AA)}{a:Act}
theorem Br{d}{c}(G:Ap φ ψ w0 F N (J c.pre) ρ0 ρ S tm a w)(b)(f:b.map (An S)=c.post.map (AI.ren (CX b)):=by kernel_rfl)(h:Qy P d tm S=Z (c.res.ren (CX b)):=by kernel_rfl)(e:KD (J c.pre) b c.post []=true:=by kernel_rfl):bodyPost P d (RA φ ψ w0 F ρ0 c) .ret a w:=WT G b h e f rfl
theorem Jh{d}{c}(G:Ap φ ψ w0 F N (J c.pre) ρ0 ρ S tm a w)(b)(f:b.map (An S)=c.post.map (AI.ren (CX b)):=by kernel_rfl)(h:Qy P d tm S=Z (c.res.ren (CX b)):=by kernel_rfl)(e:KD (J c.pre) b c.post []=true:=by kernel_rfl):bodyPost P d (RA φ ψ w0 F ρ0 c) .normal a w:=WT G b h e f rfl
theorem Cr{d}{c}(v)(G:Ap φ ψ w0 F N (J c.pre) ρ0 ρ S tm a w)(b)(g:v=c.res.ren (CX b))(f:b.map (An S)=c.post.map (AI.ren (CX b)):=by kernel_rfl)(h:Qy P d tm S=Z v:=by kernel_rfl)(e:KD (J c.pre) b c.post []=true:=by kernel_rfl):bodyPost P d (RA φ ψ w0 F ρ0 c) .ret a w:=WT G b h e f g
theorem Ce{c:Type}{e:c->Prop}{g:c->Nat}{j:c->List AI}{f:c->List (Nat×AA)}{k:c}(G:Ap φ ψ w0 F N m ρ0 ρ S tm a w)(b:c)(o:e b)(i:g b<g k)(d)(n:d.map (An S)=(j b).map (AI.ren (CX d)):=by kernel_rfl)(ht:((f b).map (·.1)).map (Db tm)=(f b).map (λp=>Z (p.2.ren (CX d))):=by kernel_rfl)(l:KD m d (j b) (f b)=true:=by kernel_rfl):∃b h,e b/\g b<g k/\Ap φ ψ w0 F N m ρ0 h (j b) (f b) a w:=O9 G b o i d _ _ rfl rfl l n ht
theorem BU{j}{f}{g}{d b}{x}(y)(G:Ap φ ψ w0 F N (J d) ρ0 ρ S tm a w)(i)(e:x=y)(l:i.map (An S)=b.map (AI.ren (CX i)):=by kernel_rfl)(h:Qy P j tm S=Z (AC y):=by kernel_rfl)(k:KD (J d) i b []=true:=by kernel_rfl):bodyPost P j (RA φ ψ w0 F ρ0 ⟨f,g,d,b,AC x⟩) .ret a w:=WT (c:=⟨f,g,d,b,AC x⟩) G i h k l (by rw[e];rfl)
theorem DE{j}{f}{g}{d b}{x}(y)(G:Ap φ ψ w0 F N (J d) ρ0 ρ S tm a w)(i)(e:x=y)(l:i.map (An S)=b.map (AI.ren (CX i)):=by kernel_rfl)(h:Qy P j tm S=Z (A y):=by kernel_rfl)(k:KD (J d) i b []=true:=by kernel_rfl):bodyPost P j (RA φ ψ w0 F ρ0 ⟨f,g,d,b,A x⟩) .ret a w:=WT (c:=⟨f,g,d,b,A x⟩) G i h k l (by rw[e];rfl)
end
abbrev BC(x:Int):Prop:=IntKind.i64.wrap x=x
theorem Hw{x}(h: -9223372036854775808<=x/\x<=9223372036854775807):BC x:=Kp h.1 h.2
theorem BA{x}(h: -9223372036854775808<=x/\x<=9223372036854775807):Cl [BC x]:=⟨Hw h,Ay⟩
theorem Co{x y}(h:(-9223372036854775808<=x/\x<=9223372036854775807)/\ -9223372036854775808<=y/\y<=9223372036854775807):Cl [BC x,BC y]:=⟨Hw h.1,Hw h.2,Ay⟩
theorem FD{x y z}(h:(-9223372036854775808<=x/\x<=9223372036854775807)/\(-9223372036854775808<=y/\y<=9223372036854775807)/\ -9223372036854775808<=z/\z<=9223372036854775807):Cl [BC x,BC y,BC z]:=⟨Hw h.1,Hw h.2.1,Hw h.2.2,Ay⟩
theorem LR{x y z u}(h:(-9223372036854775808<=x/\x<=9223372036854775807)/\(-9223372036854775808<=y/\y<=9223372036854775807)/\(-9223372036854775808<=z/\z<=9223372036854775807)/\ -9223372036854775808<=u/\u<=9223372036854775807):Cl [BC x,BC y,BC z,BC u]:=⟨Hw h.1,Hw h.2.1,Hw h.2.2.1,Hw h.2.2.2,Ay⟩
abbrev EP(n b:Nat)(r:List Prop):List Prop:=(n<=9223372036854775807)::(n*b<=140737488355328)::r
theorem EW{n b}{r}(h:n<=100000000000)(k:Cl r)(a:b<=1000:=by decide):Cl (EP n b r):=⟨O,DO (Nat.mul_le_mul h a) ED,k⟩
abbrev CD(x:Int)(n l:Nat)(r:List Prop):List Prop:=(0<=x)::(x<(l:Int))::(n<l)::r
theorem CE{x}{n l:Nat}{r}(h:0<=x/\x<(l:Int)/\n<l)(k:Cl r):Cl (CD x n l r):=⟨h.1,h.2.1,h.2.2,k⟩
abbrev BM(a:List Nat)(l:List AI):List AI:=List.map (AI.ren (CX a)) l
theorem Ag:JA []:=Ay
theorem AS{a b}{r}(h:a=b)(k:JA r):JA ((a,b)::r):=⟨h,k⟩
abbrev Ak(e:AF):AF:=AF.mk e.t e.v e.k
abbrev NP(s:AG):AG:=AG.mk s.t s.g (AF.mk s.i.t s.i.v s.i.k) (AF.mk s.v.t s.v.v s.v.k) s.count s.b s.e
def Uf(P:Program)(N m:Nat)(l:List Oper)(H:Lv)(c:List (Nat×AA))(S:List AI)(a:List Nat)(d:List AI)(b:List (Nat×AA)):=((Hx P Nl N l H l 0 c (An S) S.length).isSome&&KD m a d b,RC (Hx P Nl N l H l 0 c (An S) S.length) a (b.map (·.1)))
def MN(P:Program)(N:Nat)(l:List Oper)(H:Lv)(d:List (Nat×AA))(S:List AI)(o:List Prop)(a:List Nat)(b:List AI)(c:List (Nat×AA)):=(V,SV (Hx P Nl N l H l 0 d (An S) S.length) o a b c)
def UQ(P:Program)(N m:Nat)(l:List Oper)(H:Lv)(e:List Nat)(c:List (Nat×AA))(S:List AI)(a:List Nat)(d:List AI)(b:List (Nat×AA)):=(Zc l e S.length (An S) (Hx P Nl N l H l 0 c (An S) S.length)&&KD m a d b,RC (Hx P Nl N l H l 0 c (An S) S.length) a (b.map (·.1)))
theorem BP{P}{c:AN}{e}{b}(N)(t:P.funcs[c.f]? =Z e)(S)(h)(k:∀{s:Type} {g i:Nat->Prop} {j w:World} {F:s->Bv} {d ρ:Nat->Value} {a:Act},Ap g i j F N (J c.pre) d ρ S h a w->b.wp P (bodyPost P e (RA g i j F d c)) a w)(o:e.body=Z b:=by rfl)(m:(e.ntmps,c.pre,RY 0 c.args)=(N,S,h):=by kernel_rfl)(p:(WV c.pre (RY 0 c.args)&&Y (J c.args<=N))=true:=by kernel_rfl):c.ok P:=by
 simp only[Prod.mk.injEq]at m;obtain⟨n,r,q⟩:=m;exact ub N t o n p λg i j w F d ρ a G=>k (ρ:=ρ) (G.as S h r q)
def Ll(x y:List (Nat×AA)):List (Nat×AA):=x++y.filter λp=> !(x.any λq=>CW q.1 p.1)
def In(P:Program)(H:Lv):Prop:=(∀i c a,IY H.calls i=Z (c,a)->c.ok P)/\JA H.facts
theorem AB{P}:In P ⟨[],[],[]⟩:=⟨cE,Ay⟩
theorem Ai{P}{c}(i)(a)(h:c.ok P):In P ⟨[(i,c,a)],[],[]⟩:=⟨rF h cE,Ay⟩
theorem CR{P}{f}(h:JA f)(u):In P ⟨[],f,u⟩:=⟨cE,h⟩
def YF(P:Program)(r:List (Nat×AN×List Nat)):Prop:=∀i c a,IY r i=Z (c,a)->c.ok P
theorem BG{P}:YF P []:=cE
theorem AX{P}{c}{r}(i)(a)(h:c.ok P)(k:YF P r):YF P ((i,c,a)::r):=rF h k
theorem BH{P}{r}{f}(h:YF P r)(a:JA f)(u):In P ⟨r,f,u⟩:=⟨h,a⟩
section
variable{ι:Type}{P:Program}{φ ψ:Nat->Prop}{w0 w:World}{F:ι->Bv}{N m:Nat}{ρ0 ρ:Nat->Value}{S:List AI}{tm:List (Nat×AA)}{a:Act}{l:List Oper}{id:Nat}{Q:Exit->Act->World->Prop}{H:Lv}
theorem CT(G:Ap φ ψ w0 F N m ρ0 ρ S tm a w)(i:In P H)(e)(b)(c)(o)(j:Cl o)(k:∀{d g f},Ap φ ψ w0 F N m ρ0 d b c g f->Q .normal g f)(h:Uf P N m l H tm S e b c=MN P N l H tm S o e b c:=by kernel_rfl):(Code.region id l.toArray U).wp P Q a w:=iG (dk:=Nl) G H i.1 i.2 e b c o j (λ_ _ _=>k) (congrArg Prod.fst h) (congrArg Prod.snd h)
theorem AM(G:Ap φ ψ w0 F N m ρ0 ρ S tm a w)(i:In P H)(e)(b)(c)(k:∀{d g f},Ap φ ψ w0 F N m ρ0 d b c g f->Q .normal g f)(h:Uf P N m l H tm S e b c=MN P N l H tm S [] e b c:=by kernel_rfl):(Code.region id l.toArray U).wp P Q a w:=CT G i e b c [] Ay k h
theorem K6(G:Ap φ ψ w0 F N m ρ0 ρ S tm a w)(f:In P H)(b)(o)(g:Cl o)(k:∀{c e d},Ap φ ψ w0 F N m ρ0 c S b e d->Q .normal e d)(h:Uf P N m l H tm S (DA S.length) S b=MN P N l H tm S o (DA S.length) S b:=by kernel_rfl):(Code.region id l.toArray U).wp P Q a w:=iG (dk:=Nl) G H f.1 f.2 (DA S.length) S b o g (λ_ _ _=>k) (congrArg Prod.fst h) (congrArg Prod.snd h)
theorem BS(G:Ap φ ψ w0 F N m ρ0 ρ S tm a w)(f:In P H)(b)(k:∀{c e d},Ap φ ψ w0 F N m ρ0 c S b e d->Q .normal e d)(h:Uf P N m l H tm S (DA S.length) S b=MN P N l H tm S [] (DA S.length) S b:=by kernel_rfl):(Code.region id l.toArray U).wp P Q a w:=K6 G f b [] Ay k h
theorem Bi(G:Ap φ ψ w0 F N m ρ0 ρ S tm a w)(f:In P H)(b)(o)(g:Cl o)(k:∀{c e d},Ap φ ψ w0 F N m ρ0 c S (Ll b tm) e d->Q .normal e d)(h:Uf P N m l H tm S (DA S.length) S (Ll b tm)=MN P N l H tm S o (DA S.length) S (Ll b tm):=by kernel_rfl):(Code.region id l.toArray U).wp P Q a w:=iG (dk:=Nl) G H f.1 f.2 (DA S.length) S (Ll b tm) o g (λ_ _ _=>k) (congrArg Prod.fst h) (congrArg Prod.snd h)
theorem AQ(G:Ap φ ψ w0 F N m ρ0 ρ S tm a w)(f:In P H)(b)(k:∀{c e d},Ap φ ψ w0 F N m ρ0 c S (Ll b tm) e d->Q .normal e d)(h:Uf P N m l H tm S (DA S.length) S (Ll b tm)=MN P N l H tm S [] (DA S.length) S (Ll b tm):=by kernel_rfl):(Code.region id l.toArray U).wp P Q a w:=Bi G f b [] Ay k h
theorem Df(G:Ap φ ψ w0 F N m ρ0 ρ S tm a w)(j:In P H)(g)(e)(b)(c)(o)(p:Cl o)(k:∀{d i f},Ap φ ψ w0 F N m ρ0 d b c i f->Q .normal i f)(n:P.follows .mixedOrders=true:=by kernel_rfl)(h:UQ P N m l H g tm S e b c=MN P N l H tm S o e b c:=by kernel_rfl):(Code.region id l.toArray V).wp P Q a w:=kg (dk:=Nl) G H j.1 j.2 g e b c o p (λ_ _ _=>k) n (congrArg Prod.fst h) (congrArg Prod.snd h)
theorem Fr(G:Ap φ ψ w0 F N m ρ0 ρ S tm a w)(n:In P H)(g)(e)(b)(c)(k:∀{d i f},Ap φ ψ w0 F N m ρ0 d b c i f->Q .normal i f)(j:P.follows .mixedOrders=true:=by kernel_rfl)(h:UQ P N m l H g tm S e b c=MN P N l H tm S [] e b c:=by kernel_rfl):(Code.region id l.toArray V).wp P Q a w:=Df G n g e b c [] Ay k j h
theorem TF(G:Ap φ ψ w0 F N m ρ0 ρ S tm a w)(g:In P H)(e)(b)(o)(j:Cl o)(k:∀{c f d},Ap φ ψ w0 F N m ρ0 c S b f d->Q .normal f d)(i:P.follows .mixedOrders=true:=by kernel_rfl)(h:UQ P N m l H e tm S (DA S.length) S b=MN P N l H tm S o (DA S.length) S b:=by kernel_rfl):(Code.region id l.toArray V).wp P Q a w:=kg (dk:=Nl) G H g.1 g.2 e (DA S.length) S b o j (λ_ _ _=>k) i (congrArg Prod.fst h) (congrArg Prod.snd h)
theorem rh(G:Ap φ ψ w0 F N m ρ0 ρ S tm a w)(i:In P H)(e)(b)(k:∀{c f d},Ap φ ψ w0 F N m ρ0 c S b f d->Q .normal f d)(g:P.follows .mixedOrders=true:=by kernel_rfl)(h:UQ P N m l H e tm S (DA S.length) S b=MN P N l H tm S [] (DA S.length) S b:=by kernel_rfl):(Code.region id l.toArray V).wp P Q a w:=TF G i e b [] Ay k g h
theorem JB(G:Ap φ ψ w0 F N m ρ0 ρ S tm a w)(g:In P H)(e)(b)(o)(j:Cl o)(k:∀{c f d},Ap φ ψ w0 F N m ρ0 c S (Ll b tm) f d->Q .normal f d)(i:P.follows .mixedOrders=true:=by kernel_rfl)(h:UQ P N m l H e tm S (DA S.length) S (Ll b tm)=MN P N l H tm S o (DA S.length) S (Ll b tm):=by kernel_rfl):(Code.region id l.toArray V).wp P Q a w:=kg (dk:=Nl) G H g.1 g.2 e (DA S.length) S (Ll b tm) o j (λ_ _ _=>k) i (congrArg Prod.fst h) (congrArg Prod.snd h)
theorem NK(G:Ap φ ψ w0 F N m ρ0 ρ S tm a w)(i:In P H)(e)(b)(k:∀{c f d},Ap φ ψ w0 F N m ρ0 c S (Ll b tm) f d->Q .normal f d)(g:P.follows .mixedOrders=true:=by kernel_rfl)(h:UQ P N m l H e tm S (DA S.length) S (Ll b tm)=MN P N l H tm S [] (DA S.length) S (Ll b tm):=by kernel_rfl):(Code.region id l.toArray V).wp P Q a w:=JB G i e b [] Ay k g h
variable{c:Nat}{x y:Code}
theorem Rc{b}(G:Ap φ ψ w0 F N m ρ0 ρ S tm a w)(f:b=U->y.wp P Q a w)(t:b=V->x.wp P Q a w)(h:Db tm c=Z (.v (.bool b)):=by rfl):(Code.cond (.tmp c) x y).wp P Q a w:=TJ G b h t f
theorem Cu{b:Type}[BEq b][LawfulBEq b]{u v:b}(G:Ap φ ψ w0 F N m ρ0 ρ S tm a w)(f:(u==v)=U->u≠v->y.wp P Q a w)(t:(u==v)=V->u=v->x.wp P Q a w)(h:Db tm c=Z (.v (.bool (u==v))):=by rfl):(Code.cond (.tmp c) x y).wp P Q a w:=TJ G _ h (λq=>t q (eq_of_beq q)) λq=>f q (ne_of_beq_false q)
theorem IP{b:Type}[BEq b][LawfulBEq b]{u v:b}(G:Ap φ ψ w0 F N m ρ0 ρ S tm a w)(f:(u !=v)=U->u=v->y.wp P Q a w)(t:(u !=v)=V->u≠v->x.wp P Q a w)(h:Db tm c=Z (.v (.bool (u !=v))):=by rfl):(Code.cond (.tmp c) x y).wp P Q a w:=TJ G _ h (λq=>t q (bne_iff_ne.1 q)) λq=>f q (bne_eq_false_iff_eq.1 q)
theorem DZ{p:Prop}[Decidable p](G:Ap φ ψ w0 F N m ρ0 ρ S tm a w)(f:decide p=U->¬p->y.wp P Q a w)(t:decide p=V->p->x.wp P Q a w)(h:Db tm c=Z (.v (.bool (decide p))):=by rfl):(Code.cond (.tmp c) x y).wp P Q a w:=TJ G _ h (λq=>t q (EC q)) λq=>f q (EB q)
end
section
variable{P:Program}{f:FuncId}
theorem NG{a}{S}{x}(h:∀c w b,(∀i d,An S i=.G d->EK w c d (b i))->Calls P f (AA.vals b a).toArray w λe g=>e=.returned x/\Below w.heap.size w g):AN.ok P (CJ f a S (.v x)):=by
 intro l c m n w F b M;refine(h (EY c (Am F b (An S))) w b λi d k=>M.datAt k).mono ?_
 rintro e g ⟨rfl,j⟩;exact⟨b,λ_ _=>rfl,rfl,M.call j⟩
end
theorem sO{w}{f}{d}{v}(h:EK w f d v):∃a b,v=.slice a d.len b/\d.len<=9223372036854775807:=by
 obtain⟨a,b,c,g,e,_⟩:=h.open;unfold maxLen at e;exact⟨a,b,c,O⟩
theorem Oq(l):AN.ok prog (CJ 120 [A l] [] (AC (Af l))):=
 NG λb w c _=>(fV l w).mono λe a h=>⟨h.1,h.2▸Below.refl _ _⟩
theorem aq(l):AN.ok prog (CJ 167 [A l] [] (AC (Af l))):=
 NG λb w c _=>(td l w).mono λe a h=>⟨h.1,h.2▸Below.refl _ _⟩
theorem Ih(n b a):AN.ok prog (CJ 74 [A n,A b,A a] [] (AC (Y (b<=n)&&Y (n<=a)))):=
 NG λd w f _=>(Kt n b a w).mono λe c h=>⟨h.1,h.2▸Below.refl _ _⟩
theorem ex(p):AN.ok prog (CJ 79 [Ao 0] (Be p) (AC (Gf p.s p.r))):=
 NG λb w a h=>wV (a 0) (a 1) (a 2) _ _ w (CV.L (h 0 _ rfl)) (CV.L (h 1 _ rfl))
theorem sh(b a):AN.ok prog (CJ 73 [.N 0,.N 1] [.G (.C b),.G (.C a)] (AC (Gf b a))):=
 NG λf w c h=>(tU (c 0) (c 1) _ _ w (CV.L (h 0 _ rfl)) (CV.L (h 1 _ rfl))).mono λe d h=>⟨h.1,h.2▸Below.refl _ _⟩
theorem Ms(p)(e):AN.ok prog (CJ 183 [Ao 0,Dc e 3] (Be p++Em e) (AC (CQ (J p.s) (J p.r) e))):=
 NG λd w k h=>by
  obtain⟨c,g,a,l⟩:=sO (h 0 _ rfl);obtain⟨j,i,f,b⟩:=sO (h 1 _ rfl);simp only[AA.vals,AA.val,a,f];exact V0 c j _ g _ i (k 2) l b e d _ w ⟨_,rfl,h 3 _ rfl⟩
theorem kI(e):AN.ok prog (CJ 184 [Dc e 0] (Em e) (AC (Eo e))):=
 NG λb w a h=>nF e.t e.v (a 0) w
mutual
theorem A3:∀s:AG,Gn s<=1+CS s
 |⟨_,_,_,_,_,b,e⟩=>by
  have h1:=VN b;have h2:=VN e;simp only[Gn,CS];omega
theorem VN:∀ss:List AG,CP ss<=Ah ss
 |[]=>BR _
 |s::r=>by
  have h1:=A3 s;have h2:=VN r;simp only[CP,Ah];omega
end
theorem XQ(a b):CP (a++b)=CP a+CP b:=by
 induction a with
 |nil=>simp[CP]
 |cons x r c=>simp[CP,c];omega
theorem vZ{a}{k}(h:k<J a):CP (a.take (k+1))=CP (a.take k)+Gn a[k]:=by
 rw[Gr _ _ h,XQ];simp[CP]
theorem I5(a)(k):CP (a.take k)<=CP a:=by
 have:=XQ (a.take k) (a.drop k);rw[List.take_append_drop]at this;omega
theorem PW(s):Gn s=1+CP s.b+CP s.e:=by cases s;simp only[Gn];rfl
theorem VC{f i d}{s}(h:Ax f i (d+1) s=V):s.b.all (Ax f i d)=V/\s.e.all (Ax f i d)=true:=by
 rw[Ax,Aj]at h;obtain⟨a,c⟩:=h;unfold Dn at a;by_cases j:s.t=3
 ·rw[AO O,AO O,AZ j]at c
  simp only[Aj]at c;exact⟨c.1.2,c.2⟩
 by_cases g:s.t=4
 ·rw[AO O,AO O,AO O,AZ g]at c
  rw[AZ (.inr g),AZ g]at a;simp only[Aj,decide_eq_true_eq]at a;exact⟨c,by rw[FM a.2.1.1.1.1];rfl⟩
 rw[AO O]at a;simp only[Aj,decide_eq_true_eq]at a;exact⟨by rw[FM a.1.1.1];rfl,by rw[FM a.1.1.2];rfl⟩
theorem rN(s):Ah s.b<=CS s/\Ah s.e<=CS s:=by
 rcases s with⟨_,_,_,_,_,b,e⟩
 simp only[CS,AG.b,AG.e];omega
theorem lT{e f}:∀{ss:List AG},(∀s∈ss,Ax e f 1 s=V)->CP ss=J ss
 |[],_=>rfl
 | s :: r, h => by
  have d:=VC (h s EI)
  have b:∀l:List AG,l.all (Ax e f 0)=V->l=[]:=λl g=>by
   cases l with
   |nil=>rfl
   |cons a r=>simp[Ax]at g
  have i:=lT (ss:=r) λx j=>h x (Ep _ j)
  rw[CP,PW,b _ d.1,b _ d.2,i];simp[CP];omega
def AR(x y:Int):Int:=IntKind.i64.wrap ((BitVec.ofInt (IntKind.bits .i64) x|||BitVec.ofInt (IntKind.bits .i64) y).toNat:Int)
def Lm(x y:Int):Int:=IntKind.i64.wrap ((BitVec.ofInt (IntKind.bits .i64) x&&&BitVec.ofInt (IntKind.bits .i64) y).toNat:Int)
def Ro(x y:Int):Int:=IntKind.i64.wrap ((BitVec.ofInt (IntKind.bits .i64) x^^^BitVec.ofInt (IntKind.bits .i64) y).toNat:Int)
def Ix(x y:Int):Int:=IntKind.i64.wrap ((BitVec.ofInt (IntKind.bits .i64) x&&& ~~~(BitVec.ofInt (IntKind.bits .i64) y)).toNat:Int)
theorem AN.dup{P}{f}{g a}{S S'}{d}{q}{i}(E:AN.ok P ⟨f,g,S++[.G d],S'++[.G d],q⟩)(z:S[i]? =Z (.G d))(hl:S'.length=S.length)
  (X:S.all (λx=>Jq S.length x.ids)=V) (C:∀n,n S.length=n i->AA.vals n g=AA.vals n a) (D:Jq S.length (AA.idsL a)=V):AN.ok P ⟨f,a,S,S',q⟩:=by
 intro G T L N w F n M;have v:An S i=.G d:=by simp[An,z]
 have R:i<S.length:=(EA.1 z).1
 have o:FV (An S) n [S.length]:=λc h j=>by
  by_cases m:j<S.length
  ·refine AI.res_congr _ (λk r=>h k ?_) (.inr (.inr (h j CY)))
   have b:=Lf (Bt.1 X (S[j]) (EL m)) k (by simpa[An,Bu,CF m]using r)
   simp;omega
  rw[show An S j=.none by simp only[An,Bu,FO (Nat.le_of_not_lt m)];rfl];rfl
 obtain⟨c,b,y,l⟩:=M.newDat (id:=S.length) (by simp[An]) o (M.datAt v)
 have e:Bq (An S) [(S.length,.G d)]=An (S++[.G d]):=by
  funext j;simp only[Bq,An,Bu];by_cases m:j=S.length
  ·subst m;simp
  rw[AO m];by_cases t:j<S.length
  ·rw[Fb t]
  rw[FO O,FO CY]
 rw[e]at y;have u:c i=n i:=b i CY
 have H:AA.vals n a=AA.vals c g:=by
  rw[C c (by rw[<-l,u])]
  exact(AA.vals_congr _ λk r=>by
   have:=Lf D k r
   exact b k CY).symm
 simp only;rw[H];refine(E G T L N w F c y).mono ?_;rintro x w' ⟨s,Bs,g2,M2⟩;refine⟨s,λk r=>?_,g2,?_⟩
 ·rw[Bs k CY];exact b k CY
 refine M2.map (λk=>match k with|.inl i=>Z (.inl i)|.inr j=>if j<S'.length then Z (.inr j)else I) ?_ ?_
 ·intro k Q x b l
  match k,Q with
  |.inl i,.inl i'=>simp at b l;rw[b,l]
  |.inl i,.inr j=>simp at b;subst b;simp at l
  |.inr j,.inl i=>simp at l;subst l;simp at b
  |.inr j,.inr j'=>simp at b l;rw[<-b.2]at l;rw[Sum.inr.inj l.2]
 intro k
 match k with
 |.inl i=>exact .inl ⟨.inl i,rfl,rfl⟩
 | .inr j =>
  by_cases m:j<S'.length
  ·refine .inl ⟨.inr j,by simp[m],?_⟩
   simp only[Am,An,Bu,Fb m]
  refine .inr ?_;simp only[Am,An,Bu,FO (Nat.le_of_not_lt m)];rfl
section
variable{P:Program}{ι κ:Type}{φ ψ:Nat->Prop}{w0 w w':World}{F:ι->Bv}{ρ ρ0:Nat->Value}
theorem BV.grow{L d:κ->Bv}(M:BV φ ψ w0 w L)(q:Below w.heap.size w w')(c:κ->Prop)(f:∀k,¬c k->d k=L k)(m:∀k,c k->∀b,(d k).blk b->w.heap.size<=b)(y:∀j k b,j≠k->c j->c k->(d j).blk b->¬(d k).blk b)(h:∀k,c k->(d k).holds w' (EY φ d)):BV φ ψ w0 w' d:=by
 have v:=M.call q;have o:∀k,¬c k->∀b,(d k).blk b->b<w.heap.size:=λk x b a=>by rw[f k x]at a;exact M.lt a
 refine⟨v.kept,M.fresh,M.env,λk=>?_,λi j g n a p=>?_,λi b a=>?_,λi b a=>?_⟩
 ·by_cases e:c k
  ·exact h k e
  rw[f k e];refine Bv.keep (M.holds k) ⟨q.size,λb z u=>⟨⟨u.1,λj t=>?_⟩,q.block b z⟩⟩ λg s=>q.block g (M.lt s)
  by_cases l:c j
  ·have:=m j l b t;omega
  rw[f j l]at t;exact u.2 j t
 ·by_cases r:c i<;>by_cases l:c j
  ·exact y i j g n r l a p
  ·have:=m i r g a;have:=o j l g p;omega
  ·have:=m j l g p;have:=o i r g a;omega
  rw[f i r]at a;rw[f j l]at p;exact M.dis i j g n a p
 ·by_cases e:c i
  ·exact .inl (DO M.size (m i e b a))
  rw[f i e]at a;exact M.ge i b a
 by_cases e:c i
 ·exact M.fresh b (DO M.size (m i e b a))
 rw[f i e]at a;exact M.ph i b a
end
abbrev Pg(p:BE):List AI:=[.L 3 (.C p.s),.L 3 (.C p.r),.Q (.M p.b)]
abbrev Nb(r:Nat):AA:=.agg [.N r,.N (r+1),.F (r+2)]
theorem al{w}{b}{v}{l}(h:w.ownsRow 0 3 1 v (J l) (BW l)):(Bv.L 3 (D.C l).sz v (D.C l).len λc w b=>Ci w b (.C l) c).holds w b:=by
 refine⟨λc=>Ci.nice (.C l) c,BW l,h,λi f j x a=>?_⟩
 have d:i<J l:=f;simp only[D.elem]at a
 have e:j=0:=by
  cases j with
  |zero=>rfl
  |succ j=>simp at a
 subst e;simp at a;subst a;refine⟨_,?_,rfl⟩;simp only[D.sz];rw[Nat.mul_one,Fx];simp[BW,d]
theorem iZ(v)(t)(w)(h:Cd w v (J t) 1 (BW t))(x:J t<=1000000000000):
  Calls prog 46 #[v] w λe d=>∃u,e=.returned u/\CH d w.heap.size d.heap.size 3 1 u (J t) (BW t)/\Below w.heap.size w d:=by
 obtain⟨a,i,rfl,l,n,q,-⟩:=h.open;have b:=λw=>Lib.run_eql_slice_nil (P:=prog) w 23 3 a (J t) i 0 0 Tryz.underlying23
 rcases a with _|a
 ·have r:J t=0:=by
   rcases Nat.eq_zero_or_pos (J t)with f|f
   ·exact f
   obtain⟨_,a,c,j,_,_,o⟩:=h;cases j
   obtain⟨_,_,j,_⟩:=o f;cases j
  have s:t=[]:=FM r;subst s;simp only[Bc,Option.isNone_none]at b;go_enter func46,ntmps46;go_wp2_with fail;go_ret;exact⟨_,rfl,⟨World.ownsRow_nil _ _ _ _,λg p=>by cases p⟩,Below.refl _ _⟩
 go_enter func46,ntmps46;simp only[Option.isNone_some]at b;have k:=(Below.refl w.heap.size w).alloc (BR _) (.cells #[] 3);go_wp2_with (at_builtin;refine OT rfl _ _ rfl Tryz.underlying23 Rn rfl O rfl (NH w #[] 0 1 _ rfl rfl O).1 rfl (h.below k) Tk O O At ?_;rintro y z C LR m- -);go_ret;refine⟨_,rfl,CH.mk' (by simpa using LR),k.trans m⟩
theorem RD(l)(a:J l<=1000000000000):AN.ok prog ⟨46,[.N 0],[.G (.C l)],[.G (.C l),.L 3 (.C l)],.N 1⟩:=by
 intro s x t v w F m M;have n:=M.datAt (id:=0) (d:=.C l) rfl;refine(iZ (m 0) l w (CV.L n) a).mono ?_;rintro e q ⟨u,rfl,⟨g,r⟩,c⟩;refine⟨λi=>if i=1 then u else m i,λi p=>AO (show ¬i=1 by have:i<1:=p;omega),by simp[AA.val],?_⟩
 refine M.grow c (λk=>k=.inr 1) (λk o=>?_) ?_ ?_ ?_
 ·cases k with
  |inl i=>rfl
  |inr j=>
   match j,o with
   |0,_=>rfl
   |1,h=>exact absurd rfl h
   |j+2,_=>rfl
 ·rintro k rfl b a;exact(World.ownsRow.lt g b a).1
 ·rintro j k b f rfl rfl;exact absurd rfl f
 rintro k rfl;exact al (KX g (Di _))
theorem Mb(e):AN.ok prog ⟨185,[.agg [.v (.int .i64 e.t),.v (.int .i64 e.v),.N 0]],[.G (.P e.k)],[.G (.P e.k)],.v (.bool (Dy e))⟩:=by
  refine BP 17 func185 [AP e.k] [(0,Dc e 0)] λG=>?_;refine B (AM G AB [0,1] [AP e.k,.C (Bz e 0)] [(1,.P 1 0),(2,AC U)] λG=>B ?_);cases a:(e.t==0)
  · have d:=ne_of_beq_false a;refine AM G (CR (AS a (AS (b:=U) rfl Ag)) (Ad [(4,6,0),(1007,1007,0),(9,12,1),(1013,1013,1)])) [0] [AP e.k] [(2,AC U)] λG=>AT ?_;exact BU U G [0] (by rw[GQ];simp[Dy,d];done)
  have d:=eq_of_beq a;cases c:(e.v==0)
  · have f:=ne_of_beq_false c;refine AM G (CR (AS a (AS c Ag)) (Ad [(4,6,0),(1007,1007,0),(9,12,1),(1013,1013,1)])) [0] [AP e.k] [(2,AC U)] λG=>AT ?_;exact BU U G [0] (by rw[GQ];simp[Dy,d,f];done)
  have f:=eq_of_beq c;refine AM G (CR (AS a (AS c Ag)) (Ad [(4,6,0),(1007,1007,0),(9,12,1),(1013,1013,1)])) [0] [AP e.k] [(2,AC ((J e.k:Int)==0))] λG=>AT ?_;exact BU ((J e.k:Int)==0) G [0] (by rw[GQ];simp[Dy,d,f];done)
theorem WS(e):AN.ok prog ⟨202,[.agg [.v (.int .i64 e.t),.v (.int .i64 e.v),.N 0]],[.G (.P e.k)],[.G (.P e.k)],.v (.bool (Dy e))⟩:=by
  refine BP 17 func202 [AP e.k] [(0,Dc e 0)] λG=>?_;refine B (AM G AB [0,1] [AP e.k,.C (Bz e 0)] [(1,.P 1 0),(2,AC U)] λG=>B ?_);cases a:(e.t==0)
  · have d:=ne_of_beq_false a;refine AM G (CR (AS a (AS (b:=U) rfl Ag)) (Ad [(4,6,0),(1007,1007,0),(9,12,1),(1013,1013,1)])) [0] [AP e.k] [(2,AC U)] λG=>AT ?_;exact BU U G [0] (by rw[GQ];simp[Dy,d];done)
  have d:=eq_of_beq a;cases c:(e.v==0)
  · have f:=ne_of_beq_false c;refine AM G (CR (AS a (AS c Ag)) (Ad [(4,6,0),(1007,1007,0),(9,12,1),(1013,1013,1)])) [0] [AP e.k] [(2,AC U)] λG=>AT ?_;exact BU U G [0] (by rw[GQ];simp[Dy,d,f];done)
  have f:=eq_of_beq c;refine AM G (CR (AS a (AS c Ag)) (Ad [(4,6,0),(1007,1007,0),(9,12,1),(1013,1013,1)])) [0] [AP e.k] [(2,AC ((J e.k:Int)==0))] λG=>AT ?_;exact BU ((J e.k:Int)==0) G [0] (by rw[GQ];simp[Dy,d,f];done)
theorem YU(k):AN.ok prog ⟨206,[.v (.int .i64 k)],[],[],.v (.int .i64 (Cm k))⟩:=by
  refine BP 23 func206 [] [(0,A k)] λG=>?_;refine B (AQ G AB [(2,A 0)] λG=>B (BN (B ?_)));cases b:(k==1)
  ·
   have m:=ne_of_beq_false b;refine AQ G (CR (AS b Ag) [(3,0),(4,0),(1005,0)]) [(3,AC (k==2))] λG=>Cu G (λd e=>?_) λd e=>?_
   ·
    refine B (AQ G AB [(10,AC (k==3))] λG=>Cu G (λi f=>?_) λi f=>?_)
    ·
     refine B ?_;cases a:(Y (k>=4))
     ·
      have n:=EB a;refine AQ G (CR (AS a Ag) [(3,0),(4,0),(1005,0)]) [(13,AC U)] λG=>Bo G U Au (B (BS G AB [(2,A 0),(20,AC (k==11))] λG=>?_));cases c:(k==11)
      · have o:=ne_of_beq_false c;refine Bo G _ c (Aq (BL (B (AQ G AB [(2,A (-1))] λG=>AT ?_))));exact DE (-1) G [] (by unfold Cm;(repeat' split)<;>omega)
      have o:=eq_of_beq c;exact False.elim O
     have n:=EC a;refine AQ G (CR (AS a Ag) [(3,0),(4,0),(1005,0)]) [(13,AC (Y (k<=10)))] λG=>DZ G (λj g=>?_) λj g=>?_
     ·
      refine B (AQ G AB [(20,AC (k==11))] λG=>Cu G (λl h=>?_) λl h=>?_)
      · refine Aq (BL (B (AQ G AB [(2,A (-1))] λG=>AT ?_)));exact DE (-1) G [] (by unfold Cm;(repeat' split)<;>omega)
      refine B (AQ G AB [(2,A 3)] λG=>AT (Cg (Ar ?_)));exact DE 3 G [] (by unfold Cm;(repeat' split)<;>omega)
     refine B (AQ G AB [(2,A 2)] λG=>AT (Cg (Ar ?_)));exact DE 2 G [] (by unfold Cm;(repeat' split)<;>omega)
    refine B (AQ G AB [(2,A 1)] λG=>AT (Cg (Ar ?_)));exact DE 1 G [] (by unfold Cm;(repeat' split)<;>omega)
   refine B (AQ G AB [] λG=>AT (Cg (Ar ?_)));exact DE 0 G [] (by unfold Cm;(repeat' split)<;>omega)
  have m:=eq_of_beq b;refine AQ G (CR (AS b Ag) [(3,0),(4,0),(1005,0)]) [(3,AC V)] λG=>Ba G V Au (B (AQ G AB [] λG=>AT (Cg (Ar ?_))));exact DE 0 G [] (by unfold Cm;(repeat' split)<;>omega)
theorem fM(e):AN.ok prog ⟨194,[.agg [.v (.int .i64 e.t),.v (.int .i64 e.v),.N 0]],[.G (.P e.k)],[.G (.P e.k)],.v (.bool (Eo e))⟩:=by
 refine BP 11 func194 [AP e.k] [(0,Dc e 0)] λG=>?_;refine B (AM G AB [0,1] [AP e.k,.C (Bz e 0)] [(1,.P 1 0),(2,AC U)] λG=>B ?_);cases a:(e.t==1)
 ·have b:=ne_of_beq_false a;refine AM G (CR (AS a Ag) [(4,0),(5,0),(6,0),(1007,0)]) [0] [AP e.k] [(2,AC (e.t==2))] λG=>AT ?_;exact BU (e.t==2) G [0] (by rw[GQ];simp[Eo,b];done)
 have b:=eq_of_beq a;refine AM G (CR (AS a Ag) [(4,0),(5,0),(6,0),(1007,0)]) [0] [AP e.k] [(2,AC V)] λG=>AT ?_;exact BU V G [0] (by rw[GQ];simp[Eo,b];done)
theorem wZ(c a)(b)(k):AN.ok prog ⟨207,[.agg [.N 0,.N 1,.N 2],.v (.int .i64 k)],[.G (.C c),.G (.C a),.G (.M b)],[.G (.C c),.G (.C a),.G (.M b)],.v (.int .i64 (GN (J c) (J a) k))⟩:=by
  refine BP 18 func207 [W c,W a,AE b] [(0,Ao 0),(1,A k)] λG=>?_;refine B (AM G AB (AH 4) [W c,W a,AE b,.C (Al 0)] [(1,A k),(2,.P 3 0),(4,A 0)] λG=>B (B (AQ G AB [(5,A k)] λG=>BN (B (AQ G AB [(6,AC (k==1))] λG=>Cu G (λh i=>?_) λh i=>?_)))))
  ·
   refine B (AQ G AB [(8,AC (k==2))] λG=>Cu G (λd e=>?_) λd e=>?_)
   ·
    refine B (AQ G AB [(13,AC (k==3))] λG=>Cu G (λg f=>?_) λg f=>?_)
    · refine Aq (BL (B (AM G AB [0,1,2] [W c,W a,AE b] [(4,A 1)] λG=>AT ?_)));exact DE 1 G [0,1,2] (by unfold GN;(repeat' split)<;>omega)
    refine B (AM G AB [0,1,2] [W c,W a,AE b] [(4,A (J a:Int))] λG=>AT (Cg (Ar ?_)));exact DE ((J a:Int)) G [0,1,2] (by unfold GN;(repeat' split)<;>omega)
   refine B (AM G AB [0,1,2] [W c,W a,AE b] [(4,A (J c:Int))] λG=>AT (Cg (Ar ?_)));exact DE ((J c:Int)) G [0,1,2] (by unfold GN;(repeat' split)<;>omega)
  refine B (AM G AB [0,1,2] [W c,W a,AE b] [(4,A 256)] λG=>AT (Cg (Ar ?_)));exact DE 256 G [0,1,2] (by unfold GN;(repeat' split)<;>omega)
theorem sK{a:Type}{l:List a}{k}{p:a->Bool}{z:a}(h:(l.take k).all p=V)(b:k<J l)(c:p (l.getD k z)=V):(l.take (k+1)).all p=true:=by
 rw[kQ p l k b,h, <-DU (d:=z) b,c];rfl
theorem jk{a:Type}{l:List a}{k}{p:a->Bool}(h:(l.take k).all p=V)(b:J l<=k):l.all p=true:=by
 rw[Dq b]at h;exact h
section
variable{nv na d:Nat}{e:AF}
theorem xW(h:¬(J e.k)=Cm e.t):As nv na (d+1) e=false:=by simp[As,En,h]
theorem xA(h:e.v<0):As nv na (d+1) e=false:=by
 have:¬0<=e.v:=O;simp[As,En,this]
theorem xN(h:GN nv na e.t<=e.v):As nv na (d+1) e=false:=by
 have:¬e.v<GN nv na e.t:=O;simp[As,En,this]
theorem L7{k}{z}(a:k<J e.k)(h:As nv na d (e.k.getD k z)=U):As nv na (d+1) e=false:=by
 rw[DU a]at h;have:e.k.all (As nv na d)=false:=YE a h;simp[As,this]
theorem wU(a:(J e.k)=Cm e.t)(c:¬e.v<0)(b:¬GN nv na e.t<=e.v):En nv na e=true:=by
 unfold En;rw[decide_eq_true a,decide_eq_true O,decide_eq_true O];rfl
theorem vh(a:En nv na e=V)(b:e.k.all (As nv na d)=V)(h:¬e.t=3):As nv na (d+1) e=true:=by
 rw[As,a,b];simp[KB,h]
theorem wb(b:En nv na e=V)(c:e.k.all (As nv na d)=V)(h:e.t=3)(a:0<J e.k):As nv na (d+1) e=Eo (e.k.getD 0 K):=by
 rw[As,b,c,mY h a,DU a];simp[Eo]
theorem sL(a:(J e.k)=Cm e.t)(h:e.t=3):0<J e.k:=by
 rw[h]at a;simp[Cm]at a;omega
end
theorem k7(d c)(b)(e)(n)(g:n=0):AN.ok prog ⟨203,[.agg [.N 0,.N 1,.N 2],.agg [.v (.int .i64 e.t),.v (.int .i64 e.v),.N 3],.v (.int .i64 n)],[.G (.C d),.G (.C c),.G (.M b),.G (.P e.k)],[.G (.C d),.G (.C c),.G (.M b),.G (.P e.k)],.v (.bool (As (J d) (J c) 0 e))⟩:=by
 have f:Y (n<1)=true:=CY;refine BP 60 func203 [W d,W c,AE b,AP e.k] [(0,Ao 0),(1,Dc e 3),(2,A n)] λG=>?_;refine B (AM G AB [0,1,2,3,4,12] [W d,W c,AE b,AP e.k,.C (Al 0),.C (Bz e 3)] [(2,A n),(3,.P 4 0),(4,.P 5 0),(6,AC U)] λG=>B (B (NK G (CR (AS (a:=Y (n<1)) (b:=V) Ab (AS (b:=V) rfl Ag)) (Ad [(3,9,0),(1010,1010,0),(12,14,1),(1015,1015,1),(17,23,1),(1024,1024,1)])) [0,1,3,7,15,31,7,71,199,511,1023,2047,4095,8191,16383,32767,65535,131071,262143,131071,131071,1179647,3801087,8388607,16777215] [(32,AC V)] λG=>Ba G V Au (B (AQ G AB [] λG=>AT (Ar ?_))))));exact Br G (AH 4)
theorem vf(f c)(b)(d:Nat)(E:d<=5)(y:∀(e:AF) (n:Int),n=d->AN.ok prog ⟨203,[.agg [.N 0,.N 1,.N 2],.agg [.v (.int .i64 e.t),.v (.int .i64 e.v),.N 3],.v (.int .i64 n)],[.G (.C f),.G (.C c),.G (.M b),.G (.P e.k)],[.G (.C f),.G (.C c),.G (.M b),.G (.P e.k)],.v (.bool (As (J f) (J c) d e))⟩)
    (e) (n:Int) (F:n=(d+1:Nat)):AN.ok prog ⟨203,[.agg [.N 0,.N 1,.N 2],.agg [.v (.int .i64 e.t),.v (.int .i64 e.v),.N 3],.v (.int .i64 n)],[.G (.C f),.G (.C c),.G (.M b),.G (.P e.k)],[.G (.C f),.G (.C c),.G (.M b),.G (.P e.k)],.v (.bool (As (J f) (J c) (d+1) e))⟩:=by
  have s:Y (n<1)=false:=CY;refine BP 60 func203 [W f,W c,AE b,AP e.k] [(0,Ao 0),(1,Dc e 3),(2,A n)] λG=>?_;refine B (AM G AB [0,1,2,3,4,12] [W f,W c,AE b,AP e.k,.C (Al 0),.C (Bz e 3)] [(2,A n),(3,.P 4 0),(4,.P 5 0),(6,AC U)] λG=>B (B ?_));cases h:((J e.k:Int) !=Cm e.t)
  ·
   have j:=bne_eq_false_iff_eq.1 h;cases m:(Y (e.v<0))
   ·
    have q:=EB m;refine NK G (BH (AX 8 [] (YU e.t) (AX 22 [0,1,2] (wZ f c b e.t) BG)) (AS (a:=Y (n<1)) (b:=U) Ab (AS h (AS m Ag))) (Ad [(3,9,0),(1010,1010,0),(12,14,1),(1015,1015,1),(17,23,2),(1024,1024,2)])) [0,1,3,7,15,31,7,71,199,511,1023,2047,4095,8191,16383,32767,65535,131071,262143,131071,131071,1179647,3801087,8388607,16777215] [(32,AC (Y (e.v>=GN (J f) (J c) e.t)))] λG=>DZ G (λC r=>?_) λC r=>?_
    ·
     refine Aq (B (B (BS G AB [(2,A n),(3,.P 4 0),(4,.P 5 0),(6,AC U),(7,A 0)] λG=>BN ?_)));refine DR (h:=Nat) (λk=>k<=J e.k/\(e.k.take k).all (As (J f) (J c) d)=V) (λk=>J e.k-k) (λk=>[W f,W c,AE b,AP e.k,.C (Al 0),.C (Bz e 3)]) (λk=>[(2,A n),(3,.P 4 0),(4,.P 5 0),(6,AC U),(7,A k)]) 0 (by simp) (Ap.at G _ _) ?_;clear G;intro k H a w o G;have p:J e.k<=9223372036854775807:=G.len 3 (d:=.P e.k) Au;have g:=wU (nv:=J f) (na:=J c) j q r;refine B (B (BS G AB [(2,A n),(3,.P 4 0),(4,.P 5 0),(6,AC U),(7,A k),(37,AC (Y ((k:Int)<J e.k)))] λG=>DZ G (λu D=>?_) λu D=>?_))
     ·
      refine wp_exit (Bd (Bd (DG (B ?_))));cases l:(e.t !=3)
      · have z:=bne_eq_false_iff_eq.1 l;refine CT G (BH (AX 8 [62] (fM (e.k.getD 0 K)) BG) (AS l Ag) (Ad [(4,8,0),(1009,1009,0)])) (AH 4) [W f,W c,AE b,AP e.k] [(6,AC (Eo (e.k.getD 0 K)))] (CD 0 0 (J e.k) []) (CE (by have:=sL j O;omega) Ay) λG=>AT ?_;exact BU (Eo (e.k.getD 0 K)) G (AH 4) (wb g (jk o.2 O) O (sL j O))
      have z:=bne_iff_ne.1 l;refine AM G (CR (AS l Ag) (Ad [(4,8,0),(1009,1009,0)])) (AH 4) [W f,W c,AE b,AP e.k] [(6,AC V)] λG=>AT ?_;exact BU V G (AH 4) (vh g (jk o.2 O) O)
     refine Aq (B (BN (B (JB G (Ai 8 [0,1,2,46] (y (e.k.getD k K) (n-1) O)) [0,0,2,0,14,30,0,64,255,511] [(49,.v (.bool !As (J f) (J c) d (e.k.getD k K)))] (CD k k (J e.k) ((BC (n-1))::[])) (CE O (BA O)) λG=>?_))));cases i:(!As (J f) (J c) d (e.k.getD k K))
     · have x:(As (J f) (J c) d (e.k.getD k K))=true:=(Eq.mp (Cp _) i);refine Bo G _ i (Aq (BL (Bi G AB [(7,A ((k:Int)+1))] [BC ((k:Int)+1)] (BA O) λG=>?_)));exact Ce G (k+1) (⟨O,sK o.2 O Ab⟩) O (AH 6)
     have x:(As (J f) (J c) d (e.k.getD k K))=false:=(Eq.mp (Cn _) i);refine Ba G _ i (B (AQ G AB [] λG=>AT (Cg (Ar (Ar (Cg (Ar ?_)))))));exact BU U G (AH 4) (L7 (k:=k) O Ab)
    refine B (AQ G AB [] λG=>AT (Ar ?_));exact BU U G (AH 4) (xN O)
   have q:=EC m;refine NK G (BH (AX 8 [] (YU e.t) BG) (AS (a:=Y (n<1)) (b:=U) Ab (AS h (AS m Ag))) (Ad [(3,9,0),(1010,1010,0),(12,14,1),(1015,1015,1),(17,23,2),(1024,1024,2)])) [0,1,3,7,15,31,7,71,199,511,1023,2047,4095,8191,16383,32767,65535,131071,262143,131071,131071,1179647,3801087,8388607,16777215] [(32,AC V)] λG=>Ba G V Au (B (AQ G AB [] λG=>AT (Ar ?_)));exact BU U G (AH 4) (xA O)
  have j:=bne_iff_ne.1 h;refine NK G (BH (AX 8 [] (YU e.t) BG) (AS (a:=Y (n<1)) (b:=U) Ab (AS h (AS (b:=V) rfl Ag))) (Ad [(3,9,0),(1010,1010,0),(12,14,1),(1015,1015,1),(17,23,2),(1024,1024,2)])) [0,1,3,7,15,31,7,71,199,511,1023,2047,4095,8191,16383,32767,65535,131071,262143,131071,131071,1179647,3801087,8388607,16777215] [(32,AC V)] λG=>Ba G V Au (B (AQ G AB [] λG=>AT (Ar ?_)));exact BU U G (AH 4) (xW O)
theorem mG(c a)(b):∀(d:Nat),d<=5->∀(e:AF) (n:Int),n=d->AN.ok prog ⟨203,[.agg [.N 0,.N 1,.N 2],.agg [.v (.int .i64 e.t),.v (.int .i64 e.v),.N 3],.v (.int .i64 n)],[.G (.C c),.G (.C a),.G (.M b),.G (.P e.k)],[.G (.C c),.G (.C a),.G (.M b),.G (.P e.k)],.v (.bool (As (J c) (J a) d e))⟩
 |0,_,e,n,f=>k7 c a b e n O
 |d+1,g,e,n,f=>vf c a b d O (mG c a b d O) e n f
theorem rL(f a)(b)(c e)(d)(n)(g:n=5):AN.ok prog (CJ 203 [Ao 0,.agg [A c,A e,.N 3],A n] [W f,W a,AE b,AP d] (AC (As (J f) (J a) 5 ⟨c,e,d⟩))):=mG f a b 5 O ⟨c,e,d⟩ n g
def Ki(d:Nat)(a:List AF)(k:Nat):Nat:=1+((a.take k).map (Je d)).sum
theorem H4(d)(a):Ki d a 0=1:=rfl
theorem rP{d}{a}{k}(b:k<J a):Ki d a (k+1)=Ki d a k+Je d (a.getD k K):=by
 unfold Ki;rw[ND a k b,List.map_append,List.sum_append,DU b];simp;omega
theorem p7{d}{e}{k}(a:J e.k<=k):Ki d e.k k=Je (d+1) e:=by
 unfold Ki;rw[Dq a,Je]
section
variable{nv na d:Nat}{e:AF}
theorem jE(b:As nv na (d+1) e=V){k}(a:k<J e.k):As nv na d (e.k.getD k K)=true:=by
 rw[DU a];exact(fY b).2 _ (EL a)
theorem qS(b:d<=5)(a:As nv na d e=V):Je d e<=1024:=by
 rw[tX nv na d e a];refine DO (D7 nv na d e a) ?_;exact DO (Nat.pow_le_pow_right ED b) ED
theorem mS(b:d<=4)(a:As nv na (d+1) e=V):∀k,k<=J e.k->Ki d e.k k<=1+1024*k
 |0,_=>by rw[H4];omega
 |k+1,c=>by
  have h:=mS b a k O;have f:=qS O (jE a (show k<(J e.k) by omega))
  rw[rP O];omega
end
abbrev fJ(d:Nat)(e:AF)(n:Int):AN:=CJ 204 [Dc e 0,A n] (Em e) (A (Je d e:Nat))
theorem D4(f g d)(p:d<=4)(o:∀e,As f g d e=V->∀n:Int,n=d->AN.ok prog (fJ d e n))(e)(c:As f g (d+1) e=V)(n:Int)(t:n=(d+1:Nat)):AN.ok prog (fJ (d+1) e n):=by
  have m:=(fY c).1;refine BP 29 func204 [AP e.k] [(0,Dc e 0),(1,A n)] λG=>?_;refine B (AM G AB [0,1] [AP e.k,.C (Bz e 0)] [(1,A n),(2,.P 1 0),(4,A 0)] λG=>B (AQ G AB [(5,A 1)] λG=>B (B (BS G AB [(1,A n),(2,.P 1 0),(4,A 0),(5,A 1),(6,A 0)] λG=>BN ?_))));refine DR (h:=Nat) (λk=>k<=J e.k) (λk=>J e.k-k) (λk=>[AP e.k,.C (Bz e 0)]) (λk=>[(1,A n),(2,.P 1 0),(4,A 0),(5,A (Ki d e.k k:Nat)),(6,A k)]) 0 O (Ap.at G _ _) ?_;clear G;intro k u a w r G;replace G:=Ap.at G [AP e.k,.C (Bz e 0)] [(1,A n),(2,.P 1 0),(4,A 0),(5,A (↑(Ki d e.k k):Int)),(6,A k)];have q:=mS p c k r;refine B (B ?_);cases b:(Y ((k:Int)<J e.k))
  · have j:=EB b;refine AQ G (CR (AS b Ag) [(6,0),(7,0),(1008,0)]) [(15,AC U)] λG=>Bo G U Au (wp_exit (Bd (Bd (DG (B (AM G AB [0] [AP e.k] [(4,A (↑(Ki d e.k k):Int))] λG=>AT ?_))))));exact DE ((↑(Ki d e.k k):Int)) G [0] (by rw[<-p7 (k:=k) O];done)
  have j:=EC b;refine BS G (CR (AS b Ag) [(6,0),(7,0),(1008,0)]) [(1,A n),(2,.P 1 0),(4,A 0),(5,A (↑(Ki d e.k k):Int)),(6,A k),(15,AC (Y (n>0)))] λG=>?_;cases h:(Y (n>0))
  · have l:=EB h;exact False.elim O
  have l:=EC h;refine Ba G _ h (Aq (B (BN (Bi G (Ai 8 [42] (o (e.k.getD k K) (jE c O) (n-1) O)) [(5,A ((↑(Ki d e.k k):Int)+(↑(Je d (e.k.getD k K)):Int)))] (CD k k (J e.k) ((BC (n-1))::((BC ((↑(Ki d e.k k):Int)+(↑(Je d (e.k.getD k K)):Int)))::[]))) (CE O ⟨Hw O,⟨(by have s:=qS (nv:=f) (na:=g) (d:=d) O (jE c (show k<(J e.k) by omega));exact Kp O O),Ay⟩⟩) λG=>BL (Bi G AB [(6,A ((k:Int)+1))] [BC ((k:Int)+1)] (BA O) λG=>?_)))));exact Ce G (k+1) O O [0,1] (ht:=by have i:((↑(Ki d e.k (k+1)):Int):Int)=((↑(Ki d e.k k):Int)+(↑(Je d (e.k.getD k K)):Int)):=(by rw[rP O];omega);(first|rw[i]|simp only[i])<;>rfl)
theorem oO(a b):∀d,d<=5->∀e,As a b d e=V->∀n:Int,n=d->AN.ok prog (fJ d e n)
 |0,_,e,h,_,_=>by simp[As]at h
 |d+1,f,e,h,n,c=>D4 a b d O (oO a b d O) e h n c
theorem wc(d e)(a c)(b)(n)(f:n=5)(h:As d e 5 ⟨a,c,b⟩=V):AN.ok prog (CJ 204 [.agg [A a,A c,.N 0],A n] [AP b] (A (Je 5 ⟨a,c,b⟩))):=oO d e 5 O ⟨a,c,b⟩ h n f
theorem J7{a b}{e}(h:As a b 5 ⟨e.t,e.v,e.k⟩=U):CQ a b e=false:=by
 rw[AF.eta]at h;unfold CQ;rw[h];rfl
theorem yY{a b}{e}(h:As a b 5 ⟨e.t,e.v,e.k⟩=V):CQ a b e=Y ((Je 5 ⟨e.t,e.v,e.k⟩:Int)<=15):=by
 rw[AF.eta]at h ⊢;rw[N2,h,IG,GQ];simp only[decide_eq_true_eq];omega
section
variable{s:AG}
theorem wz(h:s.t=4)(a:¬(J s.e:Int)=0):Dn s=false:=by
 unfold Dn;rw[AZ (.inr h),AZ h,decide_eq_false (p:=J s.e=0) O];simp
theorem yy(h:s.t=4)(a:s.g=0)(f:(J s.e:Int)=0)(c:s.count>=1)(d:s.count<=3)(b:Dy s.i=V):Dn s=Dy s.v:=by
 unfold Dn;rw[AZ (.inr h),AZ h,decide_eq_true (p:=J s.e=0) O,decide_eq_true a,decide_eq_true (p:=1<=s.count) c,decide_eq_true d,b];simp
theorem E3(d:¬s.t=3)(f:¬s.t=4)(b:¬(J s.b:Int)>0)(e:¬(J s.e:Int)>0)(c:s.count=0)(a:¬s.t=2):Dn s=Dy s.i:=by
 unfold Dn;rw[AO O,decide_eq_true (p:=J s.b=0) O,decide_eq_true (p:=J s.e=0) O,decide_eq_true c,decide_eq_false a];simp
theorem ab3(b:¬(J s.b:Int)>0)(e:¬(J s.e:Int)>0)(c:s.count=0)(a:s.t=2):Dn s=true:=by
 unfold Dn;rw[AO O,decide_eq_true (p:=J s.b=0) O,decide_eq_true (p:=J s.e=0) O,decide_eq_true c,decide_eq_true a];simp
theorem ad8(a:¬s.t=3)(b:¬s.t=4)(e:(J s.e:Int)>0):Dn s=false:=by
 unfold Dn;rw[AO O,decide_eq_false (p:=J s.e=0) O];simp
theorem ug(a:¬s.t=3)(c:¬s.t=4)(e:(J s.b:Int)>0):Dn s=false:=by
 unfold Dn;rw[AO O,decide_eq_false (p:=J s.b=0) O];simp
end
theorem Of(p)(e):AN.ok prog (CJ 193 [Ao 0,Dc e 3] (Be p++Em e) (AC (CQ (J p.s) (J p.r) e))):=by
 have a:=λh=>wc (J p.s) (J p.r) e.t e.v e.k 5 rfl h
 refine BP 13 func193 [W p.s,W p.r,AE p.b,AP e.k] [(0,Ao 0),(1,Dc e 3)] λG=>?_;refine B (AM G AB [0,1,2,3,4,12] [W p.s,W p.r,AE p.b,AP e.k,.C (Al 0),.C (Bz e 3)] [(2,.P 4 0),(3,.P 5 0),(4,AC U)] λG=>B ?_);cases c:(As (J p.s) (J p.r) (5:Nat) (Ak e))
 ·refine AM G (BH (AX 2 (AH 4) (rL p.s p.r p.b e.t e.v e.k 5 Au) BG) (AS c Ag) [(4,0),(5,0),(6,0),(1007,0)]) (AH 4) [W p.s,W p.r,AE p.b,AP e.k] [(4,AC U)] λG=>AT ?_;exact BU U G (AH 4) (J7 AY)
 refine AM G (BH (AX 2 (AH 4) (rL p.s p.r p.b e.t e.v e.k 5 Au) (AX 5 [3] (a Ab) BG)) (AS c Ag) [(4,0),(5,0),(6,0),(1007,0)]) (AH 4) [W p.s,W p.r,AE p.b,AP e.k] [(4,AC (Y ((↑(Je 5 (Ak e)):Int)<=15)))] λG=>AT ?_;exact BU (Y ((↑(Je 5 (Ak e)):Int)<=15)) G (AH 4) (yY AY)
abbrev Rb(s:AG)(a:List AI):List AI:=AP s.i.k::AP s.v.k::AE s.b::AE s.e::a
theorem zD(s):AN.ok prog (CJ 192 [Fw s 0] (ID s) (AC (Dn s))):=by
  refine BP 74 func192 (Rb s []) [(0,Fw s 0)] λG=>?_;refine B (AM G AB (AH 5) (Rb s [.C (Ct s 0)]) [(1,.P 4 0),(2,AC U)] λG=>B ?_);cases D:(s.t==3)
  ·
   have r:=ne_of_beq_false D;refine BS G (CR (AS D Ag) [(4,0),(5,0),(6,0),(1007,0)]) [(1,.P 4 0),(2,AC U),(3,AC (s.t==4))] λG=>B (B ?_);cases p:(!s.t==4)
   ·
    have o:s.t=4:=(λE=>eq_of_beq E) (Eq.mp (Cp _) p);cases C:(s.t==4)
    · have T:=ne_of_beq_false C;exact False.elim O
    have T:=eq_of_beq C;refine AQ G (CR (AS p (AS (b:=U) rfl (AS C Ag))) (Ad [(3,7,0),(12,12,0),(1013,1013,0),(15,16,1),(17,19,2),(20,20,1),(1020,1020,2),(1021,1021,1)])) [(33,AC (s.g !=0))] λG=>IP G (λR x=>?_) λR x=>?_
    ·
     refine Aq (B (B (AQ G AB [(36,AC (s.t==4))] λG=>Ba G _ C (B ?_))));cases k:((J s.e:Int)==0)
     · have X:=ne_of_beq_false k;refine AQ G (CR (AS k (AS (b:=U) rfl Ag)) (Ad [(5,7,0),(1008,1008,0),(10,12,1),(1013,1013,1),(15,17,1),(1018,1018,1),(20,22,1),(1023,1023,1)])) [] λG=>AT (Ar ?_);exact BU U G (AH 4) (wz O O)
     have X:=eq_of_beq k;cases n:(Y (s.count>=1))
     · have z:=EB n;refine AQ G (CR (AS k (AS n (AS (b:=U) rfl Ag))) (Ad [(5,7,0),(1008,1008,0),(10,12,1),(1013,1013,1),(15,17,2),(1018,1018,2),(20,22,2),(1023,1023,2)])) [] λG=>AT (Ar ?_);exact BU U G (AH 4) (by rw[GQ];simp[Dn,o,x,z];done)
     have z:=EC n;cases q:(Y (s.count<=3))
     · have L:=EB q;refine AQ G (CR (AS k (AS n (AS q (AS (b:=U) rfl Ag)))) (Ad [(5,7,0),(1008,1008,0),(10,12,1),(1013,1013,1),(15,17,2),(1018,1018,2),(20,22,3),(1023,1023,3)])) [] λG=>AT (Ar ?_);exact BU U G (AH 4) (by rw[GQ];simp[Dn,o,x,z,L];done)
     have L:=EC q;cases H:(Dy s.i)
     · refine AQ G (BH (AX 17 [0] (WS s.i) BG) (AS k (AS n (AS q (AS H Ag)))) (Ad [(5,7,0),(1008,1008,0),(10,12,1),(1013,1013,1),(15,17,2),(1018,1018,2),(20,22,3),(1023,1023,3)])) [] λG=>AT (Ar ?_);exact BU U G (AH 4) (by rw[GQ];simp[Dn,o,x,z,L,H];done)
     refine AQ G (BH (AX 17 [0] (WS s.i) (AX 22 [1] (WS s.v) BG)) (AS k (AS n (AS q (AS H Ag)))) (Ad [(5,7,0),(1008,1008,0),(10,12,1),(1013,1013,1),(15,17,2),(1018,1018,2),(20,22,3),(1023,1023,3)])) [(2,AC (Dy s.v))] λG=>AT (Ar ?_);exact BU (Dy s.v) G (AH 4) (yy O O O O O AY)
    refine B (AQ G AB [] λG=>AT (Ar ?_));exact BU U G (AH 4) (by rw[GQ];simp[Dn,o,x];done)
   have o:¬(s.t=4):=(λE=>ne_of_beq_false E) (Eq.mp (Cn _) p);cases w:(Y ((J s.b:Int)>0))
   ·
    have S:=EB w;cases y:(Y ((J s.e:Int)>0))
    ·
     have q9:=EB y;cases c:(s.t==4)
     ·
      have N:=ne_of_beq_false c;refine AQ G (CR (AS p (AS w (AS y (AS c Ag)))) (Ad [(3,7,0),(8,11,1),(12,12,0),(1012,1012,1),(1013,1013,0),(15,16,2),(17,19,3),(20,20,2),(1020,1020,3),(1021,1021,2)])) [(33,AC U)] λG=>Bo G U Au (Aq (B (B (AQ G AB [(36,AC (s.t==4))] λG=>Bo G _ c (Aq (B ?_))))));cases a:(s.count==0)
      · have u:=ne_of_beq_false a;refine AM G (CR (AS a Ag) (Ad [(4,7,0),(11,11,0),(1012,1012,0)])) (AH 4) (Rb s []) [(2,AC U)] λG=>AT ?_;exact BU U G (AH 4) (by rw[GQ];simp[Dn,r,o,u];done)
      have u:=eq_of_beq a;cases d:(s.t==2)
      · have P:=ne_of_beq_false d;refine AM G (BH (AX 10 [0] (WS s.i) BG) (AS a (AS d Ag)) (Ad [(4,7,0),(8,10,1),(11,11,0),(1011,1011,1),(1012,1012,0)])) (AH 4) (Rb s []) [(2,AC (Dy s.i))] λG=>AT ?_;exact BU (Dy s.i) G (AH 4) (E3 O O O O O O)
      have P:=eq_of_beq d;refine AM G (CR (AS a (AS d Ag)) (Ad [(4,7,0),(8,10,1),(11,11,0),(1011,1011,1),(1012,1012,0)])) (AH 4) (Rb s []) [(2,AC V)] λG=>AT ?_;exact BU V G (AH 4) (ab3 O O O O)
     have N:=eq_of_beq c;exact False.elim O
    have q9:=EC y;refine AQ G (CR (AS p (AS w (AS y Ag))) (Ad [(3,7,0),(8,11,1),(12,12,0),(1012,1012,1),(1013,1013,0),(15,16,2),(20,20,2),(1021,1021,2)])) [(33,AC V)] λG=>Ba G V Au (B (AQ G AB [] λG=>AT (Ar ?_)));exact BU U G (AH 4) (ad8 O O O)
   have S:=EC w;refine AQ G (CR (AS p (AS w (AS (b:=V) rfl Ag))) (Ad [(3,7,0),(8,11,1),(12,12,0),(1012,1012,1),(1013,1013,0),(15,16,2),(20,20,2),(1021,1021,2)])) [(33,AC V)] λG=>Ba G V Au (B (AQ G AB [] λG=>AT (Ar ?_)));exact BU U G (AH 4) (ug O O O)
  have r:=eq_of_beq D;refine AQ G (CR (AS D Ag) [(4,0),(5,0),(6,0),(1007,0)]) [(3,AC V)] λG=>B (B (AQ G (CR (AS (b:=U) rfl (AS (b:=V) rfl Ag)) (Ad [(3,7,0),(12,12,0),(1013,1013,0),(15,16,0),(17,19,1),(20,20,0),(1020,1020,1),(1021,1021,0)])) [(33,AC (s.g !=0))] λG=>IP G (λM f=>?_) λM f=>?_))
  ·
   refine Aq (B (B (BS G AB [(1,.P 4 0),(2,AC U),(36,AC (s.t==4))] λG=>?_)));cases m:(s.t==4)
   ·
    have Q:=ne_of_beq_false m;refine Bo G _ m (Aq (B ?_));cases h:(s.count==0)
    · have j:=ne_of_beq_false h;refine AM G (CR (AS h Ag) (Ad [(4,7,0),(11,11,0),(1012,1012,0)])) (AH 4) (Rb s []) [(2,AC U)] λG=>AT ?_;exact BU U G (AH 4) (by rw[GQ];simp[Dn,r,f,j];done)
    have j:=eq_of_beq h;cases l:(s.t==2)
    · have F:=ne_of_beq_false l;refine AM G (BH (AX 10 [0] (WS s.i) BG) (AS h (AS l Ag)) (Ad [(4,7,0),(8,10,1),(11,11,0),(1011,1011,1),(1012,1012,0)])) (AH 4) (Rb s []) [(2,AC (Dy s.i))] λG=>AT ?_;exact BU (Dy s.i) G (AH 4) (by rw[GQ];simp[Dn,r,f,j];done)
    have F:=eq_of_beq l;exact False.elim O
   have Q:=eq_of_beq m;exact False.elim O
  refine B (AQ G AB [] λG=>AT (Ar ?_));exact BU U G (AH 4) (by rw[GQ];simp[Dn,r,f];done)
abbrev mN(p:BE)(d:Nat)(a:List AG)(n:Int):AN:=CJ 143 [Ao 0,.N 3,A n] (Be p++[AE a]) (AC (a.all (Ax (J p.s) (J p.r) d)))
abbrev Xp(p:BE)(d:Nat)(s:AG)(n:Int):AN:=CJ 181 [Ao 0,Fw s 3,A n] (Be p++ID s) (AC (Ax (J p.s) (J p.r) d s))
theorem wq(p)(s)(n)(d:n=0):AN.ok prog (Xp p 0 s n):=by
 refine BP 96 func181 [W p.s,W p.r,AE p.b,AP s.i.k,AP s.v.k,AE s.b,AE s.e] [(0,Ao 0),(1,Fw s 3),(2,A n)] λG=>?_;refine B (AM G AB [0,1,2,3,4,5,6,7,15] [W p.s,W p.r,AE p.b,AP s.i.k,AP s.v.k,AE s.b,AE s.e,.C (Al 0),.C (Ct s 3)] [(2,A n),(3,.P 7 0),(4,.P 8 0),(6,AC U)] λG=>B (B ?_));cases a:(Y (n<1))
 ·have c:=EB a;exact False.elim O
 have c:=EC a;refine AQ G (CR (AS a Ag) [(3,0),(4,0),(5,0),(1006,0)]) [(13,AC V)] λG=>Ba G V Au (B (AQ G AB [] λG=>AT (Ar ?_)));exact Br G (AH 7)
section
variable{nv na d:Nat}{s:AG}
theorem G7(h:Dn s=U):Ax nv na (d+1) s=false:=by rw[Ax,h];rfl
theorem iy(a:Dn s=V)(h:s.t=1\/s.t=5):Ax nv na (d+1) s=(Y (0<=s.g)&&Y (s.g<nv)&&CQ nv na s.v):=by rw[Ax,a,AZ h];rfl
theorem VM(a:Dn s=V)(h:s.t=2):Ax nv na (d+1) s=(Y (0<=s.g)&&Y (s.g<na)&&CQ nv na s.i&&Eo s.i&&CQ nv na s.v):=by rw[Ax,a,AO O,AZ h];rfl
theorem jU(a:Dn s=V)(h:s.t=3):Ax nv na (d+1) s=(CQ nv na s.v&&s.b.all (Ax nv na d)&&s.e.all (Ax nv na d)):=by rw[Ax,a,AO O,AO O,AZ h];rfl
theorem Y7(a:Dn s=V)(h:s.t=4):Ax nv na (d+1) s=s.b.all (Ax nv na d):=by rw[Ax,a,AO O,AO O,AO O,AZ h];rfl
theorem tn(a:Dn s=V)(h:s.t=1\/s.t=5)(q:¬s.g>=0):Ax nv na (d+1) s=false:=by rw[iy a h,decide_eq_false (p:=0<=s.g) q];rfl
theorem qy(a:Dn s=V)(h:s.t=1\/s.t=5)(q:¬s.g<nv):Ax nv na (d+1) s=false:=by rw[iy a h,decide_eq_false q,Bool.and_false];rfl
theorem tj(a:Dn s=V)(h:s.t=1\/s.t=5)(q:s.g>=0)(r:s.g<nv):Ax nv na (d+1) s=CQ nv na s.v:=by rw[iy a h,decide_eq_true (p:=0<=s.g) q,decide_eq_true r];rfl
theorem Y8(a:Dn s=V)(h:s.t=2)(q:¬s.g>=0):Ax nv na (d+1) s=false:=by rw[VM a h,decide_eq_false (p:=0<=s.g) q];rfl
theorem f8(a:Dn s=V)(h:s.t=2)(q:¬s.g<na):Ax nv na (d+1) s=false:=by rw[VM a h,decide_eq_false q,Bool.and_false];rfl
theorem J3(a:Dn s=V)(h:s.t=2)(q:CQ nv na s.i=U):Ax nv na (d+1) s=false:=by rw[VM a h,q,Bool.and_false];rfl
theorem ab9(a:Dn s=V)(h:s.t=2)(q:Eo s.i=U):Ax nv na (d+1) s=false:=by rw[VM a h,q,Bool.and_false];rfl
theorem E9(a:Dn s=V)(h:s.t=2)(q:s.g>=0)(r:s.g<na)(u:CQ nv na s.i=V)(v:Eo s.i=V):Ax nv na (d+1) s=CQ nv na s.v:=by rw[VM a h,decide_eq_true (p:=0<=s.g) q,decide_eq_true r,u,v];rfl
theorem ui(a:Dn s=V)(h:s.t=3)(q:CQ nv na s.v=U):Ax nv na (d+1) s=false:=by rw[jU a h,q];rfl
theorem H0(a:Dn s=V)(h:s.t=3)(q:s.b.all (Ax nv na d)=U):Ax nv na (d+1) s=false:=by rw[jU a h,q,Bool.and_false];rfl
theorem z6(a:Dn s=V)(h:s.t=3)(q:CQ nv na s.v=V)(r:s.b.all (Ax nv na d)=V):Ax nv na (d+1) s=s.e.all (Ax nv na d):=by rw[jU a h,q,r];rfl
theorem xl(e:¬s.t=1)(c:¬s.t=2)(a:¬s.t=3)(b:¬s.t=4)(f:¬s.t=5):Ax nv na (d+1) s=false:=by rw[Ax,AO O,AO c,AO a,AO b];simp
end
abbrev Jb(p:BE)(s:AG)(a:List AI):List AI:=W p.s::W p.r::AE p.b::AP s.i.k::AP s.v.k::AE s.b::AE s.e::a
theorem ab5(p)(d:Nat)(o:∀(T:List AG) (n:Int),n=d->AN.ok prog (mN p d T n))(s)(n:Int)(hn:n=(d+1:Nat))(hd:d<=5):AN.ok prog (Xp p (d+1) s n):=by
  refine BP 96 func181 (Jb p s []) [(0,Ao 0),(1,Fw s 3),(2,A n)] λG=>?_;refine B (AM G AB [0,1,2,3,4,5,6,7,15] (Jb p s [.C (Al 0),.C (Ct s 3)]) [(2,A n),(3,.P 7 0),(4,.P 8 0),(6,AC U)] λG=>B (B ?_));cases z:(Y (n<1))
  ·
   have N:=EB z;refine AQ G (BH (AX 4 [3,4,5,6] (zD s) BG) (AS z Ag) [(3,0),(4,0),(5,0),(1006,0)]) [(13,.v (.bool !Dn s))] λG=>?_;cases q:(!Dn s)
   ·
    have P:(Dn s)=true:=(Eq.mp (Cp _) q);refine Bo G _ q (Aq (B (B (AQ G AB [(15,A s.t)] λG=>BN (B (B (AQ G AB [(16,AC (s.t==1))] λG=>Cu G (λF Q=>?_) λF Q=>?_)))))))
    ·
     refine AQ G AB [(16,AC (s.t==5))] λG=>Cu G (λH q3=>?_) λH q3=>?_
     ·
      refine B (AQ G AB [(36,AC (s.t==2))] λG=>Cu G (λS X=>?_) λS X=>?_)
      ·
       refine B (AQ G AB [(66,AC (s.t==3))] λG=>Cu G (λL R=>?_) λL R=>?_)
       ·
        refine B (AQ G AB [(88,AC (s.t==4))] λG=>Cu G (λM q6=>?_) λM q6=>?_)
        · refine Aq (BL (B (AM G AB (AH 7) (Jb p s []) [(6,AC U)] λG=>AT ?_)));exact BU U G (AH 7) (xl O O O O O)
        refine B (CT G (Ai 5 [0,1,2,5] (o s.b (n-1) O)) (AH 7) (Jb p s []) [(6,AC (s.b.all (Ax (J p.s) (J p.r) d)))] [BC (n-1)] (BA O) λG=>AT (Cg (Ar ?_)));exact BU (s.b.all (Ax (J p.s) (J p.r) d)) G (AH 7) (Y7 AY O)
       refine B ?_;cases y:(CQ (J p.s) (J p.r) s.v)
       · refine AM G (BH (AX 3 [0,1,2,4] (Of p s.v) BG) (AS y (AS (b:=U) rfl Ag)) (Ad [(5,10,0),(1011,1011,0),(13,18,1),(1019,1019,1)])) (AH 7) (Jb p s []) [(6,AC U)] λG=>AT (Cg (Ar ?_));exact BU U G (AH 7) (ui AY O AY)
       cases E:(s.b.all (Ax (J p.s) (J p.r) d))
       · refine CT G (BH (AX 3 [0,1,2,4] (Of p s.v) (AX 10 [0,1,2,5] (o s.b (n-1) O) BG)) (AS y (AS E Ag)) (Ad [(5,10,0),(1011,1011,0),(13,18,1),(1019,1019,1)])) (AH 7) (Jb p s []) [(6,AC U)] [BC (n-1)] (BA O) λG=>AT (Cg (Ar ?_));exact BU U G (AH 7) (H0 AY O AY)
       refine CT G (BH (AX 3 [0,1,2,4] (Of p s.v) (AX 10 [0,1,2,5] (o s.b (n-1) O) (AX 18 [0,1,2,6] (o s.e (n-1) O) BG))) (AS y (AS E Ag)) (Ad [(5,10,0),(1011,1011,0),(13,18,1),(1019,1019,1)])) (AH 7) (Jb p s []) [(6,AC (s.e.all (Ax (J p.s) (J p.r) d)))] [BC (n-1),BC (n-1)] (Co O) λG=>AT (Cg (Ar ?_));exact BU (s.e.all (Ax (J p.s) (J p.r) d)) G (AH 7) (z6 AY O AY AY)
      refine B ?_;cases l:(Y (s.g>=0))
      · have q9:=EB l;refine AM G (CR (AS l (AS (b:=U) rfl Ag)) (Ad [(4,9,0),(1010,1010,0),(12,15,1),(1016,1016,1),(18,20,1),(1021,1021,1),(23,26,1),(1027,1027,1)])) (AH 7) (Jb p s []) [(6,AC U)] λG=>AT (Cg (Ar ?_));exact BU U G (AH 7) (Y8 AY O O)
      have q9:=EC l;cases a:(Y (s.g<(J p.r:Int)))
      · have C:=EB a;refine AM G (CR (AS l (AS a (AS (b:=U) rfl Ag))) (Ad [(4,9,0),(1010,1010,0),(12,15,1),(1016,1016,1),(18,20,2),(1021,1021,2),(23,26,2),(1027,1027,2)])) (AH 7) (Jb p s []) [(6,AC U)] λG=>AT (Cg (Ar ?_));exact BU U G (AH 7) (f8 AY O O)
      have C:=EC a;cases k:(CQ (J p.s) (J p.r) s.i)
      · refine AM G (BH (AX 15 (AH 4) (Of p s.i) BG) (AS l (AS a (AS k (AS (b:=U) rfl Ag)))) (Ad [(4,9,0),(1010,1010,0),(12,15,1),(1016,1016,1),(18,20,2),(1021,1021,2),(23,26,3),(1027,1027,3)])) (AH 7) (Jb p s []) [(6,AC U)] λG=>AT (Cg (Ar ?_));exact BU U G (AH 7) (J3 AY O AY)
      cases m:(Eo s.i)
      · refine AM G (BH (AX 15 (AH 4) (Of p s.i) (AX 20 [3] (fM s.i) BG)) (AS l (AS a (AS k (AS m Ag)))) (Ad [(4,9,0),(1010,1010,0),(12,15,1),(1016,1016,1),(18,20,2),(1021,1021,2),(23,26,3),(1027,1027,3)])) (AH 7) (Jb p s []) [(6,AC U)] λG=>AT (Cg (Ar ?_));exact BU U G (AH 7) (ab9 AY O AY)
      refine AM G (BH (AX 15 (AH 4) (Of p s.i) (AX 20 [3] (fM s.i) (AX 26 [0,1,2,4] (Of p s.v) BG))) (AS l (AS a (AS k (AS m Ag)))) (Ad [(4,9,0),(1010,1010,0),(12,15,1),(1016,1016,1),(18,20,2),(1021,1021,2),(23,26,3),(1027,1027,3)])) (AH 7) (Jb p s []) [(6,AC (CQ (J p.s) (J p.r) s.v))] λG=>AT (Cg (Ar ?_));exact BU (CQ (J p.s) (J p.r) s.v) G (AH 7) (E9 AY O O O AY AY)
     refine B ?_;cases f:(Y (s.g>=0))
     · have u:=EB f;refine AM G (CR (AS f (AS (b:=U) rfl Ag)) (Ad [(4,9,0),(1010,1010,0),(12,15,1),(1016,1016,1)])) (AH 7) (Jb p s []) [(6,AC U)] λG=>AT (Cg (Ar ?_));exact BU U G (AH 7) (tn AY O O)
     have u:=EC f;cases j:(Y (s.g<(J p.s:Int)))
     · have D:=EB j;refine AM G (CR (AS f (AS j Ag)) (Ad [(4,9,0),(1010,1010,0),(12,15,1),(1016,1016,1)])) (AH 7) (Jb p s []) [(6,AC U)] λG=>AT (Cg (Ar ?_));exact BU U G (AH 7) (qy AY O O)
     have D:=EC j;refine AM G (BH (AX 15 [0,1,2,4] (Of p s.v) BG) (AS f (AS j Ag)) (Ad [(4,9,0),(1010,1010,0),(12,15,1),(1016,1016,1)])) (AH 7) (Jb p s []) [(6,AC (CQ (J p.s) (J p.r) s.v))] λG=>AT (Cg (Ar ?_));exact BU (CQ (J p.s) (J p.r) s.v) G (AH 7) (tj AY O O O)
    refine Aq (Ba G _ F (B ?_));cases c:(Y (s.g>=0))
    · have w:=EB c;refine AM G (CR (AS c (AS (b:=U) rfl Ag)) (Ad [(4,9,0),(1010,1010,0),(12,15,1),(1016,1016,1)])) (AH 7) (Jb p s []) [(6,AC U)] λG=>AT (Cg (Ar ?_));exact BU U G (AH 7) (tn AY O O)
    have w:=EC c;cases h:(Y (s.g<(J p.s:Int)))
    · have x:=EB h;refine AM G (CR (AS c (AS h Ag)) (Ad [(4,9,0),(1010,1010,0),(12,15,1),(1016,1016,1)])) (AH 7) (Jb p s []) [(6,AC U)] λG=>AT (Cg (Ar ?_));exact BU U G (AH 7) (qy AY O O)
    have x:=EC h;refine AM G (BH (AX 15 [0,1,2,4] (Of p s.v) BG) (AS c (AS h Ag)) (Ad [(4,9,0),(1010,1010,0),(12,15,1),(1016,1016,1)])) (AH 7) (Jb p s []) [(6,AC (CQ (J p.s) (J p.r) s.v))] λG=>AT (Cg (Ar ?_));exact BU (CQ (J p.s) (J p.r) s.v) G (AH 7) (tj AY O O O)
   have P:(Dn s)=false:=(Eq.mp (Cn _) q);refine Ba G _ q (B (AQ G AB [] λG=>AT (Ar ?_)));exact BU U G (AH 7) (G7 AY)
  have N:=EC z;exact False.elim O
theorem wl{c e d}{a}{k}(b:k<J a)(h:Ax c e d (a.getD k K)=U):a.all (Ax c e d)=false:=by
 rw[DU b]at h;exact YE b h
theorem lO(p)(d:Nat)(m:d<=5)(j:∀(s:AG) (n:Int),n=d->AN.ok prog (Xp p d s n))(c)(n:Int)(o:n=d):AN.ok prog (mN p d c n):=by
  refine BP 22 func143 [W p.s,W p.r,AE p.b,AE c] [(0,Ao 0),(1,.N 3),(2,A n)] λG=>?_;refine B (AM G AB (AH 5) [W p.s,W p.r,AE p.b,AE c,.C (Al 0)] [(1,.N 3),(2,A n),(3,.P 4 0),(6,AC U)] λG=>B (B (BS G AB [(1,.N 3),(2,A n),(3,.P 4 0),(6,AC U),(7,A 0)] λG=>BN ?_)));refine DR (h:=Nat) (λk=>k<=J c/\(c.take k).all (Ax (J p.s) (J p.r) d)=V) (λk=>J c-k) (λk=>[W p.s,W p.r,AE p.b,AE c,.C (Al 0)]) (λk=>[(1,.N 3),(2,A n),(3,.P 4 0),(6,AC U),(7,A k)]) 0 At (Ap.at G _ _) ?_;clear G;intro k q a w g G;have f:J c<=9223372036854775807:=G.len 3 (d:=.M c) Au;refine B (B (BS G AB [(1,.N 3),(2,A n),(3,.P 4 0),(6,AC U),(7,A k),(11,AC (Y ((k:Int)<J c)))] λG=>DZ G (λl h=>?_) λl h=>?_))
  · refine wp_exit (Bd (Bd (DG (B (AM G AB (AH 4) [W p.s,W p.r,AE p.b,AE c] [(6,AC V)] λG=>AT ?_)))));exact BU V G (AH 4) (jk g.2 O)
  refine Aq (B (BN (B (JB G (Ai 6 [0,1,2,37,38,39,40] (j (c.getD k K) n Ab)) [0,0,0,6,14,0,63,127] [(21,.v (.bool !Ax (J p.s) (J p.r) d (c.getD k K)))] (CD k k (J c) []) (CE O Ay) λG=>?_))));cases e:(!Ax (J p.s) (J p.r) d (c.getD k K))
  · have i:(Ax (J p.s) (J p.r) d (c.getD k K))=true:=(Eq.mp (Cp _) e);refine Bo G _ e (Aq (BL (Bi G AB [(7,A ((k:Int)+1))] [BC ((k:Int)+1)] (BA O) λG=>?_)));exact Ce G (k+1) (⟨O,sK g.2 O Ab⟩) O (AH 5)
  have i:(Ax (J p.s) (J p.r) d (c.getD k K))=false:=(Eq.mp (Cn _) e);refine Ba G _ e (B (AQ G AB [] λG=>AT (Cg (Ar (Ar (Cg (Ar ?_)))))));exact BU U G (AH 4) (wl (k:=k) O AY)
theorem pI(p):∀(d:Nat),d<=5->∀(s:AG) (n:Int),n=d->AN.ok prog (Xp p d s n)
 |0,_,s,n,a=>wq p s n a
 |d+1,c,s,n,a=>ab5 p d (λb n a=>lO p d O (pI p d O) b n a) s n a O
theorem zr(p)(a)(n)(b:n=5):AN.ok prog (CJ 143 [Ao 0,.N 3,A n] (Be p++[.G (.M a)]) (AC (MG (J p.s) (J p.r) 5 a))):=
 lO p 5 O (pI p 5 O) a n b
def GF:Nat->List AG->Nat
 |0,a=>J a
 |d+1,a=>J a+(a.map λs=>GF d s.b+GF d s.e).sum
def KK(d:Nat)(a:List AG)(k:Nat):Nat:=J a+((a.take k).map λs=>GF d s.b+GF d s.e).sum
theorem n5(d)(a){k}(h:J a<=k):KK d a k=GF (d+1) a:=by unfold KK;rw[Dq h,GF]
theorem hR{d}{ss}{k}(h:k<J ss):KK d ss (k+1)=KK d ss k+(GF d (ss.getD k K).b+GF d (ss.getD k K).e):=by
 unfold KK;rw[ND ss k h,List.map_append,List.sum_append,DU h];simp;omega
theorem ad7:∀d a,GF d a<=Ah a:=by
 intro d;induction d with
 |zero=>intro a;exact Km a
 | succ d f =>
  intro a;induction a with
  |nil=>simp[GF]
  | cons s r c =>
   have g:=f s.b;have j:=f s.e;have h:=rN s;simp only[GF,Fa,List.sum_cons,BK,Ah]at c ⊢
   have i:Ah s.b+Ah s.e<=CS s:=by
    rcases s with⟨_,_,_,_,_,b,e⟩
    simp only[CS,AG.b,AG.e];omega
   omega
theorem fO{d}{ss}{k}:KK d ss k<=Ah ss:=by
 refine DO ?_ (ad7 (d+1) ss);unfold KK;rw[GF]
 have:∀(l:List Nat) (k:Nat),(l.take k).sum<=l.sum:=λl k=>by
  have:=List.sum_append (l₁:=l.take k) (l₂:=l.drop k);rw[List.take_append_drop]at this;omega
 have h:=this (ss.map λs=>GF d s.b+GF d s.e) k
 rw[<-List.map_take]at h;omega
theorem ta{a}{k c}(h:Ah a<=c)(d:k<J a):Ah (a.getD k K).b<=c/\Ah (a.getD k K).e<=c:=by
 rw[DU d];have f:=Lg (EL d);have g:=rN a[k];omega
theorem x5(b)(n)(g:n=1)(f:Ah b<=1000000000000000000):AN.ok prog (CJ 144 [.N 0,A n] [.G (.M b)] (A (GF 0 b))):=by
 have d:Y (n>1)=false:=CY;refine BP 39 func144 [AE b] [(0,.N 0),(1,A n)] λG=>?_;refine B (AQ G AB [(4,A 0)] λG=>B (AQ G AB [(5,A (J b:Int))] λG=>B (B (BS G AB [(0,.N 0),(1,A n),(4,A 0),(5,A (J b:Int)),(6,A 0)] λG=>BN ?_))));refine DR (h:=Nat) (λk=>k=0) (λk=>0) (λk=>[AE b]) (λk=>[(0,.N 0),(1,A n),(4,A 0),(5,A (J b:Nat)),(6,A k)]) 0 Au (Ap.at G _ _) ?_;clear G;intro k i a w h G;replace G:=Ap.at G [AE b] [(0,.N 0),(1,A n),(4,A 0),(5,A (J b:Int)),(6,A k)];refine B (B ?_);cases c:(Y ((k:Int)<J b))
 ·have e:=EB c;refine AQ G (CR (AS c Ag) [(5,0),(6,0),(1007,0)]) [(16,AC U)] λG=>Bo G U Au (wp_exit (Bd (Bd (DG (B (AQ G AB [(4,A (J b:Int))] λG=>AT ?_))))));exact Br G [0]
 have e:=EC c;refine AQ G (CR (AS c Ag) [(5,0),(6,0),(1007,0)]) [(16,AC (Y (n>1)))] λG=>Bo G (Y (n>1)) Ab (wp_exit (Bd (Bd (DG (B (AQ G AB [(4,A (J b:Int))] λG=>AT ?_))))));exact Br G [0]
theorem B9(d)(q:d<=5)(l:∀(c:List AG) (n:Int),n=(d+1:Nat)->Ah c<=1000000000000000000->AN.ok prog (CJ 144 [.N 0,A n] [.G (.M c)] (A (GF d c))))
  (c) (n:Int) (r:n=(d+2:Nat)) (h:Ah c<=1000000000000000000):AN.ok prog (CJ 144 [.N 0,A n] [.G (.M c)] (A (GF (d+1) c))):=by
 have m:Y (n>1)=true:=CY;refine BP 39 func144 [AE c] [(0,.N 0),(1,A n)] λG=>?_;refine B (AQ G AB [(4,A 0)] λG=>B (AQ G AB [(5,A (J c:Int))] λG=>B (B (BS G AB [(0,.N 0),(1,A n),(4,A 0),(5,A (J c:Int)),(6,A 0)] λG=>BN ?_))));refine DR (h:=Nat) (λk=>k<=J c) (λk=>J c-k) (λk=>[AE c]) (λk=>[(0,.N 0),(1,A n),(4,A 0),(5,A (KK d c k:Nat)),(6,A k)]) 0 O (Ap.at G _ _) ?_;clear G;intro k t a w s G;replace G:=Ap.at G [AE c] [(0,.N 0),(1,A n),(4,A 0),(5,A (↑(KK d c k):Int)),(6,A k)];have i:=Km c;refine B (B ?_);cases f:(Y ((k:Int)<J c))
 ·have p:=EB f;refine AQ G (CR (AS f Ag) [(5,0),(6,0),(1007,0)]) [(16,AC U)] λG=>Bo G U Au (wp_exit (Bd (Bd (DG (B (AQ G AB [(4,A (↑(KK d c k):Int))] λG=>AT ?_))))));exact DE ((↑(KK d c k):Int)) G [0] (by have g:=n5 d c (k:=k) O;omega)
 have p:=EC f;refine AQ G (CR (AS f Ag) [(5,0),(6,0),(1007,0)]) [(16,AC (Y (n>1)))] λG=>Ba G (Y (n>1)) Ab (Aq (B (BN (JB G (BH (AX 8 [41] (l ((c.getD k K).b) (n-1) O ((ta h O).1)) (AX 17 [113] (l ((c.getD k K).e) (n-1) O ((ta h O).2)) BG)) Ag []) [0,0,0,6,14,30,0,64,254,511,0,0,3072,7168,15360,0,32768,130558,262143,524287] [(5,A ((↑(KK d c k):Int)+(↑(GF d (c.getD k K).b):Int)+(↑(GF d (c.getD k K).e):Int)))] (CD k k (J c) ((BC (n-1))::((BC ((↑(KK d c k):Int)+(↑(GF d (c.getD k K).b):Int)))::(CD k k (J c) ((BC (n-1))::((BC ((↑(KK d c k):Int)+(↑(GF d (c.getD k K).b):Int)+(↑(GF d (c.getD k K).e):Int)))::[])))))) (CE O ⟨Hw O,⟨(by have g:=hR (d:=d) (ss:=c) (k:=k) O;have o:=fO (d:=d) (ss:=c) (k:=k+1);exact Kp O O),(CE O ⟨Hw O,⟨(by have g:=hR (d:=d) (ss:=c) (k:=k) O;have o:=fO (d:=d) (ss:=c) (k:=k+1);exact Kp O O),Ay⟩⟩)⟩⟩) λG=>BL (Bi G AB [(6,A ((k:Int)+1))] [BC ((k:Int)+1)] (BA O) λG=>?_)))));exact Ce G (k+1) O O [0] (ht:=by have j:((↑(KK d c (k+1)):Int):Int)=((↑(KK d c k):Int)+(↑(GF d (c.getD k K).b):Int)+(↑(GF d (c.getD k K).e):Int)):=(by have g:=hR (d:=d) (ss:=c) (k:=k) O;have o:=fO (d:=d) (ss:=c) (k:=k+1);omega);(first|rw[j]|simp only[j])<;>rfl)
theorem U4:∀d,d<=5->∀(a:List AG) (n:Int),n=(d+1:Nat)->Ah a<=1000000000000000000->AN.ok prog (CJ 144 [.N 0,A n] [.G (.M a)] (A (GF d a))):=by
 intro d;induction d with
 |zero=>intro _ a n c b;exact x5 a n O b
 |succ d e=>intro f a n c b;exact B9 d O (λa n c b=>e O a n c b) a n O b
theorem uW(a)(n)(c:n=5)(b:Ah a<=1000000000000000000):AN.ok prog (CJ 144 [.N 0,A n] [.G (.M a)] (A (GF 4 a))):=
 U4 4 O a n O b
theorem we{nv na}:∀d a,(∀s∈a,Ax nv na (d+1) s=V)->GF d a=CP a:=by
 intro d;induction d with
 |zero=>intro a h;rw[lT h];rfl
 | succ d i =>
  intro a;induction a with
  |nil=>intro _;rfl
  |cons s r f=>
   intro h;have g:=VC (h s EI);have m:=i s.b λx c=>Bt.1 g.1 x c
   have k:=i s.e λx c=>Bt.1 g.2 x c
   have l:=f λx c=>h x (Ep _ c)
   rw[CP,PW, <-m, <-k, <-l];simp[GF];omega
theorem pA{p}(h:Gf p.s p.r=U):BZ p=false:=by simp[BZ,h]
theorem ad2{p}(h:MG (J p.s) (J p.r) 5 p.b=U):BZ p=false:=by simp[BZ,h]
theorem M4{p}(c:Gf p.s p.r=V)(a:MG (J p.s) (J p.r) 5 p.b=V):BZ p=Y ((GF 4 p.b:Int)<=60):=by
 have d:=we (nv:=J p.s) (na:=J p.r) 4 p.b (λx e=>Bt.1 a x e)
 rw[BZ,c,a,d];simp;exact⟨λh=>by omega,λh=>by omega⟩
theorem qf(p)(n)(c:n=5):AN.ok prog (CJ 143 [Ao 0,.N 2,A n] (Be p) (AC (MG (J p.s) (J p.r) 5 p.b))):=
 AN.dup (S:=Be p) (S':=Be p) (d:=.M p.b) (i:=2) (zr p p.b n c) rfl rfl rfl (λa h=>by simp only[AA.vals,AA.val];rw[show a 3=a 2 from h]) rfl
theorem g5(p)(d:Ah p.b<=1000000000000000000):AN.ok prog (CJ 92 [Ao 0] (Be p) (AC (BZ p))):=by
  refine BP 17 func92 [W p.s,W p.r,AE p.b] [(0,Ao 0)] λG=>?_;refine B (AM G AB (AH 4) [W p.s,W p.r,AE p.b,.C (Al 0)] [(1,.P 3 0),(2,AC U)] λG=>B ?_);cases a:(Gf p.s p.r)
  · refine AM G (BH (AX 1 [0,1,2] (ex p) BG) (AS a (AS (b:=U) rfl Ag)) (Ad [(3,6,0),(1007,1007,0),(9,12,1),(1013,1013,1)])) [0,1,2] [W p.s,W p.r,AE p.b] [(2,AC U)] λG=>AT ?_;exact BU U G [0,1,2] (pA Ab)
  cases c:(MG (J p.s) (J p.r) (5:Nat) p.b)
  · refine AM G (BH (AX 1 [0,1,2] (ex p) (AX 6 [0,1,2] (qf p 5 Au) BG)) (AS a (AS c Ag)) (Ad [(3,6,0),(1007,1007,0),(9,12,1),(1013,1013,1)])) [0,1,2] [W p.s,W p.r,AE p.b] [(2,AC U)] λG=>AT ?_;exact BU U G [0,1,2] (ad2 Ab)
  refine AM G (BH (AX 1 [0,1,2] (ex p) (AX 6 [0,1,2] (qf p 5 Au) (AX 11 [2] (uW p.b 5 Au Ab) BG))) (AS a (AS c Ag)) (Ad [(3,6,0),(1007,1007,0),(9,12,1),(1013,1013,1)])) [0,1,2] [W p.s,W p.r,AE p.b] [(2,AC (Y ((↑(GF 4 p.b):Int)<=60)))] λG=>AT ?_;exact BU (Y ((↑(GF 4 p.b):Int)<=60)) G [0,1,2] (M4 Ab Ab)
theorem Zf(p)(a:Ah p.b<=1048576):AN.ok prog (CJ 92 [Ao 0] (Be p) (AC (BZ p))):=g5 p O
def EE(a b:Nat)(s:AG):Bool:=Dn s&&
    (if s.t=1\/s.t=5 then Y (0<=s.g)&&Y (s.g<a)&&CQ a b s.v
     else if s.t=2 then Y (0<=s.g)&&Y (s.g<b)&&CQ a b s.i&&Eo s.i&&CQ a b s.v
     else if s.t=3 then CQ a b s.v
     else Y (s.t=4))
theorem Lu{a c d}{s}:Ax a c (d+1) s=(EE a c s&&(s.b.all (Ax a c d)&&s.e.all (Ax a c d))):=by
 rw[GQ];constructor
 ·intro h
  have f:=VC h;rw[f.1,f.2,Bool.and_true,Bool.and_true];rw[Ax,Aj]at h;rw[EE,h.1,IG];obtain⟨-,h⟩:=h;split at h
  ·rw[AZ Ab];exact h
  split at h
  ·rw[AO Ab,AZ Ab];exact h
  split at h
  ·rw[AO Ab,AO Ab,AZ Ab]
   simp only[Aj]at h;exact h.1.1
  split at h
  ·rw[AO Ab,AO Ab,AO Ab];simp[*]
  simp at h
 intro h;simp only[Aj]at h;obtain⟨h,g,i⟩:=h;rw[EE,Aj]at h;obtain⟨j,h⟩:=h;rw[Ax,j,IG];split at h
 ·rw[AZ Ab];exact h
 split at h
 ·rw[AO Ab,AZ Ab];exact h
 split at h
 ·rw[AO Ab,AO Ab,AZ Ab,h,g,i];rfl
 rw[AO Ab,AO Ab,AO Ab,AZ (by simpa using h),g]
def FL(F:Nat->AG->Bool×Nat):Nat->List AG->Bool×Nat
 |c,[]=>(V,c)
 |c,s::r=>if(F c s).1 then FL F (F c s).2 r else F c s
def EF(a f:Nat):Nat->Nat->AG->Bool×Nat
 |0,c,_=>(U,c+1)
 | d + 1, c, s => if 60 < c + 1 then (U, c + 1) else if EE a f s then
   (if(FL (EF a f d) (c+1) s.b).1 then FL (EF a f d) (FL (EF a f d) (c+1) s.b).2 s.e else FL (EF a f d) (c+1) s.b)
   else(U,c+1)
abbrev DB(a e d c:Nat)(b:List AG):Bool×Nat:=FL (EF a e d) c b
theorem gJ(F):∀a b c,FL F c (a++b)=if(FL F c a).1 then FL F (FL F c a).2 b else FL F c a
 |[],b,c=>by simp[FL]
 |x::r,b,c=>by
  simp only[IR,FL];by_cases h:(F c x).1=V
  ·simp only[h,if_true];exact gJ F r b _
  simp[h]
theorem gZ{F}{c k}{a}(h:(FL F c (a.take k)).1=V)(b:k<J a):FL F c (a.take (k+1))=F (FL F c (a.take k)).2 (a.getD k K):=by
 rw[Gr _ _ b,gJ,AZ h,DU b];simp only[FL];split
 ·rename_i h;exact Prod.ext h.symm rfl
 rfl
theorem mp{F}{c k}{a}(h:(FL F c (a.take k)).1=V)(b:k<J a)(d:(F (FL F c (a.take k)).2 (a.getD k K)).1=U):FL F c a=F (FL F c (a.take k)).2 (a.getD k K):=by
 conv=>lhs;rw[<-List.take_append_drop (k+1) a]
 rw[gJ,gZ h b,d];rfl
theorem pT{F}{c k}{a}(b:J a<=k):FL F c (a.take k)=FL F c a:=by rw[Dq b]
theorem Yd{F}(b:∀c s,c<=60->(F c s).2<=61/\((F c s).1=V->(F c s).2<=60)):∀d c,c<=60->(FL F c d).2<=61/\((FL F c d).1=V->(FL F c d).2<=60)
 |[],c,h=>⟨by simp only[FL];omega,λ_=>by simp only[FL];omega⟩
 |s::r,c,h=>by
  simp only[FL];by_cases a:(F c s).1=V
  ·rw[AZ a];exact Yd b r _ ((b c s h).2 a)
  rw[AO a];exact b c s h
theorem YA{nv na}:∀d c s,c<=60->(EF nv na d c s).2<=61/\((EF nv na d c s).1=V->(EF nv na d c s).2<=60)
 |0,c,s,h=>by simp[EF];omega
 | d + 1, c, s, h => by
  rw[EF];by_cases i:60<c+1
  ·rw[AZ i];simp;omega
  rw[AO i];by_cases k:EE nv na s=V
  ·rw[AZ k]
   have j:=Yd (YA (nv:=nv) (na:=na) d) s.b (c+1) O;by_cases g:(FL (EF nv na d) (c+1) s.b).1=V
   ·rw[AZ g];exact Yd (YA d) s.e _ (j.2 g)
   rw[AO g];exact j
  rw[AO k];simp;omega
theorem Sd{nv na d c}{a}(h:c<=60)(f:(DB nv na d c a).1=V):(DB nv na d c a).2<=60:=(Yd (YA d) a c h).2 f
section
variable{nv na d c:Nat}{s:AG}
theorem ij(h:60<c+1):EF nv na d c s=(U,c+1):=by cases d with
 |zero=>rfl
 |succ d=>rw[EF,AZ h]
theorem Dd(h:EE nv na s=U):EF nv na d c s=(U,c+1):=by cases d with
 |zero=>rfl
 |succ d=>rw[EF,h];simp
theorem Nf(e:c+1<=60)(h:EE nv na s=V)(a:(DB nv na d (c+1) s.b).1=U):EF nv na (d+1) c s=DB nv na d (c+1) s.b:=by
 rw[EF,AO O,AZ h,AO (by simp[a])]
theorem NV(f:c+1<=60)(h:EE nv na s=V)(a:(DB nv na d (c+1) s.b).1=V):EF nv na (d+1) c s=DB nv na d (DB nv na d (c+1) s.b).2 s.e:=by
 rw[EF,AO O,AZ h,AZ a]
end
theorem ZD{a b d}(k:∀c s,c<=60->((EF a b d c s).1=(Ax a b d s&&Y (c+Gn s<=60)))/\((EF a b d c s).1=V->(EF a b d c s).2=c+Gn s)):∀g c,c<=60->((DB a b d c g).1=(g.all (Ax a b d)&&Y (c+CP g<=60)))/\((DB a b d c g).1=V->(DB a b d c g).2=c+CP g)
 |[],c,h=>by simp[FL,CP,h]
 | s :: r, c, h => by
  obtain⟨j,p⟩:=k c s h;simp only[DB,FL];by_cases f:(EF a b d c s).1=V
  ·rw[AZ f]
   have e:=p f;have l:=(YA d c s h).2 f;obtain⟨i,n⟩:=ZD k r (EF a b d c s).2 l;rw[j,Aj]at f;constructor
   ·rw[show FL (EF a b d) (EF a b d c s).2 r=DB a b d (EF a b d c s).2 r from rfl,i,IS,f.1,IG,e,CP,Nat.add_assoc]
   intro o;rw[show FL (EF a b d) (EF a b d c s).2 r=DB a b d (EF a b d c s).2 r from rfl,n o,e,CP];omega
  rw[AO f];refine⟨?_,λh=>absurd h f⟩
  have i:=f;rw[j]at i;rw[Bool.eq_false_iff.2 f,IS,CP];cases m:Ax a b d s
  ·simp
  rw[m,IG,decide_eq_true_eq]at i;rw[IG,show Y (c+(Gn s+CP r)<=60)=U from decide_eq_false O,Bool.and_false]
theorem eu{nv na}:∀d c s,c<=60->((EF nv na d c s).1=(Ax nv na d s&&Y (c+Gn s<=60)))/\((EF nv na d c s).1=V->(EF nv na d c s).2=c+Gn s)
 |0,c,s,h=>by simp[EF,Ax]
 | d + 1, c, s, h => by
  have t:=PW s;by_cases q:60<c+1
  ·rw[ij q,show Y (c+Gn s<=60)=U from decide_eq_false O,Bool.and_false];simp
  cases j:EE nv na s
  ·rw[Dd j,Lu,j];simp
  obtain⟨i,n⟩:=ZD (eu (nv:=nv) (na:=na) d) s.b (c+1) O;rw[Lu,j,IG];cases g:(DB nv na d (c+1) s.b).1
  ·rw[Nf O j g,g]
   refine⟨?_,λh=>by simp at h⟩
   rw[g]at i;cases p:s.b.all (Ax nv na d)
   ·simp
   rw[p,IG]at i;have:=of_decide_eq_false i.symm;rw[show Y (c+Gn s<=60)=U from decide_eq_false O,Bool.and_false]
  rw[NV O j g];have e:=n g;have l:=Sd (nv:=nv) (na:=na) (d:=d) (c:=c+1) O g;obtain⟨k,r⟩:=ZD (eu (nv:=nv) (na:=na) d) s.e _ l;rw[g]at i;have m:=i.symm;rw[Aj]at m;rw[m.1,IG,k,e];refine⟨by rw[show c+1+CP s.b+CP s.e=c+Gn s by omega],λh=>?_⟩
  have o:(DB nv na d (DB nv na d (c+1) s.b).2 s.e).1=true:=by rw[k,e];exact h
  have:=r o;rw[e]at this;rw[this];omega
theorem R6{p}(h:Gf p.s p.r=V):(DB (J p.s) (J p.r) 5 0 p.b).1=BZ p:=by
 rw[(ZD (eu 5) p.b 0 O).1,BZ,h,IG,MG];simp
theorem yl(p)(s)(c:Nat)(h:c<=60)(n)(g:n=6):AN.ok prog ⟨162,[Ao 0,Fw s 4,A n,.P 3 0],Be p++[.C [A c]]++ID s,Be p++[.C [A (EF (J p.s) (J p.r) 0 c s).2]]++ID s,AC U⟩:=by
 have d:Y (n>5)=true:=CY;refine BP 149 func162 [W p.s,W p.r,AE p.b,.C [A c],AP s.i.k,AP s.v.k,AE s.b,AE s.e] [(0,Ao 0),(1,Fw s 4),(2,A n),(3,.P 3 0)] λG=>?_;refine B (AM G AB [0,1,2,3,4,5,6,7,8,16] [W p.s,W p.r,AE p.b,.C [A c],AP s.i.k,AP s.v.k,AE s.b,AE s.e,.C (Al 0),.C (Ct s 4)] [(2,A n),(3,.P 3 0),(4,.P 8 0),(5,.P 9 0),(8,AC U)] λG=>B (CT G AB (AH 10) [W p.s,W p.r,AE p.b,.C [A ((c:Int)+1)],AP s.i.k,AP s.v.k,AE s.b,AE s.e,.C (Al 0),.C (Ct s 4)] [(2,A n),(3,.P 3 0),(4,.P 8 0),(5,.P 9 0),(8,AC U)] [BC ((c:Int)+1)] (BA O) λG=>B (B ?_)));cases a:(Y ((c:Int)+1>60))
 ·have f:=EB a;refine AQ G (CR (AS a Ag) [(5,0),(6,0),(1007,0)]) [(27,AC (Y (n>5)))] λG=>Ba G (Y (n>5)) Ab (B (AQ G AB [] λG=>AT (Ar ?_)));exact Br G (AH 8)
 have f:=EC a;refine AQ G (CR (AS a Ag) [(5,0),(6,0),(1007,0)]) [(27,AC V)] λG=>Ba G V Au (B (AQ G AB [] λG=>AT (Ar ?_)));exact Br G (AH 8)
abbrev mA(p:BE)(d c:Nat)(s:AG)(n:Int):AN:=⟨162,[Ao 0,Fw s 4,A n,.P 3 0],Be p++[.C [A c]]++ID s,Be p++[.C [A (EF (J p.s) (J p.r) d c s).2]]++ID s,AC (EF (J p.s) (J p.r) d c s).1⟩
abbrev du(p:BE)(d c:Nat)(a:List AG)(n:Int):AN:=⟨102,[Ao 0,.N 4,A n,.P 3 0],Be p++[.C [A c]]++[.G (.M a)],Be p++[.C [A (DB (J p.s) (J p.r) d c a).2]]++[.G (.M a)],AC (DB (J p.s) (J p.r) d c a).1⟩
theorem rV(p)(d:Nat)(x:d<=5)(q:∀s c n,c<=60->n=6-(d:Int)->AN.ok prog (mA p d c s n))
    (f) (c) (n) (u:c<=60) (y:n=6-(d:Int)):AN.ok prog (du p d c f n):=by
  refine BP 24 func102 [W p.s,W p.r,AE p.b,.C [A c],AE f] [(0,Ao 0),(1,.N 4),(2,A n),(3,.P 3 0)] λG=>?_;refine B (AM G AB (AH 6) [W p.s,W p.r,AE p.b,.C [A c],AE f,.C (Al 0)] [(1,.N 4),(2,A n),(3,.P 3 0),(4,.P 5 0),(8,AC U)] λG=>B (B (BS G AB [(2,A n),(3,.P 3 0),(4,.P 5 0),(8,AC U),(11,.N 4),(12,A (J f:Int)),(13,A 0)] λG=>BN ?_)));have l:J f<=9223372036854775807:=G.len 4 (d:=.M f) Au;refine DR (h:=Nat) (λk=>k<=J f/\(DB (J p.s) (J p.r) d c (f.take k)).1=V) (λk=>J f-k) (λk=>[W p.s,W p.r,AE p.b,.C [A (DB (J p.s) (J p.r) d c (f.take k)).2],AE f,.C (Al 0)]) (λk=>[(2,A n),(3,.P 3 0),(4,.P 5 0),(8,AC U),(11,.N 4),(12,A (J f:Int)),(13,A k)]) 0 (by simp[DB,FL];done) (Ap.at G _ _) ?_;clear G;intro k z a w h G;replace G:=Ap.at G [W p.s,W p.r,AE p.b,.C [A ((DB (J p.s) (J p.r) d c (Ae k f)).2:Int)],AE f,.C (Al 0)] [(2,A n),(3,.P 3 0),(4,.P 5 0),(8,AC U),(11,.N 4),(12,A (J f:Int)),(13,A k)];refine B (AQ G AB [(14,AC (Y ((k:Int)<J f)))] λG=>B (DZ G (λt m=>?_) λt m=>?_))
  · refine wp_exit (Bd (Bd (DG (B (AM G AB (AH 5) [W p.s,W p.r,AE p.b,.C [A ((DB (J p.s) (J p.r) d c (Ae k f)).2:Int)],AE f] [(8,AC V)] λG=>AT ?_)))));exact BU V G (AH 5) (by rw[DB, <-pT (k:=k) O];exact h.2) (by show _=BM (AH 5) [W p.s,W p.r,AE p.b,.C [A ((DB (J p.s) (J p.r) d c f).2:Int)],AE f];have g:(((DB (J p.s) (J p.r) d c f).2:Int):Int)=(((DB (J p.s) (J p.r) d c (Ae k f)).2:Int)):=(by rw[DB, <-pT (k:=k) O]);(first|rw[g]|simp only[g])<;>rfl)
  refine Aq (B (BN (B (CT G AB [0,1,2,3,4,5,14,15,16,17,22] [W p.s,W p.r,AE p.b,.C [A ((DB (J p.s) (J p.r) d c (Ae k f)).2:Int)],AE f,.C (Al 0),AP (f.getD k K).i.k,AP (f.getD k K).v.k,AE (f.getD k K).b,AE (f.getD k K).e,.C (Ct (f.getD k K) 6)] [(2,A n),(3,.P 3 0),(4,.P 5 0),(8,AC U),(10,.P 10 0),(11,.N 4),(12,A (J f:Int)),(13,A k)] (CD k k (J f) []) (CE O Ay) λG=>B (AM G (Ai 4 [0,1,2,3,6,7,8,9] (q (f.getD k K) ((DB (J p.s) (J p.r) d c (Ae k f)).2) n (Sd O h.2) Ab)) (AH 6) [W p.s,W p.r,AE p.b,.C [A ((EF (J p.s) (J p.r) d (DB (J p.s) (J p.r) d c (Ae k f)).2 (f.getD k K)).2:Int)],AE f,.C (Al 0)] [(2,A n),(3,.P 3 0),(4,.P 5 0),(8,AC U),(11,.N 4),(12,A (J f:Int)),(13,A k),(22,.v (.bool !(EF (J p.s) (J p.r) d (DB (J p.s) (J p.r) d c (Ae k f)).2 (f.getD k K)).1))] λG=>?_)))));cases j:(!(EF (J p.s) (J p.r) d (DB (J p.s) (J p.r) d c (Ae k f)).2 (f.getD k K)).1)
  · have o:((EF (J p.s) (J p.r) d (DB (J p.s) (J p.r) d c (Ae k f)).2 (f.getD k K)).1)=true:=(Eq.mp (Cp _) j);refine Bo G _ j (Aq (BL (Bi G AB [(13,A ((k:Int)+1))] [BC ((k:Int)+1)] (BA O) λG=>?_)));exact Ce G (k+1) (⟨O,by rw[DB,gZ h.2 O];assumption⟩) O (AH 6) (by have g:(((DB (J p.s) (J p.r) d c (Ae (k+1) f)).2:Int):Int)=(((EF (J p.s) (J p.r) d (DB (J p.s) (J p.r) d c (Ae k f)).2 (f.getD k K)).2:Int)):=(by rw[DB,gZ h.2 O]);(first|rw[g]|simp only[g])<;>rfl)
  have o:((EF (J p.s) (J p.r) d (DB (J p.s) (J p.r) d c (Ae k f)).2 (f.getD k K)).1)=false:=(Eq.mp (Cn _) j);refine Ba G _ j (B (AQ G AB [] λG=>AT (Cg (Ar (Ar (Cg (Ar ?_)))))));exact BU U G (AH 5) (by rw[DB,mp h.2 O Ab];assumption) (by show _=BM (AH 5) [W p.s,W p.r,AE p.b,.C [A ((DB (J p.s) (J p.r) d c f).2:Int)],AE f];have g:(((DB (J p.s) (J p.r) d c f).2:Int):Int)=(((EF (J p.s) (J p.r) d (DB (J p.s) (J p.r) d c (Ae k f)).2 (f.getD k K)).2:Int)):=(by rw[DB,mp h.2 O Ab]);(first|rw[g]|simp only[g])<;>rfl)
section
variable{nv na:Nat}{s:AG}
theorem FC(k:s.t=1\/s.t=5):EE nv na s=(Y (0<=s.g/\s.g<nv/\(J s.b)=0/\(J s.e)=0/\s.count=0)&&(Dy s.i&&CQ nv na s.v)):=by
 rw[EE,Dn,AZ k,AO O,show Y (s.t=2)=U from decide_eq_false O,GQ];simp only[Aj,decide_eq_true_eq,Bool.false_or];constructor
 ·rintro⟨⟨⟨⟨a,b⟩,c⟩,d⟩,⟨e,f⟩,g⟩;exact⟨⟨e,f,a,b,c⟩,d,g⟩
 rintro⟨⟨e,f,a,b,c⟩,d,g⟩;exact⟨⟨⟨⟨a,b⟩,c⟩,d⟩,⟨e,f⟩,g⟩
theorem Hq(k:s.t=2):EE nv na s=(Y (0<=s.g/\s.g<na/\(J s.b)=0/\(J s.e)=0/\s.count=0)&&(CQ nv na s.i&&(Eo s.i&&CQ nv na s.v))):=by
 rw[EE,Dn,AO O,AZ k,AO O,show Y (s.t=2)=V from decide_eq_true k,GQ];simp only[Aj,decide_eq_true_eq,Bool.true_or];constructor
 ·rintro⟨⟨⟨⟨a,b⟩,c⟩,-⟩,⟨⟨⟨e,f⟩,i⟩,j⟩,g⟩;exact⟨⟨e,f,a,b,c⟩,i,j,g⟩
 rintro⟨⟨e,f,a,b,c⟩,i,j,g⟩;exact⟨⟨⟨⟨a,b⟩,c⟩,Ay⟩,⟨⟨⟨e,f⟩,i⟩,j⟩,g⟩
theorem LM(k:s.t=3):EE nv na s=(Y (s.g=0/\s.count=0)&&(Dy s.i&&CQ nv na s.v)):=by
 rw[EE,Dn,AZ (show s.t=3\/s.t=4 from .inl k),AO (show ¬s.t=4 by omega),AO O,AO O,AZ k,GQ]
 simp only[Aj,decide_eq_true_eq];constructor
 ·rintro⟨⟨a,b,c⟩,d⟩;exact⟨⟨a,b⟩,c,d⟩
 rintro⟨⟨a,b⟩,c,d⟩;exact⟨⟨a,b,c⟩,d⟩
theorem KV(k:s.t=4):EE nv na s=(Y (s.g=0/\(J s.e)=0/\1<=s.count/\s.count<=3)&&(Dy s.i&&Dy s.v)):=by
 rw[EE,Dn,AZ (show s.t=3\/s.t=4 from .inr k),AZ k,AO O,AO O,AO O,show Y (s.t=4)=V from decide_eq_true k,GQ];simp only[Aj,decide_eq_true_eq];constructor
 ·rintro⟨⟨a,⟨⟨⟨b,c⟩,d⟩,e⟩,f⟩,-⟩;exact⟨⟨a,b,c,d⟩,e,f⟩
 rintro⟨⟨a,b,c,d⟩,e,f⟩;exact⟨⟨a,⟨⟨⟨b,c⟩,d⟩,e⟩,f⟩,Ay⟩
theorem IK(k:¬s.t=1/\¬s.t=2/\¬s.t=3/\¬s.t=4/\¬s.t=5):EE nv na s=false:=by
 rw[EE,AO O,AO O,AO O,show Y (s.t=4)=U from decide_eq_false O,Bool.and_false]
theorem KP{p:Prop}[Decidable p]{a b}(e:p)(d:a=V)(c:b=V):(decide p&&(a&&b))=true:=by rw[d,c,decide_eq_true e];rfl
theorem cw{p:Prop}[Decidable p]{a b c}(e:p)(f:a=V)(d:b=V)(g:c=V):(decide p&&(a&&(b&&c)))=true:=by rw[f,d,g,decide_eq_true e];rfl
end
abbrev OP(p:BE)(d:Nat)(s:AG)(c:Nat):=DB (J p.s) (J p.r) d (DB (J p.s) (J p.r) d (c+1) s.b).2 s.e
abbrev Nr(p:BE)(d:Nat)(s:AG)(c:Nat):=DB (J p.s) (J p.r) d (c+1) s.b
abbrev Ca(p:BE)(d:Nat)(s:AG)(c:Nat):List AI:=[W p.s,W p.r,AE p.b,.C [A ((EF (J p.s) (J p.r) (d+1) c s).2:Int)],AP s.i.k,AP s.v.k,AE s.b,AE s.e]
abbrev ML(s:AG)(a:List AI):List AI:=AP s.i.k::AP s.v.k::AE s.b::AE s.e::a
abbrev Lr(p:BE)(a:List AI):List AI:=W p.s::W p.r::AE p.b::a
theorem zX(p)(d:Nat)(hd:d<=4)(f:∀ss c n,c<=60->n=6-(d:Int)->AN.ok prog (du p d c ss n))
    (s) (c) (n) (hc:c<=60) (hn:n=5-(d:Int)):AN.ok prog (mA p (d+1) c s n):=by
  have bG:Y (n>5)=false:=CY;refine BP 149 func162 (Lr p (.C [A c]::(ML s []))) [(0,Ao 0),(1,Fw s 4),(2,A n),(3,.P 3 0)] λG=>?_;have bI:J p.s<=9223372036854775807:=G.len 0 (d:=.C p.s) Au;have bH:J p.r<=9223372036854775807:=G.len 1 (d:=.C p.r) Au;refine B (AM G AB [0,1,2,3,4,5,6,7,8,16] (Lr p (.C [A c]::(ML s [.C (Al 0),.C (Ct s 4)]))) [(2,A n),(3,.P 3 0),(4,.P 8 0),(5,.P 9 0),(8,AC U)] λG=>B (CT G AB (AH 10) (Lr p (.C [A ((c:Int)+1)]::(ML s [.C (Al 0),.C (Ct s 4)]))) [(2,A n),(3,.P 3 0),(4,.P 8 0),(5,.P 9 0),(8,AC U)] [BC ((c:Int)+1)] (BA O) λG=>B (B ?_)));cases h0:(Y ((c:Int)+1>60))
  ·
   have q0:=EB h0;refine AQ G (CR (AS h0 Ag) [(5,0),(6,0),(1007,0)]) [(27,AC (Y (n>5)))] λG=>Bo G (Y (n>5)) Ab (Aq (B (AQ G AB [(9,A 1),(10,AC U),(11,AC V),(12,AC U),(13,AC U),(14,AC U)] λG=>B (B (AQ G AB [(29,A s.t)] λG=>BN (B (B (AQ G AB [(30,AC (s.t==1))] λG=>Cu G (λh1 q1=>?_) λh1 q1=>?_))))))))
   ·
    refine AQ G AB [(30,AC (s.t==5))] λG=>Cu G (λh2 q2=>?_) λh2 q2=>?_
    ·
     refine B (AQ G AB [(36,AC (s.t==2))] λG=>Cu G (λh3 q3=>?_) λh3 q3=>?_)
     ·
      refine B (AQ G AB [(41,AC (s.t==3))] λG=>Cu G (λh4 q4=>?_) λh4 q4=>?_)
      ·
       refine B (AQ G AB [(43,AC (s.t==4))] λG=>Cu G (λh5 q5=>?_) λh5 q5=>?_)
       · refine B (AQ G AB [] λG=>AT (Cg (Ar ?_)));exact BU U G (AH 8) (by rw[Dd (IK O)];done) (by show _=BM (AH 8) (Ca p d s c);unfold Ca;rw[Dd (IK O)]<;>rfl)
       refine AQ G AB [(11,AC U),(12,AC V),(13,AC V)] λG=>BL (B (B ?_));cases h6:(!(Y ((0:Int)<=s.g)&&Y (s.g<=0)))
       ·
        have q6:(0<=s.g)/\(s.g<=0):=(λa=>And.imp (λa=>of_decide_eq_true a) (λa=>of_decide_eq_true a) (Gy.1 a)) (Eq.mp (Cp _) h6);cases h7:(!(Y ((1:Int)<=s.count)&&Y (s.count<=3)))
        ·
         have q7:(1<=s.count)/\(s.count<=3):=(λa=>And.imp (λa=>of_decide_eq_true a) (λa=>of_decide_eq_true a) (Gy.1 a)) (Eq.mp (Cp _) h7);refine Bi G (BH (AX 4 [] (Ih s.g 0 0) (AX 11 [] (Ih s.count 1 3) BG)) (AS h6 (AS (b:=V) rfl (AS h7 (AS (b:=U) rfl Ag)))) (Ad [(7,8,0),(9,12,1),(13,13,0),(1013,1013,1),(1014,1014,0),(16,18,2),(19,21,3),(22,22,2),(1022,1022,3),(1023,1023,2),(25,32,3),(1032,1033,3),(35,37,3),(38,41,1),(42,42,3),(1042,1042,1),(1043,1043,3)])) [(88,AC (Y ((J s.e:Int)>0)))] [IntKind.i64.wrap ((1:Int)-1)=1-1] ⟨Au,Ay⟩ λG=>DZ G (λh8 q8=>?_) λh8 q8=>?_
         ·
          refine Aq (B (B ?_));cases h9:(!Dy s.i)
          ·
           have q9:(Dy s.i)=true:=(Eq.mp (Cp _) h9);refine AQ G (BH (AX 20 [4] (Mb s.i) (AX 40 [5] (Mb s.v) BG)) (AS (b:=U) rfl (AS (b:=V) rfl (AS h9 Ag))) (Ad [(2,7,0),(12,12,0),(1013,1013,0),(15,17,0),(18,21,1),(22,22,0),(1022,1022,1),(1023,1023,0),(25,26,2),(27,31,0),(32,32,2),(1032,1032,0),(1033,1033,2),(35,37,0),(38,41,1),(42,42,0),(1042,1042,1),(1043,1043,0)])) [(132,.v (.bool !Dy s.v))] λG=>?_;cases aB:(!Dy s.v)
           ·
            have aN:(Dy s.v)=true:=(Eq.mp (Cp _) aB);refine Bo G _ aB (Aq (B ?_));cases aS:((DB (J p.s) (J p.r) d (c+(1:Nat)) s.b).1)
            · refine CT G (BH (AX 6 [0,1,2,3,6] (f s.b (c+1) (n+1) CY O) BG) (AS aS Ag) (Ad [(8,14,0),(1015,1015,0)])) (AH 8) (Lr p (.C [A ((Nr p d s c).2:Int)]::(ML s []))) [(8,AC U)] [BC (n+1)] (BA O) λG=>AT ?_;exact BU U G (AH 8) (by rw[Nf O (by(rw[KV O];exact KP O Ab Ab)) Ab];assumption) (by show _=BM (AH 8) (Ca p d s c);unfold Ca;rw[Nf O (by(rw[KV O];exact KP O Ab Ab)) Ab]<;>rfl)
            refine CT G (BH (AX 6 [0,1,2,3,6] (f s.b (c+1) (n+1) CY O) (AX 14 [0,1,2,3,7] (f s.e ((Nr p d s c).2) (n+1) (Sd O Ab) O) BG)) (AS aS Ag) (Ad [(8,14,0),(1015,1015,0)])) (AH 8) (Lr p (.C [A ((OP p d s c).2:Int)]::(ML s []))) [(8,AC (OP p d s c).1)] [BC (n+1),BC (n+1)] (Co O) λG=>AT ?_;exact BU ((DB (J p.s) (J p.r) d (DB (J p.s) (J p.r) d (c+1) s.b).2 s.e).1) G (AH 8) (by rw[NV O (by(rw[KV O];exact KP O Ab Ab)) Ab];done) (by show _=BM (AH 8) (Ca p d s c);unfold Ca;rw[NV O (by(rw[KV O];exact KP O Ab Ab)) Ab]<;>rfl)
           have aN:(Dy s.v)=false:=(Eq.mp (Cn _) aB);refine Ba G _ aB (B (AQ G AB [] λG=>AT (Ar ?_)));exact BU U G (AH 8) (by rw[Dd (by(rw[KV O];simp[q7,q9,aN];done))];done) (by show _=BM (AH 8) (Ca p d s c);unfold Ca;rw[Dd (by(rw[KV O];simp[q7,q9,aN];done))]<;>rfl)
          have q9:(Dy s.i)=false:=(Eq.mp (Cn _) h9);refine AQ G (BH (AX 20 [4] (Mb s.i) BG) (AS (b:=U) rfl (AS (b:=V) rfl (AS h9 Ag))) (Ad [(2,7,0),(12,12,0),(1013,1013,0),(15,17,0),(18,21,1),(22,22,0),(1022,1022,1),(1023,1023,0),(25,26,2),(32,32,2),(1033,1033,2),(35,37,1),(42,42,1),(1043,1043,1)])) [(132,AC V)] λG=>Ba G V Au (B (AQ G AB [] λG=>AT (Ar ?_)));exact BU U G (AH 8) (by rw[Dd (by(rw[KV O];simp[q7,q9];done))];done) (by show _=BM (AH 8) (Ca p d s c);unfold Ca;rw[Dd (by(rw[KV O];simp[q7,q9];done))]<;>rfl)
         refine B (AQ G AB [] λG=>AT (Ar ?_));exact BU U G (AH 8) (by rw[Dd (by(rw[KV O,decide_eq_false O];rfl))];done) (by show _=BM (AH 8) (Ca p d s c);unfold Ca;rw[Dd (by(rw[KV O,decide_eq_false O];rfl))]<;>rfl)
        have q7:(¬(1<=s.count))\/(¬(s.count<=3)):=(λa=>Or.imp (λa=>of_decide_eq_false a) (λa=>of_decide_eq_false a) (HW.1 a)) (Eq.mp (Cn _) h7);refine Bi G (BH (AX 4 [] (Ih s.g 0 0) (AX 11 [] (Ih s.count 1 3) BG)) (AS h6 (AS (b:=V) rfl (AS h7 Ag))) (Ad [(7,8,0),(9,12,1),(13,13,0),(1013,1013,1),(1014,1014,0),(16,18,2),(22,22,2),(1023,1023,2),(25,27,1),(32,32,1),(1033,1033,1),(35,37,1),(42,42,1),(1043,1043,1)])) [(88,AC V)] [IntKind.i64.wrap ((1:Int)-1)=1-1] ⟨Au,Ay⟩ λG=>Ba G V Au (B (AQ G AB [] λG=>AT (Ar ?_)));exact BU U G (AH 8) (by rw[Dd (by(rw[KV O,decide_eq_false O];rfl))];done) (by show _=BM (AH 8) (Ca p d s c);unfold Ca;rw[Dd (by(rw[KV O,decide_eq_false O];rfl))]<;>rfl)
       have q6:(¬(0<=s.g))\/(¬(s.g<=0)):=(λa=>Or.imp (λa=>of_decide_eq_false a) (λa=>of_decide_eq_false a) (HW.1 a)) (Eq.mp (Cn _) h6);refine Bi G (BH (AX 4 [] (Ih s.g 0 0) BG) (AS h6 (AS (b:=V) rfl Ag)) [(7,0),(8,0),(13,0),(1014,0),(16,1),(17,1),(18,1),(22,1),(1023,1),(25,1),(26,1),(27,1),(32,1),(1033,1),(35,1),(36,1),(37,1),(42,1),(1043,1)]) [(88,AC V)] [IntKind.i64.wrap ((1:Int)-1)=1-1] ⟨Au,Ay⟩ λG=>Ba G V Au (B (AQ G AB [] λG=>AT (Ar ?_)));exact BU U G (AH 8) (by rw[Dd (by(rw[KV O,decide_eq_false O];rfl))];done) (by show _=BM (AH 8) (Ca p d s c);unfold Ca;rw[Dd (by(rw[KV O,decide_eq_false O];rfl))]<;>rfl)
      refine AQ G AB [(13,AC V),(14,AC V)] λG=>BL (B (B ?_));cases F:(!(Y ((0:Int)<=s.g)&&Y (s.g<=0)))
      ·
       have bF:(0<=s.g)/\(s.g<=0):=(λa=>And.imp (λa=>of_decide_eq_true a) (λa=>of_decide_eq_true a) (Gy.1 a)) (Eq.mp (Cp _) F);cases aF:(s.count !=0)
       ·
        have w:=bne_eq_false_iff_eq.1 aF;refine Bi G (BH (AX 4 [] (Ih s.g 0 0) BG) (AS F (AS (b:=U) rfl (AS (b:=V) rfl (AS aF Ag)))) (Ad [(7,8,0),(9,12,1),(13,13,0),(1013,1013,1),(1014,1014,0),(16,18,1),(19,21,2),(22,22,1),(1022,1022,2),(1023,1023,1),(25,27,3),(28,31,1),(32,32,3),(1032,1032,1),(1033,1033,3),(35,42,1),(1042,1043,1)])) [(88,AC U)] [IntKind.i64.wrap ((1:Int)-1)=1-1] ⟨Au,Ay⟩ λG=>Bo G U Au (Aq (B (B ?_)));cases y:(!Dy s.i)
        ·
         have N:(Dy s.i)=true:=(Eq.mp (Cp _) y);cases X:(!CQ (J p.s) (J p.r) s.v)
         ·
          have aJ:(CQ (J p.s) (J p.r) s.v)=true:=(Eq.mp (Cp _) X);refine AQ G (BH (AX 20 [4] (Mb s.i) (AX 30 [0,1,2,5] (Ms p s.v) BG)) (AS (b:=U) rfl (AS (b:=V) rfl (AS y (AS X Ag)))) (Ad [(2,7,0),(12,12,0),(1013,1013,0),(15,17,0),(18,21,1),(22,22,0),(1022,1022,1),(1023,1023,0),(25,26,2),(27,31,1),(32,32,2),(1032,1032,1),(1033,1033,2),(35,37,3),(38,41,0),(42,42,3),(1042,1042,0),(1043,1043,3)])) [(132,AC U)] λG=>Bo G U Au (Aq (B ?_));cases aO:((DB (J p.s) (J p.r) d (c+(1:Nat)) s.b).1)
          · refine CT G (BH (AX 6 [0,1,2,3,6] (f s.b (c+1) (n+1) CY O) BG) (AS aO Ag) (Ad [(8,14,0),(1015,1015,0)])) (AH 8) (Lr p (.C [A ((Nr p d s c).2:Int)]::(ML s []))) [(8,AC U)] [BC (n+1)] (BA O) λG=>AT ?_;exact BU U G (AH 8) (by rw[Nf O (by(rw[LM O];exact KP O Ab Ab)) Ab];assumption) (by show _=BM (AH 8) (Ca p d s c);unfold Ca;rw[Nf O (by(rw[LM O];exact KP O Ab Ab)) Ab]<;>rfl)
          refine CT G (BH (AX 6 [0,1,2,3,6] (f s.b (c+1) (n+1) CY O) (AX 14 [0,1,2,3,7] (f s.e ((Nr p d s c).2) (n+1) (Sd O Ab) O) BG)) (AS aO Ag) (Ad [(8,14,0),(1015,1015,0)])) (AH 8) (Lr p (.C [A ((OP p d s c).2:Int)]::(ML s []))) [(8,AC (OP p d s c).1)] [BC (n+1),BC (n+1)] (Co O) λG=>AT ?_;exact BU ((DB (J p.s) (J p.r) d (DB (J p.s) (J p.r) d (c+1) s.b).2 s.e).1) G (AH 8) (by rw[NV O (by(rw[LM O];exact KP O Ab Ab)) Ab];done) (by show _=BM (AH 8) (Ca p d s c);unfold Ca;rw[NV O (by(rw[LM O];exact KP O Ab Ab)) Ab]<;>rfl)
         have aJ:(CQ (J p.s) (J p.r) s.v)=false:=(Eq.mp (Cn _) X);refine AQ G (BH (AX 20 [4] (Mb s.i) (AX 30 [0,1,2,5] (Ms p s.v) BG)) (AS (b:=U) rfl (AS (b:=V) rfl (AS y (AS X Ag)))) (Ad [(2,7,0),(12,12,0),(1013,1013,0),(15,17,0),(18,21,1),(22,22,0),(1022,1022,1),(1023,1023,0),(25,26,2),(27,31,1),(32,32,2),(1032,1032,1),(1033,1033,2),(35,37,3),(42,42,3),(1043,1043,3)])) [(132,AC V)] λG=>Ba G V Au (B (AQ G AB [] λG=>AT (Ar ?_)));exact BU U G (AH 8) (by rw[Dd (by(rw[LM O];simp[w,N,aJ];done))];done) (by show _=BM (AH 8) (Ca p d s c);unfold Ca;rw[Dd (by(rw[LM O];simp[w,N,aJ];done))]<;>rfl)
        have N:(Dy s.i)=false:=(Eq.mp (Cn _) y);refine AQ G (BH (AX 20 [4] (Mb s.i) BG) (AS (b:=U) rfl (AS (b:=V) rfl (AS y Ag))) (Ad [(2,7,0),(12,12,0),(1013,1013,0),(15,17,0),(18,21,1),(22,22,0),(1022,1022,1),(1023,1023,0),(25,26,2),(32,32,2),(1033,1033,2),(35,37,1),(42,42,1),(1043,1043,1)])) [(132,AC V)] λG=>Ba G V Au (B (AQ G AB [] λG=>AT (Ar ?_)));exact BU U G (AH 8) (by rw[Dd (by(rw[LM O];simp[w,N];done))];done) (by show _=BM (AH 8) (Ca p d s c);unfold Ca;rw[Dd (by(rw[LM O];simp[w,N];done))]<;>rfl)
       have w:=bne_iff_ne.1 aF;refine Bi G (BH (AX 4 [] (Ih s.g 0 0) BG) (AS F (AS (b:=U) rfl (AS (b:=V) rfl (AS aF Ag)))) (Ad [(7,8,0),(9,12,1),(13,13,0),(1013,1013,1),(1014,1014,0),(16,18,1),(19,21,2),(22,22,1),(1022,1022,2),(1023,1023,1),(25,27,3),(32,32,3),(1033,1033,3),(35,37,2),(42,42,2),(1043,1043,2)])) [(88,AC V)] [IntKind.i64.wrap ((1:Int)-1)=1-1] ⟨Au,Ay⟩ λG=>Ba G V Au (B (AQ G AB [] λG=>AT (Ar ?_)));exact BU U G (AH 8) (by rw[Dd (by(rw[LM O,decide_eq_false O];rfl))];done) (by show _=BM (AH 8) (Ca p d s c);unfold Ca;rw[Dd (by(rw[LM O,decide_eq_false O];rfl))]<;>rfl)
      have bF:(¬(0<=s.g))\/(¬(s.g<=0)):=(λa=>Or.imp (λa=>of_decide_eq_false a) (λa=>of_decide_eq_false a) (HW.1 a)) (Eq.mp (Cn _) F);refine Bi G (BH (AX 4 [] (Ih s.g 0 0) BG) (AS F (AS (b:=V) rfl Ag)) [(7,0),(8,0),(13,0),(1014,0),(16,1),(17,1),(18,1),(22,1),(1023,1),(25,1),(26,1),(27,1),(32,1),(1033,1),(35,1),(36,1),(37,1),(42,1),(1043,1)]) [(88,AC V)] [IntKind.i64.wrap ((1:Int)-1)=1-1] ⟨Au,Ay⟩ λG=>Ba G V Au (B (AQ G AB [] λG=>AT (Ar ?_)));exact BU U G (AH 8) (by rw[Dd (by(rw[LM O,decide_eq_false O];rfl))];done) (by show _=BM (AH 8) (Ca p d s c);unfold Ca;rw[Dd (by(rw[LM O,decide_eq_false O];rfl))]<;>rfl)
     refine AQ G AB [(9,A (J p.r:Int)),(10,AC V)] λG=>BL (B (B ?_));cases o:(!(Y ((0:Int)<=s.g)&&Y (s.g<=(J p.r:Int)-1)))
     ·
      have h:(0<=s.g)/\(s.g<=(J p.r:Int)-1):=(λa=>And.imp (λa=>of_decide_eq_true a) (λa=>of_decide_eq_true a) (Gy.1 a)) (Eq.mp (Cp _) o);cases H:(s.count !=0)
      ·
       have k:=bne_eq_false_iff_eq.1 H;cases aC:(Y ((J s.b:Int)>0))
       ·
        have aY:=EB aC;refine Bi G (BH (AX 4 [] (Ih s.g 0 ((J p.r:Int)-1)) BG) (AS o (AS (b:=U) rfl (AS (b:=V) rfl (AS H (AS aC Ag))))) (Ad [(7,8,0),(9,12,1),(13,13,0),(1013,1013,1),(1014,1014,0),(16,18,1),(19,21,2),(22,22,1),(1022,1022,2),(1023,1023,1),(25,27,3),(28,31,2),(32,32,3),(1032,1032,2),(1033,1033,3),(35,37,4),(38,41,2),(42,42,4),(1042,1042,2),(1043,1043,4)])) [(88,AC (Y ((J s.e:Int)>0)))] [BC ((J p.r:Int)-1)] (BA O) λG=>DZ G (λaX aV=>?_) λaX aV=>?_
        ·
         refine Aq (B (B ?_));cases l:(!CQ (J p.s) (J p.r) s.i)
         ·
          have j:(CQ (J p.s) (J p.r) s.i)=true:=(Eq.mp (Cp _) l);cases u:(!Eo s.i)
          ·
           have z:(Eo s.i)=true:=(Eq.mp (Cp _) u);cases T:(!CQ (J p.s) (J p.r) s.v)
           ·
            have aL:(CQ (J p.s) (J p.r) s.v)=true:=(Eq.mp (Cp _) T);refine AQ G (BH (AX 5 [0,1,2,4] (Ms p s.i) (AX 10 [4] (kI s.i) (AX 30 [0,1,2,5] (Ms p s.v) BG))) (AS (b:=V) rfl (AS l (AS u (AS (b:=U) rfl (AS T Ag))))) (Ad [(2,7,0),(8,11,1),(12,12,0),(1012,1012,1),(1013,1013,0),(15,17,2),(18,21,3),(22,22,2),(1022,1022,3),(1023,1023,2),(25,26,3),(27,31,0),(32,32,3),(1032,1032,0),(1033,1033,3),(35,37,4),(38,41,3),(42,42,4),(1042,1042,3),(1043,1043,4)])) [(132,AC U)] λG=>Bo G U Au (Aq (B ?_));cases aR:((DB (J p.s) (J p.r) d (c+(1:Nat)) s.b).1)
            · refine CT G (BH (AX 6 [0,1,2,3,6] (f s.b (c+1) (n+1) CY O) BG) (AS aR Ag) (Ad [(8,14,0),(1015,1015,0)])) (AH 8) (Lr p (.C [A ((Nr p d s c).2:Int)]::(ML s []))) [(8,AC U)] [BC (n+1)] (BA O) λG=>AT ?_;exact BU U G (AH 8) (by rw[Nf O (by(rw[Hq O];exact cw O Ab Ab Ab)) Ab];assumption) (by show _=BM (AH 8) (Ca p d s c);unfold Ca;rw[Nf O (by(rw[Hq O];exact cw O Ab Ab Ab)) Ab]<;>rfl)
            refine CT G (BH (AX 6 [0,1,2,3,6] (f s.b (c+1) (n+1) CY O) (AX 14 [0,1,2,3,7] (f s.e ((Nr p d s c).2) (n+1) (Sd O Ab) O) BG)) (AS aR Ag) (Ad [(8,14,0),(1015,1015,0)])) (AH 8) (Lr p (.C [A ((OP p d s c).2:Int)]::(ML s []))) [(8,AC (OP p d s c).1)] [BC (n+1),BC (n+1)] (Co O) λG=>AT ?_;exact BU ((DB (J p.s) (J p.r) d (DB (J p.s) (J p.r) d (c+1) s.b).2 s.e).1) G (AH 8) (by rw[NV O (by(rw[Hq O];exact cw O Ab Ab Ab)) Ab];done) (by show _=BM (AH 8) (Ca p d s c);unfold Ca;rw[NV O (by(rw[Hq O];exact cw O Ab Ab Ab)) Ab]<;>rfl)
           have aL:(CQ (J p.s) (J p.r) s.v)=false:=(Eq.mp (Cn _) T);refine AQ G (BH (AX 5 [0,1,2,4] (Ms p s.i) (AX 10 [4] (kI s.i) (AX 30 [0,1,2,5] (Ms p s.v) BG))) (AS (b:=V) rfl (AS l (AS u (AS (b:=U) rfl (AS T Ag))))) (Ad [(2,7,0),(8,11,1),(12,12,0),(1012,1012,1),(1013,1013,0),(15,17,2),(18,21,3),(22,22,2),(1022,1022,3),(1023,1023,2),(25,26,3),(27,31,0),(32,32,3),(1032,1032,0),(1033,1033,3),(35,37,4),(42,42,4),(1043,1043,4)])) [(132,AC V)] λG=>Ba G V Au (B (AQ G AB [] λG=>AT (Ar ?_)));exact BU U G (AH 8) (by rw[Dd (by(rw[Hq O];simp[h,k,j,z,aL];done))];done) (by show _=BM (AH 8) (Ca p d s c);unfold Ca;rw[Dd (by(rw[Hq O];simp[h,k,j,z,aL];done))]<;>rfl)
          have z:(Eo s.i)=false:=(Eq.mp (Cn _) u);refine AQ G (BH (AX 5 [0,1,2,4] (Ms p s.i) (AX 10 [4] (kI s.i) BG)) (AS (b:=V) rfl (AS l (AS u Ag))) (Ad [(2,7,0),(8,11,1),(12,12,0),(1012,1012,1),(1013,1013,0),(15,17,2),(22,22,2),(1023,1023,2),(25,26,0),(32,32,0),(1033,1033,0),(35,37,0),(42,42,0),(1043,1043,0)])) [(132,AC V)] λG=>Ba G V Au (B (AQ G AB [] λG=>AT (Ar ?_)));exact BU U G (AH 8) (by rw[Dd (by(rw[Hq O];simp[h,k,j,z];done))];done) (by show _=BM (AH 8) (Ca p d s c);unfold Ca;rw[Dd (by(rw[Hq O];simp[h,k,j,z];done))]<;>rfl)
         have j:(CQ (J p.s) (J p.r) s.i)=false:=(Eq.mp (Cn _) l);refine AQ G (BH (AX 5 [0,1,2,4] (Ms p s.i) BG) (AS (b:=V) rfl (AS l Ag)) (Ad [(2,7,0),(8,11,1),(12,12,0),(1012,1012,1),(1013,1013,0),(15,17,0),(22,22,0),(1023,1023,0),(25,26,0),(32,32,0),(1033,1033,0),(35,37,0),(42,42,0),(1043,1043,0)])) [(132,AC V)] λG=>Ba G V Au (B (AQ G AB [] λG=>AT (Ar ?_)));exact BU U G (AH 8) (by rw[Dd (by(rw[Hq O];simp[h,k,j];done))];done) (by show _=BM (AH 8) (Ca p d s c);unfold Ca;rw[Dd (by(rw[Hq O];simp[h,k,j];done))]<;>rfl)
        refine B (AQ G AB [] λG=>AT (Ar ?_));exact BU U G (AH 8) (by rw[Dd (by(rw[Hq O,decide_eq_false O];rfl))];done) (by show _=BM (AH 8) (Ca p d s c);unfold Ca;rw[Dd (by(rw[Hq O,decide_eq_false O];rfl))]<;>rfl)
       have aY:=EC aC;refine Bi G (BH (AX 4 [] (Ih s.g 0 ((J p.r:Int)-1)) BG) (AS o (AS (b:=U) rfl (AS (b:=V) rfl (AS H (AS aC Ag))))) (Ad [(7,8,0),(9,12,1),(13,13,0),(1013,1013,1),(1014,1014,0),(16,18,1),(19,21,2),(22,22,1),(1022,1022,2),(1023,1023,1),(25,27,3),(28,31,2),(32,32,3),(1032,1032,2),(1033,1033,3),(35,37,4),(42,42,4),(1043,1043,4)])) [(88,AC V)] [BC ((J p.r:Int)-1)] (BA O) λG=>Ba G V Au (B (AQ G AB [] λG=>AT (Ar ?_)));exact BU U G (AH 8) (by rw[Dd (by(rw[Hq O,decide_eq_false O];rfl))];done) (by show _=BM (AH 8) (Ca p d s c);unfold Ca;rw[Dd (by(rw[Hq O,decide_eq_false O];rfl))]<;>rfl)
      have k:=bne_iff_ne.1 H;refine Bi G (BH (AX 4 [] (Ih s.g 0 ((J p.r:Int)-1)) BG) (AS o (AS (b:=U) rfl (AS (b:=V) rfl (AS H Ag)))) (Ad [(7,8,0),(9,12,1),(13,13,0),(1013,1013,1),(1014,1014,0),(16,18,1),(19,21,2),(22,22,1),(1022,1022,2),(1023,1023,1),(25,27,3),(32,32,3),(1033,1033,3),(35,37,2),(42,42,2),(1043,1043,2)])) [(88,AC V)] [BC ((J p.r:Int)-1)] (BA O) λG=>Ba G V Au (B (AQ G AB [] λG=>AT (Ar ?_)));exact BU U G (AH 8) (by rw[Dd (by(rw[Hq O,decide_eq_false O];rfl))];done) (by show _=BM (AH 8) (Ca p d s c);unfold Ca;rw[Dd (by(rw[Hq O,decide_eq_false O];rfl))]<;>rfl)
     have h:(¬(0<=s.g))\/(¬(s.g<=(J p.r:Int)-1)):=(λa=>Or.imp (λa=>of_decide_eq_false a) (λa=>of_decide_eq_false a) (HW.1 a)) (Eq.mp (Cn _) o);refine Bi G (BH (AX 4 [] (Ih s.g 0 ((J p.r:Int)-1)) BG) (AS o (AS (b:=V) rfl Ag)) [(7,0),(8,0),(13,0),(1014,0),(16,1),(17,1),(18,1),(22,1),(1023,1),(25,1),(26,1),(27,1),(32,1),(1033,1),(35,1),(36,1),(37,1),(42,1),(1043,1)]) [(88,AC V)] [BC ((J p.r:Int)-1)] (BA O) λG=>Ba G V Au (B (AQ G AB [] λG=>AT (Ar ?_)));exact BU U G (AH 8) (by rw[Dd (by(rw[Hq O,decide_eq_false O];rfl))];done) (by show _=BM (AH 8) (Ca p d s c);unfold Ca;rw[Dd (by(rw[Hq O,decide_eq_false O];rfl))]<;>rfl)
    refine AQ G AB [(9,A (J p.s:Int))] λG=>BL (B (B ?_));cases q:(!(Y ((0:Int)<=s.g)&&Y (s.g<=(J p.s:Int)-1)))
    ·
     have S:(0<=s.g)/\(s.g<=(J p.s:Int)-1):=(λa=>And.imp (λa=>of_decide_eq_true a) (λa=>of_decide_eq_true a) (Gy.1 a)) (Eq.mp (Cp _) q);cases C:(s.count !=0)
     ·
      have D:=bne_eq_false_iff_eq.1 C;cases aD:(Y ((J s.b:Int)>0))
      ·
       have aZ:=EB aD;refine Bi G (BH (AX 4 [] (Ih s.g 0 ((J p.s:Int)-1)) BG) (AS q (AS (b:=U) rfl (AS (b:=V) rfl (AS C (AS aD Ag))))) (Ad [(7,8,0),(9,12,1),(13,13,0),(1013,1013,1),(1014,1014,0),(16,18,1),(19,21,2),(22,22,1),(1022,1022,2),(1023,1023,1),(25,27,3),(28,31,2),(32,32,3),(1032,1032,2),(1033,1033,3),(35,37,4),(38,41,2),(42,42,4),(1042,1042,2),(1043,1043,4)])) [(88,AC (Y ((J s.e:Int)>0)))] [BC ((J p.s:Int)-1)] (BA O) λG=>DZ G (λbC bD=>?_) λbC bD=>?_
       ·
        refine Aq (B (B ?_));cases x:(!Dy s.i)
        ·
         have L:(Dy s.i)=true:=(Eq.mp (Cp _) x);cases aH:(!CQ (J p.s) (J p.r) s.v)
         ·
          have aM:(CQ (J p.s) (J p.r) s.v)=true:=(Eq.mp (Cp _) aH);refine AQ G (BH (AX 20 [4] (Mb s.i) (AX 30 [0,1,2,5] (Ms p s.v) BG)) (AS (b:=U) rfl (AS (b:=V) rfl (AS x (AS aH Ag)))) (Ad [(2,7,0),(12,12,0),(1013,1013,0),(15,17,0),(18,21,1),(22,22,0),(1022,1022,1),(1023,1023,0),(25,26,2),(27,31,1),(32,32,2),(1032,1032,1),(1033,1033,2),(35,37,3),(38,41,0),(42,42,3),(1042,1042,0),(1043,1043,3)])) [(132,AC U)] λG=>Bo G U Au (Aq (B ?_));cases aU:((DB (J p.s) (J p.r) d (c+(1:Nat)) s.b).1)
          · refine CT G (BH (AX 6 [0,1,2,3,6] (f s.b (c+1) (n+1) CY O) BG) (AS aU Ag) (Ad [(8,14,0),(1015,1015,0)])) (AH 8) (Lr p (.C [A ((Nr p d s c).2:Int)]::(ML s []))) [(8,AC U)] [BC (n+1)] (BA O) λG=>AT ?_;exact BU U G (AH 8) (by rw[Nf O (by(rw[FC O];exact KP O Ab Ab)) Ab];assumption) (by show _=BM (AH 8) (Ca p d s c);unfold Ca;rw[Nf O (by(rw[FC O];exact KP O Ab Ab)) Ab]<;>rfl)
          refine CT G (BH (AX 6 [0,1,2,3,6] (f s.b (c+1) (n+1) CY O) (AX 14 [0,1,2,3,7] (f s.e ((Nr p d s c).2) (n+1) (Sd O Ab) O) BG)) (AS aU Ag) (Ad [(8,14,0),(1015,1015,0)])) (AH 8) (Lr p (.C [A ((OP p d s c).2:Int)]::(ML s []))) [(8,AC (OP p d s c).1)] [BC (n+1),BC (n+1)] (Co O) λG=>AT ?_;exact BU ((DB (J p.s) (J p.r) d (DB (J p.s) (J p.r) d (c+1) s.b).2 s.e).1) G (AH 8) (by rw[NV O (by(rw[FC O];exact KP O Ab Ab)) Ab];done) (by show _=BM (AH 8) (Ca p d s c);unfold Ca;rw[NV O (by(rw[FC O];exact KP O Ab Ab)) Ab]<;>rfl)
         have aM:(CQ (J p.s) (J p.r) s.v)=false:=(Eq.mp (Cn _) aH);refine AQ G (BH (AX 20 [4] (Mb s.i) (AX 30 [0,1,2,5] (Ms p s.v) BG)) (AS (b:=U) rfl (AS (b:=V) rfl (AS x (AS aH Ag)))) (Ad [(2,7,0),(12,12,0),(1013,1013,0),(15,17,0),(18,21,1),(22,22,0),(1022,1022,1),(1023,1023,0),(25,26,2),(27,31,1),(32,32,2),(1032,1032,1),(1033,1033,2),(35,37,3),(42,42,3),(1043,1043,3)])) [(132,AC V)] λG=>Ba G V Au (B (AQ G AB [] λG=>AT (Ar ?_)));exact BU U G (AH 8) (by rw[Dd (by(rw[FC O];simp[S,D,L,aM];done))];done) (by show _=BM (AH 8) (Ca p d s c);unfold Ca;rw[Dd (by(rw[FC O];simp[S,D,L,aM];done))]<;>rfl)
        have L:(Dy s.i)=false:=(Eq.mp (Cn _) x);refine AQ G (BH (AX 20 [4] (Mb s.i) BG) (AS (b:=U) rfl (AS (b:=V) rfl (AS x Ag))) (Ad [(2,7,0),(12,12,0),(1013,1013,0),(15,17,0),(18,21,1),(22,22,0),(1022,1022,1),(1023,1023,0),(25,26,2),(32,32,2),(1033,1033,2),(35,37,1),(42,42,1),(1043,1043,1)])) [(132,AC V)] λG=>Ba G V Au (B (AQ G AB [] λG=>AT (Ar ?_)));exact BU U G (AH 8) (by rw[Dd (by(rw[FC O];simp[S,D,L];done))];done) (by show _=BM (AH 8) (Ca p d s c);unfold Ca;rw[Dd (by(rw[FC O];simp[S,D,L];done))]<;>rfl)
       refine B (AQ G AB [] λG=>AT (Ar ?_));exact BU U G (AH 8) (by rw[Dd (by(rw[FC O,decide_eq_false O];rfl))];done) (by show _=BM (AH 8) (Ca p d s c);unfold Ca;rw[Dd (by(rw[FC O,decide_eq_false O];rfl))]<;>rfl)
      have aZ:=EC aD;refine Bi G (BH (AX 4 [] (Ih s.g 0 ((J p.s:Int)-1)) BG) (AS q (AS (b:=U) rfl (AS (b:=V) rfl (AS C (AS aD Ag))))) (Ad [(7,8,0),(9,12,1),(13,13,0),(1013,1013,1),(1014,1014,0),(16,18,1),(19,21,2),(22,22,1),(1022,1022,2),(1023,1023,1),(25,27,3),(28,31,2),(32,32,3),(1032,1032,2),(1033,1033,3),(35,37,4),(42,42,4),(1043,1043,4)])) [(88,AC V)] [BC ((J p.s:Int)-1)] (BA O) λG=>Ba G V Au (B (AQ G AB [] λG=>AT (Ar ?_)));exact BU U G (AH 8) (by rw[Dd (by(rw[FC O,decide_eq_false O];rfl))];done) (by show _=BM (AH 8) (Ca p d s c);unfold Ca;rw[Dd (by(rw[FC O,decide_eq_false O];rfl))]<;>rfl)
     have D:=bne_iff_ne.1 C;refine Bi G (BH (AX 4 [] (Ih s.g 0 ((J p.s:Int)-1)) BG) (AS q (AS (b:=U) rfl (AS (b:=V) rfl (AS C Ag)))) (Ad [(7,8,0),(9,12,1),(13,13,0),(1013,1013,1),(1014,1014,0),(16,18,1),(19,21,2),(22,22,1),(1022,1022,2),(1023,1023,1),(25,27,3),(32,32,3),(1033,1033,3),(35,37,2),(42,42,2),(1043,1043,2)])) [(88,AC V)] [BC ((J p.s:Int)-1)] (BA O) λG=>Ba G V Au (B (AQ G AB [] λG=>AT (Ar ?_)));exact BU U G (AH 8) (by rw[Dd (by(rw[FC O,decide_eq_false O];rfl))];done) (by show _=BM (AH 8) (Ca p d s c);unfold Ca;rw[Dd (by(rw[FC O,decide_eq_false O];rfl))]<;>rfl)
    have S:(¬(0<=s.g))\/(¬(s.g<=(J p.s:Int)-1)):=(λa=>Or.imp (λa=>of_decide_eq_false a) (λa=>of_decide_eq_false a) (HW.1 a)) (Eq.mp (Cn _) q);refine Bi G (BH (AX 4 [] (Ih s.g 0 ((J p.s:Int)-1)) BG) (AS q (AS (b:=V) rfl Ag)) [(7,0),(8,0),(13,0),(1014,0),(16,1),(17,1),(18,1),(22,1),(1023,1),(25,1),(26,1),(27,1),(32,1),(1033,1),(35,1),(36,1),(37,1),(42,1),(1043,1)]) [(88,AC V)] [BC ((J p.s:Int)-1)] (BA O) λG=>Ba G V Au (B (AQ G AB [] λG=>AT (Ar ?_)));exact BU U G (AH 8) (by rw[Dd (by(rw[FC O,decide_eq_false O];rfl))];done) (by show _=BM (AH 8) (Ca p d s c);unfold Ca;rw[Dd (by(rw[FC O,decide_eq_false O];rfl))]<;>rfl)
   refine Aq (Ba G _ h1 (AQ G AB [(9,A (J p.s:Int))] λG=>BL (B (B ?_))));cases m:(!(Y ((0:Int)<=s.g)&&Y (s.g<=(J p.s:Int)-1)))
   ·
    have P:(0<=s.g)/\(s.g<=(J p.s:Int)-1):=(λa=>And.imp (λa=>of_decide_eq_true a) (λa=>of_decide_eq_true a) (Gy.1 a)) (Eq.mp (Cp _) m);cases E:(s.count !=0)
    ·
     have Q:=bne_eq_false_iff_eq.1 E;cases aE:(Y ((J s.b:Int)>0))
     ·
      have bB:=EB aE;refine Bi G (BH (AX 4 [] (Ih s.g 0 ((J p.s:Int)-1)) BG) (AS m (AS (b:=U) rfl (AS (b:=V) rfl (AS E (AS aE Ag))))) (Ad [(7,8,0),(9,12,1),(13,13,0),(1013,1013,1),(1014,1014,0),(16,18,1),(19,21,2),(22,22,1),(1022,1022,2),(1023,1023,1),(25,27,3),(28,31,2),(32,32,3),(1032,1032,2),(1033,1033,3),(35,37,4),(38,41,2),(42,42,4),(1042,1042,2),(1043,1043,4)])) [(88,AC (Y ((J s.e:Int)>0)))] [BC ((J p.s:Int)-1)] (BA O) λG=>DZ G (λbE aW=>?_) λbE aW=>?_
      ·
       refine Aq (B (B ?_));cases M:(!Dy s.i)
       ·
        have R:(Dy s.i)=true:=(Eq.mp (Cp _) M);cases aG:(!CQ (J p.s) (J p.r) s.v)
        ·
         have aI:(CQ (J p.s) (J p.r) s.v)=true:=(Eq.mp (Cp _) aG);refine AQ G (BH (AX 20 [4] (Mb s.i) (AX 30 [0,1,2,5] (Ms p s.v) BG)) (AS (b:=U) rfl (AS (b:=V) rfl (AS M (AS aG Ag)))) (Ad [(2,7,0),(12,12,0),(1013,1013,0),(15,17,0),(18,21,1),(22,22,0),(1022,1022,1),(1023,1023,0),(25,26,2),(27,31,1),(32,32,2),(1032,1032,1),(1033,1033,2),(35,37,3),(38,41,0),(42,42,3),(1042,1042,0),(1043,1043,3)])) [(132,AC U)] λG=>Bo G U Au (Aq (B ?_));cases aQ:((DB (J p.s) (J p.r) d (c+(1:Nat)) s.b).1)
         · refine CT G (BH (AX 6 [0,1,2,3,6] (f s.b (c+1) (n+1) CY O) BG) (AS aQ Ag) (Ad [(8,14,0),(1015,1015,0)])) (AH 8) (Lr p (.C [A ((Nr p d s c).2:Int)]::(ML s []))) [(8,AC U)] [BC (n+1)] (BA O) λG=>AT ?_;exact BU U G (AH 8) (by rw[Nf O (by(rw[FC O];exact KP O Ab Ab)) Ab];assumption) (by show _=BM (AH 8) (Ca p d s c);unfold Ca;rw[Nf O (by(rw[FC O];exact KP O Ab Ab)) Ab]<;>rfl)
         refine CT G (BH (AX 6 [0,1,2,3,6] (f s.b (c+1) (n+1) CY O) (AX 14 [0,1,2,3,7] (f s.e ((Nr p d s c).2) (n+1) (Sd O Ab) O) BG)) (AS aQ Ag) (Ad [(8,14,0),(1015,1015,0)])) (AH 8) (Lr p (.C [A ((OP p d s c).2:Int)]::(ML s []))) [(8,AC (OP p d s c).1)] [BC (n+1),BC (n+1)] (Co O) λG=>AT ?_;exact BU ((DB (J p.s) (J p.r) d (DB (J p.s) (J p.r) d (c+1) s.b).2 s.e).1) G (AH 8) (by rw[NV O (by(rw[FC O];exact KP O Ab Ab)) Ab];done) (by show _=BM (AH 8) (Ca p d s c);unfold Ca;rw[NV O (by(rw[FC O];exact KP O Ab Ab)) Ab]<;>rfl)
        have aI:(CQ (J p.s) (J p.r) s.v)=false:=(Eq.mp (Cn _) aG);refine AQ G (BH (AX 20 [4] (Mb s.i) (AX 30 [0,1,2,5] (Ms p s.v) BG)) (AS (b:=U) rfl (AS (b:=V) rfl (AS M (AS aG Ag)))) (Ad [(2,7,0),(12,12,0),(1013,1013,0),(15,17,0),(18,21,1),(22,22,0),(1022,1022,1),(1023,1023,0),(25,26,2),(27,31,1),(32,32,2),(1032,1032,1),(1033,1033,2),(35,37,3),(42,42,3),(1043,1043,3)])) [(132,AC V)] λG=>Ba G V Au (B (AQ G AB [] λG=>AT (Ar ?_)));exact BU U G (AH 8) (by rw[Dd (by(rw[FC O];simp[P,Q,R,aI];done))];done) (by show _=BM (AH 8) (Ca p d s c);unfold Ca;rw[Dd (by(rw[FC O];simp[P,Q,R,aI];done))]<;>rfl)
       have R:(Dy s.i)=false:=(Eq.mp (Cn _) M);refine AQ G (BH (AX 20 [4] (Mb s.i) BG) (AS (b:=U) rfl (AS (b:=V) rfl (AS M Ag))) (Ad [(2,7,0),(12,12,0),(1013,1013,0),(15,17,0),(18,21,1),(22,22,0),(1022,1022,1),(1023,1023,0),(25,26,2),(32,32,2),(1033,1033,2),(35,37,1),(42,42,1),(1043,1043,1)])) [(132,AC V)] λG=>Ba G V Au (B (AQ G AB [] λG=>AT (Ar ?_)));exact BU U G (AH 8) (by rw[Dd (by(rw[FC O];simp[P,Q,R];done))];done) (by show _=BM (AH 8) (Ca p d s c);unfold Ca;rw[Dd (by(rw[FC O];simp[P,Q,R];done))]<;>rfl)
      refine B (AQ G AB [] λG=>AT (Ar ?_));exact BU U G (AH 8) (by rw[Dd (by(rw[FC O,decide_eq_false O];rfl))];done) (by show _=BM (AH 8) (Ca p d s c);unfold Ca;rw[Dd (by(rw[FC O,decide_eq_false O];rfl))]<;>rfl)
     have bB:=EC aE;refine Bi G (BH (AX 4 [] (Ih s.g 0 ((J p.s:Int)-1)) BG) (AS m (AS (b:=U) rfl (AS (b:=V) rfl (AS E (AS aE Ag))))) (Ad [(7,8,0),(9,12,1),(13,13,0),(1013,1013,1),(1014,1014,0),(16,18,1),(19,21,2),(22,22,1),(1022,1022,2),(1023,1023,1),(25,27,3),(28,31,2),(32,32,3),(1032,1032,2),(1033,1033,3),(35,37,4),(42,42,4),(1043,1043,4)])) [(88,AC V)] [BC ((J p.s:Int)-1)] (BA O) λG=>Ba G V Au (B (AQ G AB [] λG=>AT (Ar ?_)));exact BU U G (AH 8) (by rw[Dd (by(rw[FC O,decide_eq_false O];rfl))];done) (by show _=BM (AH 8) (Ca p d s c);unfold Ca;rw[Dd (by(rw[FC O,decide_eq_false O];rfl))]<;>rfl)
    have Q:=bne_iff_ne.1 E;refine Bi G (BH (AX 4 [] (Ih s.g 0 ((J p.s:Int)-1)) BG) (AS m (AS (b:=U) rfl (AS (b:=V) rfl (AS E Ag)))) (Ad [(7,8,0),(9,12,1),(13,13,0),(1013,1013,1),(1014,1014,0),(16,18,1),(19,21,2),(22,22,1),(1022,1022,2),(1023,1023,1),(25,27,3),(32,32,3),(1033,1033,3),(35,37,2),(42,42,2),(1043,1043,2)])) [(88,AC V)] [BC ((J p.s:Int)-1)] (BA O) λG=>Ba G V Au (B (AQ G AB [] λG=>AT (Ar ?_)));exact BU U G (AH 8) (by rw[Dd (by(rw[FC O,decide_eq_false O];rfl))];done) (by show _=BM (AH 8) (Ca p d s c);unfold Ca;rw[Dd (by(rw[FC O,decide_eq_false O];rfl))]<;>rfl)
   have P:(¬(0<=s.g))\/(¬(s.g<=(J p.s:Int)-1)):=(λa=>Or.imp (λa=>of_decide_eq_false a) (λa=>of_decide_eq_false a) (HW.1 a)) (Eq.mp (Cn _) m);refine Bi G (BH (AX 4 [] (Ih s.g 0 ((J p.s:Int)-1)) BG) (AS m (AS (b:=V) rfl Ag)) [(7,0),(8,0),(13,0),(1014,0),(16,1),(17,1),(18,1),(22,1),(1023,1),(25,1),(26,1),(27,1),(32,1),(1033,1),(35,1),(36,1),(37,1),(42,1),(1043,1)]) [(88,AC V)] [BC ((J p.s:Int)-1)] (BA O) λG=>Ba G V Au (B (AQ G AB [] λG=>AT (Ar ?_)));exact BU U G (AH 8) (by rw[Dd (by(rw[FC O,decide_eq_false O];rfl))];done) (by show _=BM (AH 8) (Ca p d s c);unfold Ca;rw[Dd (by(rw[FC O,decide_eq_false O];rfl))]<;>rfl)
  have q0:=EC h0;refine AQ G (CR (AS h0 Ag) [(5,0),(6,0),(1007,0)]) [(27,AC V)] λG=>Ba G V Au (B (AQ G AB [] λG=>AT (Ar ?_)));exact BU U G (AH 8) (by simp[ij (d:=d+1) (s:=s) (show 60<c+1 by omega)];done) (by show _=BM (AH 8) (Ca p d s c);unfold Ca;have e1:(((EF (J p.s) (J p.r) (d+1) c s).2:Int):Int)=((c:Int)+1):=(by simp[ij (d:=d+1) (s:=s) (show 60<c+1 by omega)];done);(first|rw[e1]|simp only[e1])<;>rfl)
theorem U6(p):∀(d:Nat),d<=5->∀e c n,c<=60->n=6-(d:Int)->AN.ok prog (du p d c e n):=by
 intro d;induction d with
 |zero=>intro f e c n a b;exact rV p 0 f (λs c n a b=>yl p s c a n O) e c n a b
 |succ d g=>intro f e c n a b;exact rV p (d+1) f (λs c n a b=>zX p d O (g O) s c n a O) e c n a b
theorem Y0(p)(n)(c:n=1):AN.ok prog ⟨102,[Ao 0,.N 2,A n,.P 3 0],Be p++[.C [A 0]],Be p++[.C [A (DB (J p.s) (J p.r) 5 0 p.b).2]],AC (DB (J p.s) (J p.r) 5 0 p.b).1⟩:=
 AN.dup (S:=Be p++[.C [A 0]]) (S':=Be p++[.C [A (DB (J p.s) (J p.r) 5 0 p.b).2]]) (d:=.M p.b) (i:=2) (U6 p 5 O p.b 0 n O O) rfl rfl rfl (λa h=>by simp only[AA.vals,AA.val];rw[show a 4=a 2 from h]) rfl
theorem Tz(p):AN.ok prog (CJ 48 [Ao 0] (Be p) (AC (BZ p))):=by
 refine BP 15 func48 [W p.s,W p.r,AE p.b] [(0,Ao 0)] λG=>?_;refine B (AM G AB (AH 4) [W p.s,W p.r,AE p.b,.C (Al 0)] [(1,.P 3 0),(2,AC U)] λG=>B (AM G AB (AH 5) [W p.s,W p.r,AE p.b,.C (Al 0),.C [A 0]] [(1,.P 3 0),(2,AC U),(3,.P 4 0)] λG=>B ?_));cases a:(Gf p.s p.r)
 ·refine AM G (BH (AX 4 [0,1] (sh p.s p.r) BG) (AS a Ag) (Ad [(6,9,0),(1010,1010,0)])) [0,1,2] [W p.s,W p.r,AE p.b] [(2,AC U)] λG=>AT ?_;exact BU U G [0,1,2] (pA Ab)
 refine AM G (BH (AX 4 [0,1] (sh p.s p.r) (AX 9 [0,1,2,4] (Y0 p 1 Au) BG)) (AS a Ag) (Ad [(6,9,0),(1010,1010,0)])) [0,1,2] [W p.s,W p.r,AE p.b] [(2,AC (DB (J p.s) (J p.r) 5 0 p.b).1)] λG=>AT ?_;exact BU ((DB (J p.s) (J p.r) 5 0 p.b).1) G [0,1,2] (by rw[<-R6 (p:=p) Ab])
theorem tQ{l:List AF}{k}(a:k<J l):l.take k++[⟨(l.getD k K).t,(l.getD k K).v,(l.getD k K).k⟩]=l.take (k+1):=by
 rw[AF.eta,Gr _ _ a,DU a]
theorem oZ{l:List AG}{k}(a:k<J l):l.take k++[⟨(l.getD k K).t,(l.getD k K).g,⟨(l.getD k K).i.t,(l.getD k K).i.v,(l.getD k K).i.k⟩,⟨(l.getD k K).v.t,(l.getD k K).v.v,(l.getD k K).v.k⟩,(l.getD k K).count,(l.getD k K).b,(l.getD k K).e⟩]=l.take (k+1):=by
 rw[AF.eta,AF.eta,AG.eta,Gr _ _ a,DU a]
theorem YV{a:Type}{l:List a}{k}(b:k<=J l)(c:¬(k:Int)<J l):l.take k=l:=by rw[Dq O]
theorem wH{a:Type}{l:List a}{k n}(b:k<=J l)(h:J l<=n):(l.take k).length<=n:=by rw[List.length_take];omega
theorem ru{e}(h:BB e<=1048576):J e.k<=1048576:=by
 have a:=UA e.k;have b:BB e=By e.k:=by cases e;rfl
 omega
theorem nx{l}(h:Ah l<=1048576):J l<=1048576:=DO (Km l) h
theorem Qc{a:Type}{l:List a}{x:a}{k}(b:k<=J l)(h:J l<=1048576):(l.take k).length+[x].length<=1048577:=by
 have:=wH (k:=k) b h;simp only[BK,Bc];omega
theorem Ze{a b}(e:a<=1048577)(d:Nat.ble b 1000=V):a*b<=140737488355328:=by
 have c:=Nat.le_of_ble_eq_true d;have f:=Nat.mul_le_mul e c;omega
theorem RI{l:List AF}{k:Nat}(h:(k:Int)<J l):l.getD k K∈l:=by rw[DU O];exact EL O
theorem QS{l:List AG}{k:Nat}(h:(k:Int)<J l):l.getD k K∈l:=by rw[DU O];exact EL O
abbrev ZM(e:AF):AN:=⟨141,[Dc e 0],Em e,Em e++[.Q (.P e.k)],.agg [A e.t,A e.v,.F 1]⟩
abbrev Uy(e:AF)(a:List AI):List AI:=AP e.k::.C (Bz e 0)::.C [A 0,A 0,.v (.slice I 0 0)]::a
theorem N9(e)(f:BB e<=1048576)(i:∀x,x∈e.k->AN.ok prog (ZM x)):AN.ok prog (ZM e):=by
 refine BP 29 func141 [AP e.k] [(0,Dc e 0)] λG=>?_;have d:=ru f;refine B (AM G AB [0,1,9] (Uy e []) [(1,.P 1 0),(2,.P 2 0)] λG=>B (AM G AB [0,1,2,43] (Uy e [.C [A e.t,A e.v,AK]]) [(1,.P 1 0),(2,.P 2 0),(3,.P 3 0)] λG=>B (B (BS G AB [(1,.P 1 0),(2,.P 2 0),(3,.P 3 0),(4,A 0)] λG=>BN ?_))));obtain⟨j,G⟩:=G.nilT 4 (.P []) (Uy e [.C [A e.t,A e.v,.F 4]]) [(1,.P 1 0),(2,.P 2 0),(3,.P 3 0),(4,A 0)];refine DR (h:=Nat) (λk=>k<=J e.k) (λk=>J e.k-k) (λk=>[AP e.k,.C (Bz e 0),.C [A 0,A 0,AK],.C [A e.t,A e.v,.F 4],.Q (.P (e.k.take k))]) (λk=>[(1,.P 1 0),(2,.P 2 0),(3,.P 3 0),(4,A k)]) 0 O (Ap.at G _ _) ?_;clear G;intro k j a w c G;replace G:=Ap.at G (Uy e [.C [A e.t,A e.v,.F 4],.Q (D.P (Ae k e.k))]) [(1,.P 1 0),(2,.P 2 0),(3,.P 3 0),(4,A k)];refine B (B (AQ G AB [(14,AC (Y ((k:Int)<J e.k)))] λG=>DZ G (λh g=>?_) λh g=>?_))
 ·refine wp_exit (Bd (Bd (DG (B (AM G AB [0,2,4] [AP e.k,.C [A e.t,A e.v,.F 2],.Q (D.P (Ae k e.k))] [(2,.P 1 0)] λG=>AT ?_)))));exact Br G [0,2] (by show _=BM [0,2] [AP e.k,.Q (D.P e.k)];have b:(Ae k e.k:List AF)=(e.k):=(YV c Ab);(first|rw[b]|simp only[b])<;>rfl)
 refine Aq (B (BN (Df G (Ai 7 [53] (i (e.k.getD k K) (RI Ab))) [0,1,0,4,0,28,60,124,252,511,1023,2047] [0,1,2,3,77] (Uy e [.C [A e.t,A e.v,.F 4],.Q (D.P (Ae k e.k++[Ak (e.k.getD k K)]))]) [(1,.P 1 0),(2,.P 2 0),(3,.P 3 0),(4,A k)] (CD k k (J e.k) (((Ae k e.k).length+[Ak (e.k.getD k K)].length<=(9223372036854775807:Nat))::((((Ae k e.k).length+[Ak (e.k.getD k K)].length)*(40:Nat)<=(140737488355328:Nat))::[]))) (CE O ⟨(by have:=Qc (x:=(K:AF)) c d;simp only[BK,Bc]at this ⊢;omega),⟨(Ze (Qc c d) Au),Ay⟩⟩) λG=>BL (Bi G AB [(4,A ((k:Int)+1))] [BC ((k:Int)+1)] (BA O) λG=>?_))));exact Ce G (k+1) O O (AH 5) (by have b:(Ae (k+1) e.k:List AF)=(Ae k e.k++[Ak (e.k.getD k K)]):=((tQ O).symm);(first|rw[b]|simp only[b])<;>rfl)
theorem kJ(e):BB e<=1048576->AN.ok prog (ZM e):=
 AF.ind (P:=λe=>BB e<=1048576->AN.ok prog (ZM e)) (λk n a d c=>N9 ⟨k,n,a⟩ c λx b=>d x b (by
  have f:=tf (show x∈a from b);have g:BB ⟨k,n,a⟩=By a:=rfl
  omega)) e
abbrev Po(l:List AG):AN:=⟨132,[.N 0],[AE l],[AE l,.Q (.M l)],.F 1⟩
theorem aT{l}{k:Nat}(c:Ah l<=1048576)(h:(k:Int)<J l):BB (l.getD k K).i<=1048576/\BB (l.getD k K).v<=1048576/\Ah (l.getD k K).b<=1048576/\Ah (l.getD k K).e<=1048576:=by
 have a:=Lg (QS h);generalize l.getD k K=s at*;rcases s with⟨_,_,i,v,_,b,e⟩
 simp only[CS]at a;simp only[AG.i,AG.v,AG.b,AG.e];omega
abbrev Rk(k:Nat)(a:List (Nat×AA)):List (Nat×AA):=(0,.N 0)::(2,.v (.slice I 0 0))::(3,.F 1)::(4,A (k:Int))::a
theorem gy(l)(d:Ah l<=1048576)(h:∀s,s∈l->AN.ok prog (Po s.b))(f:∀s,s∈l->AN.ok prog (Po s.e)):AN.ok prog (Po l):=by
  refine BP 38 func132 [AE l] [(0,.N 0)] λG=>?_;have m:=nx d;refine B (AQ G AB [(2,AK)] λG=>B (AM G AB [0,1] [AE l,.Q (D.M [])] [(0,.N 0),(2,AK),(3,.F 1)] λG=>B (B (BS G AB [(0,.N 0),(2,AK),(3,.F 1),(4,A 0)] λG=>BN ?_))));refine DR (h:=Nat) (λk=>k<=J l) (λk=>J l-k) (λk=>[AE l,.Q (.M (l.take k))]) (λk=>[(0,.N 0),(2,AK),(3,.F 1),(4,A k)]) 0 O (Ap.at G _ _) ?_;clear G;intro k p a w j G;replace G:=Ap.at G [AE l,.Q (D.M (Ae k l))] (Rk k []);refine B (B (AQ G AB [(10,AC (Y ((k:Int)<J l)))] λG=>DZ G (λo n=>?_) λo n=>?_))
  · refine wp_exit (Bd (Bd (DG (B (AQ G AB [(2,.F 1)] λG=>AT ?_)))));exact Br G [0,1] (by show _=BM [0,1] [AE l,.Q (D.M l)];have c:(Ae k l:List AG)=(l):=(YV j Ab);(first|rw[c]|simp only[c])<;>rfl)
  refine Aq (B (BN (B (CT G AB [0,1,26,27,28,29,34] [AE l,.Q (D.M (Ae k l)),AP (l.getD k K).i.k,AP (l.getD k K).v.k,AE (l.getD k K).b,AE (l.getD k K).e,.C (Ct (l.getD k K) 2)] (Rk k [(5,.P 6 0)]) (CD k k (J l) []) (CE O Ay) λG=>B (AM G (Ai 2 [2] (kJ ((l.getD k K).i) ((aT d Ab).1))) [0,1,3,4,5,6,23] [AE l,.Q (D.M (Ae k l)),AP (l.getD k K).v.k,AE (l.getD k K).b,AE (l.getD k K).e,.C [A (l.getD k K).t,A (l.getD k K).g,A (l.getD k K).i.t,A (l.getD k K).i.v,.F 6,A (l.getD k K).v.t,A (l.getD k K).v.v,.N 2,A (l.getD k K).count,.N 3,.N 4],.Q (D.P (l.getD k K).i.k)] (Rk k [(5,.P 5 0)]) λG=>B (AM G (Ai 2 [2] (kJ ((l.getD k K).v) ((aT d Ab).2.1))) [0,1,3,4,5,6,23] [AE l,.Q (D.M (Ae k l)),AE (l.getD k K).b,AE (l.getD k K).e,.C [A (l.getD k K).t,A (l.getD k K).g,A (l.getD k K).i.t,A (l.getD k K).i.v,.F 5,A (l.getD k K).v.t,A (l.getD k K).v.v,.F 6,A (l.getD k K).count,.N 2,.N 3],.Q (D.P (l.getD k K).i.k),.Q (D.P (l.getD k K).v.k)] (Rk k [(5,.P 4 0)]) λG=>B (AM G (Ai 2 [2] (h (l.getD k K) (QS Ab))) [0,1,3,4,5,6,23] [AE l,.Q (D.M (Ae k l)),AE (l.getD k K).e,.C [A (l.getD k K).t,A (l.getD k K).g,A (l.getD k K).i.t,A (l.getD k K).i.v,.F 4,A (l.getD k K).v.t,A (l.getD k K).v.v,.F 5,A (l.getD k K).count,.F 6,.N 2],.Q (D.P (l.getD k K).i.k),.Q (D.P (l.getD k K).v.k),.Q (D.M (l.getD k K).b)] (Rk k [(5,.P 3 0)]) λG=>B (AM G (Ai 2 [2] (f (l.getD k K) (QS Ab))) [0,1,3,4,5,6,23] [AE l,.Q (D.M (Ae k l)),.C [A (l.getD k K).t,A (l.getD k K).g,A (l.getD k K).i.t,A (l.getD k K).i.v,.F 3,A (l.getD k K).v.t,A (l.getD k K).v.v,.F 4,A (l.getD k K).count,.F 5,.F 6],.Q (D.P (l.getD k K).i.k),.Q (D.P (l.getD k K).v.k),.Q (D.M (l.getD k K).b),.Q (D.M (l.getD k K).e)] (Rk k [(5,.P 2 0)]) λG=>CT G AB [0,31] [AE l,.Q (D.M (Ae k l++[NP (l.getD k K)]))] (Rk k []) [(Ae k l).length+[NP (l.getD k K)].length<=(9223372036854775807:Nat),((Ae k l).length+[NP (l.getD k K)].length)*(152:Nat)<=(140737488355328:Nat)] ⟨(by have:=Qc (x:=(K:AG)) j m;simp only[BK,Bc]at this ⊢;omega),(Ze (Qc j m) Au),Ay⟩ λG=>?_))))))))
  refine BL (Bi G AB [(4,A ((k:Int)+1))] [BC ((k:Int)+1)] (BA O) λG=>?_);exact Ce G (k+1) O O [0,1] (by have c:(Ae (k+1) l:List AG)=(Ae k l++[NP (l.getD k K)]):=((oZ O).symm);(first|rw[c]|simp only[c])<;>rfl)
theorem l9(l):Ah l<=1048576->AN.ok prog (Po l):=λd=>gy l d
 (λs a=>(c_copyS2 s).1 (DO (Nat.le_of_lt (Lg a)) d)) λs a=>(c_copyS2 s).2 (DO (Nat.le_of_lt (Lg a)) d)
where
 c_copyS2 (s:AG):(CS s<=1048576->AN.ok prog (Po s.b))/\(CS s<=1048576->AN.ok prog (Po s.e)):=
  AG.ind (P:=λs=>(CS s<=1048576->AN.ok prog (Po s.b))/\(CS s<=1048576->AN.ok prog (Po s.e))) (λk t i v c b e f g=>by
   have h:CS ⟨k,t,i,v,c,b,e⟩=BB i+BB v+Ah b+Ah e:=rfl;constructor
   ·intro d
    refine gy b O (λs a=>(f s a).1 ?_) λs a=>(f s a).2 ?_
    ·have:=Lg a;omega
    have:=Lg a;omega
   intro d;refine gy e O (λs a=>(g s a).1 ?_) λs a=>(g s a).2 ?_
   ·have:=Lg a;omega
   have:=Lg a;omega) s
theorem ut(p)(a:p.size<=1048576):AN.ok prog ⟨90,[Ao 0],Be p,Be p++Pg p,Nb 3⟩:=by
 refine BP 15 func90 [W p.s,W p.r,AE p.b] [(0,Ao 0)] λG=>?_
 have c:J p.s<=1048576/\(J p.r)<=1048576/\Ah p.b<=1048576:=by unfold BE.size at a;omega
 refine B (AM G AB [0,1,2,3,11] [W p.s,W p.r,AE p.b,.C (Al 0),.C [AK,AK,AK]] [(1,.P 3 0),(2,.P 4 0)] λG=>B (Df G (Ai 10 [2] (l9 p.b O)) [0,0,2,7,0,0,32,127,0,256,1023,2047,4095] [0,1,2,4,29,61,85] [W p.s,W p.r,AE p.b,.C [.N 4,.N 5,.F 6],.L 3 (D.C ([]++p.s)),.L 3 (D.C ([]++p.r)),.Q (D.M p.b)] [(2,.P 3 0)] (EP ((0:Nat)+J p.s) 8 (EP ((0:Nat)+J p.r) 8 [])) (EW O (EW O Ay)) λG=>AT ?_));exact Br G [0,1,2,4,5,6]
def Lp(k v r:Int):AV:=if k=3 then⟨4,r,v,r,0⟩else if k=11 then⟨7,r,r,r+1,r+2⟩else⟨6,r,k,r,r+1⟩
mutual
def AJ:AF->Int->List AV
 |⟨k,v,ks⟩,r=>if k=1 then [⟨1,r,v,0,0⟩]else if k=2 then [⟨2,r,v,0,0⟩]else Bg ks r++[Lp k v r]
def Bg:List AF->Int->List AV
 |[],_=>[]
 |e::t,r=>AJ e r++Bg t (r+1)
end
theorem ZR(e)(r):AJ e r=if e.t=1 then [⟨1,r,e.v,0,0⟩]else if e.t=2 then [⟨2,r,e.v,0,0⟩]else Bg e.k r++[Lp e.t e.v r]:=by cases e;rw[AJ];rfl
theorem qY:∀a b r,Bg (a++b) r=Bg a r++Bg b (r+J a)
 |[],b,r=>by simp[Bg]
 |e::t,b,r=>by
  simp only[IR,Bg,Fj];rw[qY t b (r+1)];congr 2;simp only[BK];rw[show r+1+(J t:Int)=r+((J t+1:Nat):Int) by omega]
theorem pu{a}{k}{r}(b:k<J a):Bg (a.take (k+1)) r=Bg (a.take k) r++AJ (a.getD k K) (r+k):=by
 rw[Gr _ _ b,qY,DU b];simp[Bg,List.length_take,Nat.min_eq_left (Nat.le_of_lt b)]
mutual
theorem QI:∀(e:AF) (r:Int),(AJ e r).length<=1+BB e
 |⟨k,v,ks⟩,r=>by
  have h:=ZZ ks r;rw[AJ];simp only[BB];split
  ·simp
  split
  ·simp
  simp only[Az,BK,Bc];omega
theorem ZZ:∀(ks:List AF) (r:Int),(Bg ks r).length<=By ks
 |[],_=>by simp[Bg]
 |e::t,r=>by
  have h1:=QI e r;have h2:=ZZ t (r+1);simp only[Bg,By,Az];omega
end
abbrev Eg:Type:=List AV×List Int×Int
def CN(x:Eg)(n:Int)(c:List AV):Eg:=(x.1++c,x.2.1++Ac (J c) n,x.2.2)
def Jv(l:List AV)(i:Nat)(n:Int):List AV:=l.set i ⟨(l.getD i K).op,(l.getD i K).a,n,(l.getD i K).c,(l.getD i K).d⟩
def OJ(l:List AV)(i:Nat)(n:Int):List AV:=l.set i ⟨(l.getD i K).op,n,(l.getD i K).b,(l.getD i K).c,(l.getD i K).d⟩
mutual
def DL:AG->Int->Eg->Eg
 | ⟨k, t, i, v, c, b, e⟩, d, x =>
  if k=4 then CN (AW b (d+1) (CN (x.1,x.2.1,x.2.2+1) x.2.2 [⟨1,9+d,c,0,0⟩])) x.2.2 [⟨10,9+d,((J x.1+1:Nat):Int),0,0⟩]
  else if k=1 then CN (CN (x.1,x.2.1,x.2.2+1) x.2.2 (AJ v 0)) x.2.2 [⟨3,t,0,0,0⟩]
  else if k=5 then CN (CN (CN (x.1,x.2.1,x.2.2+1) x.2.2 (AJ v 0)) x.2.2 [⟨11,0,0,0,0⟩]) x.2.2 [⟨3,t,0,0,0⟩]
  else if k=2 then CN (CN (CN (x.1,x.2.1,x.2.2+1) x.2.2 (AJ v 0)) x.2.2 (AJ i 1)) x.2.2 [⟨5,t,1,0,0⟩]
  else
   (fun(y:Eg)=>
    (fun(z:Eg)=>
     (fun(u:Eg)=>(OJ u.1 (J z.1-1) (J u.1:Int),u.2)) (AW e (d+1) (Jv z.1 (J y.1) (J z.1:Int),z.2)))
    (CN (AW b (d+1) (CN y x.2.2 [⟨9,0,0,0,0⟩])) x.2.2 [⟨8,0,0,0,0⟩]))
   (CN (x.1,x.2.1,x.2.2+1) x.2.2 (AJ v 0))
def AW:List AG->Int->Eg->Eg
 |[],_,x=>x
 |s::r,d,x=>AW r d (DL s d x)
end
theorem Z1(a b)(d)(x):AW (a++b) d x=AW b d (AW a d x):=by
 induction a generalizing x with
 |nil=>rfl
 |cons s r c=>simp only[IR,AW];exact c _
theorem QP{a}{k}{d}{x}(b:k<J a):AW (a.take (k+1)) d x=DL (a.getD k K) d (AW (a.take k) d x):=by
 rw[Gr _ _ b,Z1,DU b];simp[AW]
mutual
def Ib:AG->Nat
 |⟨k,_,i,v,_,b,e⟩=>if k=4 then 2+DY b else if k=1 then(AJ v 0).length+1 else if k=5 then(AJ v 0).length+2 else if k=2 then(AJ v 0).length+(AJ i 1).length+1 else(AJ v 0).length+2+DY b+DY e
def DY:List AG->Nat
 |[]=>0
 |s::r=>Ib s+DY r
end
mutual
theorem lD:∀(s:AG) (d:Int) (x:Eg),(DL s d x).1.length=J x.1+Ib s/\(DL s d x).2.1.length=J x.2.1+Ib s
 | ⟨k, t, i, v, c, b, e⟩, d, x => by
  rw[DL,Ib];split
  ·have h:=Jn b (d+1) (CN (x.1,x.2.1,x.2.2+1) x.2.2 [⟨1,9+d,c,0,0⟩])
   simp only[CN,Az,BK,Bc,FX]at h ⊢;omega
  split
  ·simp only[CN,Az,BK,Bc,FX];omega
  split
  ·simp only[CN,Az,BK,Bc,FX];omega
  split
  ·simp only[CN,Az,BK,Bc,FX];omega
  simp only;generalize hy:CN (x.1,x.2.1,x.2.2+1) x.2.2 (AJ v 0)=y;have hy1:J y.1=J x.1+(AJ v 0).length:=by rw[<-hy];simp[CN]
  have hy2:J y.2.1=J x.2.1+(AJ v 0).length:=by rw[<-hy];simp[CN]
  have h1:=Jn b (d+1) (CN y x.2.2 [⟨9,0,0,0,0⟩]);generalize AW b (d+1) (CN y x.2.2 [⟨9,0,0,0,0⟩])=z at h1 ⊢;have h2:=Jn e (d+1) (Jv (CN z x.2.2 [⟨8,0,0,0,0⟩]).1 (J y.1) ((CN z x.2.2 [⟨8,0,0,0,0⟩]).1.length:Int),(CN z x.2.2 [⟨8,0,0,0,0⟩]).2);simp only[CN,OJ,Jv,GP,Az,BK,Bc,FX]at h1 h2 ⊢;omega
theorem Jn:∀(ss:List AG) (d:Int) (x:Eg),(AW ss d x).1.length=J x.1+DY ss/\(AW ss d x).2.1.length=J x.2.1+DY ss
 |[],_,_=>⟨rfl,rfl⟩
 |s::r,d,x=>by
  have h1:=lD s d x;have h2:=Jn r d (DL s d x);rw[AW,DY];omega
end
mutual
theorem yN:∀s:AG,Ib s<=4+4*CS s
 |⟨k,t,i,v,c,b,e⟩=>by
  have h1:=QI v 0;have h2:=QI i 1;have h3:=Mg b;have h4:=Mg e;rw[Ib];simp only[CS]
  (repeat' split)<;>omega
theorem Mg:∀ss:List AG,DY ss<=4*Ah ss
 |[]=>Di _
 |s::r=>by
  have h1:=yN s;have h2:=Mg r;simp only[DY,Ah];omega
end
end Go.Proofs.YtfbeblgnjeokaaaGreat
