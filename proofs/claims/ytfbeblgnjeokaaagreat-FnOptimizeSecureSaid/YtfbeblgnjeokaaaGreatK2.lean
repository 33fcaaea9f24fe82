/- Part 2: functions on the way, plain laws. Conditions: as said. -/
import Derived.Test.YtfbeblgnjeokaaaGreatRows
import Derived.OpenShut
import Derived.ChangeOld
import Derived.Deep.Slices
import Derived.Lib.SmallJoins
import Derived.StillTailTactics
import Derived.Deep.RegionHeld3
import Derived.Laws.StructEq
import Derived.Deep.QuietTactic
import Derived.BigQuiet
import Derived.WalkSpells
import Derived.Lib.SliceRun
import Derived.Deep.LoopGhost
import Derived.Test.YtfbeblgnjeokaaaGreatK1
set_option maxRecDepth 100000
set_option maxHeartbeats 16000000
set_option linter.unusedVariables false
set_option linter.unusedSimpArgs false
open Bool renaming true → V, false → U
open Option renaming some → Z, none → I
open Decidable renaming decide → Y
open Array renaming replicate → Jw
open Bool renaming and_eq_true → Aj, eq_iff_iff → GQ, not_eq_false' → Cp, or_eq_true → Gg, true_and → IG
open Int renaming toNat_natCast → Gb
open List renaming all_cons → IS, all_eq_true → Bt, append_nil → II, eq_nil_of_length_eq_zero → FM, getD_eq_getElem?_getD → Bu, getElem?_append_left → Fb, getElem?_append_right → Ip, getElem?_cons_succ → Hg, getElem?_cons_zero → Fp, getElem?_eq_getElem → CF, getElem?_eq_some_iff → EA, getElem?_replicate → LH, getElem?_set → IT, getElem_mem → EL, length_append → Az, length_cons → BK, length_nil → Bc, length_replicate → FX, length_set → GP, map_cons → Fa, mem_append → DQ, mem_cons → Eb, mem_of_getElem? → FF, mem_range → GW, mem_singleton → Dw, not_mem_nil → It, range → DA, replicate → Ac, take_of_length_le → Dq
open Nat renaming add_zero → Fx, le_refl → BR, le_trans → DO, lt_of_lt_of_le → IM, lt_or_ge → Du, lt_succ_self → Jc, mul_le_mul_right → Iq, succ_mul → Ft, zero_le → Di
open True renaming intro → Ay

open List renaming length → J
open Go renaming wp_seq → B, wp_ret → AT, wp_skip → Aq, wp_block → BN
open Go.Proofs.Tryz
namespace Go.Proofs.YtfbeblgnjeokaaaGreat
open Go Go.RowKit Go.ChangeShapes Go.WideShapes Go.Deep
theorem Qg:ownKnob prog.godebug=none:=Au
theorem vJ:laidOutB prog=true:=Au
section
variable{H:Type}{enc:TypeId×Value->H}{W:World}
theorem wQ{C:Nat->List Value}{c}(f:∀i,(C i).length=c):∀n i j,i<n->j<c->((DA n).flatMap C)[i*c+j]? =(C i)[j]? :=by
 intro n;induction n with
 |zero=>intro i j h;omega
 | succ n e =>
  intro i j h g
  have a:((DA n).flatMap C).length=n*c:=by
   clear e h;induction n with
   |zero=>simp
   |succ n d=>rw[List.range_succ,List.flatMap_append,Az,d];simp[f,Ft]
  rw[List.range_succ,List.flatMap_append];by_cases b:i<n
  ·rw[Fb (by rw[a];have:=Iq c (Nat.succ_le_of_lt b);rw[Ft]at this;omega)]
   exact e i j b g
  obtain rfl:i=n:=O;rw[Ip O,a];simp
theorem nL{C:Nat->List Value}{b}(c:∀i,(C i).length=b)(n):((DA n).flatMap C).length=n*b:=by
 induction n with
 |zero=>simp
 |succ n a=>rw[List.range_succ,List.flatMap_append,Az,a];simp[c,Ft]
theorem K8{t e:TypeId}{L}{v}{x}{sz}(ht:prog.underlying t=Z (.slice e))(hc:prog.cellsOf e=sz)(M:0<sz)
  (h:DataW.trod enc prog W 0 (λ_=>V) V L t [v]=Z x):
  ∃n m C,Cd W v n sz ((DA n).flatMap C)/\(∀i,(C i).length=sz)/\∀i,i<n->∃y,DataW.trod enc prog W 0 (λ_=>V) V m e (C i)=Z y:=by
 rcases open_slice ht h with⟨s,_⟩|⟨a,d,X,m,k,D,Pl,s,_,hl,hm,aB,_,hx⟩
 ·cases s
  exact⟨0,0,λ_=>Ac sz undef,Cd.nil _ _,At,λi f=>by omega⟩
 cases s
 rw[hc]at hx;have aD:d<=m:=by rw[aB];simp;omega
 obtain⟨C,E⟩:=choose_lt (α:=List Value) (n:=d) (p:=λi Q=>J Q=sz/\(∀j,j<sz->W.cell? (a.add (i*sz+j))=Q[j]?)/\∃y,DataW.trod enc prog W 0 (λ_=>V) V k e Q=Z y) (λi f=>by
  obtain⟨aC,h1,h2⟩:=hx i O;obtain⟨_,z,q⟩:=World.cells?_some h1
  exact⟨aC,z,λj P=>by rw[<-add_add];exact q j P,_,h2⟩)
 let w:Nat->List Value:=λi=>if i<d then C i else Ac sz undef
 have g:∀i,(w i).length=sz:=λi=>by
  by_cases f:i<d
  ·simp only[w,AZ f];exact(E i f).1
  simp[w,AO f]
 refine⟨d,k,w,⟨nL g d,Z a,X,rfl,hl,hm,λhn=>?_⟩,g,λi f=>?_⟩
 ·obtain⟨b,l,G⟩:=a
  have o:=(E 0 hn).2.1 0 M;have T:=(E 0 hn).1;rw[CF O]at o
  have hs:G=none:=by
   simpa[Addr.add]using World.cell?_spot o
  subst hs;have hb:b<W.heap.size:=by simpa[Addr.add]using World.block_lt_of_cell? W _ o
  refine⟨b,l,rfl,hb,λj u P=>?_⟩
  have S:j<d*sz:=by have:=(EA.1 P).1;rw[nL g]at this;exact this
  have f:j/sz<d:=Nat.div_lt_of_lt_mul (by rw[Nat.mul_comm];exact S)
  have hr:j%sz<sz:=Nat.mod_lt _ M;have F:j/sz*sz+j%sz=j:=Nat.div_add_mod' j sz;have R:=wQ g d (j/sz) (j%sz) f hr;rw[F,P]at R;have r:=(E _ f).2.1 _ hr;simp only[w,AZ f]at R;rw[F, <-R]at r;have N:(⟨b,l,I⟩:Addr).add j=⟨b,l+j,I⟩:=by unfold Addr.add;split<;>simp_all
  rw[N]at r;exact r
 obtain⟨y,hy⟩:=(E i f).2.2;exact⟨y,by simp only[w,AZ f];exact hy⟩
theorem R7{a:Type}(n)(C)(f:a->Value)(g:Nat->a)(h:∀i,i<n->C i=[f (g i)]):(DA n).flatMap C=((DA n).map g).map f:=by
 rw[List.map_map,List.flatMap_def];rw[List.map_congr_left (g:=λi=>[f (g i)]) (λi b=>h i (by simpa using b))]
 induction n with
 |zero=>simp
 |succ n c=>
  rw[List.range_succ,List.map_append,List.flatten_append,List.map_append,c (λi b=>h i O)]
  simp
end
end Go.Proofs.YtfbeblgnjeokaaaGreat

namespace Go.Proofs.YtfbeblgnjeokaaaGreat
def Dt(l:Int):Bool:=Af l&&Y (l=1\/l=3)
def DF(t:List Bool)(k:Int):Bool:=t.getD k.toNat U
def Gd(t:List Int)(k:Int):Int:=t.getD k.toNat 0
def GT(c:BY)(x:AV)(t:List Bool):Option Bool:=
 if x.op=1\/x.op=11 then Z U
 else if x.op=2 then Z (Dt (Gd c.s x.b))
 else if x.op=4 then Z (Dt (Gd c.r x.b)||DF t x.c)
 else if x.op=6 then Z (DF t x.c||DF t x.d)
 else if x.op=7 then Z (DF t x.b||DF t x.c||DF t x.d)
 else I
def Dh(c:BY)(x:AV)(t:List Bool):List Bool:=match GT c x t with|some b=>t.set x.a.toNat b|none=>t
theorem RM(c)(x)(t):(Dh c x t).length=J t:=by unfold Dh;split<;>simp
def HY(c:BY)(x:AV)(t:List Bool):Int:=
 if x.op=3 then(if DF t x.b&& !Dt (Gd c.s x.a)then 1 else 0)
 else if x.op=4 then(if DF t x.c then 4 else 0)
 else if x.op=5 then(if DF t x.b then 4 else if DF t x.c&& !Dt (Gd c.r x.a)then 1 else 0)
 else if x.op=9\/x.op=10 then(if DF t x.a then 3 else 0)
 else 0
def GO(t a:List Bool):Bool:=Y (0<J a)&&(DA (J t)).all λk=> !(t.getD k U&& !a.getD k U)
theorem yb{c}{x}(h:Ev c x=V):
  (x.op=1->0<=x.a/\x.a<14)/\(x.op=11->0<=x.a/\x.a<14)/\
  (x.op=2->(0<=x.a/\x.a<14)/\0<=x.b/\x.b<J c.s)/\
  (x.op=3->(0<=x.a/\x.a<J c.s)/\0<=x.b/\x.b<14)/\
  (x.op=4->(0<=x.a/\x.a<14)/\(0<=x.b/\x.b<J c.r)/\0<=x.c/\x.c<14)/\
  (x.op=5->(0<=x.a/\x.a<J c.r)/\(0<=x.b/\x.b<14)/\0<=x.c/\x.c<14)/\
  (x.op=6->(0<=x.a/\x.a<14)/\(0<=x.c/\x.c<14)/\0<=x.d/\x.d<14)/\
  (x.op=7->(0<=x.a/\x.a<14)/\(0<=x.b/\x.b<14)/\(0<=x.c/\x.c<14)/\0<=x.d/\x.d<14)/\
  (x.op=9->0<=x.a/\x.a<14)/\(x.op=10->0<=x.a/\x.a<14):=by
 unfold Ev at h;simp only[Aj,decide_eq_true_eq]at h;obtain⟨_,⟨⟨i,f⟩,j⟩,g⟩:=h;refine⟨λe=>?_,λe=>?_,λe=>?_,λe=>?_,λe=>?_,λe=>?_,λe=>?_,λe=>?_,λe=>?_,λe=>?_⟩
 all_goals
  rw[e]at i f j g;simp[FU,LV,OQ]at i f j g;omega
def Pb(r:List Bool):Bool:=Y (J r=0)||Y (J r=14)
def jM(t a:List Bool)(k:Nat):Bool:=(DA k).all λj=> !(t.getD j U&& !a.getD j U)
def Bf(m:List (List Bool))(i:Int):List Bool:=m.getD i.toNat []
theorem ZW{m}{i}(h:i<J m):Bf m i=m[i]:=by simp[Bf,h]
def DM(c:BY)(i:Nat):AV:=c.l.getD i ⟨0,0,0,0,0⟩
theorem IV{c}{i}(h:i<J c.l):DM c i=c.l[i]:=by simp[DM,h]
def jX(c:BY)(m:List (List Bool))(i:Nat):Bool:=Y (0<(Bf m i).length)&&Y (HY c (DM c i) (Bf m i)≠0)
def VF(c:BY)(m:List (List Bool))(k:Nat):Bool:=(DA k).any (jX c m)
def Ky(c:BY)(m:List (List Bool))(i:Nat):Bool:=Y ((Bf m i).length=0)||(Cz c i).all λt=>GO (Dh c (DM c i) (Bf m i)) (Bf m t)
theorem Wd{m}(h:m.all Pb=V)(i):(Bf m i).length=0\/(Bf m i).length=14:=by
 unfold Bf;rcases Du i.toNat (J m)with a|a
 ·have:=Bt.1 h _ (EL a)
  simp only[Pb,Gg,decide_eq_true_eq]at this;simpa[a]using this
 left;simp[a]
def Iw(t u:List Bool):Prop:=∀k:Nat,t.getD k U=V->u.getD k U=V
theorem Iw.refl(t):Iw t t:=λ_ h=>h
theorem Iw.trans{a b c}(h:Iw a b)(g:Iw b c):Iw a c:=λk x=>g k (h k x)
theorem B6(t a):jM t a (J t)=V↔Iw t a:=by
 unfold jM Iw;rw[Bt];constructor
 ·intro h k b
  rcases Du k (J t)with c|c
  ·have:=h k (GW.2 c)
   rw[b]at this;simpa using this
  simp[c]at b
 intro h k _;cases b:t.getD k U
 ·rfl
 rw[h k b];rfl
theorem QJ(t a):GO t a=V↔0<J a/\Iw t a:=by
 have:GO t a=(Y (0<J a)&&jM t a (J t)):=rfl;rw[this,Aj,decide_eq_true_eq,B6]
theorem Rv(t)(a k)(b):(t.set a b).getD k U=if k=a/\a<(J t)then b else t.getD k false:=by
 simp only[Bu,IT];by_cases h:a=k
 ·subst h
  by_cases c:a<J t
  ·simp[c]
  simp[c]
 rw[AO h,AO (λx=>h x.1.symm)]
theorem vC{t u}(h:Iw t u)(k):DF t k=V->DF u k=true:=h k.toNat
theorem W7{c}{x}{t u}(h:Iw t u):(GT c x t=I/\GT c x u=I)\/∃p q,GT c x t=Z p/\GT c x u=Z q/\(p=V->q=V):=by
 have a:=vC h;unfold GT;by_cases b:x.op=1\/x.op=11
 ·rw[AZ b,AZ b];exact .inr ⟨_,_,rfl,rfl,id⟩
 rw[AO b,AO b];by_cases e:x.op=2
 ·rw[AZ e,AZ e];exact .inr ⟨_,_,rfl,rfl,id⟩
 rw[AO e,AO e];by_cases i:x.op=4
 ·rw[AZ i,AZ i];refine .inr ⟨_,_,rfl,rfl,λg=>?_⟩
  simp only[Gg]at g ⊢;rcases g with g|g
  ·exact .inl g
  exact .inr (a _ g)
 rw[AO i,AO i];by_cases f:x.op=6
 ·rw[AZ f,AZ f];refine .inr ⟨_,_,rfl,rfl,λg=>?_⟩
  simp only[Gg]at g ⊢;rcases g with g|g
  ·exact .inl (a _ g)
  exact .inr (a _ g)
 rw[AO f,AO f];by_cases d:x.op=7
 ·rw[AZ d,AZ d];refine .inr ⟨_,_,rfl,rfl,λg=>?_⟩
  simp only[Gg]at g ⊢;rcases g with(g|g)|g
  ·exact .inl (.inl (a _ g))
  ·exact .inl (.inr (a _ g))
  exact .inr (a _ g)
 rw[AO d,AO d];exact .inl ⟨rfl,rfl⟩
theorem g7{c}{x}{t u}(e:J t=J u)(h:Iw t u):Iw (Dh c x t) (Dh c x u):=by
 unfold Dh;rcases W7 (c:=c) (x:=x) h with⟨a,d⟩|⟨p,q,a,d,b⟩
 ·rw[a,d];exact h
 rw[a,d];intro k;rw[Rv,Rv,e];split
 ·exact b
 exact h k
def uL(m p:List (List Bool)):Prop:=∀i:Nat,(Bf m i).length=0\/((Bf p i).length≠0/\Iw (Bf m i) (Bf p i))
def Kc(c:BY)(m:List (List Bool)):Prop:=J m=J c.l/\m.all Pb=V/\(Bf m 0).length≠0/\∀i:Nat,i<J m->Ky c m i=V
def kA(c:BY)(m:List (List Bool)):Prop:=Kc c m/\∀p,Kc c p->uL m p
structure Kw(c:BY)(m:List (List Bool)):Prop where
 len:J m=J c.l
 ok:m.all Pb=V
 first:(Bf m 0).length≠0
 low:∀p,Kc c p->uL m p
theorem Kw.least{c}{m}(h:Kw c m)(a:∀i,i<J m->Ky c m i=V):kA c m:=⟨⟨h.len,h.ok,h.first,a⟩,h.low⟩
theorem PB{m}{y}(r)(i)(a:y<J m):Bf (m.set y r) i=if i.toNat=y then r else Bf m i:=by
 unfold Bf;simp only[Bu,IT];by_cases h:y=i.toNat
 ·rw[AZ h,AZ h.symm];subst h;simp[a]
 rw[AO h,AO (Ne.symm h)]
theorem Kw.start{c}(g:1<=J c.l):Kw c ((Ac (J c.l) ([]:List Bool)).set 0 (Ac 14 U)):=by
 have b:0<(Ac (J c.l) ([]:List Bool)).length:=by rw[FX];omega
 refine⟨At,?_,?_,λp e i=>?_⟩
 ·rw[Bt]
  intro r f;rcases List.mem_or_eq_of_mem_set f with h|h
  ·rw[(List.mem_replicate.1 h).2];rfl
  rw[h];rfl
 ·rw[PB _ _ b];simp
 rw[PB _ _ b];by_cases d:i=0
 ·subst d
  right;refine⟨e.2.2.1,λk a=>?_⟩
  exfalso;rw[AZ At]at a;simp only[Bu,LH]at a;split at a<;>simp at a
 left;rw[AO (by simpa using d)]
 unfold Bf;simp only[Bu,LH];split<;>simp
theorem Kw.set{c}{m}(h:Kw c m){y}(d:y<J m){r}(j:J r=14)(f:∀p,Kc c p->(Bf p y).length≠0/\Iw r (Bf p y)):Kw c (m.set y r):=by
 refine⟨by simpa using h.len,?_,?_,λp g i=>?_⟩
 ·rw[Bt]
  intro k a;rcases List.mem_or_eq_of_mem_set a with b|b
  ·exact Bt.1 h.ok _ b
  rw[b];simp[Pb,j]
 ·rw[PB _ _ d]
  split
  ·omega
  exact h.first
 rw[PB _ _ d];split
 ·rename_i e
  have e:i=y:=by simpa using e
  subst e;exact .inr (f p g)
 exact h.low p g i
theorem Kw.after{c}{m}(h:Kw c m){i}(e:i<J m)(g:(Bf m i).length=14):∀p,Kc c p->∀t∈Cz c i,(Bf p t).length≠0/\Iw (Dh c (DM c i) (Bf m i)) (Bf p t):=by
 intro p b t k;have d:i<J p:=by rw[b.1, <-h.len];exact e
 rcases h.low p b i with n|⟨f,j⟩
 ·omega
 have a:=b.2.2.2 i d;unfold Ky at a;rw[Gg,decide_eq_true_eq]at a;rcases a with a|a
 ·exact absurd a f
 have:=Bt.1 a t k;rw[QJ]at this;have l:=Wd b.2.1 i;exact⟨O,(g7 O j).trans this.2⟩
def NE(r:List Bool):Nat:=if(J r)=0 then 15 else r.count U
def LE(m:List (List Bool)):Nat:=(m.map NE).sum
theorem gt:∀m y r b,LE (m.set y r)+NE m[y]=LE m+NE r
 |[],y,_,b=>by simp at b
 |a::m,0,r,_=>by simp[LE];omega
 |a::m,y+1,r,b=>by
  have:=gt m y r (by simpa using b)
  simp[LE]at this ⊢;omega
theorem N7(m)(h:m.all Pb=V):LE m<=15*J m:=by
 induction m with
 |nil=>simp[LE]
 | cons r m c =>
  simp only[IS,Aj]at h;have b:=c h.2
  have d:NE r<=15:=by
   unfold NE;split
   ·omega
   have:=List.count_le_length (a:=U) (l:=r);have:=h.1;simp only[Pb,Gg,decide_eq_true_eq]at this;omega
  simp only[LE,Fa,List.sum_cons,BK]at b ⊢;omega
structure RK(c:BY)(m:List (List Bool))(qs:List Int)(k:Nat):Prop where
 low:Kw c m
 q:∀x∈qs,0<=x/\x<J c.l/\(Bf m x).length=14
 pend:∀i:Nat,i<J c.l->Ky c m i=V\/∃p,k<=p/\qs[p]? =Z (i:Int)
 cnt:J qs+LE m<=15*J c.l+1
structure Tl(c:BY)(m:List (List Bool))(qs:List Int)(k a:Nat)(t:List Bool)(ns:List Int)(j:Nat):Prop where
 low:Kw c m
 q:∀x∈qs,0<=x/\x<J c.l/\(Bf m x).length=14
 pend:∀i:Nat,i<J c.l->i≠a->Ky c m i=V\/∃p,k+1<=p/\qs[p]? =Z (i:Int)
 self:(∃p,k+1<=p/\qs[p]? =Z (a:Int))\/(∀y∈ns.take j,GO t (Bf m y)=V)/\Dh c (DM c a) (Bf m a)=t
 cnt:J qs+LE m<=15*J c.l+1
 bnd:∀p,Kc c p->∀y∈ns,(Bf p y).length≠0/\Iw t (Bf p y)
 tl:J t=14
theorem RK.start{c}(d:1<=J c.l):RK c ((Ac (J c.l) ([]:List Bool)).set 0 (Ac 14 U)) [0] 0:=by
 have a:0<(Ac (J c.l) ([]:List Bool)).length:=by rw[FX];omega
 have b:=Kw.start d;refine⟨b,?_,λi g=>?_,?_⟩
 ·intro x f
  rw[Dw.1 f];refine⟨Int.le_refl _,O,?_⟩;rw[PB _ _ a];simp
 ·by_cases e:i=0
  ·subst e;exact .inr ⟨0,BR _,rfl⟩
  left;unfold Ky;rw[Gg,decide_eq_true_eq];left;rw[PB _ _ a,AO (by simpa using e)]
  unfold Bf;simp only[Bu,LH];split<;>simp
 have:=N7 _ b.ok;simp only[GP,FX]at this;simp only[List.length_singleton];omega
theorem RK.enter{c}{m}{b}{k a:Nat}(h:RK c m b k)(f:b[k]? =Z (a:Int)):
  (Bf m a).length=14/\a<J c.l/\Tl c m b k a (Dh c (DM c a) (Bf m a)) (Cz c a) 0:=by
 have e:=h.q a (FF f);have o:a<J m:=by rw[h.low.len];omega
 refine⟨e.2.2,O,h.low,h.q,λi r n=>?_,.inr ⟨At,rfl⟩,h.cnt,?_,by rw[RM];exact e.2.2⟩
 ·rcases h.pend i r with g|⟨p,Bs,d⟩
  ·exact .inl g
  refine .inr ⟨p,?_,d⟩;rcases Du k p with CZ|g3
  ·exact CZ
  have:p=k:=O;subst this;rw[f]at d;have:=Option.some.inj d;omega
 exact λp s y j=>h.low.after o e.2.2 p s y j
theorem Tl.keep{c}{m}{e}{k a}{t}{d}{j}(h:Tl c m e k a t d j)(f:j<J d)(l:GO t (Bf m d[j])=V):Tl c m e k a t d (j+1):=by
 refine⟨h.low,h.q,h.pend,?_,h.cnt,h.bnd,h.tl⟩;rcases h.self with g|⟨Bs,i⟩
 ·exact .inl g
 refine .inr ⟨λy b=>?_,i⟩
 rw[ND _ _ f,DQ,Dw]at b;rcases b with b|b
 ·exact Bs y b
 rw[b];exact l
theorem Tl.done{c}{m}{b}{k a}{t}{j}(h:Tl c m b k a t (Cz c a) j)(d:(Cz c a).length<=j):RK c m b (k+1):=by
 refine⟨h.low,h.q,λi f=>?_,h.cnt⟩
 by_cases e:i=a
 ·subst e
  rcases h.self with g|⟨Bs,l⟩
  ·exact .inr g
  left;rw[Dq d]at Bs;unfold Ky;rw[Gg];right;rw[Bt,l];exact Bs
 exact h.pend i f e
theorem RK.done{c}{m}{a}(h:RK c m a (J a)):kA c m:=by
 refine h.low.least λi d=>?_
 rcases h.pend i (by rw[<-h.low.len];exact d)with g|⟨p,Bs,b⟩
 ·exact g
 have:=(EA.1 b).1;omega
structure OE(c:BY)(m:List (List Bool))(p0:Nat)(ch:Bool)(i:Nat):Prop where
 low:Kw c m
 cov:ch=U->∀j:Nat,j<i->Ky c m j=V
 le:LE m<=p0
 lt:ch=V->LE m<p0
structure Ow(c:BY)(m:List (List Bool))(p0:Nat)(ch:Bool)(i:Nat)(t:List Bool)(ns:List Int)(j:Nat):Prop where
 low:Kw c m
 cov:ch=U->(∀j:Nat,j<i->Ky c m j=V)/\Dh c (DM c i) (Bf m i)=t/\∀y∈ns.take j,GO t (Bf m y)=V
 le:LE m<=p0
 lt:ch=V->LE m<p0
 bnd:∀p,Kc c p->∀y∈ns,(Bf p y).length≠0/\Iw t (Bf p y)
 tl:J t=14
structure Nz(c:BY)(m:List (List Bool))(p0:Nat)(ch:Bool)(i:Nat)(t:List Bool)(ns:List Int)(j y q:Nat):Prop extends Ow c m p0 ch i t ns j where
 L:(Bf m y).length=14
 bits:ch=U->∀k:Nat,k<q->t.getD k U=V->(Bf m y).getD k U=V
theorem OE.start{c}{m}(h:Kw c m):OE c m (LE m) U 0:=⟨h,λ_ j a=>by omega,BR _,λh=>by cases h⟩
theorem OE.done{c}{m}{a i}(h:OE c m a U i)(d:J m<=i):kA c m:=h.low.least λj b=>h.cov rfl j O
theorem OE.skip{c}{m}{b i}{d}(h:OE c m b d i)(e:(Bf m i).length=0):OE c m b d (i+1):=by
 refine⟨h.low,λg j f=>?_,h.le,h.lt⟩
 rcases Du j i with a|a
 ·exact h.cov g j a
 obtain rfl:j=i:=O;unfold Ky;rw[e];rfl
theorem OE.enter{c}{m}{d i}{e}(h:OE c m d e i)(k:i<J m)(a:(Bf m i).length=14){f}(b:∀y,y∈f↔y∈Cz c i):Ow c m d e i (Dh c (DM c i) (Bf m i)) f 0:=
 ⟨h.low,λg=>⟨h.cov g,rfl,At⟩,h.le,h.lt,λp l y j=>h.low.after k a p l y ((b y).1 j),by rw[RM];exact a⟩
theorem Ow.done{c}{m}{d i j}{f}{t}{b}(h:Ow c m d f i t b j)(o:J b<=j)(a:∀y,y∈b↔y∈Cz c i):OE c m d f (i+1):=by
 refine⟨h.low,λg k p=>?_,h.le,h.lt⟩
 obtain⟨Bs,n,CZ⟩:=h.cov g;rcases Du k i with e|e
 ·exact Bs k e
 obtain rfl:k=i:=O;rw[Dq o]at CZ;unfold Ky;rw[Gg];right;rw[Bt,n];exact λy l=>CZ y ((a y).2 l)
theorem Ow.bits{c}{m}{b i j y:Nat}{d}{t}{e}(h:Ow c m b d i t e j)(a:(Bf m y).length=14):Nz c m b d i t e j y 0:=
 ⟨h,a,λ_ k f=>by omega⟩
theorem Ow.fresh{c}{m}{f i j y:Nat}{n}{t}{b}(h:Ow c m f n i t b j)(s:j<J b)(r:b[j]=y)(a:y<J m)(o:(Bf m y).length=0):
  Nz c (m.set y (Ac 14 U)) f V i t b j y 0:=by
 have v:∀k:Nat,(Ac 14 U).getD k U=false:=by
  intro k;simp only[Bu,LH];split<;>rfl
 have l:=gt m y (Ac 14 U) a;rw[<-ZW a]at l;have q:NE (Bf m y)=15:=by unfold NE;rw[AZ o]
 have w:NE (Ac 14 U)=14:=by rfl
 rw[q,w]at l;have u:=h.le;refine⟨⟨?_,(λg=>by cases g),O,λ_=>by omega,h.bnd,h.tl⟩,?_,(λg=>by cases g)⟩
 ·refine h.low.set a At λp d=>⟨(h.bnd p d y (by rw[<-r];exact EL s)).1,λk e=>?_⟩
  rw[v k]at e;cases e
 rw[PB _ _ a,AZ At];simp
theorem Nz.keep{c}{m}{a i j y q}{f}{t}{b}(h:Nz c m a f i t b j y q)(l:t.getD q U=V->(Bf m y).getD q U=V):Nz c m a f i t b j y (q+1):=by
 refine⟨h.toOw,h.L,λg k n d=>?_⟩
 rcases Du k q with e|e
 ·exact h.bits g k e d
 obtain rfl:k=q:=O;exact l d
theorem Nz.put{c}{m}{s i j y q}{w}{t}{f}(h:Nz c m s w i t f j y q)(C:j<J f)(z:f[j]=y)(a:y<J m)(F:q<14)(v:t.getD q U=V)(n:(Bf m y).getD q U=U):
  Nz c (m.set y ((Bf m y).set q V)) s V i t f j y (q+1):=by
 have r:=h.L;have u:=gt m y ((Bf m y).set q V) a;rw[<-ZW a]at u
 have d:(Bf m y)[q]? =Z false:=by
  rw[Bu]at n;rw[CF O]at n ⊢;simpa using n
 have x:NE (Bf m y)=(Bf m y).count false:=by unfold NE;rw[AO O]
 have E:NE ((Bf m y).set q V)=((Bf m y).set q V).count false:=by unfold NE;rw[AO (by rw[GP];omega)]
 have G:=TK d;rw[x,E]at u;have D:=h.le;refine⟨⟨?_,(λg=>by cases g),O,λ_=>by omega,h.bnd,h.tl⟩,?_,(λg=>by cases g)⟩
 ·refine h.low.set a (by rw[GP];exact r) λp b=>?_
  have d:=h.bnd p b y (by rw[<-z];exact EL C)
  refine⟨d.1,λk l=>?_⟩
  rw[Rv]at l;split at l
  ·rename_i e
   rw[e.1];exact d.2 q v
  rcases h.low.low p b y with o|o
  ·omega
  exact o.2 k l
 rw[PB _ _ a,AZ At,GP];exact r
theorem Nz.done{c}{m}{d i j y q}{f}{t}{b}(h:Nz c m d f i t b j y q)(p:j<J b)(l:b[j]=y)(r:14<=q):Ow c m d f i t b (j+1):=by
 refine⟨h.low,λg=>?_,h.le,h.lt,h.bnd,h.tl⟩
 obtain⟨Bs,o,CZ⟩:=h.cov g;refine⟨Bs,o,λz a=>?_⟩
 rw[ND _ _ p,DQ,Dw]at a;rcases a with a|a
 ·exact CZ z a
 rw[a,l,QJ];refine⟨by have:=h.L;omega,λk e=>?_⟩
 rcases Du k 14 with n|n
 ·exact h.bits g k O e
 have:=h.tl;simp[show(J t)<=k by omega]at e
def FB(c:BY)(x:Int):Bool:=Y ((DM c x.toNat).op=8)
def EH(c:BY):Nat->Int->Int
 |0,x=>x
 |k+1,x=>if FB c x=V then EH c k (DM c x.toNat).a else x
def Ig(c:BY)(t:Int):Int:=if FB c (EH c (J c.l) t)=V then t else EH c (J c.l) t
theorem SZ{c}{k}{x}(h:FB c x=V):EH c (k+1) x=EH c k (DM c x.toNat).a:=by rw[EH,AZ h]
theorem Qo{c}{x}(h:FB c x=U):∀k,EH c k x=x
 |0=>rfl
 |k+1=>by rw[EH,AO (by rw[h];simp)]
def FJ(x:AV)(t:Int):AV:=if x.op=8 then {x with a:=t}else if x.op=9\/x.op=10 then {x with b:=t}else x
def GY(c:BY)(x:AV):AV:=if 0<=CL x then FJ x (Ig c (CL x))else x
def FA(c:BY):BY:={c with l:=c.l.map (GY c)}
theorem UY{c}{x}(h:Ev c x=V)(a:0<=CL x):CL x<J c.l:=by
 by_cases b:x.op=8\/x.op=9\/x.op=10
 ·exact(Vn h b).2
 unfold CL at a;rw[AO O,AO O]at a;omega
def JS(c:BY)(x:Int):Prop:=0<=x/\x<J c.l
theorem YP{c}(h:Bp c=V){x}(d:JS c x)(b:FB c x=V):JS c (DM c x.toNat).a:=by
 have e:x.toNat<J c.l:=by have:=d.1;have:=d.2;omega
 have f:=(Hj h).2.2.2.1 x.toNat e;unfold FB at b;rw[decide_eq_true_eq]at b;rw[IV e]at b ⊢;have:=Vn f (.inl b);unfold CL at this;rw[AZ b]at this;exact this
def Hv(c:BY)(k:Nat):List AV:=(c.l.map (GY c)).take k++c.l.drop k
theorem db(c)(k):(Hv c k).length=J c.l:=by
 unfold Hv;rw[Az,List.length_take,List.length_drop,List.length_map];omega
theorem lW(c):Hv c 0=c.l:=by simp[Hv]
theorem Z3(c):Hv c (J c.l)=(FA c).l:=by
 unfold Hv FA;rw[List.drop_length,II,Dq At]
theorem tB(c)(k)(h:k<J c.l):Hv c (k+1)=(Hv c k).set k (GY c c.l[k]):=by
 have a:k<(c.l.map (GY c)).length:=by simpa using h
 have b:((c.l.map (GY c)).take k).length=k:=by rw[List.length_take];omega
 unfold Hv;rw[List.set_append_right _ _ O,b,Nat.sub_self,List.drop_eq_getElem_cons h,List.set_cons_zero,ND _ _ a];simp
theorem D8(c)(k)(h:k<J c.l):(Hv c k)[k]? =Z c.l[k]:=by
 unfold Hv;rw[Ip (by rw[List.length_take];omega),List.length_take,List.length_map,Nat.min_eq_left O,Nat.sub_self,List.getElem?_drop,Fx,CF h]
theorem ad1(c)(k)(h:k<J c.l)(a:GY c c.l[k]=c.l[k]):Hv c (k+1)=Hv c k:=by
 rw[tB c k h,a];apply List.ext_getElem?;intro i;rw[IT];split
 ·rename_i e
  subst e;rw[D8 c k h];simp[db,h]
 rfl
theorem gc{c}(h:Bp c=V):c.size<=1048576:=by
 obtain⟨a,-,b,-,-⟩:=Hj h;unfold Gf at a;simp only[Aj,decide_eq_true_eq]at a;unfold BY.size;omega
def WL(c:BY)(i:Nat):Bool:=Y ((DM c i).op=8)&&Y ((DM c i).a=(i:Int)+1)
noncomputable def Kg(c:BY)(i:Nat):Bool:=(JN c).getD i U&& !WL c i
noncomputable def DK(c:BY):List Bool:=(DA (J c.l)).map (Kg c)
theorem P8(c):(JN c).length=J c.l:=by simp[JN]
theorem Xz(c):(DK c).length=J c.l:=by simp[DK]
theorem SG(c)(i)(h:i<J c.l):(DK c).getD i U=Kg c i:=by simp[DK,h]
noncomputable def af2(c:BY)(k:Nat):List Bool:=(DA (J c.l)).map fun i=>(JN c).getD i U&& !(Y (i<k)&&WL c i)
def DS(a:List Bool)(k:Nat):Nat:=(a.take k).count V
theorem XH(a):DS a 0=0:=by simp[DS]
theorem Pw(a)(k)(h:k<J a):DS a (k+1)=DS a k+(if a.getD k U=V then 1 else 0):=by
 unfold DS;rw[ND _ _ h,List.count_append];simp only[Bu,CF h,Option.getD_some];cases a[k]<;>simp
theorem Q7(a)(k):DS a k<=k:=by
 unfold DS;exact DO List.count_le_length (List.length_take_le k a)
def Mu(a:List Bool)(k:Nat):List Int:=(DA k).map λi=>(DS a i:Int)
theorem Uv(a)(k):(Mu a k).length=k:=by simp[Mu]
theorem xq(a)(k):Mu a (k+1)=Mu a k++[(DS a k:Int)]:=by
 unfold Mu;rw[List.range_succ,List.map_append];rfl
theorem yi(a)(k i)(h:i<k):(Mu a k)[i]? =Z (DS a i:Int):=by simp[Mu,h]
def IU(a:List Bool)(x:AV):AV:=if 0<=CL x then FJ x (DS a (CL x).toNat:Int)else x
def Da(c:BY)(a:List Bool)(k:Nat):List AV:=(DA k).flatMap λi=>if a.getD i U=V then [IU a (DM c i)]else []
theorem cg(c)(a):Da c a 0=[]:=rfl
theorem Vm{c}{a}{k}(h:a.getD k U=V):Da c a (k+1)=Da c a k++[IU a (DM c k)]:=by
 unfold Da;rw[List.range_succ,List.flatMap_append];simp only[List.flatMap_cons,List.flatMap_nil,II];rw[AZ h]
theorem az{c}{a}{k}(h:a.getD k U=U):Da c a (k+1)=Da c a k:=by
 unfold Da;rw[List.range_succ,List.flatMap_append];simp only[List.flatMap_cons,List.flatMap_nil,II];rw[AO (by rw[h];simp),II]
theorem kf(c)(a)(k):(Da c a k).length<=k:=by
 induction k with
 |zero=>simp[cg]
 |succ k b=>
  cases h:a.getD k U
  ·rw[az h];omega
  rw[Vm h,Az,List.length_singleton];omega
noncomputable def IZ(c:BY):BY:={c with l:=Da c (DK c) (J c.l)}
theorem Tn(x)(t):(FJ x t).op=x.op:=by unfold FJ;split<;>(try split)<;>rfl
theorem ye{x}(_h:0<=CL x):FJ x (CL x)=x:=by
 unfold FJ CL;split
 ·rfl
 split
 ·simp only[]
 rfl
theorem z9(x)(t u):FJ (FJ x t) u=FJ x u:=by
 unfold FJ;by_cases a:x.op=8
 ·simp[a]
 by_cases b:x.op=9\/x.op=10
 ·simp only[AO a,AZ b]
 simp only[AO a,AO b]
theorem G4{x}(h:0<=CL x)(t):CL (FJ x t)=t:=by
 unfold CL at h;unfold CL FJ;by_cases a:x.op=8
 ·simp[a]
 by_cases b:x.op=9\/x.op=10
 ·simp only[AO a,AZ b]
 rw[AO a,AO b]at h;omega
theorem eA{x:AV}(a:1<=x.op)(b:x.op<=13):x.op=1\/x.op=2\/x.op=3\/x.op=4\/x.op=5\/x.op=6\/x.op=7\/x.op=8\/x.op=9\/x.op=10\/x.op=11\/x.op=12\/x.op=13:=O
theorem ot{c d}{x}(h:Ev c x=V)(_hv:d.s=c.s)(_ha:d.r=c.r){t:Int}(j:0<=CL x)(q:0<=t)(p:t<J d.l):Ev d (FJ x t)=true:=by
 have o:=h;unfold Ev at h ⊢;simp only[Aj,decide_eq_true_eq]at h;obtain⟨⟨g,f⟩,n⟩:=h;rw[Tn];cases x with
 |mk k a b i m=>
 simp only at*
 rcases eA (x:=⟨k,a,b,i,m⟩) g f with e|e|e|e|e|e|e|e|e|e|e|e|e<;>simp only at e<;>subst e<;>
  simp[FU,LV,OQ,FJ,CL]at n j ⊢ <;>simp_all
theorem lw{c d}{x}(h:Ev c x=V)(_hv:d.s=c.s)(_ha:d.r=c.r)(k:CL x<0):Ev d x=true:=by
 unfold Ev at h ⊢;simp only[Aj,decide_eq_true_eq]at h;obtain⟨⟨g,f⟩,m⟩:=h;cases x with
 |mk l a b i j=>
 simp only at*
 rcases eA (x:=⟨l,a,b,i,j⟩) g f with e|e|e|e|e|e|e|e|e|e|e|e|e<;>simp only at e<;>subst e<;>
  simp[FU,LV,OQ,CL]at m k ⊢ <;>simp_all<;>omega
theorem eM{c}{i}(h:i<J c.l):(JN c).getD i U=V↔Fg c i:=by
 simp[JN,h]
theorem PE{c}{i}(h:i<J c.l):Cz c i=Fv c.l[i] i:=by
 have:=VO (c:=c) (t:=(i:Int)) (by simpa using h)
 simpa using this
theorem Yq{c}(o:Bp c=V):∀d i,J c.l-i=d->i<J c.l->Fg c i->∃j,i<=j/\j<J c.l/\Kg c j=true:=by
 intro d;induction d with
 |zero=>intro i p h;omega
 | succ d q =>
  intro i p h k;cases f:Kg c i
  ·unfold Kg at f
   rw[(eM h).2 k]at f;simp only[IG,Cp]at f;unfold WL at f;rw[IV h]at f;simp only[Aj,decide_eq_true_eq]at f
   have n:(i:Int)+1∈Cz c (i:Int):=by
    rw[PE h];unfold Fv;simp[f.1,f.2]
   have m:=Py o (Fg.nonneg o k) n;have g:=Fg.step k n;have e:(i:Int)+1=((i+1:Nat):Int):=O;rw[e]at g m;obtain⟨j,a,b,e⟩:=q (i+1) O O g;exact⟨j,O,b,e⟩
  exact⟨i,BR _,h,f⟩
theorem lj(c){a b}(h:a<=b):DS c a<=DS c b:=by
 unfold DS;have:c.take a=(c.take b).take a:=by rw[List.take_take,Nat.min_eq_left h]
 rw[this];exact List.Sublist.count_le _ (List.take_sublist _ _)
theorem kS{ks}{i j n}(d:i<=j)(f:j<n)(e:n<=J ks)(h:ks.getD j U=V):DS ks i<DS ks n:=by
 have a:=lj ks d;have b:=lj ks (show j+1<=n by omega)
 rw[Pw ks j O,AZ h]at b;omega
theorem lZ(c)(a):∀k,k<=J a->(Da c a k).length=DS a k:=by
 intro k;induction k with
 |zero=>intro _;simp[cg,XH]
 |succ k d=>
  intro h;rw[Pw a k O];cases b:a.getD k U
  ·rw[az b,d O];simp
  rw[Vm b,Az,d O];simp
theorem xQ{c}{b}{k}{x}(h:x∈Da c b k):∃i,i<k/\b.getD i U=V/\x=IU b (DM c i):=by
 unfold Da at h;rw[List.mem_flatMap]at h;obtain⟨i,e,a⟩:=h;split at a
 ·rename_i d
  simp at a;exact⟨i,GW.1 e,d,a⟩
 simp at a
theorem vR(c)(d):∀k,Da c d k≠[]->∃j,j<k/\d.getD j U=V/\(∀i,j<i->i<k->d.getD i U=U)/\(Da c d k).getLast? =Z (IU d (DM c j)):=by
 intro k;induction k with
 |zero=>intro h;exact absurd (cg c d) h
 | succ k l =>
  intro h;cases f:d.getD k U
  ·rw[az f]at h ⊢
   obtain⟨j,o,n,g,m⟩:=l h;refine⟨j,O,n,λi a b=>?_,m⟩
   by_cases e:i=k
   ·subst e;exact f
   exact g i a O
  rw[Vm f];exact⟨k,O,f,λi a b=>by omega,At⟩
theorem aa2(a)(x):(IU a x).op=x.op:=by unfold IU;split;exact Tn _ _;rfl
theorem Ya{c}{i}(h:i<J c.l)(a:(DK c).getD i U=V):Fg c i:=by
 rw[SG c i h]at a;unfold Kg at a;simp only[Aj]at a;exact(eM h).1 a.1
theorem jG{x}(h:0<=CL x)(i):CL x∈Fv x i:=by
 unfold CL Fv at*;by_cases a:x.op=8
 ·simp[a]
 by_cases b:x.op=9\/x.op=10
 ·rw[AO a,AZ b]
  rw[AO O,AO a,AZ b];simp
 rw[AO a,AO b]at h;omega
theorem xz{c}(k:Bp c=V):Bp (IZ c)=true:=by
 obtain⟨L,S,Q,E,R⟩:=Hj k;have M:=Xz c;have f:(Da c (DK c) (J c.l)).length=DS (DK c) (J c.l):=lZ c _ _ O;obtain⟨P,-,o,y⟩:=Yq k _ 0 rfl O Fg.zero
 have D:0<DS (DK c) (J c.l):=by
  have:=kS (ks:=DK c) (i:=0) (Di P) o O (by rw[SG c _ o];exact y)
  omega
 unfold Bp;simp only[Aj,decide_eq_true_eq,Bt];refine⟨⟨⟨⟨L,?_⟩,?_⟩,?_⟩,?_⟩
 ·show 1<=(Da c (DK c) (J c.l)).length;omega
 ·show(Da c (DK c) (J c.l)).length<=400
  have:=kf c (DK c) (J c.l);omega
 ·intro x F
  obtain⟨i,s,H,rfl⟩:=xQ F;have G:=Ya s H;rw[IV s];unfold IU;split
  ·rename_i C
   have v:CL c.l[i]∈Cz c (i:Int):=by rw[PE s];exact jG C _
   have z:=Py k O v;obtain⟨t,u⟩:∃t:Nat,CL c.l[i]=t:=⟨(CL c.l[i]).toNat,O⟩;have n:=Fg.step G v;rw[u]at n z;obtain⟨j,a,b,e⟩:=Yq k _ t rfl O n;have:=kS (ks:=DK c) a b O (by rw[SG c _ b];exact e)
   refine ot (d:=IZ c) (E i s) rfl rfl C O ?_;show _<((Da c (DK c) (J c.l)).length:Int);rw[u,Gb];omega
  rename_i C
  exact lw (d:=IZ c) (E i s) rfl rfl O
 unfold Pj;obtain⟨j,a,b,d,e⟩:=vR c (DK c) (J c.l) (by intro h;rw[h]at f;simp at f;omega)
 show(match(Da c (DK c) (J c.l)).getLast? with|some x=>Y (x.op=13)||Y (x.op=8)|none=>U)=V
 rw[e];simp only[aa2,IV a];by_cases g:c.l[j].op=13
 ·simp[g]
 by_cases w:c.l[j].op=8
 ·simp[w]
 exfalso;have N:=rd k j a g w
 have v:(j:Int)+1∈Cz c (j:Int):=by
  rw[PE a];unfold Fv;rw[AO g,AO w];split<;>simp
 have m:=Fg.step (Ya a b) v;rw[show(j:Int)+1=((j+1:Nat):Int) by omega]at m
 obtain⟨i,p,q,r⟩:=Yq k _ (j+1) rfl N m;have:=d i O q;rw[SG c _ q,r]at this;cases this
theorem XL{c}(b:Bp c=V):∀k x,JS c x->JS c (EH c k x)
 |0,_,h=>h
 |k+1,x,h=>by
  cases a:FB c x
  ·rw[Qo a];exact h
  rw[SZ a];exact XL b k _ (YP b h a)
theorem qI{c}(a:Bp c=V){x}(h:JS c x):JS c (Ig c x):=by
 unfold Ig;split
 ·exact h
 exact XL a _ _ h
theorem kz(c)(x):(GY c x).op=x.op:=by unfold GY;split;exact Tn _ _;rfl
theorem QL(c):(FA c).l.length=J c.l:=by simp[FA]
theorem bi{c}(j:Bp c=V):Bp (FA c)=true:=by
 obtain⟨k,o,n,b,a⟩:=Hj j;unfold Bp;simp only[Aj,decide_eq_true_eq,Bt];refine⟨⟨⟨⟨k,by rw[QL];exact o⟩,by rw[QL];exact n⟩,?_⟩,?_⟩
 ·intro x p
  obtain⟨y,m,rfl⟩:=List.mem_map.1 p;obtain⟨i,e,rfl⟩:=List.getElem_of_mem m;unfold GY;split
  ·rename_i f
   have g:=qI j ⟨f,UY (b i e) f⟩;exact ot (d:=FA c) (b i e) rfl rfl f g.1 (by rw[QL];exact g.2)
  exact lw (d:=FA c) (b i e) rfl rfl O
 unfold Pj at a ⊢;show(match(c.l.map (GY c)).getLast? with|some x=>Y (x.op=13)||Y (x.op=8)|none=>U)=V
 rw[List.getLast?_map];cases h:c.l.getLast? with
 |none=>rw[h]at a;cases a
 |some x=>rw[h]at a;simpa[kz]using a
theorem Xr(c):∀a b x,EH c (a+b) x=EH c b (EH c a x)
 |0,b,x=>by simp[EH]
 |a+1,b,x=>by
  rw[show a+1+b=(a+b)+1 by omega]
  cases d:FB c x
  ·rw[Qo d,Qo d,Qo d]
  rw[SZ d,SZ d,Xr c a b]
theorem sR{c}{x}{k}(h:FB c (EH c k x)=V):∀j,j<=k->FB c (EH c j x)=true:=by
 intro j b;cases a:FB c (EH c j x)
 ·have:=Xr c j (k-j) x
  rw[show j+(k-j)=k by omega,Qo a]at this
  rw[this,a]at h;cases h
 rfl
theorem va{c}{x}{i j}(l:i<j)(g:EH c i x=EH c j x)(d:FB c (EH c j x)=V):∀k,FB c (EH c k x)=true:=by
 have a:=sR d;intro k;induction k using Nat.strongRecOn with
 |_ k e=>
  rcases Du k (j+1)with h|h
  ·exact a k O
  have b:=Xr c j (k-j) x;have f:=Xr c i (k-j) x;rw[<-g, <-f,show j+(k-j)=k by omega]at b
  rw[b];exact e _ O
theorem ad4{c}(t:Bp c=V){x}(s:JS c x):∀m,(∀i j,i<j->j<m->EH c i x≠EH c j x)->
  ∃d,J d=J c.l/\d.count U+m=J c.l/\∀p:Nat,d[p]? =Z V->∃i,i<m/\EH c i x=p:=by
 intro m;induction m with
 |zero=>intro _;exact⟨Ac (J c.l) U,At,At,λp g=>by simp[LH]at g⟩
 | succ m u =>
  intro o;obtain⟨d,r,v,n⟩:=u λi j a b=>o i j a O
  have g:=XL t m x s;obtain⟨p,e⟩:∃p:Nat,EH c m x=p:=⟨(EH c m x).toNat,by have:=g.1;omega⟩
  have f:p<J d:=by have:=g.2;rw[e]at this;omega
  have h:d[p]? =Z false:=by
   rw[CF f];cases h:d[p]
   ·rfl
   obtain⟨i,a,b⟩:=n p (by rw[CF f,h])
   exact absurd (b.trans e.symm) (o i m a O)
  refine⟨d.set p V,by simpa using r,by have:=TK h;omega,λq k=>?_⟩
  rcases Ym k with rfl|k
  ·exact⟨m,O,e⟩
  obtain⟨i,a,b⟩:=n q k;exact⟨i,O,b⟩
theorem wn{c}(g:Bp c=V){x}(f:JS c x)(h:FB c (EH c (J c.l) x)=V):∀k,FB c (EH c k x)=true:=by
 by_cases d:∀i j,i<j->j<J c.l+1->EH c i x≠EH c j x
 ·obtain⟨q,n,p,o⟩:=ad4 g f _ d
  omega
 have:∃i j,i<j/\j<J c.l+1/\EH c i x=EH c j x:=by
  apply Classical.byContradiction;intro m;exact d λi j a b e=>m ⟨i,j,a,b,e⟩
 obtain⟨i,j,a,b,e⟩:=this;exact va a e (sR h j O)
theorem Wr{c}{i}(h:i<J c.l):DM (FA c) i=GY c (DM c i):=by
 rw[IV h,IV (by rw[QL];exact h)]
 simp[FA]
theorem dR{c}{x}(h:JS c x):FB (FA c) x=FB c x:=by
 unfold FB;rw[Wr (by have:=h.1;have:=h.2;omega),kz]
theorem zQ{c}(o:Bp c=V){t}(r:JS c t):Ig (FA c) (Ig c t)=Ig c t:=by
 cases n:FB c (EH c (J c.l) t)
 ·have e:Ig c t=EH c (J c.l) t:=by unfold Ig;rw[n];simp
  rw[e];have u:FB (FA c) (EH c (J c.l) t)=false:=by rw[dR (XL o _ _ r)];exact n
  unfold Ig;rw[Qo u,u];simp
 have e:Ig c t=t:=by unfold Ig;rw[n];simp
 rw[e]
 have p:∀(k:Nat) (x:Int),JS c x->(∀m,FB c (EH c m x)=V)->FB (FA c) (EH (FA c) k x)=true:=by
  intro k;induction k with
  |zero=>intro x d j;rw[EH,dR d];exact j 0
  | succ k w =>
   intro x d j;have b:FB c x=true:=j 0;have q:x.toNat<J c.l:=by have:=d.1;have:=d.2;omega
   rw[SZ (by rw[dR d];exact b),Wr q]
   have f:(DM c x.toNat).op=8:=by unfold FB at b;simpa using b
   have i:=YP o d b;have s:CL (DM c x.toNat)=(DM c x.toNat).a:=by unfold CL;rw[AZ f]
   have g:∀m,FB c (EH c m (DM c x.toNat).a)=true:=λm=>by have:=j (m+1);rwa[SZ b]at this
   have h:Ig c (DM c x.toNat).a=(DM c x.toNat).a:=by unfold Ig;rw[g];simp
   have v:(GY c (DM c x.toNat)).a=(DM c x.toNat).a:=by
    unfold GY;rw[s,AZ i.1,h];unfold FJ;rw[AZ f]
   rw[v];exact w _ i g
 have:=p (FA c).l.length t r (wn o r n);unfold Ig;rw[this];simp
theorem v9{c}(d:Bp c=V):FA (FA c)=FA c:=by
 unfold FA;simp only[BY.mk.injEq,true_and,List.map_map];apply List.map_congr_left;intro x h;obtain⟨i,g,rfl⟩:=List.getElem_of_mem h;have b:=(Hj d).2.2.2.1 i g;show GY (FA c) (GY c c.l[i])=GY c c.l[i];by_cases a:0<=CL c.l[i]
 ·have f:JS c (CL c.l[i]):=⟨a,UY b a⟩
  have e:GY c c.l[i]=FJ c.l[i] (Ig c (CL c.l[i])):=by unfold GY;rw[AZ a]
  rw[e];unfold GY;rw[G4 a,AZ (qI d f).1,z9,zQ d f]
 have e:GY c c.l[i]=c.l[i]:=by unfold GY;rw[AO a]
 rw[e];unfold GY;rw[AO a]
theorem zA{c}(q:Bp c=V)(h:(IZ c).l.length=J c.l):IZ c=c:=by
 have p:=Xz c;have m:DS (DK c) (J c.l)=J c.l:=by rw[<-lZ c _ _ O];exact h
 have d:∀b∈DK c,b=true:=by
  have:(DK c).count V=(DK c).length:=by
   unfold DS at m;rw[Dq O]at m;omega
  intro b o;exact(List.count_eq_length.1 this b o).symm
 have a:∀i,i<J c.l->(DK c).getD i U=true:=λi e=>by
  rw[Bu,CF O,Option.getD_some];exact d _ (EL _)
 have r:∀i,i<=J c.l->DS (DK c) i=i:=by
  intro i;induction i with
  |zero=>intro _;exact XH _
  |succ i g=>intro e;rw[Pw _ _ O,g O,AZ (a i O)]
 have f:∀i,i<J c.l->IU (DK c) (DM c i)=DM c i:=by
  intro i e;rw[IV e];unfold IU;split
  ·rename_i n
   have:=UY ((Hj q).2.2.2.1 i e) n;rw[r _ O,show((CL c.l[i]).toNat:Int)=CL c.l[i] by omega]
   exact ye n
  rfl
 have j:∀k,k<=J c.l->Da c (DK c) k=c.l.take k:=by
  intro k;induction k with
  |zero=>intro _;simp[cg]
  |succ k g=>
   intro s;rw[Vm (a k O),g O,f k O,IV O,ND _ _ O]
 unfold IZ;rw[j _ (BR _),Dq (BR _)]
noncomputable def Ii(c:BY):BY:=IZ (FA c)
theorem cj{c}(a:Bp c=V):Bp (Ii c)=true:=xz (bi a)
inductive MC:BY->BY->Prop
 |stop {c:BY}:Ii c=c->MC c c
 |step {c r:BY}:Ii c≠c->MC (Ii c) r->MC c r
theorem eO{c r s}(h:MC c r):MC c s->r=s:=by
 induction h with
 |stop h=>intro k;cases k with
  |stop=>rfl
  |step k _=>exact absurd h k
 |step h _ a=>intro k;cases k with
  |stop k=>exact absurd k h
  |step _ k=>exact a k
theorem U7(c):(Ii c).l.length<=J c.l:=by
 have:=kf (FA c) (DK (FA c)) (FA c).l.length;rw[QL]at this;unfold Ii IZ;rw[QL];exact this
open Classical in
noncomputable def LL(c:BY):Nat:=2*J c.l+(if FA c=c then 0 else 1)
theorem sY{c}(b:Bp c=V)(h:Ii c≠c):LL (Ii c)<LL c:=by
 have g:=U7 c;by_cases a:(Ii c).l.length=J c.l
 ·have e:Ii c=FA c:=zA (bi b) (by rw[QL];exact a)
  have d:LL (Ii c)=2*J c.l:=by
   unfold LL;rw[a,e,AZ (v9 b)];simp
  have f:LL c=2*J c.l+1:=by
   unfold LL;rw[AO (by rw[<-e];exact h)]
  omega
 have d:LL (Ii c)<=2*(Ii c).l.length+1:=by unfold LL;split<;>omega
 have f:2*J c.l<=LL c:=by unfold LL;split<;>omega
 omega
theorem j7:∀m c,LL c<=m->Bp c=V->∃r,MC c r/\Bp r=true:=by
 intro m;induction m using Nat.strongRecOn with
 |_ m d=>
  intro c f a;by_cases h:Ii c=c
  ·exact⟨c,.stop h,a⟩
  obtain⟨r,b,e⟩:=d (LL (Ii c)) (by have:=sY a h;omega) _ (BR _) (cj a)
  exact⟨r,.step h b,e⟩
open Classical in
noncomputable def Is(c:BY):BY:=if h:∃r,MC c r then Classical.choose h else c
theorem Vu{c}(f:Bp c=V):MC c (Is c)/\Bp (Is c)=true:=by
 obtain⟨r,b,d⟩:=j7 _ c (BR _) f;have a:∃r,MC c r:=⟨r,b⟩;have e:MC c (Is c):=by unfold Is;rw[dif_pos a];exact Classical.choose_spec a
 exact⟨e,by rw[<-eO b e];exact d⟩
theorem a6{c}(a:Bp c=V)(h:Ii c=c):Is c=c:=eO (Vu a).1 (.stop h)
theorem ac2{c}(a:Bp c=V)(h:Ii c≠c):Is (Ii c)=Is c:=by
 have b:=(Vu (cj a)).1;exact(eO (Vu a).1 (.step h b)).symm
theorem U9{m}{i}(h:J m<=i.toNat):Bf m i=[]:=by simp[Bf,h]
noncomputable def wg(c:BY)(i:Nat):List Bool:=open Classical in if ∀p,Kc c p->(Bf p i).length≠0 then(DA 14).map fun k=>Y (∀p,Kc c p->(Bf p i).getD k U=V)else []
noncomputable def af4(c:BY):List (List Bool):=(DA (J c.l)).map (wg c)
theorem Ss{c}{m}:VF c m (J m)=U↔∀i,i<J m->(Bf m i).length=0\/HY c (DM c i) (Bf m i)=0:=by
 unfold VF;rw[Bool.eq_false_iff,ne_eq,List.any_eq_true];constructor
 ·intro h i a
  rcases Nat.eq_zero_or_pos (Bf m i).length with b|b
  ·exact .inl b
  right;by_cases e:HY c (DM c i) (Bf m i)=0
  ·exact e
  exact absurd ⟨i,GW.2 a,by unfold jX;rw[decide_eq_true b,decide_eq_true e];rfl⟩ h
 rintro h ⟨i,a,f⟩;simp only[jX,Aj,decide_eq_true_eq]at f;rcases h i (GW.1 a)with d|d
 ·omega
 exact f.2 d
def Mw(c:BY):Prop:=∃p,Kc c p/\VF c p (J p)=U
theorem rg{r s t}(h:GO r s=V)(k:GO s t=V):GO r t=true:=by
 rw[QJ]at*;exact⟨k.1,h.2.trans k.2⟩
theorem rE(c){x}(h:x.op=8)(t):Dh c x t=t:=by
 unfold Dh GT;simp[h]
theorem SA{c}{p}(d:Kc c p){i:Int}(e:0<=i)(g:i<J c.l)(b:(Bf p i).length≠0){t}(f:t∈Cz c i):GO (Dh c (DM c i.toNat) (Bf p i)) (Bf p t)=true:=by
 obtain⟨y,rfl⟩:=Int.eq_ofNat_of_zero_le e;have a:=d.2.2.2 y (by rw[d.1];omega)
 unfold Ky at a;rw[decide_eq_false b,Bool.false_or,Bt]at a;exact a t f
theorem kF{c}(f:Bp c=V){p}(d:Kc c p){i}(g:Fg c i):(Bf p i).length≠0:=by
 induction g with
 |zero=>exact d.2.2.1
 | @step i t j k b =>
  have a:=Fg.nonneg f j
  have h:i<J c.l:=by
   rcases(show i<(J c.l)\/(J c.l:Int)<=i by omega)with e|e
   ·exact e
   rw[U9 (by rw[d.1];omega)]at b;simp at b
  have:=((QJ _ _).1 (SA d a h b k)).1;omega
theorem E8{c}{t}(e:JS c t)(b:FB c t=V):(DM c t.toNat).a∈Cz c t:=by
 have d:t.toNat<J c.l:=by have:=e.1;have:=e.2;omega
 unfold FB at b;rw[decide_eq_true_eq,IV d]at b;rw[VO d,IV d];unfold Fv;rw[AO O,AZ b];simp
theorem qJ{c}(e:Bp c=V){p}(f:Kc c p){r}:∀k t,JS c t->GO r (Bf p t)=V->GO r (Bf p (EH c k t))=V
 |0,_,_,h=>h
 |k+1,t,b,h=>by
  cases a:FB c t
  ·rw[Qo a];exact h
  rw[SZ a];have d:=SA f b.1 b.2 (by have:=((QJ _ _).1 h).1;omega) (E8 b a)
  rw[rE c (by unfold FB at a;simpa using a)]at d
  exact qJ e f k _ (YP e b a) (rg h d)
theorem C7{c}(b:Bp c=V){p}(a:Kc c p){r}{t}(d:JS c t)(h:GO r (Bf p t)=V):GO r (Bf p (Ig c t))=true:=by
 unfold Ig;split
 ·exact h
 exact qJ b a _ _ d h
theorem li(c){x}(h:0<=CL x)(t)(r):Dh c (FJ x t) r=Dh c x r:=by
 have d:x.op=8\/x.op=9\/x.op=10:=by
  unfold CL at h;split at h
  ·exact .inl Ab
  split at h
  ·exact .inr Ab
  omega
 have a:∀y:AV,y.op=x.op->GT c y r=none:=λy b=>by
  unfold GT;rw[b];rw[AO O,AO O,AO O,AO O,AO O]
 unfold Dh;rw[a _ (Tn x t),a x rfl]
theorem pW(c){x}(h:0<=CL x)(t)(r):HY c (FJ x t) r=HY c x r:=by
 unfold CL at h;by_cases a:x.op=8
 ·unfold FJ HY
  simp[a]
 rw[AO a]at h;by_cases b:x.op=9\/x.op=10
 ·have f:¬x.op=3:=O
  have e:¬x.op=4:=O;have d:¬x.op=5:=O;unfold FJ HY;rw[AO a,AZ b];simp only;rw[AO f,AO e,AO d,AZ b,AO f,AO e,AO d]
 rw[AO b]at h;omega
theorem rx{x}(h:0<=CL x)(t i j y)(a:y∈Fv (FJ x t) j):y=t\/(y=j+1/\i+1∈Fv x i):=by
 unfold CL at h;by_cases b:x.op=8
 ·unfold FJ Fv at a
  simp[b]at a;exact .inl a
 rw[AO b]at h;by_cases c:x.op=9\/x.op=10
 ·unfold FJ Fv at a
  rw[AO b,AZ c]at a;simp only at a;rw[AO O,AO b,AZ c]at a;simp only[Eb,It,or_false]at a;rcases a with rfl|rfl
  ·right
   refine⟨rfl,?_⟩;unfold Fv;rw[AO O,AO b,AZ c];simp
  exact .inl rfl
 rw[AO c]at h;omega
theorem ae1{x}(_h:¬0<=CL x)(d:x.op≠8/\x.op≠9/\x.op≠10)(i j y)(a:y∈Fv x j):y=j+1/\i+1∈Fv x i:=by
 unfold Fv at a ⊢;split at a
 ·simp at a
 rename_i b
 have c:¬(x.op=9\/x.op=10):=O;rw[AO d.1,AO c]at a;rw[AO b,AO d.1,AO c];simp at a ⊢;exact a
theorem xI{c}{x}(a:Ev c x=V)(h:¬0<=CL x):x.op≠8/\x.op≠9/\x.op≠10:=by
 have:=Vn a;refine⟨λe=>?_,λe=>?_,λe=>?_⟩
 ·exact h (this (.inl e)).1
 ·exact h (this (.inr (.inl e))).1
 exact h (this (.inr (.inr e))).1
theorem n6{c}(n:Bp c=V)(h:Mw c):Mw (FA c):=by
 obtain⟨p,e,o⟩:=h;have s:(FA c).l.length=J c.l:=QL c;have j:∀x r,Dh (FA c) x r=Dh c x r:=λ_ _=>rfl
 have k:∀x r,HY (FA c) x r=HY c x r:=λ_ _=>rfl
 refine⟨p,⟨e.1.trans s.symm,e.2.1,e.2.2.1,λi d=>?_⟩,Ss.2 λi d=>?_⟩
 ·rw[e.1]at d
  unfold Ky;rcases Nat.eq_zero_or_pos (Bf p i).length with a|a
  ·rw[decide_eq_true a];rfl
  rw[decide_eq_false O,Bool.false_or,Bt,Wr d];intro t f;have m:=(Hj n).2.2.2.1 i d
  have g:Cz (FA c) (i:Int)=Fv (GY c (DM c i)) i:=by
   rw[PE O];have:=Wr d;rw[IV O]at this;rw[this]
  rw[g]at f
  have b:∀t,t∈Fv (DM c i) (i:Int)->GO (Dh c (DM c i) (Bf p i)) (Bf p t)=true:=λt f=>by
   have:=SA e (i:=(i:Int)) O O O (t:=t) (by rw[PE d, <-IV d];exact f)
   simpa using this
  rw[<-IV d]at m;rw[j];unfold GY at f ⊢;split at f
  ·rename_i a
   rw[AZ a,li c a];rcases rx a _ i i t f with rfl|⟨rfl,q⟩
   ·exact C7 n e ⟨a,UY m a⟩ (b _ (jG a i))
   exact b _ q
  rename_i a
  rw[AO a];exact b t f
 rw[e.1]at d;rcases Ss.1 o i (by rw[e.1];exact d)with a|a
 ·exact .inl a
 right;rw[Wr d,k];unfold GY;split
 ·rw[pW c Ab];exact a
 exact a
def Ke{a:Type}(f:Nat->a)(b:List Bool)(k:Nat):List a:=(DA k).flatMap λi=>if b.getD i U=V then [f i]else []
theorem gW{b:Type}{f:Nat->b}{a}{k}(h:a.getD k U=V):Ke f a (k+1)=Ke f a k++[f k]:=by
 unfold Ke;rw[List.range_succ,List.flatMap_append];simp only[List.flatMap_cons,List.flatMap_nil,II];rw[AZ h]
theorem lL{b:Type}{f:Nat->b}{a}{k}(h:a.getD k U=U):Ke f a (k+1)=Ke f a k:=by
 unfold Ke;rw[List.range_succ,List.flatMap_append];simp only[List.flatMap_cons,List.flatMap_nil,II];rw[AO (by rw[h];decide),II]
theorem fK{d:Type}(f:Nat->d)(a):∀k,k<=J a->(Ke f a k).length=DS a k:=by
 intro k;induction k with
 |zero=>intro _;simp[Ke,XH]
 |succ k c=>
  intro h;rw[Pw a k O];cases b:a.getD k U
  ·rw[lL b,c O];simp
  rw[gW b,Az,c O];simp
theorem nS{g:Type}(f:Nat->g)(a){j}(d:a.getD j U=V):∀n,j<n->n<=J a->(Ke f a n)[DS a j]? =Z (f j):=by
 intro n;induction n with
 |zero=>intro h;omega
 | succ n k =>
  intro l m;by_cases e:j=n
  ·subst e
   rw[gW d, <-fK f a j O];simp
  have c:=k O O;cases b:a.getD n U
  ·rw[lL b];exact c
  rw[gW b];obtain⟨i,_⟩:=EA.1 c;rw[Fb i];exact c
theorem ab1(c):∀n,n<=J c->∀q,q<DS c n->∃j,j<n/\c.getD j U=V/\DS c j=q:=by
 intro n;induction n with
 |zero=>intro _ q d;rw[XH]at d;omega
 | succ n g =>
  intro h q d;rw[Pw c n O]at d;by_cases f:q<DS c n
  ·obtain⟨j,a,b,e⟩:=g O q f
   exact⟨j,O,b,e⟩
  split at d
  ·exact⟨n,O,Ab,O⟩
  omega
theorem yu{c}(w:Bp c=V)(h:Mw c):Mw (IZ c):=by
 obtain⟨p,N,hb⟩:=h;have aF:=Xz c;have hn:=(Hj w).2.1;have T:(IZ c).l=Ke (λi=>IU (DK c) (DM c i)) (DK c) (J c.l):=rfl
 have S:(IZ c).l.length=DS (DK c) (J c.l):=by rw[T,fK _ _ _ O]
 have E:(Ke (λi=>Bf p (i:Int)) (DK c) (J c.l)).length=DS (DK c) (J c.l):=fK _ _ _ O
 have o:∀j,j<J c.l->(DK c).getD j U=V->Bf (Ke (λi=>Bf p (i:Int)) (DK c) (J c.l)) (DS (DK c) j:Int)=Bf p (j:Int):=λj hj L=>by
  have:=nS (λi=>Bf p (i:Int)) (DK c) L (J c.l) hj O
  have h9:∀(l:List (List Bool)) (k:Nat) (r:List Bool),l[k]? =Z r->Bf l (k:Int)=r:=λl k r h=>by
   unfold Bf;rw[Gb,Bu,h];rfl
  exact h9 _ _ _ this
 have u:∀j,j<J c.l->(DK c).getD j U=V->DM (IZ c) (DS (DK c) j)=IU (DK c) (DM c j):=λj hj L=>by
  have:=nS (λi=>IU (DK c) (DM c i)) (DK c) L (J c.l) hj O
  unfold DM;rw[T,Bu,this];rfl
 have aC:∀x r,Dh (IZ c) x r=Dh c x r:=λ_ _=>rfl
 have aE:∀x r,HY (IZ c) x r=HY c x r:=λ_ _=>rfl
 have aD:∀(d t:Nat) (r:List Bool),J c.l-t=d->t<J c.l->Fg c (t:Int)->GO r (Bf p (t:Int))=V->GO r (Bf (Ke (λi=>Bf p (i:Int)) (DK c) (J c.l)) (DS (DK c) t:Int))=true:=by
  intro d;induction d with
  |zero=>intro t r f a;omega
  | succ d ih =>
   intro t r f a g D;cases L:(DK c).getD t U
   ·have b:=L
    rw[SG c t a]at b;unfold Kg at b;rw[(eM a).2 g]at b;simp only[IG,Cp]at b;unfold WL at b;simp only[Aj,decide_eq_true_eq]at b
    have hm:(t:Int)+1∈Cz c (t:Int):=by
     rw[PE a, <-IV a];unfold Fv;rw[AO O,AZ b.1,b.2];simp
    have F:=Py w (Fg.nonneg w g) hm;have Q:=Fg.step g hm;have M:=SA N (i:=(t:Int)) O O (kF w N g) hm;rw[rE c (by simpa using b.1)]at M
    have e:(t:Int)+1=((t+1:Nat):Int):=O;rw[e]at Q F M;have:=ih (t+1) r O O Q (rg D M);rw[Pw _ _ O,L]at this;simpa using this
   rw[o t a L];exact D
 have m:∀q,q<DS (DK c) (J c.l)->∃j,j<J c.l/\(DK c).getD j U=V/\DS (DK c) j=q:=ab1 _ _ O
 have R:0<DS (DK c) (J c.l):=by
  obtain⟨j,f,a,z⟩:=Yq w _ 0 rfl O Fg.zero;rw[<-SG c j a]at z;have:=kS (i:=0) (j:=j) (n:=J c.l) O a O z;omega
 refine⟨Ke (λi=>Bf p (i:Int)) (DK c) (J c.l),⟨E.trans S.symm,?_,?_,λq P=>?_⟩,Ss.2 λq P=>?_⟩
 ·rw[Bt]
  intro r g;unfold Ke at g;rw[List.mem_flatMap]at g;obtain⟨i,_,g⟩:=g;split at g
  ·rw[Dw]at g
   subst g;have:=Wd N.2.1 (i:Int);simp only[Pb,Gg,decide_eq_true_eq];exact this
  simp at g
 ·obtain⟨j,f,a,z⟩:=m 0 R
  have:=o j f a;rw[z]at this;rw[show((0:Nat):Int)=0 from rfl]at this;rw[this];exact kF w N (Ya f a)
 ·rw[E]at P
  obtain⟨j,f,a,rfl⟩:=m q P;have g:=Ya f a;have X:=kF w N g;unfold Ky;rw[o j f a,u j f a,decide_eq_false X,Bool.false_or,Bt];intro t G;have hx:=(Hj w).2.2.2.1 j f;rw[<-IV f]at hx
  have aB:Cz (IZ c) (DS (DK c) j:Int)=Fv (IU (DK c) (DM c j)) (DS (DK c) j:Int):=by
   have hl:DS (DK c) j<(IZ c).l.length:=by rw[S];exact P
   rw[PE hl, <-IV hl,u j f a]
  rw[aB]at G
  have v:∀t:Int,t∈Fv (DM c j) (j:Int)->GO (Dh c (DM c j) (Bf p (j:Int))) (Bf (Ke (λi=>Bf p (i:Int)) (DK c) (J c.l)) (DS (DK c) t.toNat:Int))=true:=λt G=>by
   have H:t∈Cz c (j:Int):=by rw[PE f, <-IV f];exact G
   have F:=Py w (Fg.nonneg w g) H;have h5:=SA N (i:=(j:Int)) O O X H;obtain⟨y,rfl⟩:=Int.eq_ofNat_of_zero_le F.1;have:=aD _ y _ rfl O (Fg.step g H) h5;simpa using this
  have C:DS (DK c) (j+1)=DS (DK c) j+1:=by rw[Pw _ _ O,AZ a]
  rw[aC];unfold IU at G ⊢;split at G
  ·rename_i s
   rw[AZ s,li c s];rcases rx s _ j _ t G with rfl|⟨rfl,z⟩
   ·exact v _ (jG s j)
   have:=v _ z;rw[show((j:Int)+1).toNat=j+1 by omega,C]at this
   rw[show((DS (DK c) j:Int)+1)=((DS (DK c) j+1:Nat):Int) by omega]
   exact this
  rename_i s
  rw[AO s];obtain⟨rfl,z⟩:=ae1 s (xI hx s) j _ t G;have:=v _ z;rw[show((j:Int)+1).toNat=j+1 by omega,C]at this
  rw[show((DS (DK c) j:Int)+1)=((DS (DK c) j+1:Nat):Int) by omega]
  exact this
 rw[E]at P;obtain⟨j,f,a,rfl⟩:=m q P;rw[o j f a,u j f a,aE];rcases Ss.1 hb j (by rw[N.1];exact f)with s|s
 ·exact .inl s
 right;unfold IU;split
 ·rw[pW c Ab];exact s
 exact s
theorem xS{c r}(h:MC c r):Bp c=V->Mw c->Mw r:=by
 induction h with
 |stop h=>intro _ b;exact b
 |step h _ d=>intro a b;exact d (cj a) (yu (bi a) (n6 a b))
theorem M7{c}(a:Bp c=V)(h:Mw c):Mw (Is c):=xS (Vu a).1 a h
def Qn(b:Bool):Int:=if b then 1 else 0
def Hu(k a b:Int):Int:=
 if k=4 then(a+b).tmod 256 else if k=5 then(a-b+256).tmod 256 else if k=6 then(a*b).tmod 256
 else if k=7 then((a.toNat&&&b.toNat:Nat):Int)else if k=8 then((a.toNat^^^b.toNat:Nat):Int)else if k=9 then Qn (Y (a=b))else Qn (Y (a<b))
theorem rS(b):0<=Qn b/\Qn b<=255:=by cases b<;>simp[Qn]
theorem O5{k a b}(f:0<=a)(j:a<=255)(g:0<=b)(l:b<=255):0<=Hu k a b/\Hu k a b<=255:=by
 unfold Hu;have i:0<=a*b:=Int.mul_nonneg f g;have h:a.toNat<2^8:=O;have c:b.toNat<2^8:=O;have e:a.toNat&&&b.toNat<2^8:=Nat.and_lt_two_pow _ c;have d:a.toNat^^^b.toNat<2^8:=Nat.xor_lt_two_pow h c;split
 ·rw[Int.tmod_eq_emod_of_nonneg O];omega
 split
 ·rw[Int.tmod_eq_emod_of_nonneg O];omega
 split
 ·rw[Int.tmod_eq_emod_of_nonneg i];omega
 split
 ·omega
 split
 ·omega
 split
 ·exact rS _
 exact rS _
end Go.Proofs.YtfbeblgnjeokaaaGreat

namespace Go.Proofs.YtfbeblgnjeokaaaGreat
open Go Go.RowKit
theorem P3(a b:Nat)(g:a<9223372036854775808)(f:b<9223372036854775808):bits .and .i64 a b=((a&&&b)):=by
 have e:a&&&b<2^63:=Nat.and_lt_two_pow _ O
 have c:(BitVec.ofInt 64 (a:Int)).toNat=a:=by
  rw[BitVec.ofInt_natCast,BitVec.toNat_ofNat];exact Nat.mod_eq_of_lt O
 have d:(BitVec.ofInt 64 (b:Int)).toNat=b:=by
  rw[BitVec.ofInt_natCast,BitVec.toNat_ofNat];exact Nat.mod_eq_of_lt O
 show IntKind.i64.wrap ((BitVec.ofInt 64 (a:Int)&&&BitVec.ofInt 64 (b:Int)).toNat:Int)=_;rw[BitVec.toNat_and,c,d,IntKind.wrap_i64];omega
theorem T6(a b:Nat)(g:a<9223372036854775808)(f:b<9223372036854775808):bits .xor .i64 a b=((a^^^b)):=by
 have e:a^^^b<2^63:=Nat.xor_lt_two_pow O O
 have c:(BitVec.ofInt 64 (a:Int)).toNat=a:=by
  rw[BitVec.ofInt_natCast,BitVec.toNat_ofNat];exact Nat.mod_eq_of_lt O
 have d:(BitVec.ofInt 64 (b:Int)).toNat=b:=by
  rw[BitVec.ofInt_natCast,BitVec.toNat_ofNat];exact Nat.mod_eq_of_lt O
 show IntKind.i64.wrap ((BitVec.ofInt 64 (a:Int)^^^BitVec.ofInt 64 (b:Int)).toNat:Int)=_;rw[BitVec.toNat_xor,c,d,IntKind.wrap_i64];omega
theorem V4{a b}(c:0<=a)(f:a<=255)(d:0<=b)(e:b<=255):bits .and .i64 a b=((a.toNat&&&b.toNat)):=by
 rw[<-P3 _ _ O O,Int.toNat_of_nonneg c,Int.toNat_of_nonneg d]
theorem t1{a b}(c:0<=a)(f:a<=255)(d:0<=b)(e:b<=255):bits .xor .i64 a b=((a.toNat^^^b.toNat)):=by
 rw[<-T6 _ _ O O,Int.toNat_of_nonneg c,Int.toNat_of_nonneg d]
theorem km(b)(w):Calls prog 187 #[.bool b] w λe a=>e=.returned (.int .i64 (Qn b))/\w=a:=by
 cases b
 all_goals
  go_enter func187,ntmps187;go_wp2_with fail;go_ret;exact⟨rfl,rfl⟩
theorem ac1(k a b)(w)(o:0<=a)(p:a<=255)(l:0<=b)(n:b<=255):Calls prog 170 #[.int .i64 k,.int .i64 a,.int .i64 b] w λe r=>e=.returned (.int .i64 (Hu k a b))/\w=r:=by
 have q:0<=a*b:=Int.mul_nonneg o l
 have j:a*b<=65025:=by
  have:=Int.mul_le_mul p n l (by omega:(0:Int)<=255)
  omega
 by_cases g:k=4
 ·subst g
  have c:Hid (Hu 4 a b=(a+b).tmod 256):=by unfold Hid Hu;simp
  go_enter func170,ntmps170;go_wp2_with fail;go_ret;exact⟨KM (by rw[c.out];exact(Int.tmod_eq_emod_of_nonneg (by first|assumption|omega)).symm),rfl⟩
 by_cases f:k=5
 ·subst f
  have c:Hid (Hu 5 a b=(a-b+256).tmod 256):=by unfold Hid Hu;simp
  go_enter func170,ntmps170;go_wp2_with fail;go_ret;exact⟨KM (by rw[c.out];exact(Int.tmod_eq_emod_of_nonneg (by first|assumption|omega)).symm),rfl⟩
 by_cases h:k=6
 ·subst h
  have c:Hid (Hu 6 a b=(a*b).tmod 256):=by unfold Hid Hu;simp
  go_enter func170,ntmps170;go_wp2_with fail;go_ret;exact⟨KM (by rw[c.out];exact(Int.tmod_eq_emod_of_nonneg (by first|assumption|omega)).symm),rfl⟩
 by_cases d:k=7
 ·subst d
  have c:Hid (Hu 7 a b=bits .and .i64 a b):=by unfold Hid;rw[V4 o p l n];unfold Hu;simp
  go_enter func170,ntmps170;go_wp2_with fail;go_ret;exact⟨KM (by rw[c.out]),rfl⟩
 by_cases i:k=8
 ·subst i
  have c:Hid (Hu 8 a b=bits .xor .i64 a b):=by unfold Hid;rw[t1 o p l n];unfold Hu;simp
  go_enter func170,ntmps170;go_wp2_with fail;go_ret;exact⟨KM (by rw[c.out]),rfl⟩
 have t:=BD (And.intro g (And.intro f (And.intro h (And.intro d i))));have z:(k==4)=false:=by simp[g]
 have D:(k==5)=false:=by simp[f]
 have y:(k==6)=false:=by simp[h]
 have v:(k==7)=false:=by simp[d]
 have C:(k==8)=false:=by simp[i]
 clear g f h d i;by_cases m:k=9
 ·subst m
  have c:Hid (Hu 9 a b=Qn (Y (a=b))):=by unfold Hid Hu;simp
  clear q j;go_enter func170,ntmps170;go_wp2_with fail;refine(km _ _).mono ?_;rintro x s ⟨rfl,rfl⟩;go_wp2_with fail;go_ret;exact⟨KM (by rw[c.out];congr 1),rfl⟩
 have c:Hid (Hu k a b=Qn (Y (a<b))):=by
  obtain⟨g,f,h,d,i⟩:=t.out;unfold Hid Hu;rw[AO g,AO f,AO h,AO d,AO i,AO m]
 have u:(k==9)=false:=by simp[m]
 clear q j m;go_enter func170,ntmps170;go_wp2_with fail;refine(km _ _).mono ?_;rintro x s ⟨rfl,rfl⟩;go_wp2_with fail;go_ret;exact⟨KM (by rw[c.out]),rfl⟩
theorem wy:(prog.info? 23).map (λi=>(i.zero,i.size,i.bytes))=Z (Z (.slice I 0 0),1,24):=Au
def QN(w:World)(v:Value)(m:List (List Int)):Prop:=
 ∃a:List Value,Cd w v (J m) 1 a/\∀(i:Nat) (u:Value) (r:List Int),a[i]? =Z u->m[i]? =Z r->Cd w u (J r) 1 (BW r)
def MA(w:World)(c b:Nat)(v:Value)(m:List (List Int)):Prop:=
 ∃a:List Value,CH w c b 23 1 v (J m) a/\(∀(i:Nat) (u:Value) (r:List Int),a[i]? =Z u->m[i]? =Z r->CH w c b 3 1 u (J r) (BW r))/\
  (∀(i j:Nat) (u d:Value),i<j->a[i]? =Z u->a[j]? =Z d->Hm u d)/\∀(i:Nat) (u:Value),a[i]? =Z u->Hm u v
theorem QN.below{w d}{v}{m}(h:QN w v m)(c:Below w.heap.size w d):QN d v m:=by
 obtain⟨g,e,f⟩:=h;exact⟨g,e.below c,λi u r a b=>(f i u r a b).below c⟩
theorem MA.L{w}{f e}{v}{m}(h:MA w f e v m):QN w v m:=by
 obtain⟨g,c,d,_⟩:=h;exact⟨g,c.L,λi u r a b=>(d i u r a b).L⟩
theorem MA.keep{w e}{j c g}{v}{m}(h:MA w j c v m)(d:Below g w e)(f:c<=g):MA e j c v m:=by
 obtain⟨k,l,o,n⟩:=h;exact⟨k,l.keep d f,λi u r a b=>(o i u r a b).keep d f,n⟩
theorem MA.out{w j}{f e c d}{v}{m}(h:MA w f e v m)(g:ER c d w j)(k:e<=c\/d<=f):MA j f e v m:=by
 obtain⟨l,n,p,o⟩:=h;exact⟨l,n.out g k,λi u r a b=>(p i u r a b).out g k,o⟩
theorem MA.wide{w}{g f c d}{v}{m}(h:MA w g f v m)(Bs:c<=g)(e:f<=d):MA w c d v m:=by
 obtain⟨j,k,n,l⟩:=h;exact⟨j,k.wide Bs e,λi u r a b=>(n i u r a b).wide Bs e,l⟩
theorem QN.open{w}{v}{m}(h:QN w v m):∃a e,v=.slice a (J m) e/\(J m)<=9223372036854775807/\
  ∀i (l:i<J m),∃b c g f,a=Z ⟨b,c,I⟩/\b<w.heap.size/\w.cell? ⟨b,c+i,I⟩=Z (.slice g m[i].length f)/\Cd w (.slice g m[i].length f) m[i].length 1 (BW m[i]):=by
 obtain⟨y,n,s⟩:=h;obtain⟨a,e,t,z,x,q,d⟩:=n.open1;refine⟨a,e,t,x,λi l=>?_⟩
 obtain⟨b,c,r,p,j⟩:=d i l;have o:i<J y:=by rw[n.1];omega
 rw[CF o]at j;have k:=s i _ _ (CF o) (CF l);obtain⟨g,f,u⟩:=k.form;rw[u]at j k;exact⟨b,c,g,f,r,p,j,k⟩
theorem Code.rowOf{w}{v u}{i k j}{c}(h:IJ w v u (.agg #[i,k,j]) c):∃a b e g f d,i=.slice a (J c.s) b/\k=.slice e (J c.r) g/\j=.slice f (J c.l) d:=by
 obtain⟨y,z,C,m,p,t,n,-⟩:=h;simp only[Value.agg.injEq,Array.mk.injEq,List.cons.injEq,and_true]at m;obtain⟨rfl,rfl,rfl⟩:=m;obtain⟨a,b,o⟩:=p.form;obtain⟨e,g,x⟩:=t.form;obtain⟨f,d,q⟩:=n.form;exact⟨a,b,e,g,f,d,o,x,q⟩
theorem yq{b}{w a c}(k:Below a.heap.size a c)(h:Below b w a)(d:b<=w.heap.size):Below b w c:=
 h.trans (k.mono (DO d h.size))
theorem g8(p)(f)(q)(v)(a)(w)(h:Mo w v a)(S:∀b w,(callFunc f b).run prog w=.ok (.enter f b) w)
  (z:∀x g,Below w.heap.size w g->Calls prog f #[x.v,q] g λe n=>e=.returned (.bool (p x))/\Below g.heap.size g n):
  Calls prog 116 #[v,.func (.func f) #[] #[q]] w λe g=>∃r,e=.returned (.int .i64 r)/\Y (0<=r)=a.any p/\Below w.heap.size w g:=by
 obtain⟨N,P,rfl,-,M,-,l⟩:=h.ins;have E:=BD z;clear h z;go_enter func116,ntmps116;go_wp2_with fail;go_loopw [5,8] (λ_ i D=>∃k:Nat,k<=J a/\i=.int .i64 k/\(a.take k).any p=U/\Below w.heap.size w D) (λ_ i _=>J a-(intOf i).toNat)
 case atStart=>exact⟨0,Di _,rfl,rfl,Below.refl _ _⟩
 case round=>
  obtain⟨k,Q,rfl,t,c⟩:=hrel;have u:=BD t;clear t;by_cases d:k<J a
  ·obtain⟨T,BA,rfl,s,H,L,F,G,C⟩:=l k d
   rw[<-(JF c).1 _ _ s]at H L F G C;clear l;cases y:p a[k]
   all_goals
    have o:=BD y;clear y;go_wp2_with fail;refine(E.out a[k] _ c).mono ?_;rintro e R ⟨rfl,m⟩;rw[o.out];go_wp2_with fail
   ·go_roundw
    case rel=>exact⟨k+1,O,by go_num,by rw[Gr _ _ d,List.any_append,u.out];simp[o.out],c.trans (m.mono c.size)⟩
    case measure=>simp[intOf];omega
   go_ret;exact⟨_,rfl,by rw[decide_eq_true O];symm;rw[List.any_eq_true];exact⟨_,EL d,o.out⟩,c.trans (m.mono c.size)⟩
  go_wp2_with fail;go_ret;refine⟨_,rfl,?_,c⟩;have:=u.out;rw[Dq O]at this;rw[this];rfl
theorem xg(p)(f)(q)(v)(g)(w)(h:Mo w v g)(k:∀a w,(callFunc f a).run prog w=.ok (.enter f a) w)
  (j:∀x b,Below w.heap.size w b->Calls prog f #[x.v,q] b λe d=>e=.returned (.bool (p x))/\Below b.heap.size b d):
  Calls prog 75 #[v,.func (.func f) #[] #[q]] w λe b=>e=.returned (.bool (g.any p))/\Below w.heap.size w b:=by
 obtain⟨s,t,rfl,-⟩:=h.open;have m:=BD j;have n:=BD k;clear j k;go_enter func75,ntmps75;go_wp2_with fail;refine(g8 p f q _ g _ h n.out m.out).mono ?_;rintro e u ⟨r,rfl,i,l⟩;have o:=BD i;clear i;go_wp2_with fail;go_ret;exact⟨Dj o.out,l⟩
theorem y7(a)(w):
  Calls prog 117 #[.int .i64 a] w λe f=>e=.returned (.string ⟨(Kv a).toArray⟩)/\Below w.heap.size w f:=by
 by_cases h:1<=a/\a<=13
 ·obtain⟨d,g⟩:=h
  have h:a=1\/a=2\/a=3\/a=4\/a=5\/a=6\/a=7\/a=8\/a=9\/a=10\/a=11\/a=12\/a=13:=O;clear d g;rcases h with rfl|rfl|rfl|rfl|rfl|rfl|rfl|rfl|rfl|rfl|rfl|rfl|rfl
  all_goals
   go_enter func117,ntmps117;go_wp2_with fail;refine(Kt _ 1 13 _).mono ?_;rintro e c ⟨rfl,rfl⟩;go_wp2_with fail;go_ret;exact⟨by simp[Kv],by go_grown⟩
 have j:Hid (Kv a=[]):=tq h
 have b:(Y ((1:Int)<=a)&&Y (a<=13))=false:=by
  rw[Bool.eq_false_iff];simp only[ne_eq,Aj,decide_eq_true_eq];exact h
 have i:=BD b;clear h b;go_enter func117,ntmps117;go_wp2_with fail;refine(Kt _ 1 13 _).mono ?_;rintro e c ⟨rfl,rfl⟩;rw[i.out];go_wp2_with fail;go_ret;exact⟨by rw[j.out];rfl,Below.refl _ _⟩
theorem T7(x:AV)(w):
  Calls prog 118 #[x.v] w λe f=>∃u,e=.returned u/\CH f w.heap.size f.heap.size 3 1 u 4 (BW [x.a,x.b,x.c,x.d])/\Below w.heap.size w f:=by
 obtain⟨k,h,j,i,g⟩:=x;go_enter func118,ntmps118;go_wp2_with fail;go_ret;refine⟨_,rfl,(NH _ #[.int .i64 h,.int .i64 j,.int .i64 i,.int .i64 g] 4 1 _ At rfl O).wide At At,by go_grown⟩
theorem x4(g q k)(c)(a)(n)(w)(j:Cd w g (J c.s) 1 (BW c.s))(o:Cd w q (J c.r) 1 (BW c.r))(f:Mo w k c.l):
  Calls prog 119 #[.agg #[g,q,k],.int .u8 a.toNat,.int .i64 n] w λe t=>e=.returned (.bool (NL c a n))/\Below w.heap.size w t:=by
 obtain⟨y,C,rfl,-,u,-,-⟩:=j.open1;obtain⟨F,H,rfl,-,v,-,-⟩:=o.open1;obtain⟨G,D,rfl,-,x,-,-⟩:=f.open;have i:a.toNat<256:=a.toNat_lt
 have p:Hid (∀m:UInt8,(a=m)=((a.toNat:Int)=(m.toNat:Int))):=λm=>by
  rw[eq_iff_iff];constructor
  ·rintro rfl;rfl
  intro h;exact UInt8.toNat_inj.1 O
 clear j o f;obtain⟨z,b⟩:∃z,z=a.toNat:=⟨_,rfl⟩;rw[<-b]at i ⊢;have d:=BD b;clear b;go_enter func119,ntmps119;go_wp2_with (go_at_call 74;refine(Kt _ _ _ _).mono ?_;rintro e E ⟨rfl,rfl⟩);all_goals go_ret
 all_goals refine⟨Dj ?_,by go_grown⟩
 all_goals unfold NL
 all_goals simp only[p.out, <-d.out,show(UInt8.toNat 114)=114 from rfl,show(UInt8.toNat 110)=110 from rfl,show(UInt8.toNat 118)=118 from rfl,show(UInt8.toNat 97)=97 from rfl,show(UInt8.toNat 111)=111 from rfl,show(UInt8.toNat 105)=105 from rfl]
 all_goals clear p d i u v x
 all_goals simp_all
 all_goals (rw[GQ];simp)
theorem yT(v)(c)(x)(w)(h:IL w v c):
  Calls prog 77 #[v,x.v] w λe w'=>e=.returned (.bool (Ev c x))/\Below w.heap.size w w':=by
 obtain⟨H,P,G,rfl,h1,h2,h3⟩:=h;obtain⟨D,M⟩:∃D,D=((w.alloc (.cells #[H,P,G] 26)).alloc (.cells #[.int .i64 x.op,.int .i64 x.a,.int .i64 x.b,.int .i64 x.c,.int .i64 x.d] 76)):=⟨_,rfl⟩;have B0:Below w.heap.size w D:=by rw[M];go_grown
 have o:Bl D w.heap.size [H,P,G]:=by rw[M];exact(Bl.new w [H,P,G] _).alloc _
 have p:Bl D (w.heap.size+1) [.int .i64 x.op,.int .i64 x.a,.int .i64 x.b,.int .i64 x.c,.int .i64 x.d]:=by rw[M];exact Bl.new' (w.alloc _) [.int .i64 x.op,.int .i64 x.a,.int .i64 x.b,.int .i64 x.c,.int .i64 x.d] _ At
 go_enter func77,ntmps77;go_wp2_with fail;rw[<-M];clear M;refine(y7 x.op D).mono ?_;rintro e w1 ⟨rfl,R⟩;replace o:=o.below R o.lt;replace p:=p.below R p.lt;have y0:=p.cell 0;have y1:=p.cell 1;have y2:=p.cell 2;have y3:=p.cell 3;have y4:=p.cell 4;simp at y0 y1 y2 y3 y4;go_wp2_with fail;refine(T7 x _).mono ?_;rintro e S ⟨u,rfl,Co,b2⟩;replace o:=o.below b2 o.lt;have s:=(B0.trans (R.mono B0.size)).trans (b2.mono (by have:=B0.size;have:=R.size;omega))
 obtain⟨g,aF,rfl,-,-,hg,-,-,-,N⟩:=Co.open O;clear y0 y1 y2 y3 y4 p Co;by_cases n:1<=x.op/\x.op<=13
 ·have E:Hid (Ev c x=Nm c (Kv x.op) [x.a,x.b,x.c,x.d] 4):=xF c x n
  have r:=us n;obtain⟨j,l⟩:∃j,j=Kv x.op:=⟨_,rfl⟩;obtain⟨f,m⟩:∃f,f=[x.a,x.b,x.c,x.d]:=⟨_,rfl⟩;rw[<-l]at r ⊢;rw[<-l]at E;rw[<-m]at E N;have F:J f=4:=by rw[m];rfl
  clear l m n;have aC:=BD F;clear F
  have aE:j.isEmpty=false:=by
   rw[List.isEmpty_eq_false_iff];intro h;rw[h]at r;simp at r
  go_wp2_with fail;go_loopw [14] (λi wr=>∃k:Nat,k<=4/\i=.int .i64 k/\Nm c j f k=V/\Below S.heap.size S wr) (λi _=>4-(intOf i).toNat)
  case atStart=>exact⟨0,O,rfl,rfl,Below.refl _ _⟩
  case round=>
   obtain⟨k,hk,rfl,ha,C⟩:=hrel;have HA:=BD ha;clear ha;replace o:=o.below C o.lt;by_cases z:k<4
   ·have x0:=o.cell 0
    have x1:=o.cell 1;have x2:=o.cell 2;simp only[Fp,Hg]at x0 x1 x2;have z0:=λX=>FN x0 X
    have z1:=λX=>FN x1 X
    have z2:=λX=>FN x2 X
    have L:k<J f:=by rw[aC.out];exact z
    have p0:wr.cell? ⟨g,k,I⟩=Z (.int .i64 f[k]):=by
     rw[(JF C).1 _ _ hg];exact N k _ (by simp[L])
    have T:k<J j:=by rw[r];exact z
    have HS:=BD (nC c j f k);have HG:=show Hid (f.getD k 0=f[k])from by simp[Hid,L]
    have Q:=show Hid (j.getD k 0=j[k])from by simp[Hid,T]
    have y:=s.trans (C.mono s.size);clear x0 x1 x2 N;cases hr:NL c j[k] f[k]
    all_goals
     have HR:=BD hr;clear hr
     have HC:Hid (∀X,Calls prog 119 #[.agg #[H,P,G],.int .u8 j[k].toNat,.int .i64 f[k]] (wr.ext X) λe aB=>e=.returned (.bool _)/\∃aD,aB=wr.ext aD):=
      λX=>Calls.ext_of' ((x4 H P G c j[k] f[k] _ ((h1.below y).below (Jy _ X)) ((h2.below y).below (Jy _ X)) ((h3.below y).below (Jy _ X))).mono λe w' h=>by rw[HR.out]at h;exact h)
     go_wp2_with fail;refine So Au Au ?_;repeat(any_goals (first|go_big_quiet_step ((go_at_call 119;exact HC.out _))|quiet_step ((go_at_call 119;exact HC.out _))))
     refine wpQuiet_nil ?_;rintro _ ⟨X,rfl⟩;have q:=C.trans ((Jy wr X).mono C.size);go_wp2_with fail
    ·go_ret
     exact⟨Dj (by rw[E.out,V1 4 z (by rw[HG.out,Q.out,HR.out])]),s.trans (q.mono s.size)⟩
    exact⟨⟨k+1,O,by go_num,by rw[HS.out,HA.out,HG.out,Q.out,HR.out];rfl,q⟩,by simp[intOf];omega⟩
   go_wp2_with fail;go_ret;obtain rfl:k=4:=O;exact⟨Dj (by rw[E.out,HA.out]),s.trans (C.mono s.size)⟩
 have E:Hid (Ev c x=U):=by
  unfold Hid Ev;rcases Classical.not_and_iff_not_or_not.1 n with h|h
  ·rw[decide_eq_false h];rfl
  rw[decide_eq_false h];simp
 rw[tq n];have p0:=N 0 (.int .i64 x.a) At;clear n N h1 h2 h3;go_wp2_with fail;go_loopw [14] (λi wr=>i=.int .i64 0/\S=wr) (λi _=>0)
 case atStart=>exact⟨rfl,rfl⟩
 case round=>
  obtain⟨rfl,rfl⟩:=hrel;go_wp2_with fail;refine So Au Au ?_;repeat(any_goals (first|go_big_quiet_step ((fail))|quiet_step ((fail))))
  refine wpQuiet_nil ?_;rintro _ ⟨X,rfl⟩;have q:=s.trans ((Jy S X).mono s.size);go_wp2_with fail;go_ret;exact⟨Dj E.out.symm,q⟩
theorem D1(v)(c)(x)(b)(m y q)(w)(D:v=.agg #[m,y,q])(h:IL w v c)(z:Bl w b [m,y,q]):
  Calls prog 76 #[x.v,.pointer (Z ⟨b,0,I⟩)] w λe C=>e=.returned (.bool (!Ev c x))/\Below w.heap.size w C:=by
 subst D;obtain⟨f,i⟩:∃f,f=(w.alloc (.cells #[.int .i64 x.op,.int .i64 x.a,.int .i64 x.b,.int .i64 x.c,.int .i64 x.d] 76)):=⟨_,rfl⟩;have j:Below w.heap.size w f:=by rw[i];go_grown
 have p:Bl f b [m,y,q]:=z.below j z.lt;have g:Bl f w.heap.size [.int .i64 x.op,.int .i64 x.a,.int .i64 x.b,.int .i64 x.c,.int .i64 x.d]:=by rw[i];exact Bl.new w [.int .i64 x.op,.int .i64 x.a,.int .i64 x.b,.int .i64 x.c,.int .i64 x.d] _
 have r:=p.cell 0;have u:=p.cell 1;have o:=p.cell 2;have s:=g.cell 0;have t:=g.cell 1;have k:=g.cell 2;have n:=g.cell 3;have l:=g.cell 4;simp at r u o s t k n l;rw[i]at r u o s t k n l;go_enter func76,ntmps76;go_wp2_with fail;rw[<-i];refine(yT _ c x _ (h.below j)).mono ?_;rintro e F ⟨rfl,E⟩;clear r u o s t k n l i;go_wp2_with fail;go_ret;exact⟨rfl,j.trans (E.mono j.size)⟩
theorem u5(a:List AV)(c):(a.any λl=> !Ev c l)= !a.all (Ev c):=by
 induction a with
 |nil=>rfl
 |cons x r b=>simp only[List.any_cons,IS,b];cases Ev c x<;>simp
theorem pv(v)(c)(w)(h:IL w v c):
  Calls prog 31 #[v] w λe E=>e=.returned (.bool (Bp c))/\Below w.heap.size w E:=by
 have o:=h;obtain⟨F,N,D,rfl,h1,h2,Q⟩:=h;have z:Hid (Bp c=(Gf c.s c.r&&Y (1<=J c.l)&&Y (J c.l<=400)&&c.l.all (Ev c)&&Pj c)):=rfl;obtain⟨p,n⟩:∃p,p=w.alloc (.cells #[F,N,D] 26):=⟨_,rfl⟩;have g:Below w.heap.size w p:=by rw[n];go_grown
 have f:Bl p w.heap.size [F,N,D]:=by rw[n];exact(Bl.new w [F,N,D] _)
 have aC:∀R first m w,(Instr.makeFunc R first m).run prog w=.ok (.func R first m) w:=λ_ _ _ _=>rfl
 obtain⟨a3,k3,rfl,aB,aD,-,a⟩:=Q.ins;have t:=f.cell 0;have u:=f.cell 1;have j:=f.cell 2;simp at t u j;rw[n]at t u j;go_enter func31,ntmps31;go_wp2_with fail;rw[<-n]at t u j ⊢;clear n;refine(tU _ _ c.s c.r _ (h1.below g) (h2.below g)).mono ?_;rintro e w1 ⟨rfl,rfl⟩;cases q:Gf c.s c.r
 ·have In:=BD q
  clear q a;go_wp2_with fail;go_ret;exact⟨Dj (by rw[z.out,In.out];rfl),g⟩
 have In:=BD q;clear q;go_wp2_with fail;refine(Kt _ 1 400 _).mono ?_;rintro e w1 ⟨rfl,rfl⟩;by_cases k:(1:Int)<=(J c.l:Int)/\(J c.l:Int)<=400
 ·have d:(Y ((1:Int)<=(J c.l:Int))&&Y ((J c.l:Int)<=400))=true:=by simpa using k
  have S:=BD k;rw[d];clear k d;go_wp2_with fail;refine(xg (λl=> !Ev c l) 76 _ _ c.l _ (Q.below g) (fu func76 Au rfl) (λx E P=>D1 _ c x _ _ _ _ E rfl ((o.below g).below P) (f.below P f.lt))).mono ?_
  rintro e w1 ⟨rfl,X⟩;rw[u5];have i:=g.trans (X.mono g.size);replace f:=f.below X f.lt;clear t u j;cases y:c.l.all (Ev c)
  ·have G:=BD y
   clear y a;go_wp2_with fail;go_ret;exact⟨Dj (by rw[z.out,G.out];simp),i⟩
  have G:=BD y;clear y;have T:J c.l-1<J c.l:=by have:=S.out;omega
  obtain⟨b,aE,rfl,H,i0,i1,i2,i3,i4⟩:=a _ T;rw[<-(JF i).1 _ _ H]at i0;have j:=f.cell 2;simp only[Fp,Hg]at j;have L:1<=J c.l:=O;have C:J c.l<=400:=by have:=S.out;omega
  have HL:Hid (Pj c=(Y (c.l[J c.l-1].op=13)||Y (c.l[J c.l-1].op=8))):=by
   unfold Hid Pj;rw[List.getLast?_eq_getElem?,CF T]
  clear a i1 i2 i3 i4
  have M:Hid (Bp c=(Y (c.l[J c.l-1].op=13)||Y (c.l[J c.l-1].op=8))):=by
   unfold Hid;rw[z.out,In.out,G.out,HL.out,decide_eq_true L,decide_eq_true C];rfl
  go_wp2_with fail;all_goals go_ret
  all_goals exact⟨Dj (by rw[M.out,GQ];simp_all),i⟩
 have d:(Y ((1:Int)<=(J c.l:Int))&&Y ((J c.l:Int)<=400))=false:=by
  rw[Bool.eq_false_iff];simp only[ne_eq,Aj,decide_eq_true_eq];exact k
 have M:Hid (Bp c=U):=by
  unfold Hid;rw[z.out];rcases Classical.not_and_iff_not_or_not.1 k with h|h
  ·rw[decide_eq_false (show ¬1<=(J c.l) by omega)];simp
  rw[decide_eq_false (show ¬(J c.l)<=400 by omega)];simp
 rw[d];clear k d a;go_wp2_with fail;go_ret;exact⟨Dj M.out.symm,g⟩
theorem W8(x y:AV)(w):(binOp .neq 76 (.agg #[.int .i64 x.op,.int .i64 x.a,.int .i64 x.b,.int .i64 x.c,.int .i64 x.d]) (.agg #[.int .i64 y.op,.int .i64 y.a,.int .i64 y.b,.int .i64 y.c,.int .i64 y.d])).run prog w=.ok (.bool (!Y (x.l=y.l))) w:=by
 rw[run_neq_struct,run_equalIn_struct _ _ _ _ _ Au Au];rw[show(prog.fieldsOf 76).toList=[⟨ "Op",3,0,U, "", "",0⟩,⟨ "A",3,1,U, "", "",8⟩,⟨ "B",3,2,U, "", "",16⟩,⟨ "C",3,3,U, "", "",24⟩,⟨ "D",3,4,U, "", "",32⟩]from by kernel_rfl]
 simp only[AV.l,List.cons.injEq,and_true];simp[go_sem,Op.eqFields]
 (repeat' split)<;>simp_all
theorem nj(m t)(a c)(w)(q:Cd w m (J a) 1 (BW a))(s:Cd w t (J c) 1 (BW c)):
  Calls prog 50 #[m,t] w λe u=>e=.returned (.bool (Y (a=c)))/\∃n,u=w.drewN n:=by
 obtain⟨L,P,rfl,-,H,-,d⟩:=q.open1;obtain⟨S,Q,rfl,-,D,-,g⟩:=s.open1;by_cases l:J a=J c
 ·have E:((J a:Int)==(J c:Int))=true:=CY
  have r:Hid (J a=J c):=l;clear q s l;go_enter func50,ntmps50;go_wp2;go_loopw [5,13] (λ_ i v=>∃k:Nat,k<=J a/\i=.int .i64 k/\a.take k=c.take k/\∃n,v=w.drewN n) (λ_ i _=>J a-(intOf i).toNat)
  case atStart=>exact⟨0,Di _,rfl,rfl,0,rfl⟩
  case round=>
   obtain⟨k,R,rfl,p,N,rfl⟩:=hrel;have o:Hid (a.take k=c.take k):=p;clear p;by_cases f:k<J a
   ·have b:k<J c:=by have:=r.out;omega
    obtain⟨T,BA,rfl,G,x⟩:=d k f;obtain⟨M,Co,rfl,F,y⟩:=g k b;rw[Tg _ _ f]at x;rw[Tg _ _ b]at y;clear d g;go_wp2;go_quiet (fail);go_wp2
    ·rename_i j
     go_ret;exact⟨Dj (by symm;simp;intro h;subst h;simp at j),_,by first|rfl|exact World.drewN_drewN _ _ _⟩
    rename_i j
    refine⟨⟨k+1,O,by go_num,eg o.out f b (by simpa using j),_,by first|rfl|exact World.drewN_drewN _ _ _⟩,by simp[intOf];omega⟩
   have C:Y ((k:Int)<(J a:Int))=false:=CY;go_wp2;go_ret;exact⟨Dj (by symm;simp;exact gz o.out O (by have:=r.out;omega)),_,rfl⟩
 have z:((J a:Int)==(J c:Int))=false:=CY;clear d g;go_enter func50,ntmps50;go_wp2;go_ret;exact⟨Dj (by symm;simp;intro h;exact l (by rw[h])),0,rfl⟩
theorem vo(v E)(a b)(w)(u:Mo w v a)(D:Mo w E b):
  Calls prog 51 #[v,E] w λe w'=>e=.returned (.bool (Y (De a=De b)))/\∃n,w'=w.drewN n:=by
 obtain⟨a1,c1,rfl,-,aB,-,f⟩:=u.ins;obtain⟨a2,c2,rfl,-,aC,-,d⟩:=D.ins;by_cases p:J a=J b
 ·have aD:((J a:Int)==(J b:Int))=true:=CY
  have C:Hid (J a=J b):=p;clear u D p;go_enter func51,ntmps51;go_wp2;go_loopw [5,13] (λ_ i G=>∃k:Nat,k<=J a/\i=.int .i64 k/\a.take k=b.take k/\∃n,G=w.drewN n) (λ_ i _=>J a-(intOf i).toNat)
  case atStart=>exact⟨0,Di _,rfl,rfl,0,rfl⟩
  case round=>
   obtain⟨k,hk,rfl,t,nd,rfl⟩:=hrel;have z:Hid (a.take k=b.take k):=t;clear t;by_cases m:k<J a
   ·have c:k<J b:=by have:=C.out;omega
    obtain⟨b1,BA,H,T,i0,i1,i2,M,F⟩:=f k m;obtain⟨b2,Co,P,aE,j0,S,R,X,Q⟩:=d k c;have s:=λw=>W8 a[k] b[k] w
    have L:=BD ((fun(h:a[k].l=b[k].l)=>eg z.out m c (AV.ext' h)))
    obtain⟨q,g⟩:∃q,q= !Y (a[k].l=b[k].l):=⟨_,rfl⟩;rw[<-g]at s;have j:=BD g;obtain⟨x,r⟩:∃x,x=a[k]:=⟨_,rfl⟩;obtain⟨y,o⟩:∃y,y=b[k]:=⟨_,rfl⟩;rw[<-r]at i0 i1 i2 M F;rw[<-o]at j0 S R X Q;simp only[<-r, <-o]at s;subst H P;clear f d g r o;cases q
    ·go_wp2
     go_quiet (fail);go_wp2;refine⟨⟨k+1,O,by go_num,L.out (by have:=j.out;simpa using this),_,by first|rfl|exact World.drewN_drewN _ _ _⟩,by simp[intOf];omega⟩
    go_wp2;go_quiet (fail);go_wp2;go_ret;exact⟨Dj (by symm;simp;intro h;have:=bc h;subst this;simpa using j.out),_,by first|rfl|exact World.drewN_drewN _ _ _⟩
   go_wp2;go_ret;exact⟨Dj (by symm;simp;exact congrArg De (gz z.out O (by have:=C.out;omega))),_,rfl⟩
 have N:((J a:Int)==(J b:Int))=false:=CY;clear f d;go_enter func51,ntmps51;go_wp2;go_ret;exact⟨Dj (by symm;simp;intro h;exact p (by rw[bc h])),0,rfl⟩
theorem pH(v u)(c d)(w)(h:IL w v c)(h':IL w u d):
  Calls prog 17 #[v,u] w λe w'=>e=.returned (.bool (c.same d))/\Below w.heap.size w w':=by
 obtain⟨z,F,p,rfl,N,h2,H⟩:=h;obtain⟨x,C,D,rfl,Bs,Q,CZ⟩:=h'
 obtain⟨b,E,M⟩:∃b,b=((w.alloc (.cells #[z,F,p] 26)).alloc (.cells #[x,C,D] 26))/\CA (λ_=>True) (λ_=>True) w b [.C w.heap.size [z,F,p],.C (w.heap.size+1) [x,C,D]]:=
  ⟨_,rfl,((CA.start λ_ _=>trivial).C _ _).box' _ _ At⟩
 have t:Hid (c.same d=(Y (c.s=d.s)&&Y (c.r=d.r)&&Y (De c.l=De d.l))):=rfl
 have g:=show Hid (∀a,Below b.heap.size b a->(Cd a z (J c.s) 1 (BW c.s)/\Cd a F (J c.r) 1 (BW c.r)/\Mo a p c.l)/\Cd a x (J d.s) 1 (BW d.s)/\Cd a C (J d.r) 1 (BW d.r)/\Mo a D d.l)from λa k=>by
  have f:=(M.call k).below λ_ _=>trivial
  exact⟨⟨N.below f,h2.below f,H.below f⟩,Bs.below f,Q.below f,CZ.below f⟩
 have y:=show Hid (∀n,Below w.heap.size w (b.drewN n))from λn=>(M.call (below_drewN (Below.refl _ _) n)).below λ_ _=>trivial
 have P:=M.c 0 0 rfl rfl;have T:=M.c 0 1 rfl rfl;have L:=M.c 0 2 rfl rfl;have R:=M.c 1 0 rfl rfl;have S:=M.c 1 1 rfl rfl;have G:=M.c 1 2 rfl rfl;rw[E]at P T L R S G;clear N h2 H Bs Q CZ M;go_enter func17,ntmps17;go_wp2_with fail;rw[<-E]at P T L R S G ⊢;clear E;refine(nj _ _ c.s d.s _ (g.out _ (Below.refl _ _)).1.1 (g.out _ (Below.refl _ _)).2.1).mono ?_;rintro e w1 ⟨rfl,m,rfl⟩;by_cases i:c.s=d.s
 ·rw[decide_eq_true i]
  have Q1:=BD i;clear i;go_wp2_with fail;refine(nj _ _ c.r d.r _ (g.out _ (below_drewN (Below.refl _ _) m)).1.2.1 (g.out _ (below_drewN (Below.refl _ _) m)).2.2.1).mono ?_;rintro e w1 ⟨rfl,X,rfl⟩;by_cases j:c.r=d.r
  ·rw[decide_eq_true j]
   have Q2:=BD j;clear j;go_wp2_with fail;refine(vo _ _ c.l d.l _ (g.out _ (below_drewN (Below.refl _ _) (m+X))).1.2.2 (g.out _ (below_drewN (Below.refl _ _) (m+X))).2.2.2).mono ?_;rintro e w1 ⟨rfl,n3,rfl⟩;obtain⟨q,o⟩:∃q,q=Y (De c.l=De d.l):=⟨_,rfl⟩;rw[<-o];have HQ:=BD o;clear o;go_wp2_with fail;go_ret;exact⟨Dj (by rw[t.out,decide_eq_true Q1.out,decide_eq_true Q2.out,HQ.out];rfl),y.out _⟩
  rw[decide_eq_false j];go_wp2_with fail;go_ret;exact⟨Dj (by rw[t.out,decide_eq_false j];simp),y.out _⟩
 rw[decide_eq_false i];go_wp2_with fail;go_ret;exact⟨Dj (by rw[t.out,decide_eq_false i];simp),y.out _⟩
abbrev Fc(l:List Bool):List Value:=l.map Value.bool
theorem iV(l)(k)(h:k<J l):(Fc l)[k]? =Z (.bool l[k]):=by simp[Fc,h]
theorem K1:(prog.info? 4).map (λi=>(i.zero,i.size,i.bytes))=Z (Z (.bool U),1,1):=Au
theorem ZC(v)(t)(w)(h:Cd w v (J t) 1 (BW t))(x:J t<=1000000000000):
  Calls prog 46 #[v] w λe d=>∃u,e=.returned u/\CH d w.heap.size d.heap.size 3 1 u (J t) (BW t)/\Below w.heap.size w d:=by
 obtain⟨a,i,rfl,l,n,q,-⟩:=h.open;have b:=λw=>Lib.run_eql_slice_nil (P:=prog) w 23 3 a (J t) i 0 0 Tryz.underlying23
 rcases a with _|a
 ·have r:J t=0:=by
   rcases Nat.eq_zero_or_pos (J t)with f|f
   ·exact f
   obtain⟨_,a,c,j,_,_,o⟩:=h;cases j
   obtain⟨_,_,j,_⟩:=o f;cases j
  have s:t=[]:=FM r;subst s;simp only[Bc,Option.isNone_none]at b;go_enter func46,ntmps46;go_wp2_with fail;go_ret;exact⟨_,rfl,⟨World.ownsRow_nil _ _ _ _,λg p=>by cases p⟩,Below.refl _ _⟩
 go_enter func46,ntmps46;simp only[Option.isNone_some]at b;have k:=(Below.refl w.heap.size w).alloc (BR _) (.cells #[] 3);go_wp2_with (at_builtin;refine OT rfl _ _ rfl Tryz.underlying23 Rn rfl O rfl (NH w #[] 0 1 _ rfl rfl O).1 rfl (h.below k) Tk O O At ?_;rintro y z C LR m- -);go_ret;refine⟨_,rfl,CH.mk' (by simpa using LR),k.trans m⟩
theorem E1(v)(t)(w)(h:Mo w v t)(x:J t<=1000000000000):
  Calls prog 94 #[v] w λe d=>∃u,e=.returned u/\CH d w.heap.size d.heap.size 76 5 u (J t) (BW (De t))/\Below w.heap.size w d:=by
 obtain⟨a,i,rfl,l,n,q,-⟩:=h.open;have b:=λw=>Lib.run_eql_slice_nil (P:=prog) w 24 76 a (J t) i 0 0 Tryz.underlying24
 rcases a with _|a
 ·have r:J t=0:=by
   rcases Nat.eq_zero_or_pos (J t)with f|f
   ·exact f
   obtain⟨_,a,c,j,_,_,o⟩:=h;cases j
   obtain⟨_,_,j,_⟩:=o f;cases j
  have s:t=[]:=FM r;subst s;simp only[Bc,Option.isNone_none]at b;go_enter func94,ntmps94;go_wp2_with fail;go_ret;exact⟨_,rfl,⟨World.ownsRow_nil _ _ _ _,λg p=>by cases p⟩,Below.refl _ _⟩
 go_enter func94,ntmps94;simp only[Option.isNone_some]at b;have k:=(Below.refl w.heap.size w).alloc (BR _) (.cells #[] 76);go_wp2_with (at_builtin;refine OT rfl _ _ rfl Tryz.underlying24 iT rfl O rfl (NH w #[] 0 5 _ rfl rfl O).1 rfl (h.below k) Tk O O At ?_;rintro y z C LR m- -);go_ret;refine⟨_,rfl,CH.mk' (by simpa using LR),k.trans m⟩
theorem mI(v)(c)(w)(h:IL w v c)(hs:c.size<=1048576):
  Calls prog 42 #[v] w λe w'=>∃u,e=.returned u/\IJ w' w.heap.size w'.heap.size u c/\Below w.heap.size w w':=by
 obtain⟨F,G,E,rfl,h1,h2,h3⟩:=h;unfold BY.size at hs;obtain⟨n,o⟩:∃n,n=w.heap.size:=⟨_,rfl⟩;obtain⟨d,L⟩:∃d,d=(w.alloc (.cells #[F,G,E] 26)).alloc (.cells #[.slice I 0 0,.slice I 0 0,.slice I 0 0] 26):=⟨_,rfl⟩;have B0:Below n w d:=by rw[L,o];go_grown
 have sW:d.heap.size=n+1+1:=by rw[L,o];simp
 have L1:Bl d n [F,G,E]:=by rw[L,o];exact(Bl.new w [F,G,E] _).alloc _
 have H:Bl d (n+1) [.slice I 0 0,.slice I 0 0,.slice I 0 0]:=by rw[L,o];exact Bl.new' (w.alloc _) [.slice I 0 0,.slice I 0 0,.slice I 0 0] _ At
 have hS:∀a,Below (n+1) d a->Below (n+1) d a/\(a.cell? ⟨n,0,I⟩=Z F/\a.cell? ⟨n,1,I⟩=Z G/\a.cell? ⟨n,2,I⟩=Z E):=by
  intro a X;have m:=L1.below X O;exact⟨X,by simpa using m.cell 0,by simpa using m.cell 1,by simpa using m.cell 2⟩
 have hQ:∀a D,Below (n+1+1) d a->Below a.heap.size a D->Below (n+1+1) d D:=λa D g k=>g.trans (k.mono (by have:=g.size;omega))
 have hT:∀a,Below (n+1+1) d a->(a.frozen? ⟨n+1,0,I⟩=U/\a.frozen? ⟨n+1,1,I⟩=U/\a.frozen? ⟨n+1,2,I⟩=U)/\a.cell? ⟨n+1,0,I⟩=Z (.slice I 0 0)/\a.cell? ⟨n+1,1,I⟩=Z (.slice I 0 0)/\a.cell? ⟨n+1,2,I⟩=Z (.slice I 0 0):=by
  intro a X;have m:=H.below X O;exact⟨⟨m.free 0,m.free 1,m.free 2⟩,by simpa using m.cell 0,by simpa using m.cell 1,by simpa using m.cell 2⟩
 have N:∀a,Below (n+1+1) d a->Below n w a:=λa g=>B0.trans (g.mono O)
 have S:=show Hid (∀a,Below (n+1+1) d a->Cd a F (J c.s) 1 (BW c.s))from λa g=>h1.below (by rw[<-o];exact N _ g)
 have P:=show Hid (∀a,Below (n+1+1) d a->Cd a G (J c.r) 1 (BW c.r))from λa g=>h2.below (by rw[<-o];exact N _ g)
 have Q:=show Hid (∀a,Below (n+1+1) d a->Mo a E c.l)from λa g=>h3.below (by rw[<-o];exact N _ g)
 have HA:=BD N;have HS:=BD hS;have HQ:=BD hQ;have HT:=BD hT;have aD:Below (n+1+1) d d.drew:=(Below.refl _ d).drew;have aB:Below (n+1) d d.drew:=(Below.refl _ d).drew;have HN:=show Hid (n=w.heap.size)from o;have T:=BD H;have zd:d.drew.heap.size=n+1+1:=sW;have M:=BD B0;clear hS hQ hT N h1 h2 h3 L1;go_enter func42,ntmps42;go_wp2_with fail;rw[<-HN.out];rw[<-L];clear o L B0 H
 go_region_held3 (λa=>Below (n+1) d a/\(a.cell? ⟨n,0,I⟩=Z F/\a.cell? ⟨n,1,I⟩=Z G/\a.cell? ⟨n,2,I⟩=Z E))
  (first|exact HS.out _ Ab|exact HS.out _ ((by assumption:Below (n+1+1) d _).mono (Nat.le_succ _))|exact HS.out _ (((((by assumption:Below (n+1+1) d _).mono (Nat.le_succ _)).setCell (BR _) _).setCell (BR _) _).setCell (BR _) _))
  (first
   |(go_at_call 46;refine(ZC F c.s _ (S.out _ Ab) O).mono ?_;rintro e R ⟨u1,rfl,BA,f⟩;obtain⟨x,q,rfl⟩:=BA.form;have s7:=f.size;(try replace Co:=Co.keep f O);(try replace FD:=FD.keep f O);have i:=HQ.out _ _ Ab f;have z7:=i.size;obtain⟨⟨f0,f1,f2⟩,c0,c1,c2⟩:=HT.out _ i)
   |(go_at_call 46;refine(ZC G c.r _ (P.out _ Ab) O).mono ?_;rintro e R ⟨u2,rfl,Co,f⟩;obtain⟨t,C,rfl⟩:=Co.form;have s7:=f.size;(try replace BA:=BA.keep f O);(try replace FD:=FD.keep f O);have i:=HQ.out _ _ Ab f;have z7:=i.size;obtain⟨⟨f0,f1,f2⟩,c0,c1,c2⟩:=HT.out _ i)
   |(go_at_call 94;refine(E1 E c.l _ (Q.out _ Ab) O).mono ?_;rintro e R ⟨u3,rfl,FD,f⟩;obtain⟨z,y,rfl⟩:=FD.form;have s7:=f.size;(try replace BA:=BA.keep f O);(try replace Co:=Co.keep f O);have i:=HQ.out _ _ Ab f;have z7:=i.size;obtain⟨⟨f0,f1,f2⟩,c0,c1,c2⟩:=HT.out _ i))
 have H:=Bl.below T.out i O;have L3:=((H.set (j:=0) (.slice x (J c.s) q)).set (j:=1) (.slice t (J c.r) C)).set (j:=2) (.slice z (J c.l) y);replace BA:=(((BA.other (b:=n+1) O 0 (.slice x (J c.s) q)).other (b:=n+1) O 1 (.slice t (J c.r) C)).other (b:=n+1) O 2 (.slice z (J c.l) y));replace Co:=(((Co.other (b:=n+1) O 0 (.slice x (J c.s) q)).other (b:=n+1) O 1 (.slice t (J c.r) C)).other (b:=n+1) O 2 (.slice z (J c.l) y));replace FD:=(((FD.other (b:=n+1) O 0 (.slice x (J c.s) q)).other (b:=n+1) O 1 (.slice t (J c.r) C)).other (b:=n+1) O 2 (.slice z (J c.l) y));have BF:=(((M.out.trans (i.mono O)).setCell (p:=⟨n+1,0,I⟩) (by show n<=n+1;omega) (.slice x (J c.s) q)).setCell (p:=⟨n+1,1,I⟩) (by show n<=n+1;omega) (.slice t (J c.r) C)).setCell (p:=⟨n+1,2,I⟩) (by show n<=n+1;omega) (.slice z (J c.l) y)
 have zF:(((R.setCell ⟨n+1,0,I⟩ (.slice x (J c.s) q)).setCell ⟨n+1,1,I⟩ (.slice t (J c.r) C)).setCell ⟨n+1,2,I⟩ (.slice z (J c.l) y)).heap.size=R.heap.size:=At;generalize ((R.setCell ⟨n+1,0,I⟩ (.slice x (J c.s) q)).setCell ⟨n+1,1,I⟩ (.slice t (J c.r) C)).setCell ⟨n+1,2,I⟩ (.slice z (J c.l) y)=WF at*;have r0:=L3.cell 0;have r1:=L3.cell 1;have r2:=L3.cell 2;simp at r0 r1 r2;have aC:=HN.out;clear f0 f1 f2 c0 c1 c2 H HS HQ HT HA S P Q T M aD aB HN;go_wp2_with fail;refine bodyPost_ret (v:=.agg #[.slice x (J c.s) q,.slice t (J c.r) C,.slice z (J c.l) y]) (by simp[results,Tryz.results42,go_sem,r0,r1,r2]) rfl ⟨_,rfl,⟨_,_,_,rfl,BA.wide O O,Co.wide O O,FD.wide O O,Oy BA Co O,Oy BA FD O,Oy Co FD O⟩,by rw[<-aC];exact BF⟩
theorem be(x)(w):
  Calls prog 95 #[x.v] w λe m=>e=.returned (.int .i64 (CL x))/\Below w.heap.size w m:=by
 obtain⟨a,f,g,i,h⟩:=x;by_cases c:a=8
 ·have d:=show Hid (CL ⟨a,f,g,i,h⟩=f)from by simp[Hid,CL,c]
  have n:(a==8)=true:=by simp[c]
  clear c;go_enter func95,ntmps95;go_wp2_with fail;go_ret;exact⟨KM d.out.symm,by go_grown⟩
 have n:(a==8)=false:=by simp[c]
 by_cases b:a=9\/a=10
 ·have d:=show Hid (CL ⟨a,f,g,i,h⟩=g)from by simp[Hid,CL,c,b]
  have k:(a==9)=V\/((a==9)=U/\(a==10)=V):=by
   rcases b with b|b
   ·left;simp[b]
   right;simp[b]
  clear c b;rcases k with l|⟨l,j⟩
  all_goals
   go_enter func95,ntmps95;go_wp2_with fail;go_ret;exact⟨KM d.out.symm,by go_grown⟩
 have d:=show Hid (CL ⟨a,f,g,i,h⟩= -1)from by simp[Hid,CL,c,b]
 have l:(a==9)=false:=CY;have j:(a==10)=false:=CY;clear c b;go_enter func95,ntmps95;go_wp2_with fail;go_ret;exact⟨KM d.out.symm,by go_grown⟩
theorem o1(v)(c)(i)(w)(h:IL w v c)(hi:i<J c.l):
    Calls prog 63 #[v,.int .i64 i] w λe Q=>∃u,e=.returned u/\CH Q w.heap.size Q.heap.size 3 1 u (ME c.l[i] i).length (BW (ME c.l[i] i))/\Below w.heap.size w Q:=by
  obtain⟨R,v2,v3,rfl,h1,h2,h3⟩:=h;obtain⟨M,S,rfl,aC,aD,-,t⟩:=h3.ins;obtain⟨k,s⟩:∃k,k=(w.alloc (.cells #[R,v2,.slice M (J c.l) S] 26)):=⟨_,rfl⟩;have C:Below w.heap.size w k:=by rw[s];go_grown
  have L1:Bl k w.heap.size [R,v2,.slice M (J c.l) S]:=by rw[s];exact(Bl.new w [R,v2,.slice M (J c.l) S] _)
  have sW:k.heap.size=w.heap.size+1:=by rw[s];simp
  obtain⟨b,aE,rfl,aB,X,N,T,H,G⟩:=t i hi;rw[<-(JF C).1 _ _ aB]at X N T H G;have L:=L1.cell 2;simp at L;generalize c.l[i]=x at*;clear t h3 h1 h2;go_enter func63,ntmps63;rw[s]at L X N T H G;go_wp2_with fail;rw[<-s];clear L X N T H G s;have s0:=C.size;have n:=Bl.new k [.int .i64 x.op,.int .i64 x.a,.int .i64 x.b,.int .i64 x.c,.int .i64 x.d] 76;have B1:Below w.heap.size w (k.alloc (.cells #[.int .i64 x.op,.int .i64 x.a,.int .i64 x.b,.int .i64 x.c,.int .i64 x.d] 76)):=C.trans (Below.mono (by go_grown:Below k.heap.size k _) s0)
  generalize k.alloc (.cells #[.int .i64 x.op,.int .i64 x.a,.int .i64 x.b,.int .i64 x.c,.int .i64 x.d] 76)=W1 at*;rw[sW]at n;clear C s0 sW;have s1:=B1.size;refine(be x _).mono ?_;rintro e m ⟨rfl,b1⟩;replace n:=n.below b1 n.lt;have F:=B1.trans (b1.mono s1);have r:=F.size;have p:Hid (ME x i=(if 0<=CL x then [CL x]else [])++(if x.op≠8/\x.op≠13 then [(i:Int)+1]else [])):=rfl
  generalize CL x=y at*;have c0:=n.cell 0;simp only[Fp]at c0;by_cases ht:0<=y
  · have o:=BD ht
    go_wp2_with (first|(at_builtin;refine OT rfl _ _ rfl Tryz.underlying23 Rn rfl O rfl (World.ownsRow_nil _ m.heap.size _ _) rfl (gr m (.int .i64 y) _ rfl) (λu q=>by simp at q;subst q;rfl) O O At ?_;rintro a1 q1 E Co D- -;have j:=((Below.refl m.heap.size m).alloc (BR _) _).trans D;replace n:=n.below j n.lt;have z:=F.trans (j.mono r);have s3:=j.size;have d0:=n.cell 0;simp only[Fp]at d0;clear D)|(at_builtin;refine OT rfl _ _ rfl Tryz.underlying23 Rn rfl O rfl (Co.alloc _) rfl (gr E (.int .i64 ((i:Int)+1)) _ rfl) (λu q=>by simp at q;subst q;rfl) O O CY ?_;rintro a2 q2 w3 FD b3- -;have P:=((Below.refl m.heap.size E).alloc s3 _).trans b3;have B4:=z.trans (Below.mono (P:Below m.heap.size E w3) r)))
    all_goals go_ret
    all_goals simp only[bne_iff_ne,ne_eq,bne_eq_false_iff_eq]at*
    all_goals first
      | (have e : ME x i = [y, (i : Int) + 1] := by
           rw[p.out,AZ o.out];clear p o;simp;omega
         rw[e];exact⟨_,rfl,CH.mk' (KX FD r),B4⟩)
      | (have e : ME x i = [y] := by
           rw[p.out,AZ o.out];clear p o;simp;omega
         rw[e];exact⟨_,rfl,CH.mk' (KX Co r),z⟩)
  have o:=show Hid (¬0<=y)from ht;go_wp2_with ((at_builtin;refine OT rfl _ _ rfl Tryz.underlying23 Rn rfl O rfl (World.ownsRow_nil _ m.heap.size _ _) rfl (gr m (.int .i64 ((i:Int)+1)) _ rfl) (λu q=>by simp at q;subst q;rfl) O O At ?_;rintro a1 q1 E Co D- -;have j:=((Below.refl m.heap.size m).alloc (BR _) _).trans D;have z:=F.trans (j.mono r)))
  all_goals go_ret
  all_goals simp only[bne_iff_ne,ne_eq,bne_eq_false_iff_eq]at*
  all_goals first
    | (have e : ME x i = [(i : Int) + 1] := by
         rw[p.out,AO (by have:=o.out;omega)];clear p o;simp;omega
       rw[e];exact⟨_,rfl,CH.mk' (KX Co r),z⟩)
    | (have e : ME x i = [] := by
         rw[p.out,AO (by have:=o.out;omega)];clear p o;simp;omega
       rw[e];exact⟨_,rfl,⟨World.ownsRow_nil _ _ _ _,λg hg=>by cases hg⟩,F⟩)
theorem X3(v)(c)(i)(w)(h:IL w v c)(g:i<J c.l):
  Calls prog 63 #[v,.int .i64 i] w λe a=>∃u,e=.returned u/\Cd a u (ME c.l[i] i).length 1 (BW (ME c.l[i] i))/\Below w.heap.size w a:=
 (o1 v c i w h g).mono λ_ _ ⟨u,b,f,d⟩=>⟨u,b,f.L,d⟩
theorem wA(v)(c)(k:Bp c=V)(t:Int)(w)(h:IL w v c)(m:0<=t)(f:t<J c.l):
  Calls prog 63 #[v,.int .i64 t] w λe b=>∃u a,e=.returned u/\(J a)<=2/\(∀x,x∈a↔x∈Cz c t)/\Cd b u (J a) 1 (BW a)/\Below w.heap.size w b:=by
 obtain⟨i,rfl⟩:∃i:Nat,t=i:=⟨t.toNat,O⟩;have d:i<J c.l:=O;have e:Cz c i=Fv c.l[i] i:=VO (t:=(i:Int)) d;rw[e];refine(X3 v c i w h d).mono λe b ⟨u,f,j,g⟩=>⟨u,_,f,x8 _ _,λx=>O2 ((Hj k).2.2.2.1 i d) _ _,j,g⟩
theorem gv(x)(t)(w)(h:0<=CL x):
  Calls prog 96 #[x.v,.int .i64 t] w λe k=>e=.returned (FJ x t).v/\Below w.heap.size w k:=by
 obtain⟨a,f,g,c,d⟩:=x;by_cases b:a=8
 ·have i:=show Hid (FJ ⟨a,f,g,c,d⟩ t=⟨a,t,g,c,d⟩)from by simp[Hid,FJ,b]
  have l:(a==8)=true:=by simp[b]
  clear b h;go_enter func96,ntmps96;go_wp2_with fail;refine bodyPost_ret (v:=.agg #[.int .i64 a,.int .i64 t,.int .i64 g,.int .i64 c,.int .i64 d]) (by simp[results,Tryz.results96,go_sem]) rfl ⟨by rw[i.out],by go_grown⟩
 have l:(a==8)=false:=by simp[b]
 have j:a=9\/a=10:=by
  unfold CL at h;simp only at h;rw[AO b]at h;split at h
  ·assumption
  omega
 have i:=show Hid (FJ ⟨a,f,g,c,d⟩ t=⟨a,f,t,c,d⟩)from by simp[Hid,FJ,b,j]
 clear b j h;go_enter func96,ntmps96;go_wp2_with fail;refine bodyPost_ret (v:=.agg #[.int .i64 a,.int .i64 f,.int .i64 t,.int .i64 c,.int .i64 d]) (by simp[results,Tryz.results96,go_sem]) rfl ⟨by rw[i.out],by go_grown⟩
theorem yG(v)(c)(p)(m k)(l)(lo hi)(w)(h:IL w v c)(hs:c.size<=1048576)(hl:CH w lo hi 76 5 (.slice p m k) (J l) (BW (De l)))(aI:lo<=w.heap.size)(aG:hi<=w.heap.size):
  Calls prog 147 #[v,.slice p m k] w λe w'=>∃u,e=.returned u/\IJ w' lo w'.heap.size u {c with l:=l}/\Below w.heap.size w w':=by
 obtain⟨D,E,M,rfl,h1,h2,h3⟩:=h;unfold BY.size at hs;have aD:m=J l:=by obtain⟨a,c,e⟩:=hl.form;simp only[Value.slice.injEq]at e;omega
 subst aD;obtain⟨n,o⟩:∃n,n=w.heap.size:=⟨_,rfl⟩;obtain⟨f,N⟩:∃f,f=(w.alloc (.cells #[D,E,M] 26)).alloc (.cells #[.slice I 0 0,.slice I 0 0,.slice I 0 0] 26):=⟨_,rfl⟩;have B0:Below n w f:=by rw[N,o];go_grown
 have sW:f.heap.size=n+1+1:=by rw[N,o];simp
 have L1:Bl f n [D,E,M]:=by rw[N,o];exact(Bl.new w [D,E,M] _).alloc _
 have H:Bl f (n+1) [.slice I 0 0,.slice I 0 0,.slice I 0 0]:=by rw[N,o];exact Bl.new' (w.alloc _) [.slice I 0 0,.slice I 0 0,.slice I 0 0] _ At
 have hS:∀d,Below (n+1) f d->Below (n+1) f d/\(d.cell? ⟨n,0,I⟩=Z D/\d.cell? ⟨n,1,I⟩=Z E/\d.cell? ⟨n,2,I⟩=Z M):=by
  intro d hb;have i:=L1.below hb O;exact⟨hb,by simpa using i.cell 0,by simpa using i.cell 1,by simpa using i.cell 2⟩
 have hQ:∀d F,Below (n+1+1) f d->Below d.heap.size d F->Below (n+1+1) f F:=λd F g k=>g.trans (k.mono (by have:=g.size;omega))
 have hT:∀d,Below (n+1+1) f d->(d.frozen? ⟨n+1,0,I⟩=U/\d.frozen? ⟨n+1,1,I⟩=U/\d.frozen? ⟨n+1,2,I⟩=U)/\d.cell? ⟨n+1,0,I⟩=Z (.slice I 0 0)/\d.cell? ⟨n+1,1,I⟩=Z (.slice I 0 0)/\d.cell? ⟨n+1,2,I⟩=Z (.slice I 0 0):=by
  intro d hb;have i:=H.below hb O;exact⟨⟨i.free 0,i.free 1,i.free 2⟩,by simpa using i.cell 0,by simpa using i.cell 1,by simpa using i.cell 2⟩
 have P:∀d,Below (n+1+1) f d->Below n w d:=λd g=>B0.trans (g.mono O)
 have Q:=show Hid (∀d,Below (n+1+1) f d->Cd d D (J c.s) 1 (BW c.s))from λd g=>h1.below (by rw[<-o];exact P _ g)
 have R:=show Hid (∀d,Below (n+1+1) f d->Cd d E (J c.r) 1 (BW c.r))from λd g=>h2.below (by rw[<-o];exact P _ g)
 have aF:=show Hid (∀d,Below (n+1+1) f d->Mo d M c.l)from λd g=>h3.below (by rw[<-o];exact P _ g)
 have HA:=BD P;have X:=BD hS;have HQ:=BD hQ;have HT:=BD hT;have aC:Below (n+1+1) f f.drew:=(Below.refl _ f).drew;have aE:Below (n+1) f f.drew:=(Below.refl _ f).drew;have L:=show Hid (n=w.heap.size)from o;have S:=BD H;have zd:f.drew.heap.size=n+1+1:=sW;have C:=BD B0;clear hS hQ hT P h1 h2 h3 L1;go_enter func147,ntmps147;go_wp2_with fail;rw[<-L.out];rw[<-N];clear o N B0 H
 go_region_held3 (λd=>Below (n+1) f d/\(d.cell? ⟨n,0,I⟩=Z D/\d.cell? ⟨n,1,I⟩=Z E/\d.cell? ⟨n,2,I⟩=Z M))
  (first|exact X.out _ Ab|exact X.out _ ((by assumption:Below (n+1+1) f _).mono (Nat.le_succ _))|exact X.out _ (((((by assumption:Below (n+1+1) f _).mono (Nat.le_succ _)).setCell (BR _) _).setCell (BR _) _).setCell (BR _) _))
  (first
   |(go_at_call 46;refine(ZC D c.s _ (Q.out _ Ab) O).mono ?_;rintro e T ⟨u1,rfl,BA,G⟩;obtain⟨t,q,rfl⟩:=BA.form;have s7:=G.size;(try replace Co:=Co.keep G O);have x:=HQ.out _ _ Ab G;have z7:=x.size;obtain⟨⟨f0,f1,f2⟩,c0,c1,c2⟩:=HT.out _ x)
   |(go_at_call 46;refine(ZC E c.r _ (R.out _ Ab) O).mono ?_;rintro e T ⟨u2,rfl,Co,G⟩;obtain⟨z,y,rfl⟩:=Co.form;have s7:=G.size;(try replace BA:=BA.keep G O);have x:=HQ.out _ _ Ab G;have z7:=x.size;obtain⟨⟨f0,f1,f2⟩,c0,c1,c2⟩:=HT.out _ x))
 have H:=Bl.below S.out x O;have aH:=L.out;have FD:=(hl.keep C.out (by have:=L.out;omega)).keep (x.mono (show n<=n+1+1 by omega)) (by have:=L.out;omega)
 have L3:=((H.set (j:=0) (.slice t (J c.s) q)).set (j:=1) (.slice z (J c.r) y)).set (j:=2) (.slice p (J l) k);replace BA:=(((BA.other (b:=n+1) O 0 (.slice t (J c.s) q)).other (b:=n+1) O 1 (.slice z (J c.r) y)).other (b:=n+1) O 2 (.slice p (J l) k));replace Co:=(((Co.other (b:=n+1) O 0 (.slice t (J c.s) q)).other (b:=n+1) O 1 (.slice z (J c.r) y)).other (b:=n+1) O 2 (.slice p (J l) k));replace FD:=(((FD.other (b:=n+1) O 0 (.slice t (J c.s) q)).other (b:=n+1) O 1 (.slice z (J c.r) y)).other (b:=n+1) O 2 (.slice p (J l) k));have BF:=(((C.out.trans (x.mono O)).setCell (p:=⟨n+1,0,I⟩) (by show n<=n+1;omega) (.slice t (J c.s) q)).setCell (p:=⟨n+1,1,I⟩) (by show n<=n+1;omega) (.slice z (J c.r) y)).setCell (p:=⟨n+1,2,I⟩) (by show n<=n+1;omega) (.slice p (J l) k)
 have zF:(((T.setCell ⟨n+1,0,I⟩ (.slice t (J c.s) q)).setCell ⟨n+1,1,I⟩ (.slice z (J c.r) y)).setCell ⟨n+1,2,I⟩ (.slice p (J l) k)).heap.size=T.heap.size:=At;generalize ((T.setCell ⟨n+1,0,I⟩ (.slice t (J c.s) q)).setCell ⟨n+1,1,I⟩ (.slice z (J c.r) y)).setCell ⟨n+1,2,I⟩ (.slice p (J l) k)=WF at*;have r0:=L3.cell 0;have r1:=L3.cell 1;have r2:=L3.cell 2;simp at r0 r1 r2;have aB:=L.out;clear f0 f1 f2 c0 c1 c2 H X HQ HT HA Q R aF S C aC aE L;go_wp2_with fail;refine bodyPost_ret (v:=.agg #[.slice t (J c.s) q,.slice z (J c.r) y,.slice p (J l) k]) (by simp[results,Tryz.results147,go_sem,r0,r1,r2]) rfl ⟨_,rfl,⟨_,_,_,rfl,BA.wide O O,Co.wide O O,FD.wide O O,Oy BA Co O,Oy BA FD O,Oy Co FD O⟩,by rw[<-aB];exact BF⟩
def RG(i:Nat):Prop:=i%4=0\/i%4=3
def MW(n:Nat)(h g f:Value)(c:BY)(i:Nat)(x:Value)(w:World):Prop:=
 match i with
 |0=>(∃b,x=.slice (Z b) 0 0)/\w.ownsRow (n+1+1) 3 1 x 0 []
 |1=>x=.pointer (Z ⟨n,0,I⟩)
 |2=>x=h
 |3=>w.ownsRow (n+1+1) 3 1 x (J c.s) (BW c.s)
 |4=>(∃b,x=.slice (Z b) 0 0)/\w.ownsRow (n+1+1) 3 1 x 0 []
 |5=>x=.pointer (Z ⟨n,1,I⟩)
 |6=>x=g
 |7=>w.ownsRow (n+1+1) 3 1 x (J c.r) (BW c.r)
 |8=>(∃b,x=.slice (Z b) 0 0)/\w.ownsRow (n+1+1) 76 5 x 0 []
 |9=>x=.pointer (Z ⟨n,2,I⟩)
 |10=>x=f
 |11=>w.ownsRow (n+1+1) 76 5 x (J c.l) (BW (De c.l))
 |12=>∃a d e,x=.agg #[a,d,e]/\w.ownsRow (n+1+1) 3 1 a (J c.s) (BW c.s)/\w.ownsRow (n+1+1) 3 1 d (J c.r) (BW c.r)/\w.ownsRow (n+1+1) 76 5 e (J c.l) (BW (De c.l))/\Hm a d/\Hm a e/\Hm d e
 |_=>True
theorem MW.next{n}{b j f}{c}{i}{x}{w a}(h:MW n b j f c i x w)(l:Below w.heap.size w a):MW n b j f c i x a:=by
 have k:=fun{e:TypeId} {t:Nat} {v:Value} {m:Nat} {q:List Value} (g:w.ownsRow (n+1+1) e t v m q)=>Qm g l (BR _)
 unfold MW at*;split at h<;>first|exact h|exact k h|exact⟨h.1,k h.2⟩|(obtain⟨s,o,p,e,Bs,r,CZ,d⟩:=h;exact⟨s,o,p,e,k Bs,k r,k CZ,d⟩)
theorem MW.lt{n}{f d b}{c}{i}{x}{w}(h:MW n f d b c i x w)(j:i<12)(e:RG i):∀g,x.ownBlock=Z g->g<w.heap.size:=by
 intro g a;unfold RG at e;have:i=0\/i=3\/i=4\/i=7\/i=8\/i=11:=O;rcases this with rfl|rfl|rfl|rfl|rfl|rfl
 ·exact(h.2.lt g a).2
 ·exact(World.ownsRow.lt h g a).2
 ·exact(h.2.lt g a).2
 ·exact(World.ownsRow.lt h g a).2
 ·exact(h.2.lt g a).2
 exact(World.ownsRow.lt h g a).2
structure WI(n:Nat)(v1 v2 v3:Value)(c:BY)(W:World)(listed:Array Bool)(f:Nat->Value)(w:World):Prop where
 size:listed.size=14
 val:∀i,i<13->listed.getD i U=V->MW n v1 v2 v3 c i (f i) w
 dis:∀i j,i<12->j<12->RG i->RG j->i/4≠j/4->listed.getD i U=V->listed.getD j U=V->Hm (f i) (f j)
 C:Below (n+1) W w
 big:n+1+1<=w.heap.size
 pre:listed.getD 13 U=U->Below (n+1+1) W w
 post:listed.getD 13 U=V->∃y1 y2 y3,Bl w (n+1) [y1,y2,y3]/\w.ownsRow (n+1+1) 3 1 y1 (J c.s) (BW c.s)/\w.ownsRow (n+1+1) 3 1 y2 (J c.r) (BW c.r)/\w.ownsRow (n+1+1) 76 5 y3 (J c.l) (BW (De c.l))/\Hm y1 y2/\Hm y1 y3/\Hm y2 y3
theorem WI.step{n}{t v r}{c}{y}{a}{f}{w s}(h:WI n t v r c y a f w){i}(X:i<13){x}(l:Below w.heap.size w s)(P:MW n t v r c i x s)
  (F:RG i->∀j,j<12->RG j->i/4≠j/4->a.getD j U=V->Hm x (f j)):WI n t v r c y (a.setIfInBounds i V) (λk=>if k=i then x else f k) s:=by
 have T:=l.size;have z:=h.big;have b:∀j,j≠i->(a.setIfInBounds i V).getD j U=V->a.getD j U=true:=λj m g=>by rwa[getD_set_ne U (λe=>m e.symm)]at g
 refine⟨by simpa using h.size,λj m g=>?_,λj k m D u q d E C=>?_,h.C.trans (l.mono O),O,λg=>?_,λg=>?_⟩
 ·by_cases e:j=i
  ·subst e;simpa using P
  simp only[AO e];exact(h.val j m (b j e g)).next l
 ·by_cases p:j=i
  ·subst p
   have o:k≠j:=λe=>d (by rw[e])
   simp only[AZ,AO o];exact F u k D q d (b k o C)
  by_cases o:k=i
  ·subst o
   simp only[AZ,AO p];exact(F q j m u (λe=>d e.symm) (b j p E)).symm
  simp only[AO p,AO o];exact h.dis j k m D u q d (b j p E) (b k o C)
 ·rw[getD_set_ne U O]at g
  exact(h.pre g).trans (l.mono O)
 rw[getD_set_ne U O]at g;obtain⟨N,H,M,G,L,S,Q,R⟩:=h.post g;exact⟨N,H,M,G.below l G.lt,Qm L l (BR _),Qm S l (BR _),Qm Q l (BR _),R⟩
theorem WI.new{n}{i q l}{c}{e}{a}{f}{w}(h:WI n i q l c e a f w){x}(b:∀g,x.ownBlock=Z g->w.heap.size<=g):∀j,j<12->RG j->a.getD j U=V->Hm x (f j):=by
 intro j p o d g k m;have:=b g k;have:=(h.val j O d).lt p o g m;omega
theorem zO{w:World}{a}{e:TypeId}{d}{v}{m}{c}(h:w.ownsRow a e d v m c){b}(f:b<a)(j)(u):(w.setCell ⟨b,j,I⟩ u).ownsRow a e d v m c:=
 ((CH.mk' h).other (b:=b) (.inl f) j u).1
theorem MW.store{n}{b f a}{c}{i}{x}{w}(h:MW n b f a c i x w)(j)(u):MW n b f a c i x (w.setCell ⟨n+1,j,I⟩ u):=by
 have k:=fun{e:TypeId} {s:Nat} {v:Value} {m:Nat} {o:List Value} (g:w.ownsRow (n+1+1) e s v m o)=>zO g (Jc (n+1)) j u
 unfold MW at*;split at h<;>first|exact h|exact k h|exact⟨h.1,k h.2⟩|(obtain⟨r,l,q,e,Bs,p,CZ,d⟩:=h;exact⟨r,l,q,e,k Bs,k p,k CZ,d⟩)
def RR(w:World)(v:Value)(m:List (List Bool)):Prop:=
 ∃a:List Value,Cd w v (J m) 1 a/\∀(i:Nat) (u:Value) (r:List Bool),a[i]? =Z u->m[i]? =Z r->Cd w u (J r) 1 (Fc r)
def Ma(w:World)(c b:Nat)(v:Value)(m:List (List Bool)):Prop:=
 ∃a:List Value,CH w c b 63 1 v (J m) a/\(∀(i:Nat) (u:Value) (r:List Bool),a[i]? =Z u->m[i]? =Z r->CH w c b 4 1 u (J r) (Fc r))/\
  (∀(i j:Nat) (u d:Value),i<j->a[i]? =Z u->a[j]? =Z d->Hm u d)/\∀(i:Nat) (u:Value),a[i]? =Z u->Hm u v
theorem RR.below{w d}{v}{m}(h:RR w v m)(c:Below w.heap.size w d):RR d v m:=by
 obtain⟨g,e,f⟩:=h;exact⟨g,e.below c,λi u r a b=>(f i u r a b).below c⟩
theorem Ma.L{w}{f e}{v}{m}(h:Ma w f e v m):RR w v m:=by
 obtain⟨g,c,d,_⟩:=h;exact⟨g,c.L,λi u r a b=>(d i u r a b).L⟩
theorem Ma.keep{w e}{j c g}{v}{m}(h:Ma w j c v m)(d:Below g w e)(f:c<=g):Ma e j c v m:=by
 obtain⟨k,l,o,n⟩:=h;exact⟨k,l.keep d f,λi u r a b=>(o i u r a b).keep d f,n⟩
theorem Ma.out{w j}{f e c d}{v}{m}(h:Ma w f e v m)(g:ER c d w j)(k:e<=c\/d<=f):Ma j f e v m:=by
 obtain⟨l,n,p,o⟩:=h;exact⟨l,n.out g k,λi u r a b=>(p i u r a b).out g k,o⟩
theorem Ma.wide{w}{g f c d}{v}{m}(h:Ma w g f v m)(Bs:c<=g)(e:f<=d):Ma w c d v m:=by
 obtain⟨j,k,n,l⟩:=h;exact⟨j,k.wide Bs e,λi u r a b=>(n i u r a b).wide Bs e,l⟩
theorem RR.open{w}{v}{m}(h:RR w v m):∃a e,v=.slice a (J m) e/\(J m)<=9223372036854775807/\
  ∀i (l:i<J m),∃b c g f,a=Z ⟨b,c,I⟩/\b<w.heap.size/\w.cell? ⟨b,c+i,I⟩=Z (.slice g m[i].length f)/\Cd w (.slice g m[i].length f) m[i].length 1 (Fc m[i]):=by
 obtain⟨y,n,s⟩:=h;obtain⟨a,e,t,z,x,q,d⟩:=n.open1;refine⟨a,e,t,x,λi l=>?_⟩
 obtain⟨b,c,r,p,j⟩:=d i l;have o:i<J y:=by rw[n.1];omega
 rw[CF o]at j;have k:=s i _ _ (CF o) (CF l);obtain⟨g,f,u⟩:=k.form;rw[u]at j k;exact⟨b,c,g,f,r,p,j,k⟩
end Go.Proofs.YtfbeblgnjeokaaaGreat

namespace Go.Proofs.YtfbeblgnjeokaaaGreat
open Go Go.RowKit Go.ChangeShapes Go.WideShapes Go.Deep
section
variable{H:Type}{enc:TypeId×Value->H}{W:World}
end
end Go.Proofs.YtfbeblgnjeokaaaGreat

namespace Go.Proofs.YtfbeblgnjeokaaaGreat
open Go Go.RowKit
def Hn(w:World)(b a g:Nat)(m:List (List Bool)):Prop:=
 Ma w b a (.slice (Z ⟨g,0,I⟩) (J m) (J m)) m/\∀i:Nat,i<J m->(Bf m i).length=0->w.cell? ⟨g,i,I⟩=Z (.slice I 0 0)
theorem Hn.wide{w}{d c a b g}{m}(h:Hn w d c g m)(e:a<=d)(f:c<=b):Hn w a b g m:=⟨h.1.wide e f,h.2⟩
theorem Hn.lt{w}{b a g}{m}(h:Hn w b a g m):b<=g/\g<a/\g<w.heap.size:=by
 obtain⟨d,c,_⟩:=h.1;exact c.lt g rfl
theorem Hn.keep{w d}{e a b g}{m}(h:Hn w e a g m)(c:Below b w d)(f:a<=b):Hn d e a g m:=by
 have k:=h.lt;exact⟨h.1.keep c f,λi a j=>(c.cell (p:=⟨g,i,I⟩) (by show g<b;omega)).trans (h.2 i a j)⟩
theorem Hn.at{w}{o n g}{m}(h:Hn w o n g m){i}(a:i<J m):
  w.frozen? ⟨g,i,I⟩=U/\∃u,w.cell? ⟨g,i,I⟩=Z u/\CH w o n 4 1 u (Bf m i).length (Fc (Bf m i))/\u.ownBlock≠Z g:=by
 obtain⟨k,d,r,t,p⟩:=h.1;have l:i<J k:=by have:=d.1.1;omega
 obtain⟨q,c,b,-,-,-,s,x,v⟩:=d.at l;cases b
 obtain⟨q,c,b,-,-,-,-,-,-,f⟩:=d.open O;cases b
 have j:=CF l;refine⟨s,k[i],f i _ j,?_,λe=>p i _ j g e rfl⟩
 have:=r i _ _ j (CF a);rw[ZW a];exact this
theorem ac5{e:List Value}{y}{u}(l:∀(i j:Nat) (a b:Value),i<j->e[i]? =Z a->e[j]? =Z b->Hm a b)(k:∀i a,e[i]? =Z a->i≠y->Hm a u):
  ∀(i j:Nat) (a b:Value),i<j->(e.set y u)[i]? =Z a->(e.set y u)[j]? =Z b->Hm a b:=by
 intro i j a b g d c;rw[IT]at d c;by_cases h:y=i
 ·rw[AZ h]at d
  have f:¬y=j:=O;rw[AO f]at c;split at d
  ·cases d
   exact(k j b c O).symm
  cases d
 rw[AO h]at d;by_cases f:y=j
 ·rw[AZ f]at c
  split at c
  ·cases c
   exact k i a d O
  cases c
 rw[AO f]at c;exact l i j a b g d c
theorem pL(w:World)(b j)(u)(k)(h:k≠b):(w.setCell ⟨b,j,I⟩ u).heap[k]? =w.heap[k]? :=Below.heap_setCell _ _ _ _ h
theorem Hn.setRow{w}{z j f k g}{m}(h:Hn w z j g m){y}(t:y<J m){u}{r}(D:J r=14)(q:CH w f k 4 1 u 14 (Fc r))(L:j<=f)(M:f<=k):
  Hn (w.setCell ⟨g,y,I⟩ u) z k g (m.set y r):=by
 have H:=h.lt;obtain⟨⟨v,s,C,E,x⟩,o⟩:=h;have G:J v=J m:=by have:=s.1.1;omega
 have n:∀d,u.ownBlock=Z d->d≠g:=λd e=>by have:=q.lt d e;omega
 refine⟨⟨v.set y u,?_,?_,?_,?_⟩,?_⟩
 ·rw[GP]
  exact(s.setCell O u).wide (BR _) O
 ·intro i a F b c
  rw[IT]at b c;split at b
  ·rename_i e
   rw[AZ e]at c;rw[AZ t]at c;cases c
   split at b
   ·cases b
    rw[D];exact(q.same λd e=>pL _ _ _ _ _ (n d e)).wide O (BR _)
   cases b
  rename_i e
  rw[AO e]at c;exact((C i a F b c).same λd e=>pL _ _ _ _ _ λl=>x i a b d e (by rw[l];rfl)).wide (BR _) O
 ·refine ac5 E λi a b _=>?_
  have j:i<J m:=by have:=(EA.1 b).1;omega
  exact Oy (C i a _ b (CF j)) q O
 ·intro i a b
  rw[IT]at b;split at b
  ·split at b
   ·cases b
    exact λd e l=>n d e (by cases l;rfl)
   cases b
  have:=x i a b;rw[GP];exact this
 intro i j p;rw[GP]at j;rw[PB _ _ t]at p;split at p
 ·omega
 rename_i e
 rw[World.cell?_setCell_other _ _ _ _ (by intro l;cases l;exact e At)]
 exact o i j p
def Ot(w:World)(g:Nat)(m:List (List Bool))(b:Nat):Prop:=b=g\/∃(i:Nat) (u:Value),i<J m/\w.cell? ⟨g,i,I⟩=Z u/\u.ownBlock=Z b
theorem Hn.blk{w}{e d g}{m}(h:Hn w e d g m){b}(f:Ot w g m b):e<=b/\b<d/\b<w.heap.size:=by
 rcases f with rfl|⟨i,u,c,k,l⟩
 ·exact h.lt
 obtain⟨-,n,a,j,-⟩:=h.at c;rw[k]at a;cases a
 exact j.lt b l
theorem sM{w a:World}{b}(h:a.heap[b]? =w.heap[b]?)(o):a.cell? ⟨b,o,I⟩=w.cell? ⟨b,o,I⟩:=by simp[World.cell?,h]
theorem Hn.same{w w'}{lo hi g}{m}(h:Hn w lo hi g m)(p:∀b,Ot w g m b->w'.heap[b]? =w.heap[b]?):Hn w' lo hi g m/\∀b,Ot w' g m b->Ot w g m b:=by
 have l:=p g (.inl rfl);obtain⟨⟨n,k,L,y,H⟩,f⟩:=h;have F:J n=J m:=by have:=k.1.1;omega
 have a:∀(i:Nat) (u:Value),n[i]? =Z u->i<J m/\w.cell? ⟨g,i,I⟩=Z u:=by
  intro i u c;have d:=(EA.1 c).1;obtain⟨z,C,x,-,-,-,-,-,-,o⟩:=k.open O;cases x
  exact⟨O,o i u c⟩
 refine⟨⟨⟨n,k.same λz e=>by cases e;exact l,λi u r c v=>(L i u r c v).same λb e=>p b (.inr ⟨i,u,(a i u c).1,(a i u c).2,e⟩),y,H⟩,λi d G=>(sM l i).trans (f i d G)⟩,?_⟩
 rintro b (rfl|⟨i,u,D,E,t⟩)
 ·exact .inl rfl
 exact .inr ⟨i,u,D,(sM l i).symm.trans E,t⟩
theorem Hn.next{w a}{e d g}{m}(h:Hn w e d g m)(f:Below w.heap.size w a):Hn a e d g m/\∀b,Ot a g m b->Ot w g m b:=
 h.same λb c=>f.block b (h.blk c).2.2
theorem Hn.setRow_blk{w}{p o g}{m}(h:Hn w p o g m){y}(n:y<J m)(u)(r){b}(f:Ot (w.setCell ⟨g,y,I⟩ u) g (m.set y r) b):Ot w g m b\/u.ownBlock=Z b:=by
 rcases f with rfl|⟨i,j,d,a,c⟩
 ·exact .inl (.inl rfl)
 rw[GP]at d;by_cases e:i=y
 ·subst e
  obtain⟨s,q,l,-,-⟩:=h.at n;rw[World.cell?_setCell_same _ _ _ l]at a;cases a
  exact .inr c
 rw[World.cell?_setCell_other _ _ _ _ (by intro k;cases k;exact e rfl)]at a
 exact .inl (.inr ⟨i,j,d,a,c⟩)
def UL(w:World)(g:Nat)(m:List (List Bool))(v:Value):Prop:=∀b,v.ownBlock=Z b->¬Ot w g m b
theorem UL.next{w a}{f e g}{m}{v}(h:UL w g m v)(i:Hn w f e g m)(c:Below w.heap.size w a):UL a g m v:=λb j d=>h b j ((i.next c).2 b d)
theorem UL.setRow{w}{i f g y}{m}{v u}{r}(h:UL w g m v)(j:Hn w i f g m)(d:y<J m)(k:∀b,v.ownBlock=Z b->u.ownBlock≠Z b):UL (w.setCell ⟨g,y,I⟩ u) g (m.set y r) v:=by
 intro b c e;rcases j.setRow_blk d _ _ e with a|a
 ·exact h b c a
 exact k b c a
noncomputable def af5(w:World)(v:Value):Nat:=open Classical in if h:∃m,RR w v m then LE h.choose else 0
theorem wf(Ad):∀y a p,DH (y::a) (p+1) Ad=y::DH a p Ad:=by
 induction Ad with
 |nil=>intro y a p;rfl
 |cons u r b=>intro y a p;simp only[DH,List.set_cons_succ];exact b _ _ _
theorem ia(x):∀l k,k<J l->DH (BW (De l)) (k*5) [.int .i64 x.op,.int .i64 x.a,.int .i64 x.b,.int .i64 x.c,.int .i64 x.d]=BW (De (l.set k x))
 |[],k,h=>by simp at h
 |y::l,0,_=>by simp[DH,De,BW]
 |y::l,k+1,h=>by
  have f:=ia x l k (by simpa using h)
  have e:(k+1)*5=k*5+1+1+1+1+1:=O;rw[e];simp only[De,BW,Fa,List.set_cons_succ,wf];simp only[BW]at f;rw[f]
def MK(a:List Bool)(n k:Nat):List Int:=Mu a k++Ac (n-k) 0
theorem nM(a){n k}(h:k<=n):(MK a n k).length=n:=by simp[MK,Uv];omega
theorem xD(a)(n):MK a n 0=Ac n 0:=by simp[MK,Mu]
theorem xM(a)(n):MK a n n=Mu a n:=by simp[MK]
theorem xV(a){n k}(h:k<n):MK a n (k+1)=(MK a n k).set k (DS a k):=by
 unfold MK;rw[List.set_append_right _ _ (by rw[Uv];exact BR _),Uv,Nat.sub_self,xq]
 obtain⟨d,b⟩:∃d,n-k=d+1:=⟨n-k-1,O⟩;rw[b,show n-(k+1)=d by omega,List.replicate_succ]
 simp
theorem vu(v u)(c)(ds f)(hc:Bp c=V)(w)(h:IL w v c)(hu:Cd w u (J c.l) 1 (Fc ds))(cX:J f=J c.l)(cB:∀i,i<J c.l->ds.getD i U= !f.getD i U):
  Calls prog 98 #[v,u] w λe w'=>∃z,e=.returned z/\IJ w' w.heap.size w'.heap.size z {c with l:=Da c f (J c.l)}/\Below w.heap.size w w':=by
 have cF:=h;obtain⟨v1,v2,v3,rfl,h1,h2,h3⟩:=h;obtain⟨a3,k3,rfl,-,bZ,-,cI⟩:=h3.ins;obtain⟨au,cu,rfl,-,-,-,cA⟩:=hu.open1;have dG:=(Hj hc).2.2.1;have dL:=(Hj hc).2.1;obtain⟨n,hn⟩:∃n,n=w.heap.size:=⟨_,rfl⟩;obtain⟨aH,hW⟩:∃aH,aH=(w.alloc (.cells #[v1,v2,.slice a3 (J c.l) k3] 26)).alloc (.cells #[.slice I 0 0,.slice I 0 0,.slice I 0 0] 26):=⟨_,rfl⟩;have B0:Below w.heap.size w aH:=by rw[hW];go_grown
 have sW:aH.heap.size=n+1+1:=by rw[hW,hn];simp
 have L1:Bl aH n [v1,v2,.slice a3 (J c.l) k3]:=by rw[hW,hn];exact(Bl.new w [v1,v2,.slice a3 (J c.l) k3] _).alloc _
 have L2:Bl aH (n+1) [.slice I 0 0,.slice I 0 0,.slice I 0 0]:=by rw[hW,hn];exact Bl.new' (w.alloc _) [.slice I 0 0,.slice I 0 0,.slice I 0 0] _ At
 have bV:=eW (P:=prog) (t:=23) Tryz.underlying23 Rn rfl O (J c.l) O bZ;have aE:=jT aH (Value.int .i64 0).cells.toList (J c.l) 1 3 rfl bZ;rw[show(Value.int .i64 0).cells.toList=[Value.int .i64 0]from rfl,Up,sW]at aE;rw[show(Value.int .i64 0).cells.toList=[Value.int .i64 0]from rfl,Up]at bV;have eR:(Ac (J c.l) (Value.int .i64 0)).toArray=Jw (J c.l) (Value.int .i64 0):=At;rw[eR]at bV aE
 have aB:CH (aH.alloc (.cells (Jw (J c.l) (Value.int .i64 0)) 3)) (n+1+1) (n+1+1+1) 3 1 (.slice (Z ⟨n+1+1,0,I⟩) (J c.l) (J c.l)) (J c.l) (BW (MK f (J c.l) 0)):=by
  rw[xD,BW,List.map_replicate];exact aE
 have x2:(aH.alloc (.cells (Jw (J c.l) (Value.int .i64 0)) 3)).cell? ⟨n,2,I⟩=Z (.slice a3 (J c.l) k3):=by simpa using(L1.alloc (.cells (Jw (J c.l) (Value.int .i64 0)) 3)).cell 2
 have bF:=L1.cell 2;simp only[Fp,Hg]at bF;generalize Jw (J c.l) (Value.int .i64 0)=zn at*;rw[hW,hn]at x2 bF;go_enter func98,ntmps98;go_wp2_with fail;rw[<-hW, <-hn];clear x2 bF hW bV eR aE;obtain⟨W2,aZ⟩:∃W2,W2=aH.alloc (.cells zn 3):=⟨_,rfl⟩;have bz:Below aH.heap.size aH W2:=by rw[aZ];go_grown
 have s2:W2.heap.size=n+1+1+1:=by rw[aZ];simp[sW]
 rw[<-aZ]at aB ⊢;replace L1:=L1.below bz L1.lt;replace L2:=L2.below bz L2.lt;have B2:=B0.trans (bz.mono B0.size);have HN:=show Hid (n=w.heap.size)from hn;have HI:=BD cI;have HU:=BD cA;have cG:=BD cB;clear aZ bz sW B0 cI cA cB hn
 go_loopw [6,7,19] (λq _ i wr=>∃k:Nat,k<=J c.l/\i=.int .i64 k/\q=.int .i64 (DS f k:Int)/\Bl wr n [v1,v2,.slice a3 (J c.l) k3]/\Bl wr (n+1) [.slice I 0 0,.slice I 0 0,.slice I 0 0]/\
   CH wr (n+1+1) (n+1+1+1) 3 1 (.slice (Z ⟨n+1+1,0,I⟩) (J c.l) (J c.l)) (J c.l) (BW (MK f (J c.l) k))/\Below w.heap.size w wr) (λ_ _ i _=>J c.l-(intOf i).toNat)
 case atStart=>exact⟨0,Di _,rfl,by rw[XH];rfl,L1,L2,aB,B2⟩
 case round=>
  obtain⟨k,hk,rfl,rfl,G,F,ho,hb⟩:=hrel;clear L1 L2 aB B2;by_cases M:k<J c.l
  ·obtain⟨b,bU,rfl,aU,hy⟩:=HU.out k M
   have bM:J ds=J c.l:=by have:=hu.1;simpa[Fc]using this
   rw[iV _ _ O, <-(JF hb).1 _ _ aU]at hy;have aI:ds[k]'O= !f.getD k false:=by rw[<-cG.out k M];simp[show k<(J ds) by omega]
   rw[aI]at hy;have HP:=BD (xV f M);have HS:=BD (Pw f k O);obtain⟨g,cQ,hv,-,-,-,hf,u0,bP⟩:=ho.at (j:=k) (by rw[qB,nM f hk];exact M)
   cases hv
   have aL:=ho.setCell (j:=k) (by rw[qB,nM f hk];exact M) (.int .i64 (DS f k:Int))
   rw[show(BW (MK f (J c.l) k)).set k (.int .i64 (DS f k:Int))=BW ((MK f (J c.l) k).set k (DS f k:Int)) by simp[BW,List.map_set], <-HP.out]at aL
   have bD:=G.other (p:=⟨n+1+1,k,I⟩) (by show n≠n+1+1;omega) (.int .i64 (DS f k:Int))
   have bB:=F.other (p:=⟨n+1+1,k,I⟩) (by show n+1≠n+1+1;omega) (.int .i64 (DS f k:Int))
   have bY:=hb.setCell (p:=⟨n+1+1,k,I⟩) (by show w.heap.size<=n+1+1;have:=HN.out;omega) (.int .i64 (DS f k:Int))
   have N:(wr.setCell ⟨n+1+1,k,I⟩ (.int .i64 (DS f k:Int))).cell? ⟨b,bU+k,I⟩=Z (.bool !f.getD k U):=by
    rw[World.cell?_setCell_other _ _ _ _ (by intro e;have e1:n+1+1=b:=congrArg Addr.block e;have:=HN.out;omega)]
    exact hy
   have bG:=Q7 f k;clear aI bM hy;cases D:f.getD k U
   ·have H:=show Hid (DS f (k+1)=DS f k)from by unfold Hid;rw[HS.out,D];simp
    rw[D]at N;simp only[Bool.not_false]at N;clear D;go_wp2_with fail;exact⟨⟨k+1,O,by go_num,by rw[H.out],bD,bB,aL,bY⟩,by simp[intOf];omega⟩
   have H:=show Hid (DS f (k+1)=DS f k+1)from by unfold Hid;rw[HS.out,D];simp
   rw[D]at N;simp only[Bool.not_true]at N;clear D;go_wp2_with fail;exact⟨⟨k+1,O,by go_num,by rw[H.out];go_num,bD,bB,aL,bY⟩,by simp[intOf];omega⟩
  have bQ:k=J c.l:=O;subst bQ;rw[xM]at ho;have x2:=G.cell 2;simp only[Fp,Hg]at x2;go_wp2_with fail;clear x2
  go_loopw [8,9,10,11,37] (λq _ _ _ i wr=>∃(k:Nat) (a:Option Addr) (cq:Nat),k<=J c.l/\i=.int .i64 k/\q=.slice a (Da c f k).length cq/\wr.ownsRow (n+1+1+1) 76 5 q (Da c f k).length (BW (De (Da c f k)))/\Bl wr n [v1,v2,.slice a3 (J c.l) k3]/\Bl wr (n+1) [.slice I 0 0,.slice I 0 0,.slice I 0 0]/\
    CH wr (n+1+1) (n+1+1+1) 3 1 (.slice (Z ⟨n+1+1,0,I⟩) (J c.l) (J c.l)) (J c.l) (BW (Mu f (J c.l)))/\Below w.heap.size w wr) (λ_ _ _ _ i _=>J c.l-(intOf i).toNat)
  case atStart=>exact⟨0,I,0,Di _,rfl,rfl,World.ownsRow_nil _ _ _ _,G,F,ho,hb⟩
  case round=>
   clear G F ho hb;obtain⟨k,a,cq,hk,rfl,rfl,hq,G,F,ho,hb⟩:=hrel;by_cases M:k<J c.l
   ·obtain⟨b,bU,rfl,aU,hy⟩:=HU.out k M
    obtain⟨bl,ol,cW,cR,i0,i1,i2,i3,i4⟩:=HI.out k M;have bM:J ds=J c.l:=by have:=hu.1;simpa[Fc]using this
    rw[iV _ _ O, <-(JF hb).1 _ _ aU]at hy;have aI:ds[k]'O= !f.getD k false:=by rw[<-cG.out k M];simp[show k<(J ds) by omega]
    rw[aI]at hy;have bE:=(Hj hc).2.2.2.1 k M;rw[<-(JF hb).1 _ _ cR]at i0 i1 i2 i3 i4;have bK:=show Hid (0<=CL c.l[k]->JS c (CL c.l[k]))from λg=>⟨g,UY bE g⟩
    have aV:Hid (IU f c.l[k]=if 0<=CL c.l[k]then FJ c.l[k] (DS f (CL c.l[k]).toNat:Int)else c.l[k]):=rfl
    have aF:=show Hid (f.getD k U=V->Da c f (k+1)=Da c f k++[IU f c.l[k]])from λg=>by rw[Vm g,IV M]
    have aD:=show Hid (f.getD k U=U->Da c f (k+1)=Da c f k)from λg=>az g
    have cY:=kf c f k;obtain⟨x,hx⟩:∃x,x=c.l[k]:=⟨_,rfl⟩;rw[<-hx]at i0 i1 i2 i3 i4 bK aV aF;have cZ:(k:Int)<J c.l:=O;have cL:n+1+1<wr.heap.size:=(ho.lt _ rfl).2.2;have cH:b<wr.heap.size:=IM aU hb.size;have b4:Below wr.heap.size wr (wr.alloc (.cells #[.int .i64 x.op,.int .i64 x.a,.int .i64 x.b,.int .i64 x.c,.int .i64 x.d] 76)):=by go_grown
    have N:(wr.alloc (.cells #[.int .i64 x.op,.int .i64 x.a,.int .i64 x.b,.int .i64 x.c,.int .i64 x.d] 76)).cell? ⟨b,bU+k,I⟩=Z (.bool !f.getD k U):=((JF b4).1 _ _ cH).trans hy;subst cW;clear aI bM bE hx;have aY:=Qm hq b4 (BR _);have aW:=ho.keep b4 O;have S:=G.below b4 G.lt;have T:=F.below b4 F.lt;have aO:=hb.trans (b4.mono hb.size);have LX:=Bl.new wr [.int .i64 x.op,.int .i64 x.a,.int .i64 x.b,.int .i64 x.c,.int .i64 x.d] 76;cases D:f.getD k U
    ·have H:=show Hid (Da c f (k+1)=Da c f k)from aD.out D
     rw[D]at N;simp only[Bool.not_false]at N;clear D aD aF;go_wp2_with fail;refine⟨⟨k+1,a,cq,O,by go_num,by rw[H.out],by rw[H.out];exact aY,S,T,aW,aO⟩,by simp[intOf];omega⟩
    have H:=show Hid (Da c f (k+1)=Da c f k++[IU f x])from aF.out D;rw[D]at N;simp only[Bool.not_true]at N;clear D aD aF;go_wp2_with fail;clear N hy i0 i1 i2 i3 i4;obtain⟨w4,bW⟩:∃w4,w4=wr.alloc (.cells #[.int .i64 x.op,.int .i64 x.a,.int .i64 x.b,.int .i64 x.c,.int .i64 x.d] 76):=⟨_,rfl⟩;rw[<-bW]at LX aY aW S T aO ⊢;have cT:w4.heap.size=wr.heap.size+1:=by rw[bW];simp
    have bC:∀g,(Value.slice a (Da c f k).length cq).ownBlock=Z g->g<wr.heap.size:=λg e=>(hq.lt g e).2
    obtain⟨m,cC⟩:∃m,m=wr.heap.size:=⟨_,rfl⟩;rw[<-cC]at LX cT bC cL ⊢;clear bW hq ho G F hb b4 cH cC;refine(be x _).mono ?_;rintro e o ⟨rfl,b5⟩;have dD:=b5.size;have cM:=Qm aY b5 (BR _);have bS:=aW.keep b5 O;have aM:=S.below b5 S.lt;have y:=T.below b5 T.lt;have C:=LX.below b5 LX.lt;have aG:=aO.trans (b5.mono aO.size);have aS:m<o.heap.size:=O;clear b5 aY aW S T LX aO;by_cases ht:0<=CL x
    ·have bG:=bK.out ht
     have Q:=aV.out;rw[AZ ht]at Q;obtain⟨t,cN⟩:∃t:Nat,CL x=t:=⟨(CL x).toNat,O⟩;have cU:=show Hid (0<=CL x)from ht;rw[cN]at Q bG ht ⊢;rw[Gb]at Q;obtain⟨dO,dP⟩:=bG;have aX:t<J c.l:=O;obtain⟨g,cQ,hv,-,-,-,-,-,-,bP⟩:=bS.open O;cases hv
     have bH:=bP t _ (by rw[Tg _ _ (by rw[Uv];exact aX)])
     have cJ:(Mu f (J c.l))[t]'(by rw[Uv];exact aX)=(DS f t:Int):=by
      have:=yi f (J c.l) t aX;rw[CF (by rw[Uv];exact aX)]at this
      exact Option.some.inj this
     rw[cJ]at bH;obtain⟨q,bR⟩:∃q,q=FJ x (DS f t:Int):=⟨_,rfl⟩;have bT:=show Hid (IU f x=q)from by unfold Hid;rw[Q,bR]
     have cO:Hid (∀X,Calls prog 96 #[x.v,.int .i64 (DS f t:Int)] (o.ext X) λe cP=>e=.returned (.agg #[.int .i64 q.op,.int .i64 q.a,.int .i64 q.b,.int .i64 q.c,.int .i64 q.d])/\∃dF,cP=o.ext dF):=λX=>Calls.ext_of' ((gv x _ _ cU.out).mono λe w' h=>by rw[<-bR]at h;exact h)
     have i0:=C.cell 0;have i1:=C.cell 1;have i2:=C.cell 2;have i3:=C.cell 3;have i4:=C.cell 4;simp only[Fp,Hg]at i0 i1 i2 i3 i4;have j0:=λX=>FN i0 X
     have j1:=λX=>FN i1 X
     have j2:=λX=>FN i2 X
     have j3:=λX=>FN i3 X
     have j4:=λX=>FN i4 X
     have jp:=λX=>FN bH X
     have dB:=λX=>LK aS (C.free 0) X
     have dA:=λX=>LK aS (C.free 1) X
     have dH:=λX=>LK aS (C.free 2) X
     have dC:=λX=>LK aS (C.free 3) X
     have dJ:=λX=>LK aS (C.free 4) X
     clear i0 i1 i2 i3 i4 bH bP cJ bR Q cN;go_wp2_with fail;refine iu 6 _ rfl Au Au ?_;simp only[List.set_cons_succ,List.set_cons_zero,Im];repeat(any_goals (first|go_big_quiet_step ((go_at_call 96;exact cO.out _))|quiet_step ((go_at_call 96;exact cO.out _))))
     refine wpQuiet_nil ?_;rintro _ ⟨X,rfl⟩;have bX:=Jy o X;have cD:=C.below bX C.lt;have L:Bl ((((((o.ext X).setCell ⟨m,0,I⟩ (.int .i64 q.op)).setCell ⟨m,1,I⟩ (.int .i64 q.a)).setCell ⟨m,2,I⟩ (.int .i64 q.b)).setCell ⟨m,3,I⟩ (.int .i64 q.c)).setCell ⟨m,4,I⟩ (.int .i64 q.d)) m [.int .i64 q.op,.int .i64 q.a,.int .i64 q.b,.int .i64 q.c,.int .i64 q.d]:=((((cD.set (j:=0) (.int .i64 q.op)).set (j:=1) (.int .i64 q.a)).set (j:=2) (.int .i64 q.b)).set (j:=3) (.int .i64 q.c)).set (j:=4) (.int .i64 q.d);have hO:ER m (m+1) (o.ext X) ((((((o.ext X).setCell ⟨m,0,I⟩ (.int .i64 q.op)).setCell ⟨m,1,I⟩ (.int .i64 q.a)).setCell ⟨m,2,I⟩ (.int .i64 q.b)).setCell ⟨m,3,I⟩ (.int .i64 q.c)).setCell ⟨m,4,I⟩ (.int .i64 q.d)):=ER.setFrom (p:=0) [.int .i64 q.op,.int .i64 q.a,.int .i64 q.b,.int .i64 q.c,.int .i64 q.d] (ER.refl m (m+1) (o.ext X)) (BR m) (Jc m);have cK:=Qm cM bX (BR _)
     have bJ:((((((o.ext X).setCell ⟨m,0,I⟩ (.int .i64 q.op)).setCell ⟨m,1,I⟩ (.int .i64 q.a)).setCell ⟨m,2,I⟩ (.int .i64 q.b)).setCell ⟨m,3,I⟩ (.int .i64 q.c)).setCell ⟨m,4,I⟩ (.int .i64 q.d)).ownsRow (n+1+1+1) 76 5 (.slice a (Da c f k).length cq) (Da c f k).length (BW (De (Da c f k))):=by
      have h1:CH (o.ext X) (n+1+1+1) m 76 5 (.slice a (Da c f k).length cq) (Da c f k).length (BW (De (Da c f k))):=⟨cK,bC⟩;exact(h1.out hO (.inl (BR _))).1
     have bN:=(bS.keep bX O).out hO (.inl O);have aR:=(aM.below bX aM.lt).out hO (.inl O);have aJ:=(y.below bX y.lt).out hO (.inl O);have dM:=bX.size;have bI:Below w.heap.size w ((((((o.ext X).setCell ⟨m,0,I⟩ (.int .i64 q.op)).setCell ⟨m,1,I⟩ (.int .i64 q.a)).setCell ⟨m,2,I⟩ (.int .i64 q.b)).setCell ⟨m,3,I⟩ (.int .i64 q.c)).setCell ⟨m,4,I⟩ (.int .i64 q.d)):=(aG.trans (bX.mono aG.size)).trans (hO.below (by have:=HN.out;omega) (by have:=aG.size;omega))
     clear jp cD cK;have i0:=L.cell 0;have i1:=L.cell 1;have i2:=L.cell 2;have i3:=L.cell 3;have i4:=L.cell 4;simp only[Fp,Hg]at i0 i1 i2 i3 i4;have aC:=(NH ((((((o.ext X).setCell ⟨m,0,I⟩ (.int .i64 q.op)).setCell ⟨m,1,I⟩ (.int .i64 q.a)).setCell ⟨m,2,I⟩ (.int .i64 q.b)).setCell ⟨m,3,I⟩ (.int .i64 q.c)).setCell ⟨m,4,I⟩ (.int .i64 q.d)) (g:=(o.ext X).heap.size) #[.int .i64 q.op,.int .i64 q.a,.int .i64 q.b,.int .i64 q.c,.int .i64 q.d] 1 5 76 At rfl O).L;have bO:=bJ.alloc (.cells #[.int .i64 q.op,.int .i64 q.a,.int .i64 q.b,.int .i64 q.c,.int .i64 q.d] 76);have aQ:(((((((o.ext X).setCell ⟨m,0,I⟩ (.int .i64 q.op)).setCell ⟨m,1,I⟩ (.int .i64 q.a)).setCell ⟨m,2,I⟩ (.int .i64 q.b)).setCell ⟨m,3,I⟩ (.int .i64 q.c)).setCell ⟨m,4,I⟩ (.int .i64 q.d)).alloc (.cells #[.int .i64 q.op,.int .i64 q.a,.int .i64 q.b,.int .i64 q.c,.int .i64 q.d] 76)).heap.size=(o.ext X).heap.size+1:=At;have bL:n+1+1+1<=(o.ext X).heap.size:=O;go_wp2_with (at_builtin;refine OT rfl _ _ rfl Tryz.underlying24 iT rfl O rfl bO rfl aC (Tk (l:=(q).l)) O O (by rw[aQ];omega) ?_;rintro a4 q4 w7 LR b7- -)
     have ba:Below (o.ext X).heap.size ((((((o.ext X).setCell ⟨m,0,I⟩ (.int .i64 q.op)).setCell ⟨m,1,I⟩ (.int .i64 q.a)).setCell ⟨m,2,I⟩ (.int .i64 q.b)).setCell ⟨m,3,I⟩ (.int .i64 q.c)).setCell ⟨m,4,I⟩ (.int .i64 q.d)) (((((((o.ext X).setCell ⟨m,0,I⟩ (.int .i64 q.op)).setCell ⟨m,1,I⟩ (.int .i64 q.a)).setCell ⟨m,2,I⟩ (.int .i64 q.b)).setCell ⟨m,3,I⟩ (.int .i64 q.c)).setCell ⟨m,4,I⟩ (.int .i64 q.d)).alloc (.cells #[.int .i64 q.op,.int .i64 q.a,.int .i64 q.b,.int .i64 q.c,.int .i64 q.d] 76)):=(Below.refl _ _).alloc At _;have b8:Below (n+1+1+1) ((((((o.ext X).setCell ⟨m,0,I⟩ (.int .i64 q.op)).setCell ⟨m,1,I⟩ (.int .i64 q.a)).setCell ⟨m,2,I⟩ (.int .i64 q.b)).setCell ⟨m,3,I⟩ (.int .i64 q.c)).setCell ⟨m,4,I⟩ (.int .i64 q.d)) w7:=(ba.mono O).trans b7;have aN:(Da c f (k+1)).length=(Da c f k).length+1:=by rw[H.out];simp
     have R:BW (De (Da c f (k+1)))=BW (De (Da c f k))++(#[.int .i64 q.op,.int .i64 q.a,.int .i64 q.b,.int .i64 q.c,.int .i64 q.d]:Array Value).toList:=by
      rw[H.out,bT.out,lx];simp[BW,De]
     refine⟨⟨k+1,a4,q4,O,by go_num,by rw[aN],by rw[aN,R];exact LR,aR.below b8 O,aJ.below b8 O,bN.keep b8 (BR _),bI.trans (b8.mono (by have:=HN.out;omega))⟩,by simp[intOf];omega⟩
    have Q:=aV.out;rw[AO ht]at Q;have bT:=show Hid (IU f x=x)from Q;have dK:CL x<0:=O;clear Q ht aV bK;have L:=C;have bJ:=cM;have bN:=bS;have aR:=aM;have aJ:=y;have bI:=aG;have i0:=L.cell 0;have i1:=L.cell 1;have i2:=L.cell 2;have i3:=L.cell 3;have i4:=L.cell 4;simp only[Fp,Hg]at i0 i1 i2 i3 i4;have aC:=(NH o (g:=o.heap.size) #[.int .i64 x.op,.int .i64 x.a,.int .i64 x.b,.int .i64 x.c,.int .i64 x.d] 1 5 76 At rfl O).L;have bO:=bJ.alloc (.cells #[.int .i64 x.op,.int .i64 x.a,.int .i64 x.b,.int .i64 x.c,.int .i64 x.d] 76);have aQ:(o.alloc (.cells #[.int .i64 x.op,.int .i64 x.a,.int .i64 x.b,.int .i64 x.c,.int .i64 x.d] 76)).heap.size=o.heap.size+1:=At;have bL:n+1+1+1<=o.heap.size:=O;go_wp2_with (at_builtin;refine OT rfl _ _ rfl Tryz.underlying24 iT rfl O rfl bO rfl aC (Tk (l:=(x).l)) O O (by rw[aQ];omega) ?_;rintro a4 q4 w7 LR b7- -)
    have ba:Below o.heap.size o (o.alloc (.cells #[.int .i64 x.op,.int .i64 x.a,.int .i64 x.b,.int .i64 x.c,.int .i64 x.d] 76)):=(Below.refl _ _).alloc At _;have b8:Below (n+1+1+1) o w7:=(ba.mono O).trans b7;have aN:(Da c f (k+1)).length=(Da c f k).length+1:=by rw[H.out];simp
    have R:BW (De (Da c f (k+1)))=BW (De (Da c f k))++(#[.int .i64 x.op,.int .i64 x.a,.int .i64 x.b,.int .i64 x.c,.int .i64 x.d]:Array Value).toList:=by
     rw[H.out,bT.out,lx];simp[BW,De]
    refine⟨⟨k+1,a4,q4,O,by go_num,by rw[aN],by rw[aN,R];exact LR,aR.below b8 O,aJ.below b8 O,bN.keep b8 (BR _),bI.trans (b8.mono (by have:=HN.out;omega))⟩,by simp[intOf];omega⟩
   have bQ:k=J c.l:=O;subst bQ;have x0:=G.cell 0;have x1:=G.cell 1;have x2:=G.cell 2;have z0:=F.cell 0;have z1:=F.cell 1;have z2:=F.cell 2;simp only[Fp,Hg]at x0 x1 x2 z0 z1 z2;go_wp2_with fail;have cV:CH wr (n+1+1+1) wr.heap.size 76 5 (.slice a (Da c f (J c.l)).length cq) (Da c f (J c.l)).length (BW (De (Da c f (J c.l)))):=CH.mk' hq;have cL:n+1+1<wr.heap.size:=(ho.lt _ rfl).2.2;refine(yG _ c _ _ _ (Da c f (J c.l)) _ _ _ (cF.below hb) (gc hc) cV O (BR _)).mono ?_;rintro e o ⟨z,rfl,oz,b5⟩;obtain⟨y1,y2,y3,rfl,-⟩:=id oz;obtain⟨p1,q1,p2,q2,p3,q3,e1,e2,e3⟩:=Code.rowOf oz;simp only at e1 e2 e3;subst e1 e2 e3;have aG:=hb.trans (b5.mono hb.size);have y:=F.below b5 F.lt;clear x0 x1 x2 z0 z1 z2;have z0:=y.cell 0;have z1:=y.cell 1;have z2:=y.cell 2;simp only[Fp,Hg]at z0 z1 z2;have f0:=y.free 0;have f1:=y.free 1;have f2:=y.free 2;have s5:=b5.size;go_wp2_with fail;have hn:=HN.out;have L4:=((y.set (j:=0) (.slice p1 (J c.s) q1)).set (j:=1) (.slice p2 (J c.r) q2)).set (j:=2) (.slice p3 (Da c f (J c.l)).length q3)
   have hO:ER (n+1) (n+1+1) o (((o.setCell ⟨n+1,0,I⟩ (.slice p1 (J c.s) q1)).setCell ⟨n+1,1,I⟩ (.slice p2 (J c.r) q2)).setCell ⟨n+1,2,I⟩ (.slice p3 (Da c f (J c.l)).length q3)):=
    (((ER.refl (n+1) (n+1+1) o).setCell (p:=⟨n+1,0,I⟩) (BR _) (Jc _) _).setCell (p:=⟨n+1,1,I⟩) (BR _) (Jc _) _).setCell (p:=⟨n+1,2,I⟩) (BR _) (Jc _) _
   have oF:=oz.out hO (.inr O);have zF:(((o.setCell ⟨n+1,0,I⟩ (.slice p1 (J c.s) q1)).setCell ⟨n+1,1,I⟩ (.slice p2 (J c.r) q2)).setCell ⟨n+1,2,I⟩ (.slice p3 (Da c f (J c.l)).length q3)).heap.size=o.heap.size:=At;have BF:=((aG.setCell (p:=⟨n+1,0,I⟩) (by show w.heap.size<=n+1;omega) (.slice p1 (J c.s) q1)).setCell (p:=⟨n+1,1,I⟩) (by show w.heap.size<=n+1;omega) (.slice p2 (J c.r) q2)).setCell (p:=⟨n+1,2,I⟩) (by show w.heap.size<=n+1;omega) (.slice p3 (Da c f (J c.l)).length q3)
   have r0:=L4.cell 0;have r1:=L4.cell 1;have r2:=L4.cell 2;simp only[Fp,Hg,List.set_cons_zero,List.set_cons_succ]at r0 r1 r2;generalize ((o.setCell ⟨n+1,0,I⟩ (.slice p1 (J c.s) q1)).setCell ⟨n+1,1,I⟩ (.slice p2 (J c.r) q2)).setCell ⟨n+1,2,I⟩ (.slice p3 (Da c f (J c.l)).length q3)=WF at*;exact bodyPost_ret (v:=.agg #[.slice p1 (J c.s) q1,.slice p2 (J c.r) q2,.slice p3 (Da c f (J c.l)).length q3]) (by simp[results,Tryz.results98,go_sem,r0,r1,r2]) rfl ⟨_,rfl,oF.wide O O,BF⟩
def en(w:World)(a n:Nat):Nat:=(DA n).countP λj=>match w.cell? ⟨a,j,I⟩with|some (.bool U)=>V|_=>U
theorem on{w}{r p}{e:TypeId}{d n c}{a}(h:CH w r p e 1 (.slice (Z ⟨d,0,I⟩) n c) n (Fc a))(s:0<n):en w d n=a.count false:=by
 obtain⟨g,f,k,-,-,-,-,-,-,i⟩:=h.open s;cases k
 have o:J a=n:=by have:=h.1.1;simpa[Fc]using this
 have l:a=(DA n).map λj=>a.getD j true:=by
  apply List.ext_getElem
  ·simp[o]
  intro j m t;simp[m]
 unfold en;rw[List.count,l,List.countP_map];refine List.countP_congr λj q=>?_
 rw[GW]at q;have b:j<J a:=O;rw[i j (.bool a[j]) (by simp[Fc,b])]
 simp[b];cases a[j]<;>simp
theorem vr(v)(c)(hc:Bp c=V)(w)(h:IL w v c):
  Calls prog 97 #[v] w λe w'=>∃u,e=.returned u/\CH w' w.heap.size w'.heap.size 4 1 u (J c.l) (Fc (JN c))/\Below w.heap.size w w':=by
 have aH:=h;obtain⟨v1,v2,v3,rfl,h1,h2,h3⟩:=h;obtain⟨a3,k3,rfl,-,aF,-,-⟩:=h3.open;obtain⟨C,hW⟩:∃C,C=(w.alloc (.cells #[v1,v2,.slice a3 (J c.l) k3] 26)):=⟨_,rfl⟩;have B0:Below w.heap.size w C:=by rw[hW];go_grown
 have sW:C.heap.size=w.heap.size+1:=by rw[hW];simp
 have S:Bl C w.heap.size [v1,v2,.slice a3 (J c.l) k3]:=by rw[hW];exact(Bl.new w [v1,v2,.slice a3 (J c.l) k3] _)
 obtain⟨-,bN,bL,-,-⟩:=Hj hc;have aC:=eW (P:=prog) (t:=63) Tryz.underlying63 K1 rfl O (J c.l) O aF;have E:=jT C (Value.bool U).cells.toList (J c.l) 1 4 rfl aF;rw[show(Value.bool U).cells.toList=[Value.bool U]from rfl,Up,sW]at E
 have o:CH (C.alloc (.cells (Ac (J c.l) (Value.bool U)).toArray 4)) (w.heap.size+1) (w.heap.size+1+1) 4 1 (.slice (Z ⟨w.heap.size+1,0,I⟩) (J c.l) (J c.l)) (J c.l) (Fc (Ac (J c.l) U)):=by
  rw[Fc,List.map_replicate];exact E
 have x2:=S.cell 2;simp at x2;rw[show(Value.bool U).cells.toList=[Value.bool U]from rfl,Up]at aC;have eR:(Ac (J c.l) (Value.bool U)).toArray=Jw (J c.l) (Value.bool U):=At;rw[eR]at aC o;clear E eR;go_enter func97,ntmps97;rw[hW]at x2;go_wp2_with fail;rw[<-hW];clear x2 aC hW;have B1:Below w.heap.size w (C.alloc (.cells (Jw (J c.l) (Value.bool U)) 4)):=B0.trans (Below.mono (by go_grown:Below C.heap.size C _) B0.size)
 have s1:(C.alloc (.cells (Jw (J c.l) (Value.bool U)) 4)).heap.size=w.heap.size+1+1:=by simp[sW]
 replace S:=S.alloc (.cells (Jw (J c.l) (Value.bool U)) 4);generalize C.alloc (.cells (Jw (J c.l) (Value.bool U)) 4)=M at*;have hq:=NH M #[.int .i64 0] 1 1 3 s1.symm rfl O;rw[s1]at hq;have B2:=B1.trans (Below.mono (by go_grown:Below M.heap.size M (M.alloc (.cells #[.int .i64 0] 3))) B1.size)
 replace o:=o.keep (by go_grown:Below M.heap.size M (M.alloc (.cells #[.int .i64 0] 3))) O
 replace S:=S.alloc (.cells #[.int .i64 0] 3);generalize M.alloc (.cells #[.int .i64 0] 3)=W2 at*;clear B0 B1 s1 sW
 go_loopw [4] (λq wr=>∃(r:List Int) (y:List Bool) (a:Option Addr) (k:Nat),q=.slice a (J r) k/\wr.ownsRow (w.heap.size+1+1) 3 1 q (J r) (BW r)/\
  CH wr (w.heap.size+1) (w.heap.size+1+1) 4 1 (.slice (Z ⟨w.heap.size+1,0,I⟩) (J c.l) (J c.l)) (J c.l) (Fc y)/\Md c r y/\
  Bl wr w.heap.size [v1,v2,.slice a3 (J c.l) k3]/\Below w.heap.size w wr)
  (λq wr=>(match q with|.slice _ n _=>n|_=>0)+3*en wr (w.heap.size+1) (J c.l))
 case atStart=>exact⟨[0],_,_,_,rfl,hq.1,o,Md.start hc,S,B2⟩
 case round=>
  obtain⟨r,y,a,k,rfl,hq,ho,hi,hL,hb⟩:=hrel;have HI:=BD hi;have hf:=on ho O;have HF:=BD hf;clear hi hf o B2 S;by_cases F:0<J r
  ·obtain⟨f,i,x⟩:∃f i,r=f++[i]:=⟨r.dropLast,r.getLast (by intro h;rw[h]at F;simp at F),(List.dropLast_concat_getLast _).symm⟩
   have D:J r=J f+1:=by rw[x];simp
   have hI:=HI.out;rw[x]at hI;have aI:=hI.l i At;obtain⟨m,rfl⟩:∃m:Nat,i=m:=⟨i.toNat,O⟩;have aZ:m<J c.l:=O;have H:m<J y:=by rw[hI.len];exact aZ
   obtain⟨g,bI,G,aW,aO,bK,hf,u0,aU⟩:=ho.at (j:=m) (by simpa[Fc]using H)
   cases G
   have p1:wr.cell? ⟨w.heap.size+1,m,I⟩=Z (.bool y[m]):=by
    obtain⟨g,Q,G,-,-,-,-,-,-,aB⟩:=ho.open O;cases G
    exact aB m _ (by simp[Fc,H])
   obtain⟨gq,bE,p0⟩:∃gq,a=Z ⟨gq,0,I⟩/\wr.cell? ⟨gq,J f,I⟩=Z (.int .i64 m):=by
    have bB:CH wr (w.heap.size+1+1) wr.heap.size 3 1 (.slice a (J r) k) (J r) (BW r):=CH.mk' hq;obtain⟨g,Q,G,-,-,-,-,-,-,aB⟩:=bB.open F;cases G
    exact⟨g,rfl,aB (J f) _ (by rw[x];simp[BW])⟩
   subst bE
   have aY:J r<=k:=by
    rcases hq.2 with⟨G,_⟩|⟨g,Q,bQ,G,_,_,bD,_⟩
    ·cases G
    cases G;exact bD
   have L:wr.ownsRow (w.heap.size+1+1) 3 1 (.slice (Z ⟨gq,0,I⟩) (J f) k) (J f) (BW f):=by
    have aL:=hq;rw[show BW r=BW f++[.int .i64 m] by rw[x];simp[BW]]at aL
    exact F8 aL O F (by simp[BW])
   rw[D]at hq aY ⊢;have bH:=BD x;have bG:=BD D;clear x D F u0 aU;have aD:y[(m:Int).toNat]? =Z y[m]:=by rw[Gb,CF H]
   have bJ:J f<=1000:=by have:=hI.cnt;simp at this;omega
   have aG:=BD hI;have bM:=show Hid (Fg c m)from aI.2.2;clear hI aI;have z:=hL.other (p:=⟨w.heap.size+1,m,I⟩) (by show w.heap.size≠w.heap.size+1;omega) (.bool V)
   have y0:=z.cell 0;have y1:=z.cell 1;have y2:=z.cell 2;simp only[Fp,Hg]at y0 y1 y2;cases X:y[m]
   all_goals
    rw[X]at p1;rw[X]at aD;have HB:=BD aD;clear X aD;go_wp2_with fail
   ·have R:Below w.heap.size w (wr.setCell ⟨w.heap.size+1,m,I⟩ (.bool V)):=hb.setCell (p:=⟨w.heap.size+1,m,I⟩) (by show w.heap.size<=w.heap.size+1;omega) _
    have T:=ho.setCell (j:=m) (by simpa[Fc]using H) (.bool V)
    have aN:=((CH.mk' L).other (b:=w.heap.size+1) O m (.bool V)).1;rw[show(Fc y).set m (.bool V)=Fc (y.set m V) by simp[Fc]]at T
    have bO:(wr.setCell ⟨w.heap.size+1,m,I⟩ (.bool V)).heap.size=wr.heap.size:=At;clear y0 y1 y2 hL hf p1 p0 aW aO;generalize wr.setCell ⟨w.heap.size+1,m,I⟩ (.bool V)=W3 at*;refine(wA _ c hc m _ (aH.below R) O O).mono ?_;rintro e w2 ⟨u,ns,rfl,bC,aQ,aE,b2⟩;obtain⟨a2,q2,rfl⟩:=aE.form;have s2:=b2.size;have aV:=Qm aN b2 (BR _);have aM:=T.keep b2 O;have aS:=z.below b2 z.lt;have aX:=R.trans (b2.mono R.size);clear aN T z;go_wp2_with (at_builtin;refine OT rfl _ _ rfl Tryz.underlying23 Rn rfl O rfl aV rfl aE Tk O O O ?_;rintro a4 q4 w4 LR b4- -);have N:=aM.keep b4 O;have aJ:=aG.out.mark hc HB.out bC aQ;rw[Gb]at aJ;have bP:=TK (bs:=y) (k:=m) (by have:=HB.out;rwa[Gb]at this)
    have aR:=on N O;refine⟨⟨f++ns,y.set m V,a4,q4,At,by simpa[BW]using LR,N,aJ,aS.below b4 O,aX.trans (b4.mono O)⟩,?_⟩
    rw[aR,HF.out];simp;omega
   exact⟨⟨f,y,_,_,rfl,L,ho,aG.out.skip HB.out,hL,hb⟩,At⟩
  have bF:r=[]:=FM O;subst bF;go_wp2_with fail;go_ret;exact⟨_,rfl,by rw[<-HI.out.done hc];exact ho.wide O (by have:=ho.lt _ rfl;omega),hb⟩
noncomputable def Jk(c:BY)(k:Nat):List Bool:=(DA (J c.l)).map fun i=>if i<k then !Kg c i else(JN c).getD i U
theorem jK(c)(k):(Jk c k).length=J c.l:=by simp[Jk]
theorem yM(c):Jk c 0=JN c:=by
 apply List.ext_getElem (by rw[jK,P8])
 intro i b a;simp[Jk,a]
theorem xj(c)(k)(_h:k<J c.l):Jk c (k+1)=(Jk c k).set k (!Kg c k):=by
 apply List.ext_getElem (by simp[jK])
 intro i b d;rw[List.getElem_set];simp only[Jk,List.getElem_map,List.getElem_range];by_cases e:k=i
 ·subst e
  rw[AZ rfl,AZ (Jc _)]
 rw[AO e];by_cases a:i<k
 ·rw[AZ O,AZ a]
 rw[AO O,AO a]
theorem uf(c)(k)(h:k<J c.l):(Jk c k)[k]? =Z ((JN c).getD k U):=by
 simp[Jk,h]
theorem d7(c)(i)(h:i<J c.l):(Jk c (J c.l)).getD i U= !(DK c).getD i false:=by
 rw[SG c i h];simp[Jk,h]
theorem a8(v)(c)(hc:Bp c=V)(w)(h:IL w v c):
  Calls prog 44 #[v] w λe w'=>∃z,e=.returned z/\IJ w' w.heap.size w'.heap.size z (IZ c)/\Below w.heap.size w w':=by
 have Q:=h;obtain⟨v1,v2,v3,rfl,h1,h2,h3⟩:=h;obtain⟨a3,k3,rfl,-,aU,-,aD⟩:=h3.ins;have aR:=(Hj hc).2.2.1;obtain⟨n,N⟩:∃n,n=w.heap.size:=⟨_,rfl⟩;obtain⟨R,hW⟩:∃R,R=(w.alloc (.cells #[v1,v2,.slice a3 (J c.l) k3] 26)).alloc (.cells #[.slice I 0 0,.slice I 0 0,.slice I 0 0] 26):=⟨_,rfl⟩;have B0:Below w.heap.size w R:=by rw[hW];go_grown
 have sW:R.heap.size=n+1+1:=by rw[hW,N];simp
 have L:Bl R n [v1,v2,.slice a3 (J c.l) k3]:=by rw[hW,N];exact(Bl.new w [v1,v2,.slice a3 (J c.l) k3] _).alloc _
 have L2:Bl R (n+1) [.slice I 0 0,.slice I 0 0,.slice I 0 0]:=by rw[hW,N];exact Bl.new' (w.alloc _) [.slice I 0 0,.slice I 0 0,.slice I 0 0] _ At
 have x0:=L.cell 0;have x1:=L.cell 1;have G:=L.cell 2;simp only[Fp,Hg]at x0 x1 G;rw[hW,N]at x0 x1 G;go_enter func44,ntmps44;go_wp2_with fail;rw[<-hW, <-N];clear hW x0 x1 G;refine(vr _ c hc _ (Q.below B0)).mono ?_;rintro e w1 ⟨ud,rfl,od,b1⟩;obtain⟨ad,kd,rfl⟩:=od.form;replace L:=L.below b1 L.lt;replace L2:=L2.below b1 L2.lt;have B1:=B0.trans (b1.mono B0.size);have s1:=b1.size;have F:=od.wide (show n+1+1<=R.heap.size by omega) (BR _)
 have HN:=show Hid (n=w.heap.size)from N;have HI:=BD aD;have G:=L.cell 2;simp only[Fp,Hg]at G;clear aD N od;go_wp2_with fail;clear G;rw[<-yM]at F;obtain⟨H,hH⟩:∃H,H=w1.heap.size:=⟨_,rfl⟩;rw[<-hH]at F;have aJ:H<=w1.heap.size:=O;clear hH;go_loopw [4,5,11] (λ_ _ i wr=>∃k:Nat,k<=J c.l/\i=.int .i64 k/\Bl wr n [v1,v2,.slice a3 (J c.l) k3]/\Bl wr (n+1) [.slice I 0 0,.slice I 0 0,.slice I 0 0]/\CH wr (n+1+1) H 4 1 (.slice ad (J c.l) kd) (J c.l) (Fc (Jk c k))/\Below w.heap.size w wr/\H<=wr.heap.size) (λ_ _ i _=>J c.l-(intOf i).toNat)
 case atStart=>exact⟨0,Di _,rfl,L,L2,F,B1,aJ⟩
 case round=>
  obtain⟨k,hk,rfl,q,u,ho,hb,aH⟩:=hrel;clear L L2 F B1;by_cases t:k<J c.l
  ·obtain⟨b,aL,aM,aN,i0,i1,i2,i3,i4⟩:=HI.out k t
   rw[<-(JF hb).1 _ _ aN]at i0 i1 i2 i3 i4;have HK:Hid (Kg c k=((JN c).getD k U&& !(Y (c.l[k].op=8)&&Y (c.l[k].a=(k:Int)+1)))):=by unfold Hid Kg WL;rw[IV t]
   have HS:=BD (xj c k t);obtain⟨x,hx⟩:∃x,x=c.l[k]:=⟨_,rfl⟩;rw[<-hx]at i0 i1 i2 i3 i4 HK;clear hx;subst aM;have aS:(k:Int)<J c.l:=O;obtain⟨g,aX,hv,aW,aQ,aC,-,-,aF,aE⟩:=ho.open O;cases hv
   have M:k<(Jk c k).length:=by rw[jK];exact t
   have yk:=aE k _ (iV _ k M)
   have aB:(Jk c k)[k]=(JN c).getD k false:=by
    have:=uf c k t;rw[CF M]at this;exact Option.some.inj this
   rw[aB]at yk;have b4:Below wr.heap.size wr (wr.alloc (.cells #[.int .i64 x.op,.int .i64 x.a,.int .i64 x.b,.int .i64 x.c,.int .i64 x.d] 76)):=by go_grown
   have yw:=((JF b4).1 _ k aC).trans yk;have fw:=((JF b4).2 _ k aC).trans (aF k)
   have P:∀z:Bool,z= !Kg c k->Bl ((wr.setCell ⟨g,k,I⟩ (.bool z)).alloc (.cells #[.int .i64 x.op,.int .i64 x.a,.int .i64 x.b,.int .i64 x.c,.int .i64 x.d] 76)) n [v1,v2,.slice (Z ⟨b,aL,I⟩) (J c.l) k3]/\Bl ((wr.setCell ⟨g,k,I⟩ (.bool z)).alloc (.cells #[.int .i64 x.op,.int .i64 x.a,.int .i64 x.b,.int .i64 x.c,.int .i64 x.d] 76)) (n+1) [.slice I 0 0,.slice I 0 0,.slice I 0 0]/\
     CH ((wr.setCell ⟨g,k,I⟩ (.bool z)).alloc (.cells #[.int .i64 x.op,.int .i64 x.a,.int .i64 x.b,.int .i64 x.c,.int .i64 x.d] 76)) (n+1+1) H 4 1 (.slice (Z ⟨g,0,I⟩) (J c.l) kd) (J c.l) (Fc (Jk c (k+1)))/\Below w.heap.size w ((wr.setCell ⟨g,k,I⟩ (.bool z)).alloc (.cells #[.int .i64 x.op,.int .i64 x.a,.int .i64 x.b,.int .i64 x.c,.int .i64 x.d] 76))/\H<=((wr.setCell ⟨g,k,I⟩ (.bool z)).alloc (.cells #[.int .i64 x.op,.int .i64 x.a,.int .i64 x.b,.int .i64 x.c,.int .i64 x.d] 76)).heap.size:=by
    intro z hz;have h1:=ho.setCell (j:=k) (by simpa[Fc]using M) (.bool z)
    rw[show(Fc (Jk c k)).set k (.bool z)=Fc ((Jk c k).set k z) by simp[Fc,List.map_set],hz, <-HS.out, <-hz]at h1
    have bb:Below (wr.setCell ⟨g,k,I⟩ (.bool z)).heap.size (wr.setCell ⟨g,k,I⟩ (.bool z)) ((wr.setCell ⟨g,k,I⟩ (.bool z)).alloc (.cells #[.int .i64 x.op,.int .i64 x.a,.int .i64 x.b,.int .i64 x.c,.int .i64 x.d] 76)):=by go_grown
    refine⟨(q.other (p:=⟨g,k,I⟩) (by show n≠g;omega) _).alloc _,(u.other (p:=⟨g,k,I⟩) (by show n+1≠g;omega) _).alloc _,h1.keep bb (by simpa using aH),?_,CY⟩
    exact(hb.setCell (p:=⟨g,k,I⟩) (by show w.heap.size<=g;have:=HN.out;omega) _).alloc (by have:=hb.size;simpa using this) _
   have o:=BD P;clear P aB M yk aE aF ho q u;cases C:(JN c).getD k U
   ·have HV:=show Hid (V= !Kg c k)from by unfold Hid;rw[HK.out,C];rfl
    rw[C]at yw;clear C;go_wp2_with fail;obtain⟨y,E,D,S,T⟩:=o.out _ HV.out;exact⟨⟨k+1,O,by go_num,y,E,D,S,T⟩,by simp[intOf];omega⟩
   rw[C]at yw;by_cases X:x.op=8
   ·have q8:(x.op==8)=true:=by simp[X]
    by_cases ha:x.a=(k:Int)+1
    ·have qa:(x.a==(k:Int)+1)=true:=by simp[ha]
     have HV:=show Hid (V= !Kg c k)from by unfold Hid;rw[HK.out,C];simp[X,ha]
     clear C X ha;go_wp2_with fail;obtain⟨y,E,D,S,T⟩:=o.out _ HV.out;exact⟨⟨k+1,O,by go_num,y,E,D,S,T⟩,by simp[intOf];omega⟩
    have qa:(x.a==(k:Int)+1)=false:=by simp[ha]
    have HV:=show Hid (U= !Kg c k)from by unfold Hid;rw[HK.out,C];simp[ha]
    clear C X ha;go_wp2_with fail;obtain⟨y,E,D,S,T⟩:=o.out _ HV.out;exact⟨⟨k+1,O,by go_num,y,E,D,S,T⟩,by simp[intOf];omega⟩
   have q8:(x.op==8)=false:=by simp[X]
   have HV:=show Hid (U= !Kg c k)from by unfold Hid;rw[HK.out,C];simp[X]
   clear C X;go_wp2_with fail;obtain⟨y,E,D,S,T⟩:=o.out _ HV.out;exact⟨⟨k+1,O,by go_num,y,E,D,S,T⟩,by simp[intOf];omega⟩
  have aO:k=J c.l:=O;subst aO;have x0:=q.cell 0;have x1:=q.cell 1;have G:=q.cell 2;simp only[Fp,Hg]at x0 x1 G;go_wp2_with fail;refine(vu _ _ c (Jk c (J c.l)) (DK c) hc _ (Q.below hb) ho.L (Xz c) (d7 c)).mono ?_;rintro e w5 ⟨z,rfl,oz,b5⟩;obtain⟨y1,y2,y3,rfl,-⟩:=id oz;obtain⟨p1,q1,p2,q2,p3,q3,y,E,D⟩:=Code.rowOf oz;simp only at y E D;subst y E D;have aI:=hb.trans (b5.mono hb.size);have f:=u.below b5 u.lt;have aV:=u.lt;clear x0 x1 G;have z0:=f.cell 0;have z1:=f.cell 1;have z2:=f.cell 2;simp only[Fp,Hg]at z0 z1 z2;have f0:=f.free 0;have f1:=f.free 1;have f2:=f.free 2;have s5:=b5.size;go_wp2_with fail;have N:=HN.out;obtain⟨l,hl⟩:∃l,l=Da c (DK c) (J c.l):=⟨_,rfl⟩;rw[<-hl]at oz ⊢;have L4:=((f.set (j:=0) (.slice p1 (J c.s) q1)).set (j:=1) (.slice p2 (J c.r) q2)).set (j:=2) (.slice p3 (J l) q3)
  have hO:ER (n+1) (n+1+1) w5 (((w5.setCell ⟨n+1,0,I⟩ (.slice p1 (J c.s) q1)).setCell ⟨n+1,1,I⟩ (.slice p2 (J c.r) q2)).setCell ⟨n+1,2,I⟩ (.slice p3 (J l) q3)):=
   (((ER.refl (n+1) (n+1+1) w5).setCell (p:=⟨n+1,0,I⟩) (BR _) (Jc _) _).setCell (p:=⟨n+1,1,I⟩) (BR _) (Jc _) _).setCell (p:=⟨n+1,2,I⟩) (BR _) (Jc _) _
  have oF:=oz.out hO (.inr O);have zF:(((w5.setCell ⟨n+1,0,I⟩ (.slice p1 (J c.s) q1)).setCell ⟨n+1,1,I⟩ (.slice p2 (J c.r) q2)).setCell ⟨n+1,2,I⟩ (.slice p3 (J l) q3)).heap.size=w5.heap.size:=At;have BF:=((aI.setCell (p:=⟨n+1,0,I⟩) (by show w.heap.size<=n+1;omega) (.slice p1 (J c.s) q1)).setCell (p:=⟨n+1,1,I⟩) (by show w.heap.size<=n+1;omega) (.slice p2 (J c.r) q2)).setCell (p:=⟨n+1,2,I⟩) (by show w.heap.size<=n+1;omega) (.slice p3 (J l) q3)
  have r0:=L4.cell 0;have r1:=L4.cell 1;have r2:=L4.cell 2;simp only[Fp,Hg,List.set_cons_zero,List.set_cons_succ]at r0 r1 r2;generalize ((w5.setCell ⟨n+1,0,I⟩ (.slice p1 (J c.s) q1)).setCell ⟨n+1,1,I⟩ (.slice p2 (J c.r) q2)).setCell ⟨n+1,2,I⟩ (.slice p3 (J l) q3)=WF at*;have aG:Hid (IZ c={c with l:=l}):=by unfold Hid IZ;rw[hl]
  exact bodyPost_ret (v:=.agg #[.slice p1 (J c.s) q1,.slice p2 (J c.r) q2,.slice p3 (J l) q3]) (by simp[results,Tryz.results44,go_sem,r0,r1,r2]) rfl ⟨_,rfl,by rw[aG.out];exact oF.wide O O,BF⟩
def IW(w:World)(a:Nat->Prop)(v:Value)(c:BY):Prop:=
 ∃e b d,v=.agg #[e,b,d]/\CV w a e (J c.s) 1 (BW c.s)/\CV w a b (J c.r) 1 (BW c.r)/\CV w a d (J c.l) 5 (BW (De c.l))
theorem IW.nice(v)(c):IQ λw b=>IW w b v c:=by
 rintro w k b i a ⟨j,h,f,rfl,d,g,e⟩;exact⟨j,h,f,rfl,CV.nice _ _ _ _ _ _ _ _ a d,CV.nice _ _ _ _ _ _ _ _ a g,CV.nice _ _ _ _ _ _ _ _ a e⟩
theorem IW.L{w}{e}{v}{c}(h:IW w e v c):IL w v c:=by
 obtain⟨g,i,d,rfl,a,f,b⟩:=h;exact⟨g,i,d,rfl,a.L,f.L,b.L⟩
theorem v8(v)(c)(hc:Bp c=V)(w)(h:IL w v c):
  Calls prog 43 #[v] w λe w'=>∃u,e=.returned u/\IJ w' w.heap.size w'.heap.size u (FA c)/\Below w.heap.size w w':=by
 have cM:=h;obtain⟨v1,v2,v3,rfl,h1,h2,h3⟩:=h;obtain⟨a3,k3,rfl,-,eB,-,cT⟩:=h3.ins;have eI:=(Hj hc).2.2.1;obtain⟨n,hn⟩:∃n,n=w.heap.size:=⟨_,rfl⟩;obtain⟨bQ,hW⟩:∃bQ,bQ=(w.alloc (.cells #[v1,v2,.slice a3 (J c.l) k3] 26)).alloc (.cells #[.slice I 0 0,.slice I 0 0,.slice I 0 0] 26):=⟨_,rfl⟩;have B0:Below w.heap.size w bQ:=by rw[hW];go_grown
 have sW:bQ.heap.size=n+1+1:=by rw[hW,hn];simp
 have L1:Bl bQ n [v1,v2,.slice a3 (J c.l) k3]:=by rw[hW,hn];exact(Bl.new w [v1,v2,.slice a3 (J c.l) k3] _).alloc _
 have L2:Bl bQ (n+1) [.slice I 0 0,.slice I 0 0,.slice I 0 0]:=by rw[hW,hn];exact Bl.new' (w.alloc _) [.slice I 0 0,.slice I 0 0,.slice I 0 0] _ At
 have x0:=L1.cell 0;have x1:=L1.cell 1;have x2:=L1.cell 2;simp only[Fp,Hg]at x0 x1 x2;rw[hW,hn]at x0 x1 x2;go_enter func43,ntmps43;go_wp2_with fail;rw[<-hW];clear hW x0 x1 x2;refine(mI _ c _ (cM.below B0) (gc hc)).mono ?_;rintro e w1 ⟨u,rfl,ou,b1⟩;obtain⟨y1,y2,y3,rfl,-⟩:=id ou;obtain⟨p1,q1,p2,q2,p3,q3,rfl,rfl,rfl⟩:=Code.rowOf ou;obtain⟨z1,z2,z3,hz,BA,Co,FD,cV,cQ,cO⟩:=ou;simp only[Value.agg.injEq,Array.mk.injEq,List.cons.injEq,and_true]at hz;obtain⟨rfl,rfl,rfl⟩:=hz;have B1:=B0.trans (b1.mono B0.size);have s1:=b1.size;replace L1:=L1.below b1 L1.lt;replace L2:=L2.below b1 L2.lt
 have x2:(w1.alloc (.cells #[.slice p1 (J c.s) q1,.slice p2 (J c.r) q2,.slice p3 (J c.l) q3] 26)).cell? ⟨w.heap.size,2,I⟩=Z (.slice a3 (J c.l) k3):=by
  have:=(L1.alloc (.cells #[.slice p1 (J c.s) q1,.slice p2 (J c.r) q2,.slice p3 (J c.l) q3] 26)).cell 2;rw[<-hn];simpa using this
 go_wp2_with fail;clear x2;obtain⟨T,hT⟩:∃T,T=w1.heap.size:=⟨_,rfl⟩;obtain⟨w2,bB⟩:∃w2,w2=w1.alloc (.cells #[.slice p1 (J c.s) q1,.slice p2 (J c.r) q2,.slice p3 (J c.l) q3] 26):=⟨_,rfl⟩;have L3:Bl w2 T [.slice p1 (J c.s) q1,.slice p2 (J c.r) q2,.slice p3 (J c.l) q3]:=by rw[bB];exact Bl.new' w1 _ _ hT
 have b2:Below w1.heap.size w1 w2:=by rw[bB];go_grown
 have s2:w2.heap.size=T+1:=by rw[bB,hT];simp
 rw[<-bB, <-hT];have B2:=B1.trans (b2.mono B1.size);replace L1:=L1.below b2 L1.lt;replace L2:=L2.below b2 L2.lt;replace BA:=(BA.keep b2 (BR _)).wide (show n+1+1<=bQ.heap.size by omega) (show w1.heap.size<=T by omega)
 replace Co:=(Co.keep b2 (BR _)).wide (show n+1+1<=bQ.heap.size by omega) (show w1.heap.size<=T by omega)
 replace FD:=(FD.keep b2 (BR _)).wide (show n+1+1<=bQ.heap.size by omega) (show w1.heap.size<=T by omega)
 have HT:=show Hid (n+1+1<=T)from by unfold Hid;omega
 have HN:=show Hid (n=w.heap.size)from hn;have HD:=BD (And.intro cV (And.intro cQ cO));have HI:=BD cT;rw[<-hn];clear bB hT b1 b2 B0 B1 sW s1 cT cV cQ cO hn;rw[<-lW c]at FD
 go_loopw [4,5,6,7,13] (λ_ _ _ _ i wr=>∃k:Nat,k<=J c.l/\i=.int .i64 k/\Bl wr n [v1,v2,.slice a3 (J c.l) k3]/\Bl wr (n+1) [.slice I 0 0,.slice I 0 0,.slice I 0 0]/\Bl wr T [.slice p1 (J c.s) q1,.slice p2 (J c.r) q2,.slice p3 (J c.l) q3]/\
   CH wr (n+1+1) T 3 1 (.slice p1 (J c.s) q1) (J c.s) (BW c.s)/\CH wr (n+1+1) T 3 1 (.slice p2 (J c.r) q2) (J c.r) (BW c.r)/\CH wr (n+1+1) T 76 5 (.slice p3 (J c.l) q3) (J c.l) (BW (De (Hv c k)))/\Below w.heap.size w wr) (λ_ _ _ _ i _=>J c.l-(intOf i).toNat)
 case atStart=>exact⟨0,Di _,rfl,L1,L2,L3,BA,Co,by have:=FD;simp only[lW]at this ⊢;exact this,B2⟩
 case round=>
  obtain⟨k,hk,rfl,cB,P,aC,bJ,aZ,aI,hb⟩:=hrel;clear L1 L2 L3 BA Co FD B2;by_cases aJ:k<J c.l
  ·obtain⟨b,cU,dD,dL,i0,i1,i2,i3,i4⟩:=HI.out k aJ
   have bV:=(Hj hc).2.2.2.1 k aJ;rw[<-(JF hb).1 _ _ dL]at i0 i1 i2 i3 i4;have bP:Hid (GY c c.l[k]=if 0<=CL c.l[k]then FJ c.l[k] (Ig c (CL c.l[k]))else c.l[k]):=rfl
   have bR:=show Hid (0<=CL c.l[k]->JS c (CL c.l[k]))from λg=>⟨g,UY bV g⟩
   have HM:=BD (tB c k aJ);have HK:=BD (ad1 c k aJ);obtain⟨x,hx⟩:∃x,x=c.l[k]:=⟨_,rfl⟩;rw[<-hx]at i0 i1 i2 i3 i4 bP bR HM HK;clear bV hx;subst dD;have eG:(k:Int)<J c.l:=O;go_wp2_with fail;obtain⟨w4,bU⟩:∃w4,w4=wr.alloc (.cells #[.int .i64 x.op,.int .i64 x.a,.int .i64 x.b,.int .i64 x.c,.int .i64 x.d] 76):=⟨_,rfl⟩;have LX:Bl w4 wr.heap.size [.int .i64 x.op,.int .i64 x.a,.int .i64 x.b,.int .i64 x.c,.int .i64 x.d]:=by rw[bU];exact Bl.new wr _ _
   have b4:Below wr.heap.size wr w4:=by rw[bU];go_grown
   rw[<-bU];refine(be x _).mono ?_;rintro e w3 ⟨rfl,bY⟩;have b3:=b4.trans (bY.mono b4.size);have cN:=aC.lt;have aR:=aI.keep b3 O;have aL:=bJ.keep b3 O;have bC:=aZ.keep b3 O;have Q:=cB.below b3 cB.lt;have aH:=P.below b3 P.lt;have aG:=aC.below b3 aC.lt;have L:=LX.below bY LX.lt;have R:=hb.trans (b3.mono hb.size);have dU:T<wr.heap.size:=cN;have dW:=L.lt;obtain⟨X0,cR⟩:∃X0,X0=wr.heap.size:=⟨_,rfl⟩;rw[<-cR]at L dU dW ⊢;clear cB P aC bJ aZ aI i0 i1 i2 i3 i4 bU b4 bY LX b3 cR cN;have x2:=Q.cell 2;simp only[Fp,Hg]at x2;by_cases ht:0<=CL x
   case neg=>
    have G:=bP.out;rw[AO ht]at G;have cZ:=BD (HK.out G);have eD:CL x<0:=O;clear G ht bP bR HK HM;generalize CL x=tg at*;go_wp2_with fail;go_loop [6,7] (λt _=>t=.int .i64 tg) (λ_ _=>0)
    case atStart=>exact rfl
    case round=>
     obtain rfl:=hrel;go_wp2_with fail;exact⟨⟨k+1,O,by go_num,Q,aH,aG,aL,bC,by rw[cZ.out];exact aR,R⟩,by simp[intOf];omega⟩
   case pos=>
    have cK:=bR.out ht;have bT:=BD ht;have bS:=BD cK;have HF:Hid (Ig c (CL x)=if FB c (EH c (J c.l) (CL x))=V then CL x else EH c (J c.l) (CL x)):=rfl
    have cH:=show Hid (∀i,i<J c.l->w3.cell? ⟨b,cU+i*5,I⟩=Z (.int .i64 (DM c i).op)/\w3.cell? ⟨b,cU+i*5+1,I⟩=Z (.int .i64 (DM c i).a))from by
     intro i hi;obtain⟨b',dX,e,dB,i0,i1,-⟩:=HI.out i hi;cases e
     rw[<-(JF R).1 _ _ dB]at i0 i1;rw[IV hi];exact⟨i0,i1⟩
    have aV:=L.cell 0;have aU:=L.cell 1;have bL:=L.cell 2;have bO:=L.cell 3;have bI:=L.cell 4;simp only[Fp,Hg]at aV aU bL bO bI;clear bR HK cK;go_wp2_with fail;go_loop [6,7] (λt i=>∃(y:Nat) (m:Nat),t=.int .i64 y/\i=.int .i64 m/\m<=J c.l/\y<J c.l/\EH c (J c.l-m) y=EH c (J c.l) (CL x)) (λ_ i=>J c.l-(intOf i).toNat)
    case atStart=>exact⟨(CL x).toNat,0,by rw[Int.toNat_of_nonneg bS.out.1],rfl,Di _,by have:=bS.out.1;have:=bS.out.2;omega,by rw[Int.toNat_of_nonneg bS.out.1];rfl⟩
    case round=>
     obtain⟨y,m,rfl,rfl,hm,hy,N⟩:=hrel;have cA:=BD N;clear N;obtain⟨i0,i1⟩:=cH.out y hy;have HJ:Hid (FB c y=Y ((DM c y).op=8)):=by unfold Hid FB;rw[Gb]
     have dG:Hid (∀k,FB c y=V->EH c (k+1) y=EH c k (DM c y).a):=λk h=>by have:=SZ (k:=k) h;rw[Gb]at this;exact this
     have dM:=show Hid (FB c y=V->JS c (DM c y).a)from λh=>by have:=YP hc (x:=(y:Int)) ⟨O,O⟩ h;rw[Gb]at this;exact this
     have eC:(y:Int)<J c.l:=O;generalize DM c y=z at*;by_cases h8:z.op=8
     ·have q8:(z.op==8)=true:=by simp[h8]
      have hj:FB c y=true:=by rw[HJ.out];exact decide_eq_true h8
      by_cases eE:m<J c.l
      ·obtain⟨cP,eJ⟩:=dM.out hj
       have cF:=dG.out (J c.l-(m+1)) hj;rw[show(J c.l)-(m+1)+1=J c.l-m by omega,cA.out]at cF
       have HS:=BD cF;have qm:((m:Int)==J c.l)=false:=CY;clear cF h8 hj ht;go_wp2_with fail;go_round
       case rel=>exact⟨z.a.toNat,m+1,by rw[Int.toNat_of_nonneg cP],by go_num,O,O,by rw[Int.toNat_of_nonneg cP];exact HS.out.symm⟩
       case measure=>simp[intOf];omega
      have cL:m=J c.l:=O;have N:=cA.out;rw[cL,Nat.sub_self,show EH c 0 (y:Int)=y from rfl]at N;have cI:=show Hid (Ig c (CL x)=CL x)from by unfold Hid;rw[HF.out, <-N,hj];rfl
      subst cL;clear N h8 hj;go_wp2_with fail;refine(be x _).mono ?_;rintro e w5 ⟨rfl,f⟩;clear aV aU bL bO bI i0 i1 x2;go_wp2_with fail;have G:=bP.out;rw[AZ bT.out,cI.out]at G;have aE:=show Hid (GY c x=FJ x (CL x))from G;obtain⟨q,hq⟩:∃q,q=FJ x (CL x):=⟨_,rfl⟩;have bK:Hid (∀X,Calls prog 96 #[x.v,.int .i64 (CL x)] (w5.ext X) λe cD=>e=.returned (.agg #[.int .i64 q.op,.int .i64 q.a,.int .i64 q.b,.int .i64 q.c,.int .i64 q.d])/\∃dA,cD=w5.ext dA):=λX=>Calls.ext_of' ((gv x _ _ bT.out).mono λe w' h=>by rw[<-hq]at h;exact h)
      have cC:=show Hid (Hv c (k+1)=(Hv c k).set k q)from by unfold Hid;rw[HM.out,aE.out,hq]
      have z5:=f.size;have C:=aR.keep f O;have aQ:=aL.keep f O;have aY:=bC.keep f O;have aF:=Q.below f Q.lt;have aB:=aH.below f aH.lt;have D:=aG.below f aG.lt;have M:=L.below f L.lt;have bN:=R.trans (f.mono R.size)
      obtain⟨CZ,cJ,dH,dF,H,E,F⟩:∃CZ,p3=Z ⟨CZ,0,I⟩/\n+1+1<=CZ/\CZ<T/\CZ<w5.heap.size/\(∀o,w5.frozen? ⟨CZ,o,I⟩=U)/\∀j,j<5->∃u,w5.cell? ⟨CZ,k*5+j,I⟩=Z u:=by
       obtain⟨g,dK,hv,q1,q2,q3,-,-,q6,q7⟩:=C.open O;cases hv
       have hl:(BW (De (Hv c k))).length=J c.l*5:=C.1.1;exact⟨g,rfl,q1,q2,q3,q6,λj hj=>⟨_,q7 _ _ (CF O)⟩⟩
      subst cJ;obtain⟨c0,w0⟩:=F 0 O;obtain⟨c1,bM⟩:=F 1 O;obtain⟨c2,aN⟩:=F 2 O;obtain⟨c3,bE⟩:=F 3 O;obtain⟨c4,bG⟩:=F 4 O;simp only[Fx]at w0;have y2:=D.cell 2;have i0:=M.cell 0;have i1:=M.cell 1;have i2:=M.cell 2;have i3:=M.cell 3;have i4:=M.cell 4;simp only[Fp,Hg]at y2 i0 i1 i2 i3 i4;have cW:=λX=>FN y2 X
      have j0:=λX=>FN i0 X
      have j1:=λX=>FN i1 X
      have j2:=λX=>FN i2 X
      have j3:=λX=>FN i3 X
      have j4:=λX=>FN i4 X
      have d0:=λX=>FN w0 X
      have d1:=λX=>FN bM X
      have d2:=λX=>FN aN X
      have d3:=λX=>FN bE X
      have d4:=λX=>FN bG X
      have cX:=λX=>LK H (E (k*5)) X
      have dJ:=λX=>LK H (E (k*5+1)) X
      have dS:=λX=>LK H (E (k*5+2)) X
      have cY:=λX=>LK H (E (k*5+3)) X
      have dC:=λX=>LK H (E (k*5+4)) X
      have aD:(BW (De (Hv c k))).length=J c.l*5:=C.1.1;have cG:=BD aD;have dQ:=D.lt;clear y2 i0 i1 i2 i3 i4 w0 bM aN bE bG F E G aD hq aE HM;refine iu 7 _ rfl Au Au ?_;simp only[List.set_cons_succ,List.set_cons_zero,Im];repeat(any_goals (first|go_big_quiet_step ((go_at_call 96;exact bK.out _))|quiet_step ((go_at_call 96;exact bK.out _))))
      refine wpQuiet_nil ?_;rintro _ ⟨X,rfl⟩;go_wp2_with fail;have bX:=Jy w5 X;have aO:=aQ.keep bX O;have bD:=aY.keep bX O;have bF:=C.keep bX O;have aX:=aF.below bX aF.lt;have aS:=aB.below bX aB.lt;have aW:=D.below bX D.lt;have bW:=bN.trans (bX.mono bN.size);have hO:=ER.setFrom (lo:=CZ) (hi:=CZ+1) (p:=k*5) [.int .i64 q.op,.int .i64 q.a,.int .i64 q.b,.int .i64 q.c,.int .i64 q.d] (ER.refl CZ (CZ+1) (w5.ext X)) (BR CZ) (Jc CZ);have aM:=bF.setFrom (p:=k*5) [.int .i64 q.op,.int .i64 q.a,.int .i64 q.b,.int .i64 q.c,.int .i64 q.d] (by rw[cG.out];simp;omega)
      rw[ia q (Hv c k) k (by rw[db];exact aJ), <-cC.out]at aM
      have bH:∀g,CZ<=g->g<CZ+1->(Value.slice (Z ⟨CZ,0,I⟩) (J c.l) q3).ownBlock=Z g:=λg e1 e2=>by rw[show g=CZ by omega];rfl
      refine⟨⟨k+1,O,by go_num,aX.out hO O,aS.out hO O,aW.out hO O,aO.disj hO bH HD.out.2.1.symm,bD.disj hO bH HD.out.2.2.symm,aM,?_⟩,by simp[intOf];omega⟩
      exact qL (g:=CZ) (p:=k*5) [.int .i64 q.op,.int .i64 q.a,.int .i64 q.b,.int .i64 q.c,.int .i64 q.d] bW (by have:=HN.out;omega)
     have q8:(z.op==8)=false:=by simp[h8]
     have hj:FB c y=false:=by rw[HJ.out];exact decide_eq_false h8
     have N:=cA.out;rw[Qo hj]at N;have cI:=show Hid (Ig c (CL x)=(y:Int))from by unfold Hid;rw[HF.out, <-N,hj];rfl
     clear N h8 hj ht;go_wp2_with fail;clear aV aU bL bO bI i0 i1 x2;have f:=Below.refl w3.heap.size w3;obtain⟨w5,bZ⟩:∃w5,w5=w3:=⟨_,rfl⟩;rw[<-bZ];have f:Below w3.heap.size w3 w5:=by rw[bZ];exact Below.refl _ _
     clear bZ;have G:=bP.out;rw[AZ bT.out,cI.out]at G;have aE:=show Hid (GY c x=FJ x (y:Int))from G;obtain⟨q,hq⟩:∃q,q=FJ x (y:Int):=⟨_,rfl⟩;have bK:Hid (∀X,Calls prog 96 #[x.v,.int .i64 (y:Int)] (w5.ext X) λe cD=>e=.returned (.agg #[.int .i64 q.op,.int .i64 q.a,.int .i64 q.b,.int .i64 q.c,.int .i64 q.d])/\∃dA,cD=w5.ext dA):=λX=>Calls.ext_of' ((gv x _ _ bT.out).mono λe w' h=>by rw[<-hq]at h;exact h)
     have cC:=show Hid (Hv c (k+1)=(Hv c k).set k q)from by unfold Hid;rw[HM.out,aE.out,hq]
     have z5:=f.size;have C:=aR.keep f O;have aQ:=aL.keep f O;have aY:=bC.keep f O;have aF:=Q.below f Q.lt;have aB:=aH.below f aH.lt;have D:=aG.below f aG.lt;have M:=L.below f L.lt;have bN:=R.trans (f.mono R.size)
     obtain⟨CZ,cJ,dH,dF,H,E,F⟩:∃CZ,p3=Z ⟨CZ,0,I⟩/\n+1+1<=CZ/\CZ<T/\CZ<w5.heap.size/\(∀o,w5.frozen? ⟨CZ,o,I⟩=U)/\∀j,j<5->∃u,w5.cell? ⟨CZ,k*5+j,I⟩=Z u:=by
      obtain⟨g,dK,hv,q1,q2,q3,-,-,q6,q7⟩:=C.open O;cases hv
      have hl:(BW (De (Hv c k))).length=J c.l*5:=C.1.1;exact⟨g,rfl,q1,q2,q3,q6,λj hj=>⟨_,q7 _ _ (CF O)⟩⟩
     subst cJ;obtain⟨c0,w0⟩:=F 0 O;obtain⟨c1,bM⟩:=F 1 O;obtain⟨c2,aN⟩:=F 2 O;obtain⟨c3,bE⟩:=F 3 O;obtain⟨c4,bG⟩:=F 4 O;simp only[Fx]at w0;have y2:=D.cell 2;have i0:=M.cell 0;have i1:=M.cell 1;have i2:=M.cell 2;have i3:=M.cell 3;have i4:=M.cell 4;simp only[Fp,Hg]at y2 i0 i1 i2 i3 i4;have cW:=λX=>FN y2 X
     have j0:=λX=>FN i0 X
     have j1:=λX=>FN i1 X
     have j2:=λX=>FN i2 X
     have j3:=λX=>FN i3 X
     have j4:=λX=>FN i4 X
     have d0:=λX=>FN w0 X
     have d1:=λX=>FN bM X
     have d2:=λX=>FN aN X
     have d3:=λX=>FN bE X
     have d4:=λX=>FN bG X
     have cX:=λX=>LK H (E (k*5)) X
     have dJ:=λX=>LK H (E (k*5+1)) X
     have dS:=λX=>LK H (E (k*5+2)) X
     have cY:=λX=>LK H (E (k*5+3)) X
     have dC:=λX=>LK H (E (k*5+4)) X
     have aD:(BW (De (Hv c k))).length=J c.l*5:=C.1.1;have cG:=BD aD;have dQ:=D.lt;clear y2 i0 i1 i2 i3 i4 w0 bM aN bE bG F E G aD hq aE HM;refine iu 7 _ rfl Au Au ?_;simp only[List.set_cons_succ,List.set_cons_zero,Im];repeat(any_goals (first|go_big_quiet_step ((go_at_call 96;exact bK.out _))|quiet_step ((go_at_call 96;exact bK.out _))))
     refine wpQuiet_nil ?_;rintro _ ⟨X,rfl⟩;go_wp2_with fail;have bX:=Jy w5 X;have aO:=aQ.keep bX O;have bD:=aY.keep bX O;have bF:=C.keep bX O;have aX:=aF.below bX aF.lt;have aS:=aB.below bX aB.lt;have aW:=D.below bX D.lt;have bW:=bN.trans (bX.mono bN.size);have hO:=ER.setFrom (lo:=CZ) (hi:=CZ+1) (p:=k*5) [.int .i64 q.op,.int .i64 q.a,.int .i64 q.b,.int .i64 q.c,.int .i64 q.d] (ER.refl CZ (CZ+1) (w5.ext X)) (BR CZ) (Jc CZ);have aM:=bF.setFrom (p:=k*5) [.int .i64 q.op,.int .i64 q.a,.int .i64 q.b,.int .i64 q.c,.int .i64 q.d] (by rw[cG.out];simp;omega)
     rw[ia q (Hv c k) k (by rw[db];exact aJ), <-cC.out]at aM
     have bH:∀g,CZ<=g->g<CZ+1->(Value.slice (Z ⟨CZ,0,I⟩) (J c.l) q3).ownBlock=Z g:=λg e1 e2=>by rw[show g=CZ by omega];rfl
     refine⟨⟨k+1,O,by go_num,aX.out hO O,aS.out hO O,aW.out hO O,aO.disj hO bH HD.out.2.1.symm,bD.disj hO bH HD.out.2.2.symm,aM,?_⟩,by simp[intOf];omega⟩
     exact qL (g:=CZ) (p:=k*5) [.int .i64 q.op,.int .i64 q.a,.int .i64 q.b,.int .i64 q.c,.int .i64 q.d] bW (by have:=HN.out;omega)
  have dO:k=J c.l:=O;subst dO;have y0:=aC.cell 0;have y1:=aC.cell 1;have y2:=aC.cell 2;have z0:=P.cell 0;have z1:=P.cell 1;have z2:=P.cell 2;simp only[Fp,Hg]at y0 y1 y2 z0 z1 z2;have f0:=P.free 0;have f1:=P.free 1;have f2:=P.free 2;go_wp2_with fail;have eH:=HN.out;have dZ:=HT.out;have L4:=((P.set (j:=0) (.slice p1 (J c.s) q1)).set (j:=1) (.slice p2 (J c.r) q2)).set (j:=2) (.slice p3 (J c.l) q3)
  have hO:ER (n+1) (n+1+1) wr (((wr.setCell ⟨n+1,0,I⟩ (.slice p1 (J c.s) q1)).setCell ⟨n+1,1,I⟩ (.slice p2 (J c.r) q2)).setCell ⟨n+1,2,I⟩ (.slice p3 (J c.l) q3)):=
   (((ER.refl (n+1) (n+1+1) wr).setCell (p:=⟨n+1,0,I⟩) (BR _) (Jc _) _).setCell (p:=⟨n+1,1,I⟩) (BR _) (Jc _) _).setCell (p:=⟨n+1,2,I⟩) (BR _) (Jc _) _
  replace bJ:=bJ.out hO (.inr (BR _));replace aZ:=aZ.out hO (.inr (BR _));replace aI:=aI.out hO (.inr (BR _));rw[Z3]at aI;have eF:=aC.lt;have zF:(((wr.setCell ⟨n+1,0,I⟩ (.slice p1 (J c.s) q1)).setCell ⟨n+1,1,I⟩ (.slice p2 (J c.r) q2)).setCell ⟨n+1,2,I⟩ (.slice p3 (J c.l) q3)).heap.size=wr.heap.size:=At;have dP:(FA c).l.length=J c.l:=by simp[FA]
  have BF:=((hb.setCell (p:=⟨n+1,0,I⟩) (by show w.heap.size<=n+1;omega) (.slice p1 (J c.s) q1)).setCell (p:=⟨n+1,1,I⟩) (by show w.heap.size<=n+1;omega) (.slice p2 (J c.r) q2)).setCell (p:=⟨n+1,2,I⟩) (by show w.heap.size<=n+1;omega) (.slice p3 (J c.l) q3)
  have r0:=L4.cell 0;have r1:=L4.cell 1;have r2:=L4.cell 2;simp only[Fp,Hg,List.set_cons_zero,List.set_cons_succ]at r0 r1 r2;generalize ((wr.setCell ⟨n+1,0,I⟩ (.slice p1 (J c.s) q1)).setCell ⟨n+1,1,I⟩ (.slice p2 (J c.r) q2)).setCell ⟨n+1,2,I⟩ (.slice p3 (J c.l) q3)=WF at*;refine bodyPost_ret (v:=.agg #[.slice p1 (J c.s) q1,.slice p2 (J c.r) q2,.slice p3 (J c.l) q3]) (by simp[results,Tryz.results43,go_sem,r0,r1,r2]) rfl ⟨_,rfl,⟨_,_,_,rfl,bJ.wide O O,aZ.wide O O,?_,HD.out.1,HD.out.2.1,HD.out.2.2⟩,BF⟩
  rw[dP];exact aI.wide O O
theorem P1(w)(c b):IJ w c b (.agg #[.slice I 0 0,.slice I 0 0,.slice I 0 0]) ⟨[],[],[]⟩:=
 ⟨_,_,_,rfl,⟨World.ownsRow_nil _ _ _ _,(λg a=>by cases a)⟩,⟨World.ownsRow_nil _ _ _ _,(λg a=>by cases a)⟩,⟨World.ownsRow_nil _ _ _ _,(λg a=>by cases a)⟩,(λg a=>by cases a),(λg a=>by cases a),(λg a=>by cases a)⟩
def Lt(w:World)(a d:Nat)(v:Value)(c:BY):Prop:=IW w (λb=>a<=b/\b<d) v c
theorem Lt.L{w}{a b}{v}{c}(h:Lt w a b v c):IL w v c:=IW.L h
theorem Lt.wide{w}{e d a b}{v}{c}(h:Lt w e d v c)(g:a<=e)(i:d<=b):Lt w a b v c:=IW.nice v c _ _ _ _ (Ew.mono λ_ _ f=>⟨DO g f.1,IM f.2 i⟩) h
theorem Lt.keep{w e}{g a f}{v}{c}(h:Lt w g a v c)(d:Below f w e)(j:a<=f):Lt e g a v c:=IW.nice v c _ _ _ _ ⟨d.size,λb _ i=>⟨i,d.block b O⟩⟩ h
theorem Lt.out{w g}{f e a d}{v}{c}(h:Lt w f e v c)(i:ER a d w g)(l:e<=a\/d<=f):Lt g f e v c:=IW.nice v c _ _ _ _ ⟨i.size,λb j k=>⟨k,i.block b j O⟩⟩ h
theorem Lt.rowOf{w}{v u}{i k j}{c}(h:Lt w v u (.agg #[i,k,j]) c):∃a b e g f d,i=.slice a (J c.s) b/\k=.slice e (J c.r) g/\j=.slice f (J c.l) d:=by
 obtain⟨y,z,C,m,p,t,n⟩:=h;simp only[Value.agg.injEq,Array.mk.injEq,List.cons.injEq,and_true]at m;obtain⟨rfl,rfl,rfl⟩:=m;obtain⟨a,b,o⟩:=p.L.form;obtain⟨e,g,x⟩:=t.L.form;obtain⟨f,d,q⟩:=n.L.form;exact⟨a,b,e,g,f,d,o,x,q⟩
noncomputable def af0(c:BY):BY:=if Bp c=V then IZ c else⟨[],[],[]⟩
noncomputable def LA(c:BY):BY:=if Bp c=V then Is c else⟨[],[],[]⟩
theorem T0(c d:BY):c.same d=V/\c=d\/c.same d=U/\c≠d:=by
 by_cases h:c=d
 ·exact .inl ⟨BY.same_eq.2 h,h⟩
 exact .inr ⟨by cases a:c.same d;rfl;exact absurd (BY.same_eq.1 a) h,h⟩
theorem IW.mono{w}{d a}{v}{c}(h:IW w d v c)(e:∀b,b<w.heap.size->d b->a b):IW w a v c:=IW.nice v c _ _ _ _ (Ew.mono e) h
theorem IJ.codeF{w}{l j}{v}{c}(h:IJ w l j v c){k}(i:∀b,l<=b->b<j->k b):IW w k v c:=by
 obtain⟨o,n,m,rfl,d,f,e,-⟩:=h;exact⟨o,n,m,rfl,Jo d.1 λg a=>i g (d.lt g a).1 (d.lt g a).2.1,Jo f.1 λg a=>i g (f.lt g a).1 (f.lt g a).2.1,Jo e.1 λg a=>i g (e.lt g a).1 (e.lt g a).2.1⟩
def an(d a:Nat)(v:Value)(c:BY):World->(Nat->Prop)->Prop:=λw e=>IJ w d a v c/\a<=w.heap.size/\∀b,d<=b->b<a->e b
theorem an.nice(l k)(v)(c):IQ (an l k v c):=by
 rintro w n u s h ⟨⟨o,t,q,rfl,i,j,f,r⟩,p,m⟩;have e:∀g,l<=g->g<k->n.heap[g]? =w.heap[g]? :=λg a b=>(h.2 g O (m g a b)).2
 exact⟨⟨o,t,q,rfl,i.same λg d=>e g (i.lt g d).1 (i.lt g d).2.1,j.same λg d=>e g (j.lt g d).1 (j.lt g d).2.1,f.same λg d=>e g (f.lt g d).1 (f.lt g d).2.1,r⟩,DO p h.1,λb a c=>(h.2 b O (m b a c)).1⟩
theorem I3(v)(c)(w)(h:IL w v c):
  Calls prog 15 #[v] w λe w'=>∃u,e=.returned (.tuple #[u,.bool (Bp c)])/\IJ w' w.heap.size w'.heap.size u (LA c)/\Below w.heap.size w w':=by
 obtain⟨v1,v2,v3,rfl,h1,h2,h3⟩:=h;have HT:Hid (LA c=if Bp c=V then Is c else⟨[],[],[]⟩):=rfl
 obtain⟨aD,hW,M⟩:∃aD,aD=(w.alloc (.cells #[v1,v2,v3] 26)).alloc (.cells #[.slice I 0 0,.slice I 0 0,.slice I 0 0] 26)/\CA (λ_=>True) (λ_=>True) w aD [.G λw E=>IW w E (.agg #[v1,v2,v3]) c,.C w.heap.size [v1,v2,v3],.C (w.heap.size+1) [.slice I 0 0,.slice I 0 0,.slice I 0 0]]:=
  ⟨_,rfl,(((CA.start (λ_ _=>trivial)).G (IW.nice (.agg #[v1,v2,v3]) c) ⟨_,_,_,rfl,h1.rowF λ_ _=>⟨Ay,λr hr=>by cases hr⟩,Cd.rowF h2 λ_ _=>⟨Ay,λr hr=>by cases hr⟩,Cd.rowF h3 λ_ _=>⟨Ay,λr hr=>by cases hr⟩⟩).C _ _).box' _ _ At⟩
 clear h1 h2 h3;have F:=M.c 1 0 rfl rfl;have G:=M.c 1 1 rfl rfl;have D:=M.c 1 2 rfl rfl;rw[hW]at F G D;go_enter func15,ntmps15;go_wp2_with fail;rw[<-hW];clear hW F G D;refine(pv _ c _ (M.d 0 rfl).L).mono ?_;rintro e w1 ⟨rfl,b1⟩;replace M:=M.call b1;clear b1;cases P:Bp c
 ·have HC:=show Hid (LA c=⟨[],[],[]⟩)from by unfold Hid;rw[HT.out,P];simp
  have HO:=BD P;clear P;have z0:=M.c 2 0 rfl rfl;have z1:=M.c 2 1 rfl rfl;have z2:=M.c 2 2 rfl rfl;have Ag:=M.f 2 rfl;have g:=((M.set 2 rfl 0 (.slice I 0 0)).set 2 rfl 1 (.slice I 0 0)).set 2 rfl 2 (.slice I 0 0);have x:=BD g;clear M g;go_wp2_with fail;have g:=x.out;have r0:World.cell? _ ⟨w.heap.size+1,0,I⟩=Z (.slice I 0 0):=g.c 2 0 rfl rfl;have r1:World.cell? _ ⟨w.heap.size+1,1,I⟩=Z (.slice I 0 0):=g.c 2 1 rfl rfl;have r2:World.cell? _ ⟨w.heap.size+1,2,I⟩=Z (.slice I 0 0):=g.c 2 2 rfl rfl;exact bodyPost_ret (v:=.tuple #[.agg #[.slice I 0 0,.slice I 0 0,.slice I 0 0],.bool U]) (by simp[results,Tryz.results15,go_sem,r0,r1,r2]) rfl ⟨_,by rw[HO.out],by rw[HC.out];exact P1 _ _ _,g.below λ_ _=>trivial⟩
 have HC:=show Hid (LA c=Is c)from by unfold Hid;rw[HT.out,P];simp
 have HO:=BD P;clear P;have F:World.cell? _ ⟨w.heap.size,0,I⟩=Z v1:=M.c 1 0 rfl rfl;have G:World.cell? _ ⟨w.heap.size,1,I⟩=Z v2:=M.c 1 1 rfl rfl;have D:World.cell? _ ⟨w.heap.size,2,I⟩=Z v3:=M.c 1 2 rfl rfl;go_wp2_with fail;clear F G D;refine(mI _ c _ (M.d 0 rfl).L (gc HO.out)).mono ?_;rintro e w2 ⟨u2,rfl,Co,b2⟩;have z:=M.frFresh;have g:=M.callD b2 (R:=λw' E=>IW w' E u2 c) (IW.nice _ _) (Co.codeF λb hb _=>z b hb)
 obtain⟨d1,d2,d3,rfl,-⟩:=id Co;obtain⟨i,j,o,p,k,n,rfl,rfl,rfl⟩:=Code.rowOf Co;have q:=g.C [.slice i (J c.s) j,.slice o (J c.r) p,.slice k (J c.l) n] 26;have t:=BD q;clear M g q Co b2 z;go_wp2_with fail;have q:=t.out;clear t;obtain⟨C,aB⟩:∃C,C=w2.heap.size:=⟨_,rfl⟩;rw[<-aB]at q ⊢;clear aB;generalize w2.alloc (.cells #[.slice i (J c.s) j,.slice o (J c.r) p,.slice k (J c.l) n] 26)=wa at*;have M:=q.sel [3,4,2] [.G λw E=>IW w E (.agg #[.slice i (J c.s) j,.slice o (J c.r) p,.slice k (J c.l) n]) c,.C C [.slice i (J c.s) j,.slice o (J c.r) p,.slice k (J c.l) n],.C (w.heap.size+1) [.slice I 0 0,.slice I 0 0,.slice I 0 0]] rfl ED
 clear q;go_loopg [5] (LL c) (λm _ wr=>∃(T c2 c3:Value) (a:BY),LL a<=m/\Bp a=V/\Is a=Is c/\CA (λ_=>True) (λ_=>True) w wr [.G λw E=>IW w E (.agg #[T,c2,c3]) a,.C C [T,c2,c3],.C (w.heap.size+1) [.slice I 0 0,.slice I 0 0,.slice I 0 0]])
 case atStart=>exact⟨_,_,_,c,BR _,HO.out,rfl,M⟩
 case round=>
  clear M;obtain⟨T,c2,c3,a,hm,Q,H,M⟩:=hrel;have HM:=BD hm;have N:=BD Q;have HU:=BD H;clear hm Q H;have F:=M.c 1 0 rfl rfl;have G:=M.c 1 1 rfl rfl;have D:=M.c 1 2 rfl rfl;go_wp2_with fail;refine(v8 _ a N.out _ (M.d 0 rfl).L).mono ?_;rintro e w2 ⟨u2,rfl,Co,b2⟩;replace M:=M.call b2;clear F G D b2;go_wp2_with fail;refine(a8 _ (FA a) (bi N.out) _ Co.L).mono ?_;rintro e w3 ⟨u3,rfl,FD,b3⟩;obtain⟨Cz,L⟩:∃Cz,Cz=Ii a:=⟨_,rfl⟩;have y:=BD L;rw[show IZ (FA a)=Cz from L.symm]at FD;clear L;have s2:=M.size;have z:=M.frFresh;replace M:=M.callD b3 (R:=an w2.heap.size w3.heap.size u3 Cz) (an.nice _ _ _ _) ⟨FD,BR _,λb hb _=>z b hb⟩
  obtain⟨y1,y2,y3,rfl,-⟩:=id FD;obtain⟨i,j,o,p,k,n,rfl,rfl,rfl⟩:=Code.rowOf FD;clear b3 FD Co z;have q:=M.C [.slice i (J Cz.s) j,.slice o (J Cz.r) p,.slice k (J Cz.l) n] 26;have F:World.cell? _ ⟨C,0,I⟩=Z T:=q.c 1 0 rfl rfl;have G:World.cell? _ ⟨C,1,I⟩=Z c2:=q.c 1 1 rfl rfl;have D:World.cell? _ ⟨C,2,I⟩=Z c3:=q.c 1 2 rfl rfl;have t:=BD q;clear M q;go_wp2_with fail;clear F G D;have M:=t.out;clear t;obtain⟨X1,aC⟩:∃X1,X1=w3.heap.size:=⟨_,rfl⟩;rw[<-aC]at M ⊢;clear aC;refine(pH _ _ Cz a _ (M.d 3 rfl).1.L (M.d 0 rfl).L).mono ?_;rintro e w5 ⟨rfl,b5⟩;replace M:=M.call b5;clear b5;have y0:World.cell? _ ⟨X1,0,I⟩=Z (.slice i (J Cz.s) j):=M.c 4 0 rfl rfl;have y1:World.cell? _ ⟨X1,1,I⟩=Z (.slice o (J Cz.r) p):=M.c 4 1 rfl rfl;have y2:World.cell? _ ⟨X1,2,I⟩=Z (.slice k (J Cz.l) n):=M.c 4 2 rfl rfl;have z0:World.cell? _ ⟨w.heap.size+1,0,I⟩=Z (.slice I 0 0):=M.c 2 0 rfl rfl;have z1:World.cell? _ ⟨w.heap.size+1,1,I⟩=Z (.slice I 0 0):=M.c 2 1 rfl rfl;have z2:World.cell? _ ⟨w.heap.size+1,2,I⟩=Z (.slice I 0 0):=M.c 2 2 rfl rfl;have Ag:=M.f 2 rfl;have F:World.cell? _ ⟨C,0,I⟩=Z T:=M.c 1 0 rfl rfl;have G:World.cell? _ ⟨C,1,I⟩=Z c2:=M.c 1 1 rfl rfl;have D:World.cell? _ ⟨C,2,I⟩=Z c3:=M.c 1 2 rfl rfl;have fx:=M.f 1 rfl;rcases T0 Cz a with⟨hs,he⟩|⟨hs,he⟩
  ·rw[hs]
   have g:=((M.set 2 rfl 0 (.slice i (J Cz.s) j)).set 2 rfl 1 (.slice o (J Cz.r) p)).set 2 rfl 2 (.slice k (J Cz.l) n);have x:=BD g;have HE:=BD he;clear M g hs he;go_wp2_with fail;have g:=x.out;have r0:World.cell? _ ⟨w.heap.size+1,0,I⟩=Z (.slice i (J Cz.s) j):=g.c 2 0 rfl rfl;have r1:World.cell? _ ⟨w.heap.size+1,1,I⟩=Z (.slice o (J Cz.r) p):=g.c 2 1 rfl rfl;have r2:World.cell? _ ⟨w.heap.size+1,2,I⟩=Z (.slice k (J Cz.l) n):=g.c 2 2 rfl rfl
   have S:LA c=Cz:=by
    rw[HC.out, <-HU.out,a6 N.out (by rw[<-y.out];exact HE.out)]
    exact HE.out.symm
   refine bodyPost_ret (v:=.tuple #[.agg #[.slice i (J Cz.s) j,.slice o (J Cz.r) p,.slice k (J Cz.l) n],.bool V]) (by simp[results,Tryz.results15,go_sem,r0,r1,r2]) rfl ⟨_,by rw[HO.out],?_,g.below λ_ _=>trivial⟩
   rw[S];have ho:=g.out 3 rfl;exact ho.1.wide s2 ho.2.1
  rw[hs];have M1:=(((M.G (IW.nice _ Cz) ((M.d 3 rfl).1.codeF (M.d 3 rfl).2.2)).set 1 rfl 0 (.slice i (J Cz.s) j)).set 1 rfl 1 (.slice o (J Cz.r) p)).set 1 rfl 2 (.slice k (J Cz.l) n);have g:=M1.sel [5,1,2] [.G λw E=>IW w E (.agg #[.slice i (J Cz.s) j,.slice o (J Cz.r) p,.slice k (J Cz.l) n]) Cz,.C C [.slice i (J Cz.s) j,.slice o (J Cz.r) p,.slice k (J Cz.l) n],.C (w.heap.size+1) [.slice I 0 0,.slice I 0 0,.slice I 0 0]] rfl ED
  have x:=BD g;have HE:=BD he;clear M M1 g hs he;go_wp2_with fail;have X:Ii a≠a:=by rw[<-y.out];exact HE.out
  go_roundg (LL Cz)
  case measure=>rw[y.out];have:=sY N.out X;have:=HM.out;omega
  case rel=>exact⟨_,_,_,Cz,BR _,by rw[y.out];exact cj N.out,by rw[y.out,ac2 N.out X];exact HU.out,x.out⟩
end Go.Proofs.YtfbeblgnjeokaaaGreat

namespace Go.Proofs.YtfbeblgnjeokaaaGreat
open Go Go.RowKit Go.ChangeShapes Go.WideShapes Go.Deep
section
variable{H:Type}{enc:TypeId×Value->H}{W:World}
theorem xp{a}{t:TypeId}{v}{x}(s:prog.underlying t=Z (.slice 5))
  (h:DataW.trod enc prog W 0 (λ_=>V) V a t [v]=Z x):∃l:List UInt8,Cd W v (J l) 1 (l.map λb=>Value.int .u8 b.toNat):=by
 obtain⟨n,m,C,k,w,f⟩:=K8 s (sz:=1) Au O h
 obtain⟨g,j⟩:=choose_lt (α:=UInt8) (n:=n) (p:=λi b=>C i=[.int .u8 (b.toNat:Int)]) (λi r=>by
  obtain⟨y,q⟩:=f i r;obtain⟨z,d,_,c⟩:=DataW.trod_int Tryz.underlying5 q;simp only[Lit.wf,Aj,decide_eq_true_eq]at c;have o:(0:Int)<=z:=c.1;have u:z<=255:=c.2;refine⟨UInt8.ofNat z.toNat,?_⟩;rw[d]
  have e:(UInt8.ofNat z.toNat).toNat=z.toNat:=by
   rw[UInt8.toNat_ofNat'];omega
  rw[e,Int.toNat_of_nonneg o])
 refine⟨(DA n).map g,?_⟩;rw[List.length_map,List.length_range, <-R7 n C (λb=>Value.int .u8 (b.toNat:Int)) g j]
 exact k
end
end Go.Proofs.YtfbeblgnjeokaaaGreat
