/- Part 6: functions on the way, plain laws. Conditions: as said. -/
import Derived.Test.YtfbeblgnjeokaaaGreatK1
import Derived.Test.YtfbeblgnjeokaaaGreatK2
import Derived.Test.YtfbeblgnjeokaaaGreatK3
import Derived.Test.YtfbeblgnjeokaaaGreatK4
import Derived.Test.YtfbeblgnjeokaaaGreatK5
set_option maxRecDepth 100000
set_option maxHeartbeats 16000000
set_option linter.unusedVariables false
set_option linter.unusedSimpArgs false
open Bool renaming true → V, false → U
open Option renaming some → Z, none → I
open Decidable renaming decide → Y
open Bool renaming and_eq_false_iff → HW, and_eq_true → Aj, and_eq_true_iff → Gy, not_eq_false' → Cp, not_eq_true' → Cn, or_eq_true → Gg, true_and → IG
open Inhabited renaming default → K
open Int renaming mul_le_mul_of_nonneg_right → Mj, toNat_natCast → Gb
open List renaming all_cons → IS, all_eq_true → Bt, append_assoc → Fj, append_nil → II, cons_append → IR, eq_nil_of_length_eq_zero → FM, foldl → IN, getD_eq_getElem?_getD → Bu, getElem?_append_left → Fb, getElem?_eq_getElem → CF, getElem?_eq_none → FO, getElem?_set → IT, getElem_mem → EL, length_append → Az, length_cons → BK, length_nil → Bc, length_set → GP, mem_append → DQ, mem_cons → Eb, mem_cons_of_mem → Ep, mem_cons_self → EI, mem_of_getElem? → FF, mem_range → GW, mem_singleton → Dw, not_mem_nil → It, range → DA, replicate → Ac, take → Ae, take_of_length_le → Dq
open Nat renaming le_refl → BR, le_trans → DO, lt_of_lt_of_le → IM, lt_or_ge → Du, mul_le_mul_right → Iq, zero_le → Di
open True renaming intro → Ay

open List renaming length → J
open Go renaming wp_seq → B, wp_ret → AT, wp_skip → Aq, wp_block → BN
open Go.Proofs.Tryz
namespace Go.Proofs.YtfbeblgnjeokaaaGreat
open Go Go.RowKit
abbrev Mr:AF:=⟨0,0,[]⟩
abbrev Ef(n:Int):AF:=⟨1,n,[]⟩
abbrev Gl(v:Int):AF:=⟨2,v,[]⟩
abbrev NA(a:Int)(i:AF):AF:=⟨3,a,[i]⟩
abbrev GZ(i:AF)(k:Int):AF:=⟨9,0,[⟨7,0,[i,Ef 3]⟩,Ef k]⟩
abbrev QE(a b c:AF):AF:=⟨11,0,[a,b,c]⟩
abbrev Cs(v:Int)(e:AF):AG:=⟨1,v,Mr,e,0,[],[]⟩
def CU(m:Int)(e f:AF):AF:=if m<0 then e else QE (Gl m) e f
def ES(v a:Int)(i:AF):Nat->List AG
 |0=>[Cs v (NA a (Ef 0))]
 |k+1=>ES v a i k++[Cs v (QE (GZ i ((k:Int)+1)) (NA a (Ef ((k:Int)+1))) (Gl v))]
def Dr(v t:Int)(i:AF)(m:Int):Nat->List AG
 |0=>[]
 |k+1=>Dr v t i m k++[⟨2,t,Ef (k:Int),QE (CU m (GZ i (k:Int)) (Ef 0)) (Gl v) (NA t (Ef (k:Int))),0,[],[]⟩]
abbrev GD:Type:=List Int×List AG
mutual
def AD(ars:List Int)(pc:Int):AF->GD->GD×AF
 | ⟨k, v, ks⟩, s =>
  if k=3/\Dk (AL (Cw ars pc ks s).1.1 ars 5 (ks.getD 0 K))=V then
   (((Cw ars pc ks s).1.1++[AR (AL (Cw ars pc ks s).1.1 ars 5 ⟨k,v,ks⟩) pc],(Cw ars pc ks s).1.2++ES ((Cw ars pc ks s).1.1.length:Int) v (ks.getD 0 K) 3),Gl ((Cw ars pc ks s).1.1.length:Int))
  else((Cw ars pc ks s).1,⟨k,v,(Cw ars pc ks s).2⟩)
def Cw(ars:List Int)(pc:Int):List AF->GD->GD×List AF
 |[],s=>(s,[])
 |e::t,s=>((Cw ars pc t (AD ars pc e s).1).1,(AD ars pc e s).2::(Cw ars pc t (AD ars pc e s).1).2)
end
theorem VT(a)(b)(e)(s):AD a b e s=
  if e.t=3/\Dk (AL (Cw a b e.k s).1.1 a 5 (e.k.getD 0 K))=V then
   (((Cw a b e.k s).1.1++[AR (AL (Cw a b e.k s).1.1 a 5 e) b],(Cw a b e.k s).1.2++ES ((Cw a b e.k s).1.1.length) e.v (e.k.getD 0 K) 3),Gl ((Cw a b e.k s).1.1.length))
  else((Cw a b e.k s).1,⟨e.t,e.v,(Cw a b e.k s).2⟩):=by
 cases e;rw[AD];rfl
theorem th(c)(d):∀a b s,Cw c d (a++b) s=((Cw c d b (Cw c d a s).1).1,(Cw c d a s).2++(Cw c d b (Cw c d a s).1).2)
 |[],b,s=>by simp[Cw]
 |e::t,b,s=>by
  simp only[IR,Cw];rw[th c d t b]
theorem fq{a}{c}{b}{k}{s}(d:k<J b):Cw a c (b.take (k+1)) s=((AD a c (b.getD k K) (Cw a c (b.take k) s).1).1,(Cw a c (b.take k) s).2++[(AD a c (b.getD k K) (Cw a c (b.take k) s).1).2]):=by
 rw[Gr _ _ d,th,DU d];simp[Cw]
abbrev Lc(x:GD×AF)(m l:Int):GD:=(x.1.1++[l]++[l],x.1.2++[Cs (J x.1.1:Int) (CU m x.2 (Ef 0))]++[Cs ((x.1.1++[l]).length:Int) (CU m ⟨9,0,[Gl (J x.1.1:Int),Ef 0]⟩ (Ef 0))])
mutual
def CM(ars:List Int):AG->Int->Int->GD->GD
 | ⟨k, t, i, v, c, b, e⟩, m, pc, s =>
  if k=4 then((Av ars b m pc (s.1,[])).1,s.2++[⟨4,0,Mr,Mr,c,(Av ars b m pc (s.1,[])).2,[]⟩])
  else if k=3 then
   (if Dk (AL s.1 ars 5 v)=V then
    Av ars e (((AD ars pc v s).1.1++[AR pc (AL s.1 ars 5 v)]).length:Int) (AR pc (AL s.1 ars 5 v)) (Av ars b ((AD ars pc v s).1.1.length:Int) (AR pc (AL s.1 ars 5 v)) (Lc (AD ars pc v s) m (AR pc (AL s.1 ars 5 v))))
   else((Av ars e m (AR pc (AL s.1 ars 5 v)) ((Av ars b m (AR pc (AL s.1 ars 5 v)) ((AD ars pc v s).1.1,[])).1,[])).1,
    (AD ars pc v s).1.2++[⟨3,0,Mr,(AD ars pc v s).2,0,(Av ars b m (AR pc (AL s.1 ars 5 v)) ((AD ars pc v s).1.1,[])).2,(Av ars e m (AR pc (AL s.1 ars 5 v)) ((Av ars b m (AR pc (AL s.1 ars 5 v)) ((AD ars pc v s).1.1,[])).1,[])).2⟩]))
  else if k=5 then((AD ars pc v s).1.1,(AD ars pc v s).1.2++[⟨5,t,Mr,(AD ars pc v s).2,0,[],[]⟩])
  else if k=1 then((AD ars pc v s).1.1,(AD ars pc v s).1.2++[Cs t (CU m (AD ars pc v s).2 (Gl t))])
  else if Dk (AL (AD ars pc v s).1.1 ars 5 i)=V then
   ((AD ars pc v s).1.1++[AR (AL (AD ars pc v s).1.1 ars 5 (AD ars pc v s).2) pc],(AD ars pc v s).1.2++[Cs ((AD ars pc v s).1.1.length:Int) (AD ars pc v s).2]++Dr ((AD ars pc v s).1.1.length:Int) t i m 4)
  else((AD ars pc v s).1.1,(AD ars pc v s).1.2++[⟨2,t,i,CU m (AD ars pc v s).2 (NA t i),0,[],[]⟩])
def Av(ars:List Int):List AG->Int->Int->GD->GD
 |[],_,_,s=>s
 |x::r,m,pc,s=>Av ars r m pc (CM ars x m pc s)
end
theorem vg(c)(a b)(m d)(s):Av c (a++b) m d s=Av c b m d (Av c a m d s):=by
 induction a generalizing s with
 |nil=>rfl
 |cons x r e=>simp only[IR,Av];exact e _
theorem yv{a}{b}{k}{m c}{s}(d:k<J b):Av a (b.take (k+1)) m c s=CM a (b.getD k K) m c (Av a (b.take k) m c s):=by
 rw[Gr _ _ d,vg,DU d];simp[Av]
section
variable{ars:List Int}{s:AG}{m pc:Int}{x:GD}
theorem Tx(k:s.t=4):CM ars s m pc x=((Av ars s.b m pc (x.1,[])).1,x.2++[⟨4,0,Mr,Mr,s.count,(Av ars s.b m pc (x.1,[])).2,[]⟩]):=by
 obtain⟨a,g,e,d,h,c,f⟩:=s;have k:a=4:=k;rw[CM,AZ k];rfl
theorem WU(k:s.t=3)(h:Dk (AL x.1 ars 5 s.v)=V):CM ars s m pc x=Av ars s.e (((AD ars pc s.v x).1.1++[AR pc (AL x.1 ars 5 s.v)]).length) (AR pc (AL x.1 ars 5 s.v)) (Av ars s.b ((AD ars pc s.v x).1.1.length) (AR pc (AL x.1 ars 5 s.v)) (Lc (AD ars pc s.v x) m (AR pc (AL x.1 ars 5 s.v)))):=by
 obtain⟨c,i,f,a,j,d,g⟩:=s;have k:c=3:=k;have h:Dk (AL x.1 ars 5 a)=true:=h;rw[CM,AO O,AZ k,AZ h];rfl
theorem WK(k:s.t=3)(h:Dk (AL x.1 ars 5 s.v)=U):CM ars s m pc x=((Av ars s.e m (AR pc (AL x.1 ars 5 s.v)) ((Av ars s.b m (AR pc (AL x.1 ars 5 s.v)) ((AD ars pc s.v x).1.1,[])).1,[])).1,
  (AD ars pc s.v x).1.2++[⟨3,0,Mr,(AD ars pc s.v x).2,0,(Av ars s.b m (AR pc (AL x.1 ars 5 s.v)) ((AD ars pc s.v x).1.1,[])).2,(Av ars s.e m (AR pc (AL x.1 ars 5 s.v)) ((Av ars s.b m (AR pc (AL x.1 ars 5 s.v)) ((AD ars pc s.v x).1.1,[])).1,[])).2⟩]):=by
 obtain⟨c,i,f,a,j,d,g⟩:=s;have k:c=3:=k;have h:Dk (AL x.1 ars 5 a)=false:=h;rw[CM,AO O,AZ k,AO (by rw[h];decide)];rfl
theorem Te(k:s.t=5):CM ars s m pc x=((AD ars pc s.v x).1.1,(AD ars pc s.v x).1.2++[⟨5,s.g,Mr,(AD ars pc s.v x).2,0,[],[]⟩]):=by
 obtain⟨a,f,d,c,h,b,e⟩:=s;have k:a=5:=k;rw[CM,AO O,AO O,AZ k];rfl
theorem UK(k:s.t=1):CM ars s m pc x=((AD ars pc s.v x).1.1,(AD ars pc s.v x).1.2++[Cs s.g (CU m (AD ars pc s.v x).2 (Gl s.g))]):=by
 obtain⟨a,f,d,c,h,b,e⟩:=s;have k:a=1:=k;rw[CM,AO O,AO O,AO O,AZ k];rfl
theorem UC(k:s.t=2)(h:Dk (AL (AD ars pc s.v x).1.1 ars 5 s.i)=V):CM ars s m pc x=((AD ars pc s.v x).1.1++[AR (AL (AD ars pc s.v x).1.1 ars 5 (AD ars pc s.v x).2) pc],(AD ars pc s.v x).1.2++[Cs ((AD ars pc s.v x).1.1.length) (AD ars pc s.v x).2]++Dr ((AD ars pc s.v x).1.1.length) s.g s.i m 4):=by
 obtain⟨c,f,a,b,j,d,e⟩:=s;have k:c=2:=k;have h:Dk (AL (AD ars pc b x).1.1 ars 5 a)=true:=h;rw[CM,AO O,AO O,AO O,AO O,AZ h];rfl
theorem Ul(k:s.t=2)(h:Dk (AL (AD ars pc s.v x).1.1 ars 5 s.i)=U):CM ars s m pc x=((AD ars pc s.v x).1.1,(AD ars pc s.v x).1.2++[⟨2,s.g,s.i,CU m (AD ars pc s.v x).2 (NA s.g s.i),0,[],[]⟩]):=by
 obtain⟨c,f,a,b,j,d,e⟩:=s;have k:c=2:=k;have h:Dk (AL (AD ars pc b x).1.1 ars 5 a)=false:=h;rw[CM,AO O,AO O,AO O,AO O,AO (by rw[h];decide)];rfl
end
theorem Ku{c f na}(h:c<=f):∀d e,As c na d e=V->As f na d e=V
 |0,_,a=>by simp[As]at a
 |d+1,e,a=>by
  simp only[As,Aj,Bt]at a ⊢;refine⟨⟨?_,λx i=>Ku h d x (a.1.2 x i)⟩,a.2⟩
  have b:=a.1.1;simp only[En,Aj,decide_eq_true_eq]at b ⊢;refine⟨b.1,Int.lt_of_lt_of_le b.2 ?_⟩;unfold GN
  (repeat' split)<;>omega
theorem np{b c}:∀d e,As b c d e=V->As b c (d+1) e=V
 |0,_,a=>by simp[As]at a
 |d+1,e,a=>by
  rw[As]at a ⊢;simp only[Aj,Bt]at a ⊢;exact⟨⟨a.1.1,λx f=>np d x (a.1.2 x f)⟩,a.2⟩
theorem dz{b f c d}{e}(h:c<=d)(a:As b f c e=V):As b f d e=true:=by
 induction d with
 |zero=>rwa[show c=0 by omega]at a
 |succ d i=>
  rcases Du c (d+1)with g|g
  ·exact np d e (i O)
  rwa[show c=d+1 by omega]at a
theorem gp{ars}{pc}{l o d}{e}{s}(i:Eo e=V)(a:As l o d e=V):AD ars pc e s=(s,e)/\e.k=[]:=by
 obtain⟨k,v,c⟩:=e;cases d with
 |zero=>simp[As]at a
 | succ d =>
  have f:k=1\/k=2:=by
   have h:=i;simp only[Eo,Gg,decide_eq_true_eq]at h;exact h
  have n:c=[]:=by
   simp only[As,En,Aj,decide_eq_true_eq]at a;have g:=a.1.1.1.1;have j:Cm k=0:=by unfold Cm;rw[AZ f]
   have p:(J c:Int)=0:=g.trans j;exact FM O
  subst n;refine⟨?_,rfl⟩;rw[AD,AO O];rfl
theorem Wu{c f d}{e}(k:e.t=3)(b:As c f (d+1) e=V):∃a,e.k=[a]/\Eo a=V/\As c f d a=V/\a.k=[]:=by
 obtain⟨m,v,j⟩:=e;have k:m=3:=k;subst k;simp only[As,En,Aj,decide_eq_true_eq]at b;have l:(J j:Int)=1:=b.1.1.1.1
 match j,l,b with
 | [a], _, b =>
  have i:Eo a=true:=by
   have h:=b.2;unfold KB at h;have h:(Y ((3:Int)≠3)||Eo a)=true:=h
   simpa using h
  have g:As c f d a=true:=Bt.1 b.1.2 a (Dw.2 rfl);exact⟨a,rfl,i,g,(gp (ars:=[]) (pc:=0) (s:=([],[])) i g).2⟩
theorem We{ars}{pc}{g j d}{e}{s}(k:e.t=3)(l:As g j (d+1) e=V):Cw ars pc e.k s=(s,e.k):=by
 obtain⟨a,f,i,h,-⟩:=Wu k l;rw[f];have:=gp (ars:=ars) (pc:=pc) (s:=s) i h;simp only[Cw,this.1]
structure VU(nv na d:Nat)(sz:Nat)(s:GD)(r:GD):Prop where
 lo:J s.1<=J r.1
 hi:J r.1<=J s.1+sz
 st:Ah r.2<=Ah s.2+40*sz
 len:J s.2<=J r.2
theorem rM(v a)(i)(b:i.k=[]):∀n,Ah (ES v a i n)=2+9*n
 |0=>rfl
 |n+1=>by
  have c:BB i=0:=by cases i;simp only[AF.k]at b;subst b;rfl
  rw[ES,LI,rM v a i b n];simp[Ah,CS,BB,By,c];omega
theorem Yk(v a)(i):∀n,(ES v a i n).length=n+1
 |0=>rfl
 |n+1=>by rw[ES,Az,Yk v a i n];rfl
theorem ZE(v t)(i)(m):∀n,(Dr v t i m n).length=n
 |0=>rfl
 |n+1=>by rw[Dr,Az,ZE v t i m n];rfl
theorem Ry(m)(e f):BB (CU m e f)<=3+BB e+BB f:=by
 unfold CU;split
 ·omega
 simp[BB,By];omega
theorem sN(v t)(i)(m)(a:i.k=[]):∀n,Ah (Dr v t i m n)<=20*n
 |0=>BR _
 |n+1=>by
  have b:BB i=0:=by cases i;simp only[AF.k]at a;subst a;rfl
  have c:=sN v t i m a n;have e:=Ry m (GZ i (n:Int)) (Ef 0);have d:BB (GZ i (n:Int))=4:=by simp[BB,By,b]
  have f:BB (Ef 0)=0:=rfl;rw[Dr,LI];simp only[Ah,CS,BB,By];omega
theorem aa8{a b d}{v}(h:v<a):As a b (d+1) (Gl v)=true:=by
 simp[As,En,KB,Cm,GN,AF.k,AF.t,AF.v,h]
theorem oX{ars}{pc}{na d}(j:∀e s,As (J s.1) na d e=V->VU (J s.1) na d (1+BB e) s (AD ars pc e s).1/\As (AD ars pc e s).1.1.length na d (AD ars pc e s).2=V/\BB (AD ars pc e s).2<=BB e):
  ∀b s,(∀x∈b,As (J s.1) na d x=V)->VU (J s.1) na d (By b) s (Cw ars pc b s).1/\(∀x∈(Cw ars pc b s).2,As (Cw ars pc b s).1.1.length na d x=V)/\By (Cw ars pc b s).2<=By b/\(Cw ars pc b s).2.length=J b:=by
 intro b;induction b with
 |nil=>intro s _;exact⟨⟨BR _,BR _,BR _,BR _⟩,λx k=>(by cases k),BR _,rfl⟩
 | cons x r l =>
  intro s h;obtain⟨Bs,m,CZ⟩:=j x s (h x EI);obtain⟨g,o,p,n⟩:=l (AD ars pc x s).1 λy i=>Ku Bs.lo d y (h y (Ep _ i))
  simp only[Cw,By];refine⟨⟨DO Bs.lo g.lo,?_,?_,DO Bs.len g.len⟩,?_,?_,?_⟩
  ·have:=Bs.hi;have:=g.hi;omega
  ·have:=Bs.st;have:=g.st;omega
  ·intro y i
   rcases Eb.1 i with rfl|i
   ·exact Ku g.lo d _ m
   exact o y i
  ·omega
  simp[n]
theorem Ps(b)(c)(f):∀d e s,As (J s.1) f d e=V->
  VU (J s.1) f d (1+BB e) s (AD b c e s).1/\As (AD b c e s).1.1.length f d (AD b c e s).2=V/\BB (AD b c e s).2<=BB e
 |0,_,_,g=>by simp[As]at g
 | d + 1, e, s, g => by
  have l:=oX (ars:=b) (pc:=c) (na:=f) (d:=d) λe s h=>Ps b c f d e s h
  have i:=g;rw[As]at g;simp only[Aj,Bt]at g;obtain⟨Bs,o,CZ,p⟩:=l e.k s g.1.2;rw[VT];split
  ·rename_i h
   obtain⟨a,j,w,u,m⟩:=Wu h.1 i
   have r:BB e=1:=by
    rw[KJ,j];have:BB a=0:=by rw[KJ,m];rfl
    simp[By,this]
   have n:=We (ars:=b) (pc:=c) (s:=s) h.1 i;have q:e.k.getD 0 K=a:=by rw[j];rfl
   rw[n,q];refine⟨⟨?_,?_,?_,?_⟩,?_,?_⟩
   ·simp
   ·simp
   ·simp only[LI,rM _ _ a m];omega
   ·simp
   ·have:As (J s.1+1) f (d+1) (Gl (J s.1:Int))=true:=aa8 O
    simpa using this
   exact Di _
  rename_i h
  refine⟨⟨Bs.lo,?_,?_,Bs.len⟩,?_,?_⟩
  ·have:=Bs.hi;rw[KJ];show(Cw b c e.k s).1.1.length<=_;omega
  ·have:=Bs.st;rw[KJ];show Ah (Cw b c e.k s).1.2<=_;omega
  ·rw[As]
   simp only[Aj,Bt];refine⟨⟨?_,o⟩,?_⟩
   ·have j:=g.1.1
    simp only[En,Aj,decide_eq_true_eq]at j ⊢;refine⟨⟨?_,j.1.2⟩,Int.lt_of_lt_of_le j.2 ?_⟩
    ·show(((Cw b c e.k s).2.length:Nat):Int)=Cm e.t
     rw[p];exact j.1.1
    show GN (J s.1) f e.t<=GN (Cw b c e.k s).1.1.length f e.t;have:=Bs.lo;unfold GN
    (repeat' split)<;>omega
   by_cases k:e.t=3
   ·rw[We (ars:=b) (pc:=c) (s:=s) k i]
    show KB ⟨e.t,e.v,e.k⟩=V;rw[AF.eta];exact g.2
   unfold KB;rw[Gg];exact .inl (decide_eq_true k)
  rw[KJ e];exact CZ
mutual
theorem py(ars:List Int)(pc:Int):∀(e:AF) (vs:List Int) (bd:List AG),AD ars pc e (vs,bd)=(((AD ars pc e (vs,[])).1.1,bd++(AD ars pc e (vs,[])).1.2),(AD ars pc e (vs,[])).2)
 |⟨k,v,ks⟩,vs,bd=>by
  rw[AD,AD,iY ars pc ks vs bd];split
  ·simp
  rfl
theorem iY(ars:List Int)(pc:Int):∀(ks:List AF) (vs:List Int) (bd:List AG),Cw ars pc ks (vs,bd)=(((Cw ars pc ks (vs,[])).1.1,bd++(Cw ars pc ks (vs,[])).1.2),(Cw ars pc ks (vs,[])).2)
 |[],vs,bd=>by simp[Cw]
 |e::t,vs,bd=>by
  simp only[Cw];rw[py ars pc e vs bd,iY ars pc t (AD ars pc e (vs,[])).1.1 (bd++(AD ars pc e (vs,[])).1.2)];have h:Cw ars pc t (AD ars pc e (vs,[])).1=(((Cw ars pc t ((AD ars pc e (vs,[])).1.1,[])).1.1,(AD ars pc e (vs,[])).1.2++(Cw ars pc t ((AD ars pc e (vs,[])).1.1,[])).1.2),(Cw ars pc t ((AD ars pc e (vs,[])).1.1,[])).2):=iY ars pc t (AD ars pc e (vs,[])).1.1 (AD ars pc e (vs,[])).1.2;rw[h];simp
end
mutual
theorem n0(ars:List Int):∀(s:AG) (m pc:Int) (vs:List Int) (bd:List AG),CM ars s m pc (vs,bd)=((CM ars s m pc (vs,[])).1,bd++(CM ars s m pc (vs,[])).2)
 | ⟨k, t, i, v, c, b, e⟩, m, pc, vs, bd => by
  rw[CM,CM,py ars pc v vs bd];split
  ·simp
  split
  ·split
   ·have h1:=fun m pc vs bd=>TL ars b m pc vs bd
    have h2:=fun m pc vs bd=>TL ars e m pc vs bd
    simp only[Lc];rw[h1 _ _ _ (bd++(AD ars pc v (vs,[])).1.2++_++_),h2,h1 _ _ _ ((AD ars pc v (vs,[])).1.2++_++_),h2 _ _ _ ((AD ars pc v (vs,[])).1.2++_++_++_)];simp
   simp
  split
  ·simp
  split
  ·simp
  split<;>simp
theorem TL(ars:List Int):∀(ss:List AG) (m pc:Int) (vs:List Int) (bd:List AG),Av ars ss m pc (vs,bd)=((Av ars ss m pc (vs,[])).1,bd++(Av ars ss m pc (vs,[])).2)
 |[],_,_,_,_=>by simp[Av]
 |x::r,m,pc,vs,bd=>by
  simp only[Av];rw[n0 ars x m pc vs bd,TL ars r m pc (CM ars x m pc (vs,[])).1 (bd++(CM ars x m pc (vs,[])).2)];have h:Av ars r m pc (CM ars x m pc (vs,[]))=((Av ars r m pc ((CM ars x m pc (vs,[])).1,[])).1,(CM ars x m pc (vs,[])).2++(Av ars r m pc ((CM ars x m pc (vs,[])).1,[])).2):=TL ars r m pc (CM ars x m pc (vs,[])).1 (CM ars x m pc (vs,[])).2;rw[h];simp
end
structure RF(sz:Nat)(x r:GD):Prop where
 lo:J x.1<=J r.1
 hi:J r.1<=J x.1+4*sz
 st:Ah r.2<=Ah x.2+130*sz
 len:J x.2<=J r.2
theorem RF.refl(x)(n):RF n x x:=⟨BR _,O,O,BR _⟩
theorem ck{a b}{s}(h:EE a b s=V)(k:s.t=2):s.i.k=[]/\Eo s.i=V/\As a b 5 s.i=true:=by
 rw[Hq k]at h;simp only[Aj]at h;have c:=gQ h.2.1;exact⟨(gp (ars:=[]) (pc:=0) (s:=([],[])) h.2.2.1 c).2,h.2.2.1,c⟩
theorem ZV{e}(h:e.k=[]):BB e=0:=by rw[KJ,h];rfl
theorem eN{ars}{na nv d}(i:∀s m b x,Ax nv na d s=V->nv<=J x.1->RF (1+CS s) x (CM ars s m b x)):
  ∀g m b x,g.all (Ax nv na d)=V->nv<=J x.1->RF (Ah g) x (Av ars g m b x)
 |[],_,_,x,_,_=>RF.refl x _
 |s::r,m,b,x,h,j=>by
  simp only[IS,Aj]at h;have c:=i s m b x h.1 j;have f:=eN i r m b (CM ars s m b x) h.2 (DO j c.lo);rw[Av,Ah];exact⟨DO c.lo f.lo,by have:=c.hi;have:=f.hi;omega,by have:=c.st;have:=f.st;omega,DO c.len f.len⟩
theorem oY(f)(q C):∀d s m j x,Ax C q d s=V->C<=J x.1->RF (1+CS s) x (CM f s m j x)
 |0,_,_,_,_,h,_=>by simp[Ax]at h
 | d + 1, s, m, j, x, h, w => by
  have n:=fun(ss:List AG) (m j:Int) (x:GD)=>eN (ars:=f) (na:=q) (nv:=C) (d:=d) (λs m j x=>oY f q C d s m j x) ss m j x
  rw[Lu,Aj,Aj]at h;obtain⟨z,E,X⟩:=h;have aB:CS s=BB s.i+BB s.v+Ah s.b+Ah s.e:=by cases s;rfl
  by_cases M:s.t=4
  ·rw[Tx M]
   have k:=n s.b m j (x.1,[]) E w;have a:=k.lo;have b:=k.hi;have c:=k.st;simp only[Ah]at a b c;have p:BB Mr=0:=rfl;refine⟨a,?_,?_,?_⟩
   ·simp only;omega
   ·simp only[LI,Ah,CS,p];omega
   simp
  have hv:As (J x.1) q 5 s.v=true:=Ku w 5 _ (Fy z M);obtain⟨Bs,g2,CZ⟩:=Ps f j q 5 s.v x hv;have r:=Bs.lo;have b0:=Bs.hi;have c0:=Bs.st;have d0:=Bs.len;have p:BB Mr=0:=rfl;have e1:BB (Ef 0)=0:=rfl;by_cases G:s.t=3
  ·cases u:Dk (AL x.1 f 5 s.v)
   ·rw[WK G u]
    have k:=n s.b m (AR j (AL x.1 f 5 s.v)) ((AD f j s.v x).1.1,[]) E (DO w r);have o:=n s.e m (AR j (AL x.1 f 5 s.v)) ((Av f s.b m (AR j (AL x.1 f 5 s.v)) ((AD f j s.v x).1.1,[])).1,[]) X (DO w (DO r k.lo));have a:=k.lo;have b:=k.hi;have c:=k.st;have T:=o.lo;have Q:=o.hi;have R:=o.st;simp only[Ah]at a b c T Q R;refine⟨?_,?_,?_,?_⟩
    ·simp only;omega
    ·simp only;omega
    ·simp only[LI,Ah,CS,p];omega
    simp;omega
   rw[WU G u];generalize hl:AR j (AL x.1 f 5 s.v)=l;generalize H:Lc (AD f j s.v x) m l=y;have y1:J y.1=(AD f j s.v x).1.1.length+2:=by rw[<-H];simp
   have y2:Ah y.2<=Ah (AD f j s.v x).1.2+20+BB (AD f j s.v x).2:=by
    have F:=Ry m (AD f j s.v x).2 (Ef 0);have N:=Ry m ⟨9,0,[Gl ((AD f j s.v x).1.1.length:Int),Ef 0]⟩ (Ef 0);have m3:BB ⟨9,0,[Gl ((AD f j s.v x).1.1.length:Int),Ef 0]⟩=2:=rfl;rw[<-H];simp only[LI,Ah,CS,p];omega
   have y3:(AD f j s.v x).1.2.length<=J y.2:=by rw[<-H];simp
   have k:=n s.b ((AD f j s.v x).1.1.length:Int) l y E O;have o:=n s.e (((AD f j s.v x).1.1++[l]).length:Int) l (Av f s.b ((AD f j s.v x).1.1.length:Int) l y) X (by have:=k.lo;omega)
   have a:=k.lo;have b:=k.hi;have c:=k.st;have d1:=k.len;have T:=o.lo;have Q:=o.hi;have R:=o.st;have d2:=o.len;exact⟨O,O,O,O⟩
  by_cases S:s.t=5
  ·rw[Te S]
   refine⟨r,?_,?_,?_⟩
   ·simp only;omega
   ·simp only[LI,Ah,CS,p];omega
   simp;omega
  by_cases P:s.t=1
  ·rw[UK P]
   have F:=Ry m (AD f j s.v x).2 (Gl s.g);have N:BB (Gl s.g)=0:=rfl;refine⟨r,?_,?_,?_⟩
   ·simp only;omega
   ·simp only[LI,Ah,CS,p];omega
   simp;omega
  by_cases D:s.t=2
  ·obtain⟨L,-,-⟩:=ck z D
   cases u:Dk (AL (AD f j s.v x).1.1 f 5 s.i)
   ·rw[Ul D u]
    have F:=Ry m (AD f j s.v x).2 (NA s.g s.i);have N:BB (NA s.g s.i)=1:=by simp[BB,By,ZV L]
    have m3:=ZV L;refine⟨r,?_,?_,?_⟩
    ·simp only;omega
    ·simp only[LI,Ah,CS];omega
    simp;omega
   rw[UC D u];have F:=sN ((AD f j s.v x).1.1.length:Int) s.g s.i m L 4;refine⟨?_,?_,?_,?_⟩
   ·simp;omega
   ·simp;omega
   ·simp only[LI,Ah,CS,p];omega
   simp;omega
  rw[IK ⟨P,D,G,M,S⟩]at z;cases z
theorem UG(a){f c d}(b)(m e)(x)(h:b.all (Ax c f d)=V)(g:c<=J x.1):RF (Ah b) x (Av a b m e x):=eN (oY a f c d) b m e x h g
theorem XM{a b}{e}(h:CQ a b e=V):BB e<=14:=by
 unfold CQ at h;simp only[Aj,decide_eq_true_eq]at h;omega
theorem ao{e}(h:Dy e=V):BB e=0:=by
 unfold Dy at h;simp only[Aj,decide_eq_true_eq]at h;exact ZV (FM h.2)
theorem Zz{b e d}(c:∀s,Ax b e d s=V->1+CS s<=29*Gn s):∀a,a.all (Ax b e d)=V->Ah a<=29*CP a
 |[],_=>BR _
 |s::r,h=>by
  simp only[IS,Aj]at h;have f:=c s h.1;have g:=Zz c r h.2;rw[Ah,CP];omega
theorem jO{k p}:∀d s,Ax k p d s=V->1+CS s<=29*Gn s
 |0,_,h=>by simp[Ax]at h
 | d + 1, s, h => by
  rw[Lu,Aj,Aj]at h;obtain⟨a,f,o⟩:=h;have q:=Zz (λs=>jO d s) s.b f
  have u:=Zz (λs=>jO d s) s.e o
  have m:CS s=BB s.i+BB s.v+Ah s.b+Ah s.e:=by cases s;rfl
  have r:=PW s
  have j:BB s.i+BB s.v<=28:=by
   by_cases l:s.t=4
   ·rw[KV l]at a;simp only[Aj]at a
    have:=ao a.2.1;have:=ao a.2.2;omega
   by_cases g:s.t=3
   ·rw[LM g]at a;simp only[Aj]at a
    have:=ao a.2.1;have:=XM a.2.2;omega
   by_cases c:s.t=1\/s.t=5
   ·rw[FC c]at a;simp only[Aj]at a
    have:=ao a.2.1;have:=XM a.2.2;omega
   by_cases n:s.t=2
   ·rw[Hq n]at a;simp only[Aj]at a
    have:=XM a.2.1;have:=XM a.2.2.2;omega
   rw[IK O]at a;cases a
  omega
def Jd(p:BE):GD:=Av p.r p.b (-1) 0 (p.s,[])
def PC(p:BE):BE:=⟨(Jd p).1,p.r,(Jd p).2⟩
theorem Ub{p}(h:BZ p=V):J p.s<=12/\(J p.r)<=2/\Ah p.b<=1740:=by
 unfold BZ Gf MG at h;simp only[Aj,decide_eq_true_eq]at h;have:=Zz (jO 5) p.b h.1.2;omega
theorem iH{p}(h:BZ p=V):J p.s<=(Jd p).1.length/\(Jd p).1.length<=7000/\Ah (Jd p).2<=230000:=by
 have e:=Ub h;have d:p.b.all (Ax (J p.s) (J p.r) 5)=true:=(Rd h).2.2.2;have g:=UG p.r p.b (-1) 0 (p.s,[]) d (BR _);have a:=g.lo;have b:=g.hi;have c:=g.st;simp only[Ah]at a b c;unfold Jd;omega
theorem U0{p}(h:BZ p=V):(PC p).size<=240000:=by
 have a:=iH h;have b:=Ub h;show(Jd p).1.length+J p.r+Ah (Jd p).2<=_;omega
def EU(p:BE):Bool:=Y ((DD p U).1=0)&&BZ (PC p)
def Bn(p:BE):BE:=if EU p=V then PC p else⟨[],[],[]⟩
theorem PR{p}(h:(DD p U).1=0):BZ p=true:=((WZ p U).1 h).1
theorem pi{p}(h:¬(DD p U).1=0):EU p=false:=by unfold EU;rw[decide_eq_false h,Bool.false_and]
theorem mR{p}(h:BZ (PC p)=U):EU p=false:=by unfold EU;rw[h,Bool.and_false]
theorem mQ{p}(h:(DD p U).1=0)(a:BZ (PC p)=V):EU p=true:=by unfold EU;rw[decide_eq_true h,a];rfl
theorem VY{p}(h:EU p=U):Bn p=⟨[],[],[]⟩:=by unfold Bn;rw[h];rfl
theorem TA{p}(h:EU p=V):Bn p=PC p:=by unfold Bn;rw[h];rfl
theorem ef(p):(Bn p).size<=240000:=by
 cases h:EU p
 ·rw[VY h];simp[BE.size,Ah]
 rw[TA h];unfold EU at h;simp only[Aj,decide_eq_true_eq]at h;exact U0 (PR h.1)
section
variable{ss:List AG}{k:Nat}
end
theorem qx{f g:AF->Int}(b:List AF):∀a,(∀k∈b,f k=g k)->b.foldl (λa k=>AR a (f k)) a=b.foldl (λa k=>AR a (g k)) a:=by
 induction b with
 |nil=>intro a _;simp only[List.foldl_nil]
 |cons k t d=>
  intro a h;simp only[List.foldl_cons];rw[h k EI];exact d _ λq c=>h q (Ep _ c)
theorem nH{b a}(c d):∀n e,As c d n e=V->AL b a (n+1) e=AL b a n e
 |0,_,h=>by simp[As]at h
 |n+1,e,h=>by
  rw[As,Aj,Aj]at h;rw[AL]
  conv=>rhs;rw[AL]
  exact qx (f:=AL b a (n+1)) (g:=AL b a n) e.k _ λk i=>nH c d n k (Bt.1 h.1.2 k i)
theorem oi{f:AF->Int}:∀(b:List AF) (a:Int),Bb a (b.foldl (λa k=>AR a (f k)) a)/\∀k∈b,Bb (f k) (b.foldl (λa k=>AR a (f k)) a)
 |[],a=>⟨Bb.refl a,λk e=>by cases e⟩
 |k::t,a=>by
  obtain⟨d,g⟩:=oi (f:=f) t (AR a (f k));simp only[List.foldl_cons];refine⟨(KE _ _).trans d,λq c=>?_⟩
  rcases Eb.1 c with rfl|c
  ·exact(Qa _ _).trans d
  exact g q c
theorem y6{f g n}{a}(b:As f g n a=V)(c:Eo a=V):a.k=[]:=by
 cases n with
 |zero=>simp[As]at b
 |succ m=>
  rw[As,Aj,Aj]at b;have d:=b.1.1;simp only[En,Aj,decide_eq_true_eq]at d;have e:=d.1.1;unfold Eo at c;simp only[Gg,decide_eq_true_eq]at c;unfold Cm at e;rw[AZ c]at e;exact FM O
abbrev ci(e:AF):AN:=⟨163,[Dc e 0],Em e,Em e++[.Q (.P e.k)],.agg [A e.t,A e.v,.F 1]⟩
abbrev Tt:AI:=.C [A 0,A 0,.v (.slice I 0 0)]
theorem yf(e)(f:BB e<=1048576)(i:∀x,x∈e.k->AN.ok prog (ci x)):AN.ok prog (ci e):=by
 refine BP 27 func163 [AP e.k] [(0,Dc e 0)] λG=>?_;have d:=ru f;refine B (AM G AB [0,1,9] [AP e.k,.C (Bz e 0),Tt] [(1,.P 1 0),(2,.P 2 0)] λG=>B (AM G AB [0,1,2,43] [AP e.k,.C (Bz e 0),Tt,.C [A e.t,A e.v,AK]] [(1,.P 1 0),(2,.P 2 0),(3,.P 3 0)] λG=>B (B (AM G AB [0,2,3] [AP e.k,Tt,.C [A e.t,A e.v,AK]] [(2,.P 1 0),(3,.P 2 0),(12,.N 0),(13,A (J e.k:Int)),(14,A 0)] λG=>BN ?_))));obtain⟨j,G⟩:=G.nilT 3 (.P []) [AP e.k,.C [A 0,A 0,AK],.C [A e.t,A e.v,.F 3]] [(2,.P 1 0),(3,.P 2 0),(12,.N 0),(13,A (J e.k:Int)),(14,A 0)];refine DR (h:=Nat) (λk=>k<=J e.k) (λk=>J e.k-k) (λk=>[AP e.k,.C [A 0,A 0,AK],.C [A e.t,A e.v,.F 3],.Q (.P (e.k.take k))]) (λk=>[(2,.P 1 0),(3,.P 2 0),(12,.N 0),(13,A (J e.k:Int)),(14,A k)]) 0 O (Ap.at G _ _) ?_;clear G;intro k j a w c G;replace G:=Ap.at G [AP e.k,Tt,.C [A e.t,A e.v,.F 3],.Q (D.P (Ae k e.k))] [(2,.P 1 0),(3,.P 2 0),(12,.N 0),(13,A (J e.k:Int)),(14,A k)];refine B (AQ G AB [(15,AC (Y ((k:Int)<J e.k)))] λG=>B (DZ G (λh g=>?_) λh g=>?_))
 ·refine wp_exit (Bd (Bd (DG (B (AM G AB [0,1,3] [AP e.k,.C [A e.t,A e.v,.F 2],.Q (D.P (Ae k e.k))] [(2,.P 1 0)] λG=>AT ?_)))));exact Br G [0,2] (by show _=BM [0,2] [AP e.k,.Q (D.P e.k)];have b:(Ae k e.k:List AF)=(e.k):=(YV c Ab);(first|rw[b]|simp only[b])<;>rfl)
 refine Aq (B (BN (B (CT G AB [0,1,2,3,12,20] [AP e.k,Tt,.C [A e.t,A e.v,.F 3],.Q (D.P (Ae k e.k)),AP (e.k.getD k K).k,.C (Bz (e.k.getD k K) 4)] [(2,.P 1 0),(3,.P 2 0),(5,.P 5 0),(12,.N 0),(13,A (J e.k:Int)),(14,A k)] (CD k k (J e.k) []) (CE O Ay) λG=>Df G (Ai 3 [4] (i (e.k.getD k K) (RI Ab))) [0,1,0,4,12,31,63,127] [0,1,2,46] [AP e.k,Tt,.C [A e.t,A e.v,.F 3],.Q (D.P (Ae k e.k++[Ak (e.k.getD k K)]))] [(2,.P 1 0),(3,.P 2 0),(12,.N 0),(13,A (J e.k:Int)),(14,A k)] [(Ae k e.k).length+[Ak (e.k.getD k K)].length<=(9223372036854775807:Nat),((Ae k e.k).length+[Ak (e.k.getD k K)].length)*(40:Nat)<=(140737488355328:Nat)] ⟨(by have:=Qc (x:=(K:AF)) c d;simp only[BK,Bc]at this ⊢;omega),(Ze (Qc c d) Au),Ay⟩ λG=>BL (Bi G AB [(14,A ((k:Int)+1))] [BC ((k:Int)+1)] (BA O) λG=>?_)))));exact Ce G (k+1) O O (AH 4) (by have b:(Ae (k+1) e.k:List AF)=(Ae k e.k++[Ak (e.k.getD k K)]):=((tQ O).symm);(first|rw[b]|simp only[b])<;>rfl)
theorem pM(e):BB e<=1048576->AN.ok prog (ci e):=
 AF.ind (P:=λe=>BB e<=1048576->AN.ok prog (ci e)) (λk n a d c=>yf ⟨k,n,a⟩ c λx b=>d x b (by
  have f:=tf (show x∈a from b);have g:BB ⟨k,n,a⟩=By a:=rfl
  omega)) e
abbrev QY(l:List AG):AN:=⟨103,[.N 0],[AE l],[AE l,.Q (.M l)],.F 1⟩
theorem kY(l)(d:Ah l<=1048576)(g:∀s,s∈l->AN.ok prog (QY s.b))(f:∀s,s∈l->AN.ok prog (QY s.e)):AN.ok prog (QY l):=by
 refine BP 36 func103 [AE l] [(0,.N 0)] λG=>?_;have j:=nx d;refine B (AQ G AB [(2,AK)] λG=>B (AQ G AB [(3,AK)] λG=>B (B (BS G AB [(2,AK),(3,AK),(6,.N 0),(7,A (J l:Int)),(8,A 0)] λG=>BN ?_))));obtain⟨o,G⟩:=G.nilT 1 (.M []) [AE l] [(2,AK),(3,.F 1),(6,.N 0),(7,A (J l:Int)),(8,A 0)];refine DR (h:=Nat) (λk=>k<=J l) (λk=>J l-k) (λk=>[AE l,.Q (.M (l.take k))]) (λk=>[(2,AK),(3,.F 1),(6,.N 0),(7,A (J l:Int)),(8,A k)]) 0 O (Ap.at G _ _) ?_;clear G;intro k o a w h G;replace G:=Ap.at G [AE l,.Q (D.M (Ae k l))] [(2,AK),(3,.F 1),(6,.N 0),(7,A (J l:Int)),(8,A k)];refine B (AQ G AB [(9,AC (Y ((k:Int)<J l)))] λG=>B (DZ G (λn m=>?_) λn m=>?_))
 ·refine wp_exit (Bd (Bd (DG (B (AQ G AB [(2,.F 1)] λG=>AT ?_)))));exact Br G [0,1] (by show _=BM [0,1] [AE l,.Q (D.M l)];have c:(Ae k l:List AG)=(l):=(YV h Ab);(first|rw[c]|simp only[c])<;>rfl)
 refine Aq (B (BN (B (CT G AB [0,1,10,11,12,13,18] [AE l,.Q (D.M (Ae k l)),AP (l.getD k K).i.k,AP (l.getD k K).v.k,AE (l.getD k K).b,AE (l.getD k K).e,.C (Ct (l.getD k K) 2)] [(2,AK),(3,.F 1),(5,.P 6 0),(6,.N 0),(7,A (J l:Int)),(8,A k)] (CD k k (J l) []) (CE O Ay) λG=>Df G (BH (AX 7 [2] (pM ((l.getD k K).i) ((aT d Ab).1)) (AX 10 [3] (pM ((l.getD k K).v) ((aT d Ab).2.1)) (AX 15 [4] (g (l.getD k K) (QS Ab)) (AX 18 [5] (f (l.getD k K) (QS Ab)) BG)))) Ag []) [0,0,2,0,8,0,32,96,0,256,992,0,2048,0,8192,26592,0,65536,255968,524286,1048574,2097151,4194303] [0,175] [AE l,.Q (D.M (Ae k l++[NP (l.getD k K)]))] [(2,AK),(3,.F 1),(6,.N 0),(7,A (J l:Int)),(8,A k)] [(Ae k l).length+[NP (l.getD k K)].length<=(9223372036854775807:Nat),((Ae k l).length+[NP (l.getD k K)].length)*(152:Nat)<=(140737488355328:Nat)] ⟨(by have:=Qc (x:=(K:AG)) h j;simp only[BK,Bc]at this ⊢;omega),(Ze (Qc h j) Au),Ay⟩ λG=>BL (Bi G AB [(8,A ((k:Int)+1))] [BC ((k:Int)+1)] (BA O) λG=>?_)))));exact Ce G (k+1) O O [0,1] (by have c:(Ae (k+1) l:List AG)=(Ae k l++[NP (l.getD k K)]):=((oZ O).symm);(first|rw[c]|simp only[c])<;>rfl)
theorem ww(l):Ah l<=1048576->AN.ok prog (QY l):=λd=>kY l d
 (λs a=>(own2 s).1 (DO (Nat.le_of_lt (Lg a)) d)) λs a=>(own2 s).2 (DO (Nat.le_of_lt (Lg a)) d)
where
 own2 (s:AG):(CS s<=1048576->AN.ok prog (QY s.b))/\(CS s<=1048576->AN.ok prog (QY s.e)):=
  AG.ind (P:=λs=>(CS s<=1048576->AN.ok prog (QY s.b))/\(CS s<=1048576->AN.ok prog (QY s.e))) (λk t i v c b e f g=>by
   have h:CS ⟨k,t,i,v,c,b,e⟩=BB i+BB v+Ah b+Ah e:=rfl;constructor
   ·intro d
    refine kY b O (λs a=>(f s a).1 ?_) λs a=>(f s a).2 ?_
    ·have:=Lg a;omega
    have:=Lg a;omega
   intro d;refine kY e O (λs a=>(g s a).1 ?_) λs a=>(g s a).2 ?_
   ·have:=Lg a;omega
   have:=Lg a;omega) s
theorem vU(p)(a:p.size<=1048576):AN.ok prog ⟨49,[Ao 0],Be p,Be p++Pg p,Nb 3⟩:=by
 refine BP 13 func49 [W p.s,W p.r,AE p.b] [(0,Ao 0)] λG=>?_
 have c:J p.s<=1048576/\(J p.r)<=1048576/\Ah p.b<=1048576:=by unfold BE.size at a;omega
 refine B (AM G AB [0,1,2,3,11] [W p.s,W p.r,AE p.b,.C (Al 0),.C [AK,AK,AK]] [(1,.P 3 0),(2,.P 4 0)] λG=>B (Fr G (BH (AX 2 [0] (RD p.s O) (AX 5 [1] (RD p.r O) (AX 8 [2] (ww p.b O) BG))) Ag []) [0,1,3,0,8,31,0,64,255,511,1023] [0,1,2,4,21,45,69] [W p.s,W p.r,AE p.b,.C [.N 4,.N 5,.F 6],.L 3 (D.C p.s),.L 3 (D.C p.r),.Q (D.M p.b)] [(2,.P 3 0)] λG=>AT ?_));exact Br G [0,1,2,4,5,6]
def NC{a:Type}(f:a->Bool)(l:List a):Int:=match l.findIdx? f with
 |some i=>i
 |none=> -1
theorem kw{a:Type}{f:a->Bool}{l:List a}{k}{z:a}(b:k<J l)(h:(l.take k).any f=U)(c:f (l.getD k z)=V):NC f l=k:=by
 have:l.findIdx? f=Z k:=by
  rw[List.findIdx?_eq_some_iff_getElem];rw[DU b]at c;refine⟨b,c,λj e=>?_⟩
  rw[List.any_eq_false]at h;have d:l[j]∈l.take k:=List.mem_take_iff_getElem.2 ⟨j,O,rfl⟩;exact h _ d
 unfold NC;rw[this]
theorem ev{a:Type}{f:a->Bool}{l:List a}(h:l.any f=U):NC f l= -1:=by
 have:l.findIdx? f=none:=by
  rw[List.findIdx?_eq_none_iff];intro x b;rw[List.any_eq_false]at h;simpa using h x b
 unfold NC;rw[this]
theorem tK{a:Type}(f:a->Bool)(l:List a):Y (NC f l>=0)=l.any f:=by
 cases h:l.any f
 ·rw[ev h];rfl
 unfold NC;cases b:l.findIdx? f with
 |none=>
  rw[List.findIdx?_eq_none_iff]at b;obtain⟨x,d,c⟩:=List.any_eq_true.1 h;rw[b x d]at c;cases c
 |some i=>simp
section
variable{p:BE}{s:AG}
end
abbrev MQ(f:Nat)(c n a:Int):List AI:=[.C [A c],.C [.bm f [Ao 0]],.C [A n],.C [A a]]
abbrev Kn:Nat:=100
abbrev Cf(p:BE):AG×Int->Int:=λx=>GM p x.1 x.2
section
variable{R:AG×Int->Int}{c a:Int}{n:Nat}{x:AG×Int}
theorem S5(h:¬c=0):(CG R (c,a,n) x).1=c:=by unfold CG;rw[AO h]
theorem C1(h:¬c=0):(CG R (c,a,n) x).2.1=a:=by unfold CG;rw[AO h]
theorem Ta:(CG R (c,a,n) x).2.2=n+1:=by unfold CG;split<;>rfl
theorem pG(h:c=0):(CG R (c,a,n) x).1=R x:=by unfold CG;rw[AZ h]
theorem O6(h:c=0)(b:R x=0):(CG R (c,a,n) x).2.1=a:=by unfold CG;rw[AZ h,AZ b]
theorem R5(h:c=0)(b:¬R x=0):(CG R (c,a,n) x).2.1=n:=by unfold CG;rw[AZ h,AO b]
end
abbrev US(p:BE)(s:AG)(a:Int)(c:Int)(b:Int)(n:Nat):List AI:=[W p.s,W p.r,AE p.b,.C [A (CG (Cf p) (c,b,n) (s,a)).1],.C [.bm Kn [Ao 0]],.C [A ((CG (Cf p) (c,b,n) (s,a)).2.2:Int)],.C [A (CG (Cf p) (c,b,n) (s,a)).2.1],AP s.i.k,AP s.v.k,AE s.b,AE s.e]
abbrev RV(s:AG)(a:List AI):List AI:=AP s.i.k::AP s.v.k::AE s.b::AE s.e::a
theorem yU(p)(s)(a)(c b)(n:Nat)(l:n+1<=4000000)(h:EE (J p.s) (J p.r) s=V):
    AN.ok prog ⟨148,[Fw s 7,A a,.P 3 0,.P 4 0,.P 5 0,.P 6 0],Be p++MQ Kn c n b++ID s,
      Be p++MQ Kn (CG (Cf p) (c,b,n) (s,a)).1 (CG (Cf p) (c,b,n) (s,a)).2.2 (CG (Cf p) (c,b,n) (s,a)).2.1++ID s,.T []⟩:=by
  refine BP 19 func148 (W p.s::W p.r::AE p.b::.C [A c]::.C [.bm 100 [Ao 0]]::.C [A n]::.C [A b]::(RV s [])) [(0,Fw s 7),(1,A a),(2,.P 3 0),(3,.P 4 0),(4,.P 5 0),(5,.P 6 0)] λG=>?_;refine B (AM G AB (AH 12) (W p.s::W p.r::AE p.b::.C [A c]::.C [.bm 100 [Ao 0]]::.C [A n]::.C [A b]::(RV s [.C (Ct s 7)])) [(1,A a),(2,.P 3 0),(3,.P 4 0),(4,.P 5 0),(5,.P 6 0),(6,.P 11 0)] λG=>B (B (AQ G AB [(9,AC (c==0))] λG=>Cu G (λk j=>?_) λk j=>?_)))
  · refine Aq (CT G AB (AH 11) (W p.s::W p.r::AE p.b::.C [A c]::.C [.bm 100 [Ao 0]]::.C [A ((n:Int)+1)]::.C [A b]::(RV s [])) [] [BC ((n:Int)+1)] (BA O) λG=>?_);exact Jh G (AH 11) (by show _=BM (AH 11) (US p s a c b n);unfold US;have e:((CG (Cf p) (c,b,n) (s,a)).1:Int)=(c):=(S5 Ab);have f:(((CG (Cf p) (c,b,n) (s,a)).2.2:Int):Int)=((n:Int)+1):=(congrArg Int.ofNat Ta);have d:((CG (Cf p) (c,b,n) (s,a)).2.1:Int)=(b):=(C1 Ab);(first|rw[e,f,d]|simp only[e,f,d])<;>rfl)
  refine B (AM G (Ai 3 [0,1,2,7,8,9,10] (ym p s a Ab)) (AH 11) (W p.s::W p.r::AE p.b::.C [A (GM p s a)]::.C [.bm 100 [Ao 0]]::.C [A n]::.C [A b]::(RV s [])) [(2,.P 3 0),(4,.P 5 0),(5,.P 6 0)] λG=>B (AQ G AB [(15,AC (GM p s a !=0))] λG=>IP G (λg i=>?_) λg i=>?_))
  · refine Aq (CT G AB (AH 11) (W p.s::W p.r::AE p.b::.C [A (GM p s a)]::.C [.bm 100 [Ao 0]]::.C [A ((n:Int)+1)]::.C [A b]::(RV s [])) [] [BC ((n:Int)+1)] (BA O) λG=>?_);exact Jh G (AH 11) (by show _=BM (AH 11) (US p s a c b n);unfold US;have e:((CG (Cf p) (c,b,n) (s,a)).1:Int)=(GM p s a):=(pG Ab);have f:(((CG (Cf p) (c,b,n) (s,a)).2.2:Int):Int)=((n:Int)+1):=(congrArg Int.ofNat Ta);have d:((CG (Cf p) (c,b,n) (s,a)).2.1:Int)=(b):=(O6 Ab Ab);(first|rw[e,f,d]|simp only[e,f,d])<;>rfl)
  refine AM G AB (AH 11) (W p.s::W p.r::AE p.b::.C [A (GM p s a)]::.C [.bm 100 [Ao 0]]::.C [A n]::.C [A n]::(RV s [])) [(4,.P 5 0)] λG=>CT G AB (AH 11) (W p.s::W p.r::AE p.b::.C [A (GM p s a)]::.C [.bm 100 [Ao 0]]::.C [A ((n:Int)+1)]::.C [A n]::(RV s [])) [] [BC ((n:Int)+1)] (BA O) λG=>?_;exact Jh G (AH 11) (by show _=BM (AH 11) (US p s a c b n);unfold US;have e:((CG (Cf p) (c,b,n) (s,a)).1:Int)=(GM p s a):=(pG Ab);have f:(((CG (Cf p) (c,b,n) (s,a)).2.2:Int):Int)=((n:Int)+1):=(congrArg Int.ofNat Ta);have d:((CG (Cf p) (c,b,n) (s,a)).2.1:Int)=((n:Int)):=(R5 Ab Ab);(first|rw[e,f,d]|simp only[e,f,d])<;>rfl)
def FE(R:AG×Int->Int)(p:BE)(d:Nat)(e:Int)(a:List AG)(c b:Int)(n k:Nat):Int×Int×Nat:=(Cc p (d+1) e (a.take k)).foldl (CG R) (c,b,n)
section
variable{R:AG×Int->Int}{p:BE}{d:Nat}{cx:Int}{ss:List AG}{c b:Int}{n k:Nat}
theorem jW(a:k<J ss)(h:(ss.getD k K).t=3):FE R p d cx ss c b n (k+1)=(Cc p d (AR cx (BI p (ss.getD k K).v)) (ss.getD k K).e).foldl (CG R) ((Cc p d (AR cx (BI p (ss.getD k K).v)) (ss.getD k K).b).foldl (CG R) (CG R (FE R p d cx ss c b n k) (ss.getD k K,cx))):=by
 unfold FE;rw[mW a];unfold EM;rw[AZ h]
theorem ux(a:k<J ss)(h:¬(ss.getD k K).t=3):FE R p d cx ss c b n (k+1)=(Cc p d cx (ss.getD k K).e).foldl (CG R) ((Cc p d cx (ss.getD k K).b).foldl (CG R) (CG R (FE R p d cx ss c b n k) (ss.getD k K,cx))):=by
 unfold FE;rw[mW a];unfold EM;rw[AO h]
theorem gg(a:J ss<=k):(Cc p (d+1) cx ss).foldl (CG R) (c,b,n)=FE R p d cx ss c b n k:=by unfold FE;rw[Dq a]
theorem fS:(FE R p d cx ss c b n k).2.2<=n+CP (ss.take k):=by
 unfold FE;rw[jd];have:=WG p (d+1) cx (ss.take k);simp only;omega
theorem ae7(a:k<J ss)(f:n+CP ss<=4000000):(FE R p d cx ss c b n k).2.2+1<=4000000:=by
 have e:=fS (R:=R) (p:=p) (d:=d) (cx:=cx) (ss:=ss) (c:=c) (b:=b) (n:=n) (k:=k);have g:=WN a;omega
theorem pN(a:k<J ss)(f:n+CP ss<=4000000):(CG R ((FE R p d cx ss c b n k).1,(FE R p d cx ss c b n k).2.1,(FE R p d cx ss c b n k).2.2) (ss.getD k K,cx)).2.2+CP (ss.getD k K).b<=4000000:=by
 have e:=fS (R:=R) (p:=p) (d:=d) (cx:=cx) (ss:=ss) (c:=c) (b:=b) (n:=n) (k:=k);have g:=WN a;rw[Ta];omega
theorem sQ{f}(h:k<J ss)(l:n+CP ss<=4000000){g}(a:g.2.2=(FE R p d cx ss c b n k).2.2+1):((Cc p d f (ss.getD k K).b).foldl (CG R) g).2.2+CP (ss.getD k K).e<=4000000:=by
 have i:=fS (R:=R) (p:=p) (d:=d) (cx:=cx) (ss:=ss) (c:=c) (b:=b) (n:=n) (k:=k);have m:=WN h;rw[jd,a];have j:=WG p d f (ss.getD k K).b;omega
end
abbrev Rt(p:BE)(d:Nat)(a:List AG)(e:Int)(c:Int)(b:Int)(n:Nat)(k:Nat):=IN (CG (Cf p)) (CG (Cf p) (FE (Cf p) p d e a c b n k) (a.getD k K,e)) (Cc p d (AR e (BI p (a.getD k K).v)) (a.getD k K).b)
abbrev Om(p:BE)(d:Nat)(a:List AG)(e:Int)(c:Int)(b:Int)(n:Nat)(k:Nat):=IN (CG (Cf p)) (CG (Cf p) (FE (Cf p) p d e a c b n k) (a.getD k K,e)) (Cc p d e (a.getD k K).b)
abbrev Uu(p:BE)(d:Nat)(a:List AG)(f:Int)(c:Int)(b:Int)(n:Nat)(k:Nat):=IN (CG (Cf p)) (Rt p d a f c b n k) (Cc p d (AR f (BI p (a.getD k K).v)) (a.getD k K).e)
abbrev Ol(p:BE)(d:Nat)(a:List AG)(e:Int)(c:Int)(b:Int)(n:Nat)(k:Nat):=CG (Cf p) (FE (Cf p) p d e a c b n k) (a.getD k K,e)
abbrev OH:AA:=.fn 148 [.P 3 0,.P 4 0,.P 5 0,.P 6 0]
abbrev Xd(a:List AG)(k:Nat)(c:List AI):List AI:=AE a::.C (Al 0)::AP (a.getD k K).i.k::AP (a.getD k K).v.k::AE (a.getD k K).b::AE (a.getD k K).e::.C (Ct (a.getD k K) 9)::c
abbrev SB(a:List AG)(k:Nat)(b:List (Nat×AA)):List (Nat×AA):=(11,.N 7)::(12,A (J a:Int))::(13,A (k:Int))::b
theorem nK(p)(d)(f)(q:∀h g c b n,0<J f->h.all (Ax (J p.s) (J p.r) d)=V->n+CP h<=4000000->AN.ok prog ⟨52,[Ao 0,.N 7,A g,.fn 148 [.P 3 0,.P 4 0,.P 5 0,.P 6 0]],Be p++MQ Kn c n b++[.G (.M h)],
      Be p++MQ Kn ((Cc p d g h).foldl (CG (Cf p)) (c,b,n)).1 ((Cc p d g h).foldl (CG (Cf p)) (c,b,n)).2.2 ((Cc p d g h).foldl (CG (Cf p)) (c,b,n)).2.1++[.G (.M h)],.T []⟩)
    (g) (c b) (n) (i:f.all (Ax (J p.s) (J p.r) (d+1))=V) (m:n+CP f<=4000000):AN.ok prog ⟨52,[Ao 0,.N 7,A g,.fn 148 [.P 3 0,.P 4 0,.P 5 0,.P 6 0]],Be p++MQ Kn c n b++[.G (.M f)],
      Be p++MQ Kn ((Cc p (d+1) g f).foldl (CG (Cf p)) (c,b,n)).1 ((Cc p (d+1) g f).foldl (CG (Cf p)) (c,b,n)).2.2 ((Cc p (d+1) g f).foldl (CG (Cf p)) (c,b,n)).2.1++[.G (.M f)],.T []⟩:=by
  refine BP 44 func52 [W p.s,W p.r,AE p.b,.C [A c],.C [.bm 100 [Ao 0]],.C [A n],.C [A b],AE f] [(0,Ao 0),(1,.N 7),(2,A g),(3,OH)] λG=>?_;have u:J f<=9223372036854775807:=G.len 7 (d:=.M f) Au;refine B (AM G AB (AH 9) [W p.s,W p.r,AE p.b,.C [A c],.C [.bm 100 [Ao 0]],.C [A n],.C [A b],AE f,.C (Al 0)] [(1,.N 7),(2,A g),(3,OH),(4,.P 8 0)] λG=>B (BS G AB [(2,A g),(3,OH),(4,.P 8 0),(11,.N 7),(12,A (J f:Int)),(13,A 0)] λG=>BN ?_));refine DR (h:=Nat) (λk=>k<=J f) (λk=>J f-k) (λk=>[W p.s,W p.r,AE p.b,.C [A (FE (Cf p) p d g f c b n k).1],.C [.bm 100 [Ao 0]],.C [A (FE (Cf p) p d g f c b n k).2.2],.C [A (FE (Cf p) p d g f c b n k).2.1],AE f,.C (Al 0)]) (λk=>[(2,A g),(3,.fn 148 [.P 3 0,.P 4 0,.P 5 0,.P 6 0]),(4,.P 8 0),(11,.N 7),(12,A (J f:Int)),(13,A k)]) 0 O (Ap.at G _ _) ?_;clear G;intro k H a w F G;replace G:=Ap.at G [W p.s,W p.r,AE p.b,.C [A (FE (Cf p) p d g f c b n k).1],.C [.bm 100 [Ao 0]],.C [A ((FE (Cf p) p d g f c b n k).2.2:Int)],.C [A (FE (Cf p) p d g f c b n k).2.1],AE f,.C (Al 0)] ((2,A g)::(3,OH)::(4,.P 8 0)::(SB f k []));refine B (AQ G AB [(14,AC (Y ((k:Int)<J f)))] λG=>B (DZ G (λC z=>?_) λC z=>?_))
  · refine wp_exit (Bd (Bd (DG ?_)));exact Jh G (AH 8) (by show _=BM (AH 8) [W p.s,W p.r,AE p.b,.C [A (IN (CG (Cf p)) (c,b,n) (Cc p (d+1) g f)).1],.C [.bm Kn [Ao 0]],.C [A ((IN (CG (Cf p)) (c,b,n) (Cc p (d+1) g f)).2.2:Int)],.C [A (IN (CG (Cf p)) (c,b,n) (Cc p (d+1) g f)).2.1],AE f];have l:((IN (CG (Cf p)) (c,b,n) (Cc p (d+1) g f)).1:Int)=((FE (Cf p) p d g f c b n k).1):=(congrArg Prod.fst (gg O));have o:(((IN (CG (Cf p)) (c,b,n) (Cc p (d+1) g f)).2.2:Int):Int)=(((FE (Cf p) p d g f c b n k).2.2:Int)):=(congrArg (λx:Int×Int×Nat=>Int.ofNat x.2.2) (gg O));have j:((IN (CG (Cf p)) (c,b,n) (Cc p (d+1) g f)).2.1:Int)=((FE (Cf p) p d g f c b n k).2.1):=(congrArg (λx:Int×Int×Nat=>x.2.1) (gg O));(first|rw[l,o,j]|simp only[l,o,j])<;>rfl)
  refine Aq (B (BN (B (CT G AB [0,1,2,3,4,5,6,7,8,17,18,19,20,25] (W p.s::W p.r::AE p.b::.C [A (FE (Cf p) p d g f c b n k).1]::.C [.bm 100 [Ao 0]]::.C [A ((FE (Cf p) p d g f c b n k).2.2:Int)]::.C [A (FE (Cf p) p d g f c b n k).2.1]::(Xd f k [])) ((2,A g)::(3,OH)::(4,.P 8 0)::(9,.P 13 0)::(SB f k [])) (CD k k (J f) []) (CE O Ay) λG=>B (AM G (Ai 3 [0,1,2,3,4,5,6,9,10,11,12] (yU p (f.getD k K) g ((FE (Cf p) p d g f c b n k).1) ((FE (Cf p) p d g f c b n k).2.1) ((FE (Cf p) p d g f c b n k).2.2) (ae7 O m) ((GV i O).1))) (AH 14) (W p.s::W p.r::AE p.b::.C [A (Ol p d f g c b n k).1]::.C [.bm 100 [Ao 0]]::.C [A ((Ol p d f g c b n k).2.2:Int)]::.C [A (Ol p d f g c b n k).2.1]::(Xd f k [])) ((2,A g)::(3,OH)::(4,.P 8 0)::(9,.P 13 0)::(SB f k [])) λG=>B (AQ G AB [(10,A g)] λG=>B (B (AQ G AB [(24,AC ((f.getD k K).t==3))] λG=>Cu G (λy E=>?_) λy E=>?_))))))))
  · refine Aq (B (AM G (Ai 5 [0,1,2,3,4,5,6,11] (q ((f.getD k K).b) g ((Ol p d f g c b n k).1) ((Ol p d f g c b n k).2.1) ((Ol p d f g c b n k).2.2) O ((GV i O).2.1) (pN O m))) (AH 14) (W p.s::W p.r::AE p.b::.C [A (Om p d f g c b n k).1]::.C [.bm 100 [Ao 0]]::.C [A ((Om p d f g c b n k).2.2:Int)]::.C [A (Om p d f g c b n k).2.1]::(Xd f k [])) ((2,A g)::(3,OH)::(4,.P 8 0)::(9,.P 13 0)::(10,A g)::(SB f k [])) λG=>AM G (Ai 5 [0,1,2,3,4,5,6,12] (q ((f.getD k K).e) g ((Om p d f g c b n k).1) ((Om p d f g c b n k).2.1) ((Om p d f g c b n k).2.2) O ((GV i O).2.2) (sQ O m Ta))) (AH 9) [W p.s,W p.r,AE p.b,.C [A (IN (CG (Cf p)) (Om p d f g c b n k) (Cc p d g (f.getD k K).e)).1],.C [.bm 100 [Ao 0]],.C [A ((IN (CG (Cf p)) (Om p d f g c b n k) (Cc p d g (f.getD k K).e)).2.2:Int)],.C [A (IN (CG (Cf p)) (Om p d f g c b n k) (Cc p d g (f.getD k K).e)).2.1],AE f,.C (Al 0)] ((2,A g)::(3,OH)::(4,.P 8 0)::(SB f k [])) λG=>BL (Bi G AB [(13,A ((k:Int)+1))] [BC ((k:Int)+1)] (BA O) λG=>?_)));exact Ce G (k+1) O O (AH 9) (by have D:=ux (R:=(Cf p)) (p:=p) (d:=d) (cx:=g) (ss:=f) (c:=c) (b:=b) (n:=n) (k:=k) O Ab;rw[D]<;>rfl)
  refine AQ G (Ai 4 [0,1,2,10] (Ts p ((f.getD k K).v) (Fy (GV i O).1 O))) [(10,A (AR g (BI p (f.getD k K).v)))] λG=>B (AM G (Ai 5 [0,1,2,3,4,5,6,11] (q ((f.getD k K).b) (AR g (BI p (f.getD k K).v)) ((Ol p d f g c b n k).1) ((Ol p d f g c b n k).2.1) ((Ol p d f g c b n k).2.2) O ((GV i O).2.1) (pN O m))) (AH 14) (W p.s::W p.r::AE p.b::.C [A (Rt p d f g c b n k).1]::.C [.bm 100 [Ao 0]]::.C [A ((Rt p d f g c b n k).2.2:Int)]::.C [A (Rt p d f g c b n k).2.1]::(Xd f k [])) ((2,A g)::(3,OH)::(4,.P 8 0)::(9,.P 13 0)::(10,A (AR g (BI p (f.getD k K).v)))::(SB f k [])) λG=>AM G (Ai 5 [0,1,2,3,4,5,6,12] (q ((f.getD k K).e) (AR g (BI p (f.getD k K).v)) ((Rt p d f g c b n k).1) ((Rt p d f g c b n k).2.1) ((Rt p d f g c b n k).2.2) O ((GV i O).2.2) (sQ O m Ta))) (AH 9) [W p.s,W p.r,AE p.b,.C [A (Uu p d f g c b n k).1],.C [.bm 100 [Ao 0]],.C [A ((Uu p d f g c b n k).2.2:Int)],.C [A (Uu p d f g c b n k).2.1],AE f,.C (Al 0)] ((2,A g)::(3,OH)::(4,.P 8 0)::(SB f k [])) λG=>BL (Bi G AB [(13,A ((k:Int)+1))] [BC ((k:Int)+1)] (BA O) λG=>?_));exact Ce G (k+1) O O (AH 9) (by have l:((FE (Cf p) p d g f c b n (k+1)).1:Int)=((Uu p d f g c b n k).1):=(congrArg Prod.fst (jW O Ab));have o:(((FE (Cf p) p d g f c b n (k+1)).2.2:Int):Int)=(((Uu p d f g c b n k).2.2:Int)):=(congrArg (λx:Int×Int×Nat=>Int.ofNat x.2.2) (jW O Ab));have j:((FE (Cf p) p d g f c b n (k+1)).2.1:Int)=((Uu p d f g c b n k).2.1):=(congrArg (λx:Int×Int×Nat=>x.2.1) (jW O Ab));(first|rw[l,o,j]|simp only[l,o,j])<;>rfl)
theorem Z5(p):∀d e f c b n,e.all (Ax (J p.s) (J p.r) d)=V->n+CP e<=4000000->AN.ok prog ⟨52,[Ao 0,.N 7,A f,.fn 148 [.P 3 0,.P 4 0,.P 5 0,.P 6 0]],Be p++MQ Kn c n b++[.G (.M e)],
   Be p++MQ Kn ((Cc p d f e).foldl (CG (Cf p)) (c,b,n)).1 ((Cc p d f e).foldl (CG (Cf p)) (c,b,n)).2.2 ((Cc p d f e).foldl (CG (Cf p)) (c,b,n)).2.1++[.G (.M e)],.T []⟩:=by
 intro d;induction d with
 | zero =>
  intro e f c b n i g
  have o:e=[]:=by
   cases e with
   |nil=>rfl
   |cons a r=>simp[Ax]at i
  subst o;exact nK p 0 [] (λ_ _ _ _ _ h=>absurd h At) f c b n rfl g
 |succ d k=>intro e f c b n i g;exact nK p d e (λm f c b n _ j l=>k m f c b n j l) f c b n i g
theorem xO(p)(h:BZ p=V):AN.ok prog ⟨52,[Ao 0,.N 2,A 0,.fn 148 [.P 3 0,.P 4 0,.P 5 0,.P 6 0]],Be p++MQ Kn 0 0 (-1),
   Be p++MQ Kn ((Cc p 5 0 p.b).foldl (CG (Cf p)) (0,-1,0)).1 ((Cc p 5 0 p.b).foldl (CG (Cf p)) (0,-1,0)).2.2 ((Cc p 5 0 p.b).foldl (CG (Cf p)) (0,-1,0)).2.1,.T []⟩:=
 AN.dup (S:=Be p++MQ Kn 0 0 (-1)) (S':=Be p++MQ Kn ((Cc p 5 0 p.b).foldl (CG (Cf p)) (0,-1,0)).1 ((Cc p 5 0 p.b).foldl (CG (Cf p)) (0,-1,0)).2.2 ((Cc p 5 0 p.b).foldl (CG (Cf p)) (0,-1,0)).2.1) (d:=.M p.b) (i:=2) (Z5 p 5 p.b 0 0 (-1) 0 (QR h).1 (by have:=(QR h).2;omega)) rfl rfl rfl (λa h=>by simp only[AA.vals,AA.val];rw[show a 7=a 2 from h]) rfl
theorem ur(p)(h:BZ p=V):AN.ok prog (CJ 99 [Ao 0,.bm Kn [Ao 0]] (Be p) (.T [A ((Cc p 5 0 p.b).foldl (CG (Cf p)) (0,-1,0)).1,A ((Cc p 5 0 p.b).foldl (CG (Cf p)) (0,-1,0)).2.1])):=by
 refine BP 16 func99 [W p.s,W p.r,AE p.b] [(0,Ao 0),(1,.bm 100 [Ao 0])] λG=>?_;refine B (AM G AB [0,1,2,3,11] [W p.s,W p.r,AE p.b,.C (Al 0),.C [.bm 100 [Ao 0]]] [(0,Ao 0),(2,.P 3 0),(3,.P 4 0),(4,A 0),(5,A 0)] λG=>B (AM G AB [0,1,2,3,4,5,13,21] [W p.s,W p.r,AE p.b,.C (Al 0),.C [.bm 100 [Ao 0]],.C [A 0],.C [A (-1)],.C [A 0]] [(0,Ao 0),(2,.P 3 0),(3,.P 4 0),(4,A 0),(5,A 0),(6,.P 5 0),(7,.P 6 0),(8,.P 7 0)] λG=>B (AM G (Ai 4 [0,1,2,5,4,7,6] (xO p Ab)) [0,1,2,5,6] [W p.s,W p.r,AE p.b,.C [A (IN (CG (Cf p)) (0,-1,0) (Cc p 5 0 p.b)).1],.C [A (IN (CG (Cf p)) (0,-1,0) (Cc p 5 0 p.b)).2.1]] [(0,Ao 0),(4,A 0),(5,A 0),(6,.P 3 0),(7,.P 4 0)] λG=>B (Fr G AB [0,0,1,7] [0,1,2] [W p.s,W p.r,AE p.b] [(0,Ao 0),(4,A (IN (CG (Cf p)) (0,-1,0) (Cc p 5 0 p.b)).1),(5,A (IN (CG (Cf p)) (0,-1,0) (Cc p 5 0 p.b)).2.1)] λG=>AT ?_))));exact Br G [0,1,2]
theorem Q0(p)(f:Ah p.b<=1048576):AN.ok prog (CJ 45 [Ao 0] (Be p) (.T [A (DD p U).1,A (DD p U).2])):=by
 refine BP 13 func45 [W p.s,W p.r,AE p.b] [(0,Ao 0)] λG=>?_;refine B (AM G AB (AH 4) [W p.s,W p.r,AE p.b,.C (Al 0)] [(1,.P 3 0),(2,A 0),(3,A 0)] λG=>B (B (AQ G (Ai 1 [0,1,2] (Tz p)) [(6,.v (.bool !BZ p))] λG=>?_)));cases d:(!BZ p)
 ·have e:(BZ p)=true:=(Eq.mp (Cp _) d);refine Bo G _ d (Aq (B (AM G (Ai 3 [0,1,2] (ur p Ab)) [0,1,2] [W p.s,W p.r,AE p.b] [(2,A (IN (CG (Cf p)) (0,-1,0) (Cc p 5 0 p.b)).1),(3,A (IN (CG (Cf p)) (0,-1,0) (Cc p 5 0 p.b)).2.1)] λG=>AT ?_)));exact Cr (.T [A (IN (CG (Cf p)) (0,-1,0) (Cc p 5 0 p.b)).1,A (IN (CG (Cf p)) (0,-1,0) (Cc p 5 0 p.b)).2.1]) G [0,1,2] (by have c:((DD p U).1:Int)=((IN (CG (Cf p)) (0,-1,0) (Cc p 5 0 p.b)).1):=((qE Ab).1.symm);have a:((DD p U).2:Int)=((IN (CG (Cf p)) (0,-1,0) (Cc p 5 0 p.b)).2.1):=((qE Ab).2.symm);(first|rw[c,a]|simp only[c,a])<;>rfl)
 have e:(BZ p)=false:=(Eq.mp (Cn _) d);refine Ba G _ d (B (AQ G AB [(2,A 5),(3,A (-1))] λG=>AT (Ar ?_)));exact Cr (.T [A 5,A (-1)]) G [0,1,2] (by have c:((DD p U).1:Int)=(5):=(by rw[ZU Ab];done);have a:((DD p U).2:Int)=(-1):=(by rw[ZU Ab];done);(first|rw[c,a]|simp only[c,a])<;>rfl)
theorem ag{a b}(h:¬a=b):Hy a b=false:=by
 cases e:Hy a b
 ·rfl
 exact absurd ((NZ a b).1 e) h
section
variable{a b:AF}{k:Nat}
theorem I2(h:¬a.t=b.t):Hy a b=false:=ag λe=>h (by rw[e])
theorem zp(h:¬a.v=b.v):Hy a b=false:=ag λe=>h (by rw[e])
theorem W9(h:¬(J a.k:Int)=J b.k):Hy a b=false:=ag λe=>h (by rw[e])
theorem H3(h:Hy (a.k.getD k K) (b.k.getD k K)=U):Hy a b=false:=ag λe=>by
 subst e;rw[(NZ _ _).2 rfl]at h;cases h
theorem Zy{f:Type}{l m:List f}{k}{z:f}(h:l.take k=m.take k)(c:k<J l)(g:k<J m)(e:l.getD k z=m.getD k z):l.take (k+1)=m.take (k+1):=by
 rw[Gr _ _ c,Gr _ _ g,h, <-DU (d:=z) c, <-DU (d:=z) g,e]
theorem Xg{d:Type}{l m:List d}{k}(h:l.take k=m.take k)(c:J l<=k)(e:(J l:Int)=J m):l=m:=by
 rw[Dq c,Dq O]at h;exact h
theorem vc(d:a.t=b.t)(f:a.v=b.v)(e:(J a.k:Int)=J b.k)(h:a.k.take k=b.k.take k)(c:J a.k<=k):Hy a b=true:=by
 refine(NZ _ _).2 ?_;rw[<-AF.eta a, <-AF.eta b,d,f,Xg h c e]
end
abbrev Zb(a b:AF):AN:=CJ 198 [Dc a 0,Dc b 1] [AP a.k,AP b.k] (AC (Hy a b))
theorem yO(x y)(p:∀u,u∈x.k->∀v,AN.ok prog (Zb u v)):AN.ok prog (Zb x y):=by
  refine BP 46 func198 [AP x.k,AP y.k] [(0,Dc x 0),(1,Dc y 1)] λG=>?_;have q:J x.k<=9223372036854775807:=G.len 0 (d:=.P x.k) Au;refine B (AM G AB [0,1,2,10] [AP x.k,AP y.k,.C (Bz x 0),.C (Bz y 1)] [(2,.P 2 0),(3,.P 3 0),(4,AC U)] λG=>B (B ?_));cases c:(x.t !=y.t)
  ·
   have l:=bne_eq_false_iff_eq.1 c;cases e:(x.v !=y.v)
   ·
    have n:=bne_eq_false_iff_eq.1 e;refine AQ G (CR (AS c (AS e Ag)) (Ad [(6,10,0),(1011,1011,0),(13,19,1),(1020,1020,1)])) [(26,AC ((J x.k:Int) !=(J y.k:Int)))] λG=>IP G (λi o=>?_) λi o=>?_
    ·
     refine Aq (B (B (BS G AB [(2,.P 2 0),(3,.P 3 0),(4,AC U),(5,A 0)] λG=>BN ?_)));refine DR (h:=Nat) (λk=>k<=J x.k/\x.k.take k=y.k.take k) (λk=>J x.k-k) (λk=>[AP x.k,AP y.k,.C (Bz x 0),.C (Bz y 1)]) (λk=>[(2,.P 2 0),(3,.P 3 0),(4,AC U),(5,A k)]) 0 (by simp) (Ap.at G _ _) ?_;clear G;intro k r a w g G;refine B (B (AQ G AB [(31,AC (Y ((k:Int)<J x.k)))] λG=>DZ G (λh m=>?_) λh m=>?_))
     · refine wp_exit (Bd (Bd (DG (B (AM G AB [0,1] [AP x.k,AP y.k] [(4,AC V)] λG=>AT ?_)))));exact BU V G [0,1] (vc O O O g.2 O)
     refine Aq (B (BN (B (JB G (Ai 10 [36,76] (p (x.k.getD k K) (RI O) (y.k.getD k K))) [0,1,0,7,15,0,32,0,224,480,1023,2047] [(45,.v (.bool !Hy (x.k.getD k K) (y.k.getD k K)))] (CD k k (J x.k) (CD k k (J y.k) [])) (CE O (CE O Ay)) λG=>?_))));cases f:(!Hy (x.k.getD k K) (y.k.getD k K))
     · have j:(Hy (x.k.getD k K) (y.k.getD k K))=true:=(Eq.mp (Cp _) f);refine Bo G _ f (Aq (BL (Bi G AB [(5,A ((k:Int)+1))] [BC ((k:Int)+1)] (BA O) λG=>?_)));exact Ce G (k+1) (⟨O,Zy g.2 O O ((NZ _ _).1 AY)⟩) O (AH 4)
     have j:(Hy (x.k.getD k K) (y.k.getD k K))=false:=(Eq.mp (Cn _) f);refine Ba G _ f (B (AQ G AB [] λG=>AT (Cg (Ar (Ar (Cg (Ar ?_)))))));exact BU U G [0,1] (H3 AY)
    refine B (AQ G AB [] λG=>AT (Ar ?_));exact BU U G [0,1] (W9 O)
   have n:=bne_iff_ne.1 e;refine AQ G (CR (AS c (AS e Ag)) (Ad [(6,10,0),(1011,1011,0),(13,19,1),(1020,1020,1)])) [(26,AC V)] λG=>Ba G V Au (B (AQ G AB [] λG=>AT (Ar ?_)));exact BU U G [0,1] (zp O)
  have l:=bne_iff_ne.1 c;refine AQ G (CR (AS c (AS (b:=V) rfl Ag)) (Ad [(6,10,0),(1011,1011,0),(13,19,1),(1020,1020,1)])) [(26,AC V)] λG=>Ba G V Au (B (AQ G AB [] λG=>AT (Ar ?_)));exact BU U G [0,1] (I2 O)
theorem RX(x):∀y,AN.ok prog (Zb x y):=
 AF.ind (P:=λx=>∀(y:AF),AN.ok prog (Zb x y)) (λk n a b y=>yO ⟨k,n,a⟩ y λu c=>b u c) x
theorem VB(b c):AN.ok prog (CJ 172 [.N 0,.N 1] [W b,W c] (AC (Y (b=c)))):=by
  refine BP 26 func172 [W b,W c] [(0,.N 0),(1,.N 1)] λG=>?_;have n:J b<=9223372036854775807:=G.len 0 (d:=.C b) Au;refine B (BS G AB [(0,.N 0),(1,.N 1),(4,AC U)] λG=>B (B (AQ G AB [(10,AC ((J b:Int) !=(J c:Int)))] λG=>IP G (λj i=>?_) λj i=>?_)))
  ·
   refine Aq (B (B (BS G AB [(0,.N 0),(1,.N 1),(4,AC U),(5,A 0)] λG=>BN ?_)));refine DR (h:=Nat) (λk=>k<=J b/\b.take k=c.take k) (λk=>J b-k) (λk=>[W b,W c]) (λk=>[(0,.N 0),(1,.N 1),(4,AC U),(5,A k)]) 0 (by simp) (Ap.at G _ _) ?_;clear G;intro k o a w f G;refine B (B (AQ G AB [(14,AC (Y ((k:Int)<J b)))] λG=>DZ G (λg l=>?_) λg l=>?_))
   · refine wp_exit (Bd (Bd (DG (B (AQ G AB [(4,AC V)] λG=>AT ?_)))));exact BU V G [0,1] (decide_eq_true (Xg f.2 O O))
   refine Aq (B (BN (B (JB G AB [0,0,3,7,0,0,48,112,255] [(25,AC (b.getD k 0 !=c.getD k 0))] (CD k k (J b) (CD k k (J c) [])) (CE O (CE O Ay)) λG=>IP G (λh m=>?_) λh m=>?_))))
   · refine Aq (BL (Bi G AB [(5,A ((k:Int)+1))] [BC ((k:Int)+1)] (BA O) λG=>?_));exact Ce G (k+1) (⟨O,Zy f.2 O O O⟩) O [0,1]
   refine B (AQ G AB [] λG=>AT (Cg (Ar (Ar (Cg (Ar ?_))))));exact BU U G [0,1] (by exact decide_eq_false λe=>by subst e;omega)
  refine B (AQ G AB [] λG=>AT (Ar ?_));exact BU U G [0,1] (by exact decide_eq_false λe=>by subst e;omega)
theorem Sl{s t}(h:¬s=t):JO s t=false:=by
 cases e:JO s t
 ·rfl
 exact absurd ((Wt s t).1 e) h
theorem mV{l m}(h:¬l=m):GB l m=false:=by
 cases e:GB l m
 ·rfl
 exact absurd ((Nn l m).1 e) h
section
variable{s t:AG}{l m:List AG}{k:Nat}
theorem B3(h:¬s.t=t.t):JO s t=false:=Sl λe=>h (by rw[e])
theorem S0(h:¬s.g=t.g):JO s t=false:=Sl λe=>h (by rw[e])
theorem U8(h:¬s.count=t.count):JO s t=false:=Sl λe=>h (by rw[e])
theorem O7(h:Hy s.i t.i=U):JO s t=false:=Sl λe=>by subst e;rw[(NZ _ _).2 rfl]at h;cases h
theorem uY(h:Hy s.v t.v=U):JO s t=false:=Sl λe=>by subst e;rw[(NZ _ _).2 rfl]at h;cases h
theorem yS(h:GB s.b t.b=U):JO s t=false:=Sl λe=>by subst e;rw[(Nn _ _).2 rfl]at h;cases h
theorem aa0(h:GB s.e t.e=U):JO s t=false:=Sl λe=>by subst e;rw[(Nn _ _).2 rfl]at h;cases h
theorem C6(a:s.t=t.t)(j:s.g=t.g)(f:s.count=t.count)(h:Hy s.i t.i=V)(c:Hy s.v t.v=V)(d:GB s.b t.b=V):JO s t=GB s.e t.e:=by
 cases e:GB s.e t.e
 ·exact aa0 e
 refine(Wt _ _).2 ?_;rw[<-AG.eta s, <-AG.eta t,a,j,f,(NZ _ _).1 h,(NZ _ _).1 c,(Nn _ _).1 d,(Nn _ _).1 e]
theorem K4(h:¬(J l:Int)=J m):GB l m=false:=mV λe=>h (by rw[e])
theorem H9(h:JO (l.getD k K) (m.getD k K)=U):GB l m=false:=mV λe=>by
 subst e;rw[(Wt _ _).2 rfl]at h;cases h
theorem yn(b:(J l:Int)=J m)(h:l.take k=m.take k)(a:J l<=k):GB l m=true:=(Nn _ _).2 (Xg h a b)
end
abbrev Yz(l m:List AG):AN:=CJ 173 [.N 0,.N 1] [AE l,AE m] (AC (GB l m))
abbrev bv(s t:AG):AN:=CJ 190 [Fw s 0,Fw t 4] (ID s++ID t) (AC (JO s t))
abbrev PZ(s:AG)(t:AG)(a:List AI):List AI:=AP s.i.k::AP s.v.k::AE s.b::AE s.e::AP t.i.k::AP t.v.k::AE t.b::AE t.e::a
theorem m6(s t)(f:∀m,AN.ok prog (Yz s.b m))(j:∀m,AN.ok prog (Yz s.e m)):AN.ok prog (bv s t):=by
  refine BP 52 func190 (PZ s t []) [(0,Fw s 0),(1,Fw t 4)] λG=>?_;refine B (AM G AB [0,1,2,3,4,5,6,7,8,16] (PZ s t [.C (Ct s 0),.C (Ct t 4)]) [(2,.P 8 0),(3,.P 9 0),(4,AC U)] λG=>B ?_);cases a:(s.t==t.t)
  · have n:=ne_of_beq_false a;refine AM G (CR (AS a (AS (b:=U) rfl Ag)) (Ad [(6,10,0),(1011,1011,0),(13,17,1),(1018,1018,1),(20,24,1),(1025,1025,1),(27,31,1),(1032,1032,1),(34,38,1),(1039,1039,1),(41,45,1),(1046,1046,1)])) (AH 8) (PZ s t []) [(4,AC U)] λG=>AT ?_;exact BU U G (AH 8) (B3 O)
  have n:=eq_of_beq a;cases c:(s.g==t.g)
  · have o:=ne_of_beq_false c;refine AM G (CR (AS a (AS c (AS (b:=U) rfl Ag))) (Ad [(6,10,0),(1011,1011,0),(13,17,1),(1018,1018,1),(20,24,2),(1025,1025,2),(27,31,2),(1032,1032,2),(34,38,2),(1039,1039,2),(41,45,2),(1046,1046,2)])) (AH 8) (PZ s t []) [(4,AC U)] λG=>AT ?_;exact BU U G (AH 8) (S0 O)
  have o:=eq_of_beq c;cases d:(s.count==t.count)
  · have p:=ne_of_beq_false d;refine AM G (CR (AS a (AS c (AS d (AS (b:=U) rfl Ag)))) (Ad [(6,10,0),(1011,1011,0),(13,17,1),(1018,1018,1),(20,24,2),(1025,1025,2),(27,31,3),(1032,1032,3),(34,38,3),(1039,1039,3),(41,45,3),(1046,1046,3)])) (AH 8) (PZ s t []) [(4,AC U)] λG=>AT ?_;exact BU U G (AH 8) (U8 O)
  have p:=eq_of_beq d;cases h:(Hy s.i t.i)
  · refine AM G (BH (AX 24 [0,4] (RX s.i t.i) BG) (AS a (AS c (AS d (AS h (AS (b:=U) rfl Ag))))) (Ad [(6,10,0),(1011,1011,0),(13,17,1),(1018,1018,1),(20,24,2),(1025,1025,2),(27,31,3),(1032,1032,3),(34,38,4),(1039,1039,4),(41,45,4),(1046,1046,4)])) (AH 8) (PZ s t []) [(4,AC U)] λG=>AT ?_;exact BU U G (AH 8) (O7 AY)
  cases k:(Hy s.v t.v)
  · refine AM G (BH (AX 24 [0,4] (RX s.i t.i) (AX 31 [1,5] (RX s.v t.v) BG)) (AS a (AS c (AS d (AS h (AS k (AS (b:=U) rfl Ag)))))) (Ad [(6,10,0),(1011,1011,0),(13,17,1),(1018,1018,1),(20,24,2),(1025,1025,2),(27,31,3),(1032,1032,3),(34,38,4),(1039,1039,4),(41,45,5),(1046,1046,5)])) (AH 8) (PZ s t []) [(4,AC U)] λG=>AT ?_;exact BU U G (AH 8) (uY AY)
  cases l:(GB s.b t.b)
  · refine AM G (BH (AX 24 [0,4] (RX s.i t.i) (AX 31 [1,5] (RX s.v t.v) (AX 38 [2,6] (f t.b) BG))) (AS a (AS c (AS d (AS h (AS k (AS l Ag)))))) (Ad [(6,10,0),(1011,1011,0),(13,17,1),(1018,1018,1),(20,24,2),(1025,1025,2),(27,31,3),(1032,1032,3),(34,38,4),(1039,1039,4),(41,45,5),(1046,1046,5)])) (AH 8) (PZ s t []) [(4,AC U)] λG=>AT ?_;exact BU U G (AH 8) (yS AY)
  refine AM G (BH (AX 24 [0,4] (RX s.i t.i) (AX 31 [1,5] (RX s.v t.v) (AX 38 [2,6] (f t.b) (AX 45 [3,7] (j t.e) BG)))) (AS a (AS c (AS d (AS h (AS k (AS l Ag)))))) (Ad [(6,10,0),(1011,1011,0),(13,17,1),(1018,1018,1),(20,24,2),(1025,1025,2),(27,31,3),(1032,1032,3),(34,38,4),(1039,1039,4),(41,45,5),(1046,1046,5)])) (AH 8) (PZ s t []) [(4,AC (GB s.e t.e))] λG=>AT ?_;exact BU (GB s.e t.e) G (AH 8) (C6 O O O AY AY AY)
theorem fD(l m)(h:∀s,s∈l->∀t,AN.ok prog (bv s t)):AN.ok prog (Yz l m):=by
  refine BP 27 func173 [AE l,AE m] [(0,.N 0),(1,.N 1)] λG=>?_;have n:J l<=9223372036854775807:=G.len 0 (d:=.M l) Au;refine B (BS G AB [(0,.N 0),(1,.N 1),(4,AC U)] λG=>B (B (AQ G AB [(10,AC ((J l:Int) !=(J m:Int)))] λG=>IP G (λj e=>?_) λj e=>?_)))
  ·
   refine Aq (B (B (BS G AB [(0,.N 0),(1,.N 1),(4,AC U),(5,A 0)] λG=>BN ?_)));refine DR (h:=Nat) (λk=>k<=J l/\l.take k=m.take k) (λk=>J l-k) (λk=>[AE l,AE m]) (λk=>[(0,.N 0),(1,.N 1),(4,AC U),(5,A k)]) 0 (by simp) (Ap.at G _ _) ?_;clear G;intro k o a w c G;refine B (B (AQ G AB [(14,AC (Y ((k:Int)<J l)))] λG=>DZ G (λi f=>?_) λi f=>?_))
   · refine wp_exit (Bd (Bd (DG (B (AQ G AB [(4,AC V)] λG=>AT ?_)))));exact BU V G [0,1] (yn O c.2 O)
   refine Aq (B (BN (B (JB G (Ai 8 [26,27,28,29,58,59,60,61] (h (l.getD k K) (QS O) (m.getD k K))) [0,0,3,7,0,0,48,112,255,511] [(26,.v (.bool !JO (l.getD k K) (m.getD k K)))] (CD k k (J l) (CD k k (J m) [])) (CE O (CE O Ay)) λG=>?_))));cases b:(!JO (l.getD k K) (m.getD k K))
   · have g:(JO (l.getD k K) (m.getD k K))=true:=(Eq.mp (Cp _) b);refine Bo G _ b (Aq (BL (Bi G AB [(5,A ((k:Int)+1))] [BC ((k:Int)+1)] (BA O) λG=>?_)));exact Ce G (k+1) (⟨O,Zy c.2 O O ((Wt _ _).1 AY)⟩) O [0,1]
   have g:(JO (l.getD k K) (m.getD k K))=false:=(Eq.mp (Cn _) b);refine Ba G _ b (B (AQ G AB [] λG=>AT (Cg (Ar (Ar (Cg (Ar ?_)))))));exact BU U G [0,1] (H9 AY)
  refine B (AQ G AB [] λG=>AT (Ar ?_));exact BU U G [0,1] (K4 O)
theorem P6(s):∀t,AN.ok prog (bv s t):=
 AG.ind (P:=λs=>∀(t:AG),AN.ok prog (bv s t)) (λk t i v c b e d f u=>m6 ⟨k,t,i,v,c,b,e⟩ u (λm=>fD b m λs a=>d s a) λm=>fD e m λs a=>f s a) s
theorem J2(l m):AN.ok prog (Yz l m):=fD l m λs _=>P6 s
theorem A9(c Mz)(l)(a d)(m):AN.ok prog (CJ 128 [Ao 0,Ao 3] [W c,W Mz,AE l,W a,W d,AE m] (AC (Y (c=a)&&(Y (Mz=d)&&GB l m)))):=by
  refine BP 24 func128 [W c,W Mz,AE l,W a,W d,AE m] [(0,Ao 0),(1,Ao 3)] λG=>?_;refine B (AM G AB [0,1,2,3,4,5,6,14] [W c,W Mz,AE l,W a,W d,AE m,.C (Al 0),.C (Al 3)] [(2,.P 6 0),(3,.P 7 0),(4,AC U)] λG=>B ?_);cases e:(Y (c=a))
  · have g:=EB e;refine AM G (BH (AX 4 [0,3] (VB c a) BG) (AS e (AS (b:=U) rfl Ag)) (Ad [(6,10,0),(1011,1011,0),(13,17,1),(1018,1018,1)])) (AH 6) [W c,W Mz,AE l,W a,W d,AE m] [(4,AC U)] λG=>AT ?_;exact Br G (AH 6)
  have g:=EC e;cases f:(Y (Mz=d))
  · have h:=EB f;refine AM G (BH (AX 4 [0,3] (VB c a) (AX 10 [1,4] (VB Mz d) BG)) (AS e (AS f Ag)) (Ad [(6,10,0),(1011,1011,0),(13,17,1),(1018,1018,1)])) (AH 6) [W c,W Mz,AE l,W a,W d,AE m] [(4,AC U)] λG=>AT ?_;exact Br G (AH 6)
  have h:=EC f;refine AM G (BH (AX 4 [0,3] (VB c a) (AX 10 [1,4] (VB Mz d) (AX 17 [2,5] (J2 l m) BG))) (AS e (AS f Ag)) (Ad [(6,10,0),(1011,1011,0),(13,17,1),(1018,1018,1)])) (AH 6) [W c,W Mz,AE l,W a,W d,AE m] [(4,AC (GB l m))] λG=>AT ?_;exact Br G (AH 6)
section
variable{p:BE}{l k:Int}(h:BZ p=V)(hl:Af l=V)
include h hl
end
section
variable{p:BE}{l:Int}
end
theorem Wx(c a)(b)(e)(d:As (J c) (J a) 5 e=V):AN.ok prog (CJ 139 [Ao 0,Dc e 3] ([W c,W a,AE b]++Em e) (A (AL c a 5 e))):=PV ⟨c,a,b⟩ e d
theorem Zd(c a)(b)(d:J c+J a+Ah b<=1048576):AN.ok prog ⟨90,[Ao 0],[W c,W a,AE b],[W c,W a,AE b,.L 3 (.C c),.L 3 (.C a),.Q (.M b)],Nb 3⟩:=ut ⟨c,a,b⟩ d
theorem jD(c a)(b)(d:Ah b<=1048576):AN.ok prog (CJ 89 [Ao 0] [W c,W a,AE b] (.T [A (DD ⟨c,a,b⟩ U).1,A (DD ⟨c,a,b⟩ U).2])):=y9 ⟨c,a,b⟩ d
section
variable{vs ars:List Int}{cx:Int}{s:AG}{d:Nat}{b:Bool}
theorem zZ(k:s.t=1):El (vs,ars) s cx=(vs.set s.g.toNat (AR (AR (vs.getD s.g.toNat 0) (AL vs ars 5 s.v)) cx),ars):=AZ k
theorem vb(k:s.t=2):El (vs,ars) s cx=(vs,ars.set s.g.toNat (AR (AR (AR (ars.getD s.g.toNat 0) (AL vs ars 5 s.v)) (AL vs ars 5 s.i)) cx)):=by unfold El;rw[AO O,AZ k]
theorem gb{q}(c:¬s.t=1)(a:¬s.t=2):El q s cx=q:=by unfold El;rw[AO c,AO a]
theorem iJ{q}(a:s.b=[])(c:s.e=[]):KI b (d+1) q cx s=El q s cx:=by rw[QQ,a,c];rfl
theorem K2{q}(k:s.t=3):KI V (d+1) q cx s=Bh V d (Bh V d q (AR cx (AL q.1 q.2 5 s.v)) s.b) (AR cx (AL (Bh V d q (AR cx (AL q.1 q.2 5 s.v)) s.b).1 (Bh V d q (AR cx (AL q.1 q.2 5 s.v)) s.b).2 5 s.v)) s.e:=by
 rw[QQ,gb O O];unfold Ik;simp only[AZ k,if_true]
theorem uU{q}(k:s.t=4)(a:s.e=[]):KI b (d+1) q cx s=Bh b d q cx s.b:=by
 rw[QQ,gb O O,a];unfold Ik;simp only[AO (show ¬s.t=3 by omega)]
 rfl
theorem Vi{q}{a}{k}(c:k<J a):Bh b d q cx (a.take (k+1))=KI b d (Bh b d q cx (a.take k)) cx (a.getD k K):=by
 unfold Bh;rw[Gr _ _ c,List.foldl_append,DU c];rfl
theorem ZH{j l d k}{c}(m:c.all (Ax j l (d+1))=V)(i:k<J c)(n:¬(c.getD k K).t=3):(c.getD k K).e=[]/\(¬(c.getD k K).t=4->(c.getD k K).b=[]):=by
 have g:=Bt.1 m _ (EL i);rw[<-DU (d:=K) i]at g;rw[Ax,Aj]at g;have a:=g.1;unfold Dn at a;by_cases f:(c.getD k K).t=4
 ·rw[AZ (.inr f),AZ f]at a
  simp only[Aj,decide_eq_true_eq]at a;exact⟨FM a.2.1.1.1.1,λh=>absurd f h⟩
 rw[AO O]at a;simp only[Aj,decide_eq_true_eq]at a;exact⟨FM a.1.1.2,λ_=>FM a.1.1.1⟩
section
variable{nv na d k:Nat}{ss:List AG}{q:Gt}{cx:Int}
theorem pS(e:ss.all (Ax nv na (d+1))=V)(c:k<J ss)(f:(ss.getD k K).t=1):Bh V (d+1) q cx (ss.take (k+1))=((Bh V (d+1) q cx (ss.take k)).1.set (ss.getD k K).g.toNat (AR (AR ((Bh V (d+1) q cx (ss.take k)).1.getD (ss.getD k K).g.toNat 0) (AL (Bh V (d+1) q cx (ss.take k)).1 (Bh V (d+1) q cx (ss.take k)).2 5 (ss.getD k K).v)) cx),(Bh V (d+1) q cx (ss.take k)).2):=by
 have a:=ZH e c O;rw[Vi c,iJ (a.2 O) a.1];exact zZ f
theorem lB(e:ss.all (Ax nv na (d+1))=V)(c:k<J ss)(f:(ss.getD k K).t=2):Bh V (d+1) q cx (ss.take (k+1))=((Bh V (d+1) q cx (ss.take k)).1,(Bh V (d+1) q cx (ss.take k)).2.set (ss.getD k K).g.toNat (AR (AR (AR ((Bh V (d+1) q cx (ss.take k)).2.getD (ss.getD k K).g.toNat 0) (AL (Bh V (d+1) q cx (ss.take k)).1 (Bh V (d+1) q cx (ss.take k)).2 5 (ss.getD k K).v)) (AL (Bh V (d+1) q cx (ss.take k)).1 (Bh V (d+1) q cx (ss.take k)).2 5 (ss.getD k K).i)) cx)):=by
 have a:=ZH e c O;rw[Vi c,iJ (a.2 O) a.1];exact vb f
theorem sq(a:k<J ss)(c:(ss.getD k K).t=3):Bh V (d+1) q cx (ss.take (k+1))=Bh V d (Bh V d (Bh V (d+1) q cx (ss.take k)) (AR cx (AL (Bh V (d+1) q cx (ss.take k)).1 (Bh V (d+1) q cx (ss.take k)).2 5 (ss.getD k K).v)) (ss.getD k K).b) (AR cx (AL (Bh V d (Bh V (d+1) q cx (ss.take k)) (AR cx (AL (Bh V (d+1) q cx (ss.take k)).1 (Bh V (d+1) q cx (ss.take k)).2 5 (ss.getD k K).v)) (ss.getD k K).b).1 (Bh V d (Bh V (d+1) q cx (ss.take k)) (AR cx (AL (Bh V (d+1) q cx (ss.take k)).1 (Bh V (d+1) q cx (ss.take k)).2 5 (ss.getD k K).v)) (ss.getD k K).b).2 5 (ss.getD k K).v)) (ss.getD k K).e:=by
 rw[Vi a,K2 c]
theorem kt(c:ss.all (Ax nv na (d+1))=V)(a:k<J ss)(e:(ss.getD k K).t=4):Bh V (d+1) q cx (ss.take (k+1))=Bh V d (Bh V (d+1) q cx (ss.take k)) cx (ss.getD k K).b:=by
 rw[Vi a,uU e (ZH c a O).1]
theorem ti(g:ss.all (Ax nv na (d+1))=V)(a:k<J ss)(i:¬(ss.getD k K).t=1)(e:¬(ss.getD k K).t=2)(f:¬(ss.getD k K).t=3)(h:¬(ss.getD k K).t=4):Bh V (d+1) q cx (ss.take (k+1))=Bh V (d+1) q cx (ss.take k):=by
 have c:=ZH g a f;rw[Vi a,iJ (c.2 h) c.1,gb i e]
theorem mu(a:J ss<=k):Bh V (d+1) q cx ss=Bh V (d+1) q cx (ss.take k):=by rw[Dq a]
theorem YN{q r}{s}(h:Fd q r)(c:J q.1=nv)(a:J q.2=na)(e:EE nv na s=V)(k:¬s.t=4):As (J r.1) (J r.2) 5 s.v=true:=by rw[h.1,h.2,c,a];exact Fy e k
theorem yx{q r}{s}(h:Fd q r)(c:J q.1=nv)(a:J q.2=na)(e:EE nv na s=V)(k:s.t=2):As (J r.1) (J r.2) 5 s.i=true:=by rw[h.1,h.2,c,a];exact WX e k
end
end
abbrev fc(c a:List Int)(d:Nat)(f b:List AG)(e:Int):AN:=⟨127,[Ao 0,.N 3,A e],[.L 3 (.C c),.L 3 (.C a),AE f,AE b],[.L 3 (.C (Bh V d (c,a) e b).1),.L 3 (.C (Bh V d (c,a) e b).2),AE f,AE b],.T []⟩
abbrev NU(d:Nat)(c:List AG)(f:List Int)(a:List Int)(e:Int)(k:Nat):=Bh V d (Bh V (d+1) (f,a) e (Ae k c)) (AR e (AL (Bh V (d+1) (f,a) e (Ae k c)).1 (Bh V (d+1) (f,a) e (Ae k c)).2 5 (c.getD k K).v)) (c.getD k K).b
abbrev Do(d:Nat)(b:List AG)(c:List Int)(a:List Int)(e:Int)(k:Nat):=Bh V (d+1) (c,a) e (Ae k b)
abbrev Xl(d:Nat)(b:List AG)(f:List Int)(a:List Int)(c:Int)(k:Nat):=Bh V d (NU d b f a c k) (AR c (AL (NU d b f a c k).1 (NU d b f a c k).2 5 (b.getD k K).v)) (b.getD k K).e
abbrev SF(b:Int)(k:Nat)(a:List (Nat×AA)):List (Nat×AA):=(1,.N 3)::(2,A b)::(3,.P 4 0)::(6,A (k:Int))::a
theorem qW(x y d)(n f)(z:∀j c F h,0<J f->J j=x->J c=y->F.all (Ax x y d)=V->AN.ok prog (fc j c d n F h))
    (j c) (h) (s:J j=x) (r:J c=y) (m:f.all (Ax x y (d+1))=V):AN.ok prog (fc j c (d+1) n f h):=by
  refine BP 94 func127 [.L 3 (D.C j),.L 3 (D.C c),AE n,AE f] [(0,Ao 0),(1,.N 3),(2,A h)] λG=>?_;have E:J f<=9223372036854775807:=G.len 3 (d:=.M f) Au;refine B (AM G AB (AH 5) [.L 3 (D.C j),.L 3 (D.C c),AE n,AE f,.C (Al 0)] [(1,.N 3),(2,A h),(3,.P 4 0)] λG=>B (BS G AB [(1,.N 3),(2,A h),(3,.P 4 0),(6,A 0)] λG=>BN ?_));refine DR (h:=Nat) (λk=>k<=J f) (λk=>J f-k) (λk=>[.L 3 (.C (Bh V (d+1) (j,c) h (f.take k)).1),.L 3 (.C (Bh V (d+1) (j,c) h (f.take k)).2),AE n,AE f,.C (Al 0)]) (λk=>[(1,.N 3),(2,A h),(3,.P 4 0),(6,A k)]) 0 O (Ap.at G _ _) ?_;clear G;intro k ρ a w hp G;replace G:=Ap.at G [.L 3 (D.C (Do d f j c h k).1),.L 3 (D.C (Do d f j c h k).2),AE n,AE f,.C (Al 0)] (SF h k []);have l:Fd (j,c) (Bh V (d+1) (j,c) h (f.take k)):=SS;refine B (B (AQ G AB [(11,AC (Y ((k:Int)<J f)))] λG=>DZ G (λX L=>?_) λX L=>?_))
  · refine wp_exit (Bd (Bd (DG ?_)));exact Jh G (AH 4) (by show _=BM (AH 4) [.L 3 (D.C (Bh V (d+1) (j,c) h f).1),.L 3 (D.C (Bh V (d+1) (j,c) h f).2),AE n,AE f];have o:((Bh V (d+1) (j,c) h f).1:List Int)=((Do d f j c h k).1):=(congrArg Prod.fst (mu O));have p:((Bh V (d+1) (j,c) h f).2:List Int)=((Do d f j c h k).2):=(congrArg Prod.snd (mu O));(first|rw[o,p]|simp only[o,p])<;>rfl)
  refine Aq (B (BN (B (CT G AB [0,1,2,3,4,29,30,31,32,37] [.L 3 (D.C (Do d f j c h k).1),.L 3 (D.C (Do d f j c h k).2),AE n,AE f,.C (Al 0),AP (f.getD k K).i.k,AP (f.getD k K).v.k,AE (f.getD k K).b,AE (f.getD k K).e,.C (Ct (f.getD k K) 5)] (SF h k [(7,.P 9 0)]) (CD k k (J f) []) (CE O Ay) λG=>B (AQ G AB [(19,A (f.getD k K).t)] λG=>BN (B (AQ G AB [(20,AC ((f.getD k K).t==1))] λG=>Cu G (λR M=>?_) λR M=>?_)))))))
  ·
   refine B (AQ G AB [(40,AC ((f.getD k K).t==2))] λG=>Cu G (λS N=>?_) λS N=>?_)
   ·
    refine B (AQ G AB [(65,AC ((f.getD k K).t==3))] λG=>Cu G (λH T=>?_) λH T=>?_)
    ·
     refine B (AQ G AB [(87,AC ((f.getD k K).t==4))] λG=>Cu G (λP Q=>?_) λP Q=>?_)
     · refine Aq (BL (BL (CT G AB (AH 5) [.L 3 (D.C (Do d f j c h k).1),.L 3 (D.C (Do d f j c h k).2),AE n,AE f,.C (Al 0)] [(1,.N 3),(2,A h),(3,.P 4 0),(6,A ((k:Int)+1))] [BC ((k:Int)+1)] (BA O) λG=>?_)));exact Ce G (k+1) O O (AH 5) (by have o:((Bh V (d+1) (j,c) h (Ae (k+1) f)).1:List Int)=((Do d f j c h k).1):=(congrArg Prod.fst (ti m O O O O O));have p:((Bh V (d+1) (j,c) h (Ae (k+1) f)).2:List Int)=((Do d f j c h k).2):=(congrArg Prod.snd (ti m O O O O O));(first|rw[o,p]|simp only[o,p])<;>rfl)
     refine AM G (Ai 4 [0,1,2,7] (z ((Do d f j c h k).1) ((Do d f j c h k).2) ((f.getD k K).b) h O (l.1.trans s) (l.2.trans r) ((GV m O).2.1))) (AH 5) [.L 3 (D.C (Bh V d (Do d f j c h k) h (f.getD k K).b).1),.L 3 (D.C (Bh V d (Do d f j c h k) h (f.getD k K).b).2),AE n,AE f,.C (Al 0)] (SF h k []) λG=>BL (BL (Bi G AB [(6,A ((k:Int)+1))] [BC ((k:Int)+1)] (BA O) λG=>?_));exact Ce G (k+1) O O (AH 5) (by have o:((Bh V (d+1) (j,c) h (Ae (k+1) f)).1:List Int)=((Bh V d (Do d f j c h k) h (f.getD k K).b).1):=(congrArg Prod.fst (kt m O O));have p:((Bh V (d+1) (j,c) h (Ae (k+1) f)).2:List Int)=((Bh V d (Do d f j c h k) h (f.getD k K).b).2):=(congrArg Prod.snd (kt m O O));(first|rw[o,p]|simp only[o,p])<;>rfl)
    refine B (Fr G (BH (AX 7 [0,1,2,6] (AN.lend (Wx ((Do d f j c h k).1) ((Do d f j c h k).2) n ((f.getD k K).v) (YN l s r (GV m O).1 O)) [.L 3,.L 3]) (AX 9 [0,1,2,7] (z ((Do d f j c h k).1) ((Do d f j c h k).2) ((f.getD k K).b) (AR h (AL (Do d f j c h k).1 (Do d f j c h k).2 5 (f.getD k K).v)) O (l.1.trans s) (l.2.trans r) ((GV m O).2.1)) BG)) Ag []) [0,0,2,0,0,0,32,112,248,511] (AH 10) [.L 3 (D.C (NU d f j c h k).1),.L 3 (D.C (NU d f j c h k).2),AE n,AE f,.C (Al 0),AP (f.getD k K).i.k,AP (f.getD k K).v.k,AE (f.getD k K).b,AE (f.getD k K).e,.C (Ct (f.getD k K) 5)] (SF h k [(7,.P 9 0)]) λG=>Fr G (BH (AX 7 [0,1,2,6] (AN.lend (Wx ((NU d f j c h k).1) ((NU d f j c h k).2) n ((f.getD k K).v) (YN (l.trans SS) s r (GV m O).1 O)) [.L 3,.L 3]) (AX 9 [0,1,2,8] (z ((NU d f j c h k).1) ((NU d f j c h k).2) ((f.getD k K).e) (AR h (AL (NU d f j c h k).1 (NU d f j c h k).2 5 (f.getD k K).v)) O ((l.trans SS).1.trans s) ((l.trans SS).2.trans r) ((GV m O).2.2)) BG)) Ag []) [0,0,2,0,0,0,32,112,248,511] (AH 5) [.L 3 (D.C (Xl d f j c h k).1),.L 3 (D.C (Xl d f j c h k).2),AE n,AE f,.C (Al 0)] (SF h k []) λG=>BL (BL (Bi G AB [(6,A ((k:Int)+1))] [BC ((k:Int)+1)] (BA O) λG=>?_)));exact Ce G (k+1) O O (AH 5) (by have o:((Bh V (d+1) (j,c) h (Ae (k+1) f)).1:List Int)=((Xl d f j c h k).1):=(congrArg Prod.fst (sq O O));have p:((Bh V (d+1) (j,c) h (Ae (k+1) f)).2:List Int)=((Xl d f j c h k).2):=(congrArg Prod.snd (sq O O));(first|rw[o,p]|simp only[o,p])<;>rfl)
   refine Df G (BH (AX 13 [0,1,2,6] (AN.lend (Wx ((Do d f j c h k).1) ((Do d f j c h k).2) n ((f.getD k K).v) (YN l s r (GV m O).1 O)) [.L 3,.L 3]) (AX 18 [0,1,2,5] (AN.lend (Wx ((Do d f j c h k).1) ((Do d f j c h k).2) n ((f.getD k K).i) (yx l s r (GV m O).1 O)) [.L 3,.L 3]) BG)) Ag []) [0,1,0,4,0,16,0,64,240,496,0,0,2048,7168,16368,0,0,65536,244736,524272,0,2097136,4194303,8388607] (AH 5) [.L 3 (D.C (Do d f j c h k).1),.L 3 (D.C ((Do d f j c h k).2.set (f.getD k K).g.toNat (AR (AR (AR ((Do d f j c h k).2.getD (f.getD k K).g.toNat 0) (AL (Do d f j c h k).1 (Do d f j c h k).2 5 (f.getD k K).v)) (AL (Do d f j c h k).1 (Do d f j c h k).2 5 (f.getD k K).i)) h))),AE n,AE f,.C (Al 0)] (SF h k []) (CD ((f.getD k K).g) ((f.getD k K).g.toNat) ((Bh V (d+(1:Nat)) (j,c) h (Ae k f)).2.length) (CD ((f.getD k K).g) ((f.getD k K).g.toNat) ((Bh V (d+(1:Nat)) (j,c) h (Ae k f)).2.length) [])) (CE (by have u:=Qp (GV (k:=k) m O).1 O;have C:=l.2.trans r;omega) (CE (by have u:=Qp (GV (k:=k) m O).1 O;have C:=l.2.trans r;omega) Ay)) λG=>BL (BL (Bi G AB [(6,A ((k:Int)+1))] [BC ((k:Int)+1)] (BA O) λG=>?_));exact Ce G (k+1) O O (AH 5) (by have p:((Bh V (d+1) (j,c) h (Ae (k+1) f)).2:List Int)=((Do d f j c h k).2.set (f.getD k K).g.toNat (AR (AR (AR ((Do d f j c h k).2.getD (f.getD k K).g.toNat 0) (AL (Do d f j c h k).1 (Do d f j c h k).2 5 (f.getD k K).v)) (AL (Do d f j c h k).1 (Do d f j c h k).2 5 (f.getD k K).i)) h)):=(congrArg Prod.snd (lB m O O));have u:=lB (q:=(j,c)) (cx:=h) m (show k<_ by omega) O;rw[p,u]<;>rfl)
  refine Df G (Ai 13 [0,1,2,6] (AN.lend (Wx ((Do d f j c h k).1) ((Do d f j c h k).2) n ((f.getD k K).v) (YN l s r (GV m O).1 O)) [.L 3,.L 3])) [0,1,0,4,0,16,0,64,240,496,0,0,2048,7168,16368,0,65520,131071,262143] (AH 5) [.L 3 (D.C ((Do d f j c h k).1.set (f.getD k K).g.toNat (AR (AR ((Do d f j c h k).1.getD (f.getD k K).g.toNat 0) (AL (Do d f j c h k).1 (Do d f j c h k).2 5 (f.getD k K).v)) h))),.L 3 (D.C (Do d f j c h k).2),AE n,AE f,.C (Al 0)] (SF h k []) (CD ((f.getD k K).g) ((f.getD k K).g.toNat) ((Bh V (d+(1:Nat)) (j,c) h (Ae k f)).1.length) (CD ((f.getD k K).g) ((f.getD k K).g.toNat) ((Bh V (d+(1:Nat)) (j,c) h (Ae k f)).1.length) [])) (CE (by have u:=PH (GV (k:=k) m O).1 O;have C:=l.1.trans s;omega) (CE (by have u:=PH (GV (k:=k) m O).1 O;have C:=l.1.trans s;omega) Ay)) λG=>BL (BL (Bi G AB [(6,A ((k:Int)+1))] [BC ((k:Int)+1)] (BA O) λG=>?_));exact Ce G (k+1) O O (AH 5) (by have o:((Bh V (d+1) (j,c) h (Ae (k+1) f)).1:List Int)=((Do d f j c h k).1.set (f.getD k K).g.toNat (AR (AR ((Do d f j c h k).1.getD (f.getD k K).g.toNat 0) (AL (Do d f j c h k).1 (Do d f j c h k).2 5 (f.getD k K).v)) h)):=(congrArg Prod.fst (pS m O O));have u:=pS (q:=(j,c)) (cx:=h) m (show k<_ by omega) O;rw[o,u]<;>rfl)
theorem zK(g i)(j):∀d c b e f,J c=g->J b=i->e.all (Ax g i d)=V->AN.ok prog (fc c b d j e f):=by
 intro d;induction d with
 | zero =>
  intro c b e f l k m
  have t:e=[]:=by
   cases e with
   |nil=>rfl
   |cons a r=>simp[Ax]at m
  subst t;exact qW g i 0 j [] (λ_ _ _ _ h=>absurd h At) c b f l k rfl
 |succ d o=>intro c b e f l k m;exact qW g i d j e (λc b s f _ p q n=>o c b s f p q n) c b f l k m
theorem vx(c a)(b)(f:b.all (Ax (J c) (J a) 5)=V):AN.ok prog ⟨127,[Ao 0,.N 2,A 0],[.L 3 (.C c),.L 3 (.C a),AE b],[.L 3 (.C (Bh V 5 (c,a) 0 b).1),.L 3 (.C (Bh V 5 (c,a) 0 b).2),AE b],.T []⟩:=
 AN.dup (S:=[.L 3 (.C c),.L 3 (.C a),AE b]) (S':=[.L 3 (.C (Bh V 5 (c,a) 0 b).1),.L 3 (.C (Bh V 5 (c,a) 0 b).2),AE b]) (d:=.M b) (i:=2) (zK _ _ b 5 c a b 0 rfl rfl f) rfl rfl rfl (λe h=>by simp only[AA.vals,AA.val];rw[show e 3=e 2 from h]) rfl
def JL(p:BE):Bool:=BZ p&&Y ((DD ⟨(MJ p).1,(MJ p).2,p.b⟩ U).1=0)
def JW(p:BE):BE:=if JL p=V then⟨(MJ p).1,(MJ p).2,p.b⟩else⟨[],[],[]⟩
theorem er{p}(h:BZ p=V):J p.s+J p.r<=14:=by
 unfold BZ Gf at h;simp only[Aj,decide_eq_true_eq]at h;omega
section
variable{p:BE}{q:Gt}{b:List AG}{X:Gt}
theorem WH(h:(Y (X.1=q.1)&&(Y (X.2=q.2)&&GB b b))=V):X=q:=by
 simp only[Aj,decide_eq_true_eq]at h;exact Prod.ext h.1 h.2.1
theorem uk(h:(Y (X.1=q.1)&&(Y (X.2=q.2)&&GB b b))=U):¬X=q:=λe=>by
 subst e;rw[(Nn b b).2 rfl]at h;simp at h
theorem O1{f}(e:BZ p=V)(h:Jf p.b (p.s,p.r) q)(c:¬Bh f 5 q 0 p.b=q):100-Nw (Bh f 5 q 0 p.b)<100-Nw q:=by
 have a:=bx (f:=f) h;have i:=pt SS h.2.1 a.2.1 io c;have d:=tG a.2.1;have g:=er e;rw[a.1.1,a.1.2]at d;simp only at d;omega
theorem N8(c:p.size<=1048576)(h:Jf p.b (p.s,p.r) q):J q.1+J q.2+Ah p.b<=1048576:=by
 have a:=h.1.1;have d:=h.1.2;unfold BE.size at c;simp only at a d;omega
theorem X9(a:BZ p=V)(h:Jf p.b (p.s,p.r) q):p.b.all (Ax (J q.1) (J q.2) 5)=true:=by
 rw[h.1.1,h.1.2];exact(QR a).1
theorem qk(h:BZ p=U):JL p=false:=by unfold JL;rw[h];rfl
theorem oA(a:BZ p=V)(h:Jf p.b (p.s,p.r) q)(c:Bh V 5 q 0 p.b=q):JL p=Y ((DD ⟨q.1,q.2,p.b⟩ U).1=0):=by
 unfold JL;rw[a,lp a (er a) h c];rfl
theorem qh(h:JL p=U):JW p=⟨[],[],[]⟩:=by unfold JW;rw[h];rfl
theorem ae5(a:BZ p=V)(h:Jf p.b (p.s,p.r) q)(d:Bh V 5 q 0 p.b=q)(c:JL p=V):JW p=⟨q.1,q.2,p.b⟩:=by unfold JW;rw[c,lp a (er a) h d];rfl
theorem oU(d:BZ p=V)(h:Jf p.b (p.s,p.r) q)(a:Bh V 5 q 0 p.b=q)(c:(DD ⟨q.1,q.2,p.b⟩ U).1=0):JL p=true:=by rw[oA d h a];exact decide_eq_true c
theorem oC(d:BZ p=V)(h:Jf p.b (p.s,p.r) q)(a:Bh V 5 q 0 p.b=q)(c:¬(DD ⟨q.1,q.2,p.b⟩ U).1=0):JL p=false:=by rw[oA d h a];exact decide_eq_false c
end
abbrev Th(p:BE):List AI:=[W p.s,W p.r,AE p.b,.L 3 (D.C (JW p).s),.L 3 (D.C (JW p).r),.Q (D.M (JW p).b)]
abbrev Qw:AI:=.C [.v (.slice I 0 0),.v (.slice I 0 0),.v (.slice I 0 0)]
abbrev SW:AI:=.C [.N 4,.N 5,.F 6]
abbrev Ph(p:BE)(q:Gt)(a:List AI):List AI:=.L 3 (D.C q.1)::.L 3 (D.C q.2)::.Q (D.M p.b)::a
abbrev NM(a:List (Nat×AA)):List (Nat×AA):=(2,.P 3 0)::(3,AC U)::(4,.P 7 0)::a
abbrev KU(p:BE)(a:List AI):List AI:=W p.s::W p.r::AE p.b::a
theorem xE(p)(h:p.size<=1048576):AN.ok prog ⟨87,[Ao 0],Be p,Be p++Pg (JW p),.T [Nb 3,AC (JL p)]⟩:=by
  refine BP 33 func87 (KU p []) [(0,Ao 0)] λG=>?_
  have m:J p.s<=1048576/\(J p.r)<=1048576/\Ah p.b<=1048576:=by unfold BE.size at h;omega
  refine B (AM G AB [0,1,2,3,11] (KU p [.C (Al 0),Qw]) [(1,.P 3 0),(2,.P 4 0),(3,AC U)] λG=>B (B (AQ G (Ai 1 [0,1,2] (Zf p O)) [(10,.v (.bool !BZ p))] λG=>?_)));cases g:(!BZ p)
  ·
   have j:(BZ p)=true:=(Eq.mp (Cp _) g);refine Bo G _ g (Aq (B (AM G (Ai 1 [0,1,2] (Zd p.s p.r p.b Ab)) [0,1,2,4,13,14,15,21] (KU p [Qw,.L 3 (D.C p.s),.L 3 (D.C p.r),.Q (D.M p.b),SW]) (NM []) λG=>B (BN ?_))));refine DR (h:=Gt) (λq=>Jf p.b (p.s,p.r) q) (λq=>100-Nw q) (λq=>(KU p [Qw,.L 3 (.C q.1),.L 3 (.C q.2),.Q (D.M p.b),SW])) (λq=>(NM [])) ((p.s,p.r)) (de (dp AY)) (Ap.at G _ _) ?_;clear G;intro q e a w n G;replace G:=Ap.at G (KU p (Qw::(Ph p q [SW]))) (NM []);refine BN (B (AM G (Ai 1 [4,5,6] (AN.lend (Zd q.1 q.2 p.b (N8 h AY)) [.L 3,.L 3,.Q])) [0,1,2,3,4,5,6,7,16,17,18,24] (KU p (Qw::(Ph p q (SW::(Ph p q [.C [.N 8,.N 9,.F 10]]))))) (NM [(5,.P 11 0)]) λG=>B (AM G (Ai 3 [8,9,10] (AN.lend (vx q.1 q.2 p.b (X9 AY AY)) [.no,.no,.Q])) (AH 12) (KU p (Qw::(Ph p q [SW,.L 3 (D.C (Bh V 5 q 0 p.b).1),.L 3 (D.C (Bh V 5 q 0 p.b).2),.Q (D.M p.b),.C [.N 8,.N 9,.F 10]]))) (NM [(5,.P 11 0)]) λG=>B (B (BS G (Ai 2 [8,9,10,4,5,6] (AN.lend (A9 ((Bh V 5 q 0 p.b).1) ((Bh V 5 q 0 p.b).2) p.b q.1 q.2 p.b) [.L 3,.L 3,.Q,.L 3,.L 3,.Q])) (NM [(5,.P 11 0),(22,AC (Y ((Bh V 5 q 0 p.b).1=q.1)&&(Y ((Bh V 5 q 0 p.b).2=q.2)&&GB p.b p.b)))]) λG=>?_)))));cases f:(Y ((Bh V (5:Nat) q (0:Int) p.b).1=q.1)&&(Y ((Bh V (5:Nat) q (0:Int) p.b).2=q.2)&&GB p.b p.b))
   · have k:(¬((Bh V 5 q 0 p.b).1=q.1))\/((¬((Bh V 5 q 0 p.b).2=q.2))\/((GB p.b p.b)=U)):=Or.imp (λc=>of_decide_eq_false c) (λc=>Or.imp (λc=>of_decide_eq_false c) (λc=>(c)) (HW.1 c)) (HW.1 f);refine Bo G _ f (Aq (AM G AB [0,1,2,3,7,8,9,10] (KU p [Qw,.C [.N 5,.N 6,.F 7],.L 3 (D.C (Bh V 5 q 0 p.b).1),.L 3 (D.C (Bh V 5 q 0 p.b).2),.Q (D.M p.b)]) [(2,.P 3 0),(3,AC U),(4,.P 4 0)] λG=>BL ?_));exact Ce G (Bh V 5 q 0 p.b) (bx AY) (O1 AY AY (uk AY)) [0,1,2,3,5,6,7,4]
   have k:((Bh V 5 q 0 p.b).1=q.1)/\(((Bh V 5 q 0 p.b).2=q.2)/\((GB p.b p.b)=V)):=And.imp (λc=>of_decide_eq_true c) (λc=>And.imp (λc=>of_decide_eq_true c) (λc=>(c)) (Gy.1 c)) (Gy.1 f);refine Ba G _ f (wp_exit (Bd ?_));refine yF Au ?_;refine Bd (DG (B (AM G (Ai 1 [4,5,6] (AN.lend (jD q.1 q.2 p.b O) [.L 3,.L 3,.Q])) (AH 8) (KU p (Qw::(Ph p q [SW]))) (NM [(6,A (DD (BE.mk q.1 q.2 p.b) U).1)]) λG=>B (B (AQ G AB [(30,AC ((DD (BE.mk q.1 q.2 p.b) U).1 !=0))] λG=>IP G (λi l=>?_) λi l=>?_)))))
   · refine Aq (B (AM G AB (AH 7) (KU p (SW::(Ph p q []))) [(2,.P 3 0),(3,AC V)] λG=>AT ?_));exact Cr (.T [.agg [.N 4,.N 5,.F 6],AC V]) G [0,1,2,4,5,6] (by have d:(JL p:Bool)=(V):=(oU AY AY (WH AY) AY);(first|rw[d]|simp only[d])<;>rfl) (by show _=BM [0,1,2,4,5,6] (Th p);unfold Th;rw[ae5 AY AY (WH AY) (oU AY AY (WH AY) AY)]<;>rfl)
   refine B (BS G AB (NM []) λG=>AT (Ar ?_));obtain⟨e,G⟩:=G.nil 8 3 (.C []) 1 (KU p (.C [.N 8,AK,AK]::(Ph p q [.C [.N 4,.N 5,.F 6]]))) (NM []);obtain⟨e,G⟩:=G.nil 9 3 (.C []) 1 (KU p (.C [.N 8,.N 9,AK]::(Ph p q [.C [.N 4,.N 5,.F 6],.L 3 (D.C [])]))) (NM []);obtain⟨e,G⟩:=G.nilT 10 (.M []) (KU p (.C [.N 8,.N 9,.F 10]::(Ph p q [.C [.N 4,.N 5,.F 6],.L 3 (D.C []),.L 3 (D.C [])]))) (NM []);exact Cr (.T [.agg [.N 8,.N 9,.F 10],AC U]) G [0,1,2,8,9,10] (by have d:(JL p:Bool)=(U):=(oC AY AY (WH AY) AY);(first|rw[d]|simp only[d])<;>rfl) (by show _=BM [0,1,2,8,9,10] (Th p);unfold Th;rw[qh (oC AY AY (WH AY) AY)]<;>rfl)
  have j:(BZ p)=false:=(Eq.mp (Cn _) g);refine Ba G _ g (B (BS G AB [(1,.P 3 0),(2,.P 4 0),(3,AC U)] λG=>AT (Ar ?_)));obtain⟨e,G⟩:=G.nil 5 3 (.C []) 1 (KU p [.C (Al 0),.C [.N 5,AK,AK]]) [(1,.P 3 0),(2,.P 4 0),(3,AC U)];obtain⟨e,G⟩:=G.nil 6 3 (.C []) 1 (KU p [.C (Al 0),.C [.N 5,.N 6,AK],.L 3 (D.C [])]) [(1,.P 3 0),(2,.P 4 0),(3,AC U)];obtain⟨e,G⟩:=G.nilT 7 (.M []) (KU p [.C (Al 0),.C [.N 5,.N 6,.F 7],.L 3 (D.C []),.L 3 (D.C [])]) [(1,.P 3 0),(2,.P 4 0),(3,AC U)];exact Cr (.T [.agg [.N 5,.N 6,.F 7],AC U]) G [0,1,2,5,6,7] (by have d:(JL p:Bool)=(U):=(qk AY);(first|rw[d]|simp only[d])<;>rfl) (by show _=BM [0,1,2,5,6,7] (Th p);unfold Th;rw[qh (qk AY)]<;>rfl)
theorem fk{a b}(d:Af a=V)(c:Af b=V)(h:Bb a b):(b<=1->a<=1)/\(b=0->a=0)/\(Dk a=V->Dk b=V):=by
 unfold Af at d c;simp only[Aj,decide_eq_true_eq]at d c;have e:a=0\/a=1\/a=2\/a=3:=O;have f:b=0\/b=1\/b=2\/b=3:=O;unfold Bb Ck at h;rcases e with rfl|rfl|rfl|rfl<;>rcases f with rfl|rfl|rfl|rfl<;>revert h<;>decide+kernel
section
variable{vs ars:List Int}(hv:vs.all Af=V)(ha:ars.all Af=V)
include hv ha
end
def Dv(a b:List Int):Prop:=J a<=J b/\∀i,i<J a->b.getD i 0=a.getD i 0
theorem Dv.refl(a):Dv a a:=⟨BR _,λ_ _=>rfl⟩
theorem Dv.trans{a b c}(h:Dv a b)(k:Dv b c):Dv a c:=⟨DO h.1 k.1,λi d=>(k.2 i (IM d h.1)).trans (h.2 i d)⟩
theorem Dv.app(a b):Dv a (a++b):=⟨At,λi c=>by simp[Bu,Fb c]⟩
theorem Dv.at{a b c}{x}(h:Dv (a++x::b) c):c.getD (J a) 0=x:=by
 rw[h.2 (J a) At];simp[Bu]
mutual
theorem Vj(ars:List Int)(pc:Int):∀(e:AF) (s:GD),Dv s.1 (AD ars pc e s).1.1
 |⟨k,v,ks⟩,s=>by
  have h:=gO ars pc ks s;rw[AD];split
  ·exact h.trans (Dv.app _ _)
  exact h
theorem gO(ars:List Int)(pc:Int):∀(ks:List AF) (s:GD),Dv s.1 (Cw ars pc ks s).1.1
 |[],s=>Dv.refl _
 |e::t,s=>by rw[Cw];exact(Vj ars pc e s).trans (gO ars pc t _)
end
mutual
theorem gj(ars:List Int):∀(s:AG) (m pc:Int) (x:GD),Dv x.1 (CM ars s m pc x).1
 | ⟨k, t, i, v, c, b, e⟩, m, pc, x => by
  have h:=Vj ars pc v x;rw[CM];split
  ·exact LW ars b m pc (x.1,[])
  split
  ·split
   ·refine(h.trans ?_).trans ((LW ars b _ _ _).trans (LW ars e _ _ _))
    exact(Dv.app _ _).trans (Dv.app _ _)
   exact h.trans ((LW ars b m _ ((AD ars pc v x).1.1,[])).trans (LW ars e m _ (_,[])))
  split
  ·exact h
  split
  ·exact h
  split
  ·exact h.trans (Dv.app _ _)
  exact h
theorem LW(ars:List Int):∀(ss:List AG) (m pc:Int) (x:GD),Dv x.1 (Av ars ss m pc x).1
 |[],_,_,x=>Dv.refl _
 |s::r,m,pc,x=>by rw[Av];exact(gj ars s m pc x).trans (LW ars r m pc _)
end
theorem Ng{c f ars}{j}(h:Dv c f):∀d e,As (J c) j d e=V->AL f ars d e=AL c ars d e
 |0,_,b=>by simp[As]at b
 | d + 1, e, b => by
  have i:Fm f ars e=Fm c ars e:=by
   unfold Fm;split
   ·rename_i k;exact h.2 _ (Lw b k).2.2
   rfl
  rw[As]at b;simp only[Aj,Bt]at b;rw[AL,AL,i,qx e.k _ λk g=>Ng h d k (b.1.2 k g)]
theorem ki{g a}{b f}{e}{c d}(k:c<=d)(h:As b f c e=V):AL g a d e=AL g a c e:=by
 induction d with
 |zero=>rw[show c=0 by omega]
 |succ d j=>
  rcases Du c (d+1)with i|i
  ·rw[nH b f d e (dz O h),j O]
  rw[show c=d+1 by omega]
section
variable{VS ars:List Int}(hv:VS.all Af=V)(ha:ars.all Af=V)
theorem oT{f:AF->Int}{b}:∀(d:List AF) (a:Int),Bb a b->(∀k∈d,Bb (f k) b)->Bb (d.foldl (λa k=>AR a (f k)) a) b
 |[],_,h,_=>h
 |k::r,a,h,c=>oT r (AR a (f k)) (Pk h (c k EI)) λx e=>c x (Ep _ e)
theorem Sc{b ars}{a}{d}{e}(h:Bb (Fm b ars e) a)(c:∀k∈e.k,Bb (AL b ars d k) a):Bb (AL b ars (d+1) e) a:=by
 rw[AL];exact oT e.k _ h c
theorem fe{vs ars}{d}{e}:Bb (Fm vs ars e) (AL vs ars (d+1) e)/\∀k∈e.k,Bb (AL vs ars d k) (AL vs ars (d+1) e):=by
 rw[AL];exact oi e.k _
theorem qc{x y}(b:Af x=V)(a:Af y=V)(h:Bb x y):Gw x y=true:=by unfold Gw;rw[b,a,zJ h a];simp
theorem oo{x y}(h:Gw x y=V):Af x=V/\Af y=V/\Bb x y:=by
 unfold Gw at h;simp only[Aj,beq_iff_eq]at h;exact⟨h.1.1,h.1.2,ve h.2⟩
theorem em{a b}(ha:Af a=V)(e:Af b=V)(h:Bb a b)(c:Dk b=U):Dk a=false:=by
 cases d:Dk a
 ·rfl
 rw[(fk ha e h).2.2 d]at c;cases c
theorem YX:Dk 0=false:=by decide+kernel
theorem sc:Af 0=true:=by decide+kernel
def Jj(VS ars:List Int)(b:Int)(t:AG):Prop:=∀n a,Gx VS ars a n b t=0
theorem Vq{s}{c}(h:GX ⟨VS,ars,[]⟩ s c=0)(g:LS ⟨VS,ars,[]⟩ s=0)(f:∀t∈s.b,Jj VS ars (EM ⟨VS,ars,[]⟩ s c) t)(i:∀t∈s.e,Jj VS ars (EM ⟨VS,ars,[]⟩ s c) t):Jj VS ars c s:=by
 intro n a;cases n with
 |zero=>rfl
 |succ n=>
  refine ZX.2 ⟨?_,λt d=>f t d n a,λt d=>i t d n a⟩
  unfold Ff;rw[AZ h];cases a
  ·rfl
  exact g
theorem Wo{k t c}{i v}{b e}(f:k=3->Dk (AL VS ars 5 v)=U)(g:k≠4->Cx VS ars 5 v=U)(j:k=2->Dk (AL VS ars 5 i)=U):LS ⟨VS,ars,[]⟩ ⟨k,t,i,v,c,b,e⟩=0:=by
 show(if k=3/\Dk (AL VS ars 5 v)=V then(3:Int)else if(k≠4/\Cx VS ars 5 v=V)\/(k=2/\Dk (AL VS ars 5 i)=V)then 4 else 0)=0
 have d:¬(k=3/\Dk (AL VS ars 5 v)=V):=λh=>by
  have a:=h.2;rw[f h.1]at a;cases a
 have l:¬((k≠4/\Cx VS ars 5 v=V)\/(k=2/\Dk (AL VS ars 5 i)=V)):=by
  intro h;rcases h with h|h
  ·have a:=h.2
   rw[g h.1]at a;cases a
  have a:=h.2;rw[j h.1]at a;cases a
 rw[AO d,AO l]
include hv ha
theorem Li(d:Nat)(e:AF):Af (AL VS ars d e)=true:=SJ hv ha d e
theorem UO{v:Int}{e:AF}{a:Int}(g:Af a=V)(c:Bb (AL VS ars 5 e) (VS.getD v.toNat 0))(d:Bb a (VS.getD v.toNat 0))(f:Cx VS ars 5 e=U):Jj VS ars a (Cs v e):=by
 refine Vq ?_ (Wo (λh=>by cases h) (λ_=>f) λh=>by cases h) (λt b=>by cases b) λt b=>by cases b
 show(if Gw (AR (AL VS ars 5 e) a) (VS.getD v.toNat 0)=V then(0:Int)else 1)=0
 rw[AZ (qc (Kj (Li hv ha 5 e) g) (Nj hv _) (Pk c d))]
theorem lK{t:Int}{i e:AF}{a:Int}(g:Af a=V)(c:Bb (AL VS ars 5 e) (ars.getD t.toNat 0))(j:Bb a (ars.getD t.toNat 0))(d:Bb (AL VS ars 5 i) (ars.getD t.toNat 0))(k:Cx VS ars 5 e=U)(f:Dk (AL VS ars 5 i)=U):Jj VS ars a ⟨2,t,i,e,0,[],[]⟩:=by
 refine Vq ?_ (Wo (λh=>by cases h) (λ_=>k) λ_=>f) (λt b=>by cases b) λt b=>by cases b
 show(if Gw (AR (AR (AL VS ars 5 e) (AL VS ars 5 i)) a) (ars.getD t.toNat 0)=V then(0:Int)else 1)=0
 rw[AZ (qc (Kj (Kj (Li hv ha 5 e) (Li hv ha 5 i)) g) (Nj ha _) (Pk (Pk c d) j))]
omit hv ha
theorem Mx(d)(n):AL VS ars d (Ef n)=0:=by cases d<;>rfl
theorem Qs(d)(n):Cx VS ars d (Ef n)=false:=by cases d<;>rfl
theorem RS(d)(n):AL VS ars (d+1) (Gl n)=VS.getD n.toNat 0:=rfl
theorem SO(d)(n):Cx VS ars d (Gl n)=false:=by cases d<;>rfl
theorem iM{c}{a}{i}{d}(e:Bb (ars.getD a.toNat 0) c)(f:Bb (AL VS ars d i) c):Bb (AL VS ars (d+1) (NA a i)) c:=
 Sc e λk b=>by
  have b:k∈[i]:=b;rw[Dw]at b;rw[b];exact f
theorem jB{a}{i}{d}(b:Dk (AL VS ars d i)=U)(c:Cx VS ars d i=U):Cx VS ars (d+1) (NA a i)=false:=by
 refine fg ?_ b;show [i].any _=U;simp[c]
theorem Yy{f}{a b c}{d}(g:Bb (AL VS ars d a) f)(i:Bb (AL VS ars d b) f)(h:Bb (AL VS ars d c) f):Bb (AL VS ars (d+1) (QE a b c)) f:=
 Sc (Ks _) λk e=>by
  have e:k∈[a,b,c]:=e;simp only[Eb,It,or_false]at e;rcases e with rfl|rfl|rfl<;>assumption
theorem YM{a b c}{d}(e:Cx VS ars d a=U)(g:Cx VS ars d b=U)(f:Cx VS ars d c=U):Cx VS ars (d+1) (QE a b c)=false:=by
 refine QV ?_ (by show ¬(11:Int)=3;decide)
 show [a,b,c].any _=U;simp[e,g,f]
theorem fE{c}{i}{k}{d}(h:Bb (AL VS ars d i) c):Bb (AL VS ars (d+2) (GZ i k)) c:=
 Sc (Ks _) λx b=>by
  have b:x∈[⟨7,0,[i,Ef 3]⟩,Ef k]:=b;simp only[Eb,It,or_false]at b;rcases b with rfl|rfl
  ·refine Sc (Ks _) λy a=>?_
   have a:y∈[i,Ef 3]:=a;simp only[Eb,It,or_false]at a;rcases a with rfl|rfl
   ·exact h
   rw[Mx];exact Ks _
  rw[Mx];exact Ks _
theorem eQ{i}{k}{d}(h:Cx VS ars d i=U):Cx VS ars (d+2) (GZ i k)=false:=by
 refine QV ?_ (by show ¬(9:Int)=3;decide)
 show [(⟨7,0,[i,Ef 3]⟩:AF),Ef k].any _=U
 have a:Cx VS ars (d+1) ⟨7,0,[i,Ef 3]⟩=false:=by
  refine QV ?_ (by show ¬(7:Int)=3;decide)
  show [i,Ef 3].any _=U;simp only[List.any_cons,List.any_nil,h,Bool.false_or,Bool.or_false];exact Qs d 3
 simp only[List.any_cons,List.any_nil,a,Bool.false_or,Bool.or_false];exact Qs _ k
theorem Pt{e f d}{i}(a:Eo i=V)(g:As e f (d+1) i=V)(c):AL VS ars (c+1) i=AL VS ars (d+1) i/\Cx VS ars c i=false:=by
 have b:=y6 g a;refine⟨by simp only[AL,b,List.foldl_nil],?_⟩
 cases c with
 |zero=>rfl
 |succ c=>
  unfold Eo at a;simp only[Gg,decide_eq_true_eq]at a;exact QV (by rw[b];rfl) O
include hv ha
theorem X6{v a:Int}{i:AF}{e:Int}{m p d:Nat}(l:Af e=V)(j:Eo i=V)(h:As m p (d+1) i=V)(q:Bb (ars.getD a.toNat 0) (VS.getD v.toNat 0))(r:Bb (AL VS ars (d+1) i) (VS.getD v.toNat 0))(g:Bb e (VS.getD v.toNat 0)):
  ∀(n:Nat),∀t∈ES v a i n,Jj VS ars e t:=by
 have b:∀k:Int,∀c,Bb (AL VS ars (c+1) (NA a (Ef k))) (VS.getD v.toNat 0)/\Cx VS ars (c+1) (NA a (Ef k))=false:=λk c=>⟨iM q (by rw[Mx];exact Ks _),jB (by rw[Mx];exact YX) (Qs _ _)⟩
 intro n;induction n with
 |zero=>
  intro t f;rw[ES,Dw]at f;subst f;exact UO hv ha l (b 0 4).1 g (b 0 4).2
 |succ n o=>
  intro t f;rw[ES,DQ,Dw]at f;rcases f with f|rfl
  ·exact o t f
  refine UO hv ha l (Yy (fE (d:=2) ?_) (b _ 3).1 (by rw[RS];exact Bb.refl _)) g (YM (eQ (d:=2) (Pt j h 2).2) (b _ 3).2 (SO _ _))
  rw[(Pt j h 1).1];exact r
theorem jA{b f:Int}{R:Nat}(M:Af b=V)(D:Af f=V)(v:Bb f b):∀(d:Nat),d<=5->∀(e:AF) (s:GD),As (J s.1) R d e=V->Dv (AD ars b e s).1.1 VS->(∀t∈s.2,Jj VS ars f t)->
  Bb (AL VS ars d (AD ars b e s).2) (AR (AL VS ars d e) b)/\Cx VS ars d (AD ars b e s).2=U/\∀t∈(AD ars b e s).1.2,Jj VS ars f t
 |0,_,_,_,q,_,_=>by simp[As]at q
 | d + 1, hd, e, s, q, a, o => by
  have P:∀(n:List AF) (s:GD) (p:Int),(∀x∈n,As (J s.1) R d x=V)->Dv (Cw ars b n s).1.1 VS->(∀t∈s.2,Jj VS ars f t)->(∀x∈n,Bb (AL VS ars d x) p)->Bb b p->
    (∀x∈(Cw ars b n s).2,Bb (AL VS ars d x) p/\Cx VS ars d x=U)/\∀t∈(Cw ars b n s).1.2,Jj VS ars f t:=by
   intro n;induction n with
   |nil=>intro s p _ _ o _ _;exact⟨λx a=>(by cases a),o⟩
   |cons x r ih=>
    intro s p h a o S z;rw[Cw]at a ⊢;obtain⟨X,a2,a3⟩:=jA M D v d O x s (h x EI) ((gO ars b r _).trans a) o;obtain⟨H,Q⟩:=ih (AD ars b x s).1 p (λy m=>Ku (Vj ars b x s).1 d y (h y (Ep _ m))) a a3 (λy m=>S y (Ep _ m)) z
    refine⟨λy m=>?_,Q⟩
    rcases Eb.1 m with rfl|m
    ·exact⟨X.trans (Pk (S x EI) z),a2⟩
    exact H y m
  have c:=q;rw[As]at q;simp only[Aj,Bt]at q;rw[VT]at a ⊢;have g:=fe (vs:=VS) (ars:=ars) (d:=d) (e:=e);by_cases j:e.t=3/\Dk (AL (Cw ars b e.k s).1.1 ars 5 (e.k.getD 0 K))=V
  ·rw[AZ j]at a ⊢
   obtain⟨i,E,T,u,h4⟩:=Wu j.1 c;have L:=We (ars:=ars) (pc:=b) (s:=s) j.1 c;have G:e.k.getD 0 K=i:=by rw[E];rfl
   rw[L,G]at a ⊢;have a:Dv (s.1++[AR (AL s.1 ars 5 e) b]) VS:=a;have N:Dv s.1 VS:=(Dv.app _ _).trans a
   have F:VS.getD (J s.1) 0=AR (AL VS ars (d+1) e) b:=by
    rw[a.at,ki hd c,Ng N (d+1) e c]
   obtain⟨C,rfl⟩:∃C,d=C+1:=by
    cases d with
    |zero=>simp[As]at u
    |succ C=>exact⟨C,rfl⟩
   refine⟨?_,SO _ _,λt w=>?_⟩
   ·show Bb (AL VS ars (C+1+1) (Gl (J s.1:Int))) _
    rw[RS,Gb,F];exact Bb.refl _
   rcases DQ.1 w with w|w
   ·exact o t w
   refine X6 hv ha D T u ?_ ?_ ?_ 3 t w
   ·rw[Gb,F]
    refine Bb.trans ?_ (KE _ _);have:=g.1;unfold Fm at this;rw[AO O,AZ j.1]at this;exact this
   ·rw[Gb,F]
    exact(g.2 i (by rw[E];exact Dw.2 rfl)).trans (KE _ _)
   rw[Gb,F];exact v.trans (Qa _ _)
  rw[AO j]at a ⊢;obtain⟨H,Q⟩:=P e.k s (AR (AL VS ars (d+1) e) b) q.1.2 a o (λx a=>(g.2 x a).trans (KE _ _)) (Qa _ _)
  refine⟨Sc (g.1.trans (KE _ _)) λx a=>(H x a).1,?_,Q⟩
  have l:(Cw ars b e.k s).2.any (Cx VS ars d)=false:=by
   rw[List.any_eq_false];intro x a;rw[(H x a).2];decide
  by_cases k:e.t=3
  ·refine fg l ?_
   obtain⟨i,E,T,u,h4⟩:=Wu k c;have L:=We (ars:=ars) (pc:=b) (s:=s) k c;have G:e.k.getD 0 K=i:=by rw[E];rfl
   rw[L]at j a;rw[G]at j;show Dk (AL VS ars d ((Cw ars b e.k s).2.getD 0 K))=U;rw[L];show Dk (AL VS ars d (e.k.getD 0 K))=U;have a:Dv s.1 VS:=a;rw[G,Ng a d i u, <-ki (show d<=5 by omega) u]
   cases h5:Dk (AL s.1 ars 5 i)
   ·rfl
   exact absurd ⟨k,h5⟩ j
  exact QV l k
end
theorem iL{e f a}(h:Dv e f):∀d s b,Ax (J e) (J a) d s=V->Gx e a U d b s=0->Gx f a U d b s=0
 |0,_,_,c,_=>by simp[Ax]at c
 | d + 1, s, b, c, l => by
  rw[Lu,Aj,Aj]at c;rw[ZX,tu]at l ⊢
  have m:EM ⟨f,a,[]⟩ s b=EM ⟨e,a,[]⟩ s b:=by
   show(if s.t=3 then AR b (AL f a 5 s.v)else b)=(if s.t=3 then AR b (AL e a 5 s.v)else b)
   split
   ·rename_i k;rw[Ng h 5 _ (Fy c.1 O)]
   rfl
  rw[m];refine⟨?_,λt j=>iL h d t _ (Bt.1 c.2.1 t j) (l.2.1 t j),λt j=>iL h d t _ (Bt.1 c.2.2 t j) (l.2.2 t j)⟩
  rw[<-l.1];unfold GX;split
  ·rename_i k
   show(if Gw (AR (AL f a 5 s.v) b) (f.getD s.g.toNat 0)=V then(0:Int)else 1)=(if Gw (AR (AL e a 5 s.v) b) (e.getD s.g.toNat 0)=V then(0:Int)else 1)
   rw[Ng h 5 _ (Fy c.1 O),h.2 _ (PH c.1 (.inl k)).2.2]
  split
  ·rename_i k
   show(if Gw (AR (AR (AL f a 5 s.v) (AL f a 5 s.i)) b) (a.getD s.g.toNat 0)=V then(0:Int)else 1)=(if Gw (AR (AR (AL e a 5 s.v) (AL e a 5 s.i)) b) (a.getD s.g.toNat 0)=V then(0:Int)else 1)
   rw[Ng h 5 _ (Fy c.1 O),Ng h 5 _ (WX c.1 k)]
  split
  ·rename_i k
   show(if((Af (AL f a 5 s.v)&&Y (AL f a 5 s.v<=1))&&Y (b=0))=V then(0:Int)else 2)=(if((Af (AL e a 5 s.v)&&Y (AL e a 5 s.v<=1))&&Y (b=0))=V then(0:Int)else 2)
   rw[Ng h 5 _ (Fy c.1 O)]
  rfl
theorem rR{a}{pc}{q}:∀d,d<=5->∀e s,As (J s.1) q d e=V->Cx s.1 a d e=U->AD a pc e s=(s,e)
 |0,_,_,_,b,_=>by simp[As]at b
 | d + 1, D, e, s, b, j => by
  have o:∀f:List AF,(∀x∈f,As (J s.1) q d x=V/\Cx s.1 a d x=U)->Cw a pc f s=(s,f):=by
   intro f;induction f with
   |nil=>intro _;rfl
   |cons x r v=>
    intro h;have n:=rR (pc:=pc) d O x s (h x EI).1 (h x EI).2;simp only[Cw,n,v λy u=>h y (Ep _ u)]
  have l:=b;rw[As]at b;simp only[Aj,Bt]at b;rw[Cx,Bool.or_eq_false_iff]at j
  have w:=o e.k λx p=>⟨b.1.2 x p,by
   have:=List.any_eq_false.1 j.2 x p
   simpa using this⟩
  rw[VT,w,AO]
  ·simp only[AF.eta]
  rintro⟨k,g⟩;obtain⟨i,n,E,t,C⟩:=Wu k l;have z:e.k.getD 0 K=i:=by rw[n];rfl
  rw[z]at g j;have g:Dk (AL s.1 a 5 i)=true:=g;have c:=j.1;rw[decide_eq_true k,IG]at c;have c:Dk (AL s.1 a d i)=false:=c;rw[<-ki (show d<=5 by omega) t,g]at c
  cases c
section
variable{VS ars:List Int}(hv:VS.all Af=V)(ha:ars.all Af=V)
theorem aw:∀d e,Bb (AL VS ars d e) (AL VS ars (d+1) e)
 |0,_=>Ks _
 |d+1,e=>by
  have h:=fe (vs:=VS) (ars:=ars) (d:=d+1) (e:=e);exact Sc h.1 λk a=>(aw d k).trans (h.2 k a)
include hv ha
theorem hJ:∀(d:Nat) (e:AF),Cx VS ars (d+1) e=U->Cx VS ars d e=U
 |0,_,_=>rfl
 | d + 1, e, h => by
  rw[Cx,Bool.or_eq_false_iff]at h ⊢;refine⟨?_,?_⟩
  ·by_cases k:e.t=3
   ·have a:=h.1
    rw[decide_eq_true k,IG]at a ⊢;exact em (Li hv ha _ _) (Li hv ha _ _) (aw d _) a
   rw[decide_eq_false k,Bool.false_and]
  rw[List.any_eq_false]at h ⊢;intro x c;have b:=h.2 x c;rw[hJ d x (by simpa using b)];decide
theorem jQ:∀(d:Nat) (e:AF),Dk (AL VS ars d e)=U->Cx VS ars d e=U
 |0,_,_=>rfl
 | d + 1, e, h => by
  have a:=fe (vs:=VS) (ars:=ars) (d:=d) (e:=e);rw[Cx,Bool.or_eq_false_iff];refine⟨?_,?_⟩
  ·by_cases k:e.t=3
   ·rw[decide_eq_true k,IG]
    by_cases c:e.k=[]
    ·rw[c]
     show Dk (AL VS ars d K)=U;have:AL VS ars d K=0:=by cases d<;>rfl
     rw[this];exact YX
    obtain⟨x,r,b⟩:=List.exists_cons_of_ne_nil c;rw[b];exact em (Li hv ha _ _) (Li hv ha _ _) (a.2 x (by rw[b];exact EI)) h
   rw[decide_eq_false k,Bool.false_and]
  rw[List.any_eq_false];intro x b;rw[jQ d x (em (Li hv ha _ _) (Li hv ha _ _) (a.2 x b) h)];decide
omit hv ha in
theorem cf{m:Int}{e f}{a}(b:m<0\/∃j:Nat,m=j/\Bb (VS.getD j 0) a)(c:Bb (AL VS ars 5 e) a)(h:Bb (AL VS ars 5 f) a):Bb (AL VS ars 5 (CU m e f)) a:=by
 unfold CU;split
 ·exact c
 rcases b with b|⟨j,rfl,g⟩
 ·omega
 exact Yy (d:=4) (by rw[RS];exact g) ((aw 4 e).trans c) ((aw 4 f).trans h)
theorem ap{m:Int}{e f:AF}(a:Cx VS ars 5 e=U)(b:Cx VS ars 5 f=U):Cx VS ars 5 (CU m e f)=false:=by
 unfold CU;split
 ·exact a
 exact YM (d:=4) (SO _ _) (hJ hv ha 4 e a) (hJ hv ha 4 f b)
theorem O3{v t m:Int}{i:AF}{b:Int}{q s:Nat}(z:Af b=V)(h:Eo i=V)(g:As q s 5 i=V)(k:m<0\/∃j:Nat,m=j/\Bb (VS.getD j 0) (ars.getD t.toNat 0))(u:Bb (VS.getD v.toNat 0) (ars.getD t.toNat 0))(w:Bb (AL VS ars 5 i) (ars.getD t.toNat 0))(o:Bb b (ars.getD t.toNat 0)):
  ∀(n:Nat),∀x∈Dr v t i m n,Jj VS ars b x:=by
 intro n;induction n with
 |zero=>intro x e;cases e
 | succ n r =>
  intro x e;rw[Dr,DQ,Dw]at e;rcases e with e|rfl
  ·exact r x e
  have p:=iM (VS:=VS) (ars:=ars) (a:=t) (i:=Ef (n:Int)) (d:=3) (Bb.refl _) (by rw[Mx];exact Ks _)
  have f:Cx VS ars 4 (NA t (Ef (n:Int)))=false:=jB (by rw[Mx];exact YX) (Qs _ _)
  have l:∀c,Bb (AL VS ars (c+1) i) (ars.getD t.toNat 0):=λc=>by rw[(Pt h g c).1];exact w
  refine lK hv ha z (Yy (d:=4) ?_ (by rw[RS];exact u) p) o (by rw[Mx];exact Ks _) (YM (d:=4) ?_ (SO _ _) f) (by rw[Mx];exact YX)
  ·unfold CU
   split
   ·exact fE (d:=2) (l 1)
   rcases k with k|⟨j,rfl,y⟩
   ·omega
   exact Yy (d:=3) (by rw[RS];exact y) (fE (d:=1) (l 0)) (by rw[Mx];exact Ks _)
  unfold CU;split
  ·exact eQ (d:=2) (Pt h g 2).2
  exact YM (d:=3) (SO _ _) (eQ (d:=1) (Pt h g 1).2) (Qs _ _)
omit hv ha in
theorem kP{pc pco}{nv na d}{m}(k:∀s x,Ax nv na d s=V->nv<=J x.1->Gx VS ars U d pc s=0->Dv (CM ars s m pc x).1 VS->(∀t∈x.2,Jj VS ars pco t)->∀t∈(CM ars s m pc x).2,Jj VS ars pco t):
  ∀e x,e.all (Ax nv na d)=V->nv<=J x.1->(∀s∈e,Gx VS ars U d pc s=0)->Dv (Av ars e m pc x).1 VS->(∀t∈x.2,Jj VS ars pco t)->∀t∈(Av ars e m pc x).2,Jj VS ars pco t
 |[],_,_,_,_,_,f=>f
 |s::r,x,h,i,j,g,f=>by
  simp only[IS,Aj]at h;rw[Av]at g ⊢;exact kP k r _ h.2 (DO i (gj ars s m pc x).1) (λt n=>j t (Ep _ n)) g (k s x h.1 i (j s EI) ((LW ars r m pc _).trans g) f)
theorem rZ{nv:Nat}:∀(d:Nat) (s:AG) (m c f:Int) (x:GD),Ax nv (J ars) d s=V->nv<=J x.1->Af c=V->Af f=V->Bb f c->(m<0\/∃j:Nat,m=j/\Bb (VS.getD j 0) c)->
  Gx VS ars U d c s=0->Dv (CM ars s m c x).1 VS->(∀t∈x.2,Jj VS ars f t)->∀t∈(CM ars s m c x).2,Jj VS ars f t
 |0,_,_,_,_,_,h,_,_,_,_,_,_,_,_=>by simp[Ax]at h
 | d + 1, s, m, c, f, x, h, hx, D, o, n, hm, hc, q, hq => by
  have E:=fun(m c f:Int) (L:Af c=V) (N:Af f=V) (h3:Bb f c) (h4:m<0\/∃j:Nat,m=j/\Bb (VS.getD j 0) c)=>kP (VS:=VS) (ars:=ars) (pc:=c) (pco:=f) (nv:=nv) (na:=J ars) (d:=d) (m:=m) λs x a1 a2 a3 a4 a5=>rZ d s m c f x a1 a2 L N h3 h4 a3 a4 a5
  rw[Lu,Aj,Aj]at h;obtain⟨hh,hb,aF⟩:=h;obtain⟨w,X,c3⟩:=ZX.1 hc;rw[tu]at w;have aJ:EM ⟨VS,ars,[]⟩ s c=if s.t=3 then AR c (AL VS ars 5 s.v)else c:=rfl
  rw[aJ]at X c3;by_cases k4:s.t=4
  ·rw[Tx k4]at q ⊢
   rw[AO O]at X;intro t a;rcases DQ.1 a with a|a
   ·exact hq t a
   rw[Dw]at a;subst a;have hB:=E m c f D o n hm s.b (x.1,[]) hb hx X q (λt a=>by cases a)
   exact Vq rfl (Wo (λh=>by cases h) (λh=>absurd rfl h) λh=>by cases h) (λt a=>hB t a) λt a=>by cases a
  have aN:As nv (J ars) 5 s.v=true:=Fy hh k4;have H:As (J x.1) (J ars) 5 s.v=true:=Ku hx 5 _ aN;by_cases S:s.t=3
  ·rw[AZ S]at X c3
   have aE:Dv x.1 VS:=(gj ars s m c x).trans q;have z:=Ng (ars:=ars) aE 5 s.v H;have F:=Kj D (Li hv ha 5 s.v);cases p:Dk (AL x.1 ars 5 s.v)
   ·rw[WK S p, <-z]at q
    rw[WK S p, <-z];rw[<-z]at p;have aL:=jQ hv ha 5 _ p
    have aI:AD ars c s.v x=(x,s.v):=rR 5 (BR _) _ _ H (by
     cases h9:Cx x.1 ars 5 s.v
     ·rfl
     exfalso
     have aU:x.1.all Af=true:=by
      rw[Bt];intro y hy;obtain⟨i,hi,rfl⟩:=List.getElem_of_mem hy;have:=aE.2 i hi;rw[DU hi]at this;rw[<-this];exact Nj hv i
     have:=jQ aU ha 5 s.v (by rw[<-z];exact p)
     rw[this]at h9;cases h9)
    rw[aI]at q ⊢;intro t a;rcases DQ.1 a with a|a
    ·exact hq t a
    rw[Dw]at a;subst a;have aR:Dv (Av ars s.b m (AR c (AL VS ars 5 s.v)) (x.1,[])).1 VS:=(LW ars s.e m _ (_,[])).trans q;have u:=QO n (Bb.refl (AL VS ars 5 s.v));have R:=Kj o (Li hv ha 5 s.v);have aG:m<0\/∃j:Nat,m=j/\Bb (VS.getD j 0) (AR c (AL VS ars 5 s.v)):=hm.imp id λ⟨j,L,N⟩=>⟨j,L,N.trans (KE _ _)⟩
    have B1:=E m _ _ F R u aG s.b (x.1,[]) hb hx X aR (λt a=>by cases a)
    have B2:=E m _ _ F R u aG s.e (_,[]) aF (DO hx (LW ars s.b m _ (x.1,[])).1) c3 q (λt a=>by cases a)
    exact Vq rfl (Wo (λ_=>p) (λ_=>aL) λh=>by cases h) (λt a=>B1 t a) λt a=>B2 t a
   rw[WU S p, <-z]at q;rw[WU S p, <-z];generalize hl:AR c (AL VS ars 5 s.v)=l at q X c3 F ⊢;have C:Bb c l:=by rw[<-hl];exact KE _ _
   have aC:Dv (Av ars s.b ((AD ars c s.v x).1.1.length:Int) l (Lc (AD ars c s.v x) m l)).1 VS:=(LW ars s.e _ _ _).trans q;have hY:Dv ((AD ars c s.v x).1.1++[l]++[l]) VS:=(LW ars s.b _ _ (Lc (AD ars c s.v x) m l)).trans aC;have aB:Dv ((AD ars c s.v x).1.1++[l]) VS:=(Dv.app _ _).trans hY;have G:Dv (AD ars c s.v x).1.1 VS:=(Dv.app _ _).trans aB;have M:VS.getD (AD ars c s.v x).1.1.length 0=l:=aB.at;have v2:VS.getD ((AD ars c s.v x).1.1++[l]).length 0=l:=hY.at;obtain⟨T,e2,e3⟩:=jA hv ha D o n 5 (BR _) s.v x H G hq;have T:Bb (AL VS ars 5 (AD ars c s.v x).2) l:=T.trans (by rw[<-hl];exact Pk (Qa _ _) (KE _ _))
   have aH:m<0\/∃j:Nat,m=j/\Bb (VS.getD j 0) l:=hm.imp id λ⟨j,L,N⟩=>⟨j,L,N.trans C⟩
   have aM:∀t∈(Lc (AD ars c s.v x) m l).2,Jj VS ars f t:=by
    intro t a;rcases DQ.1 a with a|a
    ·rcases DQ.1 a with a|a
     ·exact e3 t a
     rw[Dw]at a;subst a;refine UO hv ha o ?_ ?_ (ap hv ha e2 (Qs _ _))
     ·rw[Gb,M];exact cf aH T (by rw[Mx];exact Ks _)
     rw[Gb,M];exact n.trans C
    rw[Dw]at a;subst a;refine UO hv ha o ?_ ?_ (ap hv ha ?_ (Qs _ _))
    ·rw[Gb,v2]
     refine cf aH ?_ (by rw[Mx];exact Ks _)
     refine Sc (Ks _) λk hk=>?_
     have hk:k∈[Gl ((AD ars c s.v x).1.1.length:Int),Ef 0]:=hk;simp only[Eb,It,or_false]at hk;rcases hk with rfl|rfl
     ·rw[RS,Gb,M];exact Bb.refl _
     rw[Mx];exact Ks _
    ·rw[Gb,v2];exact n.trans C
    refine QV ?_ (by show ¬(9:Int)=3;decide)
    show [Gl ((AD ars c s.v x).1.1.length:Int),Ef 0].any _=U;simp only[List.any_cons,List.any_nil,Bool.or_false,Bool.or_eq_false_iff];exact⟨SO _ _,Qs _ _⟩
   have hn:nv<=(Lc (AD ars c s.v x) m l).1.length:=by
    have:=(Vj ars c s.v x).1;simp only[Az];omega
   have B1:=E ((AD ars c s.v x).1.1.length:Int) l f F o (n.trans C) (.inr ⟨_,rfl,by rw[M];exact Bb.refl _⟩) s.b (Lc (AD ars c s.v x) m l) hb hn X aC aM
   exact E (((AD ars c s.v x).1.1++[l]).length:Int) l f F o (n.trans C) (.inr ⟨_,rfl,by rw[v2];exact Bb.refl _⟩) s.e _ aF (DO hn (LW ars s.b _ l (Lc (AD ars c s.v x) m l)).1) c3 q B1
  have aO:Dv (AD ars c s.v x).1.1 (CM ars s m c x).1:=by
   by_cases k5:s.t=5
   ·rw[Te k5];exact Dv.refl _
   by_cases k1:s.t=1
   ·rw[UK k1];exact Dv.refl _
   by_cases P:s.t=2
   ·cases p:Dk (AL (AD ars c s.v x).1.1 ars 5 s.i)
    ·rw[Ul P p];exact Dv.refl _
    rw[UC P p];exact Dv.app _ _
   rw[IK ⟨k1,P,S,k4,k5⟩]at hh;cases hh
  have G:=aO.trans q;obtain⟨T,e2,e3⟩:=jA hv ha D o n 5 (BR _) s.v x H G hq;by_cases k5:s.t=5
  ·rw[Te k5]
   intro t a;rcases DQ.1 a with a|a
   ·exact e3 t a
   rw[Dw]at a;subst a;unfold GX at w;rw[AO O,AO O,AZ k5]at w;split at w
   ·rename_i r
    have r:((Af (AL VS ars 5 s.v)&&Y (AL VS ars 5 s.v<=1))&&Y (c=0))=true:=r;simp only[Aj,decide_eq_true_eq]at r;have p0:f=0:=(fk o D n).2.1 r.2;have u:Bb (AL VS ars 5 (AD ars c s.v x).2) (AL VS ars 5 s.v):=T.trans (Pk (Bb.refl _) (by rw[r.2];exact Ks _))
    refine Vq ?_ (Wo (λh=>by cases h) (λ_=>e2) λh=>by cases h) (λt a=>by cases a) λt a=>by cases a
    show(if((Af (AL VS ars 5 (AD ars c s.v x).2)&&Y (AL VS ars 5 (AD ars c s.v x).2<=1))&&Y (f=0))=V then(0:Int)else 2)=0
    rw[Li hv ha,decide_eq_true ((fk (Li hv ha _ _) (Li hv ha _ _) u).1 r.1.2),decide_eq_true p0];rfl
   cases w
  by_cases k1:s.t=1
  ·rw[UK k1]
   intro t a;rcases DQ.1 a with a|a
   ·exact e3 t a
   rw[Dw]at a;subst a;unfold GX at w;rw[AZ k1]at w;split at w
   ·rename_i r
    have r:Gw (AR (AL VS ars 5 s.v) c) (VS.getD s.g.toNat 0)=true:=r;obtain⟨-,-,f3⟩:=oo r;have Q:Bb c (VS.getD s.g.toNat 0):=(Qa _ _).trans f3;refine UO hv ha o (cf (hm.imp id λ⟨j,L,N⟩=>⟨j,L,N.trans Q⟩) (T.trans f3) (by rw[RS];exact Bb.refl _)) (n.trans Q) (ap hv ha e2 (SO _ _))
   cases w
  by_cases P:s.t=2
  ·obtain⟨q1,q2,q3⟩:=ck hh P
   have aS:=Ku (DO hx (Vj ars c s.v x).1) 5 _ q3;have aV:=Ng (ars:=ars) G 5 s.i aS;unfold GX at w;rw[AO O,AZ P]at w;split at w
   ·rename_i r
    have r:Gw (AR (AR (AL VS ars 5 s.v) (AL VS ars 5 s.i)) c) (ars.getD s.g.toNat 0)=true:=r;obtain⟨-,-,f3⟩:=oo r;have Q:Bb c (ars.getD s.g.toNat 0):=(Qa _ _).trans f3;have fi:Bb (AL VS ars 5 s.i) (ars.getD s.g.toNat 0):=((Qa _ _).trans (KE _ _)).trans f3;have fv:Bb (AL VS ars 5 (AD ars c s.v x).2) (ars.getD s.g.toNat 0):=T.trans (Pk (((KE _ _).trans (KE _ _)).trans f3) Q);have aD:m<0\/∃j:Nat,m=j/\Bb (VS.getD j 0) (ars.getD s.g.toNat 0):=hm.imp id λ⟨j,L,N⟩=>⟨j,L,N.trans Q⟩
    cases p:Dk (AL (AD ars c s.v x).1.1 ars 5 s.i)
    ·rw[Ul P p]
     rw[<-aV]at p;intro t a;rcases DQ.1 a with a|a
     ·exact e3 t a
     rw[Dw]at a;subst a;have aQ:Dk (AL VS ars 4 s.i)=false:=by rw[(Pt q2 q3 3).1];exact p
     exact lK hv ha o (cf aD fv (iM (Bb.refl _) (by rw[(Pt q2 q3 3).1];exact fi))) (n.trans Q) fi (ap hv ha e2 (jB aQ (Pt q2 q3 4).2)) p
    rw[UC P p]at q ⊢;have q:Dv ((AD ars c s.v x).1.1++[AR (AL (AD ars c s.v x).1.1 ars 5 (AD ars c s.v x).2) c]) VS:=q;have M:=q.at;rw[<-Ng G 5 _ (Ps ars c (J ars) 5 s.v x H).2.1]at M;intro t a;rcases DQ.1 a with a|a
    ·rcases DQ.1 a with a|a
     ·exact e3 t a
     rw[Dw]at a;subst a;refine UO hv ha o ?_ ?_ e2
     ·rw[Gb,M];exact KE _ _
     rw[Gb,M];exact n.trans (Qa _ _)
    exact O3 hv ha o q2 q3 aD (by rw[Gb,M];exact Pk fv Q) fi (n.trans Q) 4 t a
   cases w
  rw[IK ⟨k1,P,S,k4,k5⟩]at hh;cases hh
end
theorem Q4{p}(h:EU p=V):(UP (PC p)).1=0:=by
 unfold EU at h;simp only[Aj,decide_eq_true_eq]at h;obtain⟨o,g⟩:=h;have f:=(WZ p U).1 o;have i:=Rd f.1;have e:=Rd g;have l:Dv p.s (Jd p).1:=LW p.r p.b (-1) 0 (p.s,[])
 have c:=kP (VS:=(Jd p).1) (ars:=p.r) (pc:=0) (pco:=0) (nv:=J p.s) (na:=J p.r) (d:=5) (m:= -1)
  (λs x j u v q k=>rZ e.1 e.2.1 5 s (-1) 0 0 x j u sc sc (Bb.refl _) (.inl ED) v q k) p.b (p.s,[]) i.2.2.2 (BR _)
  (λs a=>iL l 5 s 0 (Bt.1 i.2.2.2 s a) (f.2 s a)) (Dv.refl _) (λt n=>by cases n)
 rw[lJ];exact⟨g,λs a=>c s a 5 U,λs a=>c s a 5 V⟩
mutual
def LO:AG->Bool
 |⟨k,_,_,_,_,b,e⟩=>Y (k≠5)&&(Er b&&Er e)
def Er:List AG->Bool
 |[]=>V
 |s::r=>LO s&&Er r
end
theorem Na:∀a b,Er (a++b)=(Er a&&Er b)
 |[],b=>by simp[Er]
 |s::r,b=>by simp only[IR,Er];rw[Na r b,Bool.and_assoc]
theorem qA(s):LO s=(Y (s.t≠5)&&(Er s.b&&Er s.e)):=by cases s;rw[LO];rfl
theorem VA{b e d}(c:∀s,Ax b e d s=V->DX d s=LO s):∀a,a.all (Ax b e d)=V->a.all (DX d)=Er a
 |[],_=>rfl
 |s::r,h=>by
  simp only[IS,Aj]at h;rw[IS,c s h.1,VA c r h.2,Er]
theorem ab{a c}:∀d s,Ax a c d s=V->DX d s=LO s
 |0,_,h=>by simp[Ax]at h
 |d+1,s,h=>by
  rw[Lu,Aj,Aj]at h;rw[DX,qA,VA (λs=>ab d s) s.b h.2.1,VA (λs=>ab d s) s.e h.2.2]
theorem qF(v a)(i):∀n,Er (ES v a i n)=V
 |0=>rfl
 |n+1=>by rw[ES,Na,qF v a i n];rfl
theorem sk(v t)(i)(m):∀n,Er (Dr v t i m n)=V
 |0=>rfl
 |n+1=>by rw[Dr,Na,sk v t i m n];rfl
mutual
theorem lM(ars:List Int)(pc:Int):∀(e:AF) (s:GD),Er (AD ars pc e s).1.2=Er s.2
 |⟨k,v,ks⟩,s=>by
  have h:=sn ars pc ks s;rw[AD];split
  ·simp only[Na,qF,h,Bool.and_true]
  exact h
theorem sn(ars:List Int)(pc:Int):∀(ks:List AF) (s:GD),Er (Cw ars pc ks s).1.2=Er s.2
 |[],s=>rfl
 |e::t,s=>by rw[Cw];exact(sn ars pc t _).trans (lM ars pc e s)
end
theorem kL{ars}{nv na d}(f:∀s m a x,Ax nv na d s=V->Er (CM ars s m a x).2=(Er x.2&&LO s)):∀c m a x,c.all (Ax nv na d)=V->Er (Av ars c m a x).2=(Er x.2&&Er c)
 |[],_,_,x,_=>by simp[Av,Er]
 |s::r,m,a,x,h=>by
  simp only[IS,Aj]at h;rw[Av,kL f r m a _ h.2,f s m a x h.1,Er,Bool.and_assoc]
theorem su{c}{D E}:∀d s m k x,Ax D E d s=V->Er (CM c s m k x).2=(Er x.2&&LO s)
 |0,_,_,_,_,h=>by simp[Ax]at h
 | d + 1, s, m, k, x, h => by
  have f:=kL (ars:=c) (nv:=D) (na:=E) (d:=d) λs m k x=>su d s m k x
  rw[Lu,Aj,Aj]at h;obtain⟨a,z,o⟩:=h;have n:=lM c k s.v x;rw[qA];by_cases y:s.t=4
  ·rw[Tx y]
   rw[KV y]at a;simp only[Aj,decide_eq_true_eq]at a;have l:s.e=[]:=FM a.1.2.1;simp only[Na,Er,LO,f s.b m k (x.1,[]) z,l,Bool.and_true,IG,y];all_goals simp
  by_cases p:s.t=3
  ·cases q:Dk (AL x.1 c 5 s.v)
   ·rw[WK p q]
    simp only[Na,Er,LO,f s.b m _ (_,[]) z,f s.e m _ (_,[]) o,n,Bool.and_true,IG,p];all_goals simp
   rw[WU p q,f s.e _ _ _ o,f s.b _ _ _ z];simp only[Na,n,p];all_goals (simp[Er,LO])
   cases Er x.2<;>cases Er s.b<;>rfl
  have g:s.t=1\/s.t=5\/s.t=2->s.b=[]/\s.e=[]:=by
   intro F;by_cases C:s.t=1\/s.t=5
   ·rw[FC C]at a
    simp only[Aj,decide_eq_true_eq]at a;exact⟨FM a.1.2.2.1,FM a.1.2.2.2.1⟩
   have j:s.t=2:=O;rw[Hq j]at a;simp only[Aj,decide_eq_true_eq]at a;exact⟨FM a.1.2.2.1,FM a.1.2.2.2.1⟩
  by_cases w:s.t=5
  ·obtain⟨r,l⟩:=g (.inr (.inl w))
   rw[Te w,r,l];simp only[Na,n,w];all_goals (simp[Er,LO])
  by_cases u:s.t=1
  ·obtain⟨r,l⟩:=g (.inl u)
   rw[UK u,r,l];simp only[Na,n,u];all_goals (simp[Er,LO])
  by_cases j:s.t=2
  ·obtain⟨r,l⟩:=g (.inr (.inr j))
   rw[r,l];cases q:Dk (AL (AD c k s.v x).1.1 c 5 s.i)
   ·rw[Ul j q]
    simp only[Na,n,j];all_goals (simp[Er,LO])
   rw[UC j q];simp only[Na,n,j,sk];all_goals (simp[Er,LO])
  rw[IK ⟨u,j,p,y,w⟩]at a;cases a
theorem uP{p}(h:EU p=V):KR (PC p)=KR p:=by
 unfold EU at h;simp only[Aj,decide_eq_true_eq]at h;have a:=PR h.1;have c:=Rd a;have d:=Rd h.2;unfold KR;rw[a,h.2,IG,IG,VA (λs=>ab 5 s) p.b c.2.2.2,VA (λs=>ab 5 s) (PC p).b d.2.2.2]
 have:=kL (ars:=p.r) (λs m e x=>su 5 s m e x) p.b (-1) 0 (p.s,[]) c.2.2.2
 show Er (Jd p).2=Er p.b;unfold Jd;rw[this];simp[Er]
def Jr(b:List UInt8)(k:Int):Int:=((b.getD (k.tmod (J b)).toNat 0).toNat:Int)*131+((b.getD ((k*7+3).tmod (J b)).toNat 0).toNat:Int)*1117+k*29+k.tdiv (J b)*53
def Ch(b:List UInt8)(k n:Int):Int:=
 if n<1\/J b=0 then 0 else if k<(J b)then((b.getD k.toNat 0).toNat:Int).tmod n else(Ro (Jr b k) ((Jr b k).tdiv 64)).tmod n
def AU(b:List UInt8)(k:Int)(l:List Int):Int:=l.getD (Ch b k (J l)).toNat 0
theorem g3{x y}(d:0<=x)(b:x<9223372036854775808)(e:0<=y)(f:y<9223372036854775808):0<=Ro x y:=by
 obtain⟨a,rfl⟩:=Int.eq_ofNat_of_zero_le d;obtain⟨c,rfl⟩:=Int.eq_ofNat_of_zero_le e;have g:a<2^63:=O;have i:c<2^63:=O
 have h:(BitVec.ofInt (IntKind.bits .i64) (a:Int)^^^BitVec.ofInt (IntKind.bits .i64) (c:Int)).toNat<2^63:=by
  rw[BitVec.toNat_xor];refine Nat.xor_lt_two_pow ?_ ?_
  ·simp only[BitVec.ofInt_natCast,BitVec.toNat_ofNat,IntKind.bits];omega
  simp only[BitVec.ofInt_natCast,BitVec.toNat_ofNat,IntKind.bits];omega
 unfold Ro;generalize (BitVec.ofInt (IntKind.bits .i64) (a:Int)^^^BitVec.ofInt (IntKind.bits .i64) (c:Int)).toNat=z at h ⊢;rw[Kp O O];omega
theorem Vt(x:UInt8):(x.toNat:Int)<=255:=by have:=x.toNat_lt;omega
theorem kx{k n:Int}(a:0<=k)(b:1<=n):0<=k.tdiv n/\k.tdiv n<=k:=by
 refine⟨Int.tdiv_nonneg a O,?_⟩;rw[Int.tdiv_eq_ediv_of_nonneg a];exact Int.ediv_le_self _ a
theorem Vw{b}{k}(a:0<=k)(c:k<=1000000000)(d:J b≠0):0<=Jr b k/\Jr b k<=100000000000:=by
 unfold Jr;have e:=Vt (b.getD (k.tmod (J b)).toNat 0);have g:=Vt (b.getD ((k*7+3).tmod (J b)).toNat 0);have f:=kx (n:=J b) a O;omega
theorem js{x n:Int}(a:0<=x)(b:1<=n):0<=x.tmod n/\x.tmod n<n:=⟨Int.tmod_nonneg _ a,Int.tmod_lt_of_pos _ O⟩
theorem lY{b}{k}(c:0<=k)(a:k<=1000000000)(d:J b≠0):0<=(Jr b k).tdiv 64/\(Jr b k).tdiv 64<=100000000000:=by
 have h:=Vw c a d;have e:=kx (n:=64) h.1 O;omega
theorem P5(b){k n}(c:0<=k)(a:k<=1000000000)(d:1<=n):0<=Ch b k n/\Ch b k n<n:=by
 unfold Ch;split
 ·omega
 split
 ·exact js O d
 have h:=Vw c a (show(J b)≠0 by omega)
 have e:=lY c a (show(J b)≠0 by omega)
 exact js (g3 h.1 O e.1 O) d
theorem bw(b){k}(c:0<=k)(a:k<=1000000000){l:List Int}(d:l≠[]):0<=Ch b k (J l)/\Ch b k (J l)<J l/\(Ch b k (J l)).toNat<J l:=by
 have e:0<J l:=List.length_pos_iff.2 d;have h:=P5 b (n:=J l) c a O;omega
theorem Vy(b){k}(c:0<=k)(a:k<=1000000000){l}(d:l≠[]):AU b k l∈l:=by
 unfold AU;rw[DU (bw b c a d).2.2];exact EL _
def Cb{a:Type}(f:Int->a×Int):Nat->Int->List a×Int
 |0,k=>([],k)
 |n+1,k=>((Cb f n k).1++[(f (Cb f n k).2).1],(f (Cb f n k).2).2)
theorem jh{a:Type}(f:Int->a×Int)(n)(k):(Cb f n k).1.length=n:=by
 induction n with
 |zero=>rfl
 |succ n b=>simp[Cb,b]
theorem gB{d:Type}{f:Int->d×Int}{c}(b:0<=c){m}:∀(n:Nat) (k:Int),n<=m->(∀j,k<=j->j<=k+m*c->j<=(f j).2/\(f j).2<=j+c)->k<=(Cb f n k).2/\(Cb f n k).2<=k+n*c:=by
 intro n;induction n with
 |zero=>intro k _ _;simp[Cb]
 |succ n g=>
  intro k o h;have a:=g k O h;have e:((n+1:Nat):Int)*c=n*c+c:=by rw[Int.natCast_add,Int.add_mul];simp
  have i:((n+1:Nat):Int)*c<=m*c:=Mj O b;have l:=h (Cb f n k).2 a.1 O;simp only[Cb];rw[e];omega
theorem F0{b:Type}{f:Int->b×Int}{Q:b->Prop}(h:∀j,Q (f j).1)(n)(k):∀x∈(Cb f n k).1,Q x:=by
 induction n with
 |zero=>intro x a;cases a
 |succ n c=>
  intro x a;simp only[Cb,DQ,Dw]at a;rcases a with a|rfl
  ·exact c x a
  exact h _
abbrev TH:List Int:=[1]++([0]++([2]++([3]++([255]++([7]++([128]++[]))))))
def DI(b:List UInt8)(a:Int)(k:Int):AF:=if Ch b k 3=0 then⟨1,AU b (k+1) TH,[]⟩else⟨2,Ch b (k+1) a,[]⟩
abbrev DT:List Int:=[4]++([10]++([8]++([9]++([3]++([6]++([7]++([5]++([11]++[]))))))))
def DC(b:List UInt8)(a c:Int):Nat->Int->AF×Int
 |0,k=>(DI b a k,k+2)
 |d+1,k=>if d=0 then(DI b a k,k+2)else if Ch b k 4=0 then(DI b a (k+1),k+3)
  else if AU b (k+1) DT=3 then(if c=0 then(DI b a (k+2),k+4)else(⟨3,Ch b (k+2) c,[DI b a (k+3)]⟩,k+5))
  else(⟨AU b (k+1) DT,0,(Cb (DC b a c d) (Cm (AU b (k+1) DT)).toNat (k+2)).1⟩,(Cb (DC b a c d) (Cm (AU b (k+1) DT)).toNat (k+2)).2)
def Fl:Nat->Int
 |0=>2
 |d+1=>5+3*Fl d
theorem RH(d):2<=Fl d:=by
 induction d with
 |zero=>exact Int.le_refl _
 |succ d a=>simp only[Fl];omega
theorem uC(k):(Cm k).toNat<=3:=by unfold Cm;(repeat' split)<;>decide
theorem Wa(b)(a e):∀d k,k<=(DC b a e d k).2/\(DC b a e d k).2<=k+Fl d
 |0,k=>by simp only[DC,Fl];omega
 |d+1,k=>by
  have l:=RH d;rw[DC];simp only[Fl];split
  ·simp only;omega
  split
  ·simp only;omega
  split
  ·split<;>(simp only;omega)
  have g:=uC (AU b (k+1) DT);have h:=gB (f:=DC b a e d) (c:=Fl d) (m:=3) O (Cm (AU b (k+1) DT)).toNat (k+2) g λj _ _=>Wa b a e d j
  have i:((Cm (AU b (k+1) DT)).toNat:Int)*Fl d<=3*Fl d:=Mj O O;simp only;omega
theorem rv{c}:∀{l:List AF},(∀x∈l,BB x<=c)->By l<=J l*(1+c)
 |[],_=>Di _
 |e::r,h=>by
  have b:=h e (EI ..);have d:=rv (l:=r) λx a=>h x (Ep _ a)
  simp only[By,BK];rw[Nat.add_mul];omega
theorem lN(b)(a e):∀d k,(BB (DC b a e d k).1)<=Fl d
 |0,k=>by
  simp only[DC,Fl,DI];split<;>simp[BB,By]
 | d + 1, k => by
  have m:=RH d;have c:∀j,BB (DI b a j)=0:=λj=>by unfold DI;split<;>rfl
  rw[DC];simp only[Fl];split
  ·simp only[c];omega
  split
  ·simp only[c];omega
  split
  ·split
   ·simp only[c];omega
   simp only[BB,By,c];omega
  have h:=uC (AU b (k+1) DT);have g:=F0 (f:=DC b a e d) (Q:=λx=>BB x<=(Fl d).toNat) (λj=>by have:=lN b a e d j;omega) (Cm (AU b (k+1) DT)).toNat (k+2)
  have i:=rv g;rw[jh]at i;simp only[BB];have l:=Iq (1+(Fl d).toNat) h;omega
abbrev GG:List Int:=[2]++([3]++([2]++([1]++([4]++[]))))
def BT(b:List UInt8)(a c:Nat)(k:Int):AF×Int:=
 if CQ a c (DC b a c (AU b k GG).toNat (k+1)).1=V then DC b a c (AU b k GG).toNat (k+1)
 else(DI b a (DC b a c (AU b k GG).toNat (k+1)).2,(DC b a c (AU b k GG).toNat (k+1)).2+2)
theorem di{d}(h:d<=4):Fl d<=364:=by
 match d,h with
 |0,_=>decide
 |1,_=>decide
 |2,_=>decide
 |3,_=>decide
 |4,_=>decide
theorem Vs(b){k}(c:0<=k)(a:k<=1000000000):1<=AU b k GG/\AU b k GG<=4/\(AU b k GG).toNat<=4:=by
 have h:=Vy b c a (l:=GG) At;simp only[DQ,Eb,It,or_false]at h;omega
theorem aa1(b){k}(c:0<=k)(a:k<=1000000000):AU b k GG=((AU b k GG).toNat):=by have:=Vs b c a;omega
theorem XZ(b)(c d){k}(e:0<=k)(a:k<=1000000000):k<=(BT b c d k).2/\(BT b c d k).2<=k+367:=by
 have h:=Wa b c d (AU b k GG).toNat (k+1);have f:=di (Vs b e a).2.2;unfold BT;split
 ·omega
 simp only;omega
theorem oW(b)(a j):BB (DI b a j)=0:=by unfold DI;split<;>rfl
theorem gu(b)(c d){k}(e:0<=k)(a:k<=1000000000):BB (BT b c d k).1<=364:=by
 have h:=lN b c d (AU b k GG).toNat (k+1);have f:=di (Vs b e a).2.2;unfold BT;split
 ·omega
 rw[oW];omega
abbrev RE:AF:=⟨0,0,[]⟩
abbrev Cv:List Int:=[1]++([1]++([2]++([3]++([4]++([1]++([3]++([5]++[])))))))
abbrev Hf:List Int:=[1]++([2]++([1]++([0]++[])))
abbrev NB:List Int:=[0]++([1]++([0]++([2]++[])))
abbrev PY:List Int:=[2]++([1]++([3]++[]))
abbrev Ko:List Int:=[1]++([2]++([1]++[]))
def MV(b:List UInt8)(a c:Nat)(d k:Int):AG×Int:=(⟨if d=5 then 5 else 1,Ch b k a,RE,(BT b a c (k+1)).1,0,[],[]⟩,(BT b a c (k+1)).2)
def Px(b:List UInt8)(a c:Nat)(k:Int):AG×Int:=(⟨2,Ch b k c,DI b a (k+1),(BT b a c (k+1+2)).1,0,[],[]⟩,(BT b a c (k+1+2)).2)
def Kh(b:List UInt8)(f:Int->AG×Int)(l:List Int)(k:Int):List AG×Int:=Cb f (AU b k l).toNat (k+1)
def Rj(b:List UInt8)(a c:Nat)(f:Int->AG×Int)(k:Int):AG×Int:=
 (⟨3,0,RE,(BT b a c k).1,0,(Kh b f Hf (BT b a c k).2).1,(Kh b f NB (Kh b f Hf (BT b a c k).2).2).1⟩,(Kh b f NB (Kh b f Hf (BT b a c k).2).2).2)
def SM(b:List UInt8)(f:Int->AG×Int)(k:Int):AG×Int:=(⟨4,0,RE,RE,AU b k PY,(Kh b f Ko (k+1)).1,[]⟩,(Kh b f Ko (k+1)).2)
def CB(b:List UInt8)(c a:Nat):Nat->Int->AG×Int
 |0,k=>if AU b k Cv=2/\a≠0 then Px b c a (k+1)else MV b c a (AU b k Cv) (k+1)
 |d+1,k=>if AU b k Cv=2/\a≠0 then Px b c a (k+1)else if AU b k Cv=3/\d≠0 then Rj b c a (CB b c a d) (k+1)else if AU b k Cv=4/\d≠0 then SM b (CB b c a d) (k+1)
  else MV b c a (AU b k Cv) (k+1)
def EV:Nat->Int
 |0=>402
 |d+1=>402+4*EV d
theorem Pq(d):402<=EV d:=by
 induction d with
 |zero=>exact Int.le_refl _
 |succ d a=>simp only[EV];omega
section
variable(b:List UInt8)(nv na:Nat){k:Int}
theorem oL(a)(d:0<=k)(c:k+400<=1000000000):k<=(MV b nv na a k).2/\(MV b nv na a k).2<=k+368:=by
 have h:=XZ b nv na (k:=k+1) O O;simp only[MV];omega
theorem om(c:0<=k)(a:k+400<=1000000000):k<=(Px b nv na k).2/\(Px b nv na k).2<=k+370:=by
 have h:=XZ b nv na (k:=k+1+2) O O;simp only[Px];omega
theorem tS{l}(d:l≠[])(h:∀x∈l,0<=x/\x<=2)(c:0<=k)(a:k<=1000000000):(AU b k l).toNat<=2/\AU b k l=((AU b k l).toNat):=by
 have:=h _ (Vy b c a d);omega
theorem eV{f}{c}{l}(r:l≠[])(h:∀x∈l,0<=x/\x<=2)(a:0<=c)(o:0<=k)(p:k+1+2*c<=1000000000)(s:∀j,0<=j->j+c<=1000000000->j<=(f j).2/\(f j).2<=j+c):k<=(Kh b f l k).2/\(Kh b f l k).2<=k+1+2*c:=by
 have q:=(tS b r h o O).1
 have d:∀m:Nat,m<=2->k+1<=(Cb f m (k+1)).2/\(Cb f m (k+1)).2<=k+1+m*c:=by
  intro m;induction m with
  |zero=>intro _;simp[Cb]
  |succ m i=>
   intro u;have n:=i O;have g:(m:Int)*c<=1*c:=Mj O a;have t:=s (Cb f m (k+1)).2 O O;have e:((m+1:Nat):Int)*c=m*c+c:=by rw[Int.natCast_add,Int.add_mul];simp
   simp only[Cb];rw[e];omega
 have n:=d _ q;have g:((AU b k l).toNat:Int)*c<=2*c:=Mj O a;unfold Kh;omega
theorem iE:∀x,x∈Hf->0<=x/\x<=2:=by intro x a;simp only[DQ,Eb,It,or_false]at a;omega
theorem gT:∀x,x∈NB->0<=x/\x<=2:=by intro x a;simp only[DQ,Eb,It,or_false]at a;omega
theorem fb:∀x,x∈Ko->0<=x/\x<=2:=by intro x a;simp only[DQ,Eb,It,or_false]at a;omega
theorem uH{f}{c}(d:0<=c)(g:0<=k)(e:k+380+4*c<=1000000000)(a:∀j,0<=j->j+c<=1000000000->j<=(f j).2/\(f j).2<=j+c):k<=(BT b nv na k).2/\(BT b nv na k).2<=k+367/\(BT b nv na k).2<=(Kh b f Hf (BT b nv na k).2).2/\(Kh b f Hf (BT b nv na k).2).2<=k+370+2*c/\k<=(Rj b nv na f k).2/\(Rj b nv na f k).2<=k+380+4*c:=by
 have h:=XZ b nv na (k:=k) O O;have m:=eV b (k:=(BT b nv na k).2) (f:=f) (c:=c) (l:=Hf) At iE d O O a;have i:=eV b (k:=(Kh b f Hf (BT b nv na k).2).2) (f:=f) (c:=c) (l:=NB) At gT d O O a;simp only[Rj];omega
theorem A6{f}{c}(e:0<=c)(g:0<=k)(a:k+10+2*c<=1000000000)(d:∀j,0<=j->j+c<=1000000000->j<=(f j).2/\(f j).2<=j+c):k<=(SM b f k).2/\(SM b f k).2<=k+10+2*c:=by
 have h:=eV b (k:=k+1) (f:=f) (c:=c) (l:=Ko) At fb e O O d;simp only[SM];omega
theorem WR:∀d k,0<=k->k+EV d<=1000000000->k<=(CB b nv na d k).2/\(CB b nv na d k).2<=k+EV d
 |0,k,g,a=>by
  rw[CB];simp only[EV]at a ⊢;have h:=om b nv na (k:=k+1) O O;have i:=oL b nv na (k:=k+1) (AU b k Cv) O O;split<;>omega
 |d+1,k,g,a=>by
  rw[CB];simp only[EV]at a ⊢;have m:=Pq d;have e:=WR d;have h:=om b nv na (k:=k+1) O O;have i:=oL b nv na (k:=k+1) (AU b k Cv) O O;have j:=uH b nv na (k:=k+1) (f:=CB b nv na d) (c:=EV d) O O O e;have l:=A6 b (k:=k+1) (f:=CB b nv na d) (c:=EV d) O O O e
  (repeat' split)<;>omega
theorem iP:BB RE=0:=rfl
theorem kn(c)(d:0<=k)(a:k+400<=1000000000):CS (MV b nv na c k).1<=364:=by
 have h:=gu b nv na (k:=k+1) O O;simp only[MV,CS,Ah,iP];omega
theorem oB(c:0<=k)(a:k+400<=1000000000):CS (Px b nv na k).1<=364:=by
 have h:=gu b nv na (k:=k+1+2) O O;simp only[Px,CS,Ah,oW];omega
def WA(f:Int->AG×Int)(c:Int):Prop:=∀j,0<=j->j+c<=1000000000->j<=(f j).2/\(f j).2<=j+c/\(CS (f j).1:Int)<=c
theorem Xv{f}{c}(p:0<=c)(j:WA f c):∀(m:Nat) (k:Int),0<=k->k+m*c<=1000000000->k<=(Cb f m k).2/\(Cb f m k).2<=k+m*c/\(Ah (Cb f m k).1)<=m*(1+c):=by
 intro m;induction m with
 |zero=>intro k _ _;simp[Cb,Ah]
 | succ m g =>
  intro k h d;have e:((m+1:Nat):Int)*c=m*c+c:=by rw[Int.natCast_add,Int.add_mul];simp
  have n:((m+1:Nat):Int)*(1+c)=m*(1+c)+(1+c):=by rw[Int.natCast_add,Int.add_mul];simp
  rw[e]at d;have q:=g k h O;have o:=j (Cb f m k).2 O O
  have i:Ah ((Cb f m k).1++[(f (Cb f m k).2).1])=Ah (Cb f m k).1+(1+CS (f (Cb f m k).2).1):=by
   generalize (Cb f m k).1=l;induction l with
   |nil=>simp[Ah]
   |cons a r g=>simp only[IR,Ah];omega
  simp only[Cb];rw[e,n,i];omega
theorem iO{f}{c}{l}(e:l≠[])(h:∀x∈l,0<=x/\x<=2)(a:0<=c)(d:0<=k)(g:k+1+2*c<=1000000000)(i:WA f c):(Ah (Kh b f l k).1)<=2*(1+c):=by
 have n:=(tS b e h d O).1;have o:((AU b k l).toNat:Int)*c<=2*c:=Mj O a;have j:((AU b k l).toNat:Int)*(1+c)<=2*(1+c):=Mj O O;have m:=(Xv a i (AU b k l).toNat (k+1) O O).2.2;unfold Kh;omega
theorem dV:∀d k,0<=k->k+EV d<=1000000000->(CS (CB b nv na d k).1)<=EV d
 |0,k,m,a=>by
  rw[CB];simp only[EV]at a ⊢;have e:=oB b nv na (k:=k+1) O O;have g:=kn b nv na (k:=k+1) (AU b k Cv) O O;split<;>omega
 |d+1,k,m,a=>by
  rw[CB];simp only[EV]at a ⊢;have s:=Pq d;have h:=WR b nv na d;have i:WA (CB b nv na d) (EV d):=λj e g=>⟨(h j e g).1,(h j e g).2,dV d j e g⟩
  have e:=oB b nv na (k:=k+1) O O;have g:=kn b nv na (k:=k+1) (AU b k Cv) O O;have o:=uH b nv na (k:=k+1) (f:=CB b nv na d) (c:=EV d) O O O h;have p:=gu b nv na (k:=k+1) O O;have q:=iO b (k:=(BT b nv na (k+1)).2) (l:=Hf) At iE O O O i;have r:=iO b (k:=(Kh b (CB b nv na d) Hf (BT b nv na (k+1)).2).2) (l:=NB) At gT O O O i;have n:=iO b (k:=k+1+1) (l:=Ko) At fb O O O i;split
  ·omega
  split
  ·simp only[Rj,CS,iP];omega
  split
  ·simp only[SM,CS,iP,Ah];omega
  omega
theorem nm(d):WA (CB b nv na d) (EV d):=λj a c=>⟨(WR b nv na d j a c).1,(WR b nv na d j a c).2,dV b nv na d j a c⟩
theorem mt{d m i:Nat}{a}(f:m*EV d<=a)(g:i<=m)(c:0<=k)(e:k+a<=1000000000):k<=(Cb (CB b nv na d) i k).2/\(Cb (CB b nv na d) i k).2<=k+a:=by
 have l:=Pq d;have j:(i:Int)*EV d<=m*EV d:=Mj O O;have h:=Xv O (nm b nv na d) i k c O;omega
theorem A0{d m i:Nat}{a}(g:m*EV d<=a)(j:i<m)(c:0<=k)(f:k+a<=1000000000):(Cb (CB b nv na d) i k).2+EV d<=k+a:=by
 have n:=Pq d;have l:((i+1:Nat):Int)*EV d<=m*EV d:=Mj O O;have e:((i+1:Nat):Int)*EV d=i*EV d+EV d:=by rw[Int.natCast_add,Int.add_mul];simp
 have h:=Xv O (nm b nv na d) i k c O;omega
theorem qM{m:Int}{c}(e:0<=m)(d:m<=2)(a:0<=c):(m.toNat:Int)*c<=2*c:=Mj O a
theorem zV{m:Int}{c}(e:0<=m)(d:m<=4)(a:0<=c):(m.toNat:Int)*c<=4*c:=Mj O a
end
theorem TI(b){k}{l}{m}(d:l≠[])(h:∀x∈l,0<=x/\x<=m)(c:0<=k)(a:k<=1000000000):0<=AU b k l/\AU b k l<=m:=h _ (Vy b c a d)
abbrev Eu:List Int:=[3]++([4]++([2]++([5]++[])))
abbrev Kq:List Int:=[0]++([1]++([0]++([1]++([2]++([3]++[])))))
abbrev Ei:List Int:=[1]++([2]++([0]++([1]++[])))
abbrev LG:List Int:=[0]++([1]++([0]++([1]++([3]++[]))))
abbrev Ls:List Int:=[2]++([3]++([1]++([4]++[])))
def GH(b:List UInt8)(l:List Int)(n:Nat)(k:Int):List Int:=(DA n).map fun(i:Nat)=>AU b (k+(i:Int)) l
theorem Tw(b)(l)(n)(k):(GH b l n k).length=n:=by simp[GH]
theorem yp(b)(l)(n)(k):GH b l (n+1) k=GH b l n k++[AU b (k+n) l]:=by
 unfold GH;rw[List.range_succ,List.map_append];rfl
def Cj(b:List UInt8)(k:Int):Int:=k+1+AU b k Eu
def GU(b:List UInt8)(k:Int):Int:=Cj b k+1+AU b (Cj b k) Ei
def FT(b:List UInt8)(k:Int):List Int:=GH b Kq (AU b k Eu).toNat (k+1)
def Hb(b:List UInt8)(k:Int):List Int:=GH b LG (AU b (Cj b k) Ei).toNat (Cj b k+1)
def Dg(b:List UInt8)(k:Int):List AG×Int:=Cb (CB b (FT b k).length (Hb b k).length 3) (AU b (GU b k) Ls).toNat (GU b k+1)
def mg(b:List UInt8)(k:Int):BE:=⟨FT b k,Hb b k,(Dg b k).1⟩
def pY:BE:=⟨[0,1],[],[⟨1,1,RE,⟨2,0,[]⟩,0,[],[]⟩]⟩
def GL(b:List UInt8)(k:Int):BE:=if BZ (mg b k)=V then mg b k else pY
section
variable(b:List UInt8){k:Int}
theorem iU(c:0<=k)(a:k<=1000000000):0<=AU b k Eu/\AU b k Eu<=5:=TI b At At c a
theorem sH(c:0<=k)(a:k<=1000000000):0<=AU b k Ls/\AU b k Ls<=4:=TI b At At c a
theorem kG(c:0<=k)(a:k<=1000000000):0<=AU b k Ei/\AU b k Ei<=2:=TI b At At c a
theorem jP(a:0<=k)(c:k<=10000000):k+1<=Cj b k/\Cj b k<=k+6:=by
 have:=iU b a O;unfold Cj;omega
theorem Zg(c:0<=k)(a:k<=10000000):k+2<=GU b k/\GU b k<=k+9:=by
 have d:=jP b c a;have:=kG b (k:=Cj b k) O O;unfold GU;omega
theorem U3:EV 3=34170/\EV 2=8442:=ED
theorem uS(a c):WA (CB b a c 3) 34170:=λj d h=>by
 have e:=U3.1;have f:=WR b a c 3 j d O;have g:=dV b a c 3 j d O;omega
theorem YT(c:0<=k)(a:k<=10000000):GU b k<=(Dg b k).2/\(Dg b k).2<=k+150000/\Ah (Dg b k).1<=150000:=by
 have d:=Zg b c a;have g:=sH b (k:=GU b k) O O;have e:=Xv (f:=CB b (FT b k).length (Hb b k).length 3) O (uS b _ _) (AU b (GU b k) Ls).toNat (GU b k+1) O O;unfold Dg;omega
theorem pJ(a:0<=k)(c:k<=10000000):(FT b k).length<=5:=by
 have:=iU b a O;unfold FT;rw[Tw];omega
theorem uA(c:0<=k)(a:k<=10000000):(Hb b k).length<=2:=by
 have d:=jP b c a;have:=kG b (k:=Cj b k) O O;unfold Hb;rw[Tw];omega
theorem oe(c:0<=k)(a:k<=10000000):(GL b k).size<=160000:=by
 have d:=YT b c a;have f:=pJ b c a;have e:=uA b c a;unfold GL;split
 ·show(FT b k).length+(Hb b k).length+Ah (Dg b k).1<=160000
  omega
 decide
end
def Bw(b:List UInt8)(k:Int):BE:=if Ch b (Dg b k).2 4=0 then GL b k else if JL (GL b k)=V then JW (GL b k)else GL b k
theorem Q8{p}:(JW p).size<=p.size:=by
 unfold JW;split
 ·have h:=(iI (p:=p) (by rename_i h;unfold JL at h;simp at h;exact h.1)).1
  show(MJ p).1.length+(MJ p).2.length+Ah p.b<=_;unfold BE.size;have a:(MJ p).1.length=J p.s:=h.1;have c:(MJ p).2.length=J p.r:=h.2;omega
 simp[BE.size,Ah]
theorem yH(b){k}(c:0<=k)(a:k<=10000000):(Bw b k).size<=160000:=by
 have d:=oe b c a;have e:=Q8 (p:=GL b k);unfold Bw
 (repeat' split)<;>omega
def BJ(c:List UInt8):List UInt8:=c.take 2000
abbrev ee:List Int:=[1]++([2]++([3]++([6]++([2]++([7]++([9]++([4]++([5]++([11]++([8]++([12]++[])))))))))))
abbrev Gu:List Int:=[0]++([1]++([2]++([3]++([255]++([128]++([7]++([4]++([100]++[]))))))))
def Mm(b:List UInt8)(j:Int)(a:Nat):Int:=if a=0/\(AU b j ee=4\/AU b j ee=5)then 2 else AU b j ee
def cp(b:List UInt8)(j:Int)(d e:Nat)(a n:Int)(c:UInt8):Int:=
 if c=114 then Ch b j 3 else if c=99 then AU b j Gu else if c=118 then Ch b j d else if c=97 then Ch b j e else if c=111 then 4+Ch b j 7 else a+1+Ch b j (n-a-1)
def Kb(b:List UInt8)(j:Int)(d e:Nat)(a n:Int)(c:List UInt8)(k:Nat):List Int:=(DA 4).map λi=>if i<k then cp b (j+i) d e a n (c.getD i 0)else 0
theorem pE(b)(j)(d e)(a n)(c)(k):(Kb b j d e a n c k).length=4:=by simp[Kb]
theorem d9(b)(j)(d f)(a n)(c){k}(g:k<4):Kb b j d f a n c (k+1)=(Kb b j d f a n c k).set k (cp b (j+k) d f a n (c.getD k 0)):=by
 apply List.ext_getElem (by simp[pE])
 intro i h l;rw[List.getElem_set];simp only[Kb,List.getElem_map,List.getElem_range];by_cases e:k=i
 ·subst e;simp
 rw[AO e];have:(i<k+1)↔(i<k):=O;simp only[this]
def iB(b:List UInt8)(j:Int)(d a:Nat)(c n:Int):AV×Int:=
 (⟨Mm b j a,(Kb b (j+1) d a c n (FU (Mm b j a)) (FU (Mm b j a)).length).getD 0 0,(Kb b (j+1) d a c n (FU (Mm b j a)) (FU (Mm b j a)).length).getD 1 0,
  (Kb b (j+1) d a c n (FU (Mm b j a)) (FU (Mm b j a)).length).getD 2 0,(Kb b (j+1) d a c n (FU (Mm b j a)) (FU (Mm b j a)).length).getD 3 0⟩,j+1+(FU (Mm b j a)).length)
structure DJ where
 vals:List Int
 w:List (List Int)
def EN(l:List Int):Bool:=l.all λn=>Y (0<=n)&&Y (n<=255)
def Hh(a:List Int):Bool:=Y (J a=4)&&EN a
def CI(a b:Nat)(m:DJ):Bool:=Y (J m.vals=a)&&(Y (J m.w=b)&&(EN m.vals&&m.w.all Hh))
def Eh(b:List UInt8)(j:Int)(n:Nat):List Int:=(DA n).map λi:Nat=>AU b (j+i) Gu
theorem Sf(b)(j)(n):(Eh b j n).length=n:=by simp[Eh]
theorem Y3(b)(j):Eh b j 0=[]:=rfl
theorem fz(b)(j)(k):Eh b j (k+1)=Eh b j k++[AU b (j+k) Gu]:=by
 unfold Eh;rw[List.range_succ,List.map_append];rfl
def JH(b:List UInt8)(j:Int)(n:Nat):List (List Int):=(DA n).map λi:Nat=>Eh b (j+4*i) 4
theorem lF(b)(j)(n):(JH b j n).length=n:=by simp[JH]
theorem u7(b)(j)(k):JH b j (k+1)=JH b j k++[Eh b (j+4*k) 4]:=by
 unfold JH;rw[List.range_succ,List.map_append];rfl
theorem mX(b)(j)(n):∀a∈JH b j n,J a=4:=by
 intro a c;obtain⟨i,_,rfl⟩:=List.mem_map.1 c;exact Sf _ _ _
def Hr(b:List UInt8)(j:Int)(a c:Nat):DJ:=⟨Eh b j a,JH b (j+a) c⟩
section
variable{nv na:Nat}{m:DJ}
theorem S8(h:¬(J m.vals:Int)=nv):CI nv na m=false:=by unfold CI;rw[decide_eq_false (p:=J m.vals=nv) O];rfl
theorem J9(h:¬(J m.w:Int)=na):CI nv na m=false:=by unfold CI;rw[decide_eq_false (p:=J m.w=na) O];simp
theorem e0(h:EN m.vals=U):CI nv na m=false:=by unfold CI;rw[h];simp
theorem zf(b:(J m.vals:Int)=nv)(c:(J m.w:Int)=na)(a:EN m.vals=V):CI nv na m=m.w.all Hh:=by
 unfold CI;rw[decide_eq_true (p:=J m.vals=nv) O,decide_eq_true (p:=J m.w=na) O,a];rfl
theorem KQ(h:CI nv na m=V):J m.vals=nv/\(J m.w)=na/\EN m.vals=V/\m.w.all Hh=true:=by
 unfold CI at h;simpa[Aj]using h
end
def Kz(x:Int):Prop:=0<=x/\x<=255
theorem oH{l:List Int}(h:∀x∈l,Kz x)(i):Kz (l.getD i 0):=by
 rw[Bu];cases a:l[i]? with
 |none=>exact⟨Int.le_refl _,ED⟩
 |some x=>exact h x (FF a)
theorem kO{l}(h:EN l=V):∀x∈l,Kz x:=λx a=>by
 have:=Bt.1 h x a;simpa[Kz]using this
theorem xP{l:List (List Int)}(h:l.all Hh=V)(i):∀x∈l.getD i [],Kz x:=by
 rw[Bu];cases a:l[i]? with
 |none=>intro x a;simp at a
 |some r=>
  have:=Bt.1 h r (FF a);unfold Hh at this;rw[Aj]at this;exact kO this.2
structure Ex where
 pc:Int
 regs:List Int
 mem:DJ
def EJ(m:DJ)(x:AV)(r:List Int):List Int:=
 if x.op=1 then r.set x.a.toNat x.b
 else if x.op=2 then r.set x.a.toNat (m.vals.getD x.b.toNat 0)
 else if x.op=4 then r.set x.a.toNat ((m.w.getD x.b.toNat []).getD ((r.getD x.c.toNat 0).tmod 4).toNat 0)
 else if x.op=6 then r.set x.a.toNat (Hu x.b (r.getD x.c.toNat 0) (r.getD x.d.toNat 0))
 else if x.op=7 then r.set x.a.toNat (if r.getD x.b.toNat 0=0 then r.getD x.d.toNat 0 else r.getD x.c.toNat 0)
 else if x.op=10 then r.set x.a.toNat ((r.getD x.a.toNat 0+255).tmod 256)
 else r
def Es(m:DJ)(x:AV)(r:List Int):DJ:=
 if x.op=3 then⟨m.vals.set x.a.toNat (r.getD x.b.toNat 0),m.w⟩
 else if x.op=5 then⟨m.vals,m.w.set x.a.toNat ((m.w.getD x.a.toNat []).set ((r.getD x.b.toNat 0).tmod 4).toNat (r.getD x.c.toNat 0))⟩
 else m
def EX(x:AV)(r:List Int):List (Int×Int):=
 if x.op=4 then [(2,x.b*4+(r.getD x.c.toNat 0).tmod 4)]
 else if x.op=5 then [(3,x.a*4+(r.getD x.b.toNat 0).tmod 4)]
 else if x.op=11 then [(4,r.getD x.a.toNat 0)]
 else []
def Ea(x:AV)(r:List Int)(c:Int):Int:=
 if x.op=8 then x.a
 else if x.op=9 then(if r.getD x.a.toNat 0=0 then x.b else c+1)
 else if x.op=10 then(if(r.getD x.a.toNat 0+255).tmod 256=0 then c+1 else x.b)
 else if x.op=13 then c
 else c+1
def Ho(c:BY)(s:Ex):AV:=DM c s.pc.toNat
def Bk(c:BY)(s:Ex):Ex:=⟨Ea (Ho c s) s.regs s.pc,EJ s.mem (Ho c s) s.regs,Es s.mem (Ho c s) s.regs⟩
def FH(c:BY)(s:Ex):List (Int×Int):=(5,s.pc)::EX (Ho c s) s.regs
def Gp(c:BY)(s:Ex):Bool:=Y ((Ho c s).op=13)
def CC(c:BY)(s:Ex):Nat->Ex
 |0=>s
 |n+1=>Bk c (CC c s n)
def ET(c:BY)(s:Ex):Nat->List (Int×Int)
 |0=>[]
 |n+1=>ET c s n++FH c (CC c s n)
def Kk(c:BY)(s:Ex):Bool:=Y (0<=s.pc)&&(Y (s.pc<J c.l)&&(Y (J s.regs=14)&&(EN s.regs&&CI (J c.s) (J c.r) s.mem)))
theorem UU{c}{s}(h:Kk c s=V):0<=s.pc/\s.pc<J c.l/\(J s.regs)=14/\EN s.regs=V/\CI (J c.s) (J c.r) s.mem=true:=by
 unfold Kk at h;simpa[Aj]using h
theorem qq{c}{s:Ex}(a:0<=s.pc)(f:s.pc<J c.l)(d:J s.regs=14)(e:EN s.regs=V)(b:CI (J c.s) (J c.r) s.mem=V):Kk c s=true:=by
 unfold Kk;simp[*]
theorem ae4{l}(h:∀x∈l,Kz x):EN l=true:=by
 unfold EN;rw[Bt];intro x a;have:=h x a;unfold Kz at this;simp[this]
theorem Qr{l}(h:EN l=V){x}(b:Kz x)(i):EN (l.set i x)=true:=by
 refine ae4 λy c=>?_
 rcases List.mem_or_eq_of_mem_set c with a|a
 ·exact kO h y a
 exact a▸b
theorem Pu{l}(h:EN l=V)(i):Kz (l.getD i 0):=oH (kO h) i
theorem X4{x n:Int}(h:0<=x)(a:0<n)(b:n<=256):Kz (x.tmod n):=by
 have:=Int.tmod_lt_of_pos x a;have:=Int.tmod_nonneg n h;unfold Kz;omega
theorem uX(m)(x)(r):(EJ m x r).length=J r:=by
 unfold EJ;repeat' split
 all_goals simp
theorem vi{c}{m}{x}{r}(h:Ev c x=V)(i:CI (J c.s) (J c.r) m=V)(f:EN r=V):EN (EJ m x r)=true:=by
 obtain⟨l,n,j,k⟩:=KQ i;unfold EJ;split
 ·rename_i e
  refine Qr f ?_ _;unfold Ev at h;simp only[Aj,decide_eq_true_eq]at h;obtain⟨_,⟨⟨_,g⟩,_⟩,_⟩:=h;rw[e]at g;simp[FU,LV,OQ]at g;exact g
 split
 ·exact Qr f (Pu j _) _
 split
 ·exact Qr f (oH (xP k _) _) _
 split
 ·have a:=Pu f x.c.toNat
  have b:=Pu f x.d.toNat;exact Qr f (O5 a.1 a.2 b.1 b.2) _
 split
 ·refine Qr f ?_ _
  split<;>exact Pu f _
 split
 ·have a:=Pu f x.a.toNat
  exact Qr f (X4 (by have:=a.1;omega) ED ED) _
 exact f
theorem xn{a}(b:J a=4)(c:EN a=V):Hh a=true:=by unfold Hh;simp[b,c]
theorem nr{a}(h:Hh a=V):J a=4/\EN a=true:=by
 unfold Hh at h;simpa[Aj]using h
theorem ac3{e f}{m}{r}(x)(j:CI e f m=V)(i:EN r=V):CI e f (Es m x r)=true:=by
 obtain⟨l,o,n,c⟩:=KQ j
 have d:∀b:DJ,J b.vals=e->J b.w=f->EN b.vals=V->b.w.all Hh=V->CI e f b=true:=by
  intro b p s q t;unfold CI;simp[p,s,q];simpa using t
 unfold Es;split
 ·exact d _ (by simp[l]) o (Qr n (Pu i _) _) c
 split
 ·refine d _ l (by simp[o]) n ?_
  rw[Bt]at c ⊢;intro a g;rcases List.mem_or_eq_of_mem_set g with h|h
  ·exact c a h
  subst h;by_cases k:x.a.toNat<J m.w
  ·have:=nr (c (m.w.getD x.a.toNat []) (by rw[Bu,CF k];exact EL k))
   exact xn (by simp only[GP];exact this.1) (Qr this.2 (Pu i _) _)
  rw[List.set_eq_of_length_le O]at g;exact c _ g
 exact j
theorem lR{c}{s:Ex}(b:0<=s.pc)(a:s.pc<J c.l):Ho c s=c.l[s.pc.toNat]'O:=IV O
theorem jx{c}{s:Ex}(b:Bp c=V)(d:0<=s.pc)(a:s.pc<J c.l):Ev c (Ho c s)=true:=by
 rw[lR d a];exact(Hj b).2.2.2.1 _ O
theorem mz{c}{s:Ex}(b:0<=s.pc)(a:s.pc<J c.l):Cz c s.pc=Fv (Ho c s) s.pc:=by
 rw[lR b a];exact VO O
theorem rI{x}{r}{d}(h:x.op≠13):Ea x r d∈Fv x d:=by
 unfold Ea Fv;rw[AO h];by_cases c:x.op=8
 ·simp[c]
 rw[AO c,AO c];by_cases b:x.op=9
 ·rw[AZ b,AZ (.inl b)];split<;>simp
 rw[AO b];by_cases a:x.op=10
 ·rw[AZ a,AZ (.inr a)];split<;>simp
 rw[AO a,AO h,AO O];simp
theorem zu{x}{r}{a}(h:x.op=13):Ea x r a=a:=by
 unfold Ea;rw[AO O,AO O,AO O,AZ h]
theorem uF{c}{s:Ex}(e:Bp c=V)(a:0<=s.pc)(b:s.pc<J c.l):(0<=(Bk c s).pc/\(Bk c s).pc<J c.l)/\((Bk c s).pc=s.pc\/(Bk c s).pc∈Cz c s.pc):=by
 by_cases h:(Ho c s).op=13
 ·have:(Bk c s).pc=s.pc:=zu h
  rw[this];exact⟨⟨a,b⟩,.inl rfl⟩
 have d:(Bk c s).pc∈Cz c s.pc:=by rw[mz a b];exact rI h
 exact⟨Py e a d,.inr d⟩
theorem k8{c}{s}(e:Bp c=V)(h:Kk c s=V):Kk c (Bk c s)=true:=by
 obtain⟨a,b,i,f,d⟩:=UU h;have g:=(uF e a b).1;exact qq g.1 g.2 ((uX _ _ _).trans i) (vi (jx e a b) d f) (ac3 _ d f)
theorem Vg{c}{s}(a:Bp c=V)(h:Kk c s=V):∀n,Kk c (CC c s n)=V
 |0=>h
 |n+1=>k8 a (Vg a h n)
theorem x3(x)(r):(EX x r).length<=1:=by
 unfold EX;repeat' split
 all_goals simp
theorem qo(c)(s):(FH c s).length<=2:=by
 have:=x3 (Ho c s) s.regs;unfold FH;simp;omega
theorem rm(c)(s):∀n,(ET c s n).length<=2*n
 |0=>by simp[ET]
 |n+1=>by
  have:=rm c s n;have:=qo c (CC c s n);rw[ET,Az];omega
def DV(m:DJ):Ex:=⟨0,Ac 14 0,m⟩
theorem ax{c}{m}(a:Bp c=V)(h:CI (J c.s) (J c.r) m=V):Kk c (DV m)=true:=by
 have b:=(Hj a).2.1;exact qq (Int.le_refl _) (by show(0:Int)<_;omega) rfl (show EN (Ac 14 0)=V by decide) h
structure Ob(c:BY)(m:DJ)(n:Nat):Prop where
 lt:n<20000
 fin:Gp c (CC c (DV m) n)=V
 no:∀k,k<n->Gp c (CC c (DV m) k)=U
def zo(c:BY)(m:DJ)(n:Nat):DJ:=(CC c (DV m) (n+1)).mem
def KN(c:BY)(m:DJ)(n:Nat):List (Int×Int):=ET c (DV m) (n+1)
theorem F3{c}{m}{n}(g:n<20000)(h:Gp c (CC c (DV m) n)=V):∃k,k<=n/\Ob c m k:=by
 induction n using Nat.strongRecOn with
 | _ n e =>
  by_cases b:∃k,k<n/\Gp c (CC c (DV m) k)=V
  ·obtain⟨k,a,d⟩:=b
   obtain⟨j,l,f⟩:=e k a O d;exact⟨j,O,f⟩
  refine⟨n,BR _,g,h,λk a=>?_⟩
  cases i:Gp c (CC c (DV m) k)with
  |false=>rfl
  |true=>exact absurd ⟨k,a,i⟩ b
theorem lE{c}{m}{n k}(h:Ob c m n)(g:Ob c m k):n=k:=by
 rcases Nat.lt_trichotomy n k with a|a|a
 ·have:=g.no n a;rw[h.fin]at this;cases this
 ·exact a
 have:=h.no k a;rw[g.fin]at this;cases this
theorem I6(c)(m):(∃n,Ob c m n)\/∀k,k<20000->Gp c (CC c (DV m) k)=false:=by
 by_cases h:∃k,k<20000/\Gp c (CC c (DV m) k)=V
 ·obtain⟨k,a,d⟩:=h
  obtain⟨j,_,b⟩:=F3 a d;exact .inl ⟨j,b⟩
 right;intro k a;cases e:Gp c (CC c (DV m) k)with
 |false=>rfl
 |true=>exact absurd ⟨k,a,e⟩ h
structure Ld(c:BY)(a b:DJ):Prop where
 v:∀i:Int,Dt (Gd c.s i)=U->a.vals.getD i.toNat 0=b.vals.getD i.toNat 0
 r:∀i:Int,Dt (Gd c.r i)=U->a.w.getD i.toNat []=b.w.getD i.toNat []
def Nh(t:List Bool)(r s:List Int):Prop:=∀k:Nat,t.getD k U=U->r.getD k 0=s.getD k 0
theorem TW(l)(i k)(x:Int):(l.set i x).getD k 0=if i=k/\i<(J l)then x else l.getD k 0:=by
 rw[Bu,IT];by_cases h:i=k
 ·subst h
  rw[AZ rfl];by_cases a:i<J l
  ·rw[AZ a,AZ ⟨rfl,a⟩];rfl
  rw[AO a,AO λh=>a h.2];simp[a]
 rw[AO h,AO λg=>h g.1];exact(Bu ..).symm
theorem tT(l)(i k)(x:List Int):(l.set i x).getD k []=if i=k/\i<(J l)then x else l.getD k []:=by
 rw[Bu,IT];by_cases h:i=k
 ·subst h
  rw[AZ rfl];by_cases a:i<J l
  ·rw[AZ a,AZ ⟨rfl,a⟩];rfl
  rw[AO a,AO λh=>a h.2];simp[a]
 rw[AO h,AO λg=>h g.1];exact(Bu ..).symm
theorem mZ(l)(i k)(x):(l.set i x).getD k U=if i=k/\i<(J l)then x else l.getD k false:=by
 rw[Bu,IT];by_cases h:i=k
 ·subst h
  rw[AZ rfl];by_cases a:i<J l
  ·rw[AZ a,AZ ⟨rfl,a⟩];rfl
  rw[AO a,AO λh=>a h.2];simp[a]
 rw[AO h,AO λg=>h g.1];exact(Bu ..).symm
theorem VH{t}{r s}(h:Nh t r s)(f:J r=14)(d:J s=14)(j:J t=14){i}{x y}{b}(c:b=U->x=y):Nh (t.set i b) (r.set i x) (s.set i y):=by
 intro k a;rw[mZ]at a;rw[TW,TW];by_cases e:i=k/\i<14
 ·rw[AZ ⟨e.1,O⟩]at a
  rw[AZ ⟨e.1,O⟩,AZ ⟨e.1,O⟩];exact c a
 rw[AO λg=>e ⟨g.1,O⟩]at a
 rw[AO λg=>e ⟨g.1,O⟩,AO λg=>e ⟨g.1,O⟩];exact h k a
theorem Y9{t}{r s}(h:Nh t r s){x}(a:DF t x=U):r.getD x.toNat 0=s.getD x.toNat 0:=h _ a
theorem K3{c}{x:AV}{a b}{d k}(f:Ld c a b)(m:CI d k a=V)(l:CI d k b=V){y z}(h:Dt (Gd c.s x.a)=U->y=z):Ld c ⟨a.vals.set x.a.toNat y,a.w⟩ ⟨b.vals.set x.a.toNat z,b.w⟩:=by
 refine⟨λi j=>?_,f.r⟩
 obtain⟨n,-⟩:=KQ m;obtain⟨Bs,-⟩:=KQ l;dsimp only;rw[TW,TW,n,Bs];by_cases g:x.a.toNat=i.toNat/\x.a.toNat<d
 ·rw[AZ g,AZ g]
  refine h ?_;have e:Gd c.s x.a=Gd c.s i:=by unfold Gd;rw[g.1]
  rw[e];exact j
 rw[AO g,AO g];exact f.v i j
theorem H8{c}{x:AV}{a b}{l d}(f:Ld c a b)(n:CI l d a=V)(m:CI l d b=V){k}{y z}(h:Dt (Gd c.r x.a)=U->y=z):Ld c ⟨a.vals,a.w.set x.a.toNat ((a.w.getD x.a.toNat []).set k y)⟩ ⟨b.vals,b.w.set x.a.toNat ((b.w.getD x.a.toNat []).set k z)⟩:=by
 refine⟨f.v,λi j=>?_⟩
 obtain⟨_,o,-⟩:=KQ n;obtain⟨_,Bs,-⟩:=KQ m;dsimp only;rw[tT,tT,o,Bs];by_cases g:x.a.toNat=i.toNat/\x.a.toNat<d
 ·rw[AZ g,AZ g]
  have e:Gd c.r x.a=Gd c.r i:=by unfold Gd;rw[g.1]
  rw[h (by rw[e];exact j),g.1,f.r i j]
 rw[AO g,AO g];exact f.r i j
theorem vB{c}{x}{t}{a b}{r s}{M N}(H:Ev c x=V)(i:HY c x t=0)(n:Ld c a b)(L:CI M N a=V)(f:CI M N b=V)(p:Nh t r s)(C:J r=14)(D:J s=14)(G:J t=14):
  (∃y z,y≠z/\EX x r=[(4,y)]/\EX x s=[(4,z)])\/
  (EX x r=EX x s/\Nh (Dh c x t) (EJ a x r) (EJ b x s)/\Ld c (Es a x r) (Es b x s)/\∀u,Ea x r u=Ea x s u):=by
 have F:1<=x.op/\x.op<=13:=by
  unfold Ev at H;simp only[Aj,decide_eq_true_eq]at H;exact H.1
 have o:=λy P=>Y9 (x:=y) p P
 rcases eA F.1 F.2 with e|e|e|e|e|e|e|e|e|e|e|e|e
 ·right
  refine⟨by simp[EX,e],?_,by simpa[Es,e]using n,by simp[Ea,e]⟩
  simp only[Dh,GT,EJ,e];exact VH p C D G λ_=>rfl
 ·right
  refine⟨by simp[EX,e],?_,by simpa[Es,e]using n,by simp[Ea,e]⟩
  have j:Dh c x t=t.set x.a.toNat (Dt (Gd c.s x.b)):=by simp[Dh,GT,e]
  have l:∀m r,EJ m x r=r.set x.a.toNat (m.vals.getD x.b.toNat 0):=λm r=>by simp[EJ,e]
  rw[j,l,l];exact VH p C D G λh=>n.v _ h
 ·right
  refine⟨by simp[EX,e],by simpa[EJ,Dh,GT,e]using p,?_,by simp[Ea,e]⟩
  have j:∀(m:DJ) (r:List Int),Es m x r=⟨m.vals.set x.a.toNat (r.getD x.b.toNat 0),m.w⟩:=λm r=>by simp[Es,e]
  rw[j,j];refine K3 n L f λh=>o _ ?_
  unfold HY at i;rw[AZ e,h]at i;cases f:DF t x.b with
  |false=>rfl
  |true=>rw[f]at i;simp at i
 ·right
  have f:DF t x.c=false:=by
   unfold HY at i;rw[AO O,AZ e]at i;cases f:DF t x.c with
   |false=>rfl
   |true=>rw[f]at i;simp at i
  have q:∀r,EX x r=[(2,x.b*4+(r.getD x.c.toNat 0).tmod 4)]:=λr=>by simp[EX,e]
  refine⟨by rw[q,q,o _ f],?_,by simpa[Es,e]using n,by simp[Ea,e]⟩
  have j:Dh c x t=t.set x.a.toNat (Dt (Gd c.r x.b)):=by simp[Dh,GT,e,f]
  have l:∀m r,EJ m x r=r.set x.a.toNat ((m.w.getD x.b.toNat []).getD ((r.getD x.c.toNat 0).tmod 4).toNat 0):=λm r=>by simp[EJ,e]
  rw[j,l,l];exact VH p C D G λh=>by rw[o _ f,n.r _ h]
 ·right
  have f:DF t x.b=U/\(Dt (Gd c.r x.a)=U->DF t x.c=U):=by
   unfold HY at i;rw[AO O,AO O,AZ e]at i;cases f:DF t x.b with
   |true=>rw[f]at i;simp at i
   |false=>
    refine⟨rfl,λh=>?_⟩
    rw[f,h]at i;cases f:DF t x.c with
    |false=>rfl
    |true=>rw[f]at i;simp at i
  have q:∀r,EX x r=[(3,x.a*4+(r.getD x.b.toNat 0).tmod 4)]:=λr=>by simp[EX,e]
  refine⟨by rw[q,q,o _ f.1],by simpa[EJ,Dh,GT,e]using p,?_,by simp[Ea,e]⟩
  have j:∀(m:DJ) (r:List Int),Es m x r=⟨m.vals,m.w.set x.a.toNat ((m.w.getD x.a.toNat []).set ((r.getD x.b.toNat 0).tmod 4).toNat (r.getD x.c.toNat 0))⟩:=λm r=>by simp[Es,e]
  rw[j,j,o _ f.1];exact H8 n L ‹_› λh=>o _ (f.2 h)
 ·right
  refine⟨by simp[EX,e],?_,by simpa[Es,e]using n,by simp[Ea,e]⟩
  have j:Dh c x t=t.set x.a.toNat (DF t x.c||DF t x.d):=by simp[Dh,GT,e]
  have l:∀m r,EJ m x r=r.set x.a.toNat (Hu x.b (r.getD x.c.toNat 0) (r.getD x.d.toNat 0)):=λm r=>by simp[EJ,e]
  rw[j,l,l];refine VH p C D G λh=>?_
  rw[Bool.or_eq_false_iff]at h;rw[o _ h.1,o _ h.2]
 ·right
  refine⟨by simp[EX,e],?_,by simpa[Es,e]using n,by simp[Ea,e]⟩
  have j:Dh c x t=t.set x.a.toNat (DF t x.b||DF t x.c||DF t x.d):=by simp[Dh,GT,e]
  have l:∀m r,EJ m x r=r.set x.a.toNat (if r.getD x.b.toNat 0=0 then r.getD x.d.toNat 0 else r.getD x.c.toNat 0):=λm r=>by simp[EJ,e]
  rw[j,l,l];refine VH p C D G λh=>?_
  rw[Bool.or_eq_false_iff,Bool.or_eq_false_iff]at h;rw[o _ h.1.1,o _ h.1.2,o _ h.2]
 ·right
  exact⟨by simp[EX,e],by simpa[EJ,Dh,GT,e]using p,by simpa[Es,e]using n,by simp[Ea,e]⟩
 ·right
  have f:DF t x.a=false:=by
   unfold HY at i;rw[AO O,AO O,AO O,AZ (.inl e)]at i;cases f:DF t x.a with
   |false=>rfl
   |true=>rw[f]at i;simp at i
  exact⟨by simp[EX,e],by simpa[EJ,Dh,GT,e]using p,by simpa[Es,e]using n,λu=>(by
   have q:∀r,Ea x r u=if r.getD x.a.toNat 0=0 then x.b else u+1:=λr=>by simp[Ea,e]
   rw[q,q,o _ f])⟩
 ·right
  have f:DF t x.a=false:=by
   unfold HY at i;rw[AO O,AO O,AO O,AZ (.inr e)]at i;cases f:DF t x.a with
   |false=>rfl
   |true=>rw[f]at i;simp at i
  refine⟨by simp[EX,e],?_,by simpa[Es,e]using n,λu=>?_⟩
  rotate_left
  ·have q:∀r,Ea x r u=if(r.getD x.a.toNat 0+255).tmod 256=0 then u+1 else x.b:=λr=>by simp[Ea,e]
   rw[q,q,o _ f]
  have j:Dh c x t=t:=by simp[Dh,GT,e]
  have l:∀m r,EJ m x r=r.set x.a.toNat ((r.getD x.a.toNat 0+255).tmod 256):=λm r=>by simp[EJ,e]
  rw[j,l,l,o _ f];intro k E;rw[TW,TW,C,D];split
  ·rfl
  exact p k E
 ·by_cases h:r.getD x.a.toNat 0=s.getD x.a.toNat 0
  ·right
   have q:∀r,EX x r=[(4,r.getD x.a.toNat 0)]:=λr=>by simp[EX,e]
   refine⟨by rw[q,q,h],?_,by simpa[Es,e]using n,by simp[Ea,e]⟩
   have j:Dh c x t=t.set x.a.toNat false:=by simp[Dh,GT,e]
   have l:∀m r,EJ m x r=r:=λm r=>by simp[EJ,e]
   rw[j,l,l];intro k E;rw[mZ]at E;by_cases g:x.a.toNat=k/\x.a.toNat<J t
   ·rw[<-g.1];exact h
   rw[AO g]at E;exact p k E
  left;exact⟨_,_,h,by simp[EX,e],by simp[EX,e]⟩
 ·right
  exact⟨by simp[EX,e],by simpa[EJ,Dh,GT,e]using p,by simpa[Es,e]using n,by simp[Ea,e]⟩
 right;exact⟨by simp[EX,e],by simpa[EJ,Dh,GT,e]using p,by simpa[Es,e]using n,by simp[Ea,e]⟩
def OV(v w:List (Int×Int)):Prop:=∃p y z q r,y≠z/\v=p++(4,y)::q/\w=p++(4,z)::r
theorem ZI{v w}(h:OV v w)(x y):OV (v++x) (w++y):=by
 obtain⟨p,a,b,q,r,c,e,d⟩:=h;exact⟨p,a,b,q++x,r++y,c,by rw[e];simp,by rw[d];simp⟩
structure gG(c:BY)(p:List (List Bool))(s t:Ex):Prop where
 pc:s.pc=t.pc
 rg:Nh (Bf p s.pc) s.regs t.regs
 mm:Ld c s.mem t.mem
 L:(Bf p s.pc).length≠0
theorem rQ{t a}{r s}(h:GO t a=V)(g:J t=J a)(f:Nh t r s):Nh a r s:=by
 unfold GO at h;simp only[Aj]at h;intro k d;apply f;cases c:t.getD k U with
 |false=>rfl
 | true =>
  have e:k<J t:=by
   rcases Du k (J t)with b|b
   ·exact b
   rw[Bu,FO b]at c;cases c
  have:=Bt.1 h.2 k (GW.2 e);rw[c,d]at this;simp at this
theorem P4{c}(r:Bp c=V){p}(j:Kc c p)(v:VF c p (J p)=U){s t}(h:gG c p s t)(F:Kk c s=V)(D:Kk c t=V):
  (OV (FH c s) (FH c t))\/(FH c s=FH c t/\Gp c s=Gp c t/\(gG c p (Bk c s) (Bk c t))):=by
 obtain⟨k,m,G,Q,w⟩:=UU F;obtain⟨R,N,x,P,E⟩:=UU D;have i:Ho c t=Ho c s:=by unfold Ho;rw[h.pc]
 have M:s.pc.toNat<J p:=by rw[j.1];omega
 have u:((s.pc.toNat:Nat):Int)=s.pc:=O;have g:(Bf p s.pc).length=14:=(Wd j.2.1 s.pc).resolve_left h.L
 have C:HY c (Ho c s) (Bf p s.pc)=0:=by
  rcases Ss.1 v s.pc.toNat M with l|l
  ·rw[u]at l;exact absurd l h.L
  rw[u]at l;exact l
 rcases vB (jx r k m) C h.mm w E h.rg G x g with⟨y,z,Bs,q,CZ⟩|⟨Bs,q,CZ,H⟩
 ·left
  refine⟨[(5,s.pc)],y,z,[],[],Bs,?_,?_⟩
  ·unfold FH;rw[q];rfl
  unfold FH;rw[i,CZ,h.pc];rfl
 right;refine⟨by unfold FH;rw[i,Bs,h.pc],by unfold Gp;rw[i],?_⟩
 have o:(Bk c t).pc=(Bk c s).pc:=by
  show Ea (Ho c t) t.regs t.pc=Ea (Ho c s) s.regs s.pc;rw[i, <-H,h.pc]
 have d:(Bf p (Bk c s).pc).length≠0/\Nh (Bf p (Bk c s).pc) (Bk c s).regs (Bk c t).regs:=by
  have f:Nh (Dh c (Ho c s) (Bf p s.pc)) (Bk c s).regs (Bk c t).regs:=by
   show Nh _ (EJ s.mem (Ho c s) s.regs) (EJ t.mem (Ho c t) t.regs);rw[i];exact q
  rcases(uF r k m).2 with e|e
  ·by_cases n:(Ho c s).op=13
   ·rw[e]
    refine⟨h.L,?_⟩;have:Dh c (Ho c s) (Bf p s.pc)=Bf p s.pc:=by simp[Dh,GT,n]
    rwa[this]at f
   have L:(Bk c s).pc∈Cz c s.pc:=by rw[mz k m];exact rI n
   have a:=SA j k m h.L L;have b:(Bf p (Bk c s).pc).length≠0:=by unfold GO at a;simp only[Aj,decide_eq_true_eq]at a;omega
   exact⟨b,rQ a (by rw[RM,g,(Wd j.2.1 _).resolve_left b]) f⟩
  have a:=SA j k m h.L e;have b:(Bf p (Bk c s).pc).length≠0:=by unfold GO at a;simp only[Aj,decide_eq_true_eq]at a;omega
  exact⟨b,rQ a (by rw[RM,g,(Wd j.2.1 _).resolve_left b]) f⟩
 refine⟨o.symm,d.2,?_,d.1⟩;show Ld c (Es s.mem (Ho c s) s.regs) (Es t.mem (Ho c t) t.regs);rw[i];exact CZ
section
variable{c:BY}{a b:DJ}
theorem mw(d:Bp c=V){p}(e:Kc c p)(f:VF c p (J p)=U)(j:CI (J c.s) (J c.r) a=V)(i:CI (J c.s) (J c.r) b=V)(l:Ld c a b):∀n,
  OV (ET c (DV a) n) (ET c (DV b) n)\/(ET c (DV a) n=ET c (DV b) n/\gG c p (CC c (DV a) n) (CC c (DV b) n))
 |0=>.inr ⟨rfl,rfl,λ_ _=>rfl,l,e.2.2.1⟩
 | n + 1 => by
  rcases mw d e f j i l n with h|⟨k,t⟩
  ·left;rw[ET,ET];exact ZI h _ _
  rcases P4 d e f t (Vg d (ax d j) n) (Vg d (ax d i) n)with g|⟨Bs,w,CZ⟩
  ·left
   rw[ET,ET,k];obtain⟨v,y,z,q,r,m,u,o⟩:=g;exact⟨ET c (DV b) n++v,y,z,q,r,m,by rw[u];simp,by rw[o];simp⟩
  right;exact⟨by rw[ET,ET,k,Bs],CZ⟩
theorem YO(c)(s){n k}(h:n<=k):∃l,ET c s k=ET c s n++l:=by
 obtain⟨d,rfl⟩:=Nat.le.dest h;induction d with
 |zero=>exact⟨[],At⟩
 |succ d f=>
  obtain⟨l,e⟩:=f O;exact⟨l++FH c (CC c s (n+d)),by rw[<-Nat.add_assoc,ET,e,Fj]⟩
theorem zc{v w}(h:OV v w):OV w v:=by
 obtain⟨p,a,b,q,r,d,g,f⟩:=h;exact⟨p,b,a,r,q,λe=>d e.symm,f,g⟩
theorem Xk(q:Bp c=V)(t:Mw c)(m:CI (J c.s) (J c.r) a=V)(j:CI (J c.s) (J c.r) b=V)(l:Ld c a b){n}(h:Ob c a n):(Ob c b n/\KN c a n=KN c b n)\/OV (KN c a n) (KN c b n):=by
 obtain⟨p,v,i⟩:=t;by_cases e:OV (KN c a n) (KN c b n)
 ·exact .inr e
 left
 have d:∀k,k<=n+1->ET c (DV a) k=ET c (DV b) k/\Gp c (CC c (DV a) k)=Gp c (CC c (DV b) k):=by
  intro k f;rcases mw q v i m j l k with g|⟨Bs,o⟩
  ·exfalso
   obtain⟨y,u⟩:=YO c (DV a) f;obtain⟨x,w⟩:=YO c (DV b) f;apply e;unfold KN;rw[u,w];exact ZI g _ _
  exact⟨Bs,by unfold Gp Ho;rw[o.pc]⟩
 exact⟨⟨h.lt,by rw[<-(d n O).2];exact h.fin,λk f=>by rw[<-(d k O).2];exact h.no k f⟩,(d (n+1) (BR _)).1⟩
theorem M3(q:Bp c=V)(t:Mw c)(p:CI (J c.s) (J c.r) a=V)(o:CI (J c.s) (J c.r) b=V)(f:Ld c a b){n k}(h:Ob c a n)(g:Ob c b k):KN c a n=KN c b k\/OV (KN c a n) (KN c b k):=by
 have m:Ld c b a:=⟨λi h=>(f.v i h).symm,λi h=>(f.r i h).symm⟩
 rcases Nat.le_total n k with u|u
 ·rcases Xk q t p o f h with⟨d,j⟩|d
  ·rw[<-lE d g];exact .inl j
  obtain⟨l,e⟩:=YO c (DV b) (show n+1<=k+1 by omega)
  right;have:=ZI d [] l;rw[II]at this;unfold KN at this ⊢;rw[e];exact this
 rcases Xk q t o p m g with⟨d,j⟩|d
 ·rw[<-lE d h];exact .inl j.symm
 obtain⟨l,e⟩:=YO c (DV a) (show k+1<=n+1 by omega)
 right;have:=ZI (zc d) l [];rw[II]at this;unfold KN at this ⊢;rw[e];exact this
end
section
variable{c:BY}{s:Ex}
theorem Fq:Bk c s=⟨Ea (c.l.getD s.pc.toNat K) s.regs s.pc,EJ s.mem (c.l.getD s.pc.toNat K) s.regs,Es s.mem (c.l.getD s.pc.toNat K) s.regs⟩/\FH c s=(5,s.pc)::EX (c.l.getD s.pc.toNat K) s.regs:=⟨rfl,rfl⟩
theorem i9(h:(c.l.getD s.pc.toNat K).op=1):Bk c s=⟨s.pc+1,s.regs.set (c.l.getD s.pc.toNat K).a.toNat (c.l.getD s.pc.toNat K).b,s.mem⟩/\FH c s=[(5,s.pc)]:=by
 rw[Fq.1,Fq.2];generalize (c.l.getD s.pc.toNat K)=x at*;simp[Ea,EJ,Es,EX,h]
theorem e6(h:(c.l.getD s.pc.toNat K).op=2):Bk c s=⟨s.pc+1,s.regs.set (c.l.getD s.pc.toNat K).a.toNat (s.mem.vals.getD (c.l.getD s.pc.toNat K).b.toNat 0),s.mem⟩/\FH c s=[(5,s.pc)]:=by
 rw[Fq.1,Fq.2];generalize (c.l.getD s.pc.toNat K)=x at*;simp[Ea,EJ,Es,EX,h]
theorem xJ(h:(c.l.getD s.pc.toNat K).op=3):Bk c s=⟨s.pc+1,s.regs,⟨s.mem.vals.set (c.l.getD s.pc.toNat K).a.toNat (s.regs.getD (c.l.getD s.pc.toNat K).b.toNat 0),s.mem.w⟩⟩/\FH c s=[(5,s.pc)]:=by
 rw[Fq.1,Fq.2];generalize (c.l.getD s.pc.toNat K)=x at*;simp[Ea,EJ,Es,EX,h]
theorem K5(h:(c.l.getD s.pc.toNat K).op=4):Bk c s=⟨s.pc+1,s.regs.set (c.l.getD s.pc.toNat K).a.toNat ((s.mem.w.getD (c.l.getD s.pc.toNat K).b.toNat []).getD ((s.regs.getD (c.l.getD s.pc.toNat K).c.toNat 0).tmod 4).toNat 0),s.mem⟩/\FH c s=[(5,s.pc)]++[(2,(c.l.getD s.pc.toNat K).b*4+(s.regs.getD (c.l.getD s.pc.toNat K).c.toNat 0).tmod 4)]:=by
 rw[Fq.1,Fq.2];generalize (c.l.getD s.pc.toNat K)=x at*;simp[Ea,EJ,Es,EX,h]
theorem I1(h:(c.l.getD s.pc.toNat K).op=5):Bk c s=⟨s.pc+1,s.regs,⟨s.mem.vals,s.mem.w.set (c.l.getD s.pc.toNat K).a.toNat ((s.mem.w.getD (c.l.getD s.pc.toNat K).a.toNat []).set ((s.regs.getD (c.l.getD s.pc.toNat K).b.toNat 0).tmod 4).toNat (s.regs.getD (c.l.getD s.pc.toNat K).c.toNat 0))⟩⟩/\FH c s=[(5,s.pc)]++[(3,(c.l.getD s.pc.toNat K).a*4+(s.regs.getD (c.l.getD s.pc.toNat K).b.toNat 0).tmod 4)]:=by
 rw[Fq.1,Fq.2];generalize (c.l.getD s.pc.toNat K)=x at*;simp[Ea,EJ,Es,EX,h]
theorem P0(h:(c.l.getD s.pc.toNat K).op=6):Bk c s=⟨s.pc+1,s.regs.set (c.l.getD s.pc.toNat K).a.toNat (Hu (c.l.getD s.pc.toNat K).b (s.regs.getD (c.l.getD s.pc.toNat K).c.toNat 0) (s.regs.getD (c.l.getD s.pc.toNat K).d.toNat 0)),s.mem⟩/\FH c s=[(5,s.pc)]:=by
 rw[Fq.1,Fq.2];generalize (c.l.getD s.pc.toNat K)=x at*;simp[Ea,EJ,Es,EX,h]
theorem Wm(h:(c.l.getD s.pc.toNat K).op=7)(d:¬s.regs.getD (c.l.getD s.pc.toNat K).b.toNat 0=0):Bk c s=⟨s.pc+1,s.regs.set (c.l.getD s.pc.toNat K).a.toNat (s.regs.getD (c.l.getD s.pc.toNat K).c.toNat 0),s.mem⟩/\FH c s=[(5,s.pc)]:=by
 rw[Fq.1,Fq.2];generalize (c.l.getD s.pc.toNat K)=x at*;simp only[Ea,EJ,Es,EX,h,d];simp
theorem XF(h:(c.l.getD s.pc.toNat K).op=7)(e:s.regs.getD (c.l.getD s.pc.toNat K).b.toNat 0=0):Bk c s=⟨s.pc+1,s.regs.set (c.l.getD s.pc.toNat K).a.toNat (s.regs.getD (c.l.getD s.pc.toNat K).d.toNat 0),s.mem⟩/\FH c s=[(5,s.pc)]:=by
 rw[Fq.1,Fq.2];generalize (c.l.getD s.pc.toNat K)=x at*;simp only[Ea,EJ,Es,EX,h,e];simp
theorem F2(h:(c.l.getD s.pc.toNat K).op=8):Bk c s=⟨(c.l.getD s.pc.toNat K).a,s.regs,s.mem⟩/\FH c s=[(5,s.pc)]:=by
 rw[Fq.1,Fq.2];generalize (c.l.getD s.pc.toNat K)=x at*;simp[Ea,EJ,Es,EX,h]
theorem Vl(h:(c.l.getD s.pc.toNat K).op=9)(d:s.regs.getD (c.l.getD s.pc.toNat K).a.toNat 0=0):Bk c s=⟨(c.l.getD s.pc.toNat K).b,s.regs,s.mem⟩/\FH c s=[(5,s.pc)]:=by
 rw[Fq.1,Fq.2];generalize (c.l.getD s.pc.toNat K)=x at*;simp only[Ea,EJ,Es,EX,h,d];simp
theorem Wl(h:(c.l.getD s.pc.toNat K).op=9)(b:¬s.regs.getD (c.l.getD s.pc.toNat K).a.toNat 0=0):Bk c s=⟨s.pc+1,s.regs,s.mem⟩/\FH c s=[(5,s.pc)]:=by
 rw[Fq.1,Fq.2];generalize (c.l.getD s.pc.toNat K)=x at*;simp only[Ea,EJ,Es,EX,h,b];simp
theorem Wh(h:(c.l.getD s.pc.toNat K).op=10)(d:¬(s.regs.getD (c.l.getD s.pc.toNat K).a.toNat 0+255).tmod 256=0):Bk c s=⟨(c.l.getD s.pc.toNat K).b,s.regs.set (c.l.getD s.pc.toNat K).a.toNat ((s.regs.getD (c.l.getD s.pc.toNat K).a.toNat 0+255).tmod 256),s.mem⟩/\FH c s=[(5,s.pc)]:=by
 rw[Fq.1,Fq.2];generalize (c.l.getD s.pc.toNat K)=x at*;simp only[Ea,EJ,Es,EX,h,d];simp
theorem XA(h:(c.l.getD s.pc.toNat K).op=10)(b:(s.regs.getD (c.l.getD s.pc.toNat K).a.toNat 0+255).tmod 256=0):Bk c s=⟨s.pc+1,s.regs.set (c.l.getD s.pc.toNat K).a.toNat ((s.regs.getD (c.l.getD s.pc.toNat K).a.toNat 0+255).tmod 256),s.mem⟩/\FH c s=[(5,s.pc)]:=by
 rw[Fq.1,Fq.2];generalize (c.l.getD s.pc.toNat K)=x at*;simp only[Ea,EJ,Es,EX,h,b];simp
theorem zM(h:(c.l.getD s.pc.toNat K).op=11):Bk c s=⟨s.pc+1,s.regs,s.mem⟩/\FH c s=[(5,s.pc)]++[(4,s.regs.getD (c.l.getD s.pc.toNat K).a.toNat 0)]:=by
 rw[Fq.1,Fq.2];generalize (c.l.getD s.pc.toNat K)=x at*;simp[Ea,EJ,Es,EX,h]
theorem C5(h:(c.l.getD s.pc.toNat K).op=12):Bk c s=⟨s.pc+1,s.regs,s.mem⟩/\FH c s=[(5,s.pc)]:=by
 rw[Fq.1,Fq.2];generalize (c.l.getD s.pc.toNat K)=x at*;simp[Ea,EJ,Es,EX,h]
theorem zR(h:(c.l.getD s.pc.toNat K).op=13):Bk c s=⟨s.pc,s.regs,s.mem⟩/\FH c s=[(5,s.pc)]:=by
 rw[Fq.1,Fq.2];generalize (c.l.getD s.pc.toNat K)=x at*;simp[Ea,EJ,Es,EX,h]
theorem rz(a:Bp c=V)(h:Kk c s=V):Ev c (c.l.getD s.pc.toNat K)=true:=by
 obtain⟨b,d,-⟩:=UU h;exact jx a b d
theorem yZ(b:Bp c=V)(h:Kk c s=V):1<=(c.l.getD s.pc.toNat K).op/\(c.l.getD s.pc.toNat K).op<=13:=by
 have a:=rz b h;unfold Ev at a;simp only[Aj,decide_eq_true_eq]at a;exact a.1
theorem xG(b:Bp c=V):J c.r<=2/\(J c.s)<=12:=by
 obtain⟨a,-⟩:=Hj b;unfold Gf at a;simp only[Aj,decide_eq_true_eq]at a;omega
theorem a9{l}{i}{v:Int}(h:i<J l):(l.set i v).getD i 0=v:=by
 rw[Bu,IT,AZ rfl,AZ h];rfl
end
theorem aa7{b}{j n}(h:n<1):Ch b j n=0:=by unfold Ch;rw[AZ (.inl h)]
theorem vq{b}{j n}(h:(J b:Int)=0):Ch b j n=0:=by unfold Ch;rw[AZ (.inr O)]
theorem p9{b}{j n:Int}(h:¬n<1)(a:¬(J b:Int)=0)(c:j+1-1<J b):Ch b j n=((b.getD (j+1-1).toNat 0).toNat:Int).tmod n:=by
 unfold Ch;rw[AO O,AZ O,Int.add_sub_cancel]
theorem u6{b}{j n:Int}(h:¬n<1)(a:¬(J b:Int)=0)(c:¬j+1-1<J b):Ch b j n=(Ro (Jr b (j+1-1)) ((Jr b (j+1-1)).tdiv 64)).tmod n:=by
 unfold Ch;rw[AO O,AO O,Int.add_sub_cancel]
theorem TB{x:Int}{n:Nat}(a:0<=x)(b:¬(n:Int)=0):0<=x.tmod n/\x.tmod n<n/\(x.tmod n).toNat<n:=by
 have:=js (x:=x) (n:=n) a O;omega
theorem My(b)(j n)(m:0<=j)(l:j<=1000000000):AN.ok prog ⟨69,[.P 0 0,A n],[.C [.N 1,A j],Aw b],[.C [.N 1,A (j+1)],Aw b],A (Ch b j n)⟩:=by
  refine BP 99 func69 [.C [.N 1,A j],Aw b] [(0,.P 0 0),(1,A n)] λG=>?_;have i:=Vt (b.getD ((j+1-1).tmod (J b)).toNat 0);have d:=Vt (b.getD (((j+1-1)*7+3).tmod (J b)).toNat 0);refine B (AQ G AB [(4,A 0)] λG=>B (CT G AB [0,1] [.C [.N 1,A (j+1)],Aw b] [(0,.P 0 0),(1,A n),(4,A 0)] [BC (j+1)] (BA O) λG=>B (B ?_)));cases a:(Y (n<1))
  ·
   have f:=EB a;refine AQ G (CR (AS a Ag) (Ad [(3,8,0),(1009,1009,0)])) [(24,AC ((J b:Int)==0))] λG=>Cu G (λc g=>?_) λc g=>?_
   ·
    refine Aq (B (Bi G AB [(5,A (j+1-1))] [BC (j+1-1)] (BA O) λG=>B (B (AQ G AB [(36,AC (Y (j+1-1<(J b:Int))))] λG=>DZ G (λe h=>?_) λe h=>?_))))
    ·
     refine Aq (B (JB G AB [0,1,3,7,0,0,32,96,224,480,1008,2047,4095,8191,16383,0,32768,98304,229376,0,524288,1572864,0,4194304,12582912,29360128,62914560,133693440,268402688,536838144,1073709056,2147450880,4294967295,0,8589934592,34359738367,0,0,137438953472,412316860416,962072674304,2061584302080,4329327034368,8727373545472,17592186044415,35184372088831] [(6,A (((b.getD ((j+1-1).tmod (J b:Int)).toNat 0).toNat:Int)*131+((b.getD (((j+1-1)*7+3).tmod (J b:Int)).toNat 0).toNat:Int)*1117+(j+1-1)*29+(j+1-1).tdiv (J b:Int)*53))] [(J b:Int)≠0,(0:Int)<=(j+1-1).tmod (J b:Int),(j+1-1).tmod (J b:Int)<J b,((j+1-1).tmod (J b:Int)).toNat<J b,IntKind.i64.wrap ((b.getD ((j+1-1).tmod (J b:Int)).toNat (0:UInt8)).toNat:Int)=((b.getD ((j+1-1).tmod (J b:Int)).toNat (0:UInt8)).toNat:Int),BC (((b.getD ((j+1-1).tmod (J b:Int)).toNat (0:UInt8)).toNat:Int)*131),BC ((j+1-1)*7),BC ((j+1-1)*7+3),(J b:Int)≠0,(0:Int)<=((j+1-1)*7+3).tmod (J b:Int),((j+1-1)*7+3).tmod (J b:Int)<J b,(((j+1-1)*7+3).tmod (J b:Int)).toNat<J b,IntKind.i64.wrap ((b.getD (((j+1-1)*7+3).tmod (J b:Int)).toNat (0:UInt8)).toNat:Int)=((b.getD (((j+1-1)*7+3).tmod (J b:Int)).toNat (0:UInt8)).toNat:Int),BC (((b.getD (((j+1-1)*7+3).tmod (J b:Int)).toNat (0:UInt8)).toNat:Int)*1117),BC (((b.getD ((j+1-1).tmod (J b:Int)).toNat (0:UInt8)).toNat:Int)*131+((b.getD (((j+1-1)*7+3).tmod (J b:Int)).toNat (0:UInt8)).toNat:Int)*1117),BC ((j+1-1)*29),BC (((b.getD ((j+1-1).tmod (J b:Int)).toNat (0:UInt8)).toNat:Int)*131+((b.getD (((j+1-1)*7+3).tmod (J b:Int)).toNat (0:UInt8)).toNat:Int)*1117+(j+1-1)*29),(J b:Int)≠0,BC ((j+1-1).tdiv (J b:Int)),BC ((j+1-1).tdiv (J b:Int)*53),BC (((b.getD ((j+1-1).tmod (J b:Int)).toNat (0:UInt8)).toNat:Int)*131+((b.getD (((j+1-1)*7+3).tmod (J b:Int)).toNat (0:UInt8)).toNat:Int)*1117+(j+1-1)*29+(j+1-1).tdiv (J b:Int)*53)] ⟨Ab,((TB O O).1),((TB O O).2.1),((TB O O).2.2),(Kp O O),(Hw O),(Hw O),(Hw O),Ab,((TB O O).1),((TB O O).2.1),((TB O O).2.2),(Kp O O),(Hw O),(Hw O),(Hw O),(Hw O),Ab,(by have:=Vw (b:=b) (k:=j+1-1) O O O;exact Kp (by unfold Jr at this;omega) (by unfold Jr at this;omega)),(by have:=Vw (b:=b) (k:=j+1-1) O O O;exact Kp (by unfold Jr at this;omega) (by unfold Jr at this;omega)),(by have:=Vw (b:=b) (k:=j+1-1) O O O;exact Kp (by unfold Jr at this;omega) (by unfold Jr at this;omega)),Ay⟩ λG=>?_))
     refine Ec (B (Bi G AB [(6,A (Ro (((b.getD ((j+1-1).tmod (J b:Int)).toNat 0).toNat:Int)*131+((b.getD (((j+1-1)*7+3).tmod (J b:Int)).toNat 0).toNat:Int)*1117+(j+1-1)*29+(j+1-1).tdiv (J b:Int)*53) ((((b.getD ((j+1-1).tmod (J b:Int)).toNat 0).toNat:Int)*131+((b.getD (((j+1-1)*7+3).tmod (J b:Int)).toNat 0).toNat:Int)*1117+(j+1-1)*29+(j+1-1).tdiv (J b:Int)*53).tdiv 64)))] [(64:Int)≠0,BC ((((b.getD ((j+1-1).tmod (J b:Int)).toNat (0:UInt8)).toNat:Int)*131+((b.getD (((j+1-1)*7+3).tmod (J b:Int)).toNat (0:UInt8)).toNat:Int)*1117+(j+1-1)*29+(j+1-1).tdiv (J b:Int)*53).tdiv (64:Int))] ⟨O,(by have:=lY (b:=b) (k:=j+1-1) O O O;exact Kp (by unfold Jr at this;omega) (by unfold Jr at this;omega)),Ay⟩ λG=>B (Bi G AB [(4,A ((Ro (((b.getD ((j+1-1).tmod (J b:Int)).toNat 0).toNat:Int)*131+((b.getD (((j+1-1)*7+3).tmod (J b:Int)).toNat 0).toNat:Int)*1117+(j+1-1)*29+(j+1-1).tdiv (J b:Int)*53) ((((b.getD ((j+1-1).tmod (J b:Int)).toNat 0).toNat:Int)*131+((b.getD (((j+1-1)*7+3).tmod (J b:Int)).toNat 0).toNat:Int)*1117+(j+1-1)*29+(j+1-1).tdiv (J b:Int)*53).tdiv 64)).tmod n))] [n≠0] ⟨O,Ay⟩ λG=>AT ?_)));exact DE ((Ro (((b.getD ((j+1-1).tmod (J b:Int)).toNat 0).toNat:Int)*131+((b.getD (((j+1-1)*7+3).tmod (J b:Int)).toNat 0).toNat:Int)*1117+(j+1-1)*29+(j+1-1).tdiv (J b:Int)*53) ((((b.getD ((j+1-1).tmod (J b:Int)).toNat 0).toNat:Int)*131+((b.getD (((j+1-1)*7+3).tmod (J b:Int)).toNat 0).toNat:Int)*1117+(j+1-1)*29+(j+1-1).tdiv (J b:Int)*53).tdiv 64)).tmod n) G [0,1] (u6 O O O)
    refine B (Bi G AB [(4,A (((b.getD (j+1-1).toNat 0).toNat:Int).tmod n))] (CD (j+1-1) ((j+1-1).toNat) (J b) ((IntKind.i64.wrap ((b.getD (j+1-1).toNat (0:UInt8)).toNat:Int)=((b.getD (j+1-1).toNat (0:UInt8)).toNat:Int))::((n≠0)::[]))) (CE O ⟨(by have:=Vt (b.getD (j+1-1).toNat 0);exact Kp O O),⟨O,Ay⟩⟩) λG=>AT (Ar ?_));exact DE (((b.getD (j+1-1).toNat 0).toNat:Int).tmod n) G [0,1] (p9 O O O)
   refine B (AQ G AB [] λG=>AT (Ar ?_));exact DE 0 G [0,1] (vq O)
  have f:=EC a;refine AQ G (CR (AS a Ag) (Ad [(3,8,0),(1009,1009,0)])) [(24,AC V)] λG=>Ba G V Au (B (AQ G AB [] λG=>AT (Ar ?_)));exact DE 0 G [0,1] (aa7 O)
theorem La(b)(j)(l)(a:l≠[])(d:0<=j)(c:j<=1000000000):AN.ok prog ⟨109,[.P 0 0,.N 2],[.C [.N 1,A j],Aw b,W l],[.C [.N 1,A (j+1)],Aw b,W l],A (AU b j l)⟩:=by
 refine BP 12 func109 [.C [.N 1,A j],Aw b,W l] [(0,.P 0 0),(1,.N 2)] λG=>?_;refine B (AQ G AB [(4,A 0)] λG=>B (CT G (Ai 4 [0,1] (My b j ((J l:Int)) Ab Ab)) [0,1,2] [.C [.N 1,A (j+1)],Aw b,W l] [(4,A (l.getD (Ch b j (J l:Int)).toNat 0))] [(0:Int)<=Ch b j (J l:Int),Ch b j (J l:Int)<J l,(Ch b j (J l:Int)).toNat<J l] ⟨((bw b d c a).1),((bw b d c a).2.1),((bw b d c a).2.2),Ay⟩ λG=>AT ?_));exact Br G [0,1,2]
theorem vn(c)(d:J c<=2000):AN.ok prog ⟨26,[.N 0],[Aw c],[Aw c,.C [.N 0,A 0]],.P 1 0⟩:=by
 refine BP 11 func26 [Aw c] [(0,.N 0)] λG=>?_;refine B (AQ G AB [(2,.v (.pointer I))] λG=>B (B (BS G AB [(0,.N 0),(2,.v (.pointer I)),(5,AC (Y ((J c:Int)>2000)))] λG=>?_)));cases a:(Y ((J c:Int)>2000))
 ·have b:=EB a;refine Bo G _ a (Aq (B (AM G AB [0,17] [Aw c,.C [.N 0,A 0]] [(2,.P 1 0)] λG=>AT ?_)));exact Br G [0,1]
 have b:=EC a;exact False.elim O
theorem S6(c)(d:2000<J c):AN.ok prog ⟨26,[.N 0],[Aw c],[Aw c,.C [.N 2,A 0],Aw ((c.take 2000).drop 0)],.P 1 0⟩:=by
 refine BP 11 func26 [Aw c] [(0,.N 0)] λG=>?_;refine B (AQ G AB [(2,.v (.pointer I))] λG=>B (B (BS G AB [(0,.N 0),(2,.v (.pointer I)),(5,AC (Y ((J c:Int)>2000)))] λG=>?_)));cases a:(Y ((J c:Int)>2000))
 ·have b:=EB a;exact False.elim O
 have b:=EC a;refine Ba G _ a (CT G AB [0,9] [Aw c,Aw (List.drop 0 (Ae (Int.toNat 2000) c))] [(0,.N 1),(2,.v (.pointer I))] [(0:Int)<=2000,(2000:Int)<=J c] ⟨O,O,Ay⟩ λG=>B (AM G AB [0,1,18] [Aw c,Aw (List.drop 0 (Ae (Int.toNat 2000) c)),.C [.N 1,A 0]] [(2,.P 2 0)] λG=>AT ?_));exact Br G [0,2,1]
abbrev Nx(b:List UInt8)(j:Int)(d a:List Int)(c:List AG):List AI:=[.C [.N 1,A j],Aw b,W d,W a,AE c]
abbrev iR(e:AF):List AI:=[.Q (.P e.k)]
abbrev ew(e:AF)(r:Nat):AA:=.agg [A e.t,A e.v,.F r]
theorem qe{b}{a j}(h:Ch b j 3=0):DI b a j=⟨1,AU b (j+1) TH,[]⟩:=AZ h
theorem mP{b}{a j}(h:¬Ch b j 3=0):DI b a j=⟨2,Ch b (j+1) a,[]⟩:=AO h
theorem Uc(b)(j)(c a)(d)(l:0<=j)(i:j<=900000000):AN.ok prog ⟨188,[.P 0 0,Ao 2],Nx b j c a d,Nx b (j+2) c a d++iR (DI b (J c) j),ew (DI b (J c) j) 5⟩:=by
 refine BP 18 func188 [.C [.N 1,A j],Aw b,W c,W a,AE d] [(0,.P 0 0),(1,Ao 2)] λG=>?_;refine B (AM G AB [0,1,2,3,4,5,13] [.C [.N 1,A j],Aw b,W c,W a,AE d,.C (Al 2),.C [A 0,A 0,AK]] [(0,.P 0 0),(3,.P 5 0),(4,.P 6 0)] λG=>B (B (AM G (Ai 1 [0,1] (My b j 3 Ab O)) (AH 7) [.C [.N 1,A (j+1)],Aw b,W c,W a,AE d,.C (Al 2),.C [A 0,A 0,AK]] [(0,.P 0 0),(3,.P 5 0),(4,.P 6 0),(7,AC (Ch b j 3==0))] λG=>Cu G (λg f=>?_) λg f=>?_)))
 ·refine Aq (B (AM G (Ai 4 [0,1] (My b (j+1) ((J c:Int)) O O)) [0,1,2,3,4,6] [.C [.N 1,A (j+1+1)],Aw b,W c,W a,AE d,.C [A 2,A (Ch b (j+1) (J c:Int)),AK]] [(4,.P 5 0)] λG=>AT ?_));obtain⟨h,G⟩:=G.nilT 6 (.P []) [.C [.N 1,A (j+1+1)],Aw b,W c,W a,AE d,.C [A 2,A (Ch b (j+1) (J c:Int)),.F 6]] [(4,.P 5 0)];exact Cr (.agg [A 2,A (Ch b (j+1) (J c:Int)),.F 6]) G [0,1,2,3,4,6] (by show _=AA.ren (CX [0,1,2,3,4,6]) (.agg [A (DI b (J c:Int) j).t,A (DI b (J c:Int) j).v,.F 5]);rw[mP O]<;>rfl) (by show _=BM [0,1,2,3,4,6] [.C [.N 1,A (j+2)],Aw b,W c,W a,AE d,.Q (D.P (DI b (J c:Int) j).k)];have e:(j+2:Int)=(j+1+1):=O;rw[e,mP O]<;>rfl)
 refine B (AM G (Ai 2 [0,1,15] (AN.lend (La b (j+1) TH (by simp) O O) [.no,.no,.L 3])) (AH 7) [.C [.N 1,A (j+1+1)],Aw b,W c,W a,AE d,.C (Al 2),.C [A 1,A (AU b (j+1) TH),AK]] [(0,.P 0 0),(3,.P 5 0),(4,.P 6 0)] λG=>AT (Ar ?_));obtain⟨h,G⟩:=G.nilT 7 (.P []) [.C [.N 1,A (j+1+1)],Aw b,W c,W a,AE d,.C (Al 2),.C [A 1,A (AU b (j+1) TH),.F 7]] [(0,.P 0 0),(3,.P 5 0),(4,.P 6 0)];exact Cr (.agg [A 1,A (AU b (j+1) TH),.F 7]) G [0,1,2,3,4,7] (by show _=AA.ren (CX [0,1,2,3,4,7]) (.agg [A (DI b (J c:Int) j).t,A (DI b (J c:Int) j).v,.F 5]);rw[qe O]<;>rfl) (by show _=BM [0,1,2,3,4,7] [.C [.N 1,A (j+2)],Aw b,W c,W a,AE d,.Q (D.P (DI b (J c:Int) j).k)];have e:(j+2:Int)=(j+1+1):=O;rw[e,qe O]<;>rfl)
theorem F7(b a)(c)(e):AN.ok prog (CJ 193 [Ao 0,Dc e 3] ([W b,W a,AE c]++Em e) (AC (CQ (J b) (J a) e))):=Of ⟨b,a,c⟩ e
abbrev ZT(b:List UInt8)(c a:List Int)(e:List AG)(d:Nat)(j n:Int):AN:=⟨197,[.P 0 0,Ao 2,A n],Nx b j c a e,Nx b (DC b (J c) (J a) d j).2 c a e++iR (DC b (J c) (J a) d j).1,ew (DC b (J c) (J a) d j).1 5⟩
section
variable{b:List UInt8}{nv na:Int}{d:Nat}{j:Int}
theorem oN(h:d<2):DC b nv na d j=(DI b nv j,j+2):=by
 match d,h with
 |0,_=>rfl
 |1,_=>simp[DC]
theorem kK(h:0<d)(a:Ch b j 4=0):DC b nv na (d+1) j=(DI b nv (j+1),j+3):=by rw[DC,AO O,AZ a]
theorem bt(h:0<d)(a:¬Ch b j 4=0)(e:AU b (j+1) DT=3)(c:na=0):DC b nv na (d+1) j=(DI b nv (j+2),j+4):=by rw[DC,AO O,AO a,AZ e,AZ c]
theorem ZK(h:0<d)(a:¬Ch b j 4=0)(e:AU b (j+1) DT=3)(c:¬na=0):DC b nv na (d+1) j=(⟨3,Ch b (j+2) na,[DI b nv (j+3)]⟩,j+5):=by rw[DC,AO O,AO a,AZ e,AO c]
abbrev Gv(b:List UInt8)(nv na:Int)(d:Nat)(j:Int)(k:Nat):List AF×Int:=Cb (DC b nv na d) k (j+2)
theorem nI(h:0<d)(a:¬Ch b j 4=0)(c:¬AU b (j+1) DT=3){m}(f:0<=m)(g:¬m>0):DC b nv na (d+1) j=(⟨AU b (j+1) DT,0,(Gv b nv na d j (Cm (AU b (j+1) DT)-m).toNat).1⟩,(Gv b nv na d j (Cm (AU b (j+1) DT)-m).toNat).2):=by
 have e:m=0:=O;rw[e,Int.sub_zero,DC,AO O,AO a,AO c]
theorem oJ{x m:Int}(a:m>0)(c:m<=x):Gv b nv na d j (x-(m-1)).toNat=((Gv b nv na d j (x-m).toNat).1++[(DC b nv na d (Gv b nv na d j (x-m).toNat).2).1],(DC b nv na d (Gv b nv na d j (x-m).toNat).2).2):=by
 rw[show(x-(m-1)).toNat=(x-m).toNat+1 by omega];rfl
theorem K7(c:0<=j)(a:j<=900000000):0<=Cm (AU b (j+1) DT)/\Cm (AU b (j+1) DT)<=3:=by
 have h:=Vy b (k:=j+1) (l:=DT) O O At;simp only[DQ,Eb,It,or_false]at h;rcases h with h|h|h|h|h|h|h|h|h<;>rw[h]<;>decide
theorem R4(g:0<=j){k}(a:k<=3):j+2<=(Gv b nv na d j k).2/\(Gv b nv na d j k).2<=j+2+3*Fl d:=by
 have l:=RH d;have h:=gB (f:=DC b nv na d) (c:=Fl d) (m:=3) O k (j+2) a λi _ _=>Wa b nv na d i
 have e:(k:Int)*Fl d<=3*Fl d:=Mj O O;unfold Gv;omega
theorem vD{x m:Int}(o:0<=j)(k:m>0)(e:m<=x)(n:x<=3)(l:j+Fl (d+1)<=800000000):(Gv b nv na d j (x-m).toNat).2+Fl d<=800000000:=by
 have p:=RH d;have g:Fl (d+1)=5+3*Fl d:=rfl;have a:(x-m).toNat<=2:=O;have h:=gB (f:=DC b nv na d) (c:=Fl d) (m:=2) O (x-m).toNat (j+2) a λi _ _=>Wa b nv na d i
 have e:((x-m).toNat:Int)*Fl d<=2*Fl d:=Mj O O;unfold Gv;omega
end
theorem ql(b)(c a)(e)(d:Nat)(g:d<2)(j n:Int)(i:n=d)(m:0<=j)(l:j<=900000000):AN.ok prog (ZT b c a e d j n):=by
 refine BP 62 func197 [.C [.N 1,A j],Aw b,W c,W a,AE e] [(0,.P 0 0),(1,Ao 2),(2,A n)] λG=>?_;refine B (AM G AB [0,1,2,3,4,5,13] [.C [.N 1,A j],Aw b,W c,W a,AE e,.C (Al 2),.C [A 0,A 0,AK]] [(0,.P 0 0),(2,A n),(4,.P 5 0),(6,.P 6 0)] λG=>B (B ?_));cases f:(Y (n<2))
 ·have h:=EB f;exact False.elim O
 have h:=EC f;refine AQ G (CR (AS f Ag) [(3,0),(4,0),(5,0),(1006,0)]) [(16,AC V)] λG=>Ba G V Au (B (AM G (Ai 2 (AH 5) (Uc b j c a e Ab Ab)) [0,1,2,3,4,5,6,23] [.C [.N 1,A (j+2)],Aw b,W c,W a,AE e,.C (Al 2),.C [A (DI b (J c:Int) j).t,A (DI b (J c:Int) j).v,.F 7],.Q (D.P (DI b (J c:Int) j).k)] [(0,.P 0 0),(2,A n),(4,.P 5 0),(6,.P 6 0)] λG=>AT (Ar ?_)));exact Cr (.agg [A (DI b (J c:Int) j).t,A (DI b (J c:Int) j).v,.F 7]) G [0,1,2,3,4,7] (by show _=AA.ren (CX [0,1,2,3,4,7]) (.agg [A (DC b (J c:Int) (J a:Int) d j).1.t,A (DC b (J c:Int) (J a:Int) d j).1.v,.F 5]);rw[oN g]<;>rfl) (by show _=BM [0,1,2,3,4,7] [.C [.N 1,A (DC b (J c:Int) (J a:Int) d j).2],Aw b,W c,W a,AE e,.Q (D.P (DC b (J c:Int) (J a:Int) d j).1.k)];rw[oN g]<;>rfl)
abbrev ST(b:List UInt8)(c:List Int)(a:List Int)(d:Nat)(j:Int)(k:Int):=Gv b (J c:Int) (J a:Int) d j (Cm (AU b (j+1) DT)-k).toNat
abbrev Pz(b:List UInt8)(c:List Int)(a:List Int)(d:Nat)(j:Int):AA:=(.agg [A (DC b (J c:Int) (J a:Int) (d+1) j).1.t,A (DC b (J c:Int) (J a:Int) (d+1) j).1.v,.F 5])
abbrev Qq(b:List UInt8)(c:List Int)(a:List Int)(e:List AG)(d:Nat)(j:Int):List AI:=[.C [.N 1,A (DC b (J c:Int) (J a:Int) (d+1) j).2],Aw b,W c,W a,AE e,.Q (D.P (DC b (J c:Int) (J a:Int) (d+1) j).1.k)]
abbrev Sw:AI:=.C [A 0,A 0,.v (.slice I 0 0)]
abbrev MO(n:Int)(a:List (Nat×AA)):List (Nat×AA):=(0,.P 0 0)::(2,A n)::(4,.P 5 0)::(6,.P 6 0)::a
theorem t3(b)(e c)(f)(d:Nat)(i:0<d)(s:d<=100)(y:∀(j n:Int),n=d->0<=j->j+Fl d<=800000000->AN.ok prog (ZT b e c f d j n))(j n)(S:n=((d+1:Nat):Int))(o:0<=j)(E:j+Fl (d+1)<=800000000):AN.ok prog (ZT b e c f (d+1) j n):=by
  refine BP 62 func197 [.C [.N 1,A j],Aw b,W e,W c,AE f] [(0,.P 0 0),(1,Ao 2),(2,A n)] λG=>?_;have R:=RH d;have z:Fl (d+1)=5+3*Fl d:=rfl;have q:=K7 (b:=b) (j:=j) o O;refine B (AM G AB [0,1,2,3,4,5,13] [.C [.N 1,A j],Aw b,W e,W c,AE f,.C (Al 2),Sw] (MO n []) λG=>B (B ?_));cases l:(Y (n<2))
  ·
   have r:=EB l;refine AM G (BH (AX 4 [0,1] (My b j 4 Ab O) BG) (AS l Ag) [(3,0),(4,0),(5,0),(1006,0)]) (AH 7) [.C [.N 1,A (j+1)],Aw b,W e,W c,AE f,.C (Al 2),Sw] (MO n [(16,AC (Ch b j 4==0))]) λG=>Cu G (λL u=>?_) λL u=>?_
   ·
    refine Aq (B (AM G (Ai 2 [0,1,15] (AN.lend (La b (j+1) DT (by simp) O O) [.no,.no,.L 3])) (AH 7) [.C [.N 1,A (j+1+1)],Aw b,W e,W c,AE f,.C (Al 2),Sw] (MO n [(7,A (AU b (j+1) DT))]) λG=>B (B (AQ G AB [(24,AC (AU b (j+1) DT==3))] λG=>Cu G (λM x=>?_) λM x=>?_))))
    ·
     refine Aq (B (AM G AB [0,1,2,3,4,5,6,23] [.C [.N 1,A (j+1+1)],Aw b,W e,W c,AE f,.C (Al 2),Sw,.C [A (AU b (j+1) DT),A 0,AK]] (MO n [(7,A (AU b (j+1) DT)),(8,.P 7 0)]) λG=>B (B (BS G (Ai 1 [] (YU (AU b (j+1) DT))) (MO n [(8,.P 7 0),(9,A (Cm (AU b (j+1) DT)))]) λG=>BN ?_))));obtain⟨Q,G⟩:=G.nilT 8 (.P []) [.C [.N 1,A (j+1+1)],Aw b,W e,W c,AE f,.C (Al 2),.C [A 0,A 0,AK],.C [A (AU b (j+1) DT),A 0,.F 8]] (MO n [(8,.P 7 0),(9,A (Cm (AU b (j+1) DT)))]);replace G:=G.as [.C [.N 1,A (Gv b (J e:Int) (J c:Int) d j (Cm (AU b (j+1) DT)-Cm (AU b (j+1) DT)).toNat).2],Aw b,W e,W c,AE f,.C (Al 2),.C [A 0,A 0,AK],.C [A (AU b (j+1) DT),A 0,.F 8],.Q (D.P (Gv b (J e:Int) (J c:Int) d j (Cm (AU b (j+1) DT)-Cm (AU b (j+1) DT)).toNat).1)] (MO n [(8,.P 7 0),(9,A (Cm (AU b (j+1) DT)))]) (by have g:((Gv b (J e:Int) (J c:Int) d j (Cm (AU b (j+1) DT)-Cm (AU b (j+1) DT)).toNat).2:Int)=(j+1+1):=(by rw[Int.sub_self];show j+2=j+1+1;omega);have h:((Gv b (J e:Int) (J c:Int) d j (Cm (AU b (j+1) DT)-Cm (AU b (j+1) DT)).toNat).1:List AF)=([]):=(by rw[Int.sub_self];rfl);(first|rw[g,h]|simp only[g,h])<;>rfl) Au;refine DR (h:=Int) (λk=>0<=k/\k<=Cm (AU b (j+1) DT)) (λk=>k.toNat) (λk=>[.C [.N 1,A (Gv b (J e) (J c) d j (Cm (AU b (j+1) DT)-k).toNat).2],Aw b,W e,W c,AE f,.C (Al 2),.C [A 0,A 0,AK],.C [A (AU b (j+1) DT),A 0,.F 8],.Q (.P (Gv b (J e) (J c) d j (Cm (AU b (j+1) DT)-k).toNat).1)]) (λk=>[(0,.P 0 0),(2,A n),(4,.P 5 0),(6,.P 6 0),(8,.P 7 0),(9,A k)]) (Cm (AU b (j+1) DT)) O (Ap.at G _ _) ?_;clear G;intro k Q a w T G;replace G:=Ap.at G [.C [.N 1,A (ST b e c d j k).2],Aw b,W e,W c,AE f,.C (Al 2),Sw,.C [A (AU b (j+1) DT),A 0,.F 8],.Q (D.P (ST b e c d j k).1)] (MO n [(8,.P 7 0),(9,A k)]);have F:=R4 (b:=b) (nv:=J e) (na:=J c) (d:=d) (j:=j) o (k:=(Cm (AU b (j+1) DT)-k).toNat) O;have N:(Gv b (J e) (J c) d j (Cm (AU b (j+1) DT)-k).toNat).1.length=(Cm (AU b (j+1) DT)-k).toNat:=jh _ _ _;refine B (B (AQ G AB [(48,AC (Y (k>0)))] λG=>DZ G (λC H=>?_) λC H=>?_))
     · refine wp_exit (Bd (Bd (DG (B (AM G AB [0,1,2,3,4,6,8] [.C [.N 1,A (ST b e c d j k).2],Aw b,W e,W c,AE f,.C [A (AU b (j+1) DT),A 0,.F 6],.Q (D.P (ST b e c d j k).1)] [(6,.P 5 0)] λG=>AT ?_)))));exact Cr (.agg [A (AU b (j+1) DT),A 0,.F 6]) G [0,1,2,3,4,6] (by show _=AA.ren (CX [0,1,2,3,4,6]) (Pz b e c d j);unfold Pz;rw[nI (m:=k) i O O O O]<;>rfl) (by show _=BM [0,1,2,3,4,6] (Qq b e c f d j);unfold Qq;rw[nI (m:=k) i O O O O]<;>rfl)
     refine Aq (B (BN (Df G (Ai 6 (AH 5) (y ((Gv b (J e:Int) (J c:Int) d j (Cm (AU b (j+1) DT)-k).toNat).2) (n-1) O O (vD O O O O E))) [0,1,0,0,0,16,60,124,255,511,1023] [0,1,2,3,4,5,6,7,73] [.C [.N 1,A (DC b (J e:Int) (J c:Int) d (ST b e c d j k).2).2],Aw b,W e,W c,AE f,.C (Al 2),Sw,.C [A (AU b (j+1) DT),A 0,.F 8],.Q (D.P ((ST b e c d j k).1++[Ak (DC b (J e:Int) (J c:Int) d (ST b e c d j k).2).1]))] (MO n [(8,.P 7 0),(9,A k)]) ((BC (n-1))::(EP ((Gv b (J e:Int) (J c:Int) d j (Cm (AU b (j+1) DT)-k).toNat).1.length+1) 40 [])) ⟨Hw O,(EW O Ay)⟩ λG=>BL (Bi G AB [(9,A (k-1))] [BC (k-1)] (BA O) λG=>?_))));exact Ce G (k-1) O O (AH 9) (by have g:((Gv b (J e:Int) (J c:Int) d j (Cm (AU b (j+1) DT)-(k-1)).toNat).2:Int)=((DC b (J e:Int) (J c:Int) d (Gv b (J e:Int) (J c:Int) d j (Cm (AU b (j+1) DT)-k).toNat).2).2):=(by rw[oJ O O];done);have h:((Gv b (J e:Int) (J c:Int) d j (Cm (AU b (j+1) DT)-(k-1)).toNat).1:List AF)=((Gv b (J e:Int) (J c:Int) d j (Cm (AU b (j+1) DT)-k).toNat).1++[Ak (DC b (J e:Int) (J c:Int) d (Gv b (J e:Int) (J c:Int) d j (Cm (AU b (j+1) DT)-k).toNat).2).1]):=(by rw[oJ O O];(simp only[AF.eta];done));(first|rw[g,h]|simp only[g,h])<;>rfl)
    refine B (B (AQ G AB [(28,AC ((J c:Int)==0))] λG=>Cu G (λp P=>?_) λp P=>?_))
    · refine Aq (B (Fr G (BH (AX 5 [0,1] (My b (j+1+1) ((J c:Int)) O O) (AX 8 (AH 5) (Uc b (j+1+1+1) e c f O O) BG)) Ag []) [0,0,0,4,12,30,0,0,254,510,1023,2047] [0,1,2,3,4,5,6,79] [.C [.N 1,A (j+1+1+1+2)],Aw b,W e,W c,AE f,.C (Al 2),.C [A (AU b (j+1) DT),A (Ch b (j+1+1) (J c:Int)),.F 7],.Q (D.P [Ak (DI b (J e:Int) (j+1+1+1))])] (MO n [(7,A (AU b (j+1) DT))]) λG=>AT (Ar ?_)));exact Cr (.agg [A (AU b (j+1) DT),A (Ch b (j+1+1) (J c:Int)),.F 7]) G [0,1,2,3,4,7] (by show _=AA.ren (CX [0,1,2,3,4,7]) (Pz b e c d j);unfold Pz;have g:((DC b (J e:Int) (J c:Int) (d+1) j).1.t:Int)=(AU b (j+1) DT):=(by rw[ZK i O O O];(simp only[AF.t];omega));have h:((DC b (J e:Int) (J c:Int) (d+1) j).1.v:Int)=(Ch b (j+1+1) (J c:Int)):=(by rw[ZK i O O O];(simp only[Int.add_assoc,Int.reduceAdd,AF.v];done));(first|rw[g,h]|simp only[g,h])<;>rfl) (by show _=BM [0,1,2,3,4,7] (Qq b e c f d j);unfold Qq;have g:((DC b (J e:Int) (J c:Int) (d+1) j).2:Int)=(j+1+1+1+2):=(by rw[ZK i O O O];(simp only[Int.add_assoc,Int.reduceAdd];done));have h:((DC b (J e:Int) (J c:Int) (d+1) j).1.k:List AF)=([Ak (DI b (J e:Int) (j+1+1+1))]):=(by rw[ZK i O O O];show [_]=_;simp only[Int.add_assoc,Int.reduceAdd,AF.eta];done);(first|rw[g,h]|simp only[g,h])<;>rfl)
    refine B (AM G (Ai 2 (AH 5) (Uc b (j+1+1) e c f O O)) [0,1,2,3,4,5,6,23] [.C [.N 1,A (j+1+1+2)],Aw b,W e,W c,AE f,.C (Al 2),.C [A (DI b (J e:Int) (j+1+1)).t,A (DI b (J e:Int) (j+1+1)).v,.F 7],.Q (D.P (DI b (J e:Int) (j+1+1)).k)] (MO n [(7,A (AU b (j+1) DT))]) λG=>AT (Ar (Ar ?_)));exact Cr (.agg [A (DI b (J e:Int) (j+1+1)).t,A (DI b (J e:Int) (j+1+1)).v,.F 7]) G [0,1,2,3,4,7] (by show _=AA.ren (CX [0,1,2,3,4,7]) (Pz b e c d j);unfold Pz;have g:((DC b (J e:Int) (J c:Int) (d+1) j).1.t:Int)=((DI b (J e:Int) (j+1+1)).t):=(by rw[bt i O O O];(simp only[Int.add_assoc,Int.reduceAdd,AF.t];done));have h:((DC b (J e:Int) (J c:Int) (d+1) j).1.v:Int)=((DI b (J e:Int) (j+1+1)).v):=(by rw[bt i O O O];(simp only[Int.add_assoc,Int.reduceAdd,AF.v];done));(first|rw[g,h]|simp only[g,h])<;>rfl) (by show _=BM [0,1,2,3,4,7] (Qq b e c f d j);unfold Qq;have g:((DC b (J e:Int) (J c:Int) (d+1) j).2:Int)=(j+1+1+2):=(by rw[bt i O O O];(simp only[Int.add_assoc,Int.reduceAdd];done));have h:((DC b (J e:Int) (J c:Int) (d+1) j).1:AF)=(DI b (J e:Int) (j+1+1)):=(by rw[bt i O O O];(simp only[Int.add_assoc,Int.reduceAdd];done));(first|rw[g,h]|simp only[g,h])<;>rfl)
   refine B (AM G (Ai 2 (AH 5) (Uc b (j+1) e c f O O)) [0,1,2,3,4,5,6,23] [.C [.N 1,A (j+1+2)],Aw b,W e,W c,AE f,.C (Al 2),.C [A (DI b (J e:Int) (j+1)).t,A (DI b (J e:Int) (j+1)).v,.F 7],.Q (D.P (DI b (J e:Int) (j+1)).k)] (MO n []) λG=>AT (Ar ?_));exact Cr (.agg [A (DI b (J e:Int) (j+1)).t,A (DI b (J e:Int) (j+1)).v,.F 7]) G [0,1,2,3,4,7] (by show _=AA.ren (CX [0,1,2,3,4,7]) (Pz b e c d j);unfold Pz;rw[kK i O]<;>rfl) (by show _=BM [0,1,2,3,4,7] (Qq b e c f d j);unfold Qq;have g:((DC b (J e:Int) (J c:Int) (d+1) j).2:Int)=(j+1+2):=(by rw[kK i O];(simp only[Int.add_assoc,Int.reduceAdd];done));rw[g,kK i O]<;>rfl)
  have r:=EC l;exact False.elim O
theorem so(b)(g a)(c):∀(d:Nat) (j n:Int),d<=100->n=d->0<=j->j+Fl d<=800000000->AN.ok prog (ZT b g a c d j n)
 |0,j,n,_,e,f,h=>ql b g a c 0 O j n e f (by have:=RH 0;omega)
 |1,j,n,_,e,f,h=>ql b g a c 1 O j n e f (by have:=RH 1;omega)
 |d+2,j,n,i,e,f,h=>t3 b g a c (d+1) O O (λj n=>so b g a c (d+1) j n O) j n e f h
abbrev O8(b:List UInt8)(c a:List Int)(d:List AG)(j:Int):AN:=⟨189,[.P 0 0,Ao 2],Nx b j c a d,Nx b (BT b (J c) (J a) j).2 c a d++iR (BT b (J c) (J a) j).1,ew (BT b (J c) (J a) j).1 5⟩
section
variable{b:List UInt8}{nv na:Nat}{j:Int}
theorem oP(h:CQ nv na (DC b nv na (AU b j GG).toNat (j+1)).1=V):BT b nv na j=DC b nv na (AU b j GG).toNat (j+1):=AZ h
theorem mL(h:CQ nv na (DC b nv na (AU b j GG).toNat (j+1)).1=U):BT b nv na j=(DI b nv (DC b nv na (AU b j GG).toNat (j+1)).2,(DC b nv na (AU b j GG).toNat (j+1)).2+2):=AO (by rw[h];decide)
theorem ad5(a:0<=j)(c:j<=700000000):Fl (AU b j GG).toNat<=364:=di (Vs b a O).2.2
end
abbrev Lq(b:List UInt8)(c:List Int)(a:List Int)(j:Int):=DC b (J c:Int) (J a:Int) (AU b j GG).toNat (j+1)
theorem RW(b)(c a)(d)(j)(f:0<=j)(m:j<=700000000):AN.ok prog (O8 b c a d j):=by
 have e:=fun(i n:Int)=>so b c a d (AU b j GG).toNat i n (DO (Vs b f O).2.2 O)
 refine BP 19 func189 [.C [.N 1,A j],Aw b,W c,W a,AE d] [(0,.P 0 0),(1,Ao 2)] λG=>?_;have h:=ad5 (b:=b) f m;have g:=Wa b (J c) (J a) (AU b j GG).toNat (j+1);refine B (AM G AB [0,1,2,3,4,5,13] [.C [.N 1,A j],Aw b,W c,W a,AE d,.C (Al 2),.C [A 0,A 0,AK]] [(0,.P 0 0),(3,.P 5 0),(4,.P 6 0)] λG=>B (Fr G (BH (AX 4 [0,1,31] (AN.lend (La b j GG (List.cons_ne_nil _ _) Ab O) [.no,.no,.L 3]) (AX 5 (AH 5) (e (j+1) (AU b j GG) (aa1 b O O) O O) BG)) Ag []) [0,0,0,0,12,31,0,127] [0,1,2,3,4,5,6,47,55] [.C [.N 1,A (Lq b c a j).2],Aw b,W c,W a,AE d,.C (Al 2),.C [A 0,A 0,AK],.Q (D.P (Lq b c a j).1.k),.C [A (Lq b c a j).1.t,A (Lq b c a j).1.v,.F 7]] [(0,.P 0 0),(3,.P 5 0),(4,.P 6 0),(5,.P 8 0)] λG=>B (B (AQ G (Ai 2 [2,3,4,7] (AN.lend (F7 c a d ((DC b (J c:Int) (J a:Int) (AU b j GG).toNat (j+1)).1)) [.no,.no,.no,.Q])) [(14,AC (CQ (J c) (J a) (Lq b c a j).1))] λG=>Rc (b:=CQ (J c) (J a) (DC b (J c:Int) (J a:Int) (AU b j GG).toNat (j+1)).1) G (λl=>?_) λl=>?_))))
 ·refine Aq (B (AM G (Ai 2 (AH 5) (Uc b ((DC b (J c:Int) (J a:Int) (AU b j GG).toNat (j+1)).2) c a d O O)) [0,1,2,3,4,6,25] [.C [.N 1,A ((Lq b c a j).2+2)],Aw b,W c,W a,AE d,.C [A (DI b (J c:Int) (Lq b c a j).2).t,A (DI b (J c:Int) (Lq b c a j).2).v,.F 6],.Q (D.P (DI b (J c:Int) (Lq b c a j).2).k)] [(4,.P 5 0)] λG=>AT ?_));exact Cr (.agg [A (DI b (J c:Int) (DC b (J c:Int) (J a:Int) (AU b j GG).toNat (j+1)).2).t,A (DI b (J c:Int) (DC b (J c:Int) (J a:Int) (AU b j GG).toNat (j+1)).2).v,.F 6]) G [0,1,2,3,4,6] (by show _=AA.ren (CX [0,1,2,3,4,6]) (.agg [A (BT b (J c) (J a) j).1.t,A (BT b (J c) (J a) j).1.v,.F 5]);rw[mL AY]<;>rfl) (by show _=BM [0,1,2,3,4,6] [.C [.N 1,A (BT b (J c) (J a) j).2],Aw b,W c,W a,AE d,.Q (D.P (BT b (J c) (J a) j).1.k)];rw[mL AY]<;>rfl)
 refine B (AM G AB (AH 8) [.C [.N 1,A (Lq b c a j).2],Aw b,W c,W a,AE d,.C (Al 2),.C [A (Lq b c a j).1.t,A (Lq b c a j).1.v,.F 7],.Q (D.P (Lq b c a j).1.k)] [(0,.P 0 0),(3,.P 5 0),(4,.P 6 0)] λG=>AT (Ar ?_));exact Cr (.agg [A (DC b (J c:Int) (J a:Int) (AU b j GG).toNat (j+1)).1.t,A (DC b (J c:Int) (J a:Int) (AU b j GG).toNat (j+1)).1.v,.F 7]) G [0,1,2,3,4,7] (by show _=AA.ren (CX [0,1,2,3,4,7]) (.agg [A (BT b (J c) (J a) j).1.t,A (BT b (J c) (J a) j).1.v,.F 5]);rw[oP AY]<;>rfl) (by show _=BM [0,1,2,3,4,7] [.C [.N 1,A (BT b (J c) (J a) j).2],Aw b,W c,W a,AE d,.Q (D.P (BT b (J c) (J a) j).1.k)];rw[oP AY]<;>rfl)
end Go.Proofs.YtfbeblgnjeokaaaGreat
