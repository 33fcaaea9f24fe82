/- Part 9: functions on the way, plain laws. Conditions: as said. -/
import Derived.Laws.StructEq
import Derived.Test.YtfbeblgnjeokaaaGreatK1
import Derived.Test.YtfbeblgnjeokaaaGreatK2
import Derived.Test.YtfbeblgnjeokaaaGreatK4
import Derived.Test.YtfbeblgnjeokaaaGreatK5
import Derived.Test.YtfbeblgnjeokaaaGreatK7
import Derived.Test.YtfbeblgnjeokaaaGreatK8
set_option maxRecDepth 100000
set_option maxHeartbeats 16000000
set_option linter.unusedVariables false
set_option linter.unusedSimpArgs false
open Bool renaming true → V, false → U
open Option renaming some → Z, none → I
open Decidable renaming decide → Y
open Bool renaming and_eq_true → Aj, not_eq_false' → Cp, not_eq_true' → Cn
open Inhabited renaming default → K
open List renaming cons_append → IR, length_append → Az, length_cons → BK, length_nil → Bc, length_replicate → FX, length_set → GP, replicate → Ac, take → Ae, take_of_length_le → Dq
open Nat renaming add_zero → Fx, zero_le → Di
open True renaming intro → Ay

open List renaming length → J
open Go renaming wp_seq → B, wp_ret → AT, wp_skip → Aq, wp_block → BN
open Go.Proofs.Tryz
namespace Go.Proofs.YtfbeblgnjeokaaaGreat
open Go Go.RowKit
mutual
def Rw:AG->Int
 |⟨k,_,_,_,_,b,e⟩=>if k=4 then 1+JY b else if k=1 then 1 else if k=5 then 1 else if k=2 then 1 else 1+JY b+JY e
def JY:List AG->Int
 |[]=>0
 |s::r=>Rw s+JY r
end
mutual
def Yo:AG->Int->Int
 |⟨k,_,_,_,_,b,e⟩,ct=>if k=3 then GA e (ct+1+JY b) ct else ct
def GA:List AG->Int->Int->Int
 |[],_,ow=>ow
 |s::r,ct,_=>GA r (ct+Rw s) (Yo s ct)
end
mutual
theorem b6:∀(s:AG) (d:Int) (x:Eg),(DL s d x).2.2=x.2.2+Rw s
 | ⟨k, t, i, v, c, b, e⟩, d, x => by
  rw[DL,Rw];split
  ·have h:=Pe b (d+1) (CN (x.1,x.2.1,x.2.2+1) x.2.2 [⟨1,9+d,c,0,0⟩])
   simp only[CN]at h ⊢;omega
  split
  ·simp only[CN]
  split
  ·simp only[CN]
  split
  ·simp only[CN]
  simp only;generalize hy:CN (x.1,x.2.1,x.2.2+1) x.2.2 (AJ v 0)=y;have hy1:y.2.2=x.2.2+1:=by rw[<-hy];rfl
  have h1:=Pe b (d+1) (CN y x.2.2 [⟨9,0,0,0,0⟩]);generalize AW b (d+1) (CN y x.2.2 [⟨9,0,0,0,0⟩])=z at h1 ⊢;have h2:=Pe e (d+1) (Jv (CN z x.2.2 [⟨8,0,0,0,0⟩]).1 (J y.1) ((CN z x.2.2 [⟨8,0,0,0,0⟩]).1.length:Int),(CN z x.2.2 [⟨8,0,0,0,0⟩]).2);simp only[CN]at h1 h2 ⊢;omega
theorem Pe:∀(ss:List AG) (d:Int) (x:Eg),(AW ss d x).2.2=x.2.2+JY ss
 |[],_,x=>by simp[AW,JY]
 |s::r,d,x=>by
  have h1:=b6 s d x;have h2:=Pe r d (DL s d x);rw[AW,JY];omega
end
mutual
theorem X2:∀s:AG,0<=Rw s/\Rw s<=Gn s
 |⟨k,t,i,v,c,b,e⟩=>by
  have h1:=Yl b;have h2:=Yl e;rw[Rw,Gn]
  (repeat' split)<;>omega
theorem Yl:∀ss:List AG,0<=JY ss/\JY ss<=CP ss
 |[]=>by simp[JY,CP]
 |s::r=>by
  have h1:=X2 s;have h2:=Yl r;rw[JY,CP];omega
end
theorem iw(a)(d)(x):(AW a d x).2.1.length=J x.2.1+DY a:=(Jn a d x).2
theorem xw(l m)(a b):GA (l++m) a b=GA m (a+JY l) (GA l a b):=by
 induction l generalizing a b with
 |nil=>simp[GA,JY]
 |cons s r c=>simp only[IR,GA,JY];rw[c];congr 1;omega
theorem mU{a}{k}{c d}(b:k<J a):GA (a.take (k+1)) c d=Yo (a.getD k K) (c+JY (a.take k)):=by
 rw[Gr _ _ b,xw,DU b];simp[GA]
section
variable{ss:List AG}{k:Nat}{d ct ow:Int}{l:List AV}{fr:List Int}
abbrev NY(ss:List AG)(k:Nat)(d:Int)(l:List AV)(fr:List Int)(ct:Int):Eg:=AW (ss.take k) d (l,fr,ct)
theorem Zn(b:k<J ss)(a:¬(ss.getD k K).t=3):GA (ss.take (k+1)) ct ow=(NY ss k d l fr ct).2.2:=by
 rw[mU b,Pe];generalize ss.getD k K=s at*;obtain⟨c,g,e,i,RL,f,h⟩:=s;have a:¬c=3:=a;rw[Yo,AO a]
theorem xo(b:k<J ss)(a:(ss.getD k K).t=3):GA (ss.take (k+1)) ct ow=GA (ss.getD k K).e (RB (NY ss k d l fr ct).1 (NY ss k d l fr ct).2.1 (NY ss k d l fr ct).2.2 d (ss.getD k K)).2.2 (NY ss k d l fr ct).2.2:=by
 rw[mU b,RB,Pe,Pe];generalize ss.getD k K=s at*;obtain⟨c,h,f,j,RL,g,i⟩:=s;have a:c=3:=a;rw[Yo,AZ a];rfl
theorem g6(a:J ss<=k):GA ss ct ow=GA (ss.take k) ct ow:=by rw[Dq a]
theorem Mz(b:J l+4*Ah ss<=5000000)(a:k<J ss):(NY ss k d l fr ct).1.length+BB (ss.getD k K).v<=5000000/\(0:Int)+BB (ss.getD k K).v<=2000000/\((NY ss k d l fr ct).1++AJ (ss.getD k K).v 0).length+BB (ss.getD k K).i<=5000000/\(1:Int)+BB (ss.getD k K).i<=2000000/\((NY ss k d l fr ct).1++AJ (ss.getD k K).v 0++AJ (ss.getD k K).i 1).length+4<=5000010:=mv (Yn b a)
theorem xu(c:J l+4*Ah ss<=5000000)(a:k<J ss):(NY ss k d l fr ct).1.length+(4+4*(BB (ss.getD k K).i+BB (ss.getD k K).v+Ah (ss.getD k K).b+Ah (ss.getD k K).e))<=5000000:=by
 have h:=Yn (d:=d) (fr:=fr) (at0:=ct) c a;generalize ss.getD k K=s at*;cases s;exact h
theorem wu(c:0<=ct)(f:ct+CP ss<=5000000)(g:k<J ss):0<=(NY ss k d l fr ct).2.2/\(NY ss k d l fr ct).2.2+(1+CP (ss.getD k K).b+CP (ss.getD k K).e)<=5000000:=by
 have h:=dT (d:=d) (l:=l) (fr:=fr) f g;rw[PW]at h;have i:=jF (ss:=ss) (k:=k) (d:=d) (l:=l) (fr:=fr) c;refine⟨i,?_⟩;have a:((1+CP (ss.getD k K).b+CP (ss.getD k K).e:Nat):Int)=1+CP (ss.getD k K).b+CP (ss.getD k K).e:=O;rw[a]at h;exact h
theorem X7{a}{o}{f}(h:a=(AW (ss.take k) d (l,fr,ct)).1)(c:o=(AW (ss.take k) d (l,fr,ct)).2.1)(g:f=(AW (ss.take k) d (l,fr,ct)).2.2)(r:J l+4*Ah ss<=5000000)(q:J fr=J l)(p:0<=ct)(s:ct+CP ss<=5000000)(n:k<J ss):
  J a+(4+4*(BB (ss.getD k K).i+BB (ss.getD k K).v+Ah (ss.getD k K).b+Ah (ss.getD k K).e))<=5000000/\(J o)=J a/\(AJ (ss.getD k K).v 0).length<=1+BB (ss.getD k K).v/\(AJ (ss.getD k K).i 1).length<=1+BB (ss.getD k K).i/\DY (ss.getD k K).b<=4*Ah (ss.getD k K).b/\0<=f/\f+(1+CP (ss.getD k K).b+CP (ss.getD k K).e)<=5000000/\0<=JY (ss.getD k K).b/\JY (ss.getD k K).b<=CP (ss.getD k K).b:=by
 subst h c g;have j:=wu (d:=d) (l:=l) (fr:=fr) p s n;have m:=Yl (ss.getD k K).b;exact⟨xu r n,jJ q,QI _ _,QI _ _,Mg _,j.1,j.2,m.1,m.2⟩
end
abbrev Yw(l:List AV)(c:List Int)(e b:Int)(a:List AG)(d:Int):AN:=⟨129,[.P 0 0,.N 3,A d],[.C [.N 1,.N 2,A e,A b],GJ l,Ej c,AE a],[.C [.N 4,.N 5,A (GA a b e),A (AW a d (l,c,b)).2.2],.E,.E,AE a,GJ (AW a d (l,c,b)).1,Ej (AW a d (l,c,b)).2.1],.T []⟩
abbrev NR(f:List AG)(d:Int)(h:List AV)(i:List Int)(g:Int)(k:Nat):=AW (f.getD k K).e (d+1) (((AW (f.getD k K).b (d+1) (h++AJ (f.getD k K).v 0++[Bx 9 ([0]++([0]++[]))],i++Ac (AJ (f.getD k K).v 0).length g++[g],g+1)).1++[Bx 8 ([0]++[])]).set (h++AJ (f.getD k K).v 0).length (AV.mk (((AW (f.getD k K).b (d+1) (h++AJ (f.getD k K).v 0++[Bx 9 ([0]++([0]++[]))],i++Ac (AJ (f.getD k K).v 0).length g++[g],g+1)).1++[Bx 8 ([0]++[])]).getD (h++AJ (f.getD k K).v 0).length K).op (((AW (f.getD k K).b (d+1) (h++AJ (f.getD k K).v 0++[Bx 9 ([0]++([0]++[]))],i++Ac (AJ (f.getD k K).v 0).length g++[g],g+1)).1++[Bx 8 ([0]++[])]).getD (h++AJ (f.getD k K).v 0).length K).a (((AW (f.getD k K).b (d+1) (h++AJ (f.getD k K).v 0++[Bx 9 ([0]++([0]++[]))],i++Ac (AJ (f.getD k K).v 0).length g++[g],g+1)).1++[Bx 8 ([0]++[])]).length:Int) (((AW (f.getD k K).b (d+1) (h++AJ (f.getD k K).v 0++[Bx 9 ([0]++([0]++[]))],i++Ac (AJ (f.getD k K).v 0).length g++[g],g+1)).1++[Bx 8 ([0]++[])]).getD (h++AJ (f.getD k K).v 0).length K).c (((AW (f.getD k K).b (d+1) (h++AJ (f.getD k K).v 0++[Bx 9 ([0]++([0]++[]))],i++Ac (AJ (f.getD k K).v 0).length g++[g],g+1)).1++[Bx 8 ([0]++[])]).getD (h++AJ (f.getD k K).v 0).length K).d),(AW (f.getD k K).b (d+1) (h++AJ (f.getD k K).v 0++[Bx 9 ([0]++([0]++[]))],i++Ac (AJ (f.getD k K).v 0).length g++[g],g+1)).2.1++[g],(AW (f.getD k K).b (d+1) (h++AJ (f.getD k K).v 0++[Bx 9 ([0]++([0]++[]))],i++Ac (AJ (f.getD k K).v 0).length g++[g],g+1)).2.2)
abbrev Gh(c:List AG)(d:Int)(f:List AV)(e:List Int)(a:Int)(k:Nat):=AW (c.getD k K).b (d+1) (f++AJ (c.getD k K).v 0++[Bx 9 ([0]++([0]++[]))],e++Ac (AJ (c.getD k K).v 0).length a++[a],a+1)
abbrev PL(c:List AG)(d:Int)(f:List AV)(e:List Int)(a:Int)(k:Nat):=AW (c.getD k K).b (d+1) (f++[Bx 1 ([9+d]++([(c.getD k K).count]++[]))],e++[a],a+1)
abbrev NF(a:List AG)(k:Nat):AI:=AP (a.getD k K).i.k
abbrev MP(a:List AG)(k:Nat):AI:=AP (a.getD k K).v.k
abbrev Wg(a:List AG)(b:List AV)(k:Nat):AA:=A ((b++AJ (a.getD k K).v 0).length:Int)
abbrev PA(a:List AG)(k:Nat):AI:=.C (Ct (a.getD k K) 4)
abbrev Ve(a:Int):AI:=.C [.N 9,.N 10,A a,A (a+1)]
theorem nY(nv na M)(X)(hB:X<=101)(f)(F:f.all (Ax nv na (M+1))=V)
    (R:∀(L:List AG) (l:List AV) (u:List Int) (z n d:Int),0<J f->L.all (Ax nv na M)=V->J l+4*Ah L<=5000000->J u=J l->0<=d->d+M<=X->0<=n->n+CP L<=5000000->AN.ok prog (Yw l u z n L d))
    (l) (u) (z n d:Int) (r1:J l+4*Ah f<=5000000) (r2:J u=J l) (r3:0<=d) (r4:d+(M+1)<=X) (r5:0<=n) (r6:n+CP f<=5000000):AN.ok prog (Yw l u z n f d):=by
  refine BP 160 func129 [.C [.N 1,.N 2,A z,A n],.L 76 (D.N l),.L 3 (D.C u),AE f] [(0,.P 0 0),(1,.N 3),(2,A d)] λG=>?_;have hl:=Km f;refine B (BS G AB [(0,.P 0 0),(2,A d),(13,.N 3),(14,A (J f:Int)),(15,A 0)] λG=>BN ?_);have S:=G.shift 1 4 [.C [.N 4,.N 2,A z,A n],.E,.L 3 (D.C u),AE f,.L 76 (D.N l)] [(0,.P 0 0),(2,A d),(13,.N 3),(14,A (J f:Int)),(15,A 0)];clear G;obtain⟨ρ,G⟩:=S;have S:=G.shift 2 5 [.C [.N 4,.N 5,A z,A n],.E,.E,AE f,.L 76 (D.N l),.L 3 (D.C u)] [(0,.P 0 0),(2,A d),(13,.N 3),(14,A (J f:Int)),(15,A 0)];clear G;obtain⟨ρ,G⟩:=S;refine DR (h:=Nat) (λk=>k<=J f) (λk=>J f-k) (λk=>[.C [.N 4,.N 5,A (GA (f.take k) n z),A (AW (f.take k) d (l,u,n)).2.2],.E,.E,AE f,.L 76 (.N (AW (f.take k) d (l,u,n)).1),.L 3 (.C (AW (f.take k) d (l,u,n)).2.1)]) (λk=>[(0,.P 0 0),(2,A d),(13,.N 3),(14,A (J f:Int)),(15,A k)]) 0 O (Ap.at G _ _) ?_;clear G;intro k ρ a w hp G;replace G:=Ap.at G [.C [.N 4,.N 5,A (GA (Ae k f) n z),A (AW (Ae k f) d (l,u,n)).2.2],.E,.E,AE f,.L 76 (D.N (AW (Ae k f) d (l,u,n)).1),.L 3 (D.C (AW (Ae k f) d (l,u,n)).2.1)] [(0,.P 0 0),(2,A d),(13,.N 3),(14,A (J f:Int)),(15,A k)];obtain⟨j,q⟩:∃x,x=(AW (f.take k) d (l,u,n)).1:=⟨_,rfl⟩;obtain⟨m,o⟩:∃x,x=(AW (f.take k) d (l,u,n)).2.1:=⟨_,rfl⟩;obtain⟨h,p⟩:∃x,x=(AW (f.take k) d (l,u,n)).2.2:=⟨_,rfl⟩;obtain⟨Iv,r⟩:∃x,x=GA (f.take k) n z:=⟨_,rfl⟩;rw[<-q, <-o, <-p, <-r]at G;have y:=X7 q o p r1 r2 r5 r6;refine B (BS G AB [(0,.P 0 0),(2,A d),(13,.N 3),(14,A (J f:Int)),(15,A k),(16,AC (Y ((k:Int)<J f)))] λG=>B (DZ G (λh0 q0=>?_) λh0 q0=>?_))
  · refine wp_exit (Bd (Bd (DG ?_)));exact Jh G (AH 6) (by show _=BM (AH 6) [.C [.N 4,.N 5,A (GA f n z),A (AW f d (l,u,n)).2.2],.E,.E,AE f,.L 76 (D.N (AW f d (l,u,n)).1),.L 3 (D.C (AW f d (l,u,n)).2.1)];have C:(GA f n z:Int)=(Iv):=(by subst q o p r;exact g6 O);have e2:((AW f d (l,u,n)).2.2:Int)=(h):=(by subst q o p r;exact congrArg (λx:Eg=>x.2.2) (Ok O _));have e3:((AW f d (l,u,n)).1:List AV)=(j):=(by subst q o p r;exact congrArg Prod.fst (Ok O _));have e4:((AW f d (l,u,n)).2.1:List Int)=(m):=(by subst q o p r;exact congrArg (λx:Eg=>x.2.1) (Ok O _));(first|rw[C,e2,e3,e4]|simp only[C,e2,e3,e4])<;>rfl)
  refine Aq (B (BN (B (CT G AB [0,1,2,3,4,5,14,15,16,17,22] [.C [.N 4,.N 5,A Iv,A h],.E,.E,AE f,.L 76 (D.N j),.L 3 (D.C m),NF f k,MP f k,AE (f.getD k K).b,AE (f.getD k K).e,.C (Ct (f.getD k K) 6)] [(0,.P 0 0),(2,A d),(7,.P 10 0),(13,.N 3),(14,A (J f:Int)),(15,A k)] (CD k k (J f) []) (CE O Ay) λG=>B (AQ G AB [(8,A h)] λG=>B (CT G AB (AH 11) [.C [.N 4,.N 5,A Iv,A (h+1)],.E,.E,AE f,.L 76 (D.N j),.L 3 (D.C m),NF f k,MP f k,AE (f.getD k K).b,AE (f.getD k K).e,.C (Ct (f.getD k K) 6)] [(0,.P 0 0),(2,A d),(7,.P 10 0),(8,A h),(13,.N 3),(14,A (J f:Int)),(15,A k)] [BC (h+1)] (BA O) λG=>B (AM G AB (AH 11) [.C [.N 4,.N 5,A h,A (h+1)],.E,.E,AE f,.L 76 (D.N j),.L 3 (D.C m),NF f k,MP f k,AE (f.getD k K).b,AE (f.getD k K).e,.C (Ct (f.getD k K) 6)] [(0,.P 0 0),(2,A d),(7,.P 10 0),(8,A h),(13,.N 3),(14,A (J f:Int)),(15,A k)] λG=>B (B (AQ G AB [(36,AC ((f.getD k K).t !=4))] λG=>IP G (λh1 q1=>?_) λh1 q1=>?_)))))))))
  ·
   refine Aq (B (AQ G AB [(42,A (f.getD k K).t)] λG=>BN (B (BS G AB [(0,.P 0 0),(2,A d),(7,.P 10 0),(8,A h),(13,.N 3),(14,A (J f:Int)),(15,A k),(42,A (f.getD k K).t),(43,AC ((f.getD k K).t==1))] λG=>?_))));cases Q:((f.getD k K).t==1)
   ·
    have q2:=ne_of_beq_false Q;refine Bo G _ Q (B (BS G AB [(0,.P 0 0),(2,A d),(7,.P 10 0),(8,A h),(13,.N 3),(14,A (J f:Int)),(15,A k),(42,A (f.getD k K).t),(50,AC ((f.getD k K).t==5))] λG=>?_));cases N:((f.getD k K).t==5)
    ·
     have q3:=ne_of_beq_false N;refine Bo G _ N (B (BS G AB [(0,.P 0 0),(2,A d),(7,.P 10 0),(8,A h),(13,.N 3),(14,A (J f:Int)),(15,A k),(42,A (f.getD k K).t),(60,AC ((f.getD k K).t==2))] λG=>?_));cases h4:((f.getD k K).t==2)
     ·
      have q4:=ne_of_beq_false h4;refine Bo G _ h4 (B (BS G AB [(0,.P 0 0),(2,A d),(7,.P 10 0),(8,A h),(13,.N 3),(14,A (J f:Int)),(15,A k),(42,A (f.getD k K).t),(71,AC ((f.getD k K).t==3))] λG=>?_));cases T:((f.getD k K).t==3)
      ·
       have q5:=ne_of_beq_false T;refine Bo G _ T (B (BS G AB [(0,.P 0 0),(2,A d),(7,.P 10 0),(8,A h),(13,.N 3),(14,A (J f:Int)),(15,A k),(129,AC ((f.getD k K).t==4))] λG=>?_));cases P:((f.getD k K).t==4)
       · have q6:=ne_of_beq_false P;exact False.elim (by exact absurd ((JJ F (show k<(J f) by omega)).1.symm.trans (IK O)) ED)
       have q6:=eq_of_beq P;refine Ba G _ P (B (Bi G AB [(11,A (9+d))] [BC ((9:Int)+d)] (BA O) λG=>B (AM G (Ai 5 [0,4,5,43] (LY 1 ([9+d]++([(f.getD k K).count]++[])) (by simp) j m h (h+1) O O)) [0,1,2,3,6,7,8,9,10,51,52] [Ve h,.E,.E,AE f,NF f k,MP f k,AE (f.getD k K).b,AE (f.getD k K).e,PA f k,.L 76 (D.N (j++[Bx 1 ([9+d]++([(f.getD k K).count]++[]))])),.L 3 (D.C (m++[h]))] [(0,.P 0 0),(2,A d),(7,.P 8 0),(8,A h),(11,A (9+d)),(13,.N 3),(14,A (J f:Int)),(15,A k)] λG=>B (AQ G AB [(12,A ((j++[Bx 1 ([9+d]++([(f.getD k K).count]++[]))]).length:Int))] λG=>B (CT G (Ai 5 [0,9,10,6] (R ((f.getD k K).b) (j++[Bx 1 ([9+d]++([(f.getD k K).count]++[]))]) (m++[h]) h (h+1) (d+1) O (by subst q o p r;exact(JJ F O).2.1) (by have g:=y O;simp only[Az,BK,Bc];omega) (by have g:=y O;simp only[Az,BK,Bc];omega) O O O O)) [0,1,2,3,51,52] [.C [.N 4,.N 5,A (GA (f.getD k K).b (h+1) h),A (PL f d j m h k).2.2],.E,.E,AE f,.L 76 (D.N (PL f d j m h k).1),.L 3 (D.C (PL f d j m h k).2.1)] [(0,.P 0 0),(2,A d),(8,A h),(11,A (9+d)),(12,A ((j++[Bx 1 ([9+d]++([(f.getD k K).count]++[]))]).length:Int)),(13,.N 3),(14,A (J f:Int)),(15,A k)] [BC (d+1)] (BA O) λG=>B (AM G AB (AH 6) [.C [.N 4,.N 5,A h,A (PL f d j m h k).2.2],.E,.E,AE f,.L 76 (D.N (PL f d j m h k).1),.L 3 (D.C (PL f d j m h k).2.1)] [(0,.P 0 0),(2,A d),(11,A (9+d)),(12,A ((j++[Bx 1 ([9+d]++([(f.getD k K).count]++[]))]).length:Int)),(13,.N 3),(14,A (J f:Int)),(15,A k)] λG=>AM G (Ai 4 [0,4,5,30] (LY 10 ([9+d]++([((j++[Bx 1 ([9+d]++([(f.getD k K).count]++[]))]).length:Int)]++[])) (by simp) ((AW (f.getD k K).b (d+1) (j++[Bx 1 ([9+d]++([(f.getD k K).count]++[]))],m++[h],h+1)).1) ((AW (f.getD k K).b (d+1) (j++[Bx 1 ([9+d]++([(f.getD k K).count]++[]))],m++[h],h+1)).2.1) h ((AW (f.getD k K).b (d+1) (j++[Bx 1 ([9+d]++([(f.getD k K).count]++[]))],m++[h],h+1)).2.2) (by have g:=y O;simp only[Ly,Az,BK,Bc];omega) (by have g:=y O;simp only[iw,Az,BK,Bc];omega))) [0,1,2,3,38,39] [.C [.N 4,.N 5,A h,A (PL f d j m h k).2.2],.E,.E,AE f,.L 76 (D.N ((PL f d j m h k).1++[Bx 10 ([9+d]++([((j++[Bx 1 ([9+d]++([(f.getD k K).count]++[]))]).length:Int)]++[]))])),.L 3 (D.C ((PL f d j m h k).2.1++[h]))] [(0,.P 0 0),(2,A d),(13,.N 3),(14,A (J f:Int)),(15,A k)] λG=>?_))))))
       refine BL (BL (Bi G AB [(15,A ((k:Int)+1))] [BC ((k:Int)+1)] (BA O) λG=>?_));exact Ce G (k+1) O O (AH 6) (by have C:(GA (Ae (k+1) f) n z:Int)=(h):=(by subst q o p r;exact Zn O O);subst q o p r;have E:=(QP (show k<(J f) by omega)).trans (XX (l:=(AW (f.take k) d (l,u,n)).1) (fr:=(AW (f.take k) d (l,u,n)).2.1) (at0:=(AW (f.take k) d (l,u,n)).2.2) (d:=d) (s:=f.getD k K) O);rw[C,E]<;>rfl)
      have q5:=eq_of_beq T;exact False.elim (by exact absurd ((JJ F (show k<(J f) by omega)).1.symm.trans (IK O)) ED)
     have q4:=eq_of_beq h4;exact False.elim (by exact absurd ((JJ F (show k<(J f) by omega)).1.symm.trans (IK O)) ED)
    have q3:=eq_of_beq N;exact False.elim (by exact absurd ((JJ F (show k<(J f) by omega)).1.symm.trans (IK O)) ED)
   have q2:=eq_of_beq Q;exact False.elim (by exact absurd ((JJ F (show k<(J f) by omega)).1.symm.trans (IK O)) ED)
  refine AM G (Ai 3 [0,4,5,7] (ry ((f.getD k K).v) j m h (h+1) 0 O O O O)) [0,1,2,3,6,7,8,9,10,35,36] [Ve h,.E,.E,AE f,NF f k,MP f k,AE (f.getD k K).b,AE (f.getD k K).e,PA f k,.L 76 (D.N (j++AJ (f.getD k K).v 0)),.L 3 (D.C (m++Ac (AJ (f.getD k K).v 0).length h))] [(0,.P 0 0),(2,A d),(7,.P 8 0),(8,A h),(13,.N 3),(14,A (J f:Int)),(15,A k)] λG=>B (AQ G AB [(42,A (f.getD k K).t)] λG=>BN (B (AQ G AB [(43,AC ((f.getD k K).t==1))] λG=>Cu G (λh7 q7=>?_) λh7 q7=>?_)))
  ·
   refine B (AQ G AB [(50,AC ((f.getD k K).t==5))] λG=>Cu G (λh8 q8=>?_) λh8 q8=>?_)
   ·
    refine B (AQ G AB [(60,AC ((f.getD k K).t==2))] λG=>Cu G (λE q9=>?_) λE q9=>?_)
    ·
     refine B (BS G AB [(0,.P 0 0),(2,A d),(7,.P 8 0),(8,A h),(13,.N 3),(14,A (J f:Int)),(15,A k),(42,A (f.getD k K).t),(71,AC ((f.getD k K).t==3))] λG=>?_);cases H:((f.getD k K).t==3)
     · have aB:=ne_of_beq_false H;exact False.elim (by exact absurd ((JJ F (show k<(J f) by omega)).1.symm.trans (IK O)) ED)
     have aB:=eq_of_beq H;refine Ba G _ H (B (AQ G AB [(9,Wg f j k)] λG=>B (AM G (Ai 2 [0,9,10,19] (LY 9 ([0]++([0]++[])) (by simp) (j++AJ (f.getD k K).v 0) (m++Ac (AJ (f.getD k K).v 0).length h) h (h+1) (by have g:=y O;simp only[Az];omega) (by have g:=y O;simp only[Az,FX];omega))) [0,1,2,3,4,5,6,7,8,27,28] [Ve h,.E,.E,AE f,NF f k,MP f k,AE (f.getD k K).b,AE (f.getD k K).e,PA f k,.L 76 (D.N (j++AJ (f.getD k K).v 0++[Bx 9 ([0]++([0]++[]))])),.L 3 (D.C (m++Ac (AJ (f.getD k K).v 0).length h++[h]))] [(0,.P 0 0),(2,A d),(7,.P 8 0),(8,A h),(9,Wg f j k),(13,.N 3),(14,A (J f:Int)),(15,A k)] λG=>B (CT G (Ai 5 [0,9,10,6] (R ((f.getD k K).b) (j++AJ (f.getD k K).v 0++[Bx 9 ([0]++([0]++[]))]) (m++Ac (AJ (f.getD k K).v 0).length h++[h]) h (h+1) (d+1) O (by subst q o p r;exact(JJ F O).2.1) (by have g:=y O;simp only[Az,BK,Bc];omega) (by have g:=y O;simp only[Az,BK,Bc,FX];omega) O O O O)) [0,1,2,3,4,5,6,7,8,51,52] [.C [.N 9,.N 10,A (GA (f.getD k K).b (h+1) h),A (Gh f d j m h k).2.2],.E,.E,AE f,NF f k,MP f k,AE (f.getD k K).b,AE (f.getD k K).e,PA f k,.L 76 (D.N (Gh f d j m h k).1),.L 3 (D.C (Gh f d j m h k).2.1)] [(0,.P 0 0),(2,A d),(7,.P 8 0),(8,A h),(9,Wg f j k),(13,.N 3),(14,A (J f:Int)),(15,A k)] [BC (d+1)] (BA O) λG=>B (AM G AB (AH 11) [.C [.N 9,.N 10,A h,A (Gh f d j m h k).2.2],.E,.E,AE f,NF f k,MP f k,AE (f.getD k K).b,AE (f.getD k K).e,PA f k,.L 76 (D.N (Gh f d j m h k).1),.L 3 (D.C (Gh f d j m h k).2.1)] [(0,.P 0 0),(2,A d),(7,.P 8 0),(9,Wg f j k),(13,.N 3),(14,A (J f:Int)),(15,A k)] λG=>B (AQ G AB [(10,A ((Gh f d j m h k).1.length:Int))] λG=>B (AM G (Ai 2 [0,9,10,19] (LY 8 ([0]++[]) (by simp) ((AW (f.getD k K).b (d+1) (j++AJ (f.getD k K).v 0++[Bx 9 ([0]++([0]++[]))],m++Ac (AJ (f.getD k K).v 0).length h++[h],h+1)).1) ((AW (f.getD k K).b (d+1) (j++AJ (f.getD k K).v 0++[Bx 9 ([0]++([0]++[]))],m++Ac (AJ (f.getD k K).v 0).length h++[h],h+1)).2.1) h ((AW (f.getD k K).b (d+1) (j++AJ (f.getD k K).v 0++[Bx 9 ([0]++([0]++[]))],m++Ac (AJ (f.getD k K).v 0).length h++[h],h+1)).2.2) (by have g:=y O;simp only[Ly,Az,BK,Bc];omega) (by have g:=y O;simp only[iw,Az,BK,Bc,FX];omega))) [0,1,2,3,4,5,6,7,8,27,28] [.C [.N 9,.N 10,A h,A (Gh f d j m h k).2.2],.E,.E,AE f,NF f k,MP f k,AE (f.getD k K).b,AE (f.getD k K).e,PA f k,.L 76 (D.N ((Gh f d j m h k).1++[Bx 8 ([0]++[])])),.L 3 (D.C ((Gh f d j m h k).2.1++[h]))] [(0,.P 0 0),(2,A d),(7,.P 8 0),(9,Wg f j k),(10,A ((Gh f d j m h k).1.length:Int)),(13,.N 3),(14,A (J f:Int)),(15,A k)] λG=>?_)))))))
     refine Ec (B (Df G AB [0,1,3,7,0,0,32,96,224,480,1023,2047,4095] (AH 11) [.C [.N 9,.N 10,A h,A (Gh f d j m h k).2.2],.E,.E,AE f,NF f k,MP f k,AE (f.getD k K).b,AE (f.getD k K).e,PA f k,.L 76 (D.N (((Gh f d j m h k).1++[Bx 8 ([0]++[])]).set (j++AJ (f.getD k K).v 0).length (AV.mk (((Gh f d j m h k).1++[Bx 8 ([0]++[])]).getD (j++AJ (f.getD k K).v 0).length K).op (((Gh f d j m h k).1++[Bx 8 ([0]++[])]).getD (j++AJ (f.getD k K).v 0).length K).a (((Gh f d j m h k).1++[Bx 8 ([0]++[])]).length:Int) (((Gh f d j m h k).1++[Bx 8 ([0]++[])]).getD (j++AJ (f.getD k K).v 0).length K).c (((Gh f d j m h k).1++[Bx 8 ([0]++[])]).getD (j++AJ (f.getD k K).v 0).length K).d))),.L 3 (D.C ((Gh f d j m h k).2.1++[h]))] [(0,.P 0 0),(2,A d),(7,.P 8 0),(10,A ((Gh f d j m h k).1.length:Int)),(13,.N 3),(14,A (J f:Int)),(15,A k)] [(0:Int)<=((j++AJ (f.getD k K).v (0:Int)).length:Int),((j++AJ (f.getD k K).v (0:Int)).length:Int)<(((AW (f.getD k K).b (d+1) (j++AJ (f.getD k K).v (0:Int)++[Bx (9:Int) ([(0:Int)]++([(0:Int)]++[]))],m++Ac (AJ (f.getD k K).v (0:Int)).length h++[h],h+1)).1++[Bx (8:Int) ([(0:Int)]++[])]).length:Int),(j++AJ (f.getD k K).v (0:Int)).length<((AW (f.getD k K).b (d+1) (j++AJ (f.getD k K).v (0:Int)++[Bx (9:Int) ([(0:Int)]++([(0:Int)]++[]))],m++Ac (AJ (f.getD k K).v (0:Int)).length h++[h],h+1)).1++[Bx (8:Int) ([(0:Int)]++[])]).length] ⟨O,(by have g:=y O;simp only[Ly,Az,BK,Bc];omega),(by have g:=y O;simp only[Ly,Az,BK,Bc];omega),Ay⟩ λG=>B (CT G (Ai 5 [0,9,10,7] (R ((f.getD k K).e) (((AW (f.getD k K).b (d+1) (j++AJ (f.getD k K).v 0++[Bx 9 ([0]++([0]++[]))],m++Ac (AJ (f.getD k K).v 0).length h++[h],h+1)).1++[Bx 8 ([0]++[])]).set (j++AJ (f.getD k K).v 0).length (AV.mk (((AW (f.getD k K).b (d+1) (j++AJ (f.getD k K).v 0++[Bx 9 ([0]++([0]++[]))],m++Ac (AJ (f.getD k K).v 0).length h++[h],h+1)).1++[Bx 8 ([0]++[])]).getD (j++AJ (f.getD k K).v 0).length K).op (((AW (f.getD k K).b (d+1) (j++AJ (f.getD k K).v 0++[Bx 9 ([0]++([0]++[]))],m++Ac (AJ (f.getD k K).v 0).length h++[h],h+1)).1++[Bx 8 ([0]++[])]).getD (j++AJ (f.getD k K).v 0).length K).a (((AW (f.getD k K).b (d+1) (j++AJ (f.getD k K).v 0++[Bx 9 ([0]++([0]++[]))],m++Ac (AJ (f.getD k K).v 0).length h++[h],h+1)).1++[Bx 8 ([0]++[])]).length:Int) (((AW (f.getD k K).b (d+1) (j++AJ (f.getD k K).v 0++[Bx 9 ([0]++([0]++[]))],m++Ac (AJ (f.getD k K).v 0).length h++[h],h+1)).1++[Bx 8 ([0]++[])]).getD (j++AJ (f.getD k K).v 0).length K).c (((AW (f.getD k K).b (d+1) (j++AJ (f.getD k K).v 0++[Bx 9 ([0]++([0]++[]))],m++Ac (AJ (f.getD k K).v 0).length h++[h],h+1)).1++[Bx 8 ([0]++[])]).getD (j++AJ (f.getD k K).v 0).length K).d)) ((AW (f.getD k K).b (d+1) (j++AJ (f.getD k K).v 0++[Bx 9 ([0]++([0]++[]))],m++Ac (AJ (f.getD k K).v 0).length h++[h],h+1)).2.1++[h]) h ((AW (f.getD k K).b (d+1) (j++AJ (f.getD k K).v 0++[Bx 9 ([0]++([0]++[]))],m++Ac (AJ (f.getD k K).v 0).length h++[h],h+1)).2.2) (d+1) O (by subst q o p r;exact(JJ F O).2.2) (by have g:=y O;simp only[Ly,Az,BK,Bc,GP];omega) (by have g:=y O;simp only[Ly,iw,Az,BK,Bc,FX,GP];omega) O O (by have g:=y O;simp only[Pe];omega) (by have g:=y O;simp only[Pe];omega))) [0,1,2,3,51,52] [.C [.N 4,.N 5,A (GA (f.getD k K).e (Gh f d j m h k).2.2 h),A (NR f d j m h k).2.2],.E,.E,AE f,.L 76 (D.N (NR f d j m h k).1),.L 3 (D.C (NR f d j m h k).2.1)] [(0,.P 0 0),(2,A d),(10,A ((Gh f d j m h k).1.length:Int)),(13,.N 3),(14,A (J f:Int)),(15,A k)] [BC (d+1)] (BA O) λG=>?_)))
     refine Ec (Df G AB [0,1,3,7,0,0,32,96,224,480,1023,2047,4095] (AH 6) [.C [.N 4,.N 5,A (GA (f.getD k K).e (Gh f d j m h k).2.2 h),A (NR f d j m h k).2.2],.E,.E,AE f,.L 76 (D.N ((NR f d j m h k).1.set (Gh f d j m h k).1.length (AV.mk ((NR f d j m h k).1.getD (Gh f d j m h k).1.length K).op ((NR f d j m h k).1.length:Int) ((NR f d j m h k).1.getD (Gh f d j m h k).1.length K).b ((NR f d j m h k).1.getD (Gh f d j m h k).1.length K).c ((NR f d j m h k).1.getD (Gh f d j m h k).1.length K).d))),.L 3 (D.C (NR f d j m h k).2.1)] [(0,.P 0 0),(2,A d),(13,.N 3),(14,A (J f:Int)),(15,A k)] [(0:Int)<=((AW (f.getD k K).b (d+1) (j++AJ (f.getD k K).v (0:Int)++[Bx (9:Int) ([(0:Int)]++([(0:Int)]++[]))],m++Ac (AJ (f.getD k K).v (0:Int)).length h++[h],h+1)).1.length:Int),((AW (f.getD k K).b (d+1) (j++AJ (f.getD k K).v (0:Int)++[Bx (9:Int) ([(0:Int)]++([(0:Int)]++[]))],m++Ac (AJ (f.getD k K).v (0:Int)).length h++[h],h+1)).1.length:Int)<((AW (f.getD k K).e (d+1) (((AW (f.getD k K).b (d+1) (j++AJ (f.getD k K).v (0:Int)++[Bx (9:Int) ([(0:Int)]++([(0:Int)]++[]))],m++Ac (AJ (f.getD k K).v (0:Int)).length h++[h],h+1)).1++[Bx (8:Int) ([(0:Int)]++[])]).set (j++AJ (f.getD k K).v (0:Int)).length (AV.mk (((AW (f.getD k K).b (d+1) (j++AJ (f.getD k K).v (0:Int)++[Bx (9:Int) ([(0:Int)]++([(0:Int)]++[]))],m++Ac (AJ (f.getD k K).v (0:Int)).length h++[h],h+1)).1++[Bx (8:Int) ([(0:Int)]++[])]).getD (j++AJ (f.getD k K).v (0:Int)).length K).op (((AW (f.getD k K).b (d+1) (j++AJ (f.getD k K).v (0:Int)++[Bx (9:Int) ([(0:Int)]++([(0:Int)]++[]))],m++Ac (AJ (f.getD k K).v (0:Int)).length h++[h],h+1)).1++[Bx (8:Int) ([(0:Int)]++[])]).getD (j++AJ (f.getD k K).v (0:Int)).length K).a (((AW (f.getD k K).b (d+1) (j++AJ (f.getD k K).v (0:Int)++[Bx (9:Int) ([(0:Int)]++([(0:Int)]++[]))],m++Ac (AJ (f.getD k K).v (0:Int)).length h++[h],h+1)).1++[Bx (8:Int) ([(0:Int)]++[])]).length:Int) (((AW (f.getD k K).b (d+1) (j++AJ (f.getD k K).v (0:Int)++[Bx (9:Int) ([(0:Int)]++([(0:Int)]++[]))],m++Ac (AJ (f.getD k K).v (0:Int)).length h++[h],h+1)).1++[Bx (8:Int) ([(0:Int)]++[])]).getD (j++AJ (f.getD k K).v (0:Int)).length K).c (((AW (f.getD k K).b (d+1) (j++AJ (f.getD k K).v (0:Int)++[Bx (9:Int) ([(0:Int)]++([(0:Int)]++[]))],m++Ac (AJ (f.getD k K).v (0:Int)).length h++[h],h+1)).1++[Bx (8:Int) ([(0:Int)]++[])]).getD (j++AJ (f.getD k K).v (0:Int)).length K).d),(AW (f.getD k K).b (d+1) (j++AJ (f.getD k K).v (0:Int)++[Bx (9:Int) ([(0:Int)]++([(0:Int)]++[]))],m++Ac (AJ (f.getD k K).v (0:Int)).length h++[h],h+1)).2.1++[h],(AW (f.getD k K).b (d+1) (j++AJ (f.getD k K).v (0:Int)++[Bx (9:Int) ([(0:Int)]++([(0:Int)]++[]))],m++Ac (AJ (f.getD k K).v (0:Int)).length h++[h],h+1)).2.2)).1.length:Int),(AW (f.getD k K).b (d+1) (j++AJ (f.getD k K).v (0:Int)++[Bx (9:Int) ([(0:Int)]++([(0:Int)]++[]))],m++Ac (AJ (f.getD k K).v (0:Int)).length h++[h],h+1)).1.length<(AW (f.getD k K).e (d+1) (((AW (f.getD k K).b (d+1) (j++AJ (f.getD k K).v (0:Int)++[Bx (9:Int) ([(0:Int)]++([(0:Int)]++[]))],m++Ac (AJ (f.getD k K).v (0:Int)).length h++[h],h+1)).1++[Bx (8:Int) ([(0:Int)]++[])]).set (j++AJ (f.getD k K).v (0:Int)).length (AV.mk (((AW (f.getD k K).b (d+1) (j++AJ (f.getD k K).v (0:Int)++[Bx (9:Int) ([(0:Int)]++([(0:Int)]++[]))],m++Ac (AJ (f.getD k K).v (0:Int)).length h++[h],h+1)).1++[Bx (8:Int) ([(0:Int)]++[])]).getD (j++AJ (f.getD k K).v (0:Int)).length K).op (((AW (f.getD k K).b (d+1) (j++AJ (f.getD k K).v (0:Int)++[Bx (9:Int) ([(0:Int)]++([(0:Int)]++[]))],m++Ac (AJ (f.getD k K).v (0:Int)).length h++[h],h+1)).1++[Bx (8:Int) ([(0:Int)]++[])]).getD (j++AJ (f.getD k K).v (0:Int)).length K).a (((AW (f.getD k K).b (d+1) (j++AJ (f.getD k K).v (0:Int)++[Bx (9:Int) ([(0:Int)]++([(0:Int)]++[]))],m++Ac (AJ (f.getD k K).v (0:Int)).length h++[h],h+1)).1++[Bx (8:Int) ([(0:Int)]++[])]).length:Int) (((AW (f.getD k K).b (d+1) (j++AJ (f.getD k K).v (0:Int)++[Bx (9:Int) ([(0:Int)]++([(0:Int)]++[]))],m++Ac (AJ (f.getD k K).v (0:Int)).length h++[h],h+1)).1++[Bx (8:Int) ([(0:Int)]++[])]).getD (j++AJ (f.getD k K).v (0:Int)).length K).c (((AW (f.getD k K).b (d+1) (j++AJ (f.getD k K).v (0:Int)++[Bx (9:Int) ([(0:Int)]++([(0:Int)]++[]))],m++Ac (AJ (f.getD k K).v (0:Int)).length h++[h],h+1)).1++[Bx (8:Int) ([(0:Int)]++[])]).getD (j++AJ (f.getD k K).v (0:Int)).length K).d),(AW (f.getD k K).b (d+1) (j++AJ (f.getD k K).v (0:Int)++[Bx (9:Int) ([(0:Int)]++([(0:Int)]++[]))],m++Ac (AJ (f.getD k K).v (0:Int)).length h++[h],h+1)).2.1++[h],(AW (f.getD k K).b (d+1) (j++AJ (f.getD k K).v (0:Int)++[Bx (9:Int) ([(0:Int)]++([(0:Int)]++[]))],m++Ac (AJ (f.getD k K).v (0:Int)).length h++[h],h+1)).2.2)).1.length] ⟨O,(by have g:=y O;simp only[Ly,Az,BK,Bc,GP];omega),(by have g:=y O;simp only[Ly,Az,BK,Bc,GP];omega),Ay⟩ λG=>?_)
     refine BL (BL (Bi G AB [(15,A ((k:Int)+1))] [BC ((k:Int)+1)] (BA O) λG=>?_));exact Ce G (k+1) O O (AH 6) (by have C:(GA (Ae (k+1) f) n z:Int)=(GA (f.getD k K).e (AW (f.getD k K).b (d+1) (j++AJ (f.getD k K).v 0++[Bx 9 ([0]++([0]++[]))],m++Ac (AJ (f.getD k K).v 0).length h++[h],h+1)).2.2 h):=(by subst q o p r;exact xo O O);subst q o p r;have E:=(QP (show k<(J f) by omega)).trans (gC (l:=(AW (f.take k) d (l,u,n)).1) (fr:=(AW (f.take k) d (l,u,n)).2.1) (at0:=(AW (f.take k) d (l,u,n)).2.2) (d:=d) (s:=f.getD k K) O);rw[C,E]<;>rfl)
    refine B (AM G (Ai 3 [0,9,10,4] (ry ((f.getD k K).i) (j++AJ (f.getD k K).v 0) (m++Ac (AJ (f.getD k K).v 0).length h) h (h+1) 1 O O (by subst q o p r;exact(Mz r1 O).2.2.1) (by have g:=y O;simp only[Az,FX];omega))) [0,1,2,3,4,5,6,7,8,35,36] [Ve h,.E,.E,AE f,NF f k,MP f k,AE (f.getD k K).b,AE (f.getD k K).e,PA f k,.L 76 (D.N (j++AJ (f.getD k K).v 0++AJ (f.getD k K).i 1)),.L 3 (D.C (m++Ac (AJ (f.getD k K).v 0).length h++Ac (AJ (f.getD k K).i 1).length h))] [(0,.P 0 0),(2,A d),(7,.P 8 0),(13,.N 3),(14,A (J f:Int)),(15,A k)] λG=>AM G (Ai 4 [0,9,10,35] (LY 5 ([(f.getD k K).g]++([1]++([0]++[]))) (by simp) (j++AJ (f.getD k K).v 0++AJ (f.getD k K).i 1) (m++Ac (AJ (f.getD k K).v 0).length h++Ac (AJ (f.getD k K).i 1).length h) h (h+1) (by have g:=y O;simp only[Az];omega) (by have g:=y O;simp only[Az,FX];omega))) [0,1,2,3,43,44] [.C [.N 4,.N 5,A h,A (h+1)],.E,.E,AE f,.L 76 (D.N (j++AJ (f.getD k K).v 0++AJ (f.getD k K).i 1++[Bx 5 ([(f.getD k K).g]++([1]++([0]++[])))])),.L 3 (D.C (m++Ac (AJ (f.getD k K).v 0).length h++Ac (AJ (f.getD k K).i 1).length h++[h]))] [(0,.P 0 0),(2,A d),(13,.N 3),(14,A (J f:Int)),(15,A k)] λG=>BL (BL (Bi G AB [(15,A ((k:Int)+1))] [BC ((k:Int)+1)] (BA O) λG=>?_)));exact Ce G (k+1) O O (AH 6) (by have C:(GA (Ae (k+1) f) n z:Int)=(h):=(by subst q o p r;exact Zn O O);subst q o p r;have E:=(QP (show k<(J f) by omega)).trans (YC (l:=(AW (f.take k) d (l,u,n)).1) (fr:=(AW (f.take k) d (l,u,n)).2.1) (at0:=(AW (f.take k) d (l,u,n)).2.2) (d:=d) (s:=f.getD k K) O);rw[C,E]<;>rfl)
   refine B (AM G (Ai 2 [0,9,10,19] (LY 11 ([0]++[]) (by simp) (j++AJ (f.getD k K).v 0) (m++Ac (AJ (f.getD k K).v 0).length h) h (h+1) (by have g:=y O;simp only[Az];omega) (by have g:=y O;simp only[Az,FX];omega))) [0,1,2,3,4,5,6,7,8,27,28] [Ve h,.E,.E,AE f,NF f k,MP f k,AE (f.getD k K).b,AE (f.getD k K).e,PA f k,.L 76 (D.N (j++AJ (f.getD k K).v 0++[Bx 11 ([0]++[])])),.L 3 (D.C (m++Ac (AJ (f.getD k K).v 0).length h++[h]))] [(0,.P 0 0),(2,A d),(7,.P 8 0),(13,.N 3),(14,A (J f:Int)),(15,A k)] λG=>AM G (Ai 4 [0,9,10,35] (LY 3 ([(f.getD k K).g]++([0]++[])) (by simp) (j++AJ (f.getD k K).v 0++[Bx 11 ([0]++[])]) (m++Ac (AJ (f.getD k K).v 0).length h++[h]) h (h+1) (by have g:=y O;simp only[Az,BK,Bc];omega) (by have g:=y O;simp only[Az,BK,Bc,FX];omega))) [0,1,2,3,43,44] [.C [.N 4,.N 5,A h,A (h+1)],.E,.E,AE f,.L 76 (D.N (j++AJ (f.getD k K).v 0++[Bx 11 ([0]++[])]++[Bx 3 ([(f.getD k K).g]++([0]++[]))])),.L 3 (D.C (m++Ac (AJ (f.getD k K).v 0).length h++[h]++[h]))] [(0,.P 0 0),(2,A d),(13,.N 3),(14,A (J f:Int)),(15,A k)] λG=>BL (BL (Bi G AB [(15,A ((k:Int)+1))] [BC ((k:Int)+1)] (BA O) λG=>?_)));exact Ce G (k+1) O O (AH 6) (by have C:(GA (Ae (k+1) f) n z:Int)=(h):=(by subst q o p r;exact Zn O O);subst q o p r;have E:=(QP (show k<(J f) by omega)).trans (XP (l:=(AW (f.take k) d (l,u,n)).1) (fr:=(AW (f.take k) d (l,u,n)).2.1) (at0:=(AW (f.take k) d (l,u,n)).2.2) (d:=d) (s:=f.getD k K) O);rw[C,E]<;>rfl)
  refine AM G (Ai 4 [0,9,10,35] (LY 3 ([(f.getD k K).g]++([0]++[])) (by simp) (j++AJ (f.getD k K).v 0) (m++Ac (AJ (f.getD k K).v 0).length h) h (h+1) (by have g:=y O;simp only[Az];omega) (by have g:=y O;simp only[Az,FX];omega))) [0,1,2,3,43,44] [.C [.N 4,.N 5,A h,A (h+1)],.E,.E,AE f,.L 76 (D.N (j++AJ (f.getD k K).v 0++[Bx 3 ([(f.getD k K).g]++([0]++[]))])),.L 3 (D.C (m++Ac (AJ (f.getD k K).v 0).length h++[h]))] [(0,.P 0 0),(2,A d),(13,.N 3),(14,A (J f:Int)),(15,A k)] λG=>BL (BL (Bi G AB [(15,A ((k:Int)+1))] [BC ((k:Int)+1)] (BA O) λG=>?_));exact Ce G (k+1) O O (AH 6) (by have C:(GA (Ae (k+1) f) n z:Int)=(h):=(by subst q o p r;exact Zn O O);subst q o p r;have E:=(QP (show k<(J f) by omega)).trans (YG (l:=(AW (f.take k) d (l,u,n)).1) (fr:=(AW (f.take k) d (l,u,n)).2.1) (at0:=(AW (f.take k) d (l,u,n)).2.2) (d:=d) (s:=f.getD k K) O);rw[C,E]<;>rfl)
theorem nJ(i j):∀(g:Nat) (b:List AG) (l:List AV) (e:List Int) (f c d:Int),b.all (Ax i j g)=V->J l+4*Ah b<=5000000->J e=J l->0<=d->d+g<=100->0<=c->c+CP b<=5000000->AN.ok prog (Yw l e f c b d)
 | 0, b, l, e, f, c, d, m, o, q, k, y, n, p => by
  have x:b=[]:=by
   cases b with
   |nil=>rfl
   |cons a r=>simp[Ax]at m
  subst x;exact nY i j 0 101 O [] rfl (λ_ _ _ _ _ _ h=>absurd h At) l e f c d o q k O n p
 |g+1,b,l,e,f,c,d,m,o,q,k,y,n,p=>
  nY i j g 100 O b m (λb l e f c d _ u z s C t v w=>nJ i j g b l e f c d u z s C t v w) l e f c d o q k O n p
theorem Y1(p)(a:BZ p=V)(c:Ah p.b<=1048576):AN.ok prog (Yw [] [] 0 0 p.b 0):=
 nJ _ _ 5 p.b [] [] 0 0 0 (by simp only[BZ,MG,Aj,decide_eq_true_eq]at a;exact a.1.2) (by simp only[Bc];omega) rfl O O O (by have:=VN p.b;omega)
theorem uM(p)(a:BZ p=U):AN.ok prog ⟨88,[Ao 0],Be p,Be p,.T [.v (.pointer I),AC U]⟩:=by
 refine BP 26 func88 [W p.s,W p.r,AE p.b] [(0,Ao 0)] λG=>?_;refine B (AM G AB (AH 4) [W p.s,W p.r,AE p.b,.C (Al 0)] [(1,.P 3 0),(2,.v (.pointer I)),(3,AC U)] λG=>B (B (AQ G (Ai 1 [0,1,2] (Tz p)) [(7,.v (.bool !BZ p))] λG=>Ba G (!BZ p) (by rw[a];rfl) (B (AQ G AB [] λG=>AT (Ar ?_))))));exact Br G [0,1,2]
theorem P7(p)(d:BZ p=V)(c:Ah p.b<=1048576):AN.ok prog ⟨88,[Ao 0],Be p,Be p++[.C [.N 4,.N 5,A (-1),A (Ed p).2.2],GJ (Ed p).1,Ej (Ed p).2.1],.T [.P 3 0,AC (Y (((Ed p).1.length:Int)<=400))]⟩:=by
 have a:=Y1 p d c;refine BP 26 func88 [W p.s,W p.r,AE p.b] [(0,Ao 0)] λG=>?_;have f:=ox p c;refine B (AM G AB (AH 4) [W p.s,W p.r,AE p.b,.C (Al 0)] [(1,.P 3 0),(2,.v (.pointer I)),(3,AC U)] λG=>B (B (AQ G (Ai 1 [0,1,2] (Tz p)) [(7,.v (.bool !BZ p))] λG=>Bo G (!BZ p) (by rw[d];rfl) (Aq (B (AM G AB [0,1,2,3,12] [W p.s,W p.r,AE p.b,.C (Al 0),.C [AK,AK,A 0,A 0]] [(1,.P 3 0),(2,.v (.pointer I)),(3,AC U),(4,.P 4 0)] λG=>B ?_))))));obtain⟨e,G⟩:=G.nil 5 76 (.N []) 5 [W p.s,W p.r,AE p.b,.C (Al 0),.C [.N 5,AK,A 0,A 0]] [(1,.P 3 0),(2,.v (.pointer I)),(3,AC U),(4,.P 4 0)];obtain⟨e,G⟩:=G.nil 6 3 (.C []) 1 [W p.s,W p.r,AE p.b,.C (Al 0),.C [.N 5,.N 6,A 0,A 0],.L 76 (D.N [])] [(1,.P 3 0),(2,.v (.pointer I)),(3,AC U),(4,.P 4 0)];refine AM G (Ai 3 [4,5,6,2] a) [0,1,2,4,31,32] [W p.s,W p.r,AE p.b,.C [.N 4,.N 5,A (GA p.b 0 0),A (AW p.b 0 ([],[],0)).2.2],.L 76 (D.N (AW p.b 0 ([],[],0)).1),.L 3 (D.C (AW p.b 0 ([],[],0)).2.1)] [(2,.v (.pointer I)),(3,AC U),(4,.P 3 0)] λG=>B (AM G AB (AH 6) [W p.s,W p.r,AE p.b,.C [.N 4,.N 5,A (-1),A (AW p.b 0 ([],[],0)).2.2],.L 76 (D.N (AW p.b 0 ([],[],0)).1),.L 3 (D.C (AW p.b 0 ([],[],0)).2.1)] [(2,.v (.pointer I)),(3,AC U),(4,.P 3 0)] λG=>B (AM G (Ai 1 [3,4,5] (t4 13 ((AW p.b 0 ([],[],0)).1) ((AW p.b 0 ([],[],0)).2.1) (-1) ((AW p.b 0 ([],[],0)).2.2) O O)) [0,1,2,3,14,15] [W p.s,W p.r,AE p.b,.C [.N 4,.N 5,A (-1),A (AW p.b 0 ([],[],0)).2.2],.L 76 (D.N ((AW p.b 0 ([],[],0)).1++[AV.mk 13 0 0 0 0])),.L 3 (D.C ((AW p.b 0 ([],[],0)).2.1++[-1]))] [(2,.v (.pointer I)),(3,AC U),(4,.P 3 0)] λG=>B (NK G AB [0,0,2,6,14,30,62,1,255] [(2,.P 3 0),(3,AC (Y ((((AW p.b 0 ([],[],0)).1++[AV.mk 13 0 0 0 0]).length:Int)<=400)))] λG=>AT ?_)));exact Br G (AH 6)
theorem G2(p)(a:BZ p=U):AN.ok prog ⟨39,[Ao 0],Be p,Be p++[Ej (Kd p),Ej (Hz p),GJ (Ez p).1],.T [.agg [.N 3,.N 4,.N 5],AC (EQ p)]⟩:=by
 have c:=uM p a;refine BP 25 func39 [W p.s,W p.r,AE p.b] [(0,Ao 0)] λG=>?_;refine B (AM G AB [0,1,2,3,11] [W p.s,W p.r,AE p.b,.C (Al 0),.C [AK,AK,AK]] [(1,.P 3 0),(2,.P 4 0),(3,AC U)] λG=>B (AQ G (Ai 1 [0,1,2] c) [(4,.v (.pointer I)),(5,AC U)] λG=>B (B (AQ G AB [(12,AC V)] λG=>Ba G V Au (B (BS G AB [(1,.P 3 0),(2,.P 4 0),(3,AC U),(4,.v (.pointer I))] λG=>AT (Ar ?_)))))));obtain⟨e,G⟩:=G.nil 5 3 (.C []) 1 [W p.s,W p.r,AE p.b,.C (Al 0),.C [.N 5,AK,AK]] [(1,.P 3 0),(2,.P 4 0),(3,AC U),(4,.v (.pointer I))];obtain⟨e,G⟩:=G.nil 6 3 (.C []) 1 [W p.s,W p.r,AE p.b,.C (Al 0),.C [.N 5,.N 6,AK],.L 3 (D.C [])] [(1,.P 3 0),(2,.P 4 0),(3,AC U),(4,.v (.pointer I))];obtain⟨e,G⟩:=G.nil 7 76 (.N []) 5 [W p.s,W p.r,AE p.b,.C (Al 0),.C (Al 5),.L 3 (D.C []),.L 3 (D.C [])] [(1,.P 3 0),(2,.P 4 0),(3,AC U),(4,.v (.pointer I))];exact Cr (.T [Ao 5,AC U]) G [0,1,2,5,6,7] (by have d:(EQ p:Bool)=(U):=(QT a);(first|rw[d]|simp only[d])<;>rfl) (by show _=BM [0,1,2,5,6,7] [W p.s,W p.r,AE p.b,.L 3 (D.C (Kd p)),.L 3 (D.C (Hz p)),.L 76 (D.N (Ez p).1)];have g:(Hz p:List Int)=([]):=(by rw[VI (QT a)];done);have f:((Ez p).1:List AV)=([]):=(by rw[Pm (QT a)];done);rw[g,f,WD (QT a)]<;>rfl)
abbrev ZF(p:BE):List AI:=[W p.s,W p.r,AE p.b,.L 3 (D.C (Kd p)),.L 3 (D.C (Hz p)),.L 76 (D.N (Ez p).1)]
abbrev XT(p:BE)(a:List AI):List AI:=.C [.N 6,.N 7,A (-1),A (Ed p).2.2]::.L 76 (D.N (Ed p).1)::.L 3 (D.C (Ed p).2.1)::a
theorem zT(p)(c:BZ p=V)(l:p.size<=1048576):AN.ok prog ⟨39,[Ao 0],Be p,Be p++[Ej (Kd p),Ej (Hz p),GJ (Ez p).1],.T [.agg [.N 3,.N 4,.N 5],AC (EQ p)]⟩:=by
 have i:J p.s<=1048576/\(J p.r)<=1048576/\Ah p.b<=1048576:=by unfold BE.size at l;omega
 have h:=P7 p c i.2.2;refine BP 25 func39 [W p.s,W p.r,AE p.b] [(0,Ao 0)] λG=>?_;refine B (AM G AB [0,1,2,3,11] [W p.s,W p.r,AE p.b,.C (Al 0),.C [AK,AK,AK]] [(1,.P 3 0),(2,.P 4 0),(3,AC U)] λG=>B (AM G (Ai 1 [0,1,2] h) [0,1,2,3,4,13,14,15] (W p.s::W p.r::AE p.b::.C (Al 0)::.C [AK,AK,AK]::(XT p [])) [(1,.P 3 0),(2,.P 4 0),(3,AC U),(4,.P 5 0),(5,AC (Y (((Ed p).1.length:Int)<=400)))] λG=>B (B (AQ G AB [(12,.v (.bool !Y (((Ed p).1.length:Int)<=400)))] λG=>?_))));cases d:(!Y (((Ed p).1.length:Int)<=400))
 ·have k:((Ed p).1.length:Int)<=400:=(λe=>of_decide_eq_true e) (Eq.mp (Cp _) d);refine Bo G _ d (Aq (B (Fr G (BH (AX 2 [0] (RD p.s O) (AX 5 [1] (RD p.r O) BG)) Ag []) [0,1,3,0,8,31,0,64,192,448,1023,2047,4095] [0,1,2,4,6,24,48] [W p.s,W p.r,AE p.b,.C [.N 5,.N 6,.N 4],.L 76 (D.N (Ed p).1),.L 3 (D.C p.s),.L 3 (D.C p.r)] [(2,.P 3 0),(3,AC V)] λG=>AT ?_)));exact Cr (.T [.agg [.N 5,.N 6,.N 4],AC V]) G [0,1,2,5,6,4] (by have a:(EQ p:Bool)=(V):=(RZ c O);(first|rw[a]|simp only[a])<;>rfl) (by show _=BM [0,1,2,5,6,4] (ZF p);unfold ZF;have f:(Hz p:List Int)=(p.r):=(by rw[ju (RZ c O)];done);have g:((Ez p).1:List AV)=((Ed p).1):=(by rw[gD (RZ c O)];done);rw[f,g,dh (RZ c O)]<;>rfl)
 have k:¬(((Ed p).1.length:Int)<=400):=(λe=>of_decide_eq_false e) (Eq.mp (Cn _) d);refine Ba G _ d (B (BS G AB [(1,.P 3 0),(2,.P 4 0),(3,AC U),(4,.P 5 0)] λG=>AT (Ar ?_)));obtain⟨j,G⟩:=G.nil 8 3 (.C []) 1 (W p.s::W p.r::AE p.b::.C (Al 0)::.C [.N 8,AK,AK]::(XT p [])) [(1,.P 3 0),(2,.P 4 0),(3,AC U),(4,.P 5 0)];obtain⟨j,G⟩:=G.nil 9 3 (.C []) 1 (W p.s::W p.r::AE p.b::.C (Al 0)::.C [.N 8,.N 9,AK]::(XT p [.L 3 (D.C [])])) [(1,.P 3 0),(2,.P 4 0),(3,AC U),(4,.P 5 0)];obtain⟨j,G⟩:=G.nil 10 76 (.N []) 5 (W p.s::W p.r::AE p.b::.C (Al 0)::.C (Al 8)::(XT p [.L 3 (D.C []),.L 3 (D.C [])])) [(1,.P 3 0),(2,.P 4 0),(3,AC U),(4,.P 5 0)];exact Cr (.T [Ao 8,AC U]) G [0,1,2,8,9,10] (by have a:(EQ p:Bool)=(U):=(RN O);(first|rw[a]|simp only[a])<;>rfl) (by show _=BM [0,1,2,8,9,10] (ZF p);unfold ZF;have f:(Hz p:List Int)=([]):=(by rw[VI (RN O)];done);have g:((Ez p).1:List AV)=([]):=(by rw[Pm (RN O)];done);rw[f,g,WD (RN O)]<;>rfl)
theorem ab2(p)(b:p.size<=1048576):AN.ok prog ⟨39,[Ao 0],Be p,Be p++[Ej (Kd p),Ej (Hz p),GJ (Ez p).1],.T [.agg [.N 3,.N 4,.N 5],AC (EQ p)]⟩:=by
 cases a:BZ p with
 |true=>exact zT p a b
 |false=>exact G2 p a
abbrev Zi(p:BE)(a:List AI):List AI:=.L 3 (D.C (Bn p).s)::.L 3 (D.C (Bn p).r)::.Q (D.M (Bn p).b)::.C [.N 4,.N 5,.F 6]::a
theorem aa5(p)(i:p.size<=1048576):AN.ok prog ⟨13,[Ao 0],Be p,Be p++[Ej (Kd (Bn p)),Ej (Hz (Bn p)),GJ (Ez (Bn p)).1],.T [.agg [.N 3,.N 4,.N 5],AC (EQ (Bn p))]⟩:=by
 refine BP 18 func13 [W p.s,W p.r,AE p.b] [(0,Ao 0)] λG=>?_;have j:=ef p
 have g:(Bn p).size<=1048576:=O;refine B (AM G AB [0,1,2,3,11] [W p.s,W p.r,AE p.b,.C (Al 0),.C [AK,AK,AK]] [(1,.P 3 0),(2,.P 4 0),(3,AC U)] λG=>B (AM G (Ai 1 [0,1,2] (tk p Ab)) [0,1,2,4,13,14,15,45] (W p.s::W p.r::AE p.b::.C [AK,AK,AK]::(Zi p [])) [(2,.P 3 0),(3,AC U),(4,.P 7 0),(5,AC (EU p))] λG=>B (B (AQ G AB [(12,.v (.bool !EU p))] λG=>?_))));cases a:(!EU p)
 ·have f:(EU p)=true:=(Eq.mp (Cp _) a);refine Bo G _ a (Aq (B (AM G (Ai 1 [4,5,6] (AN.lend (ab2 (Bn p) Ab) [.L 3,.L 3,.Q])) [0,1,2,3,16,17,18] [W p.s,W p.r,AE p.b,.C (Al 4),.L 3 (D.C (Kd (Bn p))),.L 3 (D.C (Hz (Bn p))),.L 76 (D.N (Ez (Bn p)).1)] [(2,.P 3 0),(3,AC (EQ (Bn p)))] λG=>AT ?_)));exact Br G [0,1,2,4,5,6]
 have f:(EU p)=false:=(Eq.mp (Cn _) a);refine Ba G _ a (B (BS G AB [(2,.P 3 0),(3,AC U),(4,.P 7 0)] λG=>AT (Ar ?_)));obtain⟨d,G⟩:=G.nil 8 3 (.C []) 1 (W p.s::W p.r::AE p.b::.C [.N 8,AK,AK]::(Zi p [])) [(2,.P 3 0),(3,AC U),(4,.P 7 0)];obtain⟨d,G⟩:=G.nil 9 3 (.C []) 1 (W p.s::W p.r::AE p.b::.C [.N 8,.N 9,AK]::(Zi p [.L 3 (D.C [])])) [(2,.P 3 0),(3,AC U),(4,.P 7 0)];obtain⟨d,G⟩:=G.nil 10 76 (.N []) 5 (W p.s::W p.r::AE p.b::.C (Al 8)::(Zi p [.L 3 (D.C []),.L 3 (D.C [])])) [(2,.P 3 0),(3,AC U),(4,.P 7 0)];exact Cr (.T [Ao 8,AC U]) G [0,1,2,8,9,10] (by have c:(EQ (Bn p):Bool)=(U):=(QX AY);(first|rw[c]|simp only[c])<;>rfl) (by show _=BM [0,1,2,8,9,10] [W p.s,W p.r,AE p.b,.L 3 (D.C (Kd (Bn p))),.L 3 (D.C (Hz (Bn p))),.L 76 (D.N (Ez (Bn p)).1)];have h:(Hz (Bn p):List Int)=([]):=(by rw[VI (QX AY)];done);have e:((Ez (Bn p)).1:List AV)=([]):=(by rw[Pm (QX AY)];done);rw[h,e,WD (QX AY)]<;>rfl)
abbrev ji(l:List (Int×Int)):List Value:=l.flatMap λx=>[Value.int .i64 x.1,.int .i64 x.2]
theorem Cd.ev{w}{v}{l}(h:Cd w v (J l) 2 (ji l)):∃a c,v=.slice a (J l) c/\(J l)<=c/\(J l)<=9223372036854775807/\c<=9223372036854775807/\
  ∀i (f:i<J l),∃b d,a=Z ⟨b,d,I⟩/\b<w.heap.size/\w.cell? ⟨b,d+i*2,I⟩=Z (.int .i64 l[i].1)/\w.cell? ⟨b,d+i*2+1,I⟩=Z (.int .i64 l[i].2):=by
 obtain⟨a,c,u,r,n,o,q⟩:=h.open;refine⟨a,c,u,r,n,o,λi f=>?_⟩
 obtain⟨b,d,e,t,k⟩:=q i f;have m:=k 0 O;have p:=k 1 O;obtain⟨z,y,g⟩:=cz l (j:=0) (x:=.v (.int .i64 l[i].1)) f (by rw[DU f];rfl)
 obtain⟨C,s,Bs⟩:=cz l (j:=1) (x:=.v (.int .i64 l[i].2)) f (by rw[DU f];rfl)
 cases y
 cases s
 simp only[Fx]at m g;exact⟨b,d,e,t,by rw[m];exact g,by rw[p];exact Bs⟩
theorem vm(x y:Int×Int)(w):(binOp .neq 39 (.agg #[.int .i64 x.1,.int .i64 x.2]) (.agg #[.int .i64 y.1,.int .i64 y.2])).run prog w=.ok (.bool (!Y (x=y))) w:=by
 rw[run_neq_struct,run_equalIn_struct _ _ _ _ _ Au Au];rw[show(prog.fieldsOf 39).toList=[⟨ "Kind",3,0,U, "", "",0⟩,⟨ "Value",3,1,U, "", "",8⟩]from by kernel_rfl]
 simp only[Prod.ext_iff];simp[go_sem,Op.eqFields]
 (repeat' split)<;>simp_all
theorem x6(D t)(a b)(w)(u:Cd w D (J a) 2 (ji a))(z:Cd w t (J b) 2 (ji b)):
  Calls prog 57 #[D,t] w λe P=>e=.returned (.bool (Y (a=b)))/\∃n,P=w.drewN n:=by
 obtain⟨a1,c1,rfl,-,aB,-,f⟩:=u.ev;obtain⟨a2,c2,rfl,-,aC,-,d⟩:=z.ev;by_cases o:J a=J b
 ·have R:((J a:Int)==(J b:Int))=true:=CY
  have v:Hid (J a=J b):=o;clear u z o;go_enter func57,ntmps57;go_wp2;go_loopw [5,13] (λ_ i X=>∃k:Nat,k<=J a/\i=.int .i64 k/\a.take k=b.take k/\∃n,X=w.drewN n) (λ_ i _=>J a-(intOf i).toNat)
  case atStart=>exact⟨0,Di _,rfl,rfl,0,rfl⟩
  case round=>
   obtain⟨k,hk,rfl,r,nd,rfl⟩:=hrel;have s:Hid (a.take k=b.take k):=r;clear r;by_cases l:k<J a
   ·have c:k<J b:=by have:=v.out;omega
    obtain⟨b1,BA,M,T,L,G⟩:=f k l;obtain⟨b2,Co,H,F,Q,E⟩:=d k c;have C:=λw=>vm a[k] b[k] w
    have N:=BD ((fun(h:a[k]=b[k])=>eg s.out l c h))
    obtain⟨q,g⟩:∃q,q= !Y (a[k]=b[k]):=⟨_,rfl⟩;rw[<-g]at C;have j:=BD g;obtain⟨x,m⟩:∃x,x=a[k]:=⟨_,rfl⟩;obtain⟨y,p⟩:∃y,y=b[k]:=⟨_,rfl⟩;rw[<-m]at L G;rw[<-p]at Q E;simp only[<-m, <-p]at C;subst M H;clear f d g m p;cases q
    ·go_wp2
     go_quiet (fail);go_wp2;refine⟨⟨k+1,O,by go_num,N.out (by have:=j.out;simpa using this),_,by first|rfl|exact World.drewN_drewN _ _ _⟩,by simp[intOf];omega⟩
    go_wp2;go_quiet (fail);go_wp2;go_ret;exact⟨Dj (by symm;simp;intro h;subst h;simpa using j.out),_,by first|rfl|exact World.drewN_drewN _ _ _⟩
   go_wp2;go_ret;exact⟨Dj (by symm;simp;exact gz s.out O (by have:=v.out;omega)),_,rfl⟩
 have S:((J a:Int)==(J b:Int))=false:=CY;clear f d;go_enter func57,ntmps57;go_wp2;go_ret;exact⟨Dj (by symm;simp;intro h;exact o (by rw[h])),0,rfl⟩
theorem vI(l m):AN.ok prog (CJ 57 [.N 0,.N 1] [.G (.E l),.G (.E m)] (AC (Y (l=m)))):=
 NG λf w c h=>(x6 _ _ l m w (CV.L (h 0 _ rfl)) (CV.L (h 1 _ rfl))).mono λe d ⟨b,n,a⟩=>⟨b,a▸below_drewN (Below.refl _ _) n⟩
theorem V3(l m):AN.ok prog (CJ 20 [.N 0,.N 1] [.G (.E l),.G (.E m)] (AC (Y (l=m)))):=by
 refine BP 8 func20 [bh l,bh m] [(0,.N 0),(1,.N 1)] λG=>?_;refine B (AQ G AB [(4,AC U)] λG=>B (AQ G (Ai 2 [0,1] (vI l m)) [(4,AC (Y (l=m)))] λG=>AT ?_));exact Br G [0,1]
theorem B7{w}{c}{v}{l}(h:w.ownsRow 0 76 5 v (J l) (BW (De l))):(Bv.L 76 (D.N l).sz v (D.N l).len λb w c=>Ci w c (.N l) b).holds w c:=by
 refine⟨λb=>Ci.nice (.N l) b,BW (De l),h,λi e j x f=>?_⟩
 have a:i<J l:=e;obtain⟨y,rfl,d⟩:=fW l a f;exact⟨y,d,rfl⟩
theorem vT{f}{c d}{b}(h:∀v w,IL w v c->Calls prog f #[v] w λe t=>∃u,e=.returned (.tuple #[u,.bool b])/\IJ t w.heap.size t.heap.size u d/\Below w.heap.size w t):AN.ok prog ⟨f,[.agg [.N 0,.N 1,.N 2]],[.G (.C c.s),.G (.C c.r),.G (.N c.l)],[.G (.C c.s),.G (.C c.r),.G (.N c.l),.L 3 (.C d.s),.L 3 (.C d.r),.L 76 (.N d.l)],.T [.agg [.N 3,.N 4,.N 5],.v (.bool b)]⟩:=by
 intro T R S Q w F q M;have D:=M.datAt (id:=0) (d:=.C c.s) rfl;have G:=M.datAt (id:=1) (d:=.C c.r) rfl;have H:=M.datAt (id:=2) (d:=.N c.l) rfl;refine(h (.agg #[q 0,q 1,q 2]) w ⟨_,_,_,rfl,CV.L D,CV.L G,CV.L H⟩).mono ?_;rintro e t ⟨u,rfl,⟨L,P,E,rfl,⟨BA,Bs⟩,⟨Co,X⟩,⟨FD,CZ⟩,p,n,o⟩,x⟩;refine⟨λi=>if i=3 then L else if i=4 then P else if i=5 then E else q i,λi N=>?_,by simp[AA.val,AA.vals],?_⟩
 ·have C:i<3:=N
  simp only[AO (show ¬i=3 by omega),AO (show ¬i=4 by omega),AO (show ¬i=5 by omega)]
 refine M.grow x (λk=>k=.inr 3\/k=.inr 4\/k=.inr 5) (λk z=>?_) ?_ ?_ ?_
 ·cases k with
  |inl i=>rfl
  |inr j=>
   match j,z with
   |0,_=>rfl
   |1,_=>rfl
   |2,_=>rfl
   |3,h=>exact absurd (.inl rfl) h
   |4,h=>exact absurd (.inr (.inl rfl)) h
   |5,h=>exact absurd (.inr (.inr rfl)) h
   |j+6,_=>rfl
 ·rintro k (rfl|rfl|rfl) b y
  ·exact(World.ownsRow.lt BA b y).1
  ·exact(World.ownsRow.lt Co b y).1
  exact(World.ownsRow.lt FD b y).1
 ·rintro j k b a (rfl|rfl|rfl) (rfl|rfl|rfl) g m
  ·exact absurd rfl a
  ·exact p b g m
  ·exact n b g m
  ·exact p b m g
  ·exact absurd rfl a
  ·exact o b g m
  ·exact n b m g
  ·exact o b m g
  exact absurd rfl a
 rintro k (rfl|rfl|rfl)
 ·exact al (KX BA (Di _))
 ·exact al (KX Co (Di _))
 exact B7 (KX FD (Di _))
theorem uw(v b)(l):AN.ok prog (CJ 17 [.agg [.N 0,.N 1,.N 2],.agg [.N 3,.N 4,.N 5]] [.G (.C v),.G (.C b),.G (.N l),.G (.C v),.G (.C b),.G (.N l)] (AC V)):=
 NG λd w a h=>(pH _ _ ⟨v,b,l⟩ ⟨v,b,l⟩ w ⟨a 0,a 1,a 2,rfl,CV.L (h 0 _ rfl),CV.L (h 1 _ rfl),CV.L (h 2 _ rfl)⟩ ⟨a 3,a 4,a 5,rfl,CV.L (h 3 _ rfl),CV.L (h 4 _ rfl),CV.L (h 5 _ rfl)⟩).mono λe c h=>⟨by rw[h.1,BY.same_refl],h.2⟩
end Go.Proofs.YtfbeblgnjeokaaaGreat
