/- Part 7: functions on the way, plain laws. Conditions: as said. -/
import Derived.Test.YtfbeblgnjeokaaaGreatK1
import Derived.Test.YtfbeblgnjeokaaaGreatK5
import Derived.Test.YtfbeblgnjeokaaaGreatK6
set_option maxRecDepth 100000
set_option maxHeartbeats 16000000
set_option linter.unusedVariables false
set_option linter.unusedSimpArgs false
open Bool renaming and_eq_true → cm9, not_eq_false' → cp7, not_eq_true' → co9
open Inhabited renaming default → cm7
open List renaming all_eq_true → cn8, append_assoc → cr6, eq_nil_of_length_eq_zero → co7, getD_eq_getElem?_getD → cn2, getElem?_append_left → co2, getElem?_append_right → cp9, getElem?_cons_succ → cn5, getElem?_cons_zero → cn1, getElem?_eq_getElem → cn0, getElem?_eq_none → cp0, getElem?_eq_some_iff → co0, getElem?_set → cr5, getElem_mem → co6, length_append → cn3, length_cons → cn6, length_nil → co1, length_replicate → co5, length_set → cp3, replicate → cm8, take → cn7, take_of_length_le → co3
open Nat renaming le_refl → cn4, le_trans → cp4, lt_or_ge → cp1, zero_add → cr4, zero_le → cp5
open True renaming intro → co8

namespace Go.Proofs.YtfbeblgnjeokaaaGreat
open Go Go.RowKit
structure GrS(sz:Nat)(x r:LnS):Prop where
 lo:x.1.length<=r.1.length
 hi:r.1.length<=x.1.length+4*sz
 st:j5 r.2<=j5 x.2+130*sz
 len:x.2.length<=r.2.length
theorem GrS.refl(x:LnS)(n:Nat):GrS n x x:=⟨cn4 _,al,al,cn4 _⟩
theorem aM2{nv na:Nat}{s:c5}(h:F0 nv na s=true)(k:s.kind=2):s.index.kids=[]/\atomB s.index=true/\i6 nv na 5 s.index=true:=by
 rw[a84 k]at h
 simp only[cm9]at h
 have hs:=ak4 h.2.1
 exact⟨(aO8 (ars:=[]) (pc:=0) (s:=([],[])) h.2.2.1 hs).2,h.2.2.1,hs⟩
theorem aF3{e:c6}(h:e.kids=[]):A6 e=0:=by rw[N1,h];rfl
theorem aZ7{ars:List Int}{na nv d:Nat}(ih:∀(s:c5) (m pc:Int) (x:LnS),j6 nv na d s=true->nv<=x.1.length->GrS (1+M4 s) x (I9 ars s m pc x)):
  ∀(ss:List c5) (m pc:Int) (x:LnS),ss.all (j6 nv na d)=true->nv<=x.1.length->GrS (j5 ss) x (m5 ars ss m pc x)
 |[],_,_,x,_,_=>GrS.refl x _
 |s::r,m,pc,x,h,hx=>by
  simp only[List.all_cons,cm9]at h
  have h1:=ih s m pc x h.1 hx
  have h2:=aZ7 ih r m pc (I9 ars s m pc x) h.2 (cp4 hx h1.lo)
  rw[m5,j5]
  exact⟨cp4 h1.lo h2.lo,by have:=h1.hi;have:=h2.hi;omega,by have:=h1.st;have:=h2.st;omega,cp4 h1.len h2.len⟩
theorem bp0(ars:List Int)(na nv:Nat):∀(d:Nat) (s:c5) (m pc:Int) (x:LnS),j6 nv na d s=true->nv<=x.1.length->GrS (1+M4 s) x (I9 ars s m pc x)
 |0,_,_,_,_,h,_=>by simp[j6]at h
 | d + 1, s, m, pc, x, h, hx => by
  have blk:=fun(ss:List c5) (m pc:Int) (x:LnS)=>aZ7 (ars:=ars) (na:=na) (nv:=nv) (d:=d) (fun s m pc x=>bp0 ars na nv d s m pc x) ss m pc x
  rw[U8,cm9,cm9]at h
  obtain⟨hh,hb,he⟩:=h
  have hsz:M4 s=A6 s.index+A6 s.value+j5 s.body+j5 s.els:=by cases s;rfl
  by_cases k4:s.kind=4
  ·rw[ln4 k4]
   have h1:=blk s.body m pc (x.1,[]) hb hx
   have a:=h1.lo;have b:=h1.hi;have c:=h1.st
   simp only[j5]at a b c
   have e0:A6 nnE=0:=rfl
   refine⟨a,?_,?_,?_⟩
   ·simp only;omega
   ·simp only[y6,j5,M4,e0];omega
   simp
  have hv:i6 x.1.length na 5 s.value=true:=G3 hx 5 _ (B6 hh k4)
  obtain⟨g1,g2,g3⟩:=an5 ars pc na 5 s.value x hv
  have a0:=g1.lo;have b0:=g1.hi;have c0:=g1.st;have d0:=g1.len
  have e0:A6 nnE=0:=rfl
  have e1:A6 (cnE 0)=0:=rfl
  by_cases k3:s.kind=3
  ·cases hs:ad3 (i9 x.1 ars 5 s.value)
   ·rw[ca8 k3 hs]
    have h1:=blk s.body m (l5 pc (i9 x.1 ars 5 s.value)) ((d8 ars pc s.value x).1.1,[]) hb (cp4 hx a0)
    have h2:=blk s.els m (l5 pc (i9 x.1 ars 5 s.value)) ((m5 ars s.body m (l5 pc (i9 x.1 ars 5 s.value)) ((d8 ars pc s.value x).1.1,[])).1,[]) he (cp4 hx (cp4 a0 h1.lo))
    have a:=h1.lo;have b:=h1.hi;have c:=h1.st
    have a2:=h2.lo;have b2:=h2.hi;have c2:=h2.st
    simp only[j5]at a b c a2 b2 c2
    refine⟨?_,?_,?_,?_⟩
    ·simp only;omega
    ·simp only;omega
    ·simp only[y6,j5,M4,e0];omega
    simp;omega
   rw[ca7 k3 hs]
   generalize hl:l5 pc (i9 x.1 ars 5 s.value)=l
   generalize hy:ifM (d8 ars pc s.value x) m l=y
   have y1:y.1.length=(d8 ars pc s.value x).1.1.length+2:=by rw[<-hy];simp
   have y2:j5 y.2<=j5 (d8 ars pc s.value x).1.2+20+A6 (d8 ars pc s.value x).2:=by
    have m1:=ag1 m (d8 ars pc s.value x).2 (cnE 0)
    have m2:=ag1 m ⟨9,0,[vrE ((d8 ars pc s.value x).1.1.length:Int),cnE 0]⟩ (cnE 0)
    have m3:A6 ⟨9,0,[vrE ((d8 ars pc s.value x).1.1.length:Int),cnE 0]⟩=2:=rfl
    rw[<-hy]
    simp only[ifM,y6,j5,M4,e0];omega
   have y3:(d8 ars pc s.value x).1.2.length<=y.2.length:=by rw[<-hy];simp
   have h1:=blk s.body ((d8 ars pc s.value x).1.1.length:Int) l y hb al
   have h2:=blk s.els (((d8 ars pc s.value x).1.1++[l]).length:Int) l (m5 ars s.body ((d8 ars pc s.value x).1.1.length:Int) l y) he (by have:=h1.lo;omega)
   have a:=h1.lo;have b:=h1.hi;have c:=h1.st;have d1:=h1.len
   have a2:=h2.lo;have b2:=h2.hi;have c2:=h2.st;have d2:=h2.len
   exact⟨al,al,al,al⟩
  by_cases k5:s.kind=5
  ·rw[ln5 k5]
   refine⟨a0,?_,?_,?_⟩
   ·simp only;omega
   ·simp only[y6,j5,M4,e0];omega
   simp;omega
  by_cases k1:s.kind=1
  ·rw[ln1 k1]
   have m1:=ag1 m (d8 ars pc s.value x).2 (vrE s.target)
   have m2:A6 (vrE s.target)=0:=rfl
   refine⟨a0,?_,?_,?_⟩
   ·simp only;omega
   ·simp only[y6,j5,M4,e0];omega
   simp;omega
  by_cases k2:s.kind=2
  ·obtain⟨q1,-,-⟩:=aM2 hh k2
   cases hs:ad3 (i9 (d8 ars pc s.value x).1.1 ars 5 s.index)
   ·rw[cb0 k2 hs]
    have m1:=ag1 m (d8 ars pc s.value x).2 (rdE s.target s.index)
    have m2:A6 (rdE s.target s.index)=1:=by simp[A6,F4,aF3 q1]
    have m3:=aF3 q1
    refine⟨a0,?_,?_,?_⟩
    ·simp only;omega
    ·simp only[y6,j5,M4];omega
    simp;omega
   rw[ca9 k2 hs]
   have m1:=bA0 ((d8 ars pc s.value x).1.1.length:Int) s.target s.index m q1 4
   refine⟨?_,?_,?_,?_⟩
   ·simp;omega
   ·simp;omega
   ·simp only[y6,j5,M4,e0];omega
   simp;omega
  rw[aq2 ⟨k1,k2,k3,k4,k5⟩]at hh;cases hh
theorem aZ8(ars:List Int){na nv d:Nat}(ss:List c5)(m pc:Int)(x:LnS)(h:ss.all (j6 nv na d)=true)(hx:nv<=x.1.length):GrS (j5 ss) x (m5 ars ss m pc x):=aZ7 (bp0 ars na nv d) ss m pc x h hx
theorem au8{nv na:Nat}{e:c6}(h:s7 nv na e=true):A6 e<=14:=by
 unfold s7 at h;simp only[cm9,decide_eq_true_eq]at h;omega
theorem aF1{e:c6}(h:noneB e=true):A6 e=0:=by
 unfold noneB at h;simp only[cm9,decide_eq_true_eq]at h
 exact aF3 (co7 h.2)
theorem bm5{nv na d:Nat}(ih:∀s:c5,j6 nv na d s=true->1+M4 s<=29*nS s):∀ss:List c5,ss.all (j6 nv na d)=true->j5 ss<=29*X3 ss
 |[],_=>cn4 _
 |s::r,h=>by
  simp only[List.all_cons,cm9]at h
  have h1:=ih s h.1
  have h2:=bm5 ih r h.2
  rw[j5,X3];omega
theorem bz4{nv na:Nat}:∀(d:Nat) (s:c5),j6 nv na d s=true->1+M4 s<=29*nS s
 |0,_,h=>by simp[j6]at h
 | d + 1, s, h => by
  rw[U8,cm9,cm9]at h
  obtain⟨hh,hb,he⟩:=h
  have h1:=bm5 (fun s=>bz4 d s) s.body hb
  have h2:=bm5 (fun s=>bz4 d s) s.els he
  have hsz:M4 s=A6 s.index+A6 s.value+j5 s.body+j5 s.els:=by cases s;rfl
  have hn:=ay8 s
  have key:A6 s.index+A6 s.value<=28:=by
   by_cases k4:s.kind=4
   ·rw[cc3 k4]at hh;simp only[cm9]at hh
    have:=aF1 hh.2.1;have:=aF1 hh.2.2;omega
   by_cases k3:s.kind=3
   ·rw[bV6 k3]at hh;simp only[cm9]at hh
    have:=aF1 hh.2.1;have:=au8 hh.2.2;omega
   by_cases k15:s.kind=1\/s.kind=5
   ·rw[bG9 k15]at hh;simp only[cm9]at hh
    have:=aF1 hh.2.1;have:=au8 hh.2.2;omega
   by_cases k2:s.kind=2
   ·rw[a84 k2]at hh;simp only[cm9]at hh
    have:=au8 hh.2.1;have:=au8 hh.2.2.2;omega
   rw[aq2 al]at hh;cases hh
  omega
def aL3(p:i7):LnS:=m5 p.arrays p.body (-1) 0 (p.vars,[])
def bu6(p:i7):i7:=⟨(aL3 p).1,p.arrays,(aL3 p).2⟩
theorem ae0{p:i7}(h:l9 p=true):p.vars.length<=12/\p.arrays.length<=2/\j5 p.body<=1740:=by
 unfold l9 G5 ah2 at h
 simp only[cm9,decide_eq_true_eq]at h
 have:=bm5 (bz4 5) p.body h.1.2
 omega
theorem bp1{p:i7}(h:l9 p=true):p.vars.length<=(aL3 p).1.length/\(aL3 p).1.length<=7000/\j5 (aL3 p).2<=230000:=by
 have hz:=ae0 h
 have hb:p.body.all (j6 p.vars.length p.arrays.length 5)=true:=(ay5 h).2.2.2
 have g:=aZ8 p.arrays p.body (-1) 0 (p.vars,[]) hb (cn4 _)
 have a:=g.lo;have b:=g.hi;have c:=g.st
 simp only[j5]at a b c
 unfold aL3
 omega
theorem bP6{p:i7}(h:l9 p=true):(bu6 p).size<=240000:=by
 have h1:=bp1 h
 have h2:=ae0 h
 show(aL3 p).1.length+p.arrays.length+j5 (aL3 p).2<=_
 omega
def okL(p:i7):Bool:=decide ((X4 p false).1=0)&&l9 (bu6 p)
def I3(p:i7):i7:=if okL p=true then bu6 p else⟨[],[],[]⟩
theorem ag6{p:i7}(h:(X4 p false).1=0):l9 p=true:=((bR9 p false).1 h).1
theorem b96{p:i7}(h:¬(X4 p false).1=0):okL p=false:=by unfold okL;rw[decide_eq_false h,Bool.false_and]
theorem bU9{p:i7}(h:l9 (bu6 p)=false):okL p=false:=by unfold okL;rw[h,Bool.and_false]
theorem bU8{p:i7}(h:(X4 p false).1=0)(h2:l9 (bu6 p)=true):okL p=true:=by unfold okL;rw[decide_eq_true h,h2];rfl
theorem bo8{p:i7}(h:okL p=false):I3 p=⟨[],[],[]⟩:=by unfold I3;rw[h];rfl
theorem bV0{p:i7}(h:okL p=true):I3 p=bu6 p:=by unfold I3;rw[h];rfl
theorem b09(p:i7):(I3 p).size<=240000:=by
 cases h:okL p
 ·rw[bo8 h];simp[i7.size,j5]
 rw[bV0 h]
 unfold okL at h
 simp only[cm9,decide_eq_true_eq]at h
 exact bP6 (ag6 h.1)
theorem aN0{nv na d k:Nat}{ss:List c5}(hs:ss.all (j6 nv na (d+1))=true)(hk:k<ss.length):F0 nv na (ss.getD k cm7)=true/\(ss.getD k cm7).body.all (j6 nv na d)=true/\(ss.getD k cm7).els.all (j6 nv na d)=true:=by
 have h:=cn8.1 hs _ (co6 hk)
 rw[U8,cm9,cm9]at h
 rw[m6 hk];exact h
abbrev lqC(l:List d7)(fr:List Int)(at0:Int)(s:c5)(d:Int):j7:=⟨182,[.agg [.ref 0,.ref 1,iA at0],sA s 2,iA d],[rN l,rI fr]++sS s,[.dead,.dead]++sS s++[rN (U2 s d (l,fr,at0)).1,rI (U2 s d (l,fr,at0)).2.1],.agg [.ref 6,.ref 7,iA (U2 s d (l,fr,at0)).2.2]⟩
abbrev lrC(l:List d7)(fr:List Int)(at0:Int)(ss:List c5)(d:Int):j7:=⟨145,[.agg [.ref 0,.ref 1,iA at0],.ref 2,iA d],[rN l,rI fr,dT ss],[.dead,.dead,dT ss,rN (p7 ss d (l,fr,at0)).1,rI (p7 ss d (l,fr,at0)).2.1],.agg [.ref 3,.ref 4,iA (p7 ss d (l,fr,at0)).2.2]⟩
mutual
theorem b30:∀(s:c5) (d:Int) (x:O5),x.2.2<=(U2 s d x).2.2/\(U2 s d x).2.2<=x.2.2+nS s
 | ⟨k, t, i, v, c, b, e⟩, d, x => by
  rw[U2,nS]
  split
  ·have h:=al8 b (d+1) (J0 (x.1,x.2.1,x.2.2+1) x.2.2 [⟨1,9+d,c,0,0⟩])
   simp only[J0]at h ⊢
   omega
  split
  ·simp only[J0];omega
  split
  ·simp only[J0];omega
  split
  ·simp only[J0];omega
  simp only
  generalize hy:J0 (x.1,x.2.1,x.2.2+1) x.2.2 (c8 v 0)=y
  have hy1:y.2.2=x.2.2+1:=by rw[<-hy];rfl
  have h1:=al8 b (d+1) (J0 y x.2.2 [⟨9,0,0,0,0⟩])
  generalize p7 b (d+1) (J0 y x.2.2 [⟨9,0,0,0,0⟩])=z at h1 ⊢
  have h2:=al8 e (d+1) (bC3 (J0 z x.2.2 [⟨8,0,0,0,0⟩]).1 y.1.length ((J0 z x.2.2 [⟨8,0,0,0,0⟩]).1.length:Int),(J0 z x.2.2 [⟨8,0,0,0,0⟩]).2)
  simp only[J0]at h1 h2 ⊢
  omega
theorem al8:∀(ss:List c5) (d:Int) (x:O5),x.2.2<=(p7 ss d x).2.2/\(p7 ss d x).2.2<=x.2.2+X3 ss
 |[],_,x=>by simp[p7,X3]
 |s::r,d,x=>by
  have h1:=b30 s d x
  have h2:=al8 r d (U2 s d x)
  rw[p7,X3]
  omega
end
section
variable{l:List d7}{fr:List Int}{at0 d:Int}{s:c5}
theorem cm1(k:s.kind=1):U2 s d (l,fr,at0)=(l++c8 s.value 0++[⟨3,s.target,0,0,0⟩],fr++cm8 (c8 s.value 0).length at0++[at0],at0+1):=by
 obtain⟨kd,tg,ix,vl,ct,bd,el⟩:=s
 have k:kd=1:=k
 rw[U2]
 simp only[k,Int.reduceEq,if_true,if_false]
 rfl
theorem cm5(k:s.kind=5):U2 s d (l,fr,at0)=(l++c8 s.value 0++[⟨11,0,0,0,0⟩]++[⟨3,s.target,0,0,0⟩],fr++cm8 (c8 s.value 0).length at0++[at0]++[at0],at0+1):=by
 obtain⟨kd,tg,ix,vl,ct,bd,el⟩:=s
 have k:kd=5:=k
 rw[U2]
 simp only[k,Int.reduceEq,if_true,if_false]
 rfl
theorem cm2(k:s.kind=2):U2 s d (l,fr,at0)=(l++c8 s.value 0++c8 s.index 1++[⟨5,s.target,1,0,0⟩],fr++cm8 (c8 s.value 0).length at0++cm8 (c8 s.index 1).length at0++[at0],at0+1):=by
 obtain⟨kd,tg,ix,vl,ct,bd,el⟩:=s
 have k:kd=2:=k
 rw[U2]
 simp only[k,Int.reduceEq,if_true,if_false]
 rfl
theorem cm4(k:s.kind=4):U2 s d (l,fr,at0)=((p7 s.body (d+1) (l++[⟨1,9+d,s.count,0,0⟩],fr++[at0],at0+1)).1++[⟨10,9+d,(((l++[(⟨1,9+d,s.count,0,0⟩:d7)]).length:Nat):Int),0,0⟩],(p7 s.body (d+1) (l++[⟨1,9+d,s.count,0,0⟩],fr++[at0],at0+1)).2.1++[at0],(p7 s.body (d+1) (l++[⟨1,9+d,s.count,0,0⟩],fr++[at0],at0+1)).2.2):=by
 obtain⟨kd,tg,ix,vl,ct,bd,el⟩:=s
 have k:kd=4:=k
 rw[U2]
 simp only[k,if_true,cn3,cn6,co1]
 rfl
abbrev w3C(l:List d7)(fr:List Int)(at0 d:Int)(s:c5):O5:=p7 s.body (d+1) (l++c8 s.value 0++[⟨9,0,0,0,0⟩],fr++cm8 (c8 s.value 0).length at0++[at0],at0+1)
abbrev w6C(l:List d7)(fr:List Int)(at0 d:Int)(s:c5):O5:=p7 s.els (d+1) (bC3 ((w3C l fr at0 d s).1++[⟨8,0,0,0,0⟩]) (l++c8 s.value 0).length ((((w3C l fr at0 d s).1++[(⟨8,0,0,0,0⟩:d7)]).length:Nat):Int),(w3C l fr at0 d s).2.1++[at0],(w3C l fr at0 d s).2.2)
theorem cm3(k:s.kind=3):U2 s d (l,fr,at0)=(bZ0 (w6C l fr at0 d s).1 (w3C l fr at0 d s).1.length (((w6C l fr at0 d s).1.length:Nat):Int),(w6C l fr at0 d s).2.1,(w6C l fr at0 d s).2.2):=by
 obtain⟨kd,tg,ix,vl,ct,bd,el⟩:=s
 have k:kd=3:=k
 rw[U2]
 simp only[k,Int.reduceEq,if_false,J0,cn3,cn6,co1,Nat.add_sub_cancel,cr4,List.replicate_one,w6C,w3C]
 rfl
theorem al7(ss:List c5)(d:Int)(x:O5):(p7 ss d x).1.length=x.1.length+aQ1 ss:=(O2 ss d x).1
theorem cc8(h:l.length+(4+4*M4 s)<=5000000):l.length+A6 s.value<=5000000/\(0:Int)+A6 s.value<=2000000/\(l++c8 s.value 0).length+A6 s.index<=5000000/\(1:Int)+A6 s.index<=2000000/\(l++c8 s.value 0++c8 s.index 1).length+4<=5000010:=by
 have h1:=aa4 s.value 0
 have h2:=aa4 s.index 1
 have h3:M4 s=A6 s.index+A6 s.value+j5 s.body+j5 s.els:=by cases s;rfl
 simp only[cn3]
 omega
end
abbrev Q9(s:c5)(l:List d7)(fr:List Int)(at0:Int)(d:Int):=p7 s.els (d+1) (((p7 s.body (d+1) (l++c8 s.value 0++[d7.mk 9 0 0 0 0],fr++cm8 (c8 s.value 0).length at0++[at0],at0+1)).fst++[d7.mk 8 0 0 0 0]).set (l++c8 s.value 0).length (d7.mk (((p7 s.body (d+1) (l++c8 s.value 0++[d7.mk 9 0 0 0 0],fr++cm8 (c8 s.value 0).length at0++[at0],at0+1)).fst++[d7.mk 8 0 0 0 0]).getD (l++c8 s.value 0).length cm7).op (((p7 s.body (d+1) (l++c8 s.value 0++[d7.mk 9 0 0 0 0],fr++cm8 (c8 s.value 0).length at0++[at0],at0+1)).fst++[d7.mk 8 0 0 0 0]).getD (l++c8 s.value 0).length cm7).a (((p7 s.body (d+1) (l++c8 s.value 0++[d7.mk 9 0 0 0 0],fr++cm8 (c8 s.value 0).length at0++[at0],at0+1)).fst++[d7.mk 8 0 0 0 0]).length:Int) (((p7 s.body (d+1) (l++c8 s.value 0++[d7.mk 9 0 0 0 0],fr++cm8 (c8 s.value 0).length at0++[at0],at0+1)).fst++[d7.mk 8 0 0 0 0]).getD (l++c8 s.value 0).length cm7).c (((p7 s.body (d+1) (l++c8 s.value 0++[d7.mk 9 0 0 0 0],fr++cm8 (c8 s.value 0).length at0++[at0],at0+1)).fst++[d7.mk 8 0 0 0 0]).getD (l++c8 s.value 0).length cm7).d),(p7 s.body (d+1) (l++c8 s.value 0++[d7.mk 9 0 0 0 0],fr++cm8 (c8 s.value 0).length at0++[at0],at0+1)).snd.fst++[at0],(p7 s.body (d+1) (l++c8 s.value 0++[d7.mk 9 0 0 0 0],fr++cm8 (c8 s.value 0).length at0++[at0],at0+1)).snd.snd)
abbrev E4(s:c5)(l:List d7)(fr:List Int)(at0:Int)(d:Int):=p7 s.body (d+1) (l++c8 s.value 0++[d7.mk 9 0 0 0 0],fr++cm8 (c8 s.value 0).length at0++[at0],at0+1)
abbrev ax4(s:c5)(l:List d7)(fr:List Int)(at0:Int)(d:Int):=p7 s.body (d+1) (l++c8 s.value 0++[d7.mk 1 (9+d) s.count 0 0],fr++cm8 (c8 s.value 0).length at0++[at0],at0+1)
abbrev aj3(s:c5)(l:List d7)(fr:List Int)(at0:Int)(d:Int):=p7 s.body (d+1) (l++[d7.mk 1 (9+d) s.count 0 0],fr++[at0],at0+1)
abbrev X8(s:c5)(l:List d7)(fr:List Int)(at0:Int)(d:Int):List It:=[.dead,.dead,dE s.index.kids,dE s.value.kids,dT s.body,dT s.els,.row 76 (D.instrs (U2 s d (l,fr,at0)).fst),.row 3 (D.ints (U2 s d (l,fr,at0)).snd.fst)]
abbrev by1(s:c5)(l:List d7)(fr:List Int)(at0:Int)(d:Int):It:=.row 76 (D.instrs ((Q9 s l fr at0 d).fst.set (E4 s l fr at0 d).fst.length (d7.mk ((Q9 s l fr at0 d).fst.getD (E4 s l fr at0 d).fst.length cm7).op ((Q9 s l fr at0 d).fst.length:Int) ((Q9 s l fr at0 d).fst.getD (E4 s l fr at0 d).fst.length cm7).b ((Q9 s l fr at0 d).fst.getD (E4 s l fr at0 d).fst.length cm7).c ((Q9 s l fr at0 d).fst.getD (E4 s l fr at0 d).fst.length cm7).d)))
abbrev P8:It:=.box [.v (.slice none 0 0),.v (.slice none 0 0),iA 0]
abbrev af3(at0:Int):It:=.box [.ref 9,.ref 10,iA (at0+1)]
abbrev aV9(s:c5)(fr:List Int)(at0:Int):It:=.row 3 (D.ints (fr++cm8 (c8 s.value 0).length at0++[at0]))
abbrev J7(s:c5)(r0:List It):List It:=.dead::.dead::dE s.index.kids::dE s.value.kids::dT s.body::dT s.els::r0
abbrev H8(at0:Int)(d:Int)(r0:List (Nat×AV)):List (Nat×AV):=(2,iA d)::(3,.ptr 6 0)::(4,.ptr 7 0)::(6,.ptr 8 0)::(7,iA at0)::r0
theorem a48(nv na dd:Nat)(s:c5)(hh:F0 nv na s=true)(hbb:s.body.all (j6 nv na dd)=true)(hbe:s.els.all (j6 nv na dd)=true)
    (ih:∀(tt:List c5) (l:List d7) (fr:List Int) (at0 d:Int),tt.all (j6 nv na dd)=true->l.length+4*j5 tt<=5000000->fr.length=l.length->0<=d->d+dd<=100->0<=at0->at0+X3 tt<=5000000->j7.ok Tryz.prog (lrC l fr at0 tt d))
    (l:List d7) (fr:List Int) (at0 d:Int) (r1:l.length+(4+4*M4 s)<=5000000) (r2:fr.length=l.length) (r3:0<=d) (r4:d+(dd+1)<=100) (r5:0<=at0) (r6:at0+nS s<=5000000):j7.ok Tryz.prog (lqC l fr at0 s d):=by
  refine H9 130 Tryz.func182 [.row 76 (D.instrs l),.row 3 (D.ints fr),dE s.index.kids,dE s.value.kids,dT s.body,dT s.els] [(0,.agg [.ref 0,.ref 1,iA at0]),(1,sA s 2),(2,iA d)] fun G=>?_;have hn:=ay8 s;have hft:=cc8 r1
  have hsz:M4 s=A6 s.index+A6 s.value+j5 s.body+j5 s.els:=by cases s;rfl
  have hv:=aa4 s.value 0;refine wp_seq (j9 G f8 [0,1,2,3,4,5,6,14,22] [.row 76 (D.instrs l),.row 3 (D.ints fr),dE s.index.kids,dE s.value.kids,dT s.body,dT s.els,.box [.ref 0,.ref 1,iA at0],.box (sL s 2),P8] [(2,iA d),(3,.ptr 6 0),(4,.ptr 7 0),(6,.ptr 8 0)] fun G=>b6 (wp_seq (l6 G f8 [(7,iA at0)] fun G=>b6 (wp_seq (Z5 G f8 (rg 9) [.row 76 (D.instrs l),.row 3 (D.ints fr),dE s.index.kids,dE s.value.kids,dT s.body,dT s.els,.box [.ref 0,.ref 1,iA (at0+1)],.box (sL s 2),P8] (H8 at0 d []) [wO (at0+1)] (o1 al) fun G=>b6 (wp_seq (wp_seq (l6 G f8 [(20,bA (s.kind !=4))] fun G=>b6 (rcN G (fun h0 q0=>?_) fun h0 q0=>?_)))))))))
  ·
   refine wp_skip (b6 (wp_seq (wp_seq (l6 G f8 [(27,iA s.kind)] fun G=>b6 (wp_block (wp_seq (E8 G f8 (H8 at0 d [(27,iA s.kind),(28,bA (s.kind==1))]) fun G=>b6 ?_)))))));cases h1:(s.kind==1)
   ·
    have q1:=ne_of_beq_false h1;refine rF G _ h1 (wp_seq (E8 G f8 (H8 at0 d [(27,iA s.kind),(36,bA (s.kind==5))]) fun G=>b6 ?_));cases h2:(s.kind==5)
    ·
     have q2:=ne_of_beq_false h2;refine rF G _ h2 (wp_seq (E8 G f8 (H8 at0 d [(27,iA s.kind),(48,bA (s.kind==2))]) fun G=>b6 ?_));cases h3:(s.kind==2)
     ·
      have q3:=ne_of_beq_false h3;refine rF G _ h3 (wp_seq (E8 G f8 (H8 at0 d [(61,bA (s.kind==3))]) fun G=>b6 ?_));cases h4:(s.kind==3)
      · have q4:=ne_of_beq_false h4;refine rF G _ h4 (wp_skip (n4 (b6 (wp_seq (M8 G f8 [(10,iA (9+d))] [wO ((9:Int)+d)] (o1 al) fun G=>b6 (wp_seq (j9 G (v8 6 [0,1] (H6 l fr (at0+1) at0 1 (9+d) s.count 0 0 al al)) [0,1,2,3,4,5,6,7,8,57,58] (J7 s [af3 at0,.box (sL s 2),P8,.row 76 (D.instrs (l++[d7.mk 1 (9+d) s.count 0 0])),.row 3 (D.ints (fr++[at0]))]) (H8 at0 d [(10,iA (9+d))]) fun G=>b6 (wp_seq (l6 G f8 [(11,iA ((l++[d7.mk 1 (9+d) s.count 0 0]).length:Int))] fun G=>b6 (wp_seq (Z5 G (v8 5 [9,10,4] (ih s.body (l++[d7.mk 1 (9+d) s.count 0 0]) (fr++[at0]) (at0+1) (d+1) ai (by simp only[cn3,co5,cn6,co1,r2];have:=hft.2.2.2.2;simp only[cn3]at this;omega) (by have:=hft.2.2.2.2;simp only[cn3,cn6,co1]at this ⊢;omega) al al al al)) [0,1,2,3,4,5,6,8,51,52] (J7 s [.box [.ref 8,.ref 9,iA (aj3 s l fr at0 d).snd.snd],P8,.row 76 (D.instrs (aj3 s l fr at0 d).fst),.row 3 (D.ints (aj3 s l fr at0 d).snd.fst)]) [(3,.ptr 6 0),(6,.ptr 7 0),(7,iA at0),(10,iA (9+d)),(11,iA ((l++[d7.mk 1 (9+d) s.count 0 0]).length:Int))] [wO (d+1)] (o1 al) fun G=>b6 (wp_seq (j9 G (v8 5 [8,9] (H6 ((p7 s.body (d+1) (l++[d7.mk 1 (9+d) s.count 0 0],fr++[at0],at0+1)).fst) ((p7 s.body (d+1) (l++[d7.mk 1 (9+d) s.count 0 0],fr++[at0],at0+1)).snd.fst) ((p7 s.body (d+1) (l++[d7.mk 1 (9+d) s.count 0 0],fr++[at0],at0+1)).snd.snd) at0 10 (9+d) (((l++[d7.mk 1 (9+d) s.count 0 0]).length:Int)) 0 0 (by have:=(O2 s.body (d+1) (l++[⟨1,9+d,s.count,0,0⟩],fr++[at0],at0+1));have:=R9 s.body;simp only[cn3,cn6,co1]at*;omega) (by have:=(O2 s.body (d+1) (l++[⟨1,9+d,s.count,0,0⟩],fr++[at0],at0+1));have:=R9 s.body;simp only[cn3,cn6,co1]at*;omega))) [0,1,2,3,4,5,7,50,51] (J7 s [.box [.ref 7,.ref 8,iA (aj3 s l fr at0 d).snd.snd],.row 76 (D.instrs ((aj3 s l fr at0 d).fst++[d7.mk 10 (9+d) ((l++[d7.mk 1 (9+d) s.count 0 0]).length:Int) 0 0])),.row 3 (D.ints ((aj3 s l fr at0 d).snd.fst++[at0]))]) [(6,.ptr 6 0)] fun G=>b6 (wp_ret ?_))))))))))))));exact Y0 (.agg [.ref 7,.ref 8,iA (p7 s.body (d+1) (l++[d7.mk 1 (9+d) s.count 0 0],fr++[at0],at0+1)).snd.snd]) G [0,1,2,3,4,5,7,8] (by have e1:((U2 s d (l,fr,at0)).snd.snd:Int)=((p7 s.body (d+1) (l++[d7.mk 1 (9+d) s.count 0 0],fr++[at0],at0+1)).snd.snd):=(by have h9:=congrArg (fun x:O5=>x.2.2) (cm4 (l:=l) (fr:=fr) (at0:=at0) (d:=d) (s:=s) al);exact h9);(first|rw[e1]|simp only[e1])<;>rfl) (by show _=mR [0,1,2,3,4,5,7,8] (X8 s l fr at0 d);unfold X8;have e1:((U2 s d (l,fr,at0)).fst:List d7)=((aj3 s l fr at0 d).fst++[d7.mk 10 (9+d) ((l++[d7.mk 1 (9+d) s.count 0 0]).length:Int) 0 0]):=(congrArg Prod.fst (cm4 al));have e2:((U2 s d (l,fr,at0)).snd.fst:List Int)=((aj3 s l fr at0 d).snd.fst++[at0]):=(congrArg (fun x:O5=>x.2.1) (cm4 al));(first|rw[e1,e2]|simp only[e1,e2])<;>rfl)
      have q4:=eq_of_beq h4;exact False.elim al
     have q3:=eq_of_beq h3;exact False.elim al
    have q2:=eq_of_beq h2;exact False.elim al
   have q1:=eq_of_beq h1;exact False.elim al
  refine j9 G (v8 4 [0,1,3] (a99 s.value l fr (at0+1) at0 0 al al al ai)) [0,1,2,3,4,5,6,7,8,41,42] (J7 s [af3 at0,.box (sL s 2),P8,.row 76 (D.instrs (l++c8 s.value 0)),.row 3 (D.ints (fr++cm8 (c8 s.value 0).length at0))]) (H8 at0 d []) fun G=>b6 (wp_seq (wp_seq (l6 G f8 [(27,iA s.kind)] fun G=>b6 (wp_block (wp_seq (l6 G f8 [(28,bA (s.kind==1))] fun G=>b6 (Q7 G (fun h5 q5=>?_) fun h5 q5=>?_)))))))
  ·
   refine wp_seq (l6 G f8 [(36,bA (s.kind==5))] fun G=>b6 (Q7 G (fun h6 q6=>?_) fun h6 q6=>?_))
   ·
    refine wp_seq (l6 G f8 [(48,bA (s.kind==2))] fun G=>b6 (Q7 G (fun h7 q7=>?_) fun h7 q7=>?_))
    ·
     refine wp_seq (l6 G f8 [(61,bA (s.kind==3))] fun G=>b6 (Q7 G (fun h8 q8=>?_) fun h8 q8=>?_))
     · refine wp_skip (n4 (b6 (wp_seq (M8 G f8 [(10,iA (9+d))] [wO ((9:Int)+d)] (o1 al) fun G=>b6 (wp_seq (j9 G (v8 6 [9,10] (H6 (l++c8 s.value 0) (fr++cm8 (c8 s.value 0).length at0) (at0+1) at0 1 (9+d) s.count 0 0 al (by simp only[cn3,co5,cn6,co1,r2];have:=hft.2.2.2.2;simp only[cn3]at this;omega))) [0,1,2,3,4,5,6,7,8,59,60] (J7 s [af3 at0,.box (sL s 2),P8,.row 76 (D.instrs (l++c8 s.value 0++[d7.mk 1 (9+d) s.count 0 0])),aV9 s fr at0]) (H8 at0 d [(10,iA (9+d))]) fun G=>b6 (wp_seq (l6 G f8 [(11,iA ((l++c8 s.value 0++[d7.mk 1 (9+d) s.count 0 0]).length:Int))] fun G=>b6 (wp_seq (Z5 G (v8 5 [9,10,4] (ih s.body (l++c8 s.value 0++[d7.mk 1 (9+d) s.count 0 0]) (fr++cm8 (c8 s.value 0).length at0++[at0]) (at0+1) (d+1) ai (by simp only[cn3,co5,cn6,co1,r2];have:=hft.2.2.2.2;simp only[cn3]at this;omega) (by exact absurd (hh.symm.trans (aq2 al)) ak) al al al al)) [0,1,2,3,4,5,6,8,51,52] (J7 s [.box [.ref 8,.ref 9,iA (ax4 s l fr at0 d).snd.snd],P8,.row 76 (D.instrs (ax4 s l fr at0 d).fst),.row 3 (D.ints (ax4 s l fr at0 d).snd.fst)]) [(3,.ptr 6 0),(6,.ptr 7 0),(7,iA at0),(10,iA (9+d)),(11,iA ((l++c8 s.value 0++[d7.mk 1 (9+d) s.count 0 0]).length:Int))] [wO (d+1)] (o1 al) fun G=>b6 (wp_seq (j9 G (v8 5 [8,9] (H6 ((p7 s.body (d+1) (l++c8 s.value 0++[d7.mk 1 (9+d) s.count 0 0],fr++cm8 (c8 s.value 0).length at0++[at0],at0+1)).fst) ((p7 s.body (d+1) (l++c8 s.value 0++[d7.mk 1 (9+d) s.count 0 0],fr++cm8 (c8 s.value 0).length at0++[at0],at0+1)).snd.fst) ((p7 s.body (d+1) (l++c8 s.value 0++[d7.mk 1 (9+d) s.count 0 0],fr++cm8 (c8 s.value 0).length at0++[at0],at0+1)).snd.snd) at0 10 (9+d) (((l++c8 s.value 0++[d7.mk 1 (9+d) s.count 0 0]).length:Int)) 0 0 (by exact absurd (hh.symm.trans (aq2 al)) ak) (by exact absurd (hh.symm.trans (aq2 al)) ak))) [0,1,2,3,4,5,7,50,51] (J7 s [.box [.ref 7,.ref 8,iA (ax4 s l fr at0 d).snd.snd],.row 76 (D.instrs ((ax4 s l fr at0 d).fst++[d7.mk 10 (9+d) ((l++c8 s.value 0++[d7.mk 1 (9+d) s.count 0 0]).length:Int) 0 0])),.row 3 (D.ints ((ax4 s l fr at0 d).snd.fst++[at0]))]) [(6,.ptr 6 0)] fun G=>b6 (wp_ret ?_)))))))))))));exact Y0 (.agg [.ref 7,.ref 8,iA (p7 s.body (d+1) (l++c8 s.value 0++[d7.mk 1 (9+d) s.count 0 0],fr++cm8 (c8 s.value 0).length at0++[at0],at0+1)).snd.snd]) G [0,1,2,3,4,5,7,8] (by have e1:((U2 s d (l,fr,at0)).snd.snd:Int)=((p7 s.body (d+1) (l++c8 s.value 0++[d7.mk 1 (9+d) s.count 0 0],fr++cm8 (c8 s.value 0).length at0++[at0],at0+1)).snd.snd):=(by exact absurd (hh.symm.trans (aq2 al)) ak);(first|rw[e1]|simp only[e1])<;>rfl) (by show _=mR [0,1,2,3,4,5,7,8] (X8 s l fr at0 d);unfold X8;have e1:((U2 s d (l,fr,at0)).fst:List d7)=((p7 s.body (d+1) (l++c8 s.value 0++[d7.mk 1 (9+d) s.count 0 0],fr++cm8 (c8 s.value 0).length at0++[at0],at0+1)).fst++[d7.mk 10 (9+d) ((l++c8 s.value 0++[d7.mk 1 (9+d) s.count 0 0]).length:Int) 0 0]):=(by exact absurd (hh.symm.trans (aq2 al)) ak);have e2:((U2 s d (l,fr,at0)).snd.fst:List Int)=((p7 s.body (d+1) (l++c8 s.value 0++[d7.mk 1 (9+d) s.count 0 0],fr++cm8 (c8 s.value 0).length at0++[at0],at0+1)).snd.fst++[at0]):=(by exact absurd (hh.symm.trans (aq2 al)) ak);(first|rw[e1,e2]|simp only[e1,e2])<;>rfl)
     refine wp_seq (l6 G f8 [(8,iA ((l++c8 s.value 0).length:Int))] fun G=>b6 (wp_seq (j9 G (v8 3 [9,10] (H6 (l++c8 s.value 0) (fr++cm8 (c8 s.value 0).length at0) (at0+1) at0 9 0 0 0 0 al (by simp only[cn3,co5,cn6,co1,r2];have:=hft.2.2.2.2;simp only[cn3]at this;omega))) [0,1,2,3,4,5,6,7,8,35,36] (J7 s [af3 at0,.box (sL s 2),P8,.row 76 (D.instrs (l++c8 s.value 0++[d7.mk 9 0 0 0 0])),aV9 s fr at0]) (H8 at0 d [(8,iA ((l++c8 s.value 0).length:Int))]) fun G=>b6 (wp_seq (Z5 G (v8 5 [9,10,4] (ih s.body (l++c8 s.value 0++[d7.mk 9 0 0 0 0]) (fr++cm8 (c8 s.value 0).length at0++[at0]) (at0+1) (d+1) ai (by simp only[cn3,co5,cn6,co1,r2];have:=hft.2.2.2.2;simp only[cn3]at this;omega) ah al al al al)) [0,1,2,3,4,5,6,7,8,51,52] (J7 s [.box [.ref 9,.ref 10,iA (E4 s l fr at0 d).snd.snd],.box (sL s 2),P8,.row 76 (D.instrs (E4 s l fr at0 d).fst),.row 3 (D.ints (E4 s l fr at0 d).snd.fst)]) (H8 at0 d [(8,iA ((l++c8 s.value 0).length:Int))]) [wO (d+1)] (o1 al) fun G=>b6 (wp_seq (l6 G f8 [(9,iA ((E4 s l fr at0 d).fst.length:Int))] fun G=>b6 (wp_seq (j9 G (v8 3 [9,10] (H6 ((p7 s.body (d+1) (l++c8 s.value 0++[d7.mk 9 0 0 0 0],fr++cm8 (c8 s.value 0).length at0++[at0],at0+1)).fst) ((p7 s.body (d+1) (l++c8 s.value 0++[d7.mk 9 0 0 0 0],fr++cm8 (c8 s.value 0).length at0++[at0],at0+1)).snd.fst) ((p7 s.body (d+1) (l++c8 s.value 0++[d7.mk 9 0 0 0 0],fr++cm8 (c8 s.value 0).length at0++[at0],at0+1)).snd.snd) at0 8 0 0 0 0 (by have h9:=O2 s.body (d+1) (l++c8 s.value 0++[⟨9,0,0,0,0⟩],fr++cm8 (c8 s.value 0).length at0++[at0],at0+1);have h8:=R9 s.body;simp only[cn3,cn6,co1,co5,cp3,r2]at h9 ⊢;omega) (by have h9:=O2 s.body (d+1) (l++c8 s.value 0++[⟨9,0,0,0,0⟩],fr++cm8 (c8 s.value 0).length at0++[at0],at0+1);have h8:=R9 s.body;simp only[cn3,cn6,co1,co5,cp3,r2]at h9 ⊢;omega))) [0,1,2,3,4,5,6,7,8,35,36] (J7 s [.box [.ref 9,.ref 10,iA (E4 s l fr at0 d).snd.snd],.box (sL s 2),P8,.row 76 (D.instrs ((E4 s l fr at0 d).fst++[d7.mk 8 0 0 0 0])),.row 3 (D.ints ((E4 s l fr at0 d).snd.fst++[at0]))]) (H8 at0 d [(8,iA ((l++c8 s.value 0).length:Int)),(9,iA ((E4 s l fr at0 d).fst.length:Int))]) fun G=>b6 (wp_seq (Z5 G f8 (rg 11) (J7 s [.box [.ref 9,.ref 10,iA (E4 s l fr at0 d).snd.snd],.box (sL s 2),P8,.row 76 (D.instrs (((E4 s l fr at0 d).fst++[d7.mk 8 0 0 0 0]).set (l++c8 s.value 0).length (d7.mk (((E4 s l fr at0 d).fst++[d7.mk 8 0 0 0 0]).getD (l++c8 s.value 0).length cm7).op (((E4 s l fr at0 d).fst++[d7.mk 8 0 0 0 0]).getD (l++c8 s.value 0).length cm7).a (((E4 s l fr at0 d).fst++[d7.mk 8 0 0 0 0]).length:Int) (((E4 s l fr at0 d).fst++[d7.mk 8 0 0 0 0]).getD (l++c8 s.value 0).length cm7).c (((E4 s l fr at0 d).fst++[d7.mk 8 0 0 0 0]).getD (l++c8 s.value 0).length cm7).d))),.row 3 (D.ints ((E4 s l fr at0 d).snd.fst++[at0]))]) (H8 at0 d [(9,iA ((E4 s l fr at0 d).fst.length:Int))]) [(0:Int)<=((l++c8 s.value (0:Int)).length:Int),((l++c8 s.value (0:Int)).length:Int)<(((p7 s.body (d+1) (l++c8 s.value (0:Int)++[d7.mk (9:Int) (0:Int) (0:Int) (0:Int) (0:Int)],fr++cm8 (c8 s.value (0:Int)).length at0++[at0],at0+1)).fst++[d7.mk (8:Int) (0:Int) (0:Int) (0:Int) (0:Int)]).length:Int),(l++c8 s.value (0:Int)).length<((p7 s.body (d+1) (l++c8 s.value (0:Int)++[d7.mk (9:Int) (0:Int) (0:Int) (0:Int) (0:Int)],fr++cm8 (c8 s.value (0:Int)).length at0++[at0],at0+1)).fst++[d7.mk (8:Int) (0:Int) (0:Int) (0:Int) (0:Int)]).length] ⟨al,(by simp only[al7,cp3,cn3,cn6,co1];omega),(by simp only[al7,cp3,cn3,cn6,co1];omega),co8⟩ fun G=>?_)))))))))))
     refine b6 (wp_seq (Z5 G (v8 5 [9,10,5] (ih s.els (((p7 s.body (d+1) (l++c8 s.value 0++[d7.mk 9 0 0 0 0],fr++cm8 (c8 s.value 0).length at0++[at0],at0+1)).fst++[d7.mk 8 0 0 0 0]).set (l++c8 s.value 0).length (d7.mk (((p7 s.body (d+1) (l++c8 s.value 0++[d7.mk 9 0 0 0 0],fr++cm8 (c8 s.value 0).length at0++[at0],at0+1)).fst++[d7.mk 8 0 0 0 0]).getD (l++c8 s.value 0).length cm7).op (((p7 s.body (d+1) (l++c8 s.value 0++[d7.mk 9 0 0 0 0],fr++cm8 (c8 s.value 0).length at0++[at0],at0+1)).fst++[d7.mk 8 0 0 0 0]).getD (l++c8 s.value 0).length cm7).a (((p7 s.body (d+1) (l++c8 s.value 0++[d7.mk 9 0 0 0 0],fr++cm8 (c8 s.value 0).length at0++[at0],at0+1)).fst++[d7.mk 8 0 0 0 0]).length:Int) (((p7 s.body (d+1) (l++c8 s.value 0++[d7.mk 9 0 0 0 0],fr++cm8 (c8 s.value 0).length at0++[at0],at0+1)).fst++[d7.mk 8 0 0 0 0]).getD (l++c8 s.value 0).length cm7).c (((p7 s.body (d+1) (l++c8 s.value 0++[d7.mk 9 0 0 0 0],fr++cm8 (c8 s.value 0).length at0++[at0],at0+1)).fst++[d7.mk 8 0 0 0 0]).getD (l++c8 s.value 0).length cm7).d)) ((p7 s.body (d+1) (l++c8 s.value 0++[d7.mk 9 0 0 0 0],fr++cm8 (c8 s.value 0).length at0++[at0],at0+1)).snd.fst++[at0]) ((p7 s.body (d+1) (l++c8 s.value 0++[d7.mk 9 0 0 0 0],fr++cm8 (c8 s.value 0).length at0++[at0],at0+1)).snd.snd) (d+1) ai (by have h9:=O2 s.body (d+1) (l++c8 s.value 0++[⟨9,0,0,0,0⟩],fr++cm8 (c8 s.value 0).length at0++[at0],at0+1);have h8:=R9 s.body;simp only[cn3,cn6,co1,co5,cp3,r2]at h9 ⊢;omega) (by have h9:=O2 s.body (d+1) (l++c8 s.value 0++[⟨9,0,0,0,0⟩],fr++cm8 (c8 s.value 0).length at0++[at0],at0+1);have h8:=R9 s.body;simp only[cn3,cn6,co1,co5,cp3,r2]at h9 ⊢;omega) al al (by have h9:=al8 s.body (d+1) (l++c8 s.value 0++[⟨9,0,0,0,0⟩],fr++cm8 (c8 s.value 0).length at0++[at0],at0+1);simp only at h9;omega) (by have h9:=al8 s.body (d+1) (l++c8 s.value 0++[⟨9,0,0,0,0⟩],fr++cm8 (c8 s.value 0).length at0++[at0],at0+1);simp only at h9;omega))) [0,1,2,3,4,5,6,7,8,51,52] (J7 s [.box [.ref 9,.ref 10,iA (Q9 s l fr at0 d).snd.snd],.box (sL s 2),P8,.row 76 (D.instrs (Q9 s l fr at0 d).fst),.row 3 (D.ints (Q9 s l fr at0 d).snd.fst)]) (H8 at0 d [(9,iA ((E4 s l fr at0 d).fst.length:Int))]) [wO (d+1)] (o1 al) fun G=>b6 (wp_seq (Z5 G f8 (rg 11) (J7 s [.box [.ref 9,.ref 10,iA (Q9 s l fr at0 d).snd.snd],.box (sL s 2),P8,by1 s l fr at0 d,.row 3 (D.ints (Q9 s l fr at0 d).snd.fst)]) (H8 at0 d []) [(0:Int)<=((p7 s.body (d+1) (l++c8 s.value (0:Int)++[d7.mk (9:Int) (0:Int) (0:Int) (0:Int) (0:Int)],fr++cm8 (c8 s.value (0:Int)).length at0++[at0],at0+1)).fst.length:Int),((p7 s.body (d+1) (l++c8 s.value (0:Int)++[d7.mk (9:Int) (0:Int) (0:Int) (0:Int) (0:Int)],fr++cm8 (c8 s.value (0:Int)).length at0++[at0],at0+1)).fst.length:Int)<((p7 s.els (d+1) (((p7 s.body (d+1) (l++c8 s.value (0:Int)++[d7.mk (9:Int) (0:Int) (0:Int) (0:Int) (0:Int)],fr++cm8 (c8 s.value (0:Int)).length at0++[at0],at0+1)).fst++[d7.mk (8:Int) (0:Int) (0:Int) (0:Int) (0:Int)]).set (l++c8 s.value (0:Int)).length (d7.mk (((p7 s.body (d+1) (l++c8 s.value (0:Int)++[d7.mk (9:Int) (0:Int) (0:Int) (0:Int) (0:Int)],fr++cm8 (c8 s.value (0:Int)).length at0++[at0],at0+1)).fst++[d7.mk (8:Int) (0:Int) (0:Int) (0:Int) (0:Int)]).getD (l++c8 s.value (0:Int)).length cm7).op (((p7 s.body (d+1) (l++c8 s.value (0:Int)++[d7.mk (9:Int) (0:Int) (0:Int) (0:Int) (0:Int)],fr++cm8 (c8 s.value (0:Int)).length at0++[at0],at0+1)).fst++[d7.mk (8:Int) (0:Int) (0:Int) (0:Int) (0:Int)]).getD (l++c8 s.value (0:Int)).length cm7).a (((p7 s.body (d+1) (l++c8 s.value (0:Int)++[d7.mk (9:Int) (0:Int) (0:Int) (0:Int) (0:Int)],fr++cm8 (c8 s.value (0:Int)).length at0++[at0],at0+1)).fst++[d7.mk (8:Int) (0:Int) (0:Int) (0:Int) (0:Int)]).length:Int) (((p7 s.body (d+1) (l++c8 s.value (0:Int)++[d7.mk (9:Int) (0:Int) (0:Int) (0:Int) (0:Int)],fr++cm8 (c8 s.value (0:Int)).length at0++[at0],at0+1)).fst++[d7.mk (8:Int) (0:Int) (0:Int) (0:Int) (0:Int)]).getD (l++c8 s.value (0:Int)).length cm7).c (((p7 s.body (d+1) (l++c8 s.value (0:Int)++[d7.mk (9:Int) (0:Int) (0:Int) (0:Int) (0:Int)],fr++cm8 (c8 s.value (0:Int)).length at0++[at0],at0+1)).fst++[d7.mk (8:Int) (0:Int) (0:Int) (0:Int) (0:Int)]).getD (l++c8 s.value (0:Int)).length cm7).d),(p7 s.body (d+1) (l++c8 s.value (0:Int)++[d7.mk (9:Int) (0:Int) (0:Int) (0:Int) (0:Int)],fr++cm8 (c8 s.value (0:Int)).length at0++[at0],at0+1)).snd.fst++[at0],(p7 s.body (d+1) (l++c8 s.value (0:Int)++[d7.mk (9:Int) (0:Int) (0:Int) (0:Int) (0:Int)],fr++cm8 (c8 s.value (0:Int)).length at0++[at0],at0+1)).snd.snd)).fst.length:Int),(p7 s.body (d+1) (l++c8 s.value (0:Int)++[d7.mk (9:Int) (0:Int) (0:Int) (0:Int) (0:Int)],fr++cm8 (c8 s.value (0:Int)).length at0++[at0],at0+1)).fst.length<(p7 s.els (d+1) (((p7 s.body (d+1) (l++c8 s.value (0:Int)++[d7.mk (9:Int) (0:Int) (0:Int) (0:Int) (0:Int)],fr++cm8 (c8 s.value (0:Int)).length at0++[at0],at0+1)).fst++[d7.mk (8:Int) (0:Int) (0:Int) (0:Int) (0:Int)]).set (l++c8 s.value (0:Int)).length (d7.mk (((p7 s.body (d+1) (l++c8 s.value (0:Int)++[d7.mk (9:Int) (0:Int) (0:Int) (0:Int) (0:Int)],fr++cm8 (c8 s.value (0:Int)).length at0++[at0],at0+1)).fst++[d7.mk (8:Int) (0:Int) (0:Int) (0:Int) (0:Int)]).getD (l++c8 s.value (0:Int)).length cm7).op (((p7 s.body (d+1) (l++c8 s.value (0:Int)++[d7.mk (9:Int) (0:Int) (0:Int) (0:Int) (0:Int)],fr++cm8 (c8 s.value (0:Int)).length at0++[at0],at0+1)).fst++[d7.mk (8:Int) (0:Int) (0:Int) (0:Int) (0:Int)]).getD (l++c8 s.value (0:Int)).length cm7).a (((p7 s.body (d+1) (l++c8 s.value (0:Int)++[d7.mk (9:Int) (0:Int) (0:Int) (0:Int) (0:Int)],fr++cm8 (c8 s.value (0:Int)).length at0++[at0],at0+1)).fst++[d7.mk (8:Int) (0:Int) (0:Int) (0:Int) (0:Int)]).length:Int) (((p7 s.body (d+1) (l++c8 s.value (0:Int)++[d7.mk (9:Int) (0:Int) (0:Int) (0:Int) (0:Int)],fr++cm8 (c8 s.value (0:Int)).length at0++[at0],at0+1)).fst++[d7.mk (8:Int) (0:Int) (0:Int) (0:Int) (0:Int)]).getD (l++c8 s.value (0:Int)).length cm7).c (((p7 s.body (d+1) (l++c8 s.value (0:Int)++[d7.mk (9:Int) (0:Int) (0:Int) (0:Int) (0:Int)],fr++cm8 (c8 s.value (0:Int)).length at0++[at0],at0+1)).fst++[d7.mk (8:Int) (0:Int) (0:Int) (0:Int) (0:Int)]).getD (l++c8 s.value (0:Int)).length cm7).d),(p7 s.body (d+1) (l++c8 s.value (0:Int)++[d7.mk (9:Int) (0:Int) (0:Int) (0:Int) (0:Int)],fr++cm8 (c8 s.value (0:Int)).length at0++[at0],at0+1)).snd.fst++[at0],(p7 s.body (d+1) (l++c8 s.value (0:Int)++[d7.mk (9:Int) (0:Int) (0:Int) (0:Int) (0:Int)],fr++cm8 (c8 s.value (0:Int)).length at0++[at0],at0+1)).snd.snd)).fst.length] ⟨al,(by simp only[al7,cp3,cn3,cn6,co1];omega),(by simp only[al7,cp3,cn3,cn6,co1];omega),co8⟩ fun G=>?_))))
     refine b6 (wp_seq (j9 G f8 (rg 11) (J7 s [.box [.ref 9,.ref 10,iA (Q9 s l fr at0 d).snd.snd],.box (sL s 2),.box [.ref 9,.ref 10,iA (Q9 s l fr at0 d).snd.snd],by1 s l fr at0 d,.row 3 (D.ints (Q9 s l fr at0 d).snd.fst)]) (H8 at0 d []) fun G=>b6 (wp_ret (A3 (l0 ?_)))));exact Y0 (.agg [.ref 9,.ref 10,iA (p7 s.els (d+1) (((p7 s.body (d+1) (l++c8 s.value 0++[d7.mk 9 0 0 0 0],fr++cm8 (c8 s.value 0).length at0++[at0],at0+1)).fst++[d7.mk 8 0 0 0 0]).set (l++c8 s.value 0).length (d7.mk (((p7 s.body (d+1) (l++c8 s.value 0++[d7.mk 9 0 0 0 0],fr++cm8 (c8 s.value 0).length at0++[at0],at0+1)).fst++[d7.mk 8 0 0 0 0]).getD (l++c8 s.value 0).length cm7).op (((p7 s.body (d+1) (l++c8 s.value 0++[d7.mk 9 0 0 0 0],fr++cm8 (c8 s.value 0).length at0++[at0],at0+1)).fst++[d7.mk 8 0 0 0 0]).getD (l++c8 s.value 0).length cm7).a (((p7 s.body (d+1) (l++c8 s.value 0++[d7.mk 9 0 0 0 0],fr++cm8 (c8 s.value 0).length at0++[at0],at0+1)).fst++[d7.mk 8 0 0 0 0]).length:Int) (((p7 s.body (d+1) (l++c8 s.value 0++[d7.mk 9 0 0 0 0],fr++cm8 (c8 s.value 0).length at0++[at0],at0+1)).fst++[d7.mk 8 0 0 0 0]).getD (l++c8 s.value 0).length cm7).c (((p7 s.body (d+1) (l++c8 s.value 0++[d7.mk 9 0 0 0 0],fr++cm8 (c8 s.value 0).length at0++[at0],at0+1)).fst++[d7.mk 8 0 0 0 0]).getD (l++c8 s.value 0).length cm7).d),(p7 s.body (d+1) (l++c8 s.value 0++[d7.mk 9 0 0 0 0],fr++cm8 (c8 s.value 0).length at0++[at0],at0+1)).snd.fst++[at0],(p7 s.body (d+1) (l++c8 s.value 0++[d7.mk 9 0 0 0 0],fr++cm8 (c8 s.value 0).length at0++[at0],at0+1)).snd.snd)).snd.snd]) G [0,1,2,3,4,5,9,10] (by have e1:((U2 s d (l,fr,at0)).snd.snd:Int)=((p7 s.els (d+1) (((p7 s.body (d+1) (l++c8 s.value 0++[d7.mk 9 0 0 0 0],fr++cm8 (c8 s.value 0).length at0++[at0],at0+1)).fst++[d7.mk 8 0 0 0 0]).set (l++c8 s.value 0).length (d7.mk (((p7 s.body (d+1) (l++c8 s.value 0++[d7.mk 9 0 0 0 0],fr++cm8 (c8 s.value 0).length at0++[at0],at0+1)).fst++[d7.mk 8 0 0 0 0]).getD (l++c8 s.value 0).length cm7).op (((p7 s.body (d+1) (l++c8 s.value 0++[d7.mk 9 0 0 0 0],fr++cm8 (c8 s.value 0).length at0++[at0],at0+1)).fst++[d7.mk 8 0 0 0 0]).getD (l++c8 s.value 0).length cm7).a (((p7 s.body (d+1) (l++c8 s.value 0++[d7.mk 9 0 0 0 0],fr++cm8 (c8 s.value 0).length at0++[at0],at0+1)).fst++[d7.mk 8 0 0 0 0]).length:Int) (((p7 s.body (d+1) (l++c8 s.value 0++[d7.mk 9 0 0 0 0],fr++cm8 (c8 s.value 0).length at0++[at0],at0+1)).fst++[d7.mk 8 0 0 0 0]).getD (l++c8 s.value 0).length cm7).c (((p7 s.body (d+1) (l++c8 s.value 0++[d7.mk 9 0 0 0 0],fr++cm8 (c8 s.value 0).length at0++[at0],at0+1)).fst++[d7.mk 8 0 0 0 0]).getD (l++c8 s.value 0).length cm7).d),(p7 s.body (d+1) (l++c8 s.value 0++[d7.mk 9 0 0 0 0],fr++cm8 (c8 s.value 0).length at0++[at0],at0+1)).snd.fst++[at0],(p7 s.body (d+1) (l++c8 s.value 0++[d7.mk 9 0 0 0 0],fr++cm8 (c8 s.value 0).length at0++[at0],at0+1)).snd.snd)).snd.snd):=(by have h9:=congrArg (fun x:O5=>x.2.2) (cm3 (l:=l) (fr:=fr) (at0:=at0) (d:=d) (s:=s) al);exact h9);(first|rw[e1]|simp only[e1])<;>rfl) (by show _=mR [0,1,2,3,4,5,9,10] (X8 s l fr at0 d);unfold X8;have h9:=cm3 (l:=l) (fr:=fr) (at0:=at0) (d:=d) (s:=s) al;rw[h9]<;>rfl)
    refine wp_seq (j9 G (v8 4 [9,10,2] (a99 s.index (l++c8 s.value 0) (fr++cm8 (c8 s.value 0).length at0) (at0+1) at0 1 al al al (by simp only[cn3,co5,r2];done))) [0,1,2,3,4,5,6,7,8,43,44] (J7 s [af3 at0,.box (sL s 2),P8,.row 76 (D.instrs (l++c8 s.value 0++c8 s.index 1)),.row 3 (D.ints (fr++cm8 (c8 s.value 0).length at0++cm8 (c8 s.index 1).length at0))]) (H8 at0 d []) fun G=>b6 (wp_seq (j9 G (v8 5 [9,10] (H6 (l++c8 s.value 0++c8 s.index 1) (fr++cm8 (c8 s.value 0).length at0++cm8 (c8 s.index 1).length at0) (at0+1) at0 5 s.target 1 0 0 al (by simp only[cn3,co5,cn6,co1,r2];have:=hft.2.2.2.2;simp only[cn3]at this;omega))) [0,1,2,3,4,5,6,7,8,9,10,51,52] (J7 s [af3 at0,.box (sL s 2),.box [.ref 11,.ref 12,iA (at0+1)],.dead,.dead,.row 76 (D.instrs (l++c8 s.value 0++c8 s.index 1++[d7.mk 5 s.target 1 0 0])),.row 3 (D.ints (fr++cm8 (c8 s.value 0).length at0++cm8 (c8 s.index 1).length at0++[at0]))]) (H8 at0 d []) fun G=>b6 (wp_ret (A3 (l0 ?_))))));exact Y0 (.agg [.ref 11,.ref 12,iA (at0+1)]) G [0,1,2,3,4,5,11,12] (by have e1:((U2 s d (l,fr,at0)).snd.snd:Int)=(at0+1):=(congrArg (fun x:O5=>x.2.2) (cm2 al));(first|rw[e1]|simp only[e1])<;>rfl) (by show _=mR [0,1,2,3,4,5,11,12] (X8 s l fr at0 d);unfold X8;have e1:((U2 s d (l,fr,at0)).fst:List d7)=(l++c8 s.value 0++c8 s.index 1++[d7.mk 5 s.target 1 0 0]):=(congrArg Prod.fst (cm2 al));have e2:((U2 s d (l,fr,at0)).snd.fst:List Int)=(fr++cm8 (c8 s.value 0).length at0++cm8 (c8 s.index 1).length at0++[at0]):=(congrArg (fun x:O5=>x.2.1) (cm2 al));(first|rw[e1,e2]|simp only[e1,e2])<;>rfl)
   refine wp_seq (j9 G (v8 3 [9,10] (H6 (l++c8 s.value 0) (fr++cm8 (c8 s.value 0).length at0) (at0+1) at0 11 0 0 0 0 al (by simp only[cn3,co5,cn6,co1,r2];have:=hft.2.2.2.2;simp only[cn3]at this;omega))) [0,1,2,3,4,5,6,7,8,35,36] (J7 s [af3 at0,.box (sL s 2),P8,.row 76 (D.instrs (l++c8 s.value 0++[d7.mk 11 0 0 0 0])),aV9 s fr at0]) (H8 at0 d []) fun G=>b6 (wp_seq (j9 G (v8 5 [9,10] (H6 (l++c8 s.value 0++[d7.mk 11 0 0 0 0]) (fr++cm8 (c8 s.value 0).length at0++[at0]) (at0+1) at0 3 s.target 0 0 0 (by simp only[cn3,co5,cn6,co1,r2];have:=hft.2.2.2.2;simp only[cn3]at this;omega) (by simp only[cn3,co5,cn6,co1,r2];have:=hft.2.2.2.2;simp only[cn3]at this;omega))) [0,1,2,3,4,5,6,7,8,9,10,51,52] (J7 s [af3 at0,.box (sL s 2),.box [.ref 11,.ref 12,iA (at0+1)],.dead,.dead,.row 76 (D.instrs (l++c8 s.value 0++[d7.mk 11 0 0 0 0]++[d7.mk 3 s.target 0 0 0])),.row 3 (D.ints (fr++cm8 (c8 s.value 0).length at0++[at0]++[at0]))]) (H8 at0 d []) fun G=>b6 (wp_ret (A3 (l0 ?_))))));exact Y0 (.agg [.ref 11,.ref 12,iA (at0+1)]) G [0,1,2,3,4,5,11,12] (by have e1:((U2 s d (l,fr,at0)).snd.snd:Int)=(at0+1):=(congrArg (fun x:O5=>x.2.2) (cm5 al));(first|rw[e1]|simp only[e1])<;>rfl) (by show _=mR [0,1,2,3,4,5,11,12] (X8 s l fr at0 d);unfold X8;have e1:((U2 s d (l,fr,at0)).fst:List d7)=(l++c8 s.value 0++[d7.mk 11 0 0 0 0]++[d7.mk 3 s.target 0 0 0]):=(congrArg Prod.fst (cm5 al));have e2:((U2 s d (l,fr,at0)).snd.fst:List Int)=(fr++cm8 (c8 s.value 0).length at0++[at0]++[at0]):=(congrArg (fun x:O5=>x.2.1) (cm5 al));(first|rw[e1,e2]|simp only[e1,e2])<;>rfl)
  refine wp_seq (j9 G (v8 5 [9,10] (H6 (l++c8 s.value 0) (fr++cm8 (c8 s.value 0).length at0) (at0+1) at0 3 s.target 0 0 0 al (by simp only[cn3,co5,cn6,co1,r2];have:=hft.2.2.2.2;simp only[cn3]at this;omega))) [0,1,2,3,4,5,6,7,8,9,10,51,52] (J7 s [af3 at0,.box (sL s 2),.box [.ref 11,.ref 12,iA (at0+1)],.dead,.dead,.row 76 (D.instrs (l++c8 s.value 0++[d7.mk 3 s.target 0 0 0])),aV9 s fr at0]) (H8 at0 d []) fun G=>b6 (wp_ret (A3 (l0 ?_))));exact Y0 (.agg [.ref 11,.ref 12,iA (at0+1)]) G [0,1,2,3,4,5,11,12] (by have e1:((U2 s d (l,fr,at0)).snd.snd:Int)=(at0+1):=(congrArg (fun x:O5=>x.2.2) (cm1 al));(first|rw[e1]|simp only[e1])<;>rfl) (by show _=mR [0,1,2,3,4,5,11,12] (X8 s l fr at0 d);unfold X8;have e1:((U2 s d (l,fr,at0)).fst:List d7)=(l++c8 s.value 0++[d7.mk 3 s.target 0 0 0]):=(congrArg Prod.fst (cm1 al));have e2:((U2 s d (l,fr,at0)).snd.fst:List Int)=(fr++cm8 (c8 s.value 0).length at0++[at0]):=(congrArg (fun x:O5=>x.2.1) (cm1 al));(first|rw[e1,e2]|simp only[e1,e2])<;>rfl)
section
variable{ss:List c5}{k:Nat}{d:Int}{l:List d7}{fr:List Int}{at0:Int}
theorem bs7(hk:k<ss.length):j5 (ss.take k)+(1+M4 (ss.getD k cm7))<=j5 ss:=by
 have h1:=y6 (ss.take (k+1)) (ss.drop (k+1))
 rw[List.take_append_drop,n7 _ _ hk,y6, <-m6 (d:=cm7) hk]at h1
 simp only[j5]at h1
 omega
theorem bE3(hk:k<ss.length):X3 (ss.take k)+nS (ss.getD k cm7)<=X3 ss:=by
 have h1:=ag0 (ss.take (k+1)) (ss.drop (k+1))
 rw[List.take_append_drop,n7 _ _ hk,ag0, <-m6 (d:=cm7) hk]at h1
 simp only[X3]at h1
 omega
theorem bJ8(r1:l.length+4*j5 ss<=5000000)(hk:k<ss.length):(p7 (ss.take k) d (l,fr,at0)).1.length+(4+4*M4 (ss.getD k cm7))<=5000000:=by
 have h1:=bs7 hk
 have h2:=R9 (ss.take k)
 rw[al7]
 simp only
 omega
theorem bW3(r2:fr.length=l.length):(p7 (ss.take k) d (l,fr,at0)).2.1.length=(p7 (ss.take k) d (l,fr,at0)).1.length:=by
 have h:=O2 (ss.take k) d (l,fr,at0)
 simp only at h
 omega
theorem bK0(r5:0<=at0):0<=(p7 (ss.take k) d (l,fr,at0)).2.2:=by
 have h:=al8 (ss.take k) d (l,fr,at0)
 simp only at h
 omega
theorem bJ9(r6:at0+X3 ss<=5000000)(hk:k<ss.length):(p7 (ss.take k) d (l,fr,at0)).2.2+nS (ss.getD k cm7)<=5000000:=by
 have h:=al8 (ss.take k) d (l,fr,at0)
 have h1:=bE3 hk
 simp only at h
 omega
theorem ce6(hk:k<ss.length):(p7 (ss.take (k+1)) d (l,fr,at0)).1=(U2 (ss.getD k cm7) d (p7 (ss.take k) d (l,fr,at0))).1:=by rw[aN6 hk]
theorem ce5(hk:k<ss.length):(p7 (ss.take (k+1)) d (l,fr,at0)).2.1=(U2 (ss.getD k cm7) d (p7 (ss.take k) d (l,fr,at0))).2.1:=by rw[aN6 hk]
theorem ce4(hk:k<ss.length):(p7 (ss.take (k+1)) d (l,fr,at0)).2.2=(U2 (ss.getD k cm7) d (p7 (ss.take k) d (l,fr,at0))).2.2:=by rw[aN6 hk]
theorem bv7(hk:ss.length<=k)(x:O5):p7 ss d x=p7 (ss.take k) d x:=by rw[co3 hk]
end
theorem aS3(ss:List c5)(B:Int)(ih:∀(s:c5),s∈ss->∀(l:List d7) (fr:List Int) (at0 d:Int),l.length+(4+4*M4 s)<=5000000->fr.length=l.length->0<=d->d<=B->0<=at0->at0+nS s<=5000000->j7.ok Tryz.prog (lqC l fr at0 s d))
  (l:List d7) (fr:List Int) (at0 d:Int) (r1:l.length+4*j5 ss<=5000000) (r2:fr.length=l.length) (r3:0<=d) (r4:d<=B) (r5:0<=at0) (r6:at0+X3 ss<=5000000):j7.ok Tryz.prog (lrC l fr at0 ss d):=by
 refine H9 22 Tryz.func145 [.row 76 (D.instrs l),.row 3 (D.ints fr),dT ss] [(0,.agg [.ref 0,.ref 1,iA at0]),(1,.ref 2),(2,iA d)] fun G=>?_;have hl:=N0 ss;refine wp_seq (j9 G f8 [0,1,2,3,11] [.row 76 (D.instrs l),.row 3 (D.ints fr),dT ss,.box [.ref 0,.ref 1,iA at0],.box [.v (.slice none 0 0),.v (.slice none 0 0),iA 0]] [(1,.ref 2),(2,iA d),(3,.ptr 3 0),(6,.ptr 4 0)] fun G=>b6 (wp_seq (wp_seq (E8 G f8 [(1,.ref 2),(2,iA d),(3,.ptr 3 0),(6,.ptr 4 0),(7,iA 0)] fun G=>b6 (wp_block ?_)))));obtain⟨ρ,G⟩:=G.shift 0 5 [.dead,.row 3 (D.ints fr),dT ss,.box [.ref 5,.ref 1,iA at0],.box [.v (.slice none 0 0),.v (.slice none 0 0),iA 0],.row 76 (D.instrs l)] [(1,.ref 2),(2,iA d),(3,.ptr 3 0),(6,.ptr 4 0),(7,iA 0)];obtain⟨ρ,G⟩:=G.shift 1 6 [.dead,.dead,dT ss,.box [.ref 5,.ref 6,iA at0],.box [.v (.slice none 0 0),.v (.slice none 0 0),iA 0],.row 76 (D.instrs l),.row 3 (D.ints fr)] [(1,.ref 2),(2,iA d),(3,.ptr 3 0),(6,.ptr 4 0),(7,iA 0)];refine t9 (κ:=Nat) (fun k=>k<=ss.length) (fun k=>ss.length-k) (fun k=>[.dead,.dead,dT ss,.box [.ref 5,.ref 6,iA (p7 (ss.take k) d (l,fr,at0)).2.2],.box [.v (.slice none 0 0),.v (.slice none 0 0),iA 0],.row 76 (.instrs (p7 (ss.take k) d (l,fr,at0)).1),.row 3 (.ints (p7 (ss.take k) d (l,fr,at0)).2.1)]) (fun k=>[(1,.ref 2),(2,iA d),(3,.ptr 3 0),(6,.ptr 4 0),(7,iA k)]) 0 al (v9.at G _ _) ?_;clear G;intro k ρ a w hp G;replace G:=v9.at G [.dead,.dead,dT ss,.box [.ref 5,.ref 6,iA (p7 (cn7 k ss) d (l,fr,at0)).snd.snd],.box [.v (.slice none 0 0),.v (.slice none 0 0),iA 0],.row 76 (D.instrs (p7 (cn7 k ss) d (l,fr,at0)).fst),.row 3 (D.ints (p7 (cn7 k ss) d (l,fr,at0)).snd.fst)] [(1,.ref 2),(2,iA d),(3,.ptr 3 0),(6,.ptr 4 0),(7,iA k)];refine wp_seq (wp_seq (l6 G f8 [(11,bA (decide ((k:Int)<ss.length)))] fun G=>b6 (rcD G (fun h0 q0=>?_) fun h0 q0=>?_)))
 ·refine wp_exit (t7 (t7 (t5 (b6 (wp_seq (j9 G f8 [0,1,2,4,5,6] [.dead,.dead,dT ss,.box [.ref 4,.ref 5,iA (p7 (cn7 k ss) d (l,fr,at0)).snd.snd],.row 76 (D.instrs (p7 (cn7 k ss) d (l,fr,at0)).fst),.row 3 (D.ints (p7 (cn7 k ss) d (l,fr,at0)).snd.fst)] [(6,.ptr 3 0)] fun G=>b6 (wp_ret ?_)))))));exact Y0 (.agg [.ref 4,.ref 5,iA (p7 (cn7 k ss) d (l,fr,at0)).snd.snd]) G [0,1,2,4,5] (by have e1:((p7 ss d (l,fr,at0)).snd.snd:Int)=((p7 (cn7 k ss) d (l,fr,at0)).snd.snd):=(congrArg (fun x:O5=>x.2.2) (bv7 al _));(first|rw[e1]|simp only[e1])<;>rfl) (by show _=mR [0,1,2,4,5] [.dead,.dead,dT ss,.row 76 (D.instrs (p7 ss d (l,fr,at0)).fst),.row 3 (D.ints (p7 ss d (l,fr,at0)).snd.fst)];have e1:((p7 ss d (l,fr,at0)).fst:List d7)=((p7 (cn7 k ss) d (l,fr,at0)).fst):=(congrArg Prod.fst (bv7 al _));have e2:((p7 ss d (l,fr,at0)).snd.fst:List Int)=((p7 (cn7 k ss) d (l,fr,at0)).snd.fst):=(congrArg (fun x:O5=>x.2.1) (bv7 al _));(first|rw[e1,e2]|simp only[e1,e2])<;>rfl)
 refine wp_skip (b6 (wp_seq (wp_block (R3 G (v8 6 [5,6,39,40,41,42] (ih (ss.getD k cm7) (ae8 al) ((p7 (cn7 k ss) d (l,fr,at0)).fst) ((p7 (cn7 k ss) d (l,fr,at0)).snd.fst) ((p7 (cn7 k ss) d (l,fr,at0)).snd.snd) d (bJ8 r1 al) (bW3 r2) ai ai (bK0 r5) (bJ9 r6 al))) [0,0,0,6,14,0,63,127] [0,1,2,3,4,55,56] [.dead,.dead,dT ss,.box [.ref 5,.ref 6,iA (U2 (ss.getD k cm7) d (p7 (cn7 k ss) d (l,fr,at0))).snd.snd],.box [.v (.slice none 0 0),.v (.slice none 0 0),iA 0],.row 76 (D.instrs (U2 (ss.getD k cm7) d (p7 (cn7 k ss) d (l,fr,at0))).fst),.row 3 (D.ints (U2 (ss.getD k cm7) d (p7 (cn7 k ss) d (l,fr,at0))).snd.fst)] [(1,.ref 2),(2,iA d),(3,.ptr 3 0),(6,.ptr 4 0),(7,iA k)] (iX k k ss.length []) (iK al co8) fun G=>n4 (b6 (M8 G f8 [(7,iA ((k:Int)+1))] [wO ((k:Int)+1)] (o1 al) fun G=>b6 ?_))))));exact R2 G (k+1) al al (rg 7) (by have e1:((p7 (cn7 (k+1) ss) d (l,fr,at0)).snd.snd:Int)=((U2 (ss.getD k cm7) d (p7 (cn7 k ss) d (l,fr,at0))).snd.snd):=(ce4 al);have e2:((p7 (cn7 (k+1) ss) d (l,fr,at0)).fst:List d7)=((U2 (ss.getD k cm7) d (p7 (cn7 k ss) d (l,fr,at0))).fst):=(ce6 al);have e3:((p7 (cn7 (k+1) ss) d (l,fr,at0)).snd.fst:List Int)=((U2 (ss.getD k cm7) d (p7 (cn7 k ss) d (l,fr,at0))).snd.fst):=(ce5 al);(first|rw[e1,e2,e3]|simp only[e1,e2,e3])<;>rfl)
theorem bF3(nv na:Nat):∀(dd:Nat) (ss:List c5) (l:List d7) (fr:List Int) (at0 d:Int),ss.all (j6 nv na dd)=true->l.length+4*j5 ss<=5000000->fr.length=l.length->0<=d->d+dd<=100->0<=at0->at0+X3 ss<=5000000->j7.ok Tryz.prog (lrC l fr at0 ss d):=by
 intro dd
 induction dd with
 | zero =>
  intro ss l fr at0 d hs r1 r2 r3 r4 r5 r6
  have h0:ss=[]:=by
   cases ss with
   |nil=>rfl
   |cons a r=>simp[j6]at hs
  subst h0
  exact aS3 [] 100 (fun s hs=>by cases hs) l fr at0 d r1 r2 r3 al r5 r6
 |succ dd ih=>
  intro ss l fr at0 d hs r1 r2 r3 r4 r5 r6
  refine aS3 ss (100-(dd+1)) (fun s hm l fr at0 d q1 q2 q3 q4 q5 q6=>?_) l fr at0 d r1 r2 r3 al r5 r6
  have h:=cn8.1 hs s hm
  rw[U8,cm9,cm9]at h
  exact a48 nv na dd s h.1 h.2.1 h.2.2 (fun tt l fr at0 d h1 h2 h3 h4 h5 h6 h7=>ih tt l fr at0 d h1 h2 h3 h4 h5 h6 h7) l fr at0 d q1 q2 q3 al q5 q6
abbrev aV8:It:=.box [.v (.slice none 0 0),.v (.slice none 0 0),iA 0]
theorem be0(ss:List c5)(B:Int)(ih:∀(s:c5),s∈ss->∀(l:List d7) (fr:List Int) (at0 d:Int),l.length+(4+4*M4 s)<=5000000->fr.length=l.length->0<=d->d<=B->0<=at0->at0+nS s<=5000000->j7.ok Tryz.prog (lqC l fr at0 s d))
  (d:Int) (r1:([]:List d7).length+4*j5 ss<=5000000) (r3:0<=d) (r4:d<=B) (r6:(0:Int)+X3 ss<=5000000):j7.ok Tryz.prog ⟨145,[.agg [.v (.slice none 0 0),.v (.slice none 0 0),iA 0],.ref 0,iA d],[dT ss],[dT ss,rN (p7 ss d ([],[],0)).1,rI (p7 ss d ([],[],0)).2.1],.agg [.ref 1,.ref 2,iA (p7 ss d ([],[],0)).2.2]⟩:=by
 refine H9 22 Tryz.func145 [dT ss] [(0,.agg [.v (.slice none 0 0),.v (.slice none 0 0),iA 0]),(1,.ref 0),(2,iA d)] fun G=>?_;have hl:=N0 ss;refine wp_seq (j9 G f8 [0,1,9] [dT ss,aV8,aV8] [(1,.ref 0),(2,iA d),(3,.ptr 1 0),(6,.ptr 2 0)] fun G=>b6 (wp_seq (wp_seq (E8 G f8 [(1,.ref 0),(2,iA d),(3,.ptr 1 0),(6,.ptr 2 0),(7,iA 0)] fun G=>b6 (wp_block ?_)))));obtain⟨ρ,G⟩:=G.nil 3 76 (.instrs []) 5 [dT ss,.box [.ref 3,.v (.slice none 0 0),iA 0],.box [.v (.slice none 0 0),.v (.slice none 0 0),iA 0]] [(1,.ref 0),(2,iA d),(3,.ptr 1 0),(6,.ptr 2 0),(7,iA 0)];obtain⟨ρ,G⟩:=G.nil 4 3 (.ints []) 1 [dT ss,.box [.ref 3,.ref 4,iA 0],.box [.v (.slice none 0 0),.v (.slice none 0 0),iA 0],.row 76 (D.instrs [])] [(1,.ref 0),(2,iA d),(3,.ptr 1 0),(6,.ptr 2 0),(7,iA 0)];refine t9 (κ:=Nat) (fun k=>k<=ss.length) (fun k=>ss.length-k) (fun k=>[dT ss,.box [.ref 3,.ref 4,iA (p7 (ss.take k) d ([],[],0)).2.2],.box [.v (.slice none 0 0),.v (.slice none 0 0),iA 0],.row 76 (.instrs (p7 (ss.take k) d ([],[],0)).1),.row 3 (.ints (p7 (ss.take k) d ([],[],0)).2.1)]) (fun k=>[(1,.ref 0),(2,iA d),(3,.ptr 1 0),(6,.ptr 2 0),(7,iA k)]) 0 al (v9.at G _ _) ?_;clear G;intro k ρ a w hp G;replace G:=v9.at G [dT ss,.box [.ref 3,.ref 4,iA (p7 (cn7 k ss) d ([],[],0)).snd.snd],aV8,.row 76 (D.instrs (p7 (cn7 k ss) d ([],[],0)).fst),.row 3 (D.ints (p7 (cn7 k ss) d ([],[],0)).snd.fst)] [(1,.ref 0),(2,iA d),(3,.ptr 1 0),(6,.ptr 2 0),(7,iA k)];refine wp_seq (wp_seq (l6 G f8 [(11,bA (decide ((k:Int)<ss.length)))] fun G=>b6 (rcD G (fun h0 q0=>?_) fun h0 q0=>?_)))
 ·refine wp_exit (t7 (t7 (t5 (b6 (wp_seq (j9 G f8 [0,2,3,4] [dT ss,.box [.ref 2,.ref 3,iA (p7 (cn7 k ss) d ([],[],0)).snd.snd],.row 76 (D.instrs (p7 (cn7 k ss) d ([],[],0)).fst),.row 3 (D.ints (p7 (cn7 k ss) d ([],[],0)).snd.fst)] [(6,.ptr 1 0)] fun G=>b6 (wp_ret ?_)))))));exact Y0 (.agg [.ref 2,.ref 3,iA (p7 (cn7 k ss) d ([],[],0)).snd.snd]) G [0,2,3] (by have e1:((p7 ss d ([],[],0)).snd.snd:Int)=((p7 (cn7 k ss) d ([],[],0)).snd.snd):=(congrArg (fun x:O5=>x.2.2) (bv7 al _));(first|rw[e1]|simp only[e1])<;>rfl) (by show _=mR [0,2,3] [dT ss,.row 76 (D.instrs (p7 ss d ([],[],0)).fst),.row 3 (D.ints (p7 ss d ([],[],0)).snd.fst)];have e1:((p7 ss d ([],[],0)).fst:List d7)=((p7 (cn7 k ss) d ([],[],0)).fst):=(congrArg Prod.fst (bv7 al _));have e2:((p7 ss d ([],[],0)).snd.fst:List Int)=((p7 (cn7 k ss) d ([],[],0)).snd.fst):=(congrArg (fun x:O5=>x.2.1) (bv7 al _));(first|rw[e1,e2]|simp only[e1,e2])<;>rfl)
 refine wp_skip (b6 (wp_seq (wp_block (R3 G (v8 6 [3,4,37,38,39,40] (ih (ss.getD k cm7) (ae8 al) ((p7 (cn7 k ss) d ([],[],0)).fst) ((p7 (cn7 k ss) d ([],[],0)).snd.fst) ((p7 (cn7 k ss) d ([],[],0)).snd.snd) d (bJ8 r1 al) (bW3 rfl) ai ai (bK0 (Int.le_refl 0)) (bJ9 r6 al))) [0,0,0,6,14,0,63,127] [0,1,2,53,54] [dT ss,.box [.ref 3,.ref 4,iA (U2 (ss.getD k cm7) d (p7 (cn7 k ss) d ([],[],0))).snd.snd],aV8,.row 76 (D.instrs (U2 (ss.getD k cm7) d (p7 (cn7 k ss) d ([],[],0))).fst),.row 3 (D.ints (U2 (ss.getD k cm7) d (p7 (cn7 k ss) d ([],[],0))).snd.fst)] [(1,.ref 0),(2,iA d),(3,.ptr 1 0),(6,.ptr 2 0),(7,iA k)] (iX k k ss.length []) (iK al co8) fun G=>n4 (b6 (M8 G f8 [(7,iA ((k:Int)+1))] [wO ((k:Int)+1)] (o1 al) fun G=>b6 ?_))))));exact R2 G (k+1) al al (rg 5) (by have e1:((p7 (cn7 (k+1) ss) d ([],[],0)).snd.snd:Int)=((U2 (ss.getD k cm7) d (p7 (cn7 k ss) d ([],[],0))).snd.snd):=(ce4 al);have e2:((p7 (cn7 (k+1) ss) d ([],[],0)).fst:List d7)=((U2 (ss.getD k cm7) d (p7 (cn7 k ss) d ([],[],0))).fst):=(ce6 al);have e3:((p7 (cn7 (k+1) ss) d ([],[],0)).snd.fst:List Int)=((U2 (ss.getD k cm7) d (p7 (cn7 k ss) d ([],[],0))).snd.fst):=(ce5 al);(first|rw[e1,e2,e3]|simp only[e1,e2,e3])<;>rfl)
theorem bi4(p:i7)(hp:l9 p=true)(hb:j5 p.body<=1048576):j7.ok Tryz.prog ⟨145,[.agg [.v (.slice none 0 0),.v (.slice none 0 0),iA 0],.ref 0,iA 0],[dT p.body],[dT p.body,rN (p7 p.body 0 ([],[],0)).1,rI (p7 p.body 0 ([],[],0)).2.1],.agg [.ref 1,.ref 2,iA (p7 p.body 0 ([],[],0)).2.2]⟩:=by
 simp only[l9,ah2,cm9,decide_eq_true_eq]at hp
 refine be0 p.body 95 (fun s hm l fr at0 d q1 q2 q3 q4 q5 q6=>?_) 0 (by simp only[co1];omega) al al (by have:=aZ1 p.body;omega)
 have h:=cn8.1 hp.1.2 s hm
 rw[U8,cm9,cm9]at h
 exact a48 _ _ 4 s h.1 h.2.1 h.2.2 (fun tt l fr at0 d h1 h2 h3 h4 h5 h6 h7=>bF3 _ _ 4 tt l fr at0 d h1 h2 h3 h4 h5 h6 h7) l fr at0 d q1 q2 q3 al q5 q6
def aN5(p:i7):O5:=((p7 p.body 0 ([],[],0)).1++[⟨13,0,0,0,0⟩],(p7 p.body 0 ([],[],0)).2.1++[-1],(p7 p.body 0 ([],[],0)).2.2)
def okC(p:i7):Bool:=l9 p&&decide ((aN5 p).1.length<=400)
def K5(p:i7):O5:=if okC p=true then aN5 p else([],[],0)
theorem aY9{p:i7}(h:l9 p=false):okC p=false:=by unfold okC;rw[h];rfl
theorem bE1{p:i7}(h:¬(aN5 p).1.length<=400):okC p=false:=by unfold okC;rw[decide_eq_false h,Bool.and_false]
theorem bE0{p:i7}(h1:l9 p=true)(h:(aN5 p).1.length<=400):okC p=true:=by unfold okC;rw[decide_eq_true h,h1];rfl
theorem az7{p:i7}(h:okC p=false):K5 p=([],[],0):=by unfold K5;rw[h];rfl
theorem bI9{p:i7}(h:okC p=true):K5 p=aN5 p:=by unfold K5;rw[h];rfl
theorem bv3(p:i7)(hb:j5 p.body<=1048576):(p7 p.body 0 ([],[],0)).1.length<=5000000/\(p7 p.body 0 ([],[],0)).2.1.length<=5000000:=by
 have h:=O2 p.body 0 ([],[],0)
 have h1:=R9 p.body
 simp only[co1]at h
 omega
abbrev ax3(p:i7):List It:=[dI p.vars,dI p.arrays,dT p.body,.row 76 (D.instrs (K5 p).fst),.row 3 (D.ints (K5 p).snd.fst)]
abbrev aV0(p:i7)(r0:List It):List It:=.row 76 (D.instrs ((p7 p.body 0 ([],[],0)).fst++[d7.mk 13 0 0 0 0]))::.row 3 (D.ints ((p7 p.body 0 ([],[],0)).snd.fst++[-1]))::r0
theorem ba0(p:i7)(hb:j5 p.body<=1048576):j7.ok Tryz.prog ⟨93,[pA 0],pS p,pS p++[rN (K5 p).1,rI (K5 p).2.1],.tup [.agg [.ref 3,.ref 4,iA (K5 p).2.2],bA (okC p)]⟩:=by
  refine H9 22 Tryz.func93 [dI p.vars,dI p.arrays,dT p.body] [(0,pA 0)] fun G=>?_;have hcb:=bv3 p hb;refine wp_seq (j9 G f8 [0,1,2,3,11] [dI p.vars,dI p.arrays,dT p.body,.box (pL 0),.box [.v (.slice none 0 0),.v (.slice none 0 0),iA 0]] [(1,.ptr 3 0),(2,.ptr 4 0),(3,bA false)] fun G=>b6 (wp_seq (wp_seq (l6 G (v8 1 [0,1,2] (S6 p ai)) [(7,.v (.bool !l9 p))] fun G=>b6 ?_))));cases h0:(!l9 p)
  ·
   have q0:(l9 p)=true:=(Eq.mp (cp7 _) h0);refine rF G _ h0 (wp_skip (b6 (wp_seq (j9 G (v8 3 [2] (bi4 p ai ai)) [0,1,2,4,29,30,37] [dI p.vars,dI p.arrays,dT p.body,.box [.v (.slice none 0 0),.v (.slice none 0 0),iA 0],.row 76 (D.instrs (p7 p.body 0 ([],[],0)).fst),.row 3 (D.ints (p7 p.body 0 ([],[],0)).snd.fst),.box [.ref 4,.ref 5,iA (p7 p.body 0 ([],[],0)).snd.snd]] [(2,.ptr 3 0),(3,bA false),(4,.ptr 6 0)] fun G=>b6 (wp_seq (j9 G (v8 2 [4,5] (H6 ((p7 p.body 0 ([],[],0)).fst) ((p7 p.body 0 ([],[],0)).snd.fst) ((p7 p.body 0 ([],[],0)).snd.snd) (-1) 13 0 0 0 0 al al)) [0,1,2,3,6,23,24] (dI p.vars::dI p.arrays::dT p.body::.box [.v (.slice none 0 0),.v (.slice none 0 0),iA 0]::.box [.ref 5,.ref 6,iA (p7 p.body 0 ([],[],0)).snd.snd]::(aV0 p [])) [(2,.ptr 3 0),(3,bA false),(4,.ptr 4 0)] fun G=>b6 (wp_seq (wp_seq (l6 G f8 [(19,bA (decide ((((p7 p.body 0 ([],[],0)).fst++[d7.mk 13 0 0 0 0]).length:Int)>400)))] fun G=>b6 (rcD G (fun h1 q1=>?_) fun h1 q1=>?_))))))))))
   · refine wp_skip (b6 (wp_seq (j9 G f8 [0,1,2,3,5,6] (dI p.vars::dI p.arrays::dT p.body::.box [.ref 4,.ref 5,iA (p7 p.body 0 ([],[],0)).snd.snd]::(aV0 p [])) [(2,.ptr 3 0),(3,bA true)] fun G=>b6 (wp_ret ?_))));exact Y0 (.tup [.agg [.ref 4,.ref 5,iA (p7 p.body 0 ([],[],0)).snd.snd],bA true]) G [0,1,2,4,5] (by have e1:((K5 p).snd.snd:Int)=((p7 p.body 0 ([],[],0)).snd.snd):=(by rw[bI9 (bE0 ab (by simp only[aN5];omega))];rfl);have e2:(okC p:Bool)=(true):=(bE0 ab (by simp only[aN5];omega));(first|rw[e1,e2]|simp only[e1,e2])<;>rfl) (by show _=mR [0,1,2,4,5] (ax3 p);unfold ax3;rw[bI9 (bE0 ab (by simp only[aN5];omega))]<;>rfl)
   refine wp_seq (E8 G f8 [(2,.ptr 3 0),(3,bA false),(4,.ptr 4 0)] fun G=>b6 (wp_ret (l0 ?_)));obtain⟨ρ,G⟩:=G.nil 7 76 (.instrs []) 5 (dI p.vars::dI p.arrays::dT p.body::.box [.ref 7,.v (.slice none 0 0),iA 0]::.box [.ref 5,.ref 6,iA (p7 p.body 0 ([],[],0)).snd.snd]::(aV0 p [])) [(2,.ptr 3 0),(3,bA false),(4,.ptr 4 0)];obtain⟨ρ,G⟩:=G.nil 8 3 (.ints []) 1 (dI p.vars::dI p.arrays::dT p.body::.box [.ref 7,.ref 8,iA 0]::.box [.ref 5,.ref 6,iA (p7 p.body 0 ([],[],0)).snd.snd]::(aV0 p [.row 76 (D.instrs [])])) [(2,.ptr 3 0),(3,bA false),(4,.ptr 4 0)];exact Y0 (.tup [.agg [.ref 7,.ref 8,iA 0],bA false]) G [0,1,2,7,8] (by have e1:((K5 p).snd.snd:Int)=(0):=(by rw[az7 (bE1 (by simp only[aN5];omega))];done);have e2:(okC p:Bool)=(false):=(bE1 (by simp only[aN5];omega));(first|rw[e1,e2]|simp only[e1,e2])<;>rfl) (by show _=mR [0,1,2,7,8] (ax3 p);unfold ax3;rw[az7 (bE1 (by simp only[aN5];omega))]<;>rfl)
  have q0:(l9 p)=false:=(Eq.mp (co9 _) h0);refine rT G _ h0 (wp_seq (E8 G f8 [(1,.ptr 3 0),(2,.ptr 4 0),(3,bA false)] fun G=>b6 (wp_ret (l0 ?_))));obtain⟨ρ,G⟩:=G.nil 5 76 (.instrs []) 5 [dI p.vars,dI p.arrays,dT p.body,.box (pL 0),.box [.ref 5,.v (.slice none 0 0),iA 0]] [(1,.ptr 3 0),(2,.ptr 4 0),(3,bA false)];obtain⟨ρ,G⟩:=G.nil 6 3 (.ints []) 1 [dI p.vars,dI p.arrays,dT p.body,.box (pL 0),.box [.ref 5,.ref 6,iA 0],.row 76 (D.instrs [])] [(1,.ptr 3 0),(2,.ptr 4 0),(3,bA false)];exact Y0 (.tup [.agg [.ref 5,.ref 6,iA 0],bA false]) G [0,1,2,5,6] (by have e1:((K5 p).snd.snd:Int)=(0):=(by rw[az7 (aY9 ab)];done);have e2:(okC p:Bool)=(false):=(aY9 ab);(first|rw[e1,e2]|simp only[e1,e2])<;>rfl) (by show _=mR [0,1,2,5,6] (ax3 p);unfold ax3;rw[az7 (aY9 ab)]<;>rfl)
theorem b97{p:i7}(h:okC p=true):l9 p=true:=by
 unfold okC at h;simp only[cm9]at h;exact h.1
def cvP(p:i7):List Int:=if okC p=true then p.vars else []
def caP(p:i7):List Int:=if okC p=true then p.arrays else []
theorem cd6{p:i7}(h:okC p=true):cvP p=p.vars:=if_pos h
theorem b29{p:i7}(h:okC p=false):cvP p=[]:=if_neg (by rw[h];decide)
theorem ce7{p:i7}(h:okC p=true):caP p=p.arrays:=if_pos h
theorem b35{p:i7}(h:okC p=false):caP p=[]:=if_neg (by rw[h];decide)
abbrev aV7(p:i7):List It:=[dI p.vars,dI p.arrays,dT p.body,.row 3 (D.ints (cvP p)),.row 3 (D.ints (caP p)),.row 76 (D.instrs (K5 p).fst)]
abbrev aU9(p:i7)(r0:List It):List It:=.row 76 (D.instrs (K5 p).fst)::.row 3 (D.ints (K5 p).snd.fst)::.box [.ref 5,.ref 6,iA (K5 p).snd.snd]::r0
theorem aA1(p:i7)(hb:p.size<=1048576):j7.ok Tryz.prog ⟨41,[pA 0],pS p,pS p++[rI (cvP p),rI (caP p),rN (K5 p).1],.tup [.agg [.ref 3,.ref 4,.ref 5],bA (okC p)]⟩:=by
 refine H9 25 Tryz.func41 [dI p.vars,dI p.arrays,dT p.body] [(0,pA 0)] fun G=>?_
 have hb1:p.vars.length<=1048576/\p.arrays.length<=1048576/\j5 p.body<=1048576:=by unfold i7.size at hb;omega
 refine wp_seq (j9 G f8 [0,1,2,3,11] [dI p.vars,dI p.arrays,dT p.body,.box (pL 0),.box [.v (.slice none 0 0),.v (.slice none 0 0),.v (.slice none 0 0)]] [(1,.ptr 3 0),(2,.ptr 4 0),(3,bA false)] fun G=>b6 (wp_seq (j9 G (v8 1 [0,1,2] (ba0 p al)) [0,1,2,3,4,13,14,45] (dI p.vars::dI p.arrays::dT p.body::.box (pL 0)::.box [.v (.slice none 0 0),.v (.slice none 0 0),.v (.slice none 0 0)]::(aU9 p [])) [(1,.ptr 3 0),(2,.ptr 4 0),(3,bA false),(4,.ptr 7 0),(5,bA (okC p))] fun G=>b6 (wp_seq (wp_seq (l6 G f8 [(12,.v (.bool !okC p))] fun G=>b6 ?_))))));cases h0:(!okC p)
 ·have q0:(okC p)=true:=(Eq.mp (cp7 _) h0);refine rF G _ h0 (wp_skip (b6 (wp_seq (R3 G f8 [0,0,2,7,0,0,32,127,0,256,1023,2047,4095] [0,1,2,4,5,32,64] [dI p.vars,dI p.arrays,dT p.body,.box [.ref 5,.ref 6,.ref 4],.row 76 (D.instrs (K5 p).fst),.row 3 (D.ints ([]++p.vars)),.row 3 (D.ints ([]++p.arrays))] [(2,.ptr 3 0),(3,bA true)] (aP ((0:Nat)+p.vars.length) 8 (aP ((0:Nat)+p.arrays.length) 8 [])) (aK al (aK al co8)) fun G=>b6 (wp_ret ?_)))));exact Y0 (.tup [.agg [.ref 5,.ref 6,.ref 4],bA true]) G [0,1,2,5,6,4] (by have e1:(okC p:Bool)=(true):=ai;(first|rw[e1]|simp only[e1])<;>rfl) (by show _=mR [0,1,2,5,6,4] (aV7 p);unfold aV7;have e2:(caP p:List Int)=([]++p.arrays):=(by rw[ce7 ab];rfl);rw[e2,cd6 ab]<;>rfl)
 have q0:(okC p)=false:=(Eq.mp (co9 _) h0);refine rT G _ h0 (wp_seq (E8 G f8 [(1,.ptr 3 0),(2,.ptr 4 0),(3,bA false),(4,.ptr 7 0)] fun G=>b6 (wp_ret (l0 ?_))));obtain⟨ρ,G⟩:=G.nil 8 3 (.ints []) 1 (dI p.vars::dI p.arrays::dT p.body::.box (pL 0)::.box [.ref 8,.v (.slice none 0 0),.v (.slice none 0 0)]::(aU9 p [])) [(1,.ptr 3 0),(2,.ptr 4 0),(3,bA false),(4,.ptr 7 0)];obtain⟨ρ,G⟩:=G.nil 9 3 (.ints []) 1 (dI p.vars::dI p.arrays::dT p.body::.box (pL 0)::.box [.ref 8,.ref 9,.v (.slice none 0 0)]::(aU9 p [.row 3 (D.ints [])])) [(1,.ptr 3 0),(2,.ptr 4 0),(3,bA false),(4,.ptr 7 0)];obtain⟨ρ,G⟩:=G.nil 10 76 (.instrs []) 5 (dI p.vars::dI p.arrays::dT p.body::.box (pL 0)::.box (pL 8)::(aU9 p [.row 3 (D.ints []),.row 3 (D.ints [])])) [(1,.ptr 3 0),(2,.ptr 4 0),(3,bA false),(4,.ptr 7 0)];exact Y0 (.tup [pA 8,bA false]) G [0,1,2,8,9,10] (by have e1:(okC p:Bool)=(false):=ai;(first|rw[e1]|simp only[e1])<;>rfl) (by show _=mR [0,1,2,8,9,10] (aV7 p);unfold aV7;have e2:(caP p:List Int)=([]):=(by rw[b35 ab];done);have e3:((K5 p).fst:List d7)=([]):=(by rw[az7 ab];done);rw[e2,e3,b29 ab]<;>rfl)
def rqL(l:Int)(xs:List Int)(k:Nat):List Int:=(xs.take k).map (fun x=>l5 x l)++xs.drop k
theorem bn6(l:Int)(xs:List Int)(k:Nat):(rqL l xs k).length=xs.length:=by simp[rqL];omega
theorem bn7{l:Int}{xs:List Int}{k:Nat}(h:xs.length<=k):rqL l xs k=xs.map fun x=>l5 x l:=by
 unfold rqL
 rw[co3 al,List.drop_eq_nil_of_le al,List.append_nil]
theorem bY6{l:Int}{xs:List Int}{k:Nat}(h:k<xs.length):(rqL l xs k).getD k 0=xs.getD k 0:=by
 unfold rqL
 simp only[cn2]
 rw[cp9 ah]
 simp[List.length_take,Nat.min_eq_left (Nat.le_of_lt h)]
theorem bn5{l:Int}{xs:List Int}{k:Nat}(h:k<xs.length):(rqL l xs k).set k (l5 ((rqL l xs k).getD k 0) l)=rqL l xs (k+1):=by
 rw[bY6 h]
 unfold rqL
 apply List.ext_getElem?
 intro j
 rw[cr5]
 by_cases e:k=j
 ·subst e
  rw[if_pos rfl,if_pos ah]
  rw[co2 ah]
  simp[List.getElem?_take,h,cn2]
 rw[if_neg e]
 rcases cp1 j k with h1|h1
 ·rw[co2 ah,co2 ah]
  simp[List.getElem?_take,h1,show j<k+1 by omega]
 rw[cp9 ah,cp9 ah]
 simp only[List.length_map,List.length_take,List.getElem?_drop]
 congr 1
 omega
def l7(b:List UInt8)(j:Int):d9×Int:=(⟨(N7 b j).vars,(N7 b j).arrays,(clD b (Q6 b j).2 (N7 b j).vars.length (N7 b j).arrays.length).1⟩,(clD b (Q6 b j).2 (N7 b j).vars.length (N7 b j).arrays.length).2)
theorem bK7(b:List UInt8){j:Int}(hj:0<=j)(hj2:j<=10000000):j+2<=(Q6 b j).2/\(Q6 b j).2<=j+150000:=by
 have h1:=br7 b hj hj2
 have h2:=bp4 b hj hj2
 omega
theorem bC9(b:List UInt8)(j:Int):(N7 b j).vars.length<=12/\(N7 b j).arrays.length<=2/\1<=(N7 b j).vars.length:=by
 have h:=ae0 (bD1 b j)
 have:=(ay5 (bD1 b j)).2.2.1
 omega
theorem bJ6(b:List UInt8){j:Int}(hj:0<=j)(hj2:j<=10000000):j+3<=(l7 b j).2/\(l7 b j).2<=j+150100/\(l7 b j).1.list.length<=12/\1<=(l7 b j).1.list.length:=by
 have h1:=bK7 b hj hj2
 have h2:=cl5 b (j:=(Q6 b j).2) (N7 b j).vars.length (N7 b j).arrays.length al al
 have h3:=b08 b (j:=(Q6 b j).2) al al
 have e:(l7 b j).1.list.length=(clD b (Q6 b j).2 (N7 b j).vars.length (N7 b j).arrays.length).1.length:=rfl
 have e2:(l7 b j).2=(clD b (Q6 b j).2 (N7 b j).vars.length (N7 b j).arrays.length).2:=rfl
 rw[e,e2]
 omega
def I8(b:List UInt8):Nat->Int->i7×Int
 |0,j=>(V5 b j,(Q6 b j).2+1)
 |n+1,j=>if(X4 (V5 b j) false).1=0/\0<(V5 b j).body.length then(V5 b j,(Q6 b j).2+1)else I8 b n ((Q6 b j).2+1)
theorem bR1(b:List UInt8):∀(n:Nat) (j:Int),n<=3->0<=j->j+n*150001<=10000000->j<=(I8 b n j).2/\(I8 b n j).2<=j+(n+1)*150001/\(I8 b n j).1.size<=160000
 |0,j,_,hj,hj2=>by
  have h:=bK7 b hj al
  have h2:=bc7 b hj al
  refine⟨?_,?_,h2⟩<;>(show _<=_;simp only[I8];omega)
 |n+1,j,hn,hj,hj2=>by
  have h:=bK7 b hj al
  have h2:=bc7 b hj al
  have ih:=bR1 b n ((Q6 b j).2+1) al al al
  rw[I8]
  split
  ·exact⟨by show j<=(Q6 b j).2+1;omega,by show(Q6 b j).2+1<=_;omega,h2⟩
  exact⟨al,al,ih.2.2⟩
def P7(b:List UInt8)(j:Int):Nat->Int
 |0=>j
 |i+1=>(Q6 b (P7 b j i)).2+1
theorem cc7(b:List UInt8){j:Int}(hj:0<=j)(hj2:j<=9000000):∀i:Nat,i<=3->j<=P7 b j i/\P7 b j i<=j+i*150001
 |0,_=>⟨Int.le_refl _,by simp[P7]⟩
 |i+1,hi=>by
  have ih:=cc7 b hj hj2 i al
  have h:=bK7 b (j:=P7 b j i) al al
  rw[P7]
  omega
theorem cd0{b:List UInt8}{j:Int}{i:Nat}(hi:i<3)(h:I8 b 3 j=I8 b (3-i) (P7 b j i))(hn:¬((X4 (V5 b (P7 b j i)) false).1=0/\0<(V5 b (P7 b j i)).body.length)):I8 b 3 j=I8 b (3-(i+1)) (P7 b j (i+1)):=by
 rw[h,show 3-i=(3-(i+1))+1 by omega,I8,if_neg hn];rfl
theorem b21{b:List UInt8}{j:Int}{i:Nat}(hi:i<3)(h:I8 b 3 j=I8 b (3-i) (P7 b j i))(hn:(X4 (V5 b (P7 b j i)) false).1=0/\0<(V5 b (P7 b j i)).body.length):I8 b 3 j=(V5 b (P7 b j i),(Q6 b (P7 b j i)).2+1):=by
 rw[h,show 3-i=(3-(i+1))+1 by omega,I8,if_pos hn]
theorem bQ9{b:List UInt8}{j:Int}{i:Nat}(hi:3<=i)(hi2:i<=3)(h:I8 b 3 j=I8 b (3-i) (P7 b j i)):I8 b 3 j=(V5 b (P7 b j i),(Q6 b (P7 b j i)).2+1):=by
 rw[h,show 3-i=0 by omega,I8]
theorem br0{p:i7}(h:okL p=false):okC (I3 p)=false:=by
 rw[bo8 h];exact aY9 (by decide+kernel)
def fnI(x:d7):d7:=if x.op=9\/x.op=4\/x.op=5 then⟨12,0,0,0,0⟩else x
def fnL(xs:List d7)(k:Nat):List d7:=(xs.take k).map fnI++xs.drop k
theorem bq1(xs:List d7)(k:Nat):(fnL xs k).length=xs.length:=by simp[fnL];omega
theorem bh3{xs:List d7}{k:Nat}(h:k<xs.length):(fnL xs k).getD k cm7=xs.getD k cm7:=by
 unfold fnL
 simp only[cn2]
 rw[cp9 ah]
 simp[List.length_take,Nat.min_eq_left (Nat.le_of_lt h)]
theorem a85{xs:List d7}{k:Nat}(h:k<xs.length):fnL xs (k+1)=(fnL xs k).set k (fnI (xs.getD k cm7)):=by
 unfold fnL
 apply List.ext_getElem?
 intro j
 rw[cr5]
 by_cases e:k=j
 ·subst e
  rw[if_pos rfl,if_pos ah]
  rw[co2 ah]
  simp[List.getElem?_take,h,cn2]
 rw[if_neg e]
 rcases cp1 j k with h1|h1
 ·rw[co2 ah,co2 ah]
  simp[List.getElem?_take,h1,show j<k+1 by omega]
 rw[cp9 ah,cp9 ah]
 simp only[List.length_map,List.length_take,List.getElem?_drop]
 congr 1
 omega
theorem bH2{xs:List d7}{k:Nat}(h:k<xs.length)(ho:((fnL xs k).getD k cm7).op=9\/((fnL xs k).getD k cm7).op=4\/((fnL xs k).getD k cm7).op=5):fnL xs (k+1)=(fnL xs k).set k ⟨12,0,0,0,0⟩:=by
 rw[a85 h]
 rw[bh3 h]at ho
 unfold fnI;rw[if_pos ho]
theorem cc5{xs:List d7}{k:Nat}(h:k<xs.length)(ho:¬(((fnL xs k).getD k cm7).op=9\/((fnL xs k).getD k cm7).op=4\/((fnL xs k).getD k cm7).op=5)):fnL xs (k+1)=fnL xs k:=by
 have ho2:=ho
 rw[bh3 h]at ho2
 rw[a85 h]
 unfold fnI;rw[if_neg ho2]
 have hk:k<(fnL xs k).length:=by rw[bq1];exact h
 rw[<-bh3 h,m6 hk];simp
theorem bQ7{xs:List d7}{k:Nat}(h:xs.length<=k):fnL xs k=xs.map fnI:=by
 unfold fnL
 rw[co3 al,List.drop_eq_nil_of_le al,List.append_nil]
def ncD(b:List UInt8)(j:Int):d9×Int:=
 if pk b (l7 b j).2 3=0 then
  (if okC (I3 (I8 b 3 ((l7 b j).2+1)).1)=true/\(K5 (I3 (I8 b 3 ((l7 b j).2+1)).1)).1.length<=60 then
   (⟨cvP (I3 (I8 b 3 ((l7 b j).2+1)).1),caP (I3 (I8 b 3 ((l7 b j).2+1)).1),(K5 (I3 (I8 b 3 ((l7 b j).2+1)).1)).1⟩,(I8 b 3 ((l7 b j).2+1)).2)
  else((l7 b j).1,(I8 b 3 ((l7 b j).2+1)).2))
 else if pk b (l7 b j).2 3=1 then(⟨(l7 b j).1.vars.map fun x=>l5 x 1,(l7 b j).1.arrays.map fun x=>l5 x 1,(l7 b j).1.list.map fnI⟩,(l7 b j).2+1)
 else((l7 b j).1,(l7 b j).2+1)
theorem b28(p:i7):(cvP p).length<=12/\(caP p).length<=2:=by
 cases h:okC p
 ·rw[b29 h,b35 h];simp
 rw[cd6 h,ce7 h]
 have:=ae0 (b97 h)
 omega
theorem cj5(b:List UInt8){j:Int}(hj:0<=j)(hj2:j<=5000000):j<=(ncD b j).2/\(ncD b j).2<=j+1000000/\(ncD b j).1.list.length<=60/\(ncD b j).1.vars.length<=12/\(ncD b j).1.arrays.length<=2:=by
 have h1:=bJ6 b hj al
 have h2:=bR1 b 3 ((l7 b j).2+1) (cn4 _) al al
 have h3:=bC9 b j
 have e1:(l7 b j).1.vars=(N7 b j).vars:=rfl
 have e2:(l7 b j).1.arrays=(N7 b j).arrays:=rfl
 have h4:=b28 (I3 (I8 b 3 ((l7 b j).2+1)).1)
 unfold ncD
 split
 ·split
  ·rename_i h;exact⟨by simp only;omega,by simp only;omega,h.2,h4.1,h4.2⟩
  exact⟨by simp only;omega,by simp only;omega,by simp only;omega,by simp only[e1];omega,by simp only[e2];omega⟩
 split
 ·exact⟨by simp only;omega,by simp only;omega,by simp only[List.length_map];omega,by simp only[List.length_map,e1];omega,by simp only[List.length_map,e2];omega⟩
 exact⟨by simp only;omega,by simp only;omega,by simp only;omega,by simp only[e1];omega,by simp only[e2];omega⟩
abbrev cdC(b:List UInt8)(j:Int):j7:=⟨68,[.ptr 0 0],[.box [.ref 1,iA j],dY b],[.box [.ref 1,iA (l7 b j).2],dY b,rI (l7 b j).1.vars,rI (l7 b j).1.arrays,rN (l7 b j).1.list],.agg [.ref 2,.ref 3,.ref 4]⟩
abbrev T6(b:List UInt8)(j X:Int)(k:Nat):List d7×Int:=rsD b ((Q6 b j).2+1) (N7 b j).vars.length (N7 b j).arrays.length X k
section
variable{b:List UInt8}{j X:Int}{k:Nat}
theorem ce3(hX:nm b (Q6 b j).2 lnL=X)(hk:(k:Int)=X-1)(h3:¬X>3):(l7 b j).1.list=(T6 b j X k).1++[⟨13,0,0,0,0⟩]/\(l7 b j).2=(T6 b j X k).2:=by
 obtain rfl:k=(X-1).toNat:=al
 unfold l7 clD
 simp only[hX,if_neg h3]
 constructor<;>first|trivial|rfl
theorem ce0(hX:nm b (Q6 b j).2 lnL=X)(hk:(k:Int)=X-1)(h3:X>3)(h:¬pk b (T6 b j X k).2 4=0):(l7 b j).1.list=(T6 b j X k).1++[⟨13,0,0,0,0⟩]/\(l7 b j).2=(T6 b j X k).2+1:=by
 obtain rfl:k=(X-1).toNat:=al
 unfold T6 at h
 unfold l7 clD
 simp only[hX,if_pos h3,if_neg h]
 constructor<;>first|trivial|rfl
theorem cd9(hX:nm b (Q6 b j).2 lnL=X)(hk:(k:Int)=X-1)(h3:X>3)(h:pk b (T6 b j X k).2 4=0):(l7 b j).1.list=(((T6 b j X k).1++[(⟨13,0,0,0,0⟩:d7)]).set 0 ⟨1,5,1+pk b ((T6 b j X k).2+1) 3,0,0⟩).set (X-2).toNat ⟨10,5,1,0,0⟩/\(l7 b j).2=(T6 b j X k).2+1+1:=by
 obtain rfl:k=(X-1).toNat:=al
 unfold T6 at h
 unfold l7 clD
 simp only[hX,if_pos h3,if_pos h]
 constructor
 ·first|trivial|rfl
 exact(Int.add_assoc _ 1 1).symm
theorem pw3(b:List UInt8){i:Int}(h0:0<=i)(h1:i<=1000000000):IntKind.i64.wrap (1+pk b i 3)=1+pk b i 3:=by
 have:=bf4 b (i:=i) (m:=3) h0 h1
 exact w64 al al
theorem b84(b:List UInt8){j:Int}(X:Int)(r0:0<=j)(r1:j<=10000000)(k:Nat):(T6 b j X k).1.length=k/\(Q6 b j).2+1<=(T6 b j X k).2/\(T6 b j X k).2<=(Q6 b j).2+1+5*k:=
 bY5 b ((Q6 b j).2+1) _ _ X k
end
abbrev aR6(b:List UInt8)(j:Int)(X:Int)(k:Nat):=rnD b (T6 b j X k).snd (N7 b j).vars.length (N7 b j).arrays.length (k:Int) X
abbrev aR5(b:List UInt8)(j:Int):List It:=[.box [.ref 1,iA (l7 b j).snd],dY b,.row 3 (D.ints (l7 b j).fst.vars),.row 3 (D.ints (l7 b j).fst.arrays),.row 76 (D.instrs (l7 b j).fst.list)]
abbrev a27:It:=.box [.v (.slice none 0 0),.v (.slice none 0 0),.v (.slice none 0 0)]
abbrev aH6(b:List UInt8)(j:Int):It:=.row 3 (D.ints (N7 b j).arrays)
abbrev aH5(b:List UInt8)(j:Int):It:=.row 3 (D.ints (N7 b j).vars)
abbrev bT8(b:List UInt8)(j:Int)(X:Int)(k:Nat):It:=.row 76 (D.instrs ((((T6 b j X k).fst++([d7.mk 13 0 0 0 0]++[])).set 0 (d7.mk 1 5 (1+pk b ((T6 b j X k).snd+1) 3) 0 0)).set (X-2).toNat (d7.mk 10 5 1 0 0)))
abbrev bm1(b:List UInt8)(j:Int)(X:Int)(k:Nat):It:=.row 76 (D.instrs ((T6 b j X k).fst++([d7.mk 13 0 0 0 0]++[])))
abbrev aA7(X:Int)(r0:List (Nat×AV)):List (Nat×AV):=(0,.ptr 0 0)::(2,.ptr 2 0)::(4,.ptr 5 0)::(5,iA X)::r0
abbrev aG7(b:List UInt8)(j:Int)(r0:List It):List It:=dY b::a27::aH5 b j::aH6 b j::.box [.ref 3,.ref 4,.ref 6]::r0
theorem bA8(b:List UInt8)(j X:Int)(hX:nm b (Q6 b j).2 lnL=X)(r0:0<=j)(r1:j<=10000000):j7.ok Tryz.prog (cdC b j):=by
  have hbd:=bK7 b r0 r1;have hnum:j7.ok Tryz.prog ⟨109,[.ptr 0 0,.ref 2],[.box [.ref 1,iA (Q6 b j).2],dY b,dI lnL],[.box [.ref 1,iA ((Q6 b j).2+1)],dY b,dI lnL],iA X⟩:=hX▸S5 b (Q6 b j).2 lnL (List.cons_ne_nil _ _) al al;refine H9 60 Tryz.func68 [.box [.ref 1,iA j],dY b] [(0,.ptr 0 0)] fun G=>?_;have hop:1<=X/\X<=12:=hX▸b08 b al al;refine wp_seq (j9 G f8 [0,1,2] [.box [.ref 1,iA j],dY b,a27] [(0,.ptr 0 0),(2,.ptr 2 0)] fun G=>b6 (wp_seq (j9 G (v8 1 [0,1] (aC6 b j ai ai)) [0,1,2,11,12,13,19] [.box [.ref 1,iA (Q6 b j).snd],dY b,a27,aH5 b j,aH6 b j,.tree (D.stmts (N7 b j).body),.box [.ref 3,.ref 4,.tref 5]] [(0,.ptr 0 0),(2,.ptr 2 0),(3,.ptr 6 0)] fun G=>b6 (wp_seq (j9 G f8 [0,1,2,3,4,47] [.box [.ref 1,iA (Q6 b j).snd],dY b,a27,aH5 b j,aH6 b j,.box [.ref 3,.ref 4,.v (.slice none 0 0)]] [(0,.ptr 0 0),(2,.ptr 2 0),(4,.ptr 5 0)] fun G=>b6 (wp_seq (j9 G (v8 2 [0,1,14] (j7.lend hnum [.no,.no,.row 3])) (rg 6) [.box [.ref 1,iA ((Q6 b j).snd+1)],dY b,a27,aH5 b j,aH6 b j,.box [.ref 3,.ref 4,.v (.slice none 0 0)]] (aA7 X []) fun G=>b6 (wp_seq (wp_seq (E8 G f8 (aA7 X [(6,iA 0)]) fun G=>b6 (wp_block ?_)))))))))));obtain⟨ρ,G⟩:=G.nil 6 76 (.instrs []) 5 [.box [.ref 1,iA ((Q6 b j).snd+1)],dY b,.box [.v (.slice none 0 0),.v (.slice none 0 0),.v (.slice none 0 0)],.row 3 (D.ints (N7 b j).vars),.row 3 (D.ints (N7 b j).arrays),.box [.ref 3,.ref 4,.ref 6]] (aA7 X [(6,iA 0)]);refine t9 (κ:=Nat) (fun k=>(k:Int)<=X-1) (fun k=>(X-1).toNat-k) (fun k=>(.box [.ref 1,iA (T6 b j X k).2]::(aG7 b j [.row 76 (.instrs (T6 b j X k).1)]))) (fun k=>(aA7 X [(6,iA k)])) 0 al (v9.at G _ _) ?_;clear G;intro k ρ a w hp G;replace G:=v9.at G (.box [.ref 1,iA (T6 b j X k).snd]::(aG7 b j [.row 76 (D.instrs (T6 b j X k).fst)])) (aA7 X [(6,iA k)]);have hrs:=b84 b X r0 r1 k;refine wp_seq (wp_seq (M8 G f8 [(20,bA (decide ((k:Int)<X-1)))] [wO (X-1)] (o1 al) fun G=>b6 (rcD G (fun h0 q0=>?_) fun h0 q0=>?_)))
  ·
   refine wp_exit (t7 (t7 (t5 (b6 (wp_seq (Z5 G f8 [0,1,2,3,4,5,39] (.box [.ref 1,iA (T6 b j X k).snd]::(aG7 b j [bm1 b j X k])) (aA7 X []) (aP ((T6 b j X k).fst.length+([d7.mk (13:Int) (0:Int) (0:Int) (0:Int) (0:Int)]++[]).length) 40 []) (aK (by simp only[cn3,cn6,co1,cp3];omega) co8) fun G=>b6 (wp_seq (wp_seq ?_))))))));cases h1:(decide (X>3))
   · have q1:=dFf h1;refine l6 G (K0 (fc h1 fz) [(3,0),(4,0),(5,0),(1006,0)]) [(45,bA false)] fun G=>b6 (rF G false aj (wp_skip (b6 (wp_seq (j9 G f8 [0,1,2,3,4,6] [.box [.ref 1,iA (T6 b j X k).snd],dY b,.box (pL 3),aH5 b j,aH6 b j,bm1 b j X k] [(2,.ptr 2 0)] fun G=>b6 (wp_ret ?_))))));exact O7 G [0,1,3,4,5] (by show _=mR [0,1,3,4,5] (aR5 b j);unfold aR5;have e1:((l7 b j).snd:Int)=((T6 b j X k).snd):=((ce3 hX al al).2);have e2:((l7 b j).fst.list:List d7)=((T6 b j X k).fst++([d7.mk 13 0 0 0 0]++[])):=((ce3 hX al al).1);(first|rw[e1,e2]|simp only[e1,e2])<;>rfl)
   have q1:=dTt h1;refine j9 G (H5 (v7 4 [0,1] (C9 b ((T6 b j X k).snd) 4 al al) H4) (fc h1 fz) [(3,0),(4,0),(5,0),(1006,0)]) (rg 7) (.box [.ref 1,iA ((T6 b j X k).snd+1)]::(aG7 b j [bm1 b j X k])) (aA7 X [(45,bA (pk b (T6 b j X k).snd 4==0))]) fun G=>b6 (Q7 G (fun h2 q2=>?_) fun h2 q2=>?_)
   · refine wp_skip (b6 (wp_seq (j9 G f8 [0,1,2,3,4,6] [.box [.ref 1,iA ((T6 b j X k).snd+1)],dY b,.box (pL 3),aH5 b j,aH6 b j,bm1 b j X k] [(2,.ptr 2 0)] fun G=>b6 (wp_ret ?_))));exact O7 G [0,1,3,4,5] (by show _=mR [0,1,3,4,5] (aR5 b j);unfold aR5;have e1:((l7 b j).snd:Int)=((T6 b j X k).snd+1):=((ce0 hX al al al).2);have e2:((l7 b j).fst.list:List d7)=((T6 b j X k).fst++([d7.mk 13 0 0 0 0]++[])):=((ce0 hX al al al).1);(first|rw[e1,e2]|simp only[e1,e2])<;>rfl)
   refine wp_seq (R3 G (v8 3 [0,1] (C9 b ((T6 b j X k).snd+1) 3 al al)) [0,1,0,4,12,28,63,127] (rg 7) (.box [.ref 1,iA ((T6 b j X k).snd+1+1)]::(aG7 b j [.row 76 (D.instrs (((T6 b j X k).fst++([d7.mk 13 0 0 0 0]++[])).set 0 (d7.mk 1 5 (1+pk b ((T6 b j X k).snd+1) 3) 0 0)))])) [(2,.ptr 2 0),(4,.ptr 5 0),(5,iA X)] [wO ((1:Int)+pk b ((T6 b j X k).snd+1) (3:Int)),(0:Int)<=0,(0:Int)<(((T6 b j X k).fst++([d7.mk (13:Int) (0:Int) (0:Int) (0:Int) (0:Int)]++[])).length:Int),(0:Nat)<((T6 b j X k).fst++([d7.mk (13:Int) (0:Int) (0:Int) (0:Int) (0:Int)]++[])).length] ⟨(pw3 b al al),al,(by simp[h0,h1,h2]),(by simp[h0,h1,h2]),co8⟩ fun G=>b6 (Z5 G f8 (rg 7) (.box [.ref 1,iA ((T6 b j X k).snd+1+1)]::(aG7 b j [bT8 b j X k])) [(2,.ptr 2 0),(4,.ptr 5 0)] [wO (X-2),(0:Int)<=X-2,X-2<((((T6 b j X k).fst++([d7.mk (13:Int) (0:Int) (0:Int) (0:Int) (0:Int)]++[])).set (0:Nat) (d7.mk (1:Int) (5:Int) ((1:Int)+pk b ((T6 b j X k).snd+1) (3:Int)) (0:Int) (0:Int))).length:Int),(X-2).toNat<(((T6 b j X k).fst++([d7.mk (13:Int) (0:Int) (0:Int) (0:Int) (0:Int)]++[])).set (0:Nat) (d7.mk (1:Int) (5:Int) ((1:Int)+pk b ((T6 b j X k).snd+1) (3:Int)) (0:Int) (0:Int))).length] ⟨oW al,al,(by simp only[cn3,cn6,co1,cp3];omega),(by simp only[cn3,cn6,co1,cp3];omega),co8⟩ fun G=>b6 (wp_seq (j9 G f8 [0,1,2,3,4,6] [.box [.ref 1,iA ((T6 b j X k).snd+1+1)],dY b,.box (pL 3),aH5 b j,aH6 b j,bT8 b j X k] [(2,.ptr 2 0)] fun G=>b6 (wp_ret ?_)))));exact O7 G [0,1,3,4,5] (by show _=mR [0,1,3,4,5] (aR5 b j);unfold aR5;have e1:((l7 b j).snd:Int)=((T6 b j X k).snd+1+1):=((cd9 hX al al al).2);have e2:((l7 b j).fst.list:List d7)=((((T6 b j X k).fst++([d7.mk 13 0 0 0 0]++[])).set 0 (d7.mk 1 5 (1+pk b ((T6 b j X k).snd+1) 3) 0 0)).set (X-2).toNat (d7.mk 10 5 1 0 0)):=((cd9 hX al al al).1);(first|rw[e1,e2]|simp only[e1,e2])<;>rfl)
  refine wp_skip (b6 (wp_seq (wp_block (R3 G (v8 6 [0,1,3,4,6] (j7.lend (bi5 b ((T6 b j X k).snd) ((N7 b j).vars) ((N7 b j).arrays) ((T6 b j X k).fst) ((k:Int)) X al al al al) [.no,.no,.row 3,.row 3,.row 76])) [0,1,0,0,0,0,60,124,255,511,1023] [0,1,2,3,4,5,71] (.box [.ref 1,iA (aR6 b j X k).snd]::(aG7 b j [.row 76 (D.instrs ((T6 b j X k).fst++([d7.mk (aR6 b j X k).fst.op (aR6 b j X k).fst.a (aR6 b j X k).fst.b (aR6 b j X k).fst.c (aR6 b j X k).fst.d]++[])))])) (aA7 X [(6,iA k)]) (aP ((T6 b j X k).fst.length+([d7.mk (rnD b (T6 b j X k).snd (N7 b j).vars.length (N7 b j).arrays.length (k:Int) X).fst.op (rnD b (T6 b j X k).snd (N7 b j).vars.length (N7 b j).arrays.length (k:Int) X).fst.a (rnD b (T6 b j X k).snd (N7 b j).vars.length (N7 b j).arrays.length (k:Int) X).fst.b (rnD b (T6 b j X k).snd (N7 b j).vars.length (N7 b j).arrays.length (k:Int) X).fst.c (rnD b (T6 b j X k).snd (N7 b j).vars.length (N7 b j).arrays.length (k:Int) X).fst.d]++[]).length) 40 []) (aK (by simp only[cn3,cn6,co1,cp3];omega) co8) fun G=>n4 (b6 (M8 G f8 [(6,iA ((k:Int)+1))] [wO ((k:Int)+1)] (o1 al) fun G=>b6 ?_))))));exact R2 G (k+1) ai al (rg 7)
theorem aw2(b:List UInt8)(j:Int)(r0:0<=j)(r1:j<=10000000):j7.ok Tryz.prog (cdC b j):=bA8 b j _ rfl r0 r1
abbrev muC(b:List UInt8)(j:Int)(vs ars:List Int)(l:List d7):j7:=⟨58,[.ptr 0 0,.agg [.ref 2,.ref 3,.ref 4]],[.box [.ref 1,iA j],dY b,dI vs,dI ars,dN l],[.box [.ref 1,iA (muD b j ⟨vs,ars,l⟩).2],dY b,dI vs,dI ars,dN l,rI (muD b j ⟨vs,ars,l⟩).1.vars,rI (muD b j ⟨vs,ars,l⟩).1.arrays,rN (muD b j ⟨vs,ars,l⟩).1.list],.agg [.ref 5,.ref 6,.ref 7]⟩
section
variable{b:List UInt8}{j:Int}{vs ars:List Int}{l:List d7}
theorem cj9(h:(([]++l).length:Int)=0):muD b j ⟨vs,ars,l⟩=(⟨[]++vs,[]++ars,[]++l⟩,j):=by
 unfold muD;rw[if_pos (by rw[List.nil_append]at h;show l.length=0;omega)]
 rfl
theorem ck6(h:¬(([]++l).length:Int)=0)(h1:pk b j 60=0):muD b j ⟨vs,ars,l⟩=(⟨vs,ars,bY8 l 0 (nm b (j+1) ca4)⟩,j+1+1):=by
 unfold muD;rw[if_neg (by rw[List.nil_append]at h;show ¬l.length=0;omega),if_pos h1,Int.add_assoc];rfl
theorem ck5(h:¬(([]++l).length:Int)=0)(h1:pk b j 60=1):muD b j ⟨vs,ars,l⟩=(⟨vs,ars,bC4 l (pk b (j+1) l.length).toNat (nm b (j+1+1) ca3)⟩,j+1+1+1):=by
 unfold muD;rw[if_neg (by rw[List.nil_append]at h;show ¬l.length=0;omega),if_neg al,if_pos h1,Int.add_assoc j 1 1,Int.add_assoc];rfl
theorem ck4(h:¬(([]++l).length:Int)=0)(h1:pk b j 60=2):muD b j ⟨vs,ars,l⟩=(⟨vs,ars,([]++l).set ((([]++l).length:Int)-1).toNat ⟨12,0,0,0,0⟩⟩,j+1):=by
 unfold muD;rw[if_neg (by rw[List.nil_append]at h;show ¬l.length=0;omega),if_neg al,if_neg al,if_pos h1]
 rw[List.nil_append]at h ⊢
 exact congrArg (fun i=>((⟨vs,ars,l.set i _⟩:d9),j+1)) (by show l.length-1=_;omega)
theorem ck3(h:¬(([]++l).length:Int)=0)(h1:pk b j 60=3):muD b j ⟨vs,ars,l⟩=(⟨vs,ars,([]++l).set ((([]++l).length:Int)-1).toNat ⟨8,0,0,0,0⟩⟩,j+1):=by
 unfold muD;rw[if_neg (by rw[List.nil_append]at h;show ¬l.length=0;omega),if_neg al,if_neg al,if_neg al,if_pos h1]
 rw[List.nil_append]at h ⊢
 exact congrArg (fun i=>((⟨vs,ars,l.set i _⟩:d9),j+1)) (by show l.length-1=_;omega)
theorem ck2(h:¬(([]++l).length:Int)=0)(h1:pk b j 60=4):muD b j ⟨vs,ars,l⟩=(⟨vs,ars,bY9 l (pk b (j+1) l.length).toNat (nm b (j+1+1) ca2)⟩,j+1+1+1):=by
 unfold muD;rw[if_neg (by rw[List.nil_append]at h;show ¬l.length=0;omega),if_neg al,if_neg al,if_neg al,if_neg al,if_pos h1,Int.add_assoc j 1 1,Int.add_assoc];rfl
theorem ck1(h:¬(([]++l).length:Int)=0)(h1:pk b j 60=5):muD b j ⟨vs,ars,l⟩=(⟨[],ars,l⟩,j+1):=by
 unfold muD;rw[if_neg (by rw[List.nil_append]at h;show ¬l.length=0;omega),if_neg al,if_neg al,if_neg al,if_neg al,if_neg al,if_pos h1]
theorem cj8(h:¬(([]++l).length:Int)=0)(h1:¬pk b j 60=0/\¬pk b j 60=1/\¬pk b j 60=2/\¬pk b j 60=3/\¬pk b j 60=4/\¬pk b j 60=5):muD b j ⟨vs,ars,l⟩=(⟨[]++vs,[]++ars,[]++l⟩,j+1):=by
 unfold muD;rw[if_neg (by rw[List.nil_append]at h;show ¬l.length=0;omega),if_neg al,if_neg al,if_neg al,if_neg al,if_neg al,if_neg al]
 rfl
theorem cj7(h:¬(([]++l).length:Int)=0)(r0:0<=j)(r1:j<=100000000):0<=pk b (j+1) (([]++l).length:Int)/\pk b (j+1) (([]++l).length:Int)<(([]++l).length:Int):=bC8 b al al al
end
abbrev Y7(b:List UInt8)(j:Int)(vs:List Int)(ars:List Int)(l:List d7):List It:=[.box [.ref 1,iA (muD b j (d9.mk vs ars l)).snd],dY b,dI vs,dI ars,dN l,.row 3 (D.ints (muD b j (d9.mk vs ars l)).fst.vars),.row 3 (D.ints (muD b j (d9.mk vs ars l)).fst.arrays),.row 76 (D.instrs (muD b j (d9.mk vs ars l)).fst.list)]
abbrev bT7(b:List UInt8)(j:Int)(l:List d7):It:=.row 76 (D.instrs (([]++l).set (pk b (j+1) (([]++l).length:Int)).toNat (d7.mk (([]++l).getD (pk b (j+1) (([]++l).length:Int)).toNat cm7).op (nm b (j+1+1) ([-1]++([14]++([0]++([400]++[]))))) (([]++l).getD (pk b (j+1) (([]++l).length:Int)).toNat cm7).b (([]++l).getD (pk b (j+1) (([]++l).length:Int)).toNat cm7).c (([]++l).getD (pk b (j+1) (([]++l).length:Int)).toNat cm7).d)))
abbrev bT6(b:List UInt8)(j:Int)(l:List d7):It:=.row 76 (D.instrs (([]++l).set (pk b (j+1) (([]++l).length:Int)).toNat (d7.mk (([]++l).getD (pk b (j+1) (([]++l).length:Int)).toNat cm7).op (([]++l).getD (pk b (j+1) (([]++l).length:Int)).toNat cm7).a (([]++l).getD (pk b (j+1) (([]++l).length:Int)).toNat cm7).b (([]++l).getD (pk b (j+1) (([]++l).length:Int)).toNat cm7).c (nm b (j+1+1) ([1]++([-1]++[]))))))
abbrev at5:It:=.box [.v (.slice none 0 0),.v (.slice none 0 0),.v (.slice none 0 0)]
abbrev bT5(b:List UInt8)(j:Int)(l:List d7):It:=.row 76 (D.instrs (([]++l).set 0 (d7.mk (nm b (j+1) ([0]++([14]++([1]++([12]++[]))))) (([]++l).getD 0 cm7).a (([]++l).getD 0 cm7).b (([]++l).getD 0 cm7).c (([]++l).getD 0 cm7).d)))
abbrev ac0(vs:List Int)(ars:List Int)(r0:List It):List It:=.row 3 (D.ints ([]++vs))::.row 3 (D.ints ([]++ars))::r0
theorem bi6(b:List UInt8)(j:Int)(vs ars:List Int)(l:List d7)(hb:vs.length<=1048576/\ars.length<=1048576/\l.length<=9000000)(r0:0<=j)(r1:j<=100000000):j7.ok Tryz.prog (muC b j vs ars l):=by
  refine H9 82 Tryz.func58 [.box [.ref 1,iA j],dY b,dI vs,dI ars,dN l] [(0,.ptr 0 0),(1,pA 2)] fun G=>?_
  have hmp:=fun(h:¬(([]++l).length:Int)=0)=>cj7 (b:=b) (j:=j) (l:=l) h r0 r1
  have hll:([]++l).length<=9000000:=hb.2.2;refine wp_seq (j9 G f8 [0,1,2,3,4,5,13] [.box [.ref 1,iA j],dY b,dI vs,dI ars,dN l,.box (pL 2),at5] [(0,.ptr 0 0),(3,.ptr 5 0),(4,.ptr 6 0)] fun G=>b6 (wp_seq (R3 G f8 [0,0,2,7,0,0,32,127,0,0,512,2047,4095,0,16383] [0,1,2,3,4,6,31,63,95,111] (.box [.ref 1,iA j]::dY b::dI vs::dI ars::dN l::at5::(ac0 vs ars [.row 76 (D.instrs ([]++l)),.box (pL 6)])) [(0,.ptr 0 0),(4,.ptr 5 0),(5,.ptr 9 0)] (aP ((0:Nat)+vs.length) 8 (aP ((0:Nat)+ars.length) 8 (aP ((0:Nat)+l.length) 40 []))) (aK al (aK al (aK al co8))) fun G=>b6 (wp_seq (l6 G f8 [(6,iA (([]++l).length:Int))] fun G=>b6 (wp_seq (wp_seq (l6 G f8 [(24,bA ((([]++l).length:Int)==0))] fun G=>b6 (Q7 G (fun h0 q0=>?_) fun h0 q0=>?_)))))))))
  ·
   refine wp_skip (b6 (wp_seq (wp_seq (j9 G (v8 1 [0,1] (C9 b j 60 ai al)) (rg 10) (.box [.ref 1,iA (j+1)]::dY b::dI vs::dI ars::dN l::at5::(ac0 vs ars [.row 76 (D.instrs ([]++l)),.box (pL 6)])) [(0,.ptr 0 0),(4,.ptr 5 0),(5,.ptr 9 0),(6,iA (([]++l).length:Int)),(27,iA (pk b j 60))] fun G=>b6 (wp_block (wp_seq (l6 G f8 [(28,bA (pk b j 60==0))] fun G=>b6 (Q7 G (fun h1 q1=>?_) fun h1 q1=>?_))))))))
   ·
    refine wp_seq (l6 G f8 [(37,bA (pk b j 60==1))] fun G=>b6 (Q7 G (fun h2 q2=>?_) fun h2 q2=>?_))
    ·
     refine wp_seq (l6 G f8 [(49,bA (pk b j 60==2))] fun G=>b6 (Q7 G (fun h3 q3=>?_) fun h3 q3=>?_))
     ·
      refine wp_seq (l6 G f8 [(57,bA (pk b j 60==3))] fun G=>b6 (Q7 G (fun h4 q4=>?_) fun h4 q4=>?_))
      ·
       refine wp_seq (l6 G f8 [(65,bA (pk b j 60==4))] fun G=>b6 (Q7 G (fun h5 q5=>?_) fun h5 q5=>?_))
       ·
        refine wp_seq (l6 G f8 [(77,bA (pk b j 60==5))] fun G=>b6 (Q7 G (fun h6 q6=>?_) fun h6 q6=>?_))
        · refine wp_skip (n4 (b6 (wp_seq (j9 G f8 (rg 9) (.box [.ref 1,iA (j+1)]::dY b::dI vs::dI ars::dN l::.box (pL 6)::(ac0 vs ars [.row 76 (D.instrs ([]++l))])) [(4,.ptr 5 0)] fun G=>b6 (wp_ret ?_)))));exact O7 G [0,1,2,3,4,6,7,8] (by show _=mR [0,1,2,3,4,6,7,8] (Y7 b j vs ars l);unfold Y7;rw[cj8 al al]<;>rfl)
        refine j9 G f8 [0,1,2,3,4,5,7,8,9,10] [.box [.ref 1,iA (j+1)],dY b,dI vs,dI ars,dN l,at5,.row 3 (D.ints ([]++ars)),.row 76 (D.instrs ([]++l)),.box [.ref 9,.ref 6,.ref 7],.row 3 (D.ints [])] [(4,.ptr 5 0),(5,.ptr 8 0)] fun G=>n4 (b6 (wp_seq (j9 G f8 [0,1,2,3,4,5,6,7,9] [.box [.ref 1,iA (j+1)],dY b,dI vs,dI ars,dN l,.box [.ref 8,.ref 6,.ref 7],.row 3 (D.ints ([]++ars)),.row 76 (D.instrs ([]++l)),.row 3 (D.ints [])] [(4,.ptr 5 0)] fun G=>b6 (wp_ret ?_))));exact O7 G [0,1,2,3,4,8,6,7] (by show _=mR [0,1,2,3,4,8,6,7] (Y7 b j vs ars l);unfold Y7;rw[ck1 al al]<;>rfl)
       refine R3 G (H5 (v7 4 [0,1] (C9 b (j+1) ((([]++l).length:Int)) al al) (v7 7 [0,1,58] (j7.lend (S5 b (j+1+1) ([1]++([-1]++[])) (by simp[h0,h1,h2,h3,h4,h5]) al al) [.no,.no,.row 3]) H4)) fz []) [0,1,0,0,12,0,0,124,255,511,1023] (rg 10) (.box [.ref 1,iA (j+1+1+1)]::dY b::dI vs::dI ars::dN l::at5::(ac0 vs ars [bT6 b j l,.box (pL 6)])) [(4,.ptr 5 0),(5,.ptr 9 0)] (iX (pk b (j+1) (([]++l).length:Int)) ((pk b (j+1) (([]++l).length:Int)).toNat) (([]++l).length) []) (iK al co8) fun G=>n4 (b6 (wp_seq (j9 G f8 (rg 9) (.box [.ref 1,iA (j+1+1+1)]::dY b::dI vs::dI ars::dN l::.box (pL 6)::(ac0 vs ars [bT6 b j l])) [(4,.ptr 5 0)] fun G=>b6 (wp_ret ?_))));exact O7 G [0,1,2,3,4,6,7,8] (by show _=mR [0,1,2,3,4,6,7,8] (Y7 b j vs ars l);unfold Y7;rw[ck2 al al]<;>rfl)
      refine Z5 G f8 (rg 10) (.box [.ref 1,iA (j+1)]::dY b::dI vs::dI ars::dN l::at5::(ac0 vs ars [.row 76 (D.instrs (([]++l).set ((([]++l).length:Int)-1).toNat (d7.mk 8 0 0 0 0))),.box (pL 6)])) [(4,.ptr 5 0),(5,.ptr 9 0)] ((wO ((([]++l).length:Int)-1))::(iX ((([]++l).length:Int)-1) (((([]++l).length:Int)-1).toNat) (([]++l).length) [])) ⟨oW al,(iK al co8)⟩ fun G=>n4 (b6 (wp_seq (j9 G f8 (rg 9) (.box [.ref 1,iA (j+1)]::dY b::dI vs::dI ars::dN l::.box (pL 6)::(ac0 vs ars [.row 76 (D.instrs (([]++l).set ((([]++l).length:Int)-1).toNat (d7.mk 8 0 0 0 0)))])) [(4,.ptr 5 0)] fun G=>b6 (wp_ret ?_))));exact O7 G [0,1,2,3,4,6,7,8] (by show _=mR [0,1,2,3,4,6,7,8] (Y7 b j vs ars l);unfold Y7;rw[ck3 al al]<;>rfl)
     refine Z5 G f8 (rg 10) (.box [.ref 1,iA (j+1)]::dY b::dI vs::dI ars::dN l::at5::(ac0 vs ars [.row 76 (D.instrs (([]++l).set ((([]++l).length:Int)-1).toNat (d7.mk 12 0 0 0 0))),.box (pL 6)])) [(4,.ptr 5 0),(5,.ptr 9 0)] ((wO ((([]++l).length:Int)-1))::(iX ((([]++l).length:Int)-1) (((([]++l).length:Int)-1).toNat) (([]++l).length) [])) ⟨oW al,(iK al co8)⟩ fun G=>n4 (b6 (wp_seq (j9 G f8 (rg 9) (.box [.ref 1,iA (j+1)]::dY b::dI vs::dI ars::dN l::.box (pL 6)::(ac0 vs ars [.row 76 (D.instrs (([]++l).set ((([]++l).length:Int)-1).toNat (d7.mk 12 0 0 0 0)))])) [(4,.ptr 5 0)] fun G=>b6 (wp_ret ?_))));exact O7 G [0,1,2,3,4,6,7,8] (by show _=mR [0,1,2,3,4,6,7,8] (Y7 b j vs ars l);unfold Y7;rw[ck4 al al]<;>rfl)
    refine R3 G (H5 (v7 4 [0,1] (C9 b (j+1) ((([]++l).length:Int)) al al) (v7 7 [0,1,58] (j7.lend (S5 b (j+1+1) ([-1]++([14]++([0]++([400]++[])))) (by simp[h0,h1,h2]) al al) [.no,.no,.row 3]) H4)) fz []) [0,1,0,0,12,0,0,124,255,511,1023] (rg 10) (.box [.ref 1,iA (j+1+1+1)]::dY b::dI vs::dI ars::dN l::at5::(ac0 vs ars [bT7 b j l,.box (pL 6)])) [(4,.ptr 5 0),(5,.ptr 9 0)] (iX (pk b (j+1) (([]++l).length:Int)) ((pk b (j+1) (([]++l).length:Int)).toNat) (([]++l).length) []) (iK al co8) fun G=>n4 (b6 (wp_seq (j9 G f8 (rg 9) (.box [.ref 1,iA (j+1+1+1)]::dY b::dI vs::dI ars::dN l::.box (pL 6)::(ac0 vs ars [bT7 b j l])) [(4,.ptr 5 0)] fun G=>b6 (wp_ret ?_))));exact O7 G [0,1,2,3,4,6,7,8] (by show _=mR [0,1,2,3,4,6,7,8] (Y7 b j vs ars l);unfold Y7;rw[ck5 al al]<;>rfl)
   refine R3 G (v8 4 [0,1,34] (j7.lend (S5 b (j+1) ([0]++([14]++([1]++([12]++[])))) (by simp[h0,h1]) al al) [.no,.no,.row 3])) [0,1,0,0,12,31,63,127] (rg 10) (.box [.ref 1,iA (j+1+1)]::dY b::dI vs::dI ars::dN l::at5::(ac0 vs ars [bT5 b j l,.box (pL 6)])) [(4,.ptr 5 0),(5,.ptr 9 0)] (iX 0 0 (([]++l).length) []) (iK al co8) fun G=>n4 (b6 (wp_seq (j9 G f8 (rg 9) (.box [.ref 1,iA (j+1+1)]::dY b::dI vs::dI ars::dN l::.box (pL 6)::(ac0 vs ars [bT5 b j l])) [(4,.ptr 5 0)] fun G=>b6 (wp_ret ?_))));exact O7 G [0,1,2,3,4,6,7,8] (by show _=mR [0,1,2,3,4,6,7,8] (Y7 b j vs ars l);unfold Y7;rw[ck6 al al]<;>rfl)
  refine wp_seq (j9 G f8 (rg 10) (.box [.ref 1,iA j]::dY b::dI vs::dI ars::dN l::.box (pL 6)::(ac0 vs ars [.row 76 (D.instrs ([]++l)),.box (pL 6)])) [(0,.ptr 0 0),(4,.ptr 5 0),(5,.ptr 9 0),(6,iA (([]++l).length:Int))] fun G=>b6 (wp_ret (l0 ?_)));exact O7 G [0,1,2,3,4,6,7,8] (by show _=mR [0,1,2,3,4,6,7,8] (Y7 b j vs ars l);unfold Y7;rw[cj9 al]<;>rfl)
abbrev tyC(b:List UInt8)(j:Int):j7:=⟨38,[.ptr 0 0],[.box [.ref 1,iA j],dY b],[.box [.ref 1,iA ((Q6 b j).2+1)],dY b]++oP (V5 b j),oA 2⟩
section
variable{b:List UInt8}{j:Int}
theorem cg1(h:pk b (Q6 b j).2 4=0):V5 b j=N7 b j:=if_pos h
theorem cg0(h:¬pk b (Q6 b j).2 4=0)(h2:okI (N7 b j)=true):V5 b j=ai5 (N7 b j):=by rw[V5,if_neg h,if_pos h2]
theorem cf9(h:¬pk b (Q6 b j).2 4=0)(h2:okI (N7 b j)=false):V5 b j=N7 b j:=by rw[V5,if_neg h,if_neg (by rw[h2];decide)]
end
abbrev aR0(b:List UInt8)(j:Int):List It:=[.box [.ref 1,iA ((Q6 b j).snd+1)],dY b,.row 3 (D.ints (V5 b j).vars),.row 3 (D.ints (V5 b j).arrays),.tree (D.stmts (V5 b j).body)]
abbrev bl3:It:=.box [.v (.slice none 0 0),.v (.slice none 0 0),.v (.slice none 0 0)]
abbrev aH3:It:=.box [.ref 3,.ref 4,.tref 5]
abbrev aQ8(b:List UInt8)(j:Int)(r0:List It):List It:=.row 3 (D.ints (N7 b j).vars)::.row 3 (D.ints (N7 b j).arrays)::.tree (D.stmts (N7 b j).body)::r0
theorem aU5(b:List UInt8)(j:Int)(r0:0<=j)(r1:j<=10000000):j7.ok Tryz.prog (tyC b j):=by
  refine H9 20 Tryz.func38 [.box [.ref 1,iA j],dY b] [(0,.ptr 0 0)] fun G=>?_;have hk2:=bp4 b r0 r1;have hbd:=br7 b r0 r1;have hsz:=bD0 b r0 r1;refine wp_seq (j9 G f8 [0,1,2] [.box [.ref 1,iA j],dY b,bl3] [(0,.ptr 0 0),(2,.ptr 2 0)] fun G=>b6 (wp_seq (j9 G (v8 1 [0,1] (aC6 b j ai ai)) [0,1,2,11,12,13,19] (.box [.ref 1,iA (Q6 b j).snd]::dY b::bl3::(aQ8 b j [aH3])) [(0,.ptr 0 0),(2,.ptr 2 0),(3,.ptr 6 0)] fun G=>b6 (wp_seq (wp_seq (j9 G (v8 1 [0,1] (C9 b ((Q6 b j).snd) 4 al al)) (rg 7) (.box [.ref 1,iA ((Q6 b j).snd+1)]::dY b::bl3::(aQ8 b j [aH3])) [(2,.ptr 2 0),(3,.ptr 6 0),(10,bA (pk b (Q6 b j).snd 4==0))] fun G=>b6 (Q7 G (fun h0 q0=>?_) fun h0 q0=>?_)))))))
  ·
   refine wp_skip (b6 (wp_seq (j9 G (v8 1 [3,4,5] (j7.lend (aQ3 (N7 b j) al) [.row 3,.row 3,.tree])) [0,1,2,3,4,5,6,15,16,17,47] (.box [.ref 1,iA ((Q6 b j).snd+1)]::dY b::bl3::(aQ8 b j [aH3,.row 3 (D.ints (ai5 (N7 b j)).vars),.row 3 (D.ints (ai5 (N7 b j)).arrays),.tree (D.stmts (ai5 (N7 b j)).body),.box [.ref 7,.ref 8,.tref 9]])) [(2,.ptr 2 0),(3,.ptr 6 0),(4,.ptr 10 0),(5,bA (okI (N7 b j)))] fun G=>b6 (wp_seq (wp_seq (l6 G f8 [(17,bA (okI (N7 b j)))] fun G=>b6 (rcB G (fun h1=>?_) fun h1=>?_)))))))
   · refine wp_skip (b6 (wp_seq (j9 G f8 (rg 6) (.box [.ref 1,iA ((Q6 b j).snd+1)]::dY b::aH3::(aQ8 b j [])) [(2,.ptr 2 0)] fun G=>b6 (wp_ret ?_))));exact O7 G [0,1,3,4,5] (by show _=mR [0,1,3,4,5] (aR0 b j);unfold aR0;rw[cf9 al ab]<;>rfl)
   refine wp_seq (j9 G f8 (rg 10) (.box [.ref 1,iA ((Q6 b j).snd+1)]::dY b::.box [.ref 7,.ref 8,.tref 9]::(aQ8 b j [aH3,.row 3 (D.ints (ai5 (N7 b j)).vars),.row 3 (D.ints (ai5 (N7 b j)).arrays),.tree (D.stmts (ai5 (N7 b j)).body)])) [(2,.ptr 2 0),(3,.ptr 6 0)] fun G=>b6 (wp_ret (l0 ?_)));exact O7 G [0,1,7,8,9] (by show _=mR [0,1,7,8,9] (aR0 b j);unfold aR0;rw[cg0 al ab]<;>rfl)
  refine wp_seq (j9 G f8 (rg 7) (.box [.ref 1,iA ((Q6 b j).snd+1)]::dY b::aH3::(aQ8 b j [aH3])) [(2,.ptr 2 0),(3,.ptr 6 0)] fun G=>b6 (wp_ret (l0 ?_)));exact O7 G [0,1,3,4,5] (by show _=mR [0,1,3,4,5] (aR0 b j);unfold aR0;rw[cg1 al]<;>rfl)
section
variable(vs ars:List Int)(bd:List c5)
end
abbrev fpC(b:List UInt8)(j:Int):j7:=⟨70,[.ptr 0 0],[.box [.ref 1,iA j],dY b],[.box [.ref 1,iA (I8 b 3 j).2],dY b]++oP (I8 b 3 j).1,oA 2⟩
theorem bH4{b:List UInt8}{j:Int}{i:Nat}(hi:i<3)(h:I8 b 3 j=I8 b (3-i) (P7 b j i))(hn:¬((X4 ⟨(V5 b (P7 b j i)).vars,(V5 b (P7 b j i)).arrays,(V5 b (P7 b j i)).body⟩ false).1=0/\0<(V5 b (P7 b j i)).body.length)):i+1<=3/\I8 b 3 j=I8 b (3-(i+1)) (P7 b j (i+1)):=⟨hi,cd0 hi h hn⟩
theorem bR0{b:List UInt8}{j:Int}{i:Nat}(hi:i<3)(h:I8 b 3 j=I8 b (3-i) (P7 b j i))(hn:(X4 ⟨(V5 b (P7 b j i)).vars,(V5 b (P7 b j i)).arrays,(V5 b (P7 b j i)).body⟩ false).1=0/\0<(V5 b (P7 b j i)).body.length):I8 b 3 j=(V5 b (P7 b j i),(Q6 b (P7 b j i)).2+1):=b21 hi h hn
theorem b22{b:List UInt8}{j:Int}{i:Nat}(hi:i<3)(h:I8 b 3 j=I8 b (3-i) (P7 b j i))(hn:¬((X4 (V5 b (P7 b j i)) false).1=0/\0<(V5 b (P7 b j i)).body.length)):i+1<=3/\I8 b 3 j=I8 b (3-(i+1)) (P7 b j (i+1)):=bH4 hi h hn
theorem tyb(b:List UInt8){j:Int}(h:0<=j)(h2:j<=10000000):j5 (V5 b j).body<=1048576/\(V5 b j).body.length<=1048576:=by
 have h1:=bc7 b h h2
 have h3:=N0 (V5 b j).body
 unfold i7.size at h1;omega
abbrev bl2(b:List UInt8)(j:Int):List It:=[.box [.ref 1,iA (I8 b 3 j).snd],dY b,.row 3 (D.ints (I8 b 3 j).fst.vars),.row 3 (D.ints (I8 b 3 j).fst.arrays),.tree (D.stmts (I8 b 3 j).fst.body)]
abbrev a25:It:=.box [.v (.slice none 0 0),.v (.slice none 0 0),.v (.slice none 0 0)]
theorem aC5(b:List UInt8)(j:Int)(r0:0<=j)(r1:j<=9000000):j7.ok Tryz.prog (fpC b j):=by
  refine H9 29 Tryz.func70 [.box [.ref 1,iA j],dY b] [(0,.ptr 0 0)] fun G=>?_;refine wp_seq (j9 G f8 [0,1,2] [.box [.ref 1,iA j],dY b,a25] [(0,.ptr 0 0),(2,.ptr 2 0)] fun G=>b6 (wp_seq (wp_seq (E8 G f8 [(0,.ptr 0 0),(2,.ptr 2 0),(3,iA 0)] fun G=>b6 (wp_block ?_)))));refine t9 (κ:=Nat) (fun i=>i<=3/\I8 b 3 j=I8 b (3-i) (P7 b j i)) (fun i=>3-i) (fun i=>[.box [.ref 1,iA (P7 b j i)],dY b,a25]) (fun i=>[(0,.ptr 0 0),(2,.ptr 2 0),(3,iA i)]) 0 (⟨cp5 _,rfl⟩) (v9.at G _ _) ?_;clear G;intro i ρ a w hp G;have hp:=hp;have hfj:=cc7 b r0 r1 i hp.1;have htb:=tyb b (j:=P7 b j i) al al;refine wp_seq (wp_seq (l6 G f8 [(8,bA (decide ((i:Int)<3)))] fun G=>b6 (rcD G (fun h0 q0=>?_) fun h0 q0=>?_)))
  · refine wp_exit (t7 (t7 (t5 (b6 (wp_seq (j9 G (v8 1 [0,1] (aU5 b (P7 b j i) al al)) [0,1,2,11,12,13] [.box [.ref 1,iA ((Q6 b (P7 b j i)).snd+1)],dY b,.box [.ref 3,.ref 4,.tref 5],.row 3 (D.ints (V5 b (P7 b j i)).vars),.row 3 (D.ints (V5 b (P7 b j i)).arrays),.tree (D.stmts (V5 b (P7 b j i)).body)] [(2,.ptr 2 0)] fun G=>b6 (wp_ret ?_)))))));exact O7 G [0,1,3,4,5] (by show _=mR [0,1,3,4,5] (bl2 b j);unfold bl2;rw[bQ9 (b:=b) (j:=j) (i:=i) al al hp.2]<;>rfl)
  refine wp_skip (b6 (wp_seq (wp_block (wp_seq (j9 G (v8 1 [0,1] (aU5 b (P7 b j i) al al)) [0,1,2,11,12,13,19] [.box [.ref 1,iA ((Q6 b (P7 b j i)).snd+1)],dY b,a25,.row 3 (D.ints (V5 b (P7 b j i)).vars),.row 3 (D.ints (V5 b (P7 b j i)).arrays),.tree (D.stmts (V5 b (P7 b j i)).body),.box [.ref 3,.ref 4,.tref 5]] [(0,.ptr 0 0),(2,.ptr 2 0),(3,iA i),(4,.ptr 6 0)] fun G=>b6 (wp_seq (l6 G (v8 1 [3,4,5] (j7.lend (Z9 ((V5 b (P7 b j i)).vars) ((V5 b (P7 b j i)).arrays) ((V5 b (P7 b j i)).body) al) [.row 3,.row 3,.tree])) [(5,iA (X4 (i7.mk (V5 b (P7 b j i)).vars (V5 b (P7 b j i)).arrays (V5 b (P7 b j i)).body) false).fst)] fun G=>b6 (wp_seq ?_))))))));cases h1:((X4 (i7.mk (V5 b (P7 b j i)).vars (V5 b (P7 b j i)).arrays (V5 b (P7 b j i)).body) false).fst==0)
  · have q1:=ne_of_beq_false h1;refine l6 G (K0 (fc h1 fz) (us [(3,6,0),(1007,1007,0)])) [(25,bA false)] fun G=>b6 (rF G false aj (wp_skip (n4 (b6 (Z5 G f8 [0,1,2] [.box [.ref 1,iA ((Q6 b (P7 b j i)).snd+1)],dY b,a25] [(0,.ptr 0 0),(2,.ptr 2 0),(3,iA ((i:Int)+1))] [wO ((i:Int)+1)] (o1 al) fun G=>b6 ?_)))));exact R2 G (i+1) (bH4 al hp.2 al) al [0,1,2]
  have q1:=eq_of_beq h1;refine l6 G (K0 (fc h1 fz) (us [(3,6,0),(1007,1007,0)])) [(25,bA (decide (((V5 b (P7 b j i)).body.length:Int)>0)))] fun G=>b6 (rcD G (fun h2 q2=>?_) fun h2 q2=>?_)
  · refine wp_skip (n4 (b6 (Z5 G f8 [0,1,2] [.box [.ref 1,iA ((Q6 b (P7 b j i)).snd+1)],dY b,a25] [(0,.ptr 0 0),(2,.ptr 2 0),(3,iA ((i:Int)+1))] [wO ((i:Int)+1)] (o1 al) fun G=>b6 ?_)));exact R2 G (i+1) (b22 al hp.2 al) al [0,1,2]
  refine wp_seq (j9 G f8 (rg 6) [.box [.ref 1,iA ((Q6 b (P7 b j i)).snd+1)],dY b,.box [.ref 3,.ref 4,.tref 5],.row 3 (D.ints (V5 b (P7 b j i)).vars),.row 3 (D.ints (V5 b (P7 b j i)).arrays),.tree (D.stmts (V5 b (P7 b j i)).body)] [(0,.ptr 0 0),(2,.ptr 2 0),(3,iA i)] fun G=>b6 (wp_ret (A3 (l0 (l0 (A3 (l0 ?_)))))));exact O7 G [0,1,3,4,5] (by show _=mR [0,1,3,4,5] (bl2 b j);unfold bl2;rw[bR0 (b:=b) (j:=j) (i:=i) al hp.2 al]<;>rfl)
theorem j7.dupPost{P:Program}{f:FuncId}{args:List AV}{pre S:List It}{d:D}{res res':AV}{i:Nat}(hc:j7.ok P ⟨f,args,pre,S,res⟩)(hi:S[i]? =some (.dat d))(hl:pre.length<=S.length)
  (hS:S.all (fun x=>X1 S.length x.ids)=true) (hr:∀ρ:Nat->Value,ρ S.length=ρ i->res'.val ρ=res.val ρ) (hg:X1 S.length res.ids=true):j7.ok P ⟨f,args,pre,S++[.dat d],res'⟩:=by
 intro ι φ ψ w0 w F ρ M
 refine(hc ι φ ψ w0 w F ρ M).mono ?_
 rintro x w' ⟨ρ1,h1,rfl,M1⟩
 have hi':p6 S i=.dat d:=by simp[p6,hi]
 have hlt:i<S.length:=(co0.1 hi).1
 have hinv:Inv (p6 S) ρ1 [S.length]:=fun ρ' h j=>by
  by_cases hj:j<S.length
  ·refine It.res_congr _ (fun k hk=>h k ?_) (.inr (.inr (h j ah)))
   have h1:=D8 (cn8.1 hS (S[j]) (co6 hj)) k (by simpa[p6,cn2,cn0 hj]using hk)
   simp;omega
  rw[show p6 S j=.none by simp only[p6,cn2,cp0 (Nat.le_of_not_lt hj)];rfl];rfl
 obtain⟨ρ2,h3,M2,h4⟩:=M1.newDat (id:=S.length) (by simp[p6]) hinv (M1.datAt hi')
 have e:n5 (p6 S) [(S.length,.dat d)]=p6 (S++[.dat d]):=by
  funext j
  simp only[n5,p6,cn2]
  by_cases hj:j=S.length
  ·subst hj;simp
  rw[if_neg hj]
  by_cases hj2:j<S.length
  ·rw[co2 hj2]
  rw[cp0 al,cp0 ah]
 rw[e]at M2
 have hρ:ρ2 i=ρ1 i:=h3 i ah
 refine⟨ρ2,fun k hk=>by
  have hk:k<pre.length:=hk
  rw[h3 k ah];exact h1 k hk,?_,M2⟩
 rw[hr ρ2 (by rw[<-h4,hρ])]
 exact congrArg _ (AV.val_congr res fun k hk=>by
  have:=D8 hg k hk
  exact h3 k ah).symm
abbrev nlA:AV:=.v (.slice none 0 0)
abbrev qT(l:List c5):It:=.row 98 (.stmts l)
abbrev qI(l:List Int):It:=.row 3 (.ints l)
theorem be2(vs ars:List Int)(d:Nat)(ih:∀(e:c6),i6 vs.length ars.length d e=true->j7.ok Tryz.prog (T7 139 [.agg [.ref 0,.ref 1,nlA],eA e 2] ([dI vs,dI ars]++eS e) (iA (i9 vs ars d e))))
    (e:c6) (he:i6 vs.length ars.length (d+1) e=true):j7.ok Tryz.prog (T7 139 [.agg [.ref 0,.ref 1,nlA],eA e 2] ([dI vs,dI ars]++eS e) (iA (i9 vs ars (d+1) e))):=by
  refine H9 42 Tryz.func139 [dI vs,dI ars,dE e.kids] [(0,.agg [.ref 0,.ref 1,.v (.slice none 0 0)]),(1,eA e 2)] fun G=>?_;refine wp_seq (j9 G f8 [0,1,2,3,11] [dI vs,dI ars,dE e.kids,.box [.ref 0,.ref 1,.v (.slice none 0 0)],.box (eL e 2)] [(2,.ptr 3 0),(3,.ptr 4 0),(4,iA 0)] fun G=>b6 (wp_seq (l6 G f8 [(5,iA 0)] fun G=>b6 (wp_seq (wp_seq (l6 G f8 [(8,iA e.kind)] fun G=>b6 (wp_block (wp_seq (l6 G f8 [(9,bA (e.kind==2))] fun G=>b6 (Q7 G (fun h0 q0=>?_) fun h0 q0=>?_))))))))))
  ·
   refine wp_seq (l6 G f8 [(17,bA (e.kind==3))] fun G=>b6 (Q7 G (fun h1 q1=>?_) fun h1 q1=>?_))
   ·
    refine wp_skip (n4 (b6 (wp_seq (wp_seq (E8 G f8 [(2,.ptr 3 0),(3,.ptr 4 0),(4,iA 0),(5,iA 0),(6,iA 0)] fun G=>b6 (wp_block ?_))))));refine t9 (κ:=Nat) (fun k=>k<=e.kids.length) (fun k=>e.kids.length-k) (fun k=>[dI vs,dI ars,dE e.kids,.box [.ref 0,.ref 1,.v (.slice none 0 0)],.box (eL e 2)]) (fun k=>[(2,.ptr 3 0),(3,.ptr 4 0),(4,iA 0),(5,iA (E6 vs ars d 0 e.kids k)),(6,iA k)]) 0 al (v9.at G _ _) ?_;clear G;intro k ρ a w hp G;have hlen:e.kids.length<=9223372036854775807:=G.len 2 (d:=.exprs e.kids) aj;refine wp_seq (wp_seq (E8 G f8 [(2,.ptr 3 0),(3,.ptr 4 0),(4,iA 0),(5,iA (E6 vs ars d 0 e.kids k)),(6,iA k),(29,bA (decide ((k:Int)<e.kids.length)))] fun G=>b6 (rcD G (fun h2 q2=>?_) fun h2 q2=>?_)))
    · refine wp_exit (t7 (t7 (t5 (b6 (wp_seq (j9 G f8 [0,1,2] [dI vs,dI ars,dE e.kids] [(4,iA (E6 vs ars d 0 e.kids k))] fun G=>b6 (wp_ret ?_)))))));exact rxI (E6 vs ars d 0 e.kids k) G [0,1,2] (ae6 al (by simp[aD4,h0,q0,h1,q1,h2,q2];done))
    refine wp_skip (b6 (wp_seq (wp_block (ai3 G (v8 7 [0,1,53] (ih (e.kids.getD k cm7) (aa7 he al))) [0,0,0,4,0,28,60,126,255,511] [(5,iA (l5 (E6 vs ars d 0 e.kids k) (i9 vs ars d (e.kids.getD k cm7))))] (iX k k e.kids.length []) (iK al co8) fun G=>n4 (b6 (M8 G f8 [(6,iA ((k:Int)+1))] [wO ((k:Int)+1)] (o1 al) fun G=>b6 ?_))))));exact R2 G (k+1) al al (rg 5) (ht:=by have e1:(E6 vs ars d 0 e.kids (k+1):Int)=(l5 (E6 vs ars d 0 e.kids k) (i9 vs ars d (e.kids.getD k cm7))):=(aa3 al);(first|rw[e1]|simp only[e1])<;>rfl)
   refine M8 G f8 [(5,iA (ars.getD e.value.toNat 0))] [(0:Int)<=e.value,e.value<(ars.length:Int),e.value.toNat<ars.length] ⟨((ay3 he ai).1),((ay3 he ai).2.1),((ay3 he ai).2.2),co8⟩ fun G=>n4 (b6 (wp_seq (wp_seq (E8 G f8 [(2,.ptr 3 0),(3,.ptr 4 0),(4,iA 0),(5,iA (ars.getD e.value.toNat 0)),(6,iA 0)] fun G=>b6 (wp_block ?_)))));refine t9 (κ:=Nat) (fun k=>k<=e.kids.length) (fun k=>e.kids.length-k) (fun k=>[dI vs,dI ars,dE e.kids,.box [.ref 0,.ref 1,.v (.slice none 0 0)],.box (eL e 2)]) (fun k=>[(2,.ptr 3 0),(3,.ptr 4 0),(4,iA 0),(5,iA (E6 vs ars d (ars.getD e.value.toNat 0) e.kids k)),(6,iA k)]) 0 al (v9.at G _ _) ?_;clear G;intro k ρ a w hp G;have hlen:e.kids.length<=9223372036854775807:=G.len 2 (d:=.exprs e.kids) aj;refine wp_seq (wp_seq (E8 G f8 [(2,.ptr 3 0),(3,.ptr 4 0),(4,iA 0),(5,iA (E6 vs ars d (ars.getD e.value.toNat 0) e.kids k)),(6,iA k),(29,bA (decide ((k:Int)<e.kids.length)))] fun G=>b6 (rcD G (fun h3 q3=>?_) fun h3 q3=>?_)))
   · refine wp_exit (t7 (t7 (t5 (b6 (wp_seq (j9 G f8 [0,1,2] [dI vs,dI ars,dE e.kids] [(4,iA (E6 vs ars d (ars.getD e.value.toNat 0) e.kids k))] fun G=>b6 (wp_ret ?_)))))));exact rxI (E6 vs ars d (ars.getD e.value.toNat 0) e.kids k) G [0,1,2] (ae6 al (by simp[aD4,h0,q0,h1,q1,h3,q3];done))
   refine wp_skip (b6 (wp_seq (wp_block (ai3 G (v8 7 [0,1,53] (ih (e.kids.getD k cm7) (aa7 he al))) [0,0,0,4,0,28,60,126,255,511] [(5,iA (l5 (E6 vs ars d (ars.getD e.value.toNat 0) e.kids k) (i9 vs ars d (e.kids.getD k cm7))))] (iX k k e.kids.length []) (iK al co8) fun G=>n4 (b6 (M8 G f8 [(6,iA ((k:Int)+1))] [wO ((k:Int)+1)] (o1 al) fun G=>b6 ?_))))));exact R2 G (k+1) al al (rg 5) (ht:=by have e1:(E6 vs ars d (ars.getD e.value.toNat 0) e.kids (k+1):Int)=(l5 (E6 vs ars d (ars.getD e.value.toNat 0) e.kids k) (i9 vs ars d (e.kids.getD k cm7))):=(aa3 al);(first|rw[e1]|simp only[e1])<;>rfl)
  refine M8 G f8 [(5,iA (vs.getD e.value.toNat 0))] [(0:Int)<=e.value,e.value<(vs.length:Int),e.value.toNat<vs.length] ⟨((ay2 he ai).1),((ay2 he ai).2.1),((ay2 he ai).2.2),co8⟩ fun G=>n4 (b6 (wp_seq (wp_seq (E8 G f8 [(2,.ptr 3 0),(3,.ptr 4 0),(4,iA 0),(5,iA (vs.getD e.value.toNat 0)),(6,iA 0)] fun G=>b6 (wp_block ?_)))));refine t9 (κ:=Nat) (fun k=>k<=e.kids.length) (fun k=>e.kids.length-k) (fun k=>[dI vs,dI ars,dE e.kids,.box [.ref 0,.ref 1,.v (.slice none 0 0)],.box (eL e 2)]) (fun k=>[(2,.ptr 3 0),(3,.ptr 4 0),(4,iA 0),(5,iA (E6 vs ars d (vs.getD e.value.toNat 0) e.kids k)),(6,iA k)]) 0 al (v9.at G _ _) ?_;clear G;intro k ρ a w hp G;have hlen:e.kids.length<=9223372036854775807:=G.len 2 (d:=.exprs e.kids) aj;refine wp_seq (wp_seq (E8 G f8 [(2,.ptr 3 0),(3,.ptr 4 0),(4,iA 0),(5,iA (E6 vs ars d (vs.getD e.value.toNat 0) e.kids k)),(6,iA k),(29,bA (decide ((k:Int)<e.kids.length)))] fun G=>b6 (rcD G (fun h4 q4=>?_) fun h4 q4=>?_)))
  · refine wp_exit (t7 (t7 (t5 (b6 (wp_seq (j9 G f8 [0,1,2] [dI vs,dI ars,dE e.kids] [(4,iA (E6 vs ars d (vs.getD e.value.toNat 0) e.kids k))] fun G=>b6 (wp_ret ?_)))))));exact rxI (E6 vs ars d (vs.getD e.value.toNat 0) e.kids k) G [0,1,2] (ae6 al (by simp[aD4,h0,q0,h4,q4];done))
  refine wp_skip (b6 (wp_seq (wp_block (ai3 G (v8 7 [0,1,53] (ih (e.kids.getD k cm7) (aa7 he al))) [0,0,0,4,0,28,60,126,255,511] [(5,iA (l5 (E6 vs ars d (vs.getD e.value.toNat 0) e.kids k) (i9 vs ars d (e.kids.getD k cm7))))] (iX k k e.kids.length []) (iK al co8) fun G=>n4 (b6 (M8 G f8 [(6,iA ((k:Int)+1))] [wO ((k:Int)+1)] (o1 al) fun G=>b6 ?_))))));exact R2 G (k+1) al al (rg 5) (ht:=by have e1:(E6 vs ars d (vs.getD e.value.toNat 0) e.kids (k+1):Int)=(l5 (E6 vs ars d (vs.getD e.value.toNat 0) e.kids k) (i9 vs ars d (e.kids.getD k cm7))):=(aa3 al);(first|rw[e1]|simp only[e1])<;>rfl)
theorem aU1(vs ars:List Int):∀(d:Nat) (e:c6),i6 vs.length ars.length d e=true->j7.ok Tryz.prog (T7 139 [.agg [.ref 0,.ref 1,nlA],eA e 2] ([dI vs,dI ars]++eS e) (iA (i9 vs ars d e)))
 |0,_,h=>by simp[i6]at h
 |d+1,e,h=>be2 vs ars d (aU1 vs ars d) e h
theorem ab7(vs ars:List Int)(ky vy:Int)(ks:List c6)(h:i6 vs.length ars.length 5 ⟨ky,vy,ks⟩=true):j7.ok Tryz.prog (T7 139 [.agg [.ref 0,.ref 1,nlA],.agg [iA ky,iA vy,.ref 2]] [dI vs,dI ars,dE ks] (iA (i9 vs ars 5 ⟨ky,vy,ks⟩))):=aU1 vs ars 5 ⟨ky,vy,ks⟩ h
theorem L3(n:Int):j7.ok Tryz.prog ⟨178,[iA n],[],[dE []],.agg [iA 1,iA n,.ref 0]⟩:=by
 refine H9 5 Tryz.func178 [] [(0,iA n)] fun G=>?_;refine wp_seq (j9 G f8 [0] [.box [iA 0,iA 0,.v (.slice none 0 0)]] [(0,iA n),(2,.ptr 0 0)] fun G=>b6 (wp_seq (j9 G f8 [0] [.box [iA 1,iA n,.v (.slice none 0 0)]] [(2,.ptr 0 0)] fun G=>b6 (wp_ret ?_))));obtain⟨ρ,G⟩:=G.nil 1 0 (.exprs []) 9 [.box [iA 1,iA n,.ref 1]] [(2,.ptr 0 0)];obtain⟨ρ,G⟩:=G.frz [.no,.row 0] [.box [iA 1,iA n,.ref 1],dE []] [(2,.ptr 0 0)];exact O7 G [1]
theorem ao6(n:Int):j7.ok Tryz.prog ⟨138,[iA n],[],[dE []],.agg [iA 2,iA n,.ref 0]⟩:=by
 refine H9 5 Tryz.func138 [] [(0,iA n)] fun G=>?_;refine wp_seq (j9 G f8 [0] [.box [iA 0,iA 0,.v (.slice none 0 0)]] [(0,iA n),(2,.ptr 0 0)] fun G=>b6 (wp_seq (j9 G f8 [0] [.box [iA 2,iA n,.v (.slice none 0 0)]] [(2,.ptr 0 0)] fun G=>b6 (wp_ret ?_))));obtain⟨ρ,G⟩:=G.nil 1 0 (.exprs []) 9 [.box [iA 2,iA n,.ref 1]] [(2,.ptr 0 0)];obtain⟨ρ,G⟩:=G.frz [.no,.row 0] [.box [iA 2,iA n,.ref 1],dE []] [(2,.ptr 0 0)];exact O7 G [1]
theorem af0(k:Int)(ks:List c6):j7.ok Tryz.prog ⟨179,[iA k,.ref 0],[.row 96 (.exprs ks)],[dE ks],.agg [iA k,iA 0,.ref 0]⟩:=by
 refine H9 8 Tryz.func179 [.row 96 (D.exprs ks)] [(0,iA k),(1,.ref 0)] fun G=>?_;refine wp_seq (j9 G f8 [0,1] [.row 96 (D.exprs ks),.box [iA 0,iA 0,.v (.slice none 0 0)]] [(0,iA k),(1,.ref 0),(4,.ptr 1 0)] fun G=>b6 (wp_seq (j9 G f8 [0,1] [.row 96 (D.exprs ks),.box [iA k,iA 0,.ref 0]] [(4,.ptr 1 0)] fun G=>b6 (wp_ret ?_))));obtain⟨ρ,G⟩:=G.frz [.row 96] [dE ks,.box [iA k,iA 0,.ref 0]] [(4,.ptr 1 0)];exact O7 G [0]
theorem aw3(n ky vy:Int)(ks:List c6):j7.ok Tryz.prog ⟨142,[iA n,.agg [iA ky,iA vy,.ref 0]],[dE ks],[dE ks,dE [⟨ky,vy,ks⟩]],.agg [iA 3,iA n,.ref 1]⟩:=by
 refine H9 9 Tryz.func142 [dE ks] [(0,iA n),(1,.agg [iA ky,iA vy,.ref 0])] fun G=>?_;refine wp_seq (j9 G f8 [0,1,9] [dE ks,.box [iA ky,iA vy,.ref 0],.box [iA 0,iA 0,.v (.slice none 0 0)]] [(0,iA n),(3,.ptr 1 0),(4,.ptr 2 0)] fun G=>b6 (wp_seq (j9 G f8 [0,2,19] [dE ks,.box [iA 3,iA n,.ref 2],.row 96 (D.exprs ([c6.mk ky vy ks]++[]))] [(4,.ptr 1 0)] fun G=>b6 (wp_ret ?_))));obtain⟨ρ,G⟩:=G.frz [.no,.no,.row 96] [dE ks,.box [iA 3,iA n,.ref 2],dE ([c6.mk ky vy ks]++[])] [(4,.ptr 1 0)];exact O7 G [0,2]
theorem br5(ky vy:Int)(ks:List c6)(k:Int):j7.ok Tryz.prog ⟨180,[.agg [iA ky,iA vy,.ref 0],iA k],[dE ks],[dE ks,dE (ai7 ⟨ky,vy,ks⟩ k).kids],.agg [iA 9,iA 0,.ref 1]⟩:=by
 refine H9 13 Tryz.func180 [dE ks] [(0,.agg [iA ky,iA vy,.ref 0]),(1,iA k)] fun G=>?_;refine wp_seq (j9 G f8 [0,1,9] [dE ks,.box [iA ky,iA vy,.ref 0],.box [iA 0,iA 0,.v (.slice none 0 0)]] [(1,iA k),(2,.ptr 1 0),(4,.ptr 2 0)] fun G=>b6 (wp_seq (af6 G (H5 (v7 1 [] (L3 3) (v7 3 [19] (af0 7 ([c6.mk ky vy ks]++([c6.mk 1 3 []]++[]))) (v7 5 [] (L3 k) (v7 7 [51] (af0 9 ([c6.mk 7 0 ([c6.mk ky vy ks]++([c6.mk 1 3 []]++[]))]++([c6.mk 1 k []]++[]))) H4)))) fz []) [0,0,3,7,0,31,63,127,255] [0,2,51] [dE ks,.box [iA 9,iA 0,.ref 2],dE ([c6.mk 7 0 ([c6.mk ky vy ks]++([c6.mk 1 3 []]++[]))]++([c6.mk 1 k []]++[]))] [(4,.ptr 1 0)] fun G=>b6 (wp_ret ?_))));exact O7 G [0,2]
theorem ca6{m:Int}{e f:c6}(h:m<0):D5 m e f=e:=if_pos h
theorem ca5{m:Int}{e f:c6}(h:¬m<0):D5 m e f=seE (vrE m) e f:=if_neg h
theorem bs9(m k1 v1 k2 v2:Int)(s1 s2:List c6)(hm:m<0):j7.ok Tryz.prog ⟨137,[iA m,.agg [iA k1,iA v1,.ref 0],.agg [iA k2,iA v2,.ref 1]],[dE s1,dE s2],[dE s1,dE s2],.agg [iA k1,iA v1,.ref 0]⟩:=by
 refine H9 16 Tryz.func137 [dE s1,dE s2] [(0,iA m),(1,.agg [iA k1,iA v1,.ref 0]),(2,.agg [iA k2,iA v2,.ref 1])] fun G=>?_;refine wp_seq (j9 G f8 [0,1,2,10,18] [dE s1,dE s2,.box [iA k1,iA v1,.ref 0],.box [iA k2,iA v2,.ref 1],.box [iA 0,iA 0,.v (.slice none 0 0)]] [(0,iA m),(4,.ptr 2 0),(5,.ptr 3 0),(6,.ptr 4 0)] fun G=>b6 (wp_seq (wp_seq (E8 G f8 [(0,iA m),(4,.ptr 2 0),(5,.ptr 3 0),(6,.ptr 4 0),(8,bA (decide (m<0)))] fun G=>b6 ?_))));cases h0:(decide (m<0))
 ·have q0:=dFf h0;exact False.elim al
 have q0:=dTt h0;refine rT G _ h0 (wp_seq (j9 G f8 (rg 5) [dE s1,dE s2,.box [iA k1,iA v1,.ref 0],.box [iA k2,iA v2,.ref 1],.box [iA k1,iA v1,.ref 0]] [(0,iA m),(4,.ptr 2 0),(5,.ptr 3 0),(6,.ptr 4 0)] fun G=>b6 (wp_ret (l0 ?_))));exact O7 G [0,1]
theorem bs8(m k1 v1 k2 v2:Int)(s1 s2:List c6)(hm:¬m<0):j7.ok Tryz.prog ⟨137,[iA m,.agg [iA k1,iA v1,.ref 0],.agg [iA k2,iA v2,.ref 1]],[dE s1,dE s2],[dE s1,dE s2,dE (seE (vrE m) ⟨k1,v1,s1⟩ ⟨k2,v2,s2⟩).kids],.agg [iA 11,iA 0,.ref 2]⟩:=by
 refine H9 16 Tryz.func137 [dE s1,dE s2] [(0,iA m),(1,.agg [iA k1,iA v1,.ref 0]),(2,.agg [iA k2,iA v2,.ref 1])] fun G=>?_;refine wp_seq (j9 G f8 [0,1,2,10,18] [dE s1,dE s2,.box [iA k1,iA v1,.ref 0],.box [iA k2,iA v2,.ref 1],.box [iA 0,iA 0,.v (.slice none 0 0)]] [(0,iA m),(4,.ptr 2 0),(5,.ptr 3 0),(6,.ptr 4 0)] fun G=>b6 (wp_seq (wp_seq (E8 G f8 [(0,iA m),(4,.ptr 2 0),(5,.ptr 3 0),(6,.ptr 4 0),(8,bA (decide (m<0)))] fun G=>b6 ?_))));cases h0:(decide (m<0))
 ·have q0:=dFf h0;refine rF G _ h0 (wp_skip (b6 (wp_seq (af6 G (H5 (v7 1 [] (ao6 m) (v7 5 [37] (af0 11 ([c6.mk 2 m []]++([c6.mk k1 v1 s1]++([c6.mk k2 v2 s2]++[])))) H4)) fz []) [0,1,0,0,15,31,63] [0,1,4,37] [dE s1,dE s2,.box [iA 11,iA 0,.ref 3],dE ([c6.mk 2 m []]++([c6.mk k1 v1 s1]++([c6.mk k2 v2 s2]++[])))] [(6,.ptr 2 0)] fun G=>b6 (wp_ret ?_)))));exact O7 G [0,1,3]
 have q0:=dTt h0;exact False.elim al
theorem al9(m k1 v1 k2 v2:Int)(s1 s2:List c6):j7.ok Tryz.prog ⟨137,[iA m,.agg [iA k1,iA v1,.ref 0],.agg [iA k2,iA v2,.ref 1]],[dE s1,dE s2],[dE s1,dE s2,dE (D5 m ⟨k1,v1,s1⟩ ⟨k2,v2,s2⟩).kids],.agg [iA (D5 m ⟨k1,v1,s1⟩ ⟨k2,v2,s2⟩).kind,iA (D5 m ⟨k1,v1,s1⟩ ⟨k2,v2,s2⟩).value,.ref 2]⟩:=by
 by_cases hm:m<0
 ·rw[ca6 hm]
  exact j7.dupPost (S:=[dE s1,dE s2]) (d:=.exprs s1) (i:=0) (bs9 m k1 v1 k2 v2 s1 s2 hm) rfl (cn4 _) rfl (fun ρ h=>by
   have h:ρ 2=ρ 0:=h
   simp only[AV.val,AV.vals,h];rfl) rfl
 rw[ca5 hm]
 exact bs8 m k1 v1 k2 v2 s1 s2 hm
theorem ao7(vs ars:List Int)(bd:List c5)(l:Int)(hl:vs.length<=8000000):j7.ok Tryz.prog ⟨177,[.agg [.ref 0,.ref 1,nlA,.ref 2],iA l],[qI vs,dI ars,qT bd],[qI vs,dI ars,qT bd,qI (vs++[l])],.tup [.agg [.ref 3,.ref 1,nlA,.ref 2],iA (vs.length:Int)]⟩:=by
 refine H9 22 Tryz.func177 [.row 3 (D.ints vs),dI ars,.row 98 (D.stmts bd)] [(0,.agg [.ref 0,.ref 1,.v (.slice none 0 0),.ref 2]),(1,iA l)] fun G=>?_;refine wp_seq (j9 G f8 [0,1,2,3,11] [.row 3 (D.ints vs),dI ars,.row 98 (D.stmts bd),.box [.ref 0,.ref 1,.v (.slice none 0 0),.ref 2],.box [.v (.slice none 0 0),.v (.slice none 0 0),.v (.slice none 0 0),.v (.slice none 0 0)]] [(1,iA l),(2,.ptr 3 0),(4,.ptr 4 0),(5,iA 0)] fun G=>b6 (wp_seq (Z5 G f8 [0,1,2,3,4,61] [.row 3 (D.ints vs),dI ars,.row 98 (D.stmts bd),.box [.ref 5,.ref 1,.v (.slice none 0 0),.ref 2],.box [.v (.slice none 0 0),.v (.slice none 0 0),.v (.slice none 0 0),.v (.slice none 0 0)],.row 3 (D.ints ([]++vs++([l]++[])))] [(2,.ptr 3 0),(4,.ptr 4 0),(5,iA 0)] (aP ((0:Nat)+vs.length) 8 (aP (([]++vs).length+1) 8 [])) (aK al (aK (by simp only[cn3,cn6,co1];omega) co8)) fun G=>b6 (wp_seq (R3 G f8 [0,0,2,6,14,30,1,127] [0,1,2,4,5] [.row 3 (D.ints vs),dI ars,.row 98 (D.stmts bd),.box [.ref 4,.ref 1,.v (.slice none 0 0),.ref 2],.row 3 (D.ints ([]++vs++([l]++[])))] [(4,.ptr 3 0),(5,iA ((([]++vs++([l]++[])).length:Int)-1))] [wO ((([]++vs++([l]++[])).length:Int)-1)] ⟨(w64 (by simp only[cn3,cn6,co1];omega) (by simp only[cn3,cn6,co1];omega)),co8⟩ fun G=>b6 (wp_ret ?_))))));exact Y0 (.tup [.agg [.ref 4,.ref 1,.v (.slice none 0 0),.ref 2],iA ((([]++vs++([l]++[])).length:Int)-1)]) G [0,1,2,4] (by have e1:((vs.length:Int):Int)=((([]++vs++([l]++[])).length:Int)-1):=(by simp only[cn3,cn6,co1];omega);(first|rw[e1]|simp only[e1])<;>rfl)
theorem V2(vs ars:List Int)(bd:List c5)(v ky vy:Int)(ks:List c6)(hl:bd.length<=800000):j7.ok Tryz.prog ⟨136,[.agg [.ref 0,.ref 1,nlA,.ref 2],iA v,.agg [iA ky,iA vy,.ref 3]],[qI vs,dI ars,qT bd,dE ks],[qI vs,dI ars,.dead,dE ks,qT (bd++[Y3 v ⟨ky,vy,ks⟩])],.agg [.ref 0,.ref 1,nlA,.ref 4]⟩:=by
 refine H9 16 Tryz.func136 [.row 3 (D.ints vs),dI ars,.row 98 (D.stmts bd),dE ks] [(0,.agg [.ref 0,.ref 1,.v (.slice none 0 0),.ref 2]),(1,iA v),(2,.agg [iA ky,iA vy,.ref 3])] fun G=>?_;refine wp_seq (j9 G f8 [0,1,2,3,4,12,20] [.row 3 (D.ints vs),dI ars,.row 98 (D.stmts bd),dE ks,.box [.ref 0,.ref 1,.v (.slice none 0 0),.ref 2],.box [iA ky,iA vy,.ref 3],.box [.v (.slice none 0 0),.v (.slice none 0 0),.v (.slice none 0 0),.v (.slice none 0 0)]] [(1,iA v),(3,.ptr 4 0),(5,.ptr 5 0),(6,.ptr 6 0)] fun G=>b6 (wp_seq (Z5 G f8 [0,1,2,3,4,6,55] [.row 3 (D.ints vs),dI ars,.dead,dE ks,.box [.ref 0,.ref 1,.v (.slice none 0 0),.ref 6],.box [.v (.slice none 0 0),.v (.slice none 0 0),.v (.slice none 0 0),.v (.slice none 0 0)],.row 98 (D.stmts (bd++([c5.mk 1 v (c6.mk 0 0 []) (c6.mk ky vy ks) 0 [] []]++[])))] [(3,.ptr 4 0),(6,.ptr 5 0)] (aP (bd.length+1) 152 []) (aK al co8) fun G=>b6 (wp_seq (j9 G f8 [0,1,2,3,5,6] [.row 3 (D.ints vs),dI ars,.dead,dE ks,.box [.ref 0,.ref 1,.v (.slice none 0 0),.ref 5],.row 98 (D.stmts (bd++([c5.mk 1 v (c6.mk 0 0 []) (c6.mk ky vy ks) 0 [] []]++[])))] [(6,.ptr 4 0)] fun G=>b6 (wp_ret ?_))))));exact O7 G [0,1,2,3,5]
abbrev leC(ars:List Int)(pc:Int)(vs:List Int)(bd:List c5)(e:c6):j7:=⟨135,[.agg [.ref 0,.ref 1,nlA,.ref 2],eA e 3,iA pc],[qI vs,dI ars,qT bd,dE e.kids],[.dead,dI ars,.dead,dE e.kids,qI (d8 ars pc e (vs,bd)).1.1,qT (d8 ars pc e (vs,bd)).1.2,dE (d8 ars pc e (vs,bd)).2.kids],.tup [.agg [.ref 4,.ref 1,nlA,.ref 5],.agg [iA (d8 ars pc e (vs,bd)).2.kind,iA (d8 ars pc e (vs,bd)).2.value,.ref 6]]⟩
abbrev xE(ars:List Int)(pc:Int)(vs:List Int)(bd:List c5)(e:c6)(k:Nat):LnS×List c6:=z4 ars pc (e.kids.take k) (vs,bd)
section
variable{ars vs:List Int}{pc:Int}{bd:List c5}{e:c6}{d k:Nat}
theorem ax5(he:i6 vs.length ars.length (d+1) e=true)(k:Nat):Grw vs.length ars.length d (F4 (e.kids.take k)) (vs,bd) (xE ars pc vs bd e k).1:=by
 rw[i6]at he
 simp only[cm9,cn8]at he
 exact(bo9 (ars:=ars) (pc:=pc) (na:=ars.length) (d:=d) (fun e s h=>an5 ars pc ars.length d e s h) (e.kids.take k) (vs,bd) fun x hx=>he.1.2 x (List.mem_of_mem_take hx)).1
theorem bX1(he:i6 vs.length ars.length (d+1) e=true)(r1:vs.length+(1+A6 e)<=100000)(r2:j5 bd+40*(1+A6 e)<=700000)(k:Nat):(xE ars pc vs bd e k).1.1.length+1<=100000/\(xE ars pc vs bd e k).1.2.length+40<=700000/\vs.length<=(xE ars pc vs bd e k).1.1.length:=by
 have h:=ax5 (ars:=ars) (pc:=pc) (bd:=bd) he k
 have h1:=aW8 e.kids k
 have h2:=N1 e
 have h3:=N0 (xE ars pc vs bd e k).1.2
 have a:=h.lo;have b:=h.hi;have c:=h.st
 simp only at a b c
 omega
theorem bX0(he:i6 vs.length ars.length (d+1) e=true)(hk:k<e.kids.length):i6 (xE ars pc vs bd e k).1.1.length ars.length d (e.kids.getD k cm7)=true:=
 G3 (ax5 (pc:=pc) (bd:=bd) he k).lo d _ (aa7 he hk)
theorem b50(he:i6 vs.length ars.length (d+1) e=true)(r1:vs.length+(1+A6 e)<=100000)(hk:k<e.kids.length):(xE ars pc vs bd e k).1.1.length+(1+A6 (e.kids.getD k cm7))<=100000:=by
 have h:=(ax5 (pc:=pc) (bd:=bd) he k).hi
 have h1:=(am8 e.kids k).2.1 hk
 have h2:=N1 e
 simp only at h
 omega
theorem b49(he:i6 vs.length ars.length (d+1) e=true)(r2:j5 bd+40*(1+A6 e)<=700000)(hk:k<e.kids.length):j5 (xE ars pc vs bd e k).1.2+40*(1+A6 (e.kids.getD k cm7))<=700000:=by
 have h:=(ax5 (pc:=pc) (bd:=bd) he k).st
 have h1:=(am8 e.kids k).2.1 hk
 have h2:=N1 e
 simp only at h
 omega
theorem b46(hk:k<e.kids.length):(xE ars pc vs bd e (k+1)).1.1=(d8 ars pc (e.kids.getD k cm7) ((xE ars pc vs bd e k).1.1,(xE ars pc vs bd e k).1.2)).1.1:=by unfold xE;rw[as0 hk]
theorem b45(hk:k<e.kids.length):(xE ars pc vs bd e (k+1)).1.2=(d8 ars pc (e.kids.getD k cm7) ((xE ars pc vs bd e k).1.1,(xE ars pc vs bd e k).1.2)).1.2:=by unfold xE;rw[as0 hk]
theorem b44(hk:k<e.kids.length):(xE ars pc vs bd e (k+1)).2=(xE ars pc vs bd e k).2++[⟨(d8 ars pc (e.kids.getD k cm7) ((xE ars pc vs bd e k).1.1,(xE ars pc vs bd e k).1.2)).2.kind,(d8 ars pc (e.kids.getD k cm7) ((xE ars pc vs bd e k).1.1,(xE ars pc vs bd e k).1.2)).2.value,(d8 ars pc (e.kids.getD k cm7) ((xE ars pc vs bd e k).1.1,(xE ars pc vs bd e k).1.2)).2.kids⟩]:=by unfold xE;rw[as0 hk,c6.eta]
theorem bW9(k:Nat):(xE ars pc vs bd e k).2.length<=e.kids.length:=by
 have h:∀(ks:List c6) (s:LnS),(z4 ars pc ks s).2.length=ks.length:=by
  intro ks
  induction ks with
  |nil=>intro s;rfl
  |cons x r ih=>intro s;rw[z4,cn6,ih,cn6]
 unfold xE;rw[h,List.length_take];exact Nat.min_le_right _ _
theorem by4(hk:e.kids.length<=k)(hn:¬(e.kind=3/\ad3 (i9 (xE ars pc vs bd e k).1.1 ars 5 (e.kids.getD 0 cm7))=true)):d8 ars pc e (vs,bd)=((xE ars pc vs bd e k).1,⟨e.kind,e.value,(xE ars pc vs bd e k).2⟩):=by
 unfold xE at hn ⊢
 rw[co3 hk]at hn ⊢
 rw[aL4,if_neg hn]
theorem bW8(hk:e.kids.length<=k)(h3:e.kind=3)(hs:ad3 (i9 (xE ars pc vs bd e k).1.1 ars 5 (e.kids.getD 0 cm7))=true):d8 ars pc e (vs,bd)=(((xE ars pc vs bd e k).1.1++[l5 (i9 (xE ars pc vs bd e k).1.1 ars 5 e) pc],(xE ars pc vs bd e k).1.2++rdL ((xE ars pc vs bd e k).1.1.length:Int) e.value (e.kids.getD 0 cm7) 3),vrE ((xE ars pc vs bd e k).1.1.length:Int)):=by
 unfold xE at hs ⊢
 rw[co3 hk]at hs ⊢
 rw[aL4,if_pos ⟨h3,hs⟩]
abbrev kE(e:c6):c6:=⟨(e.kids.getD 0 cm7).kind,(e.kids.getD 0 cm7).value,(e.kids.getD 0 cm7).kids⟩
theorem bF9(e:c6):kE e=e.kids.getD 0 cm7:=c6.eta _
theorem b47(he:i6 vs.length ars.length (d+1) e=true)(hd:d+1<=5)(h3:e.kind=3):i6 (xE ars pc vs bd e k).1.1.length ars.length 5 (kE e)=true:=by
 rw[bF9]
 have:=aJ1 he h3
 exact a41 al (G3 (ax5 (pc:=pc) (bd:=bd) he k).lo d _ (aa7 he this))
theorem b48(he:i6 vs.length ars.length (d+1) e=true)(hd:d+1<=5):i6 (xE ars pc vs bd e k).1.1.length ars.length 5 ⟨e.kind,e.value,e.kids⟩=true:=by
 rw[c6.eta]
 exact a41 hd (G3 (ax5 (pc:=pc) (bd:=bd) he k).lo (d+1) _ he)
theorem aW3(hk:e.kids.length<=k)(hn:¬e.kind=3):d8 ars pc e (vs,bd)=((xE ars pc vs bd e k).1,⟨e.kind,e.value,(xE ars pc vs bd e k).2⟩):=by4 hk fun h=>hn h.1
theorem aW2(hk:e.kids.length<=k)(hs:(!(i8 (i9 (xE ars pc vs bd e k).1.1 ars 5 (kE e))&&decide (i9 (xE ars pc vs bd e k).1.1 ars 5 (kE e)%2=1)))=true):d8 ars pc e (vs,bd)=((xE ars pc vs bd e k).1,⟨e.kind,e.value,(xE ars pc vs bd e k).2⟩):=by
 rw[bF9,co9]at hs
 exact by4 hk fun h=>by
  have h5:=h.2
  unfold ad3 at h5
  rw[hs]at h5;cases h5
theorem aE5(hk:e.kids.length<=k)(h3:e.kind=3)(hs:(!(i8 (i9 (xE ars pc vs bd e k).1.1 ars 5 (kE e))&&decide (i9 (xE ars pc vs bd e k).1.1 ars 5 (kE e)%2=1)))=false):d8 ars pc e (vs,bd)=(((xE ars pc vs bd e k).1.1++[l5 (i9 (xE ars pc vs bd e k).1.1 ars 5 ⟨e.kind,e.value,e.kids⟩) pc],(xE ars pc vs bd e k).1.2++rdL ((xE ars pc vs bd e k).1.1.length:Int) e.value (kE e) 3),vrE ((xE ars pc vs bd e k).1.1.length:Int)):=by
 rw[bF9]at hs ⊢
 rw[c6.eta]
 rw[cp7]at hs
 exact bW8 hk h3 hs
theorem bL5{j:Nat}(hj:j=3)(hk:e.kids.length<=k)(h3:e.kind=3)(hs:(!(i8 (i9 (xE ars pc vs bd e k).1.1 ars 5 (kE e))&&decide (i9 (xE ars pc vs bd e k).1.1 ars 5 (kE e)%2=1)))=false):(d8 ars pc e (vs,bd)).1.2=(xE ars pc vs bd e k).1.2++rdL ((xE ars pc vs bd e k).1.1.length:Int) e.value (kE e) j:=by
 rw[hj,aE5 hk h3 hs]
theorem ch4{v a:Int}{i:c6}{j:Nat}:bd++rdL v a i (j+1)=bd++rdL v a i j++[Y3 v ⟨11,0,[⟨9,0,(ai7 i ((j:Int)+1)).kids⟩,⟨3,a,[⟨1,(j:Int)+1,[]⟩]⟩,⟨2,v,[]⟩]⟩]:=by
 rw[rdL,cr6];rfl
end
abbrev ax1(e:c6):=y7 (e.kids.getD 0 cm7)
abbrev aV6(e:c6)(ars:List Int)(pc:Int)(vs:List Int)(bd:List c5)(k:Nat):=i9 (xE ars pc vs bd e k).fst.fst ars 5 (y7 e)
abbrev ar0(e:c6)(ars:List Int)(pc:Int)(vs:List Int)(bd:List c5)(k:Nat):=d8 ars pc (e.kids.getD k cm7) (xE ars pc vs bd e k).fst
abbrev ax0(e:c6)(ars:List Int)(pc:Int)(vs:List Int)(bd:List c5):List It:=[.dead,dI ars,.dead,dE e.kids,.row 3 (D.ints (d8 ars pc e (vs,bd)).fst.fst),.row 98 (D.stmts (d8 ars pc e (vs,bd)).fst.snd),dE (d8 ars pc e (vs,bd)).snd.kids]
abbrev aa6:It:=.box [.v (.slice none 0 0),.v (.slice none 0 0),.v (.slice none 0 0),.v (.slice none 0 0)]
abbrev X7:It:=.box [iA 0,iA 0,.v (.slice none 0 0)]
abbrev aH2(e:c6)(ars:List Int)(pc:Int)(vs:List Int)(bd:List c5)(k:Nat):It:=.row 3 (D.ints ((xE ars pc vs bd e k).fst.fst++[l5 (aV6 e ars pc vs bd k) pc]))
abbrev aj2:It:=.box [.ref 8,.ref 1,.v (.slice none 0 0),.ref 9]
abbrev H7(r0:List (Nat×AV)):List (Nat×AV):=(3,.ptr 4 0)::(4,.ptr 5 0)::(6,.ptr 6 0)::(7,.ptr 7 0)::r0
abbrev aq7(e:c6)(ars:List Int)(pc:Int)(vs:List Int)(bd:List c5)(k:Nat)(r0:List It):List It:=.row 3 (D.ints (xE ars pc vs bd e k).fst.fst)::.row 98 (D.stmts (xE ars pc vs bd e k).fst.snd)::r0
abbrev aG5(e:c6)(ars:List Int)(r0:List It):List It:=.dead::dI ars::.dead::dE e.kids::.box [.ref 9,.ref 1,.v (.slice none 0 0),.ref 10]::.box (eL e 3)::r0
abbrev bc2(r0:List It):List It:=.box [.v (.slice none 0 0),.v (.slice none 0 0),.v (.slice none 0 0),.v (.slice none 0 0)]::.box [iA 0,iA 0,.v (.slice none 0 0)]::r0
theorem bA9(e:c6)(ars:List Int)(pc:Int)(d:Nat)(hd:d+1<=5)(ih:∀(u:c6),u∈e.kids->∀(vs:List Int) (bd:List c5),i6 vs.length ars.length d u=true->vs.length+(1+A6 u)<=100000->j5 bd+40*(1+A6 u)<=700000->j7.ok Tryz.prog (leC ars pc vs bd u))
    (vs:List Int) (bd:List c5) (he:i6 vs.length ars.length (d+1) e=true) (r1:vs.length+(1+A6 e)<=100000) (r2:j5 bd+40*(1+A6 e)<=700000):j7.ok Tryz.prog (leC ars pc vs bd e):=by
  refine H9 102 Tryz.func135 [.row 3 (D.ints vs),dI ars,.row 98 (D.stmts bd),dE e.kids] [(0,.agg [.ref 0,.ref 1,.v (.slice none 0 0),.ref 2]),(1,eA e 3),(2,iA pc)] fun G=>?_
  have hlen:e.kids.length<=A6 e:=by cases e;exact at9 _
  have hb:=bX1 (ars:=ars) (pc:=pc) (bd:=bd) he r1 r2;refine wp_seq (j9 G f8 [0,1,2,3,4,12,20,28] [.row 3 (D.ints vs),dI ars,.row 98 (D.stmts bd),dE e.kids,.box [.ref 0,.ref 1,.v (.slice none 0 0),.ref 2],.box (eL e 3),aa6,X7] ((2,iA pc)::(H7 [])) fun G=>b6 (wp_seq (j9 G f8 [0,1,2,3,4,5,6,7,48] [.row 3 (D.ints vs),dI ars,.row 98 (D.stmts bd),dE e.kids,.box [.ref 0,.ref 1,.v (.slice none 0 0),.ref 2],.box (eL e 3),aa6,X7,.box [iA e.kind,iA e.value,.v (.slice none 0 0)]] ((2,iA pc)::(H7 [(8,.ptr 8 0)])) fun G=>b6 (wp_seq (wp_seq (E8 G f8 ((2,iA pc)::(H7 [(8,.ptr 8 0),(9,iA 0)])) fun G=>b6 (wp_block ?_)))))));obtain⟨ρ,G⟩:=G.shift 0 9 (.dead::dI ars::.row 98 (D.stmts bd)::dE e.kids::.box [.ref 9,.ref 1,.v (.slice none 0 0),.ref 2]::.box (eL e 3)::(bc2 [.box [iA e.kind,iA e.value,.v (.slice none 0 0)],.row 3 (D.ints vs)])) ((2,iA pc)::(H7 [(8,.ptr 8 0),(9,iA 0)]));obtain⟨ρ,G⟩:=G.shift 2 10 (aG5 e ars (bc2 [.box [iA e.kind,iA e.value,.v (.slice none 0 0)],.row 3 (D.ints vs),.row 98 (D.stmts bd)])) ((2,iA pc)::(H7 [(8,.ptr 8 0),(9,iA 0)]));obtain⟨ρ,G⟩:=G.nil 11 96 (.exprs []) 9 (aG5 e ars (bc2 [.box (eL e 11),.row 3 (D.ints vs),.row 98 (D.stmts bd)])) ((2,iA pc)::(H7 [(8,.ptr 8 0),(9,iA 0)]));refine t9 (κ:=Nat) (fun k=>k<=e.kids.length) (fun k=>e.kids.length-k) (fun k=>[.dead,dI ars,.dead,dE e.kids,.box [.ref 9,.ref 1,.v (.slice none 0 0),.ref 10],.box (eL e 3),.box [.v (.slice none 0 0),.v (.slice none 0 0),.v (.slice none 0 0),.v (.slice none 0 0)],.box [iA 0,iA 0,.v (.slice none 0 0)],.box (eL e 11),.row 3 (.ints (xE ars pc vs bd e k).1.1),.row 98 (.stmts (xE ars pc vs bd e k).1.2),.row 96 (.exprs (xE ars pc vs bd e k).2)]) (fun k=>[(2,iA pc),(3,.ptr 4 0),(4,.ptr 5 0),(6,.ptr 6 0),(7,.ptr 7 0),(8,.ptr 8 0),(9,iA k)]) 0 al (v9.at G _ _) ?_;clear G;intro k ρ a w hp G;replace G:=v9.at G (aG5 e ars (aa6::X7::.box (eL e 11)::(aq7 e ars pc vs bd k [.row 96 (D.exprs (xE ars pc vs bd e k).snd)]))) ((2,iA pc)::(H7 [(8,.ptr 8 0),(9,iA k)]));have hbk:=hb k;have hxl:=bW9 (ars:=ars) (pc:=pc) (vs:=vs) (bd:=bd) (e:=e) k;refine wp_seq (wp_seq (l6 G f8 [(22,bA (decide ((k:Int)<e.kids.length)))] fun G=>b6 (rcD G (fun h0 q0=>?_) fun h0 q0=>?_)))
  ·
   refine wp_exit (t7 (t7 (t5 (b6 (wp_seq (wp_seq ?_))))));cases h1:(e.kind !=3)
   ·
    have q1:=bne_eq_false_iff_eq.1 h1;refine ai3 G (H5 (v7 10 [9,1,84] (j7.lend (ab7 ((xE ars pc vs bd e k).fst.fst) ars ((e.kids.getD 0 cm7).kind) ((e.kids.getD 0 cm7).value) ((e.kids.getD 0 cm7).kids) (b47 he hd al)) [.row 3]) (v7 11 [] (L5 (i9 (xE ars pc vs bd e k).fst.fst ars 5 (ax1 e))) H4)) (fc h1 fz) (us [(4,12,0),(1013,1013,0)])) [0,1,3,7,15,31,15,79,207,463,1023,2047,4095,8191] [(56,.v (.bool !(i8 (i9 (xE ars pc vs bd e k).fst.fst ars 5 (ax1 e))&&decide (i9 (xE ars pc vs bd e k).fst.fst ars 5 (ax1 e)%2=1))))] (iX 0 0 e.kids.length []) (iK (by have:=aJ1 he al;omega) co8) fun G=>b6 ?_;cases h2:(!(i8 (i9 (xE ars pc vs bd e k).fst.fst ars (5:Nat) (y7 (e.kids.getD (0:Nat) cm7)))&&decide (i9 (xE ars pc vs bd e k).fst.fst ars (5:Nat) (y7 (e.kids.getD (0:Nat) cm7))%(2:Int)=1)))
    ·
     have q2:((i8 (i9 (xE ars pc vs bd e k).fst.fst ars 5 (y7 (e.kids.getD 0 cm7))))=true)/\(i9 (xE ars pc vs bd e k).fst.fst ars 5 (y7 (e.kids.getD 0 cm7))%2=1):=(fun hq=>And.imp (fun hq=>(hq)) (fun hq=>of_decide_eq_true hq) (Bool.and_eq_true_iff.1 hq)) (Eq.mp (cp7 _) h2);refine rF G _ h2 (wp_skip (b6 (wp_seq (j9 G f8 [0,1,2,3,4,5,6,7,9,10] (.dead::dI ars::.dead::dE e.kids::aj2::.box (eL e 3)::aa6::X7::(aq7 e ars pc vs bd k [])) ((2,iA pc)::(H7 [(11,iA 0)])) fun G=>b6 (wp_seq (af6 G (H5 (v7 4 [8,1,3] (j7.lend (ab7 ((xE ars pc vs bd e k).fst.fst) ars e.kind e.value e.kids (b48 he hd)) [.row 3]) (v7 7 [8,1,9] (ao7 ((xE ars pc vs bd e k).fst.fst) ars ((xE ars pc vs bd e k).fst.snd) (l5 (aV6 e ars pc vs bd k) pc) al) H4)) fz []) [0,0,2,0,14,0,62,127,255,511,511,1023,4095] [0,1,2,3,4,5,6,7,9,66] [.dead,dI ars,.dead,dE e.kids,.box [.ref 9,.ref 1,.v (.slice none 0 0),.ref 8],.box (eL e 3),aa6,X7,.row 98 (D.stmts (xE ars pc vs bd e k).fst.snd),aH2 e ars pc vs bd k] (H7 [(11,iA ((xE ars pc vs bd e k).fst.fst.length:Int))]) fun G=>b6 (wp_seq (af6 G (H5 (v7 4 [] (L3 0) (v7 5 [42] (aw3 e.value 1 0 ([])) (v7 6 [9,1,8,50] (V2 ((xE ars pc vs bd e k).fst.fst++[l5 (aV6 e ars pc vs bd k) pc]) ars ((xE ars pc vs bd e k).fst.snd) (((xE ars pc vs bd e k).fst.fst.length:Int)) 3 e.value ([c6.mk 1 0 []]) al) H4))) fz []) [0,0,0,4,0,28,63,127] [0,1,2,3,4,5,6,7,9,58] [.dead,dI ars,.dead,dE e.kids,aj2,.box (eL e 3),aa6,X7,aH2 e ars pc vs bd k,.row 98 (D.stmts ((xE ars pc vs bd e k).fst.snd++[Y3 ((xE ars pc vs bd e k).fst.fst.length:Int) (c6.mk 3 e.value [c6.mk 1 0 []])]))] (H7 [(11,iA ((xE ars pc vs bd e k).fst.fst.length:Int))]) fun G=>b6 (wp_seq (wp_seq (E8 G f8 (H7 [(11,iA ((xE ars pc vs bd e k).fst.fst.length:Int)),(12,iA 1)]) fun G=>b6 (wp_block ?_))))))))))));refine t9 (κ:=Nat) (fun j=>j<=3) (fun j=>3-j) (fun j=>[.dead,dI ars,.dead,dE e.kids,.box [.ref 8,.ref 1,.v (.slice none 0 0),.ref 9],.box (eL e 3),.box [.v (.slice none 0 0),.v (.slice none 0 0),.v (.slice none 0 0),.v (.slice none 0 0)],.box [iA 0,iA 0,.v (.slice none 0 0)],.row 3 (D.ints ((xE ars pc vs bd e k).fst.fst++[l5 (i9 (xE ars pc vs bd e k).fst.fst ars 5 (y7 e)) pc])),.row 98 (.stmts ((xE ars pc vs bd e k).1.2++rdL ((xE ars pc vs bd e k).1.1.length:Int) e.value (kE e) j))]) (fun j=>[(3,.ptr 4 0),(4,.ptr 5 0),(6,.ptr 6 0),(7,.ptr 7 0),(11,iA ((xE ars pc vs bd e k).fst.fst.length:Int)),(12,iA ((j:Int)+1))]) 0 al (v9.at G _ _) ?_
     clear G;intro j ρ a w hp G;replace G:=v9.at G [.dead,dI ars,.dead,dE e.kids,aj2,.box (eL e 3),aa6,X7,aH2 e ars pc vs bd k,.row 98 (D.stmts ((xE ars pc vs bd e k).fst.snd++rdL ((xE ars pc vs bd e k).fst.fst.length:Int) e.value (kE e) j))] (H7 [(11,iA ((xE ars pc vs bd e k).fst.fst.length:Int)),(12,iA ((j:Int)+1))]);refine wp_seq (wp_seq (l6 G f8 [(78,bA (decide ((j:Int)+1<4)))] fun G=>b6 (rcD G (fun h3 q3=>?_) fun h3 q3=>?_)))
     · refine wp_exit (t7 (t7 (t5 (b6 (wp_seq (af6 G (v8 2 [] (ao6 (((xE ars pc vs bd e k).fst.fst.length:Int)))) [0,0,2,7,15] [0,1,2,3,6,7,8,9,26] [.dead,dI ars,.dead,dE e.kids,.box [.ref 6,.ref 1,.v (.slice none 0 0),.ref 7],.box [iA 2,iA ((xE ars pc vs bd e k).fst.fst.length:Int),.ref 8],aH2 e ars pc vs bd k,.row 98 (D.stmts ((xE ars pc vs bd e k).fst.snd++rdL ((xE ars pc vs bd e k).fst.fst.length:Int) e.value (kE e) j)),dE []] [(6,.ptr 4 0),(7,.ptr 5 0)] fun G=>b6 (wp_ret ?_)))))));exact Y0 (.tup [.agg [.ref 6,.ref 1,.v (.slice none 0 0),.ref 7],.agg [iA 2,iA ((xE ars pc vs bd e k).fst.fst.length:Int),.ref 8]]) G [0,1,2,3,6,7,8] (by have e1:((d8 ars pc e (vs,bd)).snd.kind:Int)=(2):=(by rw[aE5 (ars:=ars) (pc:=pc) (vs:=vs) (bd:=bd) (e:=e) (k:=k) al al ab];rfl);have e2:((d8 ars pc e (vs,bd)).snd.value:Int)=(((xE ars pc vs bd e k).fst.fst.length:Int)):=(by rw[aE5 (ars:=ars) (pc:=pc) (vs:=vs) (bd:=bd) (e:=e) (k:=k) al al ab];rfl);(first|rw[e1,e2]|simp only[e1,e2])<;>rfl) (by show _=mR [0,1,2,3,6,7,8] (ax0 e ars pc vs bd);unfold ax0;have e2:((d8 ars pc e (vs,bd)).fst.snd:List c5)=((xE ars pc vs bd e k).fst.snd++rdL ((xE ars pc vs bd e k).fst.fst.length:Int) e.value (kE e) j):=(bL5 (k:=k) (show j=3 by omega) al al ab);rw[e2,aE5 (ars:=ars) (pc:=pc) (vs:=vs) (bd:=bd) (e:=e) (k:=k) al al ab]<;>rfl)
     refine wp_skip (b6 (wp_seq (wp_block (R3 G (H5 (v7 7 [50] (br5 ((e.kids.getD 0 cm7).kind) ((e.kids.getD 0 cm7).value) ((e.kids.getD 0 cm7).kids) ((j:Int)+1)) (v7 11 [] (L3 ((j:Int)+1)) (v7 12 [98] (aw3 e.value 1 ((j:Int)+1) ([])) (v7 14 [] (ao6 (((xE ars pc vs bd e k).fst.fst.length:Int))) (v7 16 [130] (af0 11 ([c6.mk 9 0 (ai7 (ax1 e) ((j:Int)+1)).kids]++([c6.mk 3 e.value [c6.mk 1 ((j:Int)+1) []]]++([c6.mk 2 ((xE ars pc vs bd e k).fst.fst.length:Int) []]++[])))) (v7 17 [8,1,9,130] (V2 ((xE ars pc vs bd e k).fst.fst++[l5 (aV6 e ars pc vs bd k) pc]) ars ((xE ars pc vs bd e k).fst.snd++rdL ((xE ars pc vs bd e k).fst.fst.length:Int) e.value (kE e) j) (((xE ars pc vs bd e k).fst.fst.length:Int)) 11 0 ([c6.mk 9 0 (ai7 (ax1 e) ((j:Int)+1)).kids]++([c6.mk 3 e.value [c6.mk 1 ((j:Int)+1) []]]++([c6.mk 2 ((xE ars pc vs bd e k).fst.fst.length:Int) []]++[]))) (by simp only[cn3,cn6,co1,aY4];omega)) H4)))))) fz []) [0,0,0,4,12,28,0,124,0,256,0,1276,4092,0,16380,32764,65532,131071,262143] [0,1,2,3,4,5,6,7,8,146] [.dead,dI ars,.dead,dE e.kids,aj2,.box (eL e 3),aa6,X7,aH2 e ars pc vs bd k,.row 98 (D.stmts ((xE ars pc vs bd e k).fst.snd++rdL ((xE ars pc vs bd e k).fst.fst.length:Int) e.value (kE e) j++[Y3 ((xE ars pc vs bd e k).fst.fst.length:Int) (c6.mk 11 0 ([c6.mk 9 0 (ai7 (ax1 e) ((j:Int)+1)).kids]++([c6.mk 3 e.value [c6.mk 1 ((j:Int)+1) []]]++([c6.mk 2 ((xE ars pc vs bd e k).fst.fst.length:Int) []]++[]))))]))] (H7 [(11,iA ((xE ars pc vs bd e k).fst.fst.length:Int)),(12,iA ((j:Int)+1))]) (iX 0 0 e.kids.length []) (iK (by have:=aJ1 he al;omega) co8) fun G=>n4 (b6 (M8 G f8 [(12,iA ((j:Int)+1+1))] [wO ((j:Int)+1+1)] (o1 al) fun G=>b6 ?_))))));exact R2 G (j+1) al al (rg 10) (by have e1:((xE ars pc vs bd e k).fst.snd++rdL ((xE ars pc vs bd e k).fst.fst.length:Int) e.value (kE e) (j+1):List c5)=((xE ars pc vs bd e k).fst.snd++rdL ((xE ars pc vs bd e k).fst.fst.length:Int) e.value (kE e) j++[Y3 ((xE ars pc vs bd e k).fst.fst.length:Int) (c6.mk 11 0 ([c6.mk 9 0 (ai7 (y7 (e.kids.getD 0 cm7)) ((j:Int)+1)).kids]++([c6.mk 3 e.value [c6.mk 1 ((j:Int)+1) []]]++([c6.mk 2 ((xE ars pc vs bd e k).fst.fst.length:Int) []]++[]))))]):=ch4;(first|rw[e1]|simp only[e1])<;>rfl)
    have q2:((i8 (i9 (xE ars pc vs bd e k).fst.fst ars 5 (y7 (e.kids.getD 0 cm7))))=false)\/(¬(i9 (xE ars pc vs bd e k).fst.fst ars 5 (y7 (e.kids.getD 0 cm7))%2=1)):=(fun hq=>Or.imp (fun hq=>(hq)) (fun hq=>of_decide_eq_false hq) (Bool.and_eq_false_iff.1 hq)) (Eq.mp (co9 _) h2);refine rT G _ h2 (wp_seq (af6 G f8 [0,0,1,7] [0,1,2,3,4,5,6,7,9,10,11] (.dead::dI ars::.dead::dE e.kids::aj2::.box (eL e 3)::aj2::.box (eL e 10)::(aq7 e ars pc vs bd k [.row 96 (D.exprs (xE ars pc vs bd e k).snd)])) ((2,iA pc)::(H7 [])) fun G=>b6 (wp_ret (l0 ?_))));obtain⟨ρ,G⟩:=G.frz [.no,.no,.no,.no,.no,.no,.no,.no,.no,.no,.row 96] (.dead::dI ars::.dead::dE e.kids::.box [.ref 8,.ref 1,.v (.slice none 0 0),.ref 9]::.box (eL e 3)::.box [.ref 8,.ref 1,.v (.slice none 0 0),.ref 9]::.box (eL e 10)::(aq7 e ars pc vs bd k [dE (xE ars pc vs bd e k).snd])) ((2,iA pc)::(H7 []));exact Y0 (.tup [.agg [.ref 8,.ref 1,.v (.slice none 0 0),.ref 9],eA e 10]) G [0,1,2,3,8,9,10] (by have e1:((d8 ars pc e (vs,bd)).snd.kind:Int)=(e.kind):=(by rw[aW2 (ars:=ars) (pc:=pc) (vs:=vs) (bd:=bd) (e:=e) (k:=k) al ab];rfl);have e2:((d8 ars pc e (vs,bd)).snd.value:Int)=(e.value):=(by rw[aW2 (ars:=ars) (pc:=pc) (vs:=vs) (bd:=bd) (e:=e) (k:=k) al ab];rfl);(first|rw[e1,e2]|simp only[e1,e2])<;>rfl) (by show _=mR [0,1,2,3,8,9,10] (ax0 e ars pc vs bd);unfold ax0;rw[aW2 (ars:=ars) (pc:=pc) (vs:=vs) (bd:=bd) (e:=e) (k:=k) al ab]<;>rfl)
   have q1:=bne_iff_ne.1 h1;refine bt7 G (K0 (fc h1 fz) (us [(4,12,0),(1013,1013,0)])) [0,1,3,7,15,31,15,79,207,463,1023,2047,4095,8191] [(56,bA true)] fun G=>b6 (rT G true aj (wp_seq (af6 G f8 [0,0,1,7] [0,1,2,3,4,5,6,7,9,10,11] (.dead::dI ars::.dead::dE e.kids::aj2::.box (eL e 3)::aj2::.box (eL e 10)::(aq7 e ars pc vs bd k [.row 96 (D.exprs (xE ars pc vs bd e k).snd)])) ((2,iA pc)::(H7 [])) fun G=>b6 (wp_ret (l0 ?_)))));obtain⟨ρ,G⟩:=G.frz [.no,.no,.no,.no,.no,.no,.no,.no,.no,.no,.row 96] (.dead::dI ars::.dead::dE e.kids::.box [.ref 8,.ref 1,.v (.slice none 0 0),.ref 9]::.box (eL e 3)::.box [.ref 8,.ref 1,.v (.slice none 0 0),.ref 9]::.box (eL e 10)::(aq7 e ars pc vs bd k [dE (xE ars pc vs bd e k).snd])) ((2,iA pc)::(H7 []));exact Y0 (.tup [.agg [.ref 8,.ref 1,.v (.slice none 0 0),.ref 9],eA e 10]) G [0,1,2,3,8,9,10] (by have e1:((d8 ars pc e (vs,bd)).snd.kind:Int)=(e.kind):=(by rw[aW3 (ars:=ars) (pc:=pc) (vs:=vs) (bd:=bd) (e:=e) (k:=k) al al];rfl);have e2:((d8 ars pc e (vs,bd)).snd.value:Int)=(e.value):=(by rw[aW3 (ars:=ars) (pc:=pc) (vs:=vs) (bd:=bd) (e:=e) (k:=k) al al];rfl);(first|rw[e1,e2]|simp only[e1,e2])<;>rfl) (by show _=mR [0,1,2,3,8,9,10] (ax0 e ars pc vs bd);unfold ax0;rw[aW3 (ars:=ars) (pc:=pc) (vs:=vs) (bd:=bd) (e:=e) (k:=k) al al]<;>rfl)
  refine wp_skip (b6 (wp_seq (wp_block (wp_seq (j9 G f8 [0,1,2,3,4,5,6,7,8,9,10,11,20] (aG5 e ars (aa6::X7::.box (eL e 11)::(aq7 e ars pc vs bd k [.row 96 (D.exprs (xE ars pc vs bd e k).snd),X7]))) ((2,iA pc)::(H7 [(8,.ptr 8 0),(9,iA k),(10,.ptr 12 0)])) fun G=>b6 (wp_seq (R3 G (v8 7 [9,1,10,53] (ih (e.kids.getD k cm7) (av7 al) ((xE ars pc vs bd e k).fst.fst) ((xE ars pc vs bd e k).fst.snd) (bX0 he al) (b50 he r1 al) (b49 he r2 al))) [0,0,2,0,14,30,0,127,255,511,511,1023,4095] [0,1,2,3,4,5,6,7,8,11,12,69,70,71] [.dead,dI ars,.dead,dE e.kids,.box [.ref 11,.ref 1,.v (.slice none 0 0),.ref 12],.box (eL e 3),aa6,X7,.box (eL e 9),.row 96 (D.exprs (xE ars pc vs bd e k).snd),.box (eL (ar0 e ars pc vs bd k).snd 13),.row 3 (D.ints (ar0 e ars pc vs bd k).fst.fst),.row 98 (D.stmts (ar0 e ars pc vs bd k).fst.snd),dE (ar0 e ars pc vs bd k).snd.kids] ((2,iA pc)::(H7 [(8,.ptr 8 0),(9,iA k),(10,.ptr 10 0)])) (iX k k e.kids.length []) (iK al co8) fun G=>b6 (Z5 G f8 [0,1,2,3,4,5,6,7,8,11,12,46] (aG5 e ars [aa6,X7,.box (eL e 11),.row 3 (D.ints (ar0 e ars pc vs bd k).fst.fst),.row 98 (D.stmts (ar0 e ars pc vs bd k).fst.snd),.row 96 (D.exprs ((xE ars pc vs bd e k).snd++([y7 (ar0 e ars pc vs bd k).snd]++[])))]) ((2,iA pc)::(H7 [(8,.ptr 8 0),(9,iA k)])) (aP ((xE ars pc vs bd e k).snd.length+([y7 (d8 ars pc (e.kids.getD k cm7) (xE ars pc vs bd e k).fst).snd]++[]).length) 40 []) (aK (by simp only[cn3,cn6,co1,aY4];omega) co8) fun G=>n4 (b6 (M8 G f8 [(9,iA ((k:Int)+1))] [wO ((k:Int)+1)] (o1 al) fun G=>b6 ?_))))))))));exact R2 G (k+1) al al (rg 12) (by have e1:((xE ars pc vs bd e (k+1)).fst.fst:List Int)=((d8 ars pc (e.kids.getD k cm7) (xE ars pc vs bd e k).fst).fst.fst):=(b46 al);have e2:((xE ars pc vs bd e (k+1)).fst.snd:List c5)=((d8 ars pc (e.kids.getD k cm7) (xE ars pc vs bd e k).fst).fst.snd):=(b45 al);have e3:((xE ars pc vs bd e (k+1)).snd:List c6)=((xE ars pc vs bd e k).snd++([y7 (d8 ars pc (e.kids.getD k cm7) (xE ars pc vs bd e k).fst).snd]++[])):=(b44 al);(first|rw[e1,e2,e3]|simp only[e1,e2,e3])<;>rfl)
theorem bp2(ars:List Int)(pc:Int):∀(d:Nat),d<=5->∀(e:c6) (vs:List Int) (bd:List c5),i6 vs.length ars.length d e=true->vs.length+(1+A6 e)<=100000->j5 bd+40*(1+A6 e)<=700000->j7.ok Tryz.prog (leC ars pc vs bd e)
 |0,_,_,_,_,h,_,_=>by simp[i6]at h
 |d+1,hd,e,vs,bd,h,r1,r2=>bA9 e ars pc d hd (fun u _ vs bd h r1 r2=>bp2 ars pc d al u vs bd h r1 r2) vs bd h r1 r2
theorem ba1(ars:List Int)(pc:Int)(e:c6)(vs:List Int)(bd:List c5)(h:i6 vs.length ars.length 5 e=true)(r1:vs.length+(1+A6 e)<=100000)(r2:j5 bd+40*(1+A6 e)<=700000):j7.ok Tryz.prog (leC ars pc vs bd e):=bp2 ars pc 5 (cn4 _) e vs bd h r1 r2
theorem bR5(e:c6)(hb:A6 e<=1048576):j7.ok Tryz.prog ⟨141,[eA e 0],eS e,eS e++[dE e.kids],.agg [iA e.kind,iA e.value,.ref 1]⟩:=
 j7.datPost (S:=eS e) (d:=.exprs e.kids) (a16 e hb) (.agg [iA e.kind,iA e.value,.ref 1])
theorem cg4{bd:List c5}{v t m:Int}{i:c6}{k:Nat}:bd++stL v t i m (k+1)=bd++stL v t i m k++[⟨2,t,⟨1,(k:Int),[]⟩,⟨11,0,[⟨(D5 m (ai7 i (k:Int)) (cnE 0)).kind,(D5 m (ai7 i (k:Int)) (cnE 0)).value,(D5 m (ai7 i (k:Int)) (cnE 0)).kids⟩,⟨2,v,[]⟩,⟨3,t,[⟨1,(k:Int),[]⟩]⟩]⟩,0,[],[]⟩]:=by
 rw[c6.eta,stL,cr6]
theorem cg3{bd:List c5}{v t m:Int}{i:c6}{k:Nat}(hk:k=4):bd++stL v t i m 4=bd++stL v t i m k:=by rw[hk]
abbrev ck7(ars vs:List Int)(bd:List c5)(m pc:Int)(t:c5)(e:c6):j7:=⟨140,[.agg [.ref 0,.ref 1,nlA,.ref 2],sA t 3,eA e 7,iA m,iA pc],[qI vs,dI ars,qT bd]++sS t++[dE e.kids],[qI vs,dI ars,.dead]++sS t++[dE e.kids,qI (vs++[l5 (i9 vs ars 5 ⟨e.kind,e.value,e.kids⟩) pc]),qT (bd++[Y3 (vs.length:Int) ⟨e.kind,e.value,e.kids⟩]++stL (vs.length:Int) t.target ⟨t.index.kind,t.index.value,t.index.kids⟩ m 4)],.agg [.ref 8,.ref 1,nlA,.ref 9]⟩
abbrev aH1(m:Int)(t:c5)(k:Nat):=D5 m (c6.mk 9 0 (ai7 (y7 t.index) (k:Int)).kids) (c6.mk 1 0 [])
abbrev aV5(vs:List Int)(bd:List c5)(m:Int)(t:c5)(e:c6)(k:Nat):=bd++[Y3 (vs.length:Int) (y7 e)]++stL (vs.length:Int) t.target (y7 t.index) m k
abbrev bc4(ars:List Int)(vs:List Int)(pc:Int)(e:c6):=vs++[l5 (i9 vs ars 5 (y7 e)) pc]
abbrev bc3:It:=.box [.v (.slice none 0 0),.v (.slice none 0 0),.v (.slice none 0 0),.v (.slice none 0 0)]
abbrev bW6:It:=.box [.ref 11,.ref 1,.v (.slice none 0 0),.ref 12]
abbrev aG4(ars:List Int)(vs:List Int)(pc:Int)(t:c5)(e:c6)(r0:List It):List It:=.row 3 (D.ints vs)::dI ars::.dead::dE t.index.kids::dE t.value.kids::dT t.body::dT t.els::dE e.kids::bW6::.box (sL t 3)::bc3::.row 3 (D.ints (bc4 ars vs pc e))::r0
abbrev aq6(vs:List Int)(m:Int)(r0:List (Nat×AV)):List (Nat×AV):=(3,iA m)::(5,.ptr 8 0)::(6,.ptr 9 0)::(10,.ptr 10 0)::(11,iA (vs.length:Int))::r0
abbrev aw9(t:c5)(e:c6)(r0:List It):List It:=dE t.index.kids::dE t.value.kids::dT t.body::dT t.els::dE e.kids::r0
theorem bw0(ars vs:List Int)(bd:List c5)(m pc:Int)(t:c5)(e:c6)(he:i6 vs.length ars.length 5 ⟨e.kind,e.value,e.kids⟩=true)(r1:vs.length<=100000)(r2:bd.length<=700000):j7.ok Tryz.prog (ck7 ars vs bd m pc t e):=by
  refine H9 63 Tryz.func140 (.row 3 (D.ints vs)::dI ars::.row 98 (D.stmts bd)::(aw9 t e [])) [(0,.agg [.ref 0,.ref 1,.v (.slice none 0 0),.ref 2]),(1,sA t 3),(2,eA e 7),(3,iA m),(4,iA pc)] fun G=>?_;refine wp_seq (j9 G f8 [0,1,2,3,4,5,6,7,8,16,24,32] (.row 3 (D.ints vs)::dI ars::.row 98 (D.stmts bd)::(aw9 t e [.box [.ref 0,.ref 1,.v (.slice none 0 0),.ref 2],.box (sL t 3),.box (eL e 7),bc3])) [(3,iA m),(4,iA pc),(5,.ptr 8 0),(6,.ptr 9 0),(7,.ptr 10 0),(10,.ptr 11 0)] fun G=>b6 (wp_seq (l6 G f8 [(11,iA 0)] fun G=>b6 (wp_seq (af6 G (H5 (v7 4 [0,1,7] (j7.lend (ab7 vs ars e.kind e.value e.kids ai) [.row 3]) (v7 7 [0,1,2] (ao7 vs ars bd (l5 (i9 vs ars 5 (y7 e)) pc) al) H4)) fz []) [0,0,2,0,14,0,62,127,255,511,511,1023,4095] [0,1,2,3,4,5,6,7,8,9,10,11,68] (.row 3 (D.ints vs)::dI ars::.row 98 (D.stmts bd)::(aw9 t e [.box [.ref 12,.ref 1,.v (.slice none 0 0),.ref 2],.box (sL t 3),.box (eL e 7),bc3,.row 3 (D.ints (bc4 ars vs pc e))])) [(3,iA m),(5,.ptr 8 0),(6,.ptr 9 0),(7,.ptr 10 0),(10,.ptr 11 0),(11,iA (vs.length:Int))] fun G=>b6 (wp_seq (j9 G (v8 3 [12,1,2,7] (V2 (vs++[l5 (i9 vs ars 5 (y7 e)) pc]) ars bd ((vs.length:Int)) e.kind e.value e.kids al)) [0,1,2,3,4,5,6,7,8,9,11,12,37] (aG4 ars vs pc t e [.row 98 (D.stmts (bd++[Y3 (vs.length:Int) (y7 e)]))]) (aq6 vs m []) fun G=>b6 (wp_seq (wp_seq (E8 G f8 (aq6 vs m [(12,iA 0)]) fun G=>b6 (wp_block ?_)))))))))));replace G:=G.as (.row 3 (D.ints vs)::dI ars::.dead::(aw9 t e [.box [.ref 11,.ref 1,.v (.slice none 0 0),.ref 12],.box (sL t 3),.box [.v (.slice none 0 0),.v (.slice none 0 0),.v (.slice none 0 0),.v (.slice none 0 0)],.row 3 (D.ints (vs++[l5 (i9 vs ars 5 (y7 e)) pc])),.row 98 (D.stmts (bd++[Y3 (vs.length:Int) (y7 e)]++stL (vs.length:Int) t.target (y7 t.index) m 0))])) (aq6 vs m [(12,iA 0)]) (by have e1:(bd++[Y3 (vs.length:Int) (y7 e)]++stL (vs.length:Int) t.target (y7 t.index) m 0:List c5)=(bd++[Y3 (vs.length:Int) (y7 e)]):=(by simp only[stL,List.append_nil];done);(first|rw[e1]|simp only[e1])<;>rfl) aj;refine t9 (κ:=Nat) (fun k=>k<=4) (fun k=>4-k) (fun k=>[.row 3 (D.ints vs),dI ars,.dead,dE t.index.kids,dE t.value.kids,dT t.body,dT t.els,dE e.kids,.box [.ref 11,.ref 1,.v (.slice none 0 0),.ref 12],.box (sL t 3),.box [.v (.slice none 0 0),.v (.slice none 0 0),.v (.slice none 0 0),.v (.slice none 0 0)],.row 3 (D.ints (vs++[l5 (i9 vs ars 5 (y7 e)) pc])),.row 98 (.stmts (bd++[Y3 (vs.length:Int) ⟨e.kind,e.value,e.kids⟩]++stL (vs.length:Int) t.target ⟨t.index.kind,t.index.value,t.index.kids⟩ m k))]) (fun k=>[(3,iA m),(5,.ptr 8 0),(6,.ptr 9 0),(10,.ptr 10 0),(11,iA (vs.length:Int)),(12,iA k)]) 0 al (v9.at G _ _) ?_
  clear G;intro k ρ a w hp G;replace G:=v9.at G (aG4 ars vs pc t e [.row 98 (D.stmts (aV5 vs bd m t e k))]) (aq6 vs m [(12,iA k)]);refine wp_seq (wp_seq (l6 G f8 [(31,bA (decide ((k:Int)<4)))] fun G=>b6 (rcD G (fun h0 q0=>?_) fun h0 q0=>?_)))
  · refine wp_exit (t7 (t7 (t5 (b6 (wp_seq (j9 G f8 [0,1,2,3,4,5,6,7,10,11,12] (.row 3 (D.ints vs)::dI ars::.dead::(aw9 t e [.box [.ref 9,.ref 1,.v (.slice none 0 0),.ref 10],.row 3 (D.ints (bc4 ars vs pc e)),.row 98 (D.stmts (aV5 vs bd m t e k))])) [(10,.ptr 8 0)] fun G=>b6 (wp_ret ?_)))))));exact O7 G [0,1,2,3,4,5,6,7,9,10] (by show _=mR [0,1,2,3,4,5,6,7,9,10] (.row 3 (D.ints vs)::dI ars::.dead::(aw9 t e [.row 3 (D.ints (vs++[l5 (i9 vs ars 5 (y7 e)) pc])),.row 98 (D.stmts (bd++[Y3 (vs.length:Int) (y7 e)]++stL (vs.length:Int) t.target (y7 t.index) m 4))]));have e1:(bd++[Y3 (vs.length:Int) (y7 e)]++stL (vs.length:Int) t.target (y7 t.index) m 4:List c5)=(bd++[Y3 (vs.length:Int) (y7 e)]++stL (vs.length:Int) t.target (y7 t.index) m k):=(cg3 (show k=4 by omega));(first|rw[e1]|simp only[e1])<;>rfl)
  refine wp_skip (b6 (wp_seq (wp_block (wp_seq (j9 G (H5 (v7 4 [3] (br5 t.index.kind t.index.value t.index.kids ((k:Int))) (v7 5 [] (L3 0) (v7 6 [45,53] (al9 m 9 0 1 0 ((ai7 (y7 t.index) (k:Int)).kids) ([])) H4))) fz []) [0,1,2,3,4,5,6,7,8,9,10,11,12,61,69] (aG4 ars vs pc t e [.row 98 (D.stmts (aV5 vs bd m t e k)),dE (aH1 m t k).kids,.box [iA (aH1 m t k).kind,iA (aH1 m t k).value,.ref 13]]) (aq6 vs m [(12,iA k),(13,.ptr 14 0)]) fun G=>b6 (wp_seq (af6 G (H5 (v7 2 [] (ao6 ((vs.length:Int))) (v7 6 [] (L3 ((k:Int))) (v7 7 [63] (aw3 t.target 1 ((k:Int)) ([])) (v7 9 [79] (af0 11 ([y7 (D5 m (c6.mk 9 0 (ai7 (c6.mk t.index.kind t.index.value t.index.kids) (k:Int)).kids) (c6.mk 1 0 []))]++([c6.mk 2 (vs.length:Int) []]++([c6.mk 3 t.target [c6.mk 1 (k:Int) []]]++[])))) H4)))) fz []) [0,0,2,0,8,0,38,126,255,511,0,2047] [0,1,2,3,4,5,6,7,8,9,10,11,12,79,95] (aG4 ars vs pc t e [.row 98 (D.stmts (aV5 vs bd m t e k)),dE ([y7 (aH1 m t k)]++([c6.mk 2 (vs.length:Int) []]++([c6.mk 3 t.target [c6.mk 1 (k:Int) []]]++[]))),.box [iA 11,iA 0,.ref 13]]) (aq6 vs m [(12,iA k),(14,.ptr 14 0)]) fun G=>b6 (R3 G (v8 5 [] (L3 ((k:Int)))) [0,1,0,4,0,16,0,124,252,511,1023,2047] [0,1,2,3,4,5,6,7,8,9,10,11,87] (aG4 ars vs pc t e [.row 98 (D.stmts (bd++[Y3 (vs.length:Int) (y7 e)]++stL (vs.length:Int) t.target (y7 t.index) m k++([c5.mk 2 t.target (c6.mk 1 (k:Int) []) (c6.mk 11 0 ([y7 (aH1 m t k)]++([c6.mk 2 (vs.length:Int) []]++([c6.mk 3 t.target [c6.mk 1 (k:Int) []]]++[])))) 0 [] []]++[])))]) (aq6 vs m [(12,iA k)]) (aP ((bd++[Y3 (vs.length:Int) (y7 e)]++stL (vs.length:Int) t.target (y7 t.index) m k).length+([c5.mk (2:Int) t.target (c6.mk (1:Int) (k:Int) []) (c6.mk (11:Int) (0:Int) ([y7 (D5 m (c6.mk (9:Int) (0:Int) (ai7 (c6.mk t.index.kind t.index.value t.index.kids) (k:Int)).kids) (c6.mk (1:Int) (0:Int) []))]++([c6.mk (2:Int) (vs.length:Int) []]++([c6.mk (3:Int) t.target [c6.mk (1:Int) (k:Int) []]]++[])))) (0:Int) [] []]++[]).length) 152 []) (aK (by simp only[cn3,cn6,co1,bm8];omega) co8) fun G=>?_))))))))
  refine n4 (b6 (M8 G f8 [(12,iA ((k:Int)+1))] [wO ((k:Int)+1)] (o1 al) fun G=>b6 ?_));exact R2 G (k+1) al al (rg 13) (by have e1:(bd++[Y3 (vs.length:Int) (y7 e)]++stL (vs.length:Int) t.target (y7 t.index) m (k+1):List c5)=(bd++[Y3 (vs.length:Int) (y7 e)]++stL (vs.length:Int) t.target (y7 t.index) m k++([c5.mk 2 t.target (c6.mk 1 (k:Int) []) (c6.mk 11 0 ([y7 (D5 m (c6.mk 9 0 (ai7 (c6.mk t.index.kind t.index.value t.index.kids) (k:Int)).kids) (c6.mk 1 0 []))]++([c6.mk 2 (vs.length:Int) []]++([c6.mk 3 t.target [c6.mk 1 (k:Int) []]]++[])))) 0 [] []]++[])):=cg4;(first|rw[e1]|simp only[e1])<;>rfl)
abbrev lbC(ars:List Int)(m pc:Int)(vs:List Int)(bd:List c5)(ss:List c5):j7:=⟨91,[.agg [.ref 0,.ref 1,nlA,.ref 3],.ref 2,iA m,iA pc],[qI vs,dI ars,dT ss,qT bd],[.dead,dI ars,dT ss,.dead,qI (m5 ars ss m pc (vs,bd)).1,qT (m5 ars ss m pc (vs,bd)).2],.agg [.ref 4,.ref 1,nlA,.ref 5]⟩
abbrev lnC(ars:List Int)(m pc:Int)(vs:List Int)(ss:List c5):j7:=⟨91,[.agg [.ref 0,.ref 1,nlA,nlA],.ref 2,iA m,iA pc],[qI vs,dI ars,dT ss],[.dead,dI ars,dT ss,qI (m5 ars ss m pc (vs,[])).1,qT (m5 ars ss m pc (vs,[])).2],.agg [.ref 3,.ref 1,nlA,.ref 4]⟩
abbrev bP5(ars:List Int)(m pc:Int)(vs:List Int)(bd:List c5)(ss:List c5):j7:=⟨134,[.agg [.ref 0,.ref 1,nlA,.ref 2],.ref 3,iA m,iA pc],[qI vs,dI ars,qT bd,dT ss],[.dead,dI ars,qT bd,dT ss,qI (m5 ars ss m pc (vs,[])).1,dT (m5 ars ss m pc (vs,[])).2],.tup [.agg [.ref 4,.ref 1,nlA,.ref 2],.ref 5]⟩
theorem bt0(ars:List Int)(m pc:Int)(vs:List Int)(bd:List c5)(ss:List c5)(hB:j7.ok Tryz.prog (lnC ars m pc vs ss)):j7.ok Tryz.prog (bP5 ars m pc vs bd ss):=by
 refine H9 25 Tryz.func134 [.row 3 (D.ints vs),dI ars,.row 98 (D.stmts bd),dT ss] [(0,.agg [.ref 0,.ref 1,.v (.slice none 0 0),.ref 2]),(1,.ref 3),(2,iA m),(3,iA pc)] fun G=>?_;refine wp_seq (j9 G f8 [0,1,2,3,4,12] [.row 3 (D.ints vs),dI ars,.row 98 (D.stmts bd),dT ss,.box [.ref 0,.ref 1,.v (.slice none 0 0),.ref 2],.box [.v (.slice none 0 0),.v (.slice none 0 0),.v (.slice none 0 0),.v (.slice none 0 0)]] [(1,.ref 3),(2,iA m),(3,iA pc),(4,.ptr 4 0),(8,.ptr 5 0),(9,.v (.slice none 0 0))] fun G=>b6 (wp_seq (j9 G (v8 6 [0,1,3] hB) [0,1,2,3,4,5,54,55,62] [.dead,dI ars,.row 98 (D.stmts bd),dT ss,.box [.ref 0,.ref 1,.v (.slice none 0 0),.ref 2],.box [.v (.slice none 0 0),.v (.slice none 0 0),.v (.slice none 0 0),.v (.slice none 0 0)],.row 3 (D.ints (m5 ars ss m pc (vs,[])).fst),.row 98 (D.stmts (m5 ars ss m pc (vs,[])).snd),.box [.ref 6,.ref 1,.v (.slice none 0 0),.ref 7]] [(4,.ptr 4 0),(8,.ptr 5 0),(9,.v (.slice none 0 0)),(10,.ptr 8 0)] fun G=>b6 (wp_seq (af6 G f8 [0,1,0,4,15,0,32,31,255] [0,1,2,3,5,6,7] [.dead,dI ars,.row 98 (D.stmts bd),dT ss,.box [.ref 5,.ref 1,.v (.slice none 0 0),.ref 2],.row 3 (D.ints (m5 ars ss m pc (vs,[])).fst),.row 98 (D.stmts (m5 ars ss m pc (vs,[])).snd)] [(8,.ptr 4 0),(9,.ref 6)] fun G=>b6 (wp_ret ?_))))));obtain⟨ρ,G⟩:=G.frz [.no,.no,.no,.no,.no,.no,.row 98] [.dead,dI ars,.row 98 (D.stmts bd),dT ss,.box [.ref 5,.ref 1,.v (.slice none 0 0),.ref 2],.row 3 (D.ints (m5 ars ss m pc (vs,[])).fst),dT (m5 ars ss m pc (vs,[])).snd] [(8,.ptr 4 0),(9,.ref 6)];exact O7 G [0,1,2,3,5,6]
abbrev cb1(ars:List Int)(m pc:Int)(vs:List Int)(bd:List c5)(t:c5):j7:=⟨133,[.agg [.ref 0,.ref 1,nlA,.ref 2],sA t 3,iA m,iA pc],[qI vs,dI ars,qT bd]++sS t,[.dead,dI ars,.dead]++sS t++[qI (I9 ars t m pc (vs,bd)).1,qT (I9 ars t m pc (vs,bd)).2],.agg [.ref 7,.ref 1,nlA,.ref 8]⟩
section
variable{ars vs:List Int}{bd:List c5}{m pc:Int}{t:c5}{nv dd:Nat}
theorem bG7(hh:F0 nv ars.length t=true)(k3:t.kind=3)(hv:nv<=vs.length):i6 vs.length ars.length 5 t.value=true:=G3 hv 5 _ (B6 hh al)
theorem ck9(hh:F0 nv ars.length t=true)(k3:t.kind=3)(hv:nv<=vs.length):Grw vs.length ars.length 5 (1+A6 t.value) (vs,bd) (d8 ars pc t.value (vs,bd)).1:=(an5 ars pc ars.length 5 t.value (vs,bd) (bG7 hh k3 hv)).1
theorem b15(hh:F0 nv ars.length t=true)(k3:t.kind=3)(hv:nv<=vs.length)(r1:vs.length+4*(1+M4 t)<=90000)(r2:j5 bd+130*(1+M4 t)<=600000):(d8 ars pc t.value (vs,bd)).1.1.length+3*(1+A6 t.value)+4*j5 t.body+4*j5 t.els<=90000/\nv<=(d8 ars pc t.value (vs,bd)).1.1.length/\j5 (d8 ars pc t.value (vs,bd)).1.2+60*(1+A6 t.value)+130*j5 t.body+130*j5 t.els<=600000/\(d8 ars pc t.value (vs,bd)).1.2.length<=600000:=by
 have g:=ck9 (pc:=pc) (bd:=bd) hh k3 hv
 have a:=g.lo;have b:=g.hi;have c:=g.st
 have hsz:M4 t=A6 t.index+A6 t.value+j5 t.body+j5 t.els:=by cases t;rfl
 have:=N0 (d8 ars pc t.value (vs,bd)).1.2
 simp only at a b c
 omega
end
abbrev etE(e:c6):c6:=⟨e.kind,e.value,e.kids⟩
abbrev ifN(x:LnS×c6)(m l:Int):LnS:=(x.1.1++[l]++[l],x.1.2++[Y3 (x.1.1.length:Int) (etE (D5 m (etE x.2) ⟨1,0,[]⟩))]++[Y3 ((x.1.1++[l]).length:Int) (etE (D5 m ⟨9,0,[⟨2,(x.1.1.length:Int),[]⟩]++([⟨1,0,[]⟩]++[])⟩ ⟨1,0,[]⟩))])
theorem bG8(x:LnS×c6)(m l:Int):ifN x m l=ifM x m l:=by
 unfold ifN ifM etE
 simp only[c6.eta]
 rfl
theorem b16(x:LnS×c6)(m l:Int):j5 (ifM x m l).2<=j5 x.1.2+20+A6 x.2/\(ifM x m l).1.length=x.1.1.length+2:=by
 have m1:=ag1 m x.2 (cnE 0)
 have m2:=ag1 m ⟨9,0,[vrE (x.1.1.length:Int),cnE 0]⟩ (cnE 0)
 have m3:A6 ⟨9,0,[vrE (x.1.1.length:Int),cnE 0]⟩=2:=rfl
 have e0:A6 nnE=0:=rfl
 have e1:A6 (cnE 0)=0:=rfl
 constructor
 ·simp only[ifM,y6,j5,M4,e0];omega
 simp[ifM]
section
variable{ars vs:List Int}{bd:List c5}{m pc l:Int}{t:c5}{nv dd:Nat}
theorem cb5(hh:F0 nv ars.length t=true)(k3:t.kind=3)(hv:nv<=vs.length)(r1:vs.length+4*(1+M4 t)<=90000)(r2:j5 bd+130*(1+M4 t)<=600000):
  nv<=(ifN (d8 ars pc t.value (vs,bd)) m l).1.length/\(ifN (d8 ars pc t.value (vs,bd)) m l).1.length+4*j5 t.body+4*j5 t.els<=90000/\j5 (ifN (d8 ars pc t.value (vs,bd)) m l).2+130*j5 t.body+130*j5 t.els<=600000:=by
 have hb:=b15 (pc:=pc) (bd:=bd) hh k3 hv r1 r2
 have hz:=b16 (d8 ars pc t.value (vs,bd)) m l
 have h3:=(an5 ars pc ars.length 5 t.value (vs,bd) (bG7 hh k3 hv)).2.2
 rw[bG8]
 omega
theorem cb4(hh:F0 nv ars.length t=true)(k3:t.kind=3)(hv:nv<=vs.length)(r1:vs.length+4*(1+M4 t)<=90000)(r2:j5 bd+130*(1+M4 t)<=600000):j5 (ifN (d8 ars pc t.value (vs,bd)) m l).2+130*j5 t.body<=600000:=by have:=(cb5 (m:=m) (l:=l) (pc:=pc) hh k3 hv r1 r2).2.2;omega
theorem b13{u:Int}(hbb:t.body.all (j6 nv ars.length dd)=true)(hh:F0 nv ars.length t=true)(k3:t.kind=3)(hv:nv<=vs.length)(r1:vs.length+4*(1+M4 t)<=90000)(r2:j5 bd+130*(1+M4 t)<=600000):
  nv<=(m5 ars t.body u l (ifN (d8 ars pc t.value (vs,bd)) m l)).1.length/\(m5 ars t.body u l (ifN (d8 ars pc t.value (vs,bd)) m l)).1.length+4*j5 t.els<=90000/\j5 (m5 ars t.body u l (ifN (d8 ars pc t.value (vs,bd)) m l)).2+130*j5 t.els<=600000:=by
 have h:=cb5 (m:=m) (l:=l) (pc:=pc) hh k3 hv r1 r2
 have g:=aZ8 ars t.body u l (ifN (d8 ars pc t.value (vs,bd)) m l) hbb h.1
 have a:=g.lo;have b:=g.hi;have c:=g.st
 omega
theorem cb6(hbb:t.body.all (j6 nv ars.length dd)=true)(hh:F0 nv ars.length t=true)(k3:t.kind=3)(hv:nv<=vs.length)(r1:vs.length+4*(1+M4 t)<=90000)(r2:j5 bd+130*(1+M4 t)<=600000):
  nv<=(m5 ars t.body m l ((d8 ars pc t.value (vs,bd)).1.1,[])).1.length/\(m5 ars t.body m l ((d8 ars pc t.value (vs,bd)).1.1,[])).1.length+4*j5 t.els<=90000:=by
 have hb:=b15 (pc:=pc) (bd:=bd) hh k3 hv r1 r2
 have g:=aZ8 ars t.body m l ((d8 ars pc t.value (vs,bd)).1.1,[]) hbb hb.2.1
 have a:=g.lo;have b:=g.hi
 simp only at a b
 omega
abbrev lbV(ars vs:List Int)(pc:Int)(t:c5):Int:=l5 pc (i9 vs ars 5 (etE t.value))
theorem cb8(k3:t.kind=3)(h:(!(i8 (i9 vs ars 5 (etE t.value))&&decide (i9 vs ars 5 (etE t.value)%2=1)))=false):I9 ars t m pc (vs,bd)=m5 ars t.els (((d8 ars pc t.value (vs,bd)).1.1++[lbV ars vs pc t]).length:Int) (lbV ars vs pc t) (m5 ars t.body ((d8 ars pc t.value (vs,bd)).1.1.length:Int) (lbV ars vs pc t) (ifN (d8 ars pc t.value (vs,bd)) m (lbV ars vs pc t))):=by
 rw[cp7]at h
 rw[bG8]
 unfold lbV
 rw[show etE t.value=t.value from c6.eta _]at h ⊢
 exact ca7 k3 h
theorem cc0(k3:t.kind=3)(h:(!(i8 (i9 vs ars 5 (etE t.value))&&decide (i9 vs ars 5 (etE t.value)%2=1)))=true):I9 ars t m pc (vs,bd)=((m5 ars t.els m (lbV ars vs pc t) ((m5 ars t.body m (lbV ars vs pc t) ((d8 ars pc t.value (vs,bd)).1.1,[])).1,[])).1,
  (d8 ars pc t.value (vs,bd)).1.2++[⟨3,0,⟨0,0,[]⟩,etE (d8 ars pc t.value (vs,bd)).2,0,(m5 ars t.body m (lbV ars vs pc t) ((d8 ars pc t.value (vs,bd)).1.1,[])).2,(m5 ars t.els m (lbV ars vs pc t) ((m5 ars t.body m (lbV ars vs pc t) ((d8 ars pc t.value (vs,bd)).1.1,[])).1,[])).2⟩]):=by
 rw[co9]at h
 rw[show etE (d8 ars pc t.value (vs,bd)).2=(d8 ars pc t.value (vs,bd)).2 from c6.eta _]
 unfold lbV
 rw[show etE t.value=t.value from c6.eta _]at h ⊢
 exact ca8 k3 h
theorem cb9(k3:t.kind=3)(h:(!(i8 (i9 vs ars 5 (etE t.value))&&decide (i9 vs ars 5 (etE t.value)%2=1)))=true):(I9 ars t m pc (vs,bd)).1=(m5 ars t.els m (lbV ars vs pc t) ((m5 ars t.body m (lbV ars vs pc t) ((d8 ars pc t.value (vs,bd)).1.1,[])).1,[])).1:=by rw[cc0 k3 h]
theorem cb7(k3:t.kind=3)(h:(!(i8 (i9 vs ars 5 (etE t.value))&&decide (i9 vs ars 5 (etE t.value)%2=1)))=false):(I9 ars t m pc (vs,bd)).1=(m5 ars t.els (((d8 ars pc t.value (vs,bd)).1.1++[lbV ars vs pc t]).length:Int) (lbV ars vs pc t) (m5 ars t.body ((d8 ars pc t.value (vs,bd)).1.1.length:Int) (lbV ars vs pc t) (ifN (d8 ars pc t.value (vs,bd)) m (lbV ars vs pc t)))).1:=by rw[cb8 k3 h]
end
abbrev aH0(ars:List Int)(t:c5)(m:Int)(pc:Int)(vs:List Int)(bd:List c5):=m5 ars t.body ((d8 ars pc t.value (vs,bd)).fst.fst.length:Int) (l5 pc (i9 vs ars 5 (y7 t.value))) ((d8 ars pc t.value (vs,bd)).fst.fst++[l5 pc (i9 vs ars 5 (y7 t.value))]++[l5 pc (i9 vs ars 5 (y7 t.value))],(d8 ars pc t.value (vs,bd)).fst.snd++[Y3 ((d8 ars pc t.value (vs,bd)).fst.fst.length:Int) (y7 (D5 m (c6.mk (d8 ars pc t.value (vs,bd)).snd.kind (d8 ars pc t.value (vs,bd)).snd.value (d8 ars pc t.value (vs,bd)).snd.kids) (c6.mk 1 0 [])))]++[Y3 (((d8 ars pc t.value (vs,bd)).fst.fst++[l5 pc (i9 vs ars 5 (y7 t.value))]).length:Int) (y7 (D5 m (c6.mk 9 0 ([c6.mk 2 ((d8 ars pc t.value (vs,bd)).fst.fst.length:Int) []]++([c6.mk 1 0 []]++[]))) (c6.mk 1 0 [])))])
abbrev G2(ars:List Int)(t:c5)(vs:List Int):=i9 vs ars 5 (y7 t.value)
abbrev aV3(ars:List Int)(t:c5)(pc:Int)(vs:List Int)(bd:List c5):=y7 (d8 ars pc t.value (vs,bd)).snd
abbrev aq9(ars:List Int)(t:c5)(m:Int)(pc:Int)(vs:List Int)(bd:List c5):=m5 ars t.body m (l5 pc (G2 ars t vs)) ((d8 ars pc t.value (vs,bd)).fst.fst,[])
abbrev aq8(ars:List Int)(t:c5)(m:Int)(pc:Int)(vs:List Int)(bd:List c5):=m5 ars t.els m (l5 pc (G2 ars t vs)) ((aq9 ars t m pc vs bd).fst,[])
abbrev aV4(ars:List Int)(t:c5)(m:Int)(pc:Int)(vs:List Int)(bd:List c5):=y7 (D5 m (aV3 ars t pc vs bd) (c6.mk 1 0 []))
abbrev V4:It:=.box [.v (.slice none 0 0),.v (.slice none 0 0),.v (.slice none 0 0),.v (.slice none 0 0)]
abbrev U6(ars:List Int)(t:c5)(r0:List It):List It:=.dead::dI ars::.dead::dE t.index.kids::dE t.value.kids::dT t.body::dT t.els::r0
abbrev X5(ars:List Int)(t:c5)(pc:Int)(vs:List Int)(r0:List (Nat×AV)):List (Nat×AV):=(3,iA pc)::(4,.ptr 7 0)::(5,.ptr 8 0)::(8,.ptr 9 0)::(9,iA (G2 ars t vs))::r0
abbrev bc1(ars:List Int)(t:c5)(pc:Int)(vs:List Int)(bd:List c5)(r0:List It):List It:=.box (sL t 3)::V4::.box [iA (d8 ars pc t.value (vs,bd)).snd.kind,iA (d8 ars pc t.value (vs,bd)).snd.value,.ref 12]::.row 98 (D.stmts (d8 ars pc t.value (vs,bd)).fst.snd)::dE (d8 ars pc t.value (vs,bd)).snd.kids::r0
theorem bY2(ars:List Int)(nv dd:Nat)(t:c5)(k3:t.kind=3)(hh:F0 nv ars.length t=true)(hbb:t.body.all (j6 nv ars.length dd)=true)(hbe:t.els.all (j6 nv ars.length dd)=true)
    (hB:∀(tt:List c5) (m pc:Int) (vs:List Int) (bd:List c5),tt.all (j6 nv ars.length dd)=true->nv<=vs.length->vs.length+4*j5 tt<=90000->j5 bd+130*j5 tt<=600000->j7.ok Tryz.prog (lbC ars m pc vs bd tt))
    (hI:∀(tt:List c5) (m pc:Int) (vs:List Int) (bd:List c5),tt.all (j6 nv ars.length dd)=true->nv<=vs.length->vs.length+4*j5 tt<=90000->130*j5 tt<=600000->j7.ok Tryz.prog (bP5 ars m pc vs bd tt))
    (m pc:Int) (vs:List Int) (bd:List c5) (hv:nv<=vs.length) (r1:vs.length+4*(1+M4 t)<=90000) (r2:j5 bd+130*(1+M4 t)<=600000):j7.ok Tryz.prog (cb1 ars m pc vs bd t):=by
  refine H9 116 Tryz.func133 [.row 3 (D.ints vs),dI ars,.row 98 (D.stmts bd),dE t.index.kids,dE t.value.kids,dT t.body,dT t.els] [(0,.agg [.ref 0,.ref 1,.v (.slice none 0 0),.ref 2]),(1,sA t 3),(2,iA m),(3,iA pc)] fun G=>?_
  have hsz:M4 t=A6 t.index+A6 t.value+j5 t.body+j5 t.els:=by cases t;rfl
  have hsh:=bG7 (vs:=vs) hh k3 hv;have hbd:=b15 (pc:=pc) (bd:=bd) hh k3 hv r1 r2;refine wp_seq (j9 G f8 [0,1,2,3,4,5,6,7,15,23] [.row 3 (D.ints vs),dI ars,.row 98 (D.stmts bd),dE t.index.kids,dE t.value.kids,dT t.body,dT t.els,.box [.ref 0,.ref 1,.v (.slice none 0 0),.ref 2],.box (sL t 3),V4] [(2,iA m),(3,iA pc),(4,.ptr 7 0),(5,.ptr 8 0),(8,.ptr 9 0)] fun G=>b6 (wp_seq (l6 G (v8 4 [0,1,4] (j7.lend (ab7 vs ars t.value.kind t.value.value t.value.kids ai) [.row 3])) [(9,iA (G2 ars t vs))] fun G=>b6 (wp_seq (j9 G f8 [0,1,2,3,4,5,6,7,8,9,18] [.row 3 (D.ints vs),dI ars,.row 98 (D.stmts bd),dE t.index.kids,dE t.value.kids,dT t.body,dT t.els,.box [.ref 0,.ref 1,.v (.slice none 0 0),.ref 2],.box (sL t 3),V4,.box [iA 0,iA 0,.v (.slice none 0 0)]] ((2,iA m)::(X5 ars t pc vs [(10,.ptr 10 0)])) fun G=>b6 (wp_seq (j9 G (v8 4 [0,1,2,4] (ba1 ars pc t.value vs bd ai al al)) [0,1,2,3,4,5,6,7,8,9,10,43,44,45] (U6 ars t [.box [.ref 11,.ref 1,.v (.slice none 0 0),.ref 12],.box (sL t 3),V4,.box [iA (d8 ars pc t.value (vs,bd)).snd.kind,iA (d8 ars pc t.value (vs,bd)).snd.value,.ref 13],.row 3 (D.ints (d8 ars pc t.value (vs,bd)).fst.fst),.row 98 (D.stmts (d8 ars pc t.value (vs,bd)).fst.snd),dE (d8 ars pc t.value (vs,bd)).snd.kids]) ((2,iA m)::(X5 ars t pc vs [(10,.ptr 10 0)])) fun G=>b6 (wp_seq (wp_seq (l6 G (v8 1 [] (L5 (i9 vs ars 5 (y7 t.value)))) [(31,.v (.bool !(i8 (G2 ars t vs)&&decide (i9 vs ars 5 (y7 t.value)%2=1))))] fun G=>b6 ?_))))))))));cases h0:(!(i8 (i9 vs ars (5:Nat) (y7 t.value))&&decide (i9 vs ars (5:Nat) (y7 t.value)%(2:Int)=1)))
  ·
   have q0:((i8 (i9 vs ars 5 (y7 t.value)))=true)/\(i9 vs ars 5 (y7 t.value)%2=1):=(fun hq=>And.imp (fun hq=>(hq)) (fun hq=>of_decide_eq_true hq) (Bool.and_eq_true_iff.1 hq)) (Eq.mp (cp7 _) h0);refine rF G _ h0 (wp_skip (b6 (wp_seq (l6 G f8 [(13,iA 0),(14,iA 0)] fun G=>b6 (wp_seq (j9 G (v8 4 [11,1,12] (ao7 ((d8 ars pc t.value (vs,bd)).fst.fst) ars ((d8 ars pc t.value (vs,bd)).fst.snd) (l5 pc (i9 vs ars 5 (y7 t.value))) al)) [0,1,2,3,4,5,6,7,8,9,10,12,13,46] (U6 ars t (.box [.ref 13,.ref 1,.v (.slice none 0 0),.ref 11]::(bc1 ars t pc vs bd [.row 3 (D.ints ((d8 ars pc t.value (vs,bd)).fst.fst++[l5 pc (G2 ars t vs)]))]))) ((2,iA m)::(X5 ars t pc vs [(10,.ptr 10 0),(13,iA ((d8 ars pc t.value (vs,bd)).fst.fst.length:Int)),(14,iA 0)])) fun G=>b6 (wp_seq (af6 G (H5 (v7 4 [] (L3 0) (v7 5 [12,46] (al9 m ((d8 ars pc t.value (vs,bd)).snd.kind) ((d8 ars pc t.value (vs,bd)).snd.value) 1 0 ((d8 ars pc t.value (vs,bd)).snd.kids) ([])) (v7 6 [13,1,11,54] (V2 ((d8 ars pc t.value (vs,bd)).fst.fst++[l5 pc (i9 vs ars 5 (y7 t.value))]) ars ((d8 ars pc t.value (vs,bd)).fst.snd) (((d8 ars pc t.value (vs,bd)).fst.fst.length:Int)) ((D5 m (y7 (d8 ars pc t.value (vs,bd)).snd) (c6.mk 1 0 [])).kind) ((D5 m (y7 (d8 ars pc t.value (vs,bd)).snd) (c6.mk 1 0 [])).value) ((D5 m (y7 (d8 ars pc t.value (vs,bd)).snd) (c6.mk 1 0 [])).kids) al) H4))) fz []) [0,0,0,0,0,28,63,127] [0,1,2,3,4,5,6,7,8,9,13,62] (U6 ars t [.box [.ref 10,.ref 1,.v (.slice none 0 0),.ref 11],.box (sL t 3),V4,.row 3 (D.ints ((d8 ars pc t.value (vs,bd)).fst.fst++[l5 pc (G2 ars t vs)])),.row 98 (D.stmts ((d8 ars pc t.value (vs,bd)).fst.snd++[Y3 ((d8 ars pc t.value (vs,bd)).fst.fst.length:Int) (aV4 ars t m pc vs bd)]))]) ((2,iA m)::(X5 ars t pc vs [(13,iA ((d8 ars pc t.value (vs,bd)).fst.fst.length:Int)),(14,iA 0)])) fun G=>b6 (wp_seq (j9 G (v8 4 [10,1,11] (ao7 ((d8 ars pc t.value (vs,bd)).fst.fst++[l5 pc (i9 vs ars 5 (y7 t.value))]) ars ((d8 ars pc t.value (vs,bd)).fst.snd++[Y3 ((d8 ars pc t.value (vs,bd)).fst.fst.length:Int) (y7 (D5 m (c6.mk (d8 ars pc t.value (vs,bd)).snd.kind (d8 ars pc t.value (vs,bd)).snd.value (d8 ars pc t.value (vs,bd)).snd.kids) (c6.mk 1 0 [])))]) (l5 pc (i9 vs ars 5 (y7 t.value))) (by simp only[cn3,cn6,co1];omega))) [0,1,2,3,4,5,6,7,8,9,11,44] (U6 ars t [.box [.ref 11,.ref 1,.v (.slice none 0 0),.ref 10],.box (sL t 3),V4,.row 98 (D.stmts ((d8 ars pc t.value (vs,bd)).fst.snd++[Y3 ((d8 ars pc t.value (vs,bd)).fst.fst.length:Int) (aV4 ars t m pc vs bd)])),.row 3 (D.ints ((d8 ars pc t.value (vs,bd)).fst.fst++[l5 pc (G2 ars t vs)]++[l5 pc (G2 ars t vs)]))]) ((2,iA m)::(X5 ars t pc vs [(13,iA ((d8 ars pc t.value (vs,bd)).fst.fst.length:Int)),(14,iA (((d8 ars pc t.value (vs,bd)).fst.fst++[l5 pc (G2 ars t vs)]).length:Int))])) fun G=>?_))))))))))
   refine b6 (wp_seq (af6 G (H5 (v7 4 [] (ao6 (((d8 ars pc t.value (vs,bd)).fst.fst.length:Int))) (v7 5 [] (L3 0) (v7 7 [60] (af0 9 ([c6.mk 2 ((d8 ars pc t.value (vs,bd)).fst.fst.length:Int) []]++([c6.mk 1 0 []]++[]))) (v7 8 [] (L3 0) (v7 9 [60,76] (al9 m 9 0 1 0 ([c6.mk 2 ((d8 ars pc t.value (vs,bd)).fst.fst.length:Int) []]++([c6.mk 1 0 []]++[])) ([])) (v7 10 [11,1,10,84] (V2 ((d8 ars pc t.value (vs,bd)).fst.fst++[l5 pc (i9 vs ars 5 (y7 t.value))]++[l5 pc (i9 vs ars 5 (y7 t.value))]) ars ((d8 ars pc t.value (vs,bd)).fst.snd++[Y3 ((d8 ars pc t.value (vs,bd)).fst.fst.length:Int) (y7 (D5 m (c6.mk (d8 ars pc t.value (vs,bd)).snd.kind (d8 ars pc t.value (vs,bd)).snd.value (d8 ars pc t.value (vs,bd)).snd.kids) (c6.mk 1 0 [])))]) ((((d8 ars pc t.value (vs,bd)).fst.fst++[l5 pc (i9 vs ars 5 (y7 t.value))]).length:Int)) ((D5 m (c6.mk 9 0 ([c6.mk 2 ((d8 ars pc t.value (vs,bd)).fst.fst.length:Int) []]++([c6.mk 1 0 []]++[]))) (c6.mk 1 0 [])).kind) ((D5 m (c6.mk 9 0 ([c6.mk 2 ((d8 ars pc t.value (vs,bd)).fst.fst.length:Int) []]++([c6.mk 1 0 []]++[]))) (c6.mk 1 0 [])).value) ((D5 m (c6.mk 9 0 ([c6.mk 2 ((d8 ars pc t.value (vs,bd)).fst.fst.length:Int) []]++([c6.mk 1 0 []]++[]))) (c6.mk 1 0 [])).kids) (by simp only[cn3,cn6,co1];omega)) H4)))))) fz []) [0,0,0,0,8,24,56,120,248,508,1023,2047] [0,1,2,3,4,5,6,7,8,9,11,92] (U6 ars t [.box [.ref 10,.ref 1,.v (.slice none 0 0),.ref 11],.box (sL t 3),V4,.row 3 (D.ints ((d8 ars pc t.value (vs,bd)).fst.fst++[l5 pc (G2 ars t vs)]++[l5 pc (G2 ars t vs)])),.row 98 (D.stmts ((d8 ars pc t.value (vs,bd)).fst.snd++[Y3 ((d8 ars pc t.value (vs,bd)).fst.fst.length:Int) (aV4 ars t m pc vs bd)]++[Y3 (((d8 ars pc t.value (vs,bd)).fst.fst++[l5 pc (G2 ars t vs)]).length:Int) (y7 (D5 m (c6.mk 9 0 ([c6.mk 2 ((d8 ars pc t.value (vs,bd)).fst.fst.length:Int) []]++([c6.mk 1 0 []]++[]))) (c6.mk 1 0 [])))]))]) (X5 ars t pc vs [(13,iA ((d8 ars pc t.value (vs,bd)).fst.fst.length:Int)),(14,iA (((d8 ars pc t.value (vs,bd)).fst.fst++[l5 pc (G2 ars t vs)]).length:Int))]) fun G=>b6 (wp_seq (j9 G (v8 7 [10,1,5,11] (hB t.body (((d8 ars pc t.value (vs,bd)).fst.fst.length:Int)) (l5 pc (i9 vs ars 5 (y7 t.value))) ((d8 ars pc t.value (vs,bd)).fst.fst++[l5 pc (i9 vs ars 5 (y7 t.value))]++[l5 pc (i9 vs ars 5 (y7 t.value))]) ((d8 ars pc t.value (vs,bd)).fst.snd++[Y3 ((d8 ars pc t.value (vs,bd)).fst.fst.length:Int) (y7 (D5 m (c6.mk (d8 ars pc t.value (vs,bd)).snd.kind (d8 ars pc t.value (vs,bd)).snd.value (d8 ars pc t.value (vs,bd)).snd.kids) (c6.mk 1 0 [])))]++[Y3 (((d8 ars pc t.value (vs,bd)).fst.fst++[l5 pc (i9 vs ars 5 (y7 t.value))]).length:Int) (y7 (D5 m (c6.mk 9 0 ([c6.mk 2 ((d8 ars pc t.value (vs,bd)).fst.fst.length:Int) []]++([c6.mk 1 0 []]++[]))) (c6.mk 1 0 [])))]) ai (by simp only[cn3,cn6,co1];omega) (by simp only[cn3,cn6,co1];omega) (cb4 hh k3 hv r1 r2))) [0,1,2,3,4,5,6,7,8,9,68,69] (U6 ars t [.box [.ref 10,.ref 1,.v (.slice none 0 0),.ref 11],.box (sL t 3),V4,.row 3 (D.ints (aH0 ars t m pc vs bd).fst),.row 98 (D.stmts (aH0 ars t m pc vs bd).snd)]) (X5 ars t pc vs [(14,iA (((d8 ars pc t.value (vs,bd)).fst.fst++[l5 pc (G2 ars t vs)]).length:Int))]) fun G=>?_))))
   refine b6 (wp_seq (j9 G (v8 7 [10,1,6,11] (hB t.els ((((d8 ars pc t.value (vs,bd)).fst.fst++[l5 pc (i9 vs ars 5 (y7 t.value))]).length:Int)) (l5 pc (i9 vs ars 5 (y7 t.value))) ((m5 ars t.body ((d8 ars pc t.value (vs,bd)).fst.fst.length:Int) (l5 pc (i9 vs ars 5 (y7 t.value))) ((d8 ars pc t.value (vs,bd)).fst.fst++[l5 pc (i9 vs ars 5 (y7 t.value))]++[l5 pc (i9 vs ars 5 (y7 t.value))],(d8 ars pc t.value (vs,bd)).fst.snd++[Y3 ((d8 ars pc t.value (vs,bd)).fst.fst.length:Int) (y7 (D5 m (c6.mk (d8 ars pc t.value (vs,bd)).snd.kind (d8 ars pc t.value (vs,bd)).snd.value (d8 ars pc t.value (vs,bd)).snd.kids) (c6.mk 1 0 [])))]++[Y3 (((d8 ars pc t.value (vs,bd)).fst.fst++[l5 pc (i9 vs ars 5 (y7 t.value))]).length:Int) (y7 (D5 m (c6.mk 9 0 ([c6.mk 2 ((d8 ars pc t.value (vs,bd)).fst.fst.length:Int) []]++([c6.mk 1 0 []]++[]))) (c6.mk 1 0 [])))])).fst) ((m5 ars t.body ((d8 ars pc t.value (vs,bd)).fst.fst.length:Int) (l5 pc (i9 vs ars 5 (y7 t.value))) ((d8 ars pc t.value (vs,bd)).fst.fst++[l5 pc (i9 vs ars 5 (y7 t.value))]++[l5 pc (i9 vs ars 5 (y7 t.value))],(d8 ars pc t.value (vs,bd)).fst.snd++[Y3 ((d8 ars pc t.value (vs,bd)).fst.fst.length:Int) (y7 (D5 m (c6.mk (d8 ars pc t.value (vs,bd)).snd.kind (d8 ars pc t.value (vs,bd)).snd.value (d8 ars pc t.value (vs,bd)).snd.kids) (c6.mk 1 0 [])))]++[Y3 (((d8 ars pc t.value (vs,bd)).fst.fst++[l5 pc (i9 vs ars 5 (y7 t.value))]).length:Int) (y7 (D5 m (c6.mk 9 0 ([c6.mk 2 ((d8 ars pc t.value (vs,bd)).fst.fst.length:Int) []]++([c6.mk 1 0 []]++[]))) (c6.mk 1 0 [])))])).snd) ai ((b13 hbb hh k3 hv r1 r2).1) ((b13 hbb hh k3 hv r1 r2).2.1) ((b13 hbb hh k3 hv r1 r2).2.2))) [0,1,2,3,4,5,6,9,68,69] (U6 ars t [.box [.ref 8,.ref 1,.v (.slice none 0 0),.ref 9],.row 3 (D.ints (m5 ars t.els (((d8 ars pc t.value (vs,bd)).fst.fst++[l5 pc (G2 ars t vs)]).length:Int) (l5 pc (G2 ars t vs)) (aH0 ars t m pc vs bd)).fst),.row 98 (D.stmts (m5 ars t.els (((d8 ars pc t.value (vs,bd)).fst.fst++[l5 pc (G2 ars t vs)]).length:Int) (l5 pc (G2 ars t vs)) (aH0 ars t m pc vs bd)).snd)]) [(8,.ptr 7 0)] fun G=>?_))
   refine b6 (wp_ret ?_);exact O7 G [0,1,2,3,4,5,6,8,9] (by show _=mR [0,1,2,3,4,5,6,8,9] [.dead,dI ars,.dead,dE t.index.kids,dE t.value.kids,dT t.body,dT t.els,.row 3 (D.ints (I9 ars t m pc (vs,bd)).fst),.row 98 (D.stmts (I9 ars t m pc (vs,bd)).snd)];have e1:((I9 ars t m pc (vs,bd)).fst:List Int)=((m5 ars t.els (((d8 ars pc t.value (vs,bd)).fst.fst++[l5 pc (i9 vs ars 5 (y7 t.value))]).length:Int) (l5 pc (i9 vs ars 5 (y7 t.value))) (m5 ars t.body ((d8 ars pc t.value (vs,bd)).fst.fst.length:Int) (l5 pc (i9 vs ars 5 (y7 t.value))) ((d8 ars pc t.value (vs,bd)).fst.fst++[l5 pc (i9 vs ars 5 (y7 t.value))]++[l5 pc (i9 vs ars 5 (y7 t.value))],(d8 ars pc t.value (vs,bd)).fst.snd++[Y3 ((d8 ars pc t.value (vs,bd)).fst.fst.length:Int) (y7 (D5 m (c6.mk (d8 ars pc t.value (vs,bd)).snd.kind (d8 ars pc t.value (vs,bd)).snd.value (d8 ars pc t.value (vs,bd)).snd.kids) (c6.mk 1 0 [])))]++[Y3 (((d8 ars pc t.value (vs,bd)).fst.fst++[l5 pc (i9 vs ars 5 (y7 t.value))]).length:Int) (y7 (D5 m (c6.mk 9 0 ([c6.mk 2 ((d8 ars pc t.value (vs,bd)).fst.fst.length:Int) []]++([c6.mk 1 0 []]++[]))) (c6.mk 1 0 [])))]))).fst):=(cb7 k3 ab);have e2:((I9 ars t m pc (vs,bd)).snd:List c5)=((m5 ars t.els (((d8 ars pc t.value (vs,bd)).fst.fst++[l5 pc (G2 ars t vs)]).length:Int) (l5 pc (G2 ars t vs)) (aH0 ars t m pc vs bd)).snd):=(congrArg Prod.snd (cb8 k3 ab));(first|rw[e1,e2]|simp only[e1,e2])<;>rfl)
  have q0:((i8 (i9 vs ars 5 (y7 t.value)))=false)\/(¬(i9 vs ars 5 (y7 t.value)%2=1)):=(fun hq=>Or.imp (fun hq=>(hq)) (fun hq=>of_decide_eq_false hq) (Bool.and_eq_false_iff.1 hq)) (Eq.mp (co9 _) h0);refine rT G _ h0 (wp_seq (j9 G f8 [0,1,2,3,4,5,6,7,8,9,10,11,12,13,14,22] (U6 ars t [.box [.ref 11,.ref 1,.v (.slice none 0 0),.ref 12],.box (sL t 3),V4,.box [iA (d8 ars pc t.value (vs,bd)).snd.kind,iA (d8 ars pc t.value (vs,bd)).snd.value,.ref 13],.row 3 (D.ints (d8 ars pc t.value (vs,bd)).fst.fst),.row 98 (D.stmts (d8 ars pc t.value (vs,bd)).fst.snd),dE (d8 ars pc t.value (vs,bd)).snd.kids,.tree (D.stmts []),.tree (D.stmts [])]) ((2,iA m)::(X5 ars t pc vs [(10,.ptr 10 0),(11,.tref 14),(12,.tref 15)])) fun G=>b6 (wp_seq (j9 G (v8 7 [11,1,12,5] (hI t.body m (l5 pc (i9 vs ars 5 (y7 t.value))) ((d8 ars pc t.value (vs,bd)).fst.fst) ((d8 ars pc t.value (vs,bd)).fst.snd) ai al al al)) [0,1,2,3,4,5,6,7,8,9,10,12,13,15,72,73] (U6 ars t (.box [.ref 14,.ref 1,.v (.slice none 0 0),.ref 11]::(bc1 ars t pc vs bd [.tree (D.stmts []),.row 3 (D.ints (aq9 ars t m pc vs bd).fst),dT (aq9 ars t m pc vs bd).snd]))) ((2,iA m)::(X5 ars t pc vs [(10,.ptr 10 0),(11,.ref 15),(12,.tref 13)])) fun G=>b6 (wp_seq (j9 G (v8 7 [14,1,11,6] (hI t.els m (l5 pc (i9 vs ars 5 (y7 t.value))) ((m5 ars t.body m (l5 pc (i9 vs ars 5 (y7 t.value))) ((d8 ars pc t.value (vs,bd)).fst.fst,[])).fst) ((d8 ars pc t.value (vs,bd)).fst.snd) ai ((cb6 hbb hh k3 hv r1 r2).1) ((cb6 hbb hh k3 hv r1 r2).2) al)) [0,1,2,3,4,5,6,7,8,9,10,11,12,15,72,73] (U6 ars t (.box [.ref 14,.ref 1,.v (.slice none 0 0),.ref 11]::(bc1 ars t pc vs bd [dT (aq9 ars t m pc vs bd).snd,.row 3 (D.ints (aq8 ars t m pc vs bd).fst),dT (aq8 ars t m pc vs bd).snd]))) ((2,iA m)::(X5 ars t pc vs [(10,.ptr 10 0),(11,.ref 13),(12,.ref 15)])) fun G=>b6 (wp_seq (Z5 G f8 [0,1,2,3,4,5,6,7,8,9,10,12,14,72] (U6 ars t [.box [.ref 12,.ref 1,.v (.slice none 0 0),.ref 13],.box (sL t 3),V4,.box [iA (d8 ars pc t.value (vs,bd)).snd.kind,iA (d8 ars pc t.value (vs,bd)).snd.value,.ref 11],dE (d8 ars pc t.value (vs,bd)).snd.kids,.row 3 (D.ints (aq8 ars t m pc vs bd).fst),.row 98 (D.stmts ((d8 ars pc t.value (vs,bd)).fst.snd++([c5.mk 3 0 (c6.mk 0 0 []) (aV3 ars t pc vs bd) 0 (aq9 ars t m pc vs bd).snd (aq8 ars t m pc vs bd).snd]++[])))]) ((2,iA m)::(X5 ars t pc vs [(10,.ptr 10 0)])) (aP ((d8 ars pc t.value (vs,bd)).fst.snd.length+1) 152 []) (aK al co8) fun G=>?_))))))))
  refine b6 (wp_seq (j9 G f8 (rg 14) (U6 ars t [.box [.ref 12,.ref 1,.v (.slice none 0 0),.ref 13],.box (sL t 3),.box [.ref 12,.ref 1,.v (.slice none 0 0),.ref 13],.box [iA (d8 ars pc t.value (vs,bd)).snd.kind,iA (d8 ars pc t.value (vs,bd)).snd.value,.ref 11],dE (d8 ars pc t.value (vs,bd)).snd.kids,.row 3 (D.ints (aq8 ars t m pc vs bd).fst),.row 98 (D.stmts ((d8 ars pc t.value (vs,bd)).fst.snd++([c5.mk 3 0 (c6.mk 0 0 []) (aV3 ars t pc vs bd) 0 (aq9 ars t m pc vs bd).snd (aq8 ars t m pc vs bd).snd]++[])))]) ((2,iA m)::(X5 ars t pc vs [(10,.ptr 10 0)])) fun G=>b6 (wp_ret (l0 ?_))));exact O7 G [0,1,2,3,4,5,6,12,13] (by show _=mR [0,1,2,3,4,5,6,12,13] (U6 ars t [.row 3 (D.ints (I9 ars t m pc (vs,bd)).fst),.row 98 (D.stmts (I9 ars t m pc (vs,bd)).snd)]);have e1:((I9 ars t m pc (vs,bd)).fst:List Int)=((m5 ars t.els m (l5 pc (i9 vs ars 5 (y7 t.value))) ((m5 ars t.body m (l5 pc (i9 vs ars 5 (y7 t.value))) ((d8 ars pc t.value (vs,bd)).fst.fst,[])).fst,[])).fst):=(cb9 k3 ab);have e2:((I9 ars t m pc (vs,bd)).snd:List c5)=((d8 ars pc t.value (vs,bd)).fst.snd++([c5.mk 3 0 (c6.mk 0 0 []) (aV3 ars t pc vs bd) 0 (aq9 ars t m pc vs bd).snd (aq8 ars t m pc vs bd).snd]++[])):=(congrArg Prod.snd (cc0 k3 ab));(first|rw[e1,e2]|simp only[e1,e2])<;>rfl)
abbrev xB(ars:List Int)(m pc:Int)(vs:List Int)(bd:List c5)(ss:List c5)(k:Nat):LnS:=m5 ars (ss.take k) m pc (vs,bd)
theorem bM1{ss:List c5}{k:Nat}(hk:k<ss.length):j5 (ss.take k)+(1+M4 (ss.getD k cm7))<=j5 ss:=by
 have h1:=y6 (ss.take (k+1)) (ss.drop (k+1))
 rw[List.take_append_drop,n7 _ _ hk,y6, <-m6 (d:=cm7) hk]at h1
 simp only[j5]at h1
 omega
section
variable{ars vs:List Int}{bd:List c5}{m pc:Int}{ss:List c5}{nv d k:Nat}
theorem b51(hs:ss.all (j6 nv ars.length d)=true)(hv:nv<=vs.length):GrS (j5 (ss.take k)) (vs,bd) (xB ars m pc vs bd ss k):=
 aZ8 ars (ss.take k) m pc (vs,bd) (cn8.2 fun x hx=>cn8.1 hs x (List.mem_of_mem_take hx)) hv
theorem aP2(hs:ss.all (j6 nv ars.length d)=true)(hv:nv<=vs.length)(r1:vs.length+4*j5 ss<=90000)(r2:j5 bd+130*j5 ss<=600000)(hk:k<ss.length):nv<=(xB ars m pc vs bd ss k).1.length/\(xB ars m pc vs bd ss k).1.length+4*(1+M4 (ss.getD k cm7))<=90000/\j5 (xB ars m pc vs bd ss k).2+130*(1+M4 (ss.getD k cm7))<=600000:=by
 have g:=b51 (bd:=bd) (m:=m) (pc:=pc) (k:=k) hs hv
 have h1:=bM1 hk
 have a:=g.lo;have b:=g.hi;have c:=g.st
 simp only at a b c
 omega
abbrev yB(ars:List Int)(m pc:Int)(vs:List Int)(bd:List c5)(ss:List c5)(k:Nat):LnS×c6:=d8 ars pc (ss.getD k cm7).value ((xB ars m pc vs bd ss k).1,(xB ars m pc vs bd ss k).2)
theorem a23(hs:ss.all (j6 nv ars.length (d+1))=true)(hv:nv<=vs.length)(r1:vs.length+4*j5 ss<=90000)(r2:j5 bd+130*j5 ss<=600000)(hk:k<ss.length)(h4:¬(ss.getD k cm7).kind=4):
  i6 (xB ars m pc vs bd ss k).1.length ars.length 5 (ss.getD k cm7).value=true/\(xB ars m pc vs bd ss k).1.length+(1+A6 (ss.getD k cm7).value)<=100000/\j5 (xB ars m pc vs bd ss k).2+40*(1+A6 (ss.getD k cm7).value)<=700000/\
  nv<=(yB ars m pc vs bd ss k).1.1.length/\(yB ars m pc vs bd ss k).1.1.length<=100000/\(yB ars m pc vs bd ss k).1.2.length+10<=700000/\i6 (yB ars m pc vs bd ss k).1.1.length ars.length 5 (yB ars m pc vs bd ss k).2=true:=by
 have hb:=aP2 (m:=m) (pc:=pc) hs hv r1 r2 hk
 have hh:=(aN0 hs hk).1
 have hsz:M4 (ss.getD k cm7)=A6 (ss.getD k cm7).index+A6 (ss.getD k cm7).value+j5 (ss.getD k cm7).body+j5 (ss.getD k cm7).els:=by
  generalize ss.getD k cm7=s;cases s;rfl
 have hsh:=G3 (na:=ars.length) hb.1 5 _ (B6 hh h4)
 obtain⟨g,g2,-⟩:=an5 ars pc ars.length 5 (ss.getD k cm7).value (xB ars m pc vs bd ss k) hsh
 have a:(xB ars m pc vs bd ss k).1.length<=(yB ars m pc vs bd ss k).1.1.length:=g.lo
 have b:(yB ars m pc vs bd ss k).1.1.length<=(xB ars m pc vs bd ss k).1.length+(1+A6 (ss.getD k cm7).value):=g.hi
 have c:j5 (yB ars m pc vs bd ss k).1.2<=j5 (xB ars m pc vs bd ss k).2+40*(1+A6 (ss.getD k cm7).value):=g.st
 have h5:=N0 (yB ars m pc vs bd ss k).1.2
 exact⟨hsh,al,al,al,al,al,g2⟩
theorem by0(hs:ss.all (j6 nv ars.length (d+1))=true)(hk:k<ss.length)(h2:(ss.getD k cm7).kind=2){n:Nat}(hn:nv<=n):i6 n ars.length 5 (ss.getD k cm7).index=true/\A6 (ss.getD k cm7).index<=1048576:=by
 obtain⟨q1,-,q3⟩:=aM2 (aN0 hs hk).1 h2
 exact⟨G3 hn 5 _ q3,by rw[aF3 q1];omega⟩
theorem aH7(hk:k<ss.length):xB ars m pc vs bd ss (k+1)=I9 ars (ss.getD k cm7) m pc (xB ars m pc vs bd ss k):=bu7 hk
theorem aj8(s:c5):j5 s.body<=M4 s/\j5 s.els<=M4 s/\A6 s.value<=M4 s:=by
 cases s;simp only[M4,c5.body,c5.els,c5.value];omega
abbrev sK(ss:List c5)(k:Nat):c5:=ss.getD k cm7
theorem aG8(hs:ss.all (j6 nv ars.length (d+1))=true)(hk:k<ss.length)(h3:¬(sK ss k).kind=3)(h4:¬(sK ss k).kind=4)(h5:¬(sK ss k).kind=5)(h1:¬(sK ss k).kind=1):(sK ss k).kind=2:=by
 by_cases h2:(sK ss k).kind=2
 ·exact h2
 have hh:=(aN0 hs hk).1
 rw[aq2 ⟨h1,h2,h3,h4,h5⟩]at hh;cases hh
theorem b55(hk:k<ss.length)(h4:(sK ss k).kind=4):xB ars m pc vs bd ss (k+1)=((m5 ars (sK ss k).body m pc ((xB ars m pc vs bd ss k).1,[])).1,(xB ars m pc vs bd ss k).2++[⟨4,0,⟨0,0,[]⟩,⟨0,0,[]⟩,(sK ss k).count,(m5 ars (sK ss k).body m pc ((xB ars m pc vs bd ss k).1,[])).2,[]⟩]):=(aH7 hk).trans (ln4 h4)
theorem b53(hk:k<ss.length)(h5:(sK ss k).kind=5):xB ars m pc vs bd ss (k+1)=((yB ars m pc vs bd ss k).1.1,(yB ars m pc vs bd ss k).1.2++[⟨5,(sK ss k).target,⟨0,0,[]⟩,etE (yB ars m pc vs bd ss k).2,0,[],[]⟩]):=by
 rw[show etE (yB ars m pc vs bd ss k).2=(yB ars m pc vs bd ss k).2 from c6.eta _]
 exact(aH7 hk).trans (ln5 h5)
theorem b58(hk:k<ss.length)(h1:(sK ss k).kind=1):xB ars m pc vs bd ss (k+1)=((yB ars m pc vs bd ss k).1.1,(yB ars m pc vs bd ss k).1.2++[Y3 (sK ss k).target (etE (D5 m (etE (yB ars m pc vs bd ss k).2) ⟨2,(sK ss k).target,[]⟩))]):=by
 rw[show etE (yB ars m pc vs bd ss k).2=(yB ars m pc vs bd ss k).2 from c6.eta _,show ∀e,etE e=e from c6.eta]
 exact(aH7 hk).trans (ln1 h1)
theorem bU0(hk:k<ss.length)(h2:(sK ss k).kind=2)(h:(i8 (i9 (yB ars m pc vs bd ss k).1.1 ars 5 (etE (sK ss k).index))&&decide (i9 (yB ars m pc vs bd ss k).1.1 ars 5 (etE (sK ss k).index)%2=1))=false):xB ars m pc vs bd ss (k+1)=((yB ars m pc vs bd ss k).1.1,(yB ars m pc vs bd ss k).1.2++[⟨2,(sK ss k).target,etE (sK ss k).index,etE (D5 m (etE (yB ars m pc vs bd ss k).2) ⟨3,(sK ss k).target,[etE (sK ss k).index]⟩),0,[],[]⟩]):=by
 simp only[show ∀e,etE e=e from c6.eta]at h ⊢
 exact(aH7 hk).trans (cb0 h2 h)
theorem bT9(hk:k<ss.length)(h2:(sK ss k).kind=2)(h:(i8 (i9 (yB ars m pc vs bd ss k).1.1 ars 5 (etE (sK ss k).index))&&decide (i9 (yB ars m pc vs bd ss k).1.1 ars 5 (etE (sK ss k).index)%2=1))=true):xB ars m pc vs bd ss (k+1)=((yB ars m pc vs bd ss k).1.1++[l5 (i9 (yB ars m pc vs bd ss k).1.1 ars 5 (etE (yB ars m pc vs bd ss k).2)) pc],(yB ars m pc vs bd ss k).1.2++[Y3 ((yB ars m pc vs bd ss k).1.1.length:Int) (etE (yB ars m pc vs bd ss k).2)]++stL ((yB ars m pc vs bd ss k).1.1.length:Int) (sK ss k).target (etE (sK ss k).index) m 4):=by
 simp only[show ∀e,etE e=e from c6.eta]at h ⊢
 exact(aH7 hk).trans (ca9 h2 h)
theorem b54(hk:k<ss.length)(h4:(sK ss k).kind=4):(xB ars m pc vs bd ss (k+1)).1=(m5 ars (sK ss k).body m pc ((xB ars m pc vs bd ss k).1,[])).1:=by rw[b55 hk h4]
theorem b52(hk:k<ss.length)(h5:(sK ss k).kind=5):(xB ars m pc vs bd ss (k+1)).1=(yB ars m pc vs bd ss k).1.1:=by rw[b53 hk h5]
theorem b57(hk:k<ss.length)(h1:(sK ss k).kind=1):(xB ars m pc vs bd ss (k+1)).1=(yB ars m pc vs bd ss k).1.1:=by rw[b58 hk h1]
theorem b56(hk:k<ss.length)(h2:(sK ss k).kind=2)(h:(i8 (i9 (yB ars m pc vs bd ss k).1.1 ars 5 (etE (sK ss k).index))&&decide (i9 (yB ars m pc vs bd ss k).1.1 ars 5 (etE (sK ss k).index)%2=1))=false):(xB ars m pc vs bd ss (k+1)).1=(yB ars m pc vs bd ss k).1.1:=by rw[bU0 hk h2 h]
theorem by5(hk:ss.length<=k):m5 ars ss m pc (vs,bd)=xB ars m pc vs bd ss k:=by unfold xB;rw[co3 hk]
end
abbrev Z2(ars:List Int)(ss:List c5)(m:Int)(pc:Int)(vs:List Int)(bd:List c5)(k:Nat):=y7 (d8 ars pc (ss.getD k cm7).value (xB ars m pc vs bd ss k)).snd
abbrev z9(ars:List Int)(ss:List c5)(m:Int)(pc:Int)(vs:List Int)(bd:List c5)(k:Nat):=d8 ars pc (ss.getD k cm7).value (xB ars m pc vs bd ss k)
abbrev bl1(ars:List Int)(ss:List c5)(m:Int)(pc:Int)(vs:List Int)(bd:List c5)(k:Nat):=D5 m (Z2 ars ss m pc vs bd k) (c6.mk 3 (ss.getD k cm7).target [y7 (ss.getD k cm7).index])
abbrev am6(ss:List c5)(k:Nat):=y7 (ss.getD k cm7).index
abbrev am5:It:=.box [.v (.slice none 0 0),.v (.slice none 0 0),.v (.slice none 0 0),.v (.slice none 0 0)]
abbrev bL3:It:=.box [.ref 6,.ref 1,.v (.slice none 0 0),.ref 7]
abbrev L6(m:Int)(pc:Int)(r0:List (Nat×AV)):List (Nat×AV):=(1,.ref 2)::(2,iA m)::(3,iA pc)::(4,.ptr 4 0)::(8,.ptr 5 0)::r0
abbrev aq5(ss:List c5)(k:Nat)(r0:List It):List It:=dE (ss.getD k cm7).index.kids::dE (ss.getD k cm7).value.kids::dT (ss.getD k cm7).body::dT (ss.getD k cm7).els::r0
abbrev ac9(ars:List Int)(ss:List c5)(r0:List It):List It:=.dead::dI ars::dT ss::.dead::bL3::am5::r0
theorem aS4(ars:List Int)(nv dd:Nat)(ss:List c5)(hs:ss.all (j6 nv ars.length (dd+1))=true)
    (hF:∀(t:c5),t.kind=3->F0 nv ars.length t=true->t.body.all (j6 nv ars.length dd)=true->t.els.all (j6 nv ars.length dd)=true->0<ss.length->∀(m pc:Int) (vs:List Int) (bd:List c5),nv<=vs.length->vs.length+4*(1+M4 t)<=90000->j5 bd+130*(1+M4 t)<=600000->j7.ok Tryz.prog (cb1 ars m pc vs bd t))
    (hI:∀(tt:List c5) (m pc:Int) (vs:List Int) (bd:List c5),tt.all (j6 nv ars.length dd)=true->0<ss.length->nv<=vs.length->vs.length+4*j5 tt<=90000->130*j5 tt<=600000->j7.ok Tryz.prog (bP5 ars m pc vs bd tt))
    (m pc:Int) (vs:List Int) (bd:List c5) (hv:nv<=vs.length) (r1:vs.length+4*j5 ss<=90000) (r2:j5 bd+130*j5 ss<=600000):j7.ok Tryz.prog (lbC ars m pc vs bd ss):=by
  have hcp:=bR5;refine H9 123 Tryz.func91 [.row 3 (D.ints vs),dI ars,dT ss,.row 98 (D.stmts bd)] [(0,.agg [.ref 0,.ref 1,.v (.slice none 0 0),.ref 3]),(1,.ref 2),(2,iA m),(3,iA pc)] fun G=>?_;have hl:=N0 ss;refine wp_seq (j9 G f8 [0,1,2,3,4,12] [.row 3 (D.ints vs),dI ars,dT ss,.row 98 (D.stmts bd),.box [.ref 0,.ref 1,.v (.slice none 0 0),.ref 3],am5] (L6 m pc []) fun G=>b6 (wp_seq (wp_seq (E8 G f8 (L6 m pc [(9,iA 0)]) fun G=>b6 (wp_block ?_)))));obtain⟨ρ,G⟩:=G.shift 0 6 [.dead,dI ars,dT ss,.row 98 (D.stmts bd),.box [.ref 6,.ref 1,.v (.slice none 0 0),.ref 3],.box [.v (.slice none 0 0),.v (.slice none 0 0),.v (.slice none 0 0),.v (.slice none 0 0)],.row 3 (D.ints vs)] (L6 m pc [(9,iA 0)]);obtain⟨ρ,G⟩:=G.shift 3 7 [.dead,dI ars,dT ss,.dead,.box [.ref 6,.ref 1,.v (.slice none 0 0),.ref 7],.box [.v (.slice none 0 0),.v (.slice none 0 0),.v (.slice none 0 0),.v (.slice none 0 0)],.row 3 (D.ints vs),.row 98 (D.stmts bd)] (L6 m pc [(9,iA 0)]);refine t9 (κ:=Nat) (fun k=>k<=ss.length) (fun k=>ss.length-k) (fun k=>[.dead,dI ars,dT ss,.dead,.box [.ref 6,.ref 1,.v (.slice none 0 0),.ref 7],.box [.v (.slice none 0 0),.v (.slice none 0 0),.v (.slice none 0 0),.v (.slice none 0 0)],.row 3 (.ints (xB ars m pc vs bd ss k).1),.row 98 (.stmts (xB ars m pc vs bd ss k).2)]) (fun k=>[(1,.ref 2),(2,iA m),(3,iA pc),(4,.ptr 4 0),(8,.ptr 5 0),(9,iA k)]) 0 al (v9.at G _ _) ?_;clear G;intro k ρ a w hp G;replace G:=v9.at G (ac9 ars ss [.row 3 (D.ints (xB ars m pc vs bd ss k).fst),.row 98 (D.stmts (xB ars m pc vs bd ss k).snd)]) (L6 m pc [(9,iA k)]);refine wp_seq (wp_seq (l6 G f8 [(16,bA (decide ((k:Int)<ss.length)))] fun G=>b6 (rcD G (fun h0 q0=>?_) fun h0 q0=>?_)))
  · refine wp_exit (t7 (t7 (t5 (b6 (wp_seq (j9 G f8 [0,1,2,3,5,6,7] [.dead,dI ars,dT ss,.dead,.box [.ref 5,.ref 1,.v (.slice none 0 0),.ref 6],.row 3 (D.ints (xB ars m pc vs bd ss k).fst),.row 98 (D.stmts (xB ars m pc vs bd ss k).snd)] [(8,.ptr 4 0)] fun G=>b6 (wp_ret ?_)))))));exact O7 G [0,1,2,3,5,6] (by show _=mR [0,1,2,3,5,6] [.dead,dI ars,dT ss,.dead,.row 3 (D.ints (m5 ars ss m pc (vs,bd)).fst),.row 98 (D.stmts (m5 ars ss m pc (vs,bd)).snd)];have e1:((m5 ars ss m pc (vs,bd)).fst:List Int)=((xB ars m pc vs bd ss k).fst):=(congrArg Prod.fst (by5 al));have e2:((m5 ars ss m pc (vs,bd)).snd:List c5)=((xB ars m pc vs bd ss k).snd):=(congrArg Prod.snd (by5 al));(first|rw[e1,e2]|simp only[e1,e2])<;>rfl)
  refine wp_skip (b6 (wp_seq (wp_block (wp_seq (Z5 G f8 [0,1,2,3,4,5,6,7,32,33,34,35,40] (ac9 ars ss (.row 3 (D.ints (xB ars m pc vs bd ss k).fst)::.row 98 (D.stmts (xB ars m pc vs bd ss k).snd)::(aq5 ss k [.box (sL (ss.getD k cm7) 8)]))) (L6 m pc [(9,iA k),(10,.ptr 12 0)]) (iX k k ss.length []) (iK al co8) fun G=>b6 (wp_seq (wp_seq (l6 G f8 [(25,bA ((ss.getD k cm7).kind==3))] fun G=>b6 (Q7 G (fun h1 q1=>?_) fun h1 q1=>?_)))))))))
  ·
   refine wp_skip (b6 (wp_seq (wp_seq (l6 G f8 [(33,bA ((ss.getD k cm7).kind==4))] fun G=>b6 (Q7 G (fun h2 q2=>?_) fun h2 q2=>?_)))))
   ·
    refine wp_skip (b6 (wp_seq (j9 G f8 [0,1,2,3,4,5,6,7,8,9,10,11,12,21] (ac9 ars ss (.row 3 (D.ints (xB ars m pc vs bd ss k).fst)::.row 98 (D.stmts (xB ars m pc vs bd ss k).snd)::(aq5 ss k [.box (sL (ss.getD k cm7) 8),.box [iA 0,iA 0,.v (.slice none 0 0)]]))) (L6 m pc [(9,iA k),(10,.ptr 12 0),(12,.ptr 13 0)]) fun G=>b6 (wp_seq (j9 G (v8 4 [6,1,7,9] (ba1 ars pc ((ss.getD k cm7).value) ((xB ars m pc vs bd ss k).fst) ((xB ars m pc vs bd ss k).snd) ((a23 hs hv r1 r2 al al).1) (by have h9:=aP2 (m:=m) (pc:=pc) hs hv r1 r2 (show k<ss.length by omega);have h8:=aj8 (ss.getD k cm7);omega) (by have h9:=aP2 (m:=m) (pc:=pc) hs hv r1 r2 (show k<ss.length by omega);have h8:=aj8 (ss.getD k cm7);omega))) [0,1,2,3,4,5,8,9,10,11,12,13,46,47,48] (.dead::dI ars::dT ss::.dead::.box [.ref 12,.ref 1,.v (.slice none 0 0),.ref 13]::am5::(aq5 ss k [.box (sL (ss.getD k cm7) 6),.box (eL (z9 ars ss m pc vs bd k).snd 14),.row 3 (D.ints (z9 ars ss m pc vs bd k).fst.fst),.row 98 (D.stmts (z9 ars ss m pc vs bd k).fst.snd),dE (z9 ars ss m pc vs bd k).snd.kids])) (L6 m pc [(9,iA k),(10,.ptr 10 0),(12,.ptr 11 0)]) fun G=>b6 (wp_block (wp_seq (l6 G f8 [(82,bA ((ss.getD k cm7).kind==5))] fun G=>b6 (Q7 G (fun h3 q3=>?_) fun h3 q3=>?_)))))))))
    ·
     refine wp_seq (l6 G f8 [(95,bA ((ss.getD k cm7).kind==1))] fun G=>b6 (Q7 G (fun h4 q4=>?_) fun h4 q4=>?_))
     ·
      refine wp_seq (l6 G (H5 (v7 4 [12,1,6] (j7.lend (ab7 ((d8 ars pc (ss.getD k cm7).value (xB ars m pc vs bd ss k)).fst.fst) ars ((ss.getD k cm7).index.kind) ((ss.getD k cm7).index.value) ((ss.getD k cm7).index.kids) (by rw[c6.eta];exact(by0 hs al (aG8 hs al al al al al) (a23 hs hv r1 r2 al al).2.2.2.1).1)) [.row 3]) (v7 5 [] (L5 (i9 (d8 ars pc (ss.getD k cm7).value (xB ars m pc vs bd ss k)).fst.fst ars 5 (y7 (ss.getD k cm7).index))) H4)) fz []) [(109,bA (i8 (i9 (z9 ars ss m pc vs bd k).fst.fst ars 5 (am6 ss k))&&decide (i9 (z9 ars ss m pc vs bd k).fst.fst ars 5 (am6 ss k)%2=1)))] fun G=>b6 ?_);cases h5:(i8 (i9 (d8 ars pc (ss.getD k cm7).value (xB ars m pc vs bd ss k)).fst.fst ars (5:Nat) (y7 (ss.getD k cm7).index))&&decide (i9 (d8 ars pc (ss.getD k cm7).value (xB ars m pc vs bd ss k)).fst.fst ars (5:Nat) (y7 (ss.getD k cm7).index)%(2:Int)=1))
      ·
       have q5:((i8 (i9 (d8 ars pc (ss.getD k cm7).value (xB ars m pc vs bd ss k)).fst.fst ars 5 (y7 (ss.getD k cm7).index)))=false)\/(¬(i9 (d8 ars pc (ss.getD k cm7).value (xB ars m pc vs bd ss k)).fst.fst ars 5 (y7 (ss.getD k cm7).index)%2=1)):=Or.imp (fun hq=>(hq)) (fun hq=>of_decide_eq_false hq) (Bool.and_eq_false_iff.1 h5);refine rF G _ h5 (R3 G (H5 (v7 6 [6] (hcp ((ss.getD k cm7).index) ((by0 hs al (aG8 hs al al al al al) (cn4 _)).2)) (v7 13 [6] (hcp ((ss.getD k cm7).index) ((by0 hs al (aG8 hs al al al al al) (cn4 _)).2)) (v7 14 [119] (aw3 ((ss.getD k cm7).target) ((ss.getD k cm7).index.kind) ((ss.getD k cm7).index.value) ((ss.getD k cm7).index.kids)) (v7 15 [14,127] (al9 m ((d8 ars pc (ss.getD k cm7).value (xB ars m pc vs bd ss k)).snd.kind) ((d8 ars pc (ss.getD k cm7).value (xB ars m pc vs bd ss k)).snd.value) 3 ((ss.getD k cm7).target) ((d8 ars pc (ss.getD k cm7).value (xB ars m pc vs bd ss k)).snd.kids) ([y7 (ss.getD k cm7).index])) H4)))) fz []) [0,1,0,4,0,16,48,0,0,0,512,0,2048,6256,15984,32752,65532,131068,262143,524287,1048575] [0,1,2,3,4,5,12,159] (ac9 ars ss [.row 3 (D.ints (z9 ars ss m pc vs bd k).fst.fst),.row 98 (D.stmts ((z9 ars ss m pc vs bd k).fst.snd++([c5.mk 2 (ss.getD k cm7).target (am6 ss k) (y7 (bl1 ars ss m pc vs bd k)) 0 [] []]++[])))]) (L6 m pc [(9,iA k)]) (aP ((d8 ars pc (ss.getD k cm7).value (xB ars m pc vs bd ss k)).fst.snd.length+([c5.mk (2:Int) (ss.getD k cm7).target (y7 (ss.getD k cm7).index) (y7 (D5 m (c6.mk (d8 ars pc (ss.getD k cm7).value (xB ars m pc vs bd ss k)).snd.kind (d8 ars pc (ss.getD k cm7).value (xB ars m pc vs bd ss k)).snd.value (d8 ars pc (ss.getD k cm7).value (xB ars m pc vs bd ss k)).snd.kids) (c6.mk (3:Int) (ss.getD k cm7).target [c6.mk (ss.getD k cm7).index.kind (ss.getD k cm7).index.value (ss.getD k cm7).index.kids]))) (0:Int) [] []]++[]).length) 152 []) (aK (by have h9:(d8 ars pc (ss.getD k cm7).value ((xB ars m pc vs bd ss k).1,(xB ars m pc vs bd ss k).2)).1.2.length+10<=700000:=(a23 (m:=m) (pc:=pc) hs hv r1 r2 (show k<ss.length by omega) al).2.2.2.2.2.1;have h7:(d8 ars pc (ss.getD k cm7).value (xB ars m pc vs bd ss k)).1.2.length+10<=700000:=h9;simp only[cn3,cn6,co1];omega) co8) fun G=>?_)
       refine n4 (n4 (b6 (M8 G f8 [(9,iA ((k:Int)+1))] [wO ((k:Int)+1)] (o1 al) fun G=>b6 ?_)));exact R2 G (k+1) al al (rg 8) (by have e1:((xB ars m pc vs bd ss (k+1)).fst:List Int)=((d8 ars pc (ss.getD k cm7).value (xB ars m pc vs bd ss k)).fst.fst):=(b56 al (aG8 hs al al al al al) ab);have e2:((xB ars m pc vs bd ss (k+1)).snd:List c5)=((z9 ars ss m pc vs bd k).fst.snd++([c5.mk 2 (ss.getD k cm7).target (am6 ss k) (y7 (bl1 ars ss m pc vs bd k)) 0 [] []]++[])):=(congrArg Prod.snd (bU0 al (aG8 hs al al al al al) ab));(first|rw[e1,e2]|simp only[e1,e2])<;>rfl)
      have q5:((i8 (i9 (d8 ars pc (ss.getD k cm7).value (xB ars m pc vs bd ss k)).fst.fst ars 5 (y7 (ss.getD k cm7).index)))=true)/\(i9 (d8 ars pc (ss.getD k cm7).value (xB ars m pc vs bd ss k)).fst.fst ars 5 (y7 (ss.getD k cm7).index)%2=1):=And.imp (fun hq=>(hq)) (fun hq=>of_decide_eq_true hq) (Bool.and_eq_true_iff.1 h5);refine rT G _ h5 (j9 G (v8 5 [12,1,13,6,7,8,9,14] (bw0 ars ((d8 ars pc (ss.getD k cm7).value (xB ars m pc vs bd ss k)).fst.fst) ((d8 ars pc (ss.getD k cm7).value (xB ars m pc vs bd ss k)).fst.snd) m pc (ss.getD k cm7) ((d8 ars pc (ss.getD k cm7).value (xB ars m pc vs bd ss k)).snd) (by rw[c6.eta];exact(a23 hs hv r1 r2 al al).2.2.2.2.2.2) ((a23 hs hv r1 r2 al al).2.2.2.2.1) (by have h9:(d8 ars pc (ss.getD k cm7).value ((xB ars m pc vs bd ss k).1,(xB ars m pc vs bd ss k).2)).1.2.length+10<=700000:=(a23 (m:=m) (pc:=pc) hs hv r1 r2 (show k<ss.length by omega) al).2.2.2.2.2.1;have h7:(d8 ars pc (ss.getD k cm7).value (xB ars m pc vs bd ss k)).1.2.length+10<=700000:=h9;omega))) [0,1,2,3,4,5,55,56] (ac9 ars ss [.row 3 (D.ints ((z9 ars ss m pc vs bd k).fst.fst++[l5 (i9 (z9 ars ss m pc vs bd k).fst.fst ars 5 (Z2 ars ss m pc vs bd k)) pc])),.row 98 (D.stmts ((z9 ars ss m pc vs bd k).fst.snd++[Y3 ((z9 ars ss m pc vs bd k).fst.fst.length:Int) (Z2 ars ss m pc vs bd k)]++stL ((z9 ars ss m pc vs bd k).fst.fst.length:Int) (ss.getD k cm7).target (am6 ss k) m 4))]) (L6 m pc [(9,iA k)]) fun G=>n4 (n4 (b6 (M8 G f8 [(9,iA ((k:Int)+1))] [wO ((k:Int)+1)] (o1 al) fun G=>b6 ?_))));exact R2 G (k+1) al al (rg 8) (by have e1:((xB ars m pc vs bd ss (k+1)).fst:List Int)=((z9 ars ss m pc vs bd k).fst.fst++[l5 (i9 (z9 ars ss m pc vs bd k).fst.fst ars 5 (Z2 ars ss m pc vs bd k)) pc]):=(congrArg Prod.fst (bT9 al (aG8 hs al al al al al) ab));have e2:((xB ars m pc vs bd ss (k+1)).snd:List c5)=((z9 ars ss m pc vs bd k).fst.snd++[Y3 ((z9 ars ss m pc vs bd k).fst.fst.length:Int) (Z2 ars ss m pc vs bd k)]++stL ((z9 ars ss m pc vs bd k).fst.fst.length:Int) (ss.getD k cm7).target (am6 ss k) m 4):=(congrArg Prod.snd (bT9 al (aG8 hs al al al al al) ab));(first|rw[e1,e2]|simp only[e1,e2])<;>rfl)
     refine af6 G (H5 (v7 7 [] (ao6 ((ss.getD k cm7).target)) (v7 8 [14,71] (al9 m ((d8 ars pc (ss.getD k cm7).value (xB ars m pc vs bd ss k)).snd.kind) ((d8 ars pc (ss.getD k cm7).value (xB ars m pc vs bd ss k)).snd.value) 2 ((ss.getD k cm7).target) ((d8 ars pc (ss.getD k cm7).value (xB ars m pc vs bd ss k)).snd.kids) ([])) (v7 9 [12,1,13,79] (V2 ((d8 ars pc (ss.getD k cm7).value (xB ars m pc vs bd ss k)).fst.fst) ars ((d8 ars pc (ss.getD k cm7).value (xB ars m pc vs bd ss k)).fst.snd) ((ss.getD k cm7).target) ((D5 m (y7 (d8 ars pc (ss.getD k cm7).value (xB ars m pc vs bd ss k)).snd) (c6.mk 2 (ss.getD k cm7).target [])).kind) ((D5 m (y7 (d8 ars pc (ss.getD k cm7).value (xB ars m pc vs bd ss k)).snd) (c6.mk 2 (ss.getD k cm7).target [])).value) ((D5 m (y7 (d8 ars pc (ss.getD k cm7).value (xB ars m pc vs bd ss k)).snd) (c6.mk 2 (ss.getD k cm7).target [])).kids) (by have h9:(d8 ars pc (ss.getD k cm7).value ((xB ars m pc vs bd ss k).1,(xB ars m pc vs bd ss k).2)).1.2.length+10<=700000:=(a23 (m:=m) (pc:=pc) hs hv r1 r2 (show k<ss.length by omega) al).2.2.2.2.2.1;have h7:(d8 ars pc (ss.getD k cm7).value (xB ars m pc vs bd ss k)).1.2.length+10<=700000:=h9;omega)) H4))) fz []) [0,0,2,0,0,0,32,96,248,511,1023] [0,1,2,3,4,5,12,87] (ac9 ars ss [.row 3 (D.ints (z9 ars ss m pc vs bd k).fst.fst),.row 98 (D.stmts ((z9 ars ss m pc vs bd k).fst.snd++[Y3 (ss.getD k cm7).target (y7 (D5 m (Z2 ars ss m pc vs bd k) (c6.mk 2 (ss.getD k cm7).target [])))]))]) (L6 m pc [(9,iA k)]) fun G=>n4 (n4 (b6 (M8 G f8 [(9,iA ((k:Int)+1))] [wO ((k:Int)+1)] (o1 al) fun G=>b6 ?_)));exact R2 G (k+1) al al (rg 8) (by have e1:((xB ars m pc vs bd ss (k+1)).fst:List Int)=((d8 ars pc (ss.getD k cm7).value (xB ars m pc vs bd ss k)).fst.fst):=(b57 al al);have e2:((xB ars m pc vs bd ss (k+1)).snd:List c5)=((z9 ars ss m pc vs bd k).fst.snd++[Y3 (ss.getD k cm7).target (y7 (D5 m (Z2 ars ss m pc vs bd k) (c6.mk 2 (ss.getD k cm7).target [])))]):=(congrArg Prod.snd (b58 al al));(first|rw[e1,e2]|simp only[e1,e2])<;>rfl)
    refine Z5 G f8 [0,1,2,3,4,5,12,71] (ac9 ars ss [.row 3 (D.ints (z9 ars ss m pc vs bd k).fst.fst),.row 98 (D.stmts ((z9 ars ss m pc vs bd k).fst.snd++([c5.mk 5 (ss.getD k cm7).target (c6.mk 0 0 []) (Z2 ars ss m pc vs bd k) 0 [] []]++[])))]) (L6 m pc [(9,iA k)]) (aP ((d8 ars pc (ss.getD k cm7).value (xB ars m pc vs bd ss k)).fst.snd.length+([c5.mk (5:Int) (ss.getD k cm7).target (c6.mk (0:Int) (0:Int) []) (y7 (d8 ars pc (ss.getD k cm7).value (xB ars m pc vs bd ss k)).snd) (0:Int) [] []]++[]).length) 152 []) (aK (by have h9:(d8 ars pc (ss.getD k cm7).value ((xB ars m pc vs bd ss k).1,(xB ars m pc vs bd ss k).2)).1.2.length+10<=700000:=(a23 (m:=m) (pc:=pc) hs hv r1 r2 (show k<ss.length by omega) al).2.2.2.2.2.1;have h7:(d8 ars pc (ss.getD k cm7).value (xB ars m pc vs bd ss k)).1.2.length+10<=700000:=h9;simp only[cn3,cn6,co1];omega) co8) fun G=>n4 (n4 (b6 (M8 G f8 [(9,iA ((k:Int)+1))] [wO ((k:Int)+1)] (o1 al) fun G=>b6 ?_)));exact R2 G (k+1) al al (rg 8) (by have e1:((xB ars m pc vs bd ss (k+1)).fst:List Int)=((d8 ars pc (ss.getD k cm7).value (xB ars m pc vs bd ss k)).fst.fst):=(b52 al al);have e2:((xB ars m pc vs bd ss (k+1)).snd:List c5)=((z9 ars ss m pc vs bd k).fst.snd++([c5.mk 5 (ss.getD k cm7).target (c6.mk 0 0 []) (Z2 ars ss m pc vs bd k) 0 [] []]++[])):=(congrArg Prod.snd (b53 al al));(first|rw[e1,e2]|simp only[e1,e2])<;>rfl)
   refine wp_seq (j9 G f8 (rg 14) (ac9 ars ss (.row 3 (D.ints (xB ars m pc vs bd ss k).fst)::.row 98 (D.stmts (xB ars m pc vs bd ss k).snd)::(aq5 ss k [.box (sL (ss.getD k cm7) 8),.tree (D.stmts [])]))) (L6 m pc [(9,iA k),(10,.ptr 12 0),(11,.tref 13)]) fun G=>b6 (wp_seq (j9 G (v8 5 [6,1,7,10] (hI ((ss.getD k cm7).body) m pc ((xB ars m pc vs bd ss k).fst) ((xB ars m pc vs bd ss k).snd) ((aN0 hs al).2.1) al (by have h9:=aP2 (m:=m) (pc:=pc) hs hv r1 r2 (show k<ss.length by omega);have h8:=aj8 (ss.getD k cm7);omega) (by have h9:=aP2 (m:=m) (pc:=pc) hs hv r1 r2 (show k<ss.length by omega);have h8:=aj8 (ss.getD k cm7);omega) (by have h9:=aP2 (m:=m) (pc:=pc) hs hv r1 r2 (show k<ss.length by omega);have h8:=aj8 (ss.getD k cm7);omega))) [0,1,2,3,4,5,7,8,9,10,11,12,54,55] (.dead::dI ars::dT ss::.dead::.box [.ref 12,.ref 1,.v (.slice none 0 0),.ref 6]::am5::.row 98 (D.stmts (xB ars m pc vs bd ss k).snd)::(aq5 ss k [.box (sL (ss.getD k cm7) 7),.row 3 (D.ints (m5 ars (ss.getD k cm7).body m pc ((xB ars m pc vs bd ss k).fst,[])).fst),dT (m5 ars (ss.getD k cm7).body m pc ((xB ars m pc vs bd ss k).fst,[])).snd])) (L6 m pc [(9,iA k),(10,.ptr 11 0),(11,.ref 13)]) fun G=>b6 (wp_seq (Z5 G f8 [0,1,2,3,4,5,7,8,9,10,11,12,70] (.dead::dI ars::dT ss::.dead::.box [.ref 11,.ref 1,.v (.slice none 0 0),.ref 12]::am5::(aq5 ss k [.box (sL (ss.getD k cm7) 6),.row 3 (D.ints (m5 ars (ss.getD k cm7).body m pc ((xB ars m pc vs bd ss k).fst,[])).fst),.row 98 (D.stmts ((xB ars m pc vs bd ss k).snd++([c5.mk 4 0 (c6.mk 0 0 []) (c6.mk 0 0 []) (ss.getD k cm7).count (m5 ars (ss.getD k cm7).body m pc ((xB ars m pc vs bd ss k).fst,[])).snd []]++[])))])) (L6 m pc [(9,iA k),(10,.ptr 10 0)]) (aP ((xB ars m pc vs bd ss k).snd.length+([c5.mk (4:Int) (0:Int) (c6.mk (0:Int) (0:Int) []) (c6.mk (0:Int) (0:Int) []) (ss.getD k cm7).count (m5 ars (ss.getD k cm7).body m pc ((xB ars m pc vs bd ss k).fst,[])).snd []]++[]).length) 152 []) (aK (by have h9:=aP2 (m:=m) (pc:=pc) hs hv r1 r2 (show k<ss.length by omega);have h8:=N0 (xB ars m pc vs bd ss k).2;simp only[cn3,cn6,co1];omega) co8) fun G=>b6 (wp_exit (t7 (t5 (b6 (Z5 G f8 [0,1,2,3,4,5,11,12] (ac9 ars ss [.row 3 (D.ints (m5 ars (ss.getD k cm7).body m pc ((xB ars m pc vs bd ss k).fst,[])).fst),.row 98 (D.stmts ((xB ars m pc vs bd ss k).snd++([c5.mk 4 0 (c6.mk 0 0 []) (c6.mk 0 0 []) (ss.getD k cm7).count (m5 ars (ss.getD k cm7).body m pc ((xB ars m pc vs bd ss k).fst,[])).snd []]++[])))]) (L6 m pc [(9,iA ((k:Int)+1))]) [wO ((k:Int)+1)] (o1 al) fun G=>?_))))))))))
   refine b6 ?_;exact R2 G (k+1) al al (rg 8) (by have e1:((xB ars m pc vs bd ss (k+1)).fst:List Int)=((m5 ars (ss.getD k cm7).body m pc ((xB ars m pc vs bd ss k).fst,[])).fst):=(b54 al al);have e2:((xB ars m pc vs bd ss (k+1)).snd:List c5)=((xB ars m pc vs bd ss k).snd++([c5.mk 4 0 (c6.mk 0 0 []) (c6.mk 0 0 []) (ss.getD k cm7).count (m5 ars (ss.getD k cm7).body m pc ((xB ars m pc vs bd ss k).fst,[])).snd []]++[])):=(congrArg Prod.snd (b55 al al));(first|rw[e1,e2]|simp only[e1,e2])<;>rfl)
  refine wp_seq (j9 G (v8 4 [6,1,7,8,9,10,11] (hF (ss.getD k cm7) ai ((aN0 hs al).1) ((aN0 hs al).2.1) ((aN0 hs al).2.2) al m pc ((xB ars m pc vs bd ss k).fst) ((xB ars m pc vs bd ss k).snd) (by have h9:=aP2 (m:=m) (pc:=pc) hs hv r1 r2 (show k<ss.length by omega);have h8:=aj8 (ss.getD k cm7);omega) (by have h9:=aP2 (m:=m) (pc:=pc) hs hv r1 r2 (show k<ss.length by omega);have h8:=aj8 (ss.getD k cm7);omega) (by have h9:=aP2 (m:=m) (pc:=pc) hs hv r1 r2 (show k<ss.length by omega);have h8:=aj8 (ss.getD k cm7);omega))) [0,1,2,3,4,5,8,9,10,11,12,45,46] (.dead::dI ars::dT ss::.dead::.box [.ref 11,.ref 1,.v (.slice none 0 0),.ref 12]::am5::(aq5 ss k [.box (sL (ss.getD k cm7) 6),.row 3 (D.ints (I9 ars (ss.getD k cm7) m pc (xB ars m pc vs bd ss k)).fst),.row 98 (D.stmts (I9 ars (ss.getD k cm7) m pc (xB ars m pc vs bd ss k)).snd)])) (L6 m pc [(9,iA k),(10,.ptr 10 0)]) fun G=>b6 (wp_exit (t7 (t5 (b6 (Z5 G f8 [0,1,2,3,4,5,11,12] (ac9 ars ss [.row 3 (D.ints (I9 ars (ss.getD k cm7) m pc (xB ars m pc vs bd ss k)).fst),.row 98 (D.stmts (I9 ars (ss.getD k cm7) m pc (xB ars m pc vs bd ss k)).snd)]) (L6 m pc [(9,iA ((k:Int)+1))]) [wO ((k:Int)+1)] (o1 al) fun G=>b6 ?_))))));exact R2 G (k+1) al al (rg 8) (by have e1:((xB ars m pc vs bd ss (k+1)).fst:List Int)=((I9 ars (ss.getD k cm7) m pc (xB ars m pc vs bd ss k)).fst):=(congrArg Prod.fst (aH7 al));have e2:((xB ars m pc vs bd ss (k+1)).snd:List c5)=((I9 ars (ss.getD k cm7) m pc (xB ars m pc vs bd ss k)).snd):=(congrArg Prod.snd (aH7 al));(first|rw[e1,e2]|simp only[e1,e2])<;>rfl)
theorem bE7{ars vs:List Int}{m pc:Int}{ss:List c5}(h:j7.ok Tryz.prog (lbC ars m pc vs [] ss)):j7.ok Tryz.prog (lnC ars m pc vs ss):=
 j7.nilArg (pre:=[qI vs,dI ars,dT ss]) h 10 [0,1,2,4,5] rfl rfl rfl rfl rfl
theorem aL2(ars:List Int)(nv:Nat):∀(dd:Nat) (tt:List c5) (m pc:Int) (vs:List Int) (bd:List c5),tt.all (j6 nv ars.length dd)=true->nv<=vs.length->vs.length+4*j5 tt<=90000->j5 bd+130*j5 tt<=600000->j7.ok Tryz.prog (lbC ars m pc vs bd tt)
 | 0, tt, m, pc, vs, bd, hs, hv, r1, r2 => by
  have h0:tt=[]:=by
   cases tt with
   |nil=>rfl
   |cons a r=>simp[j6]at hs
  subst h0
  exact aS4 ars nv 0 [] rfl (fun _ _ _ _ _ h=>absurd h ao) (fun _ _ _ _ _ _ h=>absurd h ao) m pc vs bd hv r1 r2
 |dd+1,tt,m,pc,vs,bd,hs,hv,r1,r2=>by
  have hB:=aL2 ars nv dd
  have hI:∀(tt:List c5) (m pc:Int) (vs:List Int) (bd:List c5),tt.all (j6 nv ars.length dd)=true->nv<=vs.length->vs.length+4*j5 tt<=90000->130*j5 tt<=600000->j7.ok Tryz.prog (bP5 ars m pc vs bd tt):=fun tt m pc vs bd h1 h2 h3 h4=>bt0 ars m pc vs bd tt (bE7 (hB tt m pc vs [] h1 h2 h3 (by simpa[j5]using h4)))
  exact aS4 ars nv dd tt hs (fun t k3 hh hbb hbe _ m pc vs bd hv r1 r2=>bY2 ars nv dd t k3 hh hbb hbe hB hI m pc vs bd hv r1 r2) (fun tt m pc vs bd h1 _ h2 h3 h4=>hI tt m pc vs bd h1 h2 h3 h4) m pc vs bd hv r1 r2
abbrev bC1(p:i7):i7:=⟨(m5 p.arrays p.body (-1) 0 (p.vars,[])).1,p.arrays,(m5 p.arrays p.body (-1) 0 (p.vars,[])).2⟩
theorem b01{p:i7}(h:(X4 p false).1=0)(h2:l9 (bC1 p)=true):okL p=true:=bU8 h h2
theorem b00{p:i7}(h2:l9 (bC1 p)=false):okL p=false:=bU9 h2
theorem b11{p:i7}(h:(X4 p false).1=0)(h2:l9 (bC1 p)=true):I3 p=bC1 p:=bV0 (bU8 h h2)
theorem b10{p:i7}(h2:l9 (bC1 p)=false):I3 p=⟨[],[],[]⟩:=bo8 (bU9 h2)
theorem bI3(p:i7)(hp:l9 p=true):j7.ok Tryz.prog (lnC p.arrays (-1) 0 p.vars p.body):=by
 have h:=ae0 hp
 exact bE7 (aL2 p.arrays p.vars.length 5 p.body (-1) 0 p.vars [] (ay5 hp).2.2.2 (cn4 _) al (by simp only[j5];omega))
abbrev aq4(r0:List (Nat×AV)):List (Nat×AV):=(1,.ptr 3 0)::(2,.ptr 4 0)::(3,bA false)::r0
theorem aY2(p:i7)(hb:p.size<=1048576)(hp:¬(X4 p false).1=0):j7.ok Tryz.prog ⟨40,[pA 0],pS p,pS p++pS (I3 p),.tup [pA 3,bA (okL p)]⟩:=by
 refine H9 43 Tryz.func40 [dI p.vars,dI p.arrays,dT p.body] [(0,pA 0)] fun G=>?_;have hno:=b96 hp
 have hb1:j5 p.body<=1048576:=by unfold i7.size at hb;omega
 refine wp_seq (j9 G f8 [0,1,2,3,11] [dI p.vars,dI p.arrays,dT p.body,.box (pL 0),.box [.v (.slice none 0 0),.v (.slice none 0 0),.v (.slice none 0 0)]] (aq4 []) fun G=>b6 (wp_seq (l6 G (v8 1 [0,1,2] (Z9 p.vars p.arrays p.body ai)) [(4,iA (X4 (i7.mk p.vars p.arrays p.body) false).fst)] fun G=>b6 (wp_seq (wp_seq (E8 G f8 (aq4 [(15,bA ((X4 (i7.mk p.vars p.arrays p.body) false).fst !=0))]) fun G=>b6 ?_))))));cases h0:((X4 (i7.mk p.vars p.arrays p.body) false).fst !=0)
 ·have q0:=bne_eq_false_iff_eq.1 h0;exact False.elim (hp ab)
 have q0:=bne_iff_ne.1 h0;refine rT G _ h0 (wp_seq (E8 G f8 (aq4 []) fun G=>b6 (wp_ret (l0 ?_))));obtain⟨ρ,G⟩:=G.nil 5 0 (.ints []) 1 [dI p.vars,dI p.arrays,dT p.body,.box (pL 0),.box [.ref 5,.v (.slice none 0 0),.v (.slice none 0 0)]] (aq4 []);obtain⟨ρ,G⟩:=G.nil 6 0 (.ints []) 1 [dI p.vars,dI p.arrays,dT p.body,.box (pL 0),.box [.ref 5,.ref 6,.v (.slice none 0 0)],.row 0 (D.ints [])] (aq4 []);obtain⟨ρ,G⟩:=G.nil 7 0 (.stmts []) 10 [dI p.vars,dI p.arrays,dT p.body,.box (pL 0),.box (pL 5),.row 0 (D.ints []),.row 0 (D.ints [])] (aq4 []);obtain⟨ρ,G⟩:=G.frz [.no,.no,.no,.no,.no,.row 0,.row 0,.row 0] [dI p.vars,dI p.arrays,dT p.body,.box (pL 0),.box (pL 5),dI [],dI [],dT []] (aq4 []);exact Y0 (.tup [pA 5,bA false]) G [0,1,2,5,6,7] (by have e1:(okL p:Bool)=(false):=ai;(first|rw[e1]|simp only[e1])<;>rfl) (by show _=mR [0,1,2,5,6,7] [dI p.vars,dI p.arrays,dT p.body,dI (I3 p).vars,dI (I3 p).arrays,dT (I3 p).body];rw[bo8 hno]<;>rfl)
abbrev aV2:It:=.box [.v (.slice none 0 0),.v (.slice none 0 0),.v (.slice none 0 0)]
abbrev aw8(p:i7)(r0:List It):List It:=.row 3 (D.ints (m5 p.arrays p.body (-1) 0 (p.vars,[])).fst)::.row 3 (D.ints p.arrays)::.tree (D.stmts (m5 p.arrays p.body (-1) 0 (p.vars,[])).snd)::r0
abbrev M9(p:i7)(r0:List It):List It:=dI p.vars::dI p.arrays::dT p.body::r0
theorem aY1(p:i7)(hb:p.size<=1048576)(hf:(X4 p false).1=0):j7.ok Tryz.prog ⟨40,[pA 0],pS p,pS p++pS (I3 p),.tup [pA 3,bA (okL p)]⟩:=by
  have hpv:=ag6 hf;have hB:=bI3 p hpv;refine H9 43 Tryz.func40 (M9 p []) [(0,pA 0)] fun G=>?_;have hz:=bp1 (ag6 hf);have hv:=ae0 (ag6 hf)
  have hzb:j5 (aL3 p).2<=1048576:=al
  have hsum:(aL3 p).1.length+p.arrays.length+j5 (aL3 p).2<=1048576:=al
  refine wp_seq (j9 G f8 [0,1,2,3,11] (M9 p [.box (pL 0),aV2]) [(1,.ptr 3 0),(2,.ptr 4 0),(3,bA false)] fun G=>b6 (wp_seq (l6 G (v8 1 [0,1,2] (Z9 p.vars p.arrays p.body al)) [(4,iA (X4 (i7.mk p.vars p.arrays p.body) false).fst)] fun G=>b6 (wp_seq (wp_seq (E8 G f8 [(1,.ptr 3 0),(2,.ptr 4 0),(3,bA false),(15,bA ((X4 (i7.mk p.vars p.arrays p.body) false).fst !=0))] fun G=>b6 ?_))))));cases h0:((X4 (i7.mk p.vars p.arrays p.body) false).fst !=0)
  ·
   have q0:=bne_eq_false_iff_eq.1 h0;refine rF G _ h0 (wp_skip (b6 (wp_seq (j9 G (v8 1 [0,1,2] (ao8 p.vars p.arrays p.body ai)) [0,1,2,4,13,14,15,21] (M9 p [aV2,.row 3 (D.ints p.vars),.row 3 (D.ints p.arrays),.tree (D.stmts p.body),.box [.ref 4,.ref 5,.tref 6]]) [(2,.ptr 3 0),(3,bA false),(6,.ptr 7 0)] fun G=>b6 (wp_seq ?_)))));obtain⟨ρ,G⟩:=G.frz [.no,.no,.no,.no,.no,.row 3] (M9 p [.box [.v (.slice none 0 0),.v (.slice none 0 0),.v (.slice none 0 0)],.row 3 (D.ints p.vars),dI p.arrays,.tree (D.stmts p.body),.box [.ref 4,.ref 5,.tref 6]]) [(2,.ptr 3 0),(3,bA false),(6,.ptr 7 0)];obtain⟨ρ,G⟩:=G.frz [.no,.no,.no,.no,.no,.no,.tree] (M9 p [.box [.v (.slice none 0 0),.v (.slice none 0 0),.v (.slice none 0 0)],.row 3 (D.ints p.vars),dI p.arrays,dT p.body,.box (pL 4)]) [(2,.ptr 3 0),(3,bA false),(6,.ptr 7 0)];refine j9 G (v8 8 [4,5,6] hB) [0,1,2,3,5,72,73,80] (M9 p [aV2,dI p.arrays,.row 3 (D.ints (m5 p.arrays p.body (-1) 0 (p.vars,[])).fst),.row 98 (D.stmts (m5 p.arrays p.body (-1) 0 (p.vars,[])).snd),.box [.ref 5,.ref 4,.v (.slice none 0 0),.ref 6]]) [(2,.ptr 3 0),(3,bA false),(7,.ptr 7 0)] fun G=>b6 (wp_seq ?_);obtain⟨ρ,G⟩:=G.frz [.no,.no,.no,.no,.no,.row 3] (M9 p [.box [.v (.slice none 0 0),.v (.slice none 0 0),.v (.slice none 0 0)],dI p.arrays,dI (m5 p.arrays p.body (-1) 0 (p.vars,[])).fst,.row 98 (D.stmts (m5 p.arrays p.body (-1) 0 (p.vars,[])).snd),.box [.ref 5,.ref 4,.v (.slice none 0 0),.ref 6]]) [(2,.ptr 3 0),(3,bA false),(7,.ptr 7 0)];obtain⟨ρ,G⟩:=G.frz [.no,.no,.no,.no,.no,.no,.row 98] (M9 p [.box [.v (.slice none 0 0),.v (.slice none 0 0),.v (.slice none 0 0)],dI p.arrays,dI (m5 p.arrays p.body (-1) 0 (p.vars,[])).fst,dT (m5 p.arrays p.body (-1) 0 (p.vars,[])).snd,.box [.ref 5,.ref 4,.v (.slice none 0 0),.ref 6]]) [(2,.ptr 3 0),(3,bA false),(7,.ptr 7 0)];refine j9 G (v8 9 [5,4,6] (ao8 ((m5 p.arrays p.body (-1) 0 (p.vars,[])).fst) p.arrays ((m5 p.arrays p.body (-1) 0 (p.vars,[])).snd) ai)) [0,1,2,3,80,81,82,88] (M9 p (aV2::(aw8 p [.box [.ref 4,.ref 5,.tref 6]]))) [(2,.ptr 3 0),(3,bA false),(8,.ptr 7 0)] fun G=>b6 (wp_seq (wp_seq (l6 G (v8 1 [4,5,6] (j7.lend (ai0 ((m5 p.arrays p.body (-1) 0 (p.vars,[])).fst) p.arrays ((m5 p.arrays p.body (-1) 0 (p.vars,[])).snd) ai) [.row 3,.row 3,.tree])) [(40,.v (.bool !l9 (i7.mk (m5 p.arrays p.body (-1) 0 (p.vars,[])).fst p.arrays (m5 p.arrays p.body (-1) 0 (p.vars,[])).snd)))] fun G=>b6 ?_)));cases h1:(!l9 (i7.mk (m5 p.arrays p.body (-1:Int) (0:Int) (p.vars,[])).fst p.arrays (m5 p.arrays p.body (-1:Int) (0:Int) (p.vars,[])).snd))
   · have q1:(l9 (i7.mk (m5 p.arrays p.body (-1) 0 (p.vars,[])).fst p.arrays (m5 p.arrays p.body (-1) 0 (p.vars,[])).snd))=true:=(Eq.mp (cp7 _) h1);refine rF G _ h1 (wp_skip (b6 (wp_seq (j9 G f8 (rg 7) (M9 p (.box [.ref 4,.ref 5,.tref 6]::(aw8 p []))) [(2,.ptr 3 0),(3,bA true)] fun G=>b6 (wp_ret ?_)))));obtain⟨ρ,G⟩:=G.frz [.no,.no,.no,.no,.row 3,.row 3,.tree] (M9 p [.box (pL 4),dI (m5 p.arrays p.body (-1) 0 (p.vars,[])).fst,dI p.arrays,dT (m5 p.arrays p.body (-1) 0 (p.vars,[])).snd]) [(2,.ptr 3 0),(3,bA true)];exact Y0 (.tup [pA 4,bA true]) G [0,1,2,4,5,6] (by have e1:(okL p:Bool)=(true):=(b01 hf ab);(first|rw[e1]|simp only[e1])<;>rfl) (by show _=mR [0,1,2,4,5,6] (M9 p [dI (I3 p).vars,dI (I3 p).arrays,dT (I3 p).body]);rw[b11 hf ab]<;>rfl)
   have q1:(l9 (i7.mk (m5 p.arrays p.body (-1) 0 (p.vars,[])).fst p.arrays (m5 p.arrays p.body (-1) 0 (p.vars,[])).snd))=false:=(Eq.mp (co9 _) h1);refine rT G _ h1 (wp_seq (E8 G f8 [(2,.ptr 3 0),(3,bA false),(8,.ptr 7 0)] fun G=>b6 (wp_ret (l0 ?_))));obtain⟨ρ,G⟩:=G.nil 8 0 (.ints []) 1 (M9 p (.box [.ref 8,.v (.slice none 0 0),.v (.slice none 0 0)]::(aw8 p [.box [.ref 4,.ref 5,.tref 6]]))) [(2,.ptr 3 0),(3,bA false),(8,.ptr 7 0)];obtain⟨ρ,G⟩:=G.nil 9 0 (.ints []) 1 (M9 p (.box [.ref 8,.ref 9,.v (.slice none 0 0)]::(aw8 p [.box [.ref 4,.ref 5,.tref 6],.row 0 (D.ints [])]))) [(2,.ptr 3 0),(3,bA false),(8,.ptr 7 0)];obtain⟨ρ,G⟩:=G.nil 10 0 (.stmts []) 10 (M9 p (.box (pL 8)::(aw8 p [.box [.ref 4,.ref 5,.tref 6],.row 0 (D.ints []),.row 0 (D.ints [])]))) [(2,.ptr 3 0),(3,bA false),(8,.ptr 7 0)];obtain⟨ρ,G⟩:=G.frz [.no,.no,.no,.no,.no,.no,.no,.no,.row 0,.row 0,.row 0] (M9 p (.box (pL 8)::(aw8 p [.box [.ref 4,.ref 5,.tref 6],dI [],dI [],dT []]))) [(2,.ptr 3 0),(3,bA false),(8,.ptr 7 0)];exact Y0 (.tup [pA 8,bA false]) G [0,1,2,8,9,10] (by have e1:(okL p:Bool)=(false):=(b00 ab);(first|rw[e1]|simp only[e1])<;>rfl) (by show _=mR [0,1,2,8,9,10] (M9 p [dI (I3 p).vars,dI (I3 p).arrays,dT (I3 p).body]);rw[b10 ab]<;>rfl)
  have q0:=bne_iff_ne.1 h0;exact False.elim (by exact absurd hf al)
theorem ba6(p:i7)(hb:p.size<=1048576):j7.ok Tryz.prog ⟨40,[pA 0],pS p,pS p++pS (I3 p),.tup [pA 3,bA (okL p)]⟩:=by
 by_cases hf:(X4 p false).1=0
 ·exact aY1 p hb hf
 exact aY2 p hb hf
theorem aE2(p:i7)(hb:p.size<=1048576):j7.ok Tryz.prog ⟨14,[pA 0],pS p,pS p++[rI (cvP (I3 p)),rI (caP (I3 p)),rN (K5 (I3 p)).1],.tup [.agg [.ref 3,.ref 4,.ref 5],bA (okC (I3 p))]⟩:=by
 refine H9 18 Tryz.func14 [dI p.vars,dI p.arrays,dT p.body] [(0,pA 0)] fun G=>?_;have hz:=b09 p
 have hz1:(I3 p).size<=1048576:=al
 refine wp_seq (j9 G f8 [0,1,2,3,11] [dI p.vars,dI p.arrays,dT p.body,.box (pL 0),.box [.v (.slice none 0 0),.v (.slice none 0 0),.v (.slice none 0 0)]] [(1,.ptr 3 0),(2,.ptr 4 0),(3,bA false)] fun G=>b6 (wp_seq (j9 G (v8 1 [0,1,2] (ba6 p ai)) [0,1,2,4,13,14,15,45] [dI p.vars,dI p.arrays,dT p.body,.box [.v (.slice none 0 0),.v (.slice none 0 0),.v (.slice none 0 0)],dI (I3 p).vars,dI (I3 p).arrays,dT (I3 p).body,.box (pL 4)] [(2,.ptr 3 0),(3,bA false),(4,.ptr 7 0),(5,bA (okL p))] fun G=>b6 (wp_seq (wp_seq (l6 G f8 [(12,.v (.bool !okL p))] fun G=>b6 ?_))))));cases h0:(!okL p)
 ·have q0:(okL p)=true:=(Eq.mp (cp7 _) h0);refine rF G _ h0 (wp_skip (b6 (wp_seq (j9 G (v8 1 [4,5,6] (aA1 (I3 p) ai)) [0,1,2,3,16,17,18] [dI p.vars,dI p.arrays,dT p.body,.box (pL 4),.row 3 (D.ints (cvP (I3 p))),.row 3 (D.ints (caP (I3 p))),.row 76 (D.instrs (K5 (I3 p)).fst)] [(2,.ptr 3 0),(3,bA (okC (I3 p)))] fun G=>b6 (wp_ret ?_)))));exact O7 G [0,1,2,4,5,6]
 have q0:(okL p)=false:=(Eq.mp (co9 _) h0);refine rT G _ h0 (wp_seq (E8 G f8 [(2,.ptr 3 0),(3,bA false),(4,.ptr 7 0)] fun G=>b6 (wp_ret (l0 ?_))));obtain⟨ρ,G⟩:=G.nil 8 3 (.ints []) 1 [dI p.vars,dI p.arrays,dT p.body,.box [.ref 8,.v (.slice none 0 0),.v (.slice none 0 0)],dI (I3 p).vars,dI (I3 p).arrays,dT (I3 p).body,.box (pL 4)] [(2,.ptr 3 0),(3,bA false),(4,.ptr 7 0)];obtain⟨ρ,G⟩:=G.nil 9 3 (.ints []) 1 [dI p.vars,dI p.arrays,dT p.body,.box [.ref 8,.ref 9,.v (.slice none 0 0)],dI (I3 p).vars,dI (I3 p).arrays,dT (I3 p).body,.box (pL 4),.row 3 (D.ints [])] [(2,.ptr 3 0),(3,bA false),(4,.ptr 7 0)];obtain⟨ρ,G⟩:=G.nil 10 76 (.instrs []) 5 [dI p.vars,dI p.arrays,dT p.body,.box (pL 8),dI (I3 p).vars,dI (I3 p).arrays,dT (I3 p).body,.box (pL 4),.row 3 (D.ints []),.row 3 (D.ints [])] [(2,.ptr 3 0),(3,bA false),(4,.ptr 7 0)];exact Y0 (.tup [pA 8,bA false]) G [0,1,2,8,9,10] (by have e1:(okC (I3 p):Bool)=(false):=(br0 ab);(first|rw[e1]|simp only[e1])<;>rfl) (by show _=mR [0,1,2,8,9,10] [dI p.vars,dI p.arrays,dT p.body,.row 3 (D.ints (cvP (I3 p))),.row 3 (D.ints (caP (I3 p))),.row 76 (D.instrs (K5 (I3 p)).fst)];have e2:(caP (I3 p):List Int)=([]):=(by rw[b35 (br0 ab)];done);have e3:((K5 (I3 p)).fst:List d7)=([]):=(by rw[az7 (br0 ab)];done);rw[e2,e3,b29 (br0 ab)]<;>rfl)
abbrev ncC(b:List UInt8)(j:Int)(c:d9)(q:Int):j7:=⟨27,[.ptr 0 0],[.box [.ref 1,iA j],dY b],[.box [.ref 1,iA q],dY b,rI c.vars,rI c.arrays,rN c.list],.agg [.ref 2,.ref 3,.ref 4]⟩
theorem bW0{p:i7}{x:Bool}(hb:p.size<=1048576)(h:okC (I3 p)=x):j7.ok Tryz.prog ⟨14,[pA 0],pS p,pS p++[rI (cvP (I3 p)),rI (caP (I3 p)),rN (K5 (I3 p)).1],.tup [.agg [.ref 3,.ref 4,.ref 5],bA x]⟩:=h▸aE2 p hb
abbrev by3:It:=.box [.v (.slice none 0 0),.v (.slice none 0 0),.v (.slice none 0 0)]
theorem b81(b:List UInt8)(j:Int)(h0:¬pk b (l7 b j).2 3=0)(h1:¬pk b (l7 b j).2 3=1)(r0:0<=j)(r1:j<=1000000):j7.ok Tryz.prog (ncC b j (l7 b j).1 ((l7 b j).2+1)):=by
  have hcd:=bJ6 b r0 (show j<=10000000 by omega);refine H9 103 Tryz.func27 [.box [.ref 1,iA j],dY b] [(0,.ptr 0 0)] fun G=>?_;refine wp_seq (j9 G f8 [0,1,2] [.box [.ref 1,iA j],dY b,by3] [(0,.ptr 0 0),(2,.ptr 2 0)] fun G=>b6 (wp_seq (j9 G (v8 1 [0,1] (aw2 b j ai al)) [0,1,2,11,12,13,19] [.box [.ref 1,iA (l7 b j).snd],dY b,by3,.row 3 (D.ints (l7 b j).fst.vars),.row 3 (D.ints (l7 b j).fst.arrays),.row 76 (D.instrs (l7 b j).fst.list),.box (pL 3)] [(0,.ptr 0 0),(2,.ptr 2 0),(3,.ptr 6 0)] fun G=>b6 (wp_seq (wp_seq (j9 G (v8 1 [0,1] (C9 b ((l7 b j).snd) 3 al al)) (rg 7) [.box [.ref 1,iA ((l7 b j).snd+1)],dY b,by3,.row 3 (D.ints (l7 b j).fst.vars),.row 3 (D.ints (l7 b j).fst.arrays),.row 76 (D.instrs (l7 b j).fst.list),.box (pL 3)] [(0,.ptr 0 0),(2,.ptr 2 0),(3,.ptr 6 0),(12,iA (pk b (l7 b j).snd 3))] fun G=>b6 (wp_block (wp_seq (E8 G f8 [(0,.ptr 0 0),(2,.ptr 2 0),(3,.ptr 6 0),(12,iA (pk b (l7 b j).snd 3)),(13,bA (pk b (l7 b j).snd 3==0))] fun G=>b6 ?_)))))))));cases h0:(pk b (l7 b j).snd (3:Int)==0)
  ·
   have q0:=ne_of_beq_false h0;refine rF G _ h0 (wp_seq (E8 G f8 [(2,.ptr 2 0),(3,.ptr 6 0),(29,bA (pk b (l7 b j).snd 3==1))] fun G=>b6 ?_));cases h1:(pk b (l7 b j).snd (3:Int)==1)
   · have q1:=ne_of_beq_false h1;refine rF G _ h1 (wp_skip (n4 (b6 (wp_seq (j9 G f8 (rg 6) [.box [.ref 1,iA ((l7 b j).snd+1)],dY b,.box (pL 3),.row 3 (D.ints (l7 b j).fst.vars),.row 3 (D.ints (l7 b j).fst.arrays),.row 76 (D.instrs (l7 b j).fst.list)] [(2,.ptr 2 0)] fun G=>b6 (wp_ret ?_))))));exact O7 G [0,1,3,4,5]
   have q1:=eq_of_beq h1;exact False.elim al
  have q0:=eq_of_beq h0;exact False.elim al
abbrev aj4:It:=.box [.v (.slice none 0 0),.v (.slice none 0 0),.v (.slice none 0 0)]
abbrev ap5(b:List UInt8)(j:Int):It:=.box [.ref 1,iA ((l7 b j).snd+1)]
abbrev aB2(b:List UInt8)(j:Int)(k:Nat):It:=.row 3 (D.ints (rqL 1 (l7 b j).fst.vars k))
abbrev aR4(b:List UInt8)(j:Int)(i:Nat):It:=.row 3 (D.ints (rqL 1 (l7 b j).fst.arrays i))
abbrev aR3(b:List UInt8)(j:Int):It:=.row 76 (D.instrs (l7 b j).fst.list)
theorem b82(b:List UInt8)(j:Int)(hpk:pk b (l7 b j).2 3=1)(r0:0<=j)(r1:j<=1000000):j7.ok Tryz.prog (ncC b j ⟨(l7 b j).1.vars.map fun x=>l5 x 1,(l7 b j).1.arrays.map fun x=>l5 x 1,(l7 b j).1.list.map fnI⟩ ((l7 b j).2+1)):=by
  have hcd:=bJ6 b r0 (show j<=10000000 by omega);have hpg:=bC9 b j;have hpv:(l7 b j).1.vars.length<=12:=hpg.1;have hpa:(l7 b j).1.arrays.length<=2:=hpg.2.1;refine H9 103 Tryz.func27 [.box [.ref 1,iA j],dY b] [(0,.ptr 0 0)] fun G=>?_;refine wp_seq (j9 G f8 [0,1,2] [.box [.ref 1,iA j],dY b,aj4] [(0,.ptr 0 0),(2,.ptr 2 0)] fun G=>b6 (wp_seq (j9 G (v8 1 [0,1] (aw2 b j ai al)) [0,1,2,11,12,13,19] [.box [.ref 1,iA (l7 b j).snd],dY b,aj4,.row 3 (D.ints (l7 b j).fst.vars),.row 3 (D.ints (l7 b j).fst.arrays),aR3 b j,.box (pL 3)] [(0,.ptr 0 0),(2,.ptr 2 0),(3,.ptr 6 0)] fun G=>b6 (wp_seq (wp_seq (j9 G (v8 1 [0,1] (C9 b ((l7 b j).snd) 3 al al)) (rg 7) [ap5 b j,dY b,aj4,.row 3 (D.ints (l7 b j).fst.vars),.row 3 (D.ints (l7 b j).fst.arrays),aR3 b j,.box (pL 3)] [(0,.ptr 0 0),(2,.ptr 2 0),(3,.ptr 6 0),(12,iA (pk b (l7 b j).snd 3))] fun G=>b6 (wp_block (wp_seq (E8 G f8 [(0,.ptr 0 0),(2,.ptr 2 0),(3,.ptr 6 0),(12,iA (pk b (l7 b j).snd 3)),(13,bA (pk b (l7 b j).snd 3==0))] fun G=>b6 ?_)))))))));cases h0:(pk b (l7 b j).snd (3:Int)==0)
  ·
   have q0:=ne_of_beq_false h0;refine rF G _ h0 (wp_seq (E8 G f8 [(2,.ptr 2 0),(3,.ptr 6 0),(29,bA (pk b (l7 b j).snd 3==1))] fun G=>b6 ?_));cases h1:(pk b (l7 b j).snd (3:Int)==1)
   · have q1:=ne_of_beq_false h1;exact False.elim al
   have q1:=eq_of_beq h1;refine rT G _ h1 (wp_seq (wp_seq (E8 G f8 [(2,.ptr 2 0),(3,.ptr 6 0),(6,iA 0)] fun G=>b6 (wp_block ?_))));refine t9 (κ:=Nat) (fun k=>k<=(l7 b j).1.vars.length) (fun k=>(l7 b j).1.vars.length-k) (fun k=>[.box [.ref 1,iA ((l7 b j).snd+1)],dY b,.box [.v (.slice none 0 0),.v (.slice none 0 0),.v (.slice none 0 0)],.row 3 (.ints (rqL 1 (l7 b j).1.vars k)),.row 3 (D.ints (l7 b j).fst.arrays),.row 76 (D.instrs (l7 b j).fst.list),.box (pL 3)]) (fun k=>[(2,.ptr 2 0),(3,.ptr 6 0),(6,iA k)]) 0 al (v9.at G _ _) ?_;clear G;intro k ρ a w hp G;replace G:=v9.at G [ap5 b j,dY b,aj4,aB2 b j k,.row 3 (D.ints (l7 b j).fst.arrays),aR3 b j,.box (pL 3)] [(2,.ptr 2 0),(3,.ptr 6 0),(6,iA k)];have hq:=bn6 1 (l7 b j).1.vars k;refine wp_seq (wp_seq (l6 G f8 [(35,bA (decide ((k:Int)<((rqL 1 (l7 b j).fst.vars k).length:Int))))] fun G=>b6 (rcD G (fun h2 q2=>?_) fun h2 q2=>?_)))
   ·
    refine wp_exit (t7 (t7 (t5 (b6 (wp_seq (wp_seq (E8 G f8 [(2,.ptr 2 0),(3,.ptr 6 0),(7,iA 0)] fun G=>b6 (wp_block ?_))))))));refine t9 (κ:=Nat) (fun i=>i<=(l7 b j).1.arrays.length) (fun i=>(l7 b j).1.arrays.length-i) (fun i=>[.box [.ref 1,iA ((l7 b j).snd+1)],dY b,.box [.v (.slice none 0 0),.v (.slice none 0 0),.v (.slice none 0 0)],.row 3 (D.ints (rqL 1 (l7 b j).fst.vars k)),.row 3 (.ints (rqL 1 (l7 b j).1.arrays i)),.row 76 (D.instrs (l7 b j).fst.list),.box (pL 3)]) (fun i=>[(2,.ptr 2 0),(3,.ptr 6 0),(7,iA i)]) 0 al (v9.at G _ _) ?_;clear G;intro i ρ a w hp G;replace G:=v9.at G [ap5 b j,dY b,aj4,aB2 b j k,aR4 b j i,aR3 b j,.box (pL 3)] [(2,.ptr 2 0),(3,.ptr 6 0),(7,iA i)];have hqa:=bn6 1 (l7 b j).1.arrays i;refine wp_seq (wp_seq (l6 G f8 [(52,bA (decide ((i:Int)<((rqL 1 (l7 b j).fst.arrays i).length:Int))))] fun G=>b6 (rcD G (fun h3 q3=>?_) fun h3 q3=>?_)))
    ·
     refine wp_exit (t7 (t7 (t5 (b6 (wp_seq (E8 G f8 [(2,.ptr 2 0),(3,.ptr 6 0),(8,iA 0)] fun G=>b6 (wp_block ?_)))))));refine t9 (κ:=Nat) (fun n=>n<=(l7 b j).1.list.length) (fun n=>(l7 b j).1.list.length-n) (fun n=>[.box [.ref 1,iA ((l7 b j).snd+1)],dY b,.box [.v (.slice none 0 0),.v (.slice none 0 0),.v (.slice none 0 0)],.row 3 (D.ints (rqL 1 (l7 b j).fst.vars k)),.row 3 (D.ints (rqL 1 (l7 b j).fst.arrays i)),.row 76 (.instrs (fnL (l7 b j).1.list n)),.box (pL 3)]) (fun n=>[(2,.ptr 2 0),(3,.ptr 6 0),(8,iA n)]) 0 al (v9.at G _ _) ?_;clear G;intro n ρ a w hp G;replace G:=v9.at G [ap5 b j,dY b,aj4,aB2 b j k,aR4 b j i,.row 76 (D.instrs (fnL (l7 b j).fst.list n)),.box (pL 3)] [(2,.ptr 2 0),(3,.ptr 6 0),(8,iA n)];have hql:=bq1 (l7 b j).1.list n;refine wp_seq (wp_seq (l6 G f8 [(69,bA (decide ((n:Int)<((fnL (l7 b j).fst.list n).length:Int))))] fun G=>b6 (rcD G (fun h4 q4=>?_) fun h4 q4=>?_)))
     · refine wp_exit (t7 (t7 (t5 (n4 (b6 (wp_seq (j9 G f8 (rg 6) [ap5 b j,dY b,.box (pL 3),aB2 b j k,aR4 b j i,.row 76 (D.instrs (fnL (l7 b j).fst.list n))] [(2,.ptr 2 0)] fun G=>b6 (wp_ret ?_))))))));exact O7 G [0,1,3,4,5] (by show _=mR [0,1,3,4,5] [.box [.ref 1,iA ((l7 b j).snd+1)],dY b,.row 3 (D.ints (d9.mk (List.map (fun(x:Int)=>l5 x 1) (l7 b j).fst.vars) (List.map (fun(x:Int)=>l5 x 1) (l7 b j).fst.arrays) (List.map fnI (l7 b j).fst.list)).vars),.row 3 (D.ints (d9.mk (List.map (fun(x:Int)=>l5 x 1) (l7 b j).fst.vars) (List.map (fun(x:Int)=>l5 x 1) (l7 b j).fst.arrays) (List.map fnI (l7 b j).fst.list)).arrays),.row 76 (D.instrs (d9.mk (List.map (fun(x:Int)=>l5 x 1) (l7 b j).fst.vars) (List.map (fun(x:Int)=>l5 x 1) (l7 b j).fst.arrays) (List.map fnI (l7 b j).fst.list)).list)];have e1:((d9.mk (List.map (fun(x:Int)=>l5 x 1) (l7 b j).fst.vars) (List.map (fun(x:Int)=>l5 x 1) (l7 b j).fst.arrays) (List.map fnI (l7 b j).fst.list)).vars:List Int)=(rqL 1 (l7 b j).fst.vars k):=((bn7 al).symm);have e2:((d9.mk (List.map (fun(x:Int)=>l5 x 1) (l7 b j).fst.vars) (List.map (fun(x:Int)=>l5 x 1) (l7 b j).fst.arrays) (List.map fnI (l7 b j).fst.list)).arrays:List Int)=(rqL 1 (l7 b j).fst.arrays i):=((bn7 al).symm);have e3:((d9.mk (List.map (fun(x:Int)=>l5 x 1) (l7 b j).fst.vars) (List.map (fun(x:Int)=>l5 x 1) (l7 b j).fst.arrays) (List.map fnI (l7 b j).fst.list)).list:List d7)=(fnL (l7 b j).fst.list n):=((bQ7 al).symm);(first|rw[e1,e2,e3]|simp only[e1,e2,e3])<;>rfl)
     refine wp_skip (b6 (wp_seq (wp_block (wp_seq ?_))));cases h5:(((fnL (l7 b j).fst.list n).getD n cm7).op==9)
     ·
      have q5:=ne_of_beq_false h5;cases h6:(((fnL (l7 b j).fst.list n).getD n cm7).op==4)
      ·
       have q6:=ne_of_beq_false h6;refine M8 G (K0 (fc h5 (fc h6 fz)) (us [(8,14,0),(1015,1015,0),(17,23,1),(1024,1024,1)])) [(96,bA (((fnL (l7 b j).fst.list n).getD n cm7).op==5))] (iX n n ((fnL (l7 b j).fst.list n).length) (iX n n ((fnL (l7 b j).fst.list n).length) (iX n n ((fnL (l7 b j).fst.list n).length) []))) (iK al (iK al (iK al co8))) fun G=>b6 (Q7 G (fun h7 q7=>?_) fun h7 q7=>?_)
       · refine wp_skip (n4 (b6 (M8 G f8 [(8,iA ((n:Int)+1))] [wO ((n:Int)+1)] (o1 al) fun G=>b6 ?_)));exact R2 G (n+1) al al (rg 7) (by have e1:(fnL (l7 b j).fst.list (n+1):List d7)=(fnL (l7 b j).fst.list n):=(cc5 al al);(first|rw[e1]|simp only[e1])<;>rfl)
       refine Z5 G f8 (rg 7) [ap5 b j,dY b,aj4,aB2 b j k,aR4 b j i,.row 76 (D.instrs ((fnL (l7 b j).fst.list n).set n (d7.mk 12 0 0 0 0))),.box (pL 3)] [(2,.ptr 2 0),(3,.ptr 6 0),(8,iA n)] (iX n n ((fnL (l7 b j).fst.list n).length) []) (iK al co8) fun G=>n4 (b6 (M8 G f8 [(8,iA ((n:Int)+1))] [wO ((n:Int)+1)] (o1 al) fun G=>b6 ?_));exact R2 G (n+1) al al (rg 7) (by have e1:(fnL (l7 b j).fst.list (n+1):List d7)=((fnL (l7 b j).fst.list n).set n (d7.mk 12 0 0 0 0)):=(bH2 al al);(first|rw[e1]|simp only[e1])<;>rfl)
      have q6:=eq_of_beq h6;refine M8 G (K0 (fc h5 (fc h6 fz)) (us [(8,14,0),(1015,1015,0),(17,23,1),(1024,1024,1)])) [(96,bA true)] (iX n n ((fnL (l7 b j).fst.list n).length) (iX n n ((fnL (l7 b j).fst.list n).length) [])) (iK al (iK al co8)) fun G=>b6 (rT G true aj (Z5 G f8 (rg 7) [ap5 b j,dY b,aj4,aB2 b j k,aR4 b j i,.row 76 (D.instrs ((fnL (l7 b j).fst.list n).set n (d7.mk 12 0 0 0 0))),.box (pL 3)] [(2,.ptr 2 0),(3,.ptr 6 0),(8,iA n)] (iX n n ((fnL (l7 b j).fst.list n).length) []) (iK al co8) fun G=>n4 (b6 (M8 G f8 [(8,iA ((n:Int)+1))] [wO ((n:Int)+1)] (o1 al) fun G=>b6 ?_))));exact R2 G (n+1) al al (rg 7) (by have e1:(fnL (l7 b j).fst.list (n+1):List d7)=((fnL (l7 b j).fst.list n).set n (d7.mk 12 0 0 0 0)):=(bH2 al al);(first|rw[e1]|simp only[e1])<;>rfl)
     have q5:=eq_of_beq h5;refine M8 G (K0 (fc h5 (fc (b:=true) rfl fz)) (us [(8,14,0),(1015,1015,0),(17,23,1),(1024,1024,1)])) [(96,bA true)] (iX n n ((fnL (l7 b j).fst.list n).length) []) (iK al co8) fun G=>b6 (rT G true aj (Z5 G f8 (rg 7) [ap5 b j,dY b,aj4,aB2 b j k,aR4 b j i,.row 76 (D.instrs ((fnL (l7 b j).fst.list n).set n (d7.mk 12 0 0 0 0))),.box (pL 3)] [(2,.ptr 2 0),(3,.ptr 6 0),(8,iA n)] (iX n n ((fnL (l7 b j).fst.list n).length) []) (iK al co8) fun G=>n4 (b6 (M8 G f8 [(8,iA ((n:Int)+1))] [wO ((n:Int)+1)] (o1 al) fun G=>b6 ?_))));exact R2 G (n+1) al al (rg 7) (by have e1:(fnL (l7 b j).fst.list (n+1):List d7)=((fnL (l7 b j).fst.list n).set n (d7.mk 12 0 0 0 0)):=(bH2 al al);(first|rw[e1]|simp only[e1])<;>rfl)
    refine wp_skip (b6 (wp_seq (wp_block (R3 G f8 [0,1,0,0,8,0,56,120,248,511,1023] (rg 7) [ap5 b j,dY b,aj4,aB2 b j k,.row 3 (D.ints ((rqL 1 (l7 b j).fst.arrays i).set i (l5 ((rqL 1 (l7 b j).fst.arrays i).getD i 0) 1))),aR3 b j,.box (pL 3)] [(2,.ptr 2 0),(3,.ptr 6 0),(7,iA i)] (iX i i ((rqL (1:Int) (l7 b j).fst.arrays i).length) (iX i i ((rqL (1:Int) (l7 b j).fst.arrays i).length) [])) (iK al (iK al co8)) fun G=>n4 (b6 (M8 G f8 [(7,iA ((i:Int)+1))] [wO ((i:Int)+1)] (o1 al) fun G=>b6 ?_))))));exact R2 G (i+1) al al (rg 7) (by have e1:(rqL 1 (l7 b j).fst.arrays (i+1):List Int)=((rqL 1 (l7 b j).fst.arrays i).set i (l5 ((rqL 1 (l7 b j).fst.arrays i).getD i 0) 1)):=((bn5 al).symm);(first|rw[e1]|simp only[e1])<;>rfl)
   refine wp_skip (b6 (wp_seq (wp_block (R3 G f8 [0,1,0,0,8,0,56,120,248,511,1023] (rg 7) [ap5 b j,dY b,aj4,.row 3 (D.ints ((rqL 1 (l7 b j).fst.vars k).set k (l5 ((rqL 1 (l7 b j).fst.vars k).getD k 0) 1))),.row 3 (D.ints (l7 b j).fst.arrays),aR3 b j,.box (pL 3)] [(2,.ptr 2 0),(3,.ptr 6 0),(6,iA k)] (iX k k ((rqL (1:Int) (l7 b j).fst.vars k).length) (iX k k ((rqL (1:Int) (l7 b j).fst.vars k).length) [])) (iK al (iK al co8)) fun G=>n4 (b6 (M8 G f8 [(6,iA ((k:Int)+1))] [wO ((k:Int)+1)] (o1 al) fun G=>b6 ?_))))));exact R2 G (k+1) al al (rg 7) (by have e1:(rqL 1 (l7 b j).fst.vars (k+1):List Int)=((rqL 1 (l7 b j).fst.vars k).set k (l5 ((rqL 1 (l7 b j).fst.vars k).getD k 0) 1)):=((bn5 al).symm);(first|rw[e1]|simp only[e1])<;>rfl)
  have q0:=eq_of_beq h0;exact False.elim al
abbrev bm0:It:=.box [.v (.slice none 0 0),.v (.slice none 0 0),.v (.slice none 0 0)]
abbrev bk9(b:List UInt8)(j:Int)(r0:List It):List It:=.row 3 (D.ints (l7 b j).fst.vars)::.row 3 (D.ints (l7 b j).fst.arrays)::.row 76 (D.instrs (l7 b j).fst.list)::.box (pL 3)::r0
theorem bY0(b:List UInt8)(j:Int)(hpk:pk b (l7 b j).2 3=0)(hok:okC (I3 (I8 b 3 ((l7 b j).2+1)).1)=true)(hl:(K5 (I3 (I8 b 3 ((l7 b j).2+1)).1)).1.length<=60)(r0:0<=j)(r1:j<=1000000):j7.ok Tryz.prog (ncC b j ⟨cvP (I3 (I8 b 3 ((l7 b j).2+1)).1),caP (I3 (I8 b 3 ((l7 b j).2+1)).1),(K5 (I3 (I8 b 3 ((l7 b j).2+1)).1)).1⟩ (I8 b 3 ((l7 b j).2+1)).2):=by
  have hcd:=bJ6 b r0 (show j<=10000000 by omega);have hfi:=bR1 b 3 ((l7 b j).2+1) (cn4 _) al al;have hcs:=bW0 (show(I8 b 3 ((l7 b j).2+1)).1.size<=1048576 by omega) hok;refine H9 103 Tryz.func27 [.box [.ref 1,iA j],dY b] [(0,.ptr 0 0)] fun G=>?_;refine wp_seq (j9 G f8 [0,1,2] [.box [.ref 1,iA j],dY b,bm0] [(0,.ptr 0 0),(2,.ptr 2 0)] fun G=>b6 (wp_seq (j9 G (v8 1 [0,1] (aw2 b j ai al)) [0,1,2,11,12,13,19] (.box [.ref 1,iA (l7 b j).snd]::dY b::bm0::(bk9 b j [])) [(0,.ptr 0 0),(2,.ptr 2 0),(3,.ptr 6 0)] fun G=>b6 (wp_seq (wp_seq (j9 G (v8 1 [0,1] (C9 b ((l7 b j).snd) 3 al al)) (rg 7) (.box [.ref 1,iA ((l7 b j).snd+1)]::dY b::bm0::(bk9 b j [])) [(0,.ptr 0 0),(2,.ptr 2 0),(3,.ptr 6 0),(12,iA (pk b (l7 b j).snd 3))] fun G=>b6 (wp_block (wp_seq (E8 G f8 [(0,.ptr 0 0),(2,.ptr 2 0),(3,.ptr 6 0),(12,iA (pk b (l7 b j).snd 3)),(13,bA (pk b (l7 b j).snd 3==0))] fun G=>b6 ?_)))))))));cases h0:(pk b (l7 b j).snd (3:Int)==0)
  · have q0:=ne_of_beq_false h0;exact False.elim al
  have q0:=eq_of_beq h0;refine rT G _ h0 (wp_seq (j9 G (H5 (v7 1 [0,1] (aC5 b ((l7 b j).snd+1) al al) (v7 2 [15,16,17] (j7.lend hcs [.row 3,.row 3,.tree]) H4)) fz []) [0,1,2,3,4,5,6,23,24,25,55] (.box [.ref 1,iA (I8 b 3 ((l7 b j).snd+1)).snd]::dY b::bm0::(bk9 b j [.row 3 (D.ints (cvP (I3 (I8 b 3 ((l7 b j).snd+1)).fst))),.row 3 (D.ints (caP (I3 (I8 b 3 ((l7 b j).snd+1)).fst))),.row 76 (D.instrs (K5 (I3 (I8 b 3 ((l7 b j).snd+1)).fst)).fst),.box (pL 7)])) [(2,.ptr 2 0),(3,.ptr 6 0),(4,.ptr 10 0),(5,bA true)] fun G=>b6 (wp_seq (E8 G (K0 (fc (b:=true) rfl fz) (us [(2,5,0),(1006,1006,0)])) [(2,.ptr 2 0),(3,.ptr 6 0),(4,.ptr 10 0),(27,bA (decide (((K5 (I3 (I8 b 3 ((l7 b j).snd+1)).fst)).fst.length:Int)<=60)))] fun G=>b6 ?_))));cases h1:(decide (((K5 (I3 (I8 b (3:Nat) ((l7 b j).snd+1)).fst)).fst.length:Int)<=60))
  · have q1:=dFf h1;exact False.elim al
  have q1:=dTt h1;refine rT G _ h1 (wp_seq (j9 G f8 (rg 10) (.box [.ref 1,iA (I8 b 3 ((l7 b j).snd+1)).snd]::dY b::.box (pL 7)::(bk9 b j [.row 3 (D.ints (cvP (I3 (I8 b 3 ((l7 b j).snd+1)).fst))),.row 3 (D.ints (caP (I3 (I8 b 3 ((l7 b j).snd+1)).fst))),.row 76 (D.instrs (K5 (I3 (I8 b 3 ((l7 b j).snd+1)).fst)).fst)])) [(2,.ptr 2 0),(3,.ptr 6 0)] fun G=>b6 (wp_ret (A3 (l0 ?_)))));exact O7 G [0,1,7,8,9]
abbrev bl9:It:=.box [.v (.slice none 0 0),.v (.slice none 0 0),.v (.slice none 0 0)]
abbrev a22(b:List UInt8)(j:Int)(r0:List It):List It:=.row 3 (D.ints (l7 b j).fst.vars)::.row 3 (D.ints (l7 b j).fst.arrays)::.row 76 (D.instrs (l7 b j).fst.list)::r0
theorem bY1(b:List UInt8)(j:Int)(x:Bool)(hpk:pk b (l7 b j).2 3=0)(hok:okC (I3 (I8 b 3 ((l7 b j).2+1)).1)=x)(hl:¬(x=true/\(K5 (I3 (I8 b 3 ((l7 b j).2+1)).1)).1.length<=60))(r0:0<=j)(r1:j<=1000000):j7.ok Tryz.prog (ncC b j (l7 b j).1 (I8 b 3 ((l7 b j).2+1)).2):=by
  have hcd:=bJ6 b r0 (show j<=10000000 by omega);have hfi:=bR1 b 3 ((l7 b j).2+1) (cn4 _) al al;have hcs:=bW0 (show(I8 b 3 ((l7 b j).2+1)).1.size<=1048576 by omega) hok;refine H9 103 Tryz.func27 [.box [.ref 1,iA j],dY b] [(0,.ptr 0 0)] fun G=>?_;refine wp_seq (j9 G f8 [0,1,2] [.box [.ref 1,iA j],dY b,bl9] [(0,.ptr 0 0),(2,.ptr 2 0)] fun G=>b6 (wp_seq (j9 G (v8 1 [0,1] (aw2 b j ai al)) [0,1,2,11,12,13,19] (.box [.ref 1,iA (l7 b j).snd]::dY b::bl9::(a22 b j [.box (pL 3)])) [(0,.ptr 0 0),(2,.ptr 2 0),(3,.ptr 6 0)] fun G=>b6 (wp_seq (wp_seq (j9 G (v8 1 [0,1] (C9 b ((l7 b j).snd) 3 al al)) (rg 7) (.box [.ref 1,iA ((l7 b j).snd+1)]::dY b::bl9::(a22 b j [.box (pL 3)])) [(0,.ptr 0 0),(2,.ptr 2 0),(3,.ptr 6 0),(12,iA (pk b (l7 b j).snd 3))] fun G=>b6 (wp_block (wp_seq (E8 G f8 [(0,.ptr 0 0),(2,.ptr 2 0),(3,.ptr 6 0),(12,iA (pk b (l7 b j).snd 3)),(13,bA (pk b (l7 b j).snd 3==0))] fun G=>b6 ?_)))))))));cases h0:(pk b (l7 b j).snd (3:Int)==0)
  · have q0:=ne_of_beq_false h0;exact False.elim al
  have q0:=eq_of_beq h0;refine rT G _ h0 (wp_seq (j9 G (H5 (v7 1 [0,1] (aC5 b ((l7 b j).snd+1) al al) (v7 2 [15,16,17] (j7.lend hcs [.row 3,.row 3,.tree]) H4)) fz []) [0,1,2,3,4,5,6,23,24,25,55] (.box [.ref 1,iA (I8 b 3 ((l7 b j).snd+1)).snd]::dY b::bl9::(a22 b j [.box (pL 3),.row 3 (D.ints (cvP (I3 (I8 b 3 ((l7 b j).snd+1)).fst))),.row 3 (D.ints (caP (I3 (I8 b 3 ((l7 b j).snd+1)).fst))),.row 76 (D.instrs (K5 (I3 (I8 b 3 ((l7 b j).snd+1)).fst)).fst),.box (pL 7)])) [(2,.ptr 2 0),(3,.ptr 6 0),(4,.ptr 10 0),(5,bA x)] fun G=>b6 (wp_seq ?_)));cases h1:(x)
  · refine l6 G (K0 (fc h1 fz) (us [(2,5,0),(1006,1006,0)])) [(27,bA false)] fun G=>b6 (rF G false aj (wp_skip (n4 (b6 (wp_seq (j9 G f8 (rg 6) (.box [.ref 1,iA (I8 b 3 ((l7 b j).snd+1)).snd]::dY b::.box (pL 3)::(a22 b j [])) [(2,.ptr 2 0)] fun G=>b6 (wp_ret ?_)))))));exact O7 G [0,1,3,4,5]
  refine E8 G (K0 (fc h1 fz) (us [(2,5,0),(1006,1006,0)])) [(2,.ptr 2 0),(3,.ptr 6 0),(4,.ptr 10 0),(27,bA (decide (((K5 (I3 (I8 b 3 ((l7 b j).snd+1)).fst)).fst.length:Int)<=60)))] fun G=>b6 ?_;cases h2:(decide (((K5 (I3 (I8 b (3:Nat) ((l7 b j).snd+1)).fst)).fst.length:Int)<=60))
  · have q2:=dFf h2;refine rF G _ h2 (wp_skip (n4 (b6 (wp_seq (j9 G f8 (rg 6) (.box [.ref 1,iA (I8 b 3 ((l7 b j).snd+1)).snd]::dY b::.box (pL 3)::(a22 b j [])) [(2,.ptr 2 0)] fun G=>b6 (wp_ret ?_))))));exact O7 G [0,1,3,4,5]
  have q2:=dTt h2;exact False.elim (hl ⟨ab,al⟩)
theorem bK1(b:List UInt8)(j:Int)(r0:0<=j)(r1:j<=1000000):j7.ok Tryz.prog ⟨27,[.ptr 0 0],[.box [.ref 1,iA j],dY b],[.box [.ref 1,iA (ncD b j).2],dY b,rI (ncD b j).1.vars,rI (ncD b j).1.arrays,rN (ncD b j).1.list],.agg [.ref 2,.ref 3,.ref 4]⟩:=by
 by_cases h0:pk b (l7 b j).2 3=0
 ·by_cases h2:okC (I3 (I8 b 3 ((l7 b j).2+1)).1)=true/\(K5 (I3 (I8 b 3 ((l7 b j).2+1)).1)).1.length<=60
  ·have e:ncD b j=(⟨cvP (I3 (I8 b 3 ((l7 b j).2+1)).1),caP (I3 (I8 b 3 ((l7 b j).2+1)).1),(K5 (I3 (I8 b 3 ((l7 b j).2+1)).1)).1⟩,(I8 b 3 ((l7 b j).2+1)).2):=by unfold ncD;rw[if_pos h0,if_pos h2]
   rw[e];exact bY0 b j h0 h2.1 h2.2 r0 r1
  have e:ncD b j=((l7 b j).1,(I8 b 3 ((l7 b j).2+1)).2):=by unfold ncD;rw[if_pos h0,if_neg h2]
  rw[e];exact bY1 b j _ h0 rfl h2 r0 r1
 by_cases h1:pk b (l7 b j).2 3=1
 ·have e:ncD b j=(⟨(l7 b j).1.vars.map fun x=>l5 x 1,(l7 b j).1.arrays.map fun x=>l5 x 1,(l7 b j).1.list.map fnI⟩,(l7 b j).2+1):=by unfold ncD;rw[if_neg h0,if_pos h1]
  rw[e];exact b82 b j h1 r0 r1
 have e:ncD b j=((l7 b j).1,(l7 b j).2+1):=by unfold ncD;rw[if_neg h0,if_neg h1]
 rw[e];exact b81 b j h0 h1 r0 r1
theorem nc0(b:List UInt8):0<=(ncD b 0).2/\(ncD b 0).2<=1000000/\(ncD b 0).1.list.length<=60/\(ncD b 0).1.vars.length<=12/\(ncD b 0).1.arrays.length<=2:=by
 have h:=cj5 b (j:=0) al al
 omega
theorem j7.twice{P:Program}{f:FuncId}{args:List AV}{pre S:List It}{d:D}{res:AV}{i:Nat}(hc:j7.ok P ⟨f,args,pre,S,res⟩)(S1:List It)(hi:S[i]? =some (.dat d))(hl:pre.length<=S.length)
  (hS:S.all (fun x=>X1 S.length x.ids)=true) (hg:X1 S.length res.ids=true) (hl1:S1.length=S.length+1) (hd:p6 S1 S.length=.dat d) (h2:∀ρ:Nat->Value,ρ S.length=ρ i->∀j,j<S.length->(p6 S1 j).res ρ j=(p6 S j).res ρ j):j7.ok P ⟨f,args,pre,S1,res⟩:=by
 intro ι φ ψ w0 w F ρ M
 refine(hc ι φ ψ w0 w F ρ M).mono ?_
 rintro x w' ⟨ρ1,h1,rfl,M1⟩
 have hi':p6 S i=.dat d:=by simp[p6,hi]
 have hlt:i<S.length:=(co0.1 hi).1
 have hinv:Inv (p6 S) ρ1 [S.length]:=fun ρ' h j=>by
  by_cases hj:j<S.length
  ·refine It.res_congr _ (fun k hk=>h k ?_) (.inr (.inr (h j ah)))
   have h1:=D8 (cn8.1 hS (S[j]) (co6 hj)) k (by simpa[p6,cn2,cn0 hj]using hk)
   simp;omega
  rw[show p6 S j=.none by simp only[p6,cn2,cp0 (Nat.le_of_not_lt hj)];rfl];rfl
 obtain⟨ρ2,h3,M2,h4⟩:=M1.newDat (id:=S.length) (by simp[p6]) hinv (M1.datAt hi')
 have hρ:ρ2 i=ρ1 i:=h3 i ah
 have e:n6 F ρ2 (n5 (p6 S) [(S.length,.dat d)])=n6 F ρ2 (p6 S1):=by
  funext k
  cases k with
  |inl q=>rfl
  |inr j=>
   simp only[n6,n5]
   by_cases hj:j=S.length
   ·subst hj;rw[if_pos rfl,hd]
   rw[if_neg hj]
   by_cases hj2:j<S.length
   ·exact(h2 ρ2 (by rw[<-h4,hρ]) j hj2).symm
   rw[z7 al,z7 al]
 rw[e]at M2
 refine⟨ρ2,fun k hk=>by
  have hk:k<pre.length:=hk
  rw[h3 k ah];exact h1 k hk,?_,M2⟩
 exact congrArg _ (AV.val_congr res fun k hk=>by
  have:=D8 hg k hk
  exact h3 k ah).symm
theorem bw9(c:List UInt8):j7.ok Tryz.prog ⟨26,[.ref 0],[dY c],[dY c,.box [.ref 2,iA 0],dY (bsD c)],.ptr 1 0⟩:=by
 by_cases h:c.length<=2000
 ·have e:bsD c=c:=co3 h
  rw[e]
  refine j7.twice (bj9 c h) (i:=0) _ rfl (by show(1:Nat)<=2;omega) rfl rfl rfl rfl fun ρ hρ j hj=>?_
  have hj:j<2:=hj
  match j,hj with
  |0,_=>rfl
  |1,_=>
   have hρ:ρ 2=ρ 0:=hρ
   simp only[p6,cn2,cn5,cn1,Option.getD_some,It.res,AV.vals,AV.val,hρ]
 exact bj8 c al
end Go.Proofs.YtfbeblgnjeokaaaGreat
