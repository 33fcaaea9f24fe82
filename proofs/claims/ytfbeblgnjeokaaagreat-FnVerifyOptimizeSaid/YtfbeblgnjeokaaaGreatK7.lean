/- Part 7: functions on the way, plain laws. Conditions: as said. -/
import Derived.Test.YtfbeblgnjeokaaaGreatK1
import Derived.Test.YtfbeblgnjeokaaaGreatK5
import Derived.Test.YtfbeblgnjeokaaaGreatK6
set_option maxRecDepth 100000
set_option maxHeartbeats 16000000
set_option linter.unusedVariables false
set_option linter.unusedSimpArgs false
open Bool renaming and_eq_true → cv4, not_eq_false' → cy2, not_eq_true' → cy0
open Inhabited renaming default → cv2
open List renaming all_eq_true → cw3, append_assoc → cA4, eq_nil_of_length_eq_zero → cw9, getD_eq_getElem?_getD → cv8, getElem?_append_left → cw8, getElem?_append_right → cy7, getElem?_eq_getElem → cv6, getElem?_eq_none → cy1, getElem?_eq_some_iff → cw5, getElem_mem → cx9, length_append → cv9, length_cons → cw2, length_nil → cw6, length_replicate → cx5, length_set → cy3, replicate → cv3, take → cw1, take_of_length_le → cw7
open Nat renaming le_refl → cv7, le_trans → cx8, lt_or_ge → cx7, zero_add → cA0, zero_le → cy4
open True renaming intro → cx2

namespace Go.Proofs.YtfbeblgnjeokaaaGreat
open Go Go.RowKit
structure GrS(sz:Nat)(x r:LnS):Prop where
 lo:x.1.length<=r.1.length
 hi:r.1.length<=x.1.length+4*sz
 st:i9 r.2<=i9 x.2+130*sz
 len:x.2.length<=r.2.length
theorem GrS.refl(x:LnS)(n:Nat):GrS n x x:=⟨cv7 _,al,al,cv7 _⟩
theorem aQ4{nv na:Nat}{s:c5}(h:F6 nv na s=true)(k:s.kind=2):s.index.kids=[]/\atomB s.index=true/\i5 nv na 5 s.index=true:=by
 rw[bf4 k]at h
 simp only[cv4]at h
 have hs:=am2 h.2.1
 exact⟨(aT6 (ars:=[]) (pc:=0) (s:=([],[])) h.2.2.1 hs).2,h.2.2.1,hs⟩
theorem aJ0{e:c6}(h:e.kids=[]):B9 e=0:=by rw[N5,h];rfl
theorem a58{ars:List Int}{na nv d:Nat}(ih:∀(s:c5) (m pc:Int) (x:LnS),j5 nv na d s=true->nv<=x.1.length->GrS (1+M8 s) x (J2 ars s m pc x)):
  ∀(ss:List c5) (m pc:Int) (x:LnS),ss.all (j5 nv na d)=true->nv<=x.1.length->GrS (i9 ss) x (m8 ars ss m pc x)
 |[],_,_,x,_,_=>GrS.refl x _
 |s::r,m,pc,x,h,hx=>by
  simp only[List.all_cons,cv4]at h
  have h1:=ih s m pc x h.1 hx
  have h2:=a58 ih r m pc (J2 ars s m pc x) h.2 (cx8 hx h1.lo)
  rw[m8,i9]
  exact⟨cx8 h1.lo h2.lo,by have:=h1.hi;have:=h2.hi;omega,by have:=h1.st;have:=h2.st;omega,cx8 h1.len h2.len⟩
theorem bx0(ars:List Int)(na nv:Nat):∀(d:Nat) (s:c5) (m pc:Int) (x:LnS),j5 nv na d s=true->nv<=x.1.length->GrS (1+M8 s) x (J2 ars s m pc x)
 |0,_,_,_,_,h,_=>by simp[j5]at h
 | d + 1, s, m, pc, x, h, hx => by
  have blk:=fun(ss:List c5) (m pc:Int) (x:LnS)=>a58 (ars:=ars) (na:=na) (nv:=nv) (d:=d) (fun s m pc x=>bx0 ars na nv d s m pc x) ss m pc x
  rw[V2,cv4,cv4]at h
  obtain⟨hh,hb,he⟩:=h
  have hsz:M8 s=B9 s.index+B9 s.value+i9 s.body+i9 s.els:=by cases s;rfl
  by_cases k4:s.kind=4
  ·rw[ln4 k4]
   have h1:=blk s.body m pc (x.1,[]) hb hx
   have a:=h1.lo;have b:=h1.hi;have c:=h1.st
   simp only[i9]at a b c
   have e0:B9 nnE=0:=rfl
   refine⟨a,?_,?_,?_⟩
   ·simp only;omega
   ·simp only[y9,i9,M8,e0];omega
   simp
  have hv:i5 x.1.length na 5 s.value=true:=H1 hx 5 _ (C1 hh k4)
  obtain⟨g1,g2,g3⟩:=ap4 ars pc na 5 s.value x hv
  have a0:=g1.lo;have b0:=g1.hi;have c0:=g1.st;have d0:=g1.len
  have e0:B9 nnE=0:=rfl
  have e1:B9 (cnE 0)=0:=rfl
  by_cases k3:s.kind=3
  ·cases hs:af2 (i8 x.1 ars 5 s.value)
   ·rw[cj8 k3 hs]
    have h1:=blk s.body m (l6 pc (i8 x.1 ars 5 s.value)) ((d9 ars pc s.value x).1.1,[]) hb (cx8 hx a0)
    have h2:=blk s.els m (l6 pc (i8 x.1 ars 5 s.value)) ((m8 ars s.body m (l6 pc (i8 x.1 ars 5 s.value)) ((d9 ars pc s.value x).1.1,[])).1,[]) he (cx8 hx (cx8 a0 h1.lo))
    have a:=h1.lo;have b:=h1.hi;have c:=h1.st
    have a2:=h2.lo;have b2:=h2.hi;have c2:=h2.st
    simp only[i9]at a b c a2 b2 c2
    refine⟨?_,?_,?_,?_⟩
    ·simp only;omega
    ·simp only;omega
    ·simp only[y9,i9,M8,e0];omega
    simp;omega
   rw[cj7 k3 hs]
   generalize hl:l6 pc (i8 x.1 ars 5 s.value)=l
   generalize hy:ifM (d9 ars pc s.value x) m l=y
   have y1:y.1.length=(d9 ars pc s.value x).1.1.length+2:=by rw[<-hy];simp
   have y2:i9 y.2<=i9 (d9 ars pc s.value x).1.2+20+B9 (d9 ars pc s.value x).2:=by
    have m1:=ai4 m (d9 ars pc s.value x).2 (cnE 0)
    have m2:=ai4 m ⟨9,0,[vrE ((d9 ars pc s.value x).1.1.length:Int),cnE 0]⟩ (cnE 0)
    have m3:B9 ⟨9,0,[vrE ((d9 ars pc s.value x).1.1.length:Int),cnE 0]⟩=2:=rfl
    rw[<-hy]
    simp only[ifM,y9,i9,M8,e0];omega
   have y3:(d9 ars pc s.value x).1.2.length<=y.2.length:=by rw[<-hy];simp
   have h1:=blk s.body ((d9 ars pc s.value x).1.1.length:Int) l y hb al
   have h2:=blk s.els (((d9 ars pc s.value x).1.1++[l]).length:Int) l (m8 ars s.body ((d9 ars pc s.value x).1.1.length:Int) l y) he (by have:=h1.lo;omega)
   have a:=h1.lo;have b:=h1.hi;have c:=h1.st;have d1:=h1.len
   have a2:=h2.lo;have b2:=h2.hi;have c2:=h2.st;have d2:=h2.len
   exact⟨al,al,al,al⟩
  by_cases k5:s.kind=5
  ·rw[ln5 k5]
   refine⟨a0,?_,?_,?_⟩
   ·simp only;omega
   ·simp only[y9,i9,M8,e0];omega
   simp;omega
  by_cases k1:s.kind=1
  ·rw[ln1 k1]
   have m1:=ai4 m (d9 ars pc s.value x).2 (vrE s.target)
   have m2:B9 (vrE s.target)=0:=rfl
   refine⟨a0,?_,?_,?_⟩
   ·simp only;omega
   ·simp only[y9,i9,M8,e0];omega
   simp;omega
  by_cases k2:s.kind=2
  ·obtain⟨q1,-,-⟩:=aQ4 hh k2
   cases hs:af2 (i8 (d9 ars pc s.value x).1.1 ars 5 s.index)
   ·rw[ck0 k2 hs]
    have m1:=ai4 m (d9 ars pc s.value x).2 (rdE s.target s.index)
    have m2:B9 (rdE s.target s.index)=1:=by simp[B9,F9,aJ0 q1]
    have m3:=aJ0 q1
    refine⟨a0,?_,?_,?_⟩
    ·simp only;omega
    ·simp only[y9,i9,M8];omega
    simp;omega
   rw[cj9 k2 hs]
   have m1:=bJ0 ((d9 ars pc s.value x).1.1.length:Int) s.target s.index m q1 4
   refine⟨?_,?_,?_,?_⟩
   ·simp;omega
   ·simp;omega
   ·simp only[y9,i9,M8,e0];omega
   simp;omega
  rw[as4 ⟨k1,k2,k3,k4,k5⟩]at hh;cases hh
theorem a59(ars:List Int){na nv d:Nat}(ss:List c5)(m pc:Int)(x:LnS)(h:ss.all (j5 nv na d)=true)(hx:nv<=x.1.length):GrS (i9 ss) x (m8 ars ss m pc x):=a58 (bx0 ars na nv d) ss m pc x h hx
theorem ax1{nv na:Nat}{e:c6}(h:t4 nv na e=true):B9 e<=14:=by
 unfold t4 at h;simp only[cv4,decide_eq_true_eq]at h;omega
theorem aI7{e:c6}(h:noneB e=true):B9 e=0:=by
 unfold noneB at h;simp only[cv4,decide_eq_true_eq]at h
 exact aJ0 (cw9 h.2)
theorem bu4{nv na d:Nat}(ih:∀s:c5,j5 nv na d s=true->1+M8 s<=29*nS s):∀ss:List c5,ss.all (j5 nv na d)=true->i9 ss<=29*Y5 ss
 |[],_=>cv7 _
 |s::r,h=>by
  simp only[List.all_cons,cv4]at h
  have h1:=ih s h.1
  have h2:=bu4 ih r h.2
  rw[i9,Y5];omega
theorem bI4{nv na:Nat}:∀(d:Nat) (s:c5),j5 nv na d s=true->1+M8 s<=29*nS s
 |0,_,h=>by simp[j5]at h
 | d + 1, s, h => by
  rw[V2,cv4,cv4]at h
  obtain⟨hh,hb,he⟩:=h
  have h1:=bu4 (fun s=>bI4 d s) s.body hb
  have h2:=bu4 (fun s=>bI4 d s) s.els he
  have hsz:M8 s=B9 s.index+B9 s.value+i9 s.body+i9 s.els:=by cases s;rfl
  have hn:=aB8 s
  have key:B9 s.index+B9 s.value<=28:=by
   by_cases k4:s.kind=4
   ·rw[cl2 k4]at hh;simp only[cv4]at hh
    have:=aI7 hh.2.1;have:=aI7 hh.2.2;omega
   by_cases k3:s.kind=3
   ·rw[b52 k3]at hh;simp only[cv4]at hh
    have:=aI7 hh.2.1;have:=ax1 hh.2.2;omega
   by_cases k15:s.kind=1\/s.kind=5
   ·rw[bQ7 k15]at hh;simp only[cv4]at hh
    have:=aI7 hh.2.1;have:=ax1 hh.2.2;omega
   by_cases k2:s.kind=2
   ·rw[bf4 k2]at hh;simp only[cv4]at hh
    have:=ax1 hh.2.1;have:=ax1 hh.2.2.2;omega
   rw[as4 al]at hh;cases hh
  omega
def aP3(p:f7):LnS:=m8 p.arrays p.body (-1) 0 (p.vars,[])
def bD5(p:f7):f7:=⟨(aP3 p).1,p.arrays,(aP3 p).2⟩
theorem af8{p:f7}(h:m6 p=true):p.vars.length<=12/\p.arrays.length<=2/\i9 p.body<=1740:=by
 unfold m6 G2 aj5 at h
 simp only[cv4,decide_eq_true_eq]at h
 have:=bu4 (bI4 5) p.body h.1.2
 omega
theorem bx1{p:f7}(h:m6 p=true):p.vars.length<=(aP3 p).1.length/\(aP3 p).1.length<=7000/\i9 (aP3 p).2<=230000:=by
 have hz:=af8 h
 have hb:p.body.all (j5 p.vars.length p.arrays.length 5)=true:=(aB4 h).2.2.2
 have g:=a59 p.arrays p.body (-1) 0 (p.vars,[]) hb (cv7 _)
 have a:=g.lo;have b:=g.hi;have c:=g.st
 simp only[i9]at a b c
 unfold aP3
 omega
theorem bZ3{p:f7}(h:m6 p=true):(bD5 p).size<=240000:=by
 have h1:=bx1 h
 have h2:=af8 h
 show(aP3 p).1.length+p.arrays.length+i9 (aP3 p).2<=_
 omega
def okL(p:f7):Bool:=decide ((Y6 p false).1=0)&&m6 (bD5 p)
def I9(p:f7):f7:=if okL p=true then bD5 p else⟨[],[],[]⟩
theorem ai8{p:f7}(h:(Y6 p false).1=0):m6 p=true:=((b15 p false).1 h).1
theorem ci5{p:f7}(h:¬(Y6 p false).1=0):okL p=false:=by unfold okL;rw[decide_eq_false h,Bool.false_and]
theorem b47{p:f7}(h:m6 (bD5 p)=false):okL p=false:=by unfold okL;rw[h,Bool.and_false]
theorem b46{p:f7}(h:(Y6 p false).1=0)(h2:m6 (bD5 p)=true):okL p=true:=by unfold okL;rw[decide_eq_true h,h2];rfl
theorem bw8{p:f7}(h:okL p=false):I9 p=⟨[],[],[]⟩:=by unfold I9;rw[h];rfl
theorem b48{p:f7}(h:okL p=true):I9 p=bD5 p:=by unfold I9;rw[h];rfl
theorem ca8(p:f7):(I9 p).size<=240000:=by
 cases h:okL p
 ·rw[bw8 h];simp[f7.size,i9]
 rw[b48 h]
 unfold okL at h
 simp only[cv4,decide_eq_true_eq]at h
 exact bZ3 (ai8 h.1)
theorem aR3{nv na d k:Nat}{ss:List c5}(hs:ss.all (j5 nv na (d+1))=true)(hk:k<ss.length):F6 nv na (ss.getD k cv2)=true/\(ss.getD k cv2).body.all (j5 nv na d)=true/\(ss.getD k cv2).els.all (j5 nv na d)=true:=by
 have h:=cw3.1 hs _ (cx9 hk)
 rw[V2,cv4,cv4]at h
 rw[n7 hk];exact h
abbrev lqC(l:List d8)(fr:List Int)(at0:Int)(s:c5)(d:Int):j8:=⟨182,[.agg [.ref 0,.ref 1,iA at0],sA s 2,iA d],[rN l,rI fr]++sS s,[.dead,.dead]++sS s++[rN (U7 s d (l,fr,at0)).1,rI (U7 s d (l,fr,at0)).2.1],.agg [.ref 6,.ref 7,iA (U7 s d (l,fr,at0)).2.2]⟩
abbrev lrC(l:List d8)(fr:List Int)(at0:Int)(ss:List c5)(d:Int):j8:=⟨145,[.agg [.ref 0,.ref 1,iA at0],.ref 2,iA d],[rN l,rI fr,dT ss],[.dead,.dead,dT ss,rN (r8 ss d (l,fr,at0)).1,rI (r8 ss d (l,fr,at0)).2.1],.agg [.ref 3,.ref 4,iA (r8 ss d (l,fr,at0)).2.2]⟩
mutual
theorem cc8:∀(s:c5) (d:Int) (x:P3),x.2.2<=(U7 s d x).2.2/\(U7 s d x).2.2<=x.2.2+nS s
 | ⟨k, t, i, v, c, b, e⟩, d, x => by
  rw[U7,nS]
  split
  ·have h:=ao0 b (d+1) (J3 (x.1,x.2.1,x.2.2+1) x.2.2 [⟨1,9+d,c,0,0⟩])
   simp only[J3]at h ⊢
   omega
  split
  ·simp only[J3];omega
  split
  ·simp only[J3];omega
  split
  ·simp only[J3];omega
  simp only
  generalize hy:J3 (x.1,x.2.1,x.2.2+1) x.2.2 (d7 v 0)=y
  have hy1:y.2.2=x.2.2+1:=by rw[<-hy];rfl
  have h1:=ao0 b (d+1) (J3 y x.2.2 [⟨9,0,0,0,0⟩])
  generalize r8 b (d+1) (J3 y x.2.2 [⟨9,0,0,0,0⟩])=z at h1 ⊢
  have h2:=ao0 e (d+1) (bL2 (J3 z x.2.2 [⟨8,0,0,0,0⟩]).1 y.1.length ((J3 z x.2.2 [⟨8,0,0,0,0⟩]).1.length:Int),(J3 z x.2.2 [⟨8,0,0,0,0⟩]).2)
  simp only[J3]at h1 h2 ⊢
  omega
theorem ao0:∀(ss:List c5) (d:Int) (x:P3),x.2.2<=(r8 ss d x).2.2/\(r8 ss d x).2.2<=x.2.2+Y5 ss
 |[],_,x=>by simp[r8,Y5]
 |s::r,d,x=>by
  have h1:=cc8 s d x
  have h2:=ao0 r d (U7 s d x)
  rw[r8,Y5]
  omega
end
section
variable{l:List d8}{fr:List Int}{at0 d:Int}{s:c5}
theorem cm1(k:s.kind=1):U7 s d (l,fr,at0)=(l++d7 s.value 0++[⟨3,s.target,0,0,0⟩],fr++cv3 (d7 s.value 0).length at0++[at0],at0+1):=by
 obtain⟨kd,tg,ix,vl,ct,bd,el⟩:=s
 have k:kd=1:=k
 rw[U7]
 simp only[k,Int.reduceEq,if_true,if_false]
 rfl
theorem cm5(k:s.kind=5):U7 s d (l,fr,at0)=(l++d7 s.value 0++[⟨11,0,0,0,0⟩]++[⟨3,s.target,0,0,0⟩],fr++cv3 (d7 s.value 0).length at0++[at0]++[at0],at0+1):=by
 obtain⟨kd,tg,ix,vl,ct,bd,el⟩:=s
 have k:kd=5:=k
 rw[U7]
 simp only[k,Int.reduceEq,if_true,if_false]
 rfl
theorem cm2(k:s.kind=2):U7 s d (l,fr,at0)=(l++d7 s.value 0++d7 s.index 1++[⟨5,s.target,1,0,0⟩],fr++cv3 (d7 s.value 0).length at0++cv3 (d7 s.index 1).length at0++[at0],at0+1):=by
 obtain⟨kd,tg,ix,vl,ct,bd,el⟩:=s
 have k:kd=2:=k
 rw[U7]
 simp only[k,Int.reduceEq,if_true,if_false]
 rfl
theorem cm4(k:s.kind=4):U7 s d (l,fr,at0)=((r8 s.body (d+1) (l++[⟨1,9+d,s.count,0,0⟩],fr++[at0],at0+1)).1++[⟨10,9+d,(((l++[(⟨1,9+d,s.count,0,0⟩:d8)]).length:Nat):Int),0,0⟩],(r8 s.body (d+1) (l++[⟨1,9+d,s.count,0,0⟩],fr++[at0],at0+1)).2.1++[at0],(r8 s.body (d+1) (l++[⟨1,9+d,s.count,0,0⟩],fr++[at0],at0+1)).2.2):=by
 obtain⟨kd,tg,ix,vl,ct,bd,el⟩:=s
 have k:kd=4:=k
 rw[U7]
 simp only[k,if_true,cv9,cw2,cw6]
 rfl
abbrev w3C(l:List d8)(fr:List Int)(at0 d:Int)(s:c5):P3:=r8 s.body (d+1) (l++d7 s.value 0++[⟨9,0,0,0,0⟩],fr++cv3 (d7 s.value 0).length at0++[at0],at0+1)
abbrev w6C(l:List d8)(fr:List Int)(at0 d:Int)(s:c5):P3:=r8 s.els (d+1) (bL2 ((w3C l fr at0 d s).1++[⟨8,0,0,0,0⟩]) (l++d7 s.value 0).length ((((w3C l fr at0 d s).1++[(⟨8,0,0,0,0⟩:d8)]).length:Nat):Int),(w3C l fr at0 d s).2.1++[at0],(w3C l fr at0 d s).2.2)
theorem cm3(k:s.kind=3):U7 s d (l,fr,at0)=(b88 (w6C l fr at0 d s).1 (w3C l fr at0 d s).1.length (((w6C l fr at0 d s).1.length:Nat):Int),(w6C l fr at0 d s).2.1,(w6C l fr at0 d s).2.2):=by
 obtain⟨kd,tg,ix,vl,ct,bd,el⟩:=s
 have k:kd=3:=k
 rw[U7]
 simp only[k,Int.reduceEq,if_false,J3,cv9,cw2,cw6,Nat.add_sub_cancel,cA0,List.replicate_one,w6C,w3C]
 rfl
theorem an9(ss:List c5)(d:Int)(x:P3):(r8 ss d x).1.length=x.1.length+aV2 ss:=(P1 ss d x).1
theorem cl7(h:l.length+(4+4*M8 s)<=5000000):l.length+B9 s.value<=5000000/\(0:Int)+B9 s.value<=2000000/\(l++d7 s.value 0).length+B9 s.index<=5000000/\(1:Int)+B9 s.index<=2000000/\(l++d7 s.value 0++d7 s.index 1).length+4<=5000010:=by
 have h1:=ab8 s.value 0
 have h2:=ab8 s.index 1
 have h3:M8 s=B9 s.index+B9 s.value+i9 s.body+i9 s.els:=by cases s;rfl
 simp only[cv9]
 omega
end
abbrev S6(s:c5)(l:List d8)(fr:List Int)(at0:Int)(d:Int):=r8 s.els (d+1) (((r8 s.body (d+1) (l++d7 s.value 0++[d8.mk 9 0 0 0 0],fr++cv3 (d7 s.value 0).length at0++[at0],at0+1)).fst++[d8.mk 8 0 0 0 0]).set (l++d7 s.value 0).length (d8.mk (((r8 s.body (d+1) (l++d7 s.value 0++[d8.mk 9 0 0 0 0],fr++cv3 (d7 s.value 0).length at0++[at0],at0+1)).fst++[d8.mk 8 0 0 0 0]).getD (l++d7 s.value 0).length cv2).op (((r8 s.body (d+1) (l++d7 s.value 0++[d8.mk 9 0 0 0 0],fr++cv3 (d7 s.value 0).length at0++[at0],at0+1)).fst++[d8.mk 8 0 0 0 0]).getD (l++d7 s.value 0).length cv2).a (((r8 s.body (d+1) (l++d7 s.value 0++[d8.mk 9 0 0 0 0],fr++cv3 (d7 s.value 0).length at0++[at0],at0+1)).fst++[d8.mk 8 0 0 0 0]).length:Int) (((r8 s.body (d+1) (l++d7 s.value 0++[d8.mk 9 0 0 0 0],fr++cv3 (d7 s.value 0).length at0++[at0],at0+1)).fst++[d8.mk 8 0 0 0 0]).getD (l++d7 s.value 0).length cv2).c (((r8 s.body (d+1) (l++d7 s.value 0++[d8.mk 9 0 0 0 0],fr++cv3 (d7 s.value 0).length at0++[at0],at0+1)).fst++[d8.mk 8 0 0 0 0]).getD (l++d7 s.value 0).length cv2).d),(r8 s.body (d+1) (l++d7 s.value 0++[d8.mk 9 0 0 0 0],fr++cv3 (d7 s.value 0).length at0++[at0],at0+1)).snd.fst++[at0],(r8 s.body (d+1) (l++d7 s.value 0++[d8.mk 9 0 0 0 0],fr++cv3 (d7 s.value 0).length at0++[at0],at0+1)).snd.snd)
abbrev E5(s:c5)(l:List d8)(fr:List Int)(at0:Int)(d:Int):=r8 s.body (d+1) (l++d7 s.value 0++[d8.mk 9 0 0 0 0],fr++cv3 (d7 s.value 0).length at0++[at0],at0+1)
abbrev aA2(s:c5)(l:List d8)(fr:List Int)(at0:Int)(d:Int):=r8 s.body (d+1) (l++d7 s.value 0++[d8.mk 1 (9+d) s.count 0 0],fr++cv3 (d7 s.value 0).length at0++[at0],at0+1)
abbrev al2(s:c5)(l:List d8)(fr:List Int)(at0:Int)(d:Int):=r8 s.body (d+1) (l++[d8.mk 1 (9+d) s.count 0 0],fr++[at0],at0+1)
abbrev Y9(s:c5)(l:List d8)(fr:List Int)(at0:Int)(d:Int):List It:=[.dead,.dead,dE s.index.kids,dE s.value.kids,dT s.body,dT s.els,.row 76 (D.instrs (U7 s d (l,fr,at0)).fst),.row 3 (D.ints (U7 s d (l,fr,at0)).snd.fst)]
abbrev bH2(s:c5)(l:List d8)(fr:List Int)(at0:Int)(d:Int):It:=.row 76 (D.instrs ((S6 s l fr at0 d).fst.set (E5 s l fr at0 d).fst.length (d8.mk ((S6 s l fr at0 d).fst.getD (E5 s l fr at0 d).fst.length cv2).op ((S6 s l fr at0 d).fst.length:Int) ((S6 s l fr at0 d).fst.getD (E5 s l fr at0 d).fst.length cv2).b ((S6 s l fr at0 d).fst.getD (E5 s l fr at0 d).fst.length cv2).c ((S6 s l fr at0 d).fst.getD (E5 s l fr at0 d).fst.length cv2).d)))
abbrev Q8:It:=.box [.v (.slice none 0 0),.v (.slice none 0 0),iA 0]
abbrev ah5(at0:Int):It:=.box [.ref 9,.ref 10,iA (at0+1)]
abbrev a18(s:c5)(fr:List Int)(at0:Int):It:=.row 3 (D.ints (fr++cv3 (d7 s.value 0).length at0++[at0]))
abbrev J9(s:c5)(r0:List It):List It:=.dead::.dead::dE s.index.kids::dE s.value.kids::dT s.body::dT s.els::r0
abbrev I5(at0:Int)(d:Int)(r0:List (Nat×AV)):List (Nat×AV):=(2,iA d)::(3,.ptr 6 0)::(4,.ptr 7 0)::(6,.ptr 8 0)::(7,iA at0)::r0
theorem bb4(nv na dd:Nat)(s:c5)(hh:F6 nv na s=true)(hbb:s.body.all (j5 nv na dd)=true)(hbe:s.els.all (j5 nv na dd)=true)
    (ih:∀(tt:List c5) (l:List d8) (fr:List Int) (at0 d:Int),tt.all (j5 nv na dd)=true->l.length+4*i9 tt<=5000000->fr.length=l.length->0<=d->d+dd<=100->0<=at0->at0+Y5 tt<=5000000->j8.ok Tryz.prog (lrC l fr at0 tt d))
    (l:List d8) (fr:List Int) (at0 d:Int) (r1:l.length+(4+4*M8 s)<=5000000) (r2:fr.length=l.length) (r3:0<=d) (r4:d+(dd+1)<=100) (r5:0<=at0) (r6:at0+nS s<=5000000):j8.ok Tryz.prog (lqC l fr at0 s d):=by
  refine H9 130 Tryz.func182 [.row 76 (D.instrs l),.row 3 (D.ints fr),dE s.index.kids,dE s.value.kids,dT s.body,dT s.els] [(0,.agg [.ref 0,.ref 1,iA at0]),(1,sA s 2),(2,iA d)] fun G=>?_;have hn:=aB8 s;have hft:=cl7 r1
  have hsz:M8 s=B9 s.index+B9 s.value+i9 s.body+i9 s.els:=by cases s;rfl
  have hv:=ab8 s.value 0;refine wp_seq (j9 G f8 [0,1,2,3,4,5,6,14,22] [.row 76 (D.instrs l),.row 3 (D.ints fr),dE s.index.kids,dE s.value.kids,dT s.body,dT s.els,.box [.ref 0,.ref 1,iA at0],.box (sL s 2),Q8] [(2,iA d),(3,.ptr 6 0),(4,.ptr 7 0),(6,.ptr 8 0)] fun G=>b6 (wp_seq (l8 G f8 [(7,iA at0)] fun G=>b6 (wp_seq (rA1 G f8 (rg 9) [.row 76 (D.instrs l),.row 3 (D.ints fr),dE s.index.kids,dE s.value.kids,dT s.body,dT s.els,.box [.ref 0,.ref 1,iA (at0+1)],.box (sL s 2),Q8] (I5 at0 d []) [wO (at0+1)] (o1 al) fun G=>b6 (wp_seq (wp_seq (l8 G f8 [(20,bA (s.kind !=4))] fun G=>b6 (rcN G (fun h0 q0=>?_) fun h0 q0=>?_)))))))))
  ·
   refine wp_skip (b6 (wp_seq (wp_seq (l8 G f8 [(27,iA s.kind)] fun G=>b6 (wp_block (wp_seq (G3 G f8 (I5 at0 d [(27,iA s.kind),(28,bA (s.kind==1))]) fun G=>b6 ?_)))))));cases h1:(s.kind==1)
   ·
    have q1:=ne_of_beq_false h1;refine rF G _ h1 (wp_seq (G3 G f8 (I5 at0 d [(27,iA s.kind),(36,bA (s.kind==5))]) fun G=>b6 ?_));cases h2:(s.kind==5)
    ·
     have q2:=ne_of_beq_false h2;refine rF G _ h2 (wp_seq (G3 G f8 (I5 at0 d [(27,iA s.kind),(48,bA (s.kind==2))]) fun G=>b6 ?_));cases h3:(s.kind==2)
     ·
      have q3:=ne_of_beq_false h3;refine rF G _ h3 (wp_seq (G3 G f8 (I5 at0 d [(61,bA (s.kind==3))]) fun G=>b6 ?_));cases h4:(s.kind==3)
      · have q4:=ne_of_beq_false h4;refine rF G _ h4 (wp_skip (p8 (b6 (wp_seq (P4 G f8 [(10,iA (9+d))] [wO ((9:Int)+d)] (o1 al) fun G=>b6 (wp_seq (j9 G (w6 6 [0,1] (I3 l fr (at0+1) at0 1 (9+d) s.count 0 0 al al)) [0,1,2,3,4,5,6,7,8,57,58] (J9 s [ah5 at0,.box (sL s 2),Q8,.row 76 (D.instrs (l++[d8.mk 1 (9+d) s.count 0 0])),.row 3 (D.ints (fr++[at0]))]) (I5 at0 d [(10,iA (9+d))]) fun G=>b6 (wp_seq (l8 G f8 [(11,iA ((l++[d8.mk 1 (9+d) s.count 0 0]).length:Int))] fun G=>b6 (wp_seq (rA1 G (w6 5 [9,10,4] (ih s.body (l++[d8.mk 1 (9+d) s.count 0 0]) (fr++[at0]) (at0+1) (d+1) ai (by simp only[cv9,cx5,cw2,cw6,r2];have:=hft.2.2.2.2;simp only[cv9]at this;omega) (by have:=hft.2.2.2.2;simp only[cv9,cw2,cw6]at this ⊢;omega) al al al al)) [0,1,2,3,4,5,6,8,51,52] (J9 s [.box [.ref 8,.ref 9,iA (al2 s l fr at0 d).snd.snd],Q8,.row 76 (D.instrs (al2 s l fr at0 d).fst),.row 3 (D.ints (al2 s l fr at0 d).snd.fst)]) [(3,.ptr 6 0),(6,.ptr 7 0),(7,iA at0),(10,iA (9+d)),(11,iA ((l++[d8.mk 1 (9+d) s.count 0 0]).length:Int))] [wO (d+1)] (o1 al) fun G=>b6 (wp_seq (j9 G (w6 5 [8,9] (I3 ((r8 s.body (d+1) (l++[d8.mk 1 (9+d) s.count 0 0],fr++[at0],at0+1)).fst) ((r8 s.body (d+1) (l++[d8.mk 1 (9+d) s.count 0 0],fr++[at0],at0+1)).snd.fst) ((r8 s.body (d+1) (l++[d8.mk 1 (9+d) s.count 0 0],fr++[at0],at0+1)).snd.snd) at0 10 (9+d) (((l++[d8.mk 1 (9+d) s.count 0 0]).length:Int)) 0 0 (by have:=(P1 s.body (d+1) (l++[⟨1,9+d,s.count,0,0⟩],fr++[at0],at0+1));have:=T5 s.body;simp only[cv9,cw2,cw6]at*;omega) (by have:=(P1 s.body (d+1) (l++[⟨1,9+d,s.count,0,0⟩],fr++[at0],at0+1));have:=T5 s.body;simp only[cv9,cw2,cw6]at*;omega))) [0,1,2,3,4,5,7,50,51] (J9 s [.box [.ref 7,.ref 8,iA (al2 s l fr at0 d).snd.snd],.row 76 (D.instrs ((al2 s l fr at0 d).fst++[d8.mk 10 (9+d) ((l++[d8.mk 1 (9+d) s.count 0 0]).length:Int) 0 0])),.row 3 (D.ints ((al2 s l fr at0 d).snd.fst++[at0]))]) [(6,.ptr 6 0)] fun G=>b6 (wp_ret ?_))))))))))))));exact Z1 (.agg [.ref 7,.ref 8,iA (r8 s.body (d+1) (l++[d8.mk 1 (9+d) s.count 0 0],fr++[at0],at0+1)).snd.snd]) G [0,1,2,3,4,5,7,8] (by have e1:((U7 s d (l,fr,at0)).snd.snd:Int)=((r8 s.body (d+1) (l++[d8.mk 1 (9+d) s.count 0 0],fr++[at0],at0+1)).snd.snd):=(by have h9:=congrArg (fun x:P3=>x.2.2) (cm4 (l:=l) (fr:=fr) (at0:=at0) (d:=d) (s:=s) al);exact h9);(first|rw[e1]|simp only[e1])<;>rfl) (by show _=mR [0,1,2,3,4,5,7,8] (Y9 s l fr at0 d);unfold Y9;have e1:((U7 s d (l,fr,at0)).fst:List d8)=((al2 s l fr at0 d).fst++[d8.mk 10 (9+d) ((l++[d8.mk 1 (9+d) s.count 0 0]).length:Int) 0 0]):=(congrArg Prod.fst (cm4 al));have e2:((U7 s d (l,fr,at0)).snd.fst:List Int)=((al2 s l fr at0 d).snd.fst++[at0]):=(congrArg (fun x:P3=>x.2.1) (cm4 al));(first|rw[e1,e2]|simp only[e1,e2])<;>rfl)
      have q4:=eq_of_beq h4;exact False.elim al
     have q3:=eq_of_beq h3;exact False.elim al
    have q2:=eq_of_beq h2;exact False.elim al
   have q1:=eq_of_beq h1;exact False.elim al
  refine j9 G (w6 4 [0,1,3] (bh4 s.value l fr (at0+1) at0 0 al al al ai)) [0,1,2,3,4,5,6,7,8,41,42] (J9 s [ah5 at0,.box (sL s 2),Q8,.row 76 (D.instrs (l++d7 s.value 0)),.row 3 (D.ints (fr++cv3 (d7 s.value 0).length at0))]) (I5 at0 d []) fun G=>b6 (wp_seq (wp_seq (l8 G f8 [(27,iA s.kind)] fun G=>b6 (wp_block (wp_seq (l8 G f8 [(28,bA (s.kind==1))] fun G=>b6 (S4 G (fun h5 q5=>?_) fun h5 q5=>?_)))))))
  ·
   refine wp_seq (l8 G f8 [(36,bA (s.kind==5))] fun G=>b6 (S4 G (fun h6 q6=>?_) fun h6 q6=>?_))
   ·
    refine wp_seq (l8 G f8 [(48,bA (s.kind==2))] fun G=>b6 (S4 G (fun h7 q7=>?_) fun h7 q7=>?_))
    ·
     refine wp_seq (l8 G f8 [(61,bA (s.kind==3))] fun G=>b6 (S4 G (fun h8 q8=>?_) fun h8 q8=>?_))
     · refine wp_skip (p8 (b6 (wp_seq (P4 G f8 [(10,iA (9+d))] [wO ((9:Int)+d)] (o1 al) fun G=>b6 (wp_seq (j9 G (w6 6 [9,10] (I3 (l++d7 s.value 0) (fr++cv3 (d7 s.value 0).length at0) (at0+1) at0 1 (9+d) s.count 0 0 al (by simp only[cv9,cx5,cw2,cw6,r2];have:=hft.2.2.2.2;simp only[cv9]at this;omega))) [0,1,2,3,4,5,6,7,8,59,60] (J9 s [ah5 at0,.box (sL s 2),Q8,.row 76 (D.instrs (l++d7 s.value 0++[d8.mk 1 (9+d) s.count 0 0])),a18 s fr at0]) (I5 at0 d [(10,iA (9+d))]) fun G=>b6 (wp_seq (l8 G f8 [(11,iA ((l++d7 s.value 0++[d8.mk 1 (9+d) s.count 0 0]).length:Int))] fun G=>b6 (wp_seq (rA1 G (w6 5 [9,10,4] (ih s.body (l++d7 s.value 0++[d8.mk 1 (9+d) s.count 0 0]) (fr++cv3 (d7 s.value 0).length at0++[at0]) (at0+1) (d+1) ai (by simp only[cv9,cx5,cw2,cw6,r2];have:=hft.2.2.2.2;simp only[cv9]at this;omega) (by exact absurd (hh.symm.trans (as4 al)) ak) al al al al)) [0,1,2,3,4,5,6,8,51,52] (J9 s [.box [.ref 8,.ref 9,iA (aA2 s l fr at0 d).snd.snd],Q8,.row 76 (D.instrs (aA2 s l fr at0 d).fst),.row 3 (D.ints (aA2 s l fr at0 d).snd.fst)]) [(3,.ptr 6 0),(6,.ptr 7 0),(7,iA at0),(10,iA (9+d)),(11,iA ((l++d7 s.value 0++[d8.mk 1 (9+d) s.count 0 0]).length:Int))] [wO (d+1)] (o1 al) fun G=>b6 (wp_seq (j9 G (w6 5 [8,9] (I3 ((r8 s.body (d+1) (l++d7 s.value 0++[d8.mk 1 (9+d) s.count 0 0],fr++cv3 (d7 s.value 0).length at0++[at0],at0+1)).fst) ((r8 s.body (d+1) (l++d7 s.value 0++[d8.mk 1 (9+d) s.count 0 0],fr++cv3 (d7 s.value 0).length at0++[at0],at0+1)).snd.fst) ((r8 s.body (d+1) (l++d7 s.value 0++[d8.mk 1 (9+d) s.count 0 0],fr++cv3 (d7 s.value 0).length at0++[at0],at0+1)).snd.snd) at0 10 (9+d) (((l++d7 s.value 0++[d8.mk 1 (9+d) s.count 0 0]).length:Int)) 0 0 (by exact absurd (hh.symm.trans (as4 al)) ak) (by exact absurd (hh.symm.trans (as4 al)) ak))) [0,1,2,3,4,5,7,50,51] (J9 s [.box [.ref 7,.ref 8,iA (aA2 s l fr at0 d).snd.snd],.row 76 (D.instrs ((aA2 s l fr at0 d).fst++[d8.mk 10 (9+d) ((l++d7 s.value 0++[d8.mk 1 (9+d) s.count 0 0]).length:Int) 0 0])),.row 3 (D.ints ((aA2 s l fr at0 d).snd.fst++[at0]))]) [(6,.ptr 6 0)] fun G=>b6 (wp_ret ?_)))))))))))));exact Z1 (.agg [.ref 7,.ref 8,iA (r8 s.body (d+1) (l++d7 s.value 0++[d8.mk 1 (9+d) s.count 0 0],fr++cv3 (d7 s.value 0).length at0++[at0],at0+1)).snd.snd]) G [0,1,2,3,4,5,7,8] (by have e1:((U7 s d (l,fr,at0)).snd.snd:Int)=((r8 s.body (d+1) (l++d7 s.value 0++[d8.mk 1 (9+d) s.count 0 0],fr++cv3 (d7 s.value 0).length at0++[at0],at0+1)).snd.snd):=(by exact absurd (hh.symm.trans (as4 al)) ak);(first|rw[e1]|simp only[e1])<;>rfl) (by show _=mR [0,1,2,3,4,5,7,8] (Y9 s l fr at0 d);unfold Y9;have e1:((U7 s d (l,fr,at0)).fst:List d8)=((r8 s.body (d+1) (l++d7 s.value 0++[d8.mk 1 (9+d) s.count 0 0],fr++cv3 (d7 s.value 0).length at0++[at0],at0+1)).fst++[d8.mk 10 (9+d) ((l++d7 s.value 0++[d8.mk 1 (9+d) s.count 0 0]).length:Int) 0 0]):=(by exact absurd (hh.symm.trans (as4 al)) ak);have e2:((U7 s d (l,fr,at0)).snd.fst:List Int)=((r8 s.body (d+1) (l++d7 s.value 0++[d8.mk 1 (9+d) s.count 0 0],fr++cv3 (d7 s.value 0).length at0++[at0],at0+1)).snd.fst++[at0]):=(by exact absurd (hh.symm.trans (as4 al)) ak);(first|rw[e1,e2]|simp only[e1,e2])<;>rfl)
     refine wp_seq (l8 G f8 [(8,iA ((l++d7 s.value 0).length:Int))] fun G=>b6 (wp_seq (j9 G (w6 3 [9,10] (I3 (l++d7 s.value 0) (fr++cv3 (d7 s.value 0).length at0) (at0+1) at0 9 0 0 0 0 al (by simp only[cv9,cx5,cw2,cw6,r2];have:=hft.2.2.2.2;simp only[cv9]at this;omega))) [0,1,2,3,4,5,6,7,8,35,36] (J9 s [ah5 at0,.box (sL s 2),Q8,.row 76 (D.instrs (l++d7 s.value 0++[d8.mk 9 0 0 0 0])),a18 s fr at0]) (I5 at0 d [(8,iA ((l++d7 s.value 0).length:Int))]) fun G=>b6 (wp_seq (rA1 G (w6 5 [9,10,4] (ih s.body (l++d7 s.value 0++[d8.mk 9 0 0 0 0]) (fr++cv3 (d7 s.value 0).length at0++[at0]) (at0+1) (d+1) ai (by simp only[cv9,cx5,cw2,cw6,r2];have:=hft.2.2.2.2;simp only[cv9]at this;omega) ah al al al al)) [0,1,2,3,4,5,6,7,8,51,52] (J9 s [.box [.ref 9,.ref 10,iA (E5 s l fr at0 d).snd.snd],.box (sL s 2),Q8,.row 76 (D.instrs (E5 s l fr at0 d).fst),.row 3 (D.ints (E5 s l fr at0 d).snd.fst)]) (I5 at0 d [(8,iA ((l++d7 s.value 0).length:Int))]) [wO (d+1)] (o1 al) fun G=>b6 (wp_seq (l8 G f8 [(9,iA ((E5 s l fr at0 d).fst.length:Int))] fun G=>b6 (wp_seq (j9 G (w6 3 [9,10] (I3 ((r8 s.body (d+1) (l++d7 s.value 0++[d8.mk 9 0 0 0 0],fr++cv3 (d7 s.value 0).length at0++[at0],at0+1)).fst) ((r8 s.body (d+1) (l++d7 s.value 0++[d8.mk 9 0 0 0 0],fr++cv3 (d7 s.value 0).length at0++[at0],at0+1)).snd.fst) ((r8 s.body (d+1) (l++d7 s.value 0++[d8.mk 9 0 0 0 0],fr++cv3 (d7 s.value 0).length at0++[at0],at0+1)).snd.snd) at0 8 0 0 0 0 (by have h9:=P1 s.body (d+1) (l++d7 s.value 0++[⟨9,0,0,0,0⟩],fr++cv3 (d7 s.value 0).length at0++[at0],at0+1);have h8:=T5 s.body;simp only[cv9,cw2,cw6,cx5,cy3,r2]at h9 ⊢;omega) (by have h9:=P1 s.body (d+1) (l++d7 s.value 0++[⟨9,0,0,0,0⟩],fr++cv3 (d7 s.value 0).length at0++[at0],at0+1);have h8:=T5 s.body;simp only[cv9,cw2,cw6,cx5,cy3,r2]at h9 ⊢;omega))) [0,1,2,3,4,5,6,7,8,35,36] (J9 s [.box [.ref 9,.ref 10,iA (E5 s l fr at0 d).snd.snd],.box (sL s 2),Q8,.row 76 (D.instrs ((E5 s l fr at0 d).fst++[d8.mk 8 0 0 0 0])),.row 3 (D.ints ((E5 s l fr at0 d).snd.fst++[at0]))]) (I5 at0 d [(8,iA ((l++d7 s.value 0).length:Int)),(9,iA ((E5 s l fr at0 d).fst.length:Int))]) fun G=>b6 (wp_seq (rA1 G f8 (rg 11) (J9 s [.box [.ref 9,.ref 10,iA (E5 s l fr at0 d).snd.snd],.box (sL s 2),Q8,.row 76 (D.instrs (((E5 s l fr at0 d).fst++[d8.mk 8 0 0 0 0]).set (l++d7 s.value 0).length (d8.mk (((E5 s l fr at0 d).fst++[d8.mk 8 0 0 0 0]).getD (l++d7 s.value 0).length cv2).op (((E5 s l fr at0 d).fst++[d8.mk 8 0 0 0 0]).getD (l++d7 s.value 0).length cv2).a (((E5 s l fr at0 d).fst++[d8.mk 8 0 0 0 0]).length:Int) (((E5 s l fr at0 d).fst++[d8.mk 8 0 0 0 0]).getD (l++d7 s.value 0).length cv2).c (((E5 s l fr at0 d).fst++[d8.mk 8 0 0 0 0]).getD (l++d7 s.value 0).length cv2).d))),.row 3 (D.ints ((E5 s l fr at0 d).snd.fst++[at0]))]) (I5 at0 d [(9,iA ((E5 s l fr at0 d).fst.length:Int))]) [(0:Int)<=((l++d7 s.value (0:Int)).length:Int),((l++d7 s.value (0:Int)).length:Int)<(((r8 s.body (d+1) (l++d7 s.value (0:Int)++[d8.mk (9:Int) (0:Int) (0:Int) (0:Int) (0:Int)],fr++cv3 (d7 s.value (0:Int)).length at0++[at0],at0+1)).fst++[d8.mk (8:Int) (0:Int) (0:Int) (0:Int) (0:Int)]).length:Int),(l++d7 s.value (0:Int)).length<((r8 s.body (d+1) (l++d7 s.value (0:Int)++[d8.mk (9:Int) (0:Int) (0:Int) (0:Int) (0:Int)],fr++cv3 (d7 s.value (0:Int)).length at0++[at0],at0+1)).fst++[d8.mk (8:Int) (0:Int) (0:Int) (0:Int) (0:Int)]).length] ⟨al,(by simp only[an9,cy3,cv9,cw2,cw6];omega),(by simp only[an9,cy3,cv9,cw2,cw6];omega),cx2⟩ fun G=>?_)))))))))))
     refine b6 (wp_seq (rA1 G (w6 5 [9,10,5] (ih s.els (((r8 s.body (d+1) (l++d7 s.value 0++[d8.mk 9 0 0 0 0],fr++cv3 (d7 s.value 0).length at0++[at0],at0+1)).fst++[d8.mk 8 0 0 0 0]).set (l++d7 s.value 0).length (d8.mk (((r8 s.body (d+1) (l++d7 s.value 0++[d8.mk 9 0 0 0 0],fr++cv3 (d7 s.value 0).length at0++[at0],at0+1)).fst++[d8.mk 8 0 0 0 0]).getD (l++d7 s.value 0).length cv2).op (((r8 s.body (d+1) (l++d7 s.value 0++[d8.mk 9 0 0 0 0],fr++cv3 (d7 s.value 0).length at0++[at0],at0+1)).fst++[d8.mk 8 0 0 0 0]).getD (l++d7 s.value 0).length cv2).a (((r8 s.body (d+1) (l++d7 s.value 0++[d8.mk 9 0 0 0 0],fr++cv3 (d7 s.value 0).length at0++[at0],at0+1)).fst++[d8.mk 8 0 0 0 0]).length:Int) (((r8 s.body (d+1) (l++d7 s.value 0++[d8.mk 9 0 0 0 0],fr++cv3 (d7 s.value 0).length at0++[at0],at0+1)).fst++[d8.mk 8 0 0 0 0]).getD (l++d7 s.value 0).length cv2).c (((r8 s.body (d+1) (l++d7 s.value 0++[d8.mk 9 0 0 0 0],fr++cv3 (d7 s.value 0).length at0++[at0],at0+1)).fst++[d8.mk 8 0 0 0 0]).getD (l++d7 s.value 0).length cv2).d)) ((r8 s.body (d+1) (l++d7 s.value 0++[d8.mk 9 0 0 0 0],fr++cv3 (d7 s.value 0).length at0++[at0],at0+1)).snd.fst++[at0]) ((r8 s.body (d+1) (l++d7 s.value 0++[d8.mk 9 0 0 0 0],fr++cv3 (d7 s.value 0).length at0++[at0],at0+1)).snd.snd) (d+1) ai (by have h9:=P1 s.body (d+1) (l++d7 s.value 0++[⟨9,0,0,0,0⟩],fr++cv3 (d7 s.value 0).length at0++[at0],at0+1);have h8:=T5 s.body;simp only[cv9,cw2,cw6,cx5,cy3,r2]at h9 ⊢;omega) (by have h9:=P1 s.body (d+1) (l++d7 s.value 0++[⟨9,0,0,0,0⟩],fr++cv3 (d7 s.value 0).length at0++[at0],at0+1);have h8:=T5 s.body;simp only[cv9,cw2,cw6,cx5,cy3,r2]at h9 ⊢;omega) al al (by have h9:=ao0 s.body (d+1) (l++d7 s.value 0++[⟨9,0,0,0,0⟩],fr++cv3 (d7 s.value 0).length at0++[at0],at0+1);simp only at h9;omega) (by have h9:=ao0 s.body (d+1) (l++d7 s.value 0++[⟨9,0,0,0,0⟩],fr++cv3 (d7 s.value 0).length at0++[at0],at0+1);simp only at h9;omega))) [0,1,2,3,4,5,6,7,8,51,52] (J9 s [.box [.ref 9,.ref 10,iA (S6 s l fr at0 d).snd.snd],.box (sL s 2),Q8,.row 76 (D.instrs (S6 s l fr at0 d).fst),.row 3 (D.ints (S6 s l fr at0 d).snd.fst)]) (I5 at0 d [(9,iA ((E5 s l fr at0 d).fst.length:Int))]) [wO (d+1)] (o1 al) fun G=>b6 (wp_seq (rA1 G f8 (rg 11) (J9 s [.box [.ref 9,.ref 10,iA (S6 s l fr at0 d).snd.snd],.box (sL s 2),Q8,bH2 s l fr at0 d,.row 3 (D.ints (S6 s l fr at0 d).snd.fst)]) (I5 at0 d []) [(0:Int)<=((r8 s.body (d+1) (l++d7 s.value (0:Int)++[d8.mk (9:Int) (0:Int) (0:Int) (0:Int) (0:Int)],fr++cv3 (d7 s.value (0:Int)).length at0++[at0],at0+1)).fst.length:Int),((r8 s.body (d+1) (l++d7 s.value (0:Int)++[d8.mk (9:Int) (0:Int) (0:Int) (0:Int) (0:Int)],fr++cv3 (d7 s.value (0:Int)).length at0++[at0],at0+1)).fst.length:Int)<((r8 s.els (d+1) (((r8 s.body (d+1) (l++d7 s.value (0:Int)++[d8.mk (9:Int) (0:Int) (0:Int) (0:Int) (0:Int)],fr++cv3 (d7 s.value (0:Int)).length at0++[at0],at0+1)).fst++[d8.mk (8:Int) (0:Int) (0:Int) (0:Int) (0:Int)]).set (l++d7 s.value (0:Int)).length (d8.mk (((r8 s.body (d+1) (l++d7 s.value (0:Int)++[d8.mk (9:Int) (0:Int) (0:Int) (0:Int) (0:Int)],fr++cv3 (d7 s.value (0:Int)).length at0++[at0],at0+1)).fst++[d8.mk (8:Int) (0:Int) (0:Int) (0:Int) (0:Int)]).getD (l++d7 s.value (0:Int)).length cv2).op (((r8 s.body (d+1) (l++d7 s.value (0:Int)++[d8.mk (9:Int) (0:Int) (0:Int) (0:Int) (0:Int)],fr++cv3 (d7 s.value (0:Int)).length at0++[at0],at0+1)).fst++[d8.mk (8:Int) (0:Int) (0:Int) (0:Int) (0:Int)]).getD (l++d7 s.value (0:Int)).length cv2).a (((r8 s.body (d+1) (l++d7 s.value (0:Int)++[d8.mk (9:Int) (0:Int) (0:Int) (0:Int) (0:Int)],fr++cv3 (d7 s.value (0:Int)).length at0++[at0],at0+1)).fst++[d8.mk (8:Int) (0:Int) (0:Int) (0:Int) (0:Int)]).length:Int) (((r8 s.body (d+1) (l++d7 s.value (0:Int)++[d8.mk (9:Int) (0:Int) (0:Int) (0:Int) (0:Int)],fr++cv3 (d7 s.value (0:Int)).length at0++[at0],at0+1)).fst++[d8.mk (8:Int) (0:Int) (0:Int) (0:Int) (0:Int)]).getD (l++d7 s.value (0:Int)).length cv2).c (((r8 s.body (d+1) (l++d7 s.value (0:Int)++[d8.mk (9:Int) (0:Int) (0:Int) (0:Int) (0:Int)],fr++cv3 (d7 s.value (0:Int)).length at0++[at0],at0+1)).fst++[d8.mk (8:Int) (0:Int) (0:Int) (0:Int) (0:Int)]).getD (l++d7 s.value (0:Int)).length cv2).d),(r8 s.body (d+1) (l++d7 s.value (0:Int)++[d8.mk (9:Int) (0:Int) (0:Int) (0:Int) (0:Int)],fr++cv3 (d7 s.value (0:Int)).length at0++[at0],at0+1)).snd.fst++[at0],(r8 s.body (d+1) (l++d7 s.value (0:Int)++[d8.mk (9:Int) (0:Int) (0:Int) (0:Int) (0:Int)],fr++cv3 (d7 s.value (0:Int)).length at0++[at0],at0+1)).snd.snd)).fst.length:Int),(r8 s.body (d+1) (l++d7 s.value (0:Int)++[d8.mk (9:Int) (0:Int) (0:Int) (0:Int) (0:Int)],fr++cv3 (d7 s.value (0:Int)).length at0++[at0],at0+1)).fst.length<(r8 s.els (d+1) (((r8 s.body (d+1) (l++d7 s.value (0:Int)++[d8.mk (9:Int) (0:Int) (0:Int) (0:Int) (0:Int)],fr++cv3 (d7 s.value (0:Int)).length at0++[at0],at0+1)).fst++[d8.mk (8:Int) (0:Int) (0:Int) (0:Int) (0:Int)]).set (l++d7 s.value (0:Int)).length (d8.mk (((r8 s.body (d+1) (l++d7 s.value (0:Int)++[d8.mk (9:Int) (0:Int) (0:Int) (0:Int) (0:Int)],fr++cv3 (d7 s.value (0:Int)).length at0++[at0],at0+1)).fst++[d8.mk (8:Int) (0:Int) (0:Int) (0:Int) (0:Int)]).getD (l++d7 s.value (0:Int)).length cv2).op (((r8 s.body (d+1) (l++d7 s.value (0:Int)++[d8.mk (9:Int) (0:Int) (0:Int) (0:Int) (0:Int)],fr++cv3 (d7 s.value (0:Int)).length at0++[at0],at0+1)).fst++[d8.mk (8:Int) (0:Int) (0:Int) (0:Int) (0:Int)]).getD (l++d7 s.value (0:Int)).length cv2).a (((r8 s.body (d+1) (l++d7 s.value (0:Int)++[d8.mk (9:Int) (0:Int) (0:Int) (0:Int) (0:Int)],fr++cv3 (d7 s.value (0:Int)).length at0++[at0],at0+1)).fst++[d8.mk (8:Int) (0:Int) (0:Int) (0:Int) (0:Int)]).length:Int) (((r8 s.body (d+1) (l++d7 s.value (0:Int)++[d8.mk (9:Int) (0:Int) (0:Int) (0:Int) (0:Int)],fr++cv3 (d7 s.value (0:Int)).length at0++[at0],at0+1)).fst++[d8.mk (8:Int) (0:Int) (0:Int) (0:Int) (0:Int)]).getD (l++d7 s.value (0:Int)).length cv2).c (((r8 s.body (d+1) (l++d7 s.value (0:Int)++[d8.mk (9:Int) (0:Int) (0:Int) (0:Int) (0:Int)],fr++cv3 (d7 s.value (0:Int)).length at0++[at0],at0+1)).fst++[d8.mk (8:Int) (0:Int) (0:Int) (0:Int) (0:Int)]).getD (l++d7 s.value (0:Int)).length cv2).d),(r8 s.body (d+1) (l++d7 s.value (0:Int)++[d8.mk (9:Int) (0:Int) (0:Int) (0:Int) (0:Int)],fr++cv3 (d7 s.value (0:Int)).length at0++[at0],at0+1)).snd.fst++[at0],(r8 s.body (d+1) (l++d7 s.value (0:Int)++[d8.mk (9:Int) (0:Int) (0:Int) (0:Int) (0:Int)],fr++cv3 (d7 s.value (0:Int)).length at0++[at0],at0+1)).snd.snd)).fst.length] ⟨al,(by simp only[an9,cy3,cv9,cw2,cw6];omega),(by simp only[an9,cy3,cv9,cw2,cw6];omega),cx2⟩ fun G=>?_))))
     refine b6 (wp_seq (j9 G f8 (rg 11) (J9 s [.box [.ref 9,.ref 10,iA (S6 s l fr at0 d).snd.snd],.box (sL s 2),.box [.ref 9,.ref 10,iA (S6 s l fr at0 d).snd.snd],bH2 s l fr at0 d,.row 3 (D.ints (S6 s l fr at0 d).snd.fst)]) (I5 at0 d []) fun G=>b6 (wp_ret (B7 (l7 ?_)))));exact Z1 (.agg [.ref 9,.ref 10,iA (r8 s.els (d+1) (((r8 s.body (d+1) (l++d7 s.value 0++[d8.mk 9 0 0 0 0],fr++cv3 (d7 s.value 0).length at0++[at0],at0+1)).fst++[d8.mk 8 0 0 0 0]).set (l++d7 s.value 0).length (d8.mk (((r8 s.body (d+1) (l++d7 s.value 0++[d8.mk 9 0 0 0 0],fr++cv3 (d7 s.value 0).length at0++[at0],at0+1)).fst++[d8.mk 8 0 0 0 0]).getD (l++d7 s.value 0).length cv2).op (((r8 s.body (d+1) (l++d7 s.value 0++[d8.mk 9 0 0 0 0],fr++cv3 (d7 s.value 0).length at0++[at0],at0+1)).fst++[d8.mk 8 0 0 0 0]).getD (l++d7 s.value 0).length cv2).a (((r8 s.body (d+1) (l++d7 s.value 0++[d8.mk 9 0 0 0 0],fr++cv3 (d7 s.value 0).length at0++[at0],at0+1)).fst++[d8.mk 8 0 0 0 0]).length:Int) (((r8 s.body (d+1) (l++d7 s.value 0++[d8.mk 9 0 0 0 0],fr++cv3 (d7 s.value 0).length at0++[at0],at0+1)).fst++[d8.mk 8 0 0 0 0]).getD (l++d7 s.value 0).length cv2).c (((r8 s.body (d+1) (l++d7 s.value 0++[d8.mk 9 0 0 0 0],fr++cv3 (d7 s.value 0).length at0++[at0],at0+1)).fst++[d8.mk 8 0 0 0 0]).getD (l++d7 s.value 0).length cv2).d),(r8 s.body (d+1) (l++d7 s.value 0++[d8.mk 9 0 0 0 0],fr++cv3 (d7 s.value 0).length at0++[at0],at0+1)).snd.fst++[at0],(r8 s.body (d+1) (l++d7 s.value 0++[d8.mk 9 0 0 0 0],fr++cv3 (d7 s.value 0).length at0++[at0],at0+1)).snd.snd)).snd.snd]) G [0,1,2,3,4,5,9,10] (by have e1:((U7 s d (l,fr,at0)).snd.snd:Int)=((r8 s.els (d+1) (((r8 s.body (d+1) (l++d7 s.value 0++[d8.mk 9 0 0 0 0],fr++cv3 (d7 s.value 0).length at0++[at0],at0+1)).fst++[d8.mk 8 0 0 0 0]).set (l++d7 s.value 0).length (d8.mk (((r8 s.body (d+1) (l++d7 s.value 0++[d8.mk 9 0 0 0 0],fr++cv3 (d7 s.value 0).length at0++[at0],at0+1)).fst++[d8.mk 8 0 0 0 0]).getD (l++d7 s.value 0).length cv2).op (((r8 s.body (d+1) (l++d7 s.value 0++[d8.mk 9 0 0 0 0],fr++cv3 (d7 s.value 0).length at0++[at0],at0+1)).fst++[d8.mk 8 0 0 0 0]).getD (l++d7 s.value 0).length cv2).a (((r8 s.body (d+1) (l++d7 s.value 0++[d8.mk 9 0 0 0 0],fr++cv3 (d7 s.value 0).length at0++[at0],at0+1)).fst++[d8.mk 8 0 0 0 0]).length:Int) (((r8 s.body (d+1) (l++d7 s.value 0++[d8.mk 9 0 0 0 0],fr++cv3 (d7 s.value 0).length at0++[at0],at0+1)).fst++[d8.mk 8 0 0 0 0]).getD (l++d7 s.value 0).length cv2).c (((r8 s.body (d+1) (l++d7 s.value 0++[d8.mk 9 0 0 0 0],fr++cv3 (d7 s.value 0).length at0++[at0],at0+1)).fst++[d8.mk 8 0 0 0 0]).getD (l++d7 s.value 0).length cv2).d),(r8 s.body (d+1) (l++d7 s.value 0++[d8.mk 9 0 0 0 0],fr++cv3 (d7 s.value 0).length at0++[at0],at0+1)).snd.fst++[at0],(r8 s.body (d+1) (l++d7 s.value 0++[d8.mk 9 0 0 0 0],fr++cv3 (d7 s.value 0).length at0++[at0],at0+1)).snd.snd)).snd.snd):=(by have h9:=congrArg (fun x:P3=>x.2.2) (cm3 (l:=l) (fr:=fr) (at0:=at0) (d:=d) (s:=s) al);exact h9);(first|rw[e1]|simp only[e1])<;>rfl) (by show _=mR [0,1,2,3,4,5,9,10] (Y9 s l fr at0 d);unfold Y9;have h9:=cm3 (l:=l) (fr:=fr) (at0:=at0) (d:=d) (s:=s) al;rw[h9]<;>rfl)
    refine wp_seq (j9 G (w6 4 [9,10,2] (bh4 s.index (l++d7 s.value 0) (fr++cv3 (d7 s.value 0).length at0) (at0+1) at0 1 al al al (by simp only[cv9,cx5,r2];done))) [0,1,2,3,4,5,6,7,8,43,44] (J9 s [ah5 at0,.box (sL s 2),Q8,.row 76 (D.instrs (l++d7 s.value 0++d7 s.index 1)),.row 3 (D.ints (fr++cv3 (d7 s.value 0).length at0++cv3 (d7 s.index 1).length at0))]) (I5 at0 d []) fun G=>b6 (wp_seq (j9 G (w6 5 [9,10] (I3 (l++d7 s.value 0++d7 s.index 1) (fr++cv3 (d7 s.value 0).length at0++cv3 (d7 s.index 1).length at0) (at0+1) at0 5 s.target 1 0 0 al (by simp only[cv9,cx5,cw2,cw6,r2];have:=hft.2.2.2.2;simp only[cv9]at this;omega))) [0,1,2,3,4,5,6,7,8,9,10,51,52] (J9 s [ah5 at0,.box (sL s 2),.box [.ref 11,.ref 12,iA (at0+1)],.dead,.dead,.row 76 (D.instrs (l++d7 s.value 0++d7 s.index 1++[d8.mk 5 s.target 1 0 0])),.row 3 (D.ints (fr++cv3 (d7 s.value 0).length at0++cv3 (d7 s.index 1).length at0++[at0]))]) (I5 at0 d []) fun G=>b6 (wp_ret (B7 (l7 ?_))))));exact Z1 (.agg [.ref 11,.ref 12,iA (at0+1)]) G [0,1,2,3,4,5,11,12] (by have e1:((U7 s d (l,fr,at0)).snd.snd:Int)=(at0+1):=(congrArg (fun x:P3=>x.2.2) (cm2 al));(first|rw[e1]|simp only[e1])<;>rfl) (by show _=mR [0,1,2,3,4,5,11,12] (Y9 s l fr at0 d);unfold Y9;have e1:((U7 s d (l,fr,at0)).fst:List d8)=(l++d7 s.value 0++d7 s.index 1++[d8.mk 5 s.target 1 0 0]):=(congrArg Prod.fst (cm2 al));have e2:((U7 s d (l,fr,at0)).snd.fst:List Int)=(fr++cv3 (d7 s.value 0).length at0++cv3 (d7 s.index 1).length at0++[at0]):=(congrArg (fun x:P3=>x.2.1) (cm2 al));(first|rw[e1,e2]|simp only[e1,e2])<;>rfl)
   refine wp_seq (j9 G (w6 3 [9,10] (I3 (l++d7 s.value 0) (fr++cv3 (d7 s.value 0).length at0) (at0+1) at0 11 0 0 0 0 al (by simp only[cv9,cx5,cw2,cw6,r2];have:=hft.2.2.2.2;simp only[cv9]at this;omega))) [0,1,2,3,4,5,6,7,8,35,36] (J9 s [ah5 at0,.box (sL s 2),Q8,.row 76 (D.instrs (l++d7 s.value 0++[d8.mk 11 0 0 0 0])),a18 s fr at0]) (I5 at0 d []) fun G=>b6 (wp_seq (j9 G (w6 5 [9,10] (I3 (l++d7 s.value 0++[d8.mk 11 0 0 0 0]) (fr++cv3 (d7 s.value 0).length at0++[at0]) (at0+1) at0 3 s.target 0 0 0 (by simp only[cv9,cx5,cw2,cw6,r2];have:=hft.2.2.2.2;simp only[cv9]at this;omega) (by simp only[cv9,cx5,cw2,cw6,r2];have:=hft.2.2.2.2;simp only[cv9]at this;omega))) [0,1,2,3,4,5,6,7,8,9,10,51,52] (J9 s [ah5 at0,.box (sL s 2),.box [.ref 11,.ref 12,iA (at0+1)],.dead,.dead,.row 76 (D.instrs (l++d7 s.value 0++[d8.mk 11 0 0 0 0]++[d8.mk 3 s.target 0 0 0])),.row 3 (D.ints (fr++cv3 (d7 s.value 0).length at0++[at0]++[at0]))]) (I5 at0 d []) fun G=>b6 (wp_ret (B7 (l7 ?_))))));exact Z1 (.agg [.ref 11,.ref 12,iA (at0+1)]) G [0,1,2,3,4,5,11,12] (by have e1:((U7 s d (l,fr,at0)).snd.snd:Int)=(at0+1):=(congrArg (fun x:P3=>x.2.2) (cm5 al));(first|rw[e1]|simp only[e1])<;>rfl) (by show _=mR [0,1,2,3,4,5,11,12] (Y9 s l fr at0 d);unfold Y9;have e1:((U7 s d (l,fr,at0)).fst:List d8)=(l++d7 s.value 0++[d8.mk 11 0 0 0 0]++[d8.mk 3 s.target 0 0 0]):=(congrArg Prod.fst (cm5 al));have e2:((U7 s d (l,fr,at0)).snd.fst:List Int)=(fr++cv3 (d7 s.value 0).length at0++[at0]++[at0]):=(congrArg (fun x:P3=>x.2.1) (cm5 al));(first|rw[e1,e2]|simp only[e1,e2])<;>rfl)
  refine wp_seq (j9 G (w6 5 [9,10] (I3 (l++d7 s.value 0) (fr++cv3 (d7 s.value 0).length at0) (at0+1) at0 3 s.target 0 0 0 al (by simp only[cv9,cx5,cw2,cw6,r2];have:=hft.2.2.2.2;simp only[cv9]at this;omega))) [0,1,2,3,4,5,6,7,8,9,10,51,52] (J9 s [ah5 at0,.box (sL s 2),.box [.ref 11,.ref 12,iA (at0+1)],.dead,.dead,.row 76 (D.instrs (l++d7 s.value 0++[d8.mk 3 s.target 0 0 0])),a18 s fr at0]) (I5 at0 d []) fun G=>b6 (wp_ret (B7 (l7 ?_))));exact Z1 (.agg [.ref 11,.ref 12,iA (at0+1)]) G [0,1,2,3,4,5,11,12] (by have e1:((U7 s d (l,fr,at0)).snd.snd:Int)=(at0+1):=(congrArg (fun x:P3=>x.2.2) (cm1 al));(first|rw[e1]|simp only[e1])<;>rfl) (by show _=mR [0,1,2,3,4,5,11,12] (Y9 s l fr at0 d);unfold Y9;have e1:((U7 s d (l,fr,at0)).fst:List d8)=(l++d7 s.value 0++[d8.mk 3 s.target 0 0 0]):=(congrArg Prod.fst (cm1 al));have e2:((U7 s d (l,fr,at0)).snd.fst:List Int)=(fr++cv3 (d7 s.value 0).length at0++[at0]):=(congrArg (fun x:P3=>x.2.1) (cm1 al));(first|rw[e1,e2]|simp only[e1,e2])<;>rfl)
section
variable{ss:List c5}{k:Nat}{d:Int}{l:List d8}{fr:List Int}{at0:Int}
theorem bA8(hk:k<ss.length):i9 (ss.take k)+(1+M8 (ss.getD k cv2))<=i9 ss:=by
 have h1:=y9 (ss.take (k+1)) (ss.drop (k+1))
 rw[List.take_append_drop,n6 _ _ hk,y9, <-n7 (d:=cv2) hk]at h1
 simp only[i9]at h1
 omega
theorem bN7(hk:k<ss.length):Y5 (ss.take k)+nS (ss.getD k cv2)<=Y5 ss:=by
 have h1:=ai3 (ss.take (k+1)) (ss.drop (k+1))
 rw[List.take_append_drop,n6 _ _ hk,ai3, <-n7 (d:=cv2) hk]at h1
 simp only[Y5]at h1
 omega
theorem bT5(r1:l.length+4*i9 ss<=5000000)(hk:k<ss.length):(r8 (ss.take k) d (l,fr,at0)).1.length+(4+4*M8 (ss.getD k cv2))<=5000000:=by
 have h1:=bA8 hk
 have h2:=T5 (ss.take k)
 rw[an9]
 simp only
 omega
theorem b58(r2:fr.length=l.length):(r8 (ss.take k) d (l,fr,at0)).2.1.length=(r8 (ss.take k) d (l,fr,at0)).1.length:=by
 have h:=P1 (ss.take k) d (l,fr,at0)
 simp only at h
 omega
theorem bT7(r5:0<=at0):0<=(r8 (ss.take k) d (l,fr,at0)).2.2:=by
 have h:=ao0 (ss.take k) d (l,fr,at0)
 simp only at h
 omega
theorem bT6(r6:at0+Y5 ss<=5000000)(hk:k<ss.length):(r8 (ss.take k) d (l,fr,at0)).2.2+nS (ss.getD k cv2)<=5000000:=by
 have h:=ao0 (ss.take k) d (l,fr,at0)
 have h1:=bN7 hk
 simp only at h
 omega
theorem cn9(hk:k<ss.length):(r8 (ss.take (k+1)) d (l,fr,at0)).1=(U7 (ss.getD k cv2) d (r8 (ss.take k) d (l,fr,at0))).1:=by rw[aS3 hk]
theorem cn8(hk:k<ss.length):(r8 (ss.take (k+1)) d (l,fr,at0)).2.1=(U7 (ss.getD k cv2) d (r8 (ss.take k) d (l,fr,at0))).2.1:=by rw[aS3 hk]
theorem cn7(hk:k<ss.length):(r8 (ss.take (k+1)) d (l,fr,at0)).2.2=(U7 (ss.getD k cv2) d (r8 (ss.take k) d (l,fr,at0))).2.2:=by rw[aS3 hk]
theorem bF0(hk:ss.length<=k)(x:P3):r8 ss d x=r8 (ss.take k) d x:=by rw[cw7 hk]
end
theorem aX4(ss:List c5)(B:Int)(ih:∀(s:c5),s∈ss->∀(l:List d8) (fr:List Int) (at0 d:Int),l.length+(4+4*M8 s)<=5000000->fr.length=l.length->0<=d->d<=B->0<=at0->at0+nS s<=5000000->j8.ok Tryz.prog (lqC l fr at0 s d))
  (l:List d8) (fr:List Int) (at0 d:Int) (r1:l.length+4*i9 ss<=5000000) (r2:fr.length=l.length) (r3:0<=d) (r4:d<=B) (r5:0<=at0) (r6:at0+Y5 ss<=5000000):j8.ok Tryz.prog (lrC l fr at0 ss d):=by
 refine H9 22 Tryz.func145 [.row 76 (D.instrs l),.row 3 (D.ints fr),dT ss] [(0,.agg [.ref 0,.ref 1,iA at0]),(1,.ref 2),(2,iA d)] fun G=>?_;have hl:=N4 ss;refine wp_seq (j9 G f8 [0,1,2,3,11] [.row 76 (D.instrs l),.row 3 (D.ints fr),dT ss,.box [.ref 0,.ref 1,iA at0],.box [.v (.slice none 0 0),.v (.slice none 0 0),iA 0]] [(1,.ref 2),(2,iA d),(3,.ptr 3 0),(6,.ptr 4 0)] fun G=>b6 (wp_seq (wp_seq (G3 G f8 [(1,.ref 2),(2,iA d),(3,.ptr 3 0),(6,.ptr 4 0),(7,iA 0)] fun G=>b6 (wp_block ?_)))));obtain⟨ρ,G⟩:=G.shift 0 5 [.dead,.row 3 (D.ints fr),dT ss,.box [.ref 5,.ref 1,iA at0],.box [.v (.slice none 0 0),.v (.slice none 0 0),iA 0],.row 76 (D.instrs l)] [(1,.ref 2),(2,iA d),(3,.ptr 3 0),(6,.ptr 4 0),(7,iA 0)];obtain⟨ρ,G⟩:=G.shift 1 6 [.dead,.dead,dT ss,.box [.ref 5,.ref 6,iA at0],.box [.v (.slice none 0 0),.v (.slice none 0 0),iA 0],.row 76 (D.instrs l),.row 3 (D.ints fr)] [(1,.ref 2),(2,iA d),(3,.ptr 3 0),(6,.ptr 4 0),(7,iA 0)];refine x6 (κ:=Nat) (fun k=>k<=ss.length) (fun k=>ss.length-k) (fun k=>[.dead,.dead,dT ss,.box [.ref 5,.ref 6,iA (r8 (ss.take k) d (l,fr,at0)).2.2],.box [.v (.slice none 0 0),.v (.slice none 0 0),iA 0],.row 76 (.instrs (r8 (ss.take k) d (l,fr,at0)).1),.row 3 (.ints (r8 (ss.take k) d (l,fr,at0)).2.1)]) (fun k=>[(1,.ref 2),(2,iA d),(3,.ptr 3 0),(6,.ptr 4 0),(7,iA k)]) 0 al (x7.at G _ _) ?_;clear G;intro k ρ a w hp G;replace G:=x7.at G [.dead,.dead,dT ss,.box [.ref 5,.ref 6,iA (r8 (cw1 k ss) d (l,fr,at0)).snd.snd],.box [.v (.slice none 0 0),.v (.slice none 0 0),iA 0],.row 76 (D.instrs (r8 (cw1 k ss) d (l,fr,at0)).fst),.row 3 (D.ints (r8 (cw1 k ss) d (l,fr,at0)).snd.fst)] [(1,.ref 2),(2,iA d),(3,.ptr 3 0),(6,.ptr 4 0),(7,iA k)];refine wp_seq (wp_seq (l8 G f8 [(11,bA (decide ((k:Int)<ss.length)))] fun G=>b6 (rcD G (fun h0 q0=>?_) fun h0 q0=>?_)))
 ·refine wp_exit (v8 (v8 (v6 (b6 (wp_seq (j9 G f8 [0,1,2,4,5,6] [.dead,.dead,dT ss,.box [.ref 4,.ref 5,iA (r8 (cw1 k ss) d (l,fr,at0)).snd.snd],.row 76 (D.instrs (r8 (cw1 k ss) d (l,fr,at0)).fst),.row 3 (D.ints (r8 (cw1 k ss) d (l,fr,at0)).snd.fst)] [(6,.ptr 3 0)] fun G=>b6 (wp_ret ?_)))))));exact Z1 (.agg [.ref 4,.ref 5,iA (r8 (cw1 k ss) d (l,fr,at0)).snd.snd]) G [0,1,2,4,5] (by have e1:((r8 ss d (l,fr,at0)).snd.snd:Int)=((r8 (cw1 k ss) d (l,fr,at0)).snd.snd):=(congrArg (fun x:P3=>x.2.2) (bF0 al _));(first|rw[e1]|simp only[e1])<;>rfl) (by show _=mR [0,1,2,4,5] [.dead,.dead,dT ss,.row 76 (D.instrs (r8 ss d (l,fr,at0)).fst),.row 3 (D.ints (r8 ss d (l,fr,at0)).snd.fst)];have e1:((r8 ss d (l,fr,at0)).fst:List d8)=((r8 (cw1 k ss) d (l,fr,at0)).fst):=(congrArg Prod.fst (bF0 al _));have e2:((r8 ss d (l,fr,at0)).snd.fst:List Int)=((r8 (cw1 k ss) d (l,fr,at0)).snd.fst):=(congrArg (fun x:P3=>x.2.1) (bF0 al _));(first|rw[e1,e2]|simp only[e1,e2])<;>rfl)
 refine wp_skip (b6 (wp_seq (wp_block (S8 G (w6 6 [5,6,39,40,41,42] (ih (ss.getD k cv2) (ah0 al) ((r8 (cw1 k ss) d (l,fr,at0)).fst) ((r8 (cw1 k ss) d (l,fr,at0)).snd.fst) ((r8 (cw1 k ss) d (l,fr,at0)).snd.snd) d (bT5 r1 al) (b58 r2) ai ai (bT7 r5) (bT6 r6 al))) [0,0,0,6,14,0,63,127] [0,1,2,3,4,55,56] [.dead,.dead,dT ss,.box [.ref 5,.ref 6,iA (U7 (ss.getD k cv2) d (r8 (cw1 k ss) d (l,fr,at0))).snd.snd],.box [.v (.slice none 0 0),.v (.slice none 0 0),iA 0],.row 76 (D.instrs (U7 (ss.getD k cv2) d (r8 (cw1 k ss) d (l,fr,at0))).fst),.row 3 (D.ints (U7 (ss.getD k cv2) d (r8 (cw1 k ss) d (l,fr,at0))).snd.fst)] [(1,.ref 2),(2,iA d),(3,.ptr 3 0),(6,.ptr 4 0),(7,iA k)] (iX k k ss.length []) (iK al cx2) fun G=>p8 (b6 (P4 G f8 [(7,iA ((k:Int)+1))] [wO ((k:Int)+1)] (o1 al) fun G=>b6 ?_))))));exact U5 G (k+1) al al (rg 7) (by have e1:((r8 (cw1 (k+1) ss) d (l,fr,at0)).snd.snd:Int)=((U7 (ss.getD k cv2) d (r8 (cw1 k ss) d (l,fr,at0))).snd.snd):=(cn7 al);have e2:((r8 (cw1 (k+1) ss) d (l,fr,at0)).fst:List d8)=((U7 (ss.getD k cv2) d (r8 (cw1 k ss) d (l,fr,at0))).fst):=(cn9 al);have e3:((r8 (cw1 (k+1) ss) d (l,fr,at0)).snd.fst:List Int)=((U7 (ss.getD k cv2) d (r8 (cw1 k ss) d (l,fr,at0))).snd.fst):=(cn8 al);(first|rw[e1,e2,e3]|simp only[e1,e2,e3])<;>rfl)
theorem bO9(nv na:Nat):∀(dd:Nat) (ss:List c5) (l:List d8) (fr:List Int) (at0 d:Int),ss.all (j5 nv na dd)=true->l.length+4*i9 ss<=5000000->fr.length=l.length->0<=d->d+dd<=100->0<=at0->at0+Y5 ss<=5000000->j8.ok Tryz.prog (lrC l fr at0 ss d):=by
 intro dd
 induction dd with
 | zero =>
  intro ss l fr at0 d hs r1 r2 r3 r4 r5 r6
  have h0:ss=[]:=by
   cases ss with
   |nil=>rfl
   |cons a r=>simp[j5]at hs
  subst h0
  exact aX4 [] 100 (fun s hs=>by cases hs) l fr at0 d r1 r2 r3 al r5 r6
 |succ dd ih=>
  intro ss l fr at0 d hs r1 r2 r3 r4 r5 r6
  refine aX4 ss (100-(dd+1)) (fun s hm l fr at0 d q1 q2 q3 q4 q5 q6=>?_) l fr at0 d r1 r2 r3 al r5 r6
  have h:=cw3.1 hs s hm
  rw[V2,cv4,cv4]at h
  exact bb4 nv na dd s h.1 h.2.1 h.2.2 (fun tt l fr at0 d h1 h2 h3 h4 h5 h6 h7=>ih tt l fr at0 d h1 h2 h3 h4 h5 h6 h7) l fr at0 d q1 q2 q3 al q5 q6
abbrev a17:It:=.box [.v (.slice none 0 0),.v (.slice none 0 0),iA 0]
theorem bl8(ss:List c5)(B:Int)(ih:∀(s:c5),s∈ss->∀(l:List d8) (fr:List Int) (at0 d:Int),l.length+(4+4*M8 s)<=5000000->fr.length=l.length->0<=d->d<=B->0<=at0->at0+nS s<=5000000->j8.ok Tryz.prog (lqC l fr at0 s d))
  (d:Int) (r1:([]:List d8).length+4*i9 ss<=5000000) (r3:0<=d) (r4:d<=B) (r6:(0:Int)+Y5 ss<=5000000):j8.ok Tryz.prog ⟨145,[.agg [.v (.slice none 0 0),.v (.slice none 0 0),iA 0],.ref 0,iA d],[dT ss],[dT ss,rN (r8 ss d ([],[],0)).1,rI (r8 ss d ([],[],0)).2.1],.agg [.ref 1,.ref 2,iA (r8 ss d ([],[],0)).2.2]⟩:=by
 refine H9 22 Tryz.func145 [dT ss] [(0,.agg [.v (.slice none 0 0),.v (.slice none 0 0),iA 0]),(1,.ref 0),(2,iA d)] fun G=>?_;have hl:=N4 ss;refine wp_seq (j9 G f8 [0,1,9] [dT ss,a17,a17] [(1,.ref 0),(2,iA d),(3,.ptr 1 0),(6,.ptr 2 0)] fun G=>b6 (wp_seq (wp_seq (G3 G f8 [(1,.ref 0),(2,iA d),(3,.ptr 1 0),(6,.ptr 2 0),(7,iA 0)] fun G=>b6 (wp_block ?_)))));obtain⟨ρ,G⟩:=G.nil 3 76 (.instrs []) 5 [dT ss,.box [.ref 3,.v (.slice none 0 0),iA 0],.box [.v (.slice none 0 0),.v (.slice none 0 0),iA 0]] [(1,.ref 0),(2,iA d),(3,.ptr 1 0),(6,.ptr 2 0),(7,iA 0)];obtain⟨ρ,G⟩:=G.nil 4 3 (.ints []) 1 [dT ss,.box [.ref 3,.ref 4,iA 0],.box [.v (.slice none 0 0),.v (.slice none 0 0),iA 0],.row 76 (D.instrs [])] [(1,.ref 0),(2,iA d),(3,.ptr 1 0),(6,.ptr 2 0),(7,iA 0)];refine x6 (κ:=Nat) (fun k=>k<=ss.length) (fun k=>ss.length-k) (fun k=>[dT ss,.box [.ref 3,.ref 4,iA (r8 (ss.take k) d ([],[],0)).2.2],.box [.v (.slice none 0 0),.v (.slice none 0 0),iA 0],.row 76 (.instrs (r8 (ss.take k) d ([],[],0)).1),.row 3 (.ints (r8 (ss.take k) d ([],[],0)).2.1)]) (fun k=>[(1,.ref 0),(2,iA d),(3,.ptr 1 0),(6,.ptr 2 0),(7,iA k)]) 0 al (x7.at G _ _) ?_;clear G;intro k ρ a w hp G;replace G:=x7.at G [dT ss,.box [.ref 3,.ref 4,iA (r8 (cw1 k ss) d ([],[],0)).snd.snd],a17,.row 76 (D.instrs (r8 (cw1 k ss) d ([],[],0)).fst),.row 3 (D.ints (r8 (cw1 k ss) d ([],[],0)).snd.fst)] [(1,.ref 0),(2,iA d),(3,.ptr 1 0),(6,.ptr 2 0),(7,iA k)];refine wp_seq (wp_seq (l8 G f8 [(11,bA (decide ((k:Int)<ss.length)))] fun G=>b6 (rcD G (fun h0 q0=>?_) fun h0 q0=>?_)))
 ·refine wp_exit (v8 (v8 (v6 (b6 (wp_seq (j9 G f8 [0,2,3,4] [dT ss,.box [.ref 2,.ref 3,iA (r8 (cw1 k ss) d ([],[],0)).snd.snd],.row 76 (D.instrs (r8 (cw1 k ss) d ([],[],0)).fst),.row 3 (D.ints (r8 (cw1 k ss) d ([],[],0)).snd.fst)] [(6,.ptr 1 0)] fun G=>b6 (wp_ret ?_)))))));exact Z1 (.agg [.ref 2,.ref 3,iA (r8 (cw1 k ss) d ([],[],0)).snd.snd]) G [0,2,3] (by have e1:((r8 ss d ([],[],0)).snd.snd:Int)=((r8 (cw1 k ss) d ([],[],0)).snd.snd):=(congrArg (fun x:P3=>x.2.2) (bF0 al _));(first|rw[e1]|simp only[e1])<;>rfl) (by show _=mR [0,2,3] [dT ss,.row 76 (D.instrs (r8 ss d ([],[],0)).fst),.row 3 (D.ints (r8 ss d ([],[],0)).snd.fst)];have e1:((r8 ss d ([],[],0)).fst:List d8)=((r8 (cw1 k ss) d ([],[],0)).fst):=(congrArg Prod.fst (bF0 al _));have e2:((r8 ss d ([],[],0)).snd.fst:List Int)=((r8 (cw1 k ss) d ([],[],0)).snd.fst):=(congrArg (fun x:P3=>x.2.1) (bF0 al _));(first|rw[e1,e2]|simp only[e1,e2])<;>rfl)
 refine wp_skip (b6 (wp_seq (wp_block (S8 G (w6 6 [3,4,37,38,39,40] (ih (ss.getD k cv2) (ah0 al) ((r8 (cw1 k ss) d ([],[],0)).fst) ((r8 (cw1 k ss) d ([],[],0)).snd.fst) ((r8 (cw1 k ss) d ([],[],0)).snd.snd) d (bT5 r1 al) (b58 rfl) ai ai (bT7 (Int.le_refl 0)) (bT6 r6 al))) [0,0,0,6,14,0,63,127] [0,1,2,53,54] [dT ss,.box [.ref 3,.ref 4,iA (U7 (ss.getD k cv2) d (r8 (cw1 k ss) d ([],[],0))).snd.snd],a17,.row 76 (D.instrs (U7 (ss.getD k cv2) d (r8 (cw1 k ss) d ([],[],0))).fst),.row 3 (D.ints (U7 (ss.getD k cv2) d (r8 (cw1 k ss) d ([],[],0))).snd.fst)] [(1,.ref 0),(2,iA d),(3,.ptr 1 0),(6,.ptr 2 0),(7,iA k)] (iX k k ss.length []) (iK al cx2) fun G=>p8 (b6 (P4 G f8 [(7,iA ((k:Int)+1))] [wO ((k:Int)+1)] (o1 al) fun G=>b6 ?_))))));exact U5 G (k+1) al al (rg 5) (by have e1:((r8 (cw1 (k+1) ss) d ([],[],0)).snd.snd:Int)=((U7 (ss.getD k cv2) d (r8 (cw1 k ss) d ([],[],0))).snd.snd):=(cn7 al);have e2:((r8 (cw1 (k+1) ss) d ([],[],0)).fst:List d8)=((U7 (ss.getD k cv2) d (r8 (cw1 k ss) d ([],[],0))).fst):=(cn9 al);have e3:((r8 (cw1 (k+1) ss) d ([],[],0)).snd.fst:List Int)=((U7 (ss.getD k cv2) d (r8 (cw1 k ss) d ([],[],0))).snd.fst):=(cn8 al);(first|rw[e1,e2,e3]|simp only[e1,e2,e3])<;>rfl)
theorem bq6(p:f7)(hp:m6 p=true)(hb:i9 p.body<=1048576):j8.ok Tryz.prog ⟨145,[.agg [.v (.slice none 0 0),.v (.slice none 0 0),iA 0],.ref 0,iA 0],[dT p.body],[dT p.body,rN (r8 p.body 0 ([],[],0)).1,rI (r8 p.body 0 ([],[],0)).2.1],.agg [.ref 1,.ref 2,iA (r8 p.body 0 ([],[],0)).2.2]⟩:=by
 simp only[m6,aj5,cv4,decide_eq_true_eq]at hp
 refine bl8 p.body 95 (fun s hm l fr at0 d q1 q2 q3 q4 q5 q6=>?_) 0 (by simp only[cw6];omega) al al (by have:=a52 p.body;omega)
 have h:=cw3.1 hp.1.2 s hm
 rw[V2,cv4,cv4]at h
 exact bb4 _ _ 4 s h.1 h.2.1 h.2.2 (fun tt l fr at0 d h1 h2 h3 h4 h5 h6 h7=>bO9 _ _ 4 tt l fr at0 d h1 h2 h3 h4 h5 h6 h7) l fr at0 d q1 q2 q3 al q5 q6
def aS2(p:f7):P3:=((r8 p.body 0 ([],[],0)).1++[⟨13,0,0,0,0⟩],(r8 p.body 0 ([],[],0)).2.1++[-1],(r8 p.body 0 ([],[],0)).2.2)
def okC(p:f7):Bool:=m6 p&&decide ((aS2 p).1.length<=400)
def K8(p:f7):P3:=if okC p=true then aS2 p else([],[],0)
theorem a50{p:f7}(h:m6 p=false):okC p=false:=by unfold okC;rw[h];rfl
theorem bN5{p:f7}(h:¬(aS2 p).1.length<=400):okC p=false:=by unfold okC;rw[decide_eq_false h,Bool.and_false]
theorem bN4{p:f7}(h1:m6 p=true)(h:(aS2 p).1.length<=400):okC p=true:=by unfold okC;rw[decide_eq_true h,h1];rfl
theorem aD0{p:f7}(h:okC p=false):K8 p=([],[],0):=by unfold K8;rw[h];rfl
theorem bS6{p:f7}(h:okC p=true):K8 p=aS2 p:=by unfold K8;rw[h];rfl
theorem bE5(p:f7)(hb:i9 p.body<=1048576):(r8 p.body 0 ([],[],0)).1.length<=5000000/\(r8 p.body 0 ([],[],0)).2.1.length<=5000000:=by
 have h:=P1 p.body 0 ([],[],0)
 have h1:=T5 p.body
 simp only[cw6]at h
 omega
abbrev aA1(p:f7):List It:=[dI p.vars,dI p.arrays,dT p.body,.row 76 (D.instrs (K8 p).fst),.row 3 (D.ints (K8 p).snd.fst)]
abbrev a08(p:f7)(r0:List It):List It:=.row 76 (D.instrs ((r8 p.body 0 ([],[],0)).fst++[d8.mk 13 0 0 0 0]))::.row 3 (D.ints ((r8 p.body 0 ([],[],0)).snd.fst++[-1]))::r0
theorem bh5(p:f7)(hb:i9 p.body<=1048576):j8.ok Tryz.prog ⟨93,[pA 0],pS p,pS p++[rN (K8 p).1,rI (K8 p).2.1],.tup [.agg [.ref 3,.ref 4,iA (K8 p).2.2],bA (okC p)]⟩:=by
  refine H9 22 Tryz.func93 [dI p.vars,dI p.arrays,dT p.body] [(0,pA 0)] fun G=>?_;have hcb:=bE5 p hb;refine wp_seq (j9 G f8 [0,1,2,3,11] [dI p.vars,dI p.arrays,dT p.body,.box (pL 0),.box [.v (.slice none 0 0),.v (.slice none 0 0),iA 0]] [(1,.ptr 3 0),(2,.ptr 4 0),(3,bA false)] fun G=>b6 (wp_seq (wp_seq (l8 G (w6 1 [0,1,2] (T7 p ai)) [(7,.v (.bool !m6 p))] fun G=>b6 ?_))));cases h0:(!m6 p)
  ·
   have q0:(m6 p)=true:=(Eq.mp (cy2 _) h0);refine rF G _ h0 (wp_skip (b6 (wp_seq (j9 G (w6 3 [2] (bq6 p ai ai)) [0,1,2,4,29,30,37] [dI p.vars,dI p.arrays,dT p.body,.box [.v (.slice none 0 0),.v (.slice none 0 0),iA 0],.row 76 (D.instrs (r8 p.body 0 ([],[],0)).fst),.row 3 (D.ints (r8 p.body 0 ([],[],0)).snd.fst),.box [.ref 4,.ref 5,iA (r8 p.body 0 ([],[],0)).snd.snd]] [(2,.ptr 3 0),(3,bA false),(4,.ptr 6 0)] fun G=>b6 (wp_seq (j9 G (w6 2 [4,5] (I3 ((r8 p.body 0 ([],[],0)).fst) ((r8 p.body 0 ([],[],0)).snd.fst) ((r8 p.body 0 ([],[],0)).snd.snd) (-1) 13 0 0 0 0 al al)) [0,1,2,3,6,23,24] (dI p.vars::dI p.arrays::dT p.body::.box [.v (.slice none 0 0),.v (.slice none 0 0),iA 0]::.box [.ref 5,.ref 6,iA (r8 p.body 0 ([],[],0)).snd.snd]::(a08 p [])) [(2,.ptr 3 0),(3,bA false),(4,.ptr 4 0)] fun G=>b6 (wp_seq (wp_seq (l8 G f8 [(19,bA (decide ((((r8 p.body 0 ([],[],0)).fst++[d8.mk 13 0 0 0 0]).length:Int)>400)))] fun G=>b6 (rcD G (fun h1 q1=>?_) fun h1 q1=>?_))))))))))
   · refine wp_skip (b6 (wp_seq (j9 G f8 [0,1,2,3,5,6] (dI p.vars::dI p.arrays::dT p.body::.box [.ref 4,.ref 5,iA (r8 p.body 0 ([],[],0)).snd.snd]::(a08 p [])) [(2,.ptr 3 0),(3,bA true)] fun G=>b6 (wp_ret ?_))));exact Z1 (.tup [.agg [.ref 4,.ref 5,iA (r8 p.body 0 ([],[],0)).snd.snd],bA true]) G [0,1,2,4,5] (by have e1:((K8 p).snd.snd:Int)=((r8 p.body 0 ([],[],0)).snd.snd):=(by rw[bS6 (bN4 ab (by simp only[aS2];omega))];rfl);have e2:(okC p:Bool)=(true):=(bN4 ab (by simp only[aS2];omega));(first|rw[e1,e2]|simp only[e1,e2])<;>rfl) (by show _=mR [0,1,2,4,5] (aA1 p);unfold aA1;rw[bS6 (bN4 ab (by simp only[aS2];omega))]<;>rfl)
   refine wp_seq (G3 G f8 [(2,.ptr 3 0),(3,bA false),(4,.ptr 4 0)] fun G=>b6 (wp_ret (l7 ?_)));obtain⟨ρ,G⟩:=G.nil 7 76 (.instrs []) 5 (dI p.vars::dI p.arrays::dT p.body::.box [.ref 7,.v (.slice none 0 0),iA 0]::.box [.ref 5,.ref 6,iA (r8 p.body 0 ([],[],0)).snd.snd]::(a08 p [])) [(2,.ptr 3 0),(3,bA false),(4,.ptr 4 0)];obtain⟨ρ,G⟩:=G.nil 8 3 (.ints []) 1 (dI p.vars::dI p.arrays::dT p.body::.box [.ref 7,.ref 8,iA 0]::.box [.ref 5,.ref 6,iA (r8 p.body 0 ([],[],0)).snd.snd]::(a08 p [.row 76 (D.instrs [])])) [(2,.ptr 3 0),(3,bA false),(4,.ptr 4 0)];exact Z1 (.tup [.agg [.ref 7,.ref 8,iA 0],bA false]) G [0,1,2,7,8] (by have e1:((K8 p).snd.snd:Int)=(0):=(by rw[aD0 (bN5 (by simp only[aS2];omega))];done);have e2:(okC p:Bool)=(false):=(bN5 (by simp only[aS2];omega));(first|rw[e1,e2]|simp only[e1,e2])<;>rfl) (by show _=mR [0,1,2,7,8] (aA1 p);unfold aA1;rw[aD0 (bN5 (by simp only[aS2];omega))]<;>rfl)
  have q0:(m6 p)=false:=(Eq.mp (cy0 _) h0);refine rT G _ h0 (wp_seq (G3 G f8 [(1,.ptr 3 0),(2,.ptr 4 0),(3,bA false)] fun G=>b6 (wp_ret (l7 ?_))));obtain⟨ρ,G⟩:=G.nil 5 76 (.instrs []) 5 [dI p.vars,dI p.arrays,dT p.body,.box (pL 0),.box [.ref 5,.v (.slice none 0 0),iA 0]] [(1,.ptr 3 0),(2,.ptr 4 0),(3,bA false)];obtain⟨ρ,G⟩:=G.nil 6 3 (.ints []) 1 [dI p.vars,dI p.arrays,dT p.body,.box (pL 0),.box [.ref 5,.ref 6,iA 0],.row 76 (D.instrs [])] [(1,.ptr 3 0),(2,.ptr 4 0),(3,bA false)];exact Z1 (.tup [.agg [.ref 5,.ref 6,iA 0],bA false]) G [0,1,2,5,6] (by have e1:((K8 p).snd.snd:Int)=(0):=(by rw[aD0 (a50 ab)];done);have e2:(okC p:Bool)=(false):=(a50 ab);(first|rw[e1,e2]|simp only[e1,e2])<;>rfl) (by show _=mR [0,1,2,5,6] (aA1 p);unfold aA1;rw[aD0 (a50 ab)]<;>rfl)
theorem ci6{p:f7}(h:okC p=true):m6 p=true:=by
 unfold okC at h;simp only[cv4]at h;exact h.1
def cvP(p:f7):List Int:=if okC p=true then p.vars else []
def caP(p:f7):List Int:=if okC p=true then p.arrays else []
theorem cn0{p:f7}(h:okC p=true):cvP p=p.vars:=if_pos h
theorem cc7{p:f7}(h:okC p=false):cvP p=[]:=if_neg (by rw[h];decide)
theorem co0{p:f7}(h:okC p=true):caP p=p.arrays:=if_pos h
theorem cd3{p:f7}(h:okC p=false):caP p=[]:=if_neg (by rw[h];decide)
abbrev a16(p:f7):List It:=[dI p.vars,dI p.arrays,dT p.body,.row 3 (D.ints (cvP p)),.row 3 (D.ints (caP p)),.row 76 (D.instrs (K8 p).fst)]
abbrev a07(p:f7)(r0:List It):List It:=.row 76 (D.instrs (K8 p).fst)::.row 3 (D.ints (K8 p).snd.fst)::.box [.ref 5,.ref 6,iA (K8 p).snd.snd]::r0
theorem aD4(p:f7)(hb:p.size<=1048576):j8.ok Tryz.prog ⟨41,[pA 0],pS p,pS p++[rI (cvP p),rI (caP p),rN (K8 p).1],.tup [.agg [.ref 3,.ref 4,.ref 5],bA (okC p)]⟩:=by
 refine H9 25 Tryz.func41 [dI p.vars,dI p.arrays,dT p.body] [(0,pA 0)] fun G=>?_
 have hb1:p.vars.length<=1048576/\p.arrays.length<=1048576/\i9 p.body<=1048576:=by unfold f7.size at hb;omega
 refine wp_seq (j9 G f8 [0,1,2,3,11] [dI p.vars,dI p.arrays,dT p.body,.box (pL 0),.box [.v (.slice none 0 0),.v (.slice none 0 0),.v (.slice none 0 0)]] [(1,.ptr 3 0),(2,.ptr 4 0),(3,bA false)] fun G=>b6 (wp_seq (j9 G (w6 1 [0,1,2] (bh5 p al)) [0,1,2,3,4,13,14,45] (dI p.vars::dI p.arrays::dT p.body::.box (pL 0)::.box [.v (.slice none 0 0),.v (.slice none 0 0),.v (.slice none 0 0)]::(a07 p [])) [(1,.ptr 3 0),(2,.ptr 4 0),(3,bA false),(4,.ptr 7 0),(5,bA (okC p))] fun G=>b6 (wp_seq (wp_seq (l8 G f8 [(12,.v (.bool !okC p))] fun G=>b6 ?_))))));cases h0:(!okC p)
 ·have q0:(okC p)=true:=(Eq.mp (cy2 _) h0);refine rF G _ h0 (wp_skip (b6 (wp_seq (S8 G f8 [0,0,2,7,0,0,32,127,0,256,1023,2047,4095] [0,1,2,4,5,32,64] [dI p.vars,dI p.arrays,dT p.body,.box [.ref 5,.ref 6,.ref 4],.row 76 (D.instrs (K8 p).fst),.row 3 (D.ints ([]++p.vars)),.row 3 (D.ints ([]++p.arrays))] [(2,.ptr 3 0),(3,bA true)] (aP ((0:Nat)+p.vars.length) 8 (aP ((0:Nat)+p.arrays.length) 8 [])) (aK al (aK al cx2)) fun G=>b6 (wp_ret ?_)))));exact Z1 (.tup [.agg [.ref 5,.ref 6,.ref 4],bA true]) G [0,1,2,5,6,4] (by have e1:(okC p:Bool)=(true):=ai;(first|rw[e1]|simp only[e1])<;>rfl) (by show _=mR [0,1,2,5,6,4] (a16 p);unfold a16;have e2:(caP p:List Int)=([]++p.arrays):=(by rw[co0 ab];rfl);rw[e2,cn0 ab]<;>rfl)
 have q0:(okC p)=false:=(Eq.mp (cy0 _) h0);refine rT G _ h0 (wp_seq (G3 G f8 [(1,.ptr 3 0),(2,.ptr 4 0),(3,bA false),(4,.ptr 7 0)] fun G=>b6 (wp_ret (l7 ?_))));obtain⟨ρ,G⟩:=G.nil 8 3 (.ints []) 1 (dI p.vars::dI p.arrays::dT p.body::.box (pL 0)::.box [.ref 8,.v (.slice none 0 0),.v (.slice none 0 0)]::(a07 p [])) [(1,.ptr 3 0),(2,.ptr 4 0),(3,bA false),(4,.ptr 7 0)];obtain⟨ρ,G⟩:=G.nil 9 3 (.ints []) 1 (dI p.vars::dI p.arrays::dT p.body::.box (pL 0)::.box [.ref 8,.ref 9,.v (.slice none 0 0)]::(a07 p [.row 3 (D.ints [])])) [(1,.ptr 3 0),(2,.ptr 4 0),(3,bA false),(4,.ptr 7 0)];obtain⟨ρ,G⟩:=G.nil 10 76 (.instrs []) 5 (dI p.vars::dI p.arrays::dT p.body::.box (pL 0)::.box (pL 8)::(a07 p [.row 3 (D.ints []),.row 3 (D.ints [])])) [(1,.ptr 3 0),(2,.ptr 4 0),(3,bA false),(4,.ptr 7 0)];exact Z1 (.tup [pA 8,bA false]) G [0,1,2,8,9,10] (by have e1:(okC p:Bool)=(false):=ai;(first|rw[e1]|simp only[e1])<;>rfl) (by show _=mR [0,1,2,8,9,10] (a16 p);unfold a16;have e2:(caP p:List Int)=([]):=(by rw[cd3 ab];done);have e3:((K8 p).fst:List d8)=([]):=(by rw[aD0 ab];done);rw[e2,e3,cc7 ab]<;>rfl)
def rqL(l:Int)(xs:List Int)(k:Nat):List Int:=(xs.take k).map (fun x=>l6 x l)++xs.drop k
theorem bv5(l:Int)(xs:List Int)(k:Nat):(rqL l xs k).length=xs.length:=by simp[rqL];omega
theorem bv6{l:Int}{xs:List Int}{k:Nat}(h:xs.length<=k):rqL l xs k=xs.map fun x=>l6 x l:=by
 unfold rqL
 rw[cw7 al,List.drop_eq_nil_of_le al,List.append_nil]
theorem b84{l:Int}{xs:List Int}{k:Nat}(h:k<xs.length):(rqL l xs k).getD k 0=xs.getD k 0:=by
 unfold rqL
 simp only[cv8]
 rw[cy7 ah]
 simp[List.length_take,Nat.min_eq_left (Nat.le_of_lt h)]
theorem bv4{l:Int}{xs:List Int}{k:Nat}(h:k<xs.length):(rqL l xs k).set k (l6 ((rqL l xs k).getD k 0) l)=rqL l xs (k+1):=by
 rw[b84 h]
 unfold rqL
 apply List.ext_getElem?
 intro j
 rw[List.getElem?_set]
 by_cases e:k=j
 ·subst e
  rw[if_pos rfl,if_pos ah]
  rw[cw8 ah]
  simp[List.getElem?_take,h,cv8]
 rw[if_neg e]
 rcases cx7 j k with h1|h1
 ·rw[cw8 ah,cw8 ah]
  simp[List.getElem?_take,h1,show j<k+1 by omega]
 rw[cy7 ah,cy7 ah]
 simp only[List.length_map,List.length_take,List.getElem?_drop]
 congr 1
 omega
def l9(b:List UInt8)(j:Int):c8×Int:=(⟨(O5 b j).vars,(O5 b j).arrays,(clD b (R9 b j).2 (O5 b j).vars.length (O5 b j).arrays.length).1⟩,(clD b (R9 b j).2 (O5 b j).vars.length (O5 b j).arrays.length).2)
theorem bU4(b:List UInt8){j:Int}(hj:0<=j)(hj2:j<=10000000):j+2<=(R9 b j).2/\(R9 b j).2<=j+150000:=by
 have h1:=bz5 b hj hj2
 have h2:=bx5 b hj hj2
 omega
theorem bL9(b:List UInt8)(j:Int):(O5 b j).vars.length<=12/\(O5 b j).arrays.length<=2/\1<=(O5 b j).vars.length:=by
 have h:=af8 (bM1 b j)
 have:=(aB4 (bM1 b j)).2.2.1
 omega
theorem bT3(b:List UInt8){j:Int}(hj:0<=j)(hj2:j<=10000000):j+3<=(l9 b j).2/\(l9 b j).2<=j+150100/\(l9 b j).1.list.length<=12/\1<=(l9 b j).1.list.length:=by
 have h1:=bU4 b hj hj2
 have h2:=cu5 b (j:=(R9 b j).2) (O5 b j).vars.length (O5 b j).arrays.length al al
 have h3:=ca7 b (j:=(R9 b j).2) al al
 have e:(l9 b j).1.list.length=(clD b (R9 b j).2 (O5 b j).vars.length (O5 b j).arrays.length).1.length:=rfl
 have e2:(l9 b j).2=(clD b (R9 b j).2 (O5 b j).vars.length (O5 b j).arrays.length).2:=rfl
 rw[e,e2]
 omega
def J1(b:List UInt8):Nat->Int->f7×Int
 |0,j=>(W7 b j,(R9 b j).2+1)
 |n+1,j=>if(Y6 (W7 b j) false).1=0/\0<(W7 b j).body.length then(W7 b j,(R9 b j).2+1)else J1 b n ((R9 b j).2+1)
theorem b05(b:List UInt8):∀(n:Nat) (j:Int),n<=3->0<=j->j+n*150001<=10000000->j<=(J1 b n j).2/\(J1 b n j).2<=j+(n+1)*150001/\(J1 b n j).1.size<=160000
 |0,j,_,hj,hj2=>by
  have h:=bU4 b hj al
  have h2:=bk4 b hj al
  refine⟨?_,?_,h2⟩<;>(show _<=_;simp only[J1];omega)
 |n+1,j,hn,hj,hj2=>by
  have h:=bU4 b hj al
  have h2:=bk4 b hj al
  have ih:=b05 b n ((R9 b j).2+1) al al al
  rw[J1]
  split
  ·exact⟨by show j<=(R9 b j).2+1;omega,by show(R9 b j).2+1<=_;omega,h2⟩
  exact⟨al,al,ih.2.2⟩
def Q7(b:List UInt8)(j:Int):Nat->Int
 |0=>j
 |i+1=>(R9 b (Q7 b j i)).2+1
theorem cl6(b:List UInt8){j:Int}(hj:0<=j)(hj2:j<=9000000):∀i:Nat,i<=3->j<=Q7 b j i/\Q7 b j i<=j+i*150001
 |0,_=>⟨Int.le_refl _,by simp[Q7]⟩
 |i+1,hi=>by
  have ih:=cl6 b hj hj2 i al
  have h:=bU4 b (j:=Q7 b j i) al al
  rw[Q7]
  omega
theorem cl9{b:List UInt8}{j:Int}{i:Nat}(hi:i<3)(h:J1 b 3 j=J1 b (3-i) (Q7 b j i))(hn:¬((Y6 (W7 b (Q7 b j i)) false).1=0/\0<(W7 b (Q7 b j i)).body.length)):J1 b 3 j=J1 b (3-(i+1)) (Q7 b j (i+1)):=by
 rw[h,show 3-i=(3-(i+1))+1 by omega,J1,if_neg hn];rfl
theorem cb8{b:List UInt8}{j:Int}{i:Nat}(hi:i<3)(h:J1 b 3 j=J1 b (3-i) (Q7 b j i))(hn:(Y6 (W7 b (Q7 b j i)) false).1=0/\0<(W7 b (Q7 b j i)).body.length):J1 b 3 j=(W7 b (Q7 b j i),(R9 b (Q7 b j i)).2+1):=by
 rw[h,show 3-i=(3-(i+1))+1 by omega,J1,if_pos hn]
theorem b03{b:List UInt8}{j:Int}{i:Nat}(hi:3<=i)(hi2:i<=3)(h:J1 b 3 j=J1 b (3-i) (Q7 b j i)):J1 b 3 j=(W7 b (Q7 b j i),(R9 b (Q7 b j i)).2+1):=by
 rw[h,show 3-i=0 by omega,J1]
theorem by8{p:f7}(h:okL p=false):okC (I9 p)=false:=by
 rw[bw8 h];exact a50 (by decide+kernel)
def fnI(x:d8):d8:=if x.op=9\/x.op=4\/x.op=5 then⟨12,0,0,0,0⟩else x
def fnL(xs:List d8)(k:Nat):List d8:=(xs.take k).map fnI++xs.drop k
theorem by1(xs:List d8)(k:Nat):(fnL xs k).length=xs.length:=by simp[fnL];omega
theorem bp4{xs:List d8}{k:Nat}(h:k<xs.length):(fnL xs k).getD k cv2=xs.getD k cv2:=by
 unfold fnL
 simp only[cv8]
 rw[cy7 ah]
 simp[List.length_take,Nat.min_eq_left (Nat.le_of_lt h)]
theorem bf5{xs:List d8}{k:Nat}(h:k<xs.length):fnL xs (k+1)=(fnL xs k).set k (fnI (xs.getD k cv2)):=by
 unfold fnL
 apply List.ext_getElem?
 intro j
 rw[List.getElem?_set]
 by_cases e:k=j
 ·subst e
  rw[if_pos rfl,if_pos ah]
  rw[cw8 ah]
  simp[List.getElem?_take,h,cv8]
 rw[if_neg e]
 rcases cx7 j k with h1|h1
 ·rw[cw8 ah,cw8 ah]
  simp[List.getElem?_take,h1,show j<k+1 by omega]
 rw[cy7 ah,cy7 ah]
 simp only[List.length_map,List.length_take,List.getElem?_drop]
 congr 1
 omega
theorem bR0{xs:List d8}{k:Nat}(h:k<xs.length)(ho:((fnL xs k).getD k cv2).op=9\/((fnL xs k).getD k cv2).op=4\/((fnL xs k).getD k cv2).op=5):fnL xs (k+1)=(fnL xs k).set k ⟨12,0,0,0,0⟩:=by
 rw[bf5 h]
 rw[bp4 h]at ho
 unfold fnI;rw[if_pos ho]
theorem cl4{xs:List d8}{k:Nat}(h:k<xs.length)(ho:¬(((fnL xs k).getD k cv2).op=9\/((fnL xs k).getD k cv2).op=4\/((fnL xs k).getD k cv2).op=5)):fnL xs (k+1)=fnL xs k:=by
 have ho2:=ho
 rw[bp4 h]at ho2
 rw[bf5 h]
 unfold fnI;rw[if_neg ho2]
 have hk:k<(fnL xs k).length:=by rw[by1];exact h
 rw[<-bp4 h,n7 hk];simp
theorem b01{xs:List d8}{k:Nat}(h:xs.length<=k):fnL xs k=xs.map fnI:=by
 unfold fnL
 rw[cw7 al,List.drop_eq_nil_of_le al,List.append_nil]
def Y1(b:List UInt8)(j:Int):c8×Int:=
 if pk b (l9 b j).2 3=0 then
  (if okC (I9 (J1 b 3 ((l9 b j).2+1)).1)=true/\(K8 (I9 (J1 b 3 ((l9 b j).2+1)).1)).1.length<=60 then
   (⟨cvP (I9 (J1 b 3 ((l9 b j).2+1)).1),caP (I9 (J1 b 3 ((l9 b j).2+1)).1),(K8 (I9 (J1 b 3 ((l9 b j).2+1)).1)).1⟩,(J1 b 3 ((l9 b j).2+1)).2)
  else((l9 b j).1,(J1 b 3 ((l9 b j).2+1)).2))
 else if pk b (l9 b j).2 3=1 then(⟨(l9 b j).1.vars.map fun x=>l6 x 1,(l9 b j).1.arrays.map fun x=>l6 x 1,(l9 b j).1.list.map fnI⟩,(l9 b j).2+1)
 else((l9 b j).1,(l9 b j).2+1)
theorem cc6(p:f7):(cvP p).length<=12/\(caP p).length<=2:=by
 cases h:okC p
 ·rw[cc7 h,cd3 h];simp
 rw[cn0 h,co0 h]
 have:=af8 (ci6 h)
 omega
theorem ci8(b:List UInt8){j:Int}(hj:0<=j)(hj2:j<=5000000):j<=(Y1 b j).2/\(Y1 b j).2<=j+1000000/\(Y1 b j).1.list.length<=60/\(Y1 b j).1.vars.length<=12/\(Y1 b j).1.arrays.length<=2:=by
 have h1:=bT3 b hj al
 have h2:=b05 b 3 ((l9 b j).2+1) (cv7 _) al al
 have h3:=bL9 b j
 have e1:(l9 b j).1.vars=(O5 b j).vars:=rfl
 have e2:(l9 b j).1.arrays=(O5 b j).arrays:=rfl
 have h4:=cc6 (I9 (J1 b 3 ((l9 b j).2+1)).1)
 unfold Y1
 split
 ·split
  ·rename_i h;exact⟨by simp only;omega,by simp only;omega,h.2,h4.1,h4.2⟩
  exact⟨by simp only;omega,by simp only;omega,by simp only;omega,by simp only[e1];omega,by simp only[e2];omega⟩
 split
 ·exact⟨by simp only;omega,by simp only;omega,by simp only[List.length_map];omega,by simp only[List.length_map,e1];omega,by simp only[List.length_map,e2];omega⟩
 exact⟨by simp only;omega,by simp only;omega,by simp only;omega,by simp only[e1];omega,by simp only[e2];omega⟩
def y7(c:List UInt8):c8:=(muD (bsD c) (Y1 (bsD c) 0).2 (Y1 (bsD c) 0).1).1
theorem cc2(c:List UInt8):(y7 c).list.length<=60/\(y7 c).vars.length<=12/\(y7 c).arrays.length<=2:=by
 have h1:=ci8 (bsD c) (j:=0) al al
 have h2:=ct0 (bsD c) (Y1 (bsD c) 0).2 (Y1 (bsD c) 0).1
 unfold y7
 omega
abbrev cdC(b:List UInt8)(j:Int):j8:=⟨68,[.ptr 0 0],[.box [.ref 1,iA j],dY b],[.box [.ref 1,iA (l9 b j).2],dY b,rI (l9 b j).1.vars,rI (l9 b j).1.arrays,rN (l9 b j).1.list],.agg [.ref 2,.ref 3,.ref 4]⟩
abbrev U1(b:List UInt8)(j X:Int)(k:Nat):List d8×Int:=rsD b ((R9 b j).2+1) (O5 b j).vars.length (O5 b j).arrays.length X k
section
variable{b:List UInt8}{j X:Int}{k:Nat}
theorem cn6(hX:nm b (R9 b j).2 lnL=X)(hk:(k:Int)=X-1)(h3:¬X>3):(l9 b j).1.list=(U1 b j X k).1++[⟨13,0,0,0,0⟩]/\(l9 b j).2=(U1 b j X k).2:=by
 obtain rfl:k=(X-1).toNat:=al
 unfold l9 clD
 simp only[hX,if_neg h3]
 constructor<;>first|trivial|rfl
theorem cn5(hX:nm b (R9 b j).2 lnL=X)(hk:(k:Int)=X-1)(h3:X>3)(h:¬pk b (U1 b j X k).2 4=0):(l9 b j).1.list=(U1 b j X k).1++[⟨13,0,0,0,0⟩]/\(l9 b j).2=(U1 b j X k).2+1:=by
 obtain rfl:k=(X-1).toNat:=al
 unfold U1 at h
 unfold l9 clD
 simp only[hX,if_pos h3,if_neg h]
 constructor<;>first|trivial|rfl
theorem cn4(hX:nm b (R9 b j).2 lnL=X)(hk:(k:Int)=X-1)(h3:X>3)(h:pk b (U1 b j X k).2 4=0):(l9 b j).1.list=(((U1 b j X k).1++[(⟨13,0,0,0,0⟩:d8)]).set 0 ⟨1,5,1+pk b ((U1 b j X k).2+1) 3,0,0⟩).set (X-2).toNat ⟨10,5,1,0,0⟩/\(l9 b j).2=(U1 b j X k).2+1+1:=by
 obtain rfl:k=(X-1).toNat:=al
 unfold U1 at h
 unfold l9 clD
 simp only[hX,if_pos h3,if_pos h]
 constructor
 ·first|trivial|rfl
 exact(Int.add_assoc _ 1 1).symm
theorem pw3(b:List UInt8){i:Int}(h0:0<=i)(h1:i<=1000000000):IntKind.i64.wrap (1+pk b i 3)=1+pk b i 3:=by
 have:=bn4 b (i:=i) (m:=3) h0 h1
 exact w64 al al
theorem ch3(b:List UInt8){j:Int}(X:Int)(r0:0<=j)(r1:j<=10000000)(k:Nat):(U1 b j X k).1.length=k/\(R9 b j).2+1<=(U1 b j X k).2/\(U1 b j X k).2<=(R9 b j).2+1+5*k:=
 b83 b ((R9 b j).2+1) _ _ X k
end
abbrev aW7(b:List UInt8)(j:Int)(X:Int)(k:Nat):=rnD b (U1 b j X k).snd (O5 b j).vars.length (O5 b j).arrays.length (k:Int) X
abbrev aW6(b:List UInt8)(j:Int):List It:=[.box [.ref 1,iA (l9 b j).snd],dY b,.row 3 (D.ints (l9 b j).fst.vars),.row 3 (D.ints (l9 b j).fst.arrays),.row 76 (D.instrs (l9 b j).fst.list)]
abbrev a95:It:=.box [.v (.slice none 0 0),.v (.slice none 0 0),.v (.slice none 0 0)]
abbrev aL4(b:List UInt8)(j:Int):It:=.row 3 (D.ints (O5 b j).arrays)
abbrev aL3(b:List UInt8)(j:Int):It:=.row 3 (D.ints (O5 b j).vars)
abbrev b36(b:List UInt8)(j:Int)(X:Int)(k:Nat):It:=.row 76 (D.instrs ((((U1 b j X k).fst++([d8.mk 13 0 0 0 0]++[])).set 0 (d8.mk 1 5 (1+pk b ((U1 b j X k).snd+1) 3) 0 0)).set (X-2).toNat (d8.mk 10 5 1 0 0)))
abbrev bu0(b:List UInt8)(j:Int)(X:Int)(k:Nat):It:=.row 76 (D.instrs ((U1 b j X k).fst++([d8.mk 13 0 0 0 0]++[])))
abbrev aD9(X:Int)(r0:List (Nat×AV)):List (Nat×AV):=(0,.ptr 0 0)::(2,.ptr 2 0)::(4,.ptr 5 0)::(5,iA X)::r0
abbrev aK5(b:List UInt8)(j:Int)(r0:List It):List It:=dY b::a95::aL3 b j::aL4 b j::.box [.ref 3,.ref 4,.ref 6]::r0
theorem bJ9(b:List UInt8)(j X:Int)(hX:nm b (R9 b j).2 lnL=X)(r0:0<=j)(r1:j<=10000000):j8.ok Tryz.prog (cdC b j):=by
  have hbd:=bU4 b r0 r1;have hnum:j8.ok Tryz.prog ⟨109,[.ptr 0 0,.ref 2],[.box [.ref 1,iA (R9 b j).2],dY b,dI lnL],[.box [.ref 1,iA ((R9 b j).2+1)],dY b,dI lnL],iA X⟩:=hX▸T6 b (R9 b j).2 lnL (List.cons_ne_nil _ _) al al;refine H9 60 Tryz.func68 [.box [.ref 1,iA j],dY b] [(0,.ptr 0 0)] fun G=>?_;have hop:1<=X/\X<=12:=hX▸ca7 b al al;refine wp_seq (j9 G f8 [0,1,2] [.box [.ref 1,iA j],dY b,a95] [(0,.ptr 0 0),(2,.ptr 2 0)] fun G=>b6 (wp_seq (j9 G (w6 1 [0,1] (aF9 b j ai ai)) [0,1,2,11,12,13,19] [.box [.ref 1,iA (R9 b j).snd],dY b,a95,aL3 b j,aL4 b j,.tree (D.stmts (O5 b j).body),.box [.ref 3,.ref 4,.tref 5]] [(0,.ptr 0 0),(2,.ptr 2 0),(3,.ptr 6 0)] fun G=>b6 (wp_seq (j9 G f8 [0,1,2,3,4,47] [.box [.ref 1,iA (R9 b j).snd],dY b,a95,aL3 b j,aL4 b j,.box [.ref 3,.ref 4,.v (.slice none 0 0)]] [(0,.ptr 0 0),(2,.ptr 2 0),(4,.ptr 5 0)] fun G=>b6 (wp_seq (j9 G (w6 2 [0,1,14] (j8.lend hnum [.no,.no,.row 3])) (rg 6) [.box [.ref 1,iA ((R9 b j).snd+1)],dY b,a95,aL3 b j,aL4 b j,.box [.ref 3,.ref 4,.v (.slice none 0 0)]] (aD9 X []) fun G=>b6 (wp_seq (wp_seq (G3 G f8 (aD9 X [(6,iA 0)]) fun G=>b6 (wp_block ?_)))))))))));obtain⟨ρ,G⟩:=G.nil 6 76 (.instrs []) 5 [.box [.ref 1,iA ((R9 b j).snd+1)],dY b,.box [.v (.slice none 0 0),.v (.slice none 0 0),.v (.slice none 0 0)],.row 3 (D.ints (O5 b j).vars),.row 3 (D.ints (O5 b j).arrays),.box [.ref 3,.ref 4,.ref 6]] (aD9 X [(6,iA 0)]);refine x6 (κ:=Nat) (fun k=>(k:Int)<=X-1) (fun k=>(X-1).toNat-k) (fun k=>(.box [.ref 1,iA (U1 b j X k).2]::(aK5 b j [.row 76 (.instrs (U1 b j X k).1)]))) (fun k=>(aD9 X [(6,iA k)])) 0 al (x7.at G _ _) ?_;clear G;intro k ρ a w hp G;replace G:=x7.at G (.box [.ref 1,iA (U1 b j X k).snd]::(aK5 b j [.row 76 (D.instrs (U1 b j X k).fst)])) (aD9 X [(6,iA k)]);have hrs:=ch3 b X r0 r1 k;refine wp_seq (wp_seq (P4 G f8 [(20,bA (decide ((k:Int)<X-1)))] [wO (X-1)] (o1 al) fun G=>b6 (rcD G (fun h0 q0=>?_) fun h0 q0=>?_)))
  ·
   refine wp_exit (v8 (v8 (v6 (b6 (wp_seq (rA1 G f8 [0,1,2,3,4,5,39] (.box [.ref 1,iA (U1 b j X k).snd]::(aK5 b j [bu0 b j X k])) (aD9 X []) (aP ((U1 b j X k).fst.length+([d8.mk (13:Int) (0:Int) (0:Int) (0:Int) (0:Int)]++[]).length) 40 []) (aK (by simp only[cv9,cw2,cw6,cy3];omega) cx2) fun G=>b6 (wp_seq (wp_seq ?_))))))));cases h1:(decide (X>3))
   · have q1:=dFf h1;refine l8 G (K6 (fc h1 fz) [(3,0),(4,0),(5,0),(1006,0)]) [(45,bA false)] fun G=>b6 (rF G false aj (wp_skip (b6 (wp_seq (j9 G f8 [0,1,2,3,4,6] [.box [.ref 1,iA (U1 b j X k).snd],dY b,.box (pL 3),aL3 b j,aL4 b j,bu0 b j X k] [(2,.ptr 2 0)] fun G=>b6 (wp_ret ?_))))));exact O8 G [0,1,3,4,5] (by show _=mR [0,1,3,4,5] (aW6 b j);unfold aW6;have e1:((l9 b j).snd:Int)=((U1 b j X k).snd):=((cn6 hX al al).2);have e2:((l9 b j).fst.list:List d8)=((U1 b j X k).fst++([d8.mk 13 0 0 0 0]++[])):=((cn6 hX al al).1);(first|rw[e1,e2]|simp only[e1,e2])<;>rfl)
   have q1:=dTt h1;refine j9 G (I2 (v9 4 [0,1] (D7 b ((U1 b j X k).snd) 4 al al) I1) (fc h1 fz) [(3,0),(4,0),(5,0),(1006,0)]) (rg 7) (.box [.ref 1,iA ((U1 b j X k).snd+1)]::(aK5 b j [bu0 b j X k])) (aD9 X [(45,bA (pk b (U1 b j X k).snd 4==0))]) fun G=>b6 (S4 G (fun h2 q2=>?_) fun h2 q2=>?_)
   · refine wp_skip (b6 (wp_seq (j9 G f8 [0,1,2,3,4,6] [.box [.ref 1,iA ((U1 b j X k).snd+1)],dY b,.box (pL 3),aL3 b j,aL4 b j,bu0 b j X k] [(2,.ptr 2 0)] fun G=>b6 (wp_ret ?_))));exact O8 G [0,1,3,4,5] (by show _=mR [0,1,3,4,5] (aW6 b j);unfold aW6;have e1:((l9 b j).snd:Int)=((U1 b j X k).snd+1):=((cn5 hX al al al).2);have e2:((l9 b j).fst.list:List d8)=((U1 b j X k).fst++([d8.mk 13 0 0 0 0]++[])):=((cn5 hX al al al).1);(first|rw[e1,e2]|simp only[e1,e2])<;>rfl)
   refine wp_seq (S8 G (w6 3 [0,1] (D7 b ((U1 b j X k).snd+1) 3 al al)) [0,1,0,4,12,28,63,127] (rg 7) (.box [.ref 1,iA ((U1 b j X k).snd+1+1)]::(aK5 b j [.row 76 (D.instrs (((U1 b j X k).fst++([d8.mk 13 0 0 0 0]++[])).set 0 (d8.mk 1 5 (1+pk b ((U1 b j X k).snd+1) 3) 0 0)))])) [(2,.ptr 2 0),(4,.ptr 5 0),(5,iA X)] [wO ((1:Int)+pk b ((U1 b j X k).snd+1) (3:Int)),(0:Int)<=0,(0:Int)<(((U1 b j X k).fst++([d8.mk (13:Int) (0:Int) (0:Int) (0:Int) (0:Int)]++[])).length:Int),(0:Nat)<((U1 b j X k).fst++([d8.mk (13:Int) (0:Int) (0:Int) (0:Int) (0:Int)]++[])).length] ⟨(pw3 b al al),al,(by simp[h0,h1,h2]),(by simp[h0,h1,h2]),cx2⟩ fun G=>b6 (rA1 G f8 (rg 7) (.box [.ref 1,iA ((U1 b j X k).snd+1+1)]::(aK5 b j [b36 b j X k])) [(2,.ptr 2 0),(4,.ptr 5 0)] [wO (X-2),(0:Int)<=X-2,X-2<((((U1 b j X k).fst++([d8.mk (13:Int) (0:Int) (0:Int) (0:Int) (0:Int)]++[])).set (0:Nat) (d8.mk (1:Int) (5:Int) ((1:Int)+pk b ((U1 b j X k).snd+1) (3:Int)) (0:Int) (0:Int))).length:Int),(X-2).toNat<(((U1 b j X k).fst++([d8.mk (13:Int) (0:Int) (0:Int) (0:Int) (0:Int)]++[])).set (0:Nat) (d8.mk (1:Int) (5:Int) ((1:Int)+pk b ((U1 b j X k).snd+1) (3:Int)) (0:Int) (0:Int))).length] ⟨oW al,al,(by simp only[cv9,cw2,cw6,cy3];omega),(by simp only[cv9,cw2,cw6,cy3];omega),cx2⟩ fun G=>b6 (wp_seq (j9 G f8 [0,1,2,3,4,6] [.box [.ref 1,iA ((U1 b j X k).snd+1+1)],dY b,.box (pL 3),aL3 b j,aL4 b j,b36 b j X k] [(2,.ptr 2 0)] fun G=>b6 (wp_ret ?_)))));exact O8 G [0,1,3,4,5] (by show _=mR [0,1,3,4,5] (aW6 b j);unfold aW6;have e1:((l9 b j).snd:Int)=((U1 b j X k).snd+1+1):=((cn4 hX al al al).2);have e2:((l9 b j).fst.list:List d8)=((((U1 b j X k).fst++([d8.mk 13 0 0 0 0]++[])).set 0 (d8.mk 1 5 (1+pk b ((U1 b j X k).snd+1) 3) 0 0)).set (X-2).toNat (d8.mk 10 5 1 0 0)):=((cn4 hX al al al).1);(first|rw[e1,e2]|simp only[e1,e2])<;>rfl)
  refine wp_skip (b6 (wp_seq (wp_block (S8 G (w6 6 [0,1,3,4,6] (j8.lend (bq7 b ((U1 b j X k).snd) ((O5 b j).vars) ((O5 b j).arrays) ((U1 b j X k).fst) ((k:Int)) X al al al al) [.no,.no,.row 3,.row 3,.row 76])) [0,1,0,0,0,0,60,124,255,511,1023] [0,1,2,3,4,5,71] (.box [.ref 1,iA (aW7 b j X k).snd]::(aK5 b j [.row 76 (D.instrs ((U1 b j X k).fst++([d8.mk (aW7 b j X k).fst.op (aW7 b j X k).fst.a (aW7 b j X k).fst.b (aW7 b j X k).fst.c (aW7 b j X k).fst.d]++[])))])) (aD9 X [(6,iA k)]) (aP ((U1 b j X k).fst.length+([d8.mk (rnD b (U1 b j X k).snd (O5 b j).vars.length (O5 b j).arrays.length (k:Int) X).fst.op (rnD b (U1 b j X k).snd (O5 b j).vars.length (O5 b j).arrays.length (k:Int) X).fst.a (rnD b (U1 b j X k).snd (O5 b j).vars.length (O5 b j).arrays.length (k:Int) X).fst.b (rnD b (U1 b j X k).snd (O5 b j).vars.length (O5 b j).arrays.length (k:Int) X).fst.c (rnD b (U1 b j X k).snd (O5 b j).vars.length (O5 b j).arrays.length (k:Int) X).fst.d]++[]).length) 40 []) (aK (by simp only[cv9,cw2,cw6,cy3];omega) cx2) fun G=>p8 (b6 (P4 G f8 [(6,iA ((k:Int)+1))] [wO ((k:Int)+1)] (o1 al) fun G=>b6 ?_))))));exact U5 G (k+1) ai al (rg 7)
theorem az0(b:List UInt8)(j:Int)(r0:0<=j)(r1:j<=10000000):j8.ok Tryz.prog (cdC b j):=bJ9 b j _ rfl r0 r1
abbrev muC(b:List UInt8)(j:Int)(vs ars:List Int)(l:List d8):j8:=⟨58,[.ptr 0 0,.agg [.ref 2,.ref 3,.ref 4]],[.box [.ref 1,iA j],dY b,dI vs,dI ars,dN l],[.box [.ref 1,iA (muD b j ⟨vs,ars,l⟩).2],dY b,dI vs,dI ars,dN l,rI (muD b j ⟨vs,ars,l⟩).1.vars,rI (muD b j ⟨vs,ars,l⟩).1.arrays,rN (muD b j ⟨vs,ars,l⟩).1.list],.agg [.ref 5,.ref 6,.ref 7]⟩
section
variable{b:List UInt8}{j:Int}{vs ars:List Int}{l:List d8}
theorem cs9(h:(([]++l).length:Int)=0):muD b j ⟨vs,ars,l⟩=(⟨[]++vs,[]++ars,[]++l⟩,j):=by
 unfold muD;rw[if_pos (by rw[List.nil_append]at h;show l.length=0;omega)]
 rfl
theorem ct6(h:¬(([]++l).length:Int)=0)(h1:pk b j 60=0):muD b j ⟨vs,ars,l⟩=(⟨vs,ars,b86 l 0 (nm b (j+1) cj4)⟩,j+1+1):=by
 unfold muD;rw[if_neg (by rw[List.nil_append]at h;show ¬l.length=0;omega),if_pos h1,Int.add_assoc];rfl
theorem ct5(h:¬(([]++l).length:Int)=0)(h1:pk b j 60=1):muD b j ⟨vs,ars,l⟩=(⟨vs,ars,bL3 l (pk b (j+1) l.length).toNat (nm b (j+1+1) cj3)⟩,j+1+1+1):=by
 unfold muD;rw[if_neg (by rw[List.nil_append]at h;show ¬l.length=0;omega),if_neg al,if_pos h1,Int.add_assoc j 1 1,Int.add_assoc];rfl
theorem ct4(h:¬(([]++l).length:Int)=0)(h1:pk b j 60=2):muD b j ⟨vs,ars,l⟩=(⟨vs,ars,([]++l).set ((([]++l).length:Int)-1).toNat ⟨12,0,0,0,0⟩⟩,j+1):=by
 unfold muD;rw[if_neg (by rw[List.nil_append]at h;show ¬l.length=0;omega),if_neg al,if_neg al,if_pos h1]
 rw[List.nil_append]at h ⊢
 exact congrArg (fun i=>((⟨vs,ars,l.set i _⟩:c8),j+1)) (by show l.length-1=_;omega)
theorem ct3(h:¬(([]++l).length:Int)=0)(h1:pk b j 60=3):muD b j ⟨vs,ars,l⟩=(⟨vs,ars,([]++l).set ((([]++l).length:Int)-1).toNat ⟨8,0,0,0,0⟩⟩,j+1):=by
 unfold muD;rw[if_neg (by rw[List.nil_append]at h;show ¬l.length=0;omega),if_neg al,if_neg al,if_neg al,if_pos h1]
 rw[List.nil_append]at h ⊢
 exact congrArg (fun i=>((⟨vs,ars,l.set i _⟩:c8),j+1)) (by show l.length-1=_;omega)
theorem ct2(h:¬(([]++l).length:Int)=0)(h1:pk b j 60=4):muD b j ⟨vs,ars,l⟩=(⟨vs,ars,b87 l (pk b (j+1) l.length).toNat (nm b (j+1+1) cj2)⟩,j+1+1+1):=by
 unfold muD;rw[if_neg (by rw[List.nil_append]at h;show ¬l.length=0;omega),if_neg al,if_neg al,if_neg al,if_neg al,if_pos h1,Int.add_assoc j 1 1,Int.add_assoc];rfl
theorem ct1(h:¬(([]++l).length:Int)=0)(h1:pk b j 60=5):muD b j ⟨vs,ars,l⟩=(⟨[],ars,l⟩,j+1):=by
 unfold muD;rw[if_neg (by rw[List.nil_append]at h;show ¬l.length=0;omega),if_neg al,if_neg al,if_neg al,if_neg al,if_neg al,if_pos h1]
theorem cs8(h:¬(([]++l).length:Int)=0)(h1:¬pk b j 60=0/\¬pk b j 60=1/\¬pk b j 60=2/\¬pk b j 60=3/\¬pk b j 60=4/\¬pk b j 60=5):muD b j ⟨vs,ars,l⟩=(⟨[]++vs,[]++ars,[]++l⟩,j+1):=by
 unfold muD;rw[if_neg (by rw[List.nil_append]at h;show ¬l.length=0;omega),if_neg al,if_neg al,if_neg al,if_neg al,if_neg al,if_neg al]
 rfl
theorem cs7(h:¬(([]++l).length:Int)=0)(r0:0<=j)(r1:j<=100000000):0<=pk b (j+1) (([]++l).length:Int)/\pk b (j+1) (([]++l).length:Int)<(([]++l).length:Int):=b91 b al al al
end
abbrev Z8(b:List UInt8)(j:Int)(vs:List Int)(ars:List Int)(l:List d8):List It:=[.box [.ref 1,iA (muD b j (c8.mk vs ars l)).snd],dY b,dI vs,dI ars,dN l,.row 3 (D.ints (muD b j (c8.mk vs ars l)).fst.vars),.row 3 (D.ints (muD b j (c8.mk vs ars l)).fst.arrays),.row 76 (D.instrs (muD b j (c8.mk vs ars l)).fst.list)]
abbrev b35(b:List UInt8)(j:Int)(l:List d8):It:=.row 76 (D.instrs (([]++l).set (pk b (j+1) (([]++l).length:Int)).toNat (d8.mk (([]++l).getD (pk b (j+1) (([]++l).length:Int)).toNat cv2).op (nm b (j+1+1) ([-1]++([14]++([0]++([400]++[]))))) (([]++l).getD (pk b (j+1) (([]++l).length:Int)).toNat cv2).b (([]++l).getD (pk b (j+1) (([]++l).length:Int)).toNat cv2).c (([]++l).getD (pk b (j+1) (([]++l).length:Int)).toNat cv2).d)))
abbrev b34(b:List UInt8)(j:Int)(l:List d8):It:=.row 76 (D.instrs (([]++l).set (pk b (j+1) (([]++l).length:Int)).toNat (d8.mk (([]++l).getD (pk b (j+1) (([]++l).length:Int)).toNat cv2).op (([]++l).getD (pk b (j+1) (([]++l).length:Int)).toNat cv2).a (([]++l).getD (pk b (j+1) (([]++l).length:Int)).toNat cv2).b (([]++l).getD (pk b (j+1) (([]++l).length:Int)).toNat cv2).c (nm b (j+1+1) ([1]++([-1]++[]))))))
abbrev av7:It:=.box [.v (.slice none 0 0),.v (.slice none 0 0),.v (.slice none 0 0)]
abbrev b33(b:List UInt8)(j:Int)(l:List d8):It:=.row 76 (D.instrs (([]++l).set 0 (d8.mk (nm b (j+1) ([0]++([14]++([1]++([12]++[]))))) (([]++l).getD 0 cv2).a (([]++l).getD 0 cv2).b (([]++l).getD 0 cv2).c (([]++l).getD 0 cv2).d)))
abbrev ad7(vs:List Int)(ars:List Int)(r0:List It):List It:=.row 3 (D.ints ([]++vs))::.row 3 (D.ints ([]++ars))::r0
theorem aS8(b:List UInt8)(j:Int)(vs ars:List Int)(l:List d8)(hb:vs.length<=1048576/\ars.length<=1048576/\l.length<=9000000)(r0:0<=j)(r1:j<=100000000):j8.ok Tryz.prog (muC b j vs ars l):=by
  refine H9 82 Tryz.func58 [.box [.ref 1,iA j],dY b,dI vs,dI ars,dN l] [(0,.ptr 0 0),(1,pA 2)] fun G=>?_
  have hmp:=fun(h:¬(([]++l).length:Int)=0)=>cs7 (b:=b) (j:=j) (l:=l) h r0 r1
  have hll:([]++l).length<=9000000:=hb.2.2;refine wp_seq (j9 G f8 [0,1,2,3,4,5,13] [.box [.ref 1,iA j],dY b,dI vs,dI ars,dN l,.box (pL 2),av7] [(0,.ptr 0 0),(3,.ptr 5 0),(4,.ptr 6 0)] fun G=>b6 (wp_seq (S8 G f8 [0,0,2,7,0,0,32,127,0,0,512,2047,4095,0,16383] [0,1,2,3,4,6,31,63,95,111] (.box [.ref 1,iA j]::dY b::dI vs::dI ars::dN l::av7::(ad7 vs ars [.row 76 (D.instrs ([]++l)),.box (pL 6)])) [(0,.ptr 0 0),(4,.ptr 5 0),(5,.ptr 9 0)] (aP ((0:Nat)+vs.length) 8 (aP ((0:Nat)+ars.length) 8 (aP ((0:Nat)+l.length) 40 []))) (aK al (aK al (aK al cx2))) fun G=>b6 (wp_seq (l8 G f8 [(6,iA (([]++l).length:Int))] fun G=>b6 (wp_seq (wp_seq (l8 G f8 [(24,bA ((([]++l).length:Int)==0))] fun G=>b6 (S4 G (fun h0 q0=>?_) fun h0 q0=>?_)))))))))
  ·
   refine wp_skip (b6 (wp_seq (wp_seq (j9 G (w6 1 [0,1] (D7 b j 60 ai al)) (rg 10) (.box [.ref 1,iA (j+1)]::dY b::dI vs::dI ars::dN l::av7::(ad7 vs ars [.row 76 (D.instrs ([]++l)),.box (pL 6)])) [(0,.ptr 0 0),(4,.ptr 5 0),(5,.ptr 9 0),(6,iA (([]++l).length:Int)),(27,iA (pk b j 60))] fun G=>b6 (wp_block (wp_seq (l8 G f8 [(28,bA (pk b j 60==0))] fun G=>b6 (S4 G (fun h1 q1=>?_) fun h1 q1=>?_))))))))
   ·
    refine wp_seq (l8 G f8 [(37,bA (pk b j 60==1))] fun G=>b6 (S4 G (fun h2 q2=>?_) fun h2 q2=>?_))
    ·
     refine wp_seq (l8 G f8 [(49,bA (pk b j 60==2))] fun G=>b6 (S4 G (fun h3 q3=>?_) fun h3 q3=>?_))
     ·
      refine wp_seq (l8 G f8 [(57,bA (pk b j 60==3))] fun G=>b6 (S4 G (fun h4 q4=>?_) fun h4 q4=>?_))
      ·
       refine wp_seq (l8 G f8 [(65,bA (pk b j 60==4))] fun G=>b6 (S4 G (fun h5 q5=>?_) fun h5 q5=>?_))
       ·
        refine wp_seq (l8 G f8 [(77,bA (pk b j 60==5))] fun G=>b6 (S4 G (fun h6 q6=>?_) fun h6 q6=>?_))
        · refine wp_skip (p8 (b6 (wp_seq (j9 G f8 (rg 9) (.box [.ref 1,iA (j+1)]::dY b::dI vs::dI ars::dN l::.box (pL 6)::(ad7 vs ars [.row 76 (D.instrs ([]++l))])) [(4,.ptr 5 0)] fun G=>b6 (wp_ret ?_)))));exact O8 G [0,1,2,3,4,6,7,8] (by show _=mR [0,1,2,3,4,6,7,8] (Z8 b j vs ars l);unfold Z8;rw[cs8 al al]<;>rfl)
        refine j9 G f8 [0,1,2,3,4,5,7,8,9,10] [.box [.ref 1,iA (j+1)],dY b,dI vs,dI ars,dN l,av7,.row 3 (D.ints ([]++ars)),.row 76 (D.instrs ([]++l)),.box [.ref 9,.ref 6,.ref 7],.row 3 (D.ints [])] [(4,.ptr 5 0),(5,.ptr 8 0)] fun G=>p8 (b6 (wp_seq (j9 G f8 [0,1,2,3,4,5,6,7,9] [.box [.ref 1,iA (j+1)],dY b,dI vs,dI ars,dN l,.box [.ref 8,.ref 6,.ref 7],.row 3 (D.ints ([]++ars)),.row 76 (D.instrs ([]++l)),.row 3 (D.ints [])] [(4,.ptr 5 0)] fun G=>b6 (wp_ret ?_))));exact O8 G [0,1,2,3,4,8,6,7] (by show _=mR [0,1,2,3,4,8,6,7] (Z8 b j vs ars l);unfold Z8;rw[ct1 al al]<;>rfl)
       refine S8 G (I2 (v9 4 [0,1] (D7 b (j+1) ((([]++l).length:Int)) al al) (v9 7 [0,1,58] (j8.lend (T6 b (j+1+1) ([1]++([-1]++[])) (by simp[h0,h1,h2,h3,h4,h5]) al al) [.no,.no,.row 3]) I1)) fz []) [0,1,0,0,12,0,0,124,255,511,1023] (rg 10) (.box [.ref 1,iA (j+1+1+1)]::dY b::dI vs::dI ars::dN l::av7::(ad7 vs ars [b34 b j l,.box (pL 6)])) [(4,.ptr 5 0),(5,.ptr 9 0)] (iX (pk b (j+1) (([]++l).length:Int)) ((pk b (j+1) (([]++l).length:Int)).toNat) (([]++l).length) []) (iK al cx2) fun G=>p8 (b6 (wp_seq (j9 G f8 (rg 9) (.box [.ref 1,iA (j+1+1+1)]::dY b::dI vs::dI ars::dN l::.box (pL 6)::(ad7 vs ars [b34 b j l])) [(4,.ptr 5 0)] fun G=>b6 (wp_ret ?_))));exact O8 G [0,1,2,3,4,6,7,8] (by show _=mR [0,1,2,3,4,6,7,8] (Z8 b j vs ars l);unfold Z8;rw[ct2 al al]<;>rfl)
      refine rA1 G f8 (rg 10) (.box [.ref 1,iA (j+1)]::dY b::dI vs::dI ars::dN l::av7::(ad7 vs ars [.row 76 (D.instrs (([]++l).set ((([]++l).length:Int)-1).toNat (d8.mk 8 0 0 0 0))),.box (pL 6)])) [(4,.ptr 5 0),(5,.ptr 9 0)] ((wO ((([]++l).length:Int)-1))::(iX ((([]++l).length:Int)-1) (((([]++l).length:Int)-1).toNat) (([]++l).length) [])) ⟨oW al,(iK al cx2)⟩ fun G=>p8 (b6 (wp_seq (j9 G f8 (rg 9) (.box [.ref 1,iA (j+1)]::dY b::dI vs::dI ars::dN l::.box (pL 6)::(ad7 vs ars [.row 76 (D.instrs (([]++l).set ((([]++l).length:Int)-1).toNat (d8.mk 8 0 0 0 0)))])) [(4,.ptr 5 0)] fun G=>b6 (wp_ret ?_))));exact O8 G [0,1,2,3,4,6,7,8] (by show _=mR [0,1,2,3,4,6,7,8] (Z8 b j vs ars l);unfold Z8;rw[ct3 al al]<;>rfl)
     refine rA1 G f8 (rg 10) (.box [.ref 1,iA (j+1)]::dY b::dI vs::dI ars::dN l::av7::(ad7 vs ars [.row 76 (D.instrs (([]++l).set ((([]++l).length:Int)-1).toNat (d8.mk 12 0 0 0 0))),.box (pL 6)])) [(4,.ptr 5 0),(5,.ptr 9 0)] ((wO ((([]++l).length:Int)-1))::(iX ((([]++l).length:Int)-1) (((([]++l).length:Int)-1).toNat) (([]++l).length) [])) ⟨oW al,(iK al cx2)⟩ fun G=>p8 (b6 (wp_seq (j9 G f8 (rg 9) (.box [.ref 1,iA (j+1)]::dY b::dI vs::dI ars::dN l::.box (pL 6)::(ad7 vs ars [.row 76 (D.instrs (([]++l).set ((([]++l).length:Int)-1).toNat (d8.mk 12 0 0 0 0)))])) [(4,.ptr 5 0)] fun G=>b6 (wp_ret ?_))));exact O8 G [0,1,2,3,4,6,7,8] (by show _=mR [0,1,2,3,4,6,7,8] (Z8 b j vs ars l);unfold Z8;rw[ct4 al al]<;>rfl)
    refine S8 G (I2 (v9 4 [0,1] (D7 b (j+1) ((([]++l).length:Int)) al al) (v9 7 [0,1,58] (j8.lend (T6 b (j+1+1) ([-1]++([14]++([0]++([400]++[])))) (by simp[h0,h1,h2]) al al) [.no,.no,.row 3]) I1)) fz []) [0,1,0,0,12,0,0,124,255,511,1023] (rg 10) (.box [.ref 1,iA (j+1+1+1)]::dY b::dI vs::dI ars::dN l::av7::(ad7 vs ars [b35 b j l,.box (pL 6)])) [(4,.ptr 5 0),(5,.ptr 9 0)] (iX (pk b (j+1) (([]++l).length:Int)) ((pk b (j+1) (([]++l).length:Int)).toNat) (([]++l).length) []) (iK al cx2) fun G=>p8 (b6 (wp_seq (j9 G f8 (rg 9) (.box [.ref 1,iA (j+1+1+1)]::dY b::dI vs::dI ars::dN l::.box (pL 6)::(ad7 vs ars [b35 b j l])) [(4,.ptr 5 0)] fun G=>b6 (wp_ret ?_))));exact O8 G [0,1,2,3,4,6,7,8] (by show _=mR [0,1,2,3,4,6,7,8] (Z8 b j vs ars l);unfold Z8;rw[ct5 al al]<;>rfl)
   refine S8 G (w6 4 [0,1,34] (j8.lend (T6 b (j+1) ([0]++([14]++([1]++([12]++[])))) (by simp[h0,h1]) al al) [.no,.no,.row 3])) [0,1,0,0,12,31,63,127] (rg 10) (.box [.ref 1,iA (j+1+1)]::dY b::dI vs::dI ars::dN l::av7::(ad7 vs ars [b33 b j l,.box (pL 6)])) [(4,.ptr 5 0),(5,.ptr 9 0)] (iX 0 0 (([]++l).length) []) (iK al cx2) fun G=>p8 (b6 (wp_seq (j9 G f8 (rg 9) (.box [.ref 1,iA (j+1+1)]::dY b::dI vs::dI ars::dN l::.box (pL 6)::(ad7 vs ars [b33 b j l])) [(4,.ptr 5 0)] fun G=>b6 (wp_ret ?_))));exact O8 G [0,1,2,3,4,6,7,8] (by show _=mR [0,1,2,3,4,6,7,8] (Z8 b j vs ars l);unfold Z8;rw[ct6 al al]<;>rfl)
  refine wp_seq (j9 G f8 (rg 10) (.box [.ref 1,iA j]::dY b::dI vs::dI ars::dN l::.box (pL 6)::(ad7 vs ars [.row 76 (D.instrs ([]++l)),.box (pL 6)])) [(0,.ptr 0 0),(4,.ptr 5 0),(5,.ptr 9 0),(6,iA (([]++l).length:Int))] fun G=>b6 (wp_ret (l7 ?_)));exact O8 G [0,1,2,3,4,6,7,8] (by show _=mR [0,1,2,3,4,6,7,8] (Z8 b j vs ars l);unfold Z8;rw[cs9 al]<;>rfl)
abbrev tyC(b:List UInt8)(j:Int):j8:=⟨38,[.ptr 0 0],[.box [.ref 1,iA j],dY b],[.box [.ref 1,iA ((R9 b j).2+1)],dY b]++oP (W7 b j),oA 2⟩
section
variable{b:List UInt8}{j:Int}
theorem cp3(h:pk b (R9 b j).2 4=0):W7 b j=O5 b j:=if_pos h
theorem cp2(h:¬pk b (R9 b j).2 4=0)(h2:okI (O5 b j)=true):W7 b j=ak5 (O5 b j):=by rw[W7,if_neg h,if_pos h2]
theorem cp1(h:¬pk b (R9 b j).2 4=0)(h2:okI (O5 b j)=false):W7 b j=O5 b j:=by rw[W7,if_neg h,if_neg (by rw[h2];decide)]
end
abbrev aW1(b:List UInt8)(j:Int):List It:=[.box [.ref 1,iA ((R9 b j).snd+1)],dY b,.row 3 (D.ints (W7 b j).vars),.row 3 (D.ints (W7 b j).arrays),.tree (D.stmts (W7 b j).body)]
abbrev bt2:It:=.box [.v (.slice none 0 0),.v (.slice none 0 0),.v (.slice none 0 0)]
abbrev aL1:It:=.box [.ref 3,.ref 4,.tref 5]
abbrev aV9(b:List UInt8)(j:Int)(r0:List It):List It:=.row 3 (D.ints (O5 b j).vars)::.row 3 (D.ints (O5 b j).arrays)::.tree (D.stmts (O5 b j).body)::r0
theorem a02(b:List UInt8)(j:Int)(r0:0<=j)(r1:j<=10000000):j8.ok Tryz.prog (tyC b j):=by
  refine H9 20 Tryz.func38 [.box [.ref 1,iA j],dY b] [(0,.ptr 0 0)] fun G=>?_;have hk2:=bx5 b r0 r1;have hbd:=bz5 b r0 r1;have hsz:=bM0 b r0 r1;refine wp_seq (j9 G f8 [0,1,2] [.box [.ref 1,iA j],dY b,bt2] [(0,.ptr 0 0),(2,.ptr 2 0)] fun G=>b6 (wp_seq (j9 G (w6 1 [0,1] (aF9 b j ai ai)) [0,1,2,11,12,13,19] (.box [.ref 1,iA (R9 b j).snd]::dY b::bt2::(aV9 b j [aL1])) [(0,.ptr 0 0),(2,.ptr 2 0),(3,.ptr 6 0)] fun G=>b6 (wp_seq (wp_seq (j9 G (w6 1 [0,1] (D7 b ((R9 b j).snd) 4 al al)) (rg 7) (.box [.ref 1,iA ((R9 b j).snd+1)]::dY b::bt2::(aV9 b j [aL1])) [(2,.ptr 2 0),(3,.ptr 6 0),(10,bA (pk b (R9 b j).snd 4==0))] fun G=>b6 (S4 G (fun h0 q0=>?_) fun h0 q0=>?_)))))))
  ·
   refine wp_skip (b6 (wp_seq (j9 G (w6 1 [3,4,5] (j8.lend (aV4 (O5 b j) al) [.row 3,.row 3,.tree])) [0,1,2,3,4,5,6,15,16,17,47] (.box [.ref 1,iA ((R9 b j).snd+1)]::dY b::bt2::(aV9 b j [aL1,.row 3 (D.ints (ak5 (O5 b j)).vars),.row 3 (D.ints (ak5 (O5 b j)).arrays),.tree (D.stmts (ak5 (O5 b j)).body),.box [.ref 7,.ref 8,.tref 9]])) [(2,.ptr 2 0),(3,.ptr 6 0),(4,.ptr 10 0),(5,bA (okI (O5 b j)))] fun G=>b6 (wp_seq (wp_seq (l8 G f8 [(17,bA (okI (O5 b j)))] fun G=>b6 (rcB G (fun h1=>?_) fun h1=>?_)))))))
   · refine wp_skip (b6 (wp_seq (j9 G f8 (rg 6) (.box [.ref 1,iA ((R9 b j).snd+1)]::dY b::aL1::(aV9 b j [])) [(2,.ptr 2 0)] fun G=>b6 (wp_ret ?_))));exact O8 G [0,1,3,4,5] (by show _=mR [0,1,3,4,5] (aW1 b j);unfold aW1;rw[cp1 al ab]<;>rfl)
   refine wp_seq (j9 G f8 (rg 10) (.box [.ref 1,iA ((R9 b j).snd+1)]::dY b::.box [.ref 7,.ref 8,.tref 9]::(aV9 b j [aL1,.row 3 (D.ints (ak5 (O5 b j)).vars),.row 3 (D.ints (ak5 (O5 b j)).arrays),.tree (D.stmts (ak5 (O5 b j)).body)])) [(2,.ptr 2 0),(3,.ptr 6 0)] fun G=>b6 (wp_ret (l7 ?_)));exact O8 G [0,1,7,8,9] (by show _=mR [0,1,7,8,9] (aW1 b j);unfold aW1;rw[cp2 al ab]<;>rfl)
  refine wp_seq (j9 G f8 (rg 7) (.box [.ref 1,iA ((R9 b j).snd+1)]::dY b::aL1::(aV9 b j [aL1])) [(2,.ptr 2 0),(3,.ptr 6 0)] fun G=>b6 (wp_ret (l7 ?_)));exact O8 G [0,1,3,4,5] (by show _=mR [0,1,3,4,5] (aW1 b j);unfold aW1;rw[cp3 al]<;>rfl)
section
variable(vs ars:List Int)(bd:List c5)
end
abbrev fpC(b:List UInt8)(j:Int):j8:=⟨70,[.ptr 0 0],[.box [.ref 1,iA j],dY b],[.box [.ref 1,iA (J1 b 3 j).2],dY b]++oP (J1 b 3 j).1,oA 2⟩
theorem bR3{b:List UInt8}{j:Int}{i:Nat}(hi:i<3)(h:J1 b 3 j=J1 b (3-i) (Q7 b j i))(hn:¬((Y6 ⟨(W7 b (Q7 b j i)).vars,(W7 b (Q7 b j i)).arrays,(W7 b (Q7 b j i)).body⟩ false).1=0/\0<(W7 b (Q7 b j i)).body.length)):i+1<=3/\J1 b 3 j=J1 b (3-(i+1)) (Q7 b j (i+1)):=⟨hi,cl9 hi h hn⟩
theorem b04{b:List UInt8}{j:Int}{i:Nat}(hi:i<3)(h:J1 b 3 j=J1 b (3-i) (Q7 b j i))(hn:(Y6 ⟨(W7 b (Q7 b j i)).vars,(W7 b (Q7 b j i)).arrays,(W7 b (Q7 b j i)).body⟩ false).1=0/\0<(W7 b (Q7 b j i)).body.length):J1 b 3 j=(W7 b (Q7 b j i),(R9 b (Q7 b j i)).2+1):=cb8 hi h hn
theorem cb9{b:List UInt8}{j:Int}{i:Nat}(hi:i<3)(h:J1 b 3 j=J1 b (3-i) (Q7 b j i))(hn:¬((Y6 (W7 b (Q7 b j i)) false).1=0/\0<(W7 b (Q7 b j i)).body.length)):i+1<=3/\J1 b 3 j=J1 b (3-(i+1)) (Q7 b j (i+1)):=bR3 hi h hn
theorem tyb(b:List UInt8){j:Int}(h:0<=j)(h2:j<=10000000):i9 (W7 b j).body<=1048576/\(W7 b j).body.length<=1048576:=by
 have h1:=bk4 b h h2
 have h3:=N4 (W7 b j).body
 unfold f7.size at h1;omega
abbrev bt1(b:List UInt8)(j:Int):List It:=[.box [.ref 1,iA (J1 b 3 j).snd],dY b,.row 3 (D.ints (J1 b 3 j).fst.vars),.row 3 (D.ints (J1 b 3 j).fst.arrays),.tree (D.stmts (J1 b 3 j).fst.body)]
abbrev a93:It:=.box [.v (.slice none 0 0),.v (.slice none 0 0),.v (.slice none 0 0)]
theorem aF8(b:List UInt8)(j:Int)(r0:0<=j)(r1:j<=9000000):j8.ok Tryz.prog (fpC b j):=by
  refine H9 29 Tryz.func70 [.box [.ref 1,iA j],dY b] [(0,.ptr 0 0)] fun G=>?_;refine wp_seq (j9 G f8 [0,1,2] [.box [.ref 1,iA j],dY b,a93] [(0,.ptr 0 0),(2,.ptr 2 0)] fun G=>b6 (wp_seq (wp_seq (G3 G f8 [(0,.ptr 0 0),(2,.ptr 2 0),(3,iA 0)] fun G=>b6 (wp_block ?_)))));refine x6 (κ:=Nat) (fun i=>i<=3/\J1 b 3 j=J1 b (3-i) (Q7 b j i)) (fun i=>3-i) (fun i=>[.box [.ref 1,iA (Q7 b j i)],dY b,a93]) (fun i=>[(0,.ptr 0 0),(2,.ptr 2 0),(3,iA i)]) 0 (⟨cy4 _,rfl⟩) (x7.at G _ _) ?_;clear G;intro i ρ a w hp G;have hp:=hp;have hfj:=cl6 b r0 r1 i hp.1;have htb:=tyb b (j:=Q7 b j i) al al;refine wp_seq (wp_seq (l8 G f8 [(8,bA (decide ((i:Int)<3)))] fun G=>b6 (rcD G (fun h0 q0=>?_) fun h0 q0=>?_)))
  · refine wp_exit (v8 (v8 (v6 (b6 (wp_seq (j9 G (w6 1 [0,1] (a02 b (Q7 b j i) al al)) [0,1,2,11,12,13] [.box [.ref 1,iA ((R9 b (Q7 b j i)).snd+1)],dY b,.box [.ref 3,.ref 4,.tref 5],.row 3 (D.ints (W7 b (Q7 b j i)).vars),.row 3 (D.ints (W7 b (Q7 b j i)).arrays),.tree (D.stmts (W7 b (Q7 b j i)).body)] [(2,.ptr 2 0)] fun G=>b6 (wp_ret ?_)))))));exact O8 G [0,1,3,4,5] (by show _=mR [0,1,3,4,5] (bt1 b j);unfold bt1;rw[b03 (b:=b) (j:=j) (i:=i) al al hp.2]<;>rfl)
  refine wp_skip (b6 (wp_seq (wp_block (wp_seq (j9 G (w6 1 [0,1] (a02 b (Q7 b j i) al al)) [0,1,2,11,12,13,19] [.box [.ref 1,iA ((R9 b (Q7 b j i)).snd+1)],dY b,a93,.row 3 (D.ints (W7 b (Q7 b j i)).vars),.row 3 (D.ints (W7 b (Q7 b j i)).arrays),.tree (D.stmts (W7 b (Q7 b j i)).body),.box [.ref 3,.ref 4,.tref 5]] [(0,.ptr 0 0),(2,.ptr 2 0),(3,iA i),(4,.ptr 6 0)] fun G=>b6 (wp_seq (l8 G (w6 1 [3,4,5] (j8.lend (ab2 ((W7 b (Q7 b j i)).vars) ((W7 b (Q7 b j i)).arrays) ((W7 b (Q7 b j i)).body) al) [.row 3,.row 3,.tree])) [(5,iA (Y6 (f7.mk (W7 b (Q7 b j i)).vars (W7 b (Q7 b j i)).arrays (W7 b (Q7 b j i)).body) false).fst)] fun G=>b6 (wp_seq ?_))))))));cases h1:((Y6 (f7.mk (W7 b (Q7 b j i)).vars (W7 b (Q7 b j i)).arrays (W7 b (Q7 b j i)).body) false).fst==0)
  · have q1:=ne_of_beq_false h1;refine l8 G (K6 (fc h1 fz) (us [(3,6,0),(1007,1007,0)])) [(25,bA false)] fun G=>b6 (rF G false aj (wp_skip (p8 (b6 (rA1 G f8 [0,1,2] [.box [.ref 1,iA ((R9 b (Q7 b j i)).snd+1)],dY b,a93] [(0,.ptr 0 0),(2,.ptr 2 0),(3,iA ((i:Int)+1))] [wO ((i:Int)+1)] (o1 al) fun G=>b6 ?_)))));exact U5 G (i+1) (bR3 al hp.2 al) al [0,1,2]
  have q1:=eq_of_beq h1;refine l8 G (K6 (fc h1 fz) (us [(3,6,0),(1007,1007,0)])) [(25,bA (decide (((W7 b (Q7 b j i)).body.length:Int)>0)))] fun G=>b6 (rcD G (fun h2 q2=>?_) fun h2 q2=>?_)
  · refine wp_skip (p8 (b6 (rA1 G f8 [0,1,2] [.box [.ref 1,iA ((R9 b (Q7 b j i)).snd+1)],dY b,a93] [(0,.ptr 0 0),(2,.ptr 2 0),(3,iA ((i:Int)+1))] [wO ((i:Int)+1)] (o1 al) fun G=>b6 ?_)));exact U5 G (i+1) (cb9 al hp.2 al) al [0,1,2]
  refine wp_seq (j9 G f8 (rg 6) [.box [.ref 1,iA ((R9 b (Q7 b j i)).snd+1)],dY b,.box [.ref 3,.ref 4,.tref 5],.row 3 (D.ints (W7 b (Q7 b j i)).vars),.row 3 (D.ints (W7 b (Q7 b j i)).arrays),.tree (D.stmts (W7 b (Q7 b j i)).body)] [(0,.ptr 0 0),(2,.ptr 2 0),(3,iA i)] fun G=>b6 (wp_ret (B7 (l7 (l7 (B7 (l7 ?_)))))));exact O8 G [0,1,3,4,5] (by show _=mR [0,1,3,4,5] (bt1 b j);unfold bt1;rw[b04 (b:=b) (j:=j) (i:=i) al hp.2 al]<;>rfl)
theorem j8.dupPost{P:Program}{f:FuncId}{args:List AV}{pre S:List It}{d:D}{res res':AV}{i:Nat}(hc:j8.ok P ⟨f,args,pre,S,res⟩)(hi:S[i]? =some (.dat d))(hl:pre.length<=S.length)
  (hS:S.all (fun x=>ac6 S.length x.ids)=true) (hr:∀ρ:Nat->Value,ρ S.length=ρ i->res'.val ρ=res.val ρ) (hg:ac6 S.length res.ids=true):j8.ok P ⟨f,args,pre,S++[.dat d],res'⟩:=by
 intro ι φ ψ w0 w F ρ M
 refine(hc ι φ ψ w0 w F ρ M).mono ?_
 rintro x w' ⟨ρ1,h1,rfl,M1⟩
 have hi':t6 S i=.dat d:=by simp[t6,hi]
 have hlt:i<S.length:=(cw5.1 hi).1
 have hinv:Inv (t6 S) ρ1 [S.length]:=fun ρ' h j=>by
  by_cases hj:j<S.length
  ·refine It.res_congr _ (fun k hk=>h k ?_) (.inr (.inr (h j ah)))
   have h1:=G5 (cw3.1 hS (S[j]) (cx9 hj)) k (by simpa[t6,cv8,cv6 hj]using hk)
   simp;omega
  rw[show t6 S j=.none by simp only[t6,cv8,cy1 (Nat.le_of_not_lt hj)];rfl];rfl
 obtain⟨ρ2,h3,M2,h4⟩:=M1.newDat (id:=S.length) (by simp[t6]) hinv (M1.datAt hi')
 have e:p7 (t6 S) [(S.length,.dat d)]=t6 (S++[.dat d]):=by
  funext j
  simp only[p7,t6,cv8]
  by_cases hj:j=S.length
  ·subst hj;simp
  rw[if_neg hj]
  by_cases hj2:j<S.length
  ·rw[cw8 hj2]
  rw[cy1 al,cy1 ah]
 rw[e]at M2
 have hρ:ρ2 i=ρ1 i:=h3 i ah
 refine⟨ρ2,fun k hk=>by
  have hk:k<pre.length:=hk
  rw[h3 k ah];exact h1 k hk,?_,M2⟩
 rw[hr ρ2 (by rw[<-h4,hρ])]
 exact congrArg _ (AV.val_congr res fun k hk=>by
  have:=G5 hg k hk
  exact h3 k ah).symm
abbrev nlA:AV:=.v (.slice none 0 0)
abbrev qT(l:List c5):It:=.row 98 (.stmts l)
abbrev qI(l:List Int):It:=.row 3 (.ints l)
theorem bm0(vs ars:List Int)(d:Nat)(ih:∀(e:c6),i5 vs.length ars.length d e=true->j8.ok Tryz.prog (Y3 139 [.agg [.ref 0,.ref 1,nlA],eA e 2] ([dI vs,dI ars]++eS e) (iA (i8 vs ars d e))))
    (e:c6) (he:i5 vs.length ars.length (d+1) e=true):j8.ok Tryz.prog (Y3 139 [.agg [.ref 0,.ref 1,nlA],eA e 2] ([dI vs,dI ars]++eS e) (iA (i8 vs ars (d+1) e))):=by
  refine H9 42 Tryz.func139 [dI vs,dI ars,dE e.kids] [(0,.agg [.ref 0,.ref 1,.v (.slice none 0 0)]),(1,eA e 2)] fun G=>?_;refine wp_seq (j9 G f8 [0,1,2,3,11] [dI vs,dI ars,dE e.kids,.box [.ref 0,.ref 1,.v (.slice none 0 0)],.box (eL e 2)] [(2,.ptr 3 0),(3,.ptr 4 0),(4,iA 0)] fun G=>b6 (wp_seq (l8 G f8 [(5,iA 0)] fun G=>b6 (wp_seq (wp_seq (l8 G f8 [(8,iA e.kind)] fun G=>b6 (wp_block (wp_seq (l8 G f8 [(9,bA (e.kind==2))] fun G=>b6 (S4 G (fun h0 q0=>?_) fun h0 q0=>?_))))))))))
  ·
   refine wp_seq (l8 G f8 [(17,bA (e.kind==3))] fun G=>b6 (S4 G (fun h1 q1=>?_) fun h1 q1=>?_))
   ·
    refine wp_skip (p8 (b6 (wp_seq (wp_seq (G3 G f8 [(2,.ptr 3 0),(3,.ptr 4 0),(4,iA 0),(5,iA 0),(6,iA 0)] fun G=>b6 (wp_block ?_))))));refine x6 (κ:=Nat) (fun k=>k<=e.kids.length) (fun k=>e.kids.length-k) (fun k=>[dI vs,dI ars,dE e.kids,.box [.ref 0,.ref 1,.v (.slice none 0 0)],.box (eL e 2)]) (fun k=>[(2,.ptr 3 0),(3,.ptr 4 0),(4,iA 0),(5,iA (E8 vs ars d 0 e.kids k)),(6,iA k)]) 0 al (x7.at G _ _) ?_;clear G;intro k ρ a w hp G;have hlen:e.kids.length<=9223372036854775807:=G.len 2 (d:=.exprs e.kids) aj;refine wp_seq (wp_seq (G3 G f8 [(2,.ptr 3 0),(3,.ptr 4 0),(4,iA 0),(5,iA (E8 vs ars d 0 e.kids k)),(6,iA k),(29,bA (decide ((k:Int)<e.kids.length)))] fun G=>b6 (rcD G (fun h2 q2=>?_) fun h2 q2=>?_)))
    · refine wp_exit (v8 (v8 (v6 (b6 (wp_seq (j9 G f8 [0,1,2] [dI vs,dI ars,dE e.kids] [(4,iA (E8 vs ars d 0 e.kids k))] fun G=>b6 (wp_ret ?_)))))));exact rxI (E8 vs ars d 0 e.kids k) G [0,1,2] (ag7 al (by simp[aG7,h0,q0,h1,q1,h2,q2];done))
    refine wp_skip (b6 (wp_seq (wp_block (ak2 G (w6 7 [0,1,53] (ih (e.kids.getD k cv2) (ac1 he al))) [0,0,0,4,0,28,60,126,255,511] [(5,iA (l6 (E8 vs ars d 0 e.kids k) (i8 vs ars d (e.kids.getD k cv2))))] (iX k k e.kids.length []) (iK al cx2) fun G=>p8 (b6 (P4 G f8 [(6,iA ((k:Int)+1))] [wO ((k:Int)+1)] (o1 al) fun G=>b6 ?_))))));exact U5 G (k+1) al al (rg 5) (ht:=by have e1:(E8 vs ars d 0 e.kids (k+1):Int)=(l6 (E8 vs ars d 0 e.kids k) (i8 vs ars d (e.kids.getD k cv2))):=(ab7 al);(first|rw[e1]|simp only[e1])<;>rfl)
   refine P4 G f8 [(5,iA (ars.getD e.value.toNat 0))] [(0:Int)<=e.value,e.value<(ars.length:Int),e.value.toNat<ars.length] ⟨((aB1 he ai).1),((aB1 he ai).2.1),((aB1 he ai).2.2),cx2⟩ fun G=>p8 (b6 (wp_seq (wp_seq (G3 G f8 [(2,.ptr 3 0),(3,.ptr 4 0),(4,iA 0),(5,iA (ars.getD e.value.toNat 0)),(6,iA 0)] fun G=>b6 (wp_block ?_)))));refine x6 (κ:=Nat) (fun k=>k<=e.kids.length) (fun k=>e.kids.length-k) (fun k=>[dI vs,dI ars,dE e.kids,.box [.ref 0,.ref 1,.v (.slice none 0 0)],.box (eL e 2)]) (fun k=>[(2,.ptr 3 0),(3,.ptr 4 0),(4,iA 0),(5,iA (E8 vs ars d (ars.getD e.value.toNat 0) e.kids k)),(6,iA k)]) 0 al (x7.at G _ _) ?_;clear G;intro k ρ a w hp G;have hlen:e.kids.length<=9223372036854775807:=G.len 2 (d:=.exprs e.kids) aj;refine wp_seq (wp_seq (G3 G f8 [(2,.ptr 3 0),(3,.ptr 4 0),(4,iA 0),(5,iA (E8 vs ars d (ars.getD e.value.toNat 0) e.kids k)),(6,iA k),(29,bA (decide ((k:Int)<e.kids.length)))] fun G=>b6 (rcD G (fun h3 q3=>?_) fun h3 q3=>?_)))
   · refine wp_exit (v8 (v8 (v6 (b6 (wp_seq (j9 G f8 [0,1,2] [dI vs,dI ars,dE e.kids] [(4,iA (E8 vs ars d (ars.getD e.value.toNat 0) e.kids k))] fun G=>b6 (wp_ret ?_)))))));exact rxI (E8 vs ars d (ars.getD e.value.toNat 0) e.kids k) G [0,1,2] (ag7 al (by simp[aG7,h0,q0,h1,q1,h3,q3];done))
   refine wp_skip (b6 (wp_seq (wp_block (ak2 G (w6 7 [0,1,53] (ih (e.kids.getD k cv2) (ac1 he al))) [0,0,0,4,0,28,60,126,255,511] [(5,iA (l6 (E8 vs ars d (ars.getD e.value.toNat 0) e.kids k) (i8 vs ars d (e.kids.getD k cv2))))] (iX k k e.kids.length []) (iK al cx2) fun G=>p8 (b6 (P4 G f8 [(6,iA ((k:Int)+1))] [wO ((k:Int)+1)] (o1 al) fun G=>b6 ?_))))));exact U5 G (k+1) al al (rg 5) (ht:=by have e1:(E8 vs ars d (ars.getD e.value.toNat 0) e.kids (k+1):Int)=(l6 (E8 vs ars d (ars.getD e.value.toNat 0) e.kids k) (i8 vs ars d (e.kids.getD k cv2))):=(ab7 al);(first|rw[e1]|simp only[e1])<;>rfl)
  refine P4 G f8 [(5,iA (vs.getD e.value.toNat 0))] [(0:Int)<=e.value,e.value<(vs.length:Int),e.value.toNat<vs.length] ⟨((aB0 he ai).1),((aB0 he ai).2.1),((aB0 he ai).2.2),cx2⟩ fun G=>p8 (b6 (wp_seq (wp_seq (G3 G f8 [(2,.ptr 3 0),(3,.ptr 4 0),(4,iA 0),(5,iA (vs.getD e.value.toNat 0)),(6,iA 0)] fun G=>b6 (wp_block ?_)))));refine x6 (κ:=Nat) (fun k=>k<=e.kids.length) (fun k=>e.kids.length-k) (fun k=>[dI vs,dI ars,dE e.kids,.box [.ref 0,.ref 1,.v (.slice none 0 0)],.box (eL e 2)]) (fun k=>[(2,.ptr 3 0),(3,.ptr 4 0),(4,iA 0),(5,iA (E8 vs ars d (vs.getD e.value.toNat 0) e.kids k)),(6,iA k)]) 0 al (x7.at G _ _) ?_;clear G;intro k ρ a w hp G;have hlen:e.kids.length<=9223372036854775807:=G.len 2 (d:=.exprs e.kids) aj;refine wp_seq (wp_seq (G3 G f8 [(2,.ptr 3 0),(3,.ptr 4 0),(4,iA 0),(5,iA (E8 vs ars d (vs.getD e.value.toNat 0) e.kids k)),(6,iA k),(29,bA (decide ((k:Int)<e.kids.length)))] fun G=>b6 (rcD G (fun h4 q4=>?_) fun h4 q4=>?_)))
  · refine wp_exit (v8 (v8 (v6 (b6 (wp_seq (j9 G f8 [0,1,2] [dI vs,dI ars,dE e.kids] [(4,iA (E8 vs ars d (vs.getD e.value.toNat 0) e.kids k))] fun G=>b6 (wp_ret ?_)))))));exact rxI (E8 vs ars d (vs.getD e.value.toNat 0) e.kids k) G [0,1,2] (ag7 al (by simp[aG7,h0,q0,h4,q4];done))
  refine wp_skip (b6 (wp_seq (wp_block (ak2 G (w6 7 [0,1,53] (ih (e.kids.getD k cv2) (ac1 he al))) [0,0,0,4,0,28,60,126,255,511] [(5,iA (l6 (E8 vs ars d (vs.getD e.value.toNat 0) e.kids k) (i8 vs ars d (e.kids.getD k cv2))))] (iX k k e.kids.length []) (iK al cx2) fun G=>p8 (b6 (P4 G f8 [(6,iA ((k:Int)+1))] [wO ((k:Int)+1)] (o1 al) fun G=>b6 ?_))))));exact U5 G (k+1) al al (rg 5) (ht:=by have e1:(E8 vs ars d (vs.getD e.value.toNat 0) e.kids (k+1):Int)=(l6 (E8 vs ars d (vs.getD e.value.toNat 0) e.kids k) (i8 vs ars d (e.kids.getD k cv2))):=(ab7 al);(first|rw[e1]|simp only[e1])<;>rfl)
theorem aZ7(vs ars:List Int):∀(d:Nat) (e:c6),i5 vs.length ars.length d e=true->j8.ok Tryz.prog (Y3 139 [.agg [.ref 0,.ref 1,nlA],eA e 2] ([dI vs,dI ars]++eS e) (iA (i8 vs ars d e)))
 |0,_,h=>by simp[i5]at h
 |d+1,e,h=>bm0 vs ars d (aZ7 vs ars d) e h
theorem ad2(vs ars:List Int)(ky vy:Int)(ks:List c6)(h:i5 vs.length ars.length 5 ⟨ky,vy,ks⟩=true):j8.ok Tryz.prog (Y3 139 [.agg [.ref 0,.ref 1,nlA],.agg [iA ky,iA vy,.ref 2]] [dI vs,dI ars,dE ks] (iA (i8 vs ars 5 ⟨ky,vy,ks⟩))):=aZ7 vs ars 5 ⟨ky,vy,ks⟩ h
theorem L6(n:Int):j8.ok Tryz.prog ⟨178,[iA n],[],[dE []],.agg [iA 1,iA n,.ref 0]⟩:=by
 refine H9 5 Tryz.func178 [] [(0,iA n)] fun G=>?_;refine wp_seq (j9 G f8 [0] [.box [iA 0,iA 0,.v (.slice none 0 0)]] [(0,iA n),(2,.ptr 0 0)] fun G=>b6 (wp_seq (j9 G f8 [0] [.box [iA 1,iA n,.v (.slice none 0 0)]] [(2,.ptr 0 0)] fun G=>b6 (wp_ret ?_))));obtain⟨ρ,G⟩:=G.nil 1 0 (.exprs []) 9 [.box [iA 1,iA n,.ref 1]] [(2,.ptr 0 0)];obtain⟨ρ,G⟩:=G.frz [.no,.row 0] [.box [iA 1,iA n,.ref 1],dE []] [(2,.ptr 0 0)];exact O8 G [1]
theorem aq6(n:Int):j8.ok Tryz.prog ⟨138,[iA n],[],[dE []],.agg [iA 2,iA n,.ref 0]⟩:=by
 refine H9 5 Tryz.func138 [] [(0,iA n)] fun G=>?_;refine wp_seq (j9 G f8 [0] [.box [iA 0,iA 0,.v (.slice none 0 0)]] [(0,iA n),(2,.ptr 0 0)] fun G=>b6 (wp_seq (j9 G f8 [0] [.box [iA 2,iA n,.v (.slice none 0 0)]] [(2,.ptr 0 0)] fun G=>b6 (wp_ret ?_))));obtain⟨ρ,G⟩:=G.nil 1 0 (.exprs []) 9 [.box [iA 2,iA n,.ref 1]] [(2,.ptr 0 0)];obtain⟨ρ,G⟩:=G.frz [.no,.row 0] [.box [iA 2,iA n,.ref 1],dE []] [(2,.ptr 0 0)];exact O8 G [1]
theorem ah2(k:Int)(ks:List c6):j8.ok Tryz.prog ⟨179,[iA k,.ref 0],[.row 96 (.exprs ks)],[dE ks],.agg [iA k,iA 0,.ref 0]⟩:=by
 refine H9 8 Tryz.func179 [.row 96 (D.exprs ks)] [(0,iA k),(1,.ref 0)] fun G=>?_;refine wp_seq (j9 G f8 [0,1] [.row 96 (D.exprs ks),.box [iA 0,iA 0,.v (.slice none 0 0)]] [(0,iA k),(1,.ref 0),(4,.ptr 1 0)] fun G=>b6 (wp_seq (j9 G f8 [0,1] [.row 96 (D.exprs ks),.box [iA k,iA 0,.ref 0]] [(4,.ptr 1 0)] fun G=>b6 (wp_ret ?_))));obtain⟨ρ,G⟩:=G.frz [.row 96] [dE ks,.box [iA k,iA 0,.ref 0]] [(4,.ptr 1 0)];exact O8 G [0]
theorem az1(n ky vy:Int)(ks:List c6):j8.ok Tryz.prog ⟨142,[iA n,.agg [iA ky,iA vy,.ref 0]],[dE ks],[dE ks,dE [⟨ky,vy,ks⟩]],.agg [iA 3,iA n,.ref 1]⟩:=by
 refine H9 9 Tryz.func142 [dE ks] [(0,iA n),(1,.agg [iA ky,iA vy,.ref 0])] fun G=>?_;refine wp_seq (j9 G f8 [0,1,9] [dE ks,.box [iA ky,iA vy,.ref 0],.box [iA 0,iA 0,.v (.slice none 0 0)]] [(0,iA n),(3,.ptr 1 0),(4,.ptr 2 0)] fun G=>b6 (wp_seq (j9 G f8 [0,2,19] [dE ks,.box [iA 3,iA n,.ref 2],.row 96 (D.exprs ([c6.mk ky vy ks]++[]))] [(4,.ptr 1 0)] fun G=>b6 (wp_ret ?_))));obtain⟨ρ,G⟩:=G.frz [.no,.no,.row 96] [dE ks,.box [iA 3,iA n,.ref 2],dE ([c6.mk ky vy ks]++[])] [(4,.ptr 1 0)];exact O8 G [0,2]
theorem bz3(ky vy:Int)(ks:List c6)(k:Int):j8.ok Tryz.prog ⟨180,[.agg [iA ky,iA vy,.ref 0],iA k],[dE ks],[dE ks,dE (ak6 ⟨ky,vy,ks⟩ k).kids],.agg [iA 9,iA 0,.ref 1]⟩:=by
 refine H9 13 Tryz.func180 [dE ks] [(0,.agg [iA ky,iA vy,.ref 0]),(1,iA k)] fun G=>?_;refine wp_seq (j9 G f8 [0,1,9] [dE ks,.box [iA ky,iA vy,.ref 0],.box [iA 0,iA 0,.v (.slice none 0 0)]] [(1,iA k),(2,.ptr 1 0),(4,.ptr 2 0)] fun G=>b6 (wp_seq (ak3 G (I2 (v9 1 [] (L6 3) (v9 3 [19] (ah2 7 ([c6.mk ky vy ks]++([c6.mk 1 3 []]++[]))) (v9 5 [] (L6 k) (v9 7 [51] (ah2 9 ([c6.mk 7 0 ([c6.mk ky vy ks]++([c6.mk 1 3 []]++[]))]++([c6.mk 1 k []]++[]))) I1)))) fz []) [0,0,3,7,0,31,63,127,255] [0,2,51] [dE ks,.box [iA 9,iA 0,.ref 2],dE ([c6.mk 7 0 ([c6.mk ky vy ks]++([c6.mk 1 3 []]++[]))]++([c6.mk 1 k []]++[]))] [(4,.ptr 1 0)] fun G=>b6 (wp_ret ?_))));exact O8 G [0,2]
theorem cj6{m:Int}{e f:c6}(h:m<0):D9 m e f=e:=if_pos h
theorem cj5{m:Int}{e f:c6}(h:¬m<0):D9 m e f=seE (vrE m) e f:=if_neg h
theorem bB1(m k1 v1 k2 v2:Int)(s1 s2:List c6)(hm:m<0):j8.ok Tryz.prog ⟨137,[iA m,.agg [iA k1,iA v1,.ref 0],.agg [iA k2,iA v2,.ref 1]],[dE s1,dE s2],[dE s1,dE s2],.agg [iA k1,iA v1,.ref 0]⟩:=by
 refine H9 16 Tryz.func137 [dE s1,dE s2] [(0,iA m),(1,.agg [iA k1,iA v1,.ref 0]),(2,.agg [iA k2,iA v2,.ref 1])] fun G=>?_;refine wp_seq (j9 G f8 [0,1,2,10,18] [dE s1,dE s2,.box [iA k1,iA v1,.ref 0],.box [iA k2,iA v2,.ref 1],.box [iA 0,iA 0,.v (.slice none 0 0)]] [(0,iA m),(4,.ptr 2 0),(5,.ptr 3 0),(6,.ptr 4 0)] fun G=>b6 (wp_seq (wp_seq (G3 G f8 [(0,iA m),(4,.ptr 2 0),(5,.ptr 3 0),(6,.ptr 4 0),(8,bA (decide (m<0)))] fun G=>b6 ?_))));cases h0:(decide (m<0))
 ·have q0:=dFf h0;exact False.elim al
 have q0:=dTt h0;refine rT G _ h0 (wp_seq (j9 G f8 (rg 5) [dE s1,dE s2,.box [iA k1,iA v1,.ref 0],.box [iA k2,iA v2,.ref 1],.box [iA k1,iA v1,.ref 0]] [(0,iA m),(4,.ptr 2 0),(5,.ptr 3 0),(6,.ptr 4 0)] fun G=>b6 (wp_ret (l7 ?_))));exact O8 G [0,1]
theorem bB0(m k1 v1 k2 v2:Int)(s1 s2:List c6)(hm:¬m<0):j8.ok Tryz.prog ⟨137,[iA m,.agg [iA k1,iA v1,.ref 0],.agg [iA k2,iA v2,.ref 1]],[dE s1,dE s2],[dE s1,dE s2,dE (seE (vrE m) ⟨k1,v1,s1⟩ ⟨k2,v2,s2⟩).kids],.agg [iA 11,iA 0,.ref 2]⟩:=by
 refine H9 16 Tryz.func137 [dE s1,dE s2] [(0,iA m),(1,.agg [iA k1,iA v1,.ref 0]),(2,.agg [iA k2,iA v2,.ref 1])] fun G=>?_;refine wp_seq (j9 G f8 [0,1,2,10,18] [dE s1,dE s2,.box [iA k1,iA v1,.ref 0],.box [iA k2,iA v2,.ref 1],.box [iA 0,iA 0,.v (.slice none 0 0)]] [(0,iA m),(4,.ptr 2 0),(5,.ptr 3 0),(6,.ptr 4 0)] fun G=>b6 (wp_seq (wp_seq (G3 G f8 [(0,iA m),(4,.ptr 2 0),(5,.ptr 3 0),(6,.ptr 4 0),(8,bA (decide (m<0)))] fun G=>b6 ?_))));cases h0:(decide (m<0))
 ·have q0:=dFf h0;refine rF G _ h0 (wp_skip (b6 (wp_seq (ak3 G (I2 (v9 1 [] (aq6 m) (v9 5 [37] (ah2 11 ([c6.mk 2 m []]++([c6.mk k1 v1 s1]++([c6.mk k2 v2 s2]++[])))) I1)) fz []) [0,1,0,0,15,31,63] [0,1,4,37] [dE s1,dE s2,.box [iA 11,iA 0,.ref 3],dE ([c6.mk 2 m []]++([c6.mk k1 v1 s1]++([c6.mk k2 v2 s2]++[])))] [(6,.ptr 2 0)] fun G=>b6 (wp_ret ?_)))));exact O8 G [0,1,3]
 have q0:=dTt h0;exact False.elim al
theorem ao1(m k1 v1 k2 v2:Int)(s1 s2:List c6):j8.ok Tryz.prog ⟨137,[iA m,.agg [iA k1,iA v1,.ref 0],.agg [iA k2,iA v2,.ref 1]],[dE s1,dE s2],[dE s1,dE s2,dE (D9 m ⟨k1,v1,s1⟩ ⟨k2,v2,s2⟩).kids],.agg [iA (D9 m ⟨k1,v1,s1⟩ ⟨k2,v2,s2⟩).kind,iA (D9 m ⟨k1,v1,s1⟩ ⟨k2,v2,s2⟩).value,.ref 2]⟩:=by
 by_cases hm:m<0
 ·rw[cj6 hm]
  exact j8.dupPost (S:=[dE s1,dE s2]) (d:=.exprs s1) (i:=0) (bB1 m k1 v1 k2 v2 s1 s2 hm) rfl (cv7 _) rfl (fun ρ h=>by
   have h:ρ 2=ρ 0:=h
   simp only[AV.val,AV.vals,h];rfl) rfl
 rw[cj5 hm]
 exact bB0 m k1 v1 k2 v2 s1 s2 hm
theorem aq7(vs ars:List Int)(bd:List c5)(l:Int)(hl:vs.length<=8000000):j8.ok Tryz.prog ⟨177,[.agg [.ref 0,.ref 1,nlA,.ref 2],iA l],[qI vs,dI ars,qT bd],[qI vs,dI ars,qT bd,qI (vs++[l])],.tup [.agg [.ref 3,.ref 1,nlA,.ref 2],iA (vs.length:Int)]⟩:=by
 refine H9 22 Tryz.func177 [.row 3 (D.ints vs),dI ars,.row 98 (D.stmts bd)] [(0,.agg [.ref 0,.ref 1,.v (.slice none 0 0),.ref 2]),(1,iA l)] fun G=>?_;refine wp_seq (j9 G f8 [0,1,2,3,11] [.row 3 (D.ints vs),dI ars,.row 98 (D.stmts bd),.box [.ref 0,.ref 1,.v (.slice none 0 0),.ref 2],.box [.v (.slice none 0 0),.v (.slice none 0 0),.v (.slice none 0 0),.v (.slice none 0 0)]] [(1,iA l),(2,.ptr 3 0),(4,.ptr 4 0),(5,iA 0)] fun G=>b6 (wp_seq (rA1 G f8 [0,1,2,3,4,61] [.row 3 (D.ints vs),dI ars,.row 98 (D.stmts bd),.box [.ref 5,.ref 1,.v (.slice none 0 0),.ref 2],.box [.v (.slice none 0 0),.v (.slice none 0 0),.v (.slice none 0 0),.v (.slice none 0 0)],.row 3 (D.ints ([]++vs++([l]++[])))] [(2,.ptr 3 0),(4,.ptr 4 0),(5,iA 0)] (aP ((0:Nat)+vs.length) 8 (aP (([]++vs).length+1) 8 [])) (aK al (aK (by simp only[cv9,cw2,cw6];omega) cx2)) fun G=>b6 (wp_seq (S8 G f8 [0,0,2,6,14,30,1,127] [0,1,2,4,5] [.row 3 (D.ints vs),dI ars,.row 98 (D.stmts bd),.box [.ref 4,.ref 1,.v (.slice none 0 0),.ref 2],.row 3 (D.ints ([]++vs++([l]++[])))] [(4,.ptr 3 0),(5,iA ((([]++vs++([l]++[])).length:Int)-1))] [wO ((([]++vs++([l]++[])).length:Int)-1)] ⟨(w64 (by simp only[cv9,cw2,cw6];omega) (by simp only[cv9,cw2,cw6];omega)),cx2⟩ fun G=>b6 (wp_ret ?_))))));exact Z1 (.tup [.agg [.ref 4,.ref 1,.v (.slice none 0 0),.ref 2],iA ((([]++vs++([l]++[])).length:Int)-1)]) G [0,1,2,4] (by have e1:((vs.length:Int):Int)=((([]++vs++([l]++[])).length:Int)-1):=(by simp only[cv9,cw2,cw6];omega);(first|rw[e1]|simp only[e1])<;>rfl)
theorem V7(vs ars:List Int)(bd:List c5)(v ky vy:Int)(ks:List c6)(hl:bd.length<=800000):j8.ok Tryz.prog ⟨136,[.agg [.ref 0,.ref 1,nlA,.ref 2],iA v,.agg [iA ky,iA vy,.ref 3]],[qI vs,dI ars,qT bd,dE ks],[qI vs,dI ars,.dead,dE ks,qT (bd++[Z3 v ⟨ky,vy,ks⟩])],.agg [.ref 0,.ref 1,nlA,.ref 4]⟩:=by
 refine H9 16 Tryz.func136 [.row 3 (D.ints vs),dI ars,.row 98 (D.stmts bd),dE ks] [(0,.agg [.ref 0,.ref 1,.v (.slice none 0 0),.ref 2]),(1,iA v),(2,.agg [iA ky,iA vy,.ref 3])] fun G=>?_;refine wp_seq (j9 G f8 [0,1,2,3,4,12,20] [.row 3 (D.ints vs),dI ars,.row 98 (D.stmts bd),dE ks,.box [.ref 0,.ref 1,.v (.slice none 0 0),.ref 2],.box [iA ky,iA vy,.ref 3],.box [.v (.slice none 0 0),.v (.slice none 0 0),.v (.slice none 0 0),.v (.slice none 0 0)]] [(1,iA v),(3,.ptr 4 0),(5,.ptr 5 0),(6,.ptr 6 0)] fun G=>b6 (wp_seq (rA1 G f8 [0,1,2,3,4,6,55] [.row 3 (D.ints vs),dI ars,.dead,dE ks,.box [.ref 0,.ref 1,.v (.slice none 0 0),.ref 6],.box [.v (.slice none 0 0),.v (.slice none 0 0),.v (.slice none 0 0),.v (.slice none 0 0)],.row 98 (D.stmts (bd++([c5.mk 1 v (c6.mk 0 0 []) (c6.mk ky vy ks) 0 [] []]++[])))] [(3,.ptr 4 0),(6,.ptr 5 0)] (aP (bd.length+1) 152 []) (aK al cx2) fun G=>b6 (wp_seq (j9 G f8 [0,1,2,3,5,6] [.row 3 (D.ints vs),dI ars,.dead,dE ks,.box [.ref 0,.ref 1,.v (.slice none 0 0),.ref 5],.row 98 (D.stmts (bd++([c5.mk 1 v (c6.mk 0 0 []) (c6.mk ky vy ks) 0 [] []]++[])))] [(6,.ptr 4 0)] fun G=>b6 (wp_ret ?_))))));exact O8 G [0,1,2,3,5]
abbrev leC(ars:List Int)(pc:Int)(vs:List Int)(bd:List c5)(e:c6):j8:=⟨135,[.agg [.ref 0,.ref 1,nlA,.ref 2],eA e 3,iA pc],[qI vs,dI ars,qT bd,dE e.kids],[.dead,dI ars,.dead,dE e.kids,qI (d9 ars pc e (vs,bd)).1.1,qT (d9 ars pc e (vs,bd)).1.2,dE (d9 ars pc e (vs,bd)).2.kids],.tup [.agg [.ref 4,.ref 1,nlA,.ref 5],.agg [iA (d9 ars pc e (vs,bd)).2.kind,iA (d9 ars pc e (vs,bd)).2.value,.ref 6]]⟩
abbrev xE(ars:List Int)(pc:Int)(vs:List Int)(bd:List c5)(e:c6)(k:Nat):LnS×List c6:=z9 ars pc (e.kids.take k) (vs,bd)
section
variable{ars vs:List Int}{pc:Int}{bd:List c5}{e:c6}{d k:Nat}
theorem aA3(he:i5 vs.length ars.length (d+1) e=true)(k:Nat):Grw vs.length ars.length d (F9 (e.kids.take k)) (vs,bd) (xE ars pc vs bd e k).1:=by
 rw[i5]at he
 simp only[cv4,cw3]at he
 exact(bw9 (ars:=ars) (pc:=pc) (na:=ars.length) (d:=d) (fun e s h=>ap4 ars pc ars.length d e s h) (e.kids.take k) (vs,bd) fun x hx=>he.1.2 x (List.mem_of_mem_take hx)).1
theorem b66(he:i5 vs.length ars.length (d+1) e=true)(r1:vs.length+(1+B9 e)<=100000)(r2:i9 bd+40*(1+B9 e)<=700000)(k:Nat):(xE ars pc vs bd e k).1.1.length+1<=100000/\(xE ars pc vs bd e k).1.2.length+40<=700000/\vs.length<=(xE ars pc vs bd e k).1.1.length:=by
 have h:=aA3 (ars:=ars) (pc:=pc) (bd:=bd) he k
 have h1:=a27 e.kids k
 have h2:=N5 e
 have h3:=N4 (xE ars pc vs bd e k).1.2
 have a:=h.lo;have b:=h.hi;have c:=h.st
 simp only at a b c
 omega
theorem b65(he:i5 vs.length ars.length (d+1) e=true)(hk:k<e.kids.length):i5 (xE ars pc vs bd e k).1.1.length ars.length d (e.kids.getD k cv2)=true:=
 H1 (aA3 (pc:=pc) (bd:=bd) he k).lo d _ (ac1 he hk)
theorem ce6(he:i5 vs.length ars.length (d+1) e=true)(r1:vs.length+(1+B9 e)<=100000)(hk:k<e.kids.length):(xE ars pc vs bd e k).1.1.length+(1+B9 (e.kids.getD k cv2))<=100000:=by
 have h:=(aA3 (pc:=pc) (bd:=bd) he k).hi
 have h1:=(ao9 e.kids k).2.1 hk
 have h2:=N5 e
 simp only at h
 omega
theorem ce5(he:i5 vs.length ars.length (d+1) e=true)(r2:i9 bd+40*(1+B9 e)<=700000)(hk:k<e.kids.length):i9 (xE ars pc vs bd e k).1.2+40*(1+B9 (e.kids.getD k cv2))<=700000:=by
 have h:=(aA3 (pc:=pc) (bd:=bd) he k).st
 have h1:=(ao9 e.kids k).2.1 hk
 have h2:=N5 e
 simp only at h
 omega
theorem ce0(hk:k<e.kids.length):(xE ars pc vs bd e (k+1)).1.1=(d9 ars pc (e.kids.getD k cv2) ((xE ars pc vs bd e k).1.1,(xE ars pc vs bd e k).1.2)).1.1:=by unfold xE;rw[au3 hk]
theorem cd9(hk:k<e.kids.length):(xE ars pc vs bd e (k+1)).1.2=(d9 ars pc (e.kids.getD k cv2) ((xE ars pc vs bd e k).1.1,(xE ars pc vs bd e k).1.2)).1.2:=by unfold xE;rw[au3 hk]
theorem cd8(hk:k<e.kids.length):(xE ars pc vs bd e (k+1)).2=(xE ars pc vs bd e k).2++[⟨(d9 ars pc (e.kids.getD k cv2) ((xE ars pc vs bd e k).1.1,(xE ars pc vs bd e k).1.2)).2.kind,(d9 ars pc (e.kids.getD k cv2) ((xE ars pc vs bd e k).1.1,(xE ars pc vs bd e k).1.2)).2.value,(d9 ars pc (e.kids.getD k cv2) ((xE ars pc vs bd e k).1.1,(xE ars pc vs bd e k).1.2)).2.kids⟩]:=by unfold xE;rw[au3 hk,c6.eta]
theorem b64(k:Nat):(xE ars pc vs bd e k).2.length<=e.kids.length:=by
 have h:∀(ks:List c6) (s:LnS),(z9 ars pc ks s).2.length=ks.length:=by
  intro ks
  induction ks with
  |nil=>intro s;rfl
  |cons x r ih=>intro s;rw[z9,cw2,ih,cw2]
 unfold xE;rw[h,List.length_take];exact Nat.min_le_right _ _
theorem bH6(hk:e.kids.length<=k)(hn:¬(e.kind=3/\af2 (i8 (xE ars pc vs bd e k).1.1 ars 5 (e.kids.getD 0 cv2))=true)):d9 ars pc e (vs,bd)=((xE ars pc vs bd e k).1,⟨e.kind,e.value,(xE ars pc vs bd e k).2⟩):=by
 unfold xE at hn ⊢
 rw[cw7 hk]at hn ⊢
 rw[aP4,if_neg hn]
theorem b63(hk:e.kids.length<=k)(h3:e.kind=3)(hs:af2 (i8 (xE ars pc vs bd e k).1.1 ars 5 (e.kids.getD 0 cv2))=true):d9 ars pc e (vs,bd)=(((xE ars pc vs bd e k).1.1++[l6 (i8 (xE ars pc vs bd e k).1.1 ars 5 e) pc],(xE ars pc vs bd e k).1.2++rdL ((xE ars pc vs bd e k).1.1.length:Int) e.value (e.kids.getD 0 cv2) 3),vrE ((xE ars pc vs bd e k).1.1.length:Int)):=by
 unfold xE at hs ⊢
 rw[cw7 hk]at hs ⊢
 rw[aP4,if_pos ⟨h3,hs⟩]
abbrev kE(e:c6):c6:=⟨(e.kids.getD 0 cv2).kind,(e.kids.getD 0 cv2).value,(e.kids.getD 0 cv2).kids⟩
theorem bP5(e:c6):kE e=e.kids.getD 0 cv2:=c6.eta _
theorem ce3(he:i5 vs.length ars.length (d+1) e=true)(hd:d+1<=5)(h3:e.kind=3):i5 (xE ars pc vs bd e k).1.1.length ars.length 5 (kE e)=true:=by
 rw[bP5]
 have:=aN2 he h3
 exact ba9 al (H1 (aA3 (pc:=pc) (bd:=bd) he k).lo d _ (ac1 he this))
theorem ce4(he:i5 vs.length ars.length (d+1) e=true)(hd:d+1<=5):i5 (xE ars pc vs bd e k).1.1.length ars.length 5 ⟨e.kind,e.value,e.kids⟩=true:=by
 rw[c6.eta]
 exact ba9 hd (H1 (aA3 (pc:=pc) (bd:=bd) he k).lo (d+1) _ he)
theorem a22(hk:e.kids.length<=k)(hn:¬e.kind=3):d9 ars pc e (vs,bd)=((xE ars pc vs bd e k).1,⟨e.kind,e.value,(xE ars pc vs bd e k).2⟩):=bH6 hk fun h=>hn h.1
theorem a21(hk:e.kids.length<=k)(hs:(!(i7 (i8 (xE ars pc vs bd e k).1.1 ars 5 (kE e))&&decide (i8 (xE ars pc vs bd e k).1.1 ars 5 (kE e)%2=1)))=true):d9 ars pc e (vs,bd)=((xE ars pc vs bd e k).1,⟨e.kind,e.value,(xE ars pc vs bd e k).2⟩):=by
 rw[bP5,cy0]at hs
 exact bH6 hk fun h=>by
  have h5:=h.2
  unfold af2 at h5
  rw[hs]at h5;cases h5
theorem aI0(hk:e.kids.length<=k)(h3:e.kind=3)(hs:(!(i7 (i8 (xE ars pc vs bd e k).1.1 ars 5 (kE e))&&decide (i8 (xE ars pc vs bd e k).1.1 ars 5 (kE e)%2=1)))=false):d9 ars pc e (vs,bd)=(((xE ars pc vs bd e k).1.1++[l6 (i8 (xE ars pc vs bd e k).1.1 ars 5 ⟨e.kind,e.value,e.kids⟩) pc],(xE ars pc vs bd e k).1.2++rdL ((xE ars pc vs bd e k).1.1.length:Int) e.value (kE e) 3),vrE ((xE ars pc vs bd e k).1.1.length:Int)):=by
 rw[bP5]at hs ⊢
 rw[c6.eta]
 rw[cy2]at hs
 exact b63 hk h3 hs
theorem bV3{j:Nat}(hj:j=3)(hk:e.kids.length<=k)(h3:e.kind=3)(hs:(!(i7 (i8 (xE ars pc vs bd e k).1.1 ars 5 (kE e))&&decide (i8 (xE ars pc vs bd e k).1.1 ars 5 (kE e)%2=1)))=false):(d9 ars pc e (vs,bd)).1.2=(xE ars pc vs bd e k).1.2++rdL ((xE ars pc vs bd e k).1.1.length:Int) e.value (kE e) j:=by
 rw[hj,aI0 hk h3 hs]
theorem cq5{v a:Int}{i:c6}{j:Nat}:bd++rdL v a i (j+1)=bd++rdL v a i j++[Z3 v ⟨11,0,[⟨9,0,(ak6 i ((j:Int)+1)).kids⟩,⟨3,a,[⟨1,(j:Int)+1,[]⟩]⟩,⟨2,v,[]⟩]⟩]:=by
 rw[rdL,cA4];rfl
end
abbrev aA0(e:c6):=z4 (e.kids.getD 0 cv2)
abbrev a15(e:c6)(ars:List Int)(pc:Int)(vs:List Int)(bd:List c5)(k:Nat):=i8 (xE ars pc vs bd e k).fst.fst ars 5 (z4 e)
abbrev at4(e:c6)(ars:List Int)(pc:Int)(vs:List Int)(bd:List c5)(k:Nat):=d9 ars pc (e.kids.getD k cv2) (xE ars pc vs bd e k).fst
abbrev az9(e:c6)(ars:List Int)(pc:Int)(vs:List Int)(bd:List c5):List It:=[.dead,dI ars,.dead,dE e.kids,.row 3 (D.ints (d9 ars pc e (vs,bd)).fst.fst),.row 98 (D.stmts (d9 ars pc e (vs,bd)).fst.snd),dE (d9 ars pc e (vs,bd)).snd.kids]
abbrev ac0:It:=.box [.v (.slice none 0 0),.v (.slice none 0 0),.v (.slice none 0 0),.v (.slice none 0 0)]
abbrev Y8:It:=.box [iA 0,iA 0,.v (.slice none 0 0)]
abbrev aL0(e:c6)(ars:List Int)(pc:Int)(vs:List Int)(bd:List c5)(k:Nat):It:=.row 3 (D.ints ((xE ars pc vs bd e k).fst.fst++[l6 (a15 e ars pc vs bd k) pc]))
abbrev al1:It:=.box [.ref 8,.ref 1,.v (.slice none 0 0),.ref 9]
abbrev I4(r0:List (Nat×AV)):List (Nat×AV):=(3,.ptr 4 0)::(4,.ptr 5 0)::(6,.ptr 6 0)::(7,.ptr 7 0)::r0
abbrev at1(e:c6)(ars:List Int)(pc:Int)(vs:List Int)(bd:List c5)(k:Nat)(r0:List It):List It:=.row 3 (D.ints (xE ars pc vs bd e k).fst.fst)::.row 98 (D.stmts (xE ars pc vs bd e k).fst.snd)::r0
abbrev aK3(e:c6)(ars:List Int)(r0:List It):List It:=.dead::dI ars::.dead::dE e.kids::.box [.ref 9,.ref 1,.v (.slice none 0 0),.ref 10]::.box (eL e 3)::r0
abbrev bj9(r0:List It):List It:=.box [.v (.slice none 0 0),.v (.slice none 0 0),.v (.slice none 0 0),.v (.slice none 0 0)]::.box [iA 0,iA 0,.v (.slice none 0 0)]::r0
theorem bK0(e:c6)(ars:List Int)(pc:Int)(d:Nat)(hd:d+1<=5)(ih:∀(u:c6),u∈e.kids->∀(vs:List Int) (bd:List c5),i5 vs.length ars.length d u=true->vs.length+(1+B9 u)<=100000->i9 bd+40*(1+B9 u)<=700000->j8.ok Tryz.prog (leC ars pc vs bd u))
    (vs:List Int) (bd:List c5) (he:i5 vs.length ars.length (d+1) e=true) (r1:vs.length+(1+B9 e)<=100000) (r2:i9 bd+40*(1+B9 e)<=700000):j8.ok Tryz.prog (leC ars pc vs bd e):=by
  refine H9 102 Tryz.func135 [.row 3 (D.ints vs),dI ars,.row 98 (D.stmts bd),dE e.kids] [(0,.agg [.ref 0,.ref 1,.v (.slice none 0 0),.ref 2]),(1,eA e 3),(2,iA pc)] fun G=>?_
  have hlen:e.kids.length<=B9 e:=by cases e;exact aw2 _
  have hb:=b66 (ars:=ars) (pc:=pc) (bd:=bd) he r1 r2;refine wp_seq (j9 G f8 [0,1,2,3,4,12,20,28] [.row 3 (D.ints vs),dI ars,.row 98 (D.stmts bd),dE e.kids,.box [.ref 0,.ref 1,.v (.slice none 0 0),.ref 2],.box (eL e 3),ac0,Y8] ((2,iA pc)::(I4 [])) fun G=>b6 (wp_seq (j9 G f8 [0,1,2,3,4,5,6,7,48] [.row 3 (D.ints vs),dI ars,.row 98 (D.stmts bd),dE e.kids,.box [.ref 0,.ref 1,.v (.slice none 0 0),.ref 2],.box (eL e 3),ac0,Y8,.box [iA e.kind,iA e.value,.v (.slice none 0 0)]] ((2,iA pc)::(I4 [(8,.ptr 8 0)])) fun G=>b6 (wp_seq (wp_seq (G3 G f8 ((2,iA pc)::(I4 [(8,.ptr 8 0),(9,iA 0)])) fun G=>b6 (wp_block ?_)))))));obtain⟨ρ,G⟩:=G.shift 0 9 (.dead::dI ars::.row 98 (D.stmts bd)::dE e.kids::.box [.ref 9,.ref 1,.v (.slice none 0 0),.ref 2]::.box (eL e 3)::(bj9 [.box [iA e.kind,iA e.value,.v (.slice none 0 0)],.row 3 (D.ints vs)])) ((2,iA pc)::(I4 [(8,.ptr 8 0),(9,iA 0)]));obtain⟨ρ,G⟩:=G.shift 2 10 (aK3 e ars (bj9 [.box [iA e.kind,iA e.value,.v (.slice none 0 0)],.row 3 (D.ints vs),.row 98 (D.stmts bd)])) ((2,iA pc)::(I4 [(8,.ptr 8 0),(9,iA 0)]));obtain⟨ρ,G⟩:=G.nil 11 96 (.exprs []) 9 (aK3 e ars (bj9 [.box (eL e 11),.row 3 (D.ints vs),.row 98 (D.stmts bd)])) ((2,iA pc)::(I4 [(8,.ptr 8 0),(9,iA 0)]));refine x6 (κ:=Nat) (fun k=>k<=e.kids.length) (fun k=>e.kids.length-k) (fun k=>[.dead,dI ars,.dead,dE e.kids,.box [.ref 9,.ref 1,.v (.slice none 0 0),.ref 10],.box (eL e 3),.box [.v (.slice none 0 0),.v (.slice none 0 0),.v (.slice none 0 0),.v (.slice none 0 0)],.box [iA 0,iA 0,.v (.slice none 0 0)],.box (eL e 11),.row 3 (.ints (xE ars pc vs bd e k).1.1),.row 98 (.stmts (xE ars pc vs bd e k).1.2),.row 96 (.exprs (xE ars pc vs bd e k).2)]) (fun k=>[(2,iA pc),(3,.ptr 4 0),(4,.ptr 5 0),(6,.ptr 6 0),(7,.ptr 7 0),(8,.ptr 8 0),(9,iA k)]) 0 al (x7.at G _ _) ?_;clear G;intro k ρ a w hp G;replace G:=x7.at G (aK3 e ars (ac0::Y8::.box (eL e 11)::(at1 e ars pc vs bd k [.row 96 (D.exprs (xE ars pc vs bd e k).snd)]))) ((2,iA pc)::(I4 [(8,.ptr 8 0),(9,iA k)]));have hbk:=hb k;have hxl:=b64 (ars:=ars) (pc:=pc) (vs:=vs) (bd:=bd) (e:=e) k;refine wp_seq (wp_seq (l8 G f8 [(22,bA (decide ((k:Int)<e.kids.length)))] fun G=>b6 (rcD G (fun h0 q0=>?_) fun h0 q0=>?_)))
  ·
   refine wp_exit (v8 (v8 (v6 (b6 (wp_seq (wp_seq ?_))))));cases h1:(e.kind !=3)
   ·
    have q1:=bne_eq_false_iff_eq.1 h1;refine ak2 G (I2 (v9 10 [9,1,84] (j8.lend (ad2 ((xE ars pc vs bd e k).fst.fst) ars ((e.kids.getD 0 cv2).kind) ((e.kids.getD 0 cv2).value) ((e.kids.getD 0 cv2).kids) (ce3 he hd al)) [.row 3]) (v9 11 [] (L8 (i8 (xE ars pc vs bd e k).fst.fst ars 5 (aA0 e))) I1)) (fc h1 fz) (us [(4,12,0),(1013,1013,0)])) [0,1,3,7,15,31,15,79,207,463,1023,2047,4095,8191] [(56,.v (.bool !(i7 (i8 (xE ars pc vs bd e k).fst.fst ars 5 (aA0 e))&&decide (i8 (xE ars pc vs bd e k).fst.fst ars 5 (aA0 e)%2=1))))] (iX 0 0 e.kids.length []) (iK (by have:=aN2 he al;omega) cx2) fun G=>b6 ?_;cases h2:(!(i7 (i8 (xE ars pc vs bd e k).fst.fst ars (5:Nat) (z4 (e.kids.getD (0:Nat) cv2)))&&decide (i8 (xE ars pc vs bd e k).fst.fst ars (5:Nat) (z4 (e.kids.getD (0:Nat) cv2))%(2:Int)=1)))
    ·
     have q2:((i7 (i8 (xE ars pc vs bd e k).fst.fst ars 5 (z4 (e.kids.getD 0 cv2))))=true)/\(i8 (xE ars pc vs bd e k).fst.fst ars 5 (z4 (e.kids.getD 0 cv2))%2=1):=(fun hq=>And.imp (fun hq=>(hq)) (fun hq=>of_decide_eq_true hq) (Bool.and_eq_true_iff.1 hq)) (Eq.mp (cy2 _) h2);refine rF G _ h2 (wp_skip (b6 (wp_seq (j9 G f8 [0,1,2,3,4,5,6,7,9,10] (.dead::dI ars::.dead::dE e.kids::al1::.box (eL e 3)::ac0::Y8::(at1 e ars pc vs bd k [])) ((2,iA pc)::(I4 [(11,iA 0)])) fun G=>b6 (wp_seq (ak3 G (I2 (v9 4 [8,1,3] (j8.lend (ad2 ((xE ars pc vs bd e k).fst.fst) ars e.kind e.value e.kids (ce4 he hd)) [.row 3]) (v9 7 [8,1,9] (aq7 ((xE ars pc vs bd e k).fst.fst) ars ((xE ars pc vs bd e k).fst.snd) (l6 (a15 e ars pc vs bd k) pc) al) I1)) fz []) [0,0,2,0,14,0,62,127,255,511,511,1023,4095] [0,1,2,3,4,5,6,7,9,66] [.dead,dI ars,.dead,dE e.kids,.box [.ref 9,.ref 1,.v (.slice none 0 0),.ref 8],.box (eL e 3),ac0,Y8,.row 98 (D.stmts (xE ars pc vs bd e k).fst.snd),aL0 e ars pc vs bd k] (I4 [(11,iA ((xE ars pc vs bd e k).fst.fst.length:Int))]) fun G=>b6 (wp_seq (ak3 G (I2 (v9 4 [] (L6 0) (v9 5 [42] (az1 e.value 1 0 ([])) (v9 6 [9,1,8,50] (V7 ((xE ars pc vs bd e k).fst.fst++[l6 (a15 e ars pc vs bd k) pc]) ars ((xE ars pc vs bd e k).fst.snd) (((xE ars pc vs bd e k).fst.fst.length:Int)) 3 e.value ([c6.mk 1 0 []]) al) I1))) fz []) [0,0,0,4,0,28,63,127] [0,1,2,3,4,5,6,7,9,58] [.dead,dI ars,.dead,dE e.kids,al1,.box (eL e 3),ac0,Y8,aL0 e ars pc vs bd k,.row 98 (D.stmts ((xE ars pc vs bd e k).fst.snd++[Z3 ((xE ars pc vs bd e k).fst.fst.length:Int) (c6.mk 3 e.value [c6.mk 1 0 []])]))] (I4 [(11,iA ((xE ars pc vs bd e k).fst.fst.length:Int))]) fun G=>b6 (wp_seq (wp_seq (G3 G f8 (I4 [(11,iA ((xE ars pc vs bd e k).fst.fst.length:Int)),(12,iA 1)]) fun G=>b6 (wp_block ?_))))))))))));refine x6 (κ:=Nat) (fun j=>j<=3) (fun j=>3-j) (fun j=>[.dead,dI ars,.dead,dE e.kids,.box [.ref 8,.ref 1,.v (.slice none 0 0),.ref 9],.box (eL e 3),.box [.v (.slice none 0 0),.v (.slice none 0 0),.v (.slice none 0 0),.v (.slice none 0 0)],.box [iA 0,iA 0,.v (.slice none 0 0)],.row 3 (D.ints ((xE ars pc vs bd e k).fst.fst++[l6 (i8 (xE ars pc vs bd e k).fst.fst ars 5 (z4 e)) pc])),.row 98 (.stmts ((xE ars pc vs bd e k).1.2++rdL ((xE ars pc vs bd e k).1.1.length:Int) e.value (kE e) j))]) (fun j=>[(3,.ptr 4 0),(4,.ptr 5 0),(6,.ptr 6 0),(7,.ptr 7 0),(11,iA ((xE ars pc vs bd e k).fst.fst.length:Int)),(12,iA ((j:Int)+1))]) 0 al (x7.at G _ _) ?_
     clear G;intro j ρ a w hp G;replace G:=x7.at G [.dead,dI ars,.dead,dE e.kids,al1,.box (eL e 3),ac0,Y8,aL0 e ars pc vs bd k,.row 98 (D.stmts ((xE ars pc vs bd e k).fst.snd++rdL ((xE ars pc vs bd e k).fst.fst.length:Int) e.value (kE e) j))] (I4 [(11,iA ((xE ars pc vs bd e k).fst.fst.length:Int)),(12,iA ((j:Int)+1))]);refine wp_seq (wp_seq (l8 G f8 [(78,bA (decide ((j:Int)+1<4)))] fun G=>b6 (rcD G (fun h3 q3=>?_) fun h3 q3=>?_)))
     · refine wp_exit (v8 (v8 (v6 (b6 (wp_seq (ak3 G (w6 2 [] (aq6 (((xE ars pc vs bd e k).fst.fst.length:Int)))) [0,0,2,7,15] [0,1,2,3,6,7,8,9,26] [.dead,dI ars,.dead,dE e.kids,.box [.ref 6,.ref 1,.v (.slice none 0 0),.ref 7],.box [iA 2,iA ((xE ars pc vs bd e k).fst.fst.length:Int),.ref 8],aL0 e ars pc vs bd k,.row 98 (D.stmts ((xE ars pc vs bd e k).fst.snd++rdL ((xE ars pc vs bd e k).fst.fst.length:Int) e.value (kE e) j)),dE []] [(6,.ptr 4 0),(7,.ptr 5 0)] fun G=>b6 (wp_ret ?_)))))));exact Z1 (.tup [.agg [.ref 6,.ref 1,.v (.slice none 0 0),.ref 7],.agg [iA 2,iA ((xE ars pc vs bd e k).fst.fst.length:Int),.ref 8]]) G [0,1,2,3,6,7,8] (by have e1:((d9 ars pc e (vs,bd)).snd.kind:Int)=(2):=(by rw[aI0 (ars:=ars) (pc:=pc) (vs:=vs) (bd:=bd) (e:=e) (k:=k) al al ab];rfl);have e2:((d9 ars pc e (vs,bd)).snd.value:Int)=(((xE ars pc vs bd e k).fst.fst.length:Int)):=(by rw[aI0 (ars:=ars) (pc:=pc) (vs:=vs) (bd:=bd) (e:=e) (k:=k) al al ab];rfl);(first|rw[e1,e2]|simp only[e1,e2])<;>rfl) (by show _=mR [0,1,2,3,6,7,8] (az9 e ars pc vs bd);unfold az9;have e2:((d9 ars pc e (vs,bd)).fst.snd:List c5)=((xE ars pc vs bd e k).fst.snd++rdL ((xE ars pc vs bd e k).fst.fst.length:Int) e.value (kE e) j):=(bV3 (k:=k) (show j=3 by omega) al al ab);rw[e2,aI0 (ars:=ars) (pc:=pc) (vs:=vs) (bd:=bd) (e:=e) (k:=k) al al ab]<;>rfl)
     refine wp_skip (b6 (wp_seq (wp_block (S8 G (I2 (v9 7 [50] (bz3 ((e.kids.getD 0 cv2).kind) ((e.kids.getD 0 cv2).value) ((e.kids.getD 0 cv2).kids) ((j:Int)+1)) (v9 11 [] (L6 ((j:Int)+1)) (v9 12 [98] (az1 e.value 1 ((j:Int)+1) ([])) (v9 14 [] (aq6 (((xE ars pc vs bd e k).fst.fst.length:Int))) (v9 16 [130] (ah2 11 ([c6.mk 9 0 (ak6 (aA0 e) ((j:Int)+1)).kids]++([c6.mk 3 e.value [c6.mk 1 ((j:Int)+1) []]]++([c6.mk 2 ((xE ars pc vs bd e k).fst.fst.length:Int) []]++[])))) (v9 17 [8,1,9,130] (V7 ((xE ars pc vs bd e k).fst.fst++[l6 (a15 e ars pc vs bd k) pc]) ars ((xE ars pc vs bd e k).fst.snd++rdL ((xE ars pc vs bd e k).fst.fst.length:Int) e.value (kE e) j) (((xE ars pc vs bd e k).fst.fst.length:Int)) 11 0 ([c6.mk 9 0 (ak6 (aA0 e) ((j:Int)+1)).kids]++([c6.mk 3 e.value [c6.mk 1 ((j:Int)+1) []]]++([c6.mk 2 ((xE ars pc vs bd e k).fst.fst.length:Int) []]++[]))) (by simp only[cv9,cw2,cw6,a44];omega)) I1)))))) fz []) [0,0,0,4,12,28,0,124,0,256,0,1276,4092,0,16380,32764,65532,131071,262143] [0,1,2,3,4,5,6,7,8,146] [.dead,dI ars,.dead,dE e.kids,al1,.box (eL e 3),ac0,Y8,aL0 e ars pc vs bd k,.row 98 (D.stmts ((xE ars pc vs bd e k).fst.snd++rdL ((xE ars pc vs bd e k).fst.fst.length:Int) e.value (kE e) j++[Z3 ((xE ars pc vs bd e k).fst.fst.length:Int) (c6.mk 11 0 ([c6.mk 9 0 (ak6 (aA0 e) ((j:Int)+1)).kids]++([c6.mk 3 e.value [c6.mk 1 ((j:Int)+1) []]]++([c6.mk 2 ((xE ars pc vs bd e k).fst.fst.length:Int) []]++[]))))]))] (I4 [(11,iA ((xE ars pc vs bd e k).fst.fst.length:Int)),(12,iA ((j:Int)+1))]) (iX 0 0 e.kids.length []) (iK (by have:=aN2 he al;omega) cx2) fun G=>p8 (b6 (P4 G f8 [(12,iA ((j:Int)+1+1))] [wO ((j:Int)+1+1)] (o1 al) fun G=>b6 ?_))))));exact U5 G (j+1) al al (rg 10) (by have e1:((xE ars pc vs bd e k).fst.snd++rdL ((xE ars pc vs bd e k).fst.fst.length:Int) e.value (kE e) (j+1):List c5)=((xE ars pc vs bd e k).fst.snd++rdL ((xE ars pc vs bd e k).fst.fst.length:Int) e.value (kE e) j++[Z3 ((xE ars pc vs bd e k).fst.fst.length:Int) (c6.mk 11 0 ([c6.mk 9 0 (ak6 (z4 (e.kids.getD 0 cv2)) ((j:Int)+1)).kids]++([c6.mk 3 e.value [c6.mk 1 ((j:Int)+1) []]]++([c6.mk 2 ((xE ars pc vs bd e k).fst.fst.length:Int) []]++[]))))]):=cq5;(first|rw[e1]|simp only[e1])<;>rfl)
    have q2:((i7 (i8 (xE ars pc vs bd e k).fst.fst ars 5 (z4 (e.kids.getD 0 cv2))))=false)\/(¬(i8 (xE ars pc vs bd e k).fst.fst ars 5 (z4 (e.kids.getD 0 cv2))%2=1)):=(fun hq=>Or.imp (fun hq=>(hq)) (fun hq=>of_decide_eq_false hq) (Bool.and_eq_false_iff.1 hq)) (Eq.mp (cy0 _) h2);refine rT G _ h2 (wp_seq (ak3 G f8 [0,0,1,7] [0,1,2,3,4,5,6,7,9,10,11] (.dead::dI ars::.dead::dE e.kids::al1::.box (eL e 3)::al1::.box (eL e 10)::(at1 e ars pc vs bd k [.row 96 (D.exprs (xE ars pc vs bd e k).snd)])) ((2,iA pc)::(I4 [])) fun G=>b6 (wp_ret (l7 ?_))));obtain⟨ρ,G⟩:=G.frz [.no,.no,.no,.no,.no,.no,.no,.no,.no,.no,.row 96] (.dead::dI ars::.dead::dE e.kids::.box [.ref 8,.ref 1,.v (.slice none 0 0),.ref 9]::.box (eL e 3)::.box [.ref 8,.ref 1,.v (.slice none 0 0),.ref 9]::.box (eL e 10)::(at1 e ars pc vs bd k [dE (xE ars pc vs bd e k).snd])) ((2,iA pc)::(I4 []));exact Z1 (.tup [.agg [.ref 8,.ref 1,.v (.slice none 0 0),.ref 9],eA e 10]) G [0,1,2,3,8,9,10] (by have e1:((d9 ars pc e (vs,bd)).snd.kind:Int)=(e.kind):=(by rw[a21 (ars:=ars) (pc:=pc) (vs:=vs) (bd:=bd) (e:=e) (k:=k) al ab];rfl);have e2:((d9 ars pc e (vs,bd)).snd.value:Int)=(e.value):=(by rw[a21 (ars:=ars) (pc:=pc) (vs:=vs) (bd:=bd) (e:=e) (k:=k) al ab];rfl);(first|rw[e1,e2]|simp only[e1,e2])<;>rfl) (by show _=mR [0,1,2,3,8,9,10] (az9 e ars pc vs bd);unfold az9;rw[a21 (ars:=ars) (pc:=pc) (vs:=vs) (bd:=bd) (e:=e) (k:=k) al ab]<;>rfl)
   have q1:=bne_iff_ne.1 h1;refine bC0 G (K6 (fc h1 fz) (us [(4,12,0),(1013,1013,0)])) [0,1,3,7,15,31,15,79,207,463,1023,2047,4095,8191] [(56,bA true)] fun G=>b6 (rT G true aj (wp_seq (ak3 G f8 [0,0,1,7] [0,1,2,3,4,5,6,7,9,10,11] (.dead::dI ars::.dead::dE e.kids::al1::.box (eL e 3)::al1::.box (eL e 10)::(at1 e ars pc vs bd k [.row 96 (D.exprs (xE ars pc vs bd e k).snd)])) ((2,iA pc)::(I4 [])) fun G=>b6 (wp_ret (l7 ?_)))));obtain⟨ρ,G⟩:=G.frz [.no,.no,.no,.no,.no,.no,.no,.no,.no,.no,.row 96] (.dead::dI ars::.dead::dE e.kids::.box [.ref 8,.ref 1,.v (.slice none 0 0),.ref 9]::.box (eL e 3)::.box [.ref 8,.ref 1,.v (.slice none 0 0),.ref 9]::.box (eL e 10)::(at1 e ars pc vs bd k [dE (xE ars pc vs bd e k).snd])) ((2,iA pc)::(I4 []));exact Z1 (.tup [.agg [.ref 8,.ref 1,.v (.slice none 0 0),.ref 9],eA e 10]) G [0,1,2,3,8,9,10] (by have e1:((d9 ars pc e (vs,bd)).snd.kind:Int)=(e.kind):=(by rw[a22 (ars:=ars) (pc:=pc) (vs:=vs) (bd:=bd) (e:=e) (k:=k) al al];rfl);have e2:((d9 ars pc e (vs,bd)).snd.value:Int)=(e.value):=(by rw[a22 (ars:=ars) (pc:=pc) (vs:=vs) (bd:=bd) (e:=e) (k:=k) al al];rfl);(first|rw[e1,e2]|simp only[e1,e2])<;>rfl) (by show _=mR [0,1,2,3,8,9,10] (az9 e ars pc vs bd);unfold az9;rw[a22 (ars:=ars) (pc:=pc) (vs:=vs) (bd:=bd) (e:=e) (k:=k) al al]<;>rfl)
  refine wp_skip (b6 (wp_seq (wp_block (wp_seq (j9 G f8 [0,1,2,3,4,5,6,7,8,9,10,11,20] (aK3 e ars (ac0::Y8::.box (eL e 11)::(at1 e ars pc vs bd k [.row 96 (D.exprs (xE ars pc vs bd e k).snd),Y8]))) ((2,iA pc)::(I4 [(8,.ptr 8 0),(9,iA k),(10,.ptr 12 0)])) fun G=>b6 (wp_seq (S8 G (w6 7 [9,1,10,53] (ih (e.kids.getD k cv2) (ay6 al) ((xE ars pc vs bd e k).fst.fst) ((xE ars pc vs bd e k).fst.snd) (b65 he al) (ce6 he r1 al) (ce5 he r2 al))) [0,0,2,0,14,30,0,127,255,511,511,1023,4095] [0,1,2,3,4,5,6,7,8,11,12,69,70,71] [.dead,dI ars,.dead,dE e.kids,.box [.ref 11,.ref 1,.v (.slice none 0 0),.ref 12],.box (eL e 3),ac0,Y8,.box (eL e 9),.row 96 (D.exprs (xE ars pc vs bd e k).snd),.box (eL (at4 e ars pc vs bd k).snd 13),.row 3 (D.ints (at4 e ars pc vs bd k).fst.fst),.row 98 (D.stmts (at4 e ars pc vs bd k).fst.snd),dE (at4 e ars pc vs bd k).snd.kids] ((2,iA pc)::(I4 [(8,.ptr 8 0),(9,iA k),(10,.ptr 10 0)])) (iX k k e.kids.length []) (iK al cx2) fun G=>b6 (rA1 G f8 [0,1,2,3,4,5,6,7,8,11,12,46] (aK3 e ars [ac0,Y8,.box (eL e 11),.row 3 (D.ints (at4 e ars pc vs bd k).fst.fst),.row 98 (D.stmts (at4 e ars pc vs bd k).fst.snd),.row 96 (D.exprs ((xE ars pc vs bd e k).snd++([z4 (at4 e ars pc vs bd k).snd]++[])))]) ((2,iA pc)::(I4 [(8,.ptr 8 0),(9,iA k)])) (aP ((xE ars pc vs bd e k).snd.length+([z4 (d9 ars pc (e.kids.getD k cv2) (xE ars pc vs bd e k).fst).snd]++[]).length) 40 []) (aK (by simp only[cv9,cw2,cw6,a44];omega) cx2) fun G=>p8 (b6 (P4 G f8 [(9,iA ((k:Int)+1))] [wO ((k:Int)+1)] (o1 al) fun G=>b6 ?_))))))))));exact U5 G (k+1) al al (rg 12) (by have e1:((xE ars pc vs bd e (k+1)).fst.fst:List Int)=((d9 ars pc (e.kids.getD k cv2) (xE ars pc vs bd e k).fst).fst.fst):=(ce0 al);have e2:((xE ars pc vs bd e (k+1)).fst.snd:List c5)=((d9 ars pc (e.kids.getD k cv2) (xE ars pc vs bd e k).fst).fst.snd):=(cd9 al);have e3:((xE ars pc vs bd e (k+1)).snd:List c6)=((xE ars pc vs bd e k).snd++([z4 (d9 ars pc (e.kids.getD k cv2) (xE ars pc vs bd e k).fst).snd]++[])):=(cd8 al);(first|rw[e1,e2,e3]|simp only[e1,e2,e3])<;>rfl)
theorem bx3(ars:List Int)(pc:Int):∀(d:Nat),d<=5->∀(e:c6) (vs:List Int) (bd:List c5),i5 vs.length ars.length d e=true->vs.length+(1+B9 e)<=100000->i9 bd+40*(1+B9 e)<=700000->j8.ok Tryz.prog (leC ars pc vs bd e)
 |0,_,_,_,_,h,_,_=>by simp[i5]at h
 |d+1,hd,e,vs,bd,h,r1,r2=>bK0 e ars pc d hd (fun u _ vs bd h r1 r2=>bx3 ars pc d al u vs bd h r1 r2) vs bd h r1 r2
theorem bh6(ars:List Int)(pc:Int)(e:c6)(vs:List Int)(bd:List c5)(h:i5 vs.length ars.length 5 e=true)(r1:vs.length+(1+B9 e)<=100000)(r2:i9 bd+40*(1+B9 e)<=700000):j8.ok Tryz.prog (leC ars pc vs bd e):=bx3 ars pc 5 (cv7 _) e vs bd h r1 r2
theorem b10(e:c6)(hb:B9 e<=1048576):j8.ok Tryz.prog ⟨141,[eA e 0],eS e,eS e++[dE e.kids],.agg [iA e.kind,iA e.value,.ref 1]⟩:=
 j8.datPost (S:=eS e) (d:=.exprs e.kids) (a83 e hb) (.agg [iA e.kind,iA e.value,.ref 1])
theorem cp5{bd:List c5}{v t m:Int}{i:c6}{k:Nat}:bd++stL v t i m (k+1)=bd++stL v t i m k++[⟨2,t,⟨1,(k:Int),[]⟩,⟨11,0,[⟨(D9 m (ak6 i (k:Int)) (cnE 0)).kind,(D9 m (ak6 i (k:Int)) (cnE 0)).value,(D9 m (ak6 i (k:Int)) (cnE 0)).kids⟩,⟨2,v,[]⟩,⟨3,t,[⟨1,(k:Int),[]⟩]⟩]⟩,0,[],[]⟩]:=by
 rw[c6.eta,stL,cA4]
theorem cp4{bd:List c5}{v t m:Int}{i:c6}{k:Nat}(hk:k=4):bd++stL v t i m 4=bd++stL v t i m k:=by rw[hk]
abbrev ct7(ars vs:List Int)(bd:List c5)(m pc:Int)(t:c5)(e:c6):j8:=⟨140,[.agg [.ref 0,.ref 1,nlA,.ref 2],sA t 3,eA e 7,iA m,iA pc],[qI vs,dI ars,qT bd]++sS t++[dE e.kids],[qI vs,dI ars,.dead]++sS t++[dE e.kids,qI (vs++[l6 (i8 vs ars 5 ⟨e.kind,e.value,e.kids⟩) pc]),qT (bd++[Z3 (vs.length:Int) ⟨e.kind,e.value,e.kids⟩]++stL (vs.length:Int) t.target ⟨t.index.kind,t.index.value,t.index.kids⟩ m 4)],.agg [.ref 8,.ref 1,nlA,.ref 9]⟩
abbrev aK9(m:Int)(t:c5)(k:Nat):=D9 m (c6.mk 9 0 (ak6 (z4 t.index) (k:Int)).kids) (c6.mk 1 0 [])
abbrev a14(vs:List Int)(bd:List c5)(m:Int)(t:c5)(e:c6)(k:Nat):=bd++[Z3 (vs.length:Int) (z4 e)]++stL (vs.length:Int) t.target (z4 t.index) m k
abbrev bk1(ars:List Int)(vs:List Int)(pc:Int)(e:c6):=vs++[l6 (i8 vs ars 5 (z4 e)) pc]
abbrev bk0:It:=.box [.v (.slice none 0 0),.v (.slice none 0 0),.v (.slice none 0 0),.v (.slice none 0 0)]
abbrev b61:It:=.box [.ref 11,.ref 1,.v (.slice none 0 0),.ref 12]
abbrev aK2(ars:List Int)(vs:List Int)(pc:Int)(t:c5)(e:c6)(r0:List It):List It:=.row 3 (D.ints vs)::dI ars::.dead::dE t.index.kids::dE t.value.kids::dT t.body::dT t.els::dE e.kids::b61::.box (sL t 3)::bk0::.row 3 (D.ints (bk1 ars vs pc e))::r0
abbrev as9(vs:List Int)(m:Int)(r0:List (Nat×AV)):List (Nat×AV):=(3,iA m)::(5,.ptr 8 0)::(6,.ptr 9 0)::(10,.ptr 10 0)::(11,iA (vs.length:Int))::r0
abbrev az8(t:c5)(e:c6)(r0:List It):List It:=dE t.index.kids::dE t.value.kids::dT t.body::dT t.els::dE e.kids::r0
theorem bF2(ars vs:List Int)(bd:List c5)(m pc:Int)(t:c5)(e:c6)(he:i5 vs.length ars.length 5 ⟨e.kind,e.value,e.kids⟩=true)(r1:vs.length<=100000)(r2:bd.length<=700000):j8.ok Tryz.prog (ct7 ars vs bd m pc t e):=by
  refine H9 63 Tryz.func140 (.row 3 (D.ints vs)::dI ars::.row 98 (D.stmts bd)::(az8 t e [])) [(0,.agg [.ref 0,.ref 1,.v (.slice none 0 0),.ref 2]),(1,sA t 3),(2,eA e 7),(3,iA m),(4,iA pc)] fun G=>?_;refine wp_seq (j9 G f8 [0,1,2,3,4,5,6,7,8,16,24,32] (.row 3 (D.ints vs)::dI ars::.row 98 (D.stmts bd)::(az8 t e [.box [.ref 0,.ref 1,.v (.slice none 0 0),.ref 2],.box (sL t 3),.box (eL e 7),bk0])) [(3,iA m),(4,iA pc),(5,.ptr 8 0),(6,.ptr 9 0),(7,.ptr 10 0),(10,.ptr 11 0)] fun G=>b6 (wp_seq (l8 G f8 [(11,iA 0)] fun G=>b6 (wp_seq (ak3 G (I2 (v9 4 [0,1,7] (j8.lend (ad2 vs ars e.kind e.value e.kids ai) [.row 3]) (v9 7 [0,1,2] (aq7 vs ars bd (l6 (i8 vs ars 5 (z4 e)) pc) al) I1)) fz []) [0,0,2,0,14,0,62,127,255,511,511,1023,4095] [0,1,2,3,4,5,6,7,8,9,10,11,68] (.row 3 (D.ints vs)::dI ars::.row 98 (D.stmts bd)::(az8 t e [.box [.ref 12,.ref 1,.v (.slice none 0 0),.ref 2],.box (sL t 3),.box (eL e 7),bk0,.row 3 (D.ints (bk1 ars vs pc e))])) [(3,iA m),(5,.ptr 8 0),(6,.ptr 9 0),(7,.ptr 10 0),(10,.ptr 11 0),(11,iA (vs.length:Int))] fun G=>b6 (wp_seq (j9 G (w6 3 [12,1,2,7] (V7 (vs++[l6 (i8 vs ars 5 (z4 e)) pc]) ars bd ((vs.length:Int)) e.kind e.value e.kids al)) [0,1,2,3,4,5,6,7,8,9,11,12,37] (aK2 ars vs pc t e [.row 98 (D.stmts (bd++[Z3 (vs.length:Int) (z4 e)]))]) (as9 vs m []) fun G=>b6 (wp_seq (wp_seq (G3 G f8 (as9 vs m [(12,iA 0)]) fun G=>b6 (wp_block ?_)))))))))));replace G:=G.as (.row 3 (D.ints vs)::dI ars::.dead::(az8 t e [.box [.ref 11,.ref 1,.v (.slice none 0 0),.ref 12],.box (sL t 3),.box [.v (.slice none 0 0),.v (.slice none 0 0),.v (.slice none 0 0),.v (.slice none 0 0)],.row 3 (D.ints (vs++[l6 (i8 vs ars 5 (z4 e)) pc])),.row 98 (D.stmts (bd++[Z3 (vs.length:Int) (z4 e)]++stL (vs.length:Int) t.target (z4 t.index) m 0))])) (as9 vs m [(12,iA 0)]) (by have e1:(bd++[Z3 (vs.length:Int) (z4 e)]++stL (vs.length:Int) t.target (z4 t.index) m 0:List c5)=(bd++[Z3 (vs.length:Int) (z4 e)]):=(by simp only[stL,List.append_nil];done);(first|rw[e1]|simp only[e1])<;>rfl) aj;refine x6 (κ:=Nat) (fun k=>k<=4) (fun k=>4-k) (fun k=>[.row 3 (D.ints vs),dI ars,.dead,dE t.index.kids,dE t.value.kids,dT t.body,dT t.els,dE e.kids,.box [.ref 11,.ref 1,.v (.slice none 0 0),.ref 12],.box (sL t 3),.box [.v (.slice none 0 0),.v (.slice none 0 0),.v (.slice none 0 0),.v (.slice none 0 0)],.row 3 (D.ints (vs++[l6 (i8 vs ars 5 (z4 e)) pc])),.row 98 (.stmts (bd++[Z3 (vs.length:Int) ⟨e.kind,e.value,e.kids⟩]++stL (vs.length:Int) t.target ⟨t.index.kind,t.index.value,t.index.kids⟩ m k))]) (fun k=>[(3,iA m),(5,.ptr 8 0),(6,.ptr 9 0),(10,.ptr 10 0),(11,iA (vs.length:Int)),(12,iA k)]) 0 al (x7.at G _ _) ?_
  clear G;intro k ρ a w hp G;replace G:=x7.at G (aK2 ars vs pc t e [.row 98 (D.stmts (a14 vs bd m t e k))]) (as9 vs m [(12,iA k)]);refine wp_seq (wp_seq (l8 G f8 [(31,bA (decide ((k:Int)<4)))] fun G=>b6 (rcD G (fun h0 q0=>?_) fun h0 q0=>?_)))
  · refine wp_exit (v8 (v8 (v6 (b6 (wp_seq (j9 G f8 [0,1,2,3,4,5,6,7,10,11,12] (.row 3 (D.ints vs)::dI ars::.dead::(az8 t e [.box [.ref 9,.ref 1,.v (.slice none 0 0),.ref 10],.row 3 (D.ints (bk1 ars vs pc e)),.row 98 (D.stmts (a14 vs bd m t e k))])) [(10,.ptr 8 0)] fun G=>b6 (wp_ret ?_)))))));exact O8 G [0,1,2,3,4,5,6,7,9,10] (by show _=mR [0,1,2,3,4,5,6,7,9,10] (.row 3 (D.ints vs)::dI ars::.dead::(az8 t e [.row 3 (D.ints (vs++[l6 (i8 vs ars 5 (z4 e)) pc])),.row 98 (D.stmts (bd++[Z3 (vs.length:Int) (z4 e)]++stL (vs.length:Int) t.target (z4 t.index) m 4))]));have e1:(bd++[Z3 (vs.length:Int) (z4 e)]++stL (vs.length:Int) t.target (z4 t.index) m 4:List c5)=(bd++[Z3 (vs.length:Int) (z4 e)]++stL (vs.length:Int) t.target (z4 t.index) m k):=(cp4 (show k=4 by omega));(first|rw[e1]|simp only[e1])<;>rfl)
  refine wp_skip (b6 (wp_seq (wp_block (wp_seq (j9 G (I2 (v9 4 [3] (bz3 t.index.kind t.index.value t.index.kids ((k:Int))) (v9 5 [] (L6 0) (v9 6 [45,53] (ao1 m 9 0 1 0 ((ak6 (z4 t.index) (k:Int)).kids) ([])) I1))) fz []) [0,1,2,3,4,5,6,7,8,9,10,11,12,61,69] (aK2 ars vs pc t e [.row 98 (D.stmts (a14 vs bd m t e k)),dE (aK9 m t k).kids,.box [iA (aK9 m t k).kind,iA (aK9 m t k).value,.ref 13]]) (as9 vs m [(12,iA k),(13,.ptr 14 0)]) fun G=>b6 (wp_seq (ak3 G (I2 (v9 2 [] (aq6 ((vs.length:Int))) (v9 6 [] (L6 ((k:Int))) (v9 7 [63] (az1 t.target 1 ((k:Int)) ([])) (v9 9 [79] (ah2 11 ([z4 (D9 m (c6.mk 9 0 (ak6 (c6.mk t.index.kind t.index.value t.index.kids) (k:Int)).kids) (c6.mk 1 0 []))]++([c6.mk 2 (vs.length:Int) []]++([c6.mk 3 t.target [c6.mk 1 (k:Int) []]]++[])))) I1)))) fz []) [0,0,2,0,8,0,38,126,255,511,0,2047] [0,1,2,3,4,5,6,7,8,9,10,11,12,79,95] (aK2 ars vs pc t e [.row 98 (D.stmts (a14 vs bd m t e k)),dE ([z4 (aK9 m t k)]++([c6.mk 2 (vs.length:Int) []]++([c6.mk 3 t.target [c6.mk 1 (k:Int) []]]++[]))),.box [iA 11,iA 0,.ref 13]]) (as9 vs m [(12,iA k),(14,.ptr 14 0)]) fun G=>b6 (S8 G (w6 5 [] (L6 ((k:Int)))) [0,1,0,4,0,16,0,124,252,511,1023,2047] [0,1,2,3,4,5,6,7,8,9,10,11,87] (aK2 ars vs pc t e [.row 98 (D.stmts (bd++[Z3 (vs.length:Int) (z4 e)]++stL (vs.length:Int) t.target (z4 t.index) m k++([c5.mk 2 t.target (c6.mk 1 (k:Int) []) (c6.mk 11 0 ([z4 (aK9 m t k)]++([c6.mk 2 (vs.length:Int) []]++([c6.mk 3 t.target [c6.mk 1 (k:Int) []]]++[])))) 0 [] []]++[])))]) (as9 vs m [(12,iA k)]) (aP ((bd++[Z3 (vs.length:Int) (z4 e)]++stL (vs.length:Int) t.target (z4 t.index) m k).length+([c5.mk (2:Int) t.target (c6.mk (1:Int) (k:Int) []) (c6.mk (11:Int) (0:Int) ([z4 (D9 m (c6.mk (9:Int) (0:Int) (ak6 (c6.mk t.index.kind t.index.value t.index.kids) (k:Int)).kids) (c6.mk (1:Int) (0:Int) []))]++([c6.mk (2:Int) (vs.length:Int) []]++([c6.mk (3:Int) t.target [c6.mk (1:Int) (k:Int) []]]++[])))) (0:Int) [] []]++[]).length) 152 []) (aK (by simp only[cv9,cw2,cw6,bu7];omega) cx2) fun G=>?_))))))))
  refine p8 (b6 (P4 G f8 [(12,iA ((k:Int)+1))] [wO ((k:Int)+1)] (o1 al) fun G=>b6 ?_));exact U5 G (k+1) al al (rg 13) (by have e1:(bd++[Z3 (vs.length:Int) (z4 e)]++stL (vs.length:Int) t.target (z4 t.index) m (k+1):List c5)=(bd++[Z3 (vs.length:Int) (z4 e)]++stL (vs.length:Int) t.target (z4 t.index) m k++([c5.mk 2 t.target (c6.mk 1 (k:Int) []) (c6.mk 11 0 ([z4 (D9 m (c6.mk 9 0 (ak6 (c6.mk t.index.kind t.index.value t.index.kids) (k:Int)).kids) (c6.mk 1 0 []))]++([c6.mk 2 (vs.length:Int) []]++([c6.mk 3 t.target [c6.mk 1 (k:Int) []]]++[])))) 0 [] []]++[])):=cp5;(first|rw[e1]|simp only[e1])<;>rfl)
abbrev lbC(ars:List Int)(m pc:Int)(vs:List Int)(bd:List c5)(ss:List c5):j8:=⟨91,[.agg [.ref 0,.ref 1,nlA,.ref 3],.ref 2,iA m,iA pc],[qI vs,dI ars,dT ss,qT bd],[.dead,dI ars,dT ss,.dead,qI (m8 ars ss m pc (vs,bd)).1,qT (m8 ars ss m pc (vs,bd)).2],.agg [.ref 4,.ref 1,nlA,.ref 5]⟩
abbrev lnC(ars:List Int)(m pc:Int)(vs:List Int)(ss:List c5):j8:=⟨91,[.agg [.ref 0,.ref 1,nlA,nlA],.ref 2,iA m,iA pc],[qI vs,dI ars,dT ss],[.dead,dI ars,dT ss,qI (m8 ars ss m pc (vs,[])).1,qT (m8 ars ss m pc (vs,[])).2],.agg [.ref 3,.ref 1,nlA,.ref 4]⟩
abbrev bZ2(ars:List Int)(m pc:Int)(vs:List Int)(bd:List c5)(ss:List c5):j8:=⟨134,[.agg [.ref 0,.ref 1,nlA,.ref 2],.ref 3,iA m,iA pc],[qI vs,dI ars,qT bd,dT ss],[.dead,dI ars,qT bd,dT ss,qI (m8 ars ss m pc (vs,[])).1,dT (m8 ars ss m pc (vs,[])).2],.tup [.agg [.ref 4,.ref 1,nlA,.ref 2],.ref 5]⟩
theorem bB2(ars:List Int)(m pc:Int)(vs:List Int)(bd:List c5)(ss:List c5)(hB:j8.ok Tryz.prog (lnC ars m pc vs ss)):j8.ok Tryz.prog (bZ2 ars m pc vs bd ss):=by
 refine H9 25 Tryz.func134 [.row 3 (D.ints vs),dI ars,.row 98 (D.stmts bd),dT ss] [(0,.agg [.ref 0,.ref 1,.v (.slice none 0 0),.ref 2]),(1,.ref 3),(2,iA m),(3,iA pc)] fun G=>?_;refine wp_seq (j9 G f8 [0,1,2,3,4,12] [.row 3 (D.ints vs),dI ars,.row 98 (D.stmts bd),dT ss,.box [.ref 0,.ref 1,.v (.slice none 0 0),.ref 2],.box [.v (.slice none 0 0),.v (.slice none 0 0),.v (.slice none 0 0),.v (.slice none 0 0)]] [(1,.ref 3),(2,iA m),(3,iA pc),(4,.ptr 4 0),(8,.ptr 5 0),(9,.v (.slice none 0 0))] fun G=>b6 (wp_seq (j9 G (w6 6 [0,1,3] hB) [0,1,2,3,4,5,54,55,62] [.dead,dI ars,.row 98 (D.stmts bd),dT ss,.box [.ref 0,.ref 1,.v (.slice none 0 0),.ref 2],.box [.v (.slice none 0 0),.v (.slice none 0 0),.v (.slice none 0 0),.v (.slice none 0 0)],.row 3 (D.ints (m8 ars ss m pc (vs,[])).fst),.row 98 (D.stmts (m8 ars ss m pc (vs,[])).snd),.box [.ref 6,.ref 1,.v (.slice none 0 0),.ref 7]] [(4,.ptr 4 0),(8,.ptr 5 0),(9,.v (.slice none 0 0)),(10,.ptr 8 0)] fun G=>b6 (wp_seq (ak3 G f8 [0,1,0,4,15,0,32,31,255] [0,1,2,3,5,6,7] [.dead,dI ars,.row 98 (D.stmts bd),dT ss,.box [.ref 5,.ref 1,.v (.slice none 0 0),.ref 2],.row 3 (D.ints (m8 ars ss m pc (vs,[])).fst),.row 98 (D.stmts (m8 ars ss m pc (vs,[])).snd)] [(8,.ptr 4 0),(9,.ref 6)] fun G=>b6 (wp_ret ?_))))));obtain⟨ρ,G⟩:=G.frz [.no,.no,.no,.no,.no,.no,.row 98] [.dead,dI ars,.row 98 (D.stmts bd),dT ss,.box [.ref 5,.ref 1,.v (.slice none 0 0),.ref 2],.row 3 (D.ints (m8 ars ss m pc (vs,[])).fst),dT (m8 ars ss m pc (vs,[])).snd] [(8,.ptr 4 0),(9,.ref 6)];exact O8 G [0,1,2,3,5,6]
abbrev ck1(ars:List Int)(m pc:Int)(vs:List Int)(bd:List c5)(t:c5):j8:=⟨133,[.agg [.ref 0,.ref 1,nlA,.ref 2],sA t 3,iA m,iA pc],[qI vs,dI ars,qT bd]++sS t,[.dead,dI ars,.dead]++sS t++[qI (J2 ars t m pc (vs,bd)).1,qT (J2 ars t m pc (vs,bd)).2],.agg [.ref 7,.ref 1,nlA,.ref 8]⟩
section
variable{ars vs:List Int}{bd:List c5}{m pc:Int}{t:c5}{nv dd:Nat}
theorem bQ4(hh:F6 nv ars.length t=true)(k3:t.kind=3)(hv:nv<=vs.length):i5 vs.length ars.length 5 t.value=true:=H1 hv 5 _ (C1 hh al)
theorem ct9(hh:F6 nv ars.length t=true)(k3:t.kind=3)(hv:nv<=vs.length):Grw vs.length ars.length 5 (1+B9 t.value) (vs,bd) (d9 ars pc t.value (vs,bd)).1:=(ap4 ars pc ars.length 5 t.value (vs,bd) (bQ4 hh k3 hv)).1
theorem cb3(hh:F6 nv ars.length t=true)(k3:t.kind=3)(hv:nv<=vs.length)(r1:vs.length+4*(1+M8 t)<=90000)(r2:i9 bd+130*(1+M8 t)<=600000):(d9 ars pc t.value (vs,bd)).1.1.length+3*(1+B9 t.value)+4*i9 t.body+4*i9 t.els<=90000/\nv<=(d9 ars pc t.value (vs,bd)).1.1.length/\i9 (d9 ars pc t.value (vs,bd)).1.2+60*(1+B9 t.value)+130*i9 t.body+130*i9 t.els<=600000/\(d9 ars pc t.value (vs,bd)).1.2.length<=600000:=by
 have g:=ct9 (pc:=pc) (bd:=bd) hh k3 hv
 have a:=g.lo;have b:=g.hi;have c:=g.st
 have hsz:M8 t=B9 t.index+B9 t.value+i9 t.body+i9 t.els:=by cases t;rfl
 have:=N4 (d9 ars pc t.value (vs,bd)).1.2
 simp only at a b c
 omega
end
abbrev etE(e:c6):c6:=⟨e.kind,e.value,e.kids⟩
abbrev ifN(x:LnS×c6)(m l:Int):LnS:=(x.1.1++[l]++[l],x.1.2++[Z3 (x.1.1.length:Int) (etE (D9 m (etE x.2) ⟨1,0,[]⟩))]++[Z3 ((x.1.1++[l]).length:Int) (etE (D9 m ⟨9,0,[⟨2,(x.1.1.length:Int),[]⟩]++([⟨1,0,[]⟩]++[])⟩ ⟨1,0,[]⟩))])
theorem bQ5(x:LnS×c6)(m l:Int):ifN x m l=ifM x m l:=by
 unfold ifN ifM etE
 simp only[c6.eta]
 rfl
theorem cb4(x:LnS×c6)(m l:Int):i9 (ifM x m l).2<=i9 x.1.2+20+B9 x.2/\(ifM x m l).1.length=x.1.1.length+2:=by
 have m1:=ai4 m x.2 (cnE 0)
 have m2:=ai4 m ⟨9,0,[vrE (x.1.1.length:Int),cnE 0]⟩ (cnE 0)
 have m3:B9 ⟨9,0,[vrE (x.1.1.length:Int),cnE 0]⟩=2:=rfl
 have e0:B9 nnE=0:=rfl
 have e1:B9 (cnE 0)=0:=rfl
 constructor
 ·simp only[ifM,y9,i9,M8,e0];omega
 simp[ifM]
section
variable{ars vs:List Int}{bd:List c5}{m pc l:Int}{t:c5}{nv dd:Nat}
theorem ck5(hh:F6 nv ars.length t=true)(k3:t.kind=3)(hv:nv<=vs.length)(r1:vs.length+4*(1+M8 t)<=90000)(r2:i9 bd+130*(1+M8 t)<=600000):
  nv<=(ifN (d9 ars pc t.value (vs,bd)) m l).1.length/\(ifN (d9 ars pc t.value (vs,bd)) m l).1.length+4*i9 t.body+4*i9 t.els<=90000/\i9 (ifN (d9 ars pc t.value (vs,bd)) m l).2+130*i9 t.body+130*i9 t.els<=600000:=by
 have hb:=cb3 (pc:=pc) (bd:=bd) hh k3 hv r1 r2
 have hz:=cb4 (d9 ars pc t.value (vs,bd)) m l
 have h3:=(ap4 ars pc ars.length 5 t.value (vs,bd) (bQ4 hh k3 hv)).2.2
 rw[bQ5]
 omega
theorem ck4(hh:F6 nv ars.length t=true)(k3:t.kind=3)(hv:nv<=vs.length)(r1:vs.length+4*(1+M8 t)<=90000)(r2:i9 bd+130*(1+M8 t)<=600000):i9 (ifN (d9 ars pc t.value (vs,bd)) m l).2+130*i9 t.body<=600000:=by have:=(ck5 (m:=m) (l:=l) (pc:=pc) hh k3 hv r1 r2).2.2;omega
theorem cb2{u:Int}(hbb:t.body.all (j5 nv ars.length dd)=true)(hh:F6 nv ars.length t=true)(k3:t.kind=3)(hv:nv<=vs.length)(r1:vs.length+4*(1+M8 t)<=90000)(r2:i9 bd+130*(1+M8 t)<=600000):
  nv<=(m8 ars t.body u l (ifN (d9 ars pc t.value (vs,bd)) m l)).1.length/\(m8 ars t.body u l (ifN (d9 ars pc t.value (vs,bd)) m l)).1.length+4*i9 t.els<=90000/\i9 (m8 ars t.body u l (ifN (d9 ars pc t.value (vs,bd)) m l)).2+130*i9 t.els<=600000:=by
 have h:=ck5 (m:=m) (l:=l) (pc:=pc) hh k3 hv r1 r2
 have g:=a59 ars t.body u l (ifN (d9 ars pc t.value (vs,bd)) m l) hbb h.1
 have a:=g.lo;have b:=g.hi;have c:=g.st
 omega
theorem ck6(hbb:t.body.all (j5 nv ars.length dd)=true)(hh:F6 nv ars.length t=true)(k3:t.kind=3)(hv:nv<=vs.length)(r1:vs.length+4*(1+M8 t)<=90000)(r2:i9 bd+130*(1+M8 t)<=600000):
  nv<=(m8 ars t.body m l ((d9 ars pc t.value (vs,bd)).1.1,[])).1.length/\(m8 ars t.body m l ((d9 ars pc t.value (vs,bd)).1.1,[])).1.length+4*i9 t.els<=90000:=by
 have hb:=cb3 (pc:=pc) (bd:=bd) hh k3 hv r1 r2
 have g:=a59 ars t.body m l ((d9 ars pc t.value (vs,bd)).1.1,[]) hbb hb.2.1
 have a:=g.lo;have b:=g.hi
 simp only at a b
 omega
abbrev lbV(ars vs:List Int)(pc:Int)(t:c5):Int:=l6 pc (i8 vs ars 5 (etE t.value))
theorem ck8(k3:t.kind=3)(h:(!(i7 (i8 vs ars 5 (etE t.value))&&decide (i8 vs ars 5 (etE t.value)%2=1)))=false):J2 ars t m pc (vs,bd)=m8 ars t.els (((d9 ars pc t.value (vs,bd)).1.1++[lbV ars vs pc t]).length:Int) (lbV ars vs pc t) (m8 ars t.body ((d9 ars pc t.value (vs,bd)).1.1.length:Int) (lbV ars vs pc t) (ifN (d9 ars pc t.value (vs,bd)) m (lbV ars vs pc t))):=by
 rw[cy2]at h
 rw[bQ5]
 unfold lbV
 rw[show etE t.value=t.value from c6.eta _]at h ⊢
 exact cj7 k3 h
theorem cl0(k3:t.kind=3)(h:(!(i7 (i8 vs ars 5 (etE t.value))&&decide (i8 vs ars 5 (etE t.value)%2=1)))=true):J2 ars t m pc (vs,bd)=((m8 ars t.els m (lbV ars vs pc t) ((m8 ars t.body m (lbV ars vs pc t) ((d9 ars pc t.value (vs,bd)).1.1,[])).1,[])).1,
  (d9 ars pc t.value (vs,bd)).1.2++[⟨3,0,⟨0,0,[]⟩,etE (d9 ars pc t.value (vs,bd)).2,0,(m8 ars t.body m (lbV ars vs pc t) ((d9 ars pc t.value (vs,bd)).1.1,[])).2,(m8 ars t.els m (lbV ars vs pc t) ((m8 ars t.body m (lbV ars vs pc t) ((d9 ars pc t.value (vs,bd)).1.1,[])).1,[])).2⟩]):=by
 rw[cy0]at h
 rw[show etE (d9 ars pc t.value (vs,bd)).2=(d9 ars pc t.value (vs,bd)).2 from c6.eta _]
 unfold lbV
 rw[show etE t.value=t.value from c6.eta _]at h ⊢
 exact cj8 k3 h
theorem ck9(k3:t.kind=3)(h:(!(i7 (i8 vs ars 5 (etE t.value))&&decide (i8 vs ars 5 (etE t.value)%2=1)))=true):(J2 ars t m pc (vs,bd)).1=(m8 ars t.els m (lbV ars vs pc t) ((m8 ars t.body m (lbV ars vs pc t) ((d9 ars pc t.value (vs,bd)).1.1,[])).1,[])).1:=by rw[cl0 k3 h]
theorem ck7(k3:t.kind=3)(h:(!(i7 (i8 vs ars 5 (etE t.value))&&decide (i8 vs ars 5 (etE t.value)%2=1)))=false):(J2 ars t m pc (vs,bd)).1=(m8 ars t.els (((d9 ars pc t.value (vs,bd)).1.1++[lbV ars vs pc t]).length:Int) (lbV ars vs pc t) (m8 ars t.body ((d9 ars pc t.value (vs,bd)).1.1.length:Int) (lbV ars vs pc t) (ifN (d9 ars pc t.value (vs,bd)) m (lbV ars vs pc t)))).1:=by rw[ck8 k3 h]
end
abbrev aK8(ars:List Int)(t:c5)(m:Int)(pc:Int)(vs:List Int)(bd:List c5):=m8 ars t.body ((d9 ars pc t.value (vs,bd)).fst.fst.length:Int) (l6 pc (i8 vs ars 5 (z4 t.value))) ((d9 ars pc t.value (vs,bd)).fst.fst++[l6 pc (i8 vs ars 5 (z4 t.value))]++[l6 pc (i8 vs ars 5 (z4 t.value))],(d9 ars pc t.value (vs,bd)).fst.snd++[Z3 ((d9 ars pc t.value (vs,bd)).fst.fst.length:Int) (z4 (D9 m (c6.mk (d9 ars pc t.value (vs,bd)).snd.kind (d9 ars pc t.value (vs,bd)).snd.value (d9 ars pc t.value (vs,bd)).snd.kids) (c6.mk 1 0 [])))]++[Z3 (((d9 ars pc t.value (vs,bd)).fst.fst++[l6 pc (i8 vs ars 5 (z4 t.value))]).length:Int) (z4 (D9 m (c6.mk 9 0 ([c6.mk 2 ((d9 ars pc t.value (vs,bd)).fst.fst.length:Int) []]++([c6.mk 1 0 []]++[]))) (c6.mk 1 0 [])))])
abbrev H0(ars:List Int)(t:c5)(vs:List Int):=i8 vs ars 5 (z4 t.value)
abbrev a12(ars:List Int)(t:c5)(pc:Int)(vs:List Int)(bd:List c5):=z4 (d9 ars pc t.value (vs,bd)).snd
abbrev at3(ars:List Int)(t:c5)(m:Int)(pc:Int)(vs:List Int)(bd:List c5):=m8 ars t.body m (l6 pc (H0 ars t vs)) ((d9 ars pc t.value (vs,bd)).fst.fst,[])
abbrev at2(ars:List Int)(t:c5)(m:Int)(pc:Int)(vs:List Int)(bd:List c5):=m8 ars t.els m (l6 pc (H0 ars t vs)) ((at3 ars t m pc vs bd).fst,[])
abbrev a13(ars:List Int)(t:c5)(m:Int)(pc:Int)(vs:List Int)(bd:List c5):=z4 (D9 m (a12 ars t pc vs bd) (c6.mk 1 0 []))
abbrev W6:It:=.box [.v (.slice none 0 0),.v (.slice none 0 0),.v (.slice none 0 0),.v (.slice none 0 0)]
abbrev V0(ars:List Int)(t:c5)(r0:List It):List It:=.dead::dI ars::.dead::dE t.index.kids::dE t.value.kids::dT t.body::dT t.els::r0
abbrev Y7(ars:List Int)(t:c5)(pc:Int)(vs:List Int)(r0:List (Nat×AV)):List (Nat×AV):=(3,iA pc)::(4,.ptr 7 0)::(5,.ptr 8 0)::(8,.ptr 9 0)::(9,iA (H0 ars t vs))::r0
abbrev bj8(ars:List Int)(t:c5)(pc:Int)(vs:List Int)(bd:List c5)(r0:List It):List It:=.box (sL t 3)::W6::.box [iA (d9 ars pc t.value (vs,bd)).snd.kind,iA (d9 ars pc t.value (vs,bd)).snd.value,.ref 12]::.row 98 (D.stmts (d9 ars pc t.value (vs,bd)).fst.snd)::dE (d9 ars pc t.value (vs,bd)).snd.kids::r0
theorem b80(ars:List Int)(nv dd:Nat)(t:c5)(k3:t.kind=3)(hh:F6 nv ars.length t=true)(hbb:t.body.all (j5 nv ars.length dd)=true)(hbe:t.els.all (j5 nv ars.length dd)=true)
    (hB:∀(tt:List c5) (m pc:Int) (vs:List Int) (bd:List c5),tt.all (j5 nv ars.length dd)=true->nv<=vs.length->vs.length+4*i9 tt<=90000->i9 bd+130*i9 tt<=600000->j8.ok Tryz.prog (lbC ars m pc vs bd tt))
    (hI:∀(tt:List c5) (m pc:Int) (vs:List Int) (bd:List c5),tt.all (j5 nv ars.length dd)=true->nv<=vs.length->vs.length+4*i9 tt<=90000->130*i9 tt<=600000->j8.ok Tryz.prog (bZ2 ars m pc vs bd tt))
    (m pc:Int) (vs:List Int) (bd:List c5) (hv:nv<=vs.length) (r1:vs.length+4*(1+M8 t)<=90000) (r2:i9 bd+130*(1+M8 t)<=600000):j8.ok Tryz.prog (ck1 ars m pc vs bd t):=by
  refine H9 116 Tryz.func133 [.row 3 (D.ints vs),dI ars,.row 98 (D.stmts bd),dE t.index.kids,dE t.value.kids,dT t.body,dT t.els] [(0,.agg [.ref 0,.ref 1,.v (.slice none 0 0),.ref 2]),(1,sA t 3),(2,iA m),(3,iA pc)] fun G=>?_
  have hsz:M8 t=B9 t.index+B9 t.value+i9 t.body+i9 t.els:=by cases t;rfl
  have hsh:=bQ4 (vs:=vs) hh k3 hv;have hbd:=cb3 (pc:=pc) (bd:=bd) hh k3 hv r1 r2;refine wp_seq (j9 G f8 [0,1,2,3,4,5,6,7,15,23] [.row 3 (D.ints vs),dI ars,.row 98 (D.stmts bd),dE t.index.kids,dE t.value.kids,dT t.body,dT t.els,.box [.ref 0,.ref 1,.v (.slice none 0 0),.ref 2],.box (sL t 3),W6] [(2,iA m),(3,iA pc),(4,.ptr 7 0),(5,.ptr 8 0),(8,.ptr 9 0)] fun G=>b6 (wp_seq (l8 G (w6 4 [0,1,4] (j8.lend (ad2 vs ars t.value.kind t.value.value t.value.kids ai) [.row 3])) [(9,iA (H0 ars t vs))] fun G=>b6 (wp_seq (j9 G f8 [0,1,2,3,4,5,6,7,8,9,18] [.row 3 (D.ints vs),dI ars,.row 98 (D.stmts bd),dE t.index.kids,dE t.value.kids,dT t.body,dT t.els,.box [.ref 0,.ref 1,.v (.slice none 0 0),.ref 2],.box (sL t 3),W6,.box [iA 0,iA 0,.v (.slice none 0 0)]] ((2,iA m)::(Y7 ars t pc vs [(10,.ptr 10 0)])) fun G=>b6 (wp_seq (j9 G (w6 4 [0,1,2,4] (bh6 ars pc t.value vs bd ai al al)) [0,1,2,3,4,5,6,7,8,9,10,43,44,45] (V0 ars t [.box [.ref 11,.ref 1,.v (.slice none 0 0),.ref 12],.box (sL t 3),W6,.box [iA (d9 ars pc t.value (vs,bd)).snd.kind,iA (d9 ars pc t.value (vs,bd)).snd.value,.ref 13],.row 3 (D.ints (d9 ars pc t.value (vs,bd)).fst.fst),.row 98 (D.stmts (d9 ars pc t.value (vs,bd)).fst.snd),dE (d9 ars pc t.value (vs,bd)).snd.kids]) ((2,iA m)::(Y7 ars t pc vs [(10,.ptr 10 0)])) fun G=>b6 (wp_seq (wp_seq (l8 G (w6 1 [] (L8 (i8 vs ars 5 (z4 t.value)))) [(31,.v (.bool !(i7 (H0 ars t vs)&&decide (i8 vs ars 5 (z4 t.value)%2=1))))] fun G=>b6 ?_))))))))));cases h0:(!(i7 (i8 vs ars (5:Nat) (z4 t.value))&&decide (i8 vs ars (5:Nat) (z4 t.value)%(2:Int)=1)))
  ·
   have q0:((i7 (i8 vs ars 5 (z4 t.value)))=true)/\(i8 vs ars 5 (z4 t.value)%2=1):=(fun hq=>And.imp (fun hq=>(hq)) (fun hq=>of_decide_eq_true hq) (Bool.and_eq_true_iff.1 hq)) (Eq.mp (cy2 _) h0);refine rF G _ h0 (wp_skip (b6 (wp_seq (l8 G f8 [(13,iA 0),(14,iA 0)] fun G=>b6 (wp_seq (j9 G (w6 4 [11,1,12] (aq7 ((d9 ars pc t.value (vs,bd)).fst.fst) ars ((d9 ars pc t.value (vs,bd)).fst.snd) (l6 pc (i8 vs ars 5 (z4 t.value))) al)) [0,1,2,3,4,5,6,7,8,9,10,12,13,46] (V0 ars t (.box [.ref 13,.ref 1,.v (.slice none 0 0),.ref 11]::(bj8 ars t pc vs bd [.row 3 (D.ints ((d9 ars pc t.value (vs,bd)).fst.fst++[l6 pc (H0 ars t vs)]))]))) ((2,iA m)::(Y7 ars t pc vs [(10,.ptr 10 0),(13,iA ((d9 ars pc t.value (vs,bd)).fst.fst.length:Int)),(14,iA 0)])) fun G=>b6 (wp_seq (ak3 G (I2 (v9 4 [] (L6 0) (v9 5 [12,46] (ao1 m ((d9 ars pc t.value (vs,bd)).snd.kind) ((d9 ars pc t.value (vs,bd)).snd.value) 1 0 ((d9 ars pc t.value (vs,bd)).snd.kids) ([])) (v9 6 [13,1,11,54] (V7 ((d9 ars pc t.value (vs,bd)).fst.fst++[l6 pc (i8 vs ars 5 (z4 t.value))]) ars ((d9 ars pc t.value (vs,bd)).fst.snd) (((d9 ars pc t.value (vs,bd)).fst.fst.length:Int)) ((D9 m (z4 (d9 ars pc t.value (vs,bd)).snd) (c6.mk 1 0 [])).kind) ((D9 m (z4 (d9 ars pc t.value (vs,bd)).snd) (c6.mk 1 0 [])).value) ((D9 m (z4 (d9 ars pc t.value (vs,bd)).snd) (c6.mk 1 0 [])).kids) al) I1))) fz []) [0,0,0,0,0,28,63,127] [0,1,2,3,4,5,6,7,8,9,13,62] (V0 ars t [.box [.ref 10,.ref 1,.v (.slice none 0 0),.ref 11],.box (sL t 3),W6,.row 3 (D.ints ((d9 ars pc t.value (vs,bd)).fst.fst++[l6 pc (H0 ars t vs)])),.row 98 (D.stmts ((d9 ars pc t.value (vs,bd)).fst.snd++[Z3 ((d9 ars pc t.value (vs,bd)).fst.fst.length:Int) (a13 ars t m pc vs bd)]))]) ((2,iA m)::(Y7 ars t pc vs [(13,iA ((d9 ars pc t.value (vs,bd)).fst.fst.length:Int)),(14,iA 0)])) fun G=>b6 (wp_seq (j9 G (w6 4 [10,1,11] (aq7 ((d9 ars pc t.value (vs,bd)).fst.fst++[l6 pc (i8 vs ars 5 (z4 t.value))]) ars ((d9 ars pc t.value (vs,bd)).fst.snd++[Z3 ((d9 ars pc t.value (vs,bd)).fst.fst.length:Int) (z4 (D9 m (c6.mk (d9 ars pc t.value (vs,bd)).snd.kind (d9 ars pc t.value (vs,bd)).snd.value (d9 ars pc t.value (vs,bd)).snd.kids) (c6.mk 1 0 [])))]) (l6 pc (i8 vs ars 5 (z4 t.value))) (by simp only[cv9,cw2,cw6];omega))) [0,1,2,3,4,5,6,7,8,9,11,44] (V0 ars t [.box [.ref 11,.ref 1,.v (.slice none 0 0),.ref 10],.box (sL t 3),W6,.row 98 (D.stmts ((d9 ars pc t.value (vs,bd)).fst.snd++[Z3 ((d9 ars pc t.value (vs,bd)).fst.fst.length:Int) (a13 ars t m pc vs bd)])),.row 3 (D.ints ((d9 ars pc t.value (vs,bd)).fst.fst++[l6 pc (H0 ars t vs)]++[l6 pc (H0 ars t vs)]))]) ((2,iA m)::(Y7 ars t pc vs [(13,iA ((d9 ars pc t.value (vs,bd)).fst.fst.length:Int)),(14,iA (((d9 ars pc t.value (vs,bd)).fst.fst++[l6 pc (H0 ars t vs)]).length:Int))])) fun G=>?_))))))))))
   refine b6 (wp_seq (ak3 G (I2 (v9 4 [] (aq6 (((d9 ars pc t.value (vs,bd)).fst.fst.length:Int))) (v9 5 [] (L6 0) (v9 7 [60] (ah2 9 ([c6.mk 2 ((d9 ars pc t.value (vs,bd)).fst.fst.length:Int) []]++([c6.mk 1 0 []]++[]))) (v9 8 [] (L6 0) (v9 9 [60,76] (ao1 m 9 0 1 0 ([c6.mk 2 ((d9 ars pc t.value (vs,bd)).fst.fst.length:Int) []]++([c6.mk 1 0 []]++[])) ([])) (v9 10 [11,1,10,84] (V7 ((d9 ars pc t.value (vs,bd)).fst.fst++[l6 pc (i8 vs ars 5 (z4 t.value))]++[l6 pc (i8 vs ars 5 (z4 t.value))]) ars ((d9 ars pc t.value (vs,bd)).fst.snd++[Z3 ((d9 ars pc t.value (vs,bd)).fst.fst.length:Int) (z4 (D9 m (c6.mk (d9 ars pc t.value (vs,bd)).snd.kind (d9 ars pc t.value (vs,bd)).snd.value (d9 ars pc t.value (vs,bd)).snd.kids) (c6.mk 1 0 [])))]) ((((d9 ars pc t.value (vs,bd)).fst.fst++[l6 pc (i8 vs ars 5 (z4 t.value))]).length:Int)) ((D9 m (c6.mk 9 0 ([c6.mk 2 ((d9 ars pc t.value (vs,bd)).fst.fst.length:Int) []]++([c6.mk 1 0 []]++[]))) (c6.mk 1 0 [])).kind) ((D9 m (c6.mk 9 0 ([c6.mk 2 ((d9 ars pc t.value (vs,bd)).fst.fst.length:Int) []]++([c6.mk 1 0 []]++[]))) (c6.mk 1 0 [])).value) ((D9 m (c6.mk 9 0 ([c6.mk 2 ((d9 ars pc t.value (vs,bd)).fst.fst.length:Int) []]++([c6.mk 1 0 []]++[]))) (c6.mk 1 0 [])).kids) (by simp only[cv9,cw2,cw6];omega)) I1)))))) fz []) [0,0,0,0,8,24,56,120,248,508,1023,2047] [0,1,2,3,4,5,6,7,8,9,11,92] (V0 ars t [.box [.ref 10,.ref 1,.v (.slice none 0 0),.ref 11],.box (sL t 3),W6,.row 3 (D.ints ((d9 ars pc t.value (vs,bd)).fst.fst++[l6 pc (H0 ars t vs)]++[l6 pc (H0 ars t vs)])),.row 98 (D.stmts ((d9 ars pc t.value (vs,bd)).fst.snd++[Z3 ((d9 ars pc t.value (vs,bd)).fst.fst.length:Int) (a13 ars t m pc vs bd)]++[Z3 (((d9 ars pc t.value (vs,bd)).fst.fst++[l6 pc (H0 ars t vs)]).length:Int) (z4 (D9 m (c6.mk 9 0 ([c6.mk 2 ((d9 ars pc t.value (vs,bd)).fst.fst.length:Int) []]++([c6.mk 1 0 []]++[]))) (c6.mk 1 0 [])))]))]) (Y7 ars t pc vs [(13,iA ((d9 ars pc t.value (vs,bd)).fst.fst.length:Int)),(14,iA (((d9 ars pc t.value (vs,bd)).fst.fst++[l6 pc (H0 ars t vs)]).length:Int))]) fun G=>b6 (wp_seq (j9 G (w6 7 [10,1,5,11] (hB t.body (((d9 ars pc t.value (vs,bd)).fst.fst.length:Int)) (l6 pc (i8 vs ars 5 (z4 t.value))) ((d9 ars pc t.value (vs,bd)).fst.fst++[l6 pc (i8 vs ars 5 (z4 t.value))]++[l6 pc (i8 vs ars 5 (z4 t.value))]) ((d9 ars pc t.value (vs,bd)).fst.snd++[Z3 ((d9 ars pc t.value (vs,bd)).fst.fst.length:Int) (z4 (D9 m (c6.mk (d9 ars pc t.value (vs,bd)).snd.kind (d9 ars pc t.value (vs,bd)).snd.value (d9 ars pc t.value (vs,bd)).snd.kids) (c6.mk 1 0 [])))]++[Z3 (((d9 ars pc t.value (vs,bd)).fst.fst++[l6 pc (i8 vs ars 5 (z4 t.value))]).length:Int) (z4 (D9 m (c6.mk 9 0 ([c6.mk 2 ((d9 ars pc t.value (vs,bd)).fst.fst.length:Int) []]++([c6.mk 1 0 []]++[]))) (c6.mk 1 0 [])))]) ai (by simp only[cv9,cw2,cw6];omega) (by simp only[cv9,cw2,cw6];omega) (ck4 hh k3 hv r1 r2))) [0,1,2,3,4,5,6,7,8,9,68,69] (V0 ars t [.box [.ref 10,.ref 1,.v (.slice none 0 0),.ref 11],.box (sL t 3),W6,.row 3 (D.ints (aK8 ars t m pc vs bd).fst),.row 98 (D.stmts (aK8 ars t m pc vs bd).snd)]) (Y7 ars t pc vs [(14,iA (((d9 ars pc t.value (vs,bd)).fst.fst++[l6 pc (H0 ars t vs)]).length:Int))]) fun G=>?_))))
   refine b6 (wp_seq (j9 G (w6 7 [10,1,6,11] (hB t.els ((((d9 ars pc t.value (vs,bd)).fst.fst++[l6 pc (i8 vs ars 5 (z4 t.value))]).length:Int)) (l6 pc (i8 vs ars 5 (z4 t.value))) ((m8 ars t.body ((d9 ars pc t.value (vs,bd)).fst.fst.length:Int) (l6 pc (i8 vs ars 5 (z4 t.value))) ((d9 ars pc t.value (vs,bd)).fst.fst++[l6 pc (i8 vs ars 5 (z4 t.value))]++[l6 pc (i8 vs ars 5 (z4 t.value))],(d9 ars pc t.value (vs,bd)).fst.snd++[Z3 ((d9 ars pc t.value (vs,bd)).fst.fst.length:Int) (z4 (D9 m (c6.mk (d9 ars pc t.value (vs,bd)).snd.kind (d9 ars pc t.value (vs,bd)).snd.value (d9 ars pc t.value (vs,bd)).snd.kids) (c6.mk 1 0 [])))]++[Z3 (((d9 ars pc t.value (vs,bd)).fst.fst++[l6 pc (i8 vs ars 5 (z4 t.value))]).length:Int) (z4 (D9 m (c6.mk 9 0 ([c6.mk 2 ((d9 ars pc t.value (vs,bd)).fst.fst.length:Int) []]++([c6.mk 1 0 []]++[]))) (c6.mk 1 0 [])))])).fst) ((m8 ars t.body ((d9 ars pc t.value (vs,bd)).fst.fst.length:Int) (l6 pc (i8 vs ars 5 (z4 t.value))) ((d9 ars pc t.value (vs,bd)).fst.fst++[l6 pc (i8 vs ars 5 (z4 t.value))]++[l6 pc (i8 vs ars 5 (z4 t.value))],(d9 ars pc t.value (vs,bd)).fst.snd++[Z3 ((d9 ars pc t.value (vs,bd)).fst.fst.length:Int) (z4 (D9 m (c6.mk (d9 ars pc t.value (vs,bd)).snd.kind (d9 ars pc t.value (vs,bd)).snd.value (d9 ars pc t.value (vs,bd)).snd.kids) (c6.mk 1 0 [])))]++[Z3 (((d9 ars pc t.value (vs,bd)).fst.fst++[l6 pc (i8 vs ars 5 (z4 t.value))]).length:Int) (z4 (D9 m (c6.mk 9 0 ([c6.mk 2 ((d9 ars pc t.value (vs,bd)).fst.fst.length:Int) []]++([c6.mk 1 0 []]++[]))) (c6.mk 1 0 [])))])).snd) ai ((cb2 hbb hh k3 hv r1 r2).1) ((cb2 hbb hh k3 hv r1 r2).2.1) ((cb2 hbb hh k3 hv r1 r2).2.2))) [0,1,2,3,4,5,6,9,68,69] (V0 ars t [.box [.ref 8,.ref 1,.v (.slice none 0 0),.ref 9],.row 3 (D.ints (m8 ars t.els (((d9 ars pc t.value (vs,bd)).fst.fst++[l6 pc (H0 ars t vs)]).length:Int) (l6 pc (H0 ars t vs)) (aK8 ars t m pc vs bd)).fst),.row 98 (D.stmts (m8 ars t.els (((d9 ars pc t.value (vs,bd)).fst.fst++[l6 pc (H0 ars t vs)]).length:Int) (l6 pc (H0 ars t vs)) (aK8 ars t m pc vs bd)).snd)]) [(8,.ptr 7 0)] fun G=>?_))
   refine b6 (wp_ret ?_);exact O8 G [0,1,2,3,4,5,6,8,9] (by show _=mR [0,1,2,3,4,5,6,8,9] [.dead,dI ars,.dead,dE t.index.kids,dE t.value.kids,dT t.body,dT t.els,.row 3 (D.ints (J2 ars t m pc (vs,bd)).fst),.row 98 (D.stmts (J2 ars t m pc (vs,bd)).snd)];have e1:((J2 ars t m pc (vs,bd)).fst:List Int)=((m8 ars t.els (((d9 ars pc t.value (vs,bd)).fst.fst++[l6 pc (i8 vs ars 5 (z4 t.value))]).length:Int) (l6 pc (i8 vs ars 5 (z4 t.value))) (m8 ars t.body ((d9 ars pc t.value (vs,bd)).fst.fst.length:Int) (l6 pc (i8 vs ars 5 (z4 t.value))) ((d9 ars pc t.value (vs,bd)).fst.fst++[l6 pc (i8 vs ars 5 (z4 t.value))]++[l6 pc (i8 vs ars 5 (z4 t.value))],(d9 ars pc t.value (vs,bd)).fst.snd++[Z3 ((d9 ars pc t.value (vs,bd)).fst.fst.length:Int) (z4 (D9 m (c6.mk (d9 ars pc t.value (vs,bd)).snd.kind (d9 ars pc t.value (vs,bd)).snd.value (d9 ars pc t.value (vs,bd)).snd.kids) (c6.mk 1 0 [])))]++[Z3 (((d9 ars pc t.value (vs,bd)).fst.fst++[l6 pc (i8 vs ars 5 (z4 t.value))]).length:Int) (z4 (D9 m (c6.mk 9 0 ([c6.mk 2 ((d9 ars pc t.value (vs,bd)).fst.fst.length:Int) []]++([c6.mk 1 0 []]++[]))) (c6.mk 1 0 [])))]))).fst):=(ck7 k3 ab);have e2:((J2 ars t m pc (vs,bd)).snd:List c5)=((m8 ars t.els (((d9 ars pc t.value (vs,bd)).fst.fst++[l6 pc (H0 ars t vs)]).length:Int) (l6 pc (H0 ars t vs)) (aK8 ars t m pc vs bd)).snd):=(congrArg Prod.snd (ck8 k3 ab));(first|rw[e1,e2]|simp only[e1,e2])<;>rfl)
  have q0:((i7 (i8 vs ars 5 (z4 t.value)))=false)\/(¬(i8 vs ars 5 (z4 t.value)%2=1)):=(fun hq=>Or.imp (fun hq=>(hq)) (fun hq=>of_decide_eq_false hq) (Bool.and_eq_false_iff.1 hq)) (Eq.mp (cy0 _) h0);refine rT G _ h0 (wp_seq (j9 G f8 [0,1,2,3,4,5,6,7,8,9,10,11,12,13,14,22] (V0 ars t [.box [.ref 11,.ref 1,.v (.slice none 0 0),.ref 12],.box (sL t 3),W6,.box [iA (d9 ars pc t.value (vs,bd)).snd.kind,iA (d9 ars pc t.value (vs,bd)).snd.value,.ref 13],.row 3 (D.ints (d9 ars pc t.value (vs,bd)).fst.fst),.row 98 (D.stmts (d9 ars pc t.value (vs,bd)).fst.snd),dE (d9 ars pc t.value (vs,bd)).snd.kids,.tree (D.stmts []),.tree (D.stmts [])]) ((2,iA m)::(Y7 ars t pc vs [(10,.ptr 10 0),(11,.tref 14),(12,.tref 15)])) fun G=>b6 (wp_seq (j9 G (w6 7 [11,1,12,5] (hI t.body m (l6 pc (i8 vs ars 5 (z4 t.value))) ((d9 ars pc t.value (vs,bd)).fst.fst) ((d9 ars pc t.value (vs,bd)).fst.snd) ai al al al)) [0,1,2,3,4,5,6,7,8,9,10,12,13,15,72,73] (V0 ars t (.box [.ref 14,.ref 1,.v (.slice none 0 0),.ref 11]::(bj8 ars t pc vs bd [.tree (D.stmts []),.row 3 (D.ints (at3 ars t m pc vs bd).fst),dT (at3 ars t m pc vs bd).snd]))) ((2,iA m)::(Y7 ars t pc vs [(10,.ptr 10 0),(11,.ref 15),(12,.tref 13)])) fun G=>b6 (wp_seq (j9 G (w6 7 [14,1,11,6] (hI t.els m (l6 pc (i8 vs ars 5 (z4 t.value))) ((m8 ars t.body m (l6 pc (i8 vs ars 5 (z4 t.value))) ((d9 ars pc t.value (vs,bd)).fst.fst,[])).fst) ((d9 ars pc t.value (vs,bd)).fst.snd) ai ((ck6 hbb hh k3 hv r1 r2).1) ((ck6 hbb hh k3 hv r1 r2).2) al)) [0,1,2,3,4,5,6,7,8,9,10,11,12,15,72,73] (V0 ars t (.box [.ref 14,.ref 1,.v (.slice none 0 0),.ref 11]::(bj8 ars t pc vs bd [dT (at3 ars t m pc vs bd).snd,.row 3 (D.ints (at2 ars t m pc vs bd).fst),dT (at2 ars t m pc vs bd).snd]))) ((2,iA m)::(Y7 ars t pc vs [(10,.ptr 10 0),(11,.ref 13),(12,.ref 15)])) fun G=>b6 (wp_seq (rA1 G f8 [0,1,2,3,4,5,6,7,8,9,10,12,14,72] (V0 ars t [.box [.ref 12,.ref 1,.v (.slice none 0 0),.ref 13],.box (sL t 3),W6,.box [iA (d9 ars pc t.value (vs,bd)).snd.kind,iA (d9 ars pc t.value (vs,bd)).snd.value,.ref 11],dE (d9 ars pc t.value (vs,bd)).snd.kids,.row 3 (D.ints (at2 ars t m pc vs bd).fst),.row 98 (D.stmts ((d9 ars pc t.value (vs,bd)).fst.snd++([c5.mk 3 0 (c6.mk 0 0 []) (a12 ars t pc vs bd) 0 (at3 ars t m pc vs bd).snd (at2 ars t m pc vs bd).snd]++[])))]) ((2,iA m)::(Y7 ars t pc vs [(10,.ptr 10 0)])) (aP ((d9 ars pc t.value (vs,bd)).fst.snd.length+1) 152 []) (aK al cx2) fun G=>?_))))))))
  refine b6 (wp_seq (j9 G f8 (rg 14) (V0 ars t [.box [.ref 12,.ref 1,.v (.slice none 0 0),.ref 13],.box (sL t 3),.box [.ref 12,.ref 1,.v (.slice none 0 0),.ref 13],.box [iA (d9 ars pc t.value (vs,bd)).snd.kind,iA (d9 ars pc t.value (vs,bd)).snd.value,.ref 11],dE (d9 ars pc t.value (vs,bd)).snd.kids,.row 3 (D.ints (at2 ars t m pc vs bd).fst),.row 98 (D.stmts ((d9 ars pc t.value (vs,bd)).fst.snd++([c5.mk 3 0 (c6.mk 0 0 []) (a12 ars t pc vs bd) 0 (at3 ars t m pc vs bd).snd (at2 ars t m pc vs bd).snd]++[])))]) ((2,iA m)::(Y7 ars t pc vs [(10,.ptr 10 0)])) fun G=>b6 (wp_ret (l7 ?_))));exact O8 G [0,1,2,3,4,5,6,12,13] (by show _=mR [0,1,2,3,4,5,6,12,13] (V0 ars t [.row 3 (D.ints (J2 ars t m pc (vs,bd)).fst),.row 98 (D.stmts (J2 ars t m pc (vs,bd)).snd)]);have e1:((J2 ars t m pc (vs,bd)).fst:List Int)=((m8 ars t.els m (l6 pc (i8 vs ars 5 (z4 t.value))) ((m8 ars t.body m (l6 pc (i8 vs ars 5 (z4 t.value))) ((d9 ars pc t.value (vs,bd)).fst.fst,[])).fst,[])).fst):=(ck9 k3 ab);have e2:((J2 ars t m pc (vs,bd)).snd:List c5)=((d9 ars pc t.value (vs,bd)).fst.snd++([c5.mk 3 0 (c6.mk 0 0 []) (a12 ars t pc vs bd) 0 (at3 ars t m pc vs bd).snd (at2 ars t m pc vs bd).snd]++[])):=(congrArg Prod.snd (cl0 k3 ab));(first|rw[e1,e2]|simp only[e1,e2])<;>rfl)
abbrev xB(ars:List Int)(m pc:Int)(vs:List Int)(bd:List c5)(ss:List c5)(k:Nat):LnS:=m8 ars (ss.take k) m pc (vs,bd)
theorem bV8{ss:List c5}{k:Nat}(hk:k<ss.length):i9 (ss.take k)+(1+M8 (ss.getD k cv2))<=i9 ss:=by
 have h1:=y9 (ss.take (k+1)) (ss.drop (k+1))
 rw[List.take_append_drop,n6 _ _ hk,y9, <-n7 (d:=cv2) hk]at h1
 simp only[i9]at h1
 omega
section
variable{ars vs:List Int}{bd:List c5}{m pc:Int}{ss:List c5}{nv d k:Nat}
theorem ce7(hs:ss.all (j5 nv ars.length d)=true)(hv:nv<=vs.length):GrS (i9 (ss.take k)) (vs,bd) (xB ars m pc vs bd ss k):=
 a59 ars (ss.take k) m pc (vs,bd) (cw3.2 fun x hx=>cw3.1 hs x (List.mem_of_mem_take hx)) hv
theorem aU1(hs:ss.all (j5 nv ars.length d)=true)(hv:nv<=vs.length)(r1:vs.length+4*i9 ss<=90000)(r2:i9 bd+130*i9 ss<=600000)(hk:k<ss.length):nv<=(xB ars m pc vs bd ss k).1.length/\(xB ars m pc vs bd ss k).1.length+4*(1+M8 (ss.getD k cv2))<=90000/\i9 (xB ars m pc vs bd ss k).2+130*(1+M8 (ss.getD k cv2))<=600000:=by
 have g:=ce7 (bd:=bd) (m:=m) (pc:=pc) (k:=k) hs hv
 have h1:=bV8 hk
 have a:=g.lo;have b:=g.hi;have c:=g.st
 simp only at a b c
 omega
abbrev yB(ars:List Int)(m pc:Int)(vs:List Int)(bd:List c5)(ss:List c5)(k:Nat):LnS×c6:=d9 ars pc (ss.getD k cv2).value ((xB ars m pc vs bd ss k).1,(xB ars m pc vs bd ss k).2)
theorem a91(hs:ss.all (j5 nv ars.length (d+1))=true)(hv:nv<=vs.length)(r1:vs.length+4*i9 ss<=90000)(r2:i9 bd+130*i9 ss<=600000)(hk:k<ss.length)(h4:¬(ss.getD k cv2).kind=4):
  i5 (xB ars m pc vs bd ss k).1.length ars.length 5 (ss.getD k cv2).value=true/\(xB ars m pc vs bd ss k).1.length+(1+B9 (ss.getD k cv2).value)<=100000/\i9 (xB ars m pc vs bd ss k).2+40*(1+B9 (ss.getD k cv2).value)<=700000/\
  nv<=(yB ars m pc vs bd ss k).1.1.length/\(yB ars m pc vs bd ss k).1.1.length<=100000/\(yB ars m pc vs bd ss k).1.2.length+10<=700000/\i5 (yB ars m pc vs bd ss k).1.1.length ars.length 5 (yB ars m pc vs bd ss k).2=true:=by
 have hb:=aU1 (m:=m) (pc:=pc) hs hv r1 r2 hk
 have hh:=(aR3 hs hk).1
 have hsz:M8 (ss.getD k cv2)=B9 (ss.getD k cv2).index+B9 (ss.getD k cv2).value+i9 (ss.getD k cv2).body+i9 (ss.getD k cv2).els:=by
  generalize ss.getD k cv2=s;cases s;rfl
 have hsh:=H1 (na:=ars.length) hb.1 5 _ (C1 hh h4)
 obtain⟨g,g2,-⟩:=ap4 ars pc ars.length 5 (ss.getD k cv2).value (xB ars m pc vs bd ss k) hsh
 have a:(xB ars m pc vs bd ss k).1.length<=(yB ars m pc vs bd ss k).1.1.length:=g.lo
 have b:(yB ars m pc vs bd ss k).1.1.length<=(xB ars m pc vs bd ss k).1.length+(1+B9 (ss.getD k cv2).value):=g.hi
 have c:i9 (yB ars m pc vs bd ss k).1.2<=i9 (xB ars m pc vs bd ss k).2+40*(1+B9 (ss.getD k cv2).value):=g.st
 have h5:=N4 (yB ars m pc vs bd ss k).1.2
 exact⟨hsh,al,al,al,al,al,g2⟩
theorem bH1(hs:ss.all (j5 nv ars.length (d+1))=true)(hk:k<ss.length)(h2:(ss.getD k cv2).kind=2){n:Nat}(hn:nv<=n):i5 n ars.length 5 (ss.getD k cv2).index=true/\B9 (ss.getD k cv2).index<=1048576:=by
 obtain⟨q1,-,q3⟩:=aQ4 (aR3 hs hk).1 h2
 exact⟨H1 hn 5 _ q3,by rw[aJ0 q1];omega⟩
theorem aL5(hk:k<ss.length):xB ars m pc vs bd ss (k+1)=J2 ars (ss.getD k cv2) m pc (xB ars m pc vs bd ss k):=bD6 hk
theorem al7(s:c5):i9 s.body<=M8 s/\i9 s.els<=M8 s/\B9 s.value<=M8 s:=by
 cases s;simp only[M8,c5.body,c5.els,c5.value];omega
abbrev sK(ss:List c5)(k:Nat):c5:=ss.getD k cv2
theorem aK6(hs:ss.all (j5 nv ars.length (d+1))=true)(hk:k<ss.length)(h3:¬(sK ss k).kind=3)(h4:¬(sK ss k).kind=4)(h5:¬(sK ss k).kind=5)(h1:¬(sK ss k).kind=1):(sK ss k).kind=2:=by
 by_cases h2:(sK ss k).kind=2
 ·exact h2
 have hh:=(aR3 hs hk).1
 rw[as4 ⟨h1,h2,h3,h4,h5⟩]at hh;cases hh
theorem cf1(hk:k<ss.length)(h4:(sK ss k).kind=4):xB ars m pc vs bd ss (k+1)=((m8 ars (sK ss k).body m pc ((xB ars m pc vs bd ss k).1,[])).1,(xB ars m pc vs bd ss k).2++[⟨4,0,⟨0,0,[]⟩,⟨0,0,[]⟩,(sK ss k).count,(m8 ars (sK ss k).body m pc ((xB ars m pc vs bd ss k).1,[])).2,[]⟩]):=(aL5 hk).trans (ln4 h4)
theorem ce9(hk:k<ss.length)(h5:(sK ss k).kind=5):xB ars m pc vs bd ss (k+1)=((yB ars m pc vs bd ss k).1.1,(yB ars m pc vs bd ss k).1.2++[⟨5,(sK ss k).target,⟨0,0,[]⟩,etE (yB ars m pc vs bd ss k).2,0,[],[]⟩]):=by
 rw[show etE (yB ars m pc vs bd ss k).2=(yB ars m pc vs bd ss k).2 from c6.eta _]
 exact(aL5 hk).trans (ln5 h5)
theorem cf4(hk:k<ss.length)(h1:(sK ss k).kind=1):xB ars m pc vs bd ss (k+1)=((yB ars m pc vs bd ss k).1.1,(yB ars m pc vs bd ss k).1.2++[Z3 (sK ss k).target (etE (D9 m (etE (yB ars m pc vs bd ss k).2) ⟨2,(sK ss k).target,[]⟩))]):=by
 rw[show etE (yB ars m pc vs bd ss k).2=(yB ars m pc vs bd ss k).2 from c6.eta _,show ∀e,etE e=e from c6.eta]
 exact(aL5 hk).trans (ln1 h1)
theorem b38(hk:k<ss.length)(h2:(sK ss k).kind=2)(h:(i7 (i8 (yB ars m pc vs bd ss k).1.1 ars 5 (etE (sK ss k).index))&&decide (i8 (yB ars m pc vs bd ss k).1.1 ars 5 (etE (sK ss k).index)%2=1))=false):xB ars m pc vs bd ss (k+1)=((yB ars m pc vs bd ss k).1.1,(yB ars m pc vs bd ss k).1.2++[⟨2,(sK ss k).target,etE (sK ss k).index,etE (D9 m (etE (yB ars m pc vs bd ss k).2) ⟨3,(sK ss k).target,[etE (sK ss k).index]⟩),0,[],[]⟩]):=by
 simp only[show ∀e,etE e=e from c6.eta]at h ⊢
 exact(aL5 hk).trans (ck0 h2 h)
theorem b37(hk:k<ss.length)(h2:(sK ss k).kind=2)(h:(i7 (i8 (yB ars m pc vs bd ss k).1.1 ars 5 (etE (sK ss k).index))&&decide (i8 (yB ars m pc vs bd ss k).1.1 ars 5 (etE (sK ss k).index)%2=1))=true):xB ars m pc vs bd ss (k+1)=((yB ars m pc vs bd ss k).1.1++[l6 (i8 (yB ars m pc vs bd ss k).1.1 ars 5 (etE (yB ars m pc vs bd ss k).2)) pc],(yB ars m pc vs bd ss k).1.2++[Z3 ((yB ars m pc vs bd ss k).1.1.length:Int) (etE (yB ars m pc vs bd ss k).2)]++stL ((yB ars m pc vs bd ss k).1.1.length:Int) (sK ss k).target (etE (sK ss k).index) m 4):=by
 simp only[show ∀e,etE e=e from c6.eta]at h ⊢
 exact(aL5 hk).trans (cj9 h2 h)
theorem cf0(hk:k<ss.length)(h4:(sK ss k).kind=4):(xB ars m pc vs bd ss (k+1)).1=(m8 ars (sK ss k).body m pc ((xB ars m pc vs bd ss k).1,[])).1:=by rw[cf1 hk h4]
theorem ce8(hk:k<ss.length)(h5:(sK ss k).kind=5):(xB ars m pc vs bd ss (k+1)).1=(yB ars m pc vs bd ss k).1.1:=by rw[ce9 hk h5]
theorem cf3(hk:k<ss.length)(h1:(sK ss k).kind=1):(xB ars m pc vs bd ss (k+1)).1=(yB ars m pc vs bd ss k).1.1:=by rw[cf4 hk h1]
theorem cf2(hk:k<ss.length)(h2:(sK ss k).kind=2)(h:(i7 (i8 (yB ars m pc vs bd ss k).1.1 ars 5 (etE (sK ss k).index))&&decide (i8 (yB ars m pc vs bd ss k).1.1 ars 5 (etE (sK ss k).index)%2=1))=false):(xB ars m pc vs bd ss (k+1)).1=(yB ars m pc vs bd ss k).1.1:=by rw[b38 hk h2 h]
theorem bH7(hk:ss.length<=k):m8 ars ss m pc (vs,bd)=xB ars m pc vs bd ss k:=by unfold xB;rw[cw7 hk]
end
abbrev aa5(ars:List Int)(ss:List c5)(m:Int)(pc:Int)(vs:List Int)(bd:List c5)(k:Nat):=z4 (d9 ars pc (ss.getD k cv2).value (xB ars m pc vs bd ss k)).snd
abbrev A5(ars:List Int)(ss:List c5)(m:Int)(pc:Int)(vs:List Int)(bd:List c5)(k:Nat):=d9 ars pc (ss.getD k cv2).value (xB ars m pc vs bd ss k)
abbrev bt0(ars:List Int)(ss:List c5)(m:Int)(pc:Int)(vs:List Int)(bd:List c5)(k:Nat):=D9 m (aa5 ars ss m pc vs bd k) (c6.mk 3 (ss.getD k cv2).target [z4 (ss.getD k cv2).index])
abbrev ao7(ss:List c5)(k:Nat):=z4 (ss.getD k cv2).index
abbrev ao6:It:=.box [.v (.slice none 0 0),.v (.slice none 0 0),.v (.slice none 0 0),.v (.slice none 0 0)]
abbrev bV1:It:=.box [.ref 6,.ref 1,.v (.slice none 0 0),.ref 7]
abbrev L9(m:Int)(pc:Int)(r0:List (Nat×AV)):List (Nat×AV):=(1,.ref 2)::(2,iA m)::(3,iA pc)::(4,.ptr 4 0)::(8,.ptr 5 0)::r0
abbrev as8(ss:List c5)(k:Nat)(r0:List It):List It:=dE (ss.getD k cv2).index.kids::dE (ss.getD k cv2).value.kids::dT (ss.getD k cv2).body::dT (ss.getD k cv2).els::r0
abbrev ae8(ars:List Int)(ss:List c5)(r0:List It):List It:=.dead::dI ars::dT ss::.dead::bV1::ao6::r0
theorem aX5(ars:List Int)(nv dd:Nat)(ss:List c5)(hs:ss.all (j5 nv ars.length (dd+1))=true)
    (hF:∀(t:c5),t.kind=3->F6 nv ars.length t=true->t.body.all (j5 nv ars.length dd)=true->t.els.all (j5 nv ars.length dd)=true->0<ss.length->∀(m pc:Int) (vs:List Int) (bd:List c5),nv<=vs.length->vs.length+4*(1+M8 t)<=90000->i9 bd+130*(1+M8 t)<=600000->j8.ok Tryz.prog (ck1 ars m pc vs bd t))
    (hI:∀(tt:List c5) (m pc:Int) (vs:List Int) (bd:List c5),tt.all (j5 nv ars.length dd)=true->0<ss.length->nv<=vs.length->vs.length+4*i9 tt<=90000->130*i9 tt<=600000->j8.ok Tryz.prog (bZ2 ars m pc vs bd tt))
    (m pc:Int) (vs:List Int) (bd:List c5) (hv:nv<=vs.length) (r1:vs.length+4*i9 ss<=90000) (r2:i9 bd+130*i9 ss<=600000):j8.ok Tryz.prog (lbC ars m pc vs bd ss):=by
  have hcp:=b10;refine H9 123 Tryz.func91 [.row 3 (D.ints vs),dI ars,dT ss,.row 98 (D.stmts bd)] [(0,.agg [.ref 0,.ref 1,.v (.slice none 0 0),.ref 3]),(1,.ref 2),(2,iA m),(3,iA pc)] fun G=>?_;have hl:=N4 ss;refine wp_seq (j9 G f8 [0,1,2,3,4,12] [.row 3 (D.ints vs),dI ars,dT ss,.row 98 (D.stmts bd),.box [.ref 0,.ref 1,.v (.slice none 0 0),.ref 3],ao6] (L9 m pc []) fun G=>b6 (wp_seq (wp_seq (G3 G f8 (L9 m pc [(9,iA 0)]) fun G=>b6 (wp_block ?_)))));obtain⟨ρ,G⟩:=G.shift 0 6 [.dead,dI ars,dT ss,.row 98 (D.stmts bd),.box [.ref 6,.ref 1,.v (.slice none 0 0),.ref 3],.box [.v (.slice none 0 0),.v (.slice none 0 0),.v (.slice none 0 0),.v (.slice none 0 0)],.row 3 (D.ints vs)] (L9 m pc [(9,iA 0)]);obtain⟨ρ,G⟩:=G.shift 3 7 [.dead,dI ars,dT ss,.dead,.box [.ref 6,.ref 1,.v (.slice none 0 0),.ref 7],.box [.v (.slice none 0 0),.v (.slice none 0 0),.v (.slice none 0 0),.v (.slice none 0 0)],.row 3 (D.ints vs),.row 98 (D.stmts bd)] (L9 m pc [(9,iA 0)]);refine x6 (κ:=Nat) (fun k=>k<=ss.length) (fun k=>ss.length-k) (fun k=>[.dead,dI ars,dT ss,.dead,.box [.ref 6,.ref 1,.v (.slice none 0 0),.ref 7],.box [.v (.slice none 0 0),.v (.slice none 0 0),.v (.slice none 0 0),.v (.slice none 0 0)],.row 3 (.ints (xB ars m pc vs bd ss k).1),.row 98 (.stmts (xB ars m pc vs bd ss k).2)]) (fun k=>[(1,.ref 2),(2,iA m),(3,iA pc),(4,.ptr 4 0),(8,.ptr 5 0),(9,iA k)]) 0 al (x7.at G _ _) ?_;clear G;intro k ρ a w hp G;replace G:=x7.at G (ae8 ars ss [.row 3 (D.ints (xB ars m pc vs bd ss k).fst),.row 98 (D.stmts (xB ars m pc vs bd ss k).snd)]) (L9 m pc [(9,iA k)]);refine wp_seq (wp_seq (l8 G f8 [(16,bA (decide ((k:Int)<ss.length)))] fun G=>b6 (rcD G (fun h0 q0=>?_) fun h0 q0=>?_)))
  · refine wp_exit (v8 (v8 (v6 (b6 (wp_seq (j9 G f8 [0,1,2,3,5,6,7] [.dead,dI ars,dT ss,.dead,.box [.ref 5,.ref 1,.v (.slice none 0 0),.ref 6],.row 3 (D.ints (xB ars m pc vs bd ss k).fst),.row 98 (D.stmts (xB ars m pc vs bd ss k).snd)] [(8,.ptr 4 0)] fun G=>b6 (wp_ret ?_)))))));exact O8 G [0,1,2,3,5,6] (by show _=mR [0,1,2,3,5,6] [.dead,dI ars,dT ss,.dead,.row 3 (D.ints (m8 ars ss m pc (vs,bd)).fst),.row 98 (D.stmts (m8 ars ss m pc (vs,bd)).snd)];have e1:((m8 ars ss m pc (vs,bd)).fst:List Int)=((xB ars m pc vs bd ss k).fst):=(congrArg Prod.fst (bH7 al));have e2:((m8 ars ss m pc (vs,bd)).snd:List c5)=((xB ars m pc vs bd ss k).snd):=(congrArg Prod.snd (bH7 al));(first|rw[e1,e2]|simp only[e1,e2])<;>rfl)
  refine wp_skip (b6 (wp_seq (wp_block (wp_seq (rA1 G f8 [0,1,2,3,4,5,6,7,32,33,34,35,40] (ae8 ars ss (.row 3 (D.ints (xB ars m pc vs bd ss k).fst)::.row 98 (D.stmts (xB ars m pc vs bd ss k).snd)::(as8 ss k [.box (sL (ss.getD k cv2) 8)]))) (L9 m pc [(9,iA k),(10,.ptr 12 0)]) (iX k k ss.length []) (iK al cx2) fun G=>b6 (wp_seq (wp_seq (l8 G f8 [(25,bA ((ss.getD k cv2).kind==3))] fun G=>b6 (S4 G (fun h1 q1=>?_) fun h1 q1=>?_)))))))))
  ·
   refine wp_skip (b6 (wp_seq (wp_seq (l8 G f8 [(33,bA ((ss.getD k cv2).kind==4))] fun G=>b6 (S4 G (fun h2 q2=>?_) fun h2 q2=>?_)))))
   ·
    refine wp_skip (b6 (wp_seq (j9 G f8 [0,1,2,3,4,5,6,7,8,9,10,11,12,21] (ae8 ars ss (.row 3 (D.ints (xB ars m pc vs bd ss k).fst)::.row 98 (D.stmts (xB ars m pc vs bd ss k).snd)::(as8 ss k [.box (sL (ss.getD k cv2) 8),.box [iA 0,iA 0,.v (.slice none 0 0)]]))) (L9 m pc [(9,iA k),(10,.ptr 12 0),(12,.ptr 13 0)]) fun G=>b6 (wp_seq (j9 G (w6 4 [6,1,7,9] (bh6 ars pc ((ss.getD k cv2).value) ((xB ars m pc vs bd ss k).fst) ((xB ars m pc vs bd ss k).snd) ((a91 hs hv r1 r2 al al).1) (by have h9:=aU1 (m:=m) (pc:=pc) hs hv r1 r2 (show k<ss.length by omega);have h8:=al7 (ss.getD k cv2);omega) (by have h9:=aU1 (m:=m) (pc:=pc) hs hv r1 r2 (show k<ss.length by omega);have h8:=al7 (ss.getD k cv2);omega))) [0,1,2,3,4,5,8,9,10,11,12,13,46,47,48] (.dead::dI ars::dT ss::.dead::.box [.ref 12,.ref 1,.v (.slice none 0 0),.ref 13]::ao6::(as8 ss k [.box (sL (ss.getD k cv2) 6),.box (eL (A5 ars ss m pc vs bd k).snd 14),.row 3 (D.ints (A5 ars ss m pc vs bd k).fst.fst),.row 98 (D.stmts (A5 ars ss m pc vs bd k).fst.snd),dE (A5 ars ss m pc vs bd k).snd.kids])) (L9 m pc [(9,iA k),(10,.ptr 10 0),(12,.ptr 11 0)]) fun G=>b6 (wp_block (wp_seq (l8 G f8 [(82,bA ((ss.getD k cv2).kind==5))] fun G=>b6 (S4 G (fun h3 q3=>?_) fun h3 q3=>?_)))))))))
    ·
     refine wp_seq (l8 G f8 [(95,bA ((ss.getD k cv2).kind==1))] fun G=>b6 (S4 G (fun h4 q4=>?_) fun h4 q4=>?_))
     ·
      refine wp_seq (l8 G (I2 (v9 4 [12,1,6] (j8.lend (ad2 ((d9 ars pc (ss.getD k cv2).value (xB ars m pc vs bd ss k)).fst.fst) ars ((ss.getD k cv2).index.kind) ((ss.getD k cv2).index.value) ((ss.getD k cv2).index.kids) (by rw[c6.eta];exact(bH1 hs al (aK6 hs al al al al al) (a91 hs hv r1 r2 al al).2.2.2.1).1)) [.row 3]) (v9 5 [] (L8 (i8 (d9 ars pc (ss.getD k cv2).value (xB ars m pc vs bd ss k)).fst.fst ars 5 (z4 (ss.getD k cv2).index))) I1)) fz []) [(109,bA (i7 (i8 (A5 ars ss m pc vs bd k).fst.fst ars 5 (ao7 ss k))&&decide (i8 (A5 ars ss m pc vs bd k).fst.fst ars 5 (ao7 ss k)%2=1)))] fun G=>b6 ?_);cases h5:(i7 (i8 (d9 ars pc (ss.getD k cv2).value (xB ars m pc vs bd ss k)).fst.fst ars (5:Nat) (z4 (ss.getD k cv2).index))&&decide (i8 (d9 ars pc (ss.getD k cv2).value (xB ars m pc vs bd ss k)).fst.fst ars (5:Nat) (z4 (ss.getD k cv2).index)%(2:Int)=1))
      ·
       have q5:((i7 (i8 (d9 ars pc (ss.getD k cv2).value (xB ars m pc vs bd ss k)).fst.fst ars 5 (z4 (ss.getD k cv2).index)))=false)\/(¬(i8 (d9 ars pc (ss.getD k cv2).value (xB ars m pc vs bd ss k)).fst.fst ars 5 (z4 (ss.getD k cv2).index)%2=1)):=Or.imp (fun hq=>(hq)) (fun hq=>of_decide_eq_false hq) (Bool.and_eq_false_iff.1 h5);refine rF G _ h5 (S8 G (I2 (v9 6 [6] (hcp ((ss.getD k cv2).index) ((bH1 hs al (aK6 hs al al al al al) (cv7 _)).2)) (v9 13 [6] (hcp ((ss.getD k cv2).index) ((bH1 hs al (aK6 hs al al al al al) (cv7 _)).2)) (v9 14 [119] (az1 ((ss.getD k cv2).target) ((ss.getD k cv2).index.kind) ((ss.getD k cv2).index.value) ((ss.getD k cv2).index.kids)) (v9 15 [14,127] (ao1 m ((d9 ars pc (ss.getD k cv2).value (xB ars m pc vs bd ss k)).snd.kind) ((d9 ars pc (ss.getD k cv2).value (xB ars m pc vs bd ss k)).snd.value) 3 ((ss.getD k cv2).target) ((d9 ars pc (ss.getD k cv2).value (xB ars m pc vs bd ss k)).snd.kids) ([z4 (ss.getD k cv2).index])) I1)))) fz []) [0,1,0,4,0,16,48,0,0,0,512,0,2048,6256,15984,32752,65532,131068,262143,524287,1048575] [0,1,2,3,4,5,12,159] (ae8 ars ss [.row 3 (D.ints (A5 ars ss m pc vs bd k).fst.fst),.row 98 (D.stmts ((A5 ars ss m pc vs bd k).fst.snd++([c5.mk 2 (ss.getD k cv2).target (ao7 ss k) (z4 (bt0 ars ss m pc vs bd k)) 0 [] []]++[])))]) (L9 m pc [(9,iA k)]) (aP ((d9 ars pc (ss.getD k cv2).value (xB ars m pc vs bd ss k)).fst.snd.length+([c5.mk (2:Int) (ss.getD k cv2).target (z4 (ss.getD k cv2).index) (z4 (D9 m (c6.mk (d9 ars pc (ss.getD k cv2).value (xB ars m pc vs bd ss k)).snd.kind (d9 ars pc (ss.getD k cv2).value (xB ars m pc vs bd ss k)).snd.value (d9 ars pc (ss.getD k cv2).value (xB ars m pc vs bd ss k)).snd.kids) (c6.mk (3:Int) (ss.getD k cv2).target [c6.mk (ss.getD k cv2).index.kind (ss.getD k cv2).index.value (ss.getD k cv2).index.kids]))) (0:Int) [] []]++[]).length) 152 []) (aK (by have h9:(d9 ars pc (ss.getD k cv2).value ((xB ars m pc vs bd ss k).1,(xB ars m pc vs bd ss k).2)).1.2.length+10<=700000:=(a91 (m:=m) (pc:=pc) hs hv r1 r2 (show k<ss.length by omega) al).2.2.2.2.2.1;have h7:(d9 ars pc (ss.getD k cv2).value (xB ars m pc vs bd ss k)).1.2.length+10<=700000:=h9;simp only[cv9,cw2,cw6];omega) cx2) fun G=>?_)
       refine p8 (p8 (b6 (P4 G f8 [(9,iA ((k:Int)+1))] [wO ((k:Int)+1)] (o1 al) fun G=>b6 ?_)));exact U5 G (k+1) al al (rg 8) (by have e1:((xB ars m pc vs bd ss (k+1)).fst:List Int)=((d9 ars pc (ss.getD k cv2).value (xB ars m pc vs bd ss k)).fst.fst):=(cf2 al (aK6 hs al al al al al) ab);have e2:((xB ars m pc vs bd ss (k+1)).snd:List c5)=((A5 ars ss m pc vs bd k).fst.snd++([c5.mk 2 (ss.getD k cv2).target (ao7 ss k) (z4 (bt0 ars ss m pc vs bd k)) 0 [] []]++[])):=(congrArg Prod.snd (b38 al (aK6 hs al al al al al) ab));(first|rw[e1,e2]|simp only[e1,e2])<;>rfl)
      have q5:((i7 (i8 (d9 ars pc (ss.getD k cv2).value (xB ars m pc vs bd ss k)).fst.fst ars 5 (z4 (ss.getD k cv2).index)))=true)/\(i8 (d9 ars pc (ss.getD k cv2).value (xB ars m pc vs bd ss k)).fst.fst ars 5 (z4 (ss.getD k cv2).index)%2=1):=And.imp (fun hq=>(hq)) (fun hq=>of_decide_eq_true hq) (Bool.and_eq_true_iff.1 h5);refine rT G _ h5 (j9 G (w6 5 [12,1,13,6,7,8,9,14] (bF2 ars ((d9 ars pc (ss.getD k cv2).value (xB ars m pc vs bd ss k)).fst.fst) ((d9 ars pc (ss.getD k cv2).value (xB ars m pc vs bd ss k)).fst.snd) m pc (ss.getD k cv2) ((d9 ars pc (ss.getD k cv2).value (xB ars m pc vs bd ss k)).snd) (by rw[c6.eta];exact(a91 hs hv r1 r2 al al).2.2.2.2.2.2) ((a91 hs hv r1 r2 al al).2.2.2.2.1) (by have h9:(d9 ars pc (ss.getD k cv2).value ((xB ars m pc vs bd ss k).1,(xB ars m pc vs bd ss k).2)).1.2.length+10<=700000:=(a91 (m:=m) (pc:=pc) hs hv r1 r2 (show k<ss.length by omega) al).2.2.2.2.2.1;have h7:(d9 ars pc (ss.getD k cv2).value (xB ars m pc vs bd ss k)).1.2.length+10<=700000:=h9;omega))) [0,1,2,3,4,5,55,56] (ae8 ars ss [.row 3 (D.ints ((A5 ars ss m pc vs bd k).fst.fst++[l6 (i8 (A5 ars ss m pc vs bd k).fst.fst ars 5 (aa5 ars ss m pc vs bd k)) pc])),.row 98 (D.stmts ((A5 ars ss m pc vs bd k).fst.snd++[Z3 ((A5 ars ss m pc vs bd k).fst.fst.length:Int) (aa5 ars ss m pc vs bd k)]++stL ((A5 ars ss m pc vs bd k).fst.fst.length:Int) (ss.getD k cv2).target (ao7 ss k) m 4))]) (L9 m pc [(9,iA k)]) fun G=>p8 (p8 (b6 (P4 G f8 [(9,iA ((k:Int)+1))] [wO ((k:Int)+1)] (o1 al) fun G=>b6 ?_))));exact U5 G (k+1) al al (rg 8) (by have e1:((xB ars m pc vs bd ss (k+1)).fst:List Int)=((A5 ars ss m pc vs bd k).fst.fst++[l6 (i8 (A5 ars ss m pc vs bd k).fst.fst ars 5 (aa5 ars ss m pc vs bd k)) pc]):=(congrArg Prod.fst (b37 al (aK6 hs al al al al al) ab));have e2:((xB ars m pc vs bd ss (k+1)).snd:List c5)=((A5 ars ss m pc vs bd k).fst.snd++[Z3 ((A5 ars ss m pc vs bd k).fst.fst.length:Int) (aa5 ars ss m pc vs bd k)]++stL ((A5 ars ss m pc vs bd k).fst.fst.length:Int) (ss.getD k cv2).target (ao7 ss k) m 4):=(congrArg Prod.snd (b37 al (aK6 hs al al al al al) ab));(first|rw[e1,e2]|simp only[e1,e2])<;>rfl)
     refine ak3 G (I2 (v9 7 [] (aq6 ((ss.getD k cv2).target)) (v9 8 [14,71] (ao1 m ((d9 ars pc (ss.getD k cv2).value (xB ars m pc vs bd ss k)).snd.kind) ((d9 ars pc (ss.getD k cv2).value (xB ars m pc vs bd ss k)).snd.value) 2 ((ss.getD k cv2).target) ((d9 ars pc (ss.getD k cv2).value (xB ars m pc vs bd ss k)).snd.kids) ([])) (v9 9 [12,1,13,79] (V7 ((d9 ars pc (ss.getD k cv2).value (xB ars m pc vs bd ss k)).fst.fst) ars ((d9 ars pc (ss.getD k cv2).value (xB ars m pc vs bd ss k)).fst.snd) ((ss.getD k cv2).target) ((D9 m (z4 (d9 ars pc (ss.getD k cv2).value (xB ars m pc vs bd ss k)).snd) (c6.mk 2 (ss.getD k cv2).target [])).kind) ((D9 m (z4 (d9 ars pc (ss.getD k cv2).value (xB ars m pc vs bd ss k)).snd) (c6.mk 2 (ss.getD k cv2).target [])).value) ((D9 m (z4 (d9 ars pc (ss.getD k cv2).value (xB ars m pc vs bd ss k)).snd) (c6.mk 2 (ss.getD k cv2).target [])).kids) (by have h9:(d9 ars pc (ss.getD k cv2).value ((xB ars m pc vs bd ss k).1,(xB ars m pc vs bd ss k).2)).1.2.length+10<=700000:=(a91 (m:=m) (pc:=pc) hs hv r1 r2 (show k<ss.length by omega) al).2.2.2.2.2.1;have h7:(d9 ars pc (ss.getD k cv2).value (xB ars m pc vs bd ss k)).1.2.length+10<=700000:=h9;omega)) I1))) fz []) [0,0,2,0,0,0,32,96,248,511,1023] [0,1,2,3,4,5,12,87] (ae8 ars ss [.row 3 (D.ints (A5 ars ss m pc vs bd k).fst.fst),.row 98 (D.stmts ((A5 ars ss m pc vs bd k).fst.snd++[Z3 (ss.getD k cv2).target (z4 (D9 m (aa5 ars ss m pc vs bd k) (c6.mk 2 (ss.getD k cv2).target [])))]))]) (L9 m pc [(9,iA k)]) fun G=>p8 (p8 (b6 (P4 G f8 [(9,iA ((k:Int)+1))] [wO ((k:Int)+1)] (o1 al) fun G=>b6 ?_)));exact U5 G (k+1) al al (rg 8) (by have e1:((xB ars m pc vs bd ss (k+1)).fst:List Int)=((d9 ars pc (ss.getD k cv2).value (xB ars m pc vs bd ss k)).fst.fst):=(cf3 al al);have e2:((xB ars m pc vs bd ss (k+1)).snd:List c5)=((A5 ars ss m pc vs bd k).fst.snd++[Z3 (ss.getD k cv2).target (z4 (D9 m (aa5 ars ss m pc vs bd k) (c6.mk 2 (ss.getD k cv2).target [])))]):=(congrArg Prod.snd (cf4 al al));(first|rw[e1,e2]|simp only[e1,e2])<;>rfl)
    refine rA1 G f8 [0,1,2,3,4,5,12,71] (ae8 ars ss [.row 3 (D.ints (A5 ars ss m pc vs bd k).fst.fst),.row 98 (D.stmts ((A5 ars ss m pc vs bd k).fst.snd++([c5.mk 5 (ss.getD k cv2).target (c6.mk 0 0 []) (aa5 ars ss m pc vs bd k) 0 [] []]++[])))]) (L9 m pc [(9,iA k)]) (aP ((d9 ars pc (ss.getD k cv2).value (xB ars m pc vs bd ss k)).fst.snd.length+([c5.mk (5:Int) (ss.getD k cv2).target (c6.mk (0:Int) (0:Int) []) (z4 (d9 ars pc (ss.getD k cv2).value (xB ars m pc vs bd ss k)).snd) (0:Int) [] []]++[]).length) 152 []) (aK (by have h9:(d9 ars pc (ss.getD k cv2).value ((xB ars m pc vs bd ss k).1,(xB ars m pc vs bd ss k).2)).1.2.length+10<=700000:=(a91 (m:=m) (pc:=pc) hs hv r1 r2 (show k<ss.length by omega) al).2.2.2.2.2.1;have h7:(d9 ars pc (ss.getD k cv2).value (xB ars m pc vs bd ss k)).1.2.length+10<=700000:=h9;simp only[cv9,cw2,cw6];omega) cx2) fun G=>p8 (p8 (b6 (P4 G f8 [(9,iA ((k:Int)+1))] [wO ((k:Int)+1)] (o1 al) fun G=>b6 ?_)));exact U5 G (k+1) al al (rg 8) (by have e1:((xB ars m pc vs bd ss (k+1)).fst:List Int)=((d9 ars pc (ss.getD k cv2).value (xB ars m pc vs bd ss k)).fst.fst):=(ce8 al al);have e2:((xB ars m pc vs bd ss (k+1)).snd:List c5)=((A5 ars ss m pc vs bd k).fst.snd++([c5.mk 5 (ss.getD k cv2).target (c6.mk 0 0 []) (aa5 ars ss m pc vs bd k) 0 [] []]++[])):=(congrArg Prod.snd (ce9 al al));(first|rw[e1,e2]|simp only[e1,e2])<;>rfl)
   refine wp_seq (j9 G f8 (rg 14) (ae8 ars ss (.row 3 (D.ints (xB ars m pc vs bd ss k).fst)::.row 98 (D.stmts (xB ars m pc vs bd ss k).snd)::(as8 ss k [.box (sL (ss.getD k cv2) 8),.tree (D.stmts [])]))) (L9 m pc [(9,iA k),(10,.ptr 12 0),(11,.tref 13)]) fun G=>b6 (wp_seq (j9 G (w6 5 [6,1,7,10] (hI ((ss.getD k cv2).body) m pc ((xB ars m pc vs bd ss k).fst) ((xB ars m pc vs bd ss k).snd) ((aR3 hs al).2.1) al (by have h9:=aU1 (m:=m) (pc:=pc) hs hv r1 r2 (show k<ss.length by omega);have h8:=al7 (ss.getD k cv2);omega) (by have h9:=aU1 (m:=m) (pc:=pc) hs hv r1 r2 (show k<ss.length by omega);have h8:=al7 (ss.getD k cv2);omega) (by have h9:=aU1 (m:=m) (pc:=pc) hs hv r1 r2 (show k<ss.length by omega);have h8:=al7 (ss.getD k cv2);omega))) [0,1,2,3,4,5,7,8,9,10,11,12,54,55] (.dead::dI ars::dT ss::.dead::.box [.ref 12,.ref 1,.v (.slice none 0 0),.ref 6]::ao6::.row 98 (D.stmts (xB ars m pc vs bd ss k).snd)::(as8 ss k [.box (sL (ss.getD k cv2) 7),.row 3 (D.ints (m8 ars (ss.getD k cv2).body m pc ((xB ars m pc vs bd ss k).fst,[])).fst),dT (m8 ars (ss.getD k cv2).body m pc ((xB ars m pc vs bd ss k).fst,[])).snd])) (L9 m pc [(9,iA k),(10,.ptr 11 0),(11,.ref 13)]) fun G=>b6 (wp_seq (rA1 G f8 [0,1,2,3,4,5,7,8,9,10,11,12,70] (.dead::dI ars::dT ss::.dead::.box [.ref 11,.ref 1,.v (.slice none 0 0),.ref 12]::ao6::(as8 ss k [.box (sL (ss.getD k cv2) 6),.row 3 (D.ints (m8 ars (ss.getD k cv2).body m pc ((xB ars m pc vs bd ss k).fst,[])).fst),.row 98 (D.stmts ((xB ars m pc vs bd ss k).snd++([c5.mk 4 0 (c6.mk 0 0 []) (c6.mk 0 0 []) (ss.getD k cv2).count (m8 ars (ss.getD k cv2).body m pc ((xB ars m pc vs bd ss k).fst,[])).snd []]++[])))])) (L9 m pc [(9,iA k),(10,.ptr 10 0)]) (aP ((xB ars m pc vs bd ss k).snd.length+([c5.mk (4:Int) (0:Int) (c6.mk (0:Int) (0:Int) []) (c6.mk (0:Int) (0:Int) []) (ss.getD k cv2).count (m8 ars (ss.getD k cv2).body m pc ((xB ars m pc vs bd ss k).fst,[])).snd []]++[]).length) 152 []) (aK (by have h9:=aU1 (m:=m) (pc:=pc) hs hv r1 r2 (show k<ss.length by omega);have h8:=N4 (xB ars m pc vs bd ss k).2;simp only[cv9,cw2,cw6];omega) cx2) fun G=>b6 (wp_exit (v8 (v6 (b6 (rA1 G f8 [0,1,2,3,4,5,11,12] (ae8 ars ss [.row 3 (D.ints (m8 ars (ss.getD k cv2).body m pc ((xB ars m pc vs bd ss k).fst,[])).fst),.row 98 (D.stmts ((xB ars m pc vs bd ss k).snd++([c5.mk 4 0 (c6.mk 0 0 []) (c6.mk 0 0 []) (ss.getD k cv2).count (m8 ars (ss.getD k cv2).body m pc ((xB ars m pc vs bd ss k).fst,[])).snd []]++[])))]) (L9 m pc [(9,iA ((k:Int)+1))]) [wO ((k:Int)+1)] (o1 al) fun G=>?_))))))))))
   refine b6 ?_;exact U5 G (k+1) al al (rg 8) (by have e1:((xB ars m pc vs bd ss (k+1)).fst:List Int)=((m8 ars (ss.getD k cv2).body m pc ((xB ars m pc vs bd ss k).fst,[])).fst):=(cf0 al al);have e2:((xB ars m pc vs bd ss (k+1)).snd:List c5)=((xB ars m pc vs bd ss k).snd++([c5.mk 4 0 (c6.mk 0 0 []) (c6.mk 0 0 []) (ss.getD k cv2).count (m8 ars (ss.getD k cv2).body m pc ((xB ars m pc vs bd ss k).fst,[])).snd []]++[])):=(congrArg Prod.snd (cf1 al al));(first|rw[e1,e2]|simp only[e1,e2])<;>rfl)
  refine wp_seq (j9 G (w6 4 [6,1,7,8,9,10,11] (hF (ss.getD k cv2) ai ((aR3 hs al).1) ((aR3 hs al).2.1) ((aR3 hs al).2.2) al m pc ((xB ars m pc vs bd ss k).fst) ((xB ars m pc vs bd ss k).snd) (by have h9:=aU1 (m:=m) (pc:=pc) hs hv r1 r2 (show k<ss.length by omega);have h8:=al7 (ss.getD k cv2);omega) (by have h9:=aU1 (m:=m) (pc:=pc) hs hv r1 r2 (show k<ss.length by omega);have h8:=al7 (ss.getD k cv2);omega) (by have h9:=aU1 (m:=m) (pc:=pc) hs hv r1 r2 (show k<ss.length by omega);have h8:=al7 (ss.getD k cv2);omega))) [0,1,2,3,4,5,8,9,10,11,12,45,46] (.dead::dI ars::dT ss::.dead::.box [.ref 11,.ref 1,.v (.slice none 0 0),.ref 12]::ao6::(as8 ss k [.box (sL (ss.getD k cv2) 6),.row 3 (D.ints (J2 ars (ss.getD k cv2) m pc (xB ars m pc vs bd ss k)).fst),.row 98 (D.stmts (J2 ars (ss.getD k cv2) m pc (xB ars m pc vs bd ss k)).snd)])) (L9 m pc [(9,iA k),(10,.ptr 10 0)]) fun G=>b6 (wp_exit (v8 (v6 (b6 (rA1 G f8 [0,1,2,3,4,5,11,12] (ae8 ars ss [.row 3 (D.ints (J2 ars (ss.getD k cv2) m pc (xB ars m pc vs bd ss k)).fst),.row 98 (D.stmts (J2 ars (ss.getD k cv2) m pc (xB ars m pc vs bd ss k)).snd)]) (L9 m pc [(9,iA ((k:Int)+1))]) [wO ((k:Int)+1)] (o1 al) fun G=>b6 ?_))))));exact U5 G (k+1) al al (rg 8) (by have e1:((xB ars m pc vs bd ss (k+1)).fst:List Int)=((J2 ars (ss.getD k cv2) m pc (xB ars m pc vs bd ss k)).fst):=(congrArg Prod.fst (aL5 al));have e2:((xB ars m pc vs bd ss (k+1)).snd:List c5)=((J2 ars (ss.getD k cv2) m pc (xB ars m pc vs bd ss k)).snd):=(congrArg Prod.snd (aL5 al));(first|rw[e1,e2]|simp only[e1,e2])<;>rfl)
theorem bO3{ars vs:List Int}{m pc:Int}{ss:List c5}(h:j8.ok Tryz.prog (lbC ars m pc vs [] ss)):j8.ok Tryz.prog (lnC ars m pc vs ss):=
 j8.nilArg (pre:=[qI vs,dI ars,dT ss]) h 10 [0,1,2,4,5] rfl rfl rfl rfl rfl
theorem aP2(ars:List Int)(nv:Nat):∀(dd:Nat) (tt:List c5) (m pc:Int) (vs:List Int) (bd:List c5),tt.all (j5 nv ars.length dd)=true->nv<=vs.length->vs.length+4*i9 tt<=90000->i9 bd+130*i9 tt<=600000->j8.ok Tryz.prog (lbC ars m pc vs bd tt)
 | 0, tt, m, pc, vs, bd, hs, hv, r1, r2 => by
  have h0:tt=[]:=by
   cases tt with
   |nil=>rfl
   |cons a r=>simp[j5]at hs
  subst h0
  exact aX5 ars nv 0 [] rfl (fun _ _ _ _ _ h=>absurd h an) (fun _ _ _ _ _ _ h=>absurd h an) m pc vs bd hv r1 r2
 |dd+1,tt,m,pc,vs,bd,hs,hv,r1,r2=>by
  have hB:=aP2 ars nv dd
  have hI:∀(tt:List c5) (m pc:Int) (vs:List Int) (bd:List c5),tt.all (j5 nv ars.length dd)=true->nv<=vs.length->vs.length+4*i9 tt<=90000->130*i9 tt<=600000->j8.ok Tryz.prog (bZ2 ars m pc vs bd tt):=fun tt m pc vs bd h1 h2 h3 h4=>bB2 ars m pc vs bd tt (bO3 (hB tt m pc vs [] h1 h2 h3 (by simpa[i9]using h4)))
  exact aX5 ars nv dd tt hs (fun t k3 hh hbb hbe _ m pc vs bd hv r1 r2=>b80 ars nv dd t k3 hh hbb hbe hB hI m pc vs bd hv r1 r2) (fun tt m pc vs bd h1 _ h2 h3 h4=>hI tt m pc vs bd h1 h2 h3 h4) m pc vs bd hv r1 r2
abbrev bL0(p:f7):f7:=⟨(m8 p.arrays p.body (-1) 0 (p.vars,[])).1,p.arrays,(m8 p.arrays p.body (-1) 0 (p.vars,[])).2⟩
theorem ca1{p:f7}(h:(Y6 p false).1=0)(h2:m6 (bL0 p)=true):okL p=true:=b46 h h2
theorem ca0{p:f7}(h2:m6 (bL0 p)=false):okL p=false:=b47 h2
theorem cb0{p:f7}(h:(Y6 p false).1=0)(h2:m6 (bL0 p)=true):I9 p=bL0 p:=b48 (b46 h h2)
theorem ca9{p:f7}(h2:m6 (bL0 p)=false):I9 p=⟨[],[],[]⟩:=bw8 (b47 h2)
theorem bS2(p:f7)(hp:m6 p=true):j8.ok Tryz.prog (lnC p.arrays (-1) 0 p.vars p.body):=by
 have h:=af8 hp
 exact bO3 (aP2 p.arrays p.vars.length 5 p.body (-1) 0 p.vars [] (aB4 hp).2.2.2 (cv7 _) al (by simp only[i9];omega))
abbrev as7(r0:List (Nat×AV)):List (Nat×AV):=(1,.ptr 3 0)::(2,.ptr 4 0)::(3,bA false)::r0
theorem a42(p:f7)(hb:p.size<=1048576)(hp:¬(Y6 p false).1=0):j8.ok Tryz.prog ⟨40,[pA 0],pS p,pS p++pS (I9 p),.tup [pA 3,bA (okL p)]⟩:=by
 refine H9 43 Tryz.func40 [dI p.vars,dI p.arrays,dT p.body] [(0,pA 0)] fun G=>?_;have hno:=ci5 hp
 have hb1:i9 p.body<=1048576:=by unfold f7.size at hb;omega
 refine wp_seq (j9 G f8 [0,1,2,3,11] [dI p.vars,dI p.arrays,dT p.body,.box (pL 0),.box [.v (.slice none 0 0),.v (.slice none 0 0),.v (.slice none 0 0)]] (as7 []) fun G=>b6 (wp_seq (l8 G (w6 1 [0,1,2] (ab2 p.vars p.arrays p.body ai)) [(4,iA (Y6 (f7.mk p.vars p.arrays p.body) false).fst)] fun G=>b6 (wp_seq (wp_seq (G3 G f8 (as7 [(15,bA ((Y6 (f7.mk p.vars p.arrays p.body) false).fst !=0))]) fun G=>b6 ?_))))));cases h0:((Y6 (f7.mk p.vars p.arrays p.body) false).fst !=0)
 ·have q0:=bne_eq_false_iff_eq.1 h0;exact False.elim (hp ab)
 have q0:=bne_iff_ne.1 h0;refine rT G _ h0 (wp_seq (G3 G f8 (as7 []) fun G=>b6 (wp_ret (l7 ?_))));obtain⟨ρ,G⟩:=G.nil 5 0 (.ints []) 1 [dI p.vars,dI p.arrays,dT p.body,.box (pL 0),.box [.ref 5,.v (.slice none 0 0),.v (.slice none 0 0)]] (as7 []);obtain⟨ρ,G⟩:=G.nil 6 0 (.ints []) 1 [dI p.vars,dI p.arrays,dT p.body,.box (pL 0),.box [.ref 5,.ref 6,.v (.slice none 0 0)],.row 0 (D.ints [])] (as7 []);obtain⟨ρ,G⟩:=G.nil 7 0 (.stmts []) 10 [dI p.vars,dI p.arrays,dT p.body,.box (pL 0),.box (pL 5),.row 0 (D.ints []),.row 0 (D.ints [])] (as7 []);obtain⟨ρ,G⟩:=G.frz [.no,.no,.no,.no,.no,.row 0,.row 0,.row 0] [dI p.vars,dI p.arrays,dT p.body,.box (pL 0),.box (pL 5),dI [],dI [],dT []] (as7 []);exact Z1 (.tup [pA 5,bA false]) G [0,1,2,5,6,7] (by have e1:(okL p:Bool)=(false):=ai;(first|rw[e1]|simp only[e1])<;>rfl) (by show _=mR [0,1,2,5,6,7] [dI p.vars,dI p.arrays,dT p.body,dI (I9 p).vars,dI (I9 p).arrays,dT (I9 p).body];rw[bw8 hno]<;>rfl)
abbrev a11:It:=.box [.v (.slice none 0 0),.v (.slice none 0 0),.v (.slice none 0 0)]
abbrev az7(p:f7)(r0:List It):List It:=.row 3 (D.ints (m8 p.arrays p.body (-1) 0 (p.vars,[])).fst)::.row 3 (D.ints p.arrays)::.tree (D.stmts (m8 p.arrays p.body (-1) 0 (p.vars,[])).snd)::r0
abbrev N3(p:f7)(r0:List It):List It:=dI p.vars::dI p.arrays::dT p.body::r0
theorem a41(p:f7)(hb:p.size<=1048576)(hf:(Y6 p false).1=0):j8.ok Tryz.prog ⟨40,[pA 0],pS p,pS p++pS (I9 p),.tup [pA 3,bA (okL p)]⟩:=by
  have hpv:=ai8 hf;have hB:=bS2 p hpv;refine H9 43 Tryz.func40 (N3 p []) [(0,pA 0)] fun G=>?_;have hz:=bx1 (ai8 hf);have hv:=af8 (ai8 hf)
  have hzb:i9 (aP3 p).2<=1048576:=al
  have hsum:(aP3 p).1.length+p.arrays.length+i9 (aP3 p).2<=1048576:=al
  refine wp_seq (j9 G f8 [0,1,2,3,11] (N3 p [.box (pL 0),a11]) [(1,.ptr 3 0),(2,.ptr 4 0),(3,bA false)] fun G=>b6 (wp_seq (l8 G (w6 1 [0,1,2] (ab2 p.vars p.arrays p.body al)) [(4,iA (Y6 (f7.mk p.vars p.arrays p.body) false).fst)] fun G=>b6 (wp_seq (wp_seq (G3 G f8 [(1,.ptr 3 0),(2,.ptr 4 0),(3,bA false),(15,bA ((Y6 (f7.mk p.vars p.arrays p.body) false).fst !=0))] fun G=>b6 ?_))))));cases h0:((Y6 (f7.mk p.vars p.arrays p.body) false).fst !=0)
  ·
   have q0:=bne_eq_false_iff_eq.1 h0;refine rF G _ h0 (wp_skip (b6 (wp_seq (j9 G (w6 1 [0,1,2] (aq8 p.vars p.arrays p.body ai)) [0,1,2,4,13,14,15,21] (N3 p [a11,.row 3 (D.ints p.vars),.row 3 (D.ints p.arrays),.tree (D.stmts p.body),.box [.ref 4,.ref 5,.tref 6]]) [(2,.ptr 3 0),(3,bA false),(6,.ptr 7 0)] fun G=>b6 (wp_seq ?_)))));obtain⟨ρ,G⟩:=G.frz [.no,.no,.no,.no,.no,.row 3] (N3 p [.box [.v (.slice none 0 0),.v (.slice none 0 0),.v (.slice none 0 0)],.row 3 (D.ints p.vars),dI p.arrays,.tree (D.stmts p.body),.box [.ref 4,.ref 5,.tref 6]]) [(2,.ptr 3 0),(3,bA false),(6,.ptr 7 0)];obtain⟨ρ,G⟩:=G.frz [.no,.no,.no,.no,.no,.no,.tree] (N3 p [.box [.v (.slice none 0 0),.v (.slice none 0 0),.v (.slice none 0 0)],.row 3 (D.ints p.vars),dI p.arrays,dT p.body,.box (pL 4)]) [(2,.ptr 3 0),(3,bA false),(6,.ptr 7 0)];refine j9 G (w6 8 [4,5,6] hB) [0,1,2,3,5,72,73,80] (N3 p [a11,dI p.arrays,.row 3 (D.ints (m8 p.arrays p.body (-1) 0 (p.vars,[])).fst),.row 98 (D.stmts (m8 p.arrays p.body (-1) 0 (p.vars,[])).snd),.box [.ref 5,.ref 4,.v (.slice none 0 0),.ref 6]]) [(2,.ptr 3 0),(3,bA false),(7,.ptr 7 0)] fun G=>b6 (wp_seq ?_);obtain⟨ρ,G⟩:=G.frz [.no,.no,.no,.no,.no,.row 3] (N3 p [.box [.v (.slice none 0 0),.v (.slice none 0 0),.v (.slice none 0 0)],dI p.arrays,dI (m8 p.arrays p.body (-1) 0 (p.vars,[])).fst,.row 98 (D.stmts (m8 p.arrays p.body (-1) 0 (p.vars,[])).snd),.box [.ref 5,.ref 4,.v (.slice none 0 0),.ref 6]]) [(2,.ptr 3 0),(3,bA false),(7,.ptr 7 0)];obtain⟨ρ,G⟩:=G.frz [.no,.no,.no,.no,.no,.no,.row 98] (N3 p [.box [.v (.slice none 0 0),.v (.slice none 0 0),.v (.slice none 0 0)],dI p.arrays,dI (m8 p.arrays p.body (-1) 0 (p.vars,[])).fst,dT (m8 p.arrays p.body (-1) 0 (p.vars,[])).snd,.box [.ref 5,.ref 4,.v (.slice none 0 0),.ref 6]]) [(2,.ptr 3 0),(3,bA false),(7,.ptr 7 0)];refine j9 G (w6 9 [5,4,6] (aq8 ((m8 p.arrays p.body (-1) 0 (p.vars,[])).fst) p.arrays ((m8 p.arrays p.body (-1) 0 (p.vars,[])).snd) ai)) [0,1,2,3,80,81,82,88] (N3 p (a11::(az7 p [.box [.ref 4,.ref 5,.tref 6]]))) [(2,.ptr 3 0),(3,bA false),(8,.ptr 7 0)] fun G=>b6 (wp_seq (wp_seq (l8 G (w6 1 [4,5,6] (j8.lend (aj9 ((m8 p.arrays p.body (-1) 0 (p.vars,[])).fst) p.arrays ((m8 p.arrays p.body (-1) 0 (p.vars,[])).snd) ai) [.row 3,.row 3,.tree])) [(40,.v (.bool !m6 (f7.mk (m8 p.arrays p.body (-1) 0 (p.vars,[])).fst p.arrays (m8 p.arrays p.body (-1) 0 (p.vars,[])).snd)))] fun G=>b6 ?_)));cases h1:(!m6 (f7.mk (m8 p.arrays p.body (-1:Int) (0:Int) (p.vars,[])).fst p.arrays (m8 p.arrays p.body (-1:Int) (0:Int) (p.vars,[])).snd))
   · have q1:(m6 (f7.mk (m8 p.arrays p.body (-1) 0 (p.vars,[])).fst p.arrays (m8 p.arrays p.body (-1) 0 (p.vars,[])).snd))=true:=(Eq.mp (cy2 _) h1);refine rF G _ h1 (wp_skip (b6 (wp_seq (j9 G f8 (rg 7) (N3 p (.box [.ref 4,.ref 5,.tref 6]::(az7 p []))) [(2,.ptr 3 0),(3,bA true)] fun G=>b6 (wp_ret ?_)))));obtain⟨ρ,G⟩:=G.frz [.no,.no,.no,.no,.row 3,.row 3,.tree] (N3 p [.box (pL 4),dI (m8 p.arrays p.body (-1) 0 (p.vars,[])).fst,dI p.arrays,dT (m8 p.arrays p.body (-1) 0 (p.vars,[])).snd]) [(2,.ptr 3 0),(3,bA true)];exact Z1 (.tup [pA 4,bA true]) G [0,1,2,4,5,6] (by have e1:(okL p:Bool)=(true):=(ca1 hf ab);(first|rw[e1]|simp only[e1])<;>rfl) (by show _=mR [0,1,2,4,5,6] (N3 p [dI (I9 p).vars,dI (I9 p).arrays,dT (I9 p).body]);rw[cb0 hf ab]<;>rfl)
   have q1:(m6 (f7.mk (m8 p.arrays p.body (-1) 0 (p.vars,[])).fst p.arrays (m8 p.arrays p.body (-1) 0 (p.vars,[])).snd))=false:=(Eq.mp (cy0 _) h1);refine rT G _ h1 (wp_seq (G3 G f8 [(2,.ptr 3 0),(3,bA false),(8,.ptr 7 0)] fun G=>b6 (wp_ret (l7 ?_))));obtain⟨ρ,G⟩:=G.nil 8 0 (.ints []) 1 (N3 p (.box [.ref 8,.v (.slice none 0 0),.v (.slice none 0 0)]::(az7 p [.box [.ref 4,.ref 5,.tref 6]]))) [(2,.ptr 3 0),(3,bA false),(8,.ptr 7 0)];obtain⟨ρ,G⟩:=G.nil 9 0 (.ints []) 1 (N3 p (.box [.ref 8,.ref 9,.v (.slice none 0 0)]::(az7 p [.box [.ref 4,.ref 5,.tref 6],.row 0 (D.ints [])]))) [(2,.ptr 3 0),(3,bA false),(8,.ptr 7 0)];obtain⟨ρ,G⟩:=G.nil 10 0 (.stmts []) 10 (N3 p (.box (pL 8)::(az7 p [.box [.ref 4,.ref 5,.tref 6],.row 0 (D.ints []),.row 0 (D.ints [])]))) [(2,.ptr 3 0),(3,bA false),(8,.ptr 7 0)];obtain⟨ρ,G⟩:=G.frz [.no,.no,.no,.no,.no,.no,.no,.no,.row 0,.row 0,.row 0] (N3 p (.box (pL 8)::(az7 p [.box [.ref 4,.ref 5,.tref 6],dI [],dI [],dT []]))) [(2,.ptr 3 0),(3,bA false),(8,.ptr 7 0)];exact Z1 (.tup [pA 8,bA false]) G [0,1,2,8,9,10] (by have e1:(okL p:Bool)=(false):=(ca0 ab);(first|rw[e1]|simp only[e1])<;>rfl) (by show _=mR [0,1,2,8,9,10] (N3 p [dI (I9 p).vars,dI (I9 p).arrays,dT (I9 p).body]);rw[ca9 ab]<;>rfl)
  have q0:=bne_iff_ne.1 h0;exact False.elim (by exact absurd hf al)
theorem bi1(p:f7)(hb:p.size<=1048576):j8.ok Tryz.prog ⟨40,[pA 0],pS p,pS p++pS (I9 p),.tup [pA 3,bA (okL p)]⟩:=by
 by_cases hf:(Y6 p false).1=0
 ·exact a41 p hb hf
 exact a42 p hb hf
theorem aH6(p:f7)(hb:p.size<=1048576):j8.ok Tryz.prog ⟨14,[pA 0],pS p,pS p++[rI (cvP (I9 p)),rI (caP (I9 p)),rN (K8 (I9 p)).1],.tup [.agg [.ref 3,.ref 4,.ref 5],bA (okC (I9 p))]⟩:=by
 refine H9 18 Tryz.func14 [dI p.vars,dI p.arrays,dT p.body] [(0,pA 0)] fun G=>?_;have hz:=ca8 p
 have hz1:(I9 p).size<=1048576:=al
 refine wp_seq (j9 G f8 [0,1,2,3,11] [dI p.vars,dI p.arrays,dT p.body,.box (pL 0),.box [.v (.slice none 0 0),.v (.slice none 0 0),.v (.slice none 0 0)]] [(1,.ptr 3 0),(2,.ptr 4 0),(3,bA false)] fun G=>b6 (wp_seq (j9 G (w6 1 [0,1,2] (bi1 p ai)) [0,1,2,4,13,14,15,45] [dI p.vars,dI p.arrays,dT p.body,.box [.v (.slice none 0 0),.v (.slice none 0 0),.v (.slice none 0 0)],dI (I9 p).vars,dI (I9 p).arrays,dT (I9 p).body,.box (pL 4)] [(2,.ptr 3 0),(3,bA false),(4,.ptr 7 0),(5,bA (okL p))] fun G=>b6 (wp_seq (wp_seq (l8 G f8 [(12,.v (.bool !okL p))] fun G=>b6 ?_))))));cases h0:(!okL p)
 ·have q0:(okL p)=true:=(Eq.mp (cy2 _) h0);refine rF G _ h0 (wp_skip (b6 (wp_seq (j9 G (w6 1 [4,5,6] (aD4 (I9 p) ai)) [0,1,2,3,16,17,18] [dI p.vars,dI p.arrays,dT p.body,.box (pL 4),.row 3 (D.ints (cvP (I9 p))),.row 3 (D.ints (caP (I9 p))),.row 76 (D.instrs (K8 (I9 p)).fst)] [(2,.ptr 3 0),(3,bA (okC (I9 p)))] fun G=>b6 (wp_ret ?_)))));exact O8 G [0,1,2,4,5,6]
 have q0:(okL p)=false:=(Eq.mp (cy0 _) h0);refine rT G _ h0 (wp_seq (G3 G f8 [(2,.ptr 3 0),(3,bA false),(4,.ptr 7 0)] fun G=>b6 (wp_ret (l7 ?_))));obtain⟨ρ,G⟩:=G.nil 8 3 (.ints []) 1 [dI p.vars,dI p.arrays,dT p.body,.box [.ref 8,.v (.slice none 0 0),.v (.slice none 0 0)],dI (I9 p).vars,dI (I9 p).arrays,dT (I9 p).body,.box (pL 4)] [(2,.ptr 3 0),(3,bA false),(4,.ptr 7 0)];obtain⟨ρ,G⟩:=G.nil 9 3 (.ints []) 1 [dI p.vars,dI p.arrays,dT p.body,.box [.ref 8,.ref 9,.v (.slice none 0 0)],dI (I9 p).vars,dI (I9 p).arrays,dT (I9 p).body,.box (pL 4),.row 3 (D.ints [])] [(2,.ptr 3 0),(3,bA false),(4,.ptr 7 0)];obtain⟨ρ,G⟩:=G.nil 10 76 (.instrs []) 5 [dI p.vars,dI p.arrays,dT p.body,.box (pL 8),dI (I9 p).vars,dI (I9 p).arrays,dT (I9 p).body,.box (pL 4),.row 3 (D.ints []),.row 3 (D.ints [])] [(2,.ptr 3 0),(3,bA false),(4,.ptr 7 0)];exact Z1 (.tup [pA 8,bA false]) G [0,1,2,8,9,10] (by have e1:(okC (I9 p):Bool)=(false):=(by8 ab);(first|rw[e1]|simp only[e1])<;>rfl) (by show _=mR [0,1,2,8,9,10] [dI p.vars,dI p.arrays,dT p.body,.row 3 (D.ints (cvP (I9 p))),.row 3 (D.ints (caP (I9 p))),.row 76 (D.instrs (K8 (I9 p)).fst)];have e2:(caP (I9 p):List Int)=([]):=(by rw[cd3 (by8 ab)];done);have e3:((K8 (I9 p)).fst:List d8)=([]):=(by rw[aD0 (by8 ab)];done);rw[e2,e3,cc7 (by8 ab)]<;>rfl)
end Go.Proofs.YtfbeblgnjeokaaaGreat
