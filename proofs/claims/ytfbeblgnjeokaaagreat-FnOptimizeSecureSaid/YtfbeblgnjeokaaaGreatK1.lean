/- Part 1: functions on the way, plain laws. Conditions: as said. -/
import Derived.WalkKit
import Derived.ProofKit
import Derived.Handy
import Derived.WalkSmall
import Derived.Deep.QuietTactic
import Derived.BigQuiet
import Derived.StillTailTactics
import Derived.Deep.Quiet
import Derived.StillTail
import Derived.Test.YtfbeblgnjeokaaaGreatRows
import Derived.Maps.AppendAt
import Derived.ArgAppend
import Derived.Deep.Upon
set_option maxRecDepth 100000
set_option maxHeartbeats 16000000
set_option linter.unusedVariables false
set_option linter.unusedSimpArgs false
open Bool renaming true → V, false → U
open Option renaming some → Z, none → I
open Decidable renaming decide → Y
open Array renaming replicate → Jw
open Bool renaming and_eq_true → Aj, eq_iff_iff → GQ
open Int renaming toNat_natCast → Gb
open List renaming all_cons → IS, all_eq_true → Bt, append_assoc → Fj, eq_nil_of_length_eq_zero → FM, getElem?_append_left → Fb, getElem?_append_right → Ip, getElem?_eq_getElem → CF, getElem?_eq_none → FO, getElem?_eq_some_iff → EA, getElem?_replicate → LH, getElem?_set → IT, getElem_mem → EL, length_append → Az, length_cons → BK, length_nil → Bc, length_set → GP, map_cons → Fa, mem_append → DQ, mem_cons → Eb, mem_cons_of_mem → Ep, mem_cons_self → EI, mem_of_getElem? → FF, mem_range → GW, mem_singleton → Dw, not_mem_nil → It, range → DA, replicate → Ac, take → Ae, take_of_length_le → Dq
open Nat renaming add_zero → Fx, le_refl → BR, le_trans → DO, lt_of_lt_of_le → IM, lt_or_ge → Du, lt_succ_self → Jc, mul_le_mul_right → Iq, succ_mul → Ft, zero_add → GS, zero_le → Di
open True renaming intro → Ay

open List renaming length → J
open Go renaming wp_seq → B, wp_ret → AT, wp_skip → Aq, wp_block → BN
open Go.Proofs.Tryz
namespace Go.Proofs.YtfbeblgnjeokaaaGreat
theorem BD{p:Prop}(h:p):Go.RowKit.Hid p:=h
theorem AO{c:Prop}{h:Decidable c}(k:¬c){a:Type}{t e:a}:ite c t e=e:=if_neg k
theorem AZ{c:Prop}{h:Decidable c}(k:c){a:Type}{t e:a}:ite c t e=t:=if_pos k
theorem AY{p:Prop}(h:p:=by with_reducible assumption):p:=h
theorem LD{p:Prop}(h:p:=by exact .inl (by omega)):p:=h
theorem Ek{p:Prop}(h:p:=by simp[Op.operands]):p:=h
theorem CY{p:Prop}(h:p:=by simp;omega):p:=h
theorem Ab{p:Prop}(h:p:=by assumption):p:=h
theorem Au{p:Prop}(h:p:=by kernel_rfl):p:=h
theorem ED{p:Prop}(h:p:=by decide):p:=h
theorem O{p:Prop}(h:p:=by omega):p:=h
theorem At{p:Prop}(h:p:=by simp):p:=h
open Go Go.RowKit
def Cd(w:World)(v:Value)(n f:Nat)(e:List Value):Prop:=
 J e=n*f/\∃a c,v=.slice a n c/\n<=c/\c<=maxLen/\
  (0<n->∃b d,a=Z ⟨b,d,I⟩/\b<w.heap.size/\∀j u,e[j]? =Z u->w.cell? ⟨b,d+j,I⟩=Z u)
theorem JF{a c}(d:Below a.heap.size a c):(∀b o,b<a.heap.size->c.cell? ⟨b,o,I⟩=a.cell? ⟨b,o,I⟩)/\(∀b o,b<a.heap.size->c.frozen? ⟨b,o,I⟩=a.frozen? ⟨b,o,I⟩):=
 ⟨λb o h=>d.cell (p:=⟨b,o,I⟩) h,λb o h=>d.frozen (p:=⟨b,o,I⟩) h⟩
theorem Cd.below{w g}{v}{n k}{i}(h:Cd w v n k i)(f:Below w.heap.size w g):Cd g v n k i:=by
 obtain⟨r,a,e,rfl,o,p,l⟩:=h;refine⟨r,a,e,rfl,o,p,λs=>?_⟩
 obtain⟨b,d,rfl,c,m⟩:=l s;exact⟨b,d,rfl,IM c f.size,λj u q=>((JF f).1 b _ c).trans (m j u q)⟩
theorem Cd.len{w}{v}{n e}{xs}(h:Cd w v n e xs):n<=9223372036854775807:=by
 obtain⟨_,a,d,rfl,f,c,_⟩:=h;unfold maxLen at c;omega
theorem Cd.nil(w)(a):Cd w (.slice I 0 0) 0 a []:=⟨At,I,0,rfl,BR _,by unfold maxLen;omega,λh=>absurd h O⟩
theorem Cd.open{w}{v}{n e}{g}(h:Cd w v n e g):∃a c,v=.slice a n c/\n<=c/\n<=9223372036854775807/\c<=9223372036854775807/\
  ∀i,i<n->∃b d,a=Z ⟨b,d,I⟩/\b<w.heap.size/\∀j,j<e->w.cell? ⟨b,d+i*e+j,I⟩=g[i*e+j]? :=by
 obtain⟨q,a,c,rfl,l,o,m⟩:=h;unfold maxLen at o;refine⟨a,c,rfl,l,O,O,λi r=>?_⟩
 obtain⟨b,d,rfl,k,p⟩:=m O;refine⟨b,d,rfl,k,λj s=>?_⟩
 have f:i*e+j<J g:=by
  rw[q];have:=Iq e (Nat.succ_le_of_lt r);rw[Ft]at this;omega
 rw[CF f,Nat.add_assoc];exact p _ _ (CF f)
theorem Cd.form{w}{v}{n e}{c}(h:Cd w v n e c):∃a b,v=.slice a n b:=by
 obtain⟨_,a,b,d,_⟩:=h;exact⟨a,b,d⟩
theorem Cd.open1{w}{v}{n}{f}(h:Cd w v n 1 f):∃a c,v=.slice a n c/\n<=c/\n<=9223372036854775807/\c<=9223372036854775807/\
  ∀i,i<n->∃b d,a=Z ⟨b,d,I⟩/\b<w.heap.size/\w.cell? ⟨b,d+i,I⟩=f[i]? :=by
 obtain⟨a,c,m,g,l,k,q⟩:=h.open;refine⟨a,c,m,g,l,k,λi p=>?_⟩
 obtain⟨b,d,e,j,o⟩:=q i p;exact⟨b,d,e,j,by simpa using o 0 O⟩
theorem Tm{w}{a}{e:TypeId}{k}{v}{n}{i}(h:w.ownsRow a e k v n i):Cd w v n k i:=by
 refine⟨h.1,?_⟩;rcases h.2 with⟨rfl,rfl⟩|⟨g,c,q,rfl,m,l,f,d,o,r⟩
 ·exact⟨I,0,rfl,BR _,by unfold maxLen;omega,λh=>absurd h O⟩
 refine⟨Z ⟨g,0,I⟩,c,rfl,f,d,λ_=>⟨g,0,rfl,(Array.getElem?_eq_some_iff.1 l).1,λj u p=>?_⟩⟩
 have b:(⟨g,0,I⟩:Addr).add j=⟨g,0+j,I⟩:=by unfold Addr.add;split<;>simp_all
 rw[<-b];exact h.cells (g:=g) rfl j u p
theorem Qm{w k}{a m}{e:TypeId}{p}{v}{n}{o}(h:w.ownsRow a e p v n o)(q:Below m w k)(u:w.heap.size<=m):k.ownsRow a e p v n o:=by
 refine⟨h.1,?_⟩;rcases h.2 with t|⟨g,c,j,rfl,b,l,i,d,f,r⟩
 ·exact .inl t
 have s:g<w.heap.size:=(Array.getElem?_eq_some_iff.1 l).1;exact .inr ⟨g,c,j,rfl,b,(q.block g O).trans l,i,d,f,r⟩
theorem KX{w:World}{b a}{e:TypeId}{i}{v}{n}{f}(h:w.ownsRow b e i v n f)(l:a<=b):w.ownsRow a e i v n f:=by
 refine⟨h.1,?_⟩;rcases h.2 with k|⟨g,c,d,rfl,j,r⟩
 ·exact .inl k
 exact .inr ⟨g,c,d,rfl,O,r⟩
def CH(w:World)(lo hi:Nat)(e:TypeId)(d:Nat)(v:Value)(n:Nat)(b:List Value):Prop:=
 w.ownsRow lo e d v n b/\∀g,v.ownBlock=Z g->g<hi
structure ER(lo hi:Nat)(w w':World):Prop where
 os:w'.os=w.os
 tape:w'.tape=w.tape
 output:w'.output=w.output
 size:w.heap.size<=w'.heap.size
 block:∀k,k<w.heap.size->(k<lo\/hi<=k)->w'.heap[k]? =w.heap[k]?
theorem ER.refl(lo hi)(w):ER lo hi w w:=⟨rfl,rfl,rfl,BR _,λ_ _ _=>rfl⟩
theorem ER.trans{lo hi}{a b c}(h:ER lo hi a b)(k:ER lo hi b c):ER lo hi a c:=
 ⟨k.os.trans h.os,k.tape.trans h.tape,k.output.trans h.output,DO h.size k.size,λi hi f=>(k.block i (IM hi h.size) f).trans (h.block i hi f)⟩
theorem ER.wide{lo hi c d}{a b}(h:ER lo hi a b)(i:c<=lo)(j:hi<=d):ER c d a b:=
 ⟨h.os,h.tape,h.output,h.size,λk g l=>h.block k g O⟩
theorem ER.below{lo hi c}{a b}(h:ER lo hi a b)(g:c<=lo)(i:c<=a.heap.size):Below c a b:=
 ⟨h.os,h.tape,h.output,h.size,λk f=>h.block k O O⟩
theorem ER.of_below{lo hi c}{a b}(h:Below c a b)(g:a.heap.size<=c):ER lo hi a b:=
 ⟨h.os,h.tape,h.output,h.size,λk f _=>h.block k O⟩
theorem ER.setCell{lo hi}{a w}(h:ER lo hi a w){p}(d:lo<=p.block)(e:p.block<hi)(u):ER lo hi a (w.setCell p u):=
 h.trans ⟨rfl,rfl,rfl,by simp[World.setCell],λk _ f=>Below.heap_setCell _ _ _ _ O⟩
theorem CH.lt{w}{lo hi}{e:TypeId}{f}{v}{n}{d}(h:CH w lo hi e f v n d):∀g,v.ownBlock=Z g->lo<=g/\g<hi/\g<w.heap.size:=
 λg a=>⟨(h.1.lt g a).1,h.2 g a,(h.1.lt g a).2⟩
theorem CH.L{w}{lo hi}{e:TypeId}{b}{v}{n}{a}(h:CH w lo hi e b v n a):Cd w v n b a:=Tm h.1
theorem CH.mk'{w}{lo}{e:TypeId}{c}{v}{n}{a}(h:w.ownsRow lo e c v n a):CH w lo w.heap.size e c v n a:=
 ⟨h,λg d=>(h.lt g d).2⟩
theorem CH.wide{w}{lo hi a b}{e:TypeId}{i}{v}{n}{d}(h:CH w lo hi e i v n d)(j:a<=lo)(k:hi<=b):CH w a b e i v n d:=
 ⟨KX h.1 j,λg l=>IM (h.2 g l) k⟩
theorem CH.form{w}{lo hi}{e:TypeId}{i}{v}{n}{d}(h:CH w lo hi e i v n d):∃a b,v=.slice a n b:=by
 obtain⟨_,a,b,g,_⟩:=h.L;exact⟨a,b,g⟩
theorem CH.same{w w'}{lo hi}{e:TypeId}{k}{v}{n}{f}(h:CH w lo hi e k v n f)
  (m:∀g,v.ownBlock=Z g->w'.heap[g]? =w.heap[g]?):CH w' lo hi e k v n f:=by
 refine⟨⟨h.1.1,?_⟩,h.2⟩;rcases h.1.2 with o|⟨g,b,c,rfl,a,l,r⟩
 ·exact .inl o
 exact .inr ⟨g,b,c,rfl,a,(m g rfl).trans l,r⟩
theorem CH.keep{w b}{lo hi d}{e:TypeId}{i}{v}{n}{c}(h:CH w lo hi e i v n c)(j:Below d w b)(l:hi<=d):CH b lo hi e i v n c:=
 h.same λg k=>j.block g (by have:=h.lt g k;omega)
theorem CH.out{w f}{lo hi a b}{e:TypeId}{k}{v}{n}{i}(h:CH w lo hi e k v n i)(l:ER a b w f)(m:hi<=a\/b<=lo):CH f lo hi e k v n i:=
 h.same λg j=>l.block g (h.lt g j).2.2 (by have:=h.lt g j;omega)
theorem CH.open{w}{lo hi}{e:TypeId}{z}{v}{n}{f}(h:CH w lo hi e z v n f)(E:0<n):
  ∃g a,v=.slice (Z ⟨g,0,I⟩) n a/\lo<=g/\g<hi/\g<w.heap.size/\n<=a/\a<=maxLen/\(∀o,w.frozen? ⟨g,o,I⟩=U)/\∀j u,f[j]? =Z u->w.cell? ⟨g,j,I⟩=Z u:=by
 have x:=h.lt;rcases h.1.2 with⟨_,D⟩|⟨g,a,y,rfl,m,l,d,c,r,C⟩
 ·omega
 obtain⟨s,q,p⟩:=x g rfl;refine⟨g,a,rfl,s,q,p,d,c,λo=>?_,λj u t=>?_⟩
 ·simp only[World.frozen?,l];simp
 have b:(⟨g,0,I⟩:Addr).add j=⟨g,j,I⟩:=by unfold Addr.add;split<;>simp_all
 rw[<-b];exact h.1.cells (g:=g) rfl j u t
theorem CH.at{w}{lo hi}{e:TypeId}{s}{v}{n}{c}(h:CH w lo hi e s v n c){j}(q:j<J c):
  ∃g a,v=.slice (Z ⟨g,0,I⟩) n a/\lo<=g/\g<hi/\g<w.heap.size/\w.frozen? ⟨g,j,I⟩=U/\∃u,w.cell? ⟨g,j,I⟩=Z u:=by
 have r:0<n:=by
  rcases Nat.eq_zero_or_pos n with b|b
  ·subst b;have:=h.1.1;omega
  exact b
 obtain⟨g,a,l,o,p,i,_,_,m,k⟩:=h.open r;exact⟨g,a,l,o,p,i,m j,_,k j _ (CF q)⟩
theorem CH.setCell{w}{lo hi}{e:TypeId}{r}{n a g}{f}(h:CH w lo hi e r (.slice (Z ⟨g,0,I⟩) n a) n f){j}(_hj:j<J f)(u):
  CH (w.setCell ⟨g,j,I⟩ u) lo hi e r (.slice (Z ⟨g,0,I⟩) n a) n (f.set j u):=by
 refine⟨⟨by rw[GP];exact h.1.1,?_⟩,h.2⟩
 rcases h.1.2 with⟨b,_⟩|⟨v,q,l,b,c,m,k,d,i,s⟩
 ·cases b
 cases b
 refine .inr ⟨g,a,l.setIfInBounds j u,rfl,c,?_,k,d,by simpa using i,?_⟩
 ·have t:=(Array.getElem?_eq_some_iff.1 m).1
  simp only[World.setCell,Array.getElem?_modify];simp[m]
 rw[Array.toList_setIfInBounds,List.take_set,s]
theorem Dj{a b}(h:a=b):Ending.returned (.bool a)=.returned (.bool b):=by rw[h]
theorem KM{k}{a b}(h:a=b):Ending.returned (.int k a)=.returned (.int k b):=by rw[h]
theorem Gr{a:Type}(l:List a)(k)(h:k<J l):l.take (k+1)=l.take k++[l[k]]:=by
 rw[List.take_succ_eq_append_getElem h]
theorem eg{d:Type}{b a:List d}{k}(h:b.take k=a.take k)(c:k<J b)(e:k<J a)(f:b[k]=a[k]):b.take (k+1)=a.take (k+1):=by
 rw[Gr _ _ c,Gr _ _ e,h,f]
theorem gz{d:Type}{b a:List d}{k}(h:b.take k=a.take k)(c:J b<=k)(e:J a<=k):b=a:=by
 rw[Dq c,Dq e]at h;exact h
theorem tO{b:Type}(a:List b)(k)(u:b)(h:k<J a):(a.set k u).take (k+1)=a.take k++[u]:=by
 rw[Gr _ _ (by simpa using h),List.take_set_of_le (BR _)];simp
def Jp(z:List Value)(n:Nat):List Value:=(Ac n z).flatten
theorem XK(z)(n):(Jp z n).length=n*J z:=by simp[Jp]
theorem Up(z)(n):Jp [z] n=Ac n z:=by
 unfold Jp;induction n with
 |zero=>rfl
 |succ n a=>rw[List.replicate_succ,List.flatten_cons,a];rfl
theorem v5(z)(n)(_hz:0<z.size):madeCells z (n*z.size)=(Jp z.toList n).toArray:=by
 apply Array.ext
 ·simp[size_madeCells,XK]
 intro i g f;simp only[madeCells,Array.getElem_map,Array.getElem_range,List.getElem_toArray];have a:i<(Jp z.toList n).length:=by simpa using f
 have c:∀(m i:Nat),i<(Jp z.toList m).length->(Jp z.toList m)[i]? =Z (z[i%z.size]!):=by
  intro m;induction m with
  |zero=>intro i b;simp[Jp]at b
  | succ m d =>
   intro i b;have e:Jp z.toList (m+1)=z.toList++Jp z.toList m:=by simp[Jp,List.replicate_succ]
   rw[e];by_cases a:i<z.size
   ·rw[Fb (by simpa using a),Nat.mod_eq_of_lt a]
    simp[a]
   rw[Ip CY];have:=d (i-J z.toList) (by rw[e,Az]at b;rw[Array.length_toList]at b ⊢;omega)
   rw[this];congr 2;rw[Array.length_toList];exact(Nat.mod_eq_sub_mod O).symm
 have:=c n i a;rw[CF a]at this;exact(Option.some.inj this).symm
theorem eW{P}{t e:TypeId}{z}{a b}(g:P.underlying t=Z (.slice e))(l:(P.info? e).map (λi=>(i.zero,i.size,i.bytes))=Z (Z z,a,b))
  (c:z.cells.size=a) (k:0<a) (n:Nat) (o:b*n<=281474976710656) (m:n<=9223372036854775807):
  ∀w,(Instr.makeSlice t (.int .i64 n) (.int .i64 n)).run P w=.ok (.slice (Z ⟨w.heap.size,0,I⟩) n n) (w.alloc (.cells (Jp z.cells.toList n).toArray e)):=by
 intro w;obtain⟨i,h,j,d,f⟩:=info_parts l;have:=run_make (P:=P) w t e i z g h j .i64 .i64 n n O (Int.le_refl _) (by rw[f, <-Int.natCast_mul];omega) O
 rw[this];simp only[Gb,d];subst c;rw[v5 _ _ k]
theorem NH(w:World){g}(b)(n d)(e:TypeId)(c:g=w.heap.size)(a:b.size=n*d)(f:n<=9223372036854775807):
  CH (w.alloc (.cells b e)) w.heap.size (w.heap.size+1) e d (.slice (Z ⟨g,0,I⟩) n n) n b.toList:=by
 subst c;refine⟨⟨by simpa using a,.inr ⟨w.heap.size,n,_,rfl,BR _,heap_alloc_new w _,BR _,by unfold maxLen;omega,a,?_⟩⟩,λg c=>by cases c;exact Jc _⟩
 rw[<-a];exact Dq At
theorem jT(w:World)(z)(n b)(e:TypeId)(a:J z=b)(d:n<=9223372036854775807):
  CH (w.alloc (.cells (Jp z n).toArray e)) w.heap.size (w.heap.size+1) e b (.slice (Z ⟨w.heap.size,0,I⟩) n n) n (Jp z n):=by
 refine⟨⟨by rw[XK,a],.inr ⟨w.heap.size,n,_,rfl,BR _,heap_alloc_new w _,BR _,by unfold maxLen;omega,by simp[XK,a],?_⟩⟩,λg c=>by cases c;exact Jc _⟩
 have:(Jp z n).length=n*b:=by rw[XK,a]
 rw[<-this];simp
def DH(a:List Value)(p:Nat):List Value->List Value
 |[]=>a
 |u::r=>DH (a.set p u) (p+1) r
def World.setFrom(w:World)(g p:Nat):List Value->World
 |[]=>w
 |u::r=>World.setFrom (w.setCell ⟨g,p,I⟩ u) g (p+1) r
theorem Qi(Ad):∀a p,(DH a p Ad).length=J a:=by
 induction Ad with
 |nil=>intro a p;rfl
 |cons u r b=>intro a p;simp[DH,b]
theorem lS(Ad):∀a p,p+J Ad<=J a->(DH a p Ad).take (p+J Ad)=a.take p++Ad:=by
 induction Ad with
 |nil=>intro a p h;simp[DH]
 |cons u r b=>
  intro a p h;simp only[BK]at h;have:=b (a.set p u) (p+1) CY;simp only[DH,BK];rw[show p+(J r+1)=p+1+(J r) by omega,this,tO _ _ _ O]
  simp
theorem CH.setFrom{lo hi}{e:TypeId}{f n b g}(Ad):∀{w:World} {a:List Value} {p:Nat},CH w lo hi e f (.slice (Z ⟨g,0,I⟩) n b) n a->p+J Ad<=J a->
  CH (World.setFrom w g p Ad) lo hi e f (.slice (Z ⟨g,0,I⟩) n b) n (DH a p Ad):=by
 induction Ad with
 |nil=>intro w a p h _;exact h
 |cons u r j=>
  intro w a p h i;simp only[BK]at i;exact j (h.setCell O u) CY
theorem ER.setFrom{lo hi g}{a}(Ad):∀{w:World} {p:Nat},ER lo hi a w->lo<=g->g<hi->ER lo hi a (World.setFrom w g p Ad):=by
 induction Ad with
 |nil=>intro w p h _ _;exact h
 |cons u r f=>intro w p h d e;exact f (h.setCell d e u) d e
theorem qL{b g}{a}(Ad):∀{w:World} {p:Nat},Below b a w->b<=g->Below b a (World.setFrom w g p Ad):=by
 induction Ad with
 |nil=>intro w p h _;exact h
 |cons u r d=>intro w p h c;exact d (h.setCell c u) c
def Hm(u v:Value):Prop:=∀g,u.ownBlock=Z g->v.ownBlock≠Z g
theorem Hm.symm{u v}(h:Hm u v):Hm v u:=λg a b=>h g b a
theorem Oy{w l}{i f a b}{e p:TypeId}{s d}{v j}{n r}{m c}(h:CH w i f e s v n m)(q:CH l a b p d j r c)(t:f<=a\/b<=i):Hm v j:=by
 intro g k o;have:=h.lt g k;have:=q.lt g o;omega
theorem CH.disj{w f}{lo hi a b}{e:TypeId}{m}{v u}{n}{j}(h:CH w lo hi e m v n j)(o:ER a b w f)(p:∀g,a<=g->g<b->u.ownBlock=Z g)(q:Hm u v):CH f lo hi e m v n j:=
 h.same λg i=>o.block g (h.lt g i).2.2 (by
  rcases Du g a with c|c
  ·exact .inl c
  rcases Du g b with d|d
  ·exact absurd i (q g (p g c d))
  exact .inr d)
def Bl(w:World)(b:Nat)(a:List Value):Prop:=∃T,w.heap[b]? =Z (.cells a.toArray T (0,0))
theorem Bl.lt{w}{b}{a}(h:Bl w b a):b<w.heap.size:=by
 obtain⟨T,h⟩:=h;exact(Array.getElem?_eq_some_iff.1 h).1
theorem Bl.cell{w}{b}{a}(h:Bl w b a)(j):w.cell? ⟨b,j,I⟩=a[j]? :=by
 obtain⟨T,h⟩:=h;simp[World.cell?,h]
theorem Bl.free{w}{b}{a}(h:Bl w b a)(j):w.frozen? ⟨b,j,I⟩=false:=by
 obtain⟨T,h⟩:=h;simp only[World.frozen?,h];simp
theorem Bl.below{w a}{b d}{c}(h:Bl w b c)(e:Below d w a)(f:b<d):Bl a b c:=by
 obtain⟨T,h⟩:=h;exact⟨T,(e.block b f).trans h⟩
theorem Bl.out{w c}{b f d}{e}(h:Bl w b e)(g:ER f d w c)(i:b<f\/d<=b):Bl c b e:=by
 have a:=h.lt;obtain⟨T,h⟩:=h;exact⟨T,(g.block b a i).trans h⟩
theorem Bl.set{w}{b j}{a}(h:Bl w b a)(u):Bl (w.setCell ⟨b,j,I⟩ u) b (a.set j u):=by
 obtain⟨T,h⟩:=h;refine⟨T,?_⟩;simp only[World.setCell,Array.getElem?_modify];simp[h]
theorem Bl.other{w}{b}{p}{a}(h:Bl w b a)(c:b≠p.block)(u):Bl (w.setCell p u) b a:=by
 obtain⟨T,h⟩:=h;exact⟨T,(Below.heap_setCell _ _ _ _ c).trans h⟩
theorem Bl.new(w:World)(a)(T:TypeId):Bl (w.alloc (.cells a.toArray T)) w.heap.size a:=⟨T,heap_alloc_new w _⟩
theorem Bl.new'(w:World){b}(a)(T:TypeId)(c:b=w.heap.size):Bl (w.alloc (.cells a.toArray T)) b a:=by subst c;exact Bl.new w a T
theorem Bl.alloc{w}{b}{c}(h:Bl w b c)(o):Bl (w.alloc o) b c:=by
 have a:=h.lt;obtain⟨T,h⟩:=h;exact⟨T,(Below.heap_alloc w o b a).trans h⟩
theorem Bl.drew{w}{b}{a}(h:Bl w b a):Bl w.drew b a:=h
theorem ER.cell(w)(b j)(u):ER b (b+1) w (w.setCell ⟨b,j,I⟩ u):=
 ER.setCell (p:=⟨b,j,I⟩) (ER.refl b (b+1) w) (BR b) (Jc b) u
theorem CH.other{w}{lo hi}{e:TypeId}{f}{v}{n}{d}(h:CH w lo hi e f v n d){b}(g:b<lo\/hi<=b)(j)(u):CH (w.setCell ⟨b,j,I⟩ u) lo hi e f v n d:=
 h.out (ER.cell w b j u) O
def _root_.Go.World.ext(w X:World):World:={w with heap:=w.heap++X.heap,drawn:=X.drawn}
theorem Jy(w)(X):Below w.heap.size w (w.ext X):=
 ⟨rfl,rfl,rfl,by simp[World.ext],λk a=>by simp only[World.ext];rw[Array.getElem?_append_left a]⟩
theorem ej{w w'}(h:Below w.heap.size w w'):∃X,w'=w.ext X:=by
 refine⟨{w' with heap:=w'.heap.extract w.heap.size w'.heap.size},?_⟩
 obtain⟨c,f,d,k,g⟩:=h
 have j:w'.heap=w.heap++w'.heap.extract w.heap.size w'.heap.size:=by
  apply Array.ext_getElem?;intro i;rcases Du i w.heap.size with b|b
  ·rw[Array.getElem?_append_left b,g i b]
  rw[Array.getElem?_append_right b,Array.getElem?_extract];split
  ·rw[show w.heap.size+(i-w.heap.size)=i by omega]
  rename_i e
  rw[Array.getElem?_eq_none];simp at e;omega
 cases w;cases w'
 simp only[World.ext]at*;subst c f d;rw[<-j]
theorem FN{w:World}{b o}{v}(h:w.cell? ⟨b,o,I⟩=Z v)(X):(w.ext X).cell? ⟨b,o,I⟩=Z v:=by
 have a:b<w.heap.size:=World.block_lt_of_cell? w ⟨b,o,I⟩ h;rw[(JF (Jy w X)).1 b o a];exact h
theorem Calls.ext_of'{P}{f}{a}{w:World}{X}{v}
  (h:Calls P f a (w.ext X) λe d=>e=.returned v/\Below (w.ext X).heap.size (w.ext X) d):Calls P f a (w.ext X) λe b=>e=.returned v/\∃i,b=w.ext i:=
 h.mono λ_ _ ⟨g,c⟩=>⟨g,ej ((Jy w X).trans (c.mono (Jy w X).size))⟩
theorem So{P}{id}{Q}{a}{w}{l}(c:P.follows .mixedOrders=V)(d:Region.lexB .any l.toArray=V)
  (h:wpQuiet P l.toArray (λb=>∃X,b=w.ext X) (λe=>∀b,(∃X,b=w.ext X)->Q .normal e b) l a):(Code.region id l.toArray V).wp P Q a w:=
 wp_region_quiet (C:=λb=>∃X,b=w.ext X) c d (ej (w':=w.drew) (Below.refl _ _).drew) (by simpa using h)
theorem fu{P}{f}{b}{c}(h:P.funcs[f]? =Z b)(g:(b.name== "runtime.NumGoroutine")=U)(e:b.body=Z c):
  ∀a w,(callFunc f a).run P w=.ok (.enter f a) w:=by
 intro a w;have d:b.name≠ "runtime.NumGoroutine" :=by simpa using g
 simp[callFunc,h,d,e,mark]
end Go.Proofs.YtfbeblgnjeokaaaGreat

namespace Go.Proofs.YtfbeblgnjeokaaaGreat
theorem ND{a:Type}(l:List a)(k)(h:k<J l):l.take (k+1)=l.take k++[l[k]]:=by
 rw[List.take_succ_eq_append_getElem h]
theorem kQ{a:Type}(p:a->Bool)(l:List a)(k)(h:k<J l):(l.take (k+1)).all p=((l.take k).all p&&p l[k]):=by
 rw[ND l k h,List.all_append];simp
theorem YE{a:Type}{p:a->Bool}{l:List a}{k}(h:k<J l)(b:p l[k]=U):l.all p=false:=by
 rw[List.all_eq_false];exact⟨l[k],EL h,by simp[b]⟩
structure AV where
 op:Int
 a:Int
 b:Int
 c:Int
 d:Int
def AV.l(x:AV):List Int:=[x.op,x.a,x.b,x.c,x.d]
def De:List AV->List Int
 |[]=>[]
 |x::r=>x.op::x.a::x.b::x.c::x.d::De r
theorem R2(l):(De l).length=J l*5:=by
 induction l with
 |nil=>rfl
 |cons x r a=>simp[De,a];omega
theorem AV.ext'{x y:AV}(h:x.l=y.l):x=y:=by
 cases x;cases y;simp[AV.l]at h;simp[h]
theorem bc:∀{l m:List AV},De l=De m->l=m
 |[],[],_=>rfl
 |[],_::_,h=>by simp[De]at h
 |_::_,[],h=>by simp[De]at h
 |x::r,y::s,h=>by
  simp only[De,List.cons.injEq]at h;obtain⟨a,d,b,c,e,f⟩:=h;rw[bc f,AV.ext' (x:=x) (y:=y) (by simp[AV.l,a,d,b,c,e])]
theorem lx(l m):De (l++m)=De l++De m:=by
 induction l with
 |nil=>rfl
 |cons x r a=>simp[De,a]
theorem oD(l)(i)(e:i<J l):(De l)[i*5]? =Z l[i].op/\(De l)[i*5+1]? =Z l[i].a/\(De l)[i*5+2]? =Z l[i].b/\(De l)[i*5+3]? =Z l[i].c/\(De l)[i*5+4]? =Z l[i].d:=by
 induction l generalizing i with
 |nil=>simp at e
 | cons x r f =>
  cases i with
  |zero=>simp[De]
  |succ i=>
   rw[Ft];have:=f i (by simpa using e)
   simpa[De,Nat.add_assoc]using this
structure BY where
 s:List Int
 r:List Int
 l:List AV
def BY.size(c:BY):Nat:=J c.s+J c.r+J c.l
def BY.same(c d:BY):Bool:=Y (c.s=d.s)&&Y (c.r=d.r)&&Y (De c.l=De d.l)
theorem BY.same_eq{c d:BY}:c.same d=V↔c=d:=by
 cases c;cases d
 simp only[BY.same,Aj,decide_eq_true_eq,BY.mk.injEq];constructor
 ·rintro⟨⟨rfl,rfl⟩,h⟩;exact⟨rfl,rfl,bc h⟩
 rintro⟨rfl,rfl,rfl⟩;exact⟨⟨rfl,rfl⟩,rfl⟩
theorem BY.same_refl(c:BY):c.same c=true:=BY.same_eq.2 rfl
def Af(l:Int):Bool:=Y (0<=l)&&Y (l<=3)
def Gf(b a:List Int):Bool:=b.all Af&&a.all Af&&Y (1<=J b)&&Y (J b<=12)&&Y (J a<=2)
def OQ(c:BY)(a:UInt8)(n:Int):Bool:=
 if a=114 then Y (0<=n)&&Y (n<14)
 else if a=99 then Y (0<=n)&&Y (n<=255)
 else if a=118 then Y (0<=n)&&Y (n<J c.s)
 else if a=97 then Y (0<=n)&&Y (n<J c.r)
 else if a=111 then Y (4<=n)&&Y (n<=10)
 else Y (0<=n)&&Y (n<J c.l)
def FU(a:Int):List UInt8:=
 if a=1 then [114,99]else if a=2 then [114,118]else if a=3 then [118,114]else if a=4 then [114,97,114]else if a=5 then [97,114,114]
 else if a=6 then [114,111,114,114]else if a=7 then [114,114,114,114]else if a=8 then [116]else if a=9 then [114,116]else if a=10 then [114,116]
 else if a=11 then [114]else []
def LV(c:BY)(a:List UInt8)(k:Nat)(n:Int):Bool:=
 match a[k]? with
 |some b=>OQ c b n
 |none=>Y (n=0)
def Ev(c:BY)(x:AV):Bool:=
 Y (1<=x.op)&&Y (x.op<=13)&&(LV c (FU x.op) 0 x.a&&LV c (FU x.op) 1 x.b&&LV c (FU x.op) 2 x.c&&LV c (FU x.op) 3 x.d)
def Pj(c:BY):Bool:=match c.l.getLast? with|some x=>Y (x.op=13)||Y (x.op=8)|none=>U
def Bp(c:BY):Bool:=Gf c.s c.r&&Y (1<=J c.l)&&Y (J c.l<=400)&&c.l.all (Ev c)&&Pj c
def NL(c:BY)(a:UInt8)(n:Int):Bool:=
 if a=114 then Y (0<=n)&&Y (n<=13)
 else if a=118 then Y (0<=n)&&Y (n<=(J c.s:Int)-1)
 else if a=97 then Y (0<=n)&&Y (n<=(J c.r:Int)-1)
 else if a=110 then Y (0<=n)&&Y (n<=255)
 else if a=111 then Y (4<=n)&&Y (n<=10)
 else if a=105 then Y (0<=n)&&Y (n<=(J c.l:Int)-1)
 else Y (n=0)
def Kv(a:Int):List UInt8:=
 if a=1 then [114,110,45,45]else if a=2 then [114,118,45,45]else if a=3 then [118,114,45,45]else if a=4 then [114,97,114,45]else if a=5 then [97,114,114,45]
 else if a=6 then [114,111,114,114]else if a=7 then [114,114,114,114]else if a=8 then [105,45,45,45]else if a=9 then [114,105,45,45]else if a=10 then [114,105,45,45]
 else if a=11 then [114,45,45,45]else if a=12 then [45,45,45,45]else if a=13 then [45,45,45,45]else []
def Nm(c:BY)(b:List UInt8)(a:List Int)(k:Nat):Bool:=(DA k).all λj=>NL c (b.getD j 0) (a.getD j 0)
theorem nC(c)(b)(a)(k):Nm c b a (k+1)=(Nm c b a k&&NL c (b.getD k 0) (a.getD k 0)):=by
 simp[Nm,List.range_succ]
theorem V1{c}{b}{a}{k}(n)(d:k<n)(h:NL c (b.getD k 0) (a.getD k 0)=U):Nm c b a n=false:=by
 unfold Nm;rw[List.all_eq_false];exact⟨k,by simpa using d,by simpa using h⟩
theorem tq{a}(h:¬(1<=a/\a<=13)):Kv a=[]:=by
 unfold Kv;repeat(rw[AO O])
theorem us{a}(h:1<=a/\a<=13):(Kv a).length=4:=by
 have b:a=1\/a=2\/a=3\/a=4\/a=5\/a=6\/a=7\/a=8\/a=9\/a=10\/a=11\/a=12\/a=13:=O;rcases b with rfl|rfl|rfl|rfl|rfl|rfl|rfl|rfl|rfl|rfl|rfl|rfl|rfl<;>rfl
theorem xF(c)(x)(h:1<=x.op/\x.op<=13):Ev c x=Nm c (Kv x.op) [x.a,x.b,x.c,x.d] 4:=by
 have e:Nm c (Kv x.op) [x.a,x.b,x.c,x.d] 4=(NL c ((Kv x.op).getD 0 0) x.a&&NL c ((Kv x.op).getD 1 0) x.b&&NL c ((Kv x.op).getD 2 0) x.c&&NL c ((Kv x.op).getD 3 0) x.d):=by
  show Nm c _ _ (0+1+1+1+1)=_;simp only[nC];simp[Nm]
 rw[e];unfold Ev;rw[decide_eq_true h.1,decide_eq_true h.2];have f:x.op=1\/x.op=2\/x.op=3\/x.op=4\/x.op=5\/x.op=6\/x.op=7\/x.op=8\/x.op=9\/x.op=10\/x.op=11\/x.op=12\/x.op=13:=O;rcases f with f|f|f|f|f|f|f|f|f|f|f|f|f<;>
 ·rw[f,GQ]
  simp[FU,Kv,LV,OQ,NL]
  try omega
def CL(x:AV):Int:=if x.op=8 then x.a else if x.op=9\/x.op=10 then x.b else -1
def Fv(x:AV)(i:Int):List Int:=if x.op=13 then []else if x.op=8 then [x.a]else if x.op=9\/x.op=10 then [i+1,x.b]else [i+1]
def ME(x:AV)(i:Int):List Int:=(if 0<=CL x then [CL x]else [])++(if x.op≠8/\x.op≠13 then [i+1]else [])
def Cz(c:BY)(t:Int):List Int:=match c.l[t.toNat]? with|some x=>Fv x t|none=>[]
theorem VO{c}{t}(h:t.toNat<J c.l):Cz c t=Fv c.l[t.toNat] t:=by simp[Cz,h]
theorem Hj{c}(h:Bp c=V):Gf c.s c.r=V/\1<=J c.l/\(J c.l)<=400/\(∀(i:Nat) (a:i<J c.l),Ev c c.l[i]=V)/\Pj c=true:=by
 unfold Bp at h;simp only[Aj,decide_eq_true_eq,Bt]at h;obtain⟨⟨⟨⟨b,e⟩,d⟩,g⟩,f⟩:=h;exact⟨b,e,d,λi a=>g _ (EL a),f⟩
theorem Vn{c}{x}(h:Ev c x=V)(a:x.op=8\/x.op=9\/x.op=10):0<=CL x/\CL x<J c.l:=by
 unfold Ev at h;simp only[Aj,decide_eq_true_eq]at h;obtain⟨_,⟨⟨d,b⟩,_⟩,_⟩:=h;rcases a with a|a|a
 ·rw[a]at d
  simp[FU,LV,OQ]at d;simp[CL,a];omega
 ·rw[a]at b
  simp[FU,LV,OQ]at b;simp[CL,a];omega
 rw[a]at b;simp[FU,LV,OQ]at b;simp[CL,a];omega
theorem rd{c}(h:Bp c=V)(i)(e:i<J c.l)(f:c.l[i].op≠13)(g:c.l[i].op≠8):i+1<J c.l:=by
 obtain⟨_,j,_,_,b⟩:=Hj h;rcases Du (i+1) (J c.l)with a|d
 ·exact a
 exfalso;unfold Pj at b;rw[List.getLast?_eq_getElem?,show(J c.l)-1=i by omega,CF e]at b
 simp at b;omega
theorem Py{c}(h:Bp c=V){i t}(m:0<=i)(a:t∈Cz c i):0<=t/\t<J c.l:=by
 by_cases d:i.toNat<J c.l
 ·rw[VO d]at a
  have k:=(Hj h).2.2.2.1 _ d;have j:=rd h _ d;have e:=Vn k;unfold Fv at a;unfold CL at e;generalize c.l[i.toNat]=x at*;by_cases b:x.op=13
  ·simp[b]at a
  by_cases f:x.op=8
  ·simp[f]at a e
   omega
  have:=j b f;by_cases g:x.op=9\/x.op=10
  ·simp only[AO b,AO f,AZ g,Eb,It,or_false]at a e
   rcases a with rfl|rfl
   ·omega
   exact e (.inr g)
  simp only[AO b,AO f,AO g,Eb,It,or_false]at a;omega
 unfold Cz at a;rw[FO O]at a;simp at a
theorem O2{c}{x}(h:Ev c x=V)(i t):t∈ME x i↔t∈Fv x i:=by
 have j:=Vn h;unfold ME Fv;by_cases a:x.op=13
 ·simp[a,CL]
 by_cases d:x.op=8
 ·have g:=j (.inl d)
  simp[d,CL]at g ⊢;omega
 by_cases f:x.op=9\/x.op=10
 ·have g:=j (.inr f)
  have e:CL x=x.b:=by simp[CL,d,f]
  rw[e]at g ⊢;simp only[AO a,AO d,AZ f,AZ g.1,AZ (show x.op≠8/\x.op≠13 from⟨d,a⟩)];simp[Or.comm]
 have e:CL x= -1:=by simp[CL,d,f]
 rw[e];simp[a,d,f]
theorem x8(x)(i):(ME x i).length<=2:=by
 unfold ME;rw[Az];split<;>split<;>simp
inductive Fg(c:BY):Int->Prop
 |zero:Fg c 0
 |step {i t:Int}:Fg c i->t∈Cz c i->Fg c t
noncomputable def JN(c:BY):List Bool:=(DA (J c.l)).map fun(j:Nat)=> @decide (Fg c (j:Int)) (Classical.propDecidable _)
theorem Fg.nonneg{c}(h:Bp c=V){t}(a:Fg c t):0<=t:=by
 induction a with
 |zero=>omega
 |step _ d b=>exact(Py h b d).1
theorem tb{c}(n:Bp c=V){a}(p:J a=J c.l)(m:∀j:Nat,a[j]? =Z V->Fg c j)(o:a[0]? =Z V)
  (d:∀j:Nat,a[j]? =Z V->∀t∈Cz c j,a[t.toNat]? =Z V):a=JN c:=by
 have f:∀t:Int,Fg c t->a[t.toNat]? =Z true:=by
  intro t g;induction g with
  |zero=>exact o
  | @step i t q g r=>
   have u:=Fg.nonneg n q;exact d i.toNat r t (by rw[show((i.toNat:Nat):Int)=i by omega];exact g)
 apply List.ext_getElem
 ·simp[JN,p]
 intro j h s;have e:(JN c)[j]= @decide (Fg c (j:Int)) (Classical.propDecidable _):=by simp[JN]
 rw[e];by_cases b:Fg c (j:Int)
 ·have:=f _ b
  rw[Gb,CF h]at this;simp only[Option.some.injEq]at this;rw[this];simp[b]
 cases k:a[j]
 ·simp[b]
 exact absurd (m j (by rw[CF h,k])) b
theorem TK{bs:List Bool}{k}(h:bs[k]? =Z U):(bs.set k V).count U+1=bs.count false:=by
 induction bs generalizing k with
 |nil=>simp at h
 | cons b r c =>
  cases k with
  |zero=>simp at h;subst h;simp
  |succ k=>
   simp at h;have:=c h;simp only[List.set_cons_succ,List.count_cons];omega
theorem uE{a:List Bool}{k j:Nat}(h:a[j]? =Z V):(a.set k V)[j]? =Z true:=by
 rw[IT];split
 ·rename_i e;subst e
  have:=(EA.1 h).1;simp[this]
 exact h
theorem Ym{a:List Bool}{k j}(h:(a.set k V)[j]? =Z V):j=k\/a[j]? =Z true:=by
 rw[IT]at h;split at h
 ·rename_i e;exact .inl e.symm
 exact .inr h
theorem gY{a}{k}(h:k<J a):(a.set k V)[k]? =Z true:=by simp[h]
structure fI(c:BY)(qs:List Int)(bs:List Bool):Prop where
 len:J bs=J c.l
 cnt:J qs+bs.count U=J c.l
 q:∀t∈qs,0<=t/\t<J c.l/\Fg c t
 sound:∀j:Nat,bs[j]? =Z V->Fg c j
 inq:∀j:Nat,bs[j]? =Z V->(j:Int)∈qs
 zero:bs[0]? =Z V
theorem fI.start{c}(d:Bp c=V):fI c [0] ((Ac (J c.l) U).set 0 V):=by
 have e:=(Hj d).2.1
 have a:∀j:Nat,((Ac (J c.l) U).set 0 V)[j]? =Z V->j=0:=by
  intro j h;rcases Ym h with h|h
  ·exact h
  rw[LH]at h;split at h<;>simp at h
 refine⟨At,?_,?_,?_,?_,?_⟩
 ·have:=TK (bs:=Ac (J c.l) U) (k:=0) (by rw[LH,AZ O])
  simp at this ⊢;omega
 ·intro t b
  simp at b;subst b;exact⟨O,O,.zero⟩
 ·intro j h;rw[a j h];exact .zero
 ·intro j h;rw[a j h];simp
 exact gY CY
def sX(c:BY)(b:List Int)(a:List Bool)(i:Nat):Prop:=∀(m:Nat) (u:Int),m<i->b[m]? =Z u->∀t∈Cz c u,a[t.toNat]? =Z V
theorem sX.done{c}(f:Bp c=V){b}{d}(h:fI c b d)(a:sX c b d (J b)):d=JN c:=by
 refine tb f h.len h.sound h.zero λj g t k=>?_
 obtain⟨m,e,i⟩:=List.getElem_of_mem (h.inq j g);exact a m j e (by rw[CF e,i]) t k
structure Md(c:BY)(ls:List Int)(bs:List Bool):Prop where
 len:J bs=J c.l
 cnt:J ls+2*bs.count U<=2*J c.l+1
 l:∀t∈ls,0<=t/\t<J c.l/\Fg c t
 sound:∀j:Nat,bs[j]? =Z V->Fg c j
 zero:bs[0]? =Z V\/(0:Int)∈ls
 clos:∀j:Nat,bs[j]? =Z V->∀t∈Cz c j,bs[t.toNat]? =Z V\/t∈ls
theorem Md.start{c}(b:Bp c=V):Md c [0] (Ac (J c.l) U):=by
 have d:=(Hj b).2.1;refine⟨At,CY,?_,?_,.inr At,?_⟩
 ·intro t a
  simp at a;subst a;exact⟨O,O,.zero⟩
 ·intro j h;rw[LH]at h;split at h<;>simp at h
 intro j h;rw[LH]at h;split at h<;>simp at h
theorem Md.skip{c}{g}{i}{d}(h:Md c (g++[i]) d)(f:d[i.toNat]? =Z V):Md c g d:=by
 refine⟨h.len,by have:=h.cnt;simp at this;omega,λt e=>h.l t (List.mem_append_left _ e),h.sound,?_,?_⟩
 ·rcases h.zero with b|b
  ·exact .inl b
  rcases DQ.1 b with b|b
  ·exact .inr b
  simp at b;subst b;exact .inl f
 intro j k t e;rcases h.clos j k t e with a|a
 ·exact .inl a
 rcases DQ.1 a with a|a
 ·exact .inr a
 simp at a;subst a;exact .inl f
theorem Md.mark{c}(q:Bp c=V){p}{i}{k}(h:Md c (p++[i]) k)(o:k[i.toNat]? =Z U){a}(s:J a<=2)(r:∀t,t∈a↔t∈Cz c i):
  Md c (p++a) (k.set i.toNat V):=by
 have m:=h.l i At;have g:i.toNat<J k:=(EA.1 o).1;refine⟨by simp[h.len],?_,?_,?_,?_,?_⟩
 ·have:=TK o
  have:=h.cnt;simp at this ⊢;omega
 ·intro t b
  rcases DQ.1 b with b|b
  ·exact h.l t (List.mem_append_left _ b)
  have n:=(r t).1 b;exact⟨(Py q m.1 n).1,(Py q m.1 n).2,.step m.2.2 n⟩
 ·intro j f
  rcases Ym f with rfl|f
  ·rw[show((i.toNat:Nat):Int)=i by omega];exact m.2.2
  exact h.sound j f
 ·rcases h.zero with e|e
  ·exact .inl (uE e)
  rcases DQ.1 e with e|e
  ·exact .inr (List.mem_append_left _ e)
  simp at e;subst e;exact .inl (gY g)
 intro j f t b;rcases Ym f with rfl|f
 ·rw[show((i.toNat:Nat):Int)=i by omega]at b
  exact .inr (List.mem_append_right _ ((r t).2 b))
 rcases h.clos j f t b with d|d
 ·exact .inl (uE d)
 rcases DQ.1 d with d|d
 ·exact .inr (List.mem_append_left _ d)
 simp at d;subst d;exact .inl (gY g)
theorem Md.done{c}(e:Bp c=V){d}(h:Md c [] d):d=JN c:=by
 refine tb e h.len h.sound ?_ λj f t g=>?_
 ·rcases h.zero with b|b
  ·exact b
  simp at b
 rcases h.clos j f t g with a|a
 ·exact a
 simp at a
end Go.Proofs.YtfbeblgnjeokaaaGreat

namespace Go.Proofs.YtfbeblgnjeokaaaGreat
open Go Go.RowKit
section
variable{P:Program}{md:Region.Mode}{C:World->Prop}
def Im(o:Oper):Oper:={o with op:=.move (.const (.bool U)),guard:=I}
theorem vz{c a}(f:a.size=c.size)(h:∀i:Nat,(a[i]?).map (·.after)=(c[i]?).map (·.after))(b):Region.ready md a b=Region.ready md c b:=by
 unfold Region.ready;rw[f];refine List.filter_congr λi _=>?_
 have:=h i;cases d:a[i]? <;>cases e:c[i]? <;>simp[d,e]at this ⊢
 rw[this]
def gf(a:Array Oper):Bool:=(DA a.size).all λj=>(a[j]?).any λo=>o.after.all λe=>Y (e.on<j)
theorem u8{b}(n:gf b=V){a}(o:a.size=b.size):∀k,k<b.size->a.getD k V=U->Region.ready md b a≠[]:=by
 intro k;induction k using Nat.strongRecOn with
 | _ k r =>
  intro i q m;by_cases c:∃j,j<k/\a.getD j V=U
  ·obtain⟨j,p,h⟩:=c
   exact r j p O h m
  have d:b[k]? =Z b[k]:=Array.getElem?_eq_getElem i
  have:k∈Region.ready md b a:=by
   refine mem_ready.2 ⟨q,b[k],d,λe s _=>?_⟩
   have f:=Bt.1 n k (GW.2 i);rw[d]at f;simp only[Option.any_some]at f;have l:=Array.all_eq_true'.1 f e s;simp only[decide_eq_true_eq]at l;cases g:a.getD e.on V
   ·exact absurd ⟨e.on,l,g⟩ c
   have:e.on<a.size:=O;simp[this]at g ⊢;exact g
  rw[m]at this;cases this
theorem x7{c b}{i}{Q}{d}{a}{w}(h:b[i]? =c[i]?)(f:yielded b a.tmps=yielded c a.tmps)
  (e:wpOp P b Q i d a w):wpOp P c Q i d a w:=by
 unfold wpOp at*;rw[h,f]at e;exact e
theorem Zq{a:Array Bool}{i}(h:a.getD i V=U):(a.setIfInBounds i V).toList.count U+1=a.toList.count false:=by
 rw[Array.toList_setIfInBounds];refine TK ?_;rcases Du i a.size with b|b
 ·simp[b]at h ⊢;exact h
 simp[Array.getElem?_eq_none b]at h
theorem X8{c}{n}{o}(hn:c.size=n+1)(ho:c[n]? =Z o)(u:o.dst=I)(hs:Region.sinkB md c n=V)(hc:Region.chainB md c n=V)(hb:gf c=V)
  {Q} {M} (z:∀a w,C w->Q a->wpOp P c M n (M .normal) a w):
  ∀d b a w,C w->HeadInv md c n b->b.toList.count U=d->wpAnyQ P md (c.setIfInBounds n (Im o)) C Q d b a->wpAny P md c M d b a w:=by
 have l:∀i:Nat,i≠n->(c.setIfInBounds n (Im o))[i]? =c[i]? :=λi q=>Array.getElem?_setIfInBounds_ne (λe=>q e.symm)
 have y:(c.setIfInBounds n (Im o))[n]? =Z (Im o):=by simp[hn]
 have s:∀i:Nat,((c.setIfInBounds n (Im o))[i]?).map (·.after)=(c[i]?).map (·.after):=λi=>by
  by_cases q:i=n
  ·subst q;rw[y,ho];rfl
  rw[l i q]
 have m:∀b,Region.ready md (c.setIfInBounds n (Im o)) b=Region.ready md c b:=vz At s
 have r:∀p,yielded (c.setIfInBounds n (Im o)) p=yielded c p:=λp=>by
  funext j;unfold yielded;by_cases t:j=n
  ·subst t;rw[y,ho];rfl
  rw[l j t]
 intro d;induction d with
 |zero=>
  intro b a w _ g G _;have:=Zq (g.tail n (BR _) O);omega
 | succ f ih =>
  intro b a w X g G h;obtain⟨_,h2⟩:=h;refine⟨λh0=>absurd h0 (u8 hb g.size n O (g.tail n (BR _) O)),λi q=>?_⟩
  have x:=h2 i (by rw[m];exact q)
  have S:=(mem_ready.1 q).1;have aD:=Zq S;rcases Du i n with H|H
  ·refine x7 (l i O) (r _) (wpOp_of_qOp X (λa' w' R L=>ih _ a' w' R (g.set q H) O L) x)
  obtain⟨_,o',T,_⟩:=mem_ready.1 q;have aB:=(Array.getElem?_eq_some_iff.1 T).1;obtain rfl:i=n:=O
  have F:∀j,j<i->b.getD j V=true:=λj t=>by
   cases hl:b.getD j V
   ·exact absurd q (tail_waits hs hc O g _ j rfl t hl i (BR _))
   rfl
  have k:Region.ready md c (b.setIfInBounds i V)=[]:=by
   rw[List.eq_nil_iff_forall_not_mem];intro j t;obtain⟨D,oj,N,_⟩:=mem_ready.1 t;have aC:=(Array.getElem?_eq_some_iff.1 N).1;by_cases E:j=i
   ·subst E;simp[g.size,hn]at D
   rw[getD_set_ne V (λe=>E e.symm),F j O]at D;cases D
  have hQ:Q a:=by
   have L:wpAnyQ P md (c.setIfInBounds i (Im o)) C Q f (b.setIfInBounds i V) a:=by
    unfold qOp at x;rw[y]at x;simp only at x;split at x
    ·obtain⟨v,_,h4⟩:=x
     rwa[show(Im o).dst=I from u]at h4
    rwa[show(Im o).dst=I from u]at x
   cases f with
   |zero=>exact L.2
   |succ f=>exact L.1 (by rw[m];exact k)
  refine wpOp_mono (λa' w' hq=>?_) (z a w X hQ)
  cases f with
  |zero=>exact⟨k,hq⟩
  |succ f=>exact⟨λ_=>hq,λj t=>by rw[k]at t;cases t⟩
def eZ(l:List Oper)(n:Nat):Bool:=
 match l[n]? with
 |none=>U
 |some o=>Y (J l=n+1)&&o.dst.isNone&&Region.sinkB .any l.toArray n&&Region.chainB .any l.toArray n&&gf l.toArray&&Region.lexB .any (l.set n (Im o)).toArray
theorem zg{id}{Q}{a}{w}{l}(n)(o)(m:l[n]? =Z o)(z:P.follows .mixedOrders=V)(f:eZ l n=V)(r:C {w with drawn:=w.drawn+1})
  (h:wpQuiet P (l.set n (Im o)).toArray C (λg=>∀c,C c->wpList P l.toArray Q [o] g c) (l.set n (Im o)) a):(Code.region id l.toArray V).wp P Q a w:=by
 unfold eZ at f;rw[m]at f;simp only[Aj,decide_eq_true_eq,Option.isNone_iff_eq_none]at f;obtain⟨⟨⟨⟨⟨D,x⟩,y⟩,u⟩,q⟩,b⟩:=f;simp only[Region.lexB,Aj]at b;have i:l.toArray.size=n+1:=by simpa using D
 have e:l.toArray[n]? =Z o:=by simpa using m
 have d:HeadInv .any l.toArray n (Jw l.toArray.size U):=
  ⟨At,λj E _ p=>(by rw[getD_replicate_false]at p;cases p),λt _ v=>getD_in (by simpa using v) (getD_replicate_false _ _)⟩
 have H:=wpAnyQ_lex (P:=P) (C:=C) (md:=.any) b.1 (l.set n (Im o)) 0 (Jw (l.set n (Im o)).toArray.size U) a At (by simpa using b.2) h
 refine wp_region_any z (X8 i e x y u q (Q:=λg=>∀c,C c->wpList P l.toArray Q [o] g c) (λg c k s=>?_) _ _ _ _ r d At ?_)
 ·have:=s c k
  unfold wpOp;simp only[e];exact this
 simpa using H
theorem iu{id}{Q}{a}{w}{l}(n)(o)(e:l[n]? =Z o)(c:P.follows .mixedOrders=V)(d:eZ l n=V)
  (h:wpQuiet P (l.set n (Im o)).toArray (λb=>∃X,b=w.ext X) (λf=>∀b,(∃X,b=w.ext X)->wpList P l.toArray Q [o] f b) (l.set n (Im o)) a):(Code.region id l.toArray V).wp P Q a w:=
 zg (C:=λb=>∃X,b=w.ext X) n o e c d (ej (w':=w.drew) (Below.refl _ _).drew) h
theorem LK{w:World}{b o}{v}(a:b<w.heap.size)(h:w.frozen? ⟨b,o,I⟩=v)(X):(w.ext X).frozen? ⟨b,o,I⟩=v:=by
 rw[(JF (Jy w X)).2 b o a];exact h
end
abbrev BW(l:List Int):List Value:=l.map (Value.int .i64)
theorem Tg(l)(k)(h:k<J l):(BW l)[k]? =Z (.int .i64 l[k]):=by simp[BW,h]
theorem qB(l):(BW l).length=J l:=by simp[BW]
theorem Rn:(prog.info? 3).map (λi=>(i.zero,i.size,i.bytes))=Z (Z (.int .i64 0),1,8):=Au
def fN(a n:Nat):List Int:=(DA n).map fun(j:Nat)=>((a:Int)+(j:Int))
abbrev Mo(w:World)(v:Value)(l:List AV):Prop:=Cd w v (J l) 5 (BW (De l))
theorem Cd.ins{w}{v}{l}(h:Mo w v l):∃a g,v=.slice a (J l) g/\(J l)<=g/\(J l)<=9223372036854775807/\g<=9223372036854775807/\
  ∀i (k:i<J l),∃b f,a=Z ⟨b,f,I⟩/\b<w.heap.size/\w.cell? ⟨b,f+i*5,I⟩=Z (.int .i64 l[i].op)/\w.cell? ⟨b,f+i*5+1,I⟩=Z (.int .i64 l[i].a)/\
   w.cell? ⟨b,f+i*5+2,I⟩=Z (.int .i64 l[i].b)/\w.cell? ⟨b,f+i*5+3,I⟩=Z (.int .i64 l[i].c)/\w.cell? ⟨b,f+i*5+4,I⟩=Z (.int .i64 l[i].d):=by
 obtain⟨a,g,y,r,u,t,D⟩:=h.open;refine⟨a,g,y,r,u,t,λi k=>?_⟩
 obtain⟨b,f,e,s,j⟩:=D i k;obtain⟨z,Bs,x,CZ,C⟩:=oD l i k;have n:=j 0 O;have q:=j 1 O;have m:=j 2 O;have p:=j 3 O;have o:=j 4 O;simp only[Fx,List.getElem?_map,z,Bs,x,CZ,C,Option.map_some]at n q m p o;exact⟨b,f,e,s,n,q,m,p,o⟩
abbrev AV.v(x:AV):Value:=.agg #[.int .i64 x.op,.int .i64 x.a,.int .i64 x.b,.int .i64 x.c,.int .i64 x.d]
theorem iT:(prog.info? 76).map (λi=>(i.zero,i.size,i.bytes))=Z (Z (.agg #[.int .i64 0,.int .i64 0,.int .i64 0,.int .i64 0,.int .i64 0]),5,40):=Au
def IL(w:World)(v:Value)(c:BY):Prop:=
 ∃d b a,v=.agg #[d,b,a]/\Cd w d (J c.s) 1 (BW c.s)/\Cd w b (J c.r) 1 (BW c.r)/\Mo w a c.l
def IJ(w:World)(e f:Nat)(v:Value)(c:BY):Prop:=
 ∃d a b,v=.agg #[d,a,b]/\CH w e f 3 1 d (J c.s) (BW c.s)/\CH w e f 3 1 a (J c.r) (BW c.r)/\CH w e f 76 5 b (J c.l) (BW (De c.l))/\
  Hm d a/\Hm d b/\Hm a b
theorem IL.below{w b}{v}{c}(h:IL w v c)(a:Below w.heap.size w b):IL b v c:=by
 obtain⟨i,j,f,rfl,d,g,e⟩:=h;exact⟨i,j,f,rfl,d.below a,g.below a,e.below a⟩
theorem IJ.L{w}{i g}{v}{c}(h:IJ w i g v c):IL w v c:=by
 obtain⟨f,j,d,rfl,a,e,b,_⟩:=h;exact⟨f,j,d,rfl,a.L,e.L,b.L⟩
theorem IJ.keep{w e}{g d f}{v}{c}(h:IJ w g d v c)(a:Below f w e)(b:d<=f):IJ e g d v c:=by
 obtain⟨o,m,j,rfl,i,k,l,n⟩:=h;exact⟨o,m,j,rfl,i.keep a b,k.keep a b,l.keep a b,n⟩
theorem IJ.out{w i}{g f a b}{v}{c}(h:IJ w g f v c)(d:ER a b w i)(e:f<=a\/b<=g):IJ i g f v c:=by
 obtain⟨k,p,m,rfl,l,o,j,n⟩:=h;exact⟨k,p,m,rfl,l.out d e,o.out d e,j.out d e,n⟩
theorem IJ.wide{w}{g f a b}{v}{c}(h:IJ w g f v c)(d:a<=g)(e:f<=b):IJ w a b v c:=by
 obtain⟨m,k,i,rfl,Bs,l,CZ,j⟩:=h;exact⟨m,k,i,rfl,Bs.wide d e,l.wide d e,CZ.wide d e,j⟩
def dy(w:World)(v:Value)(b a c d:Nat):Prop:=
 ∃g f e,v=.agg #[g,f,e]/\Cd w g a 1 (BW (fN b a))/\Cd w f c 1 (BW (fN (b+a) c))/\Cd w e d 5 (BW (fN (b+a+c) (d*5)))
theorem dy.below{w c}{v}{e d f b}(h:dy w v e d f b)(a:Below w.heap.size w c):dy c v e d f b:=by
 obtain⟨m,l,j,rfl,g,k,i⟩:=h;exact⟨m,l,j,rfl,g.below a,k.below a,i.below a⟩
theorem Tk{l}:∀u∈BW l,u.oneCell'=true:=by
 intro u a;obtain⟨x,_,rfl⟩:=List.mem_map.1 a;rfl
theorem M5{P}{w}{o}{t k e:TypeId}{i:TypeInfo}{a}(f:P.underlying t=Z (.slice e))(j:P.info? e=Z i)
  {v} {n} {m} (b:w.ownsRow o e a v n m) (c):(Builtin.append_ #[t,t] k #[v,.slice I 0 c]).run P w=.ok v w:=by
 obtain⟨_,h⟩:=b;rcases h with⟨rfl,rfl⟩|⟨g,l,p,rfl,_,_,d,_⟩
 ·simp[Builtin.append_,run_underlying f,sizeOf,typeInfo,j,Builtin.lenOf,Builtin.firstCells]
 simp[Builtin.append_,run_underlying f,sizeOf,typeInfo,j,Builtin.lenOf,Builtin.firstCells,d,storeCells]
theorem qp{w:World}{c}{e:TypeId}{i}{v}{n}{b}(h:w.ownsRow c e i v n b):∃a k,v=.slice a n k:=by
 rcases h.2 with⟨rfl,rfl⟩|⟨g,d,f,rfl,_⟩
 ·exact⟨_,_,rfl⟩
 exact⟨_,_,rfl⟩
theorem XD{P}{w}{lo}{t ty e:TypeId}{z}{d o}(ht:P.underlying t=Z (.slice e))(hi:(P.info? e).map (λi=>(i.zero,i.size,i.bytes))=Z (Z z,d,o))
  (S:z.cells.size=d) (T:0<d) {v} {n} {N} (l:w.ownsRow lo e d v n N) {u} {m} {f} (hr:Cd w u m d f) (h1:∀u∈f,u.oneCell'=V)
  (aC:n+m<=9223372036854775807) (x:(n+m)*o<=140737488355328) (D:lo<=w.heap.size):
  ∃E C r,(Builtin.append_ #[t,t] ty #[v,u]).run P w=.ok (.slice E (n+m) C) r/\r.ownsRow lo e d (.slice E (n+m) C) (n+m) (N++f)/\Below lo w r/\w.grownBy r v.ownBlock/\(∀g,(Value.slice E (n+m) C).ownBlock=Z g->v.ownBlock=Z g\/w.heap.size<=g):=by
 obtain⟨i,Bs,g2,CZ,g4⟩:=info_parts hi;obtain⟨Q,aB,c,rfl,aD,hc,hA⟩:=hr
 have p:∀{r:World},w.grownBy r v.ownBlock->Below lo w r:=fun{r} q=>by
  refine⟨q.os,q.tape,q.output,q.size,λk hk=>q.block k O λM=>?_⟩
  have:=l.lt k M.symm;omega
 rcases aB with _|a
 ·have hm:m=0:=by
   rcases Nat.eq_zero_or_pos m with y|y
   ·exact y
   obtain⟨_,_,M,_⟩:=hA y;cases M
  subst hm;have R:f=[]:=FM (by simpa using Q)
  subst R;obtain⟨E,C,rfl⟩:=qp l;exact⟨E,C,w,M5 ht Bs l c,by simpa using l,Below.refl _ _,⟨rfl,rfl,rfl,BR _,λ_ _ _=>rfl⟩,λg q=>.inl q⟩
 have s:∀j u,f[j]? =Z u->w.cell? (a.add j)=Z u:=by
  intro j u hu
  have y:0<m:=by
   rcases Nat.eq_zero_or_pos m with y|y
   ·subst y
    have R:f=[]:=FM (by simpa using Q)
    subst R;simp at hu
   exact y
  obtain⟨b,H,M,hb,hx⟩:=hA y;cases M
  have L:(⟨b,H,I⟩:Addr).add j=⟨b,H+j,I⟩:=by unfold Addr.add;split<;>simp_all
  rw[L];exact hx j u hu
 obtain⟨v',r,G,h2,h3,_,h5⟩:=run_append_own_at (P:=P) w lo t ty e i z d o ht Bs g2 CZ g4 S T v n N l a m c f Q s h1 (by unfold maxLen;omega) x D
 obtain⟨E,C,rfl⟩:=qp h2;exact⟨E,C,r,G,h2,p h3,h3,λg q=>h5.elim (λh=>.inl (h▸q)) λh=>.inr (by rw[h]at q;cases q;exact BR _)⟩
theorem OT{P}{w}{C}{j}{o}{a}{Q}{D}{t e:TypeId}{z}{b d}{v}{n}{L}{u}{m}{c}
  (H:o.guard=I) (s x) (ho:o.op=.call {callee:=.builtin .append,args:= #[s,x],argTypes:= #[t,t]})
  (ht:P.underlying t=Z (.slice e)) (hi:(P.info? e).map (λi=>(i.zero,i.size,i.bytes))=Z (Z z,b,d))
  (E:z.cells.size=b) (G:0<b) (hs:a.eval s=v) (p:w.ownsRow D e b v n L) (N:a.eval x=u) (R:Cd w u m b c) (h1:∀u∈c,u.oneCell'=V)
  (F:n+m<=9223372036854775807) (f:(n+m)*d<=140737488355328) (k:D<=w.heap.size)
  (h:∀y q l,l.ownsRow D e b (.slice y (n+m) q) (n+m) (L++c)->Below D w l->w.grownBy l v.ownBlock->(∀g,(Value.slice y (n+m) q).ownBlock=Z g->v.ownBlock=Z g\/w.heap.size<=g)->wpList P C Q j (a.put o.dst (.slice y (n+m) q)) l):wpList P C Q (o::j) a w:=by
 refine wpList_plain H λaB X=>?_
 obtain⟨y,q,l,r,h2,M,T,S⟩:=XD (ty:=o.type) ht hi E G p R h1 F f k;unfold Oper.wp execOp;simp only[ho,resolve,invoke,builtin,Sem.run_bind,Sem.run_pure,Result.andThen_ok,List.map_toArray,Fa,List.map_nil,hs,N,r];exact X _ _ (h y q l h2 M T S)
theorem xh(w:World)(u)(T:TypeId):Cd (w.alloc (.cells #[u] T)) (.slice (Z ⟨w.heap.size,0,I⟩) 1 1) 1 1 [u]:=by
 refine⟨rfl,_,_,rfl,BR _,by unfold maxLen;omega,λ_=>⟨_,_,rfl,At,λj x a=>?_⟩⟩
 match j,a with
 |0,a=>
  simp at a;subst a;simp
theorem gr(w:World)(u)(T:TypeId){g}(a:g=w.heap.size):Cd (w.alloc (.cells #[u] T)) (.slice (Z ⟨g,0,I⟩) 1 1) 1 1 [u]:=by
 subst a;exact xh w u T
theorem F8{w:World}{o}{e:TypeId}{c}{a}{n k b}{i q}(h:w.ownsRow o e c (.slice a n b) n (i++q))(u:k<=n)(y:0<n)(m:J i=k*c):w.ownsRow o e c (.slice a k b) k i:=by
 refine⟨m,?_⟩;rcases h.2 with⟨_,x⟩|⟨g,p,l,s,d,r,v,f,j,t⟩
 ·omega
 cases s
 refine .inr ⟨g,b,l,rfl,d,r,O,f,j,?_⟩;have:=congrArg (Ae (k*c)) t;rw[List.take_take,Nat.min_eq_left (Iq _ u)]at this;rw[this];exact List.take_left' m
section
variable{P:Program}
theorem uN{x:Oper}{a}{w}{f}{Q d}(c:∀e a w,d e a w->e=.normal)(h:x.wp P a w f d):x.wp P a w f Q:=by
 unfold Oper.wp at*;generalize (execOp a.eval x).run P w=r at*;cases r with
 | ok n g =>
  cases n<;>simp only[Oper.upon]at h ⊢ <;>
   first
    |exact h
    | exact Calls.mono h (λe j b => by
      cases e
      ·exact b
      ·exact absurd (c _ _ _ b) At
      obtain⟨a,w,i⟩:=b;exact absurd (c _ _ _ i) At)
 |halt y g=>
  cases y<;>simp only[Oper.upon]at h ⊢ <;>first|exact h|exact absurd (c _ _ _ h) At
end
section
variable{P:Program}
structure af3(mk:(Nat->Value)->Act)(C:World->Prop)(R:Nat->Value->World->Prop)(n:Nat)(listed:Array Bool)(f:Nat->Value)(a:Act)(w:World):Prop where
 act:a=mk f
 cls:C w
 val:∀i,i<n->listed.getD i U=V->R i (f i) w
end
def Ew(d a:Nat->Prop)(w c:World):Prop:=w.heap.size<=c.heap.size/\∀b,b<w.heap.size->d b->a b/\c.heap[b]? =w.heap[b]?
def IQ(R:World->(Nat->Prop)->Prop):Prop:=∀w b c a,Ew c a w b->R w c->R b a
theorem Ew.below{c}{w a}(h:Below w.heap.size w a):Ew c c w a:=⟨h.size,λb e d=>⟨d,h.block b e⟩⟩
theorem Ew.mono{c a}{w}(h:∀b,b<w.heap.size->c b->a b):Ew c a w w:=⟨BR _,λb e d=>⟨h b e d,rfl⟩⟩
theorem Ew.cell{d a}{w c}(h:Ew d a w c){b o}(e:b<w.heap.size)(f:d b):c.cell? ⟨b,o,I⟩=w.cell? ⟨b,o,I⟩:=by
 simp only[World.cell?,(h.2 b e f).2]
def CV(w:World)(f:Nat->Prop)(v:Value)(n g:Nat)(e:List Value):Prop:=
 J e=n*g/\∃a c,v=.slice a n c/\n<=c/\c<=maxLen/\
  (0<n->∃b d,a=Z ⟨b,d,I⟩/\b<w.heap.size/\f b/\∀j u,e[j]? =Z u->w.cell? ⟨b,d+j,I⟩=Z u)
theorem CV.nice(v)(n t)(m):IQ λw g=>CV w g v n t m:=by
 rintro w x g p e ⟨r,a,f,rfl,l,o,i⟩;refine⟨r,a,f,rfl,l,o,λs=>?_⟩
 obtain⟨b,c,rfl,d,h,k⟩:=i s;exact⟨b,c,rfl,IM d e.1,(e.2 b d h).1,λj u q=>(e.cell d h).trans (k j u q)⟩
theorem CV.L{w}{k}{v}{n f}{e}(h:CV w k v n f e):Cd w v n f e:=by
 obtain⟨o,a,d,rfl,g,l,j⟩:=h;refine⟨o,a,d,rfl,g,l,λp=>?_⟩
 obtain⟨b,c,rfl,i,_,m⟩:=j p;exact⟨b,c,rfl,i,m⟩
theorem Cd.rowF{w}{v}{n i}{g}(h:Cd w v n i g){f}(q:∀b,b<w.heap.size->f b):CV w f v n i g:=by
 obtain⟨o,a,d,rfl,l,m,j⟩:=h;refine⟨o,a,d,rfl,l,m,λp=>?_⟩
 obtain⟨b,c,rfl,e,k⟩:=j p;exact⟨b,c,rfl,e,q b e,k⟩
theorem CV.nil(w)(a)(b):CV w a (.slice I 0 0) 0 b []:=⟨At,I,0,rfl,BR _,by unfold maxLen;omega,λh=>absurd h O⟩
theorem Jo{w}{x}{e:TypeId}{o}{v}{n}{k}(h:w.ownsRow x e o v n k){j}(z:∀g,v.ownBlock=Z g->j g):CV w j v n o k:=by
 obtain⟨u,a,i,f,s,t,q⟩:=Tm h;refine⟨u,a,i,f,s,t,λy=>?_⟩
 obtain⟨b,d,l,p,r⟩:=q y;refine⟨b,d,l,p,?_,r⟩;rcases h.2 with⟨c,D⟩|⟨g,m,C,c,_⟩
 ·omega
 rw[c]at f;cases f
 cases l
 exact z _ (by rw[c];rfl)
inductive FY where
 |C (b:Nat) (cs:List Value)
 |L (e:TypeId) (sz:Nat) (v:Value) (n:Nat) (xs:List Value)
 |G (R:World->(Nat->Prop)->Prop)
 |own (S:Nat->Prop) (R:World->Prop)
def FY.blk:FY->Nat->Prop
 |.C b _=>λg=>g=b
 |.L _ _ v _ _=>λg=>v.ownBlock=Z g
 |.G _=>λ_=>False
 |.own S _=>S
def IA(a:Nat->Prop)(L:List FY)(b:Nat):Prop:=a b/\∀r∈L,¬r.blk b
def FY.holds(w:World)(c:Nat->Prop):FY->Prop
 |.C b d=>Bl w b d
 |.L e g v n f=>w.ownsRow 0 e g v n f
 |.G R=>IQ R/\R w c
 |.own S R=>(∀w a,R w->(∀b,S b->b<w.heap.size->a.heap[b]? =w.heap[b]?)->R a)/\R w/\∀b,S b->b<w.heap.size
structure Dl(ψ:Nat->Prop)(w w':World):Prop where
 os:w'.os=w.os
 tape:w'.tape=w.tape
 output:w'.output=w.output
 size:w.heap.size<=w'.heap.size
 block:∀b,b<w.heap.size->ψ b->w'.heap[b]? =w.heap[b]?
theorem Dl.refl(a)(w):Dl a w w:=⟨rfl,rfl,rfl,BR _,λ_ _ _=>rfl⟩
theorem Dl.trans{d}{a b c}(h:Dl d a b)(k:Dl d b c):Dl d a c:=
 ⟨k.os.trans h.os,k.tape.trans h.tape,k.output.trans h.output,DO h.size k.size,λi e f=>(k.block i (IM e h.size) f).trans (h.block i e f)⟩
theorem Dl.of_below{d}{w a}{c}(h:Below c w a)(f:∀b,b<w.heap.size->d b->b<c):Dl d w a:=⟨h.os,h.tape,h.output,h.size,λb e g=>h.block b (f b e g)⟩
theorem Dl.below{w d}{a}(h:Dl a w d)(e:∀b,b<w.heap.size->a b):Below w.heap.size w d:=⟨h.os,h.tape,h.output,h.size,λb c=>h.block b c (e b c)⟩
structure CA(φ ψ:Nat->Prop)(w0 w:World)(L:List FY):Prop where
 kept:Dl ψ w0 w
 fresh:∀b,w0.heap.size<=b->φ b
 holds:∀(r:FY),r∈L->r.holds w (IA φ L)
 dis:∀(i j:Nat) (a b:FY) (g:Nat),L[i]? =Z a->L[j]? =Z b->i≠j->a.blk g->¬b.blk g
 ge:∀(r:FY) (b:Nat),r∈L->r.blk b->w0.heap.size<=b\/¬ψ b
section
variable{φ ψ:Nat->Prop}{w0 w w':World}{L:List FY}
theorem CA.start(c:∀b,w0.heap.size<=b->φ b):CA φ ψ w0 w0 []:=⟨Dl.refl _ _,c,(λ_ h=>by cases h),(λi j a b g h=>by simp at h),(λ_ _ h=>by cases h)⟩
theorem FY.lt{r:FY}(h:r.holds w φ){b}(a:r.blk b):b<w.heap.size:=by
 cases r with
 |C f c=>cases a;exact Bl.lt h
 |L e g v n d=>exact(World.ownsRow.lt h b a).2
 |G R=>cases a
 |own S R=>exact h.2.2 b a
theorem CA.lt(M:CA φ ψ w0 w L){r}(c:r∈L){b}(a:r.blk b):b<w.heap.size:=FY.lt (M.holds r c) a
theorem CA.frFresh(M:CA φ ψ w0 w L):∀b,w.heap.size<=b->IA φ L b:=λb a=>⟨M.fresh b (DO M.kept.size a),λr d c=>by have:=M.lt d c;omega⟩
theorem CA.size(M:CA φ ψ w0 w L):w0.heap.size<=w.heap.size:=M.kept.size
theorem CA.below(M:CA φ ψ w0 w L)(a:∀b,b<w0.heap.size->ψ b):Below w0.heap.size w0 w:=M.kept.below a
theorem FY.keep{a}{r:FY}(h:r.holds w φ)(f:Ew φ a w w')(c:∀b,r.blk b->w'.heap[b]? =w.heap[b]?):r.holds w' a:=by
 cases r with
 |C b j=>obtain⟨T,h⟩:=h;exact⟨T,(c b rfl).trans h⟩
 |L e l v n k=>exact(CH.same (lo:=0) (hi:=w.heap.size) ⟨h,λg i=>(World.ownsRow.lt h g i).2⟩ c).1
 |G R=>exact⟨h.1,h.1 _ _ _ _ f h.2⟩
 |own S R=>exact⟨h.1,h.1 _ _ h.2.1 λb d _=>c b d,λb d=>IM (h.2.2 b d) f.1⟩
theorem CA.call(M:CA φ ψ w0 w L)(b:Below w.heap.size w w'):CA φ ψ w0 w' L:=
 ⟨M.kept.trans (Dl.of_below b λ_ h _=>h),M.fresh,λr a=>FY.keep (M.holds r a) (Ew.below b) λg c=>b.block g (M.lt a c),M.dis,M.ge⟩
theorem CA.drew(M:CA φ ψ w0 w L):CA φ ψ w0 w.drew L:=M.call (Below.refl _ _).drew
theorem IA.snoc{r}{b}:IA φ (L++[r]) b↔IA φ L b/\¬r.blk b:=by
 unfold IA;constructor
 ·rintro⟨d,c⟩;exact⟨⟨d,λx a=>c x (by simp[a])⟩,c r At⟩
 rintro⟨⟨d,c⟩,e⟩;refine⟨d,λx a=>?_⟩
 simp only[DQ,Dw]at a;rcases a with a|rfl
 ·exact c x a
 exact e
theorem CA.add(M:CA φ ψ w0 w L)(b:Below w.heap.size w w')(r)(h:r.holds w' (IA φ (L++[r])))(l:∀g,r.blk g->w.heap.size<=g):CA φ ψ w0 w' (L++[r]):=by
 have v:=M.call b;refine⟨v.kept,M.fresh,λx a=>?_,λi j x y g D C o a n=>?_,λx g a e=>?_⟩
 ·simp only[DQ,Dw]at a
  rcases a with a|rfl
  ·exact FY.keep (M.holds x a) ⟨b.size,λc u E=>⟨IA.snoc.2 ⟨E,λF=>by have:=l c F;omega⟩,b.block c u⟩⟩ λg m=>b.block g (M.lt a m)
  exact h
 ·have lt:∀(k:Nat) (z:FY),(L++[r])[k]? =Z z->(k<L.length/\L[k]? =Z z)\/(k=L.length/\z=r):=by
   intro k z d;rcases Du k L.length with f|f
   ·rw[Fb f]at d;exact .inl ⟨f,d⟩
   rw[Ip f]at d
   have:k-L.length=0:=by
    rcases Nat.eq_zero_or_pos (k-L.length)with h|h
    ·exact h
    rw[FO (by rw[List.length_singleton];exact h)]at d;cases d
   rw[this]at d;simp at d;exact .inr ⟨O,d.symm⟩
  rcases lt i x D with⟨p,s⟩|⟨p,rfl⟩<;>rcases lt j y C with⟨q,t⟩|⟨q,rfl⟩
  ·exact M.dis i j x y g s t o a n
  ·have:=M.lt (FF s) a;have:=l g n;omega
  ·have:=M.lt (FF t) n;have:=l g a;omega
  omega
 simp only[DQ,Dw]at a;rcases a with a|rfl
 ·exact M.ge x g a e
 exact .inl (DO M.size (l g e))
theorem CA.C(M:CA φ ψ w0 w L)(a)(T:TypeId):CA φ ψ w0 (w.alloc (.cells a.toArray T)) (L++[.C w.heap.size a]):=
 M.add ((Below.refl _ _).alloc (BR _) _) _ (Bl.new w a T) λg b=>by cases b;exact BR _
theorem CA.box'(M:CA φ ψ w0 w L)(a)(T:TypeId){b}(c:b=w.heap.size):CA φ ψ w0 (w.alloc (.cells a.toArray T)) (L++[.C b a]):=by subst c;exact M.C a T
theorem CA.G(M:CA φ ψ w0 w L){R}(a:IQ R)(h:R w (IA φ L)):CA φ ψ w0 w (L++[.G R]):=
 M.add (Below.refl _ _) _ ⟨a,a _ _ _ _ (Ew.mono λb _ d=>IA.snoc.2 ⟨d,λh=>by cases h⟩) h⟩ λg c=>by cases c
theorem CA.callD(M:CA φ ψ w0 w L)(b:Below w.heap.size w w'){R}(a:IQ R)(h:R w' (IA φ L)):CA φ ψ w0 w' (L++[.G R]):=(M.call b).G a h
theorem CA.nil(M:CA φ ψ w0 w L)(e:TypeId)(b):CA φ ψ w0 w (L++[.L e b (.slice I 0 0) 0 []]):=
 M.add (Below.refl _ _) _ (World.ownsRow_nil _ _ _ _) λg a=>by cases a
theorem IA.set{r}{i}{a}(_hi:L[i]? =Z a){b}(h:IA φ L b)(d:¬r.blk b):IA φ (L.set i r) b:=
 ⟨h.1,λx c=>by
  rcases List.mem_or_eq_of_mem_set c with c|rfl
  ·exact h.2 x c
  exact d⟩
theorem CA.put(M:CA φ ψ w0 w L){i}{a}(p:L[i]? =Z a)(r)(o:Dl (λb=>¬a.blk b) w w')(h:r.holds w' (IA φ (L.set i r)))(F:∀g,r.blk g->a.blk g\/w.heap.size<=g):CA φ ψ w0 w' (L.set i r):=by
 have N:=(EA.1 p).1;have E:=FF p
 have l:∀(j:Nat) (z:FY),(L.set i r)[j]? =Z z->(j≠i/\L[j]? =Z z)\/(j=i/\z=r):=by
  intro j z D;by_cases e:j=i
  ·subst e;rw[List.getElem?_set_self N]at D;exact .inr ⟨rfl,(Option.some.inj D).symm⟩
  rw[List.getElem?_set_ne (λh=>e h.symm)]at D;exact .inl ⟨e,D⟩
 refine⟨⟨o.os.trans M.kept.os,o.tape.trans M.kept.tape,o.output.trans M.kept.output,DO M.size o.size,λb C R=>(o.block b (IM C M.size) λv=>?_).trans (M.kept.block b C R)⟩,M.fresh,λx n=>?_,λj k x y g t H P n G=>?_,λx g n u=>?_⟩
 ·rcases M.ge a b E v with d|d
  ·omega
  exact d R
 ·obtain⟨j,t⟩:=List.mem_iff_getElem?.1 n
  rcases l j x t with⟨m,c⟩|⟨_,rfl⟩
  ·refine FY.keep (M.holds x (FF c)) ⟨o.size,λb C Q=>⟨IA.set p Q λv=>?_,o.block b C (Q.2 a E)⟩⟩ λg q=>o.block g (M.lt (FF c) q) λv=>M.dis i j a x g p c (λe=>m e.symm) v q
   rcases F b v with d|d
   ·exact Q.2 a E d
   omega
  exact h
 ·rcases l j x t with⟨m,c⟩|⟨S,rfl⟩<;>rcases l k y H with⟨s,f⟩|⟨T,rfl⟩
  ·exact M.dis j k x y g c f P n G
  ·rcases F g G with d|d
   ·exact M.dis j i x a g c p m n d
   have:=M.lt (FF c) n;omega
  ·rcases F g n with d|d
   ·exact M.dis i k a y g p f (λe=>s e.symm) d G
   have:=M.lt (FF f) G;omega
  omega
 obtain⟨j,t⟩:=List.mem_iff_getElem?.1 n;rcases l j x t with⟨m,c⟩|⟨_,rfl⟩
 ·exact M.ge x g (FF c) u
 rcases F g u with d|d
 ·exact M.ge a g E d
 exact .inl (DO M.size d)
theorem Dl.mono{ψ a}{w w'}(h:Dl ψ w w')(e:∀b,a b->ψ b):Dl a w w':=⟨h.os,h.tape,h.output,h.size,λb d c=>h.block b d (e b c)⟩
theorem Dl.setCell(w)(b j)(u):Dl (λc=>¬c=b) w (w.setCell ⟨b,j,I⟩ u):=
 ⟨rfl,rfl,rfl,by simp[World.setCell],λc _ a=>Below.heap_setCell _ _ _ _ a⟩
theorem CA.set(M:CA φ ψ w0 w L)(i){b}{a}(c:L[i]? =Z (.C b a))(j)(u):CA φ ψ w0 (w.setCell ⟨b,j,I⟩ u) (L.set i (.C b (a.set j u))):=
 M.put c _ (Dl.setCell w b j u) (Bl.set (M.holds _ (FF c)) u) λ_ d=>.inl d
theorem CA.setFrom(Ad):∀{w:World} {L:List FY} {p:Nat} {a:List Value},CA φ ψ w0 w L->∀(i:Nat) {b:Nat},L[i]? =Z (.C b a)->CA φ ψ w0 (World.setFrom w b p Ad) (L.set i (.C b (Go.Proofs.YtfbeblgnjeokaaaGreat.DH a p Ad))):=by
 induction Ad with
 | nil =>
  intro w L p a M i b c
  have:L.set i (.C b a)=L:=by
   apply List.ext_getElem?;intro j;rw[IT];split
   ·rename_i e;subst e;rw[AZ (EA.1 c).1,c]
   rfl
  show CA φ ψ w0 w (L.set i (.C b a));rw[this];exact M
 |cons u r g=>
  intro w L p a M i b c;have f:=M.set i c p u;have d:=g (p:=p+1) f i (by rw[List.getElem?_set_self (EA.1 c).1])
  rw[List.set_set]at d;exact d
theorem C4{a Ad}(h:J Ad=J a):Go.Proofs.YtfbeblgnjeokaaaGreat.DH a 0 Ad=Ad:=by
 have b:=lS Ad a 0 O;rw[GS,Dq (by rw[Qi];omega)]at b
 simpa using b
theorem CA.fill(M:CA φ ψ w0 w L)(i){b}{a}(d:L[i]? =Z (.C b a))(Ad)(h:J Ad=J a):CA φ ψ w0 (World.setFrom w b 0 Ad) (L.set i (.C b Ad)):=by
 have c:=M.setFrom Ad (p:=0) i d;rwa[C4 h]at c
theorem CA.callB(M:CA φ ψ w0 w L)(i){b}{e a}(f:L[i]? =Z (.C b e))(d:Dl (λc=>¬c=b) w w')(h:Bl w' b a):CA φ ψ w0 w' (L.set i (.C b a)):=
 M.put f _ d h λ_ g=>.inl g
theorem CA.app(M:CA φ ψ w0 w L)(i){e:TypeId}{j}{v f}{n k}{m a}(l:L[i]? =Z (.L e j v n m))(h:w'.ownsRow 0 e j f k a)(c:w.grownBy w' v.ownBlock)(d:∀g,f.ownBlock=Z g->v.ownBlock=Z g\/w.heap.size<=g):
  CA φ ψ w0 w' (L.set i (.L e j f k a)):=
 M.put l _ ⟨c.os,c.tape,c.output,c.size,λb d o=>c.block b d λh=>o h.symm⟩ h d
theorem CA.take(M:CA φ ψ w0 w L)(k):CA φ ψ w0 w (L.take k):=
 ⟨M.kept,M.fresh,λr f=>FY.keep (M.holds r (List.mem_of_mem_take f)) (Ew.mono λ_ _ h=>⟨h.1,λx l=>h.2 x (List.mem_of_mem_take l)⟩) λ_ _=>rfl,
  λi j a b g d c e=>M.dis i j a b g (by rw[List.getElem?_take]at d;split at d;exact d;cases d) (by rw[List.getElem?_take]at c;split at c;exact c;cases c) e,λr b f=>M.ge r b (List.mem_of_mem_take f)⟩
theorem CA.sel(M:CA φ ψ w0 w L)(is:List Nat)(l)(h:l.map Z=is.map λi=>L[i]?)(E:is.Nodup):CA φ ψ w0 w l:=by
 have H:l.length=J is:=by simpa using congrArg List.length h
 have f:∀(j:Nat) (r:FY),l[j]? =Z r->∃i,is[j]? =Z i/\L[i]? =Z r:=by
  intro j r n;have c:(l.map Z)[j]? =Z (Z r):=by simp[n]
  rw[h,List.getElem?_map]at c;cases o:is[j]? with
  |none=>rw[o]at c;cases c
  |some i=>rw[o]at c;exact⟨i,rfl,Option.some.inj c⟩
 have d:∀r,r∈l->r∈L:=λr m=>by
  obtain⟨j,n⟩:=List.mem_iff_getElem?.1 m;obtain⟨i,_,o⟩:=f j r n;exact FF o
 refine⟨M.kept,M.fresh,λr m=>FY.keep (M.holds r (d r m)) (Ew.mono λ_ _ t=>⟨t.1,λx C=>t.2 x (d x C)⟩) λ_ _=>rfl,λj k a b g n u q y v=>?_,λr b m=>M.ge r b (d r m)⟩
 obtain⟨F,s,c⟩:=f j a n;obtain⟨D,G,z⟩:=f k b u;refine M.dis F D a b g c z (λe=>q ?_) y v
 subst e;have p:=(EA.1 s).1;exact(List.getElem?_inj p E).1 (s.trans G.symm)
theorem CA.c(M:CA φ ψ w0 w L)(i j:Nat){b}{a}{u}(e:L[i]? =Z (.C b a))(d:a[j]? =Z u):w.cell? ⟨b,j,I⟩=Z u:=
 (Bl.cell (M.holds _ (FF e)) j).trans d
theorem CA.f(M:CA φ ψ w0 w L)(i:Nat){b}{a}(c:L[i]? =Z (.C b a)):∀j,w.frozen? ⟨b,j,I⟩=false:=Bl.free (M.holds _ (FF c))
theorem CA.blk(M:CA φ ψ w0 w L)(i:Nat){b}{a}(c:L[i]? =Z (.C b a)):Bl w b a:=M.holds _ (FF c)
theorem CA.r(M:CA φ ψ w0 w L)(i:Nat){e:TypeId}{b}{v}{n}{a}(c:L[i]? =Z (.L e b v n a)):w.ownsRow 0 e b v n a:=M.holds _ (FF c)
theorem CA.d(M:CA φ ψ w0 w L)(i:Nat){R}(a:L[i]? =Z (.G R)):R w (IA φ L):=(M.holds _ (FF a)).2
theorem CA.dn(M:CA φ ψ w0 w L)(i:Nat){R}(a:L[i]? =Z (.G R)):IQ R:=(M.holds _ (FF a)).1
theorem CA.out(M:CA φ ψ w0 w L)(i:Nat){R}(a:L[i]? =Z (.G R)):R w φ:=M.dn i a _ _ _ _ (Ew.mono λ_ _ b=>b.1) (M.d i a)
theorem CA.as(M:CA φ ψ w0 w L)(a)(h:L=a):CA φ ψ w0 w a:=h▸M
end
def U2(_:World):Prop:=True
def yz(_:World):Prop:=True
def L8(w:World):Prop:=U2 w/\yz w
def Zo(b:Nat->Prop)(c:World):Prop:=∀a,Dl b c a->L8 a
end Go.Proofs.YtfbeblgnjeokaaaGreat

namespace Go.Proofs.YtfbeblgnjeokaaaGreat
inductive AF where
 |mk (kind value:Int) (kids:List AF)
def AF.t:AF->Int|⟨k,_,_⟩=>k
def AF.v:AF->Int|⟨_,n,_⟩=>n
def AF.k:AF->List AF|⟨_,_,a⟩=>a
inductive AG where
 |mk (kind target:Int) (index value:AF) (count:Int) (body els:List AG)
def AG.t:AG->Int|⟨k,_,_,_,_,_,_⟩=>k
def AG.g:AG->Int|⟨_,t,_,_,_,_,_⟩=>t
def AG.i:AG->AF|⟨_,_,i,_,_,_,_⟩=>i
def AG.v:AG->AF|⟨_,_,_,v,_,_,_⟩=>v
def AG.count:AG->Int|⟨_,_,_,_,c,_,_⟩=>c
def AG.b:AG->List AG|⟨_,_,_,_,_,b,_⟩=>b
def AG.e:AG->List AG|⟨_,_,_,_,_,_,e⟩=>e
structure BE where
 s:List Int
 r:List Int
 b:List AG
mutual
theorem AF.ind{P:AF->Prop}(h:∀k n ks,(∀e∈ks,P e)->P ⟨k,n,ks⟩):∀e:AF,P e
 |⟨k,n,ks⟩=>h k n ks (AF.indL h ks)
theorem AF.indL{P:AF->Prop}(h:∀k n ks,(∀e∈ks,P e)->P ⟨k,n,ks⟩):∀ks:List AF,∀e∈ks,P e
 |[]=>fun _ hm=>by cases hm
 |a::r=>fun _ hm=>(Eb.1 hm).elim (fun he=>he▸AF.ind h a) fun hm=>AF.indL h r _ hm
end
mutual
theorem AG.ind{P:AG->Prop}(h:∀k t i v c b e,(∀s∈b,P s)->(∀s∈e,P s)->P ⟨k,t,i,v,c,b,e⟩):∀s:AG,P s
 |⟨k,t,i,v,c,b,e⟩=>h k t i v c b e (AG.indL h b) (AG.indL h e)
theorem AG.indL{P:AG->Prop}(h:∀k t i v c b e,(∀s∈b,P s)->(∀s∈e,P s)->P ⟨k,t,i,v,c,b,e⟩):∀ss:List AG,∀s∈ss,P s
 |[]=>fun _ hm=>by cases hm
 |a::r=>fun _ hm=>(Eb.1 hm).elim (fun he=>he▸AG.ind h a) fun hm=>AG.indL h r _ hm
end
mutual
def BB:AF->Nat
 |⟨_,_,ks⟩=>By ks
def By:List AF->Nat
 |[]=>0
 |e::r=>1+BB e+By r
end
mutual
def CS:AG->Nat
 |⟨_,_,i,v,_,b,e⟩=>BB i+BB v+Ah b+Ah e
def Ah:List AG->Nat
 |[]=>0
 |s::r=>1+CS s+Ah r
end
def BE.size(p:BE):Nat:=J p.s+J p.r+Ah p.b
theorem Ud(a b):By (a++b)=By a+By b:=by
 induction a with
 |nil=>simp[By]
 |cons x r c=>simp[By,c];omega
theorem LI(a b):Ah (a++b)=Ah a+Ah b:=by
 induction a with
 |nil=>simp[Ah]
 |cons x r c=>simp[Ah,c];omega
theorem UA(a):J a<=By a:=by
 induction a with
 |nil=>simp
 |cons x r b=>simp only[By,BK];omega
theorem Km(a):J a<=Ah a:=by
 induction a with
 |nil=>simp
 |cons x r b=>simp only[Ah,BK];omega
theorem tf{e}{a}(h:e∈a):BB e<By a:=by
 induction a with
 |nil=>cases h
 |cons x r b=>
  simp only[By];rcases Eb.1 h with rfl|h
  ·omega
  have:=b h;omega
theorem Lg{s}{a}(h:s∈a):CS s<Ah a:=by
 induction a with
 |nil=>cases h
 |cons x r b=>
  simp only[Ah];rcases Eb.1 h with rfl|h
  ·omega
  have:=b h;omega
mutual
def Hy:AF->AF->Bool
 |⟨k,n,ks⟩,⟨k',n',ks'⟩=>Y (k=k')&&Y (n=n')&&SN ks ks'
def SN:List AF->List AF->Bool
 |[],[]=>V
 |e::r,e'::r'=>Hy e e'&&SN r r'
 |_,_=>U
end
mutual
def JO:AG->AG->Bool
 |⟨k,t,i,v,c,b,e⟩,⟨k',t',i',v',c',b',e'⟩=>Y (k=k')&&Y (t=t')&&Hy i i'&&Hy v v'&&Y (c=c')&&GB b b'&&GB e e'
def GB:List AG->List AG->Bool
 |[],[]=>V
 |s::r,s'::r'=>JO s s'&&GB r r'
 |_,_=>U
end
mutual
theorem NZ:∀(a b:AF),Hy a b=V↔a=b
 |⟨k,n,ks⟩,⟨k',n',ks'⟩=>by
  simp only[Hy,Aj,decide_eq_true_eq,AF.mk.injEq,mn ks ks',and_assoc]
theorem mn:∀(a b:List AF),SN a b=V↔a=b
 |[],[]=>by simp[SN]
 |[],_::_=>by simp[SN]
 |_::_,[]=>by simp[SN]
 |e::r,e'::r'=>by simp only[SN,Aj,List.cons.injEq,NZ e e',mn r r']
end
mutual
theorem Wt:∀(a b:AG),JO a b=V↔a=b
 |⟨k,t,i,v,c,b,e⟩,⟨k',t',i',v',c',b',e'⟩=>by
  simp only[JO,Aj,decide_eq_true_eq,AG.mk.injEq,NZ i i',NZ v v',Nn b b',Nn e e',and_assoc]
theorem Nn:∀(a b:List AG),GB a b=V↔a=b
 |[],[]=>by simp[GB]
 |[],_::_=>by simp[GB]
 |_::_,[]=>by simp[GB]
 |e::r,e'::r'=>by simp only[GB,Aj,List.cons.injEq,Wt e e',Nn r r']
end
def BE.same(p q:BE):Bool:=Y (p.s=q.s)&&Y (p.r=q.r)&&GB p.b q.b
theorem BE.same_eq{p q:BE}:p.same q=V↔p=q:=by
 cases p;cases q
 simp only[BE.same,Aj,decide_eq_true_eq,BE.mk.injEq,Nn,and_assoc]
end Go.Proofs.YtfbeblgnjeokaaaGreat

namespace Go.Proofs.YtfbeblgnjeokaaaGreat
open Go Go.RowKit
section
mutual
def JZ(w:World)(φ:Nat->Prop):AF->List Value->Prop
 |⟨k,n,ks⟩,cs=>∃v xs,cs=[.int .i64 k,.int .i64 n,v]/\CV w φ v (J ks) 3 xs/\GE w φ ks xs
def GE(w:World)(φ:Nat->Prop):List AF->List Value->Prop
 |[],xs=>xs=[]
 |e::r,xs=>∃c ys,xs=c++ys/\JZ w φ e c/\GE w φ r ys
end
def EG(w:World)(b:Nat->Prop)(v:Value)(a:List AF):Prop:=∃c,CV w b v (J a) 3 c/\GE w b a c
def Tq(w:World)(b:Nat->Prop)(v:Value)(e:AF):Prop:=∃a,v=.agg #[.int .i64 e.t,.int .i64 e.v,a]/\EG w b a e.k
mutual
def JM(w:World)(φ:Nat->Prop):AG->List Value->Prop
 | ⟨k, t, i, v, c, b, e⟩, cs => ∃ iv vv Ck Cy xb xe, cs = [.int .i64 k, .int .i64 t, .int .i64 i.t, .int .i64 i.v, iv, .int .i64 v.t, .int .i64 v.v, vv, .int .i64 c, Ck, Cy] /\
   EG w φ iv i.k/\EG w φ vv v.k/\CV w φ Ck (J b) 11 xb/\FZ w φ b xb/\CV w φ Cy (J e) 11 xe/\FZ w φ e xe
def FZ(w:World)(φ:Nat->Prop):List AG->List Value->Prop
 |[],xs=>xs=[]
 |s::r,xs=>∃c ys,xs=c++ys/\JM w φ s c/\FZ w φ r ys
end
def JG(w:World)(b:Nat->Prop)(v:Value)(a:List AG):Prop:=∃c,CV w b v (J a) 11 c/\FZ w b a c
def ae(w:World)(a:Nat->Prop)(v:Value)(s:AG):Prop:=
 ∃d c Ck Cy,v=.agg #[.int .i64 s.t,.int .i64 s.g,.int .i64 s.i.t,.int .i64 s.i.v,d,.int .i64 s.v.t,.int .i64 s.v.v,c,.int .i64 s.count,Ck,Cy]/\
  EG w a d s.i.k/\EG w a c s.v.k/\JG w a Ck s.b/\JG w a Cy s.e
def iX(w:World)(a:Nat->Prop)(v:Value)(p:BE):Prop:=
 ∃e c d,v=.agg #[e,c,d]/\CV w a e (J p.s) 1 (BW p.s)/\CV w a c (J p.r) 1 (BW p.r)/\JG w a d p.b
variable{w w':World}{φ φ':Nat->Prop}
mutual
theorem JZ.agr(ha:Ew φ φ' w w'):∀(e:AF) (cs:List Value),JZ w φ e cs->JZ w' φ' e cs
 |⟨_,_,ks⟩,_,⟨v,xs,h1,h2,h3⟩=>⟨v,xs,h1,CV.nice _ _ _ _ _ _ _ _ ha h2,GE.agr ha ks xs h3⟩
theorem GE.agr(ha:Ew φ φ' w w'):∀(ks:List AF) (xs:List Value),GE w φ ks xs->GE w' φ' ks xs
 |[],_,h=>h
 |e::r,_,⟨c,ys,h1,h2,h3⟩=>⟨c,ys,h1,JZ.agr ha e c h2,GE.agr ha r ys h3⟩
end
theorem GE.nice(a)(b):IQ λw φ=>GE w φ a b:=λ_ _ _ _ c h=>GE.agr c a b h
theorem EG.nice(v)(a):IQ λw φ=>EG w φ v a:=λ_ _ _ _ c ⟨b,d,e⟩=>⟨b,CV.nice _ _ _ _ _ _ _ _ c d,GE.agr c a b e⟩
theorem Tq.nice(v)(e):IQ λw φ=>Tq w φ v e:=λ_ _ _ _ b ⟨d,a,c⟩=>⟨d,a,EG.nice _ _ _ _ _ _ b c⟩
mutual
theorem JM.agr(ha:Ew φ φ' w w'):∀(s:AG) (cs:List Value),JM w φ s cs->JM w' φ' s cs
 |⟨_,_,_,_,_,b,e⟩,_,⟨iv,vv,Ck,Cy,xb,xe,h1,h2,h3,h4,h5,h6,h7⟩=>
  ⟨iv,vv,Ck,Cy,xb,xe,h1,EG.nice _ _ _ _ _ _ ha h2,EG.nice _ _ _ _ _ _ ha h3,CV.nice _ _ _ _ _ _ _ _ ha h4,FZ.agr ha b xb h5,CV.nice _ _ _ _ _ _ _ _ ha h6,FZ.agr ha e xe h7⟩
theorem FZ.agr(ha:Ew φ φ' w w'):∀(ss:List AG) (xs:List Value),FZ w φ ss xs->FZ w' φ' ss xs
 |[],_,h=>h
 |s::r,_,⟨c,ys,h1,h2,h3⟩=>⟨c,ys,h1,JM.agr ha s c h2,FZ.agr ha r ys h3⟩
end
theorem FZ.nice(b)(a):IQ λw φ=>FZ w φ b a:=λ_ _ _ _ c h=>FZ.agr c b a h
theorem JG.nice(v)(c):IQ λw φ=>JG w φ v c:=λ_ _ _ _ b ⟨a,d,e⟩=>⟨a,CV.nice _ _ _ _ _ _ _ _ b d,FZ.agr b c a e⟩
theorem ae.nice(v)(s):IQ λw φ=>ae w φ v s:=λ_ _ _ _ a ⟨c,h,Ck,Cy,b,f,d,e,g⟩=>
 ⟨c,h,Ck,Cy,b,EG.nice _ _ _ _ _ _ a f,EG.nice _ _ _ _ _ _ a d,JG.nice _ _ _ _ _ _ a e,JG.nice _ _ _ _ _ _ a g⟩
theorem iX.nice(v)(p):IQ λw φ=>iX w φ v p:=λ_ _ _ _ a ⟨h,g,d,b,f,c,e⟩=>
 ⟨h,g,d,b,CV.nice _ _ _ _ _ _ _ _ a f,CV.nice _ _ _ _ _ _ _ _ a c,JG.nice _ _ _ _ _ _ a e⟩
theorem JZ.iff(e)(f):JZ w φ e f↔∃g,f=[.int .i64 e.t,.int .i64 e.v,g]/\EG w φ g e.k:=by
 cases e with
 |mk k n h=>exact⟨λ⟨v,c,a,d,b⟩=>⟨v,a,c,d,b⟩,λ⟨v,a,c,d,b⟩=>⟨v,c,a,d,b⟩⟩
theorem JM.iff(s)(r):JM w φ s r↔∃d a Ck Cy,r=[.int .i64 s.t,.int .i64 s.g,.int .i64 s.i.t,.int .i64 s.i.v,d,.int .i64 s.v.t,.int .i64 s.v.v,a,.int .i64 s.count,Ck,Cy]/\
  EG w φ d s.i.k/\EG w φ a s.v.k/\JG w φ Ck s.b/\JG w φ Cy s.e:=by
 cases s with
 | mk k t i v c b e =>
  exact⟨λ⟨d,a,Ck,Cy,m,q,n,p,f,l,h,j,o⟩=>⟨d,a,Ck,Cy,n,p,f,⟨m,l,h⟩,⟨q,j,o⟩⟩,
   λ⟨d,a,Ck,Cy,n,p,f,⟨m,l,h⟩,⟨q,j,o⟩⟩=>⟨d,a,Ck,Cy,m,q,n,p,f,l,h,j,o⟩⟩
theorem Tq.iff{v}{e}:Tq w φ v e↔∃a,v=.agg a.toArray/\JZ w φ e a:=
 ⟨λ⟨d,b,c⟩=>⟨_,b,(JZ.iff e _).2 ⟨d,rfl,c⟩⟩,λ⟨a,b,c⟩=>by obtain⟨d,rfl,f⟩:=(JZ.iff e a).1 c;exact⟨d,b,f⟩⟩
theorem ae.iff{v}{s}:ae w φ v s↔∃a,v=.agg a.toArray/\JM w φ s a:=
 ⟨λ⟨c,e,Ck,Cy,b,d⟩=>⟨_,b,(JM.iff s _).2 ⟨c,e,Ck,Cy,rfl,d⟩⟩,λ⟨a,b,d⟩=>by obtain⟨c,e,Ck,Cy,rfl,f⟩:=(JM.iff s a).1 d;exact⟨c,e,Ck,Cy,b,f⟩⟩
theorem GE.len:∀{a:List AF} {xs:List Value},GE w φ a xs->J xs=J a*3
 |[],_,h=>by rw[show _=[]from h];rfl
 |e::r,_,⟨c,i,d,g,f⟩=>by
  obtain⟨j,rfl,_⟩:=(JZ.iff e c).1 g;rw[d,Az,GE.len f,BK];simp;omega
theorem FZ.len:∀{b:List AG} {xs:List Value},FZ w φ b xs->J xs=J b*11
 |[],_,h=>by rw[show _=[]from h];rfl
 |s::r,_,⟨c,i,d,f,e⟩=>by
  obtain⟨g,j,Ck,Cy,rfl,_⟩:=(JM.iff s c).1 f;rw[d,Az,FZ.len e,BK];simp;omega
theorem GE.at:∀{h:List AF} {g:List Value},GE w φ h g->∀i j,∃l,g[i*3]? =Z (.int .i64 h[i].t)/\g[i*3+1]? =Z (.int .i64 h[i].v)/\g[i*3+2]? =Z l/\EG w φ l h[i].k
 |[],_,_,i,j=>by simp at j
 | e :: r, _, ⟨c, s, p, q, n⟩, i, j => by
  obtain⟨l,rfl,o⟩:=(JZ.iff e c).1 q;subst p;cases i with
  |zero=>exact⟨l,rfl,rfl,rfl,o⟩
  |succ i=>
   obtain⟨m,a,b,d,f⟩:=GE.at n i (by simpa using j)
   refine⟨m,?_,?_,?_,f⟩<;>(rw[Ft];simpa[Nat.add_assoc]using by assumption)
theorem FZ.at:∀{h:List AG} {k:List Value},FZ w φ h k->∀i f,∃e,J e=11/\JM w φ h[i] e/\∀j,j<11->k[i*11+j]? =e[j]?
 |[],_,_,i,f=>by simp at f
 | s :: r, _, ⟨c, p, o, l, n⟩, i, f => by
  have g:J c=11:=by obtain⟨t,q,Ck,Cy,rfl,_⟩:=(JM.iff s c).1 l;rfl
  subst o;cases i with
  |zero=>exact⟨c,g,l,λj m=>by rw[Fb O];simp⟩
  |succ i=>
   obtain⟨e,a,b,d⟩:=FZ.at n i (by simpa using f)
   refine⟨e,a,b,λj m=>?_⟩
   rw[Ip (by rw[g,Ft];omega), <-d j m]
   congr 1;rw[g,Ft];omega
theorem GE.append:∀{f:List AF} {d:List Value} {b:List AF} {a:List Value},GE w φ f d->GE w φ b a->GE w φ (f++b) (d++a)
 |[],_,_,_,h,k=>by rw[show _=[]from h];exact k
 |e::r,_,_,_,⟨c,l,g,j,i⟩,k=>⟨c,l++_,by rw[g,Fj],j,GE.append i k⟩
theorem GE.one{e}{c}(h:JZ w φ e c):GE w φ [e] c:=⟨c,[],At,h,rfl⟩
theorem FZ.append:∀{f:List AG} {d:List Value} {b:List AG} {a:List Value},FZ w φ f d->FZ w φ b a->FZ w φ (f++b) (d++a)
 |[],_,_,_,h,k=>by rw[show _=[]from h];exact k
 |e::r,_,_,_,⟨c,l,g,j,i⟩,k=>⟨c,l++_,by rw[g,Fj],j,FZ.append i k⟩
theorem FZ.one{s}{c}(h:JM w φ s c):FZ w φ [s] c:=⟨c,[],At,h,rfl⟩
theorem EG.open{v}{e}(h:EG w φ v e):∃a d,v=.slice a (J e) d/\(J e)<=d/\(J e)<=9223372036854775807/\d<=9223372036854775807/\
  ∀i (j:i<J e),∃b c f,a=Z ⟨b,c,I⟩/\b<w.heap.size/\φ b/\w.cell? ⟨b,c+i*3,I⟩=Z (.int .i64 e[i].t)/\w.cell? ⟨b,c+i*3+1,I⟩=Z (.int .i64 e[i].v)/\w.cell? ⟨b,c+i*3+2,I⟩=Z f/\EG w φ f e[i].k:=by
 obtain⟨y,⟨z,a,d,rfl,q,r,m⟩,n⟩:=h;unfold maxLen at r;refine⟨a,d,rfl,q,O,O,λi j=>?_⟩
 obtain⟨b,c,rfl,l,s,g⟩:=m O;obtain⟨f,u,o,x,p⟩:=n.at i j;exact⟨b,c,f,rfl,l,s,g _ _ u,g _ _ o,g _ _ x,p⟩
theorem JG.open{v}{d}(h:JG w φ v d):∃a j,v=.slice a (J d) j/\(J d)<=j/\(J d)<=9223372036854775807/\j<=9223372036854775807/\
  ∀i (o:i<J d),∃b c n m Ck Cy,a=Z ⟨b,c,I⟩/\b<w.heap.size/\φ b/\
   (w.cell? ⟨b,c+i*11,I⟩=Z (.int .i64 d[i].t)/\w.cell? ⟨b,c+i*11+1,I⟩=Z (.int .i64 d[i].g)/\w.cell? ⟨b,c+i*11+2,I⟩=Z (.int .i64 d[i].i.t)/\w.cell? ⟨b,c+i*11+3,I⟩=Z (.int .i64 d[i].i.v)/\w.cell? ⟨b,c+i*11+4,I⟩=Z n/\
    w.cell? ⟨b,c+i*11+5,I⟩=Z (.int .i64 d[i].v.t)/\w.cell? ⟨b,c+i*11+6,I⟩=Z (.int .i64 d[i].v.v)/\w.cell? ⟨b,c+i*11+7,I⟩=Z m/\w.cell? ⟨b,c+i*11+8,I⟩=Z (.int .i64 d[i].count)/\w.cell? ⟨b,c+i*11+9,I⟩=Z Ck/\w.cell? ⟨b,c+i*11+10,I⟩=Z Cy)/\
   EG w φ n d[i].i.k/\EG w φ m d[i].v.k/\JG w φ Ck d[i].b/\JG w φ Cy d[i].e:=by
 obtain⟨H,⟨L,a,j,rfl,x,y,q⟩,s⟩:=h;unfold maxLen at y;refine⟨a,j,rfl,x,O,O,λi o=>?_⟩
 obtain⟨b,c,rfl,p,E,f⟩:=q O;obtain⟨G,D,z,l⟩:=s.at i o;obtain⟨n,m,Ck,Cy,rfl,r,F,u,C⟩:=(JM.iff _ _).1 z;refine⟨b,c,n,m,Ck,Cy,rfl,p,E,⟨?_,?_,?_,?_,?_,?_,?_,?_,?_,?_,?_⟩,r,F,u,C⟩
 ·have:=f (i*11+0) _ ((l 0 O).trans rfl);simpa using this
 ·exact f (i*11+1) _ ((l 1 O).trans rfl)
 ·exact f (i*11+2) _ ((l 2 O).trans rfl)
 ·exact f (i*11+3) _ ((l 3 O).trans rfl)
 ·exact f (i*11+4) _ ((l 4 O).trans rfl)
 ·exact f (i*11+5) _ ((l 5 O).trans rfl)
 ·exact f (i*11+6) _ ((l 6 O).trans rfl)
 ·exact f (i*11+7) _ ((l 7 O).trans rfl)
 ·exact f (i*11+8) _ ((l 8 O).trans rfl)
 ·exact f (i*11+9) _ ((l 9 O).trans rfl)
 exact f (i*11+10) _ ((l 10 O).trans rfl)
theorem EG.nil(w)(φ):EG w φ (.slice I 0 0) []:=⟨[],CV.nil _ _ _,rfl⟩
theorem JG.nil(w)(φ):JG w φ (.slice I 0 0) []:=⟨[],CV.nil _ _ _,rfl⟩
end
section
mutual
def GI(w:World):AF->(Nat->Prop)->List Value->Prop
 |⟨k,n,ks⟩,S,cs=>∃(v:Value) (xs:List Value) (S':Nat->Prop),cs=[.int .i64 k,.int .i64 n,v]/\w.ownsRow 0 96 3 v (J ks) xs/\(∀g,v.ownBlock=Z g->S g/\¬S' g)/\(∀b,S' b->S b)/\Dz w ks S' xs
def Dz(w:World):List AF->(Nat->Prop)->List Value->Prop
 |[],_,xs=>xs=[]
 |e::r,S,xs=>∃(c ys:List Value) (S1 S2:Nat->Prop),xs=c++ys/\(∀b,S1 b->S b/\¬S2 b)/\(∀b,S2 b->S b)/\GI w e S1 c/\Dz w r S2 ys
end
def HH(w:World)(v:Value)(c:List AF)(S:Nat->Prop):Prop:=
 ∃(d:List Value) (a:Nat->Prop),w.ownsRow 0 96 3 v (J c) d/\(∀g,v.ownBlock=Z g->S g/\¬a g)/\(∀b,a b->S b)/\Dz w c a d
mutual
def Gi(w:World):AG->(Nat->Prop)->List Value->Prop
 | ⟨k, t, i, v, c, b, e⟩, S, cs => ∃ (iv vv Ck Cy : Value) (xb xe : List Value) (Si Sv Sb Se Sb' Se' : Nat -> Prop), cs = [.int .i64 k, .int .i64 t, .int .i64 i.t, .int .i64 i.v, iv, .int .i64 v.t, .int .i64 v.v, vv, .int .i64 c, Ck, Cy] /\
   ((∀b,Si b->S b/\¬Sv b/\¬Sb b/\¬Se b)/\(∀b,Sv b->S b/\¬Sb b/\¬Se b)/\(∀b,Sb b->S b/\¬Se b)/\(∀b,Se b->S b))/\HH w iv i.k Si/\HH w vv v.k Sv/\
   (w.ownsRow 0 98 11 Ck (J b) xb/\(∀g,Ck.ownBlock=Z g->Sb g/\¬Sb' g)/\(∀b,Sb' b->Sb b)/\Dp w b Sb' xb)/\
   (w.ownsRow 0 98 11 Cy (J e) xe/\(∀g,Cy.ownBlock=Z g->Se g/\¬Se' g)/\(∀b,Se' b->Se b)/\Dp w e Se' xe)
def Dp(w:World):List AG->(Nat->Prop)->List Value->Prop
 |[],_,xs=>xs=[]
 |s::r,S,xs=>∃(c ys:List Value) (S1 S2:Nat->Prop),xs=c++ys/\(∀b,S1 b->S b/\¬S2 b)/\(∀b,S2 b->S b)/\Gi w s S1 c/\Dp w r S2 ys
end
def JQ(w:World)(v:Value)(c:List AG)(S:Nat->Prop):Prop:=
 ∃(d:List Value) (a:Nat->Prop),w.ownsRow 0 98 11 v (J c) d/\(∀g,v.ownBlock=Z g->S g/\¬a g)/\(∀b,a b->S b)/\Dp w c a d
def Qv(w:World)(v:Value)(p:BE)(S:Nat->Prop):Prop:=
 ∃(d a e:Value) (c:Nat->Prop),v=.agg #[d,a,e]/\w.ownsRow 0 3 1 d (J p.s) (BW p.s)/\w.ownsRow 0 3 1 a (J p.r) (BW p.r)/\JQ w e p.b c/\
  (∀g,d.ownBlock=Z g->S g/\¬c g/\a.ownBlock≠Z g)/\(∀g,a.ownBlock=Z g->S g/\¬c g)/\(∀b,c b->S b)
variable{w w':World}{S S' φ:Nat->Prop}
theorem NJ{e:TypeId}{a}{v}{n}{b}(h:w.ownsRow 0 e a v n b)(c:∀g,v.ownBlock=Z g->w'.heap[g]? =w.heap[g]?):w'.ownsRow 0 e a v n b:=
 (CH.same (CH.mk' h) c).1
mutual
theorem GI.same:∀(e:AF) (S:Nat->Prop) (cs:List Value),GI w e S cs->(∀b,S b->b<w.heap.size->w'.heap[b]? =w.heap[b]?)->GI w' e S cs
 |⟨_,_,ks⟩,S,_,⟨v,xs,S',h1,h2,h3,h4,h5⟩,hs=>⟨v,xs,S',h1,NJ h2 fun g hg=>hs g (h3 g hg).1 (World.ownsRow.lt h2 g hg).2,h3,h4,Dz.same ks S' xs h5 fun b hb=>hs b (h4 b hb)⟩
theorem Dz.same:∀(ks:List AF) (S:Nat->Prop) (xs:List Value),Dz w ks S xs->(∀b,S b->b<w.heap.size->w'.heap[b]? =w.heap[b]?)->Dz w' ks S xs
 |[],_,_,h,_=>h
 |e::r,S,_,⟨c,ys,S1,S2,h1,h2,h3,h4,h5⟩,hs=>⟨c,ys,S1,S2,h1,h2,h3,GI.same e S1 c h4 fun b hb=>hs b (h2 b hb).1,Dz.same r S2 ys h5 fun b hb=>hs b (h3 b hb)⟩
end
theorem HH.same{v}{a}(h:HH w v a S)(i:∀b,S b->b<w.heap.size->w'.heap[b]? =w.heap[b]?):HH w' v a S:=by
 obtain⟨d,S',e,c,j,l⟩:=h;exact⟨d,S',NJ e λg f=>i g (c g f).1 (World.ownsRow.lt e g f).2,c,j,Dz.same a S' d l λb k=>i b (j b k)⟩
mutual
theorem Gi.same:∀(s:AG) (S:Nat->Prop) (cs:List Value),Gi w s S cs->(∀b,S b->b<w.heap.size->w'.heap[b]? =w.heap[b]?)->Gi w' s S cs
 | ⟨_, _, _, _, _, b, e⟩, S, _, ⟨iv, vv, Ck, Cy, xb, xe, Si, Sv, Sb, Se, Sb', Se', h1, ⟨d1, d2, d3, d4⟩, h2, h3, ⟨b1, b2, b3, b4⟩, ⟨e1, e2, e3, e4⟩⟩, hs =>
  ⟨iv,vv,Ck,Cy,xb,xe,Si,Sv,Sb,Se,Sb',Se',h1,⟨d1,d2,d3,d4⟩,h2.same fun b hb=>hs b (d1 b hb).1,h3.same fun b hb=>hs b (d2 b hb).1,
   ⟨NJ b1 fun g hg=>hs g (d3 g (b2 g hg).1).1 (World.ownsRow.lt b1 g hg).2,b2,b3,Dp.same b Sb' xb b4 fun x hx=>hs x (d3 x (b3 x hx)).1⟩,
   ⟨NJ e1 fun g hg=>hs g (d4 g (e2 g hg).1) (World.ownsRow.lt e1 g hg).2,e2,e3,Dp.same e Se' xe e4 fun x hx=>hs x (d4 x (e3 x hx))⟩⟩
theorem Dp.same:∀(ss:List AG) (S:Nat->Prop) (xs:List Value),Dp w ss S xs->(∀b,S b->b<w.heap.size->w'.heap[b]? =w.heap[b]?)->Dp w' ss S xs
 |[],_,_,h,_=>h
 |s::r,S,_,⟨c,ys,S1,S2,h1,h2,h3,h4,h5⟩,hs=>⟨c,ys,S1,S2,h1,h2,h3,Gi.same s S1 c h4 fun b hb=>hs b (h2 b hb).1,Dp.same r S2 ys h5 fun b hb=>hs b (h3 b hb)⟩
end
theorem JQ.same{v}{a}(h:JQ w v a S)(i:∀b,S b->b<w.heap.size->w'.heap[b]? =w.heap[b]?):JQ w' v a S:=by
 obtain⟨d,S',e,c,j,l⟩:=h;exact⟨d,S',NJ e λg f=>i g (c g f).1 (World.ownsRow.lt e g f).2,c,j,Dp.same a S' d l λb k=>i b (j b k)⟩
theorem Qv.same{v}{p}(h:Qv w v p S)(c:∀b,S b->b<w.heap.size->w'.heap[b]? =w.heap[b]?):Qv w' v p S:=by
 obtain⟨n,o,m,q,rfl,d,e,l,f,i,j⟩:=h;exact⟨n,o,m,q,rfl,NJ d λg a=>c g (f g a).1 (World.ownsRow.lt d g a).2,NJ e λg a=>c g (i g a).1 (World.ownsRow.lt e g a).2,l.same λb k=>c b (j b k),f,i,j⟩
theorem HH.mono{v}{e}(h:HH w v e S)(d:∀b,S b->S' b):HH w v e S':=by
 obtain⟨i,T,j,a,l,k⟩:=h;exact⟨i,T,j,λg c=>⟨d g (a g c).1,(a g c).2⟩,λb f=>d b (l b f),k⟩
theorem JQ.mono{v}{e}(h:JQ w v e S)(d:∀b,S b->S' b):JQ w v e S':=by
 obtain⟨i,T,j,a,l,k⟩:=h;exact⟨i,T,j,λg c=>⟨d g (a g c).1,(a g c).2⟩,λb f=>d b (l b f),k⟩
theorem Qv.mono{v}{p}(h:Qv w v p S)(c:∀b,S b->S' b):Qv w v p S':=by
 obtain⟨m,o,k,q,rfl,f,l,j,d,e,n⟩:=h;exact⟨m,o,k,q,rfl,f,l,j,λg a=>⟨c g (d g a).1,(d g a).2⟩,λg a=>⟨c g (e g a).1,(e g a).2⟩,λb i=>c b (n b i)⟩
mutual
theorem GI.read:∀(e:AF) (S:Nat->Prop) (cs:List Value),GI w e S cs->(∀b,S b->φ b)->JZ w φ e cs
 |⟨_,_,ks⟩,S,_,⟨v,xs,S',h1,h2,h3,h4,h5⟩,hs=>⟨v,xs,h1,Jo h2 fun g hg=>hs g (h3 g hg).1,Dz.read ks S' xs h5 fun b hb=>hs b (h4 b hb)⟩
theorem Dz.read:∀(ks:List AF) (S:Nat->Prop) (xs:List Value),Dz w ks S xs->(∀b,S b->φ b)->GE w φ ks xs
 |[],_,_,h,_=>h
 |e::r,S,_,⟨c,ys,S1,S2,h1,h2,h3,h4,h5⟩,hs=>⟨c,ys,h1,GI.read e S1 c h4 fun b hb=>hs b (h2 b hb).1,Dz.read r S2 ys h5 fun b hb=>hs b (h3 b hb)⟩
end
theorem HH.read{v}{a}(h:HH w v a S)(d:∀b,S b->φ b):EG w φ v a:=by
 obtain⟨c,T,i,f,l,k⟩:=h;exact⟨c,Jo i λg j=>d g (f g j).1,Dz.read a T c k λb e=>d b (l b e)⟩
mutual
theorem Gi.read:∀(s:AG) (S:Nat->Prop) (cs:List Value),Gi w s S cs->(∀b,S b->φ b)->JM w φ s cs
 | ⟨_, _, _, _, _, b, e⟩, S, _, ⟨iv, vv, Ck, Cy, xb, xe, Si, Sv, Sb, Se, Sb', Se', h1, ⟨d1, d2, d3, d4⟩, h2, h3, ⟨b1, b2, b3, b4⟩, ⟨e1, e2, e3, e4⟩⟩, hs =>
  ⟨iv,vv,Ck,Cy,xb,xe,h1,h2.read fun b hb=>hs b (d1 b hb).1,h3.read fun b hb=>hs b (d2 b hb).1,
   Jo b1 fun g hg=>hs g (d3 g (b2 g hg).1).1,Dp.read b Sb' xb b4 fun x hx=>hs x (d3 x (b3 x hx)).1,
   Jo e1 fun g hg=>hs g (d4 g (e2 g hg).1),Dp.read e Se' xe e4 fun x hx=>hs x (d4 x (e3 x hx))⟩
theorem Dp.read:∀(ss:List AG) (S:Nat->Prop) (xs:List Value),Dp w ss S xs->(∀b,S b->φ b)->FZ w φ ss xs
 |[],_,_,h,_=>h
 |s::r,S,_,⟨c,ys,S1,S2,h1,h2,h3,h4,h5⟩,hs=>⟨c,ys,h1,Gi.read s S1 c h4 fun b hb=>hs b (h2 b hb).1,Dp.read r S2 ys h5 fun b hb=>hs b (h3 b hb)⟩
end
theorem JQ.read{v}{a}(h:JQ w v a S)(d:∀b,S b->φ b):JG w φ v a:=by
 obtain⟨c,T,i,f,l,k⟩:=h;exact⟨c,Jo i λg j=>d g (f g j).1,Dp.read a T c k λb e=>d b (l b e)⟩
theorem Qv.read{v}{p}(h:Qv w v p S)(c:∀b,S b->φ b):iX w φ v p:=by
 obtain⟨l,o,i,q,rfl,d,j,f,k,m,n⟩:=h;exact⟨l,o,i,rfl,Jo d λg a=>c g (k g a).1,Jo j λg a=>c g (m g a).1,f.read λb e=>c b (n b e)⟩
def mT(R:World->(Nat->Prop)->Prop)(S:Nat->Prop):World->(Nat->Prop)->Prop:=λw φ=>R w S/\∀b,S b->b<w.heap.size/\φ b
theorem mT.nice{R}(S)(g:∀w w',R w S->(∀b,S b->b<w.heap.size->w'.heap[b]? =w.heap[b]?)->R w' S):IQ (mT R S):=
 λw w' _ _ e ⟨f,c⟩=>⟨g w w' f λb a d=>(e.2 b d (c b a).2).2,λb a=>⟨IM (c b a).1 e.1,(e.2 b (c b a).1 (c b a).2).1⟩⟩
theorem Dz.mono:∀{g:List AF} {S S':Nat->Prop} {d:List Value},Dz w g S d->(∀b,S b->S' b)->Dz w g S' d
 |[],_,_,_,h,_=>h
 |_::_,_,_,_,⟨c,k,l,o,i,e,j,n,m⟩,f=>⟨c,k,l,o,i,λb a=>⟨f b (e b a).1,(e b a).2⟩,λb a=>f b (j b a),n,m⟩
theorem Dp.mono:∀{g:List AG} {S S':Nat->Prop} {d:List Value},Dp w g S d->(∀b,S b->S' b)->Dp w g S' d
 |[],_,_,_,h,_=>h
 |_::_,_,_,_,⟨c,k,l,o,i,e,j,n,m⟩,f=>⟨c,k,l,o,i,λb a=>⟨f b (e b a).1,(e b a).2⟩,λb a=>f b (j b a),n,m⟩
theorem Dz.snoc:∀{m:List AF} {S S' T:Nat->Prop} {i c:List Value} {e:AF},Dz w m S i->GI w e T c->(∀b,S b->S' b/\¬T b)->(∀b,T b->S' b)->Dz w (m++[e]) S' (i++c)
 |[],S,S',T,i,c,e,h,k,d,f=>by
  rw[show i=[]from h];exact⟨c,[],T,λ_=>False,At,λb g=>⟨f b g,λh=>h⟩,λb g=>g.elim,k,rfl⟩
 | a :: r, S, S', T, _, c, e, ⟨x, n, o, s, t, j, l, q, p⟩, k, d, f =>
  ⟨x,n++c,o,λb=>s b\/T b,by rw[t,Fj],λb g=>⟨(d b (j b g).1).1,λh=>h.elim (j b g).2 (d b (j b g).1).2⟩,λb g=>g.elim (λh=>(d b (l b h)).1) (f b),q,
   Dz.snoc p k (λb g=>⟨.inl g,(d b (l b g)).2⟩) λb g=>.inr g⟩
theorem Dp.snoc:∀{m:List AG} {S S' T:Nat->Prop} {i c:List Value} {e:AG},Dp w m S i->Gi w e T c->(∀b,S b->S' b/\¬T b)->(∀b,T b->S' b)->Dp w (m++[e]) S' (i++c)
 |[],S,S',T,i,c,e,h,k,d,f=>by
  rw[show i=[]from h];exact⟨c,[],T,λ_=>False,At,λb g=>⟨f b g,λh=>h⟩,λb g=>g.elim,k,rfl⟩
 | a :: r, S, S', T, _, c, e, ⟨x, n, o, s, t, j, l, q, p⟩, k, d, f =>
  ⟨x,n++c,o,λb=>s b\/T b,by rw[t,Fj],λb g=>⟨(d b (j b g).1).1,λh=>h.elim (j b g).2 (d b (j b g).1).2⟩,λb g=>g.elim (λh=>(d b (l b h)).1) (f b),q,
   Dp.snoc p k (λb g=>⟨.inl g,(d b (l b g)).2⟩) λb g=>.inr g⟩
theorem GI.iff(e)(S)(d):GI w e S d↔∃f,d=[.int .i64 e.t,.int .i64 e.v,f]/\HH w f e.k S:=by
 cases e with
 |mk k n g=>exact⟨λ⟨v,b,T,a,c⟩=>⟨v,a,b,T,c⟩,λ⟨v,a,b,T,c⟩=>⟨v,b,T,a,c⟩⟩
theorem Gi.iff(s)(S)(C):Gi w s S C↔∃n m Ck Cy l h d a,C=[.int .i64 s.t,.int .i64 s.g,.int .i64 s.i.t,.int .i64 s.i.v,n,.int .i64 s.v.t,.int .i64 s.v.v,m,.int .i64 s.count,Ck,Cy]/\
  ((∀b,l b->S b/\¬h b/\¬d b/\¬a b)/\(∀b,h b->S b/\¬d b/\¬a b)/\(∀b,d b->S b/\¬a b)/\(∀b,a b->S b))/\HH w n s.i.k l/\HH w m s.v.k h/\JQ w Ck s.b d/\JQ w Cy s.e a:=by
 cases s with
 | mk k t i v c b e =>
  exact⟨λ⟨n,m,Ck,Cy,u,z,l,h,d,a,f,j,x,y,o,r,p,q⟩=>⟨n,m,Ck,Cy,l,h,d,a,x,y,o,r,⟨u,f,p⟩,⟨z,j,q⟩⟩,
   λ⟨n,m,Ck,Cy,l,h,d,a,x,y,o,r,⟨u,f,p⟩,⟨z,j,q⟩⟩=>⟨n,m,Ck,Cy,u,z,l,h,d,a,f,j,x,y,o,r,p,q⟩⟩
end
theorem Zw{a}{k}(h:k<J a):By (a.take (k+1))=By (a.take k)+(1+BB a[k]):=by
 rw[Gr _ _ h,Ud];simp[By]
theorem qH(Ad):∀c a p,J c<=p->DH (c++a) p Ad=c++DH a (p-J c) Ad:=by
 induction Ad with
 |nil=>intro c a p _;rfl
 |cons u r b=>
  intro c a p d;simp only[DH];rw[List.set_append_right _ _ d,b _ _ _ O,show p+1-J c=p-J c+1 by omega]
theorem sU(Ad):∀c a p,p+J Ad<=J c->DH (c++a) p Ad=DH c p Ad++a:=by
 induction Ad with
 |nil=>intro c a p _;rfl
 |cons u r b=>
  intro c a p d;simp only[BK]at d;simp only[DH];rw[List.set_append_left _ _ O,b _ _ _ CY]
theorem qZ{c Ad}(h:J Ad=J c):DH c 0 Ad=Ad:=by
 have a:=lS Ad c 0 O;rw[GS,Dq (by rw[Qi];omega)]at a
 simpa using a
theorem GI.len{w}{e}{S}{c}(h:GI w e S c):J c=3:=by
 obtain⟨a,rfl,_⟩:=(GI.iff e S c).1 h;rfl
theorem Gi.len{w}{s}{S}{c}(h:Gi w s S c):J c=11:=by
 obtain⟨_,_,_,_,_,_,_,_,rfl,_⟩:=(Gi.iff s S c).1 h;rfl
theorem Dz.focus{w}:∀{y:List AF} {S:Nat->Prop} {t:List Value},Dz w y S t->∀i x,∃c l,GI w y[i] l c/\(∀b,l b->S b)/\(∀j,j<3->t[i*3+j]? =c[j]?)/\
  ∀k p g,(∀b,S b->¬l b->b<w.heap.size->k.heap[b]? =w.heap[b]?)->GI k p l g->Dz k (y.set i p) S (DH t (i*3) g)
 |[],_,_,_,i,x=>by simp at x
 | e :: r, S, t, ⟨c, o, u, C, G, m, n, z, D⟩, i, x => by
  have q:=z.len;subst G;cases i with
  |zero=>
   refine⟨c,u,z,λb a=>(m b a).1,λj E=>by rw[Fb O];simp,λk p g v s=>?_⟩
   refine⟨g,o,u,C,?_,m,n,s,Dz.same r C o D λb a f=>v b (n b a) (λh=>(m b h).2 a) f⟩
   rw[Nat.zero_mul,sU g c o 0 (by rw[s.len];omega),qZ (by rw[s.len,q])]
  | succ i =>
   obtain⟨d,l,H,F,L,M⟩:=Dz.focus D i (by simpa using x)
   refine⟨d,l,H,λb a=>n b (F b a),λj E=>?_,λk p g v s=>?_⟩
   ·rw[Ip (by rw[q,Ft];omega), <-L j E]
    congr 1;rw[q,Ft];omega
   refine⟨c,DH o (i*3) g,u,C,?_,m,n,GI.same e u c z λb a f=>v b (m b a).1 (λh=>(m b a).2 (F b h)) f,M k p g (λb a N f=>v b (n b a) N f) s⟩
   rw[qH g c o _ (by rw[q,Ft];omega),q,Ft,Nat.add_sub_cancel]
theorem Dp.focus{w}:∀{y:List AG} {S:Nat->Prop} {t:List Value},Dp w y S t->∀i x,∃c l,Gi w y[i] l c/\(∀b,l b->S b)/\(∀j,j<11->t[i*11+j]? =c[j]?)/\
  ∀k p g,(∀b,S b->¬l b->b<w.heap.size->k.heap[b]? =w.heap[b]?)->Gi k p l g->Dp k (y.set i p) S (DH t (i*11) g)
 |[],_,_,_,i,x=>by simp at x
 | e :: r, S, t, ⟨c, o, u, C, G, m, n, z, D⟩, i, x => by
  have q:=z.len;subst G;cases i with
  |zero=>
   refine⟨c,u,z,λb a=>(m b a).1,λj E=>by rw[Fb O];simp,λk p g v s=>?_⟩
   refine⟨g,o,u,C,?_,m,n,s,Dp.same r C o D λb a f=>v b (n b a) (λh=>(m b h).2 a) f⟩
   rw[Nat.zero_mul,sU g c o 0 (by rw[s.len];omega),qZ (by rw[s.len,q])]
  | succ i =>
   obtain⟨d,l,H,F,L,M⟩:=Dp.focus D i (by simpa using x)
   refine⟨d,l,H,λb a=>n b (F b a),λj E=>?_,λk p g v s=>?_⟩
   ·rw[Ip (by rw[q,Ft];omega), <-L j E]
    congr 1;rw[q,Ft];omega
   refine⟨c,DH o (i*11) g,u,C,?_,m,n,Gi.same e u c z λb a f=>v b (m b a).1 (λh=>(m b a).2 (F b h)) f,M k p g (λb a N f=>v b (n b a) N f) s⟩
   rw[qH g c o _ (by rw[q,Ft];omega),q,Ft,Nat.add_sub_cancel]
section
variable{φ ψ:Nat->Prop}{w0 w w':World}{L:List FY}
theorem Dz.at:∀{h:List AF} {S:Nat->Prop} {g:List Value},Dz w h S g->∀i j,∃l,g[i*3]? =Z (.int .i64 h[i].t)/\g[i*3+1]? =Z (.int .i64 h[i].v)/\g[i*3+2]? =Z l/\HH w l h[i].k S
 |[],_,_,_,i,j=>by simp at j
 | e :: r, S, _, ⟨c, z, p, C, x, y, o, s, q⟩, i, j => by
  obtain⟨l,rfl,u⟩:=(GI.iff e p c).1 s;subst x;cases i with
  |zero=>exact⟨l,rfl,rfl,rfl,u.mono λb n=>(y b n).1⟩
  |succ i=>
   obtain⟨m,a,b,d,f⟩:=Dz.at q i (by simpa using j)
   refine⟨m,?_,?_,?_,f.mono o⟩<;>(rw[Ft];simpa[Nat.add_assoc]using by assumption)
theorem HH.open{v}{e}{S}(h:HH w v e S):∃a d,v=.slice a (J e) d/\(J e)<=d/\(J e)<=9223372036854775807/\d<=9223372036854775807/\
  ∀i (l:i<J e),∃b c f,a=Z ⟨b,c,I⟩/\b<w.heap.size/\S b/\w.cell? ⟨b,c+i*3,I⟩=Z (.int .i64 e[i].t)/\w.cell? ⟨b,c+i*3+1,I⟩=Z (.int .i64 e[i].v)/\w.cell? ⟨b,c+i*3+2,I⟩=Z f/\HH w f e[i].k S:=by
 obtain⟨H,q,p,o,y,r⟩:=h;obtain⟨M,a,d,s,x,C,G⟩:=Jo (j:=λg=>S g/\¬q g) p o
 unfold maxLen at C;refine⟨a,d,s,x,O,O,λi l=>?_⟩
 obtain⟨b,c,E,n,z,j⟩:=G O;obtain⟨f,D,u,F,m⟩:=r.at i l;exact⟨b,c,f,E,n,z.1,j _ _ D,j _ _ u,j _ _ F,m.mono y⟩
theorem HH.nil(w)(S):HH w (.slice I 0 0) [] S:=⟨[],λ_=>False,World.ownsRow_nil _ _ _ _,(λg a=>by cases a),λ_ h=>h.elim,rfl⟩
end
theorem eL(Ad):∀a p q,p+J Ad<=J a->(DH a p Ad)[q]? =if p<=q/\q<p+(J Ad)then Ad[q-p]? else a[q]? :=by
 induction Ad with
 |nil=>intro a p q _;simp only[DH,Bc];split;omega;rfl
 | cons u r d =>
  intro a p q h;simp only[BK]at h;simp only[DH,BK];rw[d _ _ _ CY];by_cases c:q=p
  ·subst c
   rw[AO O,AZ O,List.getElem?_set_self O,Nat.sub_self];rfl
  by_cases b:p+1<=q/\q<p+1+J r
  ·rw[AZ b,AZ O,show q-p=q-(p+1)+1 by omega];rfl
  rw[AO b,AO O,List.getElem?_set_ne O]
theorem nc{b a}{p}(h:p+J a<=J b)(c:∀j,j<J a->b[p+j]? =a[j]?):DH b p a=b:=by
 apply List.ext_getElem?;intro q;rw[eL _ _ _ _ h];split
 ·rename_i d
  rw[<-c _ O];congr 1;omega
 rfl
theorem rD{b a}{p k}(u)(h:p+J a<=J b)(d:k<J a):(DH b p a).set (p+k) u=DH b p (a.set k u):=by
 apply List.ext_getElem?;intro q;rw[eL _ _ _ _ (by simpa using h),IT,eL _ _ _ _ h,Qi,GP]
 by_cases c:p+k=q
 ·subst c
  rw[AZ rfl,AZ O,AZ O,Nat.add_sub_cancel_left,List.getElem?_set_self d]
 rw[AO c];split
 ·rw[List.getElem?_set_ne O]
 rfl
def FY.plain:FY->Prop
 |.G _=>False
 |_=>True
theorem FY.holds_plain{w}{c a}{r:FY}(d:r.plain)(h:r.holds w c):r.holds w a:=by
 cases r with
 |G R=>exact d.elim
 |C b f=>exact h
 |L e i v n g=>exact h
 |own S R=>exact h
theorem CA.adopt{v q}{D w}{L}(M:CA v q D w L)(r)(F:∀a∈L,a.plain)(N:r.plain)(h:r.holds w (λ_=>True))(C:∀a∈L,∀g,r.blk g->¬a.blk g)(E:∀g,r.blk g->¬q g):CA v q D w (L++[r]):=by
 have d:∀(i:Nat) (x:FY),(L++[r])[i]? =Z x->(i<L.length/\x∈L/\L[i]? =Z x)\/(i=L.length/\x=r):=by
  intro k z c;rcases Du k L.length with f|f
  ·rw[Fb f]at c;exact .inl ⟨f,FF c,c⟩
  rw[Ip f]at c
  have:k-L.length=0:=by
   rcases Nat.eq_zero_or_pos (k-L.length)with h|h
   ·exact h
   rw[FO (by rw[List.length_singleton];exact h)]at c;cases c
  rw[this]at c;simp at c;exact .inr ⟨O,c.symm⟩
 refine⟨M.kept,M.fresh,λx b=>?_,λi j x y g H G s b n=>?_,λx g b e=>?_⟩
 ·rcases DQ.1 b with b|b
  ·exact FY.holds_plain (F x b) (M.holds x b)
  rw[Dw]at b;subst b;exact FY.holds_plain N h
 ·rcases d i x H with⟨l,u,t⟩|⟨l,rfl⟩<;>rcases d j y G with⟨m,p,o⟩|⟨m,rfl⟩
  ·exact M.dis i j x y g t o s b n
  ·exact C x u g n b
  ·exact C y p g b n
  omega
 rcases DQ.1 b with b|b
 ·exact M.ge x g b e
 rw[Dw]at b;subst b;exact .inr (E g e)
section
variable{w:World}
mutual
theorem GI.cut:∀(e:AF) (S:Nat->Prop) (cs:List Value),GI w e S cs->GI w e (fun b=>S b/\b<w.heap.size) cs
 |⟨_,_,ks⟩,_,_,⟨v,xs,S',h1,h2,h3,h4,h5⟩=>⟨v,xs,fun b=>S' b/\b<w.heap.size,h1,h2,fun g hg=>⟨⟨(h3 g hg).1,(World.ownsRow.lt h2 g hg).2⟩,fun h=>(h3 g hg).2 h.1⟩,fun b hb=>⟨h4 b hb.1,hb.2⟩,Dz.cut ks S' xs h5⟩
theorem Dz.cut:∀(ks:List AF) (S:Nat->Prop) (xs:List Value),Dz w ks S xs->Dz w ks (fun b=>S b/\b<w.heap.size) xs
 |[],_,_,h=>h
 |e::r,_,_,⟨c,ys,S1,S2,h1,h2,h3,h4,h5⟩=>⟨c,ys,fun b=>S1 b/\b<w.heap.size,fun b=>S2 b/\b<w.heap.size,h1,fun b hb=>⟨⟨(h2 b hb.1).1,hb.2⟩,fun h=>(h2 b hb.1).2 h.1⟩,fun b hb=>⟨h3 b hb.1,hb.2⟩,GI.cut e S1 c h4,Dz.cut r S2 ys h5⟩
end
theorem HH.cut{v}{c}{S}(h:HH w v c S):HH w v c (λb=>S b/\b<w.heap.size):=by
 obtain⟨f,j,i,e,l,k⟩:=h;exact⟨f,λb=>j b/\b<w.heap.size,i,λg a=>⟨⟨(e g a).1,(World.ownsRow.lt i g a).2⟩,λh=>(e g a).2 h.1⟩,λb d=>⟨l b d.1,d.2⟩,Dz.cut c j f k⟩
mutual
theorem Gi.cut:∀(s:AG) (S:Nat->Prop) (cs:List Value),Gi w s S cs->Gi w s (fun b=>S b/\b<w.heap.size) cs
 | ⟨_, _, _, _, _, b, e⟩, _, _, ⟨iv, vv, Ck, Cy, xb, xe, Si, Sv, Sb, Se, Sb', Se', h1, ⟨d1, d2, d3, d4⟩, h2, h3, ⟨b1, b2, b3, b4⟩, ⟨e1, e2, e3, e4⟩⟩ =>
  ⟨iv,vv,Ck,Cy,xb,xe,fun b=>Si b/\b<w.heap.size,fun b=>Sv b/\b<w.heap.size,fun b=>Sb b/\b<w.heap.size,fun b=>Se b/\b<w.heap.size,fun b=>Sb' b/\b<w.heap.size,fun b=>Se' b/\b<w.heap.size,h1,
   ⟨fun b hb=>⟨⟨(d1 b hb.1).1,hb.2⟩,fun h=>(d1 b hb.1).2.1 h.1,fun h=>(d1 b hb.1).2.2.1 h.1,fun h=>(d1 b hb.1).2.2.2 h.1⟩,fun b hb=>⟨⟨(d2 b hb.1).1,hb.2⟩,fun h=>(d2 b hb.1).2.1 h.1,fun h=>(d2 b hb.1).2.2 h.1⟩,
    fun b hb=>⟨⟨(d3 b hb.1).1,hb.2⟩,fun h=>(d3 b hb.1).2 h.1⟩,fun b hb=>⟨d4 b hb.1,hb.2⟩⟩,h2.cut,h3.cut,
   ⟨b1,fun g hg=>⟨⟨(b2 g hg).1,(World.ownsRow.lt b1 g hg).2⟩,fun h=>(b2 g hg).2 h.1⟩,fun b hb=>⟨b3 b hb.1,hb.2⟩,Dp.cut b Sb' xb b4⟩,
   ⟨e1,fun g hg=>⟨⟨(e2 g hg).1,(World.ownsRow.lt e1 g hg).2⟩,fun h=>(e2 g hg).2 h.1⟩,fun b hb=>⟨e3 b hb.1,hb.2⟩,Dp.cut e Se' xe e4⟩⟩
theorem Dp.cut:∀(ks:List AG) (S:Nat->Prop) (xs:List Value),Dp w ks S xs->Dp w ks (fun b=>S b/\b<w.heap.size) xs
 |[],_,_,h=>h
 |e::r,_,_,⟨c,ys,S1,S2,h1,h2,h3,h4,h5⟩=>⟨c,ys,fun b=>S1 b/\b<w.heap.size,fun b=>S2 b/\b<w.heap.size,h1,fun b hb=>⟨⟨(h2 b hb.1).1,hb.2⟩,fun h=>(h2 b hb.1).2 h.1⟩,fun b hb=>⟨h3 b hb.1,hb.2⟩,Gi.cut e S1 c h4,Dp.cut r S2 ys h5⟩
end
theorem JQ.cut{v}{c}{S}(h:JQ w v c S):JQ w v c (λb=>S b/\b<w.heap.size):=by
 obtain⟨f,j,i,e,l,k⟩:=h;exact⟨f,λb=>j b/\b<w.heap.size,i,λg a=>⟨⟨(e g a).1,(World.ownsRow.lt i g a).2⟩,λh=>(e g a).2 h.1⟩,λb d=>⟨l b d.1,d.2⟩,Dp.cut c j f k⟩
end
section
variable{φ ψ:Nat->Prop}{w0 w:World}{L:List FY}
end
section
variable{P:Program}
structure MB(wr w:World)(S:Nat->Prop):Prop where
 below:Below wr.heap.size wr w
 C:∀b,S b->wr.heap.size<=b/\b<w.heap.size
theorem MB.start(w):MB w w.drew λ_=>False:=⟨(Below.refl _ _).drew,λ_ h=>h.elim⟩
theorem MB.call{d w a}{S}(h:MB d w S)(b:Below w.heap.size w a):MB d a S:=⟨h.below.trans (b.mono h.below.size),λc e=>⟨(h.C c e).1,IM (h.C c e).2 b.size⟩⟩
theorem MB.new{e w d}{S}(h:MB e w S)(b:Below w.heap.size w d)(f:w.heap.size<d.heap.size):MB e d λc=>S c\/c=w.heap.size:=
 ⟨h.below.trans (b.mono h.below.size),λc a=>by
  rcases a with a|rfl
  ·exact⟨(h.C c a).1,IM (h.C c a).2 b.size⟩
  exact⟨h.below.size,f⟩⟩
def aA(a S:Nat->Prop)(b:Nat):Prop:=a b/\¬S b
theorem MB.fresh{a w}{S c}(h:MB a w S)(f:∀b,a.heap.size<=b->c b):∀b,w.heap.size<=b->aA c S b:=λb d=>⟨f b (DO h.below.size d),λe=>by have:=(h.C b e).2;omega⟩
theorem MB.old{a w}{S c}(h:MB a w S){R}(e:IQ R)(i:R a c):R w (aA c S):=
 e _ _ _ _ ⟨h.below.size,λb d f=>⟨⟨f,λg=>by have:=(h.C b g).1;omega⟩,h.below.block b d⟩⟩ i
end
theorem CA.region{b e}{f a w}{L}{S}(M:CA b e f a L)(d:MB a w S){g}{c}(i:Bl w g c)(j:S g):CA b e f w (L++[.C g c]):=
 M.add d.below _ i λk h=>by cases h;exact(d.C _ j).1
theorem aA.app{c S}{L}{b}(h:aA (IA c L) S b)(X)(e:∀r∈X,∀g,r.blk g->S g):IA c (L++X) b:=
 ⟨h.1.1,λr a d=>by
  rcases DQ.1 a with a|a
  ·exact h.1.2 r a d
  exact h.2 (e r a b d)⟩
section
variable{P:Program}
def Qf(a:Array Oper):Bool:=(DA a.size).all λj=>(a[j]?).any λo=>o.after.all λe=> !Region.binds .any e||Y (e.on<j)
theorem fQ{a}(g:Qf a=V){k}{o}(f:k<a.size)(h:a[k]? =Z o){e}(i:e∈o.after)(c:Region.binds .any e=V):e.on<k:=by
 have b:=Bt.1 g k (GW.2 f);rw[h]at b;simp only[Option.any_some]at b;have d:=Array.all_eq_true'.1 b e i;rw[c]at d;simpa using d
theorem ab7{b}(m:Qf b=V){a}(n:a.size=b.size):∀k,k<b.size->a.getD k V=U->Region.ready .any b a≠[]:=by
 intro k;induction k using Nat.strongRecOn with
 | _ k r =>
  intro i q l;by_cases c:∃j,j<k/\a.getD j V=U
  ·obtain⟨j,p,h⟩:=c
   exact r j p O h l
  have d:b[k]? =Z b[k]:=Array.getElem?_eq_getElem i
  have:k∈Region.ready .any b a:=by
   refine mem_ready.2 ⟨q,b[k],d,λe s g=>?_⟩
   have o:=fQ m i d s g;cases f:a.getD e.on V
   ·exact absurd ⟨e.on,o,f⟩ c
   have:e.on<a.size:=O;simp[this]at f ⊢;exact f
  rw[l]at this;cases this
theorem sr{a:Array Bool}{j}(h:j<a.size):a.getD j V=a.getD j false:=by simp[h]
end
end Go.Proofs.YtfbeblgnjeokaaaGreat

namespace Go.Proofs.YtfbeblgnjeokaaaGreat
def Cm(k:Int):Int:=if k=1\/k=2 then 0 else if k=3 then 1 else if 4<=k/\k<=10 then 2 else if k=11 then 3 else -1
def GN(a b:Nat)(k:Int):Int:=if k=1 then 256 else if k=2 then a else if k=3 then b else 1
def Eo(e:AF):Bool:=Y (e.t=1)||Y (e.t=2)
def En(a b:Nat)(e:AF):Bool:=Y ((J e.k:Int)=Cm e.t)&&Y (0<=e.v)&&Y (e.v<GN a b e.t)
def KB(e:AF):Bool:=Y (e.t≠3)||(match e.k with|k::_=>Eo k|[]=>U)
def As(a b:Nat):Nat->AF->Bool
 |0,_=>U
 |d+1,e=>En a b e&&e.k.all (As a b d)&&KB e
def Je:Nat->AF->Nat
 |0,_=>1
 |d+1,e=>1+(e.k.map (Je d)).sum
def CQ(a b:Nat)(e:AF):Bool:=As a b 5 e&&Y (1+BB e<=15)
theorem KJ(e):BB e=By e.k:=by cases e;rfl
theorem tX(i j):∀d e,As i j d e=V->Je d e=1+BB e:=by
 intro d;induction d with
 |zero=>intro e h;simp[As]at h
 | succ d k =>
  intro e h;simp only[As,Aj,Bt]at h;rw[Je,KJ]
  have c:∀b:List AF,(∀e∈b,As i j d e=V)->(b.map (Je d)).sum=By b:=by
   intro b;induction b with
   |nil=>intro _;rfl
   |cons a r f=>intro g;rw[Fa,List.sum_cons,By,f λe l=>g e (Ep _ l),k a (g a EI)]
  rw[c _ h.1.2]
theorem N2(b a)(e):CQ b a e=(As b a 5 e&&Y (Je 5 e<=15)):=by
 unfold CQ;cases h:As b a 5 e
 ·rfl
 rw[tX b a 5 e h]
def EO(a b:Nat)(d c:Nat)(e:AF):Bool:=As a b d e&&Y (c+1+BB e<=15)
def Gj(b e:Nat)(d c:Nat)(a:List AF)(k:Nat):Bool:=(a.take k).all (As b e d)&&Y (c+By (a.take k)<=15)
theorem sD{a}{k}(h:k<J a):By (a.take (k+1))=By (a.take k)+(1+BB a[k]):=by
 rw[ND _ _ h,Ud];simp[By]
theorem qR(a)(k):By (a.take k)<=By a:=by
 have:=Ud (a.take k) (a.drop k);rw[List.take_append_drop]at this;omega
theorem Xj(e f){d c}{a}{k}(h:k<J a):Gj e f d c a (k+1)=(Gj e f d c a k&&EO e f d (c+By (a.take k)) a[k]):=by
 unfold Gj EO;rw[sD h,ND _ _ h,List.all_append];simp only[IS,List.all_nil,Bool.and_true];rw[GQ];simp only[Aj,decide_eq_true_eq];constructor
 ·rintro⟨⟨b,i⟩,g⟩;exact⟨⟨b,O⟩,i,O⟩
 rintro⟨⟨b,_⟩,g,j⟩;exact⟨⟨b,g⟩,O⟩
theorem L6(e g){d c}{a}{k}(h:k<J a)(b:EO e g d (c+By (a.take k)) a[k]=U):(a.all (As e g d)&&Y (c+By a<=15))=false:=by
 rw[Bool.eq_false_iff];intro f;simp only[Aj,decide_eq_true_eq,Bt]at f;have i:=f.1 _ (EL h);have j:=qR a (k+1);rw[sD h]at j;unfold EO at b;rw[i]at b;simp at b;omega
def Dy(e:AF):Bool:=Y (e.t=0)&&Y (e.v=0)&&Y (J e.k=0)
def Dn(s:AG):Bool:=
 if(s.t=3\/s.t=4)then
  Y (s.g=0)&&(if s.t=4 then Y (J s.e=0)&&Y (1<=s.count)&&Y (s.count<=3)&&Dy s.i&&Dy s.v
   else Y (s.count=0)&&Dy s.i)
 else Y (J s.b=0)&&Y (J s.e=0)&&Y (s.count=0)&&(Y (s.t=2)||Dy s.i)
def Ax(a c:Nat):Nat->AG->Bool
  |0,_=>U
  | d + 1, s => Dn s &&
    (if s.t=1\/s.t=5 then Y (0<=s.g)&&Y (s.g<a)&&CQ a c s.v
     else if s.t=2 then Y (0<=s.g)&&Y (s.g<c)&&CQ a c s.i&&Eo s.i&&CQ a c s.v
     else if s.t=3 then CQ a c s.v&&s.b.all (Ax a c d)&&s.e.all (Ax a c d)
     else if s.t=4 then s.b.all (Ax a c d)
     else U)
def MG(a c:Nat)(d:Nat)(b:List AG):Bool:=b.all (Ax a c d)
mutual
def Gn:AG->Nat
 |⟨_,_,_,_,_,b,e⟩=>1+CP b+CP e
def CP:List AG->Nat
 |[]=>0
 |s::r=>Gn s+CP r
end
def BZ(p:BE):Bool:=Gf p.s p.r&&MG (J p.s) (J p.r) 5 p.b&&Y (CP p.b<=60)
end Go.Proofs.YtfbeblgnjeokaaaGreat

namespace Go.Proofs.YtfbeblgnjeokaaaGreat
open Go Go.RowKit
theorem fV(l)(w):Calls prog 120 #[.int .i64 l] w λe a=>e=.returned (.bool (Af l))/\w=a:=by
 go_enter func120,ntmps120;go_wp2;all_goals go_ret
 all_goals exact⟨Dj (by simp[Af];try omega),rfl⟩
theorem wV(q y C)(b a)(w)(z:Cd w q (J b) 1 (BW b))(D:Cd w y (J a) 1 (BW a)):
  Calls prog 79 #[.agg #[q,y,C]] w λe E=>e=.returned (.bool (Gf b a))/\Below w.heap.size w E:=by
 have m:Below w.heap.size w (w.alloc (.cells #[q,y,C] 43)):=by go_grown
 obtain⟨M,N,rfl,-,L,-,g⟩:=(z.below m).open1;obtain⟨R,P,rfl,-,G,-,d⟩:=(D.below m).open1;have r:Hid (Gf b a=(b.all Af&&a.all Af&&Y (1<=J b)&&Y (J b<=12)&&Y (J a<=2))):=rfl;clear z D;go_enter func79,ntmps79;go_wp2_with fail;go_loop [3] (λi=>∃k:Nat,k<=J b/\i=.int .i64 k/\(b.take k).all Af=V) (λi=>J b-(intOf i).toNat)
 case atStart=>exact⟨0,Di _,rfl,rfl⟩
 case round=>
  obtain⟨k,Q,rfl,l⟩:=hrel;have s:=BD l;clear l;by_cases c:k<J b
  ·obtain⟨H,BA,rfl,u,p⟩:=g k c
   rw[Tg _ _ c]at p;have v:=BD (kQ Af b k c);clear g d;cases n:Af b[k]
   all_goals
    have h:=BD n;clear n;go_wp2_with fail;refine(fV _ _).mono ?_;rintro e F ⟨rfl,rfl⟩;rw[h.out];go_wp2_with fail
   ·go_ret
    exact⟨Dj (by rw[r.out,YE c h.out];rfl),m⟩
   go_round
   case rel=>exact⟨k+1,O,by go_num,by rw[v.out,s.out,h.out];rfl⟩
   case measure=>simp[intOf];omega
  have t:=show Hid (b.all Af=V)from by have:=s.out;rwa[Dq O]at this
  clear s g;go_wp2_with fail;go_loop [4] (λi=>∃k:Nat,k<=J a/\i=.int .i64 k/\(a.take k).all Af=V) (λi=>J a-(intOf i).toNat)
  case atStart=>exact⟨0,Di _,rfl,rfl⟩
  case round=>
   obtain⟨j,S,rfl,l⟩:=hrel;have o:=BD l;clear l;by_cases f:j<J a
   ·obtain⟨H,BA,rfl,u,p⟩:=d j f
    rw[Tg _ _ f]at p;have v:=BD (kQ Af a j f);clear d;cases n:Af a[j]
    all_goals
     have h:=BD n;clear n;go_wp2_with fail;refine(fV _ _).mono ?_;rintro e F ⟨rfl,rfl⟩;rw[h.out];go_wp2_with fail
    ·go_ret
     exact⟨Dj (by rw[r.out,YE f h.out];simp),m⟩
    go_round
    case rel=>exact⟨j+1,O,by go_num,by rw[v.out,o.out,h.out];rfl⟩
    case measure=>simp[intOf];omega
   have x:=show Hid (a.all Af=V)from by have:=o.out;rwa[Dq O]at this
   clear o d;go_wp2_with fail;all_goals go_ret
   all_goals refine⟨Dj ?_,m⟩
   all_goals rw[r.out,t.out,x.out]
   all_goals rw[GQ]
   all_goals simp
   all_goals omega
theorem mY{e}(d:e.t=3)(f:0<J e.k):KB e=(Y (e.k[0].t=1)||Y (e.k[0].t=2)):=by
 rcases e with⟨k,n,c⟩
 cases c with
 |nil=>simp[AF.k]at f
 |cons a r=>
  have b:k=3:=d;subst b;simp only[KB,AF.k,List.getElem_cons_zero,Eo];rw[decide_eq_false (by simp[AF.t])]
  rfl
theorem fY{a b d}{e}(h:As a b (d+1) e=V):J e.k<=3/\∀x∈e.k,As a b d x=true:=by
 simp only[As,En,Aj,decide_eq_true_eq,Bt]at h;refine⟨?_,h.1.2⟩;have c:=h.1.1.1.1;have:Cm e.t<=3:=by unfold Cm;(repeat' split)<;>omega
 omega
theorem wt{ks}{c}(h:∀x∈ks,1+BB x<=c):By ks<=J ks*c:=by
 induction ks with
 |nil=>simp[By]
 |cons a r d=>
  have f:=h a EI;have g:=d λx e=>h x (Ep _ e)
  simp only[By,BK,Ft];omega
theorem D7(b i):∀d e,As b i d e=V->1+BB e<=4^d:=by
 intro d;induction d with
 |zero=>intro e h;simp[As]at h
 |succ d c=>
  intro e h;obtain⟨a,f⟩:=fY h;have j:=wt (ks:=e.k) λx g=>c x (f x g)
  have l:J e.k*4^d<=3*4^d:=Iq _ a;have m:0<4^d:=Nat.pos_of_ne_zero At;rw[KJ,Nat.pow_succ];omega
theorem Kt(n b a)(w):Calls prog 74 #[.int .i64 n,.int .i64 b,.int .i64 a] w λe c=>e=.returned (.bool (Y (b<=n)&&Y (n<=a)))/\w=c:=by
 go_enter func74,ntmps74;go_wp2;all_goals go_ret
 all_goals exact⟨Dj (by simp;try omega),rfl⟩
theorem td(l)(w):Calls prog 167 #[.int .i64 l] w λe a=>e=.returned (.bool (Af l))/\w=a:=by
 go_enter func167,ntmps167;go_wp2_with fail;refine(Kt l 0 3 _).mono ?_;rintro e b ⟨rfl,rfl⟩;go_wp2_with fail;go_ret;exact⟨rfl,rfl⟩
theorem ac7(l)(w):Calls prog 168 #[.int .i64 l] w λe a=>e=.returned (.bool (!Af l))/\w=a:=by
 go_enter func168,ntmps168;go_wp2_with fail;refine(td l _).mono ?_;rintro e b ⟨rfl,rfl⟩;go_wp2_with fail;go_ret;exact⟨rfl,rfl⟩
theorem t0(p)(f)(v)(b)(w)(h:Cd w v (J b) 1 (BW b))(G:∀c w,(callFunc f c).run prog w=.ok (.enter f c) w)
  (s:∀x j,Calls prog f #[.int .i64 x] j λe l=>e=.returned (.bool (p x))/\j=l):
  Calls prog 186 #[v,.func (.func f) #[] #[]] w λe j=>∃r,e=.returned (.int .i64 r)/\Y (0<=r)=b.any p/\w=j:=by
 obtain⟨C,D,rfl,-,z,-,g⟩:=h.open1;have t:=BD s;clear h s;go_enter func186,ntmps186;go_wp2_with fail;go_loop [5,8] (λ_ i=>∃k:Nat,k<=J b/\i=.int .i64 k/\(b.take k).any p=U) (λ_ i=>J b-(intOf i).toNat)
 case atStart=>exact⟨0,Di _,rfl,rfl⟩
 case round=>
  obtain⟨k,E,rfl,n⟩:=hrel;have o:=BD n;clear n;by_cases a:k<J b
  ·obtain⟨H,BA,rfl,y,u⟩:=g k a
   rw[Tg _ _ a]at u;clear g;cases q:p b[k]
   all_goals
    have m:=BD q;clear q;go_wp2_with fail;refine(t.out b[k] _).mono ?_;rintro e F ⟨rfl,rfl⟩;rw[m.out];go_wp2_with fail
   ·go_round
    case rel=>exact⟨k+1,O,by go_num,by rw[Gr _ _ a,List.any_append,o.out];simp[m.out]⟩
    case measure=>simp[intOf];omega
   go_ret;exact⟨_,rfl,by rw[decide_eq_true O];symm;rw[List.any_eq_true];exact⟨_,EL a,m.out⟩,rfl⟩
  go_wp2_with fail;go_ret;refine⟨_,rfl,?_,rfl⟩;have:=o.out;rw[Dq O]at this;rw[this];rfl
theorem xk(p)(f)(v)(d)(w)(h:Cd w v (J d) 1 (BW d))(k:∀a w,(callFunc f a).run prog w=.ok (.enter f a) w)
  (j:∀x c,Calls prog f #[.int .i64 x] c λe g=>e=.returned (.bool (p x))/\c=g):
  Calls prog 164 #[v,.func (.func f) #[] #[]] w λe c=>e=.returned (.bool (d.any p))/\w=c:=by
 obtain⟨o,q,rfl,-⟩:=h.open1;have l:=BD j;have m:=BD k;clear j k;go_enter func164,ntmps164;go_wp2_with fail;refine(t0 p f _ d _ h m.out l.out).mono ?_;rintro e s ⟨r,rfl,i,rfl⟩;have n:=BD i;clear i;go_wp2_with fail;go_ret;exact⟨Dj n.out,rfl⟩
theorem vP(a:List Int):(!a.any λl=> !Af l)=a.all Af:=by
 induction a with
 |nil=>rfl
 |cons x r b=>simp only[List.any_cons,IS, <-b];cases Af x<;>simp
theorem jS(v)(a)(w)(h:Cd w v (J a) 1 (BW a)):
  Calls prog 115 #[v] w λe b=>e=.returned (.bool (a.all Af))/\w=b:=by
 obtain⟨f,g,rfl,-⟩:=h.open1;go_enter func115,ntmps115;go_wp2_with fail;refine(xk (λl=> !Af l) 168 _ a _ h (fu func168 Au rfl) (λx b=>ac7 x b)).mono ?_
 rintro e d ⟨rfl,rfl⟩;have c:=BD (vP a);go_wp2_with fail;go_ret;exact⟨Dj c.out,rfl⟩
theorem tU(p r)(a b)(w)(m:Cd w p (J a) 1 (BW a))(q:Cd w r (J b) 1 (BW b)):
  Calls prog 73 #[p,r] w λe s=>e=.returned (.bool (Gf a b))/\w=s:=by
 obtain⟨u,C,rfl,-,x,-⟩:=m.open1;obtain⟨E,D,rfl,-,y,-⟩:=q.open1;have k:Hid (Gf a b=(a.all Af&&b.all Af&&Y (1<=J a)&&Y (J a<=12)&&Y (J b<=2))):=rfl;by_cases c:(1:Int)<=(J a:Int)/\(J a:Int)<=12
 ·have d:(Y ((1:Int)<=J a)&&Y ((J a:Int)<=12))=true:=by simpa using c
  have g:=BD d;by_cases t:(J b:Int)<=2
  ·cases j:a.all Af
   ·have i:=BD j
    clear j d c;go_enter func73,ntmps73;go_wp2_with fail;refine(Kt _ 1 12 _).mono ?_;rintro e f ⟨rfl,rfl⟩;rw[g.out];go_wp2_with fail;refine(jS _ a _ m).mono ?_;rintro e f ⟨rfl,rfl⟩;rw[i.out];go_wp2_with fail;go_ret;exact⟨Dj (by rw[k.out,i.out];rfl),rfl⟩
   have i:=BD j;have l:=BD c;have o:=BD t;clear j d c;go_enter func73,ntmps73;go_wp2_with fail;refine(Kt _ 1 12 _).mono ?_;rintro e f ⟨rfl,rfl⟩;rw[g.out];go_wp2_with fail;refine(jS _ a _ m).mono ?_;rintro e f ⟨rfl,rfl⟩;rw[i.out];go_wp2_with fail;refine(jS _ b _ q).mono ?_;rintro e f ⟨rfl,rfl⟩;go_wp2_with fail;go_ret;refine⟨Dj ?_,rfl⟩;have v:=l.out;have z:=o.out;rw[k.out,i.out,decide_eq_true (show 1<=(J a) by omega),decide_eq_true (show(J a)<=12 by omega),decide_eq_true (show(J b)<=2 by omega)]
   simp
  have n:Hid (Gf a b=U):=by unfold Hid;rw[k.out,decide_eq_false (show ¬(J b)<=2 by omega)];simp
  clear d c;go_enter func73,ntmps73;go_wp2_with fail;refine(Kt _ 1 12 _).mono ?_;rintro e f ⟨rfl,rfl⟩;rw[g.out];go_wp2_with fail;go_ret;exact⟨Dj n.out.symm,rfl⟩
 have d:(Y ((1:Int)<=J a)&&Y ((J a:Int)<=12))=false:=by
  rw[Bool.eq_false_iff];simp only[ne_eq,Aj,decide_eq_true_eq];exact c
 have g:=BD d
 have n:Hid (Gf a b=U):=by
  unfold Hid;rw[k.out];rcases Classical.not_and_iff_not_or_not.1 c with h|h
  ·rw[decide_eq_false (show ¬1<=(J a) by omega)];simp
  rw[decide_eq_false (show ¬(J a)<=12 by omega)];simp
 clear d c;go_enter func73,ntmps73;go_wp2_with fail;refine(Kt _ 1 12 _).mono ?_;rintro e f ⟨rfl,rfl⟩;rw[g.out];go_wp2_with fail;go_ret;exact⟨Dj n.out.symm,rfl⟩
theorem nF(k n)(g)(w):Calls prog 184 #[.agg #[.int .i64 k,.int .i64 n,g]] w λe d=>e=.returned (.bool (Y (k=1)||Y (k=2)))/\Below w.heap.size w d:=by
 by_cases a:k=1
 ·have h:(k==1)=true:=by simp[a]
  have Q:=BD a;clear a;go_enter func184,ntmps184;go_wp2;go_ret;exact⟨Dj (by simp[Q.out]),by go_grown⟩
 have h:(k==1)=false:=by simp[a]
 have Q:=BD a;clear a;by_cases b:k=2
 ·have f:(k==2)=true:=by simp[b]
  have c:=BD b;clear b;go_enter func184,ntmps184;go_wp2;go_ret;exact⟨Dj (by simp[c.out]),by go_grown⟩
 have f:(k==2)=false:=by simp[b]
 have c:=BD b;clear b;go_enter func184,ntmps184;go_wp2;go_ret;exact⟨Dj (by rw[decide_eq_false Q.out,decide_eq_false c.out];rfl),by go_grown⟩
theorem yr(k)(w):Calls prog 205 #[.int .i64 k] w λe i=>e=.returned (.int .i64 (Cm k))/\w=i:=by
 by_cases f:k=1
 ·subst f
  go_enter func205,ntmps205;go_wp2_with fail;go_ret;exact⟨KM (by simp[Cm]),rfl⟩
 by_cases g:k=2
 ·subst g
  go_enter func205,ntmps205;go_wp2_with fail;go_ret;exact⟨KM (by simp[Cm]),rfl⟩
 by_cases c:k=3
 ·subst c
  go_enter func205,ntmps205;go_wp2_with fail;go_ret;exact⟨KM (by simp[Cm]),rfl⟩
 have n:(k==1)=false:=by simp[f]
 have o:(k==2)=false:=by simp[g]
 have m:(k==3)=false:=by simp[c]
 have H:=BD (And.intro f (And.intro g c));clear f g c;go_enter func205,ntmps205;go_wp2_with fail;refine(Kt k 4 10 _).mono ?_;rintro x l ⟨rfl,rfl⟩;by_cases a:4<=k/\k<=10
 ·have b:(Y (4<=k)&&Y (k<=10))=true:=by simp[a]
  rw[b];have h:=BD a;clear a b;go_wp2_with fail;go_ret;exact⟨KM (by have:=H.out;have:=h.out;unfold Cm;rw[AO O,AO O,AZ O]),rfl⟩
 have b:(Y (4<=k)&&Y (k<=10))=false:=CY;rw[b];have h:=BD a;clear a b;by_cases d:k=11
 ·subst d
  go_wp2_with fail;go_ret;exact⟨KM (by simp[Cm]),rfl⟩
 have p:(k==11)=false:=by simp[d]
 have j:=BD d;clear d;go_wp2_with fail;go_ret;exact⟨KM (by have:=H.out;have:=h.out;have:=j.out;unfold Cm;rw[AO O,AO O,AO O,AO O]),rfl⟩
theorem YB{a b d c}{e}(f:En a b e=V)(g:KB e=V):EO a b (d+1) c e=Gj a b d (c+1) e.k (J e.k):=by
 unfold EO Gj;rw[Dq (BR _),As,f,g,KJ];simp
theorem Zv{b e d c k}{a}(f:k<J a)(g:EO b e d (c+By (a.take k)) a[k]=U):Gj b e d c a (J a)=false:=by
 unfold Gj;rw[Dq (BR _)];exact L6 b e f g
theorem VK{a b d c}{e}(f:En a b e=U):EO a b (d+1) c e=false:=by
 unfold EO;rw[As,f];rfl
theorem K9{a f d c}{e}(b:KB e=U):EO a f (d+1) c e=false:=by
 unfold EO;rw[As,b];simp
theorem Yr{a b}{k n h}(c:h=GN a b k-1):(Y (0<=n)&&Y (n<=h))=(Y (0<=n)&&Y (n<GN a b k)):=by
 congr 1;exact decide_eq_decide.2 O
theorem R9(a1 a2)(f c1 a c2)(v3)(h1:f<=9223372036854775807)(h2:a<=9223372036854775807):∀(d:Nat) (s:Int),s+d=6->1<=s->∀(e:AF) (L:Nat->Prop) (v:Value) (c n:Nat) (w:World),Tq w L v e->¬L n->Bl w n [.int .i64 c]->c<=15->
  Calls prog 196 #[.agg #[.slice a1 f c1,.slice a2 a c2,v3],v,.int .i64 s,.pointer (Z ⟨n,0,I⟩)] w λx w'=>
   x=.returned (.bool (EO f a d c e))/\(EO f a d c e=V->Bl w' n [.int .i64 (c+1+BB e:Nat)])/\(∃u,Bl w' n [u])/\Dl (λb=>¬b=n) w w':=by
 intro d;induction d with
 | zero =>
  intro s aW aU e L v c n w h aO E hc;obtain⟨kv,rfl,hk⟩:=h;have y:Hid (EO f a 0 c e=U):=rfl;obtain rfl:s=6:=O;have hl:=E.lt;have x0:w.cell? ⟨n,0,I⟩=Z (.int .i64 c):=(E.cell 0).trans rfl;have f0:=E.free
  obtain⟨aF,hW,M⟩:∃aF,aF=(((w.setCell ⟨n,0,I⟩ (.int .i64 ((c:Int)+1))).alloc (.cells #[.slice a1 f c1,.slice a2 a c2,v3] 43)).alloc (.cells #[.int .i64 e.t,.int .i64 e.v,kv] 96))/\CA (λ_=>True) (λb=>¬b=n) w aF [.C n [.int .i64 ((c:Int)+1)]]:=
   ⟨_,rfl,(((CA.start λ_ _=>trivial).adopt (.C n [.int .i64 c]) (λ_ ha=>by cases ha) Ay E (λ_ ha=>by cases ha) (λg hg hn=>by cases hg;exact hn rfl)).set 0 rfl 0 (.int .i64 ((c:Int)+1))).call (by go_grown)⟩
  have y0:=M.c 0 0 rfl rfl;have z0:=λX=>FN y0 X
  clear hk y0 E;by_cases q:(15:Int)<(c:Int)+1
  ·have p:Y ((15:Int)<(c:Int)+1)=true:=CY
   clear q;go_enter func196,ntmps196;go_wp2_with fail;rw[<-hW];clear hW;refine So Au Au ?_;repeat(any_goals (first|go_big_quiet_step (((fail)))|quiet_step (((fail)))))
   refine wpQuiet_nil ?_;rintro _ ⟨X,rfl⟩;replace M:=M.call (Jy aF X);go_wp2_with fail;go_ret;exact⟨Dj (by rw[y.out]),λh=>absurd (h.symm.trans y.out) At,⟨_,M.blk 0 rfl⟩,M.kept⟩
  have p:Y ((15:Int)<(c:Int)+1)=false:=CY;clear q;go_enter func196,ntmps196;go_wp2_with fail;rw[<-hW];clear hW;refine So Au Au ?_;repeat(any_goals (first|go_big_quiet_step (((fail)))|quiet_step (((fail)))))
  refine wpQuiet_nil ?_;rintro _ ⟨X,rfl⟩;replace M:=M.call (Jy aF X);go_wp2_with fail;go_ret;exact⟨Dj (by rw[y.out]),λh=>absurd (h.symm.trans y.out) At,⟨_,M.blk 0 rfl⟩,M.kept⟩
 | succ d ih =>
  intro s aW aU e L v c n w h aO E hc;obtain⟨kv,rfl,hk⟩:=h;obtain⟨ak,N,rfl,-,hn,-,-⟩:=hk.open;have hl:=E.lt;have bC:s<=5:=O;obtain⟨H,aL⟩:∃H:Nat->Prop,H=λb=>L b\/w.heap.size<=b:=⟨_,rfl⟩
  have x0:w.cell? ⟨n,0,I⟩=Z (.int .i64 c):=(E.cell 0).trans rfl;have f0:=E.free
  obtain⟨aF,hW,M⟩:∃aF,aF=(((w.setCell ⟨n,0,I⟩ (.int .i64 ((c:Int)+1))).alloc (.cells #[.slice a1 f c1,.slice a2 a c2,v3] 43)).alloc (.cells #[.int .i64 e.t,.int .i64 e.v,.slice ak (J e.k) N] 96))/\
    CA H (λb=>¬b=n) w aF [.C n [.int .i64 ((c:Int)+1)],.C w.heap.size [.slice a1 f c1,.slice a2 a c2,v3],.C (w.heap.size+1) [.int .i64 e.t,.int .i64 e.v,.slice ak (J e.k) N],.G (λw L=>EG w L (.slice ak (J e.k) N) e.k)]:=by
   refine⟨_,rfl,(((((CA.start (by rw[aL];exact λ_ h=>.inr h)).adopt (.C n [.int .i64 c]) (λ_ ha=>by cases ha) Ay E (λ_ ha=>by cases ha) (λg hg hn=>by cases hg;exact hn rfl)).set 0 rfl 0 (.int .i64 ((c:Int)+1))).box' _ _ At).box' _ _ At).G (EG.nice _ _) (EG.nice _ _ _ _ _ _ ⟨CY,λb hb hf=>⟨⟨by rw[aL];exact .inl hf,λr hr he=>?_⟩,?_⟩⟩ hk)⟩
   ·simp at hr
    rcases hr with rfl|rfl|rfl
    ·cases he;exact aO hf
    ·cases he;omega
    cases he;omega
   have aY:b≠n:=λhe=>aO (he▸hf)
   exact(((Below.refl w.heap.size (w.setCell ⟨n,0,I⟩ (.int .i64 ((c:Int)+1)))).alloc At _ |>.alloc At _).block b (by simpa using hb)).trans (Below.heap_setCell _ _ _ _ aY)
  clear hk E aL;have y0:=M.c 0 0 rfl rfl;have y1:=M.c 2 0 rfl rfl;have y2:=M.c 2 2 rfl rfl;have z0:=λX=>FN y0 X
  have z1:=λX=>FN y1 X
  have z2:=λX=>FN y2 X
  have HA:Hid (∀X,Calls prog 205 #[.int .i64 e.t] (aF.ext X) λx aV=>x=.returned (.int .i64 (Cm e.t))/\∃bE,aV=aF.ext bE):=λX=>
   Calls.ext_of' ((yr e.t _).mono λx w' h=>⟨h.1,h.2▸Below.refl _ _⟩)
  clear y0 y1 y2;have p2:Y ((5:Int)<s)=false:=decide_eq_false O;by_cases q1:(15:Int)<(c:Int)+1
  ·have p1:Y ((15:Int)<(c:Int)+1)=true:=decide_eq_true q1
   have y:Hid (EO f a (d+1) c e=U):=by unfold Hid EO;rw[decide_eq_false O,Bool.and_false]
   clear q1;go_enter func196,ntmps196;go_wp2_with fail;rw[<-hW];clear hW;refine So Au Au ?_;repeat(any_goals (first|go_big_quiet_step (((go_at_call 205;exact HA.out _)))|quiet_step (((go_at_call 205;exact HA.out _)))))
   refine wpQuiet_nil ?_;rintro _ ⟨X,rfl⟩;replace M:=M.call (Jy aF X);go_wp2_with fail;go_ret;exact⟨Dj (by rw[y.out]),λh=>absurd (h.symm.trans y.out) At,⟨_,M.blk 0 rfl⟩,M.kept⟩
  have p1:Y ((15:Int)<(c:Int)+1)=false:=decide_eq_false q1;by_cases q3:(J e.k:Int)=Cm e.t
  case neg=>
   have p3:(Cm e.t !=(J e.k:Int))=true:=CY;have y:Hid (EO f a (d+1) c e=U):=VK (by unfold En;rw[decide_eq_false q3];rfl)
   clear q1 q3;go_enter func196,ntmps196;go_wp2_with fail;rw[<-hW];clear hW;refine So Au Au ?_;repeat(any_goals (first|go_big_quiet_step (((go_at_call 205;exact HA.out _)))|quiet_step (((go_at_call 205;exact HA.out _)))))
   refine wpQuiet_nil ?_;rintro _ ⟨X,rfl⟩;replace M:=M.call (Jy aF X);go_wp2_with fail;go_ret;exact⟨Dj (by rw[y.out]),λh=>absurd (h.symm.trans y.out) At,⟨_,M.blk 0 rfl⟩,M.kept⟩
  have p3:(Cm e.t !=(J e.k:Int))=false:=CY;have HQ:=BD (And.intro q1 q3);clear q1 q3;go_enter func196,ntmps196;go_wp2_with fail;rw[<-hW];clear hW;refine So Au Au ?_;repeat(any_goals (first|go_big_quiet_step (((go_at_call 205;exact HA.out _)))|quiet_step (((go_at_call 205;exact HA.out _)))))
  refine wpQuiet_nil ?_;rintro _ ⟨X,rfl⟩;replace M:=M.call (Jy aF X);generalize aF.ext X=W1 at*;clear z0 z1 z2 HA p1 p2 p3 f0 x0;have y0:=M.c 1 0 rfl rfl;have y1:=M.c 1 1 rfl rfl;have y2:=M.c 2 0 rfl rfl;have y3:=M.c 2 1 rfl rfl;have y4:=M.c 2 2 rfl rfl;have m:=BD M;clear M;by_cases k1:e.t=1
  ·have aM:(e.t==1)=true:=by simp[k1]
   have aQ:(e.t==3)=false:=by simp[k1]
   have aE:Hid (KB e=V):=by unfold Hid KB;simp[k1]
   have Q:(255:Int)=GN f a e.t-1:=by rw[k1];simp[GN]
   clear k1
   have aB:=show Hid (En f a e=(Y (0<=e.v)&&Y (e.v<=255)))from by
    unfold Hid En;rw[decide_eq_true HQ.out.2,Yr Q];rfl
   clear Q;go_wp2_with fail;refine(Kt e.v 0 _ _).mono ?_;rintro x w1 ⟨rfl,rfl⟩;have F:=show Hid (En f a e=(Y (0<=e.v)&&Y (e.v<=255)))from aB.out;clear aB;obtain⟨qn,G⟩:∃qn,qn=(Y (0<=e.v)&&Y (e.v<=255)):=⟨_,rfl⟩;rw[<-G];have HN:=show Hid (En f a e=qn)from F.out.trans G.symm;clear G F;cases qn
   ·have y:Hid (EO f a (d+1) c e=U):=VK HN.out
    have M:=m.out;clear m;go_wp2_with fail;go_ret;exact⟨Dj (by rw[y.out]),λh=>absurd (h.symm.trans y.out) At,⟨_,M.blk 0 rfl⟩,M.kept⟩
   have P:Hid (EO f a (d+1) c e=Gj f a d (c+1) e.k (J e.k)):=YB HN.out aE.out;go_wp2_with fail;clear y0 y1 y2 y3 y4
   have S:Hid (Gj f a d (c+1) e.k 0=V/\CA H (λb=>¬b=n) w W1 [.C n [.int .i64 (c+1+By (e.k.take 0):Nat)],.C w.heap.size [.slice a1 f c1,.slice a2 a c2,v3],.C (w.heap.size+1) [.int .i64 e.t,.int .i64 e.v,.slice ak (J e.k) N],.G (λw L=>EG w L (.slice ak (J e.k) N) e.k)]):=by
    refine⟨?_,?_⟩
    ·have:=HQ.out.1
     simp[Gj,By];omega
    rw[show((c+1+By (e.k.take 0):Nat):Int)=(c:Int)+1 by simp[By]]
    exact m.out
   go_loopw [71] (λi wr=>∃k:Nat,k<=J e.k/\i=.int .i64 k/\Gj f a d (c+1) e.k k=V/\CA H (λb=>¬b=n) w wr [.C n [.int .i64 (c+1+By (e.k.take k):Nat)],.C w.heap.size [.slice a1 f c1,.slice a2 a c2,v3],.C (w.heap.size+1) [.int .i64 e.t,.int .i64 e.v,.slice ak (J e.k) N],.G (λw L=>EG w L (.slice ak (J e.k) N) e.k)]) (λi _=>J e.k-(intOf i).toNat)
   case atStart=>exact⟨0,Di _,rfl,S.out.1,S.out.2⟩
   case round=>
    clear m;obtain⟨k,hk,rfl,j,M⟩:=hrel;have C:=BD j;have aG:c+1+By (e.k.take k)<=15:=by unfold Gj at j;simp at j;exact j.2
    clear j;by_cases o:k<J e.k
    ·have D:¬IA H [.C n [.int .i64 (c+1+By (e.k.take k):Nat)],.C w.heap.size [.slice a1 f c1,.slice a2 a c2,v3],.C (w.heap.size+1) [.int .i64 e.t,.int .i64 e.v,.slice ak (J e.k) N],.G (λw L=>EG w L (.slice ak (J e.k) N) e.k)] n:=λh=>h.2 _ EI rfl
     obtain⟨a',c',he,-,-,-,l⟩:=(M.d 3 rfl).open;cases he
     obtain⟨b,aD,kv,aJ,aN,hf,g0,Bs,g2,z⟩:=l k o;cases aJ
     obtain⟨ka,kc,rfl,-,-,-,-⟩:=z.open;have bz:Below wr.heap.size wr (wr.alloc (.cells #[.int .i64 e.k[k].t,.int .i64 e.k[k].v,.slice ka e.k[k].k.length kc] 96)):=by go_grown
     have HE:=BD (EG.nice _ _ _ _ _ _ (Ew.below bz) z);have aC:=BD D;have x0:=M.c 1 0 rfl rfl;have x1:=M.c 1 1 rfl rfl;have x2:=M.c 1 2 rfl rfl;have s1:w.heap.size<wr.heap.size:=M.lt (r:=.C w.heap.size [.slice a1 f c1,.slice a2 a c2,v3]) (Ep _ EI) rfl;have m:=BD (M.C [.int .i64 e.k[k].t,.int .i64 e.k[k].v,.slice ka e.k[k].k.length kc] 96);have HP:=BD (Xj f a (d:=d) (c:=c+1) o);have HX:=show Hid (EO f a d (c+1+By (e.k.take k)) e.k[k]=U->EO f a (d+1) c e=U)from λh=>P.out.trans (Zv o h)
     have HT:=BD (Zw o);clear l D bz z M;go_wp2_with fail;refine(ih (s+1) O O e.k[k] _ _ (c+1+By (e.k.take k)) n _ ⟨_,rfl,HE.out⟩ aC.out (m.out.blk 0 rfl) aG).mono ?_;rintro x w2 ⟨rfl,r1,⟨u,r2⟩,kp⟩;obtain⟨q,hq⟩:∃q,q=EO f a d (c+1+By (e.k.take k)) e.k[k]:=⟨_,rfl⟩;rw[<-hq]at r1 ⊢;have T:=BD hq;clear hq x0 x1 x2 g0 Bs g2;cases q
     ·have R:=m.out.callB 0 rfl kp r2
      have y:=BD (HX.out T.out.symm);clear r1 r2 kp;go_wp2_with fail;go_ret;exact⟨Dj (by rw[y.out]),λh=>absurd (h.symm.trans y.out) At,⟨_,R.blk 0 rfl⟩,R.kept⟩
     have R:=(m.out.callB 0 rfl kp (r1 rfl)).take 4;have aI:=BD R;clear r1 r2 kp R;go_wp2_with fail;refine⟨⟨k+1,O,by go_num,by rw[HP.out,C.out, <-T.out];rfl,?_⟩,by simp[intOf];omega⟩
     rw[HT.out,show c+1+(By (e.k.take k)+(1+BB e.k[k]))=c+1+By (e.k.take k)+1+BB e.k[k] by omega]
     exact aI.out
    have aH:k=J e.k:=O;subst aH;have m:=BD M;have HS:Hid (EO f a (d+1) c e=V):=P.out.trans C.out;clear M;go_wp2_with fail;go_ret;refine⟨Dj (by rw[HS.out]),λ_=>?_,⟨_,m.out.blk 0 rfl⟩,m.out.kept⟩
    have:=m.out.blk 0 rfl;rw[Dq (BR _)]at this;rw[KJ];exact this
  have bD:(e.t==1)=false:=by simp[k1]
  by_cases k2:e.t=2
  ·have aM:(e.t==2)=true:=by simp[k2]
   have aQ:(e.t==3)=false:=by simp[k2]
   have aE:Hid (KB e=V):=by unfold Hid KB;simp[k2]
   have Q:(f:Int)-1=GN f a e.t-1:=by rw[k2];simp[GN]
   clear k1 k2
   have aB:=show Hid (En f a e=(Y (0<=e.v)&&Y (e.v<=(f:Int)-1)))from by
    unfold Hid En;rw[decide_eq_true HQ.out.2,Yr Q];rfl
   clear Q;go_wp2_with fail;refine(Kt e.v 0 _ _).mono ?_;rintro x w1 ⟨rfl,rfl⟩;have F:=show Hid (En f a e=(Y (0<=e.v)&&Y (e.v<=(f:Int)-1)))from aB.out;clear aB;obtain⟨qn,G⟩:∃qn,qn=(Y (0<=e.v)&&Y (e.v<=(f:Int)-1)):=⟨_,rfl⟩;rw[<-G];have HN:=show Hid (En f a e=qn)from F.out.trans G.symm;clear G F;cases qn
   ·have y:Hid (EO f a (d+1) c e=U):=VK HN.out
    have M:=m.out;clear m;go_wp2_with fail;go_ret;exact⟨Dj (by rw[y.out]),λh=>absurd (h.symm.trans y.out) At,⟨_,M.blk 0 rfl⟩,M.kept⟩
   have P:Hid (EO f a (d+1) c e=Gj f a d (c+1) e.k (J e.k)):=YB HN.out aE.out;go_wp2_with fail;clear y0 y1 y2 y3 y4
   have S:Hid (Gj f a d (c+1) e.k 0=V/\CA H (λb=>¬b=n) w W1 [.C n [.int .i64 (c+1+By (e.k.take 0):Nat)],.C w.heap.size [.slice a1 f c1,.slice a2 a c2,v3],.C (w.heap.size+1) [.int .i64 e.t,.int .i64 e.v,.slice ak (J e.k) N],.G (λw L=>EG w L (.slice ak (J e.k) N) e.k)]):=by
    refine⟨?_,?_⟩
    ·have:=HQ.out.1
     simp[Gj,By];omega
    rw[show((c+1+By (e.k.take 0):Nat):Int)=(c:Int)+1 by simp[By]]
    exact m.out
   go_loopw [71] (λi wr=>∃k:Nat,k<=J e.k/\i=.int .i64 k/\Gj f a d (c+1) e.k k=V/\CA H (λb=>¬b=n) w wr [.C n [.int .i64 (c+1+By (e.k.take k):Nat)],.C w.heap.size [.slice a1 f c1,.slice a2 a c2,v3],.C (w.heap.size+1) [.int .i64 e.t,.int .i64 e.v,.slice ak (J e.k) N],.G (λw L=>EG w L (.slice ak (J e.k) N) e.k)]) (λi _=>J e.k-(intOf i).toNat)
   case atStart=>exact⟨0,Di _,rfl,S.out.1,S.out.2⟩
   case round=>
    clear m;obtain⟨k,hk,rfl,j,M⟩:=hrel;have C:=BD j;have aG:c+1+By (e.k.take k)<=15:=by unfold Gj at j;simp at j;exact j.2
    clear j;by_cases o:k<J e.k
    ·have D:¬IA H [.C n [.int .i64 (c+1+By (e.k.take k):Nat)],.C w.heap.size [.slice a1 f c1,.slice a2 a c2,v3],.C (w.heap.size+1) [.int .i64 e.t,.int .i64 e.v,.slice ak (J e.k) N],.G (λw L=>EG w L (.slice ak (J e.k) N) e.k)] n:=λh=>h.2 _ EI rfl
     obtain⟨a',c',he,-,-,-,l⟩:=(M.d 3 rfl).open;cases he
     obtain⟨b,aD,kv,aJ,aN,hf,g0,Bs,g2,z⟩:=l k o;cases aJ
     obtain⟨ka,kc,rfl,-,-,-,-⟩:=z.open;have bz:Below wr.heap.size wr (wr.alloc (.cells #[.int .i64 e.k[k].t,.int .i64 e.k[k].v,.slice ka e.k[k].k.length kc] 96)):=by go_grown
     have HE:=BD (EG.nice _ _ _ _ _ _ (Ew.below bz) z);have aC:=BD D;have x0:=M.c 1 0 rfl rfl;have x1:=M.c 1 1 rfl rfl;have x2:=M.c 1 2 rfl rfl;have s1:w.heap.size<wr.heap.size:=M.lt (r:=.C w.heap.size [.slice a1 f c1,.slice a2 a c2,v3]) (Ep _ EI) rfl;have m:=BD (M.C [.int .i64 e.k[k].t,.int .i64 e.k[k].v,.slice ka e.k[k].k.length kc] 96);have HP:=BD (Xj f a (d:=d) (c:=c+1) o);have HX:=show Hid (EO f a d (c+1+By (e.k.take k)) e.k[k]=U->EO f a (d+1) c e=U)from λh=>P.out.trans (Zv o h)
     have HT:=BD (Zw o);clear l D bz z M;go_wp2_with fail;refine(ih (s+1) O O e.k[k] _ _ (c+1+By (e.k.take k)) n _ ⟨_,rfl,HE.out⟩ aC.out (m.out.blk 0 rfl) aG).mono ?_;rintro x w2 ⟨rfl,r1,⟨u,r2⟩,kp⟩;obtain⟨q,hq⟩:∃q,q=EO f a d (c+1+By (e.k.take k)) e.k[k]:=⟨_,rfl⟩;rw[<-hq]at r1 ⊢;have T:=BD hq;clear hq x0 x1 x2 g0 Bs g2;cases q
     ·have R:=m.out.callB 0 rfl kp r2
      have y:=BD (HX.out T.out.symm);clear r1 r2 kp;go_wp2_with fail;go_ret;exact⟨Dj (by rw[y.out]),λh=>absurd (h.symm.trans y.out) At,⟨_,R.blk 0 rfl⟩,R.kept⟩
     have R:=(m.out.callB 0 rfl kp (r1 rfl)).take 4;have aI:=BD R;clear r1 r2 kp R;go_wp2_with fail;refine⟨⟨k+1,O,by go_num,by rw[HP.out,C.out, <-T.out];rfl,?_⟩,by simp[intOf];omega⟩
     rw[HT.out,show c+1+(By (e.k.take k)+(1+BB e.k[k]))=c+1+By (e.k.take k)+1+BB e.k[k] by omega]
     exact aI.out
    have aH:k=J e.k:=O;subst aH;have m:=BD M;have HS:Hid (EO f a (d+1) c e=V):=P.out.trans C.out;clear M;go_wp2_with fail;go_ret;refine⟨Dj (by rw[HS.out]),λ_=>?_,⟨_,m.out.blk 0 rfl⟩,m.out.kept⟩
    have:=m.out.blk 0 rfl;rw[Dq (BR _)]at this;rw[KJ];exact this
  have aX:(e.t==2)=false:=by simp[k2]
  by_cases k3:e.t=3
  ·have aM:(e.t==3)=true:=by simp[k3]
   have aQ:=aX;have aE:Hid (e.t=3):=k3;have Q:(a:Int)-1=GN f a e.t-1:=by rw[k3];simp[GN]
   clear k1 k2 k3
   have aB:=show Hid (En f a e=(Y (0<=e.v)&&Y (e.v<=(a:Int)-1)))from by
    unfold Hid En;rw[decide_eq_true HQ.out.2,Yr Q];rfl
   clear Q;go_wp2_with fail;refine(Kt e.v 0 _ _).mono ?_;rintro x w1 ⟨rfl,rfl⟩;have F:=show Hid (En f a e=(Y (0<=e.v)&&Y (e.v<=(a:Int)-1)))from aB.out;clear aB;obtain⟨qn,G⟩:∃qn,qn=(Y (0<=e.v)&&Y (e.v<=(a:Int)-1)):=⟨_,rfl⟩;rw[<-G];have HN:=show Hid (En f a e=qn)from F.out.trans G.symm;clear G F;cases qn
   ·have y:Hid (EO f a (d+1) c e=U):=VK HN.out
    have M:=m.out;clear m;go_wp2_with fail;go_ret;exact⟨Dj (by rw[y.out]),λh=>absurd (h.symm.trans y.out) At,⟨_,M.blk 0 rfl⟩,M.kept⟩
   have bB:J e.k=1:=by have:=HQ.out.2;rw[aE.out]at this;simp[Cm]at this;omega
   have aZ:0<(J e.k:Int):=O;obtain⟨a',c',he,-,-,-,l⟩:=(m.out.d 3 rfl).open;have e1:ak=a':=by cases he;rfl
   have e2:N=c':=by cases he;rfl
   subst e1 e2;obtain⟨b,aD,kv,rfl,aN,hf,g0,Bs,g2,z⟩:=l 0 O;simp only[Nat.zero_mul,Fx]at g0 Bs g2;have HR:=BD (mY aE.out O);clear l z;go_wp2_with fail;refine(nF _ _ _ _).mono ?_;rintro x w2 ⟨rfl,b2⟩;replace m:=BD (m.out.call b2);obtain⟨qr,aR⟩:∃qr,qr=(Y ((e.k[0]'O).t=1)||Y ((e.k[0]'O).t=2)):=⟨_,rfl⟩
   rw[<-aR];have aS:=show Hid (KB e=qr)from HR.out.trans aR.symm;clear aR b2 HR g0 Bs g2;cases qr
   ·have y:Hid (EO f a (d+1) c e=U):=K9 aS.out
    have M:=m.out;clear m;go_wp2_with fail;go_ret;exact⟨Dj (by rw[y.out]),λh=>absurd (h.symm.trans y.out) At,⟨_,M.blk 0 rfl⟩,M.kept⟩
   clear y0 y1 y2 y3 y4;have y4:=m.out.c 2 2 rfl rfl;have P:Hid (EO f a (d+1) c e=Gj f a d (c+1) e.k (J e.k)):=YB HN.out aS.out;go_wp2_with fail;clear y4
   have S:Hid (Gj f a d (c+1) e.k 0=V/\CA H (λb=>¬b=n) w w2 [.C n [.int .i64 (c+1+By (e.k.take 0):Nat)],.C w.heap.size [.slice a1 f c1,.slice a2 a c2,v3],.C (w.heap.size+1) [.int .i64 e.t,.int .i64 e.v,.slice (Z ⟨b,aD,I⟩) (J e.k) N],.G (λw L=>EG w L (.slice (Z ⟨b,aD,I⟩) (J e.k) N) e.k)]):=by
    refine⟨?_,?_⟩
    ·have:=HQ.out.1
     simp[Gj,By];omega
    rw[show((c+1+By (e.k.take 0):Nat):Int)=(c:Int)+1 by simp[By]]
    exact m.out
   go_loopw [71] (λi wr=>∃k:Nat,k<=J e.k/\i=.int .i64 k/\Gj f a d (c+1) e.k k=V/\CA H (λb=>¬b=n) w wr [.C n [.int .i64 (c+1+By (e.k.take k):Nat)],.C w.heap.size [.slice a1 f c1,.slice a2 a c2,v3],.C (w.heap.size+1) [.int .i64 e.t,.int .i64 e.v,.slice (Z ⟨b,aD,I⟩) (J e.k) N],.G (λw L=>EG w L (.slice (Z ⟨b,aD,I⟩) (J e.k) N) e.k)]) (λi _=>J e.k-(intOf i).toNat)
   case atStart=>exact⟨0,Di _,rfl,S.out.1,S.out.2⟩
   case round=>
    clear m;obtain⟨k,hk,rfl,j,M⟩:=hrel;have C:=BD j;have aG:c+1+By (e.k.take k)<=15:=by unfold Gj at j;simp at j;exact j.2
    clear j;by_cases o:k<J e.k
    ·have D:¬IA H [.C n [.int .i64 (c+1+By (e.k.take k):Nat)],.C w.heap.size [.slice a1 f c1,.slice a2 a c2,v3],.C (w.heap.size+1) [.int .i64 e.t,.int .i64 e.v,.slice (Z ⟨b,aD,I⟩) (J e.k) N],.G (λw L=>EG w L (.slice (Z ⟨b,aD,I⟩) (J e.k) N) e.k)] n:=λh=>h.2 _ EI rfl
     obtain⟨a',c',he,-,-,-,l⟩:=(M.d 3 rfl).open;cases he
     obtain⟨b,aD,kv,aJ,aN,hf,g0,Bs,g2,z⟩:=l k o;cases aJ
     obtain⟨ka,kc,rfl,-,-,-,-⟩:=z.open;have bz:Below wr.heap.size wr (wr.alloc (.cells #[.int .i64 e.k[k].t,.int .i64 e.k[k].v,.slice ka e.k[k].k.length kc] 96)):=by go_grown
     have HE:=BD (EG.nice _ _ _ _ _ _ (Ew.below bz) z);have aC:=BD D;have x0:=M.c 1 0 rfl rfl;have x1:=M.c 1 1 rfl rfl;have x2:=M.c 1 2 rfl rfl;have s1:w.heap.size<wr.heap.size:=M.lt (r:=.C w.heap.size [.slice a1 f c1,.slice a2 a c2,v3]) (Ep _ EI) rfl;have m:=BD (M.C [.int .i64 e.k[k].t,.int .i64 e.k[k].v,.slice ka e.k[k].k.length kc] 96);have HP:=BD (Xj f a (d:=d) (c:=c+1) o);have HX:=show Hid (EO f a d (c+1+By (e.k.take k)) e.k[k]=U->EO f a (d+1) c e=U)from λh=>P.out.trans (Zv o h)
     have HT:=BD (Zw o);clear l D bz z M;go_wp2_with fail;refine(ih (s+1) O O e.k[k] _ _ (c+1+By (e.k.take k)) n _ ⟨_,rfl,HE.out⟩ aC.out (m.out.blk 0 rfl) aG).mono ?_;rintro x w2 ⟨rfl,r1,⟨u,r2⟩,kp⟩;obtain⟨q,hq⟩:∃q,q=EO f a d (c+1+By (e.k.take k)) e.k[k]:=⟨_,rfl⟩;rw[<-hq]at r1 ⊢;have T:=BD hq;clear hq x0 x1 x2 g0 Bs g2;cases q
     ·have R:=m.out.callB 0 rfl kp r2
      have y:=BD (HX.out T.out.symm);clear r1 r2 kp;go_wp2_with fail;go_ret;exact⟨Dj (by rw[y.out]),λh=>absurd (h.symm.trans y.out) At,⟨_,R.blk 0 rfl⟩,R.kept⟩
     have R:=(m.out.callB 0 rfl kp (r1 rfl)).take 4;have aI:=BD R;clear r1 r2 kp R;go_wp2_with fail;refine⟨⟨k+1,O,by go_num,by rw[HP.out,C.out, <-T.out];rfl,?_⟩,by simp[intOf];omega⟩
     rw[HT.out,show c+1+(By (e.k.take k)+(1+BB e.k[k]))=c+1+By (e.k.take k)+1+BB e.k[k] by omega]
     exact aI.out
    have aH:k=J e.k:=O;subst aH;have m:=BD M;have HS:Hid (EO f a (d+1) c e=V):=P.out.trans C.out;clear M;go_wp2_with fail;go_ret;refine⟨Dj (by rw[HS.out]),λ_=>?_,⟨_,m.out.blk 0 rfl⟩,m.out.kept⟩
    have:=m.out.blk 0 rfl;rw[Dq (BR _)]at this;rw[KJ];exact this
  have aM:(e.t==3)=false:=by simp[k3]
  have aQ:=aM;have aE:Hid (KB e=V):=by unfold Hid KB;simp[k3]
  have Q:(0:Int)=GN f a e.t-1:=by unfold GN;rw[AO k1,AO k2,AO k3];rfl
  clear k1 k2 k3
  have aB:=show Hid (En f a e=(Y (0<=e.v)&&Y (e.v<=0)))from by
   unfold Hid En;rw[decide_eq_true HQ.out.2,Yr Q];rfl
  clear Q;go_wp2_with fail;refine(Kt e.v 0 _ _).mono ?_;rintro x w1 ⟨rfl,rfl⟩;have F:=show Hid (En f a e=(Y (0<=e.v)&&Y (e.v<=0)))from aB.out;clear aB;obtain⟨qn,G⟩:∃qn,qn=(Y (0<=e.v)&&Y (e.v<=0)):=⟨_,rfl⟩;rw[<-G];have HN:=show Hid (En f a e=qn)from F.out.trans G.symm;clear G F;cases qn
  ·have y:Hid (EO f a (d+1) c e=U):=VK HN.out
   have M:=m.out;clear m;go_wp2_with fail;go_ret;exact⟨Dj (by rw[y.out]),λh=>absurd (h.symm.trans y.out) At,⟨_,M.blk 0 rfl⟩,M.kept⟩
  have P:Hid (EO f a (d+1) c e=Gj f a d (c+1) e.k (J e.k)):=YB HN.out aE.out;go_wp2_with fail;clear y0 y1 y2 y3 y4
  have S:Hid (Gj f a d (c+1) e.k 0=V/\CA H (λb=>¬b=n) w W1 [.C n [.int .i64 (c+1+By (e.k.take 0):Nat)],.C w.heap.size [.slice a1 f c1,.slice a2 a c2,v3],.C (w.heap.size+1) [.int .i64 e.t,.int .i64 e.v,.slice ak (J e.k) N],.G (λw L=>EG w L (.slice ak (J e.k) N) e.k)]):=by
   refine⟨?_,?_⟩
   ·have:=HQ.out.1
    simp[Gj,By];omega
   rw[show((c+1+By (e.k.take 0):Nat):Int)=(c:Int)+1 by simp[By]]
   exact m.out
  go_loopw [71] (λi wr=>∃k:Nat,k<=J e.k/\i=.int .i64 k/\Gj f a d (c+1) e.k k=V/\CA H (λb=>¬b=n) w wr [.C n [.int .i64 (c+1+By (e.k.take k):Nat)],.C w.heap.size [.slice a1 f c1,.slice a2 a c2,v3],.C (w.heap.size+1) [.int .i64 e.t,.int .i64 e.v,.slice ak (J e.k) N],.G (λw L=>EG w L (.slice ak (J e.k) N) e.k)]) (λi _=>J e.k-(intOf i).toNat)
  case atStart=>exact⟨0,Di _,rfl,S.out.1,S.out.2⟩
  case round=>
   clear m;obtain⟨k,hk,rfl,j,M⟩:=hrel;have C:=BD j;have aG:c+1+By (e.k.take k)<=15:=by unfold Gj at j;simp at j;exact j.2
   clear j;by_cases o:k<J e.k
   ·have D:¬IA H [.C n [.int .i64 (c+1+By (e.k.take k):Nat)],.C w.heap.size [.slice a1 f c1,.slice a2 a c2,v3],.C (w.heap.size+1) [.int .i64 e.t,.int .i64 e.v,.slice ak (J e.k) N],.G (λw L=>EG w L (.slice ak (J e.k) N) e.k)] n:=λh=>h.2 _ EI rfl
    obtain⟨a',c',he,-,-,-,l⟩:=(M.d 3 rfl).open;cases he
    obtain⟨b,aD,kv,aJ,aN,hf,g0,Bs,g2,z⟩:=l k o;cases aJ
    obtain⟨ka,kc,rfl,-,-,-,-⟩:=z.open;have bz:Below wr.heap.size wr (wr.alloc (.cells #[.int .i64 e.k[k].t,.int .i64 e.k[k].v,.slice ka e.k[k].k.length kc] 96)):=by go_grown
    have HE:=BD (EG.nice _ _ _ _ _ _ (Ew.below bz) z);have aC:=BD D;have x0:=M.c 1 0 rfl rfl;have x1:=M.c 1 1 rfl rfl;have x2:=M.c 1 2 rfl rfl;have s1:w.heap.size<wr.heap.size:=M.lt (r:=.C w.heap.size [.slice a1 f c1,.slice a2 a c2,v3]) (Ep _ EI) rfl;have m:=BD (M.C [.int .i64 e.k[k].t,.int .i64 e.k[k].v,.slice ka e.k[k].k.length kc] 96);have HP:=BD (Xj f a (d:=d) (c:=c+1) o);have HX:=show Hid (EO f a d (c+1+By (e.k.take k)) e.k[k]=U->EO f a (d+1) c e=U)from λh=>P.out.trans (Zv o h)
    have HT:=BD (Zw o);clear l D bz z M;go_wp2_with fail;refine(ih (s+1) O O e.k[k] _ _ (c+1+By (e.k.take k)) n _ ⟨_,rfl,HE.out⟩ aC.out (m.out.blk 0 rfl) aG).mono ?_;rintro x w2 ⟨rfl,r1,⟨u,r2⟩,kp⟩;obtain⟨q,hq⟩:∃q,q=EO f a d (c+1+By (e.k.take k)) e.k[k]:=⟨_,rfl⟩;rw[<-hq]at r1 ⊢;have T:=BD hq;clear hq x0 x1 x2 g0 Bs g2;cases q
    ·have R:=m.out.callB 0 rfl kp r2
     have y:=BD (HX.out T.out.symm);clear r1 r2 kp;go_wp2_with fail;go_ret;exact⟨Dj (by rw[y.out]),λh=>absurd (h.symm.trans y.out) At,⟨_,R.blk 0 rfl⟩,R.kept⟩
    have R:=(m.out.callB 0 rfl kp (r1 rfl)).take 4;have aI:=BD R;clear r1 r2 kp R;go_wp2_with fail;refine⟨⟨k+1,O,by go_num,by rw[HP.out,C.out, <-T.out];rfl,?_⟩,by simp[intOf];omega⟩
    rw[HT.out,show c+1+(By (e.k.take k)+(1+BB e.k[k]))=c+1+By (e.k.take k)+1+BB e.k[k] by omega]
    exact aI.out
   have aH:k=J e.k:=O;subst aH;have m:=BD M;have HS:Hid (EO f a (d+1) c e=V):=P.out.trans C.out;clear M;go_wp2_with fail;go_ret;refine⟨Dj (by rw[HS.out]),λ_=>?_,⟨_,m.out.blk 0 rfl⟩,m.out.kept⟩
   have:=m.out.blk 0 rfl;rw[Dq (BR _)]at this;rw[KJ];exact this
theorem vW(b a)(e):EO b a 5 0 e=CQ b a e:=by
 have h:(0+1+BB e<=15)=(1+BB e<=15):=by rw[GS]
 unfold EO CQ;simp only[h]
theorem V0(f k)(a g d i)(j)(P:a<=9223372036854775807)(Q:d<=9223372036854775807)(e)(n)(v)(w)(h:Tq w n v e):
  Calls prog 183 #[.agg #[.slice f a g,.slice k d i,j],v] w λx L=>x=.returned (.bool (CQ a d e))/\Below w.heap.size w L:=by
 obtain⟨p,rfl,y⟩:=h
 obtain⟨m,o,M⟩:∃m,m=((w.alloc (.cells #[.slice f a g,.slice k d i,j] 43)).alloc (.cells #[.int .i64 e.t,.int .i64 e.v,p] 96)).alloc (.cells #[.int .i64 0] 3)/\CA (λ_=>True) (λ_=>True) w m [.C w.heap.size [.slice f a g,.slice k d i,j],.C (w.heap.size+1) [.int .i64 e.t,.int .i64 e.v,p],.C (w.heap.size+1+1) [.int .i64 0]]:=
  ⟨_,rfl,(((CA.start λ_ _=>trivial).C _ _).box' _ _ At).box' _ _ At⟩
 have l:=M.below λ_ _=>trivial
 have R:=BD (EG.nice _ _ _ _ n (λb=>n b/\b<w.heap.size) ⟨l.size,λb F S=>⟨⟨S,F⟩,l.block b F⟩⟩ y)
 clear l y;have C:=M.c 0 0 rfl rfl;have G:=M.c 0 1 rfl rfl;have s:=M.c 0 2 rfl rfl;have D:=M.c 1 0 rfl rfl;have E:=M.c 1 1 rfl rfl;have q:=M.c 1 2 rfl rfl;have z:=BD M;rw[o]at C G s D E q;clear M;go_enter func183,ntmps183;go_wp2_with fail;rw[<-o];clear o C G s D E q;refine(R9 f k a g d i j P Q 5 1 O O e _ _ 0 _ _ ⟨p,rfl,R.out⟩ (λh=>by have:=h.2;omega) (z.out.blk 2 rfl) O).mono ?_
 rintro x T ⟨rfl,-,⟨u,r⟩,H⟩;rw[vW];have M:=z.out.callB 2 rfl H r;have N:=BD (M.below λ_ _=>trivial)
 clear H r M;go_wp2_with fail;go_ret;exact⟨rfl,N.out⟩
end Go.Proofs.YtfbeblgnjeokaaaGreat

