/-
  LOptimizeSecure: the statement, whatever the argument. Conditions: none beyond the statement's own.
-/
import Derived.Test.YtfbeblgnjeokaaaGreatK1
import Derived.Test.YtfbeblgnjeokaaaGreatK2
import Derived.Test.YtfbeblgnjeokaaaGreatK3
import Derived.Test.YtfbeblgnjeokaaaGreatK4
import Derived.Test.YtfbeblgnjeokaaaGreatK5
import Derived.Test.YtfbeblgnjeokaaaGreatK6
import Derived.Test.YtfbeblgnjeokaaaGreatK7
import Derived.Test.YtfbeblgnjeokaaaGreatK8
import Derived.Test.YtfbeblgnjeokaaaGreatK9
import Derived.Test.YtfbeblgnjeokaaaGreatEnter1M
import Derived.Test.YtfbeblgnjeokaaaGreatEnter2M
import Derived.Test.YtfbeblgnjeokaaaGreatEnter3M
set_option maxRecDepth 100000
set_option maxHeartbeats 16000000
set_option linter.unusedVariables false
set_option linter.unusedSimpArgs false
open Bool renaming true → V, false → U
open Option renaming some → Z, none → I
open Decidable renaming decide → Y
open Bool renaming and_eq_true → Aj, not_eq_false' → Cp, not_eq_true' → Cn
open List renaming all_eq_true → Bt
open Nat renaming le_trans → DO
open List renaming length → J
open Go renaming wp_seq → B, wp_ret → AT, wp_skip → Aq, wp_block → BN
namespace Go.Proofs.YtfbeblgnjeokaaaGreat.exLOptimizeSecure
open Go Go.RowKit Go.Proofs.YtfbeblgnjeokaaaGreat
noncomputable section
structure pf(fi p2 p3 e g:Bool)(v w:List (Int×Int)):Prop where
 a:fi=V
 b:p2=V
 c:p3=V
 d:e=g
 f:v=w
theorem sA{fi p2 p3 e g:Bool}{v w:List (Int×Int)}(h:pf fi p2 p3 e g v w):(e==g)=V/\Y (v=w)=true:=by
 obtain⟨_,_,_,rfl,rfl⟩:=h;simp
theorem Xw{b:Bool}(h:b=V)(h':b=U):False:=by rw[h]at h';cases h'
abbrev PD(c:List UInt8)(p:BE)(ma:DJ)(mb:DJ)(r0:List AI):List AI:=Aw c::W p.s::W p.r::AE p.b::W ma.vals::CO ma.w::W mb.vals::CO mb.w::.C (Al 1)::.C [.N 4,.N 5]::.C [.N 6,.N 7]::r0
abbrev VD(ok:Bool)(r0:List (Nat×AA)):List (Nat×AA):=(2,AC U)::(3,.P 8 0)::(4,.P 9 0)::(5,.P 10 0)::(6,.P 14 0)::(7,AC ok)::(8,.P 18 0)::(9,AC ok)::r0
abbrev YL(kv:List Int)(ka:List Int)(kl:List AV)(r0:List AI):List AI:=.L 3 (D.C kv)::.L 3 (D.C ka)::.L 76 (D.N kl)::.C (Al 11)::.L 3 (D.C kv)::.L 3 (D.C ka)::.L 76 (D.N kl)::.C (Al 15)::r0
abbrev iC(q:BE)(dv:List Int)(da:List Int)(dl:List AV)(r0:List AI):List AI:=.L 3 (D.C dv)::.L 3 (D.C da)::.L 76 (D.N dl)::.C (Al 11)::.L 3 (D.C q.s)::.L 3 (D.C q.r)::.Q (D.M q.b)::.C [.N 15,.N 16,.F 17]::r0
theorem m7(c:List UInt8)(p q:BE)(ma mb ml mr mx my:DJ)(kv ka dv da:List Int)(kl dl:List AV)(tv tw:List (Int×Int))(ok fi p1 fr p2 p3 ea eb:Bool)
    (hS:ok=V->p1=V->fr=V->pf fi p2 p3 ea eb tv tw)
    (r0:AN.ok Tryz.prog (sZ c 1 p ma mb))
    (r1:AN.ok Tryz.prog ⟨13,[Ao 0],Be p,Be p++[Ej kv,Ej ka,GJ kl],.T [.agg [.N 3,.N 4,.N 5],AC ok]⟩)
    (r2:AN.ok Tryz.prog ⟨14,[Ao 0],Be p,Be p++[Ej kv,Ej ka,GJ kl],.T [.agg [.N 3,.N 4,.N 5],AC ok]⟩)
    (r3:AN.ok Tryz.prog ⟨15,[Ao 0],[W kv,W ka,Dx kl],[W kv,W ka,Dx kl,Ej dv,Ej da,GJ dl],.T [Ao 3,AC fi]⟩)
    (r4:AN.ok Tryz.prog ⟨16,[Ao 0],Be p,Be p++Pg q,.T [Nb 3,AC p1]⟩)
    (r5:AN.ok Tryz.prog (CJ 17 [Ao 0,Ao 3] [W kv,W ka,Dx kl,W kv,W ka,Dx kl] (AC V)))
    (r6:AN.ok Tryz.prog (CJ 18 [Ao 0] (Be p) (AC fr)))
    (r7:AN.ok Tryz.prog ⟨19,[Ao 0,Ao 3,Hi 6],Be p++Be q++Fs ma,Be p++Be q++Fs ma++Fs ml,.T [Hi 8,AC p2]⟩)
    (r8:AN.ok Tryz.prog ⟨19,[Ao 0,Ao 3,Hi 6],Be p++Be q++Fs mb,Be p++Be q++Fs mb++Fs mr,.T [Hi 8,AC p3]⟩)
    (r9:AN.ok Tryz.prog (Vp ⟨dv,da,dl⟩ ml mx tv ea)) (ra:AN.ok Tryz.prog (Vp ⟨dv,da,dl⟩ mr my tw eb))
    (rb:AN.ok Tryz.prog (CJ 20 [.N 0,.N 1] [.G (.E tv),.G (.E tw)] (AC (Y (tv=tw))))):AN.ok Tryz.prog ⟨4,[.N 0],[Aw c],[Aw c],AC V⟩:=by
  have hA0:=r0;have hA1:=r1;have hA2:=r2;have hA3:=r3;have hA4:=r4;have hA5:=r5;have hA6:=r6;have hA7:=r7;have hA8:=r8;have hA9:=r9;have hAa:=ra;have hAb:=rb;refine BP 128 Tryz.func4 [Aw c] [(0,.N 0)] fun G=>?_;refine B (AQ G AB [(2,AC U)] fun G=>Ec (B (B (AQ G AB [(26,AC (Y ((J c:Int)>1048576)))] fun G=>Ec (DZ G (fun h0 q0=>?_) fun h0 q0=>?_)))))
  ·
   refine Aq (Ec (B (AM G (Ai 1 [0] hA0) [0,9,10,11,12,13,14,15,49,57,65] (PD c p ma mb []) [(2,AC U),(3,.P 8 0),(4,.P 9 0),(5,.P 10 0)] fun G=>Ec (B (AM G (Ai 1 [1,2,3] hA1) [0,1,2,3,4,5,6,7,8,9,10,19,20,21,51] (PD c p ma mb [.L 3 (D.C kv),.L 3 (D.C ka),.L 76 (D.N kl),.C (Al 11)]) [(2,AC U),(3,.P 8 0),(4,.P 9 0),(5,.P 10 0),(6,.P 14 0),(7,AC ok)] fun G=>Ec (B (AM G (Ai 1 [1,2,3] hA2) [0,1,2,3,4,5,6,7,8,9,10,11,12,13,14,23,24,25,55] (PD c p ma mb (YL kv ka kl [])) (VD ok []) fun G=>Ec (B (AM G (Ai 1 [11,12,13] (AN.lend hA3 [.L 3,.L 3,.L 76])) [0,1,2,3,4,5,6,7,8,9,10,11,12,13,14,15,16,17,18,27,28,29,59] (PD c p ma mb (YL kv ka kl [.L 3 (D.C dv),.L 3 (D.C da),.L 76 (D.N dl),.C (Al 19)])) (VD ok [(10,.P 22 0),(11,AC fi)]) fun G=>Ec (B (AM G (Ai 1 [1,2,3] hA4) [0,1,2,3,4,5,6,7,8,9,10,11,12,13,14,15,16,17,18,19,20,21,22,31,32,33,63] (PD c p ma mb (YL kv ka kl [.L 3 (D.C dv),.L 3 (D.C da),.L 76 (D.N dl),.C (Al 19),.L 3 (D.C q.s),.L 3 (D.C q.r),.Q (D.M q.b),.C [.N 23,.N 24,.F 25]])) (VD ok [(10,.P 22 0),(11,AC fi),(12,.P 26 0),(13,AC p1)]) fun G=>Ec (B (B ?_)))))))))))));cases h1:(!ok)
   ·
    have q1:(ok)=true:=(Eq.mp (Cp _) h1);cases h2:(!p1)
    ·
     have q2:(p1)=true:=(Eq.mp (Cp _) h2);refine BS G (BH (AX 6 [11,12,13,15,16,17] (AN.lend hA5 [.L 3,.L 3,.L 76,.L 3,.L 3,.L 76]) (AX 19 [1,2,3] hA6 BG)) (AS (a:= !ok==ok) (b:=U) (by rw[q1];rfl) (AS (b:=U) rfl (AS h1 (AS h2 Ag)))) (Ad [(4,7,0),(1008,1008,0),(10,11,1),(1012,1012,1),(14,15,2),(1016,1016,2),(18,20,3),(1021,1021,3)])) (VD ok [(10,.P 22 0),(11,AC fi),(12,.P 26 0),(74,AC !fr)]) fun G=>Ec ?_;cases h3:(!fr)
     ·
      have q3:(fr)=true:=(Eq.mp (Cp _) h3);refine Bo G _ h3 (Aq (Ec (B ?_)));obtain⟨ρ,G⟩:=G.frz [.no,.no,.no,.no,.no,.no,.no,.no,.no,.no,.no,.no,.no,.no,.no,.no,.no,.no,.no,.L 3,.L 3,.L 76,.no,.L 3,.L 3,.Q] (PD c p ma mb (YL kv ka kl [W dv,W da,Dx dl,.C (Al 19),W q.s,W q.r,AE q.b,.C (Al 23)])) (VD ok [(10,.P 22 0),(11,AC fi),(12,.P 26 0),(74,AC !fr)]);refine AM G (Ai 3 [1,2,3,23,24,25,4,5] hA7) [0,1,2,3,6,7,8,10,19,20,21,22,23,24,25,26,51,52,83] [Aw c,W p.s,W p.r,AE p.b,W mb.vals,CO mb.w,.C (Al 1),.C [.N 4,.N 5],W dv,W da,Dx dl,.C (Al 8),W q.s,W q.r,AE q.b,.C (Al 12),W ml.vals,CO ml.w,.C [.N 16,.N 17]] [(2,AC U),(3,.P 6 0),(5,.P 7 0),(10,.P 11 0),(11,AC fi),(12,.P 15 0),(14,.P 18 0),(15,AC p2)] fun G=>Ec (B (AM G (Ai 3 [1,2,3,12,13,14,4,5] hA8) [0,8,9,10,11,16,17,18,43,44,75] [Aw c,W dv,W da,Dx dl,.C (Al 1),W ml.vals,CO ml.w,.C [.N 5,.N 6],W mr.vals,CO mr.w,.C [.N 8,.N 9]] [(2,AC U),(10,.P 4 0),(11,AC fi),(14,.P 7 0),(15,AC p2),(16,.P 10 0),(17,AC p3)] fun G=>Ec (B (AM G (Ai 2 [1,2,3,5,6] hA9) [0,1,2,3,4,8,9,10,29] [Aw c,W dv,W da,Dx dl,.C (Al 1),W mr.vals,CO mr.w,.C [.N 5,.N 6],.L 39 (D.E tv)] [(2,AC U),(10,.P 4 0),(11,AC fi),(15,AC p2),(16,.P 7 0),(17,AC p3),(19,.N 8),(20,AC ea)] fun G=>Ec (B (AM G (Ai 2 [1,2,3,5,6] hAa) [0,8,27] [Aw c,.L 39 (D.E tv),.L 39 (D.E tw)] [(2,AC U),(11,AC fi),(15,AC p2),(17,AC p3),(19,.N 1),(20,AC ea),(22,.N 2),(23,AC eb)] fun G=>Ec (B ?_)))))));cases h4:(fi)
      · exact False.elim (Xw (hS AY AY AY).a AY)
      cases h5:(p2)
      · exact False.elim (Xw (hS AY AY AY).b AY)
      cases h6:(p3)
      · exact False.elim (Xw (hS AY AY AY).c AY)
      cases h7:(ea==eb)
      · exact False.elim (Xw (sA (hS AY AY AY)).1 AY)
      refine AM G (BH (AX 15 [1,2] (AN.lend hAb [.L 39,.L 39]) BG) (AS h4 (AS h5 (AS h6 (AS h7 Ag)))) [(2,0),(1003,0),(5,1),(1006,1),(8,2),(9,2),(10,2),(1011,2),(13,3),(14,3),(15,3),(1016,3)]) [0] [Aw c] [(2,AC (Y (tv=tw)))] fun G=>Ec (AT ?_);exact BU (Y (tv=tw)) G [0] ((sA (hS AY AY AY)).2.symm)
     have q3:(fr)=false:=(Eq.mp (Cn _) h3);refine Ba G _ h3 (B (AM G (BH (AX 6 [11,12,13,15,16,17] (AN.lend hA5 [.L 3,.L 3,.L 76,.L 3,.L 3,.L 76]) BG) (AS (a:=ok==ok) (b:=V) (by rw[q1];rfl) Ag) [(4,0),(5,0),(6,0),(1007,0)]) [0,1,2,3,4,5,6,7,8,9,10,19,20,21,22,23,24,25,26] (PD c p ma mb (iC q dv da dl [])) [(2,AC V),(3,.P 8 0),(4,.P 9 0),(5,.P 10 0),(10,.P 14 0),(11,AC fi),(12,.P 18 0)] fun G=>Ec (AT (Ar ?_))));exact Br G [0]
    have q2:(p1)=false:=(Eq.mp (Cn _) h2);refine AQ G (BH (AX 6 [11,12,13,15,16,17] (AN.lend hA5 [.L 3,.L 3,.L 76,.L 3,.L 3,.L 76]) BG) (AS (a:= !ok==ok) (b:=U) (by rw[q1];rfl) (AS (b:=U) rfl (AS h1 (AS h2 Ag)))) (Ad [(4,7,0),(1008,1008,0),(10,11,1),(1012,1012,1),(14,15,2),(1016,1016,2),(18,20,3),(1021,1021,3)])) [(74,AC V)] fun G=>Ec (Ba G V Au (B (AM G (BH (AX 6 [11,12,13,15,16,17] (AN.lend hA5 [.L 3,.L 3,.L 76,.L 3,.L 3,.L 76]) BG) (AS (a:=ok==ok) (b:=V) (by rw[q1];rfl) Ag) [(4,0),(5,0),(6,0),(1007,0)]) [0,1,2,3,4,5,6,7,8,9,10,19,20,21,22,23,24,25,26] (PD c p ma mb (iC q dv da dl [])) [(2,AC V),(3,.P 8 0),(4,.P 9 0),(5,.P 10 0),(10,.P 14 0),(11,AC fi),(12,.P 18 0)] fun G=>Ec (AT (Ar ?_)))));exact Br G [0]
   have q1:(ok)=false:=(Eq.mp (Cn _) h1);refine AQ G (BH (AX 6 [11,12,13,15,16,17] (AN.lend hA5 [.L 3,.L 3,.L 76,.L 3,.L 3,.L 76]) BG) (AS (a:= !ok==ok) (b:=U) (by rw[q1];rfl) (AS (b:=U) rfl (AS h1 (AS (b:=V) rfl Ag)))) (Ad [(4,7,0),(1008,1008,0),(10,11,1),(1012,1012,1),(14,15,2),(1016,1016,2),(18,20,3),(1021,1021,3)])) [(74,AC V)] fun G=>Ec (Ba G V Au (B (AM G (BH (AX 6 [11,12,13,15,16,17] (AN.lend hA5 [.L 3,.L 3,.L 76,.L 3,.L 3,.L 76]) BG) (AS (a:=ok==ok) (b:=V) (by rw[q1];rfl) Ag) [(4,0),(5,0),(6,0),(1007,0)]) [0,1,2,3,4,5,6,7,8,9,10,19,20,21,22,23,24,25,26] (PD c p ma mb (iC q dv da dl [])) [(2,AC V),(3,.P 8 0),(4,.P 9 0),(5,.P 10 0),(10,.P 14 0),(11,AC fi),(12,.P 18 0)] fun G=>Ec (AT (Ar ?_)))));exact Br G [0]
  refine B (AQ G AB [(2,AC V)] fun G=>Ec (AT (Ar ?_)));exact Br G [0]
theorem W6(c:List UInt8):CI (JV c).1.s.length (JV c).1.r.length (JV c).2.1=V/\CI (JV c).1.s.length (JV c).1.r.length (JV c).2.2=V/\Xf (JV c).1.s (JV c).1.r (JV c).2.1 (JV c).2.2/\(JV c).1.size<=1000000:=by
 have hb:=ne (BJ c);have ht:=lC (BJ c);have hz:=re (BJ c);unfold JV at*;generalize Bw (BJ c) 0=p at*;dsimp only at*;obtain⟨f1,f2,f3,f4⟩:=lz (BJ c) (j:=(Dg (BJ c) 0).2+1) (J p.s) (J p.r) O O;generalize Hr (BJ c) ((Dg (BJ c) 0).2+1) (J p.s) (J p.r)=m at*;refine⟨?_,wi (BJ c) p m f1 f2 f3 f4 O O,xR _ _ _ _,hz⟩;unfold CI;rw[f3,f4,decide_eq_true f1,decide_eq_true f2];rfl
theorem ib{nv na:Nat}{m:DJ}(h:CI nv na m=V):∀l∈m.w,J l<=1000:=fun l hl=>by
 have:=(nr (Bt.1 (KQ h).2.2.2 l hl)).1;omega
theorem sB{p q:BE}{m:DJ}(h:CI (J p.s) (J p.r) m=V)(hp:p.size<=1000000)(hq:J q.s<=1000000):(Ha p q m).vals.length<=1048576/\(Ha p q m).w.length<=1048576/\∀l∈(Ha p q m).w,J l<=1048576:=by
 obtain⟨h1,h2,-,-⟩:=KQ h;have h3:=ib h;unfold BE.size at hp;unfold Ha;split
 ·refine⟨CY,by dsimp only;omega,fun l hl=>DO (h3 l hl) O⟩
 exact⟨At,At,fun l hl=>by simp at hl⟩
theorem xx{vs VS:List Int}(h:Dv vs VS):(VS.take (J vs)).drop 0=vs:=by
 rw[List.drop_zero];apply List.ext_getElem (by rw[List.length_take];exact Nat.min_eq_left h.1)
 intro i h1 h2;rw[List.getElem_take];have:=h.2 i h2;rw[DU h2,DU (by have:=h.1;omega)]at this
 exact this
theorem wY{p:BE}(h:EU p=V):(UP (Bn p)).1=0/\GK p (Bn p)=V/\KR (Bn p)=KR p:=by
 have h1:=Q4 h;have h4:=uP h;rw[<-TA h]at h1 h4;have h0:=h;unfold EU at h0;simp only[Aj,decide_eq_true_eq]at h0;have hx:Dv p.s (Bn p).s:=by rw[TA h];exact LW p.r p.b (-1) 0 (p.s,[])
 refine⟨h1,?_,h4⟩;unfold GK;have e:=xx hx;rw[List.drop_zero]at e;rw[PR h0.1,show BZ (Bn p)=V by rw[TA h];exact h0.2,decide_eq_true hx.1,decide_eq_true e.symm,decide_eq_true (show p.r=(Bn p).r by rw[TA h];rfl)]
 rfl
theorem s4(c:BY):AN.ok Tryz.prog ⟨15,[.agg [.N 0,.N 1,.N 2]],[.G (.C c.s),.G (.C c.r),.G (.N c.l)],[.G (.C c.s),.G (.C c.r),.G (.N c.l),.L 3 (.C (LA c).s),.L 3 (.C (LA c).r),.L 76 (.N (LA c).l)],.T [.agg [.N 3,.N 4,.N 5],AC (Bp c)]⟩:=vT fun v w h=>I3 v c w h
theorem l7(c:List UInt8):AN.ok Tryz.prog ⟨4,[.N 0],[Aw c],[Aw c],AC V⟩:=by
 have r0:=t7 c;obtain⟨f1,f2,f3,f4⟩:=W6 c;generalize (JV c).1=p at*;generalize (JV c).2.1=a at*;generalize (JV c).2.2=b at*;have hz:=ef p;have hqv:(Bn p).s.length<=240000:=by unfold BE.size at hz;omega
 have hpz:J p.s<=1000000/\(J p.r)<=1000000/\Ah p.b<=1048576:=by unfold BE.size at f4;omega
 obtain⟨Bs,g2,-,-⟩:=KQ f1;obtain⟨CZ,g4,-,-⟩:=KQ f2;obtain⟨k,hk⟩:∃k:BY,k=⟨Kd (Bn p),Hz (Bn p),(Ez (Bn p)).1⟩:=⟨_,rfl⟩;have q1:=sB (q:=Bn p) f1 f4 O;have q2:=sB (q:=Bn p) f2 f4 O;obtain⟨x,v,e,h5,h6⟩:=ny (LA k) (Ha p (Bn p) a) q1.1 q1.2.1 q1.2.2;obtain⟨y,w,g,h7,h8⟩:=ny (LA k) (Ha p (Bn p) b) q2.1 q2.2.1 q2.2.2;refine m7 c p (Bn p) a b _ _ x y k.s k.r (LA k).s (LA k).r k.l (LA k).l v w (EQ (Bn p)) (Bp k) (EU p) (KR p) (KO p (Bn p) a) (KO p (Bn p) b) e g ?_ r0 (by rw[hk];exact aa5 p O) (by rw[hk];exact R3 p O) (s4 k) (tk p O) (uw _ _ _) (V2 p hpz.2.2) (qO p (Bn p) a O O (ib f1) O) (qO p (Bn p) b O O (ib f2) O) h6 h8 (V3 v w)
 intro BA Co FD;obtain⟨l1,l2,l3⟩:=wY Co;have hk2:k=⟨(Bn p).s,(Bn p).r,(Ed (Bn p)).1⟩:=by rw[hk,dh BA,ju BA];unfold Ez;rw[AZ BA]
 have hc:Bp k=true:=by rw[hk2];exact rl BA
 have e9:LA k=Is k:=by unfold LA;rw[AZ hc]
 rw[e9]at h5 h7;obtain⟨z1,z2,z3,z4,z5⟩:=T8 hk2 BA l2 l1 (l3.trans FD) f1 f2 f3 h5 h7;exact⟨z1,z2,z3,z4,z5⟩
theorem wk(u:Value)(c:List UInt8)(w:World)(hp:Cd w u (J c) 1 (fF c)):Calls Tryz.prog 4 #[u] w fun e w'=>e=.returned (.bool V)/\Below w.heap.size w w':=
 ac8 (l7 c) u w (hp.rowF fun _ _=>trivial)
end
end Go.Proofs.YtfbeblgnjeokaaaGreat.exLOptimizeSecure

namespace Go.Proofs.YtfbeblgnjeokaaaGreat.exLOptimizeSecure
open Go Go.RowKit Go.ChangeShapes Go.WideShapes Go.ChangeAt Go.Proofs.YtfbeblgnjeokaaaGreat
theorem vO(os:Os)(started:os.Started)(H:Type)(enc:TypeId×Value->H):
  ReturnsInHanded {} Tryz.checked os 4 .any (Rows.fnOptimizeSecureSpec.pre6 enc Tryz.prog Tryz.f4 Rows.fnOptimizeSecureRow.domain U) (Rows.fnOptimizeSecureSpec.post enc Tryz.prog Tryz.f4 U V U U):=by
 refine returnsInHanded_of_change (C:=Tryz.checked) Qg started Au Tryz.func4
  (ChangeSpec.witness6 (enc:=enc) (C:=Tryz.checked) U ⟨#[], #[.slice I 0 0],[]⟩ 8 Au Au Au Au) ?_
 intro W base args ds gs before hval0 hW hcnd _;have hval:∀(j:Nat) t v,Tryz.f4.params[j]? =Z t->args[j]? =Z v->Value.okWide Tryz.prog W .any base t v:=hval0;have hW':=hW;obtain⟨p,q,hA0,hV,rfl,hfz,hnd⟩:=hW;have hA:DataW.TrodAll enc Tryz.prog W 0 (fun _=>V) V Tryz.f4.params.toList args.toList ds p:=hA0
 rw[Tryz.params4]at hA hval;obtain⟨v0,vs0,d0,ds0,p0,q0,hargs,rfl,rfl,h0,r0⟩:=trodAll_cons hA;obtain⟨rfl,rfl,rfl⟩:=trodAll_nil r0;obtain rfl:args= #[v0]:=by cases args;simp_all
 obtain⟨rfl,rfl⟩:=trodVars_none hV;have k0:=h0;have lt0:∀x∈p0,x.block<W.heap.size:=by obtain⟨m,hm⟩:=k0;exact DataW.trod_lt m _ _ _ hm
 obtain⟨a0,len0,cap0,rfl⟩:=okWide_slice Tryz.underlying22 (hval 0 22 v0 rfl rfl)
 obtain⟨x0,hx0⟩:∃l:List UInt8,Cd W (.slice a0 len0 cap0) (J l) 1 (fF l):=by
  obtain⟨fuel,hf⟩:=h0;exact xp Tryz.underlying22 hf
 clear hA0 hval0;refine(wk _ x0 W hx0).mono fun e W' ⟨he,bel⟩=>?_
 subst he;exact⟨_,rfl,_,_,_,[],_,[],hW',trodAll_mk1 (shut_bool Tryz.underlying4 _),(trodAll_cons_mk (Below.trod vJ Au (of_decide_eq_true Au) k0 bel lt0) trodAll_mk0),rfl,bel.frame _,fun h=>by cases h⟩
theorem lm:joinedFacts Tryz.pinned.checked.prog 4 Tryz.f4 Rows.fnOptimizeSecureSpec Rows.fnOptimizeSecureRow=true:=by
 unfold joinedFacts;rw[S4,L5,l6]
 kernel_rfl
theorem vL:Rows.fnOptimizeSecureRow.holds Tryz.pinned (OpenSpec.ofChange Rows.fnOptimizeSecureSpec):=
 OpenClaim.holds_of_wide 4 Tryz.f4 rfl rfl rfl rfl rfl rfl rfl ⟨rfl,rfl,rfl,rfl,rfl⟩ rfl rfl rfl rfl rfl Au Tryz.func4 lm
  (of_decide_eq_true Au) (by unfold Func.isWrapper;first|(rw[AZ (by decide+kernel)];kernel_rfl)|(rw[AO (by decide+kernel)];exact⟨rfl,rfl⟩))
  (fun os started H enc _=>vO os started H enc)
theorem proved:Rows.FnOptimizeSecureSaid:=vL
end Go.Proofs.YtfbeblgnjeokaaaGreat.exLOptimizeSecure
