/- Part 7: functions on the way, plain laws. Conditions: as said. -/
import Derived.Deep.RegionWith
import Derived.Test.YtfbeblgnjeokaaaGreatK1
import Derived.Test.YtfbeblgnjeokaaaGreatK2
import Derived.Test.YtfbeblgnjeokaaaGreatK4
import Derived.Test.YtfbeblgnjeokaaaGreatK5
import Derived.Test.YtfbeblgnjeokaaaGreatK6
set_option maxRecDepth 100000
set_option maxHeartbeats 16000000
set_option linter.unusedVariables false
set_option linter.unusedSimpArgs false
open Bool renaming true → V, false → U
open Option renaming some → Z, none → I
open Decidable renaming decide → Y
open Bool renaming and_eq_true → Aj, not_eq_false' → Cp, not_eq_true' → Cn
open Inhabited renaming default → K
open List renaming all_eq_true → Bt, append_assoc → Fj, append_nil → II, eq_nil_of_length_eq_zero → FM, getD_eq_getElem?_getD → Bu, getElem?_append_left → Fb, getElem?_append_right → Ip, getElem?_cons_zero → Fp, getElem?_eq_getElem → CF, getElem?_eq_none → FO, getElem?_eq_some_iff → EA, getElem_mem → EL, length_append → Az, length_cons → BK, length_nil → Bc, length_set → GP, mem_append → DQ, mem_cons → Eb, mem_cons_of_mem → Ep, mem_cons_self → EI, mem_of_getElem? → FF, mem_range → GW, replicate → Ac, take → Ae, take_of_length_le → Dq
open Nat renaming le_refl → BR, le_trans → DO, zero_le → Di
open True renaming intro → Ay

open List renaming length → J
open Go renaming wp_seq → B, wp_ret → AT, wp_skip → Aq, wp_block → BN
open Go.Proofs.Tryz
namespace Go.Proofs.YtfbeblgnjeokaaaGreat
open Go Go.RowKit
abbrev yc(s:AG):List AI:=[.Q (.P s.i.k),.Q (.P s.v.k),.Q (.M s.b),.Q (.M s.e)]
abbrev l8(s:AG)(r:Nat):AA:=.agg [A s.t,A s.g,A s.i.t,A s.i.v,.F r,A s.v.t,A s.v.v,.F (r+1),A s.count,.F (r+2),.F (r+3)]
abbrev Ys(b:List UInt8)(c a:List Int)(e:List AG)(d:Nat)(j n:Int):AN:=⟨171,[.P 0 0,Ao 2,A n],Nx b j c a e,Nx b (CB b (J c) (J a) d j).2 c a e++yc (CB b (J c) (J a) d j).1,l8 (CB b (J c) (J a) d j).1 5⟩
abbrev Xb(b:List UInt8)(e a:List Int)(f:List AG)(d:Nat)(m:Nat)(j n c:Int):AN:=⟨126,[.P 0 0,Ao 2,A n,A c],Nx b j e a f,Nx b (Cb (CB b (J e) (J a) d) m j).2 e a f++[.Q (.M (Cb (CB b (J e) (J a) d) m j).1)],.F 5⟩
section
variable{b:List UInt8}{nv na d:Nat}{j:Int}
theorem jm(h:AU b j Cv=2)(a:0<(na:Int)):CB b nv na d j=Px b nv na (j+1):=by
 cases d<;>(rw[CB,AZ ⟨h,O⟩])
theorem xm(h:AU b j Cv=3)(a:0<d):CB b nv na (d+1) j=Rj b nv na (CB b nv na d) (j+1):=by
 rw[CB,AO O,AZ ⟨h,O⟩]
theorem j5(h:AU b j Cv=4)(a:0<d):CB b nv na (d+1) j=SM b (CB b nv na d) (j+1):=by
 rw[CB,AO O,AO O,AZ ⟨h,O⟩]
theorem NT(h:¬(AU b j Cv=2/\0<(na:Int)))(a:d<2\/(¬AU b j Cv=3/\¬AU b j Cv=4)):CB b nv na d j=MV b nv na (AU b j Cv) (j+1):=by
 match d,a with
 |0,_=>rw[CB,AO O]
 |d+1,a=>rw[CB,AO O,AO O,AO O]
theorem jw{a}(h:a=5):MV b nv na a j=(⟨5,Ch b j nv,RE,(BT b nv na (j+1)).1,0,[],[]⟩,(BT b nv na (j+1)).2):=by rw[MV,AZ h]
theorem Qh{a}(h:¬a=5):MV b nv na a j=(⟨1,Ch b j nv,RE,(BT b nv na (j+1)).1,0,[],[]⟩,(BT b nv na (j+1)).2):=by rw[MV,AO h]
end
section
variable(b:List UInt8){j:Int}
theorem C8(a:0<=j)(c:j<=1000000000):0<=AU b j Hf/\AU b j Hf<=2:=TI b At iE a c
theorem N3(a:0<=j)(c:j<=1000000000):0<=AU b j NB/\AU b j NB<=2:=TI b At gT a c
theorem vk(a:0<=j)(c:j<=1000000000):0<=AU b j Ko/\AU b j Ko<=2:=TI b At fb a c
theorem um(d):(d=0/\EV (d-1)=402/\EV d<=2010)\/EV d=402+4*EV (d-1):=by
 cases d with
 |zero=>exact .inl ⟨rfl,rfl,ED⟩
 |succ d=>exact .inr rfl
end
section
variable{b:List UInt8}{nv na d:Nat}{j:Int}
theorem hC(h:AU b j Cv=3)(a:1<d):CB b nv na d j=Rj b nv na (CB b nv na (d-1)) (j+1):=by
 match d,a with
 |d+1,a=>exact xm h O
theorem il(h:AU b j Cv=4)(a:1<d):CB b nv na d j=SM b (CB b nv na (d-1)) (j+1):=by
 match d,a with
 |d+1,a=>exact j5 h O
end
abbrev pn(b:List UInt8)(c:List Int)(a:List Int)(d:Nat)(j:Int)(k:Nat):=CB b (J c) (J a) d (Cb (CB b (J c) (J a) d) k j).2
abbrev XI(n:Int)(c:Int)(a:List (Nat×AA)):List (Nat×AA):=(0,.P 0 0)::(2,A n)::(3,A c)::(5,.P 5 0)::(8,.v (.slice I 0 0))::a
theorem yt(b)(f e)(g)(d m:Nat)(s:∀(j n:Int),n=d->0<=j->j+EV d<=600000000->AN.ok prog (Ys b f e g d j n))(j n c:Int)(x:n=d)(z:c=m)(v:m<=4)(p)(l:m*EV d<=p)(h:0<=j)(C:j+p<=600000000):AN.ok prog (Xb b f e g d m j n c):=by
 refine BP 25 func126 [.C [.N 1,A j],Aw b,W f,W e,AE g] [(0,.P 0 0),(1,Ao 2),(2,A n),(3,A c)] λG=>?_;have F:=Pq d;refine B (AM G AB (AH 6) [.C [.N 1,A j],Aw b,W f,W e,AE g,.C (Al 2)] (XI n c []) λG=>B (AM G AB (AH 7) [.C [.N 1,A j],Aw b,W f,W e,AE g,.C (Al 2),.Q (D.M [])] (XI n c [(9,.F 6)]) λG=>B (B (BS G AB (XI n c [(9,.F 6),(10,A 0)]) λG=>BN ?_))));refine DR (h:=Nat) (λk=>k<=m) (λk=>m-k) (λk=>[.C [.N 1,A (Cb (CB b (J f) (J e) d) k j).2],Aw b,W f,W e,AE g,.C (Al 2),.Q (.M (Cb (CB b (J f) (J e) d) k j).1)]) (λk=>[(0,.P 0 0),(2,A n),(3,A c),(5,.P 5 0),(8,AK),(9,.F 6),(10,A k)]) 0 O (Ap.at G _ _) ?_;clear G;intro k y a w E G;replace G:=Ap.at G [.C [.N 1,A (Cb (CB b (J f) (J e) d) k j).2],Aw b,W f,W e,AE g,.C (Al 2),.Q (D.M (Cb (CB b (J f) (J e) d) k j).1)] (XI n c [(9,.F 6),(10,A k)]);have u:=mt b (J f) (J e) (k:=j) (i:=k) l O h O;have q:(Cb (CB b (J f) (J e) d) k j).1.length=k:=jh _ _ _;refine B (B (AQ G AB [(14,AC (Y ((k:Int)<c)))] λG=>DZ G (λt r=>?_) λt r=>?_))
 ·refine wp_exit (Bd (Bd (DG (B (AM G AB [0,1,2,3,4,6] [.C [.N 1,A (Cb (CB b (J f) (J e) d) k j).2],Aw b,W f,W e,AE g,.Q (D.M (Cb (CB b (J f) (J e) d) k j).1)] [(8,.F 5)] λG=>AT ?_)))));exact Br G (AH 6) (by show _=BM (AH 6) [.C [.N 1,A (Cb (CB b (J f) (J e) d) m j).2],Aw b,W f,W e,AE g,.Q (D.M (Cb (CB b (J f) (J e) d) m j).1)];rw[show m=k by omega]<;>rfl)
 refine Aq (B (BN (CT G (Ai 4 (AH 5) (s ((Cb (CB b (J f) (J e) d) k j).2) n Ab O (by have:=A0 b (J f) (J e) (k:=j) (i:=k) l O h O;omega))) [0,1,2,3,4,5,55] [.C [.N 1,A (pn b f e d j k).2],Aw b,W f,W e,AE g,.C (Al 2),.Q (D.M ((Cb (CB b (J f) (J e) d) k j).1++[NP (pn b f e d j k).1]))] (XI n c [(9,.F 6),(10,A k)]) (EP ((Cb (CB b (J f) (J e) d) k j).1.length+1) 152 []) (EW O Ay) λG=>BL (Bi G AB [(10,A ((k:Int)+1))] [BC ((k:Int)+1)] (BA O) λG=>?_))));exact Ce G (k+1) O O (AH 7) (by have o:((Cb (CB b (J f) (J e) d) (k+1) j).1:List AG)=((Cb (CB b (J f) (J e) d) k j).1++[NP (CB b (J f) (J e) d (Cb (CB b (J f) (J e) d) k j).2).1]):=(by show _++[_]=_++[_];unfold NP;rw[AF.eta,AF.eta,AG.eta];done);(first|rw[o]|simp only[o])<;>rfl)
abbrev Ui(b:List UInt8)(c:List Int)(a:List Int)(d:Nat)(j:Int):=Cb (CB b (J c) (J a) (d-1)) (AU b (BT b (J c) (J a) (j+1)).2 Hf).toNat ((BT b (J c) (J a) (j+1)).2+1)
abbrev XY(b:List UInt8)(c:List Int)(a:List Int)(d:Nat)(j:Int):=Cb (CB b (J c) (J a) (d-1)) (AU b (Ui b c a d j).2 NB).toNat ((Ui b c a d j).2+1)
abbrev KW(b:List UInt8)(c:List Int)(a:List Int)(d:Nat)(j:Int):AA:=(.agg [A (CB b (J c) (J a) d j).1.t,A (CB b (J c) (J a) d j).1.g,A (CB b (J c) (J a) d j).1.i.t,A (CB b (J c) (J a) d j).1.i.v,.F 5,A (CB b (J c) (J a) d j).1.v.t,A (CB b (J c) (J a) d j).1.v.v,.F 6,A (CB b (J c) (J a) d j).1.count,.F 7,.F 8])
abbrev KL(b:List UInt8)(c:List Int)(a:List Int)(f:List AG)(d:Nat)(j:Int):List AI:=[.C [.N 1,A (CB b (J c) (J a) d j).2],Aw b,W c,W a,AE f,.Q (D.P (CB b (J c) (J a) d j).1.i.k),.Q (D.P (CB b (J c) (J a) d j).1.v.k),.Q (D.M (CB b (J c) (J a) d j).1.b),.Q (D.M (CB b (J c) (J a) d j).1.e)]
abbrev PK:AI:=.C [A 0,A 0,A 0,A 0,.v (.slice I 0 0),A 0,A 0,.v (.slice I 0 0),A 0,.v (.slice I 0 0),.v (.slice I 0 0)]
abbrev cb(b:List UInt8)(c:List Int)(a:List Int)(j:Int):AI:=.C [A 1,A (Ch b (j+1) (J c:Int)),A 0,A 0,.v (.slice I 0 0),A (BT b (J c) (J a) (j+1+1)).1.t,A (BT b (J c) (J a) (j+1+1)).1.v,.F 7,A 0,.v (.slice I 0 0),.v (.slice I 0 0)]
abbrev Xy(b:List UInt8)(c:List Int)(a:List Int)(j:Int):AI:=.C [A 1,A (Ch b (j+1) (J c:Int)),A 0,A 0,.v (.slice I 0 0),A (BT b (J c) (J a) (j+1+1)).1.t,A (BT b (J c) (J a) (j+1+1)).1.v,.F 6,A 0,.v (.slice I 0 0),.v (.slice I 0 0)]
abbrev Yc(b:List UInt8)(a:List Int)(j:Int):AI:=.C [A 1,A (Ch b (j+1) (J a:Int)),A 0,A 0,.v (.slice I 0 0),A 0,A 0,.v (.slice I 0 0),A 0,.v (.slice I 0 0),.v (.slice I 0 0)]
abbrev OL(b:List UInt8)(c:List Int)(a:List Int)(j:Int):AI:=.Q (D.P (BT b (J c) (J a) (j+1+1)).1.k)
abbrev ON(b:List UInt8)(c:List Int)(a:List Int)(j:Int):AI:=.C [.N 1,A (BT b (J c) (J a) (j+1+1)).2]
abbrev bu:AI:=.C [A 1,A 0,A 0,A 0,.v (.slice I 0 0),A 0,A 0,.v (.slice I 0 0),A 0,.v (.slice I 0 0),.v (.slice I 0 0)]
abbrev ZG(b:List UInt8)(c:List Int)(a:List Int)(d:List AG)(j:Int)(e:List AI):List AI:=.C [.N 1,A (BT b (J c) (J a) (j+1+1)).2]::Aw b::W c::W a::AE d::.C [A 1,A (Ch b (j+1) (J c:Int)),A 0,A 0,.F 7,A (BT b (J c) (J a) (j+1+1)).1.t,A (BT b (J c) (J a) (j+1+1)).1.v,.F 6,A 0,.F 8,.F 9]::.Q (D.P (BT b (J c) (J a) (j+1+1)).1.k)::.Q (D.P [])::.Q (D.M [])::e
abbrev cm(b:List UInt8)(c:List Int)(a:List Int)(d:List AG)(j:Int)(e:List AI):List AI:=.C [.N 1,A (BT b (J c) (J a) (j+1+1)).2]::Aw b::W c::W a::AE d::.C [A 1,A (Ch b (j+1) (J c:Int)),A 0,A 0,.F 7,A (BT b (J c) (J a) (j+1+1)).1.t,A (BT b (J c) (J a) (j+1+1)).1.v,.F 6,A 0,.F 8,.v (.slice I 0 0)]::.Q (D.P (BT b (J c) (J a) (j+1+1)).1.k)::.Q (D.P [])::e
abbrev Za(b:List UInt8)(c:List Int)(a:List Int)(d:List AG)(j:Int)(e:List AI):List AI:=.C [.N 1,A (BT b (J c) (J a) (j+1+1)).2]::Aw b::W c::W a::AE d::.C [A 1,A (Ch b (j+1) (J c:Int)),A 0,A 0,.F 7,A (BT b (J c) (J a) (j+1+1)).1.t,A (BT b (J c) (J a) (j+1+1)).1.v,.F 6,A 0,.v (.slice I 0 0),.v (.slice I 0 0)]::.Q (D.P (BT b (J c) (J a) (j+1+1)).1.k)::e
abbrev Lk(a:List (Nat×AA)):List (Nat×AA):=(0,.P 0 0)::(4,.P 5 0)::(6,.P 6 0)::(8,.P 7 0)::a
abbrev Va(b:List UInt8)(c:List Int)(a:List Int)(d:Nat)(j:Int)(e:List AI):List AI:=.C [.N 1,A (Cb (CB b (J c) (J a) (d-1)) (AU b (j+1+1) Ko).toNat (j+1+1+1)).2]::Aw b::W c::W a::e
abbrev Oz(n:Int)(a:List (Nat×AA)):List (Nat×AA):=(0,.P 0 0)::(2,A n)::(4,.P 5 0)::(6,.P 6 0)::a
abbrev Ju(b:List UInt8)(d:List Int)(a:List Int)(c:List AG)(e:List AI):List AI:=Aw b::W d::W a::AE c::.C (Al 2)::PK::e
abbrev Yh(b:List UInt8)(c:List Int)(a:List Int)(j:Int)(d:List AI):List AI:=.Q (D.P (DI b (J c:Int) (j+1+1)).k)::.Q (D.P (BT b (J c) (J a) (j+1+1+2)).1.k)::d
theorem pq(b)(e a)(f)(d:Nat)(hd:d<=3)(z:∀j n c,1<d->n=(d:Int)-1->0<=c->c<=2->0<=j->j+2*EV (d-1)<=600000000->AN.ok prog (Xb b e a f (d-1) c.toNat j n c))(j n:Int)(hn:n=d)(r0:0<=j)(r1:j+EV d<=600000000):AN.ok prog (Ys b e a f d j n):=by
  refine BP 100 func171 [.C [.N 1,A j],Aw b,W e,W a,AE f] [(0,.P 0 0),(1,Ao 2),(2,A n)] λG=>?_;have hc:=Pq (d-1);have F:=um d;have X:=Pq d;have N:=XZ b (J e) (J a) (k:=j+1) O O;have p:=C8 b (j:=(BT b (J e) (J a) (j+1)).2) O O;have aD:=mt b (J e) (J a) (k:=(BT b (J e) (J a) (j+1)).2+1) (i:=(AU b (BT b (J e) (J a) (j+1)).2 Hf).toNat) (qM p.1 p.2 (show 0<=EV (d-1) by omega)) (BR _) O O;have aB:=N3 b (j:=(Cb (CB b (J e) (J a) (d-1)) (AU b (BT b (J e) (J a) (j+1)).2 Hf).toNat ((BT b (J e) (J a) (j+1)).2+1)).2) O O;have aC:=vk b (j:=j+1+1) O O;refine B (AM G AB [0,1,2,3,4,5,13] (.C [.N 1,A j]::(Ju b e a f [])) (Oz n []) λG=>B (AM G (Ai 2 [0,1,15] (AN.lend (La b j Cv (List.cons_ne_nil _ _) Ab O) [.no,.no,.L 3])) (AH 7) (.C [.N 1,A (j+1)]::(Ju b e a f [])) (Oz n [(7,A (AU b j Cv))]) λG=>B (AM G AB [0,1,2,3,4,5,6,23] (.C [.N 1,A (j+1)]::(Ju b e a f [.C [A (AU b j Cv),A 0,A 0,A 0,AK,A 0,A 0,AK,A 0,AK,AK]])) (Oz n [(7,A (AU b j Cv)),(8,.P 7 0)]) λG=>B (BN (B ?_)))));cases r:(AU b j Cv==2)
  ·
   have q0:=ne_of_beq_false r;refine AQ G (CR (AS r Ag) (Ad [(3,6,0),(1007,1007,0)])) [(27,AC U)] λG=>Bo G U Au (B ?_);cases q:(AU b j Cv==3)
   ·
    have H:=ne_of_beq_false q;refine AQ G (CR (AS q Ag) [(3,0),(4,0),(1005,0)]) [(50,AC U)] λG=>Bo G U Au (B ?_);cases s:(AU b j Cv==4)
    ·
     have S:=ne_of_beq_false s;refine AQ G (CR (AS s Ag) [(3,0),(4,0),(1005,0)]) [(79,AC U)] λG=>Bo G U Au (B (B (AQ G AB [(15,AC (AU b j Cv !=5))] λG=>IP G (λL P=>?_) λL P=>?_)))
     · refine Aq (B (AM G (Ai 4 [0,1] (My b (j+1) ((J e:Int)) O O)) (AH 8) (.C [.N 1,A (j+1+1)]::(Ju b e a f [.C [A (AU b j Cv),A (Ch b (j+1) (J e:Int)),A 0,A 0,AK,A 0,A 0,AK,A 0,AK,AK]])) (Lk []) λG=>AM G (Ai 2 (AH 5) (RW b e a f (j+1+1) O O)) [0,1,2,3,4,6,7,24] [ON b e a j,Aw b,W e,W a,AE f,PK,.C [A (AU b j Cv),A (Ch b (j+1) (J e:Int)),A 0,A 0,AK,A (BT b (J e) (J a) (j+1+1)).1.t,A (BT b (J e) (J a) (j+1+1)).1.v,.F 7,A 0,AK,AK],OL b e a j] [(6,.P 5 0),(8,.P 6 0)] λG=>BL (B (AM G AB [0,1,2,3,4,5,7] [ON b e a j,Aw b,W e,W a,AE f,.C [A (AU b j Cv),A (Ch b (j+1) (J e:Int)),A 0,A 0,AK,A (BT b (J e) (J a) (j+1+1)).1.t,A (BT b (J e) (J a) (j+1+1)).1.v,.F 6,A 0,AK,AK],OL b e a j] [(6,.P 5 0)] λG=>AT ?_))));obtain⟨g,G⟩:=G.nilT 7 (.P []) [.C [.N 1,A (BT b (J e) (J a) (j+1+1)).2],Aw b,W e,W a,AE f,.C [A (AU b j Cv),A (Ch b (j+1) (J e:Int)),A 0,A 0,.F 7,A (BT b (J e) (J a) (j+1+1)).1.t,A (BT b (J e) (J a) (j+1+1)).1.v,.F 6,A 0,AK,AK],.Q (D.P (BT b (J e) (J a) (j+1+1)).1.k)] [(6,.P 5 0)];obtain⟨g,G⟩:=G.nilT 8 (.M []) [.C [.N 1,A (BT b (J e) (J a) (j+1+1)).2],Aw b,W e,W a,AE f,.C [A (AU b j Cv),A (Ch b (j+1) (J e:Int)),A 0,A 0,.F 7,A (BT b (J e) (J a) (j+1+1)).1.t,A (BT b (J e) (J a) (j+1+1)).1.v,.F 6,A 0,.F 8,AK],.Q (D.P (BT b (J e) (J a) (j+1+1)).1.k),.Q (D.P [])] [(6,.P 5 0)];obtain⟨g,G⟩:=G.nilT 9 (.M []) [.C [.N 1,A (BT b (J e) (J a) (j+1+1)).2],Aw b,W e,W a,AE f,.C [A (AU b j Cv),A (Ch b (j+1) (J e:Int)),A 0,A 0,.F 7,A (BT b (J e) (J a) (j+1+1)).1.t,A (BT b (J e) (J a) (j+1+1)).1.v,.F 6,A 0,.F 8,.F 9],.Q (D.P (BT b (J e) (J a) (j+1+1)).1.k),.Q (D.P []),.Q (D.M [])] [(6,.P 5 0)];exact Cr (.agg [A (AU b j Cv),A (Ch b (j+1) (J e:Int)),A 0,A 0,.F 7,A (BT b (J e) (J a) (j+1+1)).1.t,A (BT b (J e) (J a) (j+1+1)).1.v,.F 6,A 0,.F 8,.F 9]) G [0,1,2,3,4,7,6,8,9] (by show _=AA.ren (CX [0,1,2,3,4,7,6,8,9]) (KW b e a d j);unfold KW;have l:((CB b (J e) (J a) d j).1.t:Int)=(AU b j Cv):=(by rw[NT O O,jw O];show(5:Int)=_;omega);rw[l,NT O O,jw O]<;>rfl) (by show _=BM [0,1,2,3,4,7,6,8,9] (KL b e a f d j);unfold KL;rw[NT O O,jw O]<;>rfl)
     refine AM G AB (AH 8) (.C [.N 1,A (j+1)]::(Ju b e a f [bu])) (Lk []) λG=>B (AM G (Ai 4 [0,1] (My b (j+1) ((J e:Int)) O O)) (AH 8) (.C [.N 1,A (j+1+1)]::(Ju b e a f [Yc b e j])) (Lk []) λG=>AM G (Ai 2 (AH 5) (RW b e a f (j+1+1) O O)) [0,1,2,3,4,6,7,24] [ON b e a j,Aw b,W e,W a,AE f,PK,cb b e a j,OL b e a j] [(6,.P 5 0),(8,.P 6 0)] λG=>BL (B (AM G AB [0,1,2,3,4,5,7] [ON b e a j,Aw b,W e,W a,AE f,Xy b e a j,OL b e a j] [(6,.P 5 0)] λG=>AT ?_)));obtain⟨g,G⟩:=G.nilT 7 (.P []) (Za b e a f j []) [(6,.P 5 0)];obtain⟨g,G⟩:=G.nilT 8 (.M []) (cm b e a f j []) [(6,.P 5 0)];obtain⟨g,G⟩:=G.nilT 9 (.M []) (ZG b e a f j []) [(6,.P 5 0)];exact Cr (.agg [A 1,A (Ch b (j+1) (J e:Int)),A 0,A 0,.F 7,A (BT b (J e) (J a) (j+1+1)).1.t,A (BT b (J e) (J a) (j+1+1)).1.v,.F 6,A 0,.F 8,.F 9]) G [0,1,2,3,4,7,6,8,9] (by show _=AA.ren (CX [0,1,2,3,4,7,6,8,9]) (KW b e a d j);unfold KW;rw[NT O O,Qh O]<;>rfl) (by show _=BM [0,1,2,3,4,7,6,8,9] (KL b e a f d j);unfold KL;rw[NT O O,Qh O]<;>rfl)
    have S:=eq_of_beq s;refine AQ G (CR (AS s Ag) [(3,0),(4,0),(1005,0)]) [(79,AC (Y (n>1)))] λG=>DZ G (λh4 q4=>?_) λh4 q4=>?_
    ·
     refine B (B (BS G AB (Lk [(15,AC (AU b j Cv !=5))]) λG=>?_));cases u:(AU b j Cv !=5)
     · have M:=bne_eq_false_iff_eq.1 u;exact False.elim O
     have M:=bne_iff_ne.1 u;refine Ba G _ u (AM G AB (AH 8) (.C [.N 1,A (j+1)]::(Ju b e a f [bu])) (Lk []) λG=>B (AM G (Ai 4 [0,1] (My b (j+1) ((J e:Int)) O O)) (AH 8) (.C [.N 1,A (j+1+1)]::(Ju b e a f [Yc b e j])) (Lk []) λG=>AM G (Ai 2 (AH 5) (RW b e a f (j+1+1) O O)) [0,1,2,3,4,6,7,24] [ON b e a j,Aw b,W e,W a,AE f,PK,cb b e a j,OL b e a j] [(6,.P 5 0),(8,.P 6 0)] λG=>BL (B (AM G AB [0,1,2,3,4,5,7] [ON b e a j,Aw b,W e,W a,AE f,Xy b e a j,OL b e a j] [(6,.P 5 0)] λG=>AT ?_))));obtain⟨g,G⟩:=G.nilT 7 (.P []) (Za b e a f j []) [(6,.P 5 0)];obtain⟨g,G⟩:=G.nilT 8 (.M []) (cm b e a f j []) [(6,.P 5 0)];obtain⟨g,G⟩:=G.nilT 9 (.M []) (ZG b e a f j []) [(6,.P 5 0)];exact Cr (.agg [A 1,A (Ch b (j+1) (J e:Int)),A 0,A 0,.F 7,A (BT b (J e) (J a) (j+1+1)).1.t,A (BT b (J e) (J a) (j+1+1)).1.v,.F 6,A 0,.F 8,.F 9]) G [0,1,2,3,4,7,6,8,9] (by show _=AA.ren (CX [0,1,2,3,4,7,6,8,9]) (KW b e a d j);unfold KW;rw[NT O O,Qh O]<;>rfl) (by show _=BM [0,1,2,3,4,7,6,8,9] (KL b e a f d j);unfold KL;rw[NT O O,Qh O]<;>rfl)
    refine B (AM G (Ai 2 [0,1,16] (AN.lend (La b (j+1) PY (by simp) O O) [.no,.no,.L 3])) (AH 8) (.C [.N 1,A (j+1+1)]::(Ju b e a f [.C [A (AU b j Cv),A 0,A 0,A 0,AK,A 0,A 0,AK,A (AU b (j+1) PY),AK,AK]])) (Oz n [(8,.P 7 0)]) λG=>Df G (BH (AX 6 [0,1,48] (AN.lend (La b (j+1+1) Ko (by simp) O O) [.no,.no,.L 3]) (AX 7 (AH 5) (z (j+1+1+1) (n-1) (AU b (j+1+1) Ko) O O O O O O) BG)) Ag []) [0,0,0,4,0,0,48,127,255,511] [0,1,2,3,4,6,7,64] (Va b e a d j [AE f,PK,.C [A (AU b j Cv),A 0,A 0,A 0,AK,A 0,A 0,AK,A (AU b (j+1) PY),.F 7,AK],.Q (D.M (Cb (CB b (J e) (J a) (d-1)) (AU b (j+1+1) Ko).toNat (j+1+1+1)).1)]) [(6,.P 5 0),(8,.P 6 0)] [BC (n-1)] (BA O) λG=>BL (B (AM G AB [0,1,2,3,4,5,7] (Va b e a d j [AE f,.C [A (AU b j Cv),A 0,A 0,A 0,AK,A 0,A 0,AK,A (AU b (j+1) PY),.F 6,AK],.Q (D.M (Cb (CB b (J e) (J a) (d-1)) (AU b (j+1+1) Ko).toNat (j+1+1+1)).1)]) [(6,.P 5 0)] λG=>AT ?_)));obtain⟨g,G⟩:=G.nilT 7 (.P []) (Va b e a d j [AE f,.C [A (AU b j Cv),A 0,A 0,A 0,.F 7,A 0,A 0,AK,A (AU b (j+1) PY),.F 6,AK],.Q (D.M (Cb (CB b (J e) (J a) (d-1)) (AU b (j+1+1) Ko).toNat (j+1+1+1)).1)]) [(6,.P 5 0)];obtain⟨g,G⟩:=G.nilT 8 (.P []) (Va b e a d j [AE f,.C [A (AU b j Cv),A 0,A 0,A 0,.F 7,A 0,A 0,.F 8,A (AU b (j+1) PY),.F 6,AK],.Q (D.M (Cb (CB b (J e) (J a) (d-1)) (AU b (j+1+1) Ko).toNat (j+1+1+1)).1),.Q (D.P [])]) [(6,.P 5 0)];obtain⟨g,G⟩:=G.nilT 9 (.M []) (Va b e a d j [AE f,.C [A (AU b j Cv),A 0,A 0,A 0,.F 7,A 0,A 0,.F 8,A (AU b (j+1) PY),.F 6,.F 9],.Q (D.M (Cb (CB b (J e) (J a) (d-1)) (AU b (j+1+1) Ko).toNat (j+1+1+1)).1),.Q (D.P []),.Q (D.P [])]) [(6,.P 5 0)];exact Cr (.agg [A (AU b j Cv),A 0,A 0,A 0,.F 7,A 0,A 0,.F 8,A (AU b (j+1) PY),.F 6,.F 9]) G [0,1,2,3,4,7,8,6,9] (by show _=AA.ren (CX [0,1,2,3,4,7,8,6,9]) (KW b e a d j);unfold KW;have l:((CB b (J e) (J a) d j).1.t:Int)=(AU b j Cv):=(by rw[il O O];show(4:Int)=_;omega);rw[l,il O O]<;>rfl) (by show _=BM [0,1,2,3,4,7,8,6,9] (KL b e a f d j);unfold KL;rw[il O O]<;>rfl)
   have H:=eq_of_beq q;refine BS G (CR (AS q Ag) [(3,0),(4,0),(1005,0)]) (Oz n [(7,A (AU b j Cv)),(8,.P 7 0),(50,AC (Y (n>1)))]) λG=>DZ G (λQ R=>?_) λQ R=>?_
   ·
    refine B ?_;cases w:(AU b j Cv==4)
    ·
     have q7:=ne_of_beq_false w;refine AQ G (CR (AS w Ag) [(3,0),(4,0),(1005,0)]) [(79,AC U)] λG=>Bo G U Au (B (B (BS G AB (Lk [(15,AC (AU b j Cv !=5))]) λG=>?_)));cases C:(AU b j Cv !=5)
     · have q8:=bne_eq_false_iff_eq.1 C;exact False.elim O
     have q8:=bne_iff_ne.1 C;refine Ba G _ C (AM G AB (AH 8) (.C [.N 1,A (j+1)]::(Ju b e a f [bu])) (Lk []) λG=>B (AM G (Ai 4 [0,1] (My b (j+1) ((J e:Int)) O O)) (AH 8) (.C [.N 1,A (j+1+1)]::(Ju b e a f [Yc b e j])) (Lk []) λG=>AM G (Ai 2 (AH 5) (RW b e a f (j+1+1) O O)) [0,1,2,3,4,6,7,24] [ON b e a j,Aw b,W e,W a,AE f,PK,cb b e a j,OL b e a j] [(6,.P 5 0),(8,.P 6 0)] λG=>BL (B (AM G AB [0,1,2,3,4,5,7] [ON b e a j,Aw b,W e,W a,AE f,Xy b e a j,OL b e a j] [(6,.P 5 0)] λG=>AT ?_))));obtain⟨g,G⟩:=G.nilT 7 (.P []) (Za b e a f j []) [(6,.P 5 0)];obtain⟨g,G⟩:=G.nilT 8 (.M []) (cm b e a f j []) [(6,.P 5 0)];obtain⟨g,G⟩:=G.nilT 9 (.M []) (ZG b e a f j []) [(6,.P 5 0)];exact Cr (.agg [A 1,A (Ch b (j+1) (J e:Int)),A 0,A 0,.F 7,A (BT b (J e) (J a) (j+1+1)).1.t,A (BT b (J e) (J a) (j+1+1)).1.v,.F 6,A 0,.F 8,.F 9]) G [0,1,2,3,4,7,6,8,9] (by show _=AA.ren (CX [0,1,2,3,4,7,6,8,9]) (KW b e a d j);unfold KW;rw[NT O O,Qh O]<;>rfl) (by show _=BM [0,1,2,3,4,7,6,8,9] (KL b e a f d j);unfold KL;rw[NT O O,Qh O]<;>rfl)
    have q7:=eq_of_beq w;exact False.elim O
   refine B (AM G (Ai 2 (AH 5) (RW b e a f (j+1) O O)) [0,1,2,3,4,5,6,7,24] (.C [.N 1,A (BT b (J e) (J a) (j+1)).2]::(Ju b e a f [.C [A (AU b j Cv),A 0,A 0,A 0,AK,A (BT b (J e) (J a) (j+1)).1.t,A (BT b (J e) (J a) (j+1)).1.v,.F 8,A 0,AK,AK],.Q (D.P (BT b (J e) (J a) (j+1)).1.k)])) (Oz n [(8,.P 7 0)]) λG=>B (Df G (BH (AX 6 [0,1,49] (AN.lend (La b ((BT b (J e) (J a) (j+1)).2) Hf (by simp) O O) [.no,.no,.L 3]) (AX 7 (AH 5) (z ((BT b (J e) (J a) (j+1)).2+1) (n-1) (AU b (BT b (J e) (J a) (j+1)).2 Hf) O O O O O O) BG)) Ag []) [0,0,0,4,0,0,48,127,255,511] [0,1,2,3,4,5,6,7,8,65] (.C [.N 1,A (Ui b e a d j).2]::(Ju b e a f [.C [A (AU b j Cv),A 0,A 0,A 0,AK,A (BT b (J e) (J a) (j+1)).1.t,A (BT b (J e) (J a) (j+1)).1.v,.F 8,A 0,.F 9,AK],.Q (D.P (BT b (J e) (J a) (j+1)).1.k),.Q (D.M (Ui b e a d j).1)])) (Oz n [(8,.P 7 0)]) [BC (n-1)] (BA O) λG=>Df G (BH (AX 6 [0,1,50] (AN.lend (La b ((Cb (CB b (J e) (J a) (d-1)) (AU b (BT b (J e) (J a) (j+1)).2 Hf).toNat ((BT b (J e) (J a) (j+1)).2+1)).2) NB (by simp) O O) [.no,.no,.L 3]) (AX 7 (AH 5) (z ((Cb (CB b (J e) (J a) (d-1)) (AU b (BT b (J e) (J a) (j+1)).2 Hf).toNat ((BT b (J e) (J a) (j+1)).2+1)).2+1) (n-1) (AU b (Cb (CB b (J e) (J a) (d-1)) (AU b (BT b (J e) (J a) (j+1)).2 Hf).toNat ((BT b (J e) (J a) (j+1)).2+1)).2 NB) O O O O O O) BG)) Ag []) [0,0,0,4,0,0,48,127,255,511] [0,1,2,3,4,6,7,8,9,66] [.C [.N 1,A (XY b e a d j).2],Aw b,W e,W a,AE f,PK,.C [A (AU b j Cv),A 0,A 0,A 0,AK,A (BT b (J e) (J a) (j+1)).1.t,A (BT b (J e) (J a) (j+1)).1.v,.F 7,A 0,.F 8,.F 9],.Q (D.P (BT b (J e) (J a) (j+1)).1.k),.Q (D.M (Ui b e a d j).1),.Q (D.M (XY b e a d j).1)] [(6,.P 5 0),(8,.P 6 0)] [BC (n-1)] (BA O) λG=>BL (B (AM G AB [0,1,2,3,4,5,7,8,9] [.C [.N 1,A (XY b e a d j).2],Aw b,W e,W a,AE f,.C [A (AU b j Cv),A 0,A 0,A 0,AK,A (BT b (J e) (J a) (j+1)).1.t,A (BT b (J e) (J a) (j+1)).1.v,.F 6,A 0,.F 7,.F 8],.Q (D.P (BT b (J e) (J a) (j+1)).1.k),.Q (D.M (Ui b e a d j).1),.Q (D.M (XY b e a d j).1)] [(6,.P 5 0)] λG=>AT ?_))));obtain⟨g,G⟩:=G.nilT 9 (.P []) [.C [.N 1,A (Cb (CB b (J e) (J a) (d-1)) (AU b (Cb (CB b (J e) (J a) (d-1)) (AU b (BT b (J e) (J a) (j+1)).2 Hf).toNat ((BT b (J e) (J a) (j+1)).2+1)).2 NB).toNat ((Cb (CB b (J e) (J a) (d-1)) (AU b (BT b (J e) (J a) (j+1)).2 Hf).toNat ((BT b (J e) (J a) (j+1)).2+1)).2+1)).2],Aw b,W e,W a,AE f,.C [A (AU b j Cv),A 0,A 0,A 0,.F 9,A (BT b (J e) (J a) (j+1)).1.t,A (BT b (J e) (J a) (j+1)).1.v,.F 6,A 0,.F 7,.F 8],.Q (D.P (BT b (J e) (J a) (j+1)).1.k),.Q (D.M (Cb (CB b (J e) (J a) (d-1)) (AU b (BT b (J e) (J a) (j+1)).2 Hf).toNat ((BT b (J e) (J a) (j+1)).2+1)).1),.Q (D.M (Cb (CB b (J e) (J a) (d-1)) (AU b (Cb (CB b (J e) (J a) (d-1)) (AU b (BT b (J e) (J a) (j+1)).2 Hf).toNat ((BT b (J e) (J a) (j+1)).2+1)).2 NB).toNat ((Cb (CB b (J e) (J a) (d-1)) (AU b (BT b (J e) (J a) (j+1)).2 Hf).toNat ((BT b (J e) (J a) (j+1)).2+1)).2+1)).1)] [(6,.P 5 0)]
   exact Cr (.agg [A (AU b j Cv),A 0,A 0,A 0,.F 9,A (BT b (J e) (J a) (j+1)).1.t,A (BT b (J e) (J a) (j+1)).1.v,.F 6,A 0,.F 7,.F 8]) G [0,1,2,3,4,9,6,7,8] (by show _=AA.ren (CX [0,1,2,3,4,9,6,7,8]) (KW b e a d j);unfold KW;have l:((CB b (J e) (J a) d j).1.t:Int)=(AU b j Cv):=(by rw[hC O O];show(3:Int)=_;omega);rw[l,hC O O]<;>rfl) (by show _=BM [0,1,2,3,4,9,6,7,8] (KL b e a f d j);unfold KL;rw[hC O O]<;>rfl)
  have q0:=eq_of_beq r;refine BS G (CR (AS r Ag) (Ad [(3,6,0),(1007,1007,0)])) (Oz n [(7,A (AU b j Cv)),(8,.P 7 0),(27,AC (Y ((J a:Int)>0)))]) λG=>DZ G (λh9 T=>?_) λh9 T=>?_
  ·
   refine B ?_;cases m:(AU b j Cv==3)
   ·
    have E:=ne_of_beq_false m;refine BS G (CR (AS m Ag) [(3,0),(4,0),(1005,0)]) (Oz n [(7,A (AU b j Cv)),(8,.P 7 0),(50,AC U)]) λG=>Bo G U Au (B ?_);cases h:(AU b j Cv==4)
    ·
     have x:=ne_of_beq_false h;refine AQ G (CR (AS h Ag) [(3,0),(4,0),(1005,0)]) [(79,AC U)] λG=>Bo G U Au (B (B (BS G AB (Lk [(15,AC (AU b j Cv !=5))]) λG=>?_)));cases o:(AU b j Cv !=5)
     · have y:=bne_eq_false_iff_eq.1 o;exact False.elim O
     have y:=bne_iff_ne.1 o;refine Ba G _ o (AM G AB (AH 8) (.C [.N 1,A (j+1)]::(Ju b e a f [bu])) (Lk []) λG=>B (AM G (Ai 4 [0,1] (My b (j+1) ((J e:Int)) O O)) (AH 8) (.C [.N 1,A (j+1+1)]::(Ju b e a f [Yc b e j])) (Lk []) λG=>AM G (Ai 2 (AH 5) (RW b e a f (j+1+1) O O)) [0,1,2,3,4,6,7,24] [ON b e a j,Aw b,W e,W a,AE f,PK,cb b e a j,OL b e a j] [(6,.P 5 0),(8,.P 6 0)] λG=>BL (B (AM G AB [0,1,2,3,4,5,7] [ON b e a j,Aw b,W e,W a,AE f,Xy b e a j,OL b e a j] [(6,.P 5 0)] λG=>AT ?_))));obtain⟨g,G⟩:=G.nilT 7 (.P []) (Za b e a f j []) [(6,.P 5 0)];obtain⟨g,G⟩:=G.nilT 8 (.M []) (cm b e a f j []) [(6,.P 5 0)];obtain⟨g,G⟩:=G.nilT 9 (.M []) (ZG b e a f j []) [(6,.P 5 0)];exact Cr (.agg [A 1,A (Ch b (j+1) (J e:Int)),A 0,A 0,.F 7,A (BT b (J e) (J a) (j+1+1)).1.t,A (BT b (J e) (J a) (j+1+1)).1.v,.F 6,A 0,.F 8,.F 9]) G [0,1,2,3,4,7,6,8,9] (by show _=AA.ren (CX [0,1,2,3,4,7,6,8,9]) (KW b e a d j);unfold KW;rw[NT O O,Qh O]<;>rfl) (by show _=BM [0,1,2,3,4,7,6,8,9] (KL b e a f d j);unfold KL;rw[NT O O,Qh O]<;>rfl)
    have x:=eq_of_beq h;exact False.elim O
   have E:=eq_of_beq m;exact False.elim O
  refine B (AM G (Ai 4 [0,1] (My b (j+1) ((J a:Int)) O O)) (AH 8) (.C [.N 1,A (j+1+1)]::(Ju b e a f [.C [A (AU b j Cv),A (Ch b (j+1) (J a:Int)),A 0,A 0,AK,A 0,A 0,AK,A 0,AK,AK]])) (Lk []) λG=>B (AM G (Ai 2 (AH 5) (Uc b (j+1+1) e a f O O)) [0,1,2,3,4,5,6,7,24] (.C [.N 1,A (j+1+1+2)]::(Ju b e a f [.C [A (AU b j Cv),A (Ch b (j+1) (J a:Int)),A (DI b (J e:Int) (j+1+1)).t,A (DI b (J e:Int) (j+1+1)).v,.F 8,A 0,A 0,AK,A 0,AK,AK],.Q (D.P (DI b (J e:Int) (j+1+1)).k)])) (Lk []) λG=>AM G (Ai 2 (AH 5) (RW b e a f (j+1+1+2) O O)) [0,1,2,3,4,6,7,8,25] (.C [.N 1,A (BT b (J e) (J a) (j+1+1+2)).2]::Aw b::W e::W a::AE f::PK::.C [A (AU b j Cv),A (Ch b (j+1) (J a:Int)),A (DI b (J e:Int) (j+1+1)).t,A (DI b (J e:Int) (j+1+1)).v,.F 7,A (BT b (J e) (J a) (j+1+1+2)).1.t,A (BT b (J e) (J a) (j+1+1+2)).1.v,.F 8,A 0,AK,AK]::(Yh b e a j [])) [(6,.P 5 0),(8,.P 6 0)] λG=>BL (B (AM G AB [0,1,2,3,4,5,7,8] (.C [.N 1,A (BT b (J e) (J a) (j+1+1+2)).2]::Aw b::W e::W a::AE f::.C [A (AU b j Cv),A (Ch b (j+1) (J a:Int)),A (DI b (J e:Int) (j+1+1)).t,A (DI b (J e:Int) (j+1+1)).v,.F 6,A (BT b (J e) (J a) (j+1+1+2)).1.t,A (BT b (J e) (J a) (j+1+1+2)).1.v,.F 7,A 0,AK,AK]::(Yh b e a j [])) [(6,.P 5 0)] λG=>AT ?_))));obtain⟨g,G⟩:=G.nilT 8 (.M []) (.C [.N 1,A (BT b (J e) (J a) (j+1+1+2)).2]::Aw b::W e::W a::AE f::.C [A (AU b j Cv),A (Ch b (j+1) (J a:Int)),A (DI b (J e:Int) (j+1+1)).t,A (DI b (J e:Int) (j+1+1)).v,.F 6,A (BT b (J e) (J a) (j+1+1+2)).1.t,A (BT b (J e) (J a) (j+1+1+2)).1.v,.F 7,A 0,.F 8,AK]::(Yh b e a j [])) [(6,.P 5 0)];obtain⟨g,G⟩:=G.nilT 9 (.M []) (.C [.N 1,A (BT b (J e) (J a) (j+1+1+2)).2]::Aw b::W e::W a::AE f::.C [A (AU b j Cv),A (Ch b (j+1) (J a:Int)),A (DI b (J e:Int) (j+1+1)).t,A (DI b (J e:Int) (j+1+1)).v,.F 6,A (BT b (J e) (J a) (j+1+1+2)).1.t,A (BT b (J e) (J a) (j+1+1+2)).1.v,.F 7,A 0,.F 8,.F 9]::(Yh b e a j [.Q (D.M [])])) [(6,.P 5 0)]
  exact Cr (.agg [A (AU b j Cv),A (Ch b (j+1) (J a:Int)),A (DI b (J e:Int) (j+1+1)).t,A (DI b (J e:Int) (j+1+1)).v,.F 6,A (BT b (J e) (J a) (j+1+1+2)).1.t,A (BT b (J e) (J a) (j+1+1+2)).1.v,.F 7,A 0,.F 8,.F 9]) G [0,1,2,3,4,6,7,8,9] (by show _=AA.ren (CX [0,1,2,3,4,6,7,8,9]) (KW b e a d j);unfold KW;have l:((CB b (J e) (J a) d j).1.t:Int)=(AU b j Cv):=(by rw[jm O O];show(2:Int)=_;omega);rw[l,jm O O]<;>rfl) (by show _=BM [0,1,2,3,4,6,7,8,9] (KL b e a f d j);unfold KL;rw[jm O O]<;>rfl)
theorem sE(b)(f a)(e)(d:Nat)(h:∀(j n:Int),n=d->0<=j->j+EV d<=600000000->AN.ok prog (Ys b f a e d j n))(m:Nat)(j n c g:Int)(k:n=d)(o:c=m)(i:m<=4)(q:m*EV d<=g)(l:0<=j)(p:j+g<=600000000):AN.ok prog (Xb b f a e d m j n c):=
 yt b f a e d m h j n c k o i g q l p
theorem sm(b)(i a)(e):∀(d:Nat),d<=3->∀(j n:Int),n=d->0<=j->j+EV d<=600000000->AN.ok prog (Ys b i a e d j n)
 |0,l,j,n,k,f,g=>pq b i a e 0 O (λj n c h=>absurd h O) j n k f g
 |d+1,l,j,n,k,f,g=>pq b i a e (d+1) l (λj n c h k o m f g=>sE b i a e d (sm b i a e d O) c.toNat j n c (2*EV d) O O O (qM o m (Int.le_trans ED (Pq d))) f (by simpa using g)) j n k f g
theorem tM:EV 3=34170:=ED
theorem T5(b)(e a)(d)(j n c)(i:n=3)(g:0<=c)(h:c<=4)(f:0<=j)(k:j<=100000000):AN.ok prog (Xb b e a d 3 c.toNat j n c):=
 sE b e a d 3 (sm b e a d 3 O) c.toNat j n c (4*EV 3) O O O (zV g h (by rw[tM];decide)) f (by rw[tM];omega)
abbrev D9(b:List UInt8)(j:Int):AN:=⟨86,[.P 0 0],[.C [.N 1,A j],Aw b],[.C [.N 1,A (Dg b j).2],Aw b]++Pg (GL b j),Nb 2⟩
theorem rT{b}{l}{n i p}(h:i>0)(a:i<=n):GH b l (n-(i-1)).toNat p=GH b l (n-i).toNat p++[AU b (p+(n-i)) l]:=by
 rw[show(n-(i-1)).toNat=(n-i).toNat+1 by omega,yp,show(((n-i).toNat:Nat):Int)=n-i by omega]
theorem sw{b}{l}{n p:Int}:GH b l (n-n).toNat p=[]:=by rw[Int.sub_self];rfl
theorem oM(c a)(b)(d:Ah b<=1048576):AN.ok prog (CJ 92 [Ao 0] [W c,W a,AE b] (AC (BZ ⟨c,a,b⟩))):=Zf ⟨c,a,b⟩ d
theorem S3{b}{j}(h:BZ ⟨FT b j,Hb b j,(Cb (CB b (FT b j).length (Hb b j).length 3) (AU b (GU b j) Ls).toNat (GU b j+1)).1⟩=V):GL b j=⟨FT b j,Hb b j,(Dg b j).1⟩:=AZ h
theorem H6{b}{j}(h:BZ ⟨FT b j,Hb b j,(Cb (CB b (FT b j).length (Hb b j).length 3) (AU b (GU b j) Ls).toNat (GU b j+1)).1⟩=U):GL b j=pY:=AO (by intro c;have a:BZ ⟨FT b j,Hb b j,(Cb (CB b (FT b j).length (Hb b j).length 3) (AU b (GU b j) Ls).toNat (GU b j+1)).1⟩=true:=c;rw[h]at a;cases a)
theorem l5(b)(j):j+1+(AU b j Eu-0)=Cj b j:=by unfold Cj;omega
theorem yX(b)(j):GH b Kq (AU b j Eu-0).toNat (j+1)=FT b j:=by unfold FT;rw[Int.sub_zero]
theorem n4(b)(j):Cj b j+1+(AU b (Cj b j) Ei-0)=GU b j:=by unfold GU;omega
theorem yC(b)(j):GH b LG (AU b (Cj b j) Ei-0).toNat (Cj b j+1)=Hb b j:=by unfold Hb;rw[Int.sub_zero]
abbrev Qk(b:List UInt8)(j:Int):=Cb (CB b (FT b j).length (Hb b j).length 3) (AU b (GU b j) Ls).toNat (GU b j+1)
abbrev cy(b:List UInt8)(j:Int):List AI:=[.C [.N 1,A (Dg b j).2],Aw b,.L 3 (D.C (GL b j).s),.L 3 (D.C (GL b j).r),.Q (D.M (GL b j).b)]
abbrev Jt:AI:=.C [.v (.slice I 0 0),.v (.slice I 0 0),.v (.slice I 0 0)]
abbrev Uz:AI:=.C [.N 4,.v (.slice I 0 0),.v (.slice I 0 0)]
abbrev ga:AI:=.Q (D.M [AG.mk 1 1 (AF.mk 0 0 []) (AF.mk 2 0 []) 0 [] []])
theorem t2(b)(j)(g:0<=j)(m:j<=10000000):AN.ok prog (D9 b j):=by
  refine BP 52 func86 [.C [.N 1,A j],Aw b] [(0,.P 0 0)] λG=>?_;have u:=iU b g O;have s:=jP b g m;have y:=Zg b g m;have E:=kG b (k:=Cj b j) O O;have z:=sH b (k:=GU b j) O O;have x:=pJ b g m;have F:=uA b g m;have n:=YT b g m;have v:Ah (Cb (CB b (FT b j).length (Hb b j).length 3) (AU b (GU b j) Ls).toNat (GU b j+1)).1<=1048576:=DO n.2.2 O;refine B (AM G AB [0,1,2] [.C [.N 1,A j],Aw b,Jt] [(0,.P 0 0),(2,.P 2 0)] λG=>B (AM G AB [0,1,2,11] [.C [.N 1,A j],Aw b,Jt,Jt] [(0,.P 0 0),(2,.P 2 0),(3,.P 3 0)] λG=>B (B (AM G (Ai 2 [0,1,12] (AN.lend (La b j Eu (List.cons_ne_nil _ _) Ab O) [.no,.no,.L 3])) (AH 4) [.C [.N 1,A (j+1)],Aw b,Jt,Jt] [(0,.P 0 0),(2,.P 2 0),(3,.P 3 0),(4,A (AU b j Eu))] λG=>BN ?_))));have f:=G.nil 4 3 (.C []) 1 [.C [.N 1,A (j+1)],Aw b,Jt,Uz] [(0,.P 0 0),(2,.P 2 0),(3,.P 3 0),(4,A (AU b j Eu))];clear G;obtain⟨h,G⟩:=f;replace G:=Ap.at G [.C [.N 1,A (j+1)],Aw b,Jt,Uz,.L 3 (D.C [])] [(0,.P 0 0),(2,.P 2 0),(3,.P 3 0),(4,A (AU b j Eu))];replace G:=G.as [.C [.N 1,A (j+1+(AU b j Eu-AU b j Eu))],Aw b,.C [AK,AK,AK],.C [.N 4,AK,AK],.L 3 (D.C (GH b Kq (AU b j Eu-AU b j Eu).toNat (j+1)))] [(0,.P 0 0),(2,.P 2 0),(3,.P 3 0),(4,A (AU b j Eu))] (by have e:(j+1+(AU b j Eu-AU b j Eu):Int)=(j+1):=O;have d:(GH b Kq (AU b j Eu-AU b j Eu).toNat (j+1):List Int)=([]):=sw;(first|rw[e,d]|simp only[e,d])<;>rfl) Au;refine DR (h:=Int) (λi=>0<=i/\i<=AU b j Eu) (λi=>i.toNat) (λi=>[.C [.N 1,A (j+1+(AU b j Eu-i))],Aw b,.C [AK,AK,AK],.C [.N 4,AK,AK],.L 3 (.C (GH b Kq (AU b j Eu-i).toNat (j+1)))]) (λi=>[(0,.P 0 0),(2,.P 2 0),(3,.P 3 0),(4,A i)]) (AU b j Eu) O (Ap.at G _ _) ?_;clear G;intro i h a w C G;replace G:=Ap.at G [.C [.N 1,A (j+1+(AU b j Eu-i))],Aw b,Jt,Uz,.L 3 (D.C (GH b Kq (AU b j Eu-i).toNat (j+1)))] [(0,.P 0 0),(2,.P 2 0),(3,.P 3 0),(4,A i)];have l:(GH b Kq (AU b j Eu-i).toNat (j+1)).length=(AU b j Eu-i).toNat:=Tw _ _ _ _;refine B (B (BS G AB [(0,.P 0 0),(2,.P 2 0),(3,.P 3 0),(4,A i),(11,AC (Y (i>0)))] λG=>?_));cases p:(Y (i>0))
  ·
   have t:=EB p;obtain rfl:i=0:=O;rw[l5,yX]at G;refine Bo G U Au (wp_exit (Bd (Bd (DG (B (B (AM G (Ai 2 [0,1,13] (AN.lend (La b (Cj b j) Ei (by simp) O O) [.no,.no,.L 3])) (AH 5) [.C [.N 1,A (Cj b j+1)],Aw b,Jt,Uz,.L 3 (D.C (FT b j))] [(0,.P 0 0),(2,.P 2 0),(3,.P 3 0),(5,A (AU b (Cj b j) Ei))] λG=>BN ?_)))))));have f:=G.nil 5 3 (.C []) 1 [.C [.N 1,A (Cj b j+1)],Aw b,Jt,.C [.N 4,.N 5,AK],.L 3 (D.C (FT b j))] [(0,.P 0 0),(2,.P 2 0),(3,.P 3 0),(5,A (AU b (Cj b j) Ei))];clear G;obtain⟨h,G⟩:=f;replace G:=Ap.at G [.C [.N 1,A (Cj b j+1)],Aw b,Jt,.C [.N 4,.N 5,AK],.L 3 (D.C (FT b j)),.L 3 (D.C [])] [(0,.P 0 0),(2,.P 2 0),(3,.P 3 0),(5,A (AU b (Cj b j) Ei))];have f:=G.nilT 6 (.M []) [.C [.N 1,A (Cj b j+1)],Aw b,Jt,.C [.N 4,.N 5,.F 6],.L 3 (D.C (FT b j)),.L 3 (D.C [])] [(0,.P 0 0),(2,.P 2 0),(3,.P 3 0),(5,A (AU b (Cj b j) Ei))];clear G;obtain⟨h,G⟩:=f;replace G:=Ap.at G [.C [.N 1,A (Cj b j+1)],Aw b,Jt,.C [.N 4,.N 5,.F 6],.L 3 (D.C (FT b j)),.L 3 (D.C []),.Q (D.M [])] [(0,.P 0 0),(2,.P 2 0),(3,.P 3 0),(5,A (AU b (Cj b j) Ei))];replace G:=G.as [.C [.N 1,A (Cj b j+1+(AU b (Cj b j) Ei-AU b (Cj b j) Ei))],Aw b,.C [AK,AK,AK],.C [.N 4,.N 5,.F 6],.L 3 (D.C (FT b j)),.L 3 (D.C (GH b LG (AU b (Cj b j) Ei-AU b (Cj b j) Ei).toNat (Cj b j+1))),.Q (D.M [])] [(0,.P 0 0),(2,.P 2 0),(3,.P 3 0),(5,A (AU b (Cj b j) Ei))] (by have e:(Cj b j+1+(AU b (Cj b j) Ei-AU b (Cj b j) Ei):Int)=(Cj b j+1):=O;have d:(GH b LG (AU b (Cj b j) Ei-AU b (Cj b j) Ei).toNat (Cj b j+1):List Int)=([]):=sw;(first|rw[e,d]|simp only[e,d])<;>rfl) Au;refine DR (h:=Int) (λc=>0<=c/\c<=AU b (Cj b j) Ei) (λc=>c.toNat) (λc=>[.C [.N 1,A (Cj b j+1+(AU b (Cj b j) Ei-c))],Aw b,.C [AK,AK,AK],.C [.N 4,.N 5,.F 6],.L 3 (D.C (FT b j)),.L 3 (.C (GH b LG (AU b (Cj b j) Ei-c).toNat (Cj b j+1))),.Q (D.M [])]) (λc=>[(0,.P 0 0),(2,.P 2 0),(3,.P 3 0),(5,A c)]) (AU b (Cj b j) Ei) O (Ap.at G _ _) ?_;clear G;intro c h a w C G;replace G:=Ap.at G [.C [.N 1,A (Cj b j+1+(AU b (Cj b j) Ei-c))],Aw b,Jt,.C [.N 4,.N 5,.F 6],.L 3 (D.C (FT b j)),.L 3 (D.C (GH b LG (AU b (Cj b j) Ei-c).toNat (Cj b j+1))),.Q (D.M [])] [(0,.P 0 0),(2,.P 2 0),(3,.P 3 0),(5,A c)];have l:(GH b LG (AU b (Cj b j) Ei-c).toNat (Cj b j+1)).length=(AU b (Cj b j) Ei-c).toNat:=Tw _ _ _ _;refine B (B (BS G AB [(0,.P 0 0),(2,.P 2 0),(3,.P 3 0),(5,A c),(26,AC (Y (c>0)))] λG=>?_));cases o:(Y (c>0))
   ·
    have r:=EB o;obtain rfl:c=0:=O;rw[n4,yC]at G;refine Bo G U Au (wp_exit (Bd (Bd (DG (B (Fr G (BH (AX 4 [0,1,31] (AN.lend (La b (GU b j) Ls (by simp) O O) [.no,.no,.L 3]) (AX 5 [0,1,4,5,6] (AN.lend (T5 b (FT b j) (Hb b j) ([]) (GU b j+1) 3 (AU b (GU b j) Ls) Au O O O O) [.no,.no,.L 3,.L 3,.Q]) BG)) Ag []) [0,0,0,0,12,31,63,127] [0,1,2,3,4,5,47] [.C [.N 1,A (Qk b j).2],Aw b,Jt,.C [.N 4,.N 5,.F 6],.L 3 (D.C (FT b j)),.L 3 (D.C (Hb b j)),.Q (D.M (Qk b j).1)] [(2,.P 2 0),(3,.P 3 0)] λG=>B (B (AQ G (Ai 1 [4,5,6] (AN.lend (oM (FT b j) (Hb b j) ((Cb (CB b (FT b j).length (Hb b j).length 3) (AU b (GU b j) Ls).toNat (GU b j+1)).1) Ab) [.L 3,.L 3,.Q])) [(45,AC (BZ (BE.mk (FT b j) (Hb b j) (Qk b j).1)))] λG=>Rc (b:=BZ (BE.mk (FT b j) (Hb b j) (Cb (CB b (FT b j).length (Hb b j).length (3:Nat)) (AU b (GU b j) Ls).toNat (GU b j+1)).1)) G (λq=>?_) λq=>?_))))))))
    · refine Aq (B (AM G AB [0,1,2,7,31] [.C [.N 1,A (Qk b j).2],Aw b,.C [.N 3,AK,.F 4],.L 3 (D.C ([0]++([1]++[]))),ga] [(2,.P 2 0)] λG=>AT ?_));have f:=G.nil 5 3 (.C []) 1 [.C [.N 1,A (Qk b j).2],Aw b,.C [.N 3,.N 5,.F 4],.L 3 (D.C ([0]++([1]++[]))),ga] [(2,.P 2 0)];clear G;obtain⟨h,G⟩:=f;replace G:=Ap.at G [.C [.N 1,A (Qk b j).2],Aw b,.C [.N 3,.N 5,.F 4],.L 3 (D.C ([0]++([1]++[]))),ga,.L 3 (D.C [])] [(2,.P 2 0)];exact Br G [0,1,3,5,4] (by show _=BM [0,1,3,5,4] (cy b j);unfold cy;rw[H6 AY]<;>rfl)
    refine B (AM G AB [0,1,2,4,5,6] [.C [.N 1,A (Qk b j).2],Aw b,.C [.N 3,.N 4,.F 5],.L 3 (D.C (FT b j)),.L 3 (D.C (Hb b j)),.Q (D.M (Qk b j).1)] [(2,.P 2 0)] λG=>AT (Ar ?_));exact Br G [0,1,3,4,5] (by show _=BM [0,1,3,4,5] (cy b j);unfold cy;rw[S3 AY]<;>rfl)
   have r:=EC o;refine Ba G _ o (Aq (B (BN (Df G (Ai 4 [0,1,31] (AN.lend (La b (Cj b j+1+(AU b (Cj b j) Ei-c)) LG (by simp) O O) [.no,.no,.L 3])) [0,1,0,0,12,28,63,127,255] [0,1,2,3,4,6,55] [.C [.N 1,A (Cj b j+1+(AU b (Cj b j) Ei-c)+1)],Aw b,Jt,.C [.N 4,.N 6,.F 5],.L 3 (D.C (FT b j)),.Q (D.M []),.L 3 (D.C (GH b LG (AU b (Cj b j) Ei-c).toNat (Cj b j+1)++([AU b (Cj b j+1+(AU b (Cj b j) Ei-c)) LG]++[])))] [(0,.P 0 0),(2,.P 2 0),(3,.P 3 0),(5,A c)] (EP ((GH b LG (AU b (Cj b j) Ei-c).toNat (Cj b j+1)).length+([AU b (Cj b j+1+(AU b (Cj b j) Ei-c)) LG]++[]).length) 8 []) (EW (by simp only[Az,BK,Bc,Tw];omega) Ay) λG=>BL (Bi G AB [(5,A (c-1))] [BC (c-1)] (BA O) λG=>?_)))));exact Ce G (c-1) O O [0,1,2,3,4,6,5] (by have e:(Cj b j+1+(AU b (Cj b j) Ei-(c-1)):Int)=(Cj b j+1+(AU b (Cj b j) Ei-c)+1):=O;have d:(GH b LG (AU b (Cj b j) Ei-(c-1)).toNat (Cj b j+1):List Int)=(GH b LG (AU b (Cj b j) Ei-c).toNat (Cj b j+1)++([AU b (Cj b j+1+(AU b (Cj b j) Ei-c)) LG]++[])):=(rT O O);(first|rw[e,d]|simp only[e,d])<;>rfl)
  have t:=EC p;refine Ba G _ p (Aq (B (BN (Df G (Ai 4 [0,1,29] (AN.lend (La b (j+1+(AU b j Eu-i)) Kq (by simp) O O) [.no,.no,.L 3])) [0,1,0,0,12,28,63,127,255] [0,1,2,3,53] [.C [.N 1,A (j+1+(AU b j Eu-i)+1)],Aw b,Jt,Uz,.L 3 (D.C (GH b Kq (AU b j Eu-i).toNat (j+1)++([AU b (j+1+(AU b j Eu-i)) Kq]++[])))] [(0,.P 0 0),(2,.P 2 0),(3,.P 3 0),(4,A i)] (EP ((GH b Kq (AU b j Eu-i).toNat (j+1)).length+([AU b (j+1+(AU b j Eu-i)) Kq]++[]).length) 8 []) (EW (by simp only[Az,BK,Bc,Tw];omega) Ay) λG=>BL (Bi G AB [(4,A (i-1))] [BC (i-1)] (BA O) λG=>?_)))));exact Ce G (i-1) O O (AH 5) (by have e:(j+1+(AU b j Eu-(i-1)):Int)=(j+1+(AU b j Eu-i)+1):=O;have d:(GH b Kq (AU b j Eu-(i-1)).toNat (j+1):List Int)=(GH b Kq (AU b j Eu-i).toNat (j+1)++([AU b (j+1+(AU b j Eu-i)) Kq]++[])):=(rT O O);(first|rw[e,d]|simp only[e,d])<;>rfl)
section
variable{b:List UInt8}{p:BE}{j:Int}
end
theorem BV.sel{g:Type}{s h}{w0 w}{F:g->Bv}{l}{S f}{c}(M:BV s h w0 w (Am F l (An S)))(t:c.Nodup)(z:J c=J f)(y:c.map (An S)=f.map (AI.ren (CX c))):BV s h w0 w (Am F (λi=>l (CX c i)) (An f)):=by
 refine M.map (λk:g ⊕ Nat=>(match k with|.inl i=>Z (.inl i)|.inr i=>if i<(J c)then Z (.inr (CX c i))else I:Option (g ⊕ Nat))) ?_ ?_
 ·intro k v x a b
  match k,v with
  |.inl i,.inl C=>simp at a b;rw[<-a]at b;simpa using b.symm
  |.inl i,.inr j=>simp only at a b;cases a;split at b<;>simp at b
  |.inr j,.inl i=>simp only at a b;cases b;split at a<;>simp at a
  |.inr j,.inr D=>
   simp at a b;obtain⟨p,u⟩:=a;obtain⟨Bs,m⟩:=b;rw[<-u]at m;have r:=Sum.inr.inj m;have q:=CF p;have n:=CF Bs;rw[Iy n,Iy q]at r;have:=(List.getElem?_inj p t).1 (q.trans (by rw[<-r];exact n.symm))
   rw[this]
 intro k
 match k with
 |.inl i=>exact .inl ⟨_,rfl,rfl⟩
 | .inr i =>
  by_cases d:i<J c
  ·refine .inl ⟨.inr (CX c i),by simp[d],?_⟩
   have a:=congrArg (·[i]?) y
   have e:i<J f:=O;simp only[List.getElem?_map,CF d,CF e,Option.map_some,Option.some.injEq]at a;simp only[Am];rw[Pn e,Iy (CF d),a, <-AI.res_ren,Iy (CF d)]
  refine .inr ?_;simp only[Am];rw[Fn O];rfl
theorem AN.nilArg{P}{f}{l b}{pre p c}{r m}{e:TypeId}{d}(hc:AN.ok P ⟨f,b,pre++[.L e d],p,r⟩)(k)(q)(hd:D.nil k=Z d)(S:l=AA.denL U (J pre) b)(u:(Jq (J pre) (AA.idsL l)&&pre.all (λx=>Jq (J pre) x.ids)&&nodupB q&&CW (J q) (J c)&&oR (J pre) q)=V)(hS:q.map (An p)=c.map (AI.ren (CX q)))(hr:r=m.ren (CX q)):AN.ok P ⟨f,l,pre,c,m⟩:=by
 intro ι Q R N w F H M;simp only[Aj,CW,beq_iff_eq]at u;obtain⟨⟨⟨⟨h1,h2⟩,X⟩,h4⟩,h5⟩:=u;have T:=D.nil_len hd;have s:=(AA.vals_den (ρ:=H) (t:=U) (n:=J pre) (z:=.slice I 0 0) At b (by rw[<-S];exact Lf h1)).1
 have G:∀j,j<J pre->An (pre++[.L e d]) j=An pre j:=λj C=>by simp[An,Bu,Fb C]
 have y:∀j,∀i∈(An pre j).ids,i<J pre:=λj=>by
  by_cases C:j<J pre
  ·rw[Pn C]
   exact Lf (Bt.1 h2 _ (EL C))
  rw[Fn O];intro i o;cases o
 have M1:BV Q R N w (Am F (λj=>if j=(J pre)then .slice I 0 0 else H j) (An (pre++[.L e d]))):=by
  refine BV.put M (.inr (J pre)) (λk E=>?_) (Dl.refl _ _) ?_ ?_
  ·cases k with
   |inl i=>rfl
   | inr j =>
    simp only[Am];rcases Nat.lt_trichotomy j (J pre)with h|h|h
    ·rw[G j h]
     exact AI.res_congr _ (λi o=>AO (by have:=y j i o;omega)) (.inr (.inr (AO O)))
    ·exact absurd (by rw[h]) E
    rw[Fn (show(pre++[AI.L e d]).length<=j by simp;omega),Fn (show(J pre)<=j by omega)];rfl
  ·have:An (pre++[.L e d]) (J pre)=.L e d:=by simp[An,Bu]
   simp only[Am,this,AI.res,if_true];refine⟨λxs=>Ci.nice d xs,[],?_,Ci.nil T _⟩
   rw[T];exact World.ownsRow_nil _ _ _ _
  intro g L;have:An (pre++[.L e d]) (J pre)=.L e d:=by simp[An,Bu]
  simp only[Am,this,AI.res,if_true]at L;cases L
 have h:=hc ι Q R N w F _ M1;simp only[s, <-S]at h;refine h.mono ?_;rintro x w' ⟨v,Bs,rfl,M2⟩
 have E:∀i,i<J pre->CX q i=i:=λi o=>by
  have:=Bt.1 h5 i (GW.2 o);simp only[Aj,CW,beq_iff_eq]at this;exact this.1
 refine⟨λi=>v (CX q i),λi o=>?_,?_,M2.sel (et X) h4 hS⟩
 ·have o:i<J pre:=o
  simp only[E i o];rw[Bs i CY,AO O]
 show Ending.returned (r.val v)=.returned (m.val _);rw[hr,AA.val_ren]
def Um(z:Bool)(p:Prop):Prop:=(z=V/\p)\/(z=U/\¬p)
theorem Um.t{z}{p:Prop}(h:Um z p)(a:z=V):p:=h.elim (·.2) λh=>by rw[h.1]at a;cases a
theorem Um.f{z}{p:Prop}(h:Um z p)(a:z=U):¬p:=h.elim (λh=>by rw[h.1]at a;cases a) (·.2)
theorem Um.d{p q:Prop}[Decidable q](h:q↔p):Um (decide q) p:=by
 by_cases a:q
 ·exact .inl ⟨decide_eq_true a,h.1 a⟩
 exact .inr ⟨decide_eq_false a,λb=>a (h.2 b)⟩
section
variable{P:Program}{ι:Type}{φ ψ:Nat->Prop}{w0 w:World}{F:ι->Bv}{N m:Nat}{ρ0 ρ:Nat->Value}{S:List AI}{tm:List (Nat×AA)}{a:Act}{Q:Exit->Act->World->Prop}
end
theorem Yg(b)(j)(c:0<=j)(a:j<=900000000):AN.ok prog ⟨71,[.P 0 0],[.C [.N 1,A j],Aw b],[.C [.N 1,A (j+1)],Aw b],A (AU b j Gu)⟩:=by
 refine BP 6 func71 [.C [.N 1,A j],Aw b] [(0,.P 0 0)] λG=>?_;refine B (AQ G AB [(2,A 0)] λG=>B (AM G (Ai 2 [0,1,10] (AN.lend (La b j ([0]++([1]++([2]++([3]++([255]++([128]++([7]++([4]++([100]++[]))))))))) (List.cons_ne_nil _ _) Ab O) [.no,.no,.L 3])) [0,1] [.C [.N 1,A (j+1)],Aw b] [(2,A (AU b j ([0]++([1]++([2]++([3]++([255]++([128]++([7]++([4]++([100]++[])))))))))))] λG=>AT ?_));exact Br G [0,1]
section
variable{b:List UInt8}{j i at0 n X:Int}{nv na:Nat}{ks:List UInt8}{k:Nat}{x:UInt8}
theorem uV{v}(a:k<4)(h:cp b (j+k) nv na at0 n (ks.getD k 0)=v):Kb b j nv na at0 n ks (k+1)=(Kb b j nv na at0 n ks k).set k v:=by rw[d9 b j nv na at0 n ks a,h]
theorem J8(a:Mm b j na=X)(d:(FU X).length<=k)(c:k<=(FU X).length):iB b j nv na at0 n=(⟨X,(Kb b (j+1) nv na at0 n (FU X) k).getD 0 0,(Kb b (j+1) nv na at0 n (FU X) k).getD 1 0,(Kb b (j+1) nv na at0 n (FU X) k).getD 2 0,(Kb b (j+1) nv na at0 n (FU X) k).getD 3 0⟩,j+1+k):=by
 have e:k=(FU X).length:=O;subst e;unfold iB;rw[a]
def Qu(b:List UInt8)(j at0 n:Int)(nv na:Nat)(R:Int->Nat->List Int):Prop:=∀X k,R X k=Kb b (j+1) nv na at0 n (FU X) k
variable{R:Int->Nat->List Int}
theorem Qu.len(h:Qu b j at0 n nv na R)(X)(k):(R X k).length=4:=by rw[h X k,pE]
theorem Qu.start(h:Qu b j at0 n nv na R)(X):R X 0=[0,0,0,0]:=h X 0
theorem Qu.next(h:Qu b j at0 n nv na R){X v}(a:k<4)(c:cp b (j+1+k) nv na at0 n ((FU X).getD k 0)=v):R X (k+1)=(R X k).set k v:=by rw[h X (k+1),h X k];exact uV a c
theorem Qu.done(h:Qu b j at0 n nv na R){X}(d:Mm b j na=X)(c:(FU X).length<=k)(a:k<=(FU X).length):iB b j nv na at0 n=(⟨X,(R X k).getD 0 0,(R X k).getD 1 0,(R X k).getD 2 0,(R X k).getD 3 0⟩,j+1+k):=by rw[h X k];exact J8 d c a
end
abbrev Hi(r:Nat):AA:=.agg [.N r,.N (r+1)]
abbrev VL(r:Nat):AA:=.agg [.N r,.F (r+1)]
abbrev Fs(m:DJ):List AI:=[W m.vals,CO m.w]
abbrev af(m:DJ):List AI:=[.L 3 (.C m.vals),.Q (.L m.w)]
theorem aa3{l:List (List Int)}{k}(h:k<J l):l.take (k+1)=l.take k++[l.getD k []]:=by
 rw[Gr _ _ h,DU h]
theorem R0{l:List (List Int)}{k}(h:J l<=k):l.take k=l:=Dq h
abbrev ZS:AI:=.C [.v (.slice I 0 0),.v (.slice I 0 0)]
theorem xy(c)(b)(l:J c<=1048576)(j:J b<=1048576)(f:∀a∈b,J a<=1048576):AN.ok prog ⟨72,[Hi 0],[W c,CO b],[W c,CO b,.L 3 (.C c),.Q (.L b)],VL 2⟩:=by
 refine BP 30 func72 [W c,CO b] [(0,.agg [.N 0,.N 1])] λG=>?_;refine B (AM G AB [0,1,2,10] [W c,CO b,.C [.N 0,.N 1],ZS] [(1,.P 2 0),(2,.P 3 0)] λG=>B (CT G AB [0,1,2,3,28,44] [W c,CO b,.C [.N 0,.N 1],ZS,.L 3 (D.C ([]++c)),.C [.N 4,AK]] [(1,.P 2 0),(2,.P 3 0),(3,.P 5 0)] (EP ((0:Nat)+J c) 8 []) (EW O Ay) λG=>B (B (BS G AB [(1,.P 2 0),(2,.P 3 0),(3,.P 5 0),(4,A 0)] λG=>BN ?_))));obtain⟨e,G⟩:=G.nilT 6 (.L []) [W c,CO b,.C [.N 0,.N 1],.C [AK,AK],.L 3 (D.C ([]++c)),.C [.N 4,.F 6]] [(1,.P 2 0),(2,.P 3 0),(3,.P 5 0),(4,A 0)];refine DR (h:=Nat) (λk=>k<=J b) (λk=>J b-k) (λk=>[W c,CO b,.C [.N 0,.N 1],.C [AK,AK],.L 3 (D.C ([]++c)),.C [.N 4,.F 6],.Q (.L (b.take k))]) (λk=>[(1,.P 2 0),(2,.P 3 0),(3,.P 5 0),(4,A k)]) 0 O (Ap.at G _ _) ?_;clear G;intro k e a w m G;replace G:=Ap.at G [W c,CO b,.C [.N 0,.N 1],ZS,.L 3 (D.C ([]++c)),.C [.N 4,.F 6],.Q (D.L (Ae k b))] [(1,.P 2 0),(2,.P 3 0),(3,.P 5 0),(4,A k)];refine B (B (AQ G AB [(14,AC (Y ((k:Int)<J b)))] λG=>DZ G (λh g=>?_) λh g=>?_))
 ·refine wp_exit (Bd (Bd (DG (B (AM G AB [0,1,3,4,6] [W c,CO b,.C [.N 3,.F 4],.L 3 (D.C ([]++c)),.Q (D.L (Ae k b))] [(2,.P 2 0)] λG=>AT ?_)))));exact Br G [0,1,3,4] (by show _=BM [0,1,3,4] [W c,CO b,.L 3 (D.C c),.Q (D.L b)];have d:(Ae k b:List (List Int))=(b):=(R0 O);(first|rw[d]|simp only[d])<;>rfl)
 refine Aq (B (BN (Df G AB [0,1,0,0,8,0,56,120,252,508,1023,2047,4095] [0,1,2,3,4,5,87] [W c,CO b,.C [.N 0,.N 1],ZS,.L 3 (D.C ([]++c)),.C [.N 4,.F 6],.Q (D.L (Ae k b++[[]++b.getD k []]))] [(1,.P 2 0),(2,.P 3 0),(3,.P 5 0),(4,A k)] (CD k k (J b) (EP ((0:Nat)+(b.getD k []).length) 8 (EP ((Ae k b).length+[[]++b.getD k []].length) 24 []))) (CE O (EW (by have i:=f (b.getD k []) (by rw[DU O];exact EL _);omega) (EW CY Ay))) λG=>BL (Bi G AB [(4,A ((k:Int)+1))] [BC ((k:Int)+1)] (BA O) λG=>?_))));exact Ce G (k+1) O O (AH 7) (by have d:(Ae (k+1) b:List (List Int))=(Ae k b++[[]++b.getD k []]):=(aa3 O);(first|rw[d]|simp only[d])<;>rfl)
abbrev OA:AI:=.C [.v (.slice I 0 0),.v (.slice I 0 0)]
abbrev JP(a:List (Nat×AA)):List (Nat×AA):=(0,.P 0 0)::(3,.P 5 0)::(4,.P 6 0)::(5,.P 7 0)::a
abbrev WO(b:List UInt8)(j:Int)(a:List Int)(i:Nat)(c:List AI):List AI:=.C [.N 8,.F 9]::.L 3 (D.C (Eh b j (J a)))::.Q (D.L (JH b (j+(J a:Int)) i))::c
abbrev WE(a:List AI):List AI:=.C (Al 2)::.C [.v (.slice I 0 0),.v (.slice I 0 0)]::a
theorem wN(b)(j)(c d)(f)(n:J c<=1000000)(m:J d<=1000000)(x:0<=j)(y:j<=100000000):AN.ok prog ⟨29,[.P 0 0,Ao 2],[.C [.N 1,A j],Aw b,W c,W d,AE f],[.C [.N 1,A (j+J c+4*J d)],Aw b,W c,W d,AE f]++Fs (Hr b j (J c) (J d)),Hi 5⟩:=by
  refine BP 49 func29 [.C [.N 1,A j],Aw b,W c,W d,AE f] [(0,.P 0 0),(1,Ao 2)] λG=>?_;refine B (AM G AB [0,1,2,3,4,5,13] [.C [.N 1,A j],Aw b,W c,W d,AE f,.C (Al 2),OA] [(0,.P 0 0),(3,.P 5 0),(4,.P 6 0)] λG=>B (AM G AB [0,1,2,3,4,5,6,15] [.C [.N 1,A j],Aw b,W c,W d,AE f,.C (Al 2),OA,OA] (JP []) λG=>B (B (BS G AB (JP [(6,A 0)]) λG=>BN ?_))));obtain⟨l,G⟩:=G.nil 8 3 (.C []) 1 (.C [.N 1,A j]::Aw b::W c::W d::AE f::(WE [.C [.N 8,AK]])) (JP [(6,A 0)]);replace G:=G.as (.C [.N 1,A (j+0)]::Aw b::W c::W d::AE f::(WE [.C [.N 8,AK],.L 3 (D.C (Eh b j 0))])) (JP [(6,A 0)]) (by have g:(j+0:Int)=(j):=O;(first|rw[g]|simp only[g])<;>rfl) Au;refine DR (h:=Nat) (λk=>k<=J c) (λk=>J c-k) (λk=>[.C [.N 1,A (j+k)],Aw b,W c,W d,AE f,.C (Al 2),.C [AK,AK],.C [.N 8,AK],.L 3 (.C (Eh b j k))]) (λk=>[(0,.P 0 0),(3,.P 5 0),(4,.P 6 0),(5,.P 7 0),(6,A k)]) 0 O (Ap.at G _ _) ?_;clear G;intro k l a w q G;replace G:=Ap.at G [.C [.N 1,A (j+(k:Int))],Aw b,W c,W d,AE f,.C (Al 2),OA,.C [.N 8,AK],.L 3 (D.C (Eh b j k))] (JP [(6,A k)]);have t:=Sf b j k;refine B (B (BS G AB (JP [(6,A k),(15,AC (Y ((k:Int)<J c)))]) λG=>?_));cases o:(Y ((k:Int)<J c))
  ·
   have s:=EB o;obtain rfl:k=J c:=O;refine Bo G (Y ((J c:Int)<J c)) Ab (wp_exit (Bd (Bd (DG (B (B (BS G AB (JP [(7,A 0)]) λG=>BN ?_)))))));obtain⟨l,G⟩:=G.nilT 9 (.L []) (.C [.N 1,A (j+(J c:Int))]::Aw b::W c::W d::AE f::(WE [.C [.N 8,.F 9],.L 3 (D.C (Eh b j (J c)))])) (JP [(7,A 0)]);replace G:=G.as (.C [.N 1,A (j+(J c:Int)+4*(0:Int))]::Aw b::W c::W d::AE f::(WE [.C [.N 8,.F 9],.L 3 (D.C (Eh b j (J c))),.Q (D.L (JH b (j+(J c:Int)) 0))])) (JP [(7,A 0)]) (by have g:(j+(J c:Int)+4*(0:Int):Int)=(j+(J c:Int)):=O;(first|rw[g]|simp only[g])<;>rfl) Au;refine DR (h:=Nat) (λi=>i<=J d) (λi=>J d-i) (λi=>[.C [.N 1,A (j+J c+4*i)],Aw b,W c,W d,AE f,.C (Al 2),.C [AK,AK],.C [.N 8,.F 9],.L 3 (D.C (Eh b j (J c))),.Q (.L (JH b (j+J c) i))]) (λi=>[(0,.P 0 0),(3,.P 5 0),(4,.P 6 0),(5,.P 7 0),(7,A i)]) 0 O (Ap.at G _ _) ?_;clear G;intro i l a w q G;replace G:=Ap.at G (.C [.N 1,A (j+(J c:Int)+4*(i:Int))]::Aw b::W c::W d::AE f::.C (Al 2)::OA::(WO b j c i [])) (JP [(7,A i)]);have v:=lF b (j+J c) i;refine B (B (BS G AB (JP [(7,A i),(29,AC (Y ((i:Int)<J d)))]) λG=>?_));cases n:(Y ((i:Int)<J d))
   ·
    have r:=EB n;obtain rfl:i=J d:=O;refine Bo G (Y ((J d:Int)<J d)) Ab (wp_exit (Bd (Bd (DG (B (AM G AB [0,1,2,3,4,6,8,9] [.C [.N 1,A (j+(J c:Int)+4*(J d:Int))],Aw b,W c,W d,AE f,.C [.N 6,.F 7],.L 3 (D.C (Eh b j (J c))),.Q (D.L (JH b (j+(J c:Int)) (J d)))] [(4,.P 5 0)] λG=>AT ?_))))));obtain⟨l,G⟩:=G.frz [.no,.no,.no,.no,.no,.no,.L 3,.Q] [.C [.N 1,A (j+(J c:Int)+4*(J d:Int))],Aw b,W c,W d,AE f,.C [.N 6,.N 7],W (Eh b j (J c)),CO (JH b (j+(J c:Int)) (J d))] [(4,.P 5 0)];exact Br G [0,1,2,3,4,6,7]
   have r:=EC n;refine Ba G _ n (Aq (B (BN (B (AM G AB (AH 11) (.C [.N 1,A (j+(J c:Int)+4*(i:Int))]::Aw b::W c::W d::AE f::.C (Al 2)::OA::(WO b j c i [.L 3 (D.C [])])) (JP [(7,A i),(8,.N 10)]) λG=>B (B (BS G AB (JP [(7,A i),(8,.N 10),(9,A 0)]) λG=>BN ?_)))))));replace G:=G.as (.C [.N 1,A (j+(J c:Int)+4*(i:Int)+0)]::Aw b::W c::W d::AE f::(WE (WO b j c i [.L 3 (D.C (Eh b (j+(J c:Int)+4*(i:Int)) 0))]))) (JP [(7,A i),(8,.N 10),(9,A 0)]) (by have g:(j+(J c:Int)+4*(i:Int)+0:Int)=(j+(J c:Int)+4*(i:Int)):=O;(first|rw[g]|simp only[g])<;>rfl) Au;refine DR (h:=Nat) (λe=>e<=4) (λe=>4-e) (λe=>[.C [.N 1,A (j+J c+4*i+e)],Aw b,W c,W d,AE f,.C (Al 2),.C [AK,AK],.C [.N 8,.F 9],.L 3 (D.C (Eh b j (J c))),.Q (D.L (JH b (j+(J c:Int)) i)),.L 3 (.C (Eh b (j+J c+4*i) e))]) (λe=>[(0,.P 0 0),(3,.P 5 0),(4,.P 6 0),(5,.P 7 0),(7,A i),(8,.N 10),(9,A e)]) 0 O (Ap.at G _ _) ?_;clear G;intro e l a w q G;replace G:=Ap.at G (.C [.N 1,A (j+(J c:Int)+4*(i:Int)+(e:Int))]::Aw b::W c::W d::AE f::.C (Al 2)::OA::(WO b j c i [.L 3 (D.C (Eh b (j+(J c:Int)+4*(i:Int)) e))])) (JP [(7,A i),(8,.N 10),(9,A e)]);have p:=Sf b (j+J c+4*i) e;refine B (B (BS G AB (JP [(7,A i),(8,.N 10),(9,A e),(34,AC (Y ((e:Int)<4)))]) λG=>?_));cases m:(Y ((e:Int)<4))
   ·
    have u:=EB m;obtain rfl:e=4:=O;refine Bo G U Au (wp_exit (Bd (Bd (DG (CT G AB [0,1,2,3,4,5,6,7,8,43] [.C [.N 1,A (j+(J c:Int)+4*(i:Int)+4)],Aw b,W c,W d,AE f,.C (Al 2),OA,.C [.N 8,.F 9],.L 3 (D.C (Eh b j (J c))),.Q (D.L (JH b (j+(J c:Int)) i++[Eh b (j+(J c:Int)+4*(i:Int)) 4]))] (JP [(7,A i)]) (EP ((JH b (j+(J c:Int)) i).length+[Eh b (j+(J c:Int)+4*(i:Int)) (4:Nat)].length) 24 []) (EW CY Ay) λG=>BL (Bi G AB [(7,A ((i:Int)+1))] [BC ((i:Int)+1)] (BA O) λG=>?_))))));exact Ce G (i+1) O O (AH 10) (by have g:(j+(J c:Int)+4*(↑(i+1):Int):Int)=(j+(J c:Int)+4*(i:Int)+4):=O;have h:(JH b (j+(J c:Int)) (i+1):List (List Int))=(JH b (j+(J c:Int)) i++[Eh b (j+(J c:Int)+4*(i:Int)) 4]):=(u7 _ _ _);(first|rw[g,h]|simp only[g,h])<;>rfl)
   have u:=EC m;refine Ba G _ m (Aq (B (BN (CT G (Ai 2 [0,1] (Yg b (j+(J c:Int)+4*(i:Int)+(e:Int)) O O)) [0,1,2,3,4,5,6,7,8,9,43] (.C [.N 1,A (j+(J c:Int)+4*(i:Int)+(e:Int)+1)]::Aw b::W c::W d::AE f::.C (Al 2)::OA::(WO b j c i [.L 3 (D.C (Eh b (j+(J c:Int)+4*(i:Int)) e++([AU b (j+(J c:Int)+4*(i:Int)+(e:Int)) Gu]++[])))])) (JP [(7,A i),(8,.N 10),(9,A e)]) (EP ((Eh b (j+(J c:Int)+4*(i:Int)) e).length+([AU b (j+(J c:Int)+4*(i:Int)+(e:Int)) Gu]++[]).length) 8 []) (EW CY Ay) λG=>BL (Bi G AB [(9,A ((e:Int)+1))] [BC ((e:Int)+1)] (BA O) λG=>?_)))));exact Ce G (e+1) O O (AH 11) (by have g:(j+(J c:Int)+4*(i:Int)+(↑(e+1):Int):Int)=(j+(J c:Int)+4*(i:Int)+(e:Int)+1):=O;have h:(Eh b (j+(J c:Int)+4*(i:Int)) (e+1):List Int)=(Eh b (j+(J c:Int)+4*(i:Int)) e++([AU b (j+(J c:Int)+4*(i:Int)+(e:Int)) Gu]++[])):=(fz _ _ _);(first|rw[g,h]|simp only[g,h])<;>rfl)
  have s:=EC o;refine Ba G _ o (Aq (B (BN (Df G (Ai 3 [0,1] (Yg b (j+(k:Int)) O O)) [0,1,0,4,12,31,63,127] [0,1,2,3,4,5,6,7,49] [.C [.N 1,A (j+(k:Int)+1)],Aw b,W c,W d,AE f,.C (Al 2),OA,.C [.N 8,AK],.L 3 (D.C (Eh b j k++([AU b (j+(k:Int)) Gu]++[])))] (JP [(6,A k)]) (EP ((Eh b j k).length+([AU b (j+(k:Int)) Gu]++[]).length) 8 []) (EW CY Ay) λG=>BL (Bi G AB [(6,A ((k:Int)+1))] [BC ((k:Int)+1)] (BA O) λG=>?_)))));exact Ce G (k+1) O O (AH 9) (by have g:(j+(↑(k+1):Int):Int)=(j+(k:Int)+1):=O;have h:(Eh b j (k+1):List Int)=(Eh b j k++([AU b (j+(k:Int)) Gu]++[])):=(fz _ _ _);(first|rw[g,h]|simp only[g,h])<;>rfl)
theorem ik(b c):AN.ok prog (CJ 50 [.N 0,.N 1] [W b,W c] (AC (Y (b=c)))):=by
  refine BP 26 func50 [W b,W c] [(0,.N 0),(1,.N 1)] λG=>?_;have n:J b<=9223372036854775807:=G.len 0 (d:=.C b) Au;refine B (BS G AB [(0,.N 0),(1,.N 1),(4,AC U)] λG=>B (B (AQ G AB [(10,AC ((J b:Int) !=(J c:Int)))] λG=>IP G (λj m=>?_) λj m=>?_)))
  ·
   refine Aq (B (B (BS G AB [(0,.N 0),(1,.N 1),(4,AC U),(12,A (J b:Int)),(13,A 0)] λG=>BN ?_)));refine DR (h:=Nat) (λk=>k<=J b/\b.take k=c.take k) (λk=>J b-k) (λk=>[W b,W c]) (λk=>[(0,.N 0),(1,.N 1),(4,AC U),(12,A (J b:Int)),(13,A k)]) 0 (by simp) (Ap.at G _ _) ?_;clear G;intro k o a w f G;refine B (AQ G AB [(14,AC (Y ((k:Int)<J b)))] λG=>B (DZ G (λg h=>?_) λg h=>?_))
   · refine wp_exit (Bd (Bd (DG (B (AQ G AB [(4,AC V)] λG=>AT ?_)))));exact BU V G [0,1] (decide_eq_true (Xg f.2 O O))
   refine Aq (B (BN (B (AQ G AB [(5,A k)] λG=>B (JB G AB [0,0,3,7,0,0,48,112,255] [(24,AC (b.getD k 0 !=c.getD k 0))] (CD k k (J b) (CD k k (J c) [])) (CE O (CE O Ay)) λG=>IP G (λi l=>?_) λi l=>?_)))))
   · refine Aq (BL (Bi G AB [(13,A ((k:Int)+1))] [BC ((k:Int)+1)] (BA O) λG=>?_));exact Ce G (k+1) (⟨O,Zy f.2 O O O⟩) O [0,1]
   refine B (AQ G AB [] λG=>AT (Cg (Ar (Ar (Cg (Ar ?_))))));exact BU U G [0,1] (by exact decide_eq_false λe=>by subst e;omega)
  refine B (AQ G AB [] λG=>AT (Ar ?_));exact BU U G [0,1] (by exact decide_eq_false λe=>by subst e;omega)
theorem zv{d k}{a}(c:k<J a):(a.take (k+1)).all (DX (d+1))=((a.take k).all (DX (d+1))&&(Y ((a.getD k K).t≠5)&&((a.getD k K).b.all (DX d)&&(a.getD k K).e.all (DX d)))):=by
 rw[Gr _ _ c,List.all_append,DU c];simp[DX]
theorem o8{d k}{a}(b:J a<=k):(a.take k).all (DX d)=a.all (DX d):=by rw[Dq b]
theorem uo(s)(a)(u):AN.ok prog ⟨53,[Fw s 1,A a,.P 0 0],[.C [AC u]]++ID s,[.C [AC (u||Y (s.t=5))]]++ID s,.T []⟩:=by
 refine BP 11 func53 [.C [AC u],AP s.i.k,AP s.v.k,AE s.b,AE s.e] [(0,Fw s 1),(1,A a),(2,.P 0 0)] λG=>?_;refine B (AM G AB (AH 6) [.C [AC u],AP s.i.k,AP s.v.k,AE s.b,AE s.e,.C (Ct s 1)] [(2,.P 0 0),(3,.P 5 0)] λG=>?_);cases c:(u)
 ·refine AM G (CR (AS c Ag) [(2,0),(3,0),(4,0),(1005,0)]) (AH 5) [.C [AC (s.t==5)],AP s.i.k,AP s.v.k,AE s.b,AE s.e] [] λG=>?_;exact Jh G (AH 5)
 refine AM G (CR (AS c Ag) [(2,0),(3,0),(4,0),(1005,0)]) (AH 5) [.C [AC V],AP s.i.k,AP s.v.k,AE s.b,AE s.e] [] λG=>?_;exact Jh G (AH 5)
abbrev hD(p:BE)(d:Nat)(a:List AG)(b:Int)(u:Bool):AN:=⟨52,[Ao 0,.N 4,A b,.fn 53 [.P 3 0]],Be p++[.C [AC u]]++[AE a],Be p++[.C [AC (u|| !a.all (DX d))]]++[AE a],.T []⟩
theorem uJ{d k}{a}{u}(c:k<J a):(u|| !(a.take (k+1)).all (DX (d+1)))=(u|| !(a.take k).all (DX (d+1))||Y ((a.getD k K).t=5)|| !(a.getD k K).b.all (DX d)|| !(a.getD k K).e.all (DX d)):=by
 rw[zv c];by_cases h:(a.getD k K).t=5<;>simp[Bool.or_assoc]
abbrev rK(d:Nat)(a:List AG)(u:Bool)(k:Nat):AI:=.C [AC (u|| !(Ae k a).all (DX (d+1))||Y ((a.getD k K).t=5)|| !(a.getD k K).b.all (DX d)|| !(a.getD k K).e.all (DX d))]
abbrev XO(a:List AG)(k:Nat)(c:List AI):List AI:=AE a::.C (Al 0)::AP (a.getD k K).i.k::AP (a.getD k K).v.k::AE (a.getD k K).b::AE (a.getD k K).e::.C (Ct (a.getD k K) 6)::c
abbrev OR(b:Int)(a:List (Nat×AA)):List (Nat×AA):=(2,A b)::(3,.fn 53 [.P 3 0])::(4,.P 5 0)::a
abbrev Re(b:List AG)(k:Nat)(a:List (Nat×AA)):List (Nat×AA):=(11,.N 4)::(12,A (J b:Int))::(13,A (k:Int))::a
theorem lh(p)(d)(c)(i:∀l f u,0<J c->l.all (Ax (J p.s) (J p.r) d)=V->AN.ok prog (hD p d l f u))
    (f) (u) (h:c.all (Ax (J p.s) (J p.r) (d+1))=V):AN.ok prog (hD p (d+1) c f u):=by
  refine BP 44 func52 [W p.s,W p.r,AE p.b,.C [AC u],AE c] [(0,Ao 0),(1,.N 4),(2,A f),(3,.fn 53 [.P 3 0])] λG=>?_;have j:J c<=9223372036854775807:=G.len 4 (d:=.M c) Au;refine B (AM G AB (AH 6) [W p.s,W p.r,AE p.b,.C [AC u],AE c,.C (Al 0)] ((1,.N 4)::(OR f [])) λG=>B (BS G AB (OR f [(11,.N 4),(12,A (J c:Int)),(13,A 0)]) λG=>BN ?_));replace G:=G.as [W p.s,W p.r,AE p.b,.C [AC (u|| !(Ae 0 c).all (DX (d+1)))],AE c,.C (Al 0)] (OR f [(11,.N 4),(12,A (J c:Int)),(13,A 0)]) (by have g:(u|| !(Ae 0 c).all (DX (d+1)):Bool)=(u):=(by simp);(first|rw[g]|simp only[g])<;>rfl) Au;refine DR (h:=Nat) (λk=>k<=J c) (λk=>J c-k) (λk=>[W p.s,W p.r,AE p.b,.C [AC (or u (not ((c.take k).all (DX (d+1)))))],AE c,.C (Al 0)]) (λk=>[(2,A f),(3,.fn 53 [.P 3 0]),(4,.P 5 0),(11,.N 4),(12,A (J c:Int)),(13,A k)]) 0 O (Ap.at G _ _) ?_;clear G;intro k x a w y G;replace G:=Ap.at G [W p.s,W p.r,AE p.b,.C [AC (u|| !(Ae k c).all (DX (d+1)))],AE c,.C (Al 0)] (OR f (Re c k []));refine B (AQ G AB [(14,AC (Y ((k:Int)<J c)))] λG=>B (DZ G (λo q=>?_) λo q=>?_))
  · refine wp_exit (Bd (Bd (DG ?_)));exact Jh G (AH 5) (by show _=BM (AH 5) [W p.s,W p.r,AE p.b,.C [AC (u|| !c.all (DX (d+1)))],AE c];rw[o8 O]<;>rfl)
  refine Aq (B (BN (B (CT G AB [0,1,2,3,4,5,14,15,16,17,22] (W p.s::W p.r::AE p.b::.C [AC (u|| !(Ae k c).all (DX (d+1)))]::(XO c k [])) (OR f ((9,.P 10 0)::(Re c k []))) (CD k k (J c) []) (CE O Ay) λG=>B (AM G (Ai 3 [3,6,7,8,9] (uo (c.getD k K) f (u|| !(Ae k c).all (DX (d+1))))) (AH 11) (W p.s::W p.r::AE p.b::.C [AC (u|| !(Ae k c).all (DX (d+1))||Y ((c.getD k K).t=5))]::(XO c k [])) (OR f ((9,.P 10 0)::(Re c k []))) λG=>B (AQ G AB [(10,A f)] λG=>B (B (AQ G AB [(24,AC ((c.getD k K).t==3))] λG=>Cu G (λn m=>?_) λn m=>?_))))))))
  · refine Aq (B (AM G (Ai 5 [0,1,2,3,8] (i ((c.getD k K).b) f (u|| !(Ae k c).all (DX (d+1))||Y ((c.getD k K).t=5)) O ((GV h O).2.1))) (AH 11) (W p.s::W p.r::AE p.b::.C [AC (u|| !(Ae k c).all (DX (d+1))||Y ((c.getD k K).t=5)|| !(c.getD k K).b.all (DX d))]::(XO c k [])) (OR f ((9,.P 10 0)::(10,A f)::(Re c k []))) λG=>AM G (Ai 5 [0,1,2,3,9] (i ((c.getD k K).e) f (u|| !(Ae k c).all (DX (d+1))||Y ((c.getD k K).t=5)|| !(c.getD k K).b.all (DX d)) O ((GV h O).2.2))) (AH 6) [W p.s,W p.r,AE p.b,rK d c u k,AE c,.C (Al 0)] (OR f (Re c k [])) λG=>BL (Bi G AB [(13,A ((k:Int)+1))] [BC ((k:Int)+1)] (BA O) λG=>?_)));exact Ce G (k+1) O O (AH 6) (by have g:(u|| !(Ae (k+1) c).all (DX (d+1)):Bool)=(u|| !(Ae k c).all (DX (d+1))||Y ((c.getD k K).t=5)|| !(c.getD k K).b.all (DX d)|| !(c.getD k K).e.all (DX d)):=(uJ O);(first|rw[g]|simp only[g])<;>rfl)
  refine AQ G (Ai 4 [0,1,2,7] (Ts p ((c.getD k K).v) (Fy (GV h O).1 O))) [(10,A (AR f (BI p (c.getD k K).v)))] λG=>B (AM G (Ai 5 [0,1,2,3,8] (i ((c.getD k K).b) (AR f (BI p (c.getD k K).v)) (u|| !(Ae k c).all (DX (d+1))||Y ((c.getD k K).t=5)) O ((GV h O).2.1))) (AH 11) (W p.s::W p.r::AE p.b::.C [AC (u|| !(Ae k c).all (DX (d+1))||Y ((c.getD k K).t=5)|| !(c.getD k K).b.all (DX d))]::(XO c k [])) (OR f ((9,.P 10 0)::(10,A (AR f (BI p (c.getD k K).v)))::(Re c k []))) λG=>AM G (Ai 5 [0,1,2,3,9] (i ((c.getD k K).e) (AR f (BI p (c.getD k K).v)) (u|| !(Ae k c).all (DX (d+1))||Y ((c.getD k K).t=5)|| !(c.getD k K).b.all (DX d)) O ((GV h O).2.2))) (AH 6) [W p.s,W p.r,AE p.b,rK d c u k,AE c,.C (Al 0)] (OR f (Re c k [])) λG=>BL (Bi G AB [(13,A ((k:Int)+1))] [BC ((k:Int)+1)] (BA O) λG=>?_));exact Ce G (k+1) O O (AH 6) (by have g:(u|| !(Ae (k+1) c).all (DX (d+1)):Bool)=(u|| !(Ae k c).all (DX (d+1))||Y ((c.getD k K).t=5)|| !(c.getD k K).b.all (DX d)|| !(c.getD k K).e.all (DX d)):=(uJ O);(first|rw[g]|simp only[g])<;>rfl)
theorem yQ(p):∀d c b u,c.all (Ax (J p.s) (J p.r) d)=V->AN.ok prog (hD p d c b u):=by
 intro d;induction d with
 | zero =>
  intro c b u e
  have j:c=[]:=by
   cases c with
   |nil=>rfl
   |cons a r=>simp[Ax]at e
  subst j;exact lh p 0 [] (λ_ _ _ h=>absurd h At) b u rfl
 |succ d i=>intro c b u e;exact lh p d c (λg b u _ f=>i g b u f) b u e
theorem Q9(p)(h:BZ p=V):AN.ok prog ⟨52,[Ao 0,.N 2,A 0,.fn 53 [.P 3 0]],Be p++[.C [AC U]],Be p++[.C [AC (U|| !p.b.all (DX 5))]],.T []⟩:=
 AN.dup (S:=Be p++[.C [AC U]]) (S':=Be p++[.C [AC (U|| !p.b.all (DX 5))]]) (d:=.M p.b) (i:=2) (yQ p 5 p.b 0 U (QR h).1) rfl rfl rfl (λa h=>by simp only[AA.vals,AA.val];rw[show a 4=a 2 from h]) rfl
theorem T3{p}(h:BZ p=V):KR p= !(U|| !p.b.all (DX 5)):=by unfold KR;rw[h];simp
theorem ad3{p}(h:BZ p=U):KR p=false:=by unfold KR;rw[h];rfl
theorem V2(p)(e:Ah p.b<=1048576):AN.ok prog (CJ 18 [Ao 0] (Be p) (AC (KR p))):=by
 refine BP 14 func18 [W p.s,W p.r,AE p.b] [(0,Ao 0)] λG=>?_;refine B (AM G AB (AH 4) [W p.s,W p.r,AE p.b,.C (Al 0)] [(1,.P 3 0),(2,AC U)] λG=>B (B (AQ G (Ai 1 [0,1,2] (Tz p)) [(6,.v (.bool !BZ p))] λG=>?_)));cases a:(!BZ p)
 ·have d:(BZ p)=true:=(Eq.mp (Cp _) a);refine Bo G _ a (Aq (B (AM G AB (AH 5) [W p.s,W p.r,AE p.b,.C (Al 0),.C [AC U]] [(1,.P 3 0),(2,AC U),(3,.P 4 0)] λG=>B (AM G (Ai 4 [0,1,2,4] (Q9 p Ab)) [0,1,2,4] [W p.s,W p.r,AE p.b,.C [AC (U|| !p.b.all (DX 5))]] [(2,AC U),(3,.P 3 0)] λG=>B (AM G AB [0,1,2] [W p.s,W p.r,AE p.b] [(2,.v (.bool !(U|| !p.b.all (DX 5))))] λG=>AT ?_)))));exact Cr (.v (.bool !(U|| !p.b.all (DX 5)))) G [0,1,2] (by have c:(KR p:Bool)=(!(U|| !p.b.all (DX 5))):=(T3 AY);(first|rw[c]|simp only[c])<;>rfl)
 have d:(BZ p)=false:=(Eq.mp (Cn _) a);refine Ba G _ a (B (AQ G AB [] λG=>AT (Ar ?_)));exact BU U G [0,1,2] (ad3 AY)
section
variable(vs ars:List Int)(bd:List AG)
theorem Pd:AN.ok prog (CJ 48 [Ao 0] [W vs,W ars,AE bd] (AC (BZ ⟨vs,ars,bd⟩))):=Tz ⟨vs,ars,bd⟩
end
abbrev NS(n:Int):Bool:= !(Y (0<=n)&&Y (n<=255))
theorem vN(n):AN.ok prog (CJ 165 [A n] [] (AC (NS n))):=by
 refine BP 6 func165 [] [(0,A n)] λG=>?_;refine B (AQ G AB [(2,AC U)] λG=>B (AQ G (Ai 1 [] (Ih n 0 255)) [(2,.v (.bool !(Y (0<=n)&&Y (n<=255))))] λG=>AT ?_));exact Br G []
theorem zU(l):AN.ok prog (CJ 186 [.N 0,.fn 165 []] [W l] (A (NC NS l))):=by
  refine BP 19 func186 [W l] [(0,.N 0),(1,.fn 165 [])] λG=>?_;have g:J l<=9223372036854775807:=G.len 0 (d:=.C l) Au;refine B (BS G AB [(0,.N 0),(1,.fn 165 []),(4,A 0)] λG=>B (B (BS G AB [(0,.N 0),(1,.fn 165 []),(4,A 0),(7,A (J l:Int)),(8,A 0)] λG=>BN ?_)));refine DR (h:=Nat) (λk=>k<=J l/\(l.take k).any NS=U) (λk=>J l-k) (λk=>[W l]) (λk=>[(0,.N 0),(1,.fn 165 []),(4,A 0),(7,A (J l:Int)),(8,A k)]) 0 (⟨Di _,rfl⟩) (Ap.at G _ _) ?_;clear G;intro k h a w b G;refine B (AQ G AB [(9,AC (Y ((k:Int)<J l)))] λG=>B (DZ G (λf c=>?_) λf c=>?_))
  · refine wp_exit (Bd (Bd (DG (B (AQ G AB [(4,A (-1))] λG=>AT ?_)))));exact DE (-1) G [0] (ev (YQ b.2 O))
  refine Aq (B (BN (B (AQ G AB [(5,A k)] λG=>B (Bi G (Ai 5 [] (vN (l.getD k 0))) [(16,AC (NS (l.getD k 0)))] (CD k k (J l) []) (CE O Ay) λG=>Rc G (λe=>?_) λe=>?_)))))
  · refine Aq (BL (Bi G AB [(8,A ((k:Int)+1))] [BC ((k:Int)+1)] (BA O) λG=>?_));exact Ce G (k+1) (⟨O,Zk (z:=0) b.2 O Ab⟩) O [0]
  refine B (AQ G AB [(4,A k)] λG=>AT (Cg (Ar (Ar (Cg (Ar ?_))))));exact DE ((k:Int)) G [0] (kw (z:=0) O b.2 Ab)
theorem C2(l):AN.ok prog (CJ 164 [.N 0,.fn 165 []] [W l] (AC (l.any NS))):=by
 refine BP 9 func164 [W l] [(0,.N 0),(1,.fn 165 [])] λG=>?_;refine B (AQ G AB [(4,AC U)] λG=>B (AQ G (Ai 2 [0] (zU l)) [(4,AC (Y (NC NS l>=0)))] λG=>AT ?_));exact BU (Y (NC NS l>=0)) G [0] ((tK _ _).symm)
theorem i5(l):(!l.any NS)=EN l:=by
 unfold EN;rw[List.all_eq_not_any_not]
theorem nZ(l):AN.ok prog (CJ 105 [.N 0] [W l] (AC (EN l))):=by
 refine BP 6 func105 [W l] [(0,.N 0)] λG=>?_;refine B (AQ G AB [(2,AC U)] λG=>B (AQ G (Ai 1 [0] (C2 l)) [(2,.v (.bool !l.any NS))] λG=>AT ?_));exact Cr (.v (.bool !l.any NS)) G [0] (by have a:(EN l:Bool)=(!l.any NS):=((i5 l).symm);(first|rw[a]|simp only[a])<;>rfl)
abbrev Js(a:List Int):Bool:= !(Hh a)
theorem xC{a}(h:¬(J a:Int)=4):Js a=true:=by unfold Js Hh;rw[decide_eq_false (p:=J a=4) O];rfl
theorem B5{a}(h:(J a:Int)=4):Js a= !(EN a):=by unfold Js Hh;rw[decide_eq_true (p:=J a=4) O];rfl
theorem zz(l):AN.ok prog (CJ 107 [.N 0] [W l] (AC (Js l))):=by
 refine BP 11 func107 [W l] [(0,.N 0)] λG=>?_;refine B (AQ G AB [(2,AC U)] λG=>B ?_);cases a:((J l:Int) !=4)
 ·have c:=bne_eq_false_iff_eq.1 a;refine AQ G (BH (AX 5 [0] (nZ l) BG) (AS a Ag) [(4,0),(5,0),(6,0),(1007,0)]) [(2,.v (.bool !EN l))] λG=>AT ?_;exact Cr (.v (.bool !EN l)) G [0] (by have b:(Js l:Bool)=(!EN l):=(B5 O);(first|rw[b]|simp only[b])<;>rfl)
 have c:=bne_iff_ne.1 a;refine AQ G (CR (AS a Ag) [(4,0),(5,0),(6,0),(1007,0)]) [(2,AC V)] λG=>AT ?_;exact BU V G [0] (xC O)
theorem xX(l):AN.ok prog (CJ 166 [.N 0,.fn 107 []] [CO l] (A (NC Js l))):=by
  refine BP 19 func166 [CO l] [(0,.N 0),(1,.fn 107 [])] λG=>?_;have g:J l<=9223372036854775807:=G.len 0 (d:=.L l) Au;refine B (BS G AB [(0,.N 0),(1,.fn 107 []),(4,A 0)] λG=>B (B (BS G AB [(0,.N 0),(1,.fn 107 []),(4,A 0),(7,A (J l:Int)),(8,A 0)] λG=>BN ?_)));refine DR (h:=Nat) (λk=>k<=J l/\(l.take k).any Js=U) (λk=>J l-k) (λk=>[CO l]) (λk=>[(0,.N 0),(1,.fn 107 []),(4,A 0),(7,A (J l:Int)),(8,A k)]) 0 (⟨Di _,rfl⟩) (Ap.at G _ _) ?_;clear G;intro k h a w b G;refine B (AQ G AB [(9,AC (Y ((k:Int)<J l)))] λG=>B (DZ G (λf c=>?_) λf c=>?_))
  · refine wp_exit (Bd (Bd (DG (B (AQ G AB [(4,A (-1))] λG=>AT ?_)))));exact DE (-1) G [0] (ev (YQ b.2 O))
  refine Aq (B (BN (B (AQ G AB [(5,A k)] λG=>B (Bi G (Ai 5 [33] (zz (l.getD k []))) [(16,AC (Js (l.getD k [])))] (CD k k (J l) []) (CE O Ay) λG=>Rc G (λe=>?_) λe=>?_)))))
  · refine Aq (BL (Bi G AB [(8,A ((k:Int)+1))] [BC ((k:Int)+1)] (BA O) λG=>?_));exact Ce G (k+1) (⟨O,Zk (z:=[]) b.2 O Ab⟩) O [0]
  refine B (AQ G AB [(4,A k)] λG=>AT (Cg (Ar (Ar (Cg (Ar ?_))))));exact DE ((k:Int)) G [0] (kw (z:=[]) O b.2 Ab)
theorem V6(l):AN.ok prog (CJ 106 [.N 0,.fn 107 []] [CO l] (AC (l.any Js))):=by
 refine BP 9 func106 [CO l] [(0,.N 0),(1,.fn 107 [])] λG=>?_;refine B (AQ G AB [(4,AC U)] λG=>B (AQ G (Ai 2 [0] (xX l)) [(4,AC (Y (NC Js l>=0)))] λG=>AT ?_));exact BU (Y (NC Js l>=0)) G [0] ((tK _ _).symm)
theorem T1(l:List (List Int)):(!l.any Js)=l.all Hh:=by
 rw[List.all_eq_not_any_not]
theorem a7{a b:Nat}{m}(d:(J m.vals:Int)=a)(c:(J m.w:Int)=b)(e:EN m.vals=V):(!m.w.any Js)=CI a b m:=by
 rw[zf d c e];exact T1 _
theorem rU(e a c)(d):AN.ok prog (CJ 55 [.N 0,.N 1,Hi 2] [W e,W a,W c,CO d] (AC (CI (J e) (J a) ⟨c,d⟩))):=by
  refine BP 31 func55 [W e,W a,W c,CO d] [(0,.N 0),(1,.N 1),(2,.agg [.N 2,.N 3])] λG=>?_;refine B (AM G AB (AH 5) [W e,W a,W c,CO d,.C [.N 2,.N 3]] [(0,.N 0),(1,.N 1),(5,.P 4 0),(6,AC U)] λG=>B (B ?_));cases f:((J c:Int) !=(J e:Int))
  ·
   have l:=bne_eq_false_iff_eq.1 f;cases h:((J d:Int) !=(J a:Int))
   ·
    have j:=bne_eq_false_iff_eq.1 h;refine AQ G (BH (AX 17 [2] (nZ c) BG) (AS f (AS h Ag)) (Ad [(7,12,0),(1013,1013,0),(15,18,1),(1019,1019,1)])) [(26,.v (.bool !EN c))] λG=>?_;cases g:(!EN c)
    · have k:(EN c)=true:=(Eq.mp (Cp _) g);refine Bo G _ g (Aq (B (AM G (Ai 2 [3] (V6 d)) (AH 4) [W e,W a,W c,CO d] [(6,.v (.bool !d.any Js))] λG=>AT ?_)));exact Cr (.v (.bool !d.any Js)) G (AH 4) (by have i:(CI (J e) (J a) (DJ.mk c d):Bool)=(!d.any Js):=((a7 (m:=⟨c,d⟩) (by dsimp only;omega) (by dsimp only;omega) AY).symm);(first|rw[i]|simp only[i])<;>rfl)
    have k:(EN c)=false:=(Eq.mp (Cn _) g);refine Ba G _ g (B (AQ G AB [] λG=>AT (Ar ?_)));exact BU U G (AH 4) (e0 AY)
   have j:=bne_iff_ne.1 h;refine AQ G (CR (AS f (AS h Ag)) (Ad [(7,12,0),(1013,1013,0),(15,18,1),(1019,1019,1)])) [(26,AC V)] λG=>Ba G V Au (B (AQ G AB [] λG=>AT (Ar ?_)));exact BU U G (AH 4) (J9 (by dsimp only;omega))
  have l:=bne_iff_ne.1 f;refine AQ G (CR (AS f (AS (b:=V) rfl Ag)) (Ad [(7,12,0),(1013,1013,0),(15,18,1),(1019,1019,1)])) [(26,AC V)] λG=>Ba G V Au (B (AQ G AB [] λG=>AT (Ar ?_)));exact BU U G (AH 4) (S8 (by dsimp only;omega))
theorem zC(k x y)(a:Kz x)(b:Kz y):AN.ok prog (CJ 170 [A k,A x,A y] [] (A (Hu k x y))):=
 NG λi w f h=>(ac1 k x y w a.1 a.2 b.1 b.2).mono λe g ⟨d,c⟩=>⟨d,c▸Below.refl _ _⟩
theorem dx{x}(h:Kz x):0<=x.tmod 4/\x.tmod 4<4:=by
 have a:0<=x/\x<=255:=h;rw[Int.tmod_eq_emod_of_nonneg O];omega
theorem nk(x y)(d:0<=x/\x<=1000)(a:Kz y):AN.ok prog (CJ 169 [A x,A y] [] (A (x*4+y.tmod 4))):=by
 refine BP 10 func169 [] [(0,A x),(1,A y)] λG=>?_;have c:=dx a;have b:0<=y/\y<=255:=a;refine B (AQ G AB [(4,A 0)] λG=>B (Bi G AB [(4,A (x*4+y.tmod 4))] [BC (x*4),(4:Int)≠0,BC (x*4+y.tmod (4:Int))] ⟨Hw O,O,(Hw O),Ay⟩ λG=>AT ?_));exact Br G []
section
variable{nv na d:Nat}{m:DJ}{e:AF}
end
section
variable{m:DJ}{e:AF}
theorem tz{f b}(d:CI f b m=V){i:Int}(l:0<=i)(k:i<b):(m.w.getD i.toNat []).length=4:=by
 obtain⟨j,h,g,c⟩:=KQ d;have a:i.toNat<J m.w:=O;have:=Bt.1 c (m.w.getD i.toNat []) (by rw[DU a];exact EL a)
 unfold Hh at this;simp only[Aj,decide_eq_true_eq]at this;exact this.1
end
theorem AN.rowPost{P}{f}{a}{r S}{e:TypeId}{d}{l}(G:AN.ok P ⟨f,a,r,S++[.L e d],l⟩):AN.ok P ⟨f,a,r,S++[.G d],l⟩:=by
 intro D H t z w F u M;refine(G D H t z w F u M).mono ?_;rintro x N ⟨n,C,L,s⟩;refine⟨n,C,L,s.release λk=>?_⟩
 cases k with
 |inl i=>exact .inl rfl
 | inr j =>
  simp only[Am];rcases Nat.lt_trichotomy j S.length with h|h|h
  ·have p:An (S++[.G d]) j=An S j:=by simp[An,Bu,Fb h]
   have m:An (S++[.L e d]) j=An S j:=by simp[An,Bu,Fb h]
   rw[p,m];exact .inl rfl
  ·subst h
   have p:An (S++[.G d]) S.length=.G d:=by simp[An,Bu]
   have m:An (S++[.L e d]) S.length=.L e d:=by simp[An,Bu]
   rw[p,m];refine .inr ⟨λb q=>q,λE y c=>⟨EK.nice _ _,?_⟩⟩
   have o:=s.holds (.inr S.length);simp only[Am]at o;rw[m]at o;obtain⟨_,Q,BA,Co⟩:=o;exact EK.make (Jo BA λg v=>c g v) (Ci.nice _ _ _ _ _ _ (Ew.mono λb _ q=>y b q) Co)
  rw[Fn CY,Fn CY];exact .inl rfl
theorem S7(l)(a:J l<=1000000000000):AN.ok prog ⟨46,[.N 0],[.G (.C l)],[.G (.C l)]++[.G (.C l)],.N 1⟩:=AN.rowPost (S:=[.G (.C l)]) (RD l a)
theorem pz(v)(n)(t)(w)(h:Cd w v n 1 t)(r:∀u∈t,u.oneCell'=V)(D:n<=1000000000000):
  Calls prog 108 #[v] w λe i=>∃u,e=.returned u/\CH i w.heap.size i.heap.size 23 1 u n t/\Below w.heap.size w i:=by
 obtain⟨a,d,rfl,x,s,q,-⟩:=h.open;have b:=λw=>Lib.run_eql_slice_nil (P:=prog) w 27 23 a n d 0 0 Tryz.underlying27
 rcases a with _|a
 ·have l:n=0:=by
   rcases Nat.eq_zero_or_pos n with f|f
   ·exact f
   obtain⟨_,a,c,j,_,_,y⟩:=h;cases j
   obtain⟨_,_,j,_⟩:=y f;cases j
  subst l;have p:t=[]:=FM (by have:=h.1;omega)
  subst p;simp only[Option.isNone_none]at b;go_enter func108,ntmps108;go_wp2_with fail;go_ret;exact⟨_,rfl,⟨World.ownsRow_nil _ _ _ _,λg o=>by cases o⟩,Below.refl _ _⟩
 go_enter func108,ntmps108;simp only[Option.isNone_some]at b;have k:=(Below.refl w.heap.size w).alloc (BR _) (.cells #[] 23);go_wp2_with (at_builtin;refine OT rfl _ _ rfl Tryz.underlying27 wy rfl O rfl (NH w #[] 0 1 _ rfl rfl O).1 rfl (h.below k) r O O At ?_;rintro z E C LR m- -);go_ret;refine⟨_,rfl,CH.mk' (by simpa using LR),k.trans m⟩
theorem w6{w}{k}{l}{d}(m:J d=J l)(h:∀i (_:i<J l),∃u,d[i]? =Z u/\CV w k u l[i].length 1 (BW l[i])):∀u∈d,u.oneCell'=true:=by
 intro u f;obtain⟨i,g,rfl⟩:=List.mem_iff_getElem.1 f;obtain⟨n,a,b⟩:=h i O;rw[CF g]at a;have e:=Option.some.inj a;rw[e];obtain⟨_,c,j,rfl,_⟩:=b;rfl
theorem o5(l)(f:J l<=1000000000000):AN.ok prog ⟨108,[.N 0],[.G (.L l)],[.G (.L l),.L 23 (.L l)],.N 1⟩:=by
 intro R S N Q w F o M;obtain⟨r,y,z⟩:=M.datAt (id:=0) (d:=.L l) rfl;have G:J r=J l:=by have:=y.1;omega
 refine(pz (o 0) (J l) r w (CV.L y) (w6 G z) f).mono ?_;rintro e H ⟨u,rfl,⟨p,P⟩,g⟩;refine⟨λi=>if i=1 then u else o i,λi m=>AO (show ¬i=1 by have:i<1:=m;omega),by simp[AA.val],?_⟩
 have n:∀k b,(Am F (λi=>if i=1 then u else o i) (An [.G (.L l),.L 23 (.L l)]) k).blk b->(Am F o (An [.G (.L l)]) k).blk b\/w.heap.size<=b:=λk b f=>by
  cases k with
  |inl i=>exact .inl f
  |inr j=>
   match j with
   |0=>exact .inl f
   |1=>exact .inr (World.ownsRow.lt p b f).1
   |j+2=>exact .inl f
 refine M.grow g (λk=>k=.inr 1) (λk q=>?_) ?_ ?_ ?_
 ·cases k with
  |inl i=>rfl
  |inr j=>
   match j,q with
   |0,_=>rfl
   |1,h=>exact absurd rfl h
   |j+2,_=>rfl
 ·rintro k rfl b f;exact(World.ownsRow.lt p b f).1
 ·rintro j k b t rfl rfl;exact absurd rfl t
 rintro k rfl;refine⟨λL=>Ci.nice (.L l) L,r,KX p (Di _),λi m j x s=>?_⟩
 cases j with
 |succ j=>simp[D.elem]at s
 |zero=>
  simp only[D.elem,Fp,Option.some.injEq]at s;subst s;obtain⟨C,a,b⟩:=z i m;refine⟨C,by simpa[D.sz]using a,?_⟩
  have e:l.getD i []=l[i]'m:=by rw[Bu,CF m];rfl
  show CV H _ C (l.getD i []).length 1 (BW (l.getD i []));rw[e];refine CV.nice _ _ _ _ _ _ _ _ ⟨g.size,λc E v=>⟨⟨v.1,λk q=>?_⟩,g.block c E⟩⟩ b
  rcases n k c q with h|h
  ·exact v.2 k h
  omega
theorem G3(v1 v2)(xs)(rs)(w)(h1:Cd w v1 (J xs) 1 (BW xs))(h2:QN w v2 rs)(hx:J xs<=1048576)(hr:J rs<=1048576)(hi:∀r∈rs,J r<=1048576):
  Calls prog 56 #[.agg #[v1,v2]] w fun e w'=>∃u1 u2 aG,w.heap.size<=aG/\e=.returned (.agg #[u1,u2])/\CH w' w.heap.size aG 3 1 u1 (J xs) (BW xs)/\MA w' aG w'.heap.size u2 rs/\Below w.heap.size w w':=by
 obtain⟨vs,hv,D⟩:=h2;have aZ:J vs=J rs:=by have:=hv.1;omega
 have aC:∀u∈vs,u.oneCell'=true:=by
  intro u hu;obtain⟨i,hi,rfl⟩:=List.mem_iff_getElem.1 hu;obtain⟨a',c',e⟩:=(D i _ _ (CF hi) (CF O)).form;rw[e];rfl
 obtain⟨n,N⟩:∃n,n=w.heap.size:=⟨_,rfl⟩;obtain⟨E,hW⟩:∃E,E=(w.alloc (.cells #[v1,v2] 29)).alloc (.cells #[.slice I 0 0,.slice I 0 0] 29):=⟨_,rfl⟩;have B0:Below n w E:=by rw[hW,N];go_grown
 have sW:E.heap.size=n+1+1:=by rw[hW,N];simp
 have L1:Bl E n [v1,v2]:=by rw[hW,N];exact(Bl.new w [v1,v2] _).alloc _
 have L2:Bl E (n+1) [.slice I 0 0,.slice I 0 0]:=by rw[hW,N];exact Bl.new' (w.alloc _) [.slice I 0 0,.slice I 0 0] _ At
 have bJ:=show Hid (∀W',Below n w W'->Cd W' v1 (J xs) 1 (BW xs))from fun W' g=>h1.below (by rw[<-N];exact g)
 have bH:=show Hid (∀W',Below n w W'->Cd W' v2 (J rs) 1 vs)from fun W' g=>hv.below (by rw[<-N];exact g)
 have aM:=show Hid (∀W',Below n w W'->∀(i:Nat) (u:Value) (r:List Int),vs[i]? =Z u->rs[i]? =Z r->Cd W' u (J r) 1 (BW r))from fun W' g i u r a b=>(D i u r a b).below (by rw[<-N];exact g)
 have HA:=show Hid (∀W',Below (n+1+1) E W'->Below n w W')from fun W' g=>B0.trans (g.mono O)
 have HT:=show Hid (∀W',Below (n+1+1) E W'->W'.cell? ⟨n,0,I⟩=Z v1/\W'.cell? ⟨n,1,I⟩=Z v2/\W'.frozen? ⟨n,0,I⟩=U/\W'.frozen? ⟨n,1,I⟩=U)from by
  intro W' hb;have L':=L1.below hb O;exact⟨by simpa using L'.cell 0,by simpa using L'.cell 1,L'.free 0,L'.free 1⟩
 have HQ:=show Hid (∀W' aD,Below (n+1+1) E W'->Below W'.heap.size W' aD->Below (n+1+1) E aD)from fun W' aD g k=>g.trans (k.mono (by have:=g.size;omega))
 have R:Below (n+1+1) E E.drew:=(Below.refl _ E).drew;obtain⟨c0,c1,f0,f1⟩:=HT.out _ R;have HN:=show Hid (n=w.heap.size)from N;have aN:=BD B0;have aL:=BD L2;have aU:=BD L1;have HO:=BD aC;have cB:=BD aZ;clear h1 hv D B0 L1 L2 aC aZ;go_enter func56,ntmps56;go_wp2_with fail;rw[<-HN.out];rw[<-hW];clear N hW
 go_region_with (first
  |(go_at_call 46;refine(iZ v1 xs _ (bJ.out _ (HA.out _ R)) O).mono ?_;rintro e w7 ⟨u1,rfl,BA,b7⟩;obtain⟨x,y,rfl⟩:=BA.form;have q7:=HQ.out _ _ R b7;obtain⟨c2,c3,f2,f3⟩:=HT.out _ q7)
  |(go_at_call 108;refine(pz v2 (J rs) vs _ (bH.out _ (HA.out _ q7)) HO.out O).mono ?_;rintro e w8 ⟨u2,rfl,Co,b8⟩;obtain⟨z,t,rfl⟩:=Co.form;have q8:=HQ.out _ _ q7 b8;obtain⟨c4,c5,f4,f5⟩:=HT.out _ q8))
 all_goals
  have s7:=b7.size;have s8:=b8.size;have sd:E.drew.heap.size=n+1+1:=sW;have LX:=((Bl.below aU.out q8 O).set (j:=0) (.slice x (J xs) y)).set (j:=1) (.slice z (J rs) t);have MX:=((Bl.below aL.out q8 O).other (p:=⟨n,0,I⟩) (by show n+1≠n;omega) (.slice x (J xs) y)).other (p:=⟨n,1,I⟩) (by show n+1≠n;omega) (.slice z (J rs) t)
  have OX:=((BA.keep b8 (BR _)).other (b:=n) O 0 (.slice x (J xs) y)).other (b:=n) O 1 (.slice z (J rs) t);have PX:=(Co.other (b:=n) O 0 (.slice x (J xs) y)).other (b:=n) O 1 (.slice z (J rs) t);have BX:=((aN.out.trans (q8.mono O)).setCell (p:=⟨n,0,I⟩) (BR _) (.slice x (J xs) y)).setCell (p:=⟨n,1,I⟩) (BR _) (.slice z (J rs) t);have SX:((w8.setCell ⟨n,0,I⟩ (.slice x (J xs) y)).setCell ⟨n,1,I⟩ (.slice z (J rs) t)).heap.size=w8.heap.size:=At;generalize (w8.setCell ⟨n,0,I⟩ (.slice x (J xs) y)).setCell ⟨n,1,I⟩ (.slice z (J rs) t)=wX at*;clear c0 c1 c2 c3 c4 c5 f0 f1 f2 f3 f4 f5 R q7 q8 HQ HT HA aU aL aN b7 b8 BA Co;have r0:=LX.cell 0;have r1:=LX.cell 1;simp at r0 r1;obtain⟨aR,hA⟩:∃aR,aR=w7.heap.size:=⟨_,rfl⟩;obtain⟨aH,hB⟩:∃aH,aH=w8.heap.size:=⟨_,rfl⟩;rw[<-hA]at OX PX s7 s8;rw[<-hB]at PX s8 SX;rw[sd]at OX s7;have bC:=BD LX;have aS:=BD MX;clear hA hB LX MX sd sW;go_wp2_with fail;clear r0 r1
  go_loopw [3,4,16] (fun _ _ i wr=>∃(k:Nat) (F:List Value),k<=J rs/\i=.int .i64 k/\CH wr aR aH 23 1 (.slice z (J rs) t) (J rs) F/\(∀(i:Nat) (u:Value) (r:List Int),i<k->F[i]? =Z u->rs[i]? =Z r->CH wr aH wr.heap.size 3 1 u (J r) (BW r))/\
    (∀(i j:Nat) (u u':Value),i<j->j<k->F[i]? =Z u->F[j]? =Z u'->Hm u u')/\(∀i,k<=i->F[i]? =vs[i]?)/\CH wr (n+1+1) aR 3 1 (.slice x (J xs) y) (J xs) (BW xs)/\Bl wr n [.slice x (J xs) y,.slice z (J rs) t]/\Bl wr (n+1) [.slice I 0 0,.slice I 0 0]/\Below n w wr/\aH<=wr.heap.size) (fun _ _ i _=>J rs-(intOf i).toNat)
  case atStart=>exact⟨0,vs,Di _,rfl,PX,fun i u r h=>by omega,fun i j u u' _ h=>by omega,fun i _=>rfl,OX,bC.out,aS.out,BX,Nat.le_of_eq SX.symm⟩
  case round=>
   obtain⟨k,F,hk,rfl,ho,hrow,aB,H,hvals,hL,X,hb,bW⟩:=hrel;have L:=BD hrow;have T:=BD aB;have G:=BD H;have bN:=BD hL;have bF:=BD X;have bY:J F=J rs:=by have:=ho.1.1;omega
   clear hrow aB H OX PX BX SX bC aS;have r1:=hL.cell 1;simp at r1;by_cases aW:k<J rs
   ·obtain⟨g,cA,hv,bV,bS,aO,-,-,aI,bB⟩:=ho.open O
    cases hv
    have Q:k<J F:=O;obtain⟨u0,aQ⟩:∃u0,u0=F[k]:=⟨_,rfl⟩;have S:F[k]? =Z u0:=by rw[aQ];exact CF Q
    have aE:vs[k]? =Z u0:=by rw[<-G.out k (BR _)];exact S
    have P:rs[k]? =Z rs[k]:=CF aW;have hrow:=aM.out wr hb k u0 rs[k] aE P;obtain⟨au,cu,rfl⟩:=hrow.form;have hx:=bB k _ S;have f0:=aI k;have bQ:=hi rs[k] (EL aW);have bR:=BD S;have bT:=BD hrow;have bE:=BD ho;have bP:=BD hvals;have HB:=BD hb;have bO:=BD P;have bZ:J rs<=9223372036854775807:=O;have aJ:=show Hid (Cd wr.drew (.slice au rs[k].length cu) rs[k].length 1 (BW rs[k]))from aM.out wr.drew hb.drew k _ rs[k] aE P;have cC:n+1<g:=O;clear aQ bB aI S aE hrow ho hvals hb hL X P;go_wp2_with fail;go_region_with (go_at_call 46;refine(iZ _ rs[k] _ aJ.out O).mono ?_;rintro e w9 ⟨u9,rfl,o9,b9⟩;obtain⟨x9,k9,rfl⟩:=o9.form;have M:=yq b9 (Below.refl _ wr).drew (BR _);have f9:=((JF M).2 g k aO).trans f0;have c9:=((JF M).1 g k aO).trans hx;have r9:=((JF M).1 n 1 O).trans r1)
    all_goals
     have s9:=M.size;have bG:wr.drew.heap.size=wr.heap.size:=rfl;rw[bG]at o9 b9;clear f0 hx r1 f9 c9 r9 aJ;go_wp2_with fail;refine⟨⟨k+1,F.set k (.slice x9 rs[k].length k9),O,by go_num,CH.setCell (CH.keep bE.out M O) Q _,?_,?_,?_,(CH.other (CH.keep bP.out M O) (b:=g) O _ _),(Bl.other (Bl.below bN.out M O) (p:=⟨g,k,I⟩) (by show n≠g;omega) _),(Bl.other (Bl.below bF.out M O) (p:=⟨g,k,I⟩) (by show n+1≠g;omega) _),(HB.out.trans (M.mono O)).setCell (p:=⟨g,k,I⟩) (by show n<=g;omega) _,CY⟩,by simp[intOf];omega⟩
     ·intro i u r bD hu s
      by_cases e:i=k
      ·subst e
       rw[List.getElem?_set_self Q]at hu;cases hu
       rw[bO.out]at s;cases s
       exact(o9.other (b:=g) O _ _).wide O At
      rw[List.getElem?_set_ne O]at hu;exact(((L.out i u r O hu s).keep M (BR _)).other (b:=g) O _ _).wide (BR _) (by simpa using s9)
     ·intro i j u u' aF hj hu C
      rw[List.getElem?_set_ne O]at hu;by_cases e:j=k
      ·subst e
       rw[List.getElem?_set_self Q]at C;cases C
       exact Oy (L.out i u _ O hu (CF O)) o9 O
      rw[List.getElem?_set_ne O]at C;exact T.out i j u u' aF O hu C
     intro i bD;rw[List.getElem?_set_ne O];exact G.out i O
   have bL:k=J rs:=O;subst bL;have r0:=hL.cell 0;have m0:=X.cell 0;have m1:=X.cell 1;have bU:=X.free 0;have bX:=X.free 1;simp at r0 m0 m1;have hF:=((X.set (j:=0) (.slice x (J xs) y)).set (j:=1) (.slice z (J rs) t));have BF:=(hb.setCell (p:=⟨n+1,0,I⟩) (by show n<=n+1;omega) (.slice x (J xs) y)).setCell (p:=⟨n+1,1,I⟩) (by show n<=n+1;omega) (.slice z (J rs) t)
   have OF:=(hvals.other (b:=n+1) O 0 (.slice x (J xs) y)).other (b:=n+1) O 1 (.slice z (J rs) t);have PF:=(ho.other (b:=n+1) O 0 (.slice x (J xs) y)).other (b:=n+1) O 1 (.slice z (J rs) t)
   have aY:=show Hid (∀(i:Nat) (u:Value) (r:List Int),F[i]? =Z u->rs[i]? =Z r->CH ((wr.setCell ⟨n+1,0,I⟩ (.slice x (J xs) y)).setCell ⟨n+1,1,I⟩ (.slice z (J rs) t)) aH wr.heap.size 3 1 u (J r) (BW r))from fun i u r hu s=>
    ((L.out i u r (by have:=(EA.1 s).1;omega) hu s).other (b:=n+1) O 0 _).other (b:=n+1) O 1 _
   have zF:((wr.setCell ⟨n+1,0,I⟩ (.slice x (J xs) y)).setCell ⟨n+1,1,I⟩ (.slice z (J rs) t)).heap.size=wr.heap.size:=At;have y0:=hF.cell 0;have y1:=hF.cell 1;simp at y0 y1;have bM:=BD BF;have bI:=BD OF;have aX:=BD PF;have aV:=BD zF;clear hF BF OF PF zF ho hvals hL X hb;go_wp2_with fail;refine bodyPost_ret (v:=.agg #[.slice x (J xs) y,.slice z (J rs) t]) (by simp[results,Tryz.results56,go_sem,y0,y1]) rfl ⟨_,_,aR,by rw[<-HN.out];omega,rfl,?_,⟨F,?_,?_,?_,?_⟩,?_⟩
   ·rw[<-HN.out];exact CH.wide bI.out O (BR _)
   ·exact CH.wide aX.out (BR _) (by rw[aV.out];omega)
   ·intro i u r hu s
    exact(aY.out i u r hu s).wide O (by rw[aV.out];exact BR _)
   ·intro i j u u' aF hu C
    exact T.out i j u u' aF (by have:=(EA.1 C).1;omega) hu C
   ·intro i u hu
    have bK:i<J rs:=by have:=(EA.1 hu).1;omega
    exact Oy (aY.out i u _ hu (CF bK)) aX.out O
   rw[<-HN.out];exact bM.out
theorem m8{w}{k}{v}{m}(h:EK w k (.L m) v):QN w v m:=by
 obtain⟨g,j,e⟩:=h;refine⟨g,CV.L j,λi u r f c=>?_⟩
 have d:i<J m:=(EA.1 c).1;obtain⟨l,a,b⟩:=e i d;rw[f]at a;cases a;rw[CF d]at c;cases c;exact CV.L b
theorem ul{w}{r q}{v}{m}(h:MA w r q v m):FR w (λb=>r<=b/\b<q) (.L m) v:=by
 obtain⟨e,f,p,t,x⟩:=h;have s:J e=J m:=by have:=f.1.1;omega
 refine⟨_,e,λb=>∃(i:Nat) (u:Value),e[i]? =Z u/\u.ownBlock=Z b,rfl,KX f.1 (Di _),λg a=>⟨⟨(f.lt g a).1,(f.lt g a).2.1⟩,?_⟩,?_,SK.Q ⟨s,λi c=>?_,λi j u y n d k g a=>?_⟩⟩
 ·rintro⟨i,u,d,o⟩
  exact x i u d g o a
 ·rintro b ⟨i,u,d,o⟩
  have c:i<J m:=by have:=(EA.1 d).1;omega
  have:=(p i u _ d (CF c)).lt b o;exact⟨this.1,this.2.1⟩
 ·have l:i<J e:=O
  exact⟨e[i],CF l,λ_=>KX (p i _ _ (CF l) (CF c)).1 (Di _),λg a=>⟨i,_,CF l,a⟩⟩
 exact t i j u y n d k g a
theorem ac9(m)(L:J m.vals<=1048576)(C:J m.w<=1048576)(s:∀r∈m.w,J r<=1048576):AN.ok prog ⟨56,[Hi 0],Fs m,Fs m++af m,VL 2⟩:=by
 intro R P Q N w F p M;have E:=M.datAt (id:=0) (d:=.C m.vals) rfl;have G:=M.datAt (id:=1) (d:=.L m.w) rfl;refine(G3 (p 0) (p 1) m.vals m.w w (CV.L E) (m8 G) L C s).mono ?_;rintro e q ⟨D,H,f,c,rfl,BA,Co,t⟩;obtain⟨z,g,a⟩:=fp H (λb=>f<=b/\b<q.heap.size) q.heap.size λb h=>h.2
 refine⟨λi=>if i=2 then D else if i=3 then z else p i,λi s=>?_,by simp[AA.val,AA.vals,g],?_⟩
 ·have:i<2:=s
  simp only[AO (show ¬i=2 by omega),AO (show ¬i=3 by omega)]
 refine M.grow t (λk=>k=.inr 2\/k=.inr 3) (λk n=>?_) ?_ ?_ ?_
 ·cases k with
  |inl i=>rfl
  |inr j=>
   match j,n with
   |0,_=>rfl
   |1,_=>rfl
   |2,h=>exact absurd (.inl rfl) h
   |3,h=>exact absurd (.inr rfl) h
   |j+4,_=>rfl
 ·rintro k (rfl|rfl) b o
  ·exact(BA.lt b o).1
  exact DO c ((a b).1 o).1
 ·rintro j k b l (rfl|rfl) (rfl|rfl) u n
  ·exact l rfl
  ·have v:=(BA.lt b u).2.1
   have y:=((a b).1 n).1;omega
  ·have v:=(BA.lt b n).2.1
   have y:=((a b).1 u).1;omega
  exact l rfl
 rintro k (rfl|rfl)
 ·exact al (KX BA.1 (Di _))
 have e:Fi z=λb=>f<=b/\b<q.heap.size:=funext λb=>propext (a b)
 show(Bv.own (Fi z) λw=>FR w (Fi z) (.L m.w) (Fe z)).holds _ _
 rw[g,e];exact⟨λ_ _ h x=>h.same x,ul Co,λb o=>o.2⟩
abbrev Id(c:BY):List AI:=[W c.s,W c.r,.G (.N c.l)]
abbrev UJ(s:Ex):List AI:=[.C [A s.pc,.N 1,.N 2,.F 3],.L 3 (.C s.regs),.L 3 (.C s.mem.vals),.Q (.L s.mem.w)]
abbrev Wk(c:BY)(s:Ex):=s.regs.set (c.l.getD s.pc.toNat K).a.toNat ((s.regs.getD (c.l.getD s.pc.toNat K).a.toNat 0+255).tmod 256)
abbrev PM(c:BY)(s:Ex):=s.regs.getD (c.l.getD s.pc.toNat K).c.toNat 0
abbrev SI(c:BY)(s:Ex):=s.regs.getD (c.l.getD s.pc.toNat K).b.toNat 0
abbrev Fk(c:BY)(s:Ex)(E:List (Int×Int)):List AI:=[.C [A (Bk c s).pc,.N 1,.N 2,.F 3],.L 3 (D.C (Bk c s).regs),.L 3 (D.C (Bk c s).mem.vals),.Q (D.L (Bk c s).mem.w),W c.s,W c.r,Dx c.l,.L 39 (D.E E)]
abbrev VW(c:BY)(s:Ex):AI:=.C [A (c.l.getD s.pc.toNat K).op,A (c.l.getD s.pc.toNat K).a,A (c.l.getD s.pc.toNat K).b,A (c.l.getD s.pc.toNat K).c,A (c.l.getD s.pc.toNat K).d]
abbrev Hs(s:Ex):AI:=.L 39 (D.E ([(5,s.pc)]++[]))
abbrev JR(s:Ex):AI:=.C [A s.pc,.N 1,.N 2,.F 3]
abbrev Mq(s:Ex):AI:=.C [A (s.pc+1),.N 1,.N 2,.F 3]
abbrev Mk(c:BY)(s:Ex):AA:=A (c.l.getD s.pc.toNat K).op
abbrev nP(c:BY)(s:Ex):AI:=.L 3 (D.C (s.regs.set (c.l.getD s.pc.toNat K).a.toNat (Hu (c.l.getD s.pc.toNat K).b (PM c s) (s.regs.getD (c.l.getD s.pc.toNat K).d.toNat 0))))
abbrev GC(c:BY)(s:Ex)(a:List AI):List AI:=.L 3 (D.C s.mem.vals)::.Q (D.L s.mem.w)::W c.s::W c.r::Dx c.l::a
abbrev LP(s:Ex)(a:List (Nat×AA)):List (Nat×AA):=(0,.P 0 0)::(4,.v (.slice I 0 0))::(5,.P 7 0)::(6,.N 1)::(7,.N 8)::(8,A (s.pc+1))::a
abbrev Ge(a:List (Nat×AA)):List (Nat×AA):=(4,.v (.slice I 0 0))::(7,.N 7)::a
theorem U5(c : BY)(s : Ex)(z : Bp c = V)(R : Kk c s = V)(E : List (Int × Int))(m : FH c s = E) : AN.ok prog ⟨125, [.P 0 0, Ao 4], UJ s ++ Id c, UJ (Bk c s) ++ Id c ++ [.L 39 (.E E)], .N 7⟩ := by
  refine BP 240 func125 (JR s::.L 3 (D.C s.regs)::(GC c s [])) [(0,.P 0 0),(1,Ao 4)] λG=>?_;obtain⟨m1,m2,m3,m4,m5⟩:=UU R;have aN:1<=(c.l.getD s.pc.toNat K).op/\(c.l.getD s.pc.toNat K).op<=13:=yZ z R;have hn:=(Hj z).2.2.1;obtain⟨f1,aF,f2,f3,f4,f5,f6,f7,f9,X⟩:=yb (x:=c.l.getD s.pc.toNat K) (rz z R);obtain⟨w1,w2,w3,w4⟩:=KQ m5;have aL:=xG z
  have n:=λi=>Pu m4 i
  refine B (AM G AB (AH 8) (JR s::.L 3 (D.C s.regs)::(GC c s [.C (Al 4)])) [(0,.P 0 0),(3,.P 7 0),(4,AK)] λG=>B (Df G AB [0,1,0,4,12,28,63,127,0,256,768,1792,0,4351,16383] [0,1,2,3,4,5,6,104] (JR s::.L 3 (D.C s.regs)::(GC c s [VW c s])) [(0,.P 0 0),(4,AK),(5,.P 7 0),(6,.N 1)] (CD s.pc s.pc.toNat (J c.l) []) (CE O Ay) λG=>B (AM G AB [0,1,2,3,4,5,6,7,48] (JR s::.L 3 (D.C s.regs)::(GC c s [VW c s,Hs s])) [(0,.P 0 0),(4,AK),(5,.P 7 0),(6,.N 1),(7,.N 8)] λG=>B (Bi G AB [(8,A (s.pc+1))] [BC (s.pc+1)] (BA O) λG=>B (B (AQ G AB [(35,Mk c s)] λG=>BN (B (BS G AB (LP s [(35,Mk c s),(36,AC ((c.l.getD s.pc.toNat K).op==1))]) λG=>?_))))))));cases N:((c.l.getD s.pc.toNat K).op==1)
  ·
   have q0:=ne_of_beq_false N;refine Bo G _ N (B (BS G AB (LP s [(35,Mk c s),(44,AC ((c.l.getD s.pc.toNat K).op==2))]) λG=>?_));cases t:((c.l.getD s.pc.toNat K).op==2)
   ·
    have q1:=ne_of_beq_false t;refine Bo G _ t (B (BS G AB (LP s [(35,Mk c s),(59,AC ((c.l.getD s.pc.toNat K).op==3))]) λG=>?_));cases C:((c.l.getD s.pc.toNat K).op==3)
    ·
     have q2:=ne_of_beq_false C;refine Bo G _ C (B (BS G AB (LP s [(35,Mk c s),(74,AC ((c.l.getD s.pc.toNat K).op==4))]) λG=>?_));cases q:((c.l.getD s.pc.toNat K).op==4)
     ·
      have q3:=ne_of_beq_false q;refine Bo G _ q (B (BS G AB (LP s [(35,Mk c s),(106,AC ((c.l.getD s.pc.toNat K).op==5))]) λG=>?_));cases P:((c.l.getD s.pc.toNat K).op==5)
      ·
       have q4:=ne_of_beq_false P;refine Bo G _ P (B (BS G AB (LP s [(35,Mk c s),(138,AC ((c.l.getD s.pc.toNat K).op==6))]) λG=>?_));cases L:((c.l.getD s.pc.toNat K).op==6)
       ·
        have q5:=ne_of_beq_false L;refine Bo G _ L (B (BS G AB (LP s [(35,Mk c s),(157,AC ((c.l.getD s.pc.toNat K).op==7))]) λG=>?_));cases y:((c.l.getD s.pc.toNat K).op==7)
        ·
         have q6:=ne_of_beq_false y;refine Bo G _ y (B (BS G AB (LP s [(35,Mk c s),(183,AC ((c.l.getD s.pc.toNat K).op==8))]) λG=>?_));cases M:((c.l.getD s.pc.toNat K).op==8)
         ·
          have q7:=ne_of_beq_false M;refine Bo G _ M (B (BS G AB (LP s [(35,Mk c s),(187,AC ((c.l.getD s.pc.toNat K).op==9))]) λG=>?_));cases H:((c.l.getD s.pc.toNat K).op==9)
          ·
           have q8:=ne_of_beq_false H;refine Bo G _ H (B (BS G AB (LP s [(35,Mk c s),(197,AC ((c.l.getD s.pc.toNat K).op==10))]) λG=>?_));cases F:((c.l.getD s.pc.toNat K).op==10)
           ·
            have q9:=ne_of_beq_false F;refine Bo G _ F (B (BS G AB (LP s [(35,Mk c s),(218,AC ((c.l.getD s.pc.toNat K).op==11))]) λG=>?_));cases p:((c.l.getD s.pc.toNat K).op==11)
            ·
             have aI:=ne_of_beq_false p;refine Bo G _ p (B (AM G AB [0,1,2,3,4,5,6,8] (JR s::.L 3 (D.C s.regs)::(GC c s [Hs s])) ((0,.P 0 0)::(Ge [(8,A (s.pc+1)),(229,AC ((c.l.getD s.pc.toNat K).op==13))])) λG=>?_));cases o:((c.l.getD s.pc.toNat K).op==13)
             · have aE:=ne_of_beq_false o;have e:=C5 (c:=c) (s:=s) (show(c.l.getD s.pc.toNat K).op=12 by omega);refine Bo G _ o (Aq (BL (B (AM G AB (AH 8) (Mq s::.L 3 (D.C s.regs)::(GC c s [Hs s])) (Ge []) λG=>B (AQ G AB [(4,.N 7)] λG=>AT ?_)))));exact Br G (AH 8) (by show _=BM (AH 8) (Fk c s E);unfold Fk;have h:((Bk c s).pc:Int)=(s.pc+1):=(by rw[e.1]);have f:((Bk c s).regs:List Int)=(s.regs):=(by rw[e.1]);have j:((Bk c s).mem.vals:List Int)=(s.mem.vals):=(by rw[e.1]);have g:((Bk c s).mem.w:List (List Int))=(s.mem.w):=(by rw[e.1]);rw[h,f,j,g, <-m,e.2]<;>rfl)
             have aE:=eq_of_beq o;have e:=zR (c:=c) (s:=s) (show(c.l.getD s.pc.toNat K).op=13 by omega);refine Ba G _ o (AQ G AB [(8,A s.pc)] λG=>BL (B (AQ G AB [] λG=>B (AQ G AB [(4,.N 7)] λG=>AT ?_))));exact Br G (AH 8) (by show _=BM (AH 8) (Fk c s E);unfold Fk;have h:((Bk c s).pc:Int)=(s.pc):=(by rw[e.1]);have f:((Bk c s).regs:List Int)=(s.regs):=(by rw[e.1]);have j:((Bk c s).mem.vals:List Int)=(s.mem.vals):=(by rw[e.1]);have g:((Bk c s).mem.w:List (List Int))=(s.mem.w):=(by rw[e.1]);rw[h,f,j,g, <-m,e.2]<;>rfl)
            have aI:=eq_of_beq p;have e:=zM (c:=c) (s:=s) (show(c.l.getD s.pc.toNat K).op=11 by omega);have k:=aF O;refine Ba G _ p (CT G AB [0,1,2,3,4,5,6,73] (JR s::.L 3 (D.C s.regs)::(GC c s [.L 39 (D.E ([(5,s.pc)]++[]++([(4,s.regs.getD (c.l.getD s.pc.toNat K).a.toNat 0)]++[])))])) ((0,.P 0 0)::(Ge [(8,A (s.pc+1))])) (CD ((c.l.getD s.pc.toNat K).a) ((c.l.getD s.pc.toNat K).a.toNat) (J s.regs) ((([((5:Int),s.pc)]++[]).length+([((4:Int),s.regs.getD (c.l.getD s.pc.toNat K).a.toNat (0:Int))]++[]).length<=(9223372036854775807:Nat))::(((([((5:Int),s.pc)]++[]).length+([((4:Int),s.regs.getD (c.l.getD s.pc.toNat K).a.toNat (0:Int))]++[]).length)*(16:Nat)<=(140737488355328:Nat))::[]))) (CE O ⟨(by simp),⟨(by simp),Ay⟩⟩) λG=>BL (B (AM G AB (AH 8) (Mq s::.L 3 (D.C s.regs)::(GC c s [.L 39 (D.E ([(5,s.pc)]++[]++([(4,s.regs.getD (c.l.getD s.pc.toNat K).a.toNat 0)]++[])))])) (Ge []) λG=>B (AQ G AB [(4,.N 7)] λG=>AT ?_))));exact Br G (AH 8) (by show _=BM (AH 8) (Fk c s E);unfold Fk;have h:((Bk c s).pc:Int)=(s.pc+1):=(by rw[e.1]);have f:((Bk c s).regs:List Int)=(s.regs):=(by rw[e.1]);have j:((Bk c s).mem.vals:List Int)=(s.mem.vals):=(by rw[e.1]);have g:((Bk c s).mem.w:List (List Int))=(s.mem.w):=(by rw[e.1]);rw[h,f,j,g, <-m,e.2]<;>rfl)
           have q9:=eq_of_beq F;have k:=X O;have aJ:0<=s.regs.getD (c.l.getD s.pc.toNat K).a.toNat 0/\s.regs.getD (c.l.getD s.pc.toNat K).a.toNat 0<=255:=n _;have aM:=a9 (l:=s.regs) (i:=(c.l.getD s.pc.toNat K).a.toNat) (v:=(s.regs.getD (c.l.getD s.pc.toNat K).a.toNat 0+255).tmod 256) O;refine Ba G _ F (B (Df G AB [0,0,2,0,0,16,56,120,248,504,1023,2047] (AH 9) (JR s::.L 3 (D.C (Wk c s))::(GC c s [VW c s,Hs s])) (LP s []) (CD ((c.l.getD s.pc.toNat K).a) ((c.l.getD s.pc.toNat K).a.toNat) (J s.regs) ((BC (s.regs.getD (c.l.getD s.pc.toNat K).a.toNat (0:Int)+255))::(((256:Int)≠0)::(CD ((c.l.getD s.pc.toNat K).a) ((c.l.getD s.pc.toNat K).a.toNat) (J s.regs) [])))) (CE O ⟨Hw O,⟨O,(CE O Ay)⟩⟩) λG=>B (Bi G AB [(215,AC ((Wk c s).getD (c.l.getD s.pc.toNat K).a.toNat 0 !=0))] (CD ((c.l.getD s.pc.toNat K).a) ((c.l.getD s.pc.toNat K).a.toNat) ((s.regs.set (c.l.getD s.pc.toNat K).a.toNat ((s.regs.getD (c.l.getD s.pc.toNat K).a.toNat (0:Int)+255).tmod (256:Int))).length) []) (CE (by rw[GP];omega) Ay) λG=>IP (u:=((s.regs.set (c.l.getD s.pc.toNat K).a.toNat ((s.regs.getD (c.l.getD s.pc.toNat K).a.toNat (0:Int)+255).tmod (256:Int))).getD (c.l.getD s.pc.toNat K).a.toNat (0:Int))) (v:=(0:Int)) G (λS T=>?_) λS T=>?_)))
           · refine Aq (BL (B (AM G AB [0,1,2,3,4,5,6,8] (Mq s::.L 3 (D.C (Wk c s))::(GC c s [Hs s])) (Ge []) λG=>B (AQ G AB [(4,.N 7)] λG=>AT ?_))));exact Br G (AH 8) (by show _=BM (AH 8) (Fk c s E);unfold Fk;have h:((Bk c s).pc:Int)=(s.pc+1):=(by rw[(XA O O).1]);have f:((Bk c s).regs:List Int)=(s.regs.set (c.l.getD s.pc.toNat K).a.toNat ((s.regs.getD (c.l.getD s.pc.toNat K).a.toNat 0+255).tmod 256)):=(by rw[(XA O O).1]);have j:((Bk c s).mem.vals:List Int)=(s.mem.vals):=(by rw[(XA O O).1]);have g:((Bk c s).mem.w:List (List Int))=(s.mem.w):=(by rw[(XA O O).1]);rw[h,f,j,g, <-m,(XA O O).2]<;>rfl)
           refine AM G AB [0,1,2,3,4,5,6,8] (JR s::.L 3 (D.C (Wk c s))::(GC c s [Hs s])) ((0,.P 0 0)::(Ge [(8,A (c.l.getD s.pc.toNat K).b)])) λG=>BL (B (AM G AB (AH 8) (.C [A (c.l.getD s.pc.toNat K).b,.N 1,.N 2,.F 3]::.L 3 (D.C (Wk c s))::(GC c s [Hs s])) (Ge []) λG=>B (AQ G AB [(4,.N 7)] λG=>AT ?_)));exact Br G (AH 8) (by show _=BM (AH 8) (Fk c s E);unfold Fk;have h:((Bk c s).pc:Int)=((c.l.getD s.pc.toNat K).b):=(by rw[(Wh O O).1]);have f:((Bk c s).regs:List Int)=(s.regs.set (c.l.getD s.pc.toNat K).a.toNat ((s.regs.getD (c.l.getD s.pc.toNat K).a.toNat 0+255).tmod 256)):=(by rw[(Wh O O).1]);have j:((Bk c s).mem.vals:List Int)=(s.mem.vals):=(by rw[(Wh O O).1]);have g:((Bk c s).mem.w:List (List Int))=(s.mem.w):=(by rw[(Wh O O).1]);rw[h,f,j,g, <-m,(Wh O O).2]<;>rfl)
          have q8:=eq_of_beq H;have k:=f9 O;refine Ba G _ H (B (Bi G AB [(194,AC (s.regs.getD (c.l.getD s.pc.toNat K).a.toNat 0==0))] (CD ((c.l.getD s.pc.toNat K).a) ((c.l.getD s.pc.toNat K).a.toNat) (J s.regs) []) (CE O Ay) λG=>Cu G (λQ aD=>?_) λQ aD=>?_))
          · refine Aq (BL (B (AM G AB [0,1,2,3,4,5,6,8] (Mq s::.L 3 (D.C s.regs)::(GC c s [Hs s])) (Ge []) λG=>B (AQ G AB [(4,.N 7)] λG=>AT ?_))));exact Br G (AH 8) (by show _=BM (AH 8) (Fk c s E);unfold Fk;have h:((Bk c s).pc:Int)=(s.pc+1):=(by rw[(Wl O O).1]);have f:((Bk c s).regs:List Int)=(s.regs):=(by rw[(Wl O O).1]);have j:((Bk c s).mem.vals:List Int)=(s.mem.vals):=(by rw[(Wl O O).1]);have g:((Bk c s).mem.w:List (List Int))=(s.mem.w):=(by rw[(Wl O O).1]);rw[h,f,j,g, <-m,(Wl O O).2]<;>rfl)
          refine AM G AB [0,1,2,3,4,5,6,8] (JR s::.L 3 (D.C s.regs)::(GC c s [Hs s])) ((0,.P 0 0)::(Ge [(8,A (c.l.getD s.pc.toNat K).b)])) λG=>BL (B (AM G AB (AH 8) (.C [A (c.l.getD s.pc.toNat K).b,.N 1,.N 2,.F 3]::.L 3 (D.C s.regs)::(GC c s [Hs s])) (Ge []) λG=>B (AQ G AB [(4,.N 7)] λG=>AT ?_)));exact Br G (AH 8) (by show _=BM (AH 8) (Fk c s E);unfold Fk;have h:((Bk c s).pc:Int)=((c.l.getD s.pc.toNat K).b):=(by rw[(Vl O O).1]);have f:((Bk c s).regs:List Int)=(s.regs):=(by rw[(Vl O O).1]);have j:((Bk c s).mem.vals:List Int)=(s.mem.vals):=(by rw[(Vl O O).1]);have g:((Bk c s).mem.w:List (List Int))=(s.mem.w):=(by rw[(Vl O O).1]);rw[h,f,j,g, <-m,(Vl O O).2]<;>rfl)
         have q7:=eq_of_beq M;have e:=F2 (c:=c) (s:=s) (show(c.l.getD s.pc.toNat K).op=8 by omega);refine Ba G _ M (AM G AB [0,1,2,3,4,5,6,8] (JR s::.L 3 (D.C s.regs)::(GC c s [Hs s])) ((0,.P 0 0)::(Ge [(8,A (c.l.getD s.pc.toNat K).a)])) λG=>BL (B (AM G AB (AH 8) (.C [A (c.l.getD s.pc.toNat K).a,.N 1,.N 2,.F 3]::.L 3 (D.C s.regs)::(GC c s [Hs s])) (Ge []) λG=>B (AQ G AB [(4,.N 7)] λG=>AT ?_))));exact Br G (AH 8) (by show _=BM (AH 8) (Fk c s E);unfold Fk;have h:((Bk c s).pc:Int)=((c.l.getD s.pc.toNat K).a):=(by rw[e.1]);have f:((Bk c s).regs:List Int)=(s.regs):=(by rw[e.1]);have j:((Bk c s).mem.vals:List Int)=(s.mem.vals):=(by rw[e.1]);have g:((Bk c s).mem.w:List (List Int))=(s.mem.w):=(by rw[e.1]);rw[h,f,j,g, <-m,e.2]<;>rfl)
        have q6:=eq_of_beq y;have k:=f7 O;refine Ba G _ y (B (Bi G AB [(164,AC (s.regs.getD (c.l.getD s.pc.toNat K).b.toNat 0 !=0))] (CD ((c.l.getD s.pc.toNat K).b) ((c.l.getD s.pc.toNat K).b.toNat) (J s.regs) []) (CE O Ay) λG=>IP G (λaH aB=>?_) λaH aB=>?_))
        · refine Df G AB [0,0,2,0,0,16,56,120,255,511] [0,1,2,3,4,5,6,8] (JR s::.L 3 (D.C (s.regs.set (c.l.getD s.pc.toNat K).a.toNat (s.regs.getD (c.l.getD s.pc.toNat K).d.toNat 0)))::(GC c s [Hs s])) ((0,.P 0 0)::(Ge [(8,A (s.pc+1))])) (CD ((c.l.getD s.pc.toNat K).d) ((c.l.getD s.pc.toNat K).d.toNat) (J s.regs) (CD ((c.l.getD s.pc.toNat K).a) ((c.l.getD s.pc.toNat K).a.toNat) (J s.regs) [])) (CE O (CE O Ay)) λG=>BL (B (AM G AB (AH 8) (Mq s::.L 3 (D.C (s.regs.set (c.l.getD s.pc.toNat K).a.toNat (s.regs.getD (c.l.getD s.pc.toNat K).d.toNat 0)))::(GC c s [Hs s])) (Ge []) λG=>B (AQ G AB [(4,.N 7)] λG=>AT ?_)));exact Br G (AH 8) (by show _=BM (AH 8) (Fk c s E);unfold Fk;have h:((Bk c s).pc:Int)=(s.pc+1):=(by rw[(XF O O).1]);have f:((Bk c s).regs:List Int)=(s.regs.set (c.l.getD s.pc.toNat K).a.toNat (s.regs.getD (c.l.getD s.pc.toNat K).d.toNat 0)):=(by rw[(XF O O).1]);have j:((Bk c s).mem.vals:List Int)=(s.mem.vals):=(by rw[(XF O O).1]);have g:((Bk c s).mem.w:List (List Int))=(s.mem.w):=(by rw[(XF O O).1]);rw[h,f,j,g, <-m,(XF O O).2]<;>rfl)
        refine Df G AB [0,0,2,0,0,16,56,120,255,511] [0,1,2,3,4,5,6,8] (JR s::.L 3 (D.C (s.regs.set (c.l.getD s.pc.toNat K).a.toNat (PM c s)))::(GC c s [Hs s])) ((0,.P 0 0)::(Ge [(8,A (s.pc+1))])) (CD ((c.l.getD s.pc.toNat K).c) ((c.l.getD s.pc.toNat K).c.toNat) (J s.regs) (CD ((c.l.getD s.pc.toNat K).a) ((c.l.getD s.pc.toNat K).a.toNat) (J s.regs) [])) (CE O (CE O Ay)) λG=>BL (B (AM G AB (AH 8) (Mq s::.L 3 (D.C (s.regs.set (c.l.getD s.pc.toNat K).a.toNat (PM c s)))::(GC c s [Hs s])) (Ge []) λG=>B (AQ G AB [(4,.N 7)] λG=>AT ?_)));exact Br G (AH 8) (by show _=BM (AH 8) (Fk c s E);unfold Fk;have h:((Bk c s).pc:Int)=(s.pc+1):=(by rw[(Wm O O).1]);have f:((Bk c s).regs:List Int)=(s.regs.set (c.l.getD s.pc.toNat K).a.toNat (s.regs.getD (c.l.getD s.pc.toNat K).c.toNat 0)):=(by rw[(Wm O O).1]);have j:((Bk c s).mem.vals:List Int)=(s.mem.vals):=(by rw[(Wm O O).1]);have g:((Bk c s).mem.w:List (List Int))=(s.mem.w):=(by rw[(Wm O O).1]);rw[h,f,j,g, <-m,(Wm O O).2]<;>rfl)
       have q5:=eq_of_beq L;have e:=P0 (c:=c) (s:=s) (show(c.l.getD s.pc.toNat K).op=6 by omega);have k:=f6 O;refine Ba G _ L (Df G (Ai 15 [] (zC ((c.l.getD s.pc.toNat K).b) (s.regs.getD (c.l.getD s.pc.toNat K).c.toNat 0) (s.regs.getD (c.l.getD s.pc.toNat K).d.toNat 0) (n _) (n _))) [0,0,2,0,8,0,0,64,224,480,0,0,2048,7168,15360,32760,65535,131071] [0,1,2,3,4,5,6,8] (JR s::nP c s::(GC c s [Hs s])) ((0,.P 0 0)::(Ge [(8,A (s.pc+1))])) (CD ((c.l.getD s.pc.toNat K).c) ((c.l.getD s.pc.toNat K).c.toNat) (J s.regs) (CD ((c.l.getD s.pc.toNat K).d) ((c.l.getD s.pc.toNat K).d.toNat) (J s.regs) (CD ((c.l.getD s.pc.toNat K).a) ((c.l.getD s.pc.toNat K).a.toNat) (J s.regs) []))) (CE O (CE O (CE O Ay))) λG=>BL (B (AM G AB (AH 8) (Mq s::nP c s::(GC c s [Hs s])) (Ge []) λG=>B (AQ G AB [(4,.N 7)] λG=>AT ?_))));exact Br G (AH 8) (by show _=BM (AH 8) (Fk c s E);unfold Fk;have h:((Bk c s).pc:Int)=(s.pc+1):=(by rw[e.1]);have f:((Bk c s).regs:List Int)=(s.regs.set (c.l.getD s.pc.toNat K).a.toNat (Hu (c.l.getD s.pc.toNat K).b (s.regs.getD (c.l.getD s.pc.toNat K).c.toNat 0) (s.regs.getD (c.l.getD s.pc.toNat K).d.toNat 0))):=(by rw[e.1]);have j:((Bk c s).mem.vals:List Int)=(s.mem.vals):=(by rw[e.1]);have g:((Bk c s).mem.w:List (List Int))=(s.mem.w):=(by rw[e.1]);rw[h,f,j,g, <-m,e.2]<;>rfl)
      have q4:=eq_of_beq P;have e:=I1 (c:=c) (s:=s) (show(c.l.getD s.pc.toNat K).op=5 by omega);have k:=f5 O;have aC:=tz m5 (i:=(c.l.getD s.pc.toNat K).a) O O;have aG:=dx (n (c.l.getD s.pc.toNat K).b.toNat);refine Ba G _ P (B (Bi G AB [(10,A (SI c s))] (CD ((c.l.getD s.pc.toNat K).b) ((c.l.getD s.pc.toNat K).b.toNat) (J s.regs) []) (CE O Ay) λG=>B (CT G (Ai 4 [] (nk ((c.l.getD s.pc.toNat K).a) (s.regs.getD (c.l.getD s.pc.toNat K).b.toNat 0) O (n _))) [0,1,2,3,4,5,6,7,65] (JR s::.L 3 (D.C s.regs)::(GC c s [VW c s,.L 39 (D.E ([(5,s.pc)]++[]++([(3,(c.l.getD s.pc.toNat K).a*4+(SI c s).tmod 4)]++[])))])) (LP s [(10,A (SI c s))]) [([((5:Int),s.pc)]++[]).length+([((3:Int),(c.l.getD s.pc.toNat K).a*4+(s.regs.getD (c.l.getD s.pc.toNat K).b.toNat (0:Int)).tmod (4:Int))]++[]).length<=(9223372036854775807:Nat),(([((5:Int),s.pc)]++[]).length+([((3:Int),(c.l.getD s.pc.toNat K).a*4+(s.regs.getD (c.l.getD s.pc.toNat K).b.toNat (0:Int)).tmod (4:Int))]++[]).length)*(16:Nat)<=(140737488355328:Nat)] ⟨(by simp),(by simp),Ay⟩ λG=>Df G AB [0,1,3,7,15,0,32,127,255,0,512,0,0,4096,14336,30720,65535,131071] [0,1,2,3,4,5,6,8,73] [.C [A s.pc,.N 1,.N 2,.F 3],.L 3 (D.C s.regs),.L 3 (D.C s.mem.vals),.H 8 (c.l.getD s.pc.toNat K).a.toNat s.mem.w,W c.s,W c.r,Dx c.l,.L 39 (D.E ([(5,s.pc)]++[]++([(3,(c.l.getD s.pc.toNat K).a*4+(s.regs.getD (c.l.getD s.pc.toNat K).b.toNat 0).tmod 4)]++[]))),.L 3 (D.C ((s.mem.w.getD (c.l.getD s.pc.toNat K).a.toNat []).set ((s.regs.getD (c.l.getD s.pc.toNat K).b.toNat 0).tmod 4).toNat (s.regs.getD (c.l.getD s.pc.toNat K).c.toNat 0)))] ((0,.P 0 0)::(Ge [(8,A (s.pc+1))])) (CD ((c.l.getD s.pc.toNat K).a) ((c.l.getD s.pc.toNat K).a.toNat) (J s.mem.w) (((4:Int)≠0)::(CD ((c.l.getD s.pc.toNat K).c) ((c.l.getD s.pc.toNat K).c.toNat) (J s.regs) (CD ((s.regs.getD (c.l.getD s.pc.toNat K).b.toNat (0:Int)).tmod (4:Int)) (((s.regs.getD (c.l.getD s.pc.toNat K).b.toNat (0:Int)).tmod (4:Int)).toNat) ((s.mem.w.getD (c.l.getD s.pc.toNat K).a.toNat []).length) [])))) (CE O ⟨O,(CE O (CE O Ay))⟩) λG=>?_)));replace G:=G.heal 3 8 ((c.l.getD s.pc.toNat K).a.toNat) s.mem.w ((s.mem.w.getD (c.l.getD s.pc.toNat K).a.toNat []).set ((s.regs.getD (c.l.getD s.pc.toNat K).b.toNat 0).tmod 4).toNat (s.regs.getD (c.l.getD s.pc.toNat K).c.toNat 0)) [.C [A s.pc,.N 1,.N 2,.F 3],.L 3 (D.C s.regs),.L 3 (D.C s.mem.vals),.Q (D.L (s.mem.w.set (c.l.getD s.pc.toNat K).a.toNat ((s.mem.w.getD (c.l.getD s.pc.toNat K).a.toNat []).set ((s.regs.getD (c.l.getD s.pc.toNat K).b.toNat 0).tmod 4).toNat (s.regs.getD (c.l.getD s.pc.toNat K).c.toNat 0)))),W c.s,W c.r,Dx c.l,.L 39 (D.E ([(5,s.pc)]++[]++([(3,(c.l.getD s.pc.toNat K).a*4+(s.regs.getD (c.l.getD s.pc.toNat K).b.toNat 0).tmod 4)]++[]))),.E]
      refine BL (B (AM G AB (AH 8) [Mq s,.L 3 (D.C s.regs),.L 3 (D.C s.mem.vals),.Q (D.L (s.mem.w.set (c.l.getD s.pc.toNat K).a.toNat ((s.mem.w.getD (c.l.getD s.pc.toNat K).a.toNat []).set ((SI c s).tmod 4).toNat (PM c s)))),W c.s,W c.r,Dx c.l,.L 39 (D.E ([(5,s.pc)]++[]++([(3,(c.l.getD s.pc.toNat K).a*4+(SI c s).tmod 4)]++[])))] (Ge []) λG=>B (AQ G AB [(4,.N 7)] λG=>AT ?_)));exact Br G (AH 8) (by show _=BM (AH 8) (Fk c s E);unfold Fk;have h:((Bk c s).pc:Int)=(s.pc+1):=(by rw[e.1]);have f:((Bk c s).regs:List Int)=(s.regs):=(by rw[e.1]);have j:((Bk c s).mem.vals:List Int)=(s.mem.vals):=(by rw[e.1]);have g:((Bk c s).mem.w:List (List Int))=(s.mem.w.set (c.l.getD s.pc.toNat K).a.toNat ((s.mem.w.getD (c.l.getD s.pc.toNat K).a.toNat []).set ((s.regs.getD (c.l.getD s.pc.toNat K).b.toNat 0).tmod 4).toNat (s.regs.getD (c.l.getD s.pc.toNat K).c.toNat 0))):=(by rw[e.1]);rw[h,f,j,g, <-m,e.2]<;>rfl)
     have q3:=eq_of_beq q;have e:=K5 (c:=c) (s:=s) (show(c.l.getD s.pc.toNat K).op=4 by omega);have k:=f4 O;have aC:=tz m5 (i:=(c.l.getD s.pc.toNat K).b) O O;have aG:=dx (n (c.l.getD s.pc.toNat K).c.toNat);refine Ba G _ q (B (Bi G AB [(9,A (PM c s))] (CD ((c.l.getD s.pc.toNat K).c) ((c.l.getD s.pc.toNat K).c.toNat) (J s.regs) []) (CE O Ay) λG=>B (CT G (Ai 4 [] (nk ((c.l.getD s.pc.toNat K).b) (s.regs.getD (c.l.getD s.pc.toNat K).c.toNat 0) O (n _))) [0,1,2,3,4,5,6,7,65] (JR s::.L 3 (D.C s.regs)::(GC c s [VW c s,.L 39 (D.E ([(5,s.pc)]++[]++([(2,(c.l.getD s.pc.toNat K).b*4+(PM c s).tmod 4)]++[])))])) (LP s [(9,A (PM c s))]) [([((5:Int),s.pc)]++[]).length+([((2:Int),(c.l.getD s.pc.toNat K).b*4+(s.regs.getD (c.l.getD s.pc.toNat K).c.toNat (0:Int)).tmod (4:Int))]++[]).length<=(9223372036854775807:Nat),(([((5:Int),s.pc)]++[]).length+([((2:Int),(c.l.getD s.pc.toNat K).b*4+(s.regs.getD (c.l.getD s.pc.toNat K).c.toNat (0:Int)).tmod (4:Int))]++[]).length)*(16:Nat)<=(140737488355328:Nat)] ⟨(by simp),(by simp),Ay⟩ λG=>Df G AB [0,0,2,0,8,24,56,120,0,256,1016,2040,0,4096,16376,32760,65535,131071] [0,1,2,3,4,5,6,8,97] [.C [A s.pc,.N 1,.N 2,.F 3],.L 3 (D.C (s.regs.set (c.l.getD s.pc.toNat K).a.toNat ((s.mem.w.getD (c.l.getD s.pc.toNat K).b.toNat []).getD ((s.regs.getD (c.l.getD s.pc.toNat K).c.toNat 0).tmod 4).toNat 0))),.L 3 (D.C s.mem.vals),.H 8 (c.l.getD s.pc.toNat K).b.toNat s.mem.w,W c.s,W c.r,Dx c.l,.L 39 (D.E ([(5,s.pc)]++[]++([(2,(c.l.getD s.pc.toNat K).b*4+(s.regs.getD (c.l.getD s.pc.toNat K).c.toNat 0).tmod 4)]++[]))),.L 3 (D.C (s.mem.w.getD (c.l.getD s.pc.toNat K).b.toNat []))] ((0,.P 0 0)::(Ge [(8,A (s.pc+1))])) (CD ((c.l.getD s.pc.toNat K).b) ((c.l.getD s.pc.toNat K).b.toNat) (J s.mem.w) (((4:Int)≠0)::(CD ((s.regs.getD (c.l.getD s.pc.toNat K).c.toNat (0:Int)).tmod (4:Int)) (((s.regs.getD (c.l.getD s.pc.toNat K).c.toNat (0:Int)).tmod (4:Int)).toNat) ((s.mem.w.getD (c.l.getD s.pc.toNat K).b.toNat []).length) (CD ((c.l.getD s.pc.toNat K).a) ((c.l.getD s.pc.toNat K).a.toNat) (J s.regs) [])))) (CE O ⟨O,(CE O (CE O Ay))⟩) λG=>?_)));replace G:=G.heal0 3 8 ((c.l.getD s.pc.toNat K).b.toNat) s.mem.w (.C [A s.pc,.N 1,.N 2,.F 3]::.L 3 (D.C (s.regs.set (c.l.getD s.pc.toNat K).a.toNat ((s.mem.w.getD (c.l.getD s.pc.toNat K).b.toNat []).getD ((s.regs.getD (c.l.getD s.pc.toNat K).c.toNat 0).tmod 4).toNat 0)))::(GC c s [.L 39 (D.E ([(5,s.pc)]++[]++([(2,(c.l.getD s.pc.toNat K).b*4+(s.regs.getD (c.l.getD s.pc.toNat K).c.toNat 0).tmod 4)]++[]))),.E]))
     refine BL (B (AM G AB (AH 8) (Mq s::.L 3 (D.C (s.regs.set (c.l.getD s.pc.toNat K).a.toNat ((s.mem.w.getD (c.l.getD s.pc.toNat K).b.toNat []).getD ((PM c s).tmod 4).toNat 0)))::(GC c s [.L 39 (D.E ([(5,s.pc)]++[]++([(2,(c.l.getD s.pc.toNat K).b*4+(PM c s).tmod 4)]++[])))])) (Ge []) λG=>B (AQ G AB [(4,.N 7)] λG=>AT ?_)));exact Br G (AH 8) (by show _=BM (AH 8) (Fk c s E);unfold Fk;have h:((Bk c s).pc:Int)=(s.pc+1):=(by rw[e.1]);have f:((Bk c s).regs:List Int)=(s.regs.set (c.l.getD s.pc.toNat K).a.toNat ((s.mem.w.getD (c.l.getD s.pc.toNat K).b.toNat []).getD ((s.regs.getD (c.l.getD s.pc.toNat K).c.toNat 0).tmod 4).toNat 0)):=(by rw[e.1]);have j:((Bk c s).mem.vals:List Int)=(s.mem.vals):=(by rw[e.1]);have g:((Bk c s).mem.w:List (List Int))=(s.mem.w):=(by rw[e.1]);rw[h,f,j,g, <-m,e.2]<;>rfl)
    have q2:=eq_of_beq C;have e:=xJ (c:=c) (s:=s) (show(c.l.getD s.pc.toNat K).op=3 by omega);have k:=f3 O;refine Ba G _ C (Df G AB [0,1,3,7,15,0,32,0,0,256,896,1920,4095,8191] [0,1,2,3,4,5,6,8] [JR s,.L 3 (D.C s.regs),.L 3 (D.C (s.mem.vals.set (c.l.getD s.pc.toNat K).a.toNat (SI c s))),.Q (D.L s.mem.w),W c.s,W c.r,Dx c.l,Hs s] ((0,.P 0 0)::(Ge [(8,A (s.pc+1))])) (CD ((c.l.getD s.pc.toNat K).b) ((c.l.getD s.pc.toNat K).b.toNat) (J s.regs) (CD ((c.l.getD s.pc.toNat K).a) ((c.l.getD s.pc.toNat K).a.toNat) (J s.mem.vals) [])) (CE O (CE O Ay)) λG=>BL (B (AM G AB (AH 8) [Mq s,.L 3 (D.C s.regs),.L 3 (D.C (s.mem.vals.set (c.l.getD s.pc.toNat K).a.toNat (SI c s))),.Q (D.L s.mem.w),W c.s,W c.r,Dx c.l,Hs s] (Ge []) λG=>B (AQ G AB [(4,.N 7)] λG=>AT ?_))));exact Br G (AH 8) (by show _=BM (AH 8) (Fk c s E);unfold Fk;have h:((Bk c s).pc:Int)=(s.pc+1):=(by rw[e.1]);have f:((Bk c s).regs:List Int)=(s.regs):=(by rw[e.1]);have j:((Bk c s).mem.vals:List Int)=(s.mem.vals.set (c.l.getD s.pc.toNat K).a.toNat (s.regs.getD (c.l.getD s.pc.toNat K).b.toNat 0)):=(by rw[e.1]);have g:((Bk c s).mem.w:List (List Int))=(s.mem.w):=(by rw[e.1]);rw[h,f,j,g, <-m,e.2]<;>rfl)
   have q1:=eq_of_beq t;have e:=e6 (c:=c) (s:=s) (show(c.l.getD s.pc.toNat K).op=2 by omega);have k:=f2 O;refine Ba G _ t (Df G AB [0,0,2,0,8,24,56,120,0,256,1016,2040,4095,8191] [0,1,2,3,4,5,6,8] (JR s::.L 3 (D.C (s.regs.set (c.l.getD s.pc.toNat K).a.toNat (s.mem.vals.getD (c.l.getD s.pc.toNat K).b.toNat 0)))::(GC c s [Hs s])) ((0,.P 0 0)::(Ge [(8,A (s.pc+1))])) (CD ((c.l.getD s.pc.toNat K).b) ((c.l.getD s.pc.toNat K).b.toNat) (J s.mem.vals) (CD ((c.l.getD s.pc.toNat K).a) ((c.l.getD s.pc.toNat K).a.toNat) (J s.regs) [])) (CE O (CE O Ay)) λG=>BL (B (AM G AB (AH 8) (Mq s::.L 3 (D.C (s.regs.set (c.l.getD s.pc.toNat K).a.toNat (s.mem.vals.getD (c.l.getD s.pc.toNat K).b.toNat 0)))::(GC c s [Hs s])) (Ge []) λG=>B (AQ G AB [(4,.N 7)] λG=>AT ?_))));exact Br G (AH 8) (by show _=BM (AH 8) (Fk c s E);unfold Fk;have h:((Bk c s).pc:Int)=(s.pc+1):=(by rw[e.1]);have f:((Bk c s).regs:List Int)=(s.regs.set (c.l.getD s.pc.toNat K).a.toNat (s.mem.vals.getD (c.l.getD s.pc.toNat K).b.toNat 0)):=(by rw[e.1]);have j:((Bk c s).mem.vals:List Int)=(s.mem.vals):=(by rw[e.1]);have g:((Bk c s).mem.w:List (List Int))=(s.mem.w):=(by rw[e.1]);rw[h,f,j,g, <-m,e.2]<;>rfl)
  have q0:=eq_of_beq N;have e:=i9 (c:=c) (s:=s) (show(c.l.getD s.pc.toNat K).op=1 by omega);have k:=f1 O;refine Ba G _ N (CT G AB [0,1,2,3,4,5,6,8] (JR s::.L 3 (D.C (s.regs.set (c.l.getD s.pc.toNat K).a.toNat (c.l.getD s.pc.toNat K).b))::(GC c s [Hs s])) ((0,.P 0 0)::(Ge [(8,A (s.pc+1))])) (CD ((c.l.getD s.pc.toNat K).a) ((c.l.getD s.pc.toNat K).a.toNat) (J s.regs) []) (CE O Ay) λG=>BL (B (AM G AB (AH 8) (Mq s::.L 3 (D.C (s.regs.set (c.l.getD s.pc.toNat K).a.toNat (c.l.getD s.pc.toNat K).b))::(GC c s [Hs s])) (Ge []) λG=>B (AQ G AB [(4,.N 7)] λG=>AT ?_))));exact Br G (AH 8) (by show _=BM (AH 8) (Fk c s E);unfold Fk;have h:((Bk c s).pc:Int)=(s.pc+1):=(by rw[e.1]);have f:((Bk c s).regs:List Int)=(s.regs.set (c.l.getD s.pc.toNat K).a.toNat (c.l.getD s.pc.toNat K).b):=(by rw[e.1]);have j:((Bk c s).mem.vals:List Int)=(s.mem.vals):=(by rw[e.1]);have g:((Bk c s).mem.w:List (List Int))=(s.mem.w):=(by rw[e.1]);rw[h,f,j,g, <-m,e.2]<;>rfl)
theorem ae3(c)(s)(a:Bp c=V)(b:Kk c s=V):AN.ok prog ⟨125,[.P 0 0,Ao 4],UJ s++Id c,UJ (Bk c s)++Id c++[.L 39 (.E (FH c s))],.N 7⟩:=U5 c s a b _ rfl
theorem ae6(c):AN.ok prog (CJ 31 [Ao 0] (Id c) (AC (Bp c))):=
 NG λd w a h=>(pv _ c w ⟨a 0,a 1,a 2,rfl,CV.L (h 0 _ rfl),CV.L (h 1 _ rfl),CV.L (h 2 _ rfl)⟩).mono λe b h=>h
abbrev ac0(s:Ex):List AI:=[.L 3 (.C s.regs),.L 3 (.C s.mem.vals),.Q (.L s.mem.w)]
theorem Y2(c:BY)(m):AN.ok prog (CJ 55 [.N 0,.N 1,Hi 2] [W c.s,W c.r,W m.vals,CO m.w] (AC (CI (J c.s) (J c.r) m))):=rU c.s c.r m.vals m.w
theorem G5(l e)(a)(c:J l<=1000000)(b:J e<=1000000):AN.ok prog ⟨85,[A a,.N 2,.P 0 0],[.C [.N 1],.L 39 (.E l),.G (.E e)],[.C [.N 3],.E,.G (.E e),.L 39 (.E (l++e))],.T []⟩:=by
 refine BP 8 func85 [.C [.N 1],.L 39 (D.E l),bh e] [(0,A a),(1,.N 2),(2,.P 0 0)] λG=>?_;refine CT G AB [0,1,2,19] [.C [.N 3],.E,bh e,.L 39 (D.E (l++e))] [] (EP (J l+J e) 16 []) (EW O Ay) λG=>?_;exact Jh G (AH 4)
structure Rl(c:BY)(s:Ex)(n:Nat)(b:Bool):Prop where
 le:n<=20000
 no:∀k,k+1<n->Gp c (CC c s k)=U
 yes:b=V->∃k,n=k+1/\Gp c (CC c s k)=V
 non:b=U->n=20000/\∀k,k<20000->Gp c (CC c s k)=U
theorem wm{c}{s}{n k}{b}(h:Rl c s n b)(f:k<20000)(g:∀j,j<k->Gp c (CC c s j)=U)(e:Gp c (CC c s k)=V):n=k+1/\b=true:=by
 cases b with
 |false=>have:=(h.non rfl).2 k f;rw[e]at this;cases this
 |true=>
  obtain⟨j,i,d⟩:=h.yes rfl;refine⟨?_,rfl⟩;rcases Nat.lt_trichotomy j k with a|a|a
  ·rw[g j a]at d;cases d
  ·omega
  have:=h.no k O;rw[e]at this;cases this
theorem vt{c}{s}{n}{b}(h:Rl c s n b)(d:∀j,j<20000->Gp c (CC c s j)=U):n=20000/\b=false:=by
 cases b with
 |false=>exact⟨(h.non rfl).1,rfl⟩
 |true=>
  obtain⟨j,e,a⟩:=h.yes rfl;have:=d j (by have:=h.le;omega)
  rw[a]at this;cases this
theorem y5{c}{s}(h:(c.l.getD s.pc.toNat K).op=13):Gp c s=true:=decide_eq_true h
theorem W4{c}{s}(h:¬(c.l.getD s.pc.toNat K).op=13):Gp c s=false:=decide_eq_false h
theorem m9{c}{s}{k}(a:∀j,j<k->Gp c (CC c s j)=U)(h:¬(c.l.getD (CC c s k).pc.toNat K).op=13):∀j,j<k+1->Gp c (CC c s j)=false:=by
 intro j b;by_cases e:j=k
 ·subst e;exact W4 h
 exact a j O
theorem TD{c}{s}{n k}{b}(h:Rl c s n b)(a:∀j,j<k->Gp c (CC c s j)=U)(d:k<=20000)(e:20000<=k):CC c s n=CC c s k/\ET c s n=ET c s k/\b=false:=by
 obtain rfl:k=20000:=O;obtain⟨rfl,rfl⟩:=vt h a;exact⟨rfl,rfl,rfl⟩
theorem UW{c}{s}{n k}{b}(h:Rl c s n b)(e:∀j,j<k->Gp c (CC c s j)=U)(d:k<20000)(a:(c.l.getD (CC c s k).pc.toNat K).op=13):CC c s n=Bk c (CC c s k)/\ET c s n=ET c s k++FH c (CC c s k)/\b=true:=by
 obtain⟨rfl,rfl⟩:=wm h d e (y5 a);exact⟨rfl,rfl,rfl⟩
abbrev ZJ(c:BY)(s:Ex)(n:Nat):List AI:=[.C [A (CC c s n).pc,.N 1,.N 2,.F 3],.L 3 (D.C (CC c s n).regs),.L 3 (D.C (CC c s n).mem.vals),.Q (D.L (CC c s n).mem.w),W c.s,W c.r,Dx c.l,.C [.N 9],.E,.L 39 (D.E (ET c s n))]
abbrev St(a:List (Nat×AA)):List (Nat×AA):=(1,.P 0 0)::(2,.fn 85 [.P 7 0])::(3,.P 9 0)::(6,AC U)::a
abbrev fT(c:BY)(s:Ex)(a:List AI):List AI:=.C [A s.pc,.N 1,.N 2,.F 3]::.L 3 (D.C s.regs)::.L 3 (D.C s.mem.vals)::.Q (D.L s.mem.w)::W c.s::W c.r::Dx c.l::a
theorem tc(c)(s)(n)(b)(p:Bp c=V)(o:Kk c s=V)(e:Rl c s n b):AN.ok prog ⟨84,[Ao 4,.P 0 0,.fn 85 [.P 7 0]],UJ s++Id c++[.C [.N 8],.L 39 (.E [])],UJ (CC c s n)++Id c++[.C [.N 9],.E,.L 39 (.E (ET c s n))],AC b⟩:=by
  refine BP 28 func84 (fT c s [.C [.N 8],.L 39 (D.E [])]) [(0,Ao 4),(1,.P 0 0),(2,.fn 85 [.P 7 0])] λG=>?_;refine B (AM G AB (AH 10) (fT c s [.C [.N 8],.L 39 (D.E []),.C (Al 4)]) (St []) λG=>B (B (BS G AB (St [(8,A 0)]) λG=>BN ?_)));obtain⟨t,G⟩:=G.shift 8 10 (fT c s [.C [.N 10],.E,.C (Al 4),.L 39 (D.E [])]) (St [(8,A 0)]);refine DR (h:=Nat) (λk=>k<=20000/\∀j,j<k->Gp c (CC c s j)=U) (λk=>20000-k) (λk=>[.C [A (CC c s k).pc,.N 1,.N 2,.F 3],.L 3 (.C (CC c s k).regs),.L 3 (.C (CC c s k).mem.vals),.Q (.L (CC c s k).mem.w),W c.s,W c.r,Dx c.l,.C [.N 10],.E,.C (Al 4),.L 39 (.E (ET c s k))]) (λk=>(St [(8,A k)])) 0 (by simp) (Ap.at G _ _) ?_;clear G;intro k t a w d G;replace G:=Ap.at G [.C [A (CC c s k).pc,.N 1,.N 2,.F 3],.L 3 (D.C (CC c s k).regs),.L 3 (D.C (CC c s k).mem.vals),.Q (D.L (CC c s k).mem.w),W c.s,W c.r,Dx c.l,.C [.N 10],.E,.C (Al 4),.L 39 (D.E (ET c s k))] (St [(8,A k)]);have y:=UU (Vg p o k);have v:=rm c s k;have C:=qo c (CC c s k);refine B (AQ G AB [(9,AC (Y ((k:Int)<20000)))] λG=>B (DZ G (λz u=>?_) λz u=>?_))
  · refine wp_exit (Bd (Bd (DG (B (AM G AB [0,1,2,3,4,5,6,7,8,10] [.C [A (CC c s k).pc,.N 1,.N 2,.F 3],.L 3 (D.C (CC c s k).regs),.L 3 (D.C (CC c s k).mem.vals),.Q (D.L (CC c s k).mem.w),W c.s,W c.r,Dx c.l,.C [.N 9],.E,.L 39 (D.E (ET c s k))] [(6,AC U)] λG=>AT ?_)))));exact BU U G (AH 10) ((TD e d.2 O O).2.2) (by show _=BM (AH 10) (ZJ c s n);unfold ZJ;have m:((CC c s n).pc:Int)=((CC c s k).pc):=(by rw[(TD e d.2 O O).1]);have h:((CC c s n).regs:List Int)=((CC c s k).regs):=(by rw[(TD e d.2 O O).1]);have i:((CC c s n).mem.vals:List Int)=((CC c s k).mem.vals):=(by rw[(TD e d.2 O O).1]);have f:((CC c s n).mem.w:List (List Int))=((CC c s k).mem.w):=(by rw[(TD e d.2 O O).1]);have g:(ET c s n:List (Int×Int))=(ET c s k):=(by rw[(TD e d.2 O O).2.1]);(first|rw[m,h,i,f,g]|simp only[m,h,i,f,g])<;>rfl)
  refine Aq (B (BN (B (AQ G AB [(7,A (CC c s k).pc)] λG=>B (AM G (BH (AX 4 (AH 7) (ae3 c (CC c s k) Ab (Vg p o _)) (AX 5 [7,10,43] (AN.lend (G5 (ET c s k) (FH c (CC c s k)) ((CC c s k).pc) O O) [.no,.no,.L 39]) BG)) Ag []) [0,1,2,3,4,5,6,7,8,9,51] [.C [A (Bk c (CC c s k)).pc,.N 1,.N 2,.F 3],.L 3 (D.C (Bk c (CC c s k)).regs),.L 3 (D.C (Bk c (CC c s k)).mem.vals),.Q (D.L (Bk c (CC c s k)).mem.w),W c.s,W c.r,Dx c.l,.C [.N 10],.E,.C (Al 4),.L 39 (D.E (ET c s k++FH c (CC c s k)))] (St [(7,A (CC c s k).pc),(8,A k)]) λG=>B (Bi G AB [(26,AC ((c.l.getD (CC c s k).pc.toNat K).op==13))] (CD ((CC c s k).pc) ((CC c s k).pc.toNat) (J c.l) []) (CE O Ay) λG=>Cu G (λx q=>?_) λx q=>?_))))))
  · refine Aq (BL (Bi G AB [(8,A ((k:Int)+1))] [BC ((k:Int)+1)] (BA O) λG=>?_));exact Ce G (k+1) (⟨O,m9 d.2 O⟩) O (AH 11)
  refine B (AQ G AB [(6,AC V)] λG=>AT (Cg (Ar (Ar (Cg (Ar ?_))))));exact BU V G [0,1,2,3,4,5,6,7,8,10] ((UW e d.2 O AY).2.2) (by show _=BM [0,1,2,3,4,5,6,7,8,10] (ZJ c s n);unfold ZJ;have m:((CC c s n).pc:Int)=((Bk c (CC c s k)).pc):=(by rw[(UW e d.2 O AY).1]);have h:((CC c s n).regs:List Int)=((Bk c (CC c s k)).regs):=(by rw[(UW e d.2 O AY).1]);have i:((CC c s n).mem.vals:List Int)=((Bk c (CC c s k)).mem.vals):=(by rw[(UW e d.2 O AY).1]);have f:((CC c s n).mem.w:List (List Int))=((Bk c (CC c s k)).mem.w):=(by rw[(UW e d.2 O AY).1]);have g:(ET c s n:List (Int×Int))=(ET c s k++FH c (CC c s k)):=(by rw[(UW e d.2 O AY).2.1]);(first|rw[m,h,i,f,g]|simp only[m,h,i,f,g])<;>rfl)
theorem Q3(m)(b:J m.vals<=1048576)(c:J m.w<=1048576)(d:∀r∈m.w,J r<=1048576):AN.ok prog ⟨124,[Hi 0],Fs m,Fs m++[.L 3 (.C (Ac 14 0)),.L 3 (.C m.vals),.Q (.L m.w)],.agg [A 0,.N 2,.N 3,.F 4]⟩:=by
 have a:=ac9 m b c d;refine BP 7 func124 [W m.vals,CO m.w] [(0,.agg [.N 0,.N 1])] λG=>?_;refine B (AM G AB [0,1,2,10] [W m.vals,CO m.w,.C [.N 0,.N 1],.C [A 0,AK,AK,AK]] [(1,.P 2 0),(2,.P 3 0)] λG=>B (Df G (Ai 2 [0,1] a) [0,0,2,7,15] [0,1,3,4,20,21] [W m.vals,CO m.w,.C [A 0,.N 3,.N 4,.F 5],.L 3 (D.C (Ac (Int.toNat 14) 0)),.L 3 (D.C m.vals),.Q (D.L m.w)] [(2,.P 2 0)] [(14:Int)=14,(0:Int)<=14,(↑(8:Nat):Int)*14<=281474976710656,(14:Int)<=9223372036854775807,((.int .i64 (0:Int)):Value)=(.int .i64 (0:Int))] ⟨Au,O,O,O,Au,Ay⟩ λG=>AT ?_));exact Br G [0,1,3,4,5]
def Mp(c:BY)(m:DJ):Ex:=if(Bp c&&CI (J c.s) (J c.r) m)=V then DV m else⟨0,[],⟨[],[]⟩⟩
theorem cn{c}{m}(h:Bp c=U):Mp c m=⟨0,[],⟨[],[]⟩⟩/\(Bp c&&CI (J c.s) (J c.r) m)=false:=by
 have:(Bp c&&CI (J c.s) (J c.r) m)=false:=by rw[h];rfl
 exact⟨by unfold Mp;rw[this];rfl,this⟩
theorem XR{c}{m}(h:CI (J c.s) (J c.r) m=U):Mp c m=⟨0,[],⟨[],[]⟩⟩/\(Bp c&&CI (J c.s) (J c.r) m)=false:=by
 have:(Bp c&&CI (J c.s) (J c.r) m)=false:=by rw[h];simp
 exact⟨by unfold Mp;rw[this];rfl,this⟩
theorem Sx{c}{m}(h:Bp c=V)(a:CI (J c.s) (J c.r) m=V):Mp c m=DV m/\(Bp c&&CI (J c.s) (J c.r) m)=true:=by
 have:(Bp c&&CI (J c.s) (J c.r) m)=true:=by rw[h,a];rfl
 exact⟨by unfold Mp;rw[this];rfl,this⟩
abbrev UH(c:BY)(m:DJ)(T:Ex):List AI:=[W c.s,W c.r,Dx c.l,W m.vals,CO m.w,.L 3 (D.C T.regs),.L 3 (D.C T.mem.vals),.Q (D.L T.mem.w)]
abbrev dg:AI:=.C [A 0,.v (.slice I 0 0),.v (.slice I 0 0),.v (.slice I 0 0)]
abbrev QF(c:BY)(m:DJ)(a:List AI):List AI:=W c.s::W c.r::Dx c.l::W m.vals::CO m.w::.C [.N 3,.N 4]::a
abbrev Oc(a:List (Nat×AA)):List (Nat×AA):=(3,.P 5 0)::(4,.P 6 0)::(5,AC U)::a
theorem gS(c)(m)(T)(d:Mp c m=T)(t:J m.vals<=1048576)(q:J m.w<=1048576)(p:∀r∈m.w,J r<=1048576):AN.ok prog ⟨83,[Ao 0,Hi 3],Id c++Fs m,Id c++Fs m++ac0 T,.T [.agg [A T.pc,.N 5,.N 6,.F 7],AC (Bp c&&CI (J c.s) (J c.r) m)]⟩:=by
  have g:=ae6 c;have n:=Y2 c m;have o:=Q3 m t q p;refine BP 21 func83 [W c.s,W c.r,Dx c.l,W m.vals,CO m.w] [(0,Ao 0),(1,.agg [.N 3,.N 4])] λG=>?_;refine B (AM G AB [0,1,2,3,4,5,13,21] [W c.s,W c.r,Dx c.l,W m.vals,CO m.w,.C (Al 0),.C [.N 3,.N 4],dg] [(2,.P 5 0),(3,.P 6 0),(4,.P 7 0),(5,AC U)] λG=>B (B ?_));cases j:(!Bp c)
  ·
   have h:(Bp c)=true:=(Eq.mp (Cp _) j);refine AM G (BH (AX 1 [0,1,2] g (AX 9 [0,1,3,4] n BG)) (AS j Ag) (Ad [(4,10,0),(1011,1011,0)])) [0,1,2,3,4,6,7] (QF c m [dg]) (Oc [(17,.v (.bool !CI (J c.s) (J c.r) m))]) λG=>?_;cases i:(!CI (J c.s) (J c.r) m)
   · have k:(CI (J c.s) (J c.r) m)=true:=(Eq.mp (Cp _) i);refine Bo G _ i (Aq (B (AM G (Ai 1 [3,4] o) [0,1,2,3,4,6,15,16,17] [W c.s,W c.r,Dx c.l,W m.vals,CO m.w,.C [A 0,.N 6,.N 7,.F 8],.L 3 (D.C (Ac 14 0)),.L 3 (D.C m.vals),.Q (D.L m.w)] [(4,.P 5 0),(5,AC V)] λG=>AT ?_)));exact Cr (.T [.agg [A 0,.N 6,.N 7,.F 8],AC V]) G [0,1,2,3,4,6,7,8] (by have b:(T.pc:Int)=(0):=(by rw[<-d,(Sx AY AY).1];rfl);have a:(Bp c&&CI (J c.s) (J c.r) m:Bool)=(V):=(by simp[h,k]);(first|rw[b,a]|simp only[b,a])<;>rfl) (by show _=BM [0,1,2,3,4,6,7,8] (UH c m T);unfold UH;rw[<-d,(Sx AY AY).1]<;>rfl)
   have k:(CI (J c.s) (J c.r) m)=false:=(Eq.mp (Cn _) i);refine Ba G _ i (B (BS G AB (Oc []) λG=>AT (Ar ?_)));obtain⟨e,G⟩:=G.nil 7 3 (.C []) 1 (QF c m [.C [A 0,.N 7,AK,AK]]) (Oc []);obtain⟨e,G⟩:=G.nil 8 3 (.C []) 1 (QF c m [.C [A 0,.N 7,.N 8,AK],.L 3 (D.C [])]) (Oc []);obtain⟨e,G⟩:=G.nilT 9 (.L []) (QF c m [.C [A 0,.N 7,.N 8,.F 9],.L 3 (D.C []),.L 3 (D.C [])]) (Oc []);exact Cr (.T [.agg [A 0,.N 7,.N 8,.F 9],AC U]) G [0,1,2,3,4,7,8,9] (by have b:(T.pc:Int)=(0):=(by rw[<-d,(XR AY).1]);have a:(Bp c&&CI (J c.s) (J c.r) m:Bool)=(U):=(by simp[h,k]);(first|rw[b,a]|simp only[b,a])<;>rfl) (by show _=BM [0,1,2,3,4,7,8,9] (UH c m T);unfold UH;have b:(T.regs:List Int)=([]):=(by rw[<-d,(XR AY).1]);have a:(T.mem.vals:List Int)=([]):=(by rw[<-d,(XR AY).1]);have f:(T.mem.w:List (List Int))=([]):=(by rw[<-d,(XR AY).1]);(first|rw[b,a,f]|simp only[b,a,f])<;>rfl)
  have h:(Bp c)=false:=(Eq.mp (Cn _) j);refine AM G (BH (AX 1 [0,1,2] g BG) (AS j Ag) (Ad [(4,10,0),(1011,1011,0)])) [0,1,2,3,4,6,7] (QF c m [dg]) (Oc [(17,AC V)]) λG=>Ba G V Au (B (BS G AB (Oc []) λG=>AT (Ar ?_)));obtain⟨e,G⟩:=G.nil 7 3 (.C []) 1 (QF c m [.C [A 0,.N 7,AK,AK]]) (Oc []);obtain⟨e,G⟩:=G.nil 8 3 (.C []) 1 (QF c m [.C [A 0,.N 7,.N 8,AK],.L 3 (D.C [])]) (Oc []);obtain⟨e,G⟩:=G.nilT 9 (.L []) (QF c m [.C [A 0,.N 7,.N 8,.F 9],.L 3 (D.C []),.L 3 (D.C [])]) (Oc []);exact Cr (.T [.agg [A 0,.N 7,.N 8,.F 9],AC U]) G [0,1,2,3,4,7,8,9] (by have b:(T.pc:Int)=(0):=(by rw[<-d,(cn AY).1]);have a:(Bp c&&CI (J c.s) (J c.r) m:Bool)=(U):=(by rw[h];rfl);(first|rw[b,a]|simp only[b,a])<;>rfl) (by show _=BM [0,1,2,3,4,7,8,9] (UH c m T);unfold UH;have b:(T.regs:List Int)=([]):=(by rw[<-d,(cn AY).1]);have a:(T.mem.vals:List Int)=([]):=(by rw[<-d,(cn AY).1]);have f:(T.mem.w:List (List Int))=([]):=(by rw[<-d,(cn AY).1]);(first|rw[b,a,f]|simp only[b,a,f])<;>rfl)
abbrev tp(s:Ex):List AI:=[.C [A s.pc,.N 6,.N 7,.F 8],.L 3 (.C s.regs),.L 3 (.C s.mem.vals),.Q (.L s.mem.w)]
abbrev ep(c:BY)(m:DJ)(a:List AI):List AI:=W c.s::W c.r::Dx c.l::W m.vals::CO m.w::.C (Al 0)::.L 3 (D.C (DV m).regs)::.L 3 (D.C (DV m).mem.vals)::.Q (D.L (DV m).mem.w)::.C [A (DV m).pc,.N 6,.N 7,.F 8]::a
abbrev gx(c:BY)(m:DJ)(a:List (Nat×AA)):List (Nat×AA):=(2,.P 5 0)::(4,.v (.pointer I))::(5,.v (.slice I 0 0))::(6,AC U)::(7,.P 9 0)::(8,AC (Bp c&&CI (J c.s) (J c.r) m))::a
theorem A5(c)(m)(n)(a:Bp c=V)(e:CI (J c.s) (J c.r) m=V)(j:Rl c (DV m) n V)(h:J m.vals<=1048576)(i:J m.w<=1048576)(g:∀r∈m.w,J r<=1048576):AN.ok prog ⟨37,[Ao 0,Hi 3],Id c++Fs m,Id c++Fs m++tp (CC c (DV m) n)++[.L 39 (.E (ET c (DV m) n))],.T [.P 5 0,.N 9,AC V]⟩:=by
 have f:=gS c m (DV m) (Sx a e).1 h i g;have b:=tc c (DV m) n V a (ax a e) j;refine BP 24 func37 [W c.s,W c.r,Dx c.l,W m.vals,CO m.w] [(0,Ao 0),(1,.agg [.N 3,.N 4])] λG=>?_;have d:(Bp c&&CI (J c.s) (J c.r) m)=true:=(Sx a e).2;refine B (AM G AB [0,1,2,3,4,5,13] [W c.s,W c.r,Dx c.l,W m.vals,CO m.w,.C (Al 0),.C [.N 3,.N 4]] [(2,.P 5 0),(3,.P 6 0),(4,.v (.pointer I)),(5,AK),(6,AC U)] λG=>B (AM G (Ai 2 (AH 5) f) [0,1,2,3,4,5,23,24,25,55] (ep c m []) (gx c m []) λG=>B (B (AQ G AB [(17,.v (.bool !(Bp c&&CI (J c.s) (J c.r) m)))] λG=>Bo G (!(Bp c&&CI (J c.s) (J c.r) m)) (by rw[d];rfl) (Aq (B (AM G AB (AH 11) (ep c m [.C [AK]]) (gx c m [(9,.P 10 0)]) λG=>B ?_)))))));obtain⟨k,G⟩:=G.nil 11 39 (.E []) 6 (ep c m [.C [.N 11]]) (gx c m [(9,.P 10 0)]);refine AM G (Ai 2 [9,6,7,8,0,1,2,10,11] b) [0,1,2,3,4,6,7,8,9,10,28] [W c.s,W c.r,Dx c.l,W m.vals,CO m.w,.L 3 (D.C (CC c (DV m) n).regs),.L 3 (D.C (CC c (DV m) n).mem.vals),.Q (D.L (CC c (DV m) n).mem.w),.C [A (CC c (DV m) n).pc,.N 5,.N 6,.F 7],.C [.N 10],.L 39 (D.E (ET c (DV m) n))] [(4,.v (.pointer I)),(5,AK),(6,AC U),(7,.P 8 0),(8,AC V),(9,.P 9 0)] λG=>B (B (AQ G AB [(22,AC U)] λG=>Bo G U Au (Aq (B (Fr G AB [0,0,3,7] [0,1,2,3,4,5,6,7,8,10] [W c.s,W c.r,Dx c.l,W m.vals,CO m.w,.L 3 (D.C (CC c (DV m) n).regs),.L 3 (D.C (CC c (DV m) n).mem.vals),.Q (D.L (CC c (DV m) n).mem.w),.C [A (CC c (DV m) n).pc,.N 5,.N 6,.F 7],.L 39 (D.E (ET c (DV m) n))] [(4,.P 8 0),(5,.N 9),(6,AC V)] λG=>AT ?_)))));exact Br G [0,1,2,3,4,8,5,6,7,9]
theorem u4(c)(m)(a:(Bp c&&CI (J c.s) (J c.r) m)=U)(f:J m.vals<=1048576)(e:J m.w<=1048576)(d:∀r∈m.w,J r<=1048576):AN.ok prog ⟨37,[Ao 0,Hi 3],Id c++Fs m,Id c++Fs m,.T [.v (.pointer I),AK,AC U]⟩:=by
 have b:=gS c m (Mp c m) rfl f e d;refine BP 24 func37 [W c.s,W c.r,Dx c.l,W m.vals,CO m.w] [(0,Ao 0),(1,.agg [.N 3,.N 4])] λG=>?_;refine B (AM G AB [0,1,2,3,4,5,13] [W c.s,W c.r,Dx c.l,W m.vals,CO m.w,.C (Al 0),.C [.N 3,.N 4]] [(2,.P 5 0),(3,.P 6 0),(4,.v (.pointer I)),(5,AK),(6,AC U)] λG=>B (AM G (Ai 2 (AH 5) b) [0,1,2,3,4,5,23,24,25,55] [W c.s,W c.r,Dx c.l,W m.vals,CO m.w,.C (Al 0),.L 3 (D.C (Mp c m).regs),.L 3 (D.C (Mp c m).mem.vals),.Q (D.L (Mp c m).mem.w),.C [A (Mp c m).pc,.N 6,.N 7,.F 8]] [(2,.P 5 0),(4,.v (.pointer I)),(5,AK),(6,AC U),(7,.P 9 0),(8,AC (Bp c&&CI (J c.s) (J c.r) m))] λG=>B (B (AQ G AB [(17,.v (.bool !(Bp c&&CI (J c.s) (J c.r) m)))] λG=>Ba G (!(Bp c&&CI (J c.s) (J c.r) m)) (by rw[a];rfl) (B (AQ G AB [] λG=>AT (Ar ?_)))))));exact Br G (AH 5)
abbrev kD(c:BY)(m:DJ)(a:List AI):List AI:=W c.s::W c.r::Dx c.l::W m.vals::CO m.w::.C (Al 0)::.L 3 (D.C (DV m).regs)::.L 3 (D.C (DV m).mem.vals)::.Q (D.L (DV m).mem.w)::.C [A (DV m).pc,.N 6,.N 7,.F 8]::a
abbrev fA(c:BY)(m:DJ)(a:List (Nat×AA)):List (Nat×AA):=(2,.P 5 0)::(4,.v (.pointer I))::(5,.v (.slice I 0 0))::(6,AC U)::(7,.P 9 0)::(8,AC (Bp c&&CI (J c.s) (J c.r) m))::a
theorem uZ(c)(m)(a:Bp c=V)(e:CI (J c.s) (J c.r) m=V)(j:Rl c (DV m) 20000 U)(h:J m.vals<=1048576)(i:J m.w<=1048576)(g:∀r∈m.w,J r<=1048576):AN.ok prog ⟨37,[Ao 0,Hi 3],Id c++Fs m,Id c++Fs m,.T [.v (.pointer I),AK,AC U]⟩:=by
 have f:=gS c m (DV m) (Sx a e).1 h i g;have b:=tc c (DV m) 20000 U a (ax a e) j;refine BP 24 func37 [W c.s,W c.r,Dx c.l,W m.vals,CO m.w] [(0,Ao 0),(1,.agg [.N 3,.N 4])] λG=>?_;have d:(Bp c&&CI (J c.s) (J c.r) m)=true:=(Sx a e).2;refine B (AM G AB [0,1,2,3,4,5,13] [W c.s,W c.r,Dx c.l,W m.vals,CO m.w,.C (Al 0),.C [.N 3,.N 4]] [(2,.P 5 0),(3,.P 6 0),(4,.v (.pointer I)),(5,AK),(6,AC U)] λG=>B (AM G (Ai 2 (AH 5) f) [0,1,2,3,4,5,23,24,25,55] (kD c m []) (fA c m []) λG=>B (B (AQ G AB [(17,.v (.bool !(Bp c&&CI (J c.s) (J c.r) m)))] λG=>Bo G (!(Bp c&&CI (J c.s) (J c.r) m)) (by rw[d];rfl) (Aq (B (AM G AB (AH 11) (kD c m [.C [AK]]) (fA c m [(9,.P 10 0)]) λG=>B ?_)))))));obtain⟨k,G⟩:=G.nil 11 39 (.E []) 6 (kD c m [.C [.N 11]]) (fA c m [(9,.P 10 0)]);refine AM G (Ai 2 [9,6,7,8,0,1,2,10,11] b) [0,1,2,3,4,6,7,8,9,10,28] [W c.s,W c.r,Dx c.l,W m.vals,CO m.w,.L 3 (D.C (CC c (DV m) 20000).regs),.L 3 (D.C (CC c (DV m) 20000).mem.vals),.Q (D.L (CC c (DV m) 20000).mem.w),.C [A (CC c (DV m) 20000).pc,.N 5,.N 6,.F 7],.C [.N 10],.L 39 (D.E (ET c (DV m) 20000))] [(4,.v (.pointer I)),(5,AK),(6,AC U),(7,.P 8 0),(8,AC U),(9,.P 9 0)] λG=>B (B (AQ G AB [(22,AC V)] λG=>Ba G V Au (B (AQ G AB [] λG=>AT (Ar ?_)))));exact Br G (AH 5)
abbrev Vp(c:BY)(m x:DJ)(v:List (Int×Int))(b:Bool):AN:=⟨10,[Ao 0,Hi 3],Id c++Fs m,Id c++Fs m++af x++[.L 39 (.E v)],.T [VL 5,.N 7,AC b]⟩
theorem N6(c)(m)(s)(v)(a:AN.ok prog ⟨37,[Ao 0,Hi 3],Id c++Fs m,Id c++Fs m++tp s++[.L 39 (.E v)],.T [.P 5 0,.N 9,AC V]⟩):AN.ok prog (Vp c m s.mem v V):=by
 have b:=a;refine BP 25 func10 [W c.s,W c.r,Dx c.l,W m.vals,CO m.w] [(0,Ao 0),(1,.agg [.N 3,.N 4])] λG=>?_;refine B (AM G AB [0,1,2,3,4,5,13,21] [W c.s,W c.r,Dx c.l,W m.vals,CO m.w,.C (Al 0),.C [.N 3,.N 4],.C [AK,AK]] [(2,.P 5 0),(3,.P 6 0),(4,.P 7 0),(5,AK),(6,AC U)] λG=>B (AM G (Ai 2 (AH 5) b) [0,1,2,3,4,7,24,25,26,27,28] [W c.s,W c.r,Dx c.l,W m.vals,CO m.w,.C [AK,AK],.C [A s.pc,.N 7,.N 8,.F 9],.L 3 (D.C s.regs),.L 3 (D.C s.mem.vals),.Q (D.L s.mem.w),.L 39 (D.E v)] [(4,.P 5 0),(5,AK),(6,AC U),(7,.P 6 0),(8,.N 10),(9,AC V)] λG=>B (B (AQ G AB [(18,AC U)] λG=>Bo G U Au (Aq (B (AM G AB [0,1,2,3,4,5,8,9,10] [W c.s,W c.r,Dx c.l,W m.vals,CO m.w,.C [.N 6,.F 7],.L 3 (D.C s.mem.vals),.Q (D.L s.mem.w),.L 39 (D.E v)] [(4,.P 5 0),(5,.N 8),(6,AC V)] λG=>AT ?_)))))));exact Br G [0,1,2,3,4,6,7,8]
abbrev Yt(a:List (Nat×AA)):List (Nat×AA):=(4,.P 5 0)::(5,.v (.slice I 0 0))::(6,AC U)::(7,.v (.pointer I))::(8,.v (.slice I 0 0))::a
theorem nt(c)(m)(a:AN.ok prog ⟨37,[Ao 0,Hi 3],Id c++Fs m,Id c++Fs m,.T [.v (.pointer I),AK,AC U]⟩):AN.ok prog (Vp c m ⟨[],[]⟩ [] U):=by
 have b:=a;refine BP 25 func10 [W c.s,W c.r,Dx c.l,W m.vals,CO m.w] [(0,Ao 0),(1,.agg [.N 3,.N 4])] λG=>?_;refine B (AM G AB [0,1,2,3,4,5,13,21] [W c.s,W c.r,Dx c.l,W m.vals,CO m.w,.C (Al 0),.C [.N 3,.N 4],.C [AK,AK]] [(2,.P 5 0),(3,.P 6 0),(4,.P 7 0),(5,AK),(6,AC U)] λG=>B (AM G (Ai 2 (AH 5) b) [0,1,2,3,4,7] [W c.s,W c.r,Dx c.l,W m.vals,CO m.w,.C [AK,AK]] (Yt [(9,AC U)]) λG=>B (B (AQ G AB [(18,AC V)] λG=>Ba G V Au (B (BS G AB (Yt []) λG=>AT (Ar ?_)))))));obtain⟨d,G⟩:=G.nil 6 3 (.C []) 1 [W c.s,W c.r,Dx c.l,W m.vals,CO m.w,.C [.N 6,AK]] (Yt []);obtain⟨d,G⟩:=G.nilT 7 (.L []) [W c.s,W c.r,Dx c.l,W m.vals,CO m.w,.C [.N 6,.F 7],.L 3 (D.C [])] (Yt []);obtain⟨d,G⟩:=G.nil 8 39 (.E []) 6 [W c.s,W c.r,Dx c.l,W m.vals,CO m.w,.C [.N 6,.F 7],.L 3 (D.C []),.Q (D.L [])] [(4,.P 5 0),(5,.N 8),(6,AC U),(7,.v (.pointer I)),(8,AK)];exact Br G [0,1,2,3,4,6,7,8]
def jR(c:BY)(m x:DJ)(v:List (Int×Int))(b:Bool):Prop:=
 (b=V/\Bp c=V/\CI (J c.s) (J c.r) m=V/\∃n,Ob c m n/\x=zo c m n/\v=KN c m n)\/
 (b=U/\x=⟨[],[]⟩/\v=[]/\∀n,¬(Bp c=V/\CI (J c.s) (J c.r) m=V/\Ob c m n))
theorem ny(c)(m)(i:J m.vals<=1048576)(f:J m.w<=1048576)(d:∀r∈m.w,J r<=1048576):∃x v b,jR c m x v b/\AN.ok prog (Vp c m x v b):=by
 cases a:(Bp c&&CI (J c.s) (J c.r) m)with
 |false=>
  refine⟨_,_,_,.inr ⟨rfl,rfl,rfl,λn h=>?_⟩,nt c m (u4 c m a i f d)⟩
  rw[h.1,h.2.1]at a;cases a
 | true =>
  rw[Aj]at a;obtain⟨j,g⟩:=a;rcases I6 c m with⟨n,h⟩|h
  ·refine⟨_,_,_,.inl ⟨rfl,j,g,n,h,rfl,rfl⟩,N6 c m (CC c (DV m) (n+1)) _ (A5 c m (n+1) j g ⟨?_,λk o=>?_,λ_=>⟨n,rfl,h.fin⟩,λe=>by cases e⟩ i f d)⟩
   ·have:=h.lt;omega
   exact h.no k O
  refine⟨_,_,_,.inr ⟨rfl,rfl,rfl,λn l=>?_⟩,nt c m (uZ c m j g ⟨BR _,λk o=>h k O,(λe=>by cases e),λ_=>⟨rfl,h⟩⟩ i f d)⟩
  have:=h n l.2.2.lt;rw[l.2.2.fin]at this;cases this
def GK(p q:BE):Bool:=BZ p&&(BZ q&&(Y (J p.s<=J q.s)&&(Y (p.s=q.s.take (J p.s))&&Y (p.r=q.r))))
def hX(p q:BE)(m:DJ):DJ:=if GK p q=V/\CI (J q.s) (J q.r) m=V then⟨(m.vals.take (J p.s)).drop 0,m.w⟩else⟨[],[]⟩
def fm(p q:BE)(m:DJ):Bool:=GK p q&&CI (J q.s) (J q.r) m
def Ha(p q:BE)(m:DJ):DJ:=if GK p q=V/\CI (J p.s) (J p.r) m=V then⟨m.vals++Ac (J q.s-J m.vals) 0,m.w⟩else⟨[],[]⟩
def KO(p q:BE)(m:DJ):Bool:=GK p q&&CI (J p.s) (J p.r) m
section
variable{p q:BE}{m:DJ}
theorem nw(h:GK p q=V)(a:CI (J q.s) (J q.r) m=V):hX p q m=⟨(m.vals.take (J p.s)).drop 0,m.w⟩/\fm p q m=true:=by unfold hX fm;exact⟨AZ ⟨h,a⟩,by rw[h,a];rfl⟩
theorem tN(h:GK p q=U):Ha p q m=⟨[],[]⟩/\KO p q m=false:=by unfold Ha KO;rw[h];exact⟨AO At,rfl⟩
theorem po(h:CI (J p.s) (J p.r) m=U):Ha p q m=⟨[],[]⟩/\KO p q m=false:=by unfold Ha KO;rw[h];exact⟨AO At,At⟩
theorem Qe(h:GK p q=V)(a:CI (J p.s) (J p.r) m=V):Ha p q m=⟨m.vals++Ac (J q.s-J m.vals) 0,m.w⟩/\KO p q m=true:=by unfold Ha KO;exact⟨AZ ⟨h,a⟩,by rw[h,a];rfl⟩
theorem go(h:GK p q=V):BZ p=V/\BZ q=V/\(J p.s)<=J q.s/\p.r=q.r:=by
 unfold GK at h;simp only[Aj,decide_eq_true_eq]at h;exact⟨h.1,h.2.1,h.2.2.1,h.2.2.2.2⟩
theorem vY{l}{n}(h:EN l=V):EN (l++Ac n 0)=true:=by
 unfold EN at h ⊢;rw[List.all_append,h,List.all_replicate];simp
theorem pa(h:KO p q m=V):GK p q=V/\BZ q=V/\CI (J q.s) (J q.r) (Ha p q m)=V/\fm p q (Ha p q m)=V/\hX p q (Ha p q m)=m:=by
 unfold KO at h;rw[Aj]at h;obtain⟨e,f⟩:=h;obtain⟨a,b,c,d⟩:=go e;obtain⟨g,l,k,j⟩:=KQ f
 have i:CI (J q.s) (J q.r) (Ha p q m)=true:=by
  rw[(Qe e f).1];unfold CI;rw[vY k,j, <-d];simp[g,l,c]
 refine⟨e,b,i,(nw e i).2,?_⟩;rw[(nw e i).1,(Qe e f).1];obtain⟨o,n⟩:=m;simp only at g;simp[<-g]
end
def Iz(a:Int)(l:Int):Bool:= !(Lm l a==0)
section
variable{bit:Int}{p:BE}{m:DJ}
theorem wG(h:m.w.all Hh=V){i}(a:i<J m.w):(m.w.getD i []).length=4:=by
 have:=Bt.1 h (m.w.getD i []) (by rw[DU a];exact EL a)
 unfold Hh at this;simp only[Aj,decide_eq_true_eq]at this;exact this.1
end
theorem E4:∀x:Fin 4,Iz 1 x.val=Y ((x.val:Int)%2=1):=by decide+kernel
theorem P2{l}(h:Af l=V):(Af l&&Y (l%2=1))=Iz 1 l:=by
 unfold Af at h ⊢;simp only[Aj,decide_eq_true_eq]at h;obtain⟨x,rfl⟩:∃x:Fin 4,l=(x.val:Int):=⟨⟨l.toNat,O⟩,by show l=(l.toNat:Int);omega⟩
 rw[E4,decide_eq_true h.1,decide_eq_true h.2];rfl
section
variable{ls xs:List Int}{rs:List (List Int)}{k:Nat}{b:Bool}
end
theorem Zj{a l}(h:¬Lm l a=0):Iz a l=true:=by unfold Iz;rw[beq_eq_false_iff_ne.2 h];rfl
theorem co{a l}(h:Lm l a=0):Iz a l=false:=by unfold Iz;rw[h];rfl
def Bj(b:List UInt8)(a:Int)(d:List Int)(j:Int)(c:List Int):Nat->List Int×Int
 |0=>(c,j)
 |k+1=>if Iz a (d.getD k 0)=V then((Bj b a d j c k).1.set k (AU b (Bj b a d j c k).2 Gu),(Bj b a d j c k).2+1)else Bj b a d j c k
theorem Sz(b)(a)(d)(j)(c):∀k,(Bj b a d j c k).1.length=J c/\j<=(Bj b a d j c k).2/\(Bj b a d j c k).2<=j+k
 |0=>⟨rfl,Int.le_refl _,by simp[Bj]⟩
 |k+1=>by
  have h:=Sz b a d j c k;rw[Bj];split
  ·refine⟨by simp[h.1],?_,?_⟩<;>dsimp only<;>omega
  omega
theorem sP{b}{a}{c}{j}{d}{k}(h:Iz a (c.getD k 0)=V):Bj b a c j d (k+1)=((Bj b a c j d k).1.set k (AU b (Bj b a c j d k).2 Gu),(Bj b a c j d k).2+1):=by rw[Bj,AZ h]
theorem tR{b}{a}{c}{j}{d}{k}(h:Iz a (c.getD k 0)=U):Bj b a c j d (k+1)=Bj b a c j d k:=by rw[Bj,AO (by rw[h];decide)]
theorem lI(b)(a)(d)(j)(c)(i)(h:Iz a (d.getD i 0)=U):∀k,(Bj b a d j c k).1.getD i 0=c.getD i 0
 |0=>rfl
 | k + 1 => by
  have g:=lI b a d j c i h k;rw[Bj];split
  ·rename_i f
   have:k≠i:=λe=>by rw[e,h]at f;cases f
   dsimp only;rw[Bu,List.getElem?_set_ne this, <-Bu];exact g
  exact g
theorem jV(b)(a)(i){j:Int}(c)(e:EN c=V)(f:0<=j):∀k:Nat,j+k<=1000000000->EN (Bj b a i j c k).1=V
 |0,_=>e
 | k + 1, m => by
  have d:=jV b a i c e f k O;have n:=Sz b a i j c k;rw[Bj];split
  ·unfold EN at d ⊢
   rw[Bt]at d ⊢;intro x e;rcases List.mem_or_eq_of_mem_set e with h|h
   ·exact d x h
   subst h;exact va_in b O O
  exact d
where
 va_in (b:List UInt8) {j:Int} (f:0<=j) (m:j<=1000000000):(Y (0<=AU b j Gu)&&Y (AU b j Gu<=255))=true:=by
  have h:=Vy b f m (l:=Gu) (List.cons_ne_nil _ _);have g:∀x∈Gu,(Y (0<=x)&&Y (x<=255))=true:=ED;exact g _ h
theorem uR(b){j}(c:0<=j)(a:j<=1000000000):(Y (0<=AU b j Gu)&&Y (AU b j Gu<=255))=true:=jV.va_in b c a
theorem fU(b){j:Int}(d:0<=j)(n:Nat)(e:j+n<=1000000000):EN (Eh b j n)=true:=by
 unfold EN;rw[Bt];intro x c;unfold Eh at c;obtain⟨i,a,rfl⟩:=List.mem_map.1 c;have a:=GW.1 a;exact uR b O O
def FI(b:List UInt8)(a:Int)(d:List Int)(j:Int)(c:List (List Int)):Nat->List (List Int)×Int
 |0=>(c,j)
 |i+1=>if Iz a (d.getD i 0)=V then((FI b a d j c i).1.set i (Eh b (FI b a d j c i).2 4),(FI b a d j c i).2+4)else FI b a d j c i
theorem Sg(b)(a)(d)(j)(c):∀k,(FI b a d j c k).1.length=J c/\j<=(FI b a d j c k).2/\(FI b a d j c k).2<=j+4*k
 |0=>⟨rfl,Int.le_refl _,by simp[FI]⟩
 |k+1=>by
  have h:=Sg b a d j c k;rw[FI];split
  ·refine⟨by simp[h.1],?_,?_⟩<;>dsimp only<;>omega
  omega
theorem Zh(b)(a)(d)(j)(c)(i):∀k,k<=i\/Iz a (d.getD i 0)=U->(FI b a d j c k).1.getD i []=c.getD i []
 |0,_=>rfl
 | k + 1, h => by
  have g:=Zh b a d j c i k (h.elim (λh=>.inl O) .inr)
  rw[FI];split
  ·rename_i f
   have:k≠i:=λe=>by
    rcases h with h|h
    ·omega
    rw[e,h]at f;cases f
   dsimp only;rw[Bu,List.getElem?_set_ne this, <-Bu];exact g
  exact g
theorem mq(b)(a)(e){j:Int}(c)(d:c.all Hh=V)(g:0<=j):∀k:Nat,j+4*k<=1000000000->(FI b a e j c k).1.all Hh=V
 |0,_=>d
 | k + 1, i => by
  have f:=mq b a e c d g k O;have l:=Sg b a e j c k;rw[FI];split
  ·rw[Bt]at f ⊢
   intro x d;rcases List.mem_or_eq_of_mem_set d with h|h
   ·exact f x h
   subst h;unfold Hh;rw[Sf,fU b O 4 O];rfl
  exact f
def Cq(b:List UInt8)(a:Int)(d:List Int)(j:Int)(c:List (List Int))(i k:Nat):List (List Int)×Int:=
 if Iz a (d.getD i 0)=V then((FI b a d j c i).1.set i (Eh b (FI b a d j c i).2 k++(c.getD i []).drop k),(FI b a d j c i).2+k)else FI b a d j c i
section
variable{b:List UInt8}{bit:Int}{ls:List Int}{j:Int}{rs:List (List Int)}{i k:Nat}
theorem Q6:(Cq b bit ls j rs i k).1.length=J rs/\j<=(Cq b bit ls j rs i k).2/\(Cq b bit ls j rs i k).2<=j+4*i+k:=by
 have h:=Sg b bit ls j rs i;unfold Cq;split
 ·refine⟨by simp[h.1],?_,?_⟩<;>dsimp only<;>omega
 omega
theorem mf(c:i<J rs):Cq b bit ls j rs i 0=FI b bit ls j rs i:=by
 have h:=Sg b bit ls j rs i;have a:=Zh b bit ls j rs i i (.inl (BR _));unfold Cq;split
 ·rw[Y3,List.nil_append,List.drop_zero, <-a,DU O]
  rw[List.set_getElem_self];simp
 rfl
theorem tA(a:i<J rs):(Cq b bit ls j rs i k).1.getD i []=if Iz bit (ls.getD i 0)=V then Eh b (FI b bit ls j rs i).2 k++(rs.getD i []).drop k else rs.getD i []:=by
 have h:=Sg b bit ls j rs i;unfold Cq;split
 ·dsimp only
  rw[Bu,List.getElem?_set_self O];rfl
 exact Zh b bit ls j rs i i (.inl (BR _))
theorem yL(a:i<J rs)(c:(rs.getD i []).length=4)(d:k<=4):((Cq b bit ls j rs i k).1.getD i []).length=4:=by
 rw[tA a];split
 ·simp only[Az,Sf,List.length_drop];omega
 exact c
theorem qQ(c:i<J rs)(f:(rs.getD i []).length=4)(e:k<4)(h:Iz bit (ls.getD i 0)=V):Cq b bit ls j rs i (k+1)=((Cq b bit ls j rs i k).1.set i (((Cq b bit ls j rs i k).1.getD i []).set k (AU b (Cq b bit ls j rs i k).2 Gu)),(Cq b bit ls j rs i k).2+1):=by
 rw[tA c,AZ h];unfold Cq;rw[AZ h,AZ h];dsimp only;rw[List.set_set,mk_set' (Sf _ _ _) O,fz];exact Prod.ext rfl (by dsimp only;omega)
where
 mk_set' {l m:List Int} {j:Nat} {y:Int} (a:J l=j) (d:j<J m):(l++m.drop j).set j y=(l++[y])++m.drop (j+1):=by
  rw[List.set_append_right _ _ O,a,Nat.sub_self,List.drop_eq_getElem_cons d,List.set_cons_zero,Fj];rfl
theorem nh(h:Iz bit (ls.getD i 0)=U):Cq b bit ls j rs i (k+1)=Cq b bit ls j rs i k:=by
 unfold Cq;rw[AO (by rw[h];decide),AO (by rw[h];decide)]
theorem tE(a:i<J rs)(c:(rs.getD i []).length=4):Cq b bit ls j rs i 4=FI b bit ls j rs (i+1):=by
 unfold Cq;rw[FI];split
 ·rw[List.drop_eq_nil_of_le O,II];rfl
 rfl
end
def MY(b:List UInt8)(a:Int)(p:BE)(m:DJ)(j:Int):DJ×Int:=
 (⟨(Bj b a p.s j m.vals (J m.vals)).1,(FI b a p.r (Bj b a p.s j m.vals (J m.vals)).2 m.w (J m.w)).1⟩,(FI b a p.r (Bj b a p.s j m.vals (J m.vals)).2 m.w (J m.w)).2)
structure Xf(vs ars:List Int)(a b:DJ):Prop where
 v:∀i:Nat,Iz 1 (vs.getD i 0)=U->a.vals.getD i 0=b.vals.getD i 0
 a:∀i:Nat,Iz 1 (ars.getD i 0)=U->a.w.getD i []=b.w.getD i []
theorem xR(b:List UInt8)(p:BE)(m:DJ)(j:Int):Xf p.s p.r m (MY b 1 p m j).1 where
 v i h:=(lI b 1 p.s j m.vals i h _).symm
 a i h:=(Zh b 1 p.r _ m.w i _ (.inr h)).symm
theorem wi(b){a}(p)(m){j:Int}(f:J m.vals=J p.s)(h:J m.w=J p.r)(i:EN m.vals=V)(c:m.w.all Hh=V)(e:0<=j)(k:j+J m.vals+4*J m.w<=1000000000):CI (J p.s) (J p.r) (MY b a p m j).1=true:=by
 have d:=Sz b a p.s j m.vals (J m.vals);have g:=Sg b a p.r (Bj b a p.s j m.vals (J m.vals)).2 m.w (J m.w);unfold CI MY;dsimp only;rw[jV b a p.s m.vals i e _ O,mq b a p.r m.w c O _ O,d.1,g.1,decide_eq_true f,decide_eq_true h];rfl
def GR(l:List AV):Prop:=∀x∈l,x.op≠11
theorem NN{a b}:GR (a++b)↔GR a/\GR b:=by
 unfold GR;constructor
 ·intro h;exact⟨λx c=>h x (DQ.2 (.inl c)),λx c=>h x (DQ.2 (.inr c))⟩
 rintro⟨h,k⟩ x c;rcases DQ.1 c with c|c
 ·exact h x c
 exact k x c
theorem XJ{x}:GR [x]↔x.op≠11:=by simp[GR]
theorem jL{x}{l}:GR (x::l)↔x.op≠11/\GR l:=by simp[GR]
theorem wd{c}(h:GR c.l):GR (FA c).l:=by
 intro x b;obtain⟨y,a,rfl⟩:=List.mem_map.1 b;unfold GY;split
 ·rw[Tn];exact h y a
 exact h y a
theorem kE{c}(h:GR c.l)(i):(DM c i).op≠11:=by
 unfold DM;rw[Bu];cases a:c.l[i]? with
 |none=>simp
 |some x=>exact h x (FF a)
theorem xK{c}(h:GR c.l):GR (IZ c).l:=by
 intro x a;have a:x∈Da c (DK c) (J c.l):=a;unfold Da at a;obtain⟨i,_,b⟩:=List.mem_flatMap.1 a;split at b
 ·have e:x=IU (DK c) (DM c i):=by simpa using b
  subst e;unfold IU;split
  ·rw[Tn];exact kE h i
  exact kE h i
 simp at b
theorem J6{c r}(h:MC c r):GR c.l->GR r.l:=by
 induction h with
 |stop _=>exact λh=>h
 |step _ _ a=>exact λh=>a (xK (wd h))
theorem M0{c r}(h:MC c r):r.s=c.s/\r.r=c.r:=by
 induction h with
 |stop _=>exact⟨rfl,rfl⟩
 |step _ _ a=>exact a
theorem xU(k v r):(Lp k v r).op≠11:=by
 unfold Lp
 (repeat' split)<;>simp
mutual
theorem VV:∀(e:AF) (r:Int),GR (AJ e r)
 |⟨k,v,ks⟩,r=>by
  rw[AJ];split
  ·simp[GR]
  split
  ·simp[GR]
  exact NN.2 ⟨qT ks r,XJ.2 (xU _ _ _)⟩
theorem qT:∀(es:List AF) (r:Int),GR (Bg es r)
 |[],_=>by simp[Bg,GR]
 |e::t,r=>by rw[Bg];exact NN.2 ⟨VV e r,qT t (r+1)⟩
end
mutual
theorem xT:∀(s:AG) (d:Int) (o:Nat),(∃n nv na,Ax nv na n s=V/\DX n s=V)->GR (NO s d o)
 | ⟨k, t, i, v, c, b, e⟩, d, o => by
  rintro⟨n,nv,na,hs,hf⟩;cases n with
  |zero=>simp[Ax]at hs
  |succ n=>
   simp only[DX,Aj,decide_eq_true_eq,Bt]at hf;have hb:∀x∈b,Ax nv na n x=true:=Bt.1 (VC hs).1;have he:∀x∈e,Ax nv na n x=true:=Bt.1 (VC hs).2;have kb:∃n nv na,(∀x∈b,Ax nv na n x=V)/\∀x∈b,DX n x=true:=⟨n,nv,na,hb,hf.2.1⟩;have ke:∃n nv na,(∀x∈e,Ax nv na n x=V)/\∀x∈e,DX n x=true:=⟨n,nv,na,he,hf.2.2⟩;rw[NO];split
   ·refine jL.2 ⟨At,NN.2 ⟨VX b _ _ kb,XJ.2 At⟩⟩
   split
   ·exact NN.2 ⟨VV v 0,XJ.2 At⟩
   split
   ·rename_i h5;exact absurd h5 hf.1
   split
   ·exact NN.2 ⟨NN.2 ⟨VV v 0,VV i 1⟩,XJ.2 At⟩
   exact NN.2 ⟨VV v 0,jL.2 ⟨At,NN.2 ⟨VX b _ _ kb,jL.2 ⟨At,VX e _ _ ke⟩⟩⟩⟩
theorem VX:∀(ss:List AG) (d:Int) (o:Nat),(∃n nv na,(∀s∈ss,Ax nv na n s=V)/\∀s∈ss,DX n s=V)->GR (Gs ss d o)
 |[],_,_,_=>by simp[Gs,GR]
 |s::r,d,o,⟨n,nv,na,h1,h2⟩=>by
  rw[Gs];exact NN.2 ⟨xT s d o ⟨n,nv,na,h1 s EI,h2 s EI⟩,VX r d _ ⟨n,nv,na,fun x hx=>h1 x (Ep _ hx),fun x hx=>h2 x (Ep _ hx)⟩⟩
end
theorem aa6{q}(h:KR q=V):BZ q=V/\q.b.all (DX 5)=true:=by
 unfold KR at h;simpa[Aj]using h
theorem n9{q}(h:KR q=V):GR (Ed q).1:=by
 obtain⟨d,a⟩:=aa6 h;unfold Ed;simp only[TX];have c:=(QR d).1;refine NN.2 ⟨NN.2 ⟨by simp[GR],VX q.b _ _ ⟨5,J q.s,J q.r,Bt.1 c,Bt.1 a⟩⟩,XJ.2 At⟩
theorem qt{c}(h:GR c.l)(s):∀n,∀x∈ET c s n,x.1≠4
 |0,x,a=>by simp[ET]at a
 |n+1,x,a=>by
  rw[ET]at a;rcases DQ.1 a with a|a
  ·exact qt h s n x a
  unfold FH at a;rcases Eb.1 a with rfl|a
  ·simp
  have b:=kE h (CC c s n).pc.toNat;have b:(Ho c (CC c s n)).op≠11:=b;unfold EX at a;split at a
  ·simp at a;subst a;simp
  split at a
  ·simp at a;subst a;simp
  first|(rw[AO b]at a;simp at a;done)|(simp at a;done)
theorem dj{c}(h:GR c.l){m}{n}{w}(b:OV (KN c m n) w):False:=by
 obtain⟨p,y,z,q,r,e,a,d⟩:=b;exact qt h (DV m) (n+1) (4,y) (by show _∈KN c m n;rw[a];simp) rfl
theorem pe{l}(h:Af l=V)(a:Dt l=U):Iz 1 l=false:=by
 rw[<-P2 h,h];unfold Dt at a;rw[h]at a;unfold Af at h;simp only[Aj,decide_eq_true_eq]at h;have b:l=0\/l=1\/l=2\/l=3:=O;rcases b with rfl|rfl|rfl|rfl<;>simp at a ⊢
theorem oV{l:List Int}(h:l.all Af=V)(i):Af (l.getD i 0)=true:=by
 rw[Bu];cases a:l[i]? with
 |none=>rfl
 |some x=>exact Bt.1 h x (FF a)
theorem xc{p q}{a b}(g:GK p q=V)(j:CI (J p.s) (J p.r) a=V)(m:CI (J p.s) (J p.r) b=V)(h:Xf p.s p.r a b)(z:q.s.all Af=V)(w:q.r.all Af=V)(c)(u:c.s=q.s)(o:c.r=q.r):Ld c (Ha p q a) (Ha p q b):=by
 rw[(Qe g j).1,(Qe g m).1];obtain⟨k,D,-,-⟩:=KQ j;obtain⟨l,C,-,-⟩:=KQ m;have f:=g;unfold GK at f;simp only[Aj,decide_eq_true_eq]at f;obtain⟨-,-,-,y,t⟩:=f;refine⟨λi d=>?_,λi d=>?_⟩
 ·have d:Dt (q.s.getD i.toNat 0)=false:=by rw[<-u];exact d
  have x:=pe (oV z i.toNat) d;show(a.vals++Ac (J q.s-J a.vals) 0).getD i.toNat 0=(b.vals++Ac (J q.s-J b.vals) 0).getD i.toNat 0;rw[k,l];by_cases n:i.toNat<J p.s
  ·have e:p.s.getD i.toNat 0=q.s.getD i.toNat 0:=by
    rw[y,Bu,List.getElem?_take,AZ (by simpa using n), <-Bu]
   have:=h.v i.toNat (by rw[e];exact x)
   rw[Bu,Bu,Fb O,Fb O, <-Bu, <-Bu];exact this
  rw[Bu,Bu,Ip O,Ip O,k,l]
 have d:Dt (q.r.getD i.toNat 0)=false:=by rw[<-o];exact d
 exact h.a i.toNat (by rw[t];exact pe (oV w i.toNat) d)
theorem T8{p}{a b x y}{v w}{e g}{k}(q:k=⟨(Bn p).s,(Bn p).r,(Ed (Bn p)).1⟩)(H:EQ (Bn p)=V)(C:GK p (Bn p)=V)(P:(UP (Bn p)).1=0)(hf:KR (Bn p)=V)(X:CI (J p.s) (J p.r) a=V)(hb:CI (J p.s) (J p.r) b=V)(hP:Xf p.s p.r a b)
  (h1:jR (Is k) (Ha p (Bn p) a) x v e) (T:jR (Is k) (Ha p (Bn p) b) y w g):Bp k=V/\KO p (Bn p) a=V/\KO p (Bn p) b=V/\e=g/\v=w:=by
 have D:=(go C).2.1;have L:Bp k=true:=by rw[q];exact rl H
 have hv:Mw k:=by rw[q];exact H5 D P
 have hn:GR k.l:=by rw[q];exact n9 hf
 obtain⟨Q,c⟩:=Vu L;have j:=M7 L hv;have m:=J6 Q hn;obtain⟨F,z⟩:=M0 Q;have F:(Is k).s=(Bn p).s:=by rw[F,q]
 have z:(Is k).r=(Bn p).r:=by rw[z,q]
 have S:=Qe C X;have mb:=Qe C hb;have t:=(pa S.2).2.2.1;have u:=(pa mb.2).2.2.1;rw[<-F, <-z]at t u
 have hh:Gf (Bn p).s (Bn p).r=true:=by
  unfold BZ at D;simp only[Aj]at D;exact D.1.1
 have d:=hh;unfold Gf at d;simp only[Aj]at d;have G:=xc C X hb hP d.1.1.1.1 d.1.1.1.2 (Is k) F z;have N:Ld (Is k) (Ha p (Bn p) b) (Ha p (Bn p) a):=⟨λi h=>(G.v i h).symm,λi h=>(G.r i h).symm⟩
 refine⟨L,S.2,mb.2,?_⟩;rcases h1 with⟨rfl,_,_,n,E,_,rfl⟩|⟨rfl,_,rfl,E⟩
 ·rcases Xk c j t u G E with⟨f,r3⟩|f
  ·rcases T with⟨rfl,_,_,R,o,_,rfl⟩|⟨rfl,_,rfl,o⟩
   ·refine⟨rfl,?_⟩
    rcases M3 c j t u G E o with M|M
    ·exact M
    exact(dj m M).elim
   exact(o n ⟨c,u,f⟩).elim
  exact(dj m f).elim
 rcases T with⟨rfl,_,_,R,o,_,rfl⟩|⟨rfl,_,rfl,o⟩
 ·rcases Xk c j u t N o with⟨f,r3⟩|f
  ·exact(E R ⟨c,t,f⟩).elim
  exact(dj m f).elim
 exact⟨rfl,rfl⟩
abbrev Oh:AI:=.C [.v (.slice I 0 0),.v (.slice I 0 0)]
abbrev UM(b:List UInt8)(j:Int)(a:Int)(p:BE)(m:DJ):AI:=.L 3 (D.C (Bj b a p.s j m.vals (J m.vals)).1)
abbrev KG(a:Int)(b:List (Nat×AA)):List (Nat×AA):=(0,.P 0 0)::(3,A a)::(5,.P 7 0)::(8,.P 8 0)::(9,.P 11 0)::b
abbrev Nd(b:List UInt8)(p:BE)(m:DJ)(a:List AI):List AI:=Aw b::W p.s::W p.r::AE p.b::W m.vals::CO m.w::.C (Al 2)::a
theorem Q5(b)(j c)(p)(m)(hv:J m.vals=J p.s)(ha:J m.w=J p.r)(Q:m.w.all Hh=V)(r0:0<=j)(r1:j<=100000000)(r2:J m.vals<=1000000/\(J m.w)<=1000000)(hi:∀l∈m.w,J l<=1048576):AN.ok prog ⟨30,[.P 0 0,Ao 2,Hi 5,A c],[.C [.N 1,A j],Aw b]++Be p++Fs m,[.C [.N 1,A (MY b c p m j).2],Aw b]++Be p++Fs m++af (MY b c p m j).1,VL 7⟩:=by
  refine BP 85 func30 [.C [.N 1,A j],Aw b,W p.s,W p.r,AE p.b,W m.vals,CO m.w] [(0,.P 0 0),(1,Ao 2),(2,.agg [.N 5,.N 6]),(3,A c)] λG=>?_
  have S:=λk:Nat=>Sz b c p.s j m.vals k
  have X:=Sz b c p.s j m.vals (J m.vals);refine B (AM G AB [0,1,2,3,4,5,6,7,15,23] (.C [.N 1,A j]::(Nd b p m [.C [.N 5,.N 6],Oh])) [(0,.P 0 0),(3,A c),(5,.P 7 0),(6,.P 8 0),(8,.P 9 0)] λG=>B (AM G (Ai 1 [5,6] (xy m.vals m.w O O Ab)) [0,1,2,3,4,5,6,7,9,18,19,26] (.C [.N 1,A j]::(Nd b p m [Oh,.L 3 (D.C m.vals),.Q (D.L m.w),.C [.N 9,.F 10]])) (KG c []) λG=>B (B (BS G AB (KG c [(10,A 0)]) λG=>BN ?_))));refine DR (h:=Nat) (λi=>i<=J m.vals) (λi=>J m.vals-i) (λi=>[.C [.N 1,A (Bj b c p.s j m.vals i).2],Aw b,W p.s,W p.r,AE p.b,W m.vals,CO m.w,.C (Al 2),.C [AK,AK],.L 3 (.C (Bj b c p.s j m.vals i).1),.Q (D.L m.w),.C [.N 9,.F 10]]) (λi=>[(0,.P 0 0),(3,A c),(5,.P 7 0),(8,.P 8 0),(9,.P 11 0),(10,A i)]) 0 O (Ap.at G _ _) ?_;clear G;intro i v a w x G;replace G:=Ap.at G (.C [.N 1,A (Bj b c p.s j m.vals i).2]::(Nd b p m [Oh,.L 3 (D.C (Bj b c p.s j m.vals i).1),.Q (D.L m.w),.C [.N 9,.F 10]])) (KG c [(10,A i)]);have N:=Sz b c p.s j m.vals i;refine B (B ?_);cases t:(Y ((i:Int)<((Bj b c p.s j m.vals i).1.length:Int)))
  ·
   have T:=EB t;obtain rfl:i=J m.vals:=O;refine AQ G (CR (AS (a:=Y ((J m.vals:Int)<((Bj b c p.s j m.vals (J m.vals)).1.length:Int))) (b:=U) Ab Ag) (Ad [(6,10,0),(1011,1011,0)])) [(10,A (J m.vals:Int)),(26,AC U)] λG=>Bo G U Au (wp_exit (Bd (Bd (DG (B (B (BS G AB (KG c [(11,A 0)]) λG=>BN ?_)))))));refine DR (h:=Nat) (λd=>d<=J m.w) (λd=>J m.w-d) (λd=>[.C [.N 1,A (FI b c p.r (Bj b c p.s j m.vals (J m.vals)).2 m.w d).2],Aw b,W p.s,W p.r,AE p.b,W m.vals,CO m.w,.C (Al 2),.C [AK,AK],.L 3 (D.C (Bj b c p.s j m.vals (J m.vals)).1),.Q (.L (FI b c p.r (Bj b c p.s j m.vals (J m.vals)).2 m.w d).1),.C [.N 9,.F 10]]) (λd=>[(0,.P 0 0),(3,A c),(5,.P 7 0),(8,.P 8 0),(9,.P 11 0),(11,A d)]) 0 O (Ap.at G _ _) ?_;clear G;intro d v a w x G;replace G:=Ap.at G (.C [.N 1,A (FI b c p.r (Bj b c p.s j m.vals (J m.vals)).2 m.w d).2]::(Nd b p m [Oh,UM b j c p m,.Q (D.L (FI b c p.r (Bj b c p.s j m.vals (J m.vals)).2 m.w d).1),.C [.N 9,.F 10]])) (KG c [(11,A d)]);have R:=Sg b c p.r (Bj b c p.s j m.vals (J m.vals)).2 m.w d;refine B (B ?_);cases n:(Y ((d:Int)<((FI b c p.r (Bj b c p.s j m.vals (J m.vals)).2 m.w d).1.length:Int)))
   ·
    have C:=EB n;obtain rfl:d=J m.w:=O;refine AQ G (CR (AS (a:=Y ((J m.w:Int)<((FI b c p.r (Bj b c p.s j m.vals (J m.vals)).2 m.w (J m.w)).1.length:Int))) (b:=U) Ab Ag) (Ad [(6,10,0),(1011,1011,0)])) [(11,A (J m.w:Int)),(54,AC U)] λG=>Bo G U Au (wp_exit (Bd (Bd (DG (B (AM G AB [0,1,2,3,4,5,6,8,9,10] [.C [.N 1,A (FI b c p.r (Bj b c p.s j m.vals (J m.vals)).2 m.w (J m.w)).2],Aw b,W p.s,W p.r,AE p.b,W m.vals,CO m.w,.C [.N 8,.F 9],UM b j c p m,.Q (D.L (FI b c p.r (Bj b c p.s j m.vals (J m.vals)).2 m.w (J m.w)).1)] [(8,.P 7 0)] λG=>AT ?_))))));exact Br G [0,1,2,3,4,5,6,8,9]
   have C:=EC n;refine BS G (CR (AS n Ag) (Ad [(6,10,0),(1011,1011,0)])) (KG c [(11,A d),(54,AC (Y ((d:Int)<J p.r)))]) λG=>?_;cases u:(Y ((d:Int)<J p.r))
   · have q4:=EB u;exact False.elim O
   have q4:=EC u;refine Ba G _ u (Aq (B (BN (B (BS G AB (KG c [(11,A d),(12,A 0)]) λG=>BN ?_)))));replace G:=G.as (.C [.N 1,A (Cq b c p.r (Bj b c p.s j m.vals (J m.vals)).2 m.w d 0).2]::(Nd b p m [.C [AK,AK],.L 3 (D.C (Bj b c p.s j m.vals (J m.vals)).1),.Q (D.L (Cq b c p.r (Bj b c p.s j m.vals (J m.vals)).2 m.w d 0).1),.C [.N 9,.F 10]])) (KG c [(11,A d),(12,A 0)]) (by have g:((Cq b c p.r (Bj b c p.s j m.vals (J m.vals)).2 m.w d 0).2:Int)=((FI b c p.r (Bj b c p.s j m.vals (J m.vals)).2 m.w d).2):=(by rw[mf O];done);have f:((Cq b c p.r (Bj b c p.s j m.vals (J m.vals)).2 m.w d 0).1:List (List Int))=((FI b c p.r (Bj b c p.s j m.vals (J m.vals)).2 m.w d).1):=(by rw[mf O];done);(first|rw[g,f]|simp only[g,f])<;>rfl) Au;refine DR (h:=Nat) (λe=>e<=4) (λe=>4-e) (λe=>[.C [.N 1,A (Cq b c p.r (Bj b c p.s j m.vals (J m.vals)).2 m.w d e).2],Aw b,W p.s,W p.r,AE p.b,W m.vals,CO m.w,.C (Al 2),.C [AK,AK],.L 3 (D.C (Bj b c p.s j m.vals (J m.vals)).1),.Q (.L (Cq b c p.r (Bj b c p.s j m.vals (J m.vals)).2 m.w d e).1),.C [.N 9,.F 10]]) (λe=>[(0,.P 0 0),(3,A c),(5,.P 7 0),(8,.P 8 0),(9,.P 11 0),(11,A d),(12,A e)]) 0 O (Ap.at G _ _) ?_;clear G;intro e v a w x G;replace G:=Ap.at G (.C [.N 1,A (Cq b c p.r (Bj b c p.s j m.vals (J m.vals)).2 m.w d e).2]::(Nd b p m [Oh,UM b j c p m,.Q (D.L (Cq b c p.r (Bj b c p.s j m.vals (J m.vals)).2 m.w d e).1),.C [.N 9,.F 10]])) (KG c [(11,A d),(12,A e)]);have h:=wG (m:=m) Q (i:=d) O;have H:=Q6 (b:=b) (bit:=c) (ls:=p.r) (j:=(Bj b c p.s j m.vals (J m.vals)).2) (rs:=m.w) (i:=d) (k:=e);have F:=yL (b:=b) (bit:=c) (ls:=p.r) (j:=(Bj b c p.s j m.vals (J m.vals)).2) (rs:=m.w) (i:=d) (k:=e) O h O;refine B (B (CT G AB [0,1,2,3,4,5,6,7,8,9,10,11,52] [.C [.N 1,A (Cq b c p.r (Bj b c p.s j m.vals (J m.vals)).2 m.w d e).2],Aw b,W p.s,W p.r,AE p.b,W m.vals,CO m.w,.C (Al 2),.C [AK,AK],.L 3 (D.C (Bj b c p.s j m.vals (J m.vals)).1),.H 12 d (Cq b c p.r (Bj b c p.s j m.vals (J m.vals)).2 m.w d e).1,.C [.N 9,.F 10],.L 3 (D.C ((Cq b c p.r (Bj b c p.s j m.vals (J m.vals)).2 m.w d e).1.getD d []))] (KG c [(11,A d),(12,A e),(64,AC (Y ((e:Int)<(((Cq b c p.r (Bj b c p.s j m.vals (J m.vals)).2 m.w d e).1.getD d []).length:Int))))]) (CD d d ((Cq b c p.r (Bj b c p.s j m.vals (J m.vals)).2 m.w d e).1.length) []) (CE O Ay) λG=>?_))
   replace G:=G.heal0 10 12 d ((Cq b c p.r (Bj b c p.s j m.vals (J m.vals)).2 m.w d e).1) [.C [.N 1,A (Cq b c p.r (Bj b c p.s j m.vals (J m.vals)).2 m.w d e).2],Aw b,W p.s,W p.r,AE p.b,W m.vals,CO m.w,.C (Al 2),.C [AK,AK],.L 3 (D.C (Bj b c p.s j m.vals (J m.vals)).1),.Q (D.L (Cq b c p.r (Bj b c p.s j m.vals (J m.vals)).2 m.w d e).1),.C [.N 9,.F 10],.E];refine Ec ?_;cases o:(Y ((e:Int)<(((Cq b c p.r (Bj b c p.s j m.vals (J m.vals)).2 m.w d e).1.getD d []).length:Int)))
   ·
    have z:=EB o;obtain rfl:e=4:=O;refine Bo G (Y ((↑(4:Nat):Int)<(((Cq b c p.r (Bj b c p.s j m.vals (J m.vals)).2 m.w d (4:Nat)).1.getD d []).length:Int))) Ab (wp_exit (Bd (Bd (DG (BL (CT G AB (AH 12) (.C [.N 1,A (Cq b c p.r (Bj b c p.s j m.vals (J m.vals)).2 m.w d 4).2]::(Nd b p m [Oh,UM b j c p m,.Q (D.L (Cq b c p.r (Bj b c p.s j m.vals (J m.vals)).2 m.w d 4).1),.C [.N 9,.F 10]])) (KG c [(11,A ((d:Int)+1))]) [BC ((d:Int)+1)] (BA O) λG=>?_))))));exact Ce G (d+1) O O (AH 12) (by have g:((FI b c p.r (Bj b c p.s j m.vals (J m.vals)).2 m.w (d+1)).2:Int)=((Cq b c p.r (Bj b c p.s j m.vals (J m.vals)).2 m.w d 4).2):=(by rw[<-tE O h];done);have f:((FI b c p.r (Bj b c p.s j m.vals (J m.vals)).2 m.w (d+1)).1:List (List Int))=((Cq b c p.r (Bj b c p.s j m.vals (J m.vals)).2 m.w d 4).1):=(by rw[<-tE O h];done);(first|rw[g,f]|simp only[g,f])<;>rfl)
   have z:=EC o;refine Ba G _ o (Aq (B (BN (B (CT G AB (AH 12) (.C [.N 1,A (Cq b c p.r (Bj b c p.s j m.vals (J m.vals)).2 m.w d e).2]::(Nd b p m [Oh,UM b j c p m,.Q (D.L (Cq b c p.r (Bj b c p.s j m.vals (J m.vals)).2 m.w d e).1),.C [.N 9,.F 10]])) (KG c [(11,A d),(12,A e),(74,AC (Lm (p.r.getD d 0) c !=0))]) (CD d d (J p.r) []) (CE O Ay) λG=>IP G (λE L=>?_) λE L=>?_)))))
   · refine Aq (BL (Bi G AB [(12,A ((e:Int)+1))] [BC ((e:Int)+1)] (BA O) λG=>?_));exact Ce G (e+1) O O (AH 12) (by have g:((Cq b c p.r (Bj b c p.s j m.vals (J m.vals)).2 m.w d (e+1)).2:Int)=((Cq b c p.r (Bj b c p.s j m.vals (J m.vals)).2 m.w d e).2):=(by rw[nh (co O)];done);have f:((Cq b c p.r (Bj b c p.s j m.vals (J m.vals)).2 m.w d (e+1)).1:List (List Int))=((Cq b c p.r (Bj b c p.s j m.vals (J m.vals)).2 m.w d e).1):=(by rw[nh (co O)];done);(first|rw[g,f]|simp only[g,f])<;>rfl)
   refine Df G (Ai 7 [0,1] (Yg b ((Cq b c p.r (Bj b c p.s j m.vals (J m.vals)).2 m.w d e).2) O O)) [0,1,0,7,15,0,0,64,255,511] [0,1,2,3,4,5,6,7,8,9,10,11,44] [.C [.N 1,A ((Cq b c p.r (Bj b c p.s j m.vals (J m.vals)).2 m.w d e).2+1)],Aw b,W p.s,W p.r,AE p.b,W m.vals,CO m.w,.C (Al 2),.C [AK,AK],.L 3 (D.C (Bj b c p.s j m.vals (J m.vals)).1),.H 12 d (Cq b c p.r (Bj b c p.s j m.vals (J m.vals)).2 m.w d e).1,.C [.N 9,.F 10],.L 3 (D.C (((Cq b c p.r (Bj b c p.s j m.vals (J m.vals)).2 m.w d e).1.getD d []).set e (AU b (Cq b c p.r (Bj b c p.s j m.vals (J m.vals)).2 m.w d e).2 Gu)))] (KG c [(11,A d),(12,A e)]) (CD d d ((Cq b c p.r (Bj b c p.s j m.vals (J m.vals)).2 m.w d e).1.length) (CD e e (((Cq b c p.r (Bj b c p.s j m.vals (J m.vals)).2 m.w d e).1.getD d []).length) [])) (CE O (CE O Ay)) λG=>?_;replace G:=G.heal 10 12 d ((Cq b c p.r (Bj b c p.s j m.vals (J m.vals)).2 m.w d e).1) (((Cq b c p.r (Bj b c p.s j m.vals (J m.vals)).2 m.w d e).1.getD d []).set e (AU b (Cq b c p.r (Bj b c p.s j m.vals (J m.vals)).2 m.w d e).2 Gu)) (.C [.N 1,A ((Cq b c p.r (Bj b c p.s j m.vals (J m.vals)).2 m.w d e).2+1)]::(Nd b p m [.C [AK,AK],.L 3 (D.C (Bj b c p.s j m.vals (J m.vals)).1),.Q (D.L ((Cq b c p.r (Bj b c p.s j m.vals (J m.vals)).2 m.w d e).1.set d (((Cq b c p.r (Bj b c p.s j m.vals (J m.vals)).2 m.w d e).1.getD d []).set e (AU b (Cq b c p.r (Bj b c p.s j m.vals (J m.vals)).2 m.w d e).2 Gu)))),.C [.N 9,.F 10],.E]));refine BL (CT G AB (AH 12) (.C [.N 1,A ((Cq b c p.r (Bj b c p.s j m.vals (J m.vals)).2 m.w d e).2+1)]::(Nd b p m [Oh,UM b j c p m,.Q (D.L ((Cq b c p.r (Bj b c p.s j m.vals (J m.vals)).2 m.w d e).1.set d (((Cq b c p.r (Bj b c p.s j m.vals (J m.vals)).2 m.w d e).1.getD d []).set e (AU b (Cq b c p.r (Bj b c p.s j m.vals (J m.vals)).2 m.w d e).2 Gu)))),.C [.N 9,.F 10]])) (KG c [(11,A d),(12,A ((e:Int)+1))]) [BC ((e:Int)+1)] (BA O) λG=>?_);exact Ce G (e+1) O O (AH 12) (by have g:((Cq b c p.r (Bj b c p.s j m.vals (J m.vals)).2 m.w d (e+1)).2:Int)=((Cq b c p.r (Bj b c p.s j m.vals (J m.vals)).2 m.w d e).2+1):=(by rw[qQ O h O (Zj O)];done);have f:((Cq b c p.r (Bj b c p.s j m.vals (J m.vals)).2 m.w d (e+1)).1:List (List Int))=((Cq b c p.r (Bj b c p.s j m.vals (J m.vals)).2 m.w d e).1.set d (((Cq b c p.r (Bj b c p.s j m.vals (J m.vals)).2 m.w d e).1.getD d []).set e (AU b (Cq b c p.r (Bj b c p.s j m.vals (J m.vals)).2 m.w d e).2 Gu))):=(by rw[qQ O h O (Zj O)];done);(first|rw[g,f]|simp only[g,f])<;>rfl)
  have T:=EC t;refine BS G (CR (AS t Ag) (Ad [(6,10,0),(1011,1011,0)])) (KG c [(10,A i),(26,AC (Y ((i:Int)<J p.s)))]) λG=>?_;cases q:(Y ((i:Int)<J p.s))
  · have y:=EB q;exact False.elim O
  have y:=EC q;refine Ba G _ q (Aq (B (BN (B (Bi G AB [(36,AC (Lm (p.s.getD i 0) c !=0))] (CD i i (J p.s) []) (CE O Ay) λG=>IP G (λP M=>?_) λP M=>?_)))))
  · refine Aq (BL (Bi G AB [(10,A ((i:Int)+1))] [BC ((i:Int)+1)] (BA O) λG=>?_));exact Ce G (i+1) O O (AH 12) (by have g:((Bj b c p.s j m.vals (i+1)).2:Int)=((Bj b c p.s j m.vals i).2):=(by rw[tR (co O)];done);have f:((Bj b c p.s j m.vals (i+1)).1:List Int)=((Bj b c p.s j m.vals i).1):=(by rw[tR (co O)];done);(first|rw[g,f]|simp only[g,f])<;>rfl)
  refine Df G (Ai 4 [0,1] (Yg b ((Bj b c p.s j m.vals i).2) O O)) [0,1,0,0,8,31,63] (AH 12) (.C [.N 1,A ((Bj b c p.s j m.vals i).2+1)]::(Nd b p m [Oh,.L 3 (D.C ((Bj b c p.s j m.vals i).1.set i (AU b (Bj b c p.s j m.vals i).2 Gu))),.Q (D.L m.w),.C [.N 9,.F 10]])) (KG c [(10,A i)]) (CD i i ((Bj b c p.s j m.vals i).1.length) []) (CE O Ay) λG=>BL (Bi G AB [(10,A ((i:Int)+1))] [BC ((i:Int)+1)] (BA O) λG=>?_);exact Ce G (i+1) O O (AH 12) (by have g:((Bj b c p.s j m.vals (i+1)).2:Int)=((Bj b c p.s j m.vals i).2+1):=(by rw[sP (Zj O)];done);have f:((Bj b c p.s j m.vals (i+1)).1:List Int)=((Bj b c p.s j m.vals i).1.set i (AU b (Bj b c p.s j m.vals i).2 Gu)):=(by rw[sP (Zj O)];done);(first|rw[g,f]|simp only[g,f])<;>rfl)
theorem J0(b)(j c)(f a)(g)(e)(d)(o:J e=J f)(p:J d=J a)(k:d.all Hh=V)(h:0<=j)(n:j<=100000000)(m:J e<=1000000/\(J d)<=1000000)(i:∀l∈d,J l<=1048576):AN.ok prog ⟨30,[.P 0 0,Ao 2,Hi 5,A c],[.C [.N 1,A j],Aw b,W f,W a,AE g,W e,CO d],[.C [.N 1,A (MY b c ⟨f,a,g⟩ ⟨e,d⟩ j).2],Aw b,W f,W a,AE g,W e,CO d]++af (MY b c ⟨f,a,g⟩ ⟨e,d⟩ j).1,VL 7⟩:=
 Q5 b j c ⟨f,a,g⟩ ⟨e,d⟩ o p k h n m i
theorem wE{p q}(h:BZ p=U):GK p q=false:=by unfold GK;rw[h];rfl
theorem t8{p q}(h:BZ q=U):GK p q=false:=by unfold GK;rw[h];simp
theorem ab4{p q}(h:¬(J p.s)<=(J q.s:Int)):GK p q=false:=by
 unfold GK;rw[decide_eq_false (p:=J p.s<=J q.s) O];simp
theorem wK{p q}(b:BZ p=V)(a:BZ q=V)(h:(J p.s)<=(J q.s:Int)):GK p q=(Y (p.s=(q.s.take (J p.s)).drop 0)&&Y (p.r=q.r)):=by
 unfold GK;rw[b,a,decide_eq_true (p:=J p.s<=J q.s) O,List.drop_zero];simp
theorem n8{p q}(h:¬p.s=(q.s.take (J p.s)).drop 0):GK p q=false:=by
 unfold GK;rw[List.drop_zero]at h;rw[decide_eq_false h];simp
theorem vA{p q}(b:BZ p=V)(a:BZ q=V)(h:(J p.s)<=(J q.s:Int))(c:p.s=(q.s.take (J p.s)).drop 0):GK p q=Y (p.r=q.r):=by
 rw[wK b a h,decide_eq_true c];rfl
abbrev Rh(p:BE)(q:BE)(a:List AI):List AI:=W p.s::W p.r::AE p.b::W q.s::W q.r::AE q.b::a
theorem rr(p q):AN.ok prog (CJ 54 [Ao 0,Ao 3] (Be p++Be q) (AC (GK p q))):=by
  refine BP 38 func54 (Rh p q []) [(0,Ao 0),(1,Ao 3)] λG=>?_;refine B (AM G AB [0,1,2,3,4,5,6,14] (Rh p q [.C (Al 0),.C (Al 3)]) [(2,.P 6 0),(3,.P 7 0),(4,AC U)] λG=>B ?_);cases c:(BZ (BE.mk p.s p.r p.b))
  · refine Fr G (BH (AX 1 [0,1,2] (Pd p.s p.r p.b) BG) (AS c (AS (b:=U) rfl Ag)) (Ad [(3,4,0),(1005,1005,0),(7,13,1),(1014,1014,1),(16,24,1),(1025,1025,1),(27,31,1),(1032,1032,1)])) [0,1,3,7,15,31,63,127,255,511,127,1151,3199,8191,16383,32767,65535,131071,65535,327679,65535,1114111,3211263,8191999,16777215,33554431,67108863,134217727,268435455,134217727,671088639,2147483647,4294967295,8589934591] (AH 6) (Rh p q []) [(4,AC U)] λG=>AT ?_;exact BU U G (AH 6) (wE Ab)
  cases e:(BZ (BE.mk q.s q.r q.b))
  · refine Fr G (BH (AX 1 [0,1,2] (Pd p.s p.r p.b) (AX 4 [3,4,5] (Pd q.s q.r q.b) BG)) (AS c (AS e (AS (b:=U) rfl Ag))) (Ad [(3,4,0),(1005,1005,0),(7,13,1),(1014,1014,1),(16,24,2),(1025,1025,2),(27,31,2),(1032,1032,2)])) [0,1,3,7,15,31,63,127,255,511,127,1151,3199,8191,16383,32767,65535,131071,65535,327679,65535,1114111,3211263,8191999,16777215,33554431,67108863,134217727,268435455,134217727,671088639,2147483647,4294967295,8589934591] (AH 6) (Rh p q []) [(4,AC U)] λG=>AT ?_;exact BU U G (AH 6) (t8 Ab)
  cases a:(Y ((J p.s:Int)<=J q.s))
  · have g:=EB a;refine Fr G (BH (AX 1 [0,1,2] (Pd p.s p.r p.b) (AX 4 [3,4,5] (Pd q.s q.r q.b) BG)) (AS c (AS e (AS a (AS (b:=U) rfl Ag)))) (Ad [(3,4,0),(1005,1005,0),(7,13,1),(1014,1014,1),(16,24,2),(1025,1025,2),(27,31,3),(1032,1032,3)])) [0,1,3,7,15,31,63,127,255,511,127,1151,3199,8191,16383,32767,65535,131071,65535,327679,65535,1114111,3211263,8191999,16777215,33554431,67108863,134217727,268435455,134217727,671088639,2147483647,4294967295,8589934591] (AH 6) (Rh p q []) [(4,AC U)] λG=>AT ?_;exact BU U G (AH 6) (ab4 Ab)
  have g:=EC a;cases d:(Y (p.s=List.drop (0:Nat) (Ae (J p.s) q.s)))
  · have f:=EB d;refine Df G (BH (AX 1 [0,1,2] (Pd p.s p.r p.b) (AX 4 [3,4,5] (Pd q.s q.r q.b) (AX 24 [0,192] (ik p.s (List.drop 0 (Ae (J p.s) q.s))) BG))) (AS c (AS e (AS a (AS d Ag)))) (Ad [(3,4,0),(1005,1005,0),(7,13,1),(1014,1014,1),(16,24,2),(1025,1025,2),(27,31,3),(1032,1032,3)])) [0,1,3,7,15,31,63,127,255,511,127,1151,3199,8191,16383,32767,65535,131071,65535,327679,65535,1114111,3211263,8191999,16777215,33554431,67108863,134217727,268435455,134217727,671088639,2147483647,4294967295,8589934591] (AH 6) (Rh p q []) [(4,AC U)] [(0:Int)<=J p.s,(J p.s:Int)<=J q.s] ⟨O,Ab,Ay⟩ λG=>AT ?_;exact BU U G (AH 6) (n8 Ab)
  have f:=EC d;refine Df G (BH (AX 1 [0,1,2] (Pd p.s p.r p.b) (AX 4 [3,4,5] (Pd q.s q.r q.b) (AX 24 [0,192] (ik p.s (List.drop 0 (Ae (J p.s) q.s))) (AX 31 [1,4] (ik p.r q.r) BG)))) (AS c (AS e (AS a (AS d Ag)))) (Ad [(3,4,0),(1005,1005,0),(7,13,1),(1014,1014,1),(16,24,2),(1025,1025,2),(27,31,3),(1032,1032,3)])) [0,1,3,7,15,31,63,127,255,511,127,1151,3199,8191,16383,32767,65535,131071,65535,327679,65535,1114111,3211263,8191999,16777215,33554431,67108863,134217727,268435455,134217727,671088639,2147483647,4294967295,8589934591] (AH 6) (Rh p q []) [(4,AC (Y (p.r=q.r)))] [(0:Int)<=J p.s,(J p.s:Int)<=J q.s] ⟨O,Ab,Ay⟩ λG=>AT ?_;exact BU (Y (p.r=q.r)) G (AH 6) (vA Ab Ab Ab Ab)
section
variable{b:List UInt8}{j:Int}{m:DJ}
end
def Kd(p:BE):List Int:=if EQ p=V then p.s else []
def Hz(p:BE):List Int:=if EQ p=V then p.r else []
theorem dh{p}(h:EQ p=V):Kd p=p.s:=AZ h
theorem WD{p}(h:EQ p=U):Kd p=[]:=AO (by rw[h];decide)
theorem ju{p}(h:EQ p=V):Hz p=p.r:=AZ h
theorem VI{p}(h:EQ p=U):Hz p=[]:=AO (by rw[h];decide)
abbrev dN(p:BE):List AI:=[W p.s,W p.r,AE p.b,.L 3 (D.C (Kd p)),.L 3 (D.C (Hz p)),.L 76 (D.N (Ez p).1)]
abbrev Yp(p:BE)(a:List AI):List AI:=.L 76 (D.N (Ez p).1)::.L 3 (D.C (Ez p).2.1)::.C [.N 5,.N 6,A (Ez p).2.2]::a
theorem V9(p)(g:p.size<=1048576):AN.ok prog ⟨41,[Ao 0],Be p,Be p++[Ej (Kd p),Ej (Hz p),GJ (Ez p).1],.T [.agg [.N 3,.N 4,.N 5],AC (EQ p)]⟩:=by
 refine BP 25 func41 [W p.s,W p.r,AE p.b] [(0,Ao 0)] λG=>?_
 have h:J p.s<=1048576/\(J p.r)<=1048576/\Ah p.b<=1048576:=by unfold BE.size at g;omega
 refine B (AM G AB [0,1,2,3,11] [W p.s,W p.r,AE p.b,.C (Al 0),.C [AK,AK,AK]] [(1,.P 3 0),(2,.P 4 0),(3,AC U)] λG=>B (AM G (Ai 1 [0,1,2] (g1 p O)) [0,1,2,3,4,13,14,45] (W p.s::W p.r::AE p.b::.C (Al 0)::.C [AK,AK,AK]::(Yp p [])) [(1,.P 3 0),(2,.P 4 0),(3,AC U),(4,.P 7 0),(5,AC (EQ p))] λG=>B (B (AQ G AB [(12,.v (.bool !EQ p))] λG=>?_))));cases c:(!EQ p)
 ·have i:(EQ p)=true:=(Eq.mp (Cp _) c);refine Bo G _ c (Aq (B (Df G AB [0,0,2,7,0,0,32,127,0,256,1023,2047,4095] [0,1,2,4,5,32,64] [W p.s,W p.r,AE p.b,.C [.N 5,.N 6,.N 4],.L 76 (D.N (Ez p).1),.L 3 (D.C ([]++p.s)),.L 3 (D.C ([]++p.r))] [(2,.P 3 0),(3,AC V)] (EP ((0:Nat)+J p.s) 8 (EP ((0:Nat)+J p.r) 8 [])) (EW O (EW O Ay)) λG=>AT ?_)));exact Cr (.T [.agg [.N 5,.N 6,.N 4],AC V]) G [0,1,2,5,6,4] (by have a:(EQ p:Bool)=(V):=Ab;(first|rw[a]|simp only[a])<;>rfl) (by show _=BM [0,1,2,5,6,4] (dN p);unfold dN;have d:(Hz p:List Int)=([]++p.r):=(by rw[ju AY];rfl);rw[d,dh AY]<;>rfl)
 have i:(EQ p)=false:=(Eq.mp (Cn _) c);refine Ba G _ c (B (BS G AB [(1,.P 3 0),(2,.P 4 0),(3,AC U),(4,.P 7 0)] λG=>AT (Ar ?_)));obtain⟨e,G⟩:=G.nil 8 3 (.C []) 1 (W p.s::W p.r::AE p.b::.C (Al 0)::.C [.N 8,AK,AK]::(Yp p [])) [(1,.P 3 0),(2,.P 4 0),(3,AC U),(4,.P 7 0)];obtain⟨e,G⟩:=G.nil 9 3 (.C []) 1 (W p.s::W p.r::AE p.b::.C (Al 0)::.C [.N 8,.N 9,AK]::(Yp p [.L 3 (D.C [])])) [(1,.P 3 0),(2,.P 4 0),(3,AC U),(4,.P 7 0)];obtain⟨e,G⟩:=G.nil 10 76 (.N []) 5 (W p.s::W p.r::AE p.b::.C (Al 0)::.C (Al 8)::(Yp p [.L 3 (D.C []),.L 3 (D.C [])])) [(1,.P 3 0),(2,.P 4 0),(3,AC U),(4,.P 7 0)];exact Cr (.T [Ao 8,AC U]) G [0,1,2,8,9,10] (by have a:(EQ p:Bool)=(U):=Ab;(first|rw[a]|simp only[a])<;>rfl) (by show _=BM [0,1,2,8,9,10] (dN p);unfold dN;have d:(Hz p:List Int)=([]):=(by rw[VI AY];done);have f:((Ez p).1:List AV)=([]):=(by rw[Pm AY];done);rw[d,f,WD AY]<;>rfl)
theorem QX{p}(h:EU p=U):EQ (Bn p)=false:=by
 rw[VY h];exact QT (by decide+kernel)
abbrev yE(b:List UInt8)(j:Int):AN:=⟨38,[.P 0 0],[.C [.N 1,A j],Aw b],[.C [.N 1,A ((Dg b j).2+1)],Aw b]++Pg (Bw b j),Nb 2⟩
section
variable{b:List UInt8}{j:Int}
theorem M9(h:Ch b (Dg b j).2 4=0):Bw b j=GL b j:=AZ h
theorem s6(h:¬Ch b (Dg b j).2 4=0)(a:JL (GL b j)=V):Bw b j=JW (GL b j):=by rw[Bw,AO h,AZ a]
theorem wI(h:¬Ch b (Dg b j).2 4=0)(a:JL (GL b j)=U):Bw b j=GL b j:=by rw[Bw,AO h,AO (by rw[a];decide)]
end
abbrev UZ(b:List UInt8)(j:Int):List AI:=[.C [.N 1,A ((Dg b j).2+1)],Aw b,.L 3 (D.C (Bw b j).s),.L 3 (D.C (Bw b j).r),.Q (D.M (Bw b j).b)]
abbrev aK:AI:=.C [.v (.slice I 0 0),.v (.slice I 0 0),.v (.slice I 0 0)]
abbrev RP:AI:=.C [.N 3,.N 4,.F 5]
abbrev UF(b:List UInt8)(j:Int)(a:List AI):List AI:=.L 3 (D.C (GL b j).s)::.L 3 (D.C (GL b j).r)::.Q (D.M (GL b j).b)::a
theorem ws(b)(j)(a:0<=j)(c:j<=10000000):AN.ok prog (yE b j):=by
  refine BP 20 func38 [.C [.N 1,A j],Aw b] [(0,.P 0 0)] λG=>?_;have g:=Zg b a c;have d:=YT b a c;have h:=oe b a c;refine B (AM G AB [0,1,2] [.C [.N 1,A j],Aw b,aK] [(0,.P 0 0),(2,.P 2 0)] λG=>B (AM G (Ai 1 [0,1] (t2 b j Ab Ab)) [0,1,2,11,12,13,19] (.C [.N 1,A (Dg b j).2]::Aw b::aK::(UF b j [RP])) [(0,.P 0 0),(2,.P 2 0),(3,.P 6 0)] λG=>B (B (AM G (Ai 1 [0,1] (My b ((Dg b j).2) 4 O O)) (AH 7) (.C [.N 1,A ((Dg b j).2+1)]::Aw b::aK::(UF b j [RP])) [(2,.P 2 0),(3,.P 6 0),(10,AC (Ch b (Dg b j).2 4==0))] λG=>Cu G (λi e=>?_) λi e=>?_))))
  ·
   refine Aq (B (AM G (Ai 1 [3,4,5] (AN.lend (xE (GL b j) O) [.L 3,.L 3,.Q])) [0,1,2,3,4,5,6,15,16,17,47] (.C [.N 1,A ((Dg b j).2+1)]::Aw b::aK::(UF b j [RP,.L 3 (D.C (JW (GL b j)).s),.L 3 (D.C (JW (GL b j)).r),.Q (D.M (JW (GL b j)).b),.C [.N 7,.N 8,.F 9]])) [(2,.P 2 0),(3,.P 6 0),(4,.P 10 0),(5,AC (JL (GL b j)))] λG=>B (B (AQ G AB [(17,AC (JL (GL b j)))] λG=>Rc G (λf=>?_) λf=>?_))))
   · refine Aq (B (AM G AB (AH 6) (.C [.N 1,A ((Dg b j).2+1)]::Aw b::RP::(UF b j [])) [(2,.P 2 0)] λG=>AT ?_));exact Br G [0,1,3,4,5] (by show _=BM [0,1,3,4,5] (UZ b j);unfold UZ;rw[wI O AY]<;>rfl)
   refine B (AM G AB (AH 10) (.C [.N 1,A ((Dg b j).2+1)]::Aw b::.C [.N 7,.N 8,.F 9]::(UF b j [RP,.L 3 (D.C (JW (GL b j)).s),.L 3 (D.C (JW (GL b j)).r),.Q (D.M (JW (GL b j)).b)])) [(2,.P 2 0),(3,.P 6 0)] λG=>AT (Ar ?_));exact Br G [0,1,7,8,9] (by show _=BM [0,1,7,8,9] (UZ b j);unfold UZ;rw[s6 O AY]<;>rfl)
  refine B (AM G AB (AH 7) (.C [.N 1,A ((Dg b j).2+1)]::Aw b::RP::(UF b j [RP])) [(2,.P 2 0),(3,.P 6 0)] λG=>AT (Ar ?_));exact Br G [0,1,3,4,5] (by show _=BM [0,1,3,4,5] (UZ b j);unfold UZ;rw[M9 O]<;>rfl)
theorem ne(b):0<=(Dg b 0).2/\(Dg b 0).2<=150000:=by
 have h:=YT b (k:=0) O O;have a:=Zg b (k:=0) O O;omega
theorem re(b):(Bw b 0).size<=1000000:=DO (yH b O O) O
theorem AN.dupPost{P}{f}{c}{pre S}{d}{b g}{i}(Q:AN.ok P ⟨f,c,pre,S,b⟩)(v:S[i]? =Z (.G d))(hl:J pre<=S.length)
  (hS:S.all (λx=>Jq S.length x.ids)=V) (T:∀n,n S.length=n i->g.val n=b.val n) (G:Jq S.length b.ids=V):AN.ok P ⟨f,c,pre,S++[.G d],g⟩:=by
 intro N R D H w F n M;refine(Q N R D H w F n M).mono ?_;rintro x w' ⟨p,y,rfl,z⟩;have s:An S i=.G d:=by simp[An,v]
 have L:i<S.length:=(EA.1 v).1
 have q:FV (An S) p [S.length]:=λE h j=>by
  by_cases o:j<S.length
  ·refine AI.res_congr _ (λk l=>h k ?_) (.inr (.inr (h j CY)))
   have y:=Lf (Bt.1 hS (S[j]) (EL o)) k (by simpa[An,Bu,CF o]using l)
   simp;omega
  rw[show An S j=.none by simp only[An,Bu,FO (Nat.le_of_not_lt o)];rfl];rfl
 obtain⟨m,r,C,X⟩:=z.newDat (id:=S.length) (by simp[An]) q (z.datAt s)
 have e:Bq (An S) [(S.length,.G d)]=An (S++[.G d]):=by
  funext j;simp only[Bq,An,Bu];by_cases o:j=S.length
  ·subst o;simp
  rw[AO o];by_cases t:j<S.length
  ·rw[Fb t]
  rw[FO O,FO CY]
 rw[e]at C;have u:m i=p i:=r i CY
 refine⟨m,λk l=>by
  have l:k<J pre:=l
  rw[r k CY];exact y k l,?_,C⟩
 rw[T m (by rw[<-X,u])]
 exact congrArg _ (AA.val_congr b λk l=>by
  have:=Lf G k l
  exact r k CY).symm
abbrev Et:AA:=.v (.slice I 0 0)
abbrev JE(l:List AG):AI:=.L 98 (.M l)
abbrev Gm(l:List Int):AI:=.L 3 (.C l)
theorem k6(c b)(d)(l:∀e,As (J c) (J b) d e=V->AN.ok prog (CJ 139 [.agg [.N 0,.N 1,Et],Dc e 2] ([W c,W b]++Em e) (A (AL c b d e))))
    (e) (f:As (J c) (J b) (d+1) e=V):AN.ok prog (CJ 139 [.agg [.N 0,.N 1,Et],Dc e 2] ([W c,W b]++Em e) (A (AL c b (d+1) e))):=by
  refine BP 42 func139 [W c,W b,AP e.k] [(0,.agg [.N 0,.N 1,AK]),(1,Dc e 2)] λG=>?_;refine B (AM G AB [0,1,2,3,11] [W c,W b,AP e.k,.C [.N 0,.N 1,AK],.C (Bz e 2)] [(2,.P 3 0),(3,.P 4 0),(4,A 0)] λG=>B (AQ G AB [(5,A 0)] λG=>B (B (AQ G AB [(8,A e.t)] λG=>BN (B (AQ G AB [(9,AC (e.t==2))] λG=>Cu G (λr j=>?_) λr j=>?_))))))
  ·
   refine B (AQ G AB [(17,AC (e.t==3))] λG=>Cu G (λp i=>?_) λp i=>?_)
   ·
    refine Aq (BL (B (B (BS G AB [(2,.P 3 0),(3,.P 4 0),(4,A 0),(5,A 0),(6,A 0)] λG=>BN ?_))));refine DR (h:=Nat) (λk=>k<=J e.k) (λk=>J e.k-k) (λk=>[W c,W b,AP e.k,.C [.N 0,.N 1,AK],.C (Bz e 2)]) (λk=>[(2,.P 3 0),(3,.P 4 0),(4,A 0),(5,A (CK c b d 0 e.k k)),(6,A k)]) 0 O (Ap.at G _ _) ?_;clear G;intro k m a w n G;have h:J e.k<=9223372036854775807:=G.len 2 (d:=.P e.k) Au;refine B (B (BS G AB [(2,.P 3 0),(3,.P 4 0),(4,A 0),(5,A (CK c b d 0 e.k k)),(6,A k),(29,AC (Y ((k:Int)<J e.k)))] λG=>DZ G (λu s=>?_) λu s=>?_))
    · refine wp_exit (Bd (Bd (DG (B (AM G AB [0,1,2] [W c,W b,AP e.k] [(4,A (CK c b d 0 e.k k))] λG=>AT ?_)))));exact DE (CK c b d 0 e.k k) G [0,1,2] (MZ O (by simp[Fm,j,i];done))
    refine Aq (B (BN (JB G (Ai 7 [0,1,53] (l (e.k.getD k K) (Jz f O))) [0,0,0,4,0,28,60,126,255,511] [(5,A (AR (CK c b d 0 e.k k) (AL c b d (e.k.getD k K))))] (CD k k (J e.k) []) (CE O Ay) λG=>BL (Bi G AB [(6,A ((k:Int)+1))] [BC ((k:Int)+1)] (BA O) λG=>?_))));exact Ce G (k+1) O O (AH 5) (ht:=by have g:(CK c b d 0 e.k (k+1):Int)=(AR (CK c b d 0 e.k k) (AL c b d (e.k.getD k K))):=(Mt O);(first|rw[g]|simp only[g])<;>rfl)
   refine Bi G AB [(5,A (b.getD e.v.toNat 0))] [(0:Int)<=e.v,e.v<(J b:Int),e.v.toNat<J b] ⟨((MU f Ab).1),((MU f Ab).2.1),((MU f Ab).2.2),Ay⟩ λG=>BL (B (B (BS G AB [(2,.P 3 0),(3,.P 4 0),(4,A 0),(5,A (b.getD e.v.toNat 0)),(6,A 0)] λG=>BN ?_)));refine DR (h:=Nat) (λk=>k<=J e.k) (λk=>J e.k-k) (λk=>[W c,W b,AP e.k,.C [.N 0,.N 1,AK],.C (Bz e 2)]) (λk=>[(2,.P 3 0),(3,.P 4 0),(4,A 0),(5,A (CK c b d (b.getD e.v.toNat 0) e.k k)),(6,A k)]) 0 O (Ap.at G _ _) ?_;clear G;intro k m a w n G;have h:J e.k<=9223372036854775807:=G.len 2 (d:=.P e.k) Au;refine B (B (BS G AB [(2,.P 3 0),(3,.P 4 0),(4,A 0),(5,A (CK c b d (b.getD e.v.toNat 0) e.k k)),(6,A k),(29,AC (Y ((k:Int)<J e.k)))] λG=>DZ G (λo q=>?_) λo q=>?_))
   · refine wp_exit (Bd (Bd (DG (B (AM G AB [0,1,2] [W c,W b,AP e.k] [(4,A (CK c b d (b.getD e.v.toNat 0) e.k k))] λG=>AT ?_)))));exact DE (CK c b d (b.getD e.v.toNat 0) e.k k) G [0,1,2] (MZ O (by simp[Fm,i];done))
   refine Aq (B (BN (JB G (Ai 7 [0,1,53] (l (e.k.getD k K) (Jz f O))) [0,0,0,4,0,28,60,126,255,511] [(5,A (AR (CK c b d (b.getD e.v.toNat 0) e.k k) (AL c b d (e.k.getD k K))))] (CD k k (J e.k) []) (CE O Ay) λG=>BL (Bi G AB [(6,A ((k:Int)+1))] [BC ((k:Int)+1)] (BA O) λG=>?_))));exact Ce G (k+1) O O (AH 5) (ht:=by have g:(CK c b d (b.getD e.v.toNat 0) e.k (k+1):Int)=(AR (CK c b d (b.getD e.v.toNat 0) e.k k) (AL c b d (e.k.getD k K))):=(Mt O);(first|rw[g]|simp only[g])<;>rfl)
  refine Bi G AB [(5,A (c.getD e.v.toNat 0))] [(0:Int)<=e.v,e.v<(J c:Int),e.v.toNat<J c] ⟨((Lw f Ab).1),((Lw f Ab).2.1),((Lw f Ab).2.2),Ay⟩ λG=>BL (B (B (BS G AB [(2,.P 3 0),(3,.P 4 0),(4,A 0),(5,A (c.getD e.v.toNat 0)),(6,A 0)] λG=>BN ?_)));refine DR (h:=Nat) (λk=>k<=J e.k) (λk=>J e.k-k) (λk=>[W c,W b,AP e.k,.C [.N 0,.N 1,AK],.C (Bz e 2)]) (λk=>[(2,.P 3 0),(3,.P 4 0),(4,A 0),(5,A (CK c b d (c.getD e.v.toNat 0) e.k k)),(6,A k)]) 0 O (Ap.at G _ _) ?_;clear G;intro k m a w n G;have h:J e.k<=9223372036854775807:=G.len 2 (d:=.P e.k) Au;refine B (B (BS G AB [(2,.P 3 0),(3,.P 4 0),(4,A 0),(5,A (CK c b d (c.getD e.v.toNat 0) e.k k)),(6,A k),(29,AC (Y ((k:Int)<J e.k)))] λG=>DZ G (λx y=>?_) λx y=>?_))
  · refine wp_exit (Bd (Bd (DG (B (AM G AB [0,1,2] [W c,W b,AP e.k] [(4,A (CK c b d (c.getD e.v.toNat 0) e.k k))] λG=>AT ?_)))));exact DE (CK c b d (c.getD e.v.toNat 0) e.k k) G [0,1,2] (MZ O (by simp[Fm,j];done))
  refine Aq (B (BN (JB G (Ai 7 [0,1,53] (l (e.k.getD k K) (Jz f O))) [0,0,0,4,0,28,60,126,255,511] [(5,A (AR (CK c b d (c.getD e.v.toNat 0) e.k k) (AL c b d (e.k.getD k K))))] (CD k k (J e.k) []) (CE O Ay) λG=>BL (Bi G AB [(6,A ((k:Int)+1))] [BC ((k:Int)+1)] (BA O) λG=>?_))));exact Ce G (k+1) O O (AH 5) (ht:=by have g:(CK c b d (c.getD e.v.toNat 0) e.k (k+1):Int)=(AR (CK c b d (c.getD e.v.toNat 0) e.k k) (AL c b d (e.k.getD k K))):=(Mt O);(first|rw[g]|simp only[g])<;>rfl)
abbrev Od:AI:=.C [.N 0,.N 1,.v (.slice I 0 0)]
abbrev Og(e:AF)(k:Nat)(a:List (Nat×AA)):List (Nat×AA):=(27,.N 2)::(28,A (J e.k:Int))::(29,A (k:Int))::a
theorem zl(c b)(d)(l:∀e,As (J c) (J b) d e=V->AN.ok prog (CJ 104 [.agg [.N 0,.N 1,Et],Dc e 2] ([W c,W b]++Em e) (A (AL c b d e))))
    (e) (f:As (J c) (J b) (d+1) e=V):AN.ok prog (CJ 104 [.agg [.N 0,.N 1,Et],Dc e 2] ([W c,W b]++Em e) (A (AL c b (d+1) e))):=by
  refine BP 40 func104 [W c,W b,AP e.k] [(0,.agg [.N 0,.N 1,AK]),(1,Dc e 2)] λG=>?_;refine B (AM G AB [0,1,2,3,11] [W c,W b,AP e.k,Od,.C (Bz e 2)] [(2,.P 3 0),(3,.P 4 0),(4,A 0)] λG=>B (AQ G AB [(5,A 0)] λG=>B (B (AQ G AB [(9,A e.t)] λG=>BN (B (AQ G AB [(10,AC (e.t==2))] λG=>Cu G (λr j=>?_) λr j=>?_))))))
  ·
   refine B (AQ G AB [(18,AC (e.t==3))] λG=>Cu G (λp i=>?_) λp i=>?_)
   ·
    refine Aq (BL (B (B (AM G AB (AH 4) [W c,W b,AP e.k,Od] [(2,.P 3 0),(4,A 0),(5,A 0),(27,.N 2),(28,A (J e.k:Int)),(29,A 0)] λG=>BN ?_))));refine DR (h:=Nat) (λk=>k<=J e.k) (λk=>J e.k-k) (λk=>[W c,W b,AP e.k,.C [.N 0,.N 1,AK]]) (λk=>[(2,.P 3 0),(4,A 0),(5,A (CK c b d 0 e.k k)),(27,.N 2),(28,A (J e.k:Int)),(29,A k)]) 0 O (Ap.at G _ _) ?_;clear G;intro k m a w n G;have h:J e.k<=9223372036854775807:=G.len 2 (d:=.P e.k) Au;refine B (BS G AB ((2,.P 3 0)::(4,A 0)::(5,A (CK c b d 0 e.k k))::(Og e k [(30,AC (Y ((k:Int)<J e.k)))])) λG=>B (DZ G (λu s=>?_) λu s=>?_))
    · refine wp_exit (Bd (Bd (DG (B (AM G AB [0,1,2] [W c,W b,AP e.k] [(4,A (CK c b d 0 e.k k))] λG=>AT ?_)))));exact DE (CK c b d 0 e.k k) G [0,1,2] (MZ O (by simp[Fm,j,i];done))
    refine Aq (B (BN (B (CT G AB [0,1,2,3,12,20] [W c,W b,AP e.k,Od,AP (e.k.getD k K).k,.C (Bz (e.k.getD k K) 4)] ((2,.P 3 0)::(4,A 0)::(5,A (CK c b d 0 e.k k))::(7,.P 5 0)::(Og e k [])) (CD k k (J e.k) []) (CE O Ay) λG=>AM G (Ai 3 [0,1,4] (l (e.k.getD k K) (Jz f O))) (AH 4) [W c,W b,AP e.k,Od] ((2,.P 3 0)::(4,A 0)::(5,A (AR (CK c b d 0 e.k k) (AL c b d (e.k.getD k K))))::(Og e k [])) λG=>BL (Bi G AB [(29,A ((k:Int)+1))] [BC ((k:Int)+1)] (BA O) λG=>?_)))));exact Ce G (k+1) O O (AH 4) (ht:=by have g:(CK c b d 0 e.k (k+1):Int)=(AR (CK c b d 0 e.k k) (AL c b d (e.k.getD k K))):=(Mt O);(first|rw[g]|simp only[g])<;>rfl)
   refine Bi G AB [(5,A (b.getD e.v.toNat 0))] [(0:Int)<=e.v,e.v<(J b:Int),e.v.toNat<J b] ⟨((MU f Ab).1),((MU f Ab).2.1),((MU f Ab).2.2),Ay⟩ λG=>BL (B (B (AM G AB (AH 4) [W c,W b,AP e.k,Od] [(2,.P 3 0),(4,A 0),(5,A (b.getD e.v.toNat 0)),(27,.N 2),(28,A (J e.k:Int)),(29,A 0)] λG=>BN ?_)));refine DR (h:=Nat) (λk=>k<=J e.k) (λk=>J e.k-k) (λk=>[W c,W b,AP e.k,.C [.N 0,.N 1,AK]]) (λk=>[(2,.P 3 0),(4,A 0),(5,A (CK c b d (b.getD e.v.toNat 0) e.k k)),(27,.N 2),(28,A (J e.k:Int)),(29,A k)]) 0 O (Ap.at G _ _) ?_;clear G;intro k m a w n G;have h:J e.k<=9223372036854775807:=G.len 2 (d:=.P e.k) Au;refine B (BS G AB ((2,.P 3 0)::(4,A 0)::(5,A (CK c b d (b.getD e.v.toNat 0) e.k k))::(Og e k [(30,AC (Y ((k:Int)<J e.k)))])) λG=>B (DZ G (λo q=>?_) λo q=>?_))
   · refine wp_exit (Bd (Bd (DG (B (AM G AB [0,1,2] [W c,W b,AP e.k] [(4,A (CK c b d (b.getD e.v.toNat 0) e.k k))] λG=>AT ?_)))));exact DE (CK c b d (b.getD e.v.toNat 0) e.k k) G [0,1,2] (MZ O (by simp[Fm,i];done))
   refine Aq (B (BN (B (CT G AB [0,1,2,3,12,20] [W c,W b,AP e.k,Od,AP (e.k.getD k K).k,.C (Bz (e.k.getD k K) 4)] ((2,.P 3 0)::(4,A 0)::(5,A (CK c b d (b.getD e.v.toNat 0) e.k k))::(7,.P 5 0)::(Og e k [])) (CD k k (J e.k) []) (CE O Ay) λG=>AM G (Ai 3 [0,1,4] (l (e.k.getD k K) (Jz f O))) (AH 4) [W c,W b,AP e.k,Od] ((2,.P 3 0)::(4,A 0)::(5,A (AR (CK c b d (b.getD e.v.toNat 0) e.k k) (AL c b d (e.k.getD k K))))::(Og e k [])) λG=>BL (Bi G AB [(29,A ((k:Int)+1))] [BC ((k:Int)+1)] (BA O) λG=>?_)))));exact Ce G (k+1) O O (AH 4) (ht:=by have g:(CK c b d (b.getD e.v.toNat 0) e.k (k+1):Int)=(AR (CK c b d (b.getD e.v.toNat 0) e.k k) (AL c b d (e.k.getD k K))):=(Mt O);(first|rw[g]|simp only[g])<;>rfl)
  refine Bi G AB [(5,A (c.getD e.v.toNat 0))] [(0:Int)<=e.v,e.v<(J c:Int),e.v.toNat<J c] ⟨((Lw f Ab).1),((Lw f Ab).2.1),((Lw f Ab).2.2),Ay⟩ λG=>BL (B (B (AM G AB (AH 4) [W c,W b,AP e.k,Od] [(2,.P 3 0),(4,A 0),(5,A (c.getD e.v.toNat 0)),(27,.N 2),(28,A (J e.k:Int)),(29,A 0)] λG=>BN ?_)));refine DR (h:=Nat) (λk=>k<=J e.k) (λk=>J e.k-k) (λk=>[W c,W b,AP e.k,.C [.N 0,.N 1,AK]]) (λk=>[(2,.P 3 0),(4,A 0),(5,A (CK c b d (c.getD e.v.toNat 0) e.k k)),(27,.N 2),(28,A (J e.k:Int)),(29,A k)]) 0 O (Ap.at G _ _) ?_;clear G;intro k m a w n G;have h:J e.k<=9223372036854775807:=G.len 2 (d:=.P e.k) Au;refine B (BS G AB ((2,.P 3 0)::(4,A 0)::(5,A (CK c b d (c.getD e.v.toNat 0) e.k k))::(Og e k [(30,AC (Y ((k:Int)<J e.k)))])) λG=>B (DZ G (λx y=>?_) λx y=>?_))
  · refine wp_exit (Bd (Bd (DG (B (AM G AB [0,1,2] [W c,W b,AP e.k] [(4,A (CK c b d (c.getD e.v.toNat 0) e.k k))] λG=>AT ?_)))));exact DE (CK c b d (c.getD e.v.toNat 0) e.k k) G [0,1,2] (MZ O (by simp[Fm,j];done))
  refine Aq (B (BN (B (CT G AB [0,1,2,3,12,20] [W c,W b,AP e.k,Od,AP (e.k.getD k K).k,.C (Bz (e.k.getD k K) 4)] ((2,.P 3 0)::(4,A 0)::(5,A (CK c b d (c.getD e.v.toNat 0) e.k k))::(7,.P 5 0)::(Og e k [])) (CD k k (J e.k) []) (CE O Ay) λG=>AM G (Ai 3 [0,1,4] (l (e.k.getD k K) (Jz f O))) (AH 4) [W c,W b,AP e.k,Od] ((2,.P 3 0)::(4,A 0)::(5,A (AR (CK c b d (c.getD e.v.toNat 0) e.k k) (AL c b d (e.k.getD k K))))::(Og e k [])) λG=>BL (Bi G AB [(29,A ((k:Int)+1))] [BC ((k:Int)+1)] (BA O) λG=>?_)))));exact Ce G (k+1) O O (AH 4) (ht:=by have g:(CK c b d (c.getD e.v.toNat 0) e.k (k+1):Int)=(AR (CK c b d (c.getD e.v.toNat 0) e.k k) (AL c b d (e.k.getD k K))):=(Mt O);(first|rw[g]|simp only[g])<;>rfl)
theorem sI(b a):∀d e,As (J b) (J a) d e=V->AN.ok prog (CJ 139 [.agg [.N 0,.N 1,Et],Dc e 2] ([W b,W a]++Em e) (A (AL b a d e)))
 |0,_,h=>by simp[As]at h
 |d+1,e,h=>k6 b a d (sI b a d) e h
theorem rA(b a):∀d e,As (J b) (J a) d e=V->AN.ok prog (CJ 104 [.agg [.N 0,.N 1,Et],Dc e 2] ([W b,W a]++Em e) (A (AL b a d e)))
 |0,_,h=>by simp[As]at h
 |d+1,e,h=>zl b a d (rA b a d) e h
theorem Vh(e a)(b c)(d)(h:As (J e) (J a) 5 ⟨b,c,d⟩=V):AN.ok prog (CJ 139 [.agg [.N 0,.N 1,Et],.agg [A b,A c,.N 2]] [W e,W a,AP d] (A (AL e a 5 ⟨b,c,d⟩))):=sI e a 5 ⟨b,c,d⟩ h
theorem Vr(e a)(b c)(d)(h:As (J e) (J a) 5 ⟨b,c,d⟩=V):AN.ok prog (CJ 104 [.agg [.N 0,.N 1,Et],.agg [A b,A c,.N 2]] [W e,W a,AP d] (A (AL e a 5 ⟨b,c,d⟩))):=rA e a 5 ⟨b,c,d⟩ h
theorem OB(n):AN.ok prog ⟨178,[A n],[],[AP []],.agg [A 1,A n,.N 0]⟩:=by
 refine BP 5 func178 [] [(0,A n)] λG=>?_;refine B (AM G AB [0] [.C [A 0,A 0,AK]] [(0,A n),(2,.P 0 0)] λG=>B (AM G AB [0] [.C [A 1,A n,AK]] [(2,.P 0 0)] λG=>AT ?_));obtain⟨a,G⟩:=G.nil 1 0 (.P []) 9 [.C [A 1,A n,.N 1]] [(2,.P 0 0)];obtain⟨a,G⟩:=G.frz [.no,.L 0] [.C [A 1,A n,.N 1],AP []] [(2,.P 0 0)];exact Br G [1]
theorem Sy(n):AN.ok prog ⟨138,[A n],[],[AP []],.agg [A 2,A n,.N 0]⟩:=by
 refine BP 5 func138 [] [(0,A n)] λG=>?_;refine B (AM G AB [0] [.C [A 0,A 0,AK]] [(0,A n),(2,.P 0 0)] λG=>B (AM G AB [0] [.C [A 2,A n,AK]] [(2,.P 0 0)] λG=>AT ?_));obtain⟨a,G⟩:=G.nil 1 0 (.P []) 9 [.C [A 2,A n,.N 1]] [(2,.P 0 0)];obtain⟨a,G⟩:=G.frz [.no,.L 0] [.C [A 2,A n,.N 1],AP []] [(2,.P 0 0)];exact Br G [1]
theorem UN(k)(a):AN.ok prog ⟨179,[A k,.N 0],[.L 96 (.P a)],[AP a],.agg [A k,A 0,.N 0]⟩:=by
 refine BP 8 func179 [.L 96 (D.P a)] [(0,A k),(1,.N 0)] λG=>?_;refine B (AM G AB [0,1] [.L 96 (D.P a),.C [A 0,A 0,AK]] [(0,A k),(1,.N 0),(4,.P 1 0)] λG=>B (AM G AB [0,1] [.L 96 (D.P a),.C [A k,A 0,.N 0]] [(4,.P 1 0)] λG=>AT ?_));obtain⟨b,G⟩:=G.frz [.L 96] [AP a,.C [A k,A 0,.N 0]] [(4,.P 1 0)];exact Br G [0]
theorem cd(n b c)(a):AN.ok prog ⟨142,[A n,.agg [A b,A c,.N 0]],[AP a],[AP a,AP [⟨b,c,a⟩]],.agg [A 3,A n,.N 1]⟩:=by
 refine BP 9 func142 [AP a] [(0,A n),(1,.agg [A b,A c,.N 0])] λG=>?_;refine B (AM G AB [0,1,9] [AP a,.C [A b,A c,.N 0],.C [A 0,A 0,AK]] [(0,A n),(3,.P 1 0),(4,.P 2 0)] λG=>B (AM G AB [0,2,19] [AP a,.C [A 3,A n,.N 2],.L 96 (D.P ([AF.mk b c a]++[]))] [(4,.P 1 0)] λG=>AT ?_));obtain⟨d,G⟩:=G.frz [.no,.no,.L 96] [AP a,.C [A 3,A n,.N 2],AP ([AF.mk b c a]++[])] [(4,.P 1 0)];exact Br G [0,2]
theorem qg(b c)(a)(k):AN.ok prog ⟨180,[.agg [A b,A c,.N 0],A k],[AP a],[AP a,AP (GZ ⟨b,c,a⟩ k).k],.agg [A 9,A 0,.N 1]⟩:=by
 refine BP 13 func180 [AP a] [(0,.agg [A b,A c,.N 0]),(1,A k)] λG=>?_;refine B (AM G AB [0,1,9] [AP a,.C [A b,A c,.N 0],.C [A 0,A 0,AK]] [(1,A k),(2,.P 1 0),(4,.P 2 0)] λG=>B (Fr G (BH (AX 1 [] (OB 3) (AX 3 [19] (UN 7 ([AF.mk b c a]++([AF.mk 1 3 []]++[]))) (AX 5 [] (OB k) (AX 7 [51] (UN 9 ([AF.mk 7 0 ([AF.mk b c a]++([AF.mk 1 3 []]++[]))]++([AF.mk 1 k []]++[]))) BG)))) Ag []) [0,0,3,7,0,31,63,127,255] [0,2,51] [AP a,.C [A 9,A 0,.N 2],AP ([AF.mk 7 0 ([AF.mk b c a]++([AF.mk 1 3 []]++[]))]++([AF.mk 1 k []]++[]))] [(4,.P 1 0)] λG=>AT ?_));exact Br G [0,2]
theorem pr{m}{e f}(h:m<0):CU m e f=e:=AZ h
theorem uG{m}{e f}(h:¬m<0):CU m e f=QE (Gl m) e f:=AO h
theorem yj(m a b f e)(c d)(i:m<0):AN.ok prog ⟨137,[A m,.agg [A a,A b,.N 0],.agg [A f,A e,.N 1]],[AP c,AP d],[AP c,AP d],.agg [A a,A b,.N 0]⟩:=by
 refine BP 16 func137 [AP c,AP d] [(0,A m),(1,.agg [A a,A b,.N 0]),(2,.agg [A f,A e,.N 1])] λG=>?_;refine B (AM G AB [0,1,2,10,18] [AP c,AP d,.C [A a,A b,.N 0],.C [A f,A e,.N 1],.C [A 0,A 0,AK]] [(0,A m),(4,.P 2 0),(5,.P 3 0),(6,.P 4 0)] λG=>B (B (BS G AB [(0,A m),(4,.P 2 0),(5,.P 3 0),(6,.P 4 0),(8,AC (Y (m<0)))] λG=>?_)));cases g:(Y (m<0))
 ·have h:=EB g;exact False.elim O
 have h:=EC g;refine Ba G _ g (B (AM G AB (AH 5) [AP c,AP d,.C [A a,A b,.N 0],.C [A f,A e,.N 1],.C [A a,A b,.N 0]] [(0,A m),(4,.P 2 0),(5,.P 3 0),(6,.P 4 0)] λG=>AT (Ar ?_)));exact Br G [0,1]
theorem uz(m c e f d)(a b)(i:¬m<0):AN.ok prog ⟨137,[A m,.agg [A c,A e,.N 0],.agg [A f,A d,.N 1]],[AP a,AP b],[AP a,AP b,AP (QE (Gl m) ⟨c,e,a⟩ ⟨f,d,b⟩).k],.agg [A 11,A 0,.N 2]⟩:=by
 refine BP 16 func137 [AP a,AP b] [(0,A m),(1,.agg [A c,A e,.N 0]),(2,.agg [A f,A d,.N 1])] λG=>?_;refine B (AM G AB [0,1,2,10,18] [AP a,AP b,.C [A c,A e,.N 0],.C [A f,A d,.N 1],.C [A 0,A 0,AK]] [(0,A m),(4,.P 2 0),(5,.P 3 0),(6,.P 4 0)] λG=>B (B (BS G AB [(0,A m),(4,.P 2 0),(5,.P 3 0),(6,.P 4 0),(8,AC (Y (m<0)))] λG=>?_)));cases g:(Y (m<0))
 ·have h:=EB g;refine Bo G _ g (Aq (B (Fr G (BH (AX 1 [] (Sy m) (AX 5 [37] (UN 11 ([AF.mk 2 m []]++([AF.mk c e a]++([AF.mk f d b]++[])))) BG)) Ag []) [0,1,0,0,15,31,63] [0,1,4,37] [AP a,AP b,.C [A 11,A 0,.N 3],AP ([AF.mk 2 m []]++([AF.mk c e a]++([AF.mk f d b]++[])))] [(6,.P 2 0)] λG=>AT ?_)));exact Br G [0,1,3]
 have h:=EC g;exact False.elim O
theorem Wv(m c g f e)(a b):AN.ok prog ⟨137,[A m,.agg [A c,A g,.N 0],.agg [A f,A e,.N 1]],[AP a,AP b],[AP a,AP b,AP (CU m ⟨c,g,a⟩ ⟨f,e,b⟩).k],.agg [A (CU m ⟨c,g,a⟩ ⟨f,e,b⟩).t,A (CU m ⟨c,g,a⟩ ⟨f,e,b⟩).v,.N 2]⟩:=by
 by_cases j:m<0
 ·rw[pr j]
  exact AN.dupPost (S:=[AP a,AP b]) (d:=.P a) (i:=0) (yj m c g f e a b j) rfl (BR _) rfl (λl h=>by
   have h:l 2=l 0:=h
   simp only[AA.val,AA.vals,h];rfl) rfl
 rw[uG j];exact uz m c g f e a b j
theorem YI(a b)(c)(l)(e:J a<=8000000):AN.ok prog ⟨177,[.agg [.N 0,.N 1,Et,.N 2],A l],[Gm a,W b,JE c],[Gm a,W b,JE c,Gm (a++[l])],.T [.agg [.N 3,.N 1,Et,.N 2],A (J a)]⟩:=by
 refine BP 22 func177 [.L 3 (D.C a),W b,.L 98 (D.M c)] [(0,.agg [.N 0,.N 1,AK,.N 2]),(1,A l)] λG=>?_;refine B (AM G AB [0,1,2,3,11] [.L 3 (D.C a),W b,.L 98 (D.M c),.C [.N 0,.N 1,AK,.N 2],.C [AK,AK,AK,AK]] [(1,A l),(2,.P 3 0),(4,.P 4 0),(5,A 0)] λG=>B (CT G AB [0,1,2,3,4,61] [.L 3 (D.C a),W b,.L 98 (D.M c),.C [.N 5,.N 1,AK,.N 2],.C [AK,AK,AK,AK],.L 3 (D.C ([]++a++([l]++[])))] [(2,.P 3 0),(4,.P 4 0),(5,A 0)] (EP ((0:Nat)+J a) 8 (EP (([]++a).length+1) 8 [])) (EW O (EW (by simp only[Az,Bc];omega) Ay)) λG=>B (Df G AB [0,0,2,6,14,30,1,127] [0,1,2,4,5] [.L 3 (D.C a),W b,.L 98 (D.M c),.C [.N 4,.N 1,AK,.N 2],.L 3 (D.C ([]++a++([l]++[])))] [(4,.P 3 0),(5,A ((([]++a++([l]++[])).length:Int)-1))] [BC ((([]++a++([l]++[])).length:Int)-1)] ⟨(Kp (by simp only[Az,BK,Bc];omega) (by simp only[Az,BK,Bc];omega)),Ay⟩ λG=>AT ?_)));exact Cr (.T [.agg [.N 4,.N 1,AK,.N 2],A ((([]++a++([l]++[])).length:Int)-1)]) G [0,1,2,4] (by have d:((J a:Int):Int)=((([]++a++([l]++[])).length:Int)-1):=(by simp only[Az,BK,Bc];omega);(first|rw[d]|simp only[d])<;>rfl)
theorem Ug(f a)(c)(v d e)(b)(g:J c<=800000):AN.ok prog ⟨136,[.agg [.N 0,.N 1,Et,.N 2],A v,.agg [A d,A e,.N 3]],[Gm f,W a,JE c,AP b],[Gm f,W a,.E,AP b,JE (c++[Cs v ⟨d,e,b⟩])],.agg [.N 0,.N 1,Et,.N 4]⟩:=by
 refine BP 16 func136 [.L 3 (D.C f),W a,.L 98 (D.M c),AP b] [(0,.agg [.N 0,.N 1,AK,.N 2]),(1,A v),(2,.agg [A d,A e,.N 3])] λG=>?_;refine B (AM G AB [0,1,2,3,4,12,20] [.L 3 (D.C f),W a,.L 98 (D.M c),AP b,.C [.N 0,.N 1,AK,.N 2],.C [A d,A e,.N 3],.C [AK,AK,AK,AK]] [(1,A v),(3,.P 4 0),(5,.P 5 0),(6,.P 6 0)] λG=>B (CT G AB [0,1,2,3,4,6,55] [.L 3 (D.C f),W a,.E,AP b,.C [.N 0,.N 1,AK,.N 6],.C [AK,AK,AK,AK],.L 98 (D.M (c++([AG.mk 1 v (AF.mk 0 0 []) (AF.mk d e b) 0 [] []]++[])))] [(3,.P 4 0),(6,.P 5 0)] (EP (J c+1) 152 []) (EW O Ay) λG=>B (AM G AB [0,1,2,3,5,6] [.L 3 (D.C f),W a,.E,AP b,.C [.N 0,.N 1,AK,.N 5],.L 98 (D.M (c++([AG.mk 1 v (AF.mk 0 0 []) (AF.mk d e b) 0 [] []]++[])))] [(6,.P 4 0)] λG=>AT ?_)));exact Br G [0,1,2,3,5]
end Go.Proofs.YtfbeblgnjeokaaaGreat
